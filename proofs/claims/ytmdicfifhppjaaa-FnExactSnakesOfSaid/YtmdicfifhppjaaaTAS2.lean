/-
Pure functions and what the code of them does, by program; without conditions.
-/
import Derived.Test.YtmdicfifhppjaaaTAP2
import Derived.Test.YtmdicfifhppjaaaTAS1
namespace Go.Proofs.Ytmdicfifhppjaaa
open Go Go.Lv Go.Lv.P Go.Proofs
set_option linter.unusedVariables false
set_option linter.unusedSimpArgs false
set_option maxRecDepth 100000
/-! loop.example/g01194/impl.MovesBetween -/
noncomputable def impl_MovesBetween_tab (F : Nat) : Tab := [(66, (impl_IsBoard_ent F)), (67, (impl_Board_sum_ent F))]
theorem impl_MovesBetween_tabok (F : Nat) : TabOK Try.prog (impl_MovesBetween_tab F) := (tab_cons (impl_IsBoard_meets F) impl_IsBoard_fok (tab_cons (impl_Board_sum_meets F) impl_Board_sum_fok tab_nil))
noncomputable def impl_MovesBetween_LS0 (F : Nat) : LT := []
theorem impl_MovesBetween_lsok0 (F : Nat) : LoopsOK Try.prog (impl_MovesBetween_LS0 F) (bodyOf Try.f24) := loopsOK_nil
theorem impl_MovesBetween_run (F : Nat) (a0 : List Int) (b1 : List Int) : runS tt (impl_MovesBetween_tab F) (impl_MovesBetween_LS0 F) [] [] Try.f24 (bodyOf Try.f24) 70 [(.ints 16 a0), (.ints 16 b1)] [] = impl_MovesBetween_c _ F a0 b1 (fun r => some ⟨(.tup [(.int .i64 r.1), (.int .i64 r.2.1), (.bool r.2.2)]), [], []⟩) := by kernel_rfl
def impl_MovesBetween_ent (F : Nat) : Ent := ⟨[], .quiet, fun args mem => match args, mem with
  | [(.ints 16 a0), (.ints 16 b1)], [] => some ((impl_MovesBetween_p F a0 b1).isSome, ⟨(.tup [(.int .i64 ((impl_MovesBetween_p F a0 b1).getD default).1), (.int .i64 ((impl_MovesBetween_p F a0 b1).getD default).2.1), (.bool ((impl_MovesBetween_p F a0 b1).getD default).2.2)]), [], []⟩)
  | _, _ => none⟩
theorem impl_MovesBetween_fok : FunOK Try.prog 24 := funOK Try.func24 (by kernel_rfl) rfl
theorem impl_MovesBetween_meets (F : Nat) : Meets Try.prog 24 (impl_MovesBetween_ent F) := by
  refine meets_of_runS mixed ttok deep (impl_MovesBetween_tabok F) Try.func24 (body_some rfl) (impl_MovesBetween_lsok0 F) fun args mem hfit ret h => ?_
  clear hfit
  simp only [impl_MovesBetween_ent] at h
  split at h
  · rename_i a0 b1
    simp only [Option.some.injEq, Prod.mk.injEq] at h
    obtain ⟨hc, rfl⟩ := h
    exact ⟨[], [], 70, _, (impl_MovesBetween_run F a0 b1).trans ((impl_MovesBetween_cp _ F a0 b1 _).trans (bind_use hc _)), rfl, rfl, rfl⟩
  · cases h

/-! loop.example/g01194/laws.FnExactMovesBetween -/
noncomputable def laws_FnExactMovesBetween_tab (F : Nat) : Tab := [(21, (laws_toBoard_ent F)), (23, (spec_MovesBetween_ent F)), (24, (impl_MovesBetween_ent F))]
theorem laws_FnExactMovesBetween_tabok (F : Nat) : TabOK Try.prog (laws_FnExactMovesBetween_tab F) := (tab_cons (laws_toBoard_meets F) laws_toBoard_fok (tab_cons (spec_MovesBetween_meets F) spec_MovesBetween_fok (tab_cons (impl_MovesBetween_meets F) impl_MovesBetween_fok tab_nil)))
noncomputable def laws_FnExactMovesBetween_LS0 (F : Nat) : LT := []
theorem laws_FnExactMovesBetween_lsok0 (F : Nat) : LoopsOK Try.prog (laws_FnExactMovesBetween_LS0 F) (bodyOf Try.f6) := loopsOK_nil
theorem laws_FnExactMovesBetween_run (F : Nat) (aA0 : List Int) (aB1 : List Int) : runS tt (laws_FnExactMovesBetween_tab F) (laws_FnExactMovesBetween_LS0 F) [] [] Try.f6 (bodyOf Try.f6) 70 [(.ints 16 aA0), (.ints 16 aB1)] [] = laws_FnExactMovesBetween_c _ F aA0 aB1 (fun r => some ⟨(.bool r), [], []⟩) := by kernel_rfl
def laws_FnExactMovesBetween_ent (F : Nat) : Ent := ⟨[], .quiet, fun args mem => match args, mem with
  | [(.ints 16 aA0), (.ints 16 aB1)], [] => some ((laws_FnExactMovesBetween_p F aA0 aB1).isSome, ⟨(.bool ((laws_FnExactMovesBetween_p F aA0 aB1).getD default)), [], []⟩)
  | _, _ => none⟩
theorem laws_FnExactMovesBetween_fok : FunOK Try.prog 6 := funOK Try.func6 (by kernel_rfl) rfl
theorem laws_FnExactMovesBetween_meets (F : Nat) : Meets Try.prog 6 (laws_FnExactMovesBetween_ent F) := by
  refine meets_of_runS mixed ttok deep (laws_FnExactMovesBetween_tabok F) Try.func6 (body_some rfl) (laws_FnExactMovesBetween_lsok0 F) fun args mem hfit ret h => ?_
  clear hfit
  simp only [laws_FnExactMovesBetween_ent] at h
  split at h
  · rename_i aA0 aB1
    simp only [Option.some.injEq, Prod.mk.injEq] at h
    obtain ⟨hc, rfl⟩ := h
    exact ⟨[], [], 70, _, (laws_FnExactMovesBetween_run F aA0 aB1).trans ((laws_FnExactMovesBetween_cp _ F aA0 aB1 _).trans (bind_use hc _)), rfl, rfl, rfl⟩
  · cases h

/-! loop.example/g01194/spec.HighestFor -/
noncomputable def spec_HighestFor_tab (F : Nat) : Tab := [(57, (spec_l7Sum_ent F)), (53, (spec_l7Least_ent F))]
theorem spec_HighestFor_tabok (F : Nat) : TabOK Try.prog (spec_HighestFor_tab F) := (tab_cons (spec_l7Sum_meets F) spec_l7Sum_fok (tab_cons (spec_l7Least_meets F) spec_l7Least_fok tab_nil))
noncomputable def spec_HighestFor_LS0 (F : Nat) : LT := []
theorem spec_HighestFor_lsok0 (F : Nat) : LoopsOK Try.prog (spec_HighestFor_LS0 F) (bodyOf Try.f25) := loopsOK_nil
theorem spec_HighestFor_run (F : Nat) (sum0 : Int) : runS tt (spec_HighestFor_tab F) (spec_HighestFor_LS0 F) [] [] Try.f25 (bodyOf Try.f25) 70 [(.int .i64 sum0)] [] = spec_HighestFor_c _ F sum0 (fun r => some ⟨(.tup [(.int .i64 r.1), (.bool r.2)]), [], []⟩) := by kernel_rfl
def spec_HighestFor_ent (F : Nat) : Ent := ⟨[], .quiet, fun args mem => match args, mem with
  | [(.int .i64 sum0)], [] => some ((spec_HighestFor_p F sum0).isSome, ⟨(.tup [(.int .i64 ((spec_HighestFor_p F sum0).getD default).1), (.bool ((spec_HighestFor_p F sum0).getD default).2)]), [], []⟩)
  | _, _ => none⟩
theorem spec_HighestFor_fok : FunOK Try.prog 25 := funOK Try.func25 (by kernel_rfl) rfl
theorem spec_HighestFor_meets (F : Nat) : Meets Try.prog 25 (spec_HighestFor_ent F) := by
  refine meets_of_runS mixed ttok deep (spec_HighestFor_tabok F) Try.func25 (body_some rfl) (spec_HighestFor_lsok0 F) fun args mem hfit ret h => ?_
  clear hfit
  simp only [spec_HighestFor_ent] at h
  split at h
  · rename_i sum0
    simp only [Option.some.injEq, Prod.mk.injEq] at h
    obtain ⟨hc, rfl⟩ := h
    exact ⟨[], [], 70, _, (spec_HighestFor_run F sum0).trans ((spec_HighestFor_cp _ F sum0 _).trans (bind_use hc _)), rfl, rfl, rfl⟩
  · cases h

/-! loop.example/g01194/laws.toIntA3 -/
noncomputable def laws_toIntA3_tab (F : Nat) : Tab := []
theorem laws_toIntA3_tabok (F : Nat) : TabOK Try.prog (laws_toIntA3_tab F) := tab_nil
noncomputable def laws_toIntA3_LS0 (F : Nat) : LT := []
theorem laws_toIntA3_lsok0 (F : Nat) : LoopsOK Try.prog (laws_toIntA3_LS0 F) (bodyOf Try.f28) := loopsOK_nil
theorem laws_toIntA3_run (F : Nat) (a0 : List Int) : runS tt (laws_toIntA3_tab F) (laws_toIntA3_LS0 F) [] [] Try.f28 (bodyOf Try.f28) 70 [(.ints 3 a0)] [] = laws_toIntA3_c _ a0 (fun r => some ⟨(.ints 3 r), [], []⟩) := by kernel_rfl
def laws_toIntA3_ent (F : Nat) : Ent := ⟨[], .quiet, fun args mem => match args, mem with
  | [(.ints 3 a0)], [] => some (true, ⟨(.ints 3 (laws_toIntA3_v a0)), [], []⟩)
  | _, _ => none⟩
theorem laws_toIntA3_fok : FunOK Try.prog 28 := funOK Try.func28 (by kernel_rfl) rfl
theorem laws_toIntA3_meets (F : Nat) : Meets Try.prog 28 (laws_toIntA3_ent F) := by
  refine meets_of_runS mixed ttok deep (laws_toIntA3_tabok F) Try.func28 (body_some rfl) (laws_toIntA3_lsok0 F) fun args mem hfit ret h => ?_
  clear hfit
  simp only [laws_toIntA3_ent] at h
  split at h
  · rename_i a0
    simp only [Option.some.injEq, Prod.mk.injEq] at h
    obtain ⟨hc, rfl⟩ := h
    exact ⟨[], [], 70, _, (laws_toIntA3_run F a0).trans (laws_toIntA3_cv _ a0 _), rfl, rfl, rfl⟩
  · cases h

/-! loop.example/g01194/spec.l2Cell -/
noncomputable def spec_l2Cell_tab (F : Nat) : Tab := [(52, (spec_l1In_ent F))]
theorem spec_l2Cell_tabok (F : Nat) : TabOK Try.prog (spec_l2Cell_tab F) := (tab_cons (spec_l1In_meets F) spec_l1In_fok tab_nil)
noncomputable def spec_l2Cell_LS0 (F : Nat) : LT := []
theorem spec_l2Cell_lsok0 (F : Nat) : LoopsOK Try.prog (spec_l2Cell_LS0 F) (bodyOf Try.f99) := loopsOK_nil
theorem spec_l2Cell_run (F : Nat) (cell0 : List Int) : runS tt (spec_l2Cell_tab F) (spec_l2Cell_LS0 F) [] [] Try.f99 (bodyOf Try.f99) 70 [(.ints 2 cell0)] [] = spec_l2Cell_c _ cell0 (fun r => some ⟨(.bool r), [], []⟩) := by kernel_rfl
def spec_l2Cell_ent (F : Nat) : Ent := ⟨[], .quiet, fun args mem => match args, mem with
  | [(.ints 2 cell0)], [] => some (true, ⟨(.bool (spec_l2Cell_v cell0)), [], []⟩)
  | _, _ => none⟩
theorem spec_l2Cell_fok : FunOK Try.prog 99 := funOK Try.func99 (by kernel_rfl) rfl
theorem spec_l2Cell_meets (F : Nat) : Meets Try.prog 99 (spec_l2Cell_ent F) := by
  refine meets_of_runS mixed ttok deep (spec_l2Cell_tabok F) Try.func99 (body_some rfl) (spec_l2Cell_lsok0 F) fun args mem hfit ret h => ?_
  clear hfit
  simp only [spec_l2Cell_ent] at h
  split at h
  · rename_i cell0
    simp only [Option.some.injEq, Prod.mk.injEq] at h
    obtain ⟨hc, rfl⟩ := h
    exact ⟨[], [], 70, _, (spec_l2Cell_run F cell0).trans (spec_l2Cell_cv _ cell0 _), rfl, rfl, rfl⟩
  · cases h

/-! loop.example/g01194/spec.l2At -/
noncomputable def spec_l2At_tab (F : Nat) : Tab := []
theorem spec_l2At_tabok (F : Nat) : TabOK Try.prog (spec_l2At_tab F) := tab_nil
noncomputable def spec_l2At_LS0 (F : Nat) : LT := []
theorem spec_l2At_lsok0 (F : Nat) : LoopsOK Try.prog (spec_l2At_LS0 F) (bodyOf Try.f100) := loopsOK_nil
theorem spec_l2At_run (F : Nat) (b0 : List Int) (cell1 : List Int) : runS tt (spec_l2At_tab F) (spec_l2At_LS0 F) [] [] Try.f100 (bodyOf Try.f100) 70 [(.ints 16 b0), (.ints 2 cell1)] [] = spec_l2At_c _ b0 cell1 (fun r => some ⟨(.int .i64 r), [], []⟩) := by kernel_rfl
def spec_l2At_ent (F : Nat) : Ent := ⟨[], .quiet, fun args mem => match args, mem with
  | [(.ints 16 b0), (.ints 2 cell1)], [] => some ((spec_l2At_p b0 cell1).isSome, ⟨(.int .i64 ((spec_l2At_p b0 cell1).getD default)), [], []⟩)
  | _, _ => none⟩
theorem spec_l2At_fok : FunOK Try.prog 100 := funOK Try.func100 (by kernel_rfl) rfl
theorem spec_l2At_meets (F : Nat) : Meets Try.prog 100 (spec_l2At_ent F) := by
  refine meets_of_runS mixed ttok deep (spec_l2At_tabok F) Try.func100 (body_some rfl) (spec_l2At_lsok0 F) fun args mem hfit ret h => ?_
  clear hfit
  simp only [spec_l2At_ent] at h
  split at h
  · rename_i b0 cell1
    simp only [Option.some.injEq, Prod.mk.injEq] at h
    obtain ⟨hc, rfl⟩ := h
    exact ⟨[], [], 70, _, (spec_l2At_run F b0 cell1).trans ((spec_l2At_cp _ b0 cell1 _).trans (bind_use hc _)), rfl, rfl, rfl⟩
  · cases h

/-! loop.example/g01194/spec.l8Can -/
noncomputable def spec_l8Can_tab (F : Nat) : Tab := [(99, (spec_l2Cell_ent F)), (52, (spec_l1In_ent F)), (100, (spec_l2At_ent F))]
theorem spec_l8Can_tabok (F : Nat) : TabOK Try.prog (spec_l8Can_tab F) := (tab_cons (spec_l2Cell_meets F) spec_l2Cell_fok (tab_cons (spec_l1In_meets F) spec_l1In_fok (tab_cons (spec_l2At_meets F) spec_l2At_fok tab_nil)))
noncomputable def spec_l8Can_LS0 (F : Nat) : LT := []
theorem spec_l8Can_lsok0 (F : Nat) : LoopsOK Try.prog (spec_l8Can_LS0 F) (bodyOf Try.f69) := loopsOK_nil
theorem spec_l8Can_run (F : Nat) (b0 : List Int) (p1 : List Int) : runS tt (spec_l8Can_tab F) (spec_l8Can_LS0 F) [] [] Try.f69 (bodyOf Try.f69) 70 [(.ints 16 b0), (.ints 3 p1)] [] = spec_l8Can_c _ b0 p1 (fun r => some ⟨(.bool r), [], []⟩) := by kernel_rfl
def spec_l8Can_ent (F : Nat) : Ent := ⟨[], .quiet, fun args mem => match args, mem with
  | [(.ints 16 b0), (.ints 3 p1)], [] => some ((spec_l8Can_p b0 p1).isSome, ⟨(.bool ((spec_l8Can_p b0 p1).getD default)), [], []⟩)
  | _, _ => none⟩
theorem spec_l8Can_fok : FunOK Try.prog 69 := funOK Try.func69 (by kernel_rfl) rfl
theorem spec_l8Can_meets (F : Nat) : Meets Try.prog 69 (spec_l8Can_ent F) := by
  refine meets_of_runS mixed ttok deep (spec_l8Can_tabok F) Try.func69 (body_some rfl) (spec_l8Can_lsok0 F) fun args mem hfit ret h => ?_
  clear hfit
  simp only [spec_l8Can_ent] at h
  split at h
  · rename_i b0 p1
    simp only [Option.some.injEq, Prod.mk.injEq] at h
    obtain ⟨hc, rfl⟩ := h
    exact ⟨[], [], 70, _, (spec_l8Can_run F b0 p1).trans ((spec_l8Can_cp _ b0 p1 _).trans (bind_use hc _)), rfl, rfl, rfl⟩
  · cases h

/-! loop.example/g01194/spec.l2Put -/
noncomputable def spec_l2Put_tab (F : Nat) : Tab := []
theorem spec_l2Put_tabok (F : Nat) : TabOK Try.prog (spec_l2Put_tab F) := tab_nil
noncomputable def spec_l2Put_LS0 (F : Nat) : LT := []
theorem spec_l2Put_lsok0 (F : Nat) : LoopsOK Try.prog (spec_l2Put_LS0 F) (bodyOf Try.f81) := loopsOK_nil
theorem spec_l2Put_run (F : Nat) (b0 : List Int) (cell1 : List Int) (t2 : Int) : runS tt (spec_l2Put_tab F) (spec_l2Put_LS0 F) [] [] Try.f81 (bodyOf Try.f81) 70 [(.ints 16 b0), (.ints 2 cell1), (.int .i64 t2)] [] = spec_l2Put_c _ b0 cell1 t2 (fun r => some ⟨(.ints 16 r), [], []⟩) := by kernel_rfl
def spec_l2Put_ent (F : Nat) : Ent := ⟨[], .quiet, fun args mem => match args, mem with
  | [(.ints 16 b0), (.ints 2 cell1), (.int .i64 t2)], [] => some ((spec_l2Put_p b0 cell1 t2).isSome, ⟨(.ints 16 ((spec_l2Put_p b0 cell1 t2).getD default)), [], []⟩)
  | _, _ => none⟩
theorem spec_l2Put_fok : FunOK Try.prog 81 := funOK Try.func81 (by kernel_rfl) rfl
theorem spec_l2Put_meets (F : Nat) : Meets Try.prog 81 (spec_l2Put_ent F) := by
  refine meets_of_runS mixed ttok deep (spec_l2Put_tabok F) Try.func81 (body_some rfl) (spec_l2Put_lsok0 F) fun args mem hfit ret h => ?_
  clear hfit
  simp only [spec_l2Put_ent] at h
  split at h
  · rename_i b0 cell1 t2
    simp only [Option.some.injEq, Prod.mk.injEq] at h
    obtain ⟨hc, rfl⟩ := h
    exact ⟨[], [], 70, _, (spec_l2Put_run F b0 cell1 t2).trans ((spec_l2Put_cp _ b0 cell1 t2 _).trans (bind_use hc _)), rfl, rfl, rfl⟩
  · cases h

/-! loop.example/g01194/spec.l8Put -/
noncomputable def spec_l8Put_tab (F : Nat) : Tab := [(81, (spec_l2Put_ent F))]
theorem spec_l8Put_tabok (F : Nat) : TabOK Try.prog (spec_l8Put_tab F) := (tab_cons (spec_l2Put_meets F) spec_l2Put_fok tab_nil)
noncomputable def spec_l8Put_LS0 (F : Nat) : LT := []
theorem spec_l8Put_lsok0 (F : Nat) : LoopsOK Try.prog (spec_l8Put_LS0 F) (bodyOf Try.f70) := loopsOK_nil
theorem spec_l8Put_run (F : Nat) (b0 : List Int) (p1 : List Int) : runS tt (spec_l8Put_tab F) (spec_l8Put_LS0 F) [] [] Try.f70 (bodyOf Try.f70) 70 [(.ints 16 b0), (.ints 3 p1)] [] = spec_l8Put_c _ b0 p1 (fun r => some ⟨(.ints 16 r), [], []⟩) := by kernel_rfl
def spec_l8Put_ent (F : Nat) : Ent := ⟨[], .quiet, fun args mem => match args, mem with
  | [(.ints 16 b0), (.ints 3 p1)], [] => some ((spec_l8Put_p b0 p1).isSome, ⟨(.ints 16 ((spec_l8Put_p b0 p1).getD default)), [], []⟩)
  | _, _ => none⟩
theorem spec_l8Put_fok : FunOK Try.prog 70 := funOK Try.func70 (by kernel_rfl) rfl
theorem spec_l8Put_meets (F : Nat) : Meets Try.prog 70 (spec_l8Put_ent F) := by
  refine meets_of_runS mixed ttok deep (spec_l8Put_tabok F) Try.func70 (body_some rfl) (spec_l8Put_lsok0 F) fun args mem hfit ret h => ?_
  clear hfit
  simp only [spec_l8Put_ent] at h
  split at h
  · rename_i b0 p1
    simp only [Option.some.injEq, Prod.mk.injEq] at h
    obtain ⟨hc, rfl⟩ := h
    exact ⟨[], [], 70, _, (spec_l8Put_run F b0 p1).trans ((spec_l8Put_cp _ b0 p1 _).trans (bind_use hc _)), rfl, rfl, rfl⟩
  · cases h

/-! loop.example/g01194/spec.PlaceTile -/
noncomputable def spec_PlaceTile_tab (F : Nat) : Tab := [(64, (spec_l2Board_ent F)), (69, (spec_l8Can_ent F)), (70, (spec_l8Put_ent F))]
theorem spec_PlaceTile_tabok (F : Nat) : TabOK Try.prog (spec_PlaceTile_tab F) := (tab_cons (spec_l2Board_meets F) spec_l2Board_fok (tab_cons (spec_l8Can_meets F) spec_l8Can_fok (tab_cons (spec_l8Put_meets F) spec_l8Put_fok tab_nil)))
noncomputable def spec_PlaceTile_LS0 (F : Nat) : LT := []
theorem spec_PlaceTile_lsok0 (F : Nat) : LoopsOK Try.prog (spec_PlaceTile_LS0 F) (bodyOf Try.f27) := loopsOK_nil
theorem spec_PlaceTile_run (F : Nat) (b0 : List Int) (p1 : List Int) : runS tt (spec_PlaceTile_tab F) (spec_PlaceTile_LS0 F) [] [] Try.f27 (bodyOf Try.f27) 70 [(.ints 16 b0), (.ints 3 p1)] [] = spec_PlaceTile_c _ F b0 p1 (fun r => some ⟨(.tup [(.ints 16 r.1), (.bool r.2)]), [], []⟩) := by kernel_rfl
def spec_PlaceTile_ent (F : Nat) : Ent := ⟨[], .quiet, fun args mem => match args, mem with
  | [(.ints 16 b0), (.ints 3 p1)], [] => some ((spec_PlaceTile_p F b0 p1).isSome, ⟨(.tup [(.ints 16 ((spec_PlaceTile_p F b0 p1).getD default).1), (.bool ((spec_PlaceTile_p F b0 p1).getD default).2)]), [], []⟩)
  | _, _ => none⟩
theorem spec_PlaceTile_fok : FunOK Try.prog 27 := funOK Try.func27 (by kernel_rfl) rfl
theorem spec_PlaceTile_meets (F : Nat) : Meets Try.prog 27 (spec_PlaceTile_ent F) := by
  refine meets_of_runS mixed ttok deep (spec_PlaceTile_tabok F) Try.func27 (body_some rfl) (spec_PlaceTile_lsok0 F) fun args mem hfit ret h => ?_
  clear hfit
  simp only [spec_PlaceTile_ent] at h
  split at h
  · rename_i b0 p1
    simp only [Option.some.injEq, Prod.mk.injEq] at h
    obtain ⟨hc, rfl⟩ := h
    exact ⟨[], [], 70, _, (spec_PlaceTile_run F b0 p1).trans ((spec_PlaceTile_cp _ F b0 p1 _).trans (bind_use hc _)), rfl, rfl, rfl⟩
  · cases h

/-! loop.example/g01194/impl.isCell -/
noncomputable def impl_isCell_tab (F : Nat) : Tab := [(55, (impl_in_ent F))]
theorem impl_isCell_tabok (F : Nat) : TabOK Try.prog (impl_isCell_tab F) := (tab_cons (impl_in_meets F) impl_in_fok tab_nil)
noncomputable def impl_isCell_LS0 (F : Nat) : LT := []
theorem impl_isCell_lsok0 (F : Nat) : LoopsOK Try.prog (impl_isCell_LS0 F) (bodyOf Try.f101) := loopsOK_nil
theorem impl_isCell_run (F : Nat) (cell0 : List Int) : runS tt (impl_isCell_tab F) (impl_isCell_LS0 F) [] [] Try.f101 (bodyOf Try.f101) 70 [(.ints 2 cell0)] [] = impl_isCell_c _ cell0 (fun r => some ⟨(.bool r), [], []⟩) := by kernel_rfl
def impl_isCell_ent (F : Nat) : Ent := ⟨[], .quiet, fun args mem => match args, mem with
  | [(.ints 2 cell0)], [] => some (true, ⟨(.bool (impl_isCell_v cell0)), [], []⟩)
  | _, _ => none⟩
theorem impl_isCell_fok : FunOK Try.prog 101 := funOK Try.func101 (by kernel_rfl) rfl
theorem impl_isCell_meets (F : Nat) : Meets Try.prog 101 (impl_isCell_ent F) := by
  refine meets_of_runS mixed ttok deep (impl_isCell_tabok F) Try.func101 (body_some rfl) (impl_isCell_lsok0 F) fun args mem hfit ret h => ?_
  clear hfit
  simp only [impl_isCell_ent] at h
  split at h
  · rename_i cell0
    simp only [Option.some.injEq, Prod.mk.injEq] at h
    obtain ⟨hc, rfl⟩ := h
    exact ⟨[], [], 70, _, (impl_isCell_run F cell0).trans (impl_isCell_cv _ cell0 _), rfl, rfl, rfl⟩
  · cases h

/-! loop.example/g01194/impl.PutTile -/
noncomputable def impl_PutTile_tab (F : Nat) : Tab := [(66, (impl_IsBoard_ent F)), (101, (impl_isCell_ent F)), (55, (impl_in_ent F)), (83, (impl_Board_at_ent F))]
theorem impl_PutTile_tabok (F : Nat) : TabOK Try.prog (impl_PutTile_tab F) := (tab_cons (impl_IsBoard_meets F) impl_IsBoard_fok (tab_cons (impl_isCell_meets F) impl_isCell_fok (tab_cons (impl_in_meets F) impl_in_fok (tab_cons (impl_Board_at_meets F) impl_Board_at_fok tab_nil))))
noncomputable def impl_PutTile_LS0 (F : Nat) : LT := []
theorem impl_PutTile_lsok0 (F : Nat) : LoopsOK Try.prog (impl_PutTile_LS0 F) (bodyOf Try.f71) := loopsOK_nil
theorem impl_PutTile_run (F : Nat) (b0 : List Int) (cell1 : List Int) (t2 : Int) : runS tt (impl_PutTile_tab F) (impl_PutTile_LS0 F) [] [] Try.f71 (bodyOf Try.f71) 70 [(.ints 16 b0), (.ints 2 cell1), (.int .i64 t2)] [] = impl_PutTile_c _ F b0 cell1 t2 (fun r => some ⟨(.tup [(.ints 16 r.1), (.bool r.2)]), [], []⟩) := by kernel_rfl
def impl_PutTile_ent (F : Nat) : Ent := ⟨[], .quiet, fun args mem => match args, mem with
  | [(.ints 16 b0), (.ints 2 cell1), (.int .i64 t2)], [] => some ((impl_PutTile_p F b0 cell1 t2).isSome, ⟨(.tup [(.ints 16 ((impl_PutTile_p F b0 cell1 t2).getD default).1), (.bool ((impl_PutTile_p F b0 cell1 t2).getD default).2)]), [], []⟩)
  | _, _ => none⟩
theorem impl_PutTile_fok : FunOK Try.prog 71 := funOK Try.func71 (by kernel_rfl) rfl
theorem impl_PutTile_meets (F : Nat) : Meets Try.prog 71 (impl_PutTile_ent F) := by
  refine meets_of_runS mixed ttok deep (impl_PutTile_tabok F) Try.func71 (body_some rfl) (impl_PutTile_lsok0 F) fun args mem hfit ret h => ?_
  clear hfit
  simp only [impl_PutTile_ent] at h
  split at h
  · rename_i b0 cell1 t2
    simp only [Option.some.injEq, Prod.mk.injEq] at h
    obtain ⟨hc, rfl⟩ := h
    exact ⟨[], [], 70, _, (impl_PutTile_run F b0 cell1 t2).trans ((impl_PutTile_cp _ F b0 cell1 t2 _).trans (bind_use hc _)), rfl, rfl, rfl⟩
  · cases h

/-! loop.example/g01194/impl.PlaceTile -/
noncomputable def impl_PlaceTile_tab (F : Nat) : Tab := [(55, (impl_in_ent F)), (71, (impl_PutTile_ent F))]
theorem impl_PlaceTile_tabok (F : Nat) : TabOK Try.prog (impl_PlaceTile_tab F) := (tab_cons (impl_in_meets F) impl_in_fok (tab_cons (impl_PutTile_meets F) impl_PutTile_fok tab_nil))
noncomputable def impl_PlaceTile_LS0 (F : Nat) : LT := []
theorem impl_PlaceTile_lsok0 (F : Nat) : LoopsOK Try.prog (impl_PlaceTile_LS0 F) (bodyOf Try.f29) := loopsOK_nil
theorem impl_PlaceTile_run (F : Nat) (b0 : List Int) (p1 : List Int) : runS tt (impl_PlaceTile_tab F) (impl_PlaceTile_LS0 F) [] [] Try.f29 (bodyOf Try.f29) 70 [(.ints 16 b0), (.ints 3 p1)] [] = impl_PlaceTile_c _ F b0 p1 (fun r => some ⟨(.tup [(.ints 16 r.1), (.bool r.2)]), [], []⟩) := by kernel_rfl
def impl_PlaceTile_ent (F : Nat) : Ent := ⟨[], .quiet, fun args mem => match args, mem with
  | [(.ints 16 b0), (.ints 3 p1)], [] => some ((impl_PlaceTile_p F b0 p1).isSome, ⟨(.tup [(.ints 16 ((impl_PlaceTile_p F b0 p1).getD default).1), (.bool ((impl_PlaceTile_p F b0 p1).getD default).2)]), [], []⟩)
  | _, _ => none⟩
theorem impl_PlaceTile_fok : FunOK Try.prog 29 := funOK Try.func29 (by kernel_rfl) rfl
theorem impl_PlaceTile_meets (F : Nat) : Meets Try.prog 29 (impl_PlaceTile_ent F) := by
  refine meets_of_runS mixed ttok deep (impl_PlaceTile_tabok F) Try.func29 (body_some rfl) (impl_PlaceTile_lsok0 F) fun args mem hfit ret h => ?_
  clear hfit
  simp only [impl_PlaceTile_ent] at h
  split at h
  · rename_i b0 p1
    simp only [Option.some.injEq, Prod.mk.injEq] at h
    obtain ⟨hc, rfl⟩ := h
    exact ⟨[], [], 70, _, (impl_PlaceTile_run F b0 p1).trans ((impl_PlaceTile_cp _ F b0 p1 _).trans (bind_use hc _)), rfl, rfl, rfl⟩
  · cases h

/-! loop.example/g01194/laws.eqIntA4 -/
noncomputable def laws_eqIntA4_tab (F : Nat) : Tab := []
theorem laws_eqIntA4_tabok (F : Nat) : TabOK Try.prog (laws_eqIntA4_tab F) := tab_nil
noncomputable def laws_eqIntA4_LS0 (F : Nat) : LT := []
theorem laws_eqIntA4_lsok0 (F : Nat) : LoopsOK Try.prog (laws_eqIntA4_LS0 F) (bodyOf Try.f102) := loopsOK_nil
theorem laws_eqIntA4_keys : keysOK (bodyOf Try.f102) = true := by kernel_rfl
def laws_eqIntA4_st2 (a7 : List Int) (b8 : List Int) (i6 : Int) : St := ⟨expand 17 0 [2, 3, 5] [(.ptr 0 0 0 4), (.ptr 1 0 0 4), (.int .i64 i6)], [(.var 4 (.ri .i64 a7)), (.var 4 (.ri .i64 b8))], 0, []⟩
def laws_eqIntA4_o2 (a7 : List Int) (b8 : List Int) (x : Bool) : GT := (.br x (.out (.ret ⟨expand 17 0 [4] [(.bool false)], [], 0, []⟩)) (.out (.exit 0 ⟨expand 17 0 [] [], [], 0, []⟩)))
def laws_eqIntA4_ls2 (F : Nat) : LoopS := ⟨17, [2, 3, 5], [], [], [], [4], [], [], fun vals mem np killed => match vals, mem, np, killed with
  | [(.ptr 0 0 0 4), (.ptr 1 0 0 4), (.int .i64 i6)], [(.var 4 (.ri .i64 a7)), (.var 4 (.ri .i64 b8))], 0, [] => .br (laws_eqIntA4_l2 F a7 b8 i6).isSome (laws_eqIntA4_o2 a7 b8 ((laws_eqIntA4_l2 F a7 b8 i6).getD default)) .fail
  | _, _, _, _ => .fail⟩
theorem laws_eqIntA4_step2 (F : Nat) (a7 : List Int) (b8 : List Int) (i6 : Int) {R : Type} (k : Out → Option R) : stepS tt (laws_eqIntA4_tab F) (laws_eqIntA4_LS0 F) 70 (laws_eqIntA4_ls2 F) (loopAt 2 (bodyOf Try.f102)) (laws_eqIntA4_st2 a7 b8 i6) k = laws_eqIntA4_s2 F a7 b8 R i6 (fun s => k (.norm (laws_eqIntA4_st2 a7 b8 s))) (fun x => (laws_eqIntA4_o2 a7 b8 x).run k) := by kernel_rfl
theorem laws_eqIntA4_iter2 (F : Nat) (a7 : List Int) (b8 : List Int) {R : Type} (k : Out → Option R) : ∀ (n : Nat) (i6 : Int), iterS tt (laws_eqIntA4_tab F) (laws_eqIntA4_LS0 F) 70 (laws_eqIntA4_ls2 F) (loopAt 2 (bodyOf Try.f102)) n (laws_eqIntA4_st2 a7 b8 i6) k = loopC (laws_eqIntA4_s2 F a7 b8) n i6 (fun x => (laws_eqIntA4_o2 a7 b8 x).run k)
  | 0, i6 => rfl
  | n + 1, i6 => (iterS_succ tt (laws_eqIntA4_tab F) (laws_eqIntA4_LS0 F) 70 (laws_eqIntA4_ls2 F) (loopAt 2 (bodyOf Try.f102)) n (laws_eqIntA4_st2 a7 b8 i6) k).trans ((laws_eqIntA4_step2 F a7 b8 i6 (nextK (iterS tt (laws_eqIntA4_tab F) (laws_eqIntA4_LS0 F) 70 (laws_eqIntA4_ls2 F) (loopAt 2 (bodyOf Try.f102)) n) k)).trans (congrArg (fun kn => laws_eqIntA4_s2 F a7 b8 R i6 kn _) (funext (fun i6 => laws_eqIntA4_iter2 F a7 b8 k n i6))))
theorem laws_eqIntA4_lok2 (F : Nat) : LoopOK Try.prog (loopAt 2 (bodyOf Try.f102)) (laws_eqIntA4_ls2 F) := by
  refine loopOK_of mixed ttok deep (laws_eqIntA4_tabok F) (loopsOK_at (laws_eqIntA4_lsok0 F) 2) (fuel := 70) fun R vals mem np killed k x h => ?_
  simp only [laws_eqIntA4_ls2] at h
  split at h
  · rename_i i6 a7 b8
    simp only [GT.run] at h
    have hc := (cond_noneL h).1
    replace h := (cond_noneL h).2
    refine ⟨F, (laws_eqIntA4_iter2 F a7 b8 k F i6).trans ((loopC_use (laws_eqIntA4_s2_nat F a7 b8) hc _).trans h)⟩
  · simp only [GT.run] at h
    cases h
noncomputable def laws_eqIntA4_LS1 (F : Nat) : LT := (2, laws_eqIntA4_ls2 F) :: laws_eqIntA4_LS0 F
theorem laws_eqIntA4_lsok1 (F : Nat) : LoopsOK Try.prog (laws_eqIntA4_LS1 F) (bodyOf Try.f102) := loopsOK_cons laws_eqIntA4_keys (laws_eqIntA4_lok2 F) (laws_eqIntA4_lsok0 F)
theorem laws_eqIntA4_run (F : Nat) (a0 : List Int) (b1 : List Int) : runS tt (laws_eqIntA4_tab F) (laws_eqIntA4_LS1 F) [] [] Try.f102 (bodyOf Try.f102) 70 [(.ints 4 a0), (.ints 4 b1)] [] = laws_eqIntA4_c _ F a0 b1 (fun r => some ⟨(.bool r), [], []⟩) := by kernel_rfl
def laws_eqIntA4_ent (F : Nat) : Ent := ⟨[], .quiet, fun args mem => match args, mem with
  | [(.ints 4 a0), (.ints 4 b1)], [] => some ((laws_eqIntA4_p F a0 b1).isSome, ⟨(.bool ((laws_eqIntA4_p F a0 b1).getD default)), [], []⟩)
  | _, _ => none⟩
theorem laws_eqIntA4_fok : FunOK Try.prog 102 := funOK Try.func102 (by kernel_rfl) rfl
theorem laws_eqIntA4_meets (F : Nat) : Meets Try.prog 102 (laws_eqIntA4_ent F) := by
  refine meets_of_runS mixed ttok deep (laws_eqIntA4_tabok F) Try.func102 (body_some rfl) (laws_eqIntA4_lsok1 F) fun args mem hfit ret h => ?_
  clear hfit
  simp only [laws_eqIntA4_ent] at h
  split at h
  · rename_i a0 b1
    simp only [Option.some.injEq, Prod.mk.injEq] at h
    obtain ⟨hc, rfl⟩ := h
    exact ⟨[], [], 70, _, (laws_eqIntA4_run F a0 b1).trans ((laws_eqIntA4_cp _ F a0 b1 _).trans (bind_use hc _)), rfl, rfl, rfl⟩
  · cases h

/-! loop.example/g01194/laws.eqIntA4A4 -/
noncomputable def laws_eqIntA4A4_tab (F : Nat) : Tab := [(102, (laws_eqIntA4_ent F))]
theorem laws_eqIntA4A4_tabok (F : Nat) : TabOK Try.prog (laws_eqIntA4A4_tab F) := (tab_cons (laws_eqIntA4_meets F) laws_eqIntA4_fok tab_nil)
noncomputable def laws_eqIntA4A4_LS0 (F : Nat) : LT := []
theorem laws_eqIntA4A4_lsok0 (F : Nat) : LoopsOK Try.prog (laws_eqIntA4A4_LS0 F) (bodyOf Try.f72) := loopsOK_nil
theorem laws_eqIntA4A4_keys : keysOK (bodyOf Try.f72) = true := by kernel_rfl
def laws_eqIntA4A4_st2 (a7 : List Int) (b8 : List Int) (i6 : Int) : St := ⟨expand 18 0 [2, 3, 5] [(.ptr 0 0 0 16), (.ptr 1 0 0 16), (.int .i64 i6)], [(.var 16 (.ri .i64 a7)), (.var 16 (.ri .i64 b8))], 0, []⟩
def laws_eqIntA4A4_o2 (a7 : List Int) (b8 : List Int) (x : Bool) : GT := (.br x (.out (.ret ⟨expand 18 0 [4] [(.bool false)], [], 0, []⟩)) (.out (.exit 0 ⟨expand 18 0 [] [], [], 0, []⟩)))
def laws_eqIntA4A4_ls2 (F : Nat) : LoopS := ⟨18, [2, 3, 5], [], [], [], [4], [], [], fun vals mem np killed => match vals, mem, np, killed with
  | [(.ptr 0 0 0 16), (.ptr 1 0 0 16), (.int .i64 i6)], [(.var 16 (.ri .i64 a7)), (.var 16 (.ri .i64 b8))], 0, [] => .br (laws_eqIntA4A4_l2 F a7 b8 i6).isSome (laws_eqIntA4A4_o2 a7 b8 ((laws_eqIntA4A4_l2 F a7 b8 i6).getD default)) .fail
  | _, _, _, _ => .fail⟩
theorem laws_eqIntA4A4_step2 (F : Nat) (a7 : List Int) (b8 : List Int) (i6 : Int) {R : Type} (k : Out → Option R) : stepS tt (laws_eqIntA4A4_tab F) (laws_eqIntA4A4_LS0 F) 70 (laws_eqIntA4A4_ls2 F) (loopAt 2 (bodyOf Try.f72)) (laws_eqIntA4A4_st2 a7 b8 i6) k = laws_eqIntA4A4_s2 F a7 b8 R i6 (fun s => k (.norm (laws_eqIntA4A4_st2 a7 b8 s))) (fun x => (laws_eqIntA4A4_o2 a7 b8 x).run k) := by kernel_rfl
theorem laws_eqIntA4A4_iter2 (F : Nat) (a7 : List Int) (b8 : List Int) {R : Type} (k : Out → Option R) : ∀ (n : Nat) (i6 : Int), iterS tt (laws_eqIntA4A4_tab F) (laws_eqIntA4A4_LS0 F) 70 (laws_eqIntA4A4_ls2 F) (loopAt 2 (bodyOf Try.f72)) n (laws_eqIntA4A4_st2 a7 b8 i6) k = loopC (laws_eqIntA4A4_s2 F a7 b8) n i6 (fun x => (laws_eqIntA4A4_o2 a7 b8 x).run k)
  | 0, i6 => rfl
  | n + 1, i6 => (iterS_succ tt (laws_eqIntA4A4_tab F) (laws_eqIntA4A4_LS0 F) 70 (laws_eqIntA4A4_ls2 F) (loopAt 2 (bodyOf Try.f72)) n (laws_eqIntA4A4_st2 a7 b8 i6) k).trans ((laws_eqIntA4A4_step2 F a7 b8 i6 (nextK (iterS tt (laws_eqIntA4A4_tab F) (laws_eqIntA4A4_LS0 F) 70 (laws_eqIntA4A4_ls2 F) (loopAt 2 (bodyOf Try.f72)) n) k)).trans (congrArg (fun kn => laws_eqIntA4A4_s2 F a7 b8 R i6 kn _) (funext (fun i6 => laws_eqIntA4A4_iter2 F a7 b8 k n i6))))
theorem laws_eqIntA4A4_lok2 (F : Nat) : LoopOK Try.prog (loopAt 2 (bodyOf Try.f72)) (laws_eqIntA4A4_ls2 F) := by
  refine loopOK_of mixed ttok deep (laws_eqIntA4A4_tabok F) (loopsOK_at (laws_eqIntA4A4_lsok0 F) 2) (fuel := 70) fun R vals mem np killed k x h => ?_
  simp only [laws_eqIntA4A4_ls2] at h
  split at h
  · rename_i i6 a7 b8
    simp only [GT.run] at h
    have hc := (cond_noneL h).1
    replace h := (cond_noneL h).2
    refine ⟨F, (laws_eqIntA4A4_iter2 F a7 b8 k F i6).trans ((loopC_use (laws_eqIntA4A4_s2_nat F a7 b8) hc _).trans h)⟩
  · simp only [GT.run] at h
    cases h
noncomputable def laws_eqIntA4A4_LS1 (F : Nat) : LT := (2, laws_eqIntA4A4_ls2 F) :: laws_eqIntA4A4_LS0 F
theorem laws_eqIntA4A4_lsok1 (F : Nat) : LoopsOK Try.prog (laws_eqIntA4A4_LS1 F) (bodyOf Try.f72) := loopsOK_cons laws_eqIntA4A4_keys (laws_eqIntA4A4_lok2 F) (laws_eqIntA4A4_lsok0 F)
theorem laws_eqIntA4A4_run (F : Nat) (a0 : List Int) (b1 : List Int) : runS tt (laws_eqIntA4A4_tab F) (laws_eqIntA4A4_LS1 F) [] [] Try.f72 (bodyOf Try.f72) 70 [(.ints 16 a0), (.ints 16 b1)] [] = laws_eqIntA4A4_c _ F a0 b1 (fun r => some ⟨(.bool r), [], []⟩) := by kernel_rfl
def laws_eqIntA4A4_ent (F : Nat) : Ent := ⟨[], .quiet, fun args mem => match args, mem with
  | [(.ints 16 a0), (.ints 16 b1)], [] => some ((laws_eqIntA4A4_p F a0 b1).isSome, ⟨(.bool ((laws_eqIntA4A4_p F a0 b1).getD default)), [], []⟩)
  | _, _ => none⟩
theorem laws_eqIntA4A4_fok : FunOK Try.prog 72 := funOK Try.func72 (by kernel_rfl) rfl
theorem laws_eqIntA4A4_meets (F : Nat) : Meets Try.prog 72 (laws_eqIntA4A4_ent F) := by
  refine meets_of_runS mixed ttok deep (laws_eqIntA4A4_tabok F) Try.func72 (body_some rfl) (laws_eqIntA4A4_lsok1 F) fun args mem hfit ret h => ?_
  clear hfit
  simp only [laws_eqIntA4A4_ent] at h
  split at h
  · rename_i a0 b1
    simp only [Option.some.injEq, Prod.mk.injEq] at h
    obtain ⟨hc, rfl⟩ := h
    exact ⟨[], [], 70, _, (laws_eqIntA4A4_run F a0 b1).trans ((laws_eqIntA4A4_cp _ F a0 b1 _).trans (bind_use hc _)), rfl, rfl, rfl⟩
  · cases h

/-! loop.example/g01194/laws.eqBoard -/
noncomputable def laws_eqBoard_tab (F : Nat) : Tab := [(72, (laws_eqIntA4A4_ent F))]
theorem laws_eqBoard_tabok (F : Nat) : TabOK Try.prog (laws_eqBoard_tab F) := (tab_cons (laws_eqIntA4A4_meets F) laws_eqIntA4A4_fok tab_nil)
noncomputable def laws_eqBoard_LS0 (F : Nat) : LT := []
theorem laws_eqBoard_lsok0 (F : Nat) : LoopsOK Try.prog (laws_eqBoard_LS0 F) (bodyOf Try.f30) := loopsOK_nil
theorem laws_eqBoard_run (F : Nat) (a0 : List Int) (b1 : List Int) : runS tt (laws_eqBoard_tab F) (laws_eqBoard_LS0 F) [] [] Try.f30 (bodyOf Try.f30) 70 [(.ints 16 a0), (.ints 16 b1)] [] = laws_eqBoard_c _ F a0 b1 (fun r => some ⟨(.bool r), [], []⟩) := by kernel_rfl
def laws_eqBoard_ent (F : Nat) : Ent := ⟨[], .quiet, fun args mem => match args, mem with
  | [(.ints 16 a0), (.ints 16 b1)], [] => some ((laws_eqBoard_p F a0 b1).isSome, ⟨(.bool ((laws_eqBoard_p F a0 b1).getD default)), [], []⟩)
  | _, _ => none⟩
theorem laws_eqBoard_fok : FunOK Try.prog 30 := funOK Try.func30 (by kernel_rfl) rfl
theorem laws_eqBoard_meets (F : Nat) : Meets Try.prog 30 (laws_eqBoard_ent F) := by
  refine meets_of_runS mixed ttok deep (laws_eqBoard_tabok F) Try.func30 (body_some rfl) (laws_eqBoard_lsok0 F) fun args mem hfit ret h => ?_
  clear hfit
  simp only [laws_eqBoard_ent] at h
  split at h
  · rename_i a0 b1
    simp only [Option.some.injEq, Prod.mk.injEq] at h
    obtain ⟨hc, rfl⟩ := h
    exact ⟨[], [], 70, _, (laws_eqBoard_run F a0 b1).trans ((laws_eqBoard_cp _ F a0 b1 _).trans (bind_use hc _)), rfl, rfl, rfl⟩
  · cases h

/-! loop.example/g01194/laws.FnExactPlaceTile -/
noncomputable def laws_FnExactPlaceTile_tab (F : Nat) : Tab := [(21, (laws_toBoard_ent F)), (28, (laws_toIntA3_ent F)), (27, (spec_PlaceTile_ent F)), (29, (impl_PlaceTile_ent F)), (30, (laws_eqBoard_ent F))]
theorem laws_FnExactPlaceTile_tabok (F : Nat) : TabOK Try.prog (laws_FnExactPlaceTile_tab F) := (tab_cons (laws_toBoard_meets F) laws_toBoard_fok (tab_cons (laws_toIntA3_meets F) laws_toIntA3_fok (tab_cons (spec_PlaceTile_meets F) spec_PlaceTile_fok (tab_cons (impl_PlaceTile_meets F) impl_PlaceTile_fok (tab_cons (laws_eqBoard_meets F) laws_eqBoard_fok tab_nil)))))
noncomputable def laws_FnExactPlaceTile_LS0 (F : Nat) : LT := []
theorem laws_FnExactPlaceTile_lsok0 (F : Nat) : LoopsOK Try.prog (laws_FnExactPlaceTile_LS0 F) (bodyOf Try.f8) := loopsOK_nil
theorem laws_FnExactPlaceTile_run (F : Nat) (aB0 : List Int) (aP1 : List Int) : runS tt (laws_FnExactPlaceTile_tab F) (laws_FnExactPlaceTile_LS0 F) [] [] Try.f8 (bodyOf Try.f8) 70 [(.ints 16 aB0), (.ints 3 aP1)] [] = laws_FnExactPlaceTile_c _ F aB0 aP1 (fun r => some ⟨(.bool r), [], []⟩) := by kernel_rfl
def laws_FnExactPlaceTile_ent (F : Nat) : Ent := ⟨[], .quiet, fun args mem => match args, mem with
  | [(.ints 16 aB0), (.ints 3 aP1)], [] => some ((laws_FnExactPlaceTile_p F aB0 aP1).isSome, ⟨(.bool ((laws_FnExactPlaceTile_p F aB0 aP1).getD default)), [], []⟩)
  | _, _ => none⟩
theorem laws_FnExactPlaceTile_fok : FunOK Try.prog 8 := funOK Try.func8 (by kernel_rfl) rfl
theorem laws_FnExactPlaceTile_meets (F : Nat) : Meets Try.prog 8 (laws_FnExactPlaceTile_ent F) := by
  refine meets_of_runS mixed ttok deep (laws_FnExactPlaceTile_tabok F) Try.func8 (body_some rfl) (laws_FnExactPlaceTile_lsok0 F) fun args mem hfit ret h => ?_
  clear hfit
  simp only [laws_FnExactPlaceTile_ent] at h
  split at h
  · rename_i aB0 aP1
    simp only [Option.some.injEq, Prod.mk.injEq] at h
    obtain ⟨hc, rfl⟩ := h
    exact ⟨[], [], 70, _, (laws_FnExactPlaceTile_run F aB0 aP1).trans ((laws_FnExactPlaceTile_cp _ F aB0 aP1 _).trans (bind_use hc _)), rfl, rfl, rfl⟩
  · cases h

/-! loop.example/g01194/spec.l7Potential -/
noncomputable def spec_l7Potential_tab (F : Nat) : Tab := [(90, (spec_l2Worth_ent F))]
theorem spec_l7Potential_tabok (F : Nat) : TabOK Try.prog (spec_l7Potential_tab F) := (tab_cons (spec_l2Worth_meets F) spec_l2Worth_fok tab_nil)
noncomputable def spec_l7Potential_LS0 (F : Nat) : LT := []
theorem spec_l7Potential_lsok0 (F : Nat) : LoopsOK Try.prog (spec_l7Potential_LS0 F) (bodyOf Try.f73) := loopsOK_nil
theorem spec_l7Potential_keys : keysOK (bodyOf Try.f73) = true := by kernel_rfl
def spec_l7Potential_st6 (r4 : Int) (b6 : List Int) (sum3 : Int) (c5 : Int) : St := ⟨expand 31 0 [1, 3, 4, 5] [(.ptr 0 0 0 16), (.int .i64 sum3), (.int .i64 r4), (.int .i64 c5)], [(.var 16 (.ri .i64 b6))], 0, []⟩
def spec_l7Potential_o6 (r4 : Int) (b6 : List Int) (x : Int) : GT := (.out (.exit 2 ⟨expand 31 0 [1, 3, 4] [(.ptr 0 0 0 16), (.int .i64 x), (.int .i64 r4)], [(.var 16 (.ri .i64 b6))], 0, []⟩))
def spec_l7Potential_ls6 (F : Nat) : LoopS := ⟨31, [1, 3, 4, 5], [], [1, 3, 4], [], [2], [], [], fun vals mem np killed => match vals, mem, np, killed with
  | [(.ptr 0 0 0 16), (.int .i64 sum3), (.int .i64 r4), (.int .i64 c5)], [(.var 16 (.ri .i64 b6))], 0, [] => .br (spec_l7Potential_l6 F r4 b6 sum3 c5).isSome (spec_l7Potential_o6 r4 b6 ((spec_l7Potential_l6 F r4 b6 sum3 c5).getD default)) .fail
  | _, _, _, _ => .fail⟩
theorem spec_l7Potential_step6 (F : Nat) (r4 : Int) (b6 : List Int) (sum3 : Int) (c5 : Int) {R : Type} (k : Out → Option R) : stepS tt (spec_l7Potential_tab F) (spec_l7Potential_LS0 F) 70 (spec_l7Potential_ls6 F) (loopAt 6 (bodyOf Try.f73)) (spec_l7Potential_st6 r4 b6 sum3 c5) k = spec_l7Potential_s6 F r4 b6 R (sum3, c5) (fun s => k (.norm (spec_l7Potential_st6 r4 b6 s.1 s.2))) (fun x => (spec_l7Potential_o6 r4 b6 x).run k) := by kernel_rfl
theorem spec_l7Potential_iter6 (F : Nat) (r4 : Int) (b6 : List Int) {R : Type} (k : Out → Option R) : ∀ (n : Nat) (sum3 : Int) (c5 : Int), iterS tt (spec_l7Potential_tab F) (spec_l7Potential_LS0 F) 70 (spec_l7Potential_ls6 F) (loopAt 6 (bodyOf Try.f73)) n (spec_l7Potential_st6 r4 b6 sum3 c5) k = loopC (spec_l7Potential_s6 F r4 b6) n (sum3, c5) (fun x => (spec_l7Potential_o6 r4 b6 x).run k)
  | 0, sum3, c5 => rfl
  | n + 1, sum3, c5 => (iterS_succ tt (spec_l7Potential_tab F) (spec_l7Potential_LS0 F) 70 (spec_l7Potential_ls6 F) (loopAt 6 (bodyOf Try.f73)) n (spec_l7Potential_st6 r4 b6 sum3 c5) k).trans ((spec_l7Potential_step6 F r4 b6 sum3 c5 (nextK (iterS tt (spec_l7Potential_tab F) (spec_l7Potential_LS0 F) 70 (spec_l7Potential_ls6 F) (loopAt 6 (bodyOf Try.f73)) n) k)).trans (congrArg (fun kn => spec_l7Potential_s6 F r4 b6 R (sum3, c5) kn _) (funext (fun ⟨sum3, c5⟩ => spec_l7Potential_iter6 F r4 b6 k n sum3 c5))))
theorem spec_l7Potential_lok6 (F : Nat) : LoopOK Try.prog (loopAt 6 (bodyOf Try.f73)) (spec_l7Potential_ls6 F) := by
  refine loopOK_of mixed ttok deep (spec_l7Potential_tabok F) (loopsOK_at (spec_l7Potential_lsok0 F) 6) (fuel := 70) fun R vals mem np killed k x h => ?_
  simp only [spec_l7Potential_ls6] at h
  split at h
  · rename_i sum3 r4 c5 b6
    simp only [GT.run] at h
    have hc := (cond_noneL h).1
    replace h := (cond_noneL h).2
    refine ⟨F, (spec_l7Potential_iter6 F r4 b6 k F sum3 c5).trans ((loopC_use (spec_l7Potential_s6_nat F r4 b6) hc _).trans h)⟩
  · simp only [GT.run] at h
    cases h
noncomputable def spec_l7Potential_LS1 (F : Nat) : LT := (6, spec_l7Potential_ls6 F) :: spec_l7Potential_LS0 F
theorem spec_l7Potential_lsok1 (F : Nat) : LoopsOK Try.prog (spec_l7Potential_LS1 F) (bodyOf Try.f73) := loopsOK_cons spec_l7Potential_keys (spec_l7Potential_lok6 F) (spec_l7Potential_lsok0 F)
def spec_l7Potential_st3 (b5 : List Int) (sum3 : Int) (r4 : Int) : St := ⟨expand 31 0 [1, 3, 4] [(.ptr 0 0 0 16), (.int .i64 sum3), (.int .i64 r4)], [(.var 16 (.ri .i64 b5))], 0, []⟩
def spec_l7Potential_o3 (b5 : List Int) (x : Int) : GT := (.out (.exit 0 ⟨expand 31 0 [3] [(.int .i64 x)], [], 0, []⟩))
def spec_l7Potential_ls3 (F : Nat) : LoopS := ⟨31, [1, 3, 4], [], [3], [], [2], [], [], fun vals mem np killed => match vals, mem, np, killed with
  | [(.ptr 0 0 0 16), (.int .i64 sum3), (.int .i64 r4)], [(.var 16 (.ri .i64 b5))], 0, [] => .br (spec_l7Potential_l3 F b5 sum3 r4).isSome (spec_l7Potential_o3 b5 ((spec_l7Potential_l3 F b5 sum3 r4).getD default)) .fail
  | _, _, _, _ => .fail⟩
theorem spec_l7Potential_step3 (F : Nat) (b5 : List Int) (sum3 : Int) (r4 : Int) {R : Type} (k : Out → Option R) : stepS tt (spec_l7Potential_tab F) (spec_l7Potential_LS1 F) 70 (spec_l7Potential_ls3 F) (loopAt 3 (bodyOf Try.f73)) (spec_l7Potential_st3 b5 sum3 r4) k = spec_l7Potential_s3 F b5 R (sum3, r4) (fun s => k (.norm (spec_l7Potential_st3 b5 s.1 s.2))) (fun x => (spec_l7Potential_o3 b5 x).run k) := by kernel_rfl
theorem spec_l7Potential_iter3 (F : Nat) (b5 : List Int) {R : Type} (k : Out → Option R) : ∀ (n : Nat) (sum3 : Int) (r4 : Int), iterS tt (spec_l7Potential_tab F) (spec_l7Potential_LS1 F) 70 (spec_l7Potential_ls3 F) (loopAt 3 (bodyOf Try.f73)) n (spec_l7Potential_st3 b5 sum3 r4) k = loopC (spec_l7Potential_s3 F b5) n (sum3, r4) (fun x => (spec_l7Potential_o3 b5 x).run k)
  | 0, sum3, r4 => rfl
  | n + 1, sum3, r4 => (iterS_succ tt (spec_l7Potential_tab F) (spec_l7Potential_LS1 F) 70 (spec_l7Potential_ls3 F) (loopAt 3 (bodyOf Try.f73)) n (spec_l7Potential_st3 b5 sum3 r4) k).trans ((spec_l7Potential_step3 F b5 sum3 r4 (nextK (iterS tt (spec_l7Potential_tab F) (spec_l7Potential_LS1 F) 70 (spec_l7Potential_ls3 F) (loopAt 3 (bodyOf Try.f73)) n) k)).trans (congrArg (fun kn => spec_l7Potential_s3 F b5 R (sum3, r4) kn _) (funext (fun ⟨sum3, r4⟩ => spec_l7Potential_iter3 F b5 k n sum3 r4))))
theorem spec_l7Potential_lok3 (F : Nat) : LoopOK Try.prog (loopAt 3 (bodyOf Try.f73)) (spec_l7Potential_ls3 F) := by
  refine loopOK_of mixed ttok deep (spec_l7Potential_tabok F) (loopsOK_at (spec_l7Potential_lsok1 F) 3) (fuel := 70) fun R vals mem np killed k x h => ?_
  simp only [spec_l7Potential_ls3] at h
  split at h
  · rename_i sum3 r4 b5
    simp only [GT.run] at h
    have hc := (cond_noneL h).1
    replace h := (cond_noneL h).2
    refine ⟨F, (spec_l7Potential_iter3 F b5 k F sum3 r4).trans ((loopC_use (spec_l7Potential_s3_nat F b5) hc _).trans h)⟩
  · simp only [GT.run] at h
    cases h
noncomputable def spec_l7Potential_LS2 (F : Nat) : LT := (3, spec_l7Potential_ls3 F) :: spec_l7Potential_LS1 F
theorem spec_l7Potential_lsok2 (F : Nat) : LoopsOK Try.prog (spec_l7Potential_LS2 F) (bodyOf Try.f73) := loopsOK_cons spec_l7Potential_keys (spec_l7Potential_lok3 F) (spec_l7Potential_lsok1 F)
theorem spec_l7Potential_run (F : Nat) (b0 : List Int) : runS tt (spec_l7Potential_tab F) (spec_l7Potential_LS2 F) [] [] Try.f73 (bodyOf Try.f73) 70 [(.ints 16 b0)] [] = spec_l7Potential_c _ F b0 (fun r => some ⟨(.int .i64 r), [], []⟩) := by kernel_rfl
def spec_l7Potential_ent (F : Nat) : Ent := ⟨[], .quiet, fun args mem => match args, mem with
  | [(.ints 16 b0)], [] => some ((spec_l7Potential_p F b0).isSome, ⟨(.int .i64 ((spec_l7Potential_p F b0).getD default)), [], []⟩)
  | _, _ => none⟩
theorem spec_l7Potential_fok : FunOK Try.prog 73 := funOK Try.func73 (by kernel_rfl) rfl
theorem spec_l7Potential_meets (F : Nat) : Meets Try.prog 73 (spec_l7Potential_ent F) := by
  refine meets_of_runS mixed ttok deep (spec_l7Potential_tabok F) Try.func73 (body_some rfl) (spec_l7Potential_lsok2 F) fun args mem hfit ret h => ?_
  clear hfit
  simp only [spec_l7Potential_ent] at h
  split at h
  · rename_i b0
    simp only [Option.some.injEq, Prod.mk.injEq] at h
    obtain ⟨hc, rfl⟩ := h
    exact ⟨[], [], 70, _, (spec_l7Potential_run F b0).trans ((spec_l7Potential_cp _ F b0 _).trans (bind_use hc _)), rfl, rfl, rfl⟩
  · cases h

/-! loop.example/g01194/spec.PotentialOf -/
noncomputable def spec_PotentialOf_tab (F : Nat) : Tab := [(64, (spec_l2Board_ent F)), (73, (spec_l7Potential_ent F))]
theorem spec_PotentialOf_tabok (F : Nat) : TabOK Try.prog (spec_PotentialOf_tab F) := (tab_cons (spec_l2Board_meets F) spec_l2Board_fok (tab_cons (spec_l7Potential_meets F) spec_l7Potential_fok tab_nil))
noncomputable def spec_PotentialOf_LS0 (F : Nat) : LT := []
theorem spec_PotentialOf_lsok0 (F : Nat) : LoopsOK Try.prog (spec_PotentialOf_LS0 F) (bodyOf Try.f31) := loopsOK_nil
theorem spec_PotentialOf_run (F : Nat) (b0 : List Int) : runS tt (spec_PotentialOf_tab F) (spec_PotentialOf_LS0 F) [] [] Try.f31 (bodyOf Try.f31) 70 [(.ints 16 b0)] [] = spec_PotentialOf_c _ F b0 (fun r => some ⟨(.tup [(.int .i64 r.1), (.bool r.2)]), [], []⟩) := by kernel_rfl
def spec_PotentialOf_ent (F : Nat) : Ent := ⟨[], .quiet, fun args mem => match args, mem with
  | [(.ints 16 b0)], [] => some ((spec_PotentialOf_p F b0).isSome, ⟨(.tup [(.int .i64 ((spec_PotentialOf_p F b0).getD default).1), (.bool ((spec_PotentialOf_p F b0).getD default).2)]), [], []⟩)
  | _, _ => none⟩
theorem spec_PotentialOf_fok : FunOK Try.prog 31 := funOK Try.func31 (by kernel_rfl) rfl
theorem spec_PotentialOf_meets (F : Nat) : Meets Try.prog 31 (spec_PotentialOf_ent F) := by
  refine meets_of_runS mixed ttok deep (spec_PotentialOf_tabok F) Try.func31 (body_some rfl) (spec_PotentialOf_lsok0 F) fun args mem hfit ret h => ?_
  clear hfit
  simp only [spec_PotentialOf_ent] at h
  split at h
  · rename_i b0
    simp only [Option.some.injEq, Prod.mk.injEq] at h
    obtain ⟨hc, rfl⟩ := h
    exact ⟨[], [], 70, _, (spec_PotentialOf_run F b0).trans ((spec_PotentialOf_cp _ F b0 _).trans (bind_use hc _)), rfl, rfl, rfl⟩
  · cases h

/-! loop.example/g01194/spec.ScoreBetween -/
noncomputable def spec_ScoreBetween_tab (F : Nat) : Tab := [(64, (spec_l2Board_ent F)), (52, (spec_l1In_ent F)), (73, (spec_l7Potential_ent F))]
theorem spec_ScoreBetween_tabok (F : Nat) : TabOK Try.prog (spec_ScoreBetween_tab F) := (tab_cons (spec_l2Board_meets F) spec_l2Board_fok (tab_cons (spec_l1In_meets F) spec_l1In_fok (tab_cons (spec_l7Potential_meets F) spec_l7Potential_fok tab_nil)))
noncomputable def spec_ScoreBetween_LS0 (F : Nat) : LT := []
theorem spec_ScoreBetween_lsok0 (F : Nat) : LoopsOK Try.prog (spec_ScoreBetween_LS0 F) (bodyOf Try.f33) := loopsOK_nil
theorem spec_ScoreBetween_run (F : Nat) (a0 : List Int) (b1 : List Int) (twos2 : Int) : runS tt (spec_ScoreBetween_tab F) (spec_ScoreBetween_LS0 F) [] [] Try.f33 (bodyOf Try.f33) 70 [(.ints 16 a0), (.ints 16 b1), (.int .i64 twos2)] [] = spec_ScoreBetween_c _ F a0 b1 twos2 (fun r => some ⟨(.tup [(.int .i64 r.1), (.bool r.2)]), [], []⟩) := by kernel_rfl
def spec_ScoreBetween_ent (F : Nat) : Ent := ⟨[], .quiet, fun args mem => match args, mem with
  | [(.ints 16 a0), (.ints 16 b1), (.int .i64 twos2)], [] => some ((spec_ScoreBetween_p F a0 b1 twos2).isSome, ⟨(.tup [(.int .i64 ((spec_ScoreBetween_p F a0 b1 twos2).getD default).1), (.bool ((spec_ScoreBetween_p F a0 b1 twos2).getD default).2)]), [], []⟩)
  | _, _ => none⟩
theorem spec_ScoreBetween_fok : FunOK Try.prog 33 := funOK Try.func33 (by kernel_rfl) rfl
theorem spec_ScoreBetween_meets (F : Nat) : Meets Try.prog 33 (spec_ScoreBetween_ent F) := by
  refine meets_of_runS mixed ttok deep (spec_ScoreBetween_tabok F) Try.func33 (body_some rfl) (spec_ScoreBetween_lsok0 F) fun args mem hfit ret h => ?_
  clear hfit
  simp only [spec_ScoreBetween_ent] at h
  split at h
  · rename_i a0 b1 twos2
    simp only [Option.some.injEq, Prod.mk.injEq] at h
    obtain ⟨hc, rfl⟩ := h
    exact ⟨[], [], 70, _, (spec_ScoreBetween_run F a0 b1 twos2).trans ((spec_ScoreBetween_cp _ F a0 b1 twos2 _).trans (bind_use hc _)), rfl, rfl, rfl⟩
  · cases h

/-! loop.example/g01194/spec.l1Most -/
noncomputable def spec_l1Most_tab (F : Nat) : Tab := []
theorem spec_l1Most_tabok (F : Nat) : TabOK Try.prog (spec_l1Most_tab F) := tab_nil
noncomputable def spec_l1Most_LS0 (F : Nat) : LT := []
theorem spec_l1Most_lsok0 (F : Nat) : LoopsOK Try.prog (spec_l1Most_LS0 F) (bodyOf Try.f104) := loopsOK_nil
theorem spec_l1Most_run (F : Nat) (a0 : Int) (b1 : Int) : runS tt (spec_l1Most_tab F) (spec_l1Most_LS0 F) [] [] Try.f104 (bodyOf Try.f104) 70 [(.int .i64 a0), (.int .i64 b1)] [] = spec_l1Most_c _ a0 b1 (fun r => some ⟨(.int .i64 r), [], []⟩) := by kernel_rfl
def spec_l1Most_ent (F : Nat) : Ent := ⟨[], .quiet, fun args mem => match args, mem with
  | [(.int .i64 a0), (.int .i64 b1)], [] => some (true, ⟨(.int .i64 (spec_l1Most_v a0 b1)), [], []⟩)
  | _, _ => none⟩
theorem spec_l1Most_fok : FunOK Try.prog 104 := funOK Try.func104 (by kernel_rfl) rfl
theorem spec_l1Most_meets (F : Nat) : Meets Try.prog 104 (spec_l1Most_ent F) := by
  refine meets_of_runS mixed ttok deep (spec_l1Most_tabok F) Try.func104 (body_some rfl) (spec_l1Most_lsok0 F) fun args mem hfit ret h => ?_
  clear hfit
  simp only [spec_l1Most_ent] at h
  split at h
  · rename_i a0 b1
    simp only [Option.some.injEq, Prod.mk.injEq] at h
    obtain ⟨hc, rfl⟩ := h
    exact ⟨[], [], 70, _, (spec_l1Most_run F a0 b1).trans (spec_l1Most_cv _ a0 b1 _), rfl, rfl, rfl⟩
  · cases h

/-! loop.example/g01194/spec.l9Cut -/
noncomputable def spec_l9Cut_tab (F : Nat) : Tab := [(104, (spec_l1Most_ent F))]
theorem spec_l9Cut_tabok (F : Nat) : TabOK Try.prog (spec_l9Cut_tab F) := (tab_cons (spec_l1Most_meets F) spec_l1Most_fok tab_nil)
noncomputable def spec_l9Cut_LS0 (F : Nat) : LT := []
theorem spec_l9Cut_lsok0 (F : Nat) : LoopsOK Try.prog (spec_l9Cut_LS0 F) (bodyOf Try.f76) := loopsOK_nil
theorem spec_l9Cut_keys : keysOK (bodyOf Try.f76) = true := by kernel_rfl
def spec_l9Cut_st2 (a0 : Int) (b1 : Int) (x5 : Int) (y6 : Int) : St := ⟨expand 24 0 [0, 1, 4, 5, 6] [(.int .i64 a0), (.int .i64 b1), (.ptr 0 0 0 2), (.int .i64 x5), (.int .i64 y6)], [(.var 2 (.ri .i64 [(0 : Int), (0 : Int)]))], 0, []⟩
def spec_l9Cut_o2 (a0 : Int) (b1 : Int) (x : Int) : GT := (.out (.exit 0 ⟨expand 24 0 [0, 1, 4, 5] [(.int .i64 a0), (.int .i64 b1), (.ptr 0 0 0 2), (.int .i64 x)], [(.var 2 (.ri .i64 [(0 : Int), (0 : Int)]))], 0, []⟩))
def spec_l9Cut_ls2 (F : Nat) : LoopS := ⟨24, [0, 1, 4, 5, 6], [], [0, 1, 4, 5], [], [4], [], [], fun vals mem np killed => match vals, mem, np, killed with
  | [(.int .i64 a0), (.int .i64 b1), (.ptr 0 0 0 2), (.int .i64 x5), (.int .i64 y6)], [(.var 2 (.ri .i64 q_t47))], 0, [] => .br ((q_t47 == ([(0 : Int), (0 : Int)] : List Int)) && (spec_l9Cut_l2 F a0 b1 x5 y6).isSome) (spec_l9Cut_o2 a0 b1 ((spec_l9Cut_l2 F a0 b1 x5 y6).getD default)) .fail
  | _, _, _, _ => .fail⟩
theorem spec_l9Cut_step2 (F : Nat) (a0 : Int) (b1 : Int) (x5 : Int) (y6 : Int) {R : Type} (k : Out → Option R) : stepS tt (spec_l9Cut_tab F) (spec_l9Cut_LS0 F) 70 (spec_l9Cut_ls2 F) (loopAt 2 (bodyOf Try.f76)) (spec_l9Cut_st2 a0 b1 x5 y6) k = spec_l9Cut_s2 F a0 b1 R (x5, y6) (fun s => k (.norm (spec_l9Cut_st2 a0 b1 s.1 s.2))) (fun x => (spec_l9Cut_o2 a0 b1 x).run k) := by kernel_rfl
theorem spec_l9Cut_iter2 (F : Nat) (a0 : Int) (b1 : Int) {R : Type} (k : Out → Option R) : ∀ (n : Nat) (x5 : Int) (y6 : Int), iterS tt (spec_l9Cut_tab F) (spec_l9Cut_LS0 F) 70 (spec_l9Cut_ls2 F) (loopAt 2 (bodyOf Try.f76)) n (spec_l9Cut_st2 a0 b1 x5 y6) k = loopC (spec_l9Cut_s2 F a0 b1) n (x5, y6) (fun x => (spec_l9Cut_o2 a0 b1 x).run k)
  | 0, x5, y6 => rfl
  | n + 1, x5, y6 => (iterS_succ tt (spec_l9Cut_tab F) (spec_l9Cut_LS0 F) 70 (spec_l9Cut_ls2 F) (loopAt 2 (bodyOf Try.f76)) n (spec_l9Cut_st2 a0 b1 x5 y6) k).trans ((spec_l9Cut_step2 F a0 b1 x5 y6 (nextK (iterS tt (spec_l9Cut_tab F) (spec_l9Cut_LS0 F) 70 (spec_l9Cut_ls2 F) (loopAt 2 (bodyOf Try.f76)) n) k)).trans (congrArg (fun kn => spec_l9Cut_s2 F a0 b1 R (x5, y6) kn _) (funext (fun ⟨x5, y6⟩ => spec_l9Cut_iter2 F a0 b1 k n x5 y6))))
theorem spec_l9Cut_lok2 (F : Nat) : LoopOK Try.prog (loopAt 2 (bodyOf Try.f76)) (spec_l9Cut_ls2 F) := by
  refine loopOK_of mixed ttok deep (spec_l9Cut_tabok F) (loopsOK_at (spec_l9Cut_lsok0 F) 2) (fuel := 70) fun R vals mem np killed k x h => ?_
  simp only [spec_l9Cut_ls2] at h
  split at h
  · rename_i a0 b1 x5 y6 q_t47
    simp only [GT.run] at h
    have hc := (cond_noneL h).1
    replace h := (cond_noneL h).2
    have hg := (and_split hc).1
    replace hc := (and_split hc).2
    obtain rfl := beq_li hg
    refine ⟨F, (spec_l9Cut_iter2 F a0 b1 k F x5 y6).trans ((loopC_use (spec_l9Cut_s2_nat F a0 b1) hc _).trans h)⟩
  · simp only [GT.run] at h
    cases h
noncomputable def spec_l9Cut_LS1 (F : Nat) : LT := (2, spec_l9Cut_ls2 F) :: spec_l9Cut_LS0 F
theorem spec_l9Cut_lsok1 (F : Nat) : LoopsOK Try.prog (spec_l9Cut_LS1 F) (bodyOf Try.f76) := loopsOK_cons spec_l9Cut_keys (spec_l9Cut_lok2 F) (spec_l9Cut_lsok0 F)
theorem spec_l9Cut_run (F : Nat) (a0 : Int) (b1 : Int) : runS tt (spec_l9Cut_tab F) (spec_l9Cut_LS1 F) [] [] Try.f76 (bodyOf Try.f76) 70 [(.int .i64 a0), (.int .i64 b1)] [] = spec_l9Cut_c _ F a0 b1 (fun r => some ⟨(.ints 2 r), [], []⟩) := by kernel_rfl
def spec_l9Cut_ent (F : Nat) : Ent := ⟨[], .quiet, fun args mem => match args, mem with
  | [(.int .i64 a0), (.int .i64 b1)], [] => some ((spec_l9Cut_p F a0 b1).isSome, ⟨(.ints 2 ((spec_l9Cut_p F a0 b1).getD default)), [], []⟩)
  | _, _ => none⟩
theorem spec_l9Cut_fok : FunOK Try.prog 76 := funOK Try.func76 (by kernel_rfl) rfl
theorem spec_l9Cut_meets (F : Nat) : Meets Try.prog 76 (spec_l9Cut_ent F) := by
  refine meets_of_runS mixed ttok deep (spec_l9Cut_tabok F) Try.func76 (body_some rfl) (spec_l9Cut_lsok1 F) fun args mem hfit ret h => ?_
  clear hfit
  simp only [spec_l9Cut_ent] at h
  split at h
  · rename_i a0 b1
    simp only [Option.some.injEq, Prod.mk.injEq] at h
    obtain ⟨hc, rfl⟩ := h
    exact ⟨[], [], 70, _, (spec_l9Cut_run F a0 b1).trans ((spec_l9Cut_cp _ F a0 b1 _).trans (bind_use hc _)), rfl, rfl, rfl⟩
  · cases h

/-! loop.example/g01194/spec.l9Plus -/
noncomputable def spec_l9Plus_tab (F : Nat) : Tab := [(76, (spec_l9Cut_ent F))]
theorem spec_l9Plus_tabok (F : Nat) : TabOK Try.prog (spec_l9Plus_tab F) := (tab_cons (spec_l9Cut_meets F) spec_l9Cut_fok tab_nil)
noncomputable def spec_l9Plus_LS0 (F : Nat) : LT := []
theorem spec_l9Plus_lsok0 (F : Nat) : LoopsOK Try.prog (spec_l9Plus_LS0 F) (bodyOf Try.f75) := loopsOK_nil
theorem spec_l9Plus_run (F : Nat) (a0 : List Int) (b1 : List Int) : runS tt (spec_l9Plus_tab F) (spec_l9Plus_LS0 F) [] [] Try.f75 (bodyOf Try.f75) 70 [(.ints 2 a0), (.ints 2 b1)] [] = spec_l9Plus_c _ F a0 b1 (fun r => some ⟨(.ints 2 r), [], []⟩) := by kernel_rfl
def spec_l9Plus_ent (F : Nat) : Ent := ⟨[], .quiet, fun args mem => match args, mem with
  | [(.ints 2 a0), (.ints 2 b1)], [] => some ((spec_l9Plus_p F a0 b1).isSome, ⟨(.ints 2 ((spec_l9Plus_p F a0 b1).getD default)), [], []⟩)
  | _, _ => none⟩
theorem spec_l9Plus_fok : FunOK Try.prog 75 := funOK Try.func75 (by kernel_rfl) rfl
theorem spec_l9Plus_meets (F : Nat) : Meets Try.prog 75 (spec_l9Plus_ent F) := by
  refine meets_of_runS mixed ttok deep (spec_l9Plus_tabok F) Try.func75 (body_some rfl) (spec_l9Plus_lsok0 F) fun args mem hfit ret h => ?_
  clear hfit
  simp only [spec_l9Plus_ent] at h
  split at h
  · rename_i a0 b1
    simp only [Option.some.injEq, Prod.mk.injEq] at h
    obtain ⟨hc, rfl⟩ := h
    exact ⟨[], [], 70, _, (spec_l9Plus_run F a0 b1).trans ((spec_l9Plus_cp _ F a0 b1 _).trans (bind_use hc _)), rfl, rfl, rfl⟩
  · cases h

/-! loop.example/g01194/spec.MeanSum -/
noncomputable def spec_MeanSum_tab (F : Nat) : Tab := [(64, (spec_l2Board_ent F)), (52, (spec_l1In_ent F)), (65, (spec_l2Sum_ent F)), (76, (spec_l9Cut_ent F)), (75, (spec_l9Plus_ent F))]
theorem spec_MeanSum_tabok (F : Nat) : TabOK Try.prog (spec_MeanSum_tab F) := (tab_cons (spec_l2Board_meets F) spec_l2Board_fok (tab_cons (spec_l1In_meets F) spec_l1In_fok (tab_cons (spec_l2Sum_meets F) spec_l2Sum_fok (tab_cons (spec_l9Cut_meets F) spec_l9Cut_fok (tab_cons (spec_l9Plus_meets F) spec_l9Plus_fok tab_nil)))))
noncomputable def spec_MeanSum_LS0 (F : Nat) : LT := []
theorem spec_MeanSum_lsok0 (F : Nat) : LoopsOK Try.prog (spec_MeanSum_LS0 F) (bodyOf Try.f35) := loopsOK_nil
theorem spec_MeanSum_run (F : Nat) (b0 : List Int) (n1 : Int) : runS tt (spec_MeanSum_tab F) (spec_MeanSum_LS0 F) [] [] Try.f35 (bodyOf Try.f35) 70 [(.ints 16 b0), (.int .i64 n1)] [] = spec_MeanSum_c _ F b0 n1 (fun r => some ⟨(.tup [(.ints 2 r.1), (.bool r.2)]), [], []⟩) := by kernel_rfl
def spec_MeanSum_ent (F : Nat) : Ent := ⟨[], .quiet, fun args mem => match args, mem with
  | [(.ints 16 b0), (.int .i64 n1)], [] => some ((spec_MeanSum_p F b0 n1).isSome, ⟨(.tup [(.ints 2 ((spec_MeanSum_p F b0 n1).getD default).1), (.bool ((spec_MeanSum_p F b0 n1).getD default).2)]), [], []⟩)
  | _, _ => none⟩
theorem spec_MeanSum_fok : FunOK Try.prog 35 := funOK Try.func35 (by kernel_rfl) rfl
theorem spec_MeanSum_meets (F : Nat) : Meets Try.prog 35 (spec_MeanSum_ent F) := by
  refine meets_of_runS mixed ttok deep (spec_MeanSum_tabok F) Try.func35 (body_some rfl) (spec_MeanSum_lsok0 F) fun args mem hfit ret h => ?_
  clear hfit
  simp only [spec_MeanSum_ent] at h
  split at h
  · rename_i b0 n1
    simp only [Option.some.injEq, Prod.mk.injEq] at h
    obtain ⟨hc, rfl⟩ := h
    exact ⟨[], [], 70, _, (spec_MeanSum_run F b0 n1).trans ((spec_MeanSum_cp _ F b0 n1 _).trans (bind_use hc _)), rfl, rfl, rfl⟩
  · cases h

/-! loop.example/g01194/impl.fraction -/
noncomputable def impl_fraction_tab (F : Nat) : Tab := []
theorem impl_fraction_tabok (F : Nat) : TabOK Try.prog (impl_fraction_tab F) := tab_nil
noncomputable def impl_fraction_LS0 (F : Nat) : LT := []
theorem impl_fraction_lsok0 (F : Nat) : LoopsOK Try.prog (impl_fraction_LS0 F) (bodyOf Try.f77) := loopsOK_nil
theorem impl_fraction_keys : keysOK (bodyOf Try.f77) = true := by kernel_rfl
def impl_fraction_st2 (num0 : Int) (den1 : Int) (a5 : Int) (b6 : Int) : St := ⟨expand 22 0 [0, 1, 4, 5, 6] [(.int .i64 num0), (.int .i64 den1), (.ptr 0 0 0 2), (.int .i64 a5), (.int .i64 b6)], [(.var 2 (.ri .i64 [(0 : Int), (0 : Int)]))], 0, []⟩
def impl_fraction_o2 (num0 : Int) (den1 : Int) (x : Int) : GT := (.out (.exit 0 ⟨expand 22 0 [0, 1, 4, 5] [(.int .i64 num0), (.int .i64 den1), (.ptr 0 0 0 2), (.int .i64 x)], [(.var 2 (.ri .i64 [(0 : Int), (0 : Int)]))], 0, []⟩))
def impl_fraction_ls2 (F : Nat) : LoopS := ⟨22, [0, 1, 4, 5, 6], [], [0, 1, 4, 5], [], [4], [], [], fun vals mem np killed => match vals, mem, np, killed with
  | [(.int .i64 num0), (.int .i64 den1), (.ptr 0 0 0 2), (.int .i64 a5), (.int .i64 b6)], [(.var 2 (.ri .i64 q_t47))], 0, [] => .br ((q_t47 == ([(0 : Int), (0 : Int)] : List Int)) && (impl_fraction_l2 F num0 den1 a5 b6).isSome) (impl_fraction_o2 num0 den1 ((impl_fraction_l2 F num0 den1 a5 b6).getD default)) .fail
  | _, _, _, _ => .fail⟩
theorem impl_fraction_step2 (F : Nat) (num0 : Int) (den1 : Int) (a5 : Int) (b6 : Int) {R : Type} (k : Out → Option R) : stepS tt (impl_fraction_tab F) (impl_fraction_LS0 F) 70 (impl_fraction_ls2 F) (loopAt 2 (bodyOf Try.f77)) (impl_fraction_st2 num0 den1 a5 b6) k = impl_fraction_s2 F num0 den1 R (a5, b6) (fun s => k (.norm (impl_fraction_st2 num0 den1 s.1 s.2))) (fun x => (impl_fraction_o2 num0 den1 x).run k) := by kernel_rfl
theorem impl_fraction_iter2 (F : Nat) (num0 : Int) (den1 : Int) {R : Type} (k : Out → Option R) : ∀ (n : Nat) (a5 : Int) (b6 : Int), iterS tt (impl_fraction_tab F) (impl_fraction_LS0 F) 70 (impl_fraction_ls2 F) (loopAt 2 (bodyOf Try.f77)) n (impl_fraction_st2 num0 den1 a5 b6) k = loopC (impl_fraction_s2 F num0 den1) n (a5, b6) (fun x => (impl_fraction_o2 num0 den1 x).run k)
  | 0, a5, b6 => rfl
  | n + 1, a5, b6 => (iterS_succ tt (impl_fraction_tab F) (impl_fraction_LS0 F) 70 (impl_fraction_ls2 F) (loopAt 2 (bodyOf Try.f77)) n (impl_fraction_st2 num0 den1 a5 b6) k).trans ((impl_fraction_step2 F num0 den1 a5 b6 (nextK (iterS tt (impl_fraction_tab F) (impl_fraction_LS0 F) 70 (impl_fraction_ls2 F) (loopAt 2 (bodyOf Try.f77)) n) k)).trans (congrArg (fun kn => impl_fraction_s2 F num0 den1 R (a5, b6) kn _) (funext (fun ⟨a5, b6⟩ => impl_fraction_iter2 F num0 den1 k n a5 b6))))
theorem impl_fraction_lok2 (F : Nat) : LoopOK Try.prog (loopAt 2 (bodyOf Try.f77)) (impl_fraction_ls2 F) := by
  refine loopOK_of mixed ttok deep (impl_fraction_tabok F) (loopsOK_at (impl_fraction_lsok0 F) 2) (fuel := 70) fun R vals mem np killed k x h => ?_
  simp only [impl_fraction_ls2] at h
  split at h
  · rename_i num0 den1 a5 b6 q_t47
    simp only [GT.run] at h
    have hc := (cond_noneL h).1
    replace h := (cond_noneL h).2
    have hg := (and_split hc).1
    replace hc := (and_split hc).2
    obtain rfl := beq_li hg
    refine ⟨F, (impl_fraction_iter2 F num0 den1 k F a5 b6).trans ((loopC_use (impl_fraction_s2_nat F num0 den1) hc _).trans h)⟩
  · simp only [GT.run] at h
    cases h
noncomputable def impl_fraction_LS1 (F : Nat) : LT := (2, impl_fraction_ls2 F) :: impl_fraction_LS0 F
theorem impl_fraction_lsok1 (F : Nat) : LoopsOK Try.prog (impl_fraction_LS1 F) (bodyOf Try.f77) := loopsOK_cons impl_fraction_keys (impl_fraction_lok2 F) (impl_fraction_lsok0 F)
theorem impl_fraction_run (F : Nat) (num0 : Int) (den1 : Int) : runS tt (impl_fraction_tab F) (impl_fraction_LS1 F) [] [] Try.f77 (bodyOf Try.f77) 70 [(.int .i64 num0), (.int .i64 den1)] [] = impl_fraction_c _ F num0 den1 (fun r => some ⟨(.ints 2 r), [], []⟩) := by kernel_rfl
def impl_fraction_ent (F : Nat) : Ent := ⟨[], .quiet, fun args mem => match args, mem with
  | [(.int .i64 num0), (.int .i64 den1)], [] => some ((impl_fraction_p F num0 den1).isSome, ⟨(.ints 2 ((impl_fraction_p F num0 den1).getD default)), [], []⟩)
  | _, _ => none⟩
theorem impl_fraction_fok : FunOK Try.prog 77 := funOK Try.func77 (by kernel_rfl) rfl
theorem impl_fraction_meets (F : Nat) : Meets Try.prog 77 (impl_fraction_ent F) := by
  refine meets_of_runS mixed ttok deep (impl_fraction_tabok F) Try.func77 (body_some rfl) (impl_fraction_lsok1 F) fun args mem hfit ret h => ?_
  clear hfit
  simp only [impl_fraction_ent] at h
  split at h
  · rename_i num0 den1
    simp only [Option.some.injEq, Prod.mk.injEq] at h
    obtain ⟨hc, rfl⟩ := h
    exact ⟨[], [], 70, _, (impl_fraction_run F num0 den1).trans ((impl_fraction_cp _ F num0 den1 _).trans (bind_use hc _)), rfl, rfl, rfl⟩
  · cases h
end Go.Proofs.Ytmdicfifhppjaaa
