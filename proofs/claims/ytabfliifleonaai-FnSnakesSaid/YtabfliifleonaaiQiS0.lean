/-
Pure functions and what the code of them does, by program; without conditions.
-/
import Derived.Test.YtabfliifleonaaiQiP0
import Derived.Test.YtabfliifleonaaiQiA
namespace Go.Proofs.Ytabfliifleonaai
open Go Go.Lv Go.Lv.P Go.Proofs
set_option linter.unusedVariables false
set_option linter.unusedSimpArgs false
set_option maxRecDepth 100000
/-! loop.example/g01194/laws.vBig -/
noncomputable def laws_vBig_tab (F : Nat) : Tab := []
theorem laws_vBig_tabok (F : Nat) : TabOK Try.prog (laws_vBig_tab F) := tab_nil
noncomputable def laws_vBig_LS0 (F : Nat) : LT := []
theorem laws_vBig_lsok0 (F : Nat) : LoopsOK Try.prog (laws_vBig_LS0 F) (bodyOf Try.f4) := loopsOK_nil
theorem laws_vBig_run (F : Nat) (code0 : List Int) : runS tt (laws_vBig_tab F) (laws_vBig_LS0 F) [] [] Try.f4 (bodyOf Try.f4) 70 [(.ri .u8 code0)] [] = laws_vBig_c _ code0 (fun r => some ⟨(.bool r), [], []⟩) := by kernel_rfl
def laws_vBig_ent (F : Nat) : Ent := ⟨[], .quiet, fun args mem => match args, mem with
  | [(.ri .u8 code0)], [] => some (true, ⟨(.bool (laws_vBig_v code0)), [], []⟩)
  | _, _ => none⟩
theorem laws_vBig_fok : FunOK Try.prog 4 := funOK Try.func4 (by kernel_rfl) rfl
theorem laws_vBig_meets (F : Nat) : Meets Try.prog 4 (laws_vBig_ent F) := by
  refine meets_of_runS mixed ttok deep (laws_vBig_tabok F) Try.func4 (body_some rfl) (laws_vBig_lsok0 F) fun args mem hfit ret h => ?_
  clear hfit
  simp only [laws_vBig_ent] at h
  split at h
  · rename_i code0
    simp only [Option.some.injEq, Prod.mk.injEq] at h
    obtain ⟨hc, rfl⟩ := h
    exact ⟨[], [], 70, _, (laws_vBig_run F code0).trans (laws_vBig_cv _ code0 _), rfl, rfl, rfl⟩
  · cases h

/-! (*loop.example/g01194/spec.l1Cur).next -/
noncomputable def spec_l1Cur_next_tab (F : Nat) : Tab := []
theorem spec_l1Cur_next_tabok (F : Nat) : TabOK Try.prog (spec_l1Cur_next_tab F) := tab_nil
noncomputable def spec_l1Cur_next_LS0 (F : Nat) : LT := []
theorem spec_l1Cur_next_lsok0 (F : Nat) : LoopsOK Try.prog (spec_l1Cur_next_LS0 F) (bodyOf Try.f42) := loopsOK_nil
theorem spec_l1Cur_next_run (F : Nat) (c3 : List Int) (c4 : Int) (c5 : Int) : runS tt (spec_l1Cur_next_tab F) (spec_l1Cur_next_LS0 F) [] [] Try.f42 (bodyOf Try.f42) 70 [(.ptr 0 0 0 3)] [(.var 3 (.rv [(.ri .u8 c3), (.int .i64 c4), (.int .u64 c5)]))] = spec_l1Cur_next_c _ c3 c4 c5 (fun r => some ⟨(.int .i64 r.1), [(.var 3 (.rv [(.ri .u8 c3), (.int .i64 r.2.1), (.int .u64 r.2.2)]))], []⟩) := by kernel_rfl
def spec_l1Cur_next_ent (F : Nat) : Ent := ⟨[], .loud, fun args mem => match args, mem with
  | [(.ptr 0 0 0 3)], [(.var 3 (.rv [(.ri .u8 c3), (.int .i64 c4), (.int .u64 c5)]))] => some ((spec_l1Cur_next_p c3 c4 c5).isSome, ⟨(.int .i64 ((spec_l1Cur_next_p c3 c4 c5).getD default).1), [(.var 3 (.rv [(.ri .u8 c3), (.int .i64 ((spec_l1Cur_next_p c3 c4 c5).getD default).2.1), (.int .u64 ((spec_l1Cur_next_p c3 c4 c5).getD default).2.2)]))], []⟩)
  | _, _ => none⟩
theorem spec_l1Cur_next_fok : FunOK Try.prog 42 := funOK Try.func42 (by kernel_rfl) rfl
theorem spec_l1Cur_next_meets (F : Nat) : Meets Try.prog 42 (spec_l1Cur_next_ent F) := by
  refine meets_of_runS mixed ttok deep (spec_l1Cur_next_tabok F) Try.func42 (body_some rfl) (spec_l1Cur_next_lsok0 F) fun args mem hfit ret h => ?_
  clear hfit
  simp only [spec_l1Cur_next_ent] at h
  split at h
  · rename_i c3 c4 c5
    simp only [Option.some.injEq, Prod.mk.injEq] at h
    obtain ⟨hc, rfl⟩ := h
    exact ⟨[], [], 70, _, (spec_l1Cur_next_run F c3 c4 c5).trans ((spec_l1Cur_next_cp _ c3 c4 c5 _).trans (bind_use hc _)), rfl, rfl, rfl⟩
  · cases h

/-! (*loop.example/g01194/spec.l1Cur).pick -/
noncomputable def spec_l1Cur_pick_tab (F : Nat) : Tab := [(42, (spec_l1Cur_next_ent F))]
theorem spec_l1Cur_pick_tabok (F : Nat) : TabOK Try.prog (spec_l1Cur_pick_tab F) := (tab_cons (spec_l1Cur_next_meets F) spec_l1Cur_next_fok tab_nil)
noncomputable def spec_l1Cur_pick_LS0 (F : Nat) : LT := []
theorem spec_l1Cur_pick_lsok0 (F : Nat) : LoopsOK Try.prog (spec_l1Cur_pick_LS0 F) (bodyOf Try.f24) := loopsOK_nil
theorem spec_l1Cur_pick_run (F : Nat) (n3 : Int) (c4 : List Int) (c5 : Int) (c6 : Int) : runS tt (spec_l1Cur_pick_tab F) (spec_l1Cur_pick_LS0 F) [] [] Try.f24 (bodyOf Try.f24) 70 [(.ptr 0 0 0 3), (.int .i64 n3)] [(.var 3 (.rv [(.ri .u8 c4), (.int .i64 c5), (.int .u64 c6)]))] = spec_l1Cur_pick_c _ n3 c4 c5 c6 (fun r => some ⟨(.int .i64 r.1), [(.var 3 (.rv [(.ri .u8 c4), (.int .i64 r.2.1), (.int .u64 r.2.2)]))], []⟩) := by kernel_rfl
def spec_l1Cur_pick_ent (F : Nat) : Ent := ⟨[], .loud, fun args mem => match args, mem with
  | [(.ptr 0 0 0 3), (.int .i64 n3)], [(.var 3 (.rv [(.ri .u8 c4), (.int .i64 c5), (.int .u64 c6)]))] => some ((spec_l1Cur_pick_p n3 c4 c5 c6).isSome, ⟨(.int .i64 ((spec_l1Cur_pick_p n3 c4 c5 c6).getD default).1), [(.var 3 (.rv [(.ri .u8 c4), (.int .i64 ((spec_l1Cur_pick_p n3 c4 c5 c6).getD default).2.1), (.int .u64 ((spec_l1Cur_pick_p n3 c4 c5 c6).getD default).2.2)]))], []⟩)
  | _, _ => none⟩
theorem spec_l1Cur_pick_fok : FunOK Try.prog 24 := funOK Try.func24 (by kernel_rfl) rfl
theorem spec_l1Cur_pick_meets (F : Nat) : Meets Try.prog 24 (spec_l1Cur_pick_ent F) := by
  refine meets_of_runS mixed ttok deep (spec_l1Cur_pick_tabok F) Try.func24 (body_some rfl) (spec_l1Cur_pick_lsok0 F) fun args mem hfit ret h => ?_
  clear hfit
  simp only [spec_l1Cur_pick_ent] at h
  split at h
  · rename_i n3 c4 c5 c6
    simp only [Option.some.injEq, Prod.mk.injEq] at h
    obtain ⟨hc, rfl⟩ := h
    exact ⟨[], [], 70, _, (spec_l1Cur_pick_run F n3 c4 c5 c6).trans ((spec_l1Cur_pick_cp _ n3 c4 c5 c6 _).trans (bind_use hc _)), rfl, rfl, rfl⟩
  · cases h

/-! (*loop.example/g01194/spec.l1Cur).one -/
noncomputable def spec_l1Cur_one_tab (F : Nat) : Tab := [(24, (spec_l1Cur_pick_ent F))]
theorem spec_l1Cur_one_tabok (F : Nat) : TabOK Try.prog (spec_l1Cur_one_tab F) := (tab_cons (spec_l1Cur_pick_meets F) spec_l1Cur_pick_fok tab_nil)
noncomputable def spec_l1Cur_one_LS0 (F : Nat) : LT := []
theorem spec_l1Cur_one_lsok0 (F : Nat) : LoopsOK Try.prog (spec_l1Cur_one_LS0 F) (bodyOf Try.f25) := loopsOK_nil
theorem spec_l1Cur_one_run (F : Nat) (n3 : Int) (c4 : List Int) (c5 : Int) (c6 : Int) : runS tt (spec_l1Cur_one_tab F) (spec_l1Cur_one_LS0 F) [] [] Try.f25 (bodyOf Try.f25) 70 [(.ptr 0 0 0 3), (.int .i64 n3)] [(.var 3 (.rv [(.ri .u8 c4), (.int .i64 c5), (.int .u64 c6)]))] = spec_l1Cur_one_c _ n3 c4 c5 c6 (fun r => some ⟨(.bool r.1), [(.var 3 (.rv [(.ri .u8 c4), (.int .i64 r.2.1), (.int .u64 r.2.2)]))], []⟩) := by kernel_rfl
def spec_l1Cur_one_ent (F : Nat) : Ent := ⟨[], .loud, fun args mem => match args, mem with
  | [(.ptr 0 0 0 3), (.int .i64 n3)], [(.var 3 (.rv [(.ri .u8 c4), (.int .i64 c5), (.int .u64 c6)]))] => some ((spec_l1Cur_one_p n3 c4 c5 c6).isSome, ⟨(.bool ((spec_l1Cur_one_p n3 c4 c5 c6).getD default).1), [(.var 3 (.rv [(.ri .u8 c4), (.int .i64 ((spec_l1Cur_one_p n3 c4 c5 c6).getD default).2.1), (.int .u64 ((spec_l1Cur_one_p n3 c4 c5 c6).getD default).2.2)]))], []⟩)
  | _, _ => none⟩
theorem spec_l1Cur_one_fok : FunOK Try.prog 25 := funOK Try.func25 (by kernel_rfl) rfl
theorem spec_l1Cur_one_meets (F : Nat) : Meets Try.prog 25 (spec_l1Cur_one_ent F) := by
  refine meets_of_runS mixed ttok deep (spec_l1Cur_one_tabok F) Try.func25 (body_some rfl) (spec_l1Cur_one_lsok0 F) fun args mem hfit ret h => ?_
  clear hfit
  simp only [spec_l1Cur_one_ent] at h
  split at h
  · rename_i n3 c4 c5 c6
    simp only [Option.some.injEq, Prod.mk.injEq] at h
    obtain ⟨hc, rfl⟩ := h
    exact ⟨[], [], 70, _, (spec_l1Cur_one_run F n3 c4 c5 c6).trans ((spec_l1Cur_one_cp _ n3 c4 c5 c6 _).trans (bind_use hc _)), rfl, rfl, rfl⟩
  · cases h

/-! (*loop.example/g01194/spec.l1Cur).among -/
noncomputable def spec_l1Cur_among_tab (F : Nat) : Tab := [(24, (spec_l1Cur_pick_ent F))]
theorem spec_l1Cur_among_tabok (F : Nat) : TabOK Try.prog (spec_l1Cur_among_tab F) := (tab_cons (spec_l1Cur_pick_meets F) spec_l1Cur_pick_fok tab_nil)
noncomputable def spec_l1Cur_among_LS0 (F : Nat) : LT := []
theorem spec_l1Cur_among_lsok0 (F : Nat) : LoopsOK Try.prog (spec_l1Cur_among_LS0 F) (bodyOf Try.f36) := loopsOK_nil
theorem spec_l1Cur_among_run (F : Nat) (list3 : List Int) (c4 : List Int) (c5 : Int) (c6 : Int) : runS tt (spec_l1Cur_among_tab F) (spec_l1Cur_among_LS0 F) [] [] Try.f36 (bodyOf Try.f36) 70 [(.ptr 0 0 0 3), (.ri .i64 list3)] [(.var 3 (.rv [(.ri .u8 c4), (.int .i64 c5), (.int .u64 c6)]))] = spec_l1Cur_among_c _ list3 c4 c5 c6 (fun r => some ⟨(.int .i64 r.1), [(.var 3 (.rv [(.ri .u8 c4), (.int .i64 r.2.1), (.int .u64 r.2.2)]))], []⟩) := by kernel_rfl
def spec_l1Cur_among_ent (F : Nat) : Ent := ⟨[], .loud, fun args mem => match args, mem with
  | [(.ptr 0 0 0 3), (.ri .i64 list3)], [(.var 3 (.rv [(.ri .u8 c4), (.int .i64 c5), (.int .u64 c6)]))] => some ((spec_l1Cur_among_p list3 c4 c5 c6).isSome, ⟨(.int .i64 ((spec_l1Cur_among_p list3 c4 c5 c6).getD default).1), [(.var 3 (.rv [(.ri .u8 c4), (.int .i64 ((spec_l1Cur_among_p list3 c4 c5 c6).getD default).2.1), (.int .u64 ((spec_l1Cur_among_p list3 c4 c5 c6).getD default).2.2)]))], []⟩)
  | _, _ => none⟩
theorem spec_l1Cur_among_fok : FunOK Try.prog 36 := funOK Try.func36 (by kernel_rfl) rfl
theorem spec_l1Cur_among_meets (F : Nat) : Meets Try.prog 36 (spec_l1Cur_among_ent F) := by
  refine meets_of_runS mixed ttok deep (spec_l1Cur_among_tabok F) Try.func36 (body_some rfl) (spec_l1Cur_among_lsok0 F) fun args mem hfit ret h => ?_
  clear hfit
  simp only [spec_l1Cur_among_ent] at h
  split at h
  · rename_i list3 c4 c5 c6
    simp only [Option.some.injEq, Prod.mk.injEq] at h
    obtain ⟨hc, rfl⟩ := h
    exact ⟨[], [], 70, _, (spec_l1Cur_among_run F list3 c4 c5 c6).trans ((spec_l1Cur_among_cp _ list3 c4 c5 c6 _).trans (bind_use hc _)), rfl, rfl, rfl⟩
  · cases h

/-! (*loop.example/g01194/spec.l1Cur).form3 -/
noncomputable def spec_l1Cur_form3_tab (F : Nat) : Tab := [(25, (spec_l1Cur_one_ent F)), (36, (spec_l1Cur_among_ent F)), (24, (spec_l1Cur_pick_ent F))]
theorem spec_l1Cur_form3_tabok (F : Nat) : TabOK Try.prog (spec_l1Cur_form3_tab F) := (tab_cons (spec_l1Cur_one_meets F) spec_l1Cur_one_fok (tab_cons (spec_l1Cur_among_meets F) spec_l1Cur_among_fok (tab_cons (spec_l1Cur_pick_meets F) spec_l1Cur_pick_fok tab_nil)))
noncomputable def spec_l1Cur_form3_LS0 (F : Nat) : LT := []
theorem spec_l1Cur_form3_lsok0 (F : Nat) : LoopsOK Try.prog (spec_l1Cur_form3_LS0 F) (bodyOf Try.f18) := loopsOK_nil
theorem spec_l1Cur_form3_run (F : Nat) (c3 : List Int) (c4 : Int) (c5 : Int) : runS tt (spec_l1Cur_form3_tab F) (spec_l1Cur_form3_LS0 F) [] [] Try.f18 (bodyOf Try.f18) 70 [(.ptr 0 0 0 3)] [(.var 3 (.rv [(.ri .u8 c3), (.int .i64 c4), (.int .u64 c5)]))] = spec_l1Cur_form3_c _ c3 c4 c5 (fun r => some ⟨(.int .i64 r.1), [(.var 3 (.rv [(.ri .u8 c3), (.int .i64 r.2.1), (.int .u64 r.2.2)]))], []⟩) := by kernel_rfl
def spec_l1Cur_form3_ent (F : Nat) : Ent := ⟨[], .loud, fun args mem => match args, mem with
  | [(.ptr 0 0 0 3)], [(.var 3 (.rv [(.ri .u8 c3), (.int .i64 c4), (.int .u64 c5)]))] => some ((spec_l1Cur_form3_p c3 c4 c5).isSome, ⟨(.int .i64 ((spec_l1Cur_form3_p c3 c4 c5).getD default).1), [(.var 3 (.rv [(.ri .u8 c3), (.int .i64 ((spec_l1Cur_form3_p c3 c4 c5).getD default).2.1), (.int .u64 ((spec_l1Cur_form3_p c3 c4 c5).getD default).2.2)]))], []⟩)
  | _, _ => none⟩
theorem spec_l1Cur_form3_fok : FunOK Try.prog 18 := funOK Try.func18 (by kernel_rfl) rfl
theorem spec_l1Cur_form3_meets (F : Nat) : Meets Try.prog 18 (spec_l1Cur_form3_ent F) := by
  refine meets_of_runS mixed ttok deep (spec_l1Cur_form3_tabok F) Try.func18 (body_some rfl) (spec_l1Cur_form3_lsok0 F) fun args mem hfit ret h => ?_
  clear hfit
  simp only [spec_l1Cur_form3_ent] at h
  split at h
  · rename_i c3 c4 c5
    simp only [Option.some.injEq, Prod.mk.injEq] at h
    obtain ⟨hc, rfl⟩ := h
    exact ⟨[], [], 70, _, (spec_l1Cur_form3_run F c3 c4 c5).trans ((spec_l1Cur_form3_cp _ c3 c4 c5 _).trans (bind_use hc _)), rfl, rfl, rfl⟩
  · cases h

/-! loop.example/g01194/spec.DrawSnakePath -/
noncomputable def spec_DrawSnakePath_tab (F : Nat) : Tab := [(18, (spec_l1Cur_form3_ent F))]
theorem spec_DrawSnakePath_tabok (F : Nat) : TabOK Try.prog (spec_DrawSnakePath_tab F) := (tab_cons (spec_l1Cur_form3_meets F) spec_l1Cur_form3_fok tab_nil)
noncomputable def spec_DrawSnakePath_LS0 (F : Nat) : LT := []
theorem spec_DrawSnakePath_lsok0 (F : Nat) : LoopsOK Try.prog (spec_DrawSnakePath_LS0 F) (bodyOf Try.f5) := loopsOK_nil
theorem spec_DrawSnakePath_run (F : Nat) (code0 : List Int) : runS tt (spec_DrawSnakePath_tab F) (spec_DrawSnakePath_LS0 F) [] [] Try.f5 (bodyOf Try.f5) 70 [(.ri .u8 code0)] [] = spec_DrawSnakePath_c _ code0 (fun r => some ⟨(.int .i64 r), [], []⟩) := by kernel_rfl
def spec_DrawSnakePath_ent (F : Nat) : Ent := ⟨[], .quiet, fun args mem => match args, mem with
  | [(.ri .u8 code0)], [] => some ((spec_DrawSnakePath_p code0).isSome, ⟨(.int .i64 ((spec_DrawSnakePath_p code0).getD default)), [], []⟩)
  | _, _ => none⟩
theorem spec_DrawSnakePath_fok : FunOK Try.prog 5 := funOK Try.func5 (by kernel_rfl) rfl
theorem spec_DrawSnakePath_meets (F : Nat) : Meets Try.prog 5 (spec_DrawSnakePath_ent F) := by
  refine meets_of_runS mixed ttok deep (spec_DrawSnakePath_tabok F) Try.func5 (body_some rfl) (spec_DrawSnakePath_lsok0 F) fun args mem hfit ret h => ?_
  clear hfit
  simp only [spec_DrawSnakePath_ent] at h
  split at h
  · rename_i code0
    simp only [Option.some.injEq, Prod.mk.injEq] at h
    obtain ⟨hc, rfl⟩ := h
    exact ⟨[], [], 70, _, (spec_DrawSnakePath_run F code0).trans ((spec_DrawSnakePath_cp _ code0 _).trans (bind_use hc _)), rfl, rfl, rfl⟩
  · cases h

/-! loop.example/g01194/impl.in -/
noncomputable def impl_in_tab (F : Nat) : Tab := []
theorem impl_in_tabok (F : Nat) : TabOK Try.prog (impl_in_tab F) := tab_nil
noncomputable def impl_in_LS0 (F : Nat) : LT := []
theorem impl_in_lsok0 (F : Nat) : LoopsOK Try.prog (impl_in_LS0 F) (bodyOf Try.f37) := loopsOK_nil
theorem impl_in_run (F : Nat) (n0 : Int) (low1 : Int) (high2 : Int) : runS tt (impl_in_tab F) (impl_in_LS0 F) [] [] Try.f37 (bodyOf Try.f37) 70 [(.int .i64 n0), (.int .i64 low1), (.int .i64 high2)] [] = impl_in_c _ n0 low1 high2 (fun r => some ⟨(.bool r), [], []⟩) := by kernel_rfl
def impl_in_ent (F : Nat) : Ent := ⟨[], .quiet, fun args mem => match args, mem with
  | [(.int .i64 n0), (.int .i64 low1), (.int .i64 high2)], [] => some (true, ⟨(.bool (impl_in_v n0 low1 high2)), [], []⟩)
  | _, _ => none⟩
theorem impl_in_fok : FunOK Try.prog 37 := funOK Try.func37 (by kernel_rfl) rfl
theorem impl_in_meets (F : Nat) : Meets Try.prog 37 (impl_in_ent F) := by
  refine meets_of_runS mixed ttok deep (impl_in_tabok F) Try.func37 (body_some rfl) (impl_in_lsok0 F) fun args mem hfit ret h => ?_
  clear hfit
  simp only [impl_in_ent] at h
  split at h
  · rename_i n0 low1 high2
    simp only [Option.some.injEq, Prod.mk.injEq] at h
    obtain ⟨hc, rfl⟩ := h
    exact ⟨[], [], 70, _, (impl_in_run F n0 low1 high2).trans (impl_in_cv _ n0 low1 high2 _), rfl, rfl, rfl⟩
  · cases h

/-! loop.example/g01194/impl.isForm -/
noncomputable def impl_isForm_tab (F : Nat) : Tab := [(37, (impl_in_ent F))]
theorem impl_isForm_tabok (F : Nat) : TabOK Try.prog (impl_isForm_tab F) := (tab_cons (impl_in_meets F) impl_in_fok tab_nil)
noncomputable def impl_isForm_LS0 (F : Nat) : LT := []
theorem impl_isForm_lsok0 (F : Nat) : LoopsOK Try.prog (impl_isForm_LS0 F) (bodyOf Try.f19) := loopsOK_nil
theorem impl_isForm_run (F : Nat) (k0 : Int) : runS tt (impl_isForm_tab F) (impl_isForm_LS0 F) [] [] Try.f19 (bodyOf Try.f19) 70 [(.int .i64 k0)] [] = impl_isForm_c _ k0 (fun r => some ⟨(.bool r), [], []⟩) := by kernel_rfl
def impl_isForm_ent (F : Nat) : Ent := ⟨[], .quiet, fun args mem => match args, mem with
  | [(.int .i64 k0)], [] => some (true, ⟨(.bool (impl_isForm_v k0)), [], []⟩)
  | _, _ => none⟩
theorem impl_isForm_fok : FunOK Try.prog 19 := funOK Try.func19 (by kernel_rfl) rfl
theorem impl_isForm_meets (F : Nat) : Meets Try.prog 19 (impl_isForm_ent F) := by
  refine meets_of_runS mixed ttok deep (impl_isForm_tabok F) Try.func19 (body_some rfl) (impl_isForm_lsok0 F) fun args mem hfit ret h => ?_
  clear hfit
  simp only [impl_isForm_ent] at h
  split at h
  · rename_i k0
    simp only [Option.some.injEq, Prod.mk.injEq] at h
    obtain ⟨hc, rfl⟩ := h
    exact ⟨[], [], 70, _, (impl_isForm_run F k0).trans (impl_isForm_cv _ k0 _), rfl, rfl, rfl⟩
  · cases h

/-! loop.example/g01194/impl.cells -/
noncomputable def impl_cells_tab (F : Nat) : Tab := []
theorem impl_cells_tabok (F : Nat) : TabOK Try.prog (impl_cells_tab F) := tab_nil
noncomputable def impl_cells_LS0 (F : Nat) : LT := []
theorem impl_cells_lsok0 (F : Nat) : LoopsOK Try.prog (impl_cells_LS0 F) (bodyOf Try.f35) := loopsOK_nil
theorem impl_cells_run (F : Nat) : runS tt (impl_cells_tab F) (impl_cells_LS0 F) [] [] Try.f35 (bodyOf Try.f35) 70 [] [] = impl_cells_c _ (fun r => some ⟨(.sl 0 0 16), [(.vec 25 (.rr 2 [[(0 : Int), (0 : Int)], [(0 : Int), (1 : Int)], [(0 : Int), (2 : Int)], [(0 : Int), (3 : Int)], [(1 : Int), (0 : Int)], [(1 : Int), (1 : Int)], [(1 : Int), (2 : Int)], [(1 : Int), (3 : Int)], [(2 : Int), (0 : Int)], [(2 : Int), (1 : Int)], [(2 : Int), (2 : Int)], [(2 : Int), (3 : Int)], [(3 : Int), (0 : Int)], [(3 : Int), (1 : Int)], [(3 : Int), (2 : Int)], [(3 : Int), (3 : Int)]]))], []⟩) := by kernel_rfl
def impl_cells_ent (F : Nat) : Ent := ⟨[], .fresh, fun args mem => match args, mem with
  | [], [] => some (true, ⟨(.sl 0 0 16), [(.vec 25 (.rr 2 [[(0 : Int), (0 : Int)], [(0 : Int), (1 : Int)], [(0 : Int), (2 : Int)], [(0 : Int), (3 : Int)], [(1 : Int), (0 : Int)], [(1 : Int), (1 : Int)], [(1 : Int), (2 : Int)], [(1 : Int), (3 : Int)], [(2 : Int), (0 : Int)], [(2 : Int), (1 : Int)], [(2 : Int), (2 : Int)], [(2 : Int), (3 : Int)], [(3 : Int), (0 : Int)], [(3 : Int), (1 : Int)], [(3 : Int), (2 : Int)], [(3 : Int), (3 : Int)]]))], []⟩)
  | _, _ => none⟩
theorem impl_cells_fok : FunOK Try.prog 35 := funOK Try.func35 (by kernel_rfl) rfl
theorem impl_cells_meets (F : Nat) : Meets Try.prog 35 (impl_cells_ent F) := by
  refine meets_of_runS mixed ttok deep (impl_cells_tabok F) Try.func35 (body_some rfl) (impl_cells_lsok0 F) fun args mem hfit ret h => ?_
  clear hfit
  simp only [impl_cells_ent] at h
  split at h
  · simp only [Option.some.injEq, Prod.mk.injEq] at h
    obtain ⟨hc, rfl⟩ := h
    exact ⟨[], [], 70, _, (impl_cells_run F).trans (impl_cells_cv _ _), rfl, rfl, rfl⟩
  · cases h

/-! loop.example/g01194/impl.moved -/
noncomputable def impl_moved_tab (F : Nat) : Tab := []
theorem impl_moved_tabok (F : Nat) : TabOK Try.prog (impl_moved_tab F) := tab_nil
noncomputable def impl_moved_LS0 (F : Nat) : LT := []
theorem impl_moved_lsok0 (F : Nat) : LoopsOK Try.prog (impl_moved_LS0 F) (bodyOf Try.f38) := loopsOK_nil
theorem impl_moved_keys : keysOK (bodyOf Try.f38) = true := by kernel_rfl
def impl_moved_st2 (k0 : Int) (t67 : Int) (t78 : Int) (cell9 : List Int) : St := ⟨expand 23 0 [0, 3, 4, 6, 7] [(.int .i64 k0), (.ptr 0 0 0 2), (.ptr 1 0 0 2), (.int .i64 t67), (.int .i64 t78)], [(.var 2 (.ri .i64 cell9)), (.var 2 (.ri .i64 [(0 : Int), (0 : Int)]))], 0, []⟩
def impl_moved_o2 (k0 : Int) (t67 : Int) (x : List Int) : GT := (.out (.exit 0 ⟨expand 23 0 [0, 3, 4] [(.int .i64 k0), (.ptr 0 0 0 2), (.ptr 1 0 0 2)], [(.var 2 (.ri .i64 x)), (.var 2 (.ri .i64 [(0 : Int), (0 : Int)]))], 0, []⟩))
def impl_moved_ls2 (F : Nat) : LoopS := ⟨23, [0, 3, 4, 6, 7], [], [0, 3, 4], [], [4], [], [], fun vals mem np killed => match vals, mem, np, killed with
  | [(.int .i64 k0), (.ptr 0 0 0 2), (.ptr 1 0 0 2), (.int .i64 t67), (.int .i64 t78)], [(.var 2 (.ri .i64 cell9)), (.var 2 (.ri .i64 q_t410))], 0, [] => .br ((q_t410 == ([(0 : Int), (0 : Int)] : List Int)) && (impl_moved_l2 F k0 t67 t78 cell9).isSome) (impl_moved_o2 k0 t67 ((impl_moved_l2 F k0 t67 t78 cell9).getD default)) .fail
  | _, _, _, _ => .fail⟩
theorem impl_moved_step2 (F : Nat) (k0 : Int) (t67 : Int) (t78 : Int) (cell9 : List Int) {R : Type} (k : Out → Option R) : stepS tt (impl_moved_tab F) (impl_moved_LS0 F) 70 (impl_moved_ls2 F) (loopAt 2 (bodyOf Try.f38)) (impl_moved_st2 k0 t67 t78 cell9) k = impl_moved_s2 F k0 t67 R (t78, cell9) (fun s => k (.norm (impl_moved_st2 k0 t67 s.1 s.2))) (fun x => (impl_moved_o2 k0 t67 x).run k) := by kernel_rfl
theorem impl_moved_iter2 (F : Nat) (k0 : Int) (t67 : Int) {R : Type} (k : Out → Option R) : ∀ (n : Nat) (t78 : Int) (cell9 : List Int), iterS tt (impl_moved_tab F) (impl_moved_LS0 F) 70 (impl_moved_ls2 F) (loopAt 2 (bodyOf Try.f38)) n (impl_moved_st2 k0 t67 t78 cell9) k = loopC (impl_moved_s2 F k0 t67) n (t78, cell9) (fun x => (impl_moved_o2 k0 t67 x).run k)
  | 0, t78, cell9 => rfl
  | n + 1, t78, cell9 => (iterS_succ tt (impl_moved_tab F) (impl_moved_LS0 F) 70 (impl_moved_ls2 F) (loopAt 2 (bodyOf Try.f38)) n (impl_moved_st2 k0 t67 t78 cell9) k).trans ((impl_moved_step2 F k0 t67 t78 cell9 (nextK (iterS tt (impl_moved_tab F) (impl_moved_LS0 F) 70 (impl_moved_ls2 F) (loopAt 2 (bodyOf Try.f38)) n) k)).trans (congrArg (fun kn => impl_moved_s2 F k0 t67 R (t78, cell9) kn _) (funext (fun ⟨t78, cell9⟩ => impl_moved_iter2 F k0 t67 k n t78 cell9))))
theorem impl_moved_lok2 (F : Nat) : LoopOK Try.prog (loopAt 2 (bodyOf Try.f38)) (impl_moved_ls2 F) := by
  refine loopOK_of mixed ttok deep (impl_moved_tabok F) (loopsOK_at (impl_moved_lsok0 F) 2) (fuel := 70) fun R vals mem np killed k x h => ?_
  simp only [impl_moved_ls2] at h
  split at h
  · rename_i k0 t67 t78 cell9 q_t410
    simp only [GT.run] at h
    have hc := (cond_noneL h).1
    replace h := (cond_noneL h).2
    have hg := (and_split hc).1
    replace hc := (and_split hc).2
    obtain rfl := beq_li hg
    refine ⟨F, (impl_moved_iter2 F k0 t67 k F t78 cell9).trans ((loopC_use (impl_moved_s2_nat F k0 t67) hc _).trans h)⟩
  · simp only [GT.run] at h
    cases h
noncomputable def impl_moved_LS1 (F : Nat) : LT := (2, impl_moved_ls2 F) :: impl_moved_LS0 F
theorem impl_moved_lsok1 (F : Nat) : LoopsOK Try.prog (impl_moved_LS1 F) (bodyOf Try.f38) := loopsOK_cons impl_moved_keys (impl_moved_lok2 F) (impl_moved_lsok0 F)
theorem impl_moved_run (F : Nat) (k0 : Int) (cell1 : List Int) : runS tt (impl_moved_tab F) (impl_moved_LS1 F) [] [] Try.f38 (bodyOf Try.f38) 70 [(.int .i64 k0), (.ints 2 cell1)] [] = impl_moved_c _ F k0 cell1 (fun r => some ⟨(.ints 2 r), [], []⟩) := by kernel_rfl
def impl_moved_ent (F : Nat) : Ent := ⟨[], .quiet, fun args mem => match args, mem with
  | [(.int .i64 k0), (.ints 2 cell1)], [] => some ((impl_moved_p F k0 cell1).isSome, ⟨(.ints 2 ((impl_moved_p F k0 cell1).getD default)), [], []⟩)
  | _, _ => none⟩
theorem impl_moved_fok : FunOK Try.prog 38 := funOK Try.func38 (by kernel_rfl) rfl
theorem impl_moved_meets (F : Nat) : Meets Try.prog 38 (impl_moved_ent F) := by
  refine meets_of_runS mixed ttok deep (impl_moved_tabok F) Try.func38 (body_some rfl) (impl_moved_lsok1 F) fun args mem hfit ret h => ?_
  clear hfit
  simp only [impl_moved_ent] at h
  split at h
  · rename_i k0 cell1
    simp only [Option.some.injEq, Prod.mk.injEq] at h
    obtain ⟨hc, rfl⟩ := h
    exact ⟨[], [], 70, _, (impl_moved_run F k0 cell1).trans ((impl_moved_cp _ F k0 cell1 _).trans (bind_use hc _)), rfl, rfl, rfl⟩
  · cases h

/-! loop.example/g01194/impl.snake -/
noncomputable def impl_snake_tab (F : Nat) : Tab := [(35, (impl_cells_ent F)), (38, (impl_moved_ent F))]
theorem impl_snake_tabok (F : Nat) : TabOK Try.prog (impl_snake_tab F) := (tab_cons (impl_cells_meets F) impl_cells_fok (tab_cons (impl_moved_meets F) impl_moved_fok tab_nil))
noncomputable def impl_snake_LS0 (F : Nat) : LT := []
theorem impl_snake_lsok0 (F : Nat) : LoopsOK Try.prog (impl_snake_LS0 F) (bodyOf Try.f20) := loopsOK_nil
theorem impl_snake_run (F : Nat) (k0 : Int) : runS tt (impl_snake_tab F) (impl_snake_LS0 F) [] [] Try.f20 (bodyOf Try.f20) 70 [(.int .i64 k0)] [] = impl_snake_c _ F k0 (fun r => some ⟨(.ints 32 r), [], []⟩) := by kernel_rfl
def impl_snake_ent (F : Nat) : Ent := ⟨[], .quiet, fun args mem => match args, mem with
  | [(.int .i64 k0)], [] => some ((impl_snake_p F k0).isSome, ⟨(.ints 32 ((impl_snake_p F k0).getD default)), [], []⟩)
  | _, _ => none⟩
theorem impl_snake_fok : FunOK Try.prog 20 := funOK Try.func20 (by kernel_rfl) rfl
theorem impl_snake_meets (F : Nat) : Meets Try.prog 20 (impl_snake_ent F) := by
  refine meets_of_runS mixed ttok deep (impl_snake_tabok F) Try.func20 (body_some rfl) (impl_snake_lsok0 F) fun args mem hfit ret h => ?_
  clear hfit
  simp only [impl_snake_ent] at h
  split at h
  · rename_i k0
    simp only [Option.some.injEq, Prod.mk.injEq] at h
    obtain ⟨hc, rfl⟩ := h
    exact ⟨[], [], 70, _, (impl_snake_run F k0).trans ((impl_snake_cp _ F k0 _).trans (bind_use hc _)), rfl, rfl, rfl⟩
  · cases h

/-! loop.example/g01194/impl.SnakePath -/
noncomputable def impl_SnakePath_tab (F : Nat) : Tab := [(19, (impl_isForm_ent F)), (20, (impl_snake_ent F))]
theorem impl_SnakePath_tabok (F : Nat) : TabOK Try.prog (impl_SnakePath_tab F) := (tab_cons (impl_isForm_meets F) impl_isForm_fok (tab_cons (impl_snake_meets F) impl_snake_fok tab_nil))
noncomputable def impl_SnakePath_LS0 (F : Nat) : LT := []
theorem impl_SnakePath_lsok0 (F : Nat) : LoopsOK Try.prog (impl_SnakePath_LS0 F) (bodyOf Try.f6) := loopsOK_nil
theorem impl_SnakePath_run (F : Nat) (k0 : Int) : runS tt (impl_SnakePath_tab F) (impl_SnakePath_LS0 F) [] [] Try.f6 (bodyOf Try.f6) 70 [(.int .i64 k0)] [] = impl_SnakePath_c _ F k0 (fun r => some ⟨(.tup [(.ints 32 r.1), (.bool r.2)]), [], []⟩) := by kernel_rfl
def impl_SnakePath_ent (F : Nat) : Ent := ⟨[], .quiet, fun args mem => match args, mem with
  | [(.int .i64 k0)], [] => some ((impl_SnakePath_p F k0).isSome, ⟨(.tup [(.ints 32 ((impl_SnakePath_p F k0).getD default).1), (.bool ((impl_SnakePath_p F k0).getD default).2)]), [], []⟩)
  | _, _ => none⟩
theorem impl_SnakePath_fok : FunOK Try.prog 6 := funOK Try.func6 (by kernel_rfl) rfl
theorem impl_SnakePath_meets (F : Nat) : Meets Try.prog 6 (impl_SnakePath_ent F) := by
  refine meets_of_runS mixed ttok deep (impl_SnakePath_tabok F) Try.func6 (body_some rfl) (impl_SnakePath_lsok0 F) fun args mem hfit ret h => ?_
  clear hfit
  simp only [impl_SnakePath_ent] at h
  split at h
  · rename_i k0
    simp only [Option.some.injEq, Prod.mk.injEq] at h
    obtain ⟨hc, rfl⟩ := h
    exact ⟨[], [], 70, _, (impl_SnakePath_run F k0).trans ((impl_SnakePath_cp _ F k0 _).trans (bind_use hc _)), rfl, rfl, rfl⟩
  · cases h

/-! loop.example/g01194/spec.l1In -/
noncomputable def spec_l1In_tab (F : Nat) : Tab := []
theorem spec_l1In_tabok (F : Nat) : TabOK Try.prog (spec_l1In_tab F) := tab_nil
noncomputable def spec_l1In_LS0 (F : Nat) : LT := []
theorem spec_l1In_lsok0 (F : Nat) : LoopsOK Try.prog (spec_l1In_LS0 F) (bodyOf Try.f39) := loopsOK_nil
theorem spec_l1In_run (F : Nat) (x0 : Int) (a1 : Int) (b2 : Int) : runS tt (spec_l1In_tab F) (spec_l1In_LS0 F) [] [] Try.f39 (bodyOf Try.f39) 70 [(.int .i64 x0), (.int .i64 a1), (.int .i64 b2)] [] = spec_l1In_c _ x0 a1 b2 (fun r => some ⟨(.bool r), [], []⟩) := by kernel_rfl
def spec_l1In_ent (F : Nat) : Ent := ⟨[], .quiet, fun args mem => match args, mem with
  | [(.int .i64 x0), (.int .i64 a1), (.int .i64 b2)], [] => some (true, ⟨(.bool (spec_l1In_v x0 a1 b2)), [], []⟩)
  | _, _ => none⟩
theorem spec_l1In_fok : FunOK Try.prog 39 := funOK Try.func39 (by kernel_rfl) rfl
theorem spec_l1In_meets (F : Nat) : Meets Try.prog 39 (spec_l1In_ent F) := by
  refine meets_of_runS mixed ttok deep (spec_l1In_tabok F) Try.func39 (body_some rfl) (spec_l1In_lsok0 F) fun args mem hfit ret h => ?_
  clear hfit
  simp only [spec_l1In_ent] at h
  split at h
  · rename_i x0 a1 b2
    simp only [Option.some.injEq, Prod.mk.injEq] at h
    obtain ⟨hc, rfl⟩ := h
    exact ⟨[], [], 70, _, (spec_l1In_run F x0 a1 b2).trans (spec_l1In_cv _ x0 a1 b2 _), rfl, rfl, rfl⟩
  · cases h

/-! loop.example/g01194/spec.l3Form -/
noncomputable def spec_l3Form_tab (F : Nat) : Tab := [(39, (spec_l1In_ent F))]
theorem spec_l3Form_tabok (F : Nat) : TabOK Try.prog (spec_l3Form_tab F) := (tab_cons (spec_l1In_meets F) spec_l1In_fok tab_nil)
noncomputable def spec_l3Form_LS0 (F : Nat) : LT := []
theorem spec_l3Form_lsok0 (F : Nat) : LoopsOK Try.prog (spec_l3Form_LS0 F) (bodyOf Try.f21) := loopsOK_nil
theorem spec_l3Form_run (F : Nat) (k0 : Int) : runS tt (spec_l3Form_tab F) (spec_l3Form_LS0 F) [] [] Try.f21 (bodyOf Try.f21) 70 [(.int .i64 k0)] [] = spec_l3Form_c _ k0 (fun r => some ⟨(.bool r), [], []⟩) := by kernel_rfl
def spec_l3Form_ent (F : Nat) : Ent := ⟨[], .quiet, fun args mem => match args, mem with
  | [(.int .i64 k0)], [] => some (true, ⟨(.bool (spec_l3Form_v k0)), [], []⟩)
  | _, _ => none⟩
theorem spec_l3Form_fok : FunOK Try.prog 21 := funOK Try.func21 (by kernel_rfl) rfl
theorem spec_l3Form_meets (F : Nat) : Meets Try.prog 21 (spec_l3Form_ent F) := by
  refine meets_of_runS mixed ttok deep (spec_l3Form_tabok F) Try.func21 (body_some rfl) (spec_l3Form_lsok0 F) fun args mem hfit ret h => ?_
  clear hfit
  simp only [spec_l3Form_ent] at h
  split at h
  · rename_i k0
    simp only [Option.some.injEq, Prod.mk.injEq] at h
    obtain ⟨hc, rfl⟩ := h
    exact ⟨[], [], 70, _, (spec_l3Form_run F k0).trans (spec_l3Form_cv _ k0 _), rfl, rfl, rfl⟩
  · cases h

/-! loop.example/g01194/spec.l3Quarter -/
noncomputable def spec_l3Quarter_tab (F : Nat) : Tab := []
theorem spec_l3Quarter_tabok (F : Nat) : TabOK Try.prog (spec_l3Quarter_tab F) := tab_nil
noncomputable def spec_l3Quarter_LS0 (F : Nat) : LT := []
theorem spec_l3Quarter_lsok0 (F : Nat) : LoopsOK Try.prog (spec_l3Quarter_LS0 F) (bodyOf Try.f51) := loopsOK_nil
theorem spec_l3Quarter_run (F : Nat) (b0 : List Int) : runS tt (spec_l3Quarter_tab F) (spec_l3Quarter_LS0 F) [] [] Try.f51 (bodyOf Try.f51) 70 [(.ints 16 b0)] [] = spec_l3Quarter_c _ b0 (fun r => some ⟨(.ints 16 r), [], []⟩) := by kernel_rfl
def spec_l3Quarter_ent (F : Nat) : Ent := ⟨[], .quiet, fun args mem => match args, mem with
  | [(.ints 16 b0)], [] => some (true, ⟨(.ints 16 (spec_l3Quarter_v b0)), [], []⟩)
  | _, _ => none⟩
theorem spec_l3Quarter_fok : FunOK Try.prog 51 := funOK Try.func51 (by kernel_rfl) rfl
theorem spec_l3Quarter_meets (F : Nat) : Meets Try.prog 51 (spec_l3Quarter_ent F) := by
  refine meets_of_runS mixed ttok deep (spec_l3Quarter_tabok F) Try.func51 (body_some rfl) (spec_l3Quarter_lsok0 F) fun args mem hfit ret h => ?_
  clear hfit
  simp only [spec_l3Quarter_ent] at h
  split at h
  · rename_i b0
    simp only [Option.some.injEq, Prod.mk.injEq] at h
    obtain ⟨hc, rfl⟩ := h
    exact ⟨[], [], 70, _, (spec_l3Quarter_run F b0).trans (spec_l3Quarter_cv _ b0 _), rfl, rfl, rfl⟩
  · cases h

/-! loop.example/g01194/spec.l3Mirror -/
noncomputable def spec_l3Mirror_tab (F : Nat) : Tab := []
theorem spec_l3Mirror_tabok (F : Nat) : TabOK Try.prog (spec_l3Mirror_tab F) := tab_nil
noncomputable def spec_l3Mirror_LS0 (F : Nat) : LT := []
theorem spec_l3Mirror_lsok0 (F : Nat) : LoopsOK Try.prog (spec_l3Mirror_LS0 F) (bodyOf Try.f52) := loopsOK_nil
theorem spec_l3Mirror_run (F : Nat) (b0 : List Int) : runS tt (spec_l3Mirror_tab F) (spec_l3Mirror_LS0 F) [] [] Try.f52 (bodyOf Try.f52) 70 [(.ints 16 b0)] [] = spec_l3Mirror_c _ b0 (fun r => some ⟨(.ints 16 r), [], []⟩) := by kernel_rfl
def spec_l3Mirror_ent (F : Nat) : Ent := ⟨[], .quiet, fun args mem => match args, mem with
  | [(.ints 16 b0)], [] => some (true, ⟨(.ints 16 (spec_l3Mirror_v b0)), [], []⟩)
  | _, _ => none⟩
theorem spec_l3Mirror_fok : FunOK Try.prog 52 := funOK Try.func52 (by kernel_rfl) rfl
theorem spec_l3Mirror_meets (F : Nat) : Meets Try.prog 52 (spec_l3Mirror_ent F) := by
  refine meets_of_runS mixed ttok deep (spec_l3Mirror_tabok F) Try.func52 (body_some rfl) (spec_l3Mirror_lsok0 F) fun args mem hfit ret h => ?_
  clear hfit
  simp only [spec_l3Mirror_ent] at h
  split at h
  · rename_i b0
    simp only [Option.some.injEq, Prod.mk.injEq] at h
    obtain ⟨hc, rfl⟩ := h
    exact ⟨[], [], 70, _, (spec_l3Mirror_run F b0).trans (spec_l3Mirror_cv _ b0 _), rfl, rfl, rfl⟩
  · cases h

/-! loop.example/g01194/spec.l3Made -/
noncomputable def spec_l3Made_tab (F : Nat) : Tab := [(51, (spec_l3Quarter_ent F)), (52, (spec_l3Mirror_ent F))]
theorem spec_l3Made_tabok (F : Nat) : TabOK Try.prog (spec_l3Made_tab F) := (tab_cons (spec_l3Quarter_meets F) spec_l3Quarter_fok (tab_cons (spec_l3Mirror_meets F) spec_l3Mirror_fok tab_nil))
noncomputable def spec_l3Made_LS0 (F : Nat) : LT := []
theorem spec_l3Made_lsok0 (F : Nat) : LoopsOK Try.prog (spec_l3Made_LS0 F) (bodyOf Try.f40) := loopsOK_nil
theorem spec_l3Made_keys : keysOK (bodyOf Try.f40) = true := by kernel_rfl
def spec_l3Made_st2 (k0 : Int) (i7 : Int) (b8 : List Int) : St := ⟨expand 19 0 [1, 2, 4, 5] [(.int .i64 k0), (.ptr 0 0 0 16), (.ptr 1 0 0 16), (.int .i64 i7)], [(.var 16 (.ri .i64 b8)), (.var 16 (.ri .i64 [(0 : Int), (0 : Int), (0 : Int), (0 : Int), (0 : Int), (0 : Int), (0 : Int), (0 : Int), (0 : Int), (0 : Int), (0 : Int), (0 : Int), (0 : Int), (0 : Int), (0 : Int), (0 : Int)]))], 0, []⟩
def spec_l3Made_o2 (k0 : Int) (x : List Int) : GT := (.out (.exit 0 ⟨expand 19 0 [1, 2, 4] [(.int .i64 k0), (.ptr 0 0 0 16), (.ptr 1 0 0 16)], [(.var 16 (.ri .i64 x)), (.var 16 (.ri .i64 [(0 : Int), (0 : Int), (0 : Int), (0 : Int), (0 : Int), (0 : Int), (0 : Int), (0 : Int), (0 : Int), (0 : Int), (0 : Int), (0 : Int), (0 : Int), (0 : Int), (0 : Int), (0 : Int)]))], 0, []⟩))
def spec_l3Made_ls2 (F : Nat) : LoopS := ⟨19, [1, 2, 4, 5], [], [1, 2, 4], [], [4], [], [], fun vals mem np killed => match vals, mem, np, killed with
  | [(.int .i64 k0), (.ptr 0 0 0 16), (.ptr 1 0 0 16), (.int .i64 i7)], [(.var 16 (.ri .i64 b8)), (.var 16 (.ri .i64 q_t49))], 0, [] => .br ((q_t49 == ([(0 : Int), (0 : Int), (0 : Int), (0 : Int), (0 : Int), (0 : Int), (0 : Int), (0 : Int), (0 : Int), (0 : Int), (0 : Int), (0 : Int), (0 : Int), (0 : Int), (0 : Int), (0 : Int)] : List Int)) && (spec_l3Made_l2 F k0 i7 b8).isSome) (spec_l3Made_o2 k0 ((spec_l3Made_l2 F k0 i7 b8).getD default)) .fail
  | _, _, _, _ => .fail⟩
theorem spec_l3Made_step2 (F : Nat) (k0 : Int) (i7 : Int) (b8 : List Int) {R : Type} (k : Out → Option R) : stepS tt (spec_l3Made_tab F) (spec_l3Made_LS0 F) 70 (spec_l3Made_ls2 F) (loopAt 2 (bodyOf Try.f40)) (spec_l3Made_st2 k0 i7 b8) k = spec_l3Made_s2 F k0 R (i7, b8) (fun s => k (.norm (spec_l3Made_st2 k0 s.1 s.2))) (fun x => (spec_l3Made_o2 k0 x).run k) := by kernel_rfl
theorem spec_l3Made_iter2 (F : Nat) (k0 : Int) {R : Type} (k : Out → Option R) : ∀ (n : Nat) (i7 : Int) (b8 : List Int), iterS tt (spec_l3Made_tab F) (spec_l3Made_LS0 F) 70 (spec_l3Made_ls2 F) (loopAt 2 (bodyOf Try.f40)) n (spec_l3Made_st2 k0 i7 b8) k = loopC (spec_l3Made_s2 F k0) n (i7, b8) (fun x => (spec_l3Made_o2 k0 x).run k)
  | 0, i7, b8 => rfl
  | n + 1, i7, b8 => (iterS_succ tt (spec_l3Made_tab F) (spec_l3Made_LS0 F) 70 (spec_l3Made_ls2 F) (loopAt 2 (bodyOf Try.f40)) n (spec_l3Made_st2 k0 i7 b8) k).trans ((spec_l3Made_step2 F k0 i7 b8 (nextK (iterS tt (spec_l3Made_tab F) (spec_l3Made_LS0 F) 70 (spec_l3Made_ls2 F) (loopAt 2 (bodyOf Try.f40)) n) k)).trans (congrArg (fun kn => spec_l3Made_s2 F k0 R (i7, b8) kn _) (funext (fun ⟨i7, b8⟩ => spec_l3Made_iter2 F k0 k n i7 b8))))
theorem spec_l3Made_lok2 (F : Nat) : LoopOK Try.prog (loopAt 2 (bodyOf Try.f40)) (spec_l3Made_ls2 F) := by
  refine loopOK_of mixed ttok deep (spec_l3Made_tabok F) (loopsOK_at (spec_l3Made_lsok0 F) 2) (fuel := 70) fun R vals mem np killed k x h => ?_
  simp only [spec_l3Made_ls2] at h
  split at h
  · rename_i k0 i7 b8 q_t49
    simp only [GT.run] at h
    have hc := (cond_noneL h).1
    replace h := (cond_noneL h).2
    have hg := (and_split hc).1
    replace hc := (and_split hc).2
    obtain rfl := beq_li hg
    refine ⟨F, (spec_l3Made_iter2 F k0 k F i7 b8).trans ((loopC_use (spec_l3Made_s2_nat F k0) hc _).trans h)⟩
  · simp only [GT.run] at h
    cases h
noncomputable def spec_l3Made_LS1 (F : Nat) : LT := (2, spec_l3Made_ls2 F) :: spec_l3Made_LS0 F
theorem spec_l3Made_lsok1 (F : Nat) : LoopsOK Try.prog (spec_l3Made_LS1 F) (bodyOf Try.f40) := loopsOK_cons spec_l3Made_keys (spec_l3Made_lok2 F) (spec_l3Made_lsok0 F)
theorem spec_l3Made_run (F : Nat) (b0 : List Int) (k1 : Int) : runS tt (spec_l3Made_tab F) (spec_l3Made_LS1 F) [] [] Try.f40 (bodyOf Try.f40) 70 [(.ints 16 b0), (.int .i64 k1)] [] = spec_l3Made_c _ F b0 k1 (fun r => some ⟨(.ints 16 r), [], []⟩) := by kernel_rfl
def spec_l3Made_ent (F : Nat) : Ent := ⟨[], .quiet, fun args mem => match args, mem with
  | [(.ints 16 b0), (.int .i64 k1)], [] => some ((spec_l3Made_p F b0 k1).isSome, ⟨(.ints 16 ((spec_l3Made_p F b0 k1).getD default)), [], []⟩)
  | _, _ => none⟩
theorem spec_l3Made_fok : FunOK Try.prog 40 := funOK Try.func40 (by kernel_rfl) rfl
theorem spec_l3Made_meets (F : Nat) : Meets Try.prog 40 (spec_l3Made_ent F) := by
  refine meets_of_runS mixed ttok deep (spec_l3Made_tabok F) Try.func40 (body_some rfl) (spec_l3Made_lsok1 F) fun args mem hfit ret h => ?_
  clear hfit
  simp only [spec_l3Made_ent] at h
  split at h
  · rename_i b0 k1
    simp only [Option.some.injEq, Prod.mk.injEq] at h
    obtain ⟨hc, rfl⟩ := h
    exact ⟨[], [], 70, _, (spec_l3Made_run F b0 k1).trans ((spec_l3Made_cp _ F b0 k1 _).trans (bind_use hc _)), rfl, rfl, rfl⟩
  · cases h

/-! loop.example/g01194/spec.l7Snake -/
noncomputable def spec_l7Snake_tab (F : Nat) : Tab := [(40, (spec_l3Made_ent F))]
theorem spec_l7Snake_tabok (F : Nat) : TabOK Try.prog (spec_l7Snake_tab F) := (tab_cons (spec_l3Made_meets F) spec_l3Made_fok tab_nil)
noncomputable def spec_l7Snake_LS0 (F : Nat) : LT := []
theorem spec_l7Snake_lsok0 (F : Nat) : LoopsOK Try.prog (spec_l7Snake_LS0 F) (bodyOf Try.f22) := loopsOK_nil
theorem spec_l7Snake_run (F : Nat) (k0 : Int) : runS tt (spec_l7Snake_tab F) (spec_l7Snake_LS0 F) [] [] Try.f22 (bodyOf Try.f22) 70 [(.int .i64 k0)] [] = spec_l7Snake_c _ F k0 (fun r => some ⟨(.ints 32 r), [], []⟩) := by kernel_rfl
def spec_l7Snake_ent (F : Nat) : Ent := ⟨[], .quiet, fun args mem => match args, mem with
  | [(.int .i64 k0)], [] => some ((spec_l7Snake_p F k0).isSome, ⟨(.ints 32 ((spec_l7Snake_p F k0).getD default)), [], []⟩)
  | _, _ => none⟩
theorem spec_l7Snake_fok : FunOK Try.prog 22 := funOK Try.func22 (by kernel_rfl) rfl
theorem spec_l7Snake_meets (F : Nat) : Meets Try.prog 22 (spec_l7Snake_ent F) := by
  refine meets_of_runS mixed ttok deep (spec_l7Snake_tabok F) Try.func22 (body_some rfl) (spec_l7Snake_lsok0 F) fun args mem hfit ret h => ?_
  clear hfit
  simp only [spec_l7Snake_ent] at h
  split at h
  · rename_i k0
    simp only [Option.some.injEq, Prod.mk.injEq] at h
    obtain ⟨hc, rfl⟩ := h
    exact ⟨[], [], 70, _, (spec_l7Snake_run F k0).trans ((spec_l7Snake_cp _ F k0 _).trans (bind_use hc _)), rfl, rfl, rfl⟩
  · cases h

/-! loop.example/g01194/spec.SnakePath -/
noncomputable def spec_SnakePath_tab (F : Nat) : Tab := [(21, (spec_l3Form_ent F)), (22, (spec_l7Snake_ent F))]
theorem spec_SnakePath_tabok (F : Nat) : TabOK Try.prog (spec_SnakePath_tab F) := (tab_cons (spec_l3Form_meets F) spec_l3Form_fok (tab_cons (spec_l7Snake_meets F) spec_l7Snake_fok tab_nil))
noncomputable def spec_SnakePath_LS0 (F : Nat) : LT := []
theorem spec_SnakePath_lsok0 (F : Nat) : LoopsOK Try.prog (spec_SnakePath_LS0 F) (bodyOf Try.f7) := loopsOK_nil
theorem spec_SnakePath_run (F : Nat) (k0 : Int) : runS tt (spec_SnakePath_tab F) (spec_SnakePath_LS0 F) [] [] Try.f7 (bodyOf Try.f7) 70 [(.int .i64 k0)] [] = spec_SnakePath_c _ F k0 (fun r => some ⟨(.tup [(.ints 32 r.1), (.bool r.2)]), [], []⟩) := by kernel_rfl
def spec_SnakePath_ent (F : Nat) : Ent := ⟨[], .quiet, fun args mem => match args, mem with
  | [(.int .i64 k0)], [] => some ((spec_SnakePath_p F k0).isSome, ⟨(.tup [(.ints 32 ((spec_SnakePath_p F k0).getD default).1), (.bool ((spec_SnakePath_p F k0).getD default).2)]), [], []⟩)
  | _, _ => none⟩
theorem spec_SnakePath_fok : FunOK Try.prog 7 := funOK Try.func7 (by kernel_rfl) rfl
theorem spec_SnakePath_meets (F : Nat) : Meets Try.prog 7 (spec_SnakePath_ent F) := by
  refine meets_of_runS mixed ttok deep (spec_SnakePath_tabok F) Try.func7 (body_some rfl) (spec_SnakePath_lsok0 F) fun args mem hfit ret h => ?_
  clear hfit
  simp only [spec_SnakePath_ent] at h
  split at h
  · rename_i k0
    simp only [Option.some.injEq, Prod.mk.injEq] at h
    obtain ⟨hc, rfl⟩ := h
    exact ⟨[], [], 70, _, (spec_SnakePath_run F k0).trans ((spec_SnakePath_cp _ F k0 _).trans (bind_use hc _)), rfl, rfl, rfl⟩
  · cases h

/-! loop.example/g01194/laws.vCut -/
noncomputable def laws_vCut_tab (F : Nat) : Tab := []
theorem laws_vCut_tabok (F : Nat) : TabOK Try.prog (laws_vCut_tab F) := tab_nil
noncomputable def laws_vCut_LS0 (F : Nat) : LT := []
theorem laws_vCut_lsok0 (F : Nat) : LoopsOK Try.prog (laws_vCut_LS0 F) (bodyOf Try.f9) := loopsOK_nil
theorem laws_vCut_run (F : Nat) (code0 : List Int) (n1 : Int) : runS tt (laws_vCut_tab F) (laws_vCut_LS0 F) [] [] Try.f9 (bodyOf Try.f9) 70 [(.ri .u8 code0), (.int .i64 n1)] [] = laws_vCut_c _ code0 n1 (fun r => some ⟨(.sl 0 0 (List.length r)), [(.vec 5 (.ri .u8 r))], []⟩) := by kernel_rfl
def laws_vCut_ent (F : Nat) : Ent := ⟨[], .fresh, fun args mem => match args, mem with
  | [(.ri .u8 code0), (.int .i64 n1)], [] => some ((laws_vCut_p code0 n1).isSome, ⟨(.sl 0 0 (List.length ((laws_vCut_p code0 n1).getD default))), [(.vec 5 (.ri .u8 ((laws_vCut_p code0 n1).getD default)))], []⟩)
  | _, _ => none⟩
theorem laws_vCut_fok : FunOK Try.prog 9 := funOK Try.func9 (by kernel_rfl) rfl
theorem laws_vCut_meets (F : Nat) : Meets Try.prog 9 (laws_vCut_ent F) := by
  refine meets_of_runS mixed ttok deep (laws_vCut_tabok F) Try.func9 (body_some rfl) (laws_vCut_lsok0 F) fun args mem hfit ret h => ?_
  clear hfit
  simp only [laws_vCut_ent] at h
  split at h
  · rename_i code0 n1
    simp only [Option.some.injEq, Prod.mk.injEq] at h
    obtain ⟨hc, rfl⟩ := h
    exact ⟨[], [], 70, _, (laws_vCut_run F code0 n1).trans ((laws_vCut_cp _ code0 n1 _).trans (bind_use hc _)), rfl, rfl, rfl⟩
  · cases h

/-! (*loop.example/g01194/spec.l1Cur).tile -/
noncomputable def spec_l1Cur_tile_tab (F : Nat) : Tab := [(36, (spec_l1Cur_among_ent F))]
theorem spec_l1Cur_tile_tabok (F : Nat) : TabOK Try.prog (spec_l1Cur_tile_tab F) := (tab_cons (spec_l1Cur_among_meets F) spec_l1Cur_among_fok tab_nil)
noncomputable def spec_l1Cur_tile_LS0 (F : Nat) : LT := []
theorem spec_l1Cur_tile_lsok0 (F : Nat) : LoopsOK Try.prog (spec_l1Cur_tile_LS0 F) (bodyOf Try.f41) := loopsOK_nil
theorem spec_l1Cur_tile_run (F : Nat) (c3 : List Int) (c4 : Int) (c5 : Int) : runS tt (spec_l1Cur_tile_tab F) (spec_l1Cur_tile_LS0 F) [] [] Try.f41 (bodyOf Try.f41) 70 [(.ptr 0 0 0 3)] [(.var 3 (.rv [(.ri .u8 c3), (.int .i64 c4), (.int .u64 c5)]))] = spec_l1Cur_tile_c _ c3 c4 c5 (fun r => some ⟨(.int .i64 r.1), [(.var 3 (.rv [(.ri .u8 c3), (.int .i64 r.2.1), (.int .u64 r.2.2)]))], []⟩) := by kernel_rfl
def spec_l1Cur_tile_ent (F : Nat) : Ent := ⟨[], .loud, fun args mem => match args, mem with
  | [(.ptr 0 0 0 3)], [(.var 3 (.rv [(.ri .u8 c3), (.int .i64 c4), (.int .u64 c5)]))] => some ((spec_l1Cur_tile_p c3 c4 c5).isSome, ⟨(.int .i64 ((spec_l1Cur_tile_p c3 c4 c5).getD default).1), [(.var 3 (.rv [(.ri .u8 c3), (.int .i64 ((spec_l1Cur_tile_p c3 c4 c5).getD default).2.1), (.int .u64 ((spec_l1Cur_tile_p c3 c4 c5).getD default).2.2)]))], []⟩)
  | _, _ => none⟩
theorem spec_l1Cur_tile_fok : FunOK Try.prog 41 := funOK Try.func41 (by kernel_rfl) rfl
theorem spec_l1Cur_tile_meets (F : Nat) : Meets Try.prog 41 (spec_l1Cur_tile_ent F) := by
  refine meets_of_runS mixed ttok deep (spec_l1Cur_tile_tabok F) Try.func41 (body_some rfl) (spec_l1Cur_tile_lsok0 F) fun args mem hfit ret h => ?_
  clear hfit
  simp only [spec_l1Cur_tile_ent] at h
  split at h
  · rename_i c3 c4 c5
    simp only [Option.some.injEq, Prod.mk.injEq] at h
    obtain ⟨hc, rfl⟩ := h
    exact ⟨[], [], 70, _, (spec_l1Cur_tile_run F c3 c4 c5).trans ((spec_l1Cur_tile_cp _ c3 c4 c5 _).trans (bind_use hc _)), rfl, rfl, rfl⟩
  · cases h
end Go.Proofs.Ytabfliifleonaai
