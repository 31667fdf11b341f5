/-
Pure functions and what the code of them does, by program; without conditions.
-/
import Derived.Test.YtabfliifleonaaaQaP0
import Derived.Test.YtabfliifleonaaaQaA
namespace Go.Proofs.Ytabfliifleonaaa
open Go Go.Lv Go.Lv.P Go.Proofs
set_option linter.unusedVariables false
set_option linter.unusedSimpArgs false
set_option maxRecDepth 100000
/-! loop.example/g01194/laws.vBig -/
noncomputable def laws_vBig_tab (F : Nat) : Tab := []
theorem laws_vBig_tabok (F : Nat) : TabOK Try.prog (laws_vBig_tab F) := tab_nil
noncomputable def laws_vBig_LS0 (F : Nat) : LT := []
theorem laws_vBig_lsok0 (F : Nat) : LoopsOK Try.prog (laws_vBig_LS0 F) (bodyOf Try.f4) := loopsOK_nil
theorem laws_vBig_run (F : Nat) (code0 : List Int) : runS tt (laws_vBig_tab F) (laws_vBig_LS0 F) [] [] Try.f4 (bodyOf Try.f4) 70 [(.ri .u8 code0)] [] = laws_vBig_c _ code0 (fun r => some ⟨(.bool r), [], []⟩) := by kernel_rfl
def laws_vBig_ent (F : Nat) : Ent := ⟨[], .quiet, fun args mem => match args, mem with
  | [(.ri .u8 code0)], [] => some (true, ⟨(.bool (laws_vBig_v code0)), [], []⟩)
  | _, _ => none⟩
theorem laws_vBig_fok : FunOK Try.prog 4 := funOK Try.func4 (by kernel_rfl) rfl
theorem laws_vBig_meets (F : Nat) : Meets Try.prog 4 (laws_vBig_ent F) := by
  refine meets_of_runS mixed ttok deep (laws_vBig_tabok F) Try.func4 (body_some rfl) (laws_vBig_lsok0 F) fun args mem hfit ret h => ?_
  clear hfit
  simp only [laws_vBig_ent] at h
  split at h
  · rename_i code0
    simp only [Option.some.injEq, Prod.mk.injEq] at h
    obtain ⟨hc, rfl⟩ := h
    exact ⟨[], [], 70, _, (laws_vBig_run F code0).trans (laws_vBig_cv _ code0 _), rfl, rfl, rfl⟩
  · cases h

/-! (*loop.example/g01194/spec.l1Cur).next -/
noncomputable def spec_l1Cur_next_tab (F : Nat) : Tab := []
theorem spec_l1Cur_next_tabok (F : Nat) : TabOK Try.prog (spec_l1Cur_next_tab F) := tab_nil
noncomputable def spec_l1Cur_next_LS0 (F : Nat) : LT := []
theorem spec_l1Cur_next_lsok0 (F : Nat) : LoopsOK Try.prog (spec_l1Cur_next_LS0 F) (bodyOf Try.f58) := loopsOK_nil
theorem spec_l1Cur_next_run (F : Nat) (c3 : List Int) (c4 : Int) (c5 : Int) : runS tt (spec_l1Cur_next_tab F) (spec_l1Cur_next_LS0 F) [] [] Try.f58 (bodyOf Try.f58) 70 [(.ptr 0 0 0 3)] [(.var 3 (.rv [(.ri .u8 c3), (.int .i64 c4), (.int .u64 c5)]))] = spec_l1Cur_next_c _ c3 c4 c5 (fun r => some ⟨(.int .i64 r.1), [(.var 3 (.rv [(.ri .u8 c3), (.int .i64 r.2.1), (.int .u64 r.2.2)]))], []⟩) := by kernel_rfl
def spec_l1Cur_next_ent (F : Nat) : Ent := ⟨[], .loud, fun args mem => match args, mem with
  | [(.ptr 0 0 0 3)], [(.var 3 (.rv [(.ri .u8 c3), (.int .i64 c4), (.int .u64 c5)]))] => some ((spec_l1Cur_next_p c3 c4 c5).isSome, ⟨(.int .i64 ((spec_l1Cur_next_p c3 c4 c5).getD default).1), [(.var 3 (.rv [(.ri .u8 c3), (.int .i64 ((spec_l1Cur_next_p c3 c4 c5).getD default).2.1), (.int .u64 ((spec_l1Cur_next_p c3 c4 c5).getD default).2.2)]))], []⟩)
  | _, _ => none⟩
theorem spec_l1Cur_next_fok : FunOK Try.prog 58 := funOK Try.func58 (by kernel_rfl) rfl
theorem spec_l1Cur_next_meets (F : Nat) : Meets Try.prog 58 (spec_l1Cur_next_ent F) := by
  refine meets_of_runS mixed ttok deep (spec_l1Cur_next_tabok F) Try.func58 (body_some rfl) (spec_l1Cur_next_lsok0 F) fun args mem hfit ret h => ?_
  clear hfit
  simp only [spec_l1Cur_next_ent] at h
  split at h
  · rename_i c3 c4 c5
    simp only [Option.some.injEq, Prod.mk.injEq] at h
    obtain ⟨hc, rfl⟩ := h
    exact ⟨[], [], 70, _, (spec_l1Cur_next_run F c3 c4 c5).trans ((spec_l1Cur_next_cp _ c3 c4 c5 _).trans (bind_use hc _)), rfl, rfl, rfl⟩
  · cases h

/-! (*loop.example/g01194/spec.l1Cur).pick -/
noncomputable def spec_l1Cur_pick_tab (F : Nat) : Tab := [(58, (spec_l1Cur_next_ent F))]
theorem spec_l1Cur_pick_tabok (F : Nat) : TabOK Try.prog (spec_l1Cur_pick_tab F) := (tab_cons (spec_l1Cur_next_meets F) spec_l1Cur_next_fok tab_nil)
noncomputable def spec_l1Cur_pick_LS0 (F : Nat) : LT := []
theorem spec_l1Cur_pick_lsok0 (F : Nat) : LoopsOK Try.prog (spec_l1Cur_pick_LS0 F) (bodyOf Try.f37) := loopsOK_nil
theorem spec_l1Cur_pick_run (F : Nat) (n3 : Int) (c4 : List Int) (c5 : Int) (c6 : Int) : runS tt (spec_l1Cur_pick_tab F) (spec_l1Cur_pick_LS0 F) [] [] Try.f37 (bodyOf Try.f37) 70 [(.ptr 0 0 0 3), (.int .i64 n3)] [(.var 3 (.rv [(.ri .u8 c4), (.int .i64 c5), (.int .u64 c6)]))] = spec_l1Cur_pick_c _ n3 c4 c5 c6 (fun r => some ⟨(.int .i64 r.1), [(.var 3 (.rv [(.ri .u8 c4), (.int .i64 r.2.1), (.int .u64 r.2.2)]))], []⟩) := by kernel_rfl
def spec_l1Cur_pick_ent (F : Nat) : Ent := ⟨[], .loud, fun args mem => match args, mem with
  | [(.ptr 0 0 0 3), (.int .i64 n3)], [(.var 3 (.rv [(.ri .u8 c4), (.int .i64 c5), (.int .u64 c6)]))] => some ((spec_l1Cur_pick_p n3 c4 c5 c6).isSome, ⟨(.int .i64 ((spec_l1Cur_pick_p n3 c4 c5 c6).getD default).1), [(.var 3 (.rv [(.ri .u8 c4), (.int .i64 ((spec_l1Cur_pick_p n3 c4 c5 c6).getD default).2.1), (.int .u64 ((spec_l1Cur_pick_p n3 c4 c5 c6).getD default).2.2)]))], []⟩)
  | _, _ => none⟩
theorem spec_l1Cur_pick_fok : FunOK Try.prog 37 := funOK Try.func37 (by kernel_rfl) rfl
theorem spec_l1Cur_pick_meets (F : Nat) : Meets Try.prog 37 (spec_l1Cur_pick_ent F) := by
  refine meets_of_runS mixed ttok deep (spec_l1Cur_pick_tabok F) Try.func37 (body_some rfl) (spec_l1Cur_pick_lsok0 F) fun args mem hfit ret h => ?_
  clear hfit
  simp only [spec_l1Cur_pick_ent] at h
  split at h
  · rename_i n3 c4 c5 c6
    simp only [Option.some.injEq, Prod.mk.injEq] at h
    obtain ⟨hc, rfl⟩ := h
    exact ⟨[], [], 70, _, (spec_l1Cur_pick_run F n3 c4 c5 c6).trans ((spec_l1Cur_pick_cp _ n3 c4 c5 c6 _).trans (bind_use hc _)), rfl, rfl, rfl⟩
  · cases h

/-! (*loop.example/g01194/spec.l1Cur).one -/
noncomputable def spec_l1Cur_one_tab (F : Nat) : Tab := [(37, (spec_l1Cur_pick_ent F))]
theorem spec_l1Cur_one_tabok (F : Nat) : TabOK Try.prog (spec_l1Cur_one_tab F) := (tab_cons (spec_l1Cur_pick_meets F) spec_l1Cur_pick_fok tab_nil)
noncomputable def spec_l1Cur_one_LS0 (F : Nat) : LT := []
theorem spec_l1Cur_one_lsok0 (F : Nat) : LoopsOK Try.prog (spec_l1Cur_one_LS0 F) (bodyOf Try.f53) := loopsOK_nil
theorem spec_l1Cur_one_run (F : Nat) (n3 : Int) (c4 : List Int) (c5 : Int) (c6 : Int) : runS tt (spec_l1Cur_one_tab F) (spec_l1Cur_one_LS0 F) [] [] Try.f53 (bodyOf Try.f53) 70 [(.ptr 0 0 0 3), (.int .i64 n3)] [(.var 3 (.rv [(.ri .u8 c4), (.int .i64 c5), (.int .u64 c6)]))] = spec_l1Cur_one_c _ n3 c4 c5 c6 (fun r => some ⟨(.bool r.1), [(.var 3 (.rv [(.ri .u8 c4), (.int .i64 r.2.1), (.int .u64 r.2.2)]))], []⟩) := by kernel_rfl
def spec_l1Cur_one_ent (F : Nat) : Ent := ⟨[], .loud, fun args mem => match args, mem with
  | [(.ptr 0 0 0 3), (.int .i64 n3)], [(.var 3 (.rv [(.ri .u8 c4), (.int .i64 c5), (.int .u64 c6)]))] => some ((spec_l1Cur_one_p n3 c4 c5 c6).isSome, ⟨(.bool ((spec_l1Cur_one_p n3 c4 c5 c6).getD default).1), [(.var 3 (.rv [(.ri .u8 c4), (.int .i64 ((spec_l1Cur_one_p n3 c4 c5 c6).getD default).2.1), (.int .u64 ((spec_l1Cur_one_p n3 c4 c5 c6).getD default).2.2)]))], []⟩)
  | _, _ => none⟩
theorem spec_l1Cur_one_fok : FunOK Try.prog 53 := funOK Try.func53 (by kernel_rfl) rfl
theorem spec_l1Cur_one_meets (F : Nat) : Meets Try.prog 53 (spec_l1Cur_one_ent F) := by
  refine meets_of_runS mixed ttok deep (spec_l1Cur_one_tabok F) Try.func53 (body_some rfl) (spec_l1Cur_one_lsok0 F) fun args mem hfit ret h => ?_
  clear hfit
  simp only [spec_l1Cur_one_ent] at h
  split at h
  · rename_i n3 c4 c5 c6
    simp only [Option.some.injEq, Prod.mk.injEq] at h
    obtain ⟨hc, rfl⟩ := h
    exact ⟨[], [], 70, _, (spec_l1Cur_one_run F n3 c4 c5 c6).trans ((spec_l1Cur_one_cp _ n3 c4 c5 c6 _).trans (bind_use hc _)), rfl, rfl, rfl⟩
  · cases h

/-! (*loop.example/g01194/spec.l1Cur).among -/
noncomputable def spec_l1Cur_among_tab (F : Nat) : Tab := [(37, (spec_l1Cur_pick_ent F))]
theorem spec_l1Cur_among_tabok (F : Nat) : TabOK Try.prog (spec_l1Cur_among_tab F) := (tab_cons (spec_l1Cur_pick_meets F) spec_l1Cur_pick_fok tab_nil)
noncomputable def spec_l1Cur_among_LS0 (F : Nat) : LT := []
theorem spec_l1Cur_among_lsok0 (F : Nat) : LoopsOK Try.prog (spec_l1Cur_among_LS0 F) (bodyOf Try.f36) := loopsOK_nil
theorem spec_l1Cur_among_run (F : Nat) (list3 : List Int) (c4 : List Int) (c5 : Int) (c6 : Int) : runS tt (spec_l1Cur_among_tab F) (spec_l1Cur_among_LS0 F) [] [] Try.f36 (bodyOf Try.f36) 70 [(.ptr 0 0 0 3), (.ri .i64 list3)] [(.var 3 (.rv [(.ri .u8 c4), (.int .i64 c5), (.int .u64 c6)]))] = spec_l1Cur_among_c _ list3 c4 c5 c6 (fun r => some ⟨(.int .i64 r.1), [(.var 3 (.rv [(.ri .u8 c4), (.int .i64 r.2.1), (.int .u64 r.2.2)]))], []⟩) := by kernel_rfl
def spec_l1Cur_among_ent (F : Nat) : Ent := ⟨[], .loud, fun args mem => match args, mem with
  | [(.ptr 0 0 0 3), (.ri .i64 list3)], [(.var 3 (.rv [(.ri .u8 c4), (.int .i64 c5), (.int .u64 c6)]))] => some ((spec_l1Cur_among_p list3 c4 c5 c6).isSome, ⟨(.int .i64 ((spec_l1Cur_among_p list3 c4 c5 c6).getD default).1), [(.var 3 (.rv [(.ri .u8 c4), (.int .i64 ((spec_l1Cur_among_p list3 c4 c5 c6).getD default).2.1), (.int .u64 ((spec_l1Cur_among_p list3 c4 c5 c6).getD default).2.2)]))], []⟩)
  | _, _ => none⟩
theorem spec_l1Cur_among_fok : FunOK Try.prog 36 := funOK Try.func36 (by kernel_rfl) rfl
theorem spec_l1Cur_among_meets (F : Nat) : Meets Try.prog 36 (spec_l1Cur_among_ent F) := by
  refine meets_of_runS mixed ttok deep (spec_l1Cur_among_tabok F) Try.func36 (body_some rfl) (spec_l1Cur_among_lsok0 F) fun args mem hfit ret h => ?_
  clear hfit
  simp only [spec_l1Cur_among_ent] at h
  split at h
  · rename_i list3 c4 c5 c6
    simp only [Option.some.injEq, Prod.mk.injEq] at h
    obtain ⟨hc, rfl⟩ := h
    exact ⟨[], [], 70, _, (spec_l1Cur_among_run F list3 c4 c5 c6).trans ((spec_l1Cur_among_cp _ list3 c4 c5 c6 _).trans (bind_use hc _)), rfl, rfl, rfl⟩
  · cases h

/-! (*loop.example/g01194/spec.l1Cur).sum7 -/
noncomputable def spec_l1Cur_sum7_tab (F : Nat) : Tab := [(53, (spec_l1Cur_one_ent F)), (36, (spec_l1Cur_among_ent F))]
theorem spec_l1Cur_sum7_tabok (F : Nat) : TabOK Try.prog (spec_l1Cur_sum7_tab F) := (tab_cons (spec_l1Cur_one_meets F) spec_l1Cur_one_fok (tab_cons (spec_l1Cur_among_meets F) spec_l1Cur_among_fok tab_nil))
noncomputable def spec_l1Cur_sum7_LS0 (F : Nat) : LT := []
theorem spec_l1Cur_sum7_lsok0 (F : Nat) : LoopsOK Try.prog (spec_l1Cur_sum7_LS0 F) (bodyOf Try.f26) := loopsOK_nil
theorem spec_l1Cur_sum7_run (F : Nat) (c3 : List Int) (c4 : Int) (c5 : Int) : runS tt (spec_l1Cur_sum7_tab F) (spec_l1Cur_sum7_LS0 F) [] [] Try.f26 (bodyOf Try.f26) 70 [(.ptr 0 0 0 3)] [(.var 3 (.rv [(.ri .u8 c3), (.int .i64 c4), (.int .u64 c5)]))] = spec_l1Cur_sum7_c _ c3 c4 c5 (fun r => some ⟨(.int .i64 r.1), [(.var 3 (.rv [(.ri .u8 c3), (.int .i64 r.2.1), (.int .u64 r.2.2)]))], []⟩) := by kernel_rfl
def spec_l1Cur_sum7_ent (F : Nat) : Ent := ⟨[], .loud, fun args mem => match args, mem with
  | [(.ptr 0 0 0 3)], [(.var 3 (.rv [(.ri .u8 c3), (.int .i64 c4), (.int .u64 c5)]))] => some ((spec_l1Cur_sum7_p c3 c4 c5).isSome, ⟨(.int .i64 ((spec_l1Cur_sum7_p c3 c4 c5).getD default).1), [(.var 3 (.rv [(.ri .u8 c3), (.int .i64 ((spec_l1Cur_sum7_p c3 c4 c5).getD default).2.1), (.int .u64 ((spec_l1Cur_sum7_p c3 c4 c5).getD default).2.2)]))], []⟩)
  | _, _ => none⟩
theorem spec_l1Cur_sum7_fok : FunOK Try.prog 26 := funOK Try.func26 (by kernel_rfl) rfl
theorem spec_l1Cur_sum7_meets (F : Nat) : Meets Try.prog 26 (spec_l1Cur_sum7_ent F) := by
  refine meets_of_runS mixed ttok deep (spec_l1Cur_sum7_tabok F) Try.func26 (body_some rfl) (spec_l1Cur_sum7_lsok0 F) fun args mem hfit ret h => ?_
  clear hfit
  simp only [spec_l1Cur_sum7_ent] at h
  split at h
  · rename_i c3 c4 c5
    simp only [Option.some.injEq, Prod.mk.injEq] at h
    obtain ⟨hc, rfl⟩ := h
    exact ⟨[], [], 70, _, (spec_l1Cur_sum7_run F c3 c4 c5).trans ((spec_l1Cur_sum7_cp _ c3 c4 c5 _).trans (bind_use hc _)), rfl, rfl, rfl⟩
  · cases h

/-! loop.example/g01194/spec.DrawLeastTiles -/
noncomputable def spec_DrawLeastTiles_tab (F : Nat) : Tab := [(26, (spec_l1Cur_sum7_ent F))]
theorem spec_DrawLeastTiles_tabok (F : Nat) : TabOK Try.prog (spec_DrawLeastTiles_tab F) := (tab_cons (spec_l1Cur_sum7_meets F) spec_l1Cur_sum7_fok tab_nil)
noncomputable def spec_DrawLeastTiles_LS0 (F : Nat) : LT := []
theorem spec_DrawLeastTiles_lsok0 (F : Nat) : LoopsOK Try.prog (spec_DrawLeastTiles_LS0 F) (bodyOf Try.f5) := loopsOK_nil
theorem spec_DrawLeastTiles_run (F : Nat) (code0 : List Int) : runS tt (spec_DrawLeastTiles_tab F) (spec_DrawLeastTiles_LS0 F) [] [] Try.f5 (bodyOf Try.f5) 70 [(.ri .u8 code0)] [] = spec_DrawLeastTiles_c _ code0 (fun r => some ⟨(.int .i64 r), [], []⟩) := by kernel_rfl
def spec_DrawLeastTiles_ent (F : Nat) : Ent := ⟨[], .quiet, fun args mem => match args, mem with
  | [(.ri .u8 code0)], [] => some ((spec_DrawLeastTiles_p code0).isSome, ⟨(.int .i64 ((spec_DrawLeastTiles_p code0).getD default)), [], []⟩)
  | _, _ => none⟩
theorem spec_DrawLeastTiles_fok : FunOK Try.prog 5 := funOK Try.func5 (by kernel_rfl) rfl
theorem spec_DrawLeastTiles_meets (F : Nat) : Meets Try.prog 5 (spec_DrawLeastTiles_ent F) := by
  refine meets_of_runS mixed ttok deep (spec_DrawLeastTiles_tabok F) Try.func5 (body_some rfl) (spec_DrawLeastTiles_lsok0 F) fun args mem hfit ret h => ?_
  clear hfit
  simp only [spec_DrawLeastTiles_ent] at h
  split at h
  · rename_i code0
    simp only [Option.some.injEq, Prod.mk.injEq] at h
    obtain ⟨hc, rfl⟩ := h
    exact ⟨[], [], 70, _, (spec_DrawLeastTiles_run F code0).trans ((spec_DrawLeastTiles_cp _ code0 _).trans (bind_use hc _)), rfl, rfl, rfl⟩
  · cases h

/-! loop.example/g01194/impl.in -/
noncomputable def impl_in_tab (F : Nat) : Tab := []
theorem impl_in_tabok (F : Nat) : TabOK Try.prog (impl_in_tab F) := tab_nil
noncomputable def impl_in_LS0 (F : Nat) : LT := []
theorem impl_in_lsok0 (F : Nat) : LoopsOK Try.prog (impl_in_LS0 F) (bodyOf Try.f39) := loopsOK_nil
theorem impl_in_run (F : Nat) (n0 : Int) (low1 : Int) (high2 : Int) : runS tt (impl_in_tab F) (impl_in_LS0 F) [] [] Try.f39 (bodyOf Try.f39) 70 [(.int .i64 n0), (.int .i64 low1), (.int .i64 high2)] [] = impl_in_c _ n0 low1 high2 (fun r => some ⟨(.bool r), [], []⟩) := by kernel_rfl
def impl_in_ent (F : Nat) : Ent := ⟨[], .quiet, fun args mem => match args, mem with
  | [(.int .i64 n0), (.int .i64 low1), (.int .i64 high2)], [] => some (true, ⟨(.bool (impl_in_v n0 low1 high2)), [], []⟩)
  | _, _ => none⟩
theorem impl_in_fok : FunOK Try.prog 39 := funOK Try.func39 (by kernel_rfl) rfl
theorem impl_in_meets (F : Nat) : Meets Try.prog 39 (impl_in_ent F) := by
  refine meets_of_runS mixed ttok deep (impl_in_tabok F) Try.func39 (body_some rfl) (impl_in_lsok0 F) fun args mem hfit ret h => ?_
  clear hfit
  simp only [impl_in_ent] at h
  split at h
  · rename_i n0 low1 high2
    simp only [Option.some.injEq, Prod.mk.injEq] at h
    obtain ⟨hc, rfl⟩ := h
    exact ⟨[], [], 70, _, (impl_in_run F n0 low1 high2).trans (impl_in_cv _ n0 low1 high2 _), rfl, rfl, rfl⟩
  · cases h

/-! loop.example/g01194/impl.isSum -/
noncomputable def impl_isSum_tab (F : Nat) : Tab := [(39, (impl_in_ent F))]
theorem impl_isSum_tabok (F : Nat) : TabOK Try.prog (impl_isSum_tab F) := (tab_cons (impl_in_meets F) impl_in_fok tab_nil)
noncomputable def impl_isSum_LS0 (F : Nat) : LT := []
theorem impl_isSum_lsok0 (F : Nat) : LoopsOK Try.prog (impl_isSum_LS0 F) (bodyOf Try.f38) := loopsOK_nil
theorem impl_isSum_run (F : Nat) (sum0 : Int) : runS tt (impl_isSum_tab F) (impl_isSum_LS0 F) [] [] Try.f38 (bodyOf Try.f38) 70 [(.int .i64 sum0)] [] = impl_isSum_c _ sum0 (fun r => some ⟨(.bool r), [], []⟩) := by kernel_rfl
def impl_isSum_ent (F : Nat) : Ent := ⟨[], .quiet, fun args mem => match args, mem with
  | [(.int .i64 sum0)], [] => some (true, ⟨(.bool (impl_isSum_v sum0)), [], []⟩)
  | _, _ => none⟩
theorem impl_isSum_fok : FunOK Try.prog 38 := funOK Try.func38 (by kernel_rfl) rfl
theorem impl_isSum_meets (F : Nat) : Meets Try.prog 38 (impl_isSum_ent F) := by
  refine meets_of_runS mixed ttok deep (impl_isSum_tabok F) Try.func38 (body_some rfl) (impl_isSum_lsok0 F) fun args mem hfit ret h => ?_
  clear hfit
  simp only [impl_isSum_ent] at h
  split at h
  · rename_i sum0
    simp only [Option.some.injEq, Prod.mk.injEq] at h
    obtain ⟨hc, rfl⟩ := h
    exact ⟨[], [], 70, _, (impl_isSum_run F sum0).trans (impl_isSum_cv _ sum0 _), rfl, rfl, rfl⟩
  · cases h

/-! math/bits.OnesCount64 -/
noncomputable def math_bits_OnesCount64_tab (F : Nat) : Tab := []
theorem math_bits_OnesCount64_tabok (F : Nat) : TabOK Try.prog (math_bits_OnesCount64_tab F) := tab_nil
noncomputable def math_bits_OnesCount64_LS0 (F : Nat) : LT := []
theorem math_bits_OnesCount64_lsok0 (F : Nat) : LoopsOK Try.prog (math_bits_OnesCount64_LS0 F) (bodyOf Try.f71) := loopsOK_nil
theorem math_bits_OnesCount64_run (F : Nat) (x0 : Int) : runS tt (math_bits_OnesCount64_tab F) (math_bits_OnesCount64_LS0 F) [] [] Try.f71 (bodyOf Try.f71) 70 [(.int .u64 x0)] [] = math_bits_OnesCount64_c _ x0 (fun r => some ⟨(.int .i64 r), [], []⟩) := by kernel_rfl
def math_bits_OnesCount64_ent (F : Nat) : Ent := ⟨[], .quiet, fun args mem => match args, mem with
  | [(.int .u64 x0)], [] => some (true, ⟨(.int .i64 (math_bits_OnesCount64_v x0)), [], []⟩)
  | _, _ => none⟩
theorem math_bits_OnesCount64_fok : FunOK Try.prog 71 := funOK Try.func71 (by kernel_rfl) rfl
theorem math_bits_OnesCount64_meets (F : Nat) : Meets Try.prog 71 (math_bits_OnesCount64_ent F) := by
  refine meets_of_runS mixed ttok deep (math_bits_OnesCount64_tabok F) Try.func71 (body_some rfl) (math_bits_OnesCount64_lsok0 F) fun args mem hfit ret h => ?_
  clear hfit
  simp only [math_bits_OnesCount64_ent] at h
  split at h
  · rename_i x0
    simp only [Option.some.injEq, Prod.mk.injEq] at h
    obtain ⟨hc, rfl⟩ := h
    exact ⟨[], [], 70, _, (math_bits_OnesCount64_run F x0).trans (math_bits_OnesCount64_cv _ x0 _), rfl, rfl, rfl⟩
  · cases h

/-! math/bits.OnesCount -/
noncomputable def math_bits_OnesCount_tab (F : Nat) : Tab := [(71, (math_bits_OnesCount64_ent F))]
theorem math_bits_OnesCount_tabok (F : Nat) : TabOK Try.prog (math_bits_OnesCount_tab F) := (tab_cons (math_bits_OnesCount64_meets F) math_bits_OnesCount64_fok tab_nil)
noncomputable def math_bits_OnesCount_LS0 (F : Nat) : LT := []
theorem math_bits_OnesCount_lsok0 (F : Nat) : LoopsOK Try.prog (math_bits_OnesCount_LS0 F) (bodyOf Try.f54) := loopsOK_nil
theorem math_bits_OnesCount_run (F : Nat) (x0 : Int) : runS tt (math_bits_OnesCount_tab F) (math_bits_OnesCount_LS0 F) [] [] Try.f54 (bodyOf Try.f54) 70 [(.int .u64 x0)] [] = math_bits_OnesCount_c _ x0 (fun r => some ⟨(.int .i64 r), [], []⟩) := by kernel_rfl
def math_bits_OnesCount_ent (F : Nat) : Ent := ⟨[], .quiet, fun args mem => match args, mem with
  | [(.int .u64 x0)], [] => some (true, ⟨(.int .i64 (math_bits_OnesCount_v x0)), [], []⟩)
  | _, _ => none⟩
theorem math_bits_OnesCount_fok : FunOK Try.prog 54 := funOK Try.func54 (by kernel_rfl) rfl
theorem math_bits_OnesCount_meets (F : Nat) : Meets Try.prog 54 (math_bits_OnesCount_ent F) := by
  refine meets_of_runS mixed ttok deep (math_bits_OnesCount_tabok F) Try.func54 (body_some rfl) (math_bits_OnesCount_lsok0 F) fun args mem hfit ret h => ?_
  clear hfit
  simp only [math_bits_OnesCount_ent] at h
  split at h
  · rename_i x0
    simp only [Option.some.injEq, Prod.mk.injEq] at h
    obtain ⟨hc, rfl⟩ := h
    exact ⟨[], [], 70, _, (math_bits_OnesCount_run F x0).trans (math_bits_OnesCount_cv _ x0 _), rfl, rfl, rfl⟩
  · cases h

/-! loop.example/g01194/impl.leastTiles -/
noncomputable def impl_leastTiles_tab (F : Nat) : Tab := [(54, (math_bits_OnesCount_ent F))]
theorem impl_leastTiles_tabok (F : Nat) : TabOK Try.prog (impl_leastTiles_tab F) := (tab_cons (math_bits_OnesCount_meets F) math_bits_OnesCount_fok tab_nil)
noncomputable def impl_leastTiles_LS0 (F : Nat) : LT := []
theorem impl_leastTiles_lsok0 (F : Nat) : LoopsOK Try.prog (impl_leastTiles_LS0 F) (bodyOf Try.f28) := loopsOK_nil
theorem impl_leastTiles_run (F : Nat) (sum0 : Int) : runS tt (impl_leastTiles_tab F) (impl_leastTiles_LS0 F) [] [] Try.f28 (bodyOf Try.f28) 70 [(.int .i64 sum0)] [] = impl_leastTiles_c _ sum0 (fun r => some ⟨(.int .i64 r), [], []⟩) := by kernel_rfl
def impl_leastTiles_ent (F : Nat) : Ent := ⟨[], .quiet, fun args mem => match args, mem with
  | [(.int .i64 sum0)], [] => some (true, ⟨(.int .i64 (impl_leastTiles_v sum0)), [], []⟩)
  | _, _ => none⟩
theorem impl_leastTiles_fok : FunOK Try.prog 28 := funOK Try.func28 (by kernel_rfl) rfl
theorem impl_leastTiles_meets (F : Nat) : Meets Try.prog 28 (impl_leastTiles_ent F) := by
  refine meets_of_runS mixed ttok deep (impl_leastTiles_tabok F) Try.func28 (body_some rfl) (impl_leastTiles_lsok0 F) fun args mem hfit ret h => ?_
  clear hfit
  simp only [impl_leastTiles_ent] at h
  split at h
  · rename_i sum0
    simp only [Option.some.injEq, Prod.mk.injEq] at h
    obtain ⟨hc, rfl⟩ := h
    exact ⟨[], [], 70, _, (impl_leastTiles_run F sum0).trans (impl_leastTiles_cv _ sum0 _), rfl, rfl, rfl⟩
  · cases h

/-! loop.example/g01194/impl.isFor -/
noncomputable def impl_isFor_tab (F : Nat) : Tab := [(38, (impl_isSum_ent F)), (28, (impl_leastTiles_ent F))]
theorem impl_isFor_tabok (F : Nat) : TabOK Try.prog (impl_isFor_tab F) := (tab_cons (impl_isSum_meets F) impl_isSum_fok (tab_cons (impl_leastTiles_meets F) impl_leastTiles_fok tab_nil))
noncomputable def impl_isFor_LS0 (F : Nat) : LT := []
theorem impl_isFor_lsok0 (F : Nat) : LoopsOK Try.prog (impl_isFor_LS0 F) (bodyOf Try.f27) := loopsOK_nil
theorem impl_isFor_run (F : Nat) (sum0 : Int) : runS tt (impl_isFor_tab F) (impl_isFor_LS0 F) [] [] Try.f27 (bodyOf Try.f27) 70 [(.int .i64 sum0)] [] = impl_isFor_c _ sum0 (fun r => some ⟨(.bool r), [], []⟩) := by kernel_rfl
def impl_isFor_ent (F : Nat) : Ent := ⟨[], .quiet, fun args mem => match args, mem with
  | [(.int .i64 sum0)], [] => some (true, ⟨(.bool (impl_isFor_v sum0)), [], []⟩)
  | _, _ => none⟩
theorem impl_isFor_fok : FunOK Try.prog 27 := funOK Try.func27 (by kernel_rfl) rfl
theorem impl_isFor_meets (F : Nat) : Meets Try.prog 27 (impl_isFor_ent F) := by
  refine meets_of_runS mixed ttok deep (impl_isFor_tabok F) Try.func27 (body_some rfl) (impl_isFor_lsok0 F) fun args mem hfit ret h => ?_
  clear hfit
  simp only [impl_isFor_ent] at h
  split at h
  · rename_i sum0
    simp only [Option.some.injEq, Prod.mk.injEq] at h
    obtain ⟨hc, rfl⟩ := h
    exact ⟨[], [], 70, _, (impl_isFor_run F sum0).trans (impl_isFor_cv _ sum0 _), rfl, rfl, rfl⟩
  · cases h

/-! loop.example/g01194/impl.LeastTiles -/
noncomputable def impl_LeastTiles_tab (F : Nat) : Tab := [(27, (impl_isFor_ent F)), (28, (impl_leastTiles_ent F))]
theorem impl_LeastTiles_tabok (F : Nat) : TabOK Try.prog (impl_LeastTiles_tab F) := (tab_cons (impl_isFor_meets F) impl_isFor_fok (tab_cons (impl_leastTiles_meets F) impl_leastTiles_fok tab_nil))
noncomputable def impl_LeastTiles_LS0 (F : Nat) : LT := []
theorem impl_LeastTiles_lsok0 (F : Nat) : LoopsOK Try.prog (impl_LeastTiles_LS0 F) (bodyOf Try.f6) := loopsOK_nil
theorem impl_LeastTiles_run (F : Nat) (sum0 : Int) : runS tt (impl_LeastTiles_tab F) (impl_LeastTiles_LS0 F) [] [] Try.f6 (bodyOf Try.f6) 70 [(.int .i64 sum0)] [] = impl_LeastTiles_c _ sum0 (fun r => some ⟨(.tup [(.int .i64 r.1), (.bool r.2)]), [], []⟩) := by kernel_rfl
def impl_LeastTiles_ent (F : Nat) : Ent := ⟨[], .quiet, fun args mem => match args, mem with
  | [(.int .i64 sum0)], [] => some (true, ⟨(.tup [(.int .i64 (impl_LeastTiles_v sum0).1), (.bool (impl_LeastTiles_v sum0).2)]), [], []⟩)
  | _, _ => none⟩
theorem impl_LeastTiles_fok : FunOK Try.prog 6 := funOK Try.func6 (by kernel_rfl) rfl
theorem impl_LeastTiles_meets (F : Nat) : Meets Try.prog 6 (impl_LeastTiles_ent F) := by
  refine meets_of_runS mixed ttok deep (impl_LeastTiles_tabok F) Try.func6 (body_some rfl) (impl_LeastTiles_lsok0 F) fun args mem hfit ret h => ?_
  clear hfit
  simp only [impl_LeastTiles_ent] at h
  split at h
  · rename_i sum0
    simp only [Option.some.injEq, Prod.mk.injEq] at h
    obtain ⟨hc, rfl⟩ := h
    exact ⟨[], [], 70, _, (impl_LeastTiles_run F sum0).trans (impl_LeastTiles_cv _ sum0 _), rfl, rfl, rfl⟩
  · cases h

/-! loop.example/g01194/spec.l1In -/
noncomputable def spec_l1In_tab (F : Nat) : Tab := []
theorem spec_l1In_tabok (F : Nat) : TabOK Try.prog (spec_l1In_tab F) := tab_nil
noncomputable def spec_l1In_LS0 (F : Nat) : LT := []
theorem spec_l1In_lsok0 (F : Nat) : LoopsOK Try.prog (spec_l1In_LS0 F) (bodyOf Try.f40) := loopsOK_nil
theorem spec_l1In_run (F : Nat) (x0 : Int) (a1 : Int) (b2 : Int) : runS tt (spec_l1In_tab F) (spec_l1In_LS0 F) [] [] Try.f40 (bodyOf Try.f40) 70 [(.int .i64 x0), (.int .i64 a1), (.int .i64 b2)] [] = spec_l1In_c _ x0 a1 b2 (fun r => some ⟨(.bool r), [], []⟩) := by kernel_rfl
def spec_l1In_ent (F : Nat) : Ent := ⟨[], .quiet, fun args mem => match args, mem with
  | [(.int .i64 x0), (.int .i64 a1), (.int .i64 b2)], [] => some (true, ⟨(.bool (spec_l1In_v x0 a1 b2)), [], []⟩)
  | _, _ => none⟩
theorem spec_l1In_fok : FunOK Try.prog 40 := funOK Try.func40 (by kernel_rfl) rfl
theorem spec_l1In_meets (F : Nat) : Meets Try.prog 40 (spec_l1In_ent F) := by
  refine meets_of_runS mixed ttok deep (spec_l1In_tabok F) Try.func40 (body_some rfl) (spec_l1In_lsok0 F) fun args mem hfit ret h => ?_
  clear hfit
  simp only [spec_l1In_ent] at h
  split at h
  · rename_i x0 a1 b2
    simp only [Option.some.injEq, Prod.mk.injEq] at h
    obtain ⟨hc, rfl⟩ := h
    exact ⟨[], [], 70, _, (spec_l1In_run F x0 a1 b2).trans (spec_l1In_cv _ x0 a1 b2 _), rfl, rfl, rfl⟩
  · cases h

/-! loop.example/g01194/spec.l2Worth -/
noncomputable def spec_l2Worth_tab (F : Nat) : Tab := []
theorem spec_l2Worth_tabok (F : Nat) : TabOK Try.prog (spec_l2Worth_tab F) := tab_nil
noncomputable def spec_l2Worth_LS0 (F : Nat) : LT := []
theorem spec_l2Worth_lsok0 (F : Nat) : LoopsOK Try.prog (spec_l2Worth_LS0 F) (bodyOf Try.f55) := loopsOK_nil
theorem spec_l2Worth_run (F : Nat) (t0 : Int) : runS tt (spec_l2Worth_tab F) (spec_l2Worth_LS0 F) [] [] Try.f55 (bodyOf Try.f55) 70 [(.int .i64 t0)] [] = spec_l2Worth_c _ t0 (fun r => some ⟨(.int .i64 r), [], []⟩) := by kernel_rfl
def spec_l2Worth_ent (F : Nat) : Ent := ⟨[], .quiet, fun args mem => match args, mem with
  | [(.int .i64 t0)], [] => some ((spec_l2Worth_p t0).isSome, ⟨(.int .i64 ((spec_l2Worth_p t0).getD default)), [], []⟩)
  | _, _ => none⟩
theorem spec_l2Worth_fok : FunOK Try.prog 55 := funOK Try.func55 (by kernel_rfl) rfl
theorem spec_l2Worth_meets (F : Nat) : Meets Try.prog 55 (spec_l2Worth_ent F) := by
  refine meets_of_runS mixed ttok deep (spec_l2Worth_tabok F) Try.func55 (body_some rfl) (spec_l2Worth_lsok0 F) fun args mem hfit ret h => ?_
  clear hfit
  simp only [spec_l2Worth_ent] at h
  split at h
  · rename_i t0
    simp only [Option.some.injEq, Prod.mk.injEq] at h
    obtain ⟨hc, rfl⟩ := h
    exact ⟨[], [], 70, _, (spec_l2Worth_run F t0).trans ((spec_l2Worth_cp _ t0 _).trans (bind_use hc _)), rfl, rfl, rfl⟩
  · cases h

/-! loop.example/g01194/spec.l7Least -/
noncomputable def spec_l7Least_tab (F : Nat) : Tab := [(55, (spec_l2Worth_ent F))]
theorem spec_l7Least_tabok (F : Nat) : TabOK Try.prog (spec_l7Least_tab F) := (tab_cons (spec_l2Worth_meets F) spec_l2Worth_fok tab_nil)
noncomputable def spec_l7Least_LS0 (F : Nat) : LT := []
theorem spec_l7Least_lsok0 (F : Nat) : LoopsOK Try.prog (spec_l7Least_LS0 F) (bodyOf Try.f30) := loopsOK_nil
theorem spec_l7Least_keys : keysOK (bodyOf Try.f30) = true := by kernel_rfl
def spec_l7Least_st5 (t3 : Int) (sum0 : Int) (out4 : List Int) : St := ⟨expand 23 0 [0, 3, 4] [(.int .i64 sum0), (.sl 0 0 (List.length out4)), (.int .i64 t3)], [(.vec 3 (.ri .i64 out4))], 0, []⟩
def spec_l7Least_o5 (t3 : Int) (x : Int × List Int) : GT := (.out (.exit 2 ⟨expand 23 0 [0, 3, 4] [(.int .i64 x.1), (.sl 0 0 (List.length x.2)), (.int .i64 t3)], [(.vec 3 (.ri .i64 x.2))], 0, []⟩))
def spec_l7Least_ls5 (F : Nat) : LoopS := ⟨23, [0, 3, 4], [], [0, 3, 4], [], [2], [], [], fun vals mem np killed => match vals, mem, np, killed with
  | [(.int .i64 sum0), (.sl 0 0 q_out2), (.int .i64 t3)], [(.vec 3 (.ri .i64 out4))], 0, [] => .br ((Nat.beq q_out2 (List.length out4)) && (spec_l7Least_l5 F t3 sum0 out4).isSome) (spec_l7Least_o5 t3 ((spec_l7Least_l5 F t3 sum0 out4).getD default)) .fail
  | _, _, _, _ => .fail⟩
theorem spec_l7Least_step5 (F : Nat) (t3 : Int) (sum0 : Int) (out4 : List Int) {R : Type} (k : Out → Option R) : stepS tt (spec_l7Least_tab F) (spec_l7Least_LS0 F) 70 (spec_l7Least_ls5 F) (loopAt 5 (bodyOf Try.f30)) (spec_l7Least_st5 t3 sum0 out4) k = spec_l7Least_s5 F t3 R (sum0, out4) (fun s => k (.norm (spec_l7Least_st5 t3 s.1 s.2))) (fun x => (spec_l7Least_o5 t3 x).run k) := by kernel_rfl
theorem spec_l7Least_iter5 (F : Nat) (t3 : Int) {R : Type} (k : Out → Option R) : ∀ (n : Nat) (sum0 : Int) (out4 : List Int), iterS tt (spec_l7Least_tab F) (spec_l7Least_LS0 F) 70 (spec_l7Least_ls5 F) (loopAt 5 (bodyOf Try.f30)) n (spec_l7Least_st5 t3 sum0 out4) k = loopC (spec_l7Least_s5 F t3) n (sum0, out4) (fun x => (spec_l7Least_o5 t3 x).run k)
  | 0, sum0, out4 => rfl
  | n + 1, sum0, out4 => (iterS_succ tt (spec_l7Least_tab F) (spec_l7Least_LS0 F) 70 (spec_l7Least_ls5 F) (loopAt 5 (bodyOf Try.f30)) n (spec_l7Least_st5 t3 sum0 out4) k).trans ((spec_l7Least_step5 F t3 sum0 out4 (nextK (iterS tt (spec_l7Least_tab F) (spec_l7Least_LS0 F) 70 (spec_l7Least_ls5 F) (loopAt 5 (bodyOf Try.f30)) n) k)).trans (congrArg (fun kn => spec_l7Least_s5 F t3 R (sum0, out4) kn _) (funext (fun ⟨sum0, out4⟩ => spec_l7Least_iter5 F t3 k n sum0 out4))))
theorem spec_l7Least_lok5 (F : Nat) : LoopOK Try.prog (loopAt 5 (bodyOf Try.f30)) (spec_l7Least_ls5 F) := by
  refine loopOK_of mixed ttok deep (spec_l7Least_tabok F) (loopsOK_at (spec_l7Least_lsok0 F) 5) (fuel := 70) fun R vals mem np killed k x h => ?_
  simp only [spec_l7Least_ls5] at h
  split at h
  · rename_i sum0 q_out2 t3 out4
    simp only [GT.run] at h
    have hc := (cond_noneL h).1
    replace h := (cond_noneL h).2
    have hg := (and_split hc).1
    replace hc := (and_split hc).2
    obtain rfl := nbeq_nat hg
    refine ⟨F, (spec_l7Least_iter5 F t3 k F sum0 out4).trans ((loopC_use (spec_l7Least_s5_nat F t3) hc _).trans h)⟩
  · simp only [GT.run] at h
    cases h
noncomputable def spec_l7Least_LS1 (F : Nat) : LT := (5, spec_l7Least_ls5 F) :: spec_l7Least_LS0 F
theorem spec_l7Least_lsok1 (F : Nat) : LoopsOK Try.prog (spec_l7Least_LS1 F) (bodyOf Try.f30) := loopsOK_cons spec_l7Least_keys (spec_l7Least_lok5 F) (spec_l7Least_lsok0 F)
def spec_l7Least_st3 (sum0 : Int) (t3 : Int) (out4 : List Int) : St := ⟨expand 23 0 [0, 3, 4] [(.int .i64 sum0), (.sl 0 0 (List.length out4)), (.int .i64 t3)], [(.vec 3 (.ri .i64 out4))], 0, []⟩
def spec_l7Least_o3 (x : List Int) : GT := (.out (.exit 0 ⟨expand 23 0 [3] [(.sl 0 0 (List.length x))], [(.vec 3 (.ri .i64 x))], 0, []⟩))
def spec_l7Least_ls3 (F : Nat) : LoopS := ⟨23, [0, 3, 4], [], [3], [], [2], [], [], fun vals mem np killed => match vals, mem, np, killed with
  | [(.int .i64 sum0), (.sl 0 0 q_out2), (.int .i64 t3)], [(.vec 3 (.ri .i64 out4))], 0, [] => .br ((Nat.beq q_out2 (List.length out4)) && (spec_l7Least_l3 F sum0 t3 out4).isSome) (spec_l7Least_o3 ((spec_l7Least_l3 F sum0 t3 out4).getD default)) .fail
  | _, _, _, _ => .fail⟩
theorem spec_l7Least_step3 (F : Nat) (sum0 : Int) (t3 : Int) (out4 : List Int) {R : Type} (k : Out → Option R) : stepS tt (spec_l7Least_tab F) (spec_l7Least_LS1 F) 70 (spec_l7Least_ls3 F) (loopAt 3 (bodyOf Try.f30)) (spec_l7Least_st3 sum0 t3 out4) k = spec_l7Least_s3 F R (sum0, t3, out4) (fun s => k (.norm (spec_l7Least_st3 s.1 s.2.1 s.2.2))) (fun x => (spec_l7Least_o3 x).run k) := by kernel_rfl
theorem spec_l7Least_iter3 (F : Nat) {R : Type} (k : Out → Option R) : ∀ (n : Nat) (sum0 : Int) (t3 : Int) (out4 : List Int), iterS tt (spec_l7Least_tab F) (spec_l7Least_LS1 F) 70 (spec_l7Least_ls3 F) (loopAt 3 (bodyOf Try.f30)) n (spec_l7Least_st3 sum0 t3 out4) k = loopC (spec_l7Least_s3 F) n (sum0, t3, out4) (fun x => (spec_l7Least_o3 x).run k)
  | 0, sum0, t3, out4 => rfl
  | n + 1, sum0, t3, out4 => (iterS_succ tt (spec_l7Least_tab F) (spec_l7Least_LS1 F) 70 (spec_l7Least_ls3 F) (loopAt 3 (bodyOf Try.f30)) n (spec_l7Least_st3 sum0 t3 out4) k).trans ((spec_l7Least_step3 F sum0 t3 out4 (nextK (iterS tt (spec_l7Least_tab F) (spec_l7Least_LS1 F) 70 (spec_l7Least_ls3 F) (loopAt 3 (bodyOf Try.f30)) n) k)).trans (congrArg (fun kn => spec_l7Least_s3 F R (sum0, t3, out4) kn _) (funext (fun ⟨sum0, t3, out4⟩ => spec_l7Least_iter3 F k n sum0 t3 out4))))
theorem spec_l7Least_lok3 (F : Nat) : LoopOK Try.prog (loopAt 3 (bodyOf Try.f30)) (spec_l7Least_ls3 F) := by
  refine loopOK_of mixed ttok deep (spec_l7Least_tabok F) (loopsOK_at (spec_l7Least_lsok1 F) 3) (fuel := 70) fun R vals mem np killed k x h => ?_
  simp only [spec_l7Least_ls3] at h
  split at h
  · rename_i sum0 q_out2 t3 out4
    simp only [GT.run] at h
    have hc := (cond_noneL h).1
    replace h := (cond_noneL h).2
    have hg := (and_split hc).1
    replace hc := (and_split hc).2
    obtain rfl := nbeq_nat hg
    refine ⟨F, (spec_l7Least_iter3 F k F sum0 t3 out4).trans ((loopC_use (spec_l7Least_s3_nat F) hc _).trans h)⟩
  · simp only [GT.run] at h
    cases h
noncomputable def spec_l7Least_LS2 (F : Nat) : LT := (3, spec_l7Least_ls3 F) :: spec_l7Least_LS1 F
theorem spec_l7Least_lsok2 (F : Nat) : LoopsOK Try.prog (spec_l7Least_LS2 F) (bodyOf Try.f30) := loopsOK_cons spec_l7Least_keys (spec_l7Least_lok3 F) (spec_l7Least_lsok1 F)
theorem spec_l7Least_run (F : Nat) (sum0 : Int) : runS tt (spec_l7Least_tab F) (spec_l7Least_LS2 F) [] [] Try.f30 (bodyOf Try.f30) 70 [(.int .i64 sum0)] [] = spec_l7Least_c _ F sum0 (fun r => some ⟨(.sl 0 0 (List.length r)), [(.vec 3 (.ri .i64 r))], []⟩) := by kernel_rfl
def spec_l7Least_ent (F : Nat) : Ent := ⟨[], .fresh, fun args mem => match args, mem with
  | [(.int .i64 sum0)], [] => some ((spec_l7Least_p F sum0).isSome, ⟨(.sl 0 0 (List.length ((spec_l7Least_p F sum0).getD default))), [(.vec 3 (.ri .i64 ((spec_l7Least_p F sum0).getD default)))], []⟩)
  | _, _ => none⟩
theorem spec_l7Least_fok : FunOK Try.prog 30 := funOK Try.func30 (by kernel_rfl) rfl
theorem spec_l7Least_meets (F : Nat) : Meets Try.prog 30 (spec_l7Least_ent F) := by
  refine meets_of_runS mixed ttok deep (spec_l7Least_tabok F) Try.func30 (body_some rfl) (spec_l7Least_lsok2 F) fun args mem hfit ret h => ?_
  clear hfit
  simp only [spec_l7Least_ent] at h
  split at h
  · rename_i sum0
    simp only [Option.some.injEq, Prod.mk.injEq] at h
    obtain ⟨hc, rfl⟩ := h
    exact ⟨[], [], 70, _, (spec_l7Least_run F sum0).trans ((spec_l7Least_cp _ F sum0 _).trans (bind_use hc _)), rfl, rfl, rfl⟩
  · cases h

/-! loop.example/g01194/spec.l7Sum -/
noncomputable def spec_l7Sum_tab (F : Nat) : Tab := [(40, (spec_l1In_ent F)), (30, (spec_l7Least_ent F))]
theorem spec_l7Sum_tabok (F : Nat) : TabOK Try.prog (spec_l7Sum_tab F) := (tab_cons (spec_l1In_meets F) spec_l1In_fok (tab_cons (spec_l7Least_meets F) spec_l7Least_fok tab_nil))
noncomputable def spec_l7Sum_LS0 (F : Nat) : LT := []
theorem spec_l7Sum_lsok0 (F : Nat) : LoopsOK Try.prog (spec_l7Sum_LS0 F) (bodyOf Try.f29) := loopsOK_nil
theorem spec_l7Sum_run (F : Nat) (sum0 : Int) : runS tt (spec_l7Sum_tab F) (spec_l7Sum_LS0 F) [] [] Try.f29 (bodyOf Try.f29) 70 [(.int .i64 sum0)] [] = spec_l7Sum_c _ F sum0 (fun r => some ⟨(.bool r), [], []⟩) := by kernel_rfl
def spec_l7Sum_ent (F : Nat) : Ent := ⟨[], .quiet, fun args mem => match args, mem with
  | [(.int .i64 sum0)], [] => some ((spec_l7Sum_p F sum0).isSome, ⟨(.bool ((spec_l7Sum_p F sum0).getD default)), [], []⟩)
  | _, _ => none⟩
theorem spec_l7Sum_fok : FunOK Try.prog 29 := funOK Try.func29 (by kernel_rfl) rfl
theorem spec_l7Sum_meets (F : Nat) : Meets Try.prog 29 (spec_l7Sum_ent F) := by
  refine meets_of_runS mixed ttok deep (spec_l7Sum_tabok F) Try.func29 (body_some rfl) (spec_l7Sum_lsok0 F) fun args mem hfit ret h => ?_
  clear hfit
  simp only [spec_l7Sum_ent] at h
  split at h
  · rename_i sum0
    simp only [Option.some.injEq, Prod.mk.injEq] at h
    obtain ⟨hc, rfl⟩ := h
    exact ⟨[], [], 70, _, (spec_l7Sum_run F sum0).trans ((spec_l7Sum_cp _ F sum0 _).trans (bind_use hc _)), rfl, rfl, rfl⟩
  · cases h

/-! loop.example/g01194/spec.LeastTiles -/
noncomputable def spec_LeastTiles_tab (F : Nat) : Tab := [(29, (spec_l7Sum_ent F)), (30, (spec_l7Least_ent F))]
theorem spec_LeastTiles_tabok (F : Nat) : TabOK Try.prog (spec_LeastTiles_tab F) := (tab_cons (spec_l7Sum_meets F) spec_l7Sum_fok (tab_cons (spec_l7Least_meets F) spec_l7Least_fok tab_nil))
noncomputable def spec_LeastTiles_LS0 (F : Nat) : LT := []
theorem spec_LeastTiles_lsok0 (F : Nat) : LoopsOK Try.prog (spec_LeastTiles_LS0 F) (bodyOf Try.f7) := loopsOK_nil
theorem spec_LeastTiles_run (F : Nat) (sum0 : Int) : runS tt (spec_LeastTiles_tab F) (spec_LeastTiles_LS0 F) [] [] Try.f7 (bodyOf Try.f7) 70 [(.int .i64 sum0)] [] = spec_LeastTiles_c _ F sum0 (fun r => some ⟨(.tup [(.int .i64 r.1), (.bool r.2)]), [], []⟩) := by kernel_rfl
def spec_LeastTiles_ent (F : Nat) : Ent := ⟨[], .quiet, fun args mem => match args, mem with
  | [(.int .i64 sum0)], [] => some ((spec_LeastTiles_p F sum0).isSome, ⟨(.tup [(.int .i64 ((spec_LeastTiles_p F sum0).getD default).1), (.bool ((spec_LeastTiles_p F sum0).getD default).2)]), [], []⟩)
  | _, _ => none⟩
theorem spec_LeastTiles_fok : FunOK Try.prog 7 := funOK Try.func7 (by kernel_rfl) rfl
theorem spec_LeastTiles_meets (F : Nat) : Meets Try.prog 7 (spec_LeastTiles_ent F) := by
  refine meets_of_runS mixed ttok deep (spec_LeastTiles_tabok F) Try.func7 (body_some rfl) (spec_LeastTiles_lsok0 F) fun args mem hfit ret h => ?_
  clear hfit
  simp only [spec_LeastTiles_ent] at h
  split at h
  · rename_i sum0
    simp only [Option.some.injEq, Prod.mk.injEq] at h
    obtain ⟨hc, rfl⟩ := h
    exact ⟨[], [], 70, _, (spec_LeastTiles_run F sum0).trans ((spec_LeastTiles_cp _ F sum0 _).trans (bind_use hc _)), rfl, rfl, rfl⟩
  · cases h

/-! loop.example/g01194/impl.cells -/
noncomputable def impl_cells_tab (F : Nat) : Tab := []
theorem impl_cells_tabok (F : Nat) : TabOK Try.prog (impl_cells_tab F) := tab_nil
noncomputable def impl_cells_LS0 (F : Nat) : LT := []
theorem impl_cells_lsok0 (F : Nat) : LoopsOK Try.prog (impl_cells_LS0 F) (bodyOf Try.f31) := loopsOK_nil
theorem impl_cells_run (F : Nat) : runS tt (impl_cells_tab F) (impl_cells_LS0 F) [] [] Try.f31 (bodyOf Try.f31) 70 [] [] = impl_cells_c _ (fun r => some ⟨(.sl 0 0 16), [(.vec 43 (.rr 2 [[(0 : Int), (0 : Int)], [(0 : Int), (1 : Int)], [(0 : Int), (2 : Int)], [(0 : Int), (3 : Int)], [(1 : Int), (0 : Int)], [(1 : Int), (1 : Int)], [(1 : Int), (2 : Int)], [(1 : Int), (3 : Int)], [(2 : Int), (0 : Int)], [(2 : Int), (1 : Int)], [(2 : Int), (2 : Int)], [(2 : Int), (3 : Int)], [(3 : Int), (0 : Int)], [(3 : Int), (1 : Int)], [(3 : Int), (2 : Int)], [(3 : Int), (3 : Int)]]))], []⟩) := by kernel_rfl
def impl_cells_ent (F : Nat) : Ent := ⟨[], .fresh, fun args mem => match args, mem with
  | [], [] => some (true, ⟨(.sl 0 0 16), [(.vec 43 (.rr 2 [[(0 : Int), (0 : Int)], [(0 : Int), (1 : Int)], [(0 : Int), (2 : Int)], [(0 : Int), (3 : Int)], [(1 : Int), (0 : Int)], [(1 : Int), (1 : Int)], [(1 : Int), (2 : Int)], [(1 : Int), (3 : Int)], [(2 : Int), (0 : Int)], [(2 : Int), (1 : Int)], [(2 : Int), (2 : Int)], [(2 : Int), (3 : Int)], [(3 : Int), (0 : Int)], [(3 : Int), (1 : Int)], [(3 : Int), (2 : Int)], [(3 : Int), (3 : Int)]]))], []⟩)
  | _, _ => none⟩
theorem impl_cells_fok : FunOK Try.prog 31 := funOK Try.func31 (by kernel_rfl) rfl
theorem impl_cells_meets (F : Nat) : Meets Try.prog 31 (impl_cells_ent F) := by
  refine meets_of_runS mixed ttok deep (impl_cells_tabok F) Try.func31 (body_some rfl) (impl_cells_lsok0 F) fun args mem hfit ret h => ?_
  clear hfit
  simp only [impl_cells_ent] at h
  split at h
  · simp only [Option.some.injEq, Prod.mk.injEq] at h
    obtain ⟨hc, rfl⟩ := h
    exact ⟨[], [], 70, _, (impl_cells_run F).trans (impl_cells_cv _ _), rfl, rfl, rfl⟩
  · cases h

/-! math/bits.Len64 -/
def math_bits_Len64_ent (F : Nat) : Ent := ⟨[], .quiet, fun args mem => match args, mem with
  | [.int .u64 x], [] => some (decide (0 ≤ x) && decide (x ≤ 18446744073709551615), ⟨.int .i64 (math_bits_Len64_v x), [], []⟩)
  | _, _ => none⟩
theorem math_bits_Len64_fok : FunOK Try.prog 57 := funOK Try.func57 (by kernel_rfl) rfl
theorem math_bits_Len64_meets (F : Nat) : Meets Try.prog 57 (math_bits_Len64_ent F) := by
  intro fr w ρ mem args reals hw ha ret hg
  simp only [math_bits_Len64_ent] at hg
  split at hg
  · rename_i x
    simp only [Option.some.injEq, Prod.mk.injEq, Bool.and_eq_true, decide_eq_true_eq] at hg
    obtain ⟨⟨h0, h1⟩, rfl⟩ := hg
    cases ha with
    | cons h hr =>
      cases hr
      have h : _ = Value.int .u64 x := h
      subst h
      refine (bits_Len64 x w h0 h1).mono fun e w' ⟨he, hw'⟩ => ?_
      subst he; subst hw'
      exact ⟨_, ρ, rfl, show _ = _ from rfl, hw, Step.refl _ _ _ _⟩
  · cases hg

/-! math/bits.Len -/
noncomputable def math_bits_Len_tab (F : Nat) : Tab := [(57, (math_bits_Len64_ent F))]
theorem math_bits_Len_tabok (F : Nat) : TabOK Try.prog (math_bits_Len_tab F) := (tab_cons (math_bits_Len64_meets F) math_bits_Len64_fok tab_nil)
noncomputable def math_bits_Len_LS0 (F : Nat) : LT := []
theorem math_bits_Len_lsok0 (F : Nat) : LoopsOK Try.prog (math_bits_Len_LS0 F) (bodyOf Try.f32) := loopsOK_nil
theorem math_bits_Len_run (F : Nat) (x0 : Int) : runS tt (math_bits_Len_tab F) (math_bits_Len_LS0 F) [] [] Try.f32 (bodyOf Try.f32) 70 [(.int .u64 x0)] [] = math_bits_Len_c _ x0 (fun r => some ⟨(.int .i64 r), [], []⟩) := by kernel_rfl
def math_bits_Len_ent (F : Nat) : Ent := ⟨[], .quiet, fun args mem => match args, mem with
  | [(.int .u64 x0)], [] => some ((math_bits_Len_p x0).isSome, ⟨(.int .i64 ((math_bits_Len_p x0).getD default)), [], []⟩)
  | _, _ => none⟩
theorem math_bits_Len_fok : FunOK Try.prog 32 := funOK Try.func32 (by kernel_rfl) rfl
theorem math_bits_Len_meets (F : Nat) : Meets Try.prog 32 (math_bits_Len_ent F) := by
  refine meets_of_runS mixed ttok deep (math_bits_Len_tabok F) Try.func32 (body_some rfl) (math_bits_Len_lsok0 F) fun args mem hfit ret h => ?_
  clear hfit
  simp only [math_bits_Len_ent] at h
  split at h
  · rename_i x0
    simp only [Option.some.injEq, Prod.mk.injEq] at h
    obtain ⟨hc, rfl⟩ := h
    exact ⟨[], [], 70, _, (math_bits_Len_run F x0).trans ((math_bits_Len_cp _ x0 _).trans (bind_use hc _)), rfl, rfl, rfl⟩
  · cases h

/-! (*loop.example/g01194/impl.Board).at -/
noncomputable def impl_Board_at_tab (F : Nat) : Tab := []
theorem impl_Board_at_tabok (F : Nat) : TabOK Try.prog (impl_Board_at_tab F) := tab_nil
noncomputable def impl_Board_at_LS0 (F : Nat) : LT := []
theorem impl_Board_at_lsok0 (F : Nat) : LoopsOK Try.prog (impl_Board_at_LS0 F) (bodyOf Try.f33) := loopsOK_nil
theorem impl_Board_at_run (F : Nat) (cell3 : List Int) (b4 : List Int) : runS tt (impl_Board_at_tab F) (impl_Board_at_LS0 F) [] [] Try.f33 (bodyOf Try.f33) 70 [(.ptr 0 0 0 16), (.ints 2 cell3)] [(.var 16 (.ri .i64 b4))] = impl_Board_at_c _ cell3 b4 (fun r => some ⟨(.ptr 0 0 r 1), [(.var 16 (.ri .i64 b4))], []⟩) := by kernel_rfl
def impl_Board_at_ent (F : Nat) : Ent := ⟨[], .quiet, fun args mem => match args, mem with
  | [(.ptr 0 0 0 16), (.ints 2 cell3)], [(.var 16 (.ri .i64 b4))] => some ((impl_Board_at_p cell3 b4).isSome, ⟨(.ptr 0 0 ((impl_Board_at_p cell3 b4).getD default) 1), [], []⟩)
  | _, _ => none⟩
theorem impl_Board_at_fok : FunOK Try.prog 33 := funOK Try.func33 (by kernel_rfl) rfl
theorem impl_Board_at_meets (F : Nat) : Meets Try.prog 33 (impl_Board_at_ent F) := by
  refine meets_of_runS mixed ttok deep (impl_Board_at_tabok F) Try.func33 (body_some rfl) (impl_Board_at_lsok0 F) fun args mem hfit ret h => ?_
  clear hfit
  simp only [impl_Board_at_ent] at h
  split at h
  · rename_i cell3 b4
    simp only [Option.some.injEq, Prod.mk.injEq] at h
    obtain ⟨hc, rfl⟩ := h
    exact ⟨[], [], 70, _, (impl_Board_at_run F cell3 b4).trans ((impl_Board_at_cp _ cell3 b4 _).trans (bind_use hc _)), rfl, rfl, rfl⟩
  · cases h

/-! loop.example/g01194/impl.worth -/
noncomputable def impl_worth_tab (F : Nat) : Tab := []
theorem impl_worth_tabok (F : Nat) : TabOK Try.prog (impl_worth_tab F) := tab_nil
noncomputable def impl_worth_LS0 (F : Nat) : LT := []
theorem impl_worth_lsok0 (F : Nat) : LoopsOK Try.prog (impl_worth_LS0 F) (bodyOf Try.f34) := loopsOK_nil
theorem impl_worth_run (F : Nat) (t0 : Int) : runS tt (impl_worth_tab F) (impl_worth_LS0 F) [] [] Try.f34 (bodyOf Try.f34) 70 [(.int .i64 t0)] [] = impl_worth_c _ t0 (fun r => some ⟨(.int .i64 r), [], []⟩) := by kernel_rfl
def impl_worth_ent (F : Nat) : Ent := ⟨[], .quiet, fun args mem => match args, mem with
  | [(.int .i64 t0)], [] => some ((impl_worth_p t0).isSome, ⟨(.int .i64 ((impl_worth_p t0).getD default)), [], []⟩)
  | _, _ => none⟩
theorem impl_worth_fok : FunOK Try.prog 34 := funOK Try.func34 (by kernel_rfl) rfl
theorem impl_worth_meets (F : Nat) : Meets Try.prog 34 (impl_worth_ent F) := by
  refine meets_of_runS mixed ttok deep (impl_worth_tabok F) Try.func34 (body_some rfl) (impl_worth_lsok0 F) fun args mem hfit ret h => ?_
  clear hfit
  simp only [impl_worth_ent] at h
  split at h
  · rename_i t0
    simp only [Option.some.injEq, Prod.mk.injEq] at h
    obtain ⟨hc, rfl⟩ := h
    exact ⟨[], [], 70, _, (impl_worth_run F t0).trans ((impl_worth_cp _ t0 _).trans (bind_use hc _)), rfl, rfl, rfl⟩
  · cases h

/-! loop.example/g01194/impl.PackedBoard -/
noncomputable def impl_PackedBoard_tab (F : Nat) : Tab := [(27, (impl_isFor_ent F)), (31, (impl_cells_ent F)), (32, (math_bits_Len_ent F)), (33, (impl_Board_at_ent F)), (34, (impl_worth_ent F))]
theorem impl_PackedBoard_tabok (F : Nat) : TabOK Try.prog (impl_PackedBoard_tab F) := (tab_cons (impl_isFor_meets F) impl_isFor_fok (tab_cons (impl_cells_meets F) impl_cells_fok (tab_cons (math_bits_Len_meets F) math_bits_Len_fok (tab_cons (impl_Board_at_meets F) impl_Board_at_fok (tab_cons (impl_worth_meets F) impl_worth_fok tab_nil)))))
noncomputable def impl_PackedBoard_LS0 (F : Nat) : LT := []
theorem impl_PackedBoard_lsok0 (F : Nat) : LoopsOK Try.prog (impl_PackedBoard_LS0 F) (bodyOf Try.f8) := loopsOK_nil
theorem impl_PackedBoard_keys : keysOK (bodyOf Try.f8) = true := by kernel_rfl
def impl_PackedBoard_st5 (sum0 : Int) (t1510 : Int) (out12 : List Int) : St := ⟨expand 36 0 [0, 2, 4, 13, 14, 15] [(.int .i64 sum0), (.ptr 0 0 0 16), (.ptr 1 0 0 16), (.sl 2 0 16), (.int .i64 (16 : Int)), (.int .i64 t1510)], [(.var 16 (.ri .i64 [(0 : Int), (0 : Int), (0 : Int), (0 : Int), (0 : Int), (0 : Int), (0 : Int), (0 : Int), (0 : Int), (0 : Int), (0 : Int), (0 : Int), (0 : Int), (0 : Int), (0 : Int), (0 : Int)])), (.var 16 (.ri .i64 out12)), (.vec 43 (.rr 2 [[(0 : Int), (0 : Int)], [(0 : Int), (1 : Int)], [(0 : Int), (2 : Int)], [(0 : Int), (3 : Int)], [(1 : Int), (0 : Int)], [(1 : Int), (1 : Int)], [(1 : Int), (2 : Int)], [(1 : Int), (3 : Int)], [(2 : Int), (0 : Int)], [(2 : Int), (1 : Int)], [(2 : Int), (2 : Int)], [(2 : Int), (3 : Int)], [(3 : Int), (0 : Int)], [(3 : Int), (1 : Int)], [(3 : Int), (2 : Int)], [(3 : Int), (3 : Int)]]))], 0, []⟩
def impl_PackedBoard_o5 (x : List Int) : GT := (.out (.exit 0 ⟨expand 36 0 [2, 4] [(.ptr 0 0 0 16), (.ptr 1 0 0 16)], [(.var 16 (.ri .i64 [(0 : Int), (0 : Int), (0 : Int), (0 : Int), (0 : Int), (0 : Int), (0 : Int), (0 : Int), (0 : Int), (0 : Int), (0 : Int), (0 : Int), (0 : Int), (0 : Int), (0 : Int), (0 : Int)])), (.var 16 (.ri .i64 x))], 0, []⟩))
def impl_PackedBoard_ls5 (F : Nat) : LoopS := ⟨36, [0, 2, 4, 13, 14, 15], [], [2, 4], [], [2, 3], [], [], fun vals mem np killed => match vals, mem, np, killed with
  | [(.int .i64 sum0), (.ptr 0 0 0 16), (.ptr 1 0 0 16), (.sl 2 0 q_t138), (.int .i64 q_t149), (.int .i64 t1510)], [(.var 16 (.ri .i64 q_t211)), (.var 16 (.ri .i64 out12)), (.vec 43 (.rr 2 q_t1313))], 0, [] => .br ((q_t149 == (16 : Int)) && ((q_t211 == ([(0 : Int), (0 : Int), (0 : Int), (0 : Int), (0 : Int), (0 : Int), (0 : Int), (0 : Int), (0 : Int), (0 : Int), (0 : Int), (0 : Int), (0 : Int), (0 : Int), (0 : Int), (0 : Int)] : List Int)) && ((q_t1313 == ([[(0 : Int), (0 : Int)], [(0 : Int), (1 : Int)], [(0 : Int), (2 : Int)], [(0 : Int), (3 : Int)], [(1 : Int), (0 : Int)], [(1 : Int), (1 : Int)], [(1 : Int), (2 : Int)], [(1 : Int), (3 : Int)], [(2 : Int), (0 : Int)], [(2 : Int), (1 : Int)], [(2 : Int), (2 : Int)], [(2 : Int), (3 : Int)], [(3 : Int), (0 : Int)], [(3 : Int), (1 : Int)], [(3 : Int), (2 : Int)], [(3 : Int), (3 : Int)]] : List (List Int))) && ((Nat.beq q_t138 16) && (impl_PackedBoard_l5 F sum0 t1510 out12).isSome)))) (impl_PackedBoard_o5 ((impl_PackedBoard_l5 F sum0 t1510 out12).getD default)) .fail
  | _, _, _, _ => .fail⟩
theorem impl_PackedBoard_step5 (F : Nat) (sum0 : Int) (t1510 : Int) (out12 : List Int) {R : Type} (k : Out → Option R) : stepS tt (impl_PackedBoard_tab F) (impl_PackedBoard_LS0 F) 70 (impl_PackedBoard_ls5 F) (loopAt 5 (bodyOf Try.f8)) (impl_PackedBoard_st5 sum0 t1510 out12) k = impl_PackedBoard_s5 F R (sum0, t1510, out12) (fun s => k (.norm (impl_PackedBoard_st5 s.1 s.2.1 s.2.2))) (fun x => (impl_PackedBoard_o5 x).run k) := by kernel_rfl
theorem impl_PackedBoard_iter5 (F : Nat) {R : Type} (k : Out → Option R) : ∀ (n : Nat) (sum0 : Int) (t1510 : Int) (out12 : List Int), iterS tt (impl_PackedBoard_tab F) (impl_PackedBoard_LS0 F) 70 (impl_PackedBoard_ls5 F) (loopAt 5 (bodyOf Try.f8)) n (impl_PackedBoard_st5 sum0 t1510 out12) k = loopC (impl_PackedBoard_s5 F) n (sum0, t1510, out12) (fun x => (impl_PackedBoard_o5 x).run k)
  | 0, sum0, t1510, out12 => rfl
  | n + 1, sum0, t1510, out12 => (iterS_succ tt (impl_PackedBoard_tab F) (impl_PackedBoard_LS0 F) 70 (impl_PackedBoard_ls5 F) (loopAt 5 (bodyOf Try.f8)) n (impl_PackedBoard_st5 sum0 t1510 out12) k).trans ((impl_PackedBoard_step5 F sum0 t1510 out12 (nextK (iterS tt (impl_PackedBoard_tab F) (impl_PackedBoard_LS0 F) 70 (impl_PackedBoard_ls5 F) (loopAt 5 (bodyOf Try.f8)) n) k)).trans (congrArg (fun kn => impl_PackedBoard_s5 F R (sum0, t1510, out12) kn _) (funext (fun ⟨sum0, t1510, out12⟩ => impl_PackedBoard_iter5 F k n sum0 t1510 out12))))
theorem impl_PackedBoard_lok5 (F : Nat) : LoopOK Try.prog (loopAt 5 (bodyOf Try.f8)) (impl_PackedBoard_ls5 F) := by
  refine loopOK_of mixed ttok deep (impl_PackedBoard_tabok F) (loopsOK_at (impl_PackedBoard_lsok0 F) 5) (fuel := 70) fun R vals mem np killed k x h => ?_
  simp only [impl_PackedBoard_ls5] at h
  split at h
  · rename_i sum0 q_t138 q_t149 t1510 q_t211 out12 q_t1313
    simp only [GT.run] at h
    have hc := (cond_noneL h).1
    replace h := (cond_noneL h).2
    have hg := (and_split hc).1
    replace hc := (and_split hc).2
    obtain rfl := beq_int hg
    have hg := (and_split hc).1
    replace hc := (and_split hc).2
    obtain rfl := beq_li hg
    have hg := (and_split hc).1
    replace hc := (and_split hc).2
    obtain rfl := beq_lli hg
    have hg := (and_split hc).1
    replace hc := (and_split hc).2
    obtain rfl := nbeq_nat hg
    refine ⟨F, (impl_PackedBoard_iter5 F k F sum0 t1510 out12).trans ((loopC_use (impl_PackedBoard_s5_nat F) hc _).trans h)⟩
  · simp only [GT.run] at h
    cases h
noncomputable def impl_PackedBoard_LS1 (F : Nat) : LT := (5, impl_PackedBoard_ls5 F) :: impl_PackedBoard_LS0 F
theorem impl_PackedBoard_lsok1 (F : Nat) : LoopsOK Try.prog (impl_PackedBoard_LS1 F) (bodyOf Try.f8) := loopsOK_cons impl_PackedBoard_keys (impl_PackedBoard_lok5 F) (impl_PackedBoard_lsok0 F)
theorem impl_PackedBoard_run (F : Nat) (sum0 : Int) : runS tt (impl_PackedBoard_tab F) (impl_PackedBoard_LS1 F) [] [] Try.f8 (bodyOf Try.f8) 70 [(.int .i64 sum0)] [] = impl_PackedBoard_c _ F sum0 (fun r => some ⟨(.tup [(.ints 16 r.1), (.bool r.2)]), [], []⟩) := by kernel_rfl
def impl_PackedBoard_ent (F : Nat) : Ent := ⟨[], .quiet, fun args mem => match args, mem with
  | [(.int .i64 sum0)], [] => some ((impl_PackedBoard_p F sum0).isSome, ⟨(.tup [(.ints 16 ((impl_PackedBoard_p F sum0).getD default).1), (.bool ((impl_PackedBoard_p F sum0).getD default).2)]), [], []⟩)
  | _, _ => none⟩
theorem impl_PackedBoard_fok : FunOK Try.prog 8 := funOK Try.func8 (by kernel_rfl) rfl
theorem impl_PackedBoard_meets (F : Nat) : Meets Try.prog 8 (impl_PackedBoard_ent F) := by
  refine meets_of_runS mixed ttok deep (impl_PackedBoard_tabok F) Try.func8 (body_some rfl) (impl_PackedBoard_lsok1 F) fun args mem hfit ret h => ?_
  clear hfit
  simp only [impl_PackedBoard_ent] at h
  split at h
  · rename_i sum0
    simp only [Option.some.injEq, Prod.mk.injEq] at h
    obtain ⟨hc, rfl⟩ := h
    exact ⟨[], [], 70, _, (impl_PackedBoard_run F sum0).trans ((impl_PackedBoard_cp _ F sum0 _).trans (bind_use hc _)), rfl, rfl, rfl⟩
  · cases h

/-! loop.example/g01194/spec.l2Put -/
noncomputable def spec_l2Put_tab (F : Nat) : Tab := []
theorem spec_l2Put_tabok (F : Nat) : TabOK Try.prog (spec_l2Put_tab F) := tab_nil
noncomputable def spec_l2Put_LS0 (F : Nat) : LT := []
theorem spec_l2Put_lsok0 (F : Nat) : LoopsOK Try.prog (spec_l2Put_LS0 F) (bodyOf Try.f35) := loopsOK_nil
theorem spec_l2Put_run (F : Nat) (b0 : List Int) (cell1 : List Int) (t2 : Int) : runS tt (spec_l2Put_tab F) (spec_l2Put_LS0 F) [] [] Try.f35 (bodyOf Try.f35) 70 [(.ints 16 b0), (.ints 2 cell1), (.int .i64 t2)] [] = spec_l2Put_c _ b0 cell1 t2 (fun r => some ⟨(.ints 16 r), [], []⟩) := by kernel_rfl
def spec_l2Put_ent (F : Nat) : Ent := ⟨[], .quiet, fun args mem => match args, mem with
  | [(.ints 16 b0), (.ints 2 cell1), (.int .i64 t2)], [] => some ((spec_l2Put_p b0 cell1 t2).isSome, ⟨(.ints 16 ((spec_l2Put_p b0 cell1 t2).getD default)), [], []⟩)
  | _, _ => none⟩
theorem spec_l2Put_fok : FunOK Try.prog 35 := funOK Try.func35 (by kernel_rfl) rfl
theorem spec_l2Put_meets (F : Nat) : Meets Try.prog 35 (spec_l2Put_ent F) := by
  refine meets_of_runS mixed ttok deep (spec_l2Put_tabok F) Try.func35 (body_some rfl) (spec_l2Put_lsok0 F) fun args mem hfit ret h => ?_
  clear hfit
  simp only [spec_l2Put_ent] at h
  split at h
  · rename_i b0 cell1 t2
    simp only [Option.some.injEq, Prod.mk.injEq] at h
    obtain ⟨hc, rfl⟩ := h
    exact ⟨[], [], 70, _, (spec_l2Put_run F b0 cell1 t2).trans ((spec_l2Put_cp _ b0 cell1 t2 _).trans (bind_use hc _)), rfl, rfl, rfl⟩
  · cases h

/-! loop.example/g01194/spec.PackedBoard -/
noncomputable def spec_PackedBoard_tab (F : Nat) : Tab := [(29, (spec_l7Sum_ent F)), (30, (spec_l7Least_ent F)), (35, (spec_l2Put_ent F))]
theorem spec_PackedBoard_tabok (F : Nat) : TabOK Try.prog (spec_PackedBoard_tab F) := (tab_cons (spec_l7Sum_meets F) spec_l7Sum_fok (tab_cons (spec_l7Least_meets F) spec_l7Least_fok (tab_cons (spec_l2Put_meets F) spec_l2Put_fok tab_nil)))
noncomputable def spec_PackedBoard_LS0 (F : Nat) : LT := []
theorem spec_PackedBoard_lsok0 (F : Nat) : LoopsOK Try.prog (spec_PackedBoard_LS0 F) (bodyOf Try.f9) := loopsOK_nil
theorem spec_PackedBoard_keys : keysOK (bodyOf Try.f9) = true := by kernel_rfl
def spec_PackedBoard_st5 (list11 : List Int) (i8 : Int) (b10 : List Int) : St := ⟨expand 32 0 [2, 4, 5, 6] [(.ptr 0 0 0 16), (.ptr 1 0 0 16), (.sl 2 0 (List.length list11)), (.int .i64 i8)], [(.var 16 (.ri .i64 [(0 : Int), (0 : Int), (0 : Int), (0 : Int), (0 : Int), (0 : Int), (0 : Int), (0 : Int), (0 : Int), (0 : Int), (0 : Int), (0 : Int), (0 : Int), (0 : Int), (0 : Int), (0 : Int)])), (.var 16 (.ri .i64 b10)), (.vec 3 (.ri .i64 list11))], 0, []⟩
def spec_PackedBoard_o5 (list11 : List Int) (x : List Int) : GT := (.out (.exit 0 ⟨expand 32 0 [2, 4] [(.ptr 0 0 0 16), (.ptr 1 0 0 16)], [(.var 16 (.ri .i64 [(0 : Int), (0 : Int), (0 : Int), (0 : Int), (0 : Int), (0 : Int), (0 : Int), (0 : Int), (0 : Int), (0 : Int), (0 : Int), (0 : Int), (0 : Int), (0 : Int), (0 : Int), (0 : Int)])), (.var 16 (.ri .i64 x))], 0, []⟩))
def spec_PackedBoard_ls5 (F : Nat) : LoopS := ⟨32, [2, 4, 5, 6], [], [2, 4], [], [2, 3], [], [], fun vals mem np killed => match vals, mem, np, killed with
  | [(.ptr 0 0 0 16), (.ptr 1 0 0 16), (.sl 2 0 q_list7), (.int .i64 i8)], [(.var 16 (.ri .i64 q_t29)), (.var 16 (.ri .i64 b10)), (.vec 3 (.ri .i64 list11))], 0, [] => .br ((q_t29 == ([(0 : Int), (0 : Int), (0 : Int), (0 : Int), (0 : Int), (0 : Int), (0 : Int), (0 : Int), (0 : Int), (0 : Int), (0 : Int), (0 : Int), (0 : Int), (0 : Int), (0 : Int), (0 : Int)] : List Int)) && ((Nat.beq q_list7 (List.length list11)) && (spec_PackedBoard_l5 F list11 i8 b10).isSome)) (spec_PackedBoard_o5 list11 ((spec_PackedBoard_l5 F list11 i8 b10).getD default)) .fail
  | _, _, _, _ => .fail⟩
theorem spec_PackedBoard_step5 (F : Nat) (list11 : List Int) (i8 : Int) (b10 : List Int) {R : Type} (k : Out → Option R) : stepS tt (spec_PackedBoard_tab F) (spec_PackedBoard_LS0 F) 70 (spec_PackedBoard_ls5 F) (loopAt 5 (bodyOf Try.f9)) (spec_PackedBoard_st5 list11 i8 b10) k = spec_PackedBoard_s5 F list11 R (i8, b10) (fun s => k (.norm (spec_PackedBoard_st5 list11 s.1 s.2))) (fun x => (spec_PackedBoard_o5 list11 x).run k) := by kernel_rfl
theorem spec_PackedBoard_iter5 (F : Nat) (list11 : List Int) {R : Type} (k : Out → Option R) : ∀ (n : Nat) (i8 : Int) (b10 : List Int), iterS tt (spec_PackedBoard_tab F) (spec_PackedBoard_LS0 F) 70 (spec_PackedBoard_ls5 F) (loopAt 5 (bodyOf Try.f9)) n (spec_PackedBoard_st5 list11 i8 b10) k = loopC (spec_PackedBoard_s5 F list11) n (i8, b10) (fun x => (spec_PackedBoard_o5 list11 x).run k)
  | 0, i8, b10 => rfl
  | n + 1, i8, b10 => (iterS_succ tt (spec_PackedBoard_tab F) (spec_PackedBoard_LS0 F) 70 (spec_PackedBoard_ls5 F) (loopAt 5 (bodyOf Try.f9)) n (spec_PackedBoard_st5 list11 i8 b10) k).trans ((spec_PackedBoard_step5 F list11 i8 b10 (nextK (iterS tt (spec_PackedBoard_tab F) (spec_PackedBoard_LS0 F) 70 (spec_PackedBoard_ls5 F) (loopAt 5 (bodyOf Try.f9)) n) k)).trans (congrArg (fun kn => spec_PackedBoard_s5 F list11 R (i8, b10) kn _) (funext (fun ⟨i8, b10⟩ => spec_PackedBoard_iter5 F list11 k n i8 b10))))
theorem spec_PackedBoard_lok5 (F : Nat) : LoopOK Try.prog (loopAt 5 (bodyOf Try.f9)) (spec_PackedBoard_ls5 F) := by
  refine loopOK_of mixed ttok deep (spec_PackedBoard_tabok F) (loopsOK_at (spec_PackedBoard_lsok0 F) 5) (fuel := 70) fun R vals mem np killed k x h => ?_
  simp only [spec_PackedBoard_ls5] at h
  split at h
  · rename_i q_list7 i8 q_t29 b10 list11
    simp only [GT.run] at h
    have hc := (cond_noneL h).1
    replace h := (cond_noneL h).2
    have hg := (and_split hc).1
    replace hc := (and_split hc).2
    obtain rfl := beq_li hg
    have hg := (and_split hc).1
    replace hc := (and_split hc).2
    obtain rfl := nbeq_nat hg
    refine ⟨F, (spec_PackedBoard_iter5 F list11 k F i8 b10).trans ((loopC_use (spec_PackedBoard_s5_nat F list11) hc _).trans h)⟩
  · simp only [GT.run] at h
    cases h
noncomputable def spec_PackedBoard_LS1 (F : Nat) : LT := (5, spec_PackedBoard_ls5 F) :: spec_PackedBoard_LS0 F
theorem spec_PackedBoard_lsok1 (F : Nat) : LoopsOK Try.prog (spec_PackedBoard_LS1 F) (bodyOf Try.f9) := loopsOK_cons spec_PackedBoard_keys (spec_PackedBoard_lok5 F) (spec_PackedBoard_lsok0 F)
theorem spec_PackedBoard_run (F : Nat) (sum0 : Int) : runS tt (spec_PackedBoard_tab F) (spec_PackedBoard_LS1 F) [] [] Try.f9 (bodyOf Try.f9) 70 [(.int .i64 sum0)] [] = spec_PackedBoard_c _ F sum0 (fun r => some ⟨(.tup [(.ints 16 r.1), (.bool r.2)]), [], []⟩) := by kernel_rfl
def spec_PackedBoard_ent (F : Nat) : Ent := ⟨[], .quiet, fun args mem => match args, mem with
  | [(.int .i64 sum0)], [] => some ((spec_PackedBoard_p F sum0).isSome, ⟨(.tup [(.ints 16 ((spec_PackedBoard_p F sum0).getD default).1), (.bool ((spec_PackedBoard_p F sum0).getD default).2)]), [], []⟩)
  | _, _ => none⟩
theorem spec_PackedBoard_fok : FunOK Try.prog 9 := funOK Try.func9 (by kernel_rfl) rfl
theorem spec_PackedBoard_meets (F : Nat) : Meets Try.prog 9 (spec_PackedBoard_ent F) := by
  refine meets_of_runS mixed ttok deep (spec_PackedBoard_tabok F) Try.func9 (body_some rfl) (spec_PackedBoard_lsok1 F) fun args mem hfit ret h => ?_
  clear hfit
  simp only [spec_PackedBoard_ent] at h
  split at h
  · rename_i sum0
    simp only [Option.some.injEq, Prod.mk.injEq] at h
    obtain ⟨hc, rfl⟩ := h
    exact ⟨[], [], 70, _, (spec_PackedBoard_run F sum0).trans ((spec_PackedBoard_cp _ F sum0 _).trans (bind_use hc _)), rfl, rfl, rfl⟩
  · cases h
end Go.Proofs.Ytabfliifleonaaa
