/-
Pure functions and what the code of them does, by program; without conditions.
-/
import Derived.Test.YtplclbkelohajaaTFP3
import Derived.Test.YtplclbkelohajaaTFS2
namespace Go.Proofs.Ytplclbkelohajaa
open Go Go.Lv Go.Lv.P Go.Proofs
set_option linter.unusedVariables false
set_option linter.unusedSimpArgs false
set_option maxRecDepth 100000
/-! loop.example/g01194/laws.eqIntA3 -/
noncomputable def laws_eqIntA3_tab (F : Nat) : Tab := []
theorem laws_eqIntA3_tabok (F : Nat) : TabOK Try.prog (laws_eqIntA3_tab F) := tab_nil
noncomputable def laws_eqIntA3_LS0 (F : Nat) : LT := []
theorem laws_eqIntA3_lsok0 (F : Nat) : LoopsOK Try.prog (laws_eqIntA3_LS0 F) (bodyOf Try.f10) := loopsOK_nil
theorem laws_eqIntA3_keys : keysOK (bodyOf Try.f10) = true := by kernel_rfl
def laws_eqIntA3_st2 (a7 : List Int) (b8 : List Int) (i6 : Int) : St := ⟨expand 17 0 [2, 3, 5] [(.ptr 0 0 0 3), (.ptr 1 0 0 3), (.int .i64 i6)], [(.var 3 (.ri .i64 a7)), (.var 3 (.ri .i64 b8))], 0, []⟩
def laws_eqIntA3_o2 (a7 : List Int) (b8 : List Int) (x : Bool) : GT := (.br x (.out (.ret ⟨expand 17 0 [4] [(.bool false)], [], 0, []⟩)) (.out (.exit 0 ⟨expand 17 0 [] [], [], 0, []⟩)))
def laws_eqIntA3_ls2 (F : Nat) : LoopS := ⟨17, [2, 3, 5], [], [], [], [4], [], [], fun vals mem np killed => match vals, mem, np, killed with
  | [(.ptr 0 0 0 3), (.ptr 1 0 0 3), (.int .i64 i6)], [(.var 3 (.ri .i64 a7)), (.var 3 (.ri .i64 b8))], 0, [] => .br (laws_eqIntA3_l2 F a7 b8 i6).isSome (laws_eqIntA3_o2 a7 b8 ((laws_eqIntA3_l2 F a7 b8 i6).getD default)) .fail
  | _, _, _, _ => .fail⟩
theorem laws_eqIntA3_step2 (F : Nat) (a7 : List Int) (b8 : List Int) (i6 : Int) {R : Type} (k : Out → Option R) : stepS tt (laws_eqIntA3_tab F) (laws_eqIntA3_LS0 F) 70 (laws_eqIntA3_ls2 F) (loopAt 2 (bodyOf Try.f10)) (laws_eqIntA3_st2 a7 b8 i6) k = laws_eqIntA3_s2 F a7 b8 R i6 (fun s => k (.norm (laws_eqIntA3_st2 a7 b8 s))) (fun x => (laws_eqIntA3_o2 a7 b8 x).run k) := by kernel_rfl
theorem laws_eqIntA3_iter2 (F : Nat) (a7 : List Int) (b8 : List Int) {R : Type} (k : Out → Option R) : ∀ (n : Nat) (i6 : Int), iterS tt (laws_eqIntA3_tab F) (laws_eqIntA3_LS0 F) 70 (laws_eqIntA3_ls2 F) (loopAt 2 (bodyOf Try.f10)) n (laws_eqIntA3_st2 a7 b8 i6) k = loopC (laws_eqIntA3_s2 F a7 b8) n i6 (fun x => (laws_eqIntA3_o2 a7 b8 x).run k)
  | 0, i6 => rfl
  | n + 1, i6 => (iterS_succ tt (laws_eqIntA3_tab F) (laws_eqIntA3_LS0 F) 70 (laws_eqIntA3_ls2 F) (loopAt 2 (bodyOf Try.f10)) n (laws_eqIntA3_st2 a7 b8 i6) k).trans ((laws_eqIntA3_step2 F a7 b8 i6 (nextK (iterS tt (laws_eqIntA3_tab F) (laws_eqIntA3_LS0 F) 70 (laws_eqIntA3_ls2 F) (loopAt 2 (bodyOf Try.f10)) n) k)).trans (congrArg (fun kn => laws_eqIntA3_s2 F a7 b8 R i6 kn _) (funext (fun i6 => laws_eqIntA3_iter2 F a7 b8 k n i6))))
theorem laws_eqIntA3_lok2 (F : Nat) : LoopOK Try.prog (loopAt 2 (bodyOf Try.f10)) (laws_eqIntA3_ls2 F) := by
  refine loopOK_of mixed ttok deep (laws_eqIntA3_tabok F) (loopsOK_at (laws_eqIntA3_lsok0 F) 2) (fuel := 70) fun R vals mem np killed k x h => ?_
  simp only [laws_eqIntA3_ls2] at h
  split at h
  · rename_i i6 a7 b8
    simp only [GT.run] at h
    have hc := (cond_noneL h).1
    replace h := (cond_noneL h).2
    refine ⟨F, (laws_eqIntA3_iter2 F a7 b8 k F i6).trans ((loopC_use (laws_eqIntA3_s2_nat F a7 b8) hc _).trans h)⟩
  · simp only [GT.run] at h
    cases h
noncomputable def laws_eqIntA3_LS1 (F : Nat) : LT := (2, laws_eqIntA3_ls2 F) :: laws_eqIntA3_LS0 F
theorem laws_eqIntA3_lsok1 (F : Nat) : LoopsOK Try.prog (laws_eqIntA3_LS1 F) (bodyOf Try.f10) := loopsOK_cons laws_eqIntA3_keys (laws_eqIntA3_lok2 F) (laws_eqIntA3_lsok0 F)
theorem laws_eqIntA3_run (F : Nat) (a0 : List Int) (b1 : List Int) : runS tt (laws_eqIntA3_tab F) (laws_eqIntA3_LS1 F) [] [] Try.f10 (bodyOf Try.f10) 70 [(.ints 3 a0), (.ints 3 b1)] [] = laws_eqIntA3_c _ F a0 b1 (fun r => some ⟨(.bool r), [], []⟩) := by kernel_rfl
def laws_eqIntA3_ent (F : Nat) : Ent := ⟨[], .quiet, fun args mem => match args, mem with
  | [(.ints 3 a0), (.ints 3 b1)], [] => some ((laws_eqIntA3_p F a0 b1).isSome, ⟨(.bool ((laws_eqIntA3_p F a0 b1).getD default)), [], []⟩)
  | _, _ => none⟩
theorem laws_eqIntA3_fok : FunOK Try.prog 10 := funOK Try.func10 (by kernel_rfl) rfl
theorem laws_eqIntA3_meets (F : Nat) : Meets Try.prog 10 (laws_eqIntA3_ent F) := by
  refine meets_of_runS mixed ttok deep (laws_eqIntA3_tabok F) Try.func10 (body_some rfl) (laws_eqIntA3_lsok1 F) fun args mem hfit ret h => ?_
  clear hfit
  simp only [laws_eqIntA3_ent] at h
  split at h
  · rename_i a0 b1
    simp only [Option.some.injEq, Prod.mk.injEq] at h
    obtain ⟨hc, rfl⟩ := h
    exact ⟨[], [], 70, _, (laws_eqIntA3_run F a0 b1).trans ((laws_eqIntA3_cp _ F a0 b1 _).trans (bind_use hc _)), rfl, rfl, rfl⟩
  · cases h

/-! loop.example/g01194/laws.FnExactWorstTile -/
noncomputable def laws_FnExactWorstTile_tab (F : Nat) : Tab := [(8, (laws_toBoard_ent F)), (7, (spec_WorstTile_ent F)), (9, (impl_WorstTile_ent F)), (10, (laws_eqIntA3_ent F))]
theorem laws_FnExactWorstTile_tabok (F : Nat) : TabOK Try.prog (laws_FnExactWorstTile_tab F) := (tab_cons (laws_toBoard_meets F) laws_toBoard_fok (tab_cons (spec_WorstTile_meets F) spec_WorstTile_fok (tab_cons (impl_WorstTile_meets F) impl_WorstTile_fok (tab_cons (laws_eqIntA3_meets F) laws_eqIntA3_fok tab_nil))))
noncomputable def laws_FnExactWorstTile_LS0 (F : Nat) : LT := []
theorem laws_FnExactWorstTile_lsok0 (F : Nat) : LoopsOK Try.prog (laws_FnExactWorstTile_LS0 F) (bodyOf Try.f3) := loopsOK_nil
theorem laws_FnExactWorstTile_run (F : Nat) (aB0 : List Int) : runS tt (laws_FnExactWorstTile_tab F) (laws_FnExactWorstTile_LS0 F) [] [] Try.f3 (bodyOf Try.f3) 70 [(.ints 16 aB0)] [] = laws_FnExactWorstTile_c _ F aB0 (fun r => some ⟨(.bool r), [], []⟩) := by kernel_rfl
def laws_FnExactWorstTile_ent (F : Nat) : Ent := ⟨[], .quiet, fun args mem => match args, mem with
  | [(.ints 16 aB0)], [] => some ((laws_FnExactWorstTile_p F aB0).isSome, ⟨(.bool ((laws_FnExactWorstTile_p F aB0).getD default)), [], []⟩)
  | _, _ => none⟩
theorem laws_FnExactWorstTile_fok : FunOK Try.prog 3 := funOK Try.func3 (by kernel_rfl) rfl
theorem laws_FnExactWorstTile_meets (F : Nat) : Meets Try.prog 3 (laws_FnExactWorstTile_ent F) := by
  refine meets_of_runS mixed ttok deep (laws_FnExactWorstTile_tabok F) Try.func3 (body_some rfl) (laws_FnExactWorstTile_lsok0 F) fun args mem hfit ret h => ?_
  clear hfit
  simp only [laws_FnExactWorstTile_ent] at h
  split at h
  · rename_i aB0
    simp only [Option.some.injEq, Prod.mk.injEq] at h
    obtain ⟨hc, rfl⟩ := h
    exact ⟨[], [], 70, _, (laws_FnExactWorstTile_run F aB0).trans ((laws_FnExactWorstTile_cp _ F aB0 _).trans (bind_use hc _)), rfl, rfl, rfl⟩
  · cases h

/-! loop.example/g01194/laws.toIntA2 -/
noncomputable def laws_toIntA2_tab (F : Nat) : Tab := []
theorem laws_toIntA2_tabok (F : Nat) : TabOK Try.prog (laws_toIntA2_tab F) := tab_nil
noncomputable def laws_toIntA2_LS0 (F : Nat) : LT := []
theorem laws_toIntA2_lsok0 (F : Nat) : LoopsOK Try.prog (laws_toIntA2_LS0 F) (bodyOf Try.f37) := loopsOK_nil
theorem laws_toIntA2_run (F : Nat) (a0 : List Int) : runS tt (laws_toIntA2_tab F) (laws_toIntA2_LS0 F) [] [] Try.f37 (bodyOf Try.f37) 70 [(.ints 2 a0)] [] = laws_toIntA2_c _ a0 (fun r => some ⟨(.ints 2 r), [], []⟩) := by kernel_rfl
def laws_toIntA2_ent (F : Nat) : Ent := ⟨[], .quiet, fun args mem => match args, mem with
  | [(.ints 2 a0)], [] => some (true, ⟨(.ints 2 (laws_toIntA2_v a0)), [], []⟩)
  | _, _ => none⟩
theorem laws_toIntA2_fok : FunOK Try.prog 37 := funOK Try.func37 (by kernel_rfl) rfl
theorem laws_toIntA2_meets (F : Nat) : Meets Try.prog 37 (laws_toIntA2_ent F) := by
  refine meets_of_runS mixed ttok deep (laws_toIntA2_tabok F) Try.func37 (body_some rfl) (laws_toIntA2_lsok0 F) fun args mem hfit ret h => ?_
  clear hfit
  simp only [laws_toIntA2_ent] at h
  split at h
  · rename_i a0
    simp only [Option.some.injEq, Prod.mk.injEq] at h
    obtain ⟨hc, rfl⟩ := h
    exact ⟨[], [], 70, _, (laws_toIntA2_run F a0).trans (laws_toIntA2_cv _ a0 _), rfl, rfl, rfl⟩
  · cases h

/-! loop.example/g01194/laws.toStep -/
noncomputable def laws_toStep_tab (F : Nat) : Tab := [(37, (laws_toIntA2_ent F))]
theorem laws_toStep_tabok (F : Nat) : TabOK Try.prog (laws_toStep_tab F) := (tab_cons (laws_toIntA2_meets F) laws_toIntA2_fok tab_nil)
noncomputable def laws_toStep_LS0 (F : Nat) : LT := []
theorem laws_toStep_lsok0 (F : Nat) : LoopsOK Try.prog (laws_toStep_LS0 F) (bodyOf Try.f12) := loopsOK_nil
theorem laws_toStep_run (F : Nat) (a0 : List Int) : runS tt (laws_toStep_tab F) (laws_toStep_LS0 F) [] [] Try.f12 (bodyOf Try.f12) 70 [(.ints 4 a0)] [] = laws_toStep_c _ a0 (fun r => some ⟨(.ints 4 r), [], []⟩) := by kernel_rfl
def laws_toStep_ent (F : Nat) : Ent := ⟨[], .quiet, fun args mem => match args, mem with
  | [(.ints 4 a0)], [] => some (true, ⟨(.ints 4 (laws_toStep_v a0)), [], []⟩)
  | _, _ => none⟩
theorem laws_toStep_fok : FunOK Try.prog 12 := funOK Try.func12 (by kernel_rfl) rfl
theorem laws_toStep_meets (F : Nat) : Meets Try.prog 12 (laws_toStep_ent F) := by
  refine meets_of_runS mixed ttok deep (laws_toStep_tabok F) Try.func12 (body_some rfl) (laws_toStep_lsok0 F) fun args mem hfit ret h => ?_
  clear hfit
  simp only [laws_toStep_ent] at h
  split at h
  · rename_i a0
    simp only [Option.some.injEq, Prod.mk.injEq] at h
    obtain ⟨hc, rfl⟩ := h
    exact ⟨[], [], 70, _, (laws_toStep_run F a0).trans (laws_toStep_cv _ a0 _), rfl, rfl, rfl⟩
  · cases h

/-! loop.example/g01194/spec.l2Side -/
noncomputable def spec_l2Side_tab (F : Nat) : Tab := [(51, (spec_l1In_ent F))]
theorem spec_l2Side_tabok (F : Nat) : TabOK Try.prog (spec_l2Side_tab F) := (tab_cons (spec_l1In_meets F) spec_l1In_fok tab_nil)
noncomputable def spec_l2Side_LS0 (F : Nat) : LT := []
theorem spec_l2Side_lsok0 (F : Nat) : LoopsOK Try.prog (spec_l2Side_LS0 F) (bodyOf Try.f41) := loopsOK_nil
theorem spec_l2Side_run (F : Nat) (d0 : Int) : runS tt (spec_l2Side_tab F) (spec_l2Side_LS0 F) [] [] Try.f41 (bodyOf Try.f41) 70 [(.int .i64 d0)] [] = spec_l2Side_c _ d0 (fun r => some ⟨(.bool r), [], []⟩) := by kernel_rfl
def spec_l2Side_ent (F : Nat) : Ent := ⟨[], .quiet, fun args mem => match args, mem with
  | [(.int .i64 d0)], [] => some (true, ⟨(.bool (spec_l2Side_v d0)), [], []⟩)
  | _, _ => none⟩
theorem spec_l2Side_fok : FunOK Try.prog 41 := funOK Try.func41 (by kernel_rfl) rfl
theorem spec_l2Side_meets (F : Nat) : Meets Try.prog 41 (spec_l2Side_ent F) := by
  refine meets_of_runS mixed ttok deep (spec_l2Side_tabok F) Try.func41 (body_some rfl) (spec_l2Side_lsok0 F) fun args mem hfit ret h => ?_
  clear hfit
  simp only [spec_l2Side_ent] at h
  split at h
  · rename_i d0
    simp only [Option.some.injEq, Prod.mk.injEq] at h
    obtain ⟨hc, rfl⟩ := h
    exact ⟨[], [], 70, _, (spec_l2Side_run F d0).trans (spec_l2Side_cv _ d0 _), rfl, rfl, rfl⟩
  · cases h

/-! loop.example/g01194/spec.l2Cell -/
noncomputable def spec_l2Cell_tab (F : Nat) : Tab := [(51, (spec_l1In_ent F))]
theorem spec_l2Cell_tabok (F : Nat) : TabOK Try.prog (spec_l2Cell_tab F) := (tab_cons (spec_l1In_meets F) spec_l1In_fok tab_nil)
noncomputable def spec_l2Cell_LS0 (F : Nat) : LT := []
theorem spec_l2Cell_lsok0 (F : Nat) : LoopsOK Try.prog (spec_l2Cell_LS0 F) (bodyOf Try.f63) := loopsOK_nil
theorem spec_l2Cell_run (F : Nat) (cell0 : List Int) : runS tt (spec_l2Cell_tab F) (spec_l2Cell_LS0 F) [] [] Try.f63 (bodyOf Try.f63) 70 [(.ints 2 cell0)] [] = spec_l2Cell_c _ cell0 (fun r => some ⟨(.bool r), [], []⟩) := by kernel_rfl
def spec_l2Cell_ent (F : Nat) : Ent := ⟨[], .quiet, fun args mem => match args, mem with
  | [(.ints 2 cell0)], [] => some (true, ⟨(.bool (spec_l2Cell_v cell0)), [], []⟩)
  | _, _ => none⟩
theorem spec_l2Cell_fok : FunOK Try.prog 63 := funOK Try.func63 (by kernel_rfl) rfl
theorem spec_l2Cell_meets (F : Nat) : Meets Try.prog 63 (spec_l2Cell_ent F) := by
  refine meets_of_runS mixed ttok deep (spec_l2Cell_tabok F) Try.func63 (body_some rfl) (spec_l2Cell_lsok0 F) fun args mem hfit ret h => ?_
  clear hfit
  simp only [spec_l2Cell_ent] at h
  split at h
  · rename_i cell0
    simp only [Option.some.injEq, Prod.mk.injEq] at h
    obtain ⟨hc, rfl⟩ := h
    exact ⟨[], [], 70, _, (spec_l2Cell_run F cell0).trans (spec_l2Cell_cv _ cell0 _), rfl, rfl, rfl⟩
  · cases h

/-! loop.example/g01194/spec.l5Do -/
noncomputable def spec_l5Do_tab (F : Nat) : Tab := [(41, (spec_l2Side_ent F)), (63, (spec_l2Cell_ent F)), (51, (spec_l1In_ent F)), (52, (spec_l2Slide_ent F)), (64, (spec_l2At_ent F)), (53, (spec_l2Put_ent F))]
theorem spec_l5Do_tabok (F : Nat) : TabOK Try.prog (spec_l5Do_tab F) := (tab_cons (spec_l2Side_meets F) spec_l2Side_fok (tab_cons (spec_l2Cell_meets F) spec_l2Cell_fok (tab_cons (spec_l1In_meets F) spec_l1In_fok (tab_cons (spec_l2Slide_meets F) spec_l2Slide_fok (tab_cons (spec_l2At_meets F) spec_l2At_fok (tab_cons (spec_l2Put_meets F) spec_l2Put_fok tab_nil))))))
noncomputable def spec_l5Do_LS0 (F : Nat) : LT := []
theorem spec_l5Do_lsok0 (F : Nat) : LoopsOK Try.prog (spec_l5Do_LS0 F) (bodyOf Try.f36) := loopsOK_nil
theorem spec_l5Do_run (F : Nat) (b0 : List Int) (s1 : List Int) : runS tt (spec_l5Do_tab F) (spec_l5Do_LS0 F) [] [] Try.f36 (bodyOf Try.f36) 70 [(.ints 16 b0), (.ints 4 s1)] [] = spec_l5Do_c _ F b0 s1 (fun r => some ⟨(.tup [(.ints 16 r.1), (.int .i64 r.2.1), (.bool r.2.2)]), [], []⟩) := by kernel_rfl
def spec_l5Do_ent (F : Nat) : Ent := ⟨[], .quiet, fun args mem => match args, mem with
  | [(.ints 16 b0), (.ints 4 s1)], [] => some ((spec_l5Do_p F b0 s1).isSome, ⟨(.tup [(.ints 16 ((spec_l5Do_p F b0 s1).getD default).1), (.int .i64 ((spec_l5Do_p F b0 s1).getD default).2.1), (.bool ((spec_l5Do_p F b0 s1).getD default).2.2)]), [], []⟩)
  | _, _ => none⟩
theorem spec_l5Do_fok : FunOK Try.prog 36 := funOK Try.func36 (by kernel_rfl) rfl
theorem spec_l5Do_meets (F : Nat) : Meets Try.prog 36 (spec_l5Do_ent F) := by
  refine meets_of_runS mixed ttok deep (spec_l5Do_tabok F) Try.func36 (body_some rfl) (spec_l5Do_lsok0 F) fun args mem hfit ret h => ?_
  clear hfit
  simp only [spec_l5Do_ent] at h
  split at h
  · rename_i b0 s1
    simp only [Option.some.injEq, Prod.mk.injEq] at h
    obtain ⟨hc, rfl⟩ := h
    exact ⟨[], [], 70, _, (spec_l5Do_run F b0 s1).trans ((spec_l5Do_cp _ F b0 s1 _).trans (bind_use hc _)), rfl, rfl, rfl⟩
  · cases h

/-! loop.example/g01194/spec.DoStep -/
noncomputable def spec_DoStep_tab (F : Nat) : Tab := [(25, (spec_l2Board_ent F)), (36, (spec_l5Do_ent F))]
theorem spec_DoStep_tabok (F : Nat) : TabOK Try.prog (spec_DoStep_tab F) := (tab_cons (spec_l2Board_meets F) spec_l2Board_fok (tab_cons (spec_l5Do_meets F) spec_l5Do_fok tab_nil))
noncomputable def spec_DoStep_LS0 (F : Nat) : LT := []
theorem spec_DoStep_lsok0 (F : Nat) : LoopsOK Try.prog (spec_DoStep_LS0 F) (bodyOf Try.f11) := loopsOK_nil
theorem spec_DoStep_run (F : Nat) (b0 : List Int) (s1 : List Int) : runS tt (spec_DoStep_tab F) (spec_DoStep_LS0 F) [] [] Try.f11 (bodyOf Try.f11) 70 [(.ints 16 b0), (.ints 4 s1)] [] = spec_DoStep_c _ F b0 s1 (fun r => some ⟨(.tup [(.ints 16 r.1), (.int .i64 r.2.1), (.bool r.2.2)]), [], []⟩) := by kernel_rfl
def spec_DoStep_ent (F : Nat) : Ent := ⟨[], .quiet, fun args mem => match args, mem with
  | [(.ints 16 b0), (.ints 4 s1)], [] => some ((spec_DoStep_p F b0 s1).isSome, ⟨(.tup [(.ints 16 ((spec_DoStep_p F b0 s1).getD default).1), (.int .i64 ((spec_DoStep_p F b0 s1).getD default).2.1), (.bool ((spec_DoStep_p F b0 s1).getD default).2.2)]), [], []⟩)
  | _, _ => none⟩
theorem spec_DoStep_fok : FunOK Try.prog 11 := funOK Try.func11 (by kernel_rfl) rfl
theorem spec_DoStep_meets (F : Nat) : Meets Try.prog 11 (spec_DoStep_ent F) := by
  refine meets_of_runS mixed ttok deep (spec_DoStep_tabok F) Try.func11 (body_some rfl) (spec_DoStep_lsok0 F) fun args mem hfit ret h => ?_
  clear hfit
  simp only [spec_DoStep_ent] at h
  split at h
  · rename_i b0 s1
    simp only [Option.some.injEq, Prod.mk.injEq] at h
    obtain ⟨hc, rfl⟩ := h
    exact ⟨[], [], 70, _, (spec_DoStep_run F b0 s1).trans ((spec_DoStep_cp _ F b0 s1 _).trans (bind_use hc _)), rfl, rfl, rfl⟩
  · cases h

/-! loop.example/g01194/impl.isDirection -/
noncomputable def impl_isDirection_tab (F : Nat) : Tab := [(68, (impl_in_ent F))]
theorem impl_isDirection_tabok (F : Nat) : TabOK Try.prog (impl_isDirection_tab F) := (tab_cons (impl_in_meets F) impl_in_fok tab_nil)
noncomputable def impl_isDirection_LS0 (F : Nat) : LT := []
theorem impl_isDirection_lsok0 (F : Nat) : LoopsOK Try.prog (impl_isDirection_LS0 F) (bodyOf Try.f43) := loopsOK_nil
theorem impl_isDirection_run (F : Nat) (d0 : Int) : runS tt (impl_isDirection_tab F) (impl_isDirection_LS0 F) [] [] Try.f43 (bodyOf Try.f43) 70 [(.int .i64 d0)] [] = impl_isDirection_c _ d0 (fun r => some ⟨(.bool r), [], []⟩) := by kernel_rfl
def impl_isDirection_ent (F : Nat) : Ent := ⟨[], .quiet, fun args mem => match args, mem with
  | [(.int .i64 d0)], [] => some (true, ⟨(.bool (impl_isDirection_v d0)), [], []⟩)
  | _, _ => none⟩
theorem impl_isDirection_fok : FunOK Try.prog 43 := funOK Try.func43 (by kernel_rfl) rfl
theorem impl_isDirection_meets (F : Nat) : Meets Try.prog 43 (impl_isDirection_ent F) := by
  refine meets_of_runS mixed ttok deep (impl_isDirection_tabok F) Try.func43 (body_some rfl) (impl_isDirection_lsok0 F) fun args mem hfit ret h => ?_
  clear hfit
  simp only [impl_isDirection_ent] at h
  split at h
  · rename_i d0
    simp only [Option.some.injEq, Prod.mk.injEq] at h
    obtain ⟨hc, rfl⟩ := h
    exact ⟨[], [], 70, _, (impl_isDirection_run F d0).trans (impl_isDirection_cv _ d0 _), rfl, rfl, rfl⟩
  · cases h

/-! loop.example/g01194/impl.isCell -/
noncomputable def impl_isCell_tab (F : Nat) : Tab := [(68, (impl_in_ent F))]
theorem impl_isCell_tabok (F : Nat) : TabOK Try.prog (impl_isCell_tab F) := (tab_cons (impl_in_meets F) impl_in_fok tab_nil)
noncomputable def impl_isCell_LS0 (F : Nat) : LT := []
theorem impl_isCell_lsok0 (F : Nat) : LoopsOK Try.prog (impl_isCell_LS0 F) (bodyOf Try.f65) := loopsOK_nil
theorem impl_isCell_run (F : Nat) (cell0 : List Int) : runS tt (impl_isCell_tab F) (impl_isCell_LS0 F) [] [] Try.f65 (bodyOf Try.f65) 70 [(.ints 2 cell0)] [] = impl_isCell_c _ cell0 (fun r => some ⟨(.bool r), [], []⟩) := by kernel_rfl
def impl_isCell_ent (F : Nat) : Ent := ⟨[], .quiet, fun args mem => match args, mem with
  | [(.ints 2 cell0)], [] => some (true, ⟨(.bool (impl_isCell_v cell0)), [], []⟩)
  | _, _ => none⟩
theorem impl_isCell_fok : FunOK Try.prog 65 := funOK Try.func65 (by kernel_rfl) rfl
theorem impl_isCell_meets (F : Nat) : Meets Try.prog 65 (impl_isCell_ent F) := by
  refine meets_of_runS mixed ttok deep (impl_isCell_tabok F) Try.func65 (body_some rfl) (impl_isCell_lsok0 F) fun args mem hfit ret h => ?_
  clear hfit
  simp only [impl_isCell_ent] at h
  split at h
  · rename_i cell0
    simp only [Option.some.injEq, Prod.mk.injEq] at h
    obtain ⟨hc, rfl⟩ := h
    exact ⟨[], [], 70, _, (impl_isCell_run F cell0).trans (impl_isCell_cv _ cell0 _), rfl, rfl, rfl⟩
  · cases h

/-! (loop.example/g01194/impl.Board).slides -/
noncomputable def impl_Board_slides_tab (F : Nat) : Tab := [(62, (impl_Board_slide_ent F))]
theorem impl_Board_slides_tabok (F : Nat) : TabOK Try.prog (impl_Board_slides_tab F) := (tab_cons (impl_Board_slide_meets F) impl_Board_slide_fok tab_nil)
noncomputable def impl_Board_slides_LS0 (F : Nat) : LT := []
theorem impl_Board_slides_lsok0 (F : Nat) : LoopsOK Try.prog (impl_Board_slides_LS0 F) (bodyOf Try.f69) := loopsOK_nil
theorem impl_Board_slides_keys : keysOK (bodyOf Try.f69) = true := by kernel_rfl
def impl_Board_slides_st2 (t76 : List Int) (t87 : Int) (t98 : Int) (b9 : List Int) : St := ⟨expand 22 0 [2, 4, 7, 8, 9] [(.ptr 0 0 0 16), (.ptr 1 0 0 16), (.ri .i64 t76), (.int .i64 t87), (.int .i64 t98)], [(.var 16 (.ri .i64 b9)), (.var 16 (.ri .i64 [(0 : Int), (0 : Int), (0 : Int), (0 : Int), (0 : Int), (0 : Int), (0 : Int), (0 : Int), (0 : Int), (0 : Int), (0 : Int), (0 : Int), (0 : Int), (0 : Int), (0 : Int), (0 : Int)]))], 0, []⟩
def impl_Board_slides_o2 (t76 : List Int) (t87 : Int) (x : List Int) : GT := (.out (.exit 0 ⟨expand 22 0 [2, 4] [(.ptr 0 0 0 16), (.ptr 1 0 0 16)], [(.var 16 (.ri .i64 x)), (.var 16 (.ri .i64 [(0 : Int), (0 : Int), (0 : Int), (0 : Int), (0 : Int), (0 : Int), (0 : Int), (0 : Int), (0 : Int), (0 : Int), (0 : Int), (0 : Int), (0 : Int), (0 : Int), (0 : Int), (0 : Int)]))], 0, []⟩))
def impl_Board_slides_ls2 (F : Nat) : LoopS := ⟨22, [2, 4, 7, 8, 9], [], [2, 4], [], [4], [], [], fun vals mem np killed => match vals, mem, np, killed with
  | [(.ptr 0 0 0 16), (.ptr 1 0 0 16), (.ri .i64 t76), (.int .i64 t87), (.int .i64 t98)], [(.var 16 (.ri .i64 b9)), (.var 16 (.ri .i64 q_t410))], 0, [] => .br ((q_t410 == ([(0 : Int), (0 : Int), (0 : Int), (0 : Int), (0 : Int), (0 : Int), (0 : Int), (0 : Int), (0 : Int), (0 : Int), (0 : Int), (0 : Int), (0 : Int), (0 : Int), (0 : Int), (0 : Int)] : List Int)) && (impl_Board_slides_l2 F t76 t87 t98 b9).isSome) (impl_Board_slides_o2 t76 t87 ((impl_Board_slides_l2 F t76 t87 t98 b9).getD default)) .fail
  | _, _, _, _ => .fail⟩
theorem impl_Board_slides_step2 (F : Nat) (t76 : List Int) (t87 : Int) (t98 : Int) (b9 : List Int) {R : Type} (k : Out → Option R) : stepS tt (impl_Board_slides_tab F) (impl_Board_slides_LS0 F) 70 (impl_Board_slides_ls2 F) (loopAt 2 (bodyOf Try.f69)) (impl_Board_slides_st2 t76 t87 t98 b9) k = impl_Board_slides_s2 F t76 t87 R (t98, b9) (fun s => k (.norm (impl_Board_slides_st2 t76 t87 s.1 s.2))) (fun x => (impl_Board_slides_o2 t76 t87 x).run k) := by kernel_rfl
theorem impl_Board_slides_iter2 (F : Nat) (t76 : List Int) (t87 : Int) {R : Type} (k : Out → Option R) : ∀ (n : Nat) (t98 : Int) (b9 : List Int), iterS tt (impl_Board_slides_tab F) (impl_Board_slides_LS0 F) 70 (impl_Board_slides_ls2 F) (loopAt 2 (bodyOf Try.f69)) n (impl_Board_slides_st2 t76 t87 t98 b9) k = loopC (impl_Board_slides_s2 F t76 t87) n (t98, b9) (fun x => (impl_Board_slides_o2 t76 t87 x).run k)
  | 0, t98, b9 => rfl
  | n + 1, t98, b9 => (iterS_succ tt (impl_Board_slides_tab F) (impl_Board_slides_LS0 F) 70 (impl_Board_slides_ls2 F) (loopAt 2 (bodyOf Try.f69)) n (impl_Board_slides_st2 t76 t87 t98 b9) k).trans ((impl_Board_slides_step2 F t76 t87 t98 b9 (nextK (iterS tt (impl_Board_slides_tab F) (impl_Board_slides_LS0 F) 70 (impl_Board_slides_ls2 F) (loopAt 2 (bodyOf Try.f69)) n) k)).trans (congrArg (fun kn => impl_Board_slides_s2 F t76 t87 R (t98, b9) kn _) (funext (fun ⟨t98, b9⟩ => impl_Board_slides_iter2 F t76 t87 k n t98 b9))))
theorem impl_Board_slides_lok2 (F : Nat) : LoopOK Try.prog (loopAt 2 (bodyOf Try.f69)) (impl_Board_slides_ls2 F) := by
  refine loopOK_of mixed ttok deep (impl_Board_slides_tabok F) (loopsOK_at (impl_Board_slides_lsok0 F) 2) (fuel := 70) fun R vals mem np killed k x h => ?_
  simp only [impl_Board_slides_ls2] at h
  split at h
  · rename_i t76 t87 t98 b9 q_t410
    simp only [GT.run] at h
    have hc := (cond_noneL h).1
    replace h := (cond_noneL h).2
    have hg := (and_split hc).1
    replace hc := (and_split hc).2
    obtain rfl := beq_li hg
    refine ⟨F, (impl_Board_slides_iter2 F t76 t87 k F t98 b9).trans ((loopC_use (impl_Board_slides_s2_nat F t76 t87) hc _).trans h)⟩
  · simp only [GT.run] at h
    cases h
noncomputable def impl_Board_slides_LS1 (F : Nat) : LT := (2, impl_Board_slides_ls2 F) :: impl_Board_slides_LS0 F
theorem impl_Board_slides_lsok1 (F : Nat) : LoopsOK Try.prog (impl_Board_slides_LS1 F) (bodyOf Try.f69) := loopsOK_cons impl_Board_slides_keys (impl_Board_slides_lok2 F) (impl_Board_slides_lsok0 F)
theorem impl_Board_slides_run (F : Nat) (b0 : List Int) (list1 : List Int) : runS tt (impl_Board_slides_tab F) (impl_Board_slides_LS1 F) [] [] Try.f69 (bodyOf Try.f69) 70 [(.ints 16 b0), (.ri .i64 list1)] [] = impl_Board_slides_c _ F b0 list1 (fun r => some ⟨(.ints 16 r), [], []⟩) := by kernel_rfl
def impl_Board_slides_ent (F : Nat) : Ent := ⟨[], .quiet, fun args mem => match args, mem with
  | [(.ints 16 b0), (.ri .i64 list1)], [] => some ((impl_Board_slides_p F b0 list1).isSome, ⟨(.ints 16 ((impl_Board_slides_p F b0 list1).getD default)), [], []⟩)
  | _, _ => none⟩
theorem impl_Board_slides_fok : FunOK Try.prog 69 := funOK Try.func69 (by kernel_rfl) rfl
theorem impl_Board_slides_meets (F : Nat) : Meets Try.prog 69 (impl_Board_slides_ent F) := by
  refine meets_of_runS mixed ttok deep (impl_Board_slides_tabok F) Try.func69 (body_some rfl) (impl_Board_slides_lsok1 F) fun args mem hfit ret h => ?_
  clear hfit
  simp only [impl_Board_slides_ent] at h
  split at h
  · rename_i b0 list1
    simp only [Option.some.injEq, Prod.mk.injEq] at h
    obtain ⟨hc, rfl⟩ := h
    exact ⟨[], [], 70, _, (impl_Board_slides_run F b0 list1).trans ((impl_Board_slides_cp _ F b0 list1 _).trans (bind_use hc _)), rfl, rfl, rfl⟩
  · cases h

/-! (loop.example/g01194/impl.Board).steps -/
noncomputable def impl_Board_steps_tab (F : Nat) : Tab := [(69, (impl_Board_slides_ent F)), (32, (impl_Board_empty_ent F))]
theorem impl_Board_steps_tabok (F : Nat) : TabOK Try.prog (impl_Board_steps_tab F) := (tab_cons (impl_Board_slides_meets F) impl_Board_slides_fok (tab_cons (impl_Board_empty_meets F) impl_Board_empty_fok tab_nil))
noncomputable def impl_Board_steps_LS0 (F : Nat) : LT := []
theorem impl_Board_steps_lsok0 (F : Nat) : LoopsOK Try.prog (impl_Board_steps_LS0 F) (bodyOf Try.f44) := loopsOK_nil
theorem impl_Board_steps_keys : keysOK (bodyOf Try.f44) = true := by kernel_rfl
def impl_Board_steps_st5 (direction0 : Int) (t194 : Nat) (t205 : Int) (t198 : List (List Int)) (t216 : Int) (out7 : List (List Int)) : St := ⟨expand 36 0 [1, 5, 19, 20, 21] [(.int .i64 direction0), (.sl 0 0 (List.length out7)), (.sl 1 0 t194), (.int .i64 t205), (.int .i64 t216)], [(.vec 38 (.rr 4 out7)), (.vec 33 (.rr 2 t198))], 0, []⟩
def impl_Board_steps_o5 (direction0 : Int) (t194 : Nat) (t205 : Int) (t198 : List (List Int)) (x : List (List Int)) : GT := (.out (.exit 0 ⟨expand 36 0 [5] [(.sl 0 0 (List.length x))], [(.vec 38 (.rr 4 x))], 0, []⟩))
def impl_Board_steps_ls5 (F : Nat) : LoopS := ⟨36, [1, 5, 19, 20, 21], [], [5], [], [4], [], [], fun vals mem np killed => match vals, mem, np, killed with
  | [(.int .i64 direction0), (.sl 0 0 q_out2), (.sl 1 0 t194), (.int .i64 t205), (.int .i64 t216)], [(.vec 38 (.rr 4 out7)), (.vec 33 (.rr 2 t198))], 0, [] => .br ((Nat.beq q_out2 (List.length out7)) && (impl_Board_steps_l5 F direction0 t194 t205 t198 t216 out7).isSome) (impl_Board_steps_o5 direction0 t194 t205 t198 ((impl_Board_steps_l5 F direction0 t194 t205 t198 t216 out7).getD default)) .fail
  | _, _, _, _ => .fail⟩
theorem impl_Board_steps_step5 (F : Nat) (direction0 : Int) (t194 : Nat) (t205 : Int) (t198 : List (List Int)) (t216 : Int) (out7 : List (List Int)) {R : Type} (k : Out → Option R) : stepS tt (impl_Board_steps_tab F) (impl_Board_steps_LS0 F) 70 (impl_Board_steps_ls5 F) (loopAt 5 (bodyOf Try.f44)) (impl_Board_steps_st5 direction0 t194 t205 t198 t216 out7) k = impl_Board_steps_s5 F direction0 t194 t205 t198 R (t216, out7) (fun s => k (.norm (impl_Board_steps_st5 direction0 t194 t205 t198 s.1 s.2))) (fun x => (impl_Board_steps_o5 direction0 t194 t205 t198 x).run k) := by kernel_rfl
theorem impl_Board_steps_iter5 (F : Nat) (direction0 : Int) (t194 : Nat) (t205 : Int) (t198 : List (List Int)) {R : Type} (k : Out → Option R) : ∀ (n : Nat) (t216 : Int) (out7 : List (List Int)), iterS tt (impl_Board_steps_tab F) (impl_Board_steps_LS0 F) 70 (impl_Board_steps_ls5 F) (loopAt 5 (bodyOf Try.f44)) n (impl_Board_steps_st5 direction0 t194 t205 t198 t216 out7) k = loopC (impl_Board_steps_s5 F direction0 t194 t205 t198) n (t216, out7) (fun x => (impl_Board_steps_o5 direction0 t194 t205 t198 x).run k)
  | 0, t216, out7 => rfl
  | n + 1, t216, out7 => (iterS_succ tt (impl_Board_steps_tab F) (impl_Board_steps_LS0 F) 70 (impl_Board_steps_ls5 F) (loopAt 5 (bodyOf Try.f44)) n (impl_Board_steps_st5 direction0 t194 t205 t198 t216 out7) k).trans ((impl_Board_steps_step5 F direction0 t194 t205 t198 t216 out7 (nextK (iterS tt (impl_Board_steps_tab F) (impl_Board_steps_LS0 F) 70 (impl_Board_steps_ls5 F) (loopAt 5 (bodyOf Try.f44)) n) k)).trans (congrArg (fun kn => impl_Board_steps_s5 F direction0 t194 t205 t198 R (t216, out7) kn _) (funext (fun ⟨t216, out7⟩ => impl_Board_steps_iter5 F direction0 t194 t205 t198 k n t216 out7))))
theorem impl_Board_steps_lok5 (F : Nat) : LoopOK Try.prog (loopAt 5 (bodyOf Try.f44)) (impl_Board_steps_ls5 F) := by
  refine loopOK_of mixed ttok deep (impl_Board_steps_tabok F) (loopsOK_at (impl_Board_steps_lsok0 F) 5) (fuel := 70) fun R vals mem np killed k x h => ?_
  simp only [impl_Board_steps_ls5] at h
  split at h
  · rename_i direction0 q_out2 t194 t205 t216 out7 t198
    simp only [GT.run] at h
    have hc := (cond_noneL h).1
    replace h := (cond_noneL h).2
    have hg := (and_split hc).1
    replace hc := (and_split hc).2
    obtain rfl := nbeq_nat hg
    refine ⟨F, (impl_Board_steps_iter5 F direction0 t194 t205 t198 k F t216 out7).trans ((loopC_use (impl_Board_steps_s5_nat F direction0 t194 t205 t198) hc _).trans h)⟩
  · simp only [GT.run] at h
    cases h
noncomputable def impl_Board_steps_LS1 (F : Nat) : LT := (5, impl_Board_steps_ls5 F) :: impl_Board_steps_LS0 F
theorem impl_Board_steps_lsok1 (F : Nat) : LoopsOK Try.prog (impl_Board_steps_LS1 F) (bodyOf Try.f44) := loopsOK_cons impl_Board_steps_keys (impl_Board_steps_lok5 F) (impl_Board_steps_lsok0 F)
theorem impl_Board_steps_run (F : Nat) (b0 : List Int) (direction1 : Int) : runS tt (impl_Board_steps_tab F) (impl_Board_steps_LS1 F) [] [] Try.f44 (bodyOf Try.f44) 70 [(.ints 16 b0), (.int .i64 direction1)] [] = impl_Board_steps_c _ F b0 direction1 (fun r => some ⟨(.sl 0 0 (List.length r)), [(.vec 38 (.rr 4 r))], []⟩) := by kernel_rfl
def impl_Board_steps_ent (F : Nat) : Ent := ⟨[], .fresh, fun args mem => match args, mem with
  | [(.ints 16 b0), (.int .i64 direction1)], [] => some ((impl_Board_steps_p F b0 direction1).isSome, ⟨(.sl 0 0 (List.length ((impl_Board_steps_p F b0 direction1).getD default))), [(.vec 38 (.rr 4 ((impl_Board_steps_p F b0 direction1).getD default)))], []⟩)
  | _, _ => none⟩
theorem impl_Board_steps_fok : FunOK Try.prog 44 := funOK Try.func44 (by kernel_rfl) rfl
theorem impl_Board_steps_meets (F : Nat) : Meets Try.prog 44 (impl_Board_steps_ent F) := by
  refine meets_of_runS mixed ttok deep (impl_Board_steps_tabok F) Try.func44 (body_some rfl) (impl_Board_steps_lsok1 F) fun args mem hfit ret h => ?_
  clear hfit
  simp only [impl_Board_steps_ent] at h
  split at h
  · rename_i b0 direction1
    simp only [Option.some.injEq, Prod.mk.injEq] at h
    obtain ⟨hc, rfl⟩ := h
    exact ⟨[], [], 70, _, (impl_Board_steps_run F b0 direction1).trans ((impl_Board_steps_cp _ F b0 direction1 _).trans (bind_use hc _)), rfl, rfl, rfl⟩
  · cases h

/-! slices.Index[[]loop.example/g01194/impl.Step,loop.example/g01194/impl.Step] -/
noncomputable def slices_Index_implStepimplStep_tab (F : Nat) : Tab := []
theorem slices_Index_implStepimplStep_tabok (F : Nat) : TabOK Try.prog (slices_Index_implStepimplStep_tab F) := tab_nil
noncomputable def slices_Index_implStepimplStep_LS0 (F : Nat) : LT := []
theorem slices_Index_implStepimplStep_lsok0 (F : Nat) : LoopsOK Try.prog (slices_Index_implStepimplStep_LS0 F) (bodyOf Try.f82) := loopsOK_nil
theorem slices_Index_implStepimplStep_keys : keysOK (bodyOf Try.f82) = true := by kernel_rfl
def slices_Index_implStepimplStep_st2 (s0 : List (List Int)) (t74 : Int) (v6 : List Int) (t85 : Int) : St := ⟨expand 19 0 [0, 3, 7, 8] [(.rr 4 s0), (.ptr 0 0 0 4), (.int .i64 t74), (.int .i64 t85)], [(.var 4 (.ri .i64 v6))], 0, []⟩
def slices_Index_implStepimplStep_o2 (s0 : List (List Int)) (t74 : Int) (v6 : List Int) (x : Bool × Int) : GT := (.br x.1 (.out (.ret ⟨expand 19 0 [4] [(.int .i64 x.2)], [], 0, []⟩)) (.out (.exit 0 ⟨expand 19 0 [] [], [], 0, []⟩)))
def slices_Index_implStepimplStep_ls2 (F : Nat) : LoopS := ⟨19, [0, 3, 7, 8], [], [], [], [4], [], [], fun vals mem np killed => match vals, mem, np, killed with
  | [(.rr 4 s0), (.ptr 0 0 0 4), (.int .i64 t74), (.int .i64 t85)], [(.var 4 (.ri .i64 v6))], 0, [] => .br (slices_Index_implStepimplStep_l2 F s0 t74 v6 t85).isSome (slices_Index_implStepimplStep_o2 s0 t74 v6 ((slices_Index_implStepimplStep_l2 F s0 t74 v6 t85).getD default)) .fail
  | _, _, _, _ => .fail⟩
theorem slices_Index_implStepimplStep_step2 (F : Nat) (s0 : List (List Int)) (t74 : Int) (v6 : List Int) (t85 : Int) {R : Type} (k : Out → Option R) : stepS tt (slices_Index_implStepimplStep_tab F) (slices_Index_implStepimplStep_LS0 F) 70 (slices_Index_implStepimplStep_ls2 F) (loopAt 2 (bodyOf Try.f82)) (slices_Index_implStepimplStep_st2 s0 t74 v6 t85) k = slices_Index_implStepimplStep_s2 F s0 t74 v6 R t85 (fun s => k (.norm (slices_Index_implStepimplStep_st2 s0 t74 v6 s))) (fun x => (slices_Index_implStepimplStep_o2 s0 t74 v6 x).run k) := by kernel_rfl
theorem slices_Index_implStepimplStep_iter2 (F : Nat) (s0 : List (List Int)) (t74 : Int) (v6 : List Int) {R : Type} (k : Out → Option R) : ∀ (n : Nat) (t85 : Int), iterS tt (slices_Index_implStepimplStep_tab F) (slices_Index_implStepimplStep_LS0 F) 70 (slices_Index_implStepimplStep_ls2 F) (loopAt 2 (bodyOf Try.f82)) n (slices_Index_implStepimplStep_st2 s0 t74 v6 t85) k = loopC (slices_Index_implStepimplStep_s2 F s0 t74 v6) n t85 (fun x => (slices_Index_implStepimplStep_o2 s0 t74 v6 x).run k)
  | 0, t85 => rfl
  | n + 1, t85 => (iterS_succ tt (slices_Index_implStepimplStep_tab F) (slices_Index_implStepimplStep_LS0 F) 70 (slices_Index_implStepimplStep_ls2 F) (loopAt 2 (bodyOf Try.f82)) n (slices_Index_implStepimplStep_st2 s0 t74 v6 t85) k).trans ((slices_Index_implStepimplStep_step2 F s0 t74 v6 t85 (nextK (iterS tt (slices_Index_implStepimplStep_tab F) (slices_Index_implStepimplStep_LS0 F) 70 (slices_Index_implStepimplStep_ls2 F) (loopAt 2 (bodyOf Try.f82)) n) k)).trans (congrArg (fun kn => slices_Index_implStepimplStep_s2 F s0 t74 v6 R t85 kn _) (funext (fun t85 => slices_Index_implStepimplStep_iter2 F s0 t74 v6 k n t85))))
theorem slices_Index_implStepimplStep_lok2 (F : Nat) : LoopOK Try.prog (loopAt 2 (bodyOf Try.f82)) (slices_Index_implStepimplStep_ls2 F) := by
  refine loopOK_of mixed ttok deep (slices_Index_implStepimplStep_tabok F) (loopsOK_at (slices_Index_implStepimplStep_lsok0 F) 2) (fuel := 70) fun R vals mem np killed k x h => ?_
  simp only [slices_Index_implStepimplStep_ls2] at h
  split at h
  · rename_i s0 t74 t85 v6
    simp only [GT.run] at h
    have hc := (cond_noneL h).1
    replace h := (cond_noneL h).2
    refine ⟨F, (slices_Index_implStepimplStep_iter2 F s0 t74 v6 k F t85).trans ((loopC_use (slices_Index_implStepimplStep_s2_nat F s0 t74 v6) hc _).trans h)⟩
  · simp only [GT.run] at h
    cases h
noncomputable def slices_Index_implStepimplStep_LS1 (F : Nat) : LT := (2, slices_Index_implStepimplStep_ls2 F) :: slices_Index_implStepimplStep_LS0 F
theorem slices_Index_implStepimplStep_lsok1 (F : Nat) : LoopsOK Try.prog (slices_Index_implStepimplStep_LS1 F) (bodyOf Try.f82) := loopsOK_cons slices_Index_implStepimplStep_keys (slices_Index_implStepimplStep_lok2 F) (slices_Index_implStepimplStep_lsok0 F)
theorem slices_Index_implStepimplStep_run (F : Nat) (s0 : List (List Int)) (v1 : List Int) : runS tt (slices_Index_implStepimplStep_tab F) (slices_Index_implStepimplStep_LS1 F) [] [] Try.f82 (bodyOf Try.f82) 70 [(.rr 4 s0), (.ints 4 v1)] [] = slices_Index_implStepimplStep_c _ F s0 v1 (fun r => some ⟨(.int .i64 r), [], []⟩) := by kernel_rfl
def slices_Index_implStepimplStep_ent (F : Nat) : Ent := ⟨[], .quiet, fun args mem => match args, mem with
  | [(.rr 4 s0), (.ints 4 v1)], [] => some ((slices_Index_implStepimplStep_p F s0 v1).isSome, ⟨(.int .i64 ((slices_Index_implStepimplStep_p F s0 v1).getD default)), [], []⟩)
  | _, _ => none⟩
theorem slices_Index_implStepimplStep_fok : FunOK Try.prog 82 := funOK Try.func82 (by kernel_rfl) rfl
theorem slices_Index_implStepimplStep_meets (F : Nat) : Meets Try.prog 82 (slices_Index_implStepimplStep_ent F) := by
  refine meets_of_runS mixed ttok deep (slices_Index_implStepimplStep_tabok F) Try.func82 (body_some rfl) (slices_Index_implStepimplStep_lsok1 F) fun args mem hfit ret h => ?_
  clear hfit
  simp only [slices_Index_implStepimplStep_ent] at h
  split at h
  · rename_i s0 v1
    simp only [Option.some.injEq, Prod.mk.injEq] at h
    obtain ⟨hc, rfl⟩ := h
    exact ⟨[], [], 70, _, (slices_Index_implStepimplStep_run F s0 v1).trans ((slices_Index_implStepimplStep_cp _ F s0 v1 _).trans (bind_use hc _)), rfl, rfl, rfl⟩
  · cases h

/-! slices.Contains[[]loop.example/g01194/impl.Step,loop.example/g01194/impl.Step] -/
noncomputable def slices_Contains_implStepimplStep_tab (F : Nat) : Tab := [(82, (slices_Index_implStepimplStep_ent F))]
theorem slices_Contains_implStepimplStep_tabok (F : Nat) : TabOK Try.prog (slices_Contains_implStepimplStep_tab F) := (tab_cons (slices_Index_implStepimplStep_meets F) slices_Index_implStepimplStep_fok tab_nil)
noncomputable def slices_Contains_implStepimplStep_LS0 (F : Nat) : LT := []
theorem slices_Contains_implStepimplStep_lsok0 (F : Nat) : LoopsOK Try.prog (slices_Contains_implStepimplStep_LS0 F) (bodyOf Try.f66) := loopsOK_nil
theorem slices_Contains_implStepimplStep_run (F : Nat) (s0 : List (List Int)) (v1 : List Int) : runS tt (slices_Contains_implStepimplStep_tab F) (slices_Contains_implStepimplStep_LS0 F) [] [] Try.f66 (bodyOf Try.f66) 70 [(.rr 4 s0), (.ints 4 v1)] [] = slices_Contains_implStepimplStep_c _ F s0 v1 (fun r => some ⟨(.bool r), [], []⟩) := by kernel_rfl
def slices_Contains_implStepimplStep_ent (F : Nat) : Ent := ⟨[], .quiet, fun args mem => match args, mem with
  | [(.rr 4 s0), (.ints 4 v1)], [] => some ((slices_Contains_implStepimplStep_p F s0 v1).isSome, ⟨(.bool ((slices_Contains_implStepimplStep_p F s0 v1).getD default)), [], []⟩)
  | _, _ => none⟩
theorem slices_Contains_implStepimplStep_fok : FunOK Try.prog 66 := funOK Try.func66 (by kernel_rfl) rfl
theorem slices_Contains_implStepimplStep_meets (F : Nat) : Meets Try.prog 66 (slices_Contains_implStepimplStep_ent F) := by
  refine meets_of_runS mixed ttok deep (slices_Contains_implStepimplStep_tabok F) Try.func66 (body_some rfl) (slices_Contains_implStepimplStep_lsok0 F) fun args mem hfit ret h => ?_
  clear hfit
  simp only [slices_Contains_implStepimplStep_ent] at h
  split at h
  · rename_i s0 v1
    simp only [Option.some.injEq, Prod.mk.injEq] at h
    obtain ⟨hc, rfl⟩ := h
    exact ⟨[], [], 70, _, (slices_Contains_implStepimplStep_run F s0 v1).trans ((slices_Contains_implStepimplStep_cp _ F s0 v1 _).trans (bind_use hc _)), rfl, rfl, rfl⟩
  · cases h

/-! (loop.example/g01194/impl.Board).isStep -/
noncomputable def impl_Board_isStep_tab (F : Nat) : Tab := [(43, (impl_isDirection_ent F)), (65, (impl_isCell_ent F)), (44, (impl_Board_steps_ent F)), (66, (slices_Contains_implStepimplStep_ent F))]
theorem impl_Board_isStep_tabok (F : Nat) : TabOK Try.prog (impl_Board_isStep_tab F) := (tab_cons (impl_isDirection_meets F) impl_isDirection_fok (tab_cons (impl_isCell_meets F) impl_isCell_fok (tab_cons (impl_Board_steps_meets F) impl_Board_steps_fok (tab_cons (slices_Contains_implStepimplStep_meets F) slices_Contains_implStepimplStep_fok tab_nil))))
noncomputable def impl_Board_isStep_LS0 (F : Nat) : LT := []
theorem impl_Board_isStep_lsok0 (F : Nat) : LoopsOK Try.prog (impl_Board_isStep_LS0 F) (bodyOf Try.f38) := loopsOK_nil
theorem impl_Board_isStep_run (F : Nat) (b0 : List Int) (s1 : List Int) : runS tt (impl_Board_isStep_tab F) (impl_Board_isStep_LS0 F) [] [] Try.f38 (bodyOf Try.f38) 70 [(.ints 16 b0), (.ints 4 s1)] [] = impl_Board_isStep_c _ F b0 s1 (fun r => some ⟨(.bool r), [], []⟩) := by kernel_rfl
def impl_Board_isStep_ent (F : Nat) : Ent := ⟨[], .quiet, fun args mem => match args, mem with
  | [(.ints 16 b0), (.ints 4 s1)], [] => some ((impl_Board_isStep_p F b0 s1).isSome, ⟨(.bool ((impl_Board_isStep_p F b0 s1).getD default)), [], []⟩)
  | _, _ => none⟩
theorem impl_Board_isStep_fok : FunOK Try.prog 38 := funOK Try.func38 (by kernel_rfl) rfl
theorem impl_Board_isStep_meets (F : Nat) : Meets Try.prog 38 (impl_Board_isStep_ent F) := by
  refine meets_of_runS mixed ttok deep (impl_Board_isStep_tabok F) Try.func38 (body_some rfl) (impl_Board_isStep_lsok0 F) fun args mem hfit ret h => ?_
  clear hfit
  simp only [impl_Board_isStep_ent] at h
  split at h
  · rename_i b0 s1
    simp only [Option.some.injEq, Prod.mk.injEq] at h
    obtain ⟨hc, rfl⟩ := h
    exact ⟨[], [], 70, _, (impl_Board_isStep_run F b0 s1).trans ((impl_Board_isStep_cp _ F b0 s1 _).trans (bind_use hc _)), rfl, rfl, rfl⟩
  · cases h

/-! (loop.example/g01194/impl.Board).behind -/
noncomputable def impl_Board_behind_tab (F : Nat) : Tab := [(62, (impl_Board_slide_ent F)), (61, (impl_Board_at_ent F))]
theorem impl_Board_behind_tabok (F : Nat) : TabOK Try.prog (impl_Board_behind_tab F) := (tab_cons (impl_Board_slide_meets F) impl_Board_slide_fok (tab_cons (impl_Board_at_meets F) impl_Board_at_fok tab_nil))
noncomputable def impl_Board_behind_LS0 (F : Nat) : LT := []
theorem impl_Board_behind_lsok0 (F : Nat) : LoopsOK Try.prog (impl_Board_behind_LS0 F) (bodyOf Try.f39) := loopsOK_nil
theorem impl_Board_behind_run (F : Nat) (b0 : List Int) (s1 : List Int) : runS tt (impl_Board_behind_tab F) (impl_Board_behind_LS0 F) [] [] Try.f39 (bodyOf Try.f39) 70 [(.ints 16 b0), (.ints 4 s1)] [] = impl_Board_behind_c _ F b0 s1 (fun r => some ⟨(.tup [(.ints 16 r.1), (.int .i64 r.2)]), [], []⟩) := by kernel_rfl
def impl_Board_behind_ent (F : Nat) : Ent := ⟨[], .quiet, fun args mem => match args, mem with
  | [(.ints 16 b0), (.ints 4 s1)], [] => some ((impl_Board_behind_p F b0 s1).isSome, ⟨(.tup [(.ints 16 ((impl_Board_behind_p F b0 s1).getD default).1), (.int .i64 ((impl_Board_behind_p F b0 s1).getD default).2)]), [], []⟩)
  | _, _ => none⟩
theorem impl_Board_behind_fok : FunOK Try.prog 39 := funOK Try.func39 (by kernel_rfl) rfl
theorem impl_Board_behind_meets (F : Nat) : Meets Try.prog 39 (impl_Board_behind_ent F) := by
  refine meets_of_runS mixed ttok deep (impl_Board_behind_tabok F) Try.func39 (body_some rfl) (impl_Board_behind_lsok0 F) fun args mem hfit ret h => ?_
  clear hfit
  simp only [impl_Board_behind_ent] at h
  split at h
  · rename_i b0 s1
    simp only [Option.some.injEq, Prod.mk.injEq] at h
    obtain ⟨hc, rfl⟩ := h
    exact ⟨[], [], 70, _, (impl_Board_behind_run F b0 s1).trans ((impl_Board_behind_cp _ F b0 s1 _).trans (bind_use hc _)), rfl, rfl, rfl⟩
  · cases h

/-! loop.example/g01194/impl.DoStep -/
noncomputable def impl_DoStep_tab (F : Nat) : Tab := [(31, (impl_IsBoard_ent F)), (38, (impl_Board_isStep_ent F)), (39, (impl_Board_behind_ent F))]
theorem impl_DoStep_tabok (F : Nat) : TabOK Try.prog (impl_DoStep_tab F) := (tab_cons (impl_IsBoard_meets F) impl_IsBoard_fok (tab_cons (impl_Board_isStep_meets F) impl_Board_isStep_fok (tab_cons (impl_Board_behind_meets F) impl_Board_behind_fok tab_nil)))
noncomputable def impl_DoStep_LS0 (F : Nat) : LT := []
theorem impl_DoStep_lsok0 (F : Nat) : LoopsOK Try.prog (impl_DoStep_LS0 F) (bodyOf Try.f13) := loopsOK_nil
theorem impl_DoStep_run (F : Nat) (b0 : List Int) (s1 : List Int) : runS tt (impl_DoStep_tab F) (impl_DoStep_LS0 F) [] [] Try.f13 (bodyOf Try.f13) 70 [(.ints 16 b0), (.ints 4 s1)] [] = impl_DoStep_c _ F b0 s1 (fun r => some ⟨(.tup [(.ints 16 r.1), (.int .i64 r.2.1), (.bool r.2.2)]), [], []⟩) := by kernel_rfl
def impl_DoStep_ent (F : Nat) : Ent := ⟨[], .quiet, fun args mem => match args, mem with
  | [(.ints 16 b0), (.ints 4 s1)], [] => some ((impl_DoStep_p F b0 s1).isSome, ⟨(.tup [(.ints 16 ((impl_DoStep_p F b0 s1).getD default).1), (.int .i64 ((impl_DoStep_p F b0 s1).getD default).2.1), (.bool ((impl_DoStep_p F b0 s1).getD default).2.2)]), [], []⟩)
  | _, _ => none⟩
theorem impl_DoStep_fok : FunOK Try.prog 13 := funOK Try.func13 (by kernel_rfl) rfl
theorem impl_DoStep_meets (F : Nat) : Meets Try.prog 13 (impl_DoStep_ent F) := by
  refine meets_of_runS mixed ttok deep (impl_DoStep_tabok F) Try.func13 (body_some rfl) (impl_DoStep_lsok0 F) fun args mem hfit ret h => ?_
  clear hfit
  simp only [impl_DoStep_ent] at h
  split at h
  · rename_i b0 s1
    simp only [Option.some.injEq, Prod.mk.injEq] at h
    obtain ⟨hc, rfl⟩ := h
    exact ⟨[], [], 70, _, (impl_DoStep_run F b0 s1).trans ((impl_DoStep_cp _ F b0 s1 _).trans (bind_use hc _)), rfl, rfl, rfl⟩
  · cases h

/-! loop.example/g01194/laws.eqIntA4 -/
noncomputable def laws_eqIntA4_tab (F : Nat) : Tab := []
theorem laws_eqIntA4_tabok (F : Nat) : TabOK Try.prog (laws_eqIntA4_tab F) := tab_nil
noncomputable def laws_eqIntA4_LS0 (F : Nat) : LT := []
theorem laws_eqIntA4_lsok0 (F : Nat) : LoopsOK Try.prog (laws_eqIntA4_LS0 F) (bodyOf Try.f67) := loopsOK_nil
theorem laws_eqIntA4_keys : keysOK (bodyOf Try.f67) = true := by kernel_rfl
def laws_eqIntA4_st2 (a7 : List Int) (b8 : List Int) (i6 : Int) : St := ⟨expand 17 0 [2, 3, 5] [(.ptr 0 0 0 4), (.ptr 1 0 0 4), (.int .i64 i6)], [(.var 4 (.ri .i64 a7)), (.var 4 (.ri .i64 b8))], 0, []⟩
def laws_eqIntA4_o2 (a7 : List Int) (b8 : List Int) (x : Bool) : GT := (.br x (.out (.ret ⟨expand 17 0 [4] [(.bool false)], [], 0, []⟩)) (.out (.exit 0 ⟨expand 17 0 [] [], [], 0, []⟩)))
def laws_eqIntA4_ls2 (F : Nat) : LoopS := ⟨17, [2, 3, 5], [], [], [], [4], [], [], fun vals mem np killed => match vals, mem, np, killed with
  | [(.ptr 0 0 0 4), (.ptr 1 0 0 4), (.int .i64 i6)], [(.var 4 (.ri .i64 a7)), (.var 4 (.ri .i64 b8))], 0, [] => .br (laws_eqIntA4_l2 F a7 b8 i6).isSome (laws_eqIntA4_o2 a7 b8 ((laws_eqIntA4_l2 F a7 b8 i6).getD default)) .fail
  | _, _, _, _ => .fail⟩
theorem laws_eqIntA4_step2 (F : Nat) (a7 : List Int) (b8 : List Int) (i6 : Int) {R : Type} (k : Out → Option R) : stepS tt (laws_eqIntA4_tab F) (laws_eqIntA4_LS0 F) 70 (laws_eqIntA4_ls2 F) (loopAt 2 (bodyOf Try.f67)) (laws_eqIntA4_st2 a7 b8 i6) k = laws_eqIntA4_s2 F a7 b8 R i6 (fun s => k (.norm (laws_eqIntA4_st2 a7 b8 s))) (fun x => (laws_eqIntA4_o2 a7 b8 x).run k) := by kernel_rfl
theorem laws_eqIntA4_iter2 (F : Nat) (a7 : List Int) (b8 : List Int) {R : Type} (k : Out → Option R) : ∀ (n : Nat) (i6 : Int), iterS tt (laws_eqIntA4_tab F) (laws_eqIntA4_LS0 F) 70 (laws_eqIntA4_ls2 F) (loopAt 2 (bodyOf Try.f67)) n (laws_eqIntA4_st2 a7 b8 i6) k = loopC (laws_eqIntA4_s2 F a7 b8) n i6 (fun x => (laws_eqIntA4_o2 a7 b8 x).run k)
  | 0, i6 => rfl
  | n + 1, i6 => (iterS_succ tt (laws_eqIntA4_tab F) (laws_eqIntA4_LS0 F) 70 (laws_eqIntA4_ls2 F) (loopAt 2 (bodyOf Try.f67)) n (laws_eqIntA4_st2 a7 b8 i6) k).trans ((laws_eqIntA4_step2 F a7 b8 i6 (nextK (iterS tt (laws_eqIntA4_tab F) (laws_eqIntA4_LS0 F) 70 (laws_eqIntA4_ls2 F) (loopAt 2 (bodyOf Try.f67)) n) k)).trans (congrArg (fun kn => laws_eqIntA4_s2 F a7 b8 R i6 kn _) (funext (fun i6 => laws_eqIntA4_iter2 F a7 b8 k n i6))))
theorem laws_eqIntA4_lok2 (F : Nat) : LoopOK Try.prog (loopAt 2 (bodyOf Try.f67)) (laws_eqIntA4_ls2 F) := by
  refine loopOK_of mixed ttok deep (laws_eqIntA4_tabok F) (loopsOK_at (laws_eqIntA4_lsok0 F) 2) (fuel := 70) fun R vals mem np killed k x h => ?_
  simp only [laws_eqIntA4_ls2] at h
  split at h
  · rename_i i6 a7 b8
    simp only [GT.run] at h
    have hc := (cond_noneL h).1
    replace h := (cond_noneL h).2
    refine ⟨F, (laws_eqIntA4_iter2 F a7 b8 k F i6).trans ((loopC_use (laws_eqIntA4_s2_nat F a7 b8) hc _).trans h)⟩
  · simp only [GT.run] at h
    cases h
noncomputable def laws_eqIntA4_LS1 (F : Nat) : LT := (2, laws_eqIntA4_ls2 F) :: laws_eqIntA4_LS0 F
theorem laws_eqIntA4_lsok1 (F : Nat) : LoopsOK Try.prog (laws_eqIntA4_LS1 F) (bodyOf Try.f67) := loopsOK_cons laws_eqIntA4_keys (laws_eqIntA4_lok2 F) (laws_eqIntA4_lsok0 F)
theorem laws_eqIntA4_run (F : Nat) (a0 : List Int) (b1 : List Int) : runS tt (laws_eqIntA4_tab F) (laws_eqIntA4_LS1 F) [] [] Try.f67 (bodyOf Try.f67) 70 [(.ints 4 a0), (.ints 4 b1)] [] = laws_eqIntA4_c _ F a0 b1 (fun r => some ⟨(.bool r), [], []⟩) := by kernel_rfl
def laws_eqIntA4_ent (F : Nat) : Ent := ⟨[], .quiet, fun args mem => match args, mem with
  | [(.ints 4 a0), (.ints 4 b1)], [] => some ((laws_eqIntA4_p F a0 b1).isSome, ⟨(.bool ((laws_eqIntA4_p F a0 b1).getD default)), [], []⟩)
  | _, _ => none⟩
theorem laws_eqIntA4_fok : FunOK Try.prog 67 := funOK Try.func67 (by kernel_rfl) rfl
theorem laws_eqIntA4_meets (F : Nat) : Meets Try.prog 67 (laws_eqIntA4_ent F) := by
  refine meets_of_runS mixed ttok deep (laws_eqIntA4_tabok F) Try.func67 (body_some rfl) (laws_eqIntA4_lsok1 F) fun args mem hfit ret h => ?_
  clear hfit
  simp only [laws_eqIntA4_ent] at h
  split at h
  · rename_i a0 b1
    simp only [Option.some.injEq, Prod.mk.injEq] at h
    obtain ⟨hc, rfl⟩ := h
    exact ⟨[], [], 70, _, (laws_eqIntA4_run F a0 b1).trans ((laws_eqIntA4_cp _ F a0 b1 _).trans (bind_use hc _)), rfl, rfl, rfl⟩
  · cases h

/-! loop.example/g01194/laws.eqIntA4A4 -/
noncomputable def laws_eqIntA4A4_tab (F : Nat) : Tab := [(67, (laws_eqIntA4_ent F))]
theorem laws_eqIntA4A4_tabok (F : Nat) : TabOK Try.prog (laws_eqIntA4A4_tab F) := (tab_cons (laws_eqIntA4_meets F) laws_eqIntA4_fok tab_nil)
noncomputable def laws_eqIntA4A4_LS0 (F : Nat) : LT := []
theorem laws_eqIntA4A4_lsok0 (F : Nat) : LoopsOK Try.prog (laws_eqIntA4A4_LS0 F) (bodyOf Try.f40) := loopsOK_nil
theorem laws_eqIntA4A4_keys : keysOK (bodyOf Try.f40) = true := by kernel_rfl
def laws_eqIntA4A4_st2 (a7 : List Int) (b8 : List Int) (i6 : Int) : St := ⟨expand 18 0 [2, 3, 5] [(.ptr 0 0 0 16), (.ptr 1 0 0 16), (.int .i64 i6)], [(.var 16 (.ri .i64 a7)), (.var 16 (.ri .i64 b8))], 0, []⟩
def laws_eqIntA4A4_o2 (a7 : List Int) (b8 : List Int) (x : Bool) : GT := (.br x (.out (.ret ⟨expand 18 0 [4] [(.bool false)], [], 0, []⟩)) (.out (.exit 0 ⟨expand 18 0 [] [], [], 0, []⟩)))
def laws_eqIntA4A4_ls2 (F : Nat) : LoopS := ⟨18, [2, 3, 5], [], [], [], [4], [], [], fun vals mem np killed => match vals, mem, np, killed with
  | [(.ptr 0 0 0 16), (.ptr 1 0 0 16), (.int .i64 i6)], [(.var 16 (.ri .i64 a7)), (.var 16 (.ri .i64 b8))], 0, [] => .br (laws_eqIntA4A4_l2 F a7 b8 i6).isSome (laws_eqIntA4A4_o2 a7 b8 ((laws_eqIntA4A4_l2 F a7 b8 i6).getD default)) .fail
  | _, _, _, _ => .fail⟩
theorem laws_eqIntA4A4_step2 (F : Nat) (a7 : List Int) (b8 : List Int) (i6 : Int) {R : Type} (k : Out → Option R) : stepS tt (laws_eqIntA4A4_tab F) (laws_eqIntA4A4_LS0 F) 70 (laws_eqIntA4A4_ls2 F) (loopAt 2 (bodyOf Try.f40)) (laws_eqIntA4A4_st2 a7 b8 i6) k = laws_eqIntA4A4_s2 F a7 b8 R i6 (fun s => k (.norm (laws_eqIntA4A4_st2 a7 b8 s))) (fun x => (laws_eqIntA4A4_o2 a7 b8 x).run k) := by kernel_rfl
theorem laws_eqIntA4A4_iter2 (F : Nat) (a7 : List Int) (b8 : List Int) {R : Type} (k : Out → Option R) : ∀ (n : Nat) (i6 : Int), iterS tt (laws_eqIntA4A4_tab F) (laws_eqIntA4A4_LS0 F) 70 (laws_eqIntA4A4_ls2 F) (loopAt 2 (bodyOf Try.f40)) n (laws_eqIntA4A4_st2 a7 b8 i6) k = loopC (laws_eqIntA4A4_s2 F a7 b8) n i6 (fun x => (laws_eqIntA4A4_o2 a7 b8 x).run k)
  | 0, i6 => rfl
  | n + 1, i6 => (iterS_succ tt (laws_eqIntA4A4_tab F) (laws_eqIntA4A4_LS0 F) 70 (laws_eqIntA4A4_ls2 F) (loopAt 2 (bodyOf Try.f40)) n (laws_eqIntA4A4_st2 a7 b8 i6) k).trans ((laws_eqIntA4A4_step2 F a7 b8 i6 (nextK (iterS tt (laws_eqIntA4A4_tab F) (laws_eqIntA4A4_LS0 F) 70 (laws_eqIntA4A4_ls2 F) (loopAt 2 (bodyOf Try.f40)) n) k)).trans (congrArg (fun kn => laws_eqIntA4A4_s2 F a7 b8 R i6 kn _) (funext (fun i6 => laws_eqIntA4A4_iter2 F a7 b8 k n i6))))
theorem laws_eqIntA4A4_lok2 (F : Nat) : LoopOK Try.prog (loopAt 2 (bodyOf Try.f40)) (laws_eqIntA4A4_ls2 F) := by
  refine loopOK_of mixed ttok deep (laws_eqIntA4A4_tabok F) (loopsOK_at (laws_eqIntA4A4_lsok0 F) 2) (fuel := 70) fun R vals mem np killed k x h => ?_
  simp only [laws_eqIntA4A4_ls2] at h
  split at h
  · rename_i i6 a7 b8
    simp only [GT.run] at h
    have hc := (cond_noneL h).1
    replace h := (cond_noneL h).2
    refine ⟨F, (laws_eqIntA4A4_iter2 F a7 b8 k F i6).trans ((loopC_use (laws_eqIntA4A4_s2_nat F a7 b8) hc _).trans h)⟩
  · simp only [GT.run] at h
    cases h
noncomputable def laws_eqIntA4A4_LS1 (F : Nat) : LT := (2, laws_eqIntA4A4_ls2 F) :: laws_eqIntA4A4_LS0 F
theorem laws_eqIntA4A4_lsok1 (F : Nat) : LoopsOK Try.prog (laws_eqIntA4A4_LS1 F) (bodyOf Try.f40) := loopsOK_cons laws_eqIntA4A4_keys (laws_eqIntA4A4_lok2 F) (laws_eqIntA4A4_lsok0 F)
theorem laws_eqIntA4A4_run (F : Nat) (a0 : List Int) (b1 : List Int) : runS tt (laws_eqIntA4A4_tab F) (laws_eqIntA4A4_LS1 F) [] [] Try.f40 (bodyOf Try.f40) 70 [(.ints 16 a0), (.ints 16 b1)] [] = laws_eqIntA4A4_c _ F a0 b1 (fun r => some ⟨(.bool r), [], []⟩) := by kernel_rfl
def laws_eqIntA4A4_ent (F : Nat) : Ent := ⟨[], .quiet, fun args mem => match args, mem with
  | [(.ints 16 a0), (.ints 16 b1)], [] => some ((laws_eqIntA4A4_p F a0 b1).isSome, ⟨(.bool ((laws_eqIntA4A4_p F a0 b1).getD default)), [], []⟩)
  | _, _ => none⟩
theorem laws_eqIntA4A4_fok : FunOK Try.prog 40 := funOK Try.func40 (by kernel_rfl) rfl
theorem laws_eqIntA4A4_meets (F : Nat) : Meets Try.prog 40 (laws_eqIntA4A4_ent F) := by
  refine meets_of_runS mixed ttok deep (laws_eqIntA4A4_tabok F) Try.func40 (body_some rfl) (laws_eqIntA4A4_lsok1 F) fun args mem hfit ret h => ?_
  clear hfit
  simp only [laws_eqIntA4A4_ent] at h
  split at h
  · rename_i a0 b1
    simp only [Option.some.injEq, Prod.mk.injEq] at h
    obtain ⟨hc, rfl⟩ := h
    exact ⟨[], [], 70, _, (laws_eqIntA4A4_run F a0 b1).trans ((laws_eqIntA4A4_cp _ F a0 b1 _).trans (bind_use hc _)), rfl, rfl, rfl⟩
  · cases h

/-! loop.example/g01194/laws.eqBoard -/
noncomputable def laws_eqBoard_tab (F : Nat) : Tab := [(40, (laws_eqIntA4A4_ent F))]
theorem laws_eqBoard_tabok (F : Nat) : TabOK Try.prog (laws_eqBoard_tab F) := (tab_cons (laws_eqIntA4A4_meets F) laws_eqIntA4A4_fok tab_nil)
noncomputable def laws_eqBoard_LS0 (F : Nat) : LT := []
theorem laws_eqBoard_lsok0 (F : Nat) : LoopsOK Try.prog (laws_eqBoard_LS0 F) (bodyOf Try.f14) := loopsOK_nil
theorem laws_eqBoard_run (F : Nat) (a0 : List Int) (b1 : List Int) : runS tt (laws_eqBoard_tab F) (laws_eqBoard_LS0 F) [] [] Try.f14 (bodyOf Try.f14) 70 [(.ints 16 a0), (.ints 16 b1)] [] = laws_eqBoard_c _ F a0 b1 (fun r => some ⟨(.bool r), [], []⟩) := by kernel_rfl
def laws_eqBoard_ent (F : Nat) : Ent := ⟨[], .quiet, fun args mem => match args, mem with
  | [(.ints 16 a0), (.ints 16 b1)], [] => some ((laws_eqBoard_p F a0 b1).isSome, ⟨(.bool ((laws_eqBoard_p F a0 b1).getD default)), [], []⟩)
  | _, _ => none⟩
theorem laws_eqBoard_fok : FunOK Try.prog 14 := funOK Try.func14 (by kernel_rfl) rfl
theorem laws_eqBoard_meets (F : Nat) : Meets Try.prog 14 (laws_eqBoard_ent F) := by
  refine meets_of_runS mixed ttok deep (laws_eqBoard_tabok F) Try.func14 (body_some rfl) (laws_eqBoard_lsok0 F) fun args mem hfit ret h => ?_
  clear hfit
  simp only [laws_eqBoard_ent] at h
  split at h
  · rename_i a0 b1
    simp only [Option.some.injEq, Prod.mk.injEq] at h
    obtain ⟨hc, rfl⟩ := h
    exact ⟨[], [], 70, _, (laws_eqBoard_run F a0 b1).trans ((laws_eqBoard_cp _ F a0 b1 _).trans (bind_use hc _)), rfl, rfl, rfl⟩
  · cases h

/-! loop.example/g01194/laws.FnExactDoStep -/
noncomputable def laws_FnExactDoStep_tab (F : Nat) : Tab := [(8, (laws_toBoard_ent F)), (12, (laws_toStep_ent F)), (11, (spec_DoStep_ent F)), (13, (impl_DoStep_ent F)), (14, (laws_eqBoard_ent F))]
theorem laws_FnExactDoStep_tabok (F : Nat) : TabOK Try.prog (laws_FnExactDoStep_tab F) := (tab_cons (laws_toBoard_meets F) laws_toBoard_fok (tab_cons (laws_toStep_meets F) laws_toStep_fok (tab_cons (spec_DoStep_meets F) spec_DoStep_fok (tab_cons (impl_DoStep_meets F) impl_DoStep_fok (tab_cons (laws_eqBoard_meets F) laws_eqBoard_fok tab_nil)))))
noncomputable def laws_FnExactDoStep_LS0 (F : Nat) : LT := []
theorem laws_FnExactDoStep_lsok0 (F : Nat) : LoopsOK Try.prog (laws_FnExactDoStep_LS0 F) (bodyOf Try.f4) := loopsOK_nil
theorem laws_FnExactDoStep_run (F : Nat) (aB0 : List Int) (aS1 : List Int) : runS tt (laws_FnExactDoStep_tab F) (laws_FnExactDoStep_LS0 F) [] [] Try.f4 (bodyOf Try.f4) 70 [(.ints 16 aB0), (.ints 4 aS1)] [] = laws_FnExactDoStep_c _ F aB0 aS1 (fun r => some ⟨(.bool r), [], []⟩) := by kernel_rfl
def laws_FnExactDoStep_ent (F : Nat) : Ent := ⟨[], .quiet, fun args mem => match args, mem with
  | [(.ints 16 aB0), (.ints 4 aS1)], [] => some ((laws_FnExactDoStep_p F aB0 aS1).isSome, ⟨(.bool ((laws_FnExactDoStep_p F aB0 aS1).getD default)), [], []⟩)
  | _, _ => none⟩
theorem laws_FnExactDoStep_fok : FunOK Try.prog 4 := funOK Try.func4 (by kernel_rfl) rfl
theorem laws_FnExactDoStep_meets (F : Nat) : Meets Try.prog 4 (laws_FnExactDoStep_ent F) := by
  refine meets_of_runS mixed ttok deep (laws_FnExactDoStep_tabok F) Try.func4 (body_some rfl) (laws_FnExactDoStep_lsok0 F) fun args mem hfit ret h => ?_
  clear hfit
  simp only [laws_FnExactDoStep_ent] at h
  split at h
  · rename_i aB0 aS1
    simp only [Option.some.injEq, Prod.mk.injEq] at h
    obtain ⟨hc, rfl⟩ := h
    exact ⟨[], [], 70, _, (laws_FnExactDoStep_run F aB0 aS1).trans ((laws_FnExactDoStep_cp _ F aB0 aS1 _).trans (bind_use hc _)), rfl, rfl, rfl⟩
  · cases h
end Go.Proofs.Ytplclbkelohajaa
