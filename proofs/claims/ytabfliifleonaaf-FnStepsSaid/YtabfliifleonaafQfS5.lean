/-
Pure functions and what the code of them does, by program; without conditions.
-/
import Derived.Test.YtabfliifleonaafQfP5
import Derived.Test.YtabfliifleonaafQfS4
namespace Go.Proofs.Ytabfliifleonaaf
open Go Go.Lv Go.Lv.P Go.Proofs
set_option linter.unusedVariables false
set_option linter.unusedSimpArgs false
set_option maxRecDepth 100000
/-! loop.example/g01194/laws.vSteps -/
noncomputable def laws_vSteps_tab (F : Nat) : Tab := []
theorem laws_vSteps_tabok (F : Nat) : TabOK Try.prog (laws_vSteps_tab F) := tab_nil
noncomputable def laws_vSteps_LS0 (F : Nat) : LT := []
theorem laws_vSteps_lsok0 (F : Nat) : LoopsOK Try.prog (laws_vSteps_LS0 F) (bodyOf Try.f17) := loopsOK_nil
theorem laws_vSteps_keys : keysOK (bodyOf Try.f17) = true := by kernel_rfl
def laws_vSteps_st4 (a0 : List (List Int)) (b1 : List (List Int)) (i2 : Int) : St := ⟨expand 26 0 [0, 1, 5] [(.rr 4 a0), (.rr 4 b1), (.int .i64 i2)], [], 0, []⟩
def laws_vSteps_o4 (a0 : List (List Int)) (b1 : List (List Int)) (x : Bool) : GT := (.br x (.out (.ret ⟨expand 26 0 [4] [(.bool false)], [], 0, []⟩)) (.out (.exit 0 ⟨expand 26 0 [] [], [], 0, []⟩)))
def laws_vSteps_ls4 (F : Nat) : LoopS := ⟨26, [0, 1, 5], [], [], [], [4], [], [], fun vals mem np killed => match vals, mem, np, killed with
  | [(.rr 4 a0), (.rr 4 b1), (.int .i64 i2)], [], 0, [] => .br (laws_vSteps_l4 F a0 b1 i2).isSome (laws_vSteps_o4 a0 b1 ((laws_vSteps_l4 F a0 b1 i2).getD default)) .fail
  | _, _, _, _ => .fail⟩
theorem laws_vSteps_step4 (F : Nat) (a0 : List (List Int)) (b1 : List (List Int)) (i2 : Int) {R : Type} (k : Out → Option R) : stepS tt (laws_vSteps_tab F) (laws_vSteps_LS0 F) 70 (laws_vSteps_ls4 F) (loopAt 4 (bodyOf Try.f17)) (laws_vSteps_st4 a0 b1 i2) k = laws_vSteps_s4 F a0 b1 R i2 (fun s => k (.norm (laws_vSteps_st4 a0 b1 s))) (fun x => (laws_vSteps_o4 a0 b1 x).run k) := by kernel_rfl
theorem laws_vSteps_iter4 (F : Nat) (a0 : List (List Int)) (b1 : List (List Int)) {R : Type} (k : Out → Option R) : ∀ (n : Nat) (i2 : Int), iterS tt (laws_vSteps_tab F) (laws_vSteps_LS0 F) 70 (laws_vSteps_ls4 F) (loopAt 4 (bodyOf Try.f17)) n (laws_vSteps_st4 a0 b1 i2) k = loopC (laws_vSteps_s4 F a0 b1) n i2 (fun x => (laws_vSteps_o4 a0 b1 x).run k)
  | 0, i2 => rfl
  | n + 1, i2 => (iterS_succ tt (laws_vSteps_tab F) (laws_vSteps_LS0 F) 70 (laws_vSteps_ls4 F) (loopAt 4 (bodyOf Try.f17)) n (laws_vSteps_st4 a0 b1 i2) k).trans ((laws_vSteps_step4 F a0 b1 i2 (nextK (iterS tt (laws_vSteps_tab F) (laws_vSteps_LS0 F) 70 (laws_vSteps_ls4 F) (loopAt 4 (bodyOf Try.f17)) n) k)).trans (congrArg (fun kn => laws_vSteps_s4 F a0 b1 R i2 kn _) (funext (fun i2 => laws_vSteps_iter4 F a0 b1 k n i2))))
theorem laws_vSteps_lok4 (F : Nat) : LoopOK Try.prog (loopAt 4 (bodyOf Try.f17)) (laws_vSteps_ls4 F) := by
  refine loopOK_of mixed ttok deep (laws_vSteps_tabok F) (loopsOK_at (laws_vSteps_lsok0 F) 4) (fuel := 70) fun R vals mem np killed k x h => ?_
  simp only [laws_vSteps_ls4] at h
  split at h
  · rename_i a0 b1 i2
    simp only [GT.run] at h
    have hc := (cond_noneL h).1
    replace h := (cond_noneL h).2
    refine ⟨F, (laws_vSteps_iter4 F a0 b1 k F i2).trans ((loopC_use (laws_vSteps_s4_nat F a0 b1) hc _).trans h)⟩
  · simp only [GT.run] at h
    cases h
noncomputable def laws_vSteps_LS1 (F : Nat) : LT := (4, laws_vSteps_ls4 F) :: laws_vSteps_LS0 F
theorem laws_vSteps_lsok1 (F : Nat) : LoopsOK Try.prog (laws_vSteps_LS1 F) (bodyOf Try.f17) := loopsOK_cons laws_vSteps_keys (laws_vSteps_lok4 F) (laws_vSteps_lsok0 F)
theorem laws_vSteps_run (F : Nat) (a0 : List (List Int)) (b1 : List (List Int)) : runS tt (laws_vSteps_tab F) (laws_vSteps_LS1 F) [] [] Try.f17 (bodyOf Try.f17) 70 [(.rr 4 a0), (.rr 4 b1)] [] = laws_vSteps_c _ F a0 b1 (fun r => some ⟨(.bool r), [], []⟩) := by kernel_rfl
def laws_vSteps_ent (F : Nat) : Ent := ⟨[], .quiet, fun args mem => match args, mem with
  | [(.rr 4 a0), (.rr 4 b1)], [] => some ((laws_vSteps_p F a0 b1).isSome, ⟨(.bool ((laws_vSteps_p F a0 b1).getD default)), [], []⟩)
  | _, _ => none⟩
theorem laws_vSteps_fok : FunOK Try.prog 17 := funOK Try.func17 (by kernel_rfl) rfl
theorem laws_vSteps_meets (F : Nat) : Meets Try.prog 17 (laws_vSteps_ent F) := by
  refine meets_of_runS mixed ttok deep (laws_vSteps_tabok F) Try.func17 (body_some rfl) (laws_vSteps_lsok1 F) fun args mem hfit ret h => ?_
  clear hfit
  simp only [laws_vSteps_ent] at h
  split at h
  · rename_i a0 b1
    simp only [Option.some.injEq, Prod.mk.injEq] at h
    obtain ⟨hc, rfl⟩ := h
    exact ⟨[], [], 70, _, (laws_vSteps_run F a0 b1).trans ((laws_vSteps_cp _ F a0 b1 _).trans (bind_use hc _)), rfl, rfl, rfl⟩
  · cases h

/-! (loop.example/g01194/impl.Board).sum -/
noncomputable def impl_Board_sum_tab (F : Nat) : Tab := [(65, (impl_cells_ent F)), (44, (impl_Board_at_ent F)), (66, (impl_worth_ent F))]
theorem impl_Board_sum_tabok (F : Nat) : TabOK Try.prog (impl_Board_sum_tab F) := (tab_cons (impl_cells_meets F) impl_cells_fok (tab_cons (impl_Board_at_meets F) impl_Board_at_fok (tab_cons (impl_worth_meets F) impl_worth_fok tab_nil)))
noncomputable def impl_Board_sum_LS0 (F : Nat) : LT := []
theorem impl_Board_sum_lsok0 (F : Nat) : LoopsOK Try.prog (impl_Board_sum_LS0 F) (bodyOf Try.f41) := loopsOK_nil
theorem impl_Board_sum_run (F : Nat) (b0 : List Int) : runS tt (impl_Board_sum_tab F) (impl_Board_sum_LS0 F) [] [] Try.f41 (bodyOf Try.f41) 70 [(.ints 16 b0)] [] = impl_Board_sum_c _ b0 (fun r => some ⟨(.int .i64 r), [], []⟩) := by kernel_rfl
def impl_Board_sum_ent (F : Nat) : Ent := ⟨[], .quiet, fun args mem => match args, mem with
  | [(.ints 16 b0)], [] => some ((impl_Board_sum_p b0).isSome, ⟨(.int .i64 ((impl_Board_sum_p b0).getD default)), [], []⟩)
  | _, _ => none⟩
theorem impl_Board_sum_fok : FunOK Try.prog 41 := funOK Try.func41 (by kernel_rfl) rfl
theorem impl_Board_sum_meets (F : Nat) : Meets Try.prog 41 (impl_Board_sum_ent F) := by
  refine meets_of_runS mixed ttok deep (impl_Board_sum_tabok F) Try.func41 (body_some rfl) (impl_Board_sum_lsok0 F) fun args mem hfit ret h => ?_
  clear hfit
  simp only [impl_Board_sum_ent] at h
  split at h
  · rename_i b0
    simp only [Option.some.injEq, Prod.mk.injEq] at h
    obtain ⟨hc, rfl⟩ := h
    exact ⟨[], [], 70, _, (impl_Board_sum_run F b0).trans ((impl_Board_sum_cp _ b0 _).trans (bind_use hc _)), rfl, rfl, rfl⟩
  · cases h

/-! loop.example/g01194/impl.SumOf -/
noncomputable def impl_SumOf_tab (F : Nat) : Tab := [(24, (impl_IsBoard_ent F)), (41, (impl_Board_sum_ent F))]
theorem impl_SumOf_tabok (F : Nat) : TabOK Try.prog (impl_SumOf_tab F) := (tab_cons (impl_IsBoard_meets F) impl_IsBoard_fok (tab_cons (impl_Board_sum_meets F) impl_Board_sum_fok tab_nil))
noncomputable def impl_SumOf_LS0 (F : Nat) : LT := []
theorem impl_SumOf_lsok0 (F : Nat) : LoopsOK Try.prog (impl_SumOf_LS0 F) (bodyOf Try.f18) := loopsOK_nil
theorem impl_SumOf_run (F : Nat) (b0 : List Int) : runS tt (impl_SumOf_tab F) (impl_SumOf_LS0 F) [] [] Try.f18 (bodyOf Try.f18) 70 [(.ints 16 b0)] [] = impl_SumOf_c _ F b0 (fun r => some ⟨(.tup [(.int .i64 r.1), (.bool r.2)]), [], []⟩) := by kernel_rfl
def impl_SumOf_ent (F : Nat) : Ent := ⟨[], .quiet, fun args mem => match args, mem with
  | [(.ints 16 b0)], [] => some ((impl_SumOf_p F b0).isSome, ⟨(.tup [(.int .i64 ((impl_SumOf_p F b0).getD default).1), (.bool ((impl_SumOf_p F b0).getD default).2)]), [], []⟩)
  | _, _ => none⟩
theorem impl_SumOf_fok : FunOK Try.prog 18 := funOK Try.func18 (by kernel_rfl) rfl
theorem impl_SumOf_meets (F : Nat) : Meets Try.prog 18 (impl_SumOf_ent F) := by
  refine meets_of_runS mixed ttok deep (impl_SumOf_tabok F) Try.func18 (body_some rfl) (impl_SumOf_lsok0 F) fun args mem hfit ret h => ?_
  clear hfit
  simp only [impl_SumOf_ent] at h
  split at h
  · rename_i b0
    simp only [Option.some.injEq, Prod.mk.injEq] at h
    obtain ⟨hc, rfl⟩ := h
    exact ⟨[], [], 70, _, (impl_SumOf_run F b0).trans ((impl_SumOf_cp _ F b0 _).trans (bind_use hc _)), rfl, rfl, rfl⟩
  · cases h

/-! loop.example/g01194/impl.SlideBoard -/
noncomputable def impl_SlideBoard_tab (F : Nat) : Tab := [(24, (impl_IsBoard_ent F)), (25, (impl_isDirection_ent F)), (42, (impl_Board_slide_ent F))]
theorem impl_SlideBoard_tabok (F : Nat) : TabOK Try.prog (impl_SlideBoard_tab F) := (tab_cons (impl_IsBoard_meets F) impl_IsBoard_fok (tab_cons (impl_isDirection_meets F) impl_isDirection_fok (tab_cons (impl_Board_slide_meets F) impl_Board_slide_fok tab_nil)))
noncomputable def impl_SlideBoard_LS0 (F : Nat) : LT := []
theorem impl_SlideBoard_lsok0 (F : Nat) : LoopsOK Try.prog (impl_SlideBoard_LS0 F) (bodyOf Try.f19) := loopsOK_nil
theorem impl_SlideBoard_run (F : Nat) (b0 : List Int) (direction1 : Int) : runS tt (impl_SlideBoard_tab F) (impl_SlideBoard_LS0 F) [] [] Try.f19 (bodyOf Try.f19) 70 [(.ints 16 b0), (.int .i64 direction1)] [] = impl_SlideBoard_c _ F b0 direction1 (fun r => some ⟨(.tup [(.ints 16 r.1), (.int .i64 r.2.1), (.bool r.2.2)]), [], []⟩) := by kernel_rfl
def impl_SlideBoard_ent (F : Nat) : Ent := ⟨[], .quiet, fun args mem => match args, mem with
  | [(.ints 16 b0), (.int .i64 direction1)], [] => some ((impl_SlideBoard_p F b0 direction1).isSome, ⟨(.tup [(.ints 16 ((impl_SlideBoard_p F b0 direction1).getD default).1), (.int .i64 ((impl_SlideBoard_p F b0 direction1).getD default).2.1), (.bool ((impl_SlideBoard_p F b0 direction1).getD default).2.2)]), [], []⟩)
  | _, _ => none⟩
theorem impl_SlideBoard_fok : FunOK Try.prog 19 := funOK Try.func19 (by kernel_rfl) rfl
theorem impl_SlideBoard_meets (F : Nat) : Meets Try.prog 19 (impl_SlideBoard_ent F) := by
  refine meets_of_runS mixed ttok deep (impl_SlideBoard_tabok F) Try.func19 (body_some rfl) (impl_SlideBoard_lsok0 F) fun args mem hfit ret h => ?_
  clear hfit
  simp only [impl_SlideBoard_ent] at h
  split at h
  · rename_i b0 direction1
    simp only [Option.some.injEq, Prod.mk.injEq] at h
    obtain ⟨hc, rfl⟩ := h
    exact ⟨[], [], 70, _, (impl_SlideBoard_run F b0 direction1).trans ((impl_SlideBoard_cp _ F b0 direction1 _).trans (bind_use hc _)), rfl, rfl, rfl⟩
  · cases h

/-! loop.example/g01194/impl.TakeTile -/
noncomputable def impl_TakeTile_tab (F : Nat) : Tab := [(24, (impl_IsBoard_ent F)), (43, (impl_isCell_ent F)), (44, (impl_Board_at_ent F))]
theorem impl_TakeTile_tabok (F : Nat) : TabOK Try.prog (impl_TakeTile_tab F) := (tab_cons (impl_IsBoard_meets F) impl_IsBoard_fok (tab_cons (impl_isCell_meets F) impl_isCell_fok (tab_cons (impl_Board_at_meets F) impl_Board_at_fok tab_nil)))
noncomputable def impl_TakeTile_LS0 (F : Nat) : LT := []
theorem impl_TakeTile_lsok0 (F : Nat) : LoopsOK Try.prog (impl_TakeTile_LS0 F) (bodyOf Try.f20) := loopsOK_nil
theorem impl_TakeTile_run (F : Nat) (b0 : List Int) (cell1 : List Int) : runS tt (impl_TakeTile_tab F) (impl_TakeTile_LS0 F) [] [] Try.f20 (bodyOf Try.f20) 70 [(.ints 16 b0), (.ints 2 cell1)] [] = impl_TakeTile_c _ F b0 cell1 (fun r => some ⟨(.tup [(.ints 16 r.1), (.int .i64 r.2.1), (.bool r.2.2)]), [], []⟩) := by kernel_rfl
def impl_TakeTile_ent (F : Nat) : Ent := ⟨[], .quiet, fun args mem => match args, mem with
  | [(.ints 16 b0), (.ints 2 cell1)], [] => some ((impl_TakeTile_p F b0 cell1).isSome, ⟨(.tup [(.ints 16 ((impl_TakeTile_p F b0 cell1).getD default).1), (.int .i64 ((impl_TakeTile_p F b0 cell1).getD default).2.1), (.bool ((impl_TakeTile_p F b0 cell1).getD default).2.2)]), [], []⟩)
  | _, _ => none⟩
theorem impl_TakeTile_fok : FunOK Try.prog 20 := funOK Try.func20 (by kernel_rfl) rfl
theorem impl_TakeTile_meets (F : Nat) : Meets Try.prog 20 (impl_TakeTile_ent F) := by
  refine meets_of_runS mixed ttok deep (impl_TakeTile_tabok F) Try.func20 (body_some rfl) (impl_TakeTile_lsok0 F) fun args mem hfit ret h => ?_
  clear hfit
  simp only [impl_TakeTile_ent] at h
  split at h
  · rename_i b0 cell1
    simp only [Option.some.injEq, Prod.mk.injEq] at h
    obtain ⟨hc, rfl⟩ := h
    exact ⟨[], [], 70, _, (impl_TakeTile_run F b0 cell1).trans ((impl_TakeTile_cp _ F b0 cell1 _).trans (bind_use hc _)), rfl, rfl, rfl⟩
  · cases h

/-! loop.example/g01194/impl.EmptyCells -/
noncomputable def impl_EmptyCells_tab (F : Nat) : Tab := [(24, (impl_IsBoard_ent F)), (45, (impl_Board_empty_ent F))]
theorem impl_EmptyCells_tabok (F : Nat) : TabOK Try.prog (impl_EmptyCells_tab F) := (tab_cons (impl_IsBoard_meets F) impl_IsBoard_fok (tab_cons (impl_Board_empty_meets F) impl_Board_empty_fok tab_nil))
noncomputable def impl_EmptyCells_LS0 (F : Nat) : LT := []
theorem impl_EmptyCells_lsok0 (F : Nat) : LoopsOK Try.prog (impl_EmptyCells_LS0 F) (bodyOf Try.f21) := loopsOK_nil
theorem impl_EmptyCells_run (F : Nat) (b0 : List Int) : runS tt (impl_EmptyCells_tab F) (impl_EmptyCells_LS0 F) [⟨2, 33, (.rr 2 ([] : List (List Int)))⟩] [] Try.f21 (bodyOf Try.f21) 70 [(.ints 16 b0)] [] = impl_EmptyCells_c _ F b0 (fun r => some ⟨(.tup [(.sl 0 0 r.1), (.bool r.2.1)]), [(.vec 33 (.rr 2 r.2.2))], []⟩) := by kernel_rfl
def impl_EmptyCells_ent (F : Nat) : Ent := ⟨[], .fresh, fun args mem => match args, mem with
  | [(.ints 16 b0)], [] => some ((impl_EmptyCells_p F b0).isSome, ⟨(.tup [(.sl 0 0 ((impl_EmptyCells_p F b0).getD default).1), (.bool ((impl_EmptyCells_p F b0).getD default).2.1)]), [(.vec 33 (.rr 2 ((impl_EmptyCells_p F b0).getD default).2.2))], []⟩)
  | _, _ => none⟩
theorem impl_EmptyCells_fok : FunOK Try.prog 21 := funOK Try.func21 (by kernel_rfl) rfl
theorem impl_EmptyCells_meets (F : Nat) : Meets Try.prog 21 (impl_EmptyCells_ent F) := by
  refine meets_of_runS mixed ttok deep (impl_EmptyCells_tabok F) Try.func21 (body_some rfl) (impl_EmptyCells_lsok0 F) fun args mem hfit ret h => ?_
  clear hfit
  simp only [impl_EmptyCells_ent] at h
  split at h
  · rename_i b0
    simp only [Option.some.injEq, Prod.mk.injEq] at h
    obtain ⟨hc, rfl⟩ := h
    exact ⟨[⟨2, 33, (.rr 2 ([] : List (List Int)))⟩], [], 70, _, (impl_EmptyCells_run F b0).trans ((impl_EmptyCells_cp _ F b0 _).trans (bind_use hc _)), rfl, rfl, rfl⟩
  · cases h

/-! loop.example/g01194/laws.FnSteps -/
noncomputable def laws_FnSteps_tab (F : Nat) : Tab := [(4, (laws_vBig_ent F)), (5, (spec_DrawStepsOf_ent F)), (6, (impl_StepsOf_ent F)), (7, (spec_StepsOf_ent F)), (9, (laws_vCut_ent F)), (8, (spec_DrawDoStep_ent F)), (10, (impl_DoStep_ent F)), (11, (spec_DoStep_ent F)), (12, (spec_DrawStepBetween_ent F)), (13, (impl_StepBetween_ent F)), (14, (spec_StepBetween_ent F)), (15, (impl_CountNext_ent F)), (16, (spec_CountNext_ent F)), (17, (laws_vSteps_ent F)), (18, (impl_SumOf_ent F)), (19, (impl_SlideBoard_ent F)), (20, (impl_TakeTile_ent F)), (21, (impl_EmptyCells_ent F))]
theorem laws_FnSteps_tabok (F : Nat) : TabOK Try.prog (laws_FnSteps_tab F) := (tab_cons (laws_vBig_meets F) laws_vBig_fok (tab_cons (spec_DrawStepsOf_meets F) spec_DrawStepsOf_fok (tab_cons (impl_StepsOf_meets F) impl_StepsOf_fok (tab_cons (spec_StepsOf_meets F) spec_StepsOf_fok (tab_cons (laws_vCut_meets F) laws_vCut_fok (tab_cons (spec_DrawDoStep_meets F) spec_DrawDoStep_fok (tab_cons (impl_DoStep_meets F) impl_DoStep_fok (tab_cons (spec_DoStep_meets F) spec_DoStep_fok (tab_cons (spec_DrawStepBetween_meets F) spec_DrawStepBetween_fok (tab_cons (impl_StepBetween_meets F) impl_StepBetween_fok (tab_cons (spec_StepBetween_meets F) spec_StepBetween_fok (tab_cons (impl_CountNext_meets F) impl_CountNext_fok (tab_cons (spec_CountNext_meets F) spec_CountNext_fok (tab_cons (laws_vSteps_meets F) laws_vSteps_fok (tab_cons (impl_SumOf_meets F) impl_SumOf_fok (tab_cons (impl_SlideBoard_meets F) impl_SlideBoard_fok (tab_cons (impl_TakeTile_meets F) impl_TakeTile_fok (tab_cons (impl_EmptyCells_meets F) impl_EmptyCells_fok tab_nil))))))))))))))))))
noncomputable def laws_FnSteps_LS0 (F : Nat) : LT := []
theorem laws_FnSteps_lsok0 (F : Nat) : LoopsOK Try.prog (laws_FnSteps_LS0 F) (bodyOf Try.f3) := loopsOK_nil
theorem laws_FnSteps_keys : keysOK (bodyOf Try.f3) = true := by kernel_rfl
def laws_FnSteps_st24 (d3 : Int) (ok6 : Bool) (between14 : Nat) (there15 : Bool) (many16 : Int) (b18 : List Int) (list19 : List (List Int)) (x20 : List Int) (y21 : List Int) (between22 : List (List Int)) (i17 : Int) : St := ⟨expand 311 0 [3, 4, 5, 6, 17, 18, 19, 20, 23, 37] [(.ptr 0 0 0 16), (.int .i64 d3), (.sl 1 0 (List.length list19)), (.bool ok6), (.ptr 2 0 0 16), (.ptr 3 0 0 16), (.sl 4 0 between14), (.bool there15), (.int .i64 many16), (.int .i64 i17)], [(.var 16 (.ri .i64 b18)), (.vec 35 (.rr 4 list19)), (.var 16 (.ri .i64 x20)), (.var 16 (.ri .i64 y21)), (.vec 35 (.rr 4 between22))], 0, []⟩
def laws_FnSteps_o24 (d3 : Int) (ok6 : Bool) (between14 : Nat) (there15 : Bool) (many16 : Int) (b18 : List Int) (list19 : List (List Int)) (x20 : List Int) (y21 : List Int) (between22 : List (List Int)) (x : Bool) : GT := (.br x (.out (.ret ⟨expand 311 0 [2] [(.bool false)], [], 0, []⟩)) (.out (.exit 0 ⟨expand 311 0 [3, 4, 5, 6, 23] [(.ptr 0 0 0 16), (.int .i64 d3), (.sl 1 0 (List.length list19)), (.bool ok6), (.int .i64 many16)], [(.var 16 (.ri .i64 b18)), (.vec 35 (.rr 4 list19))], 0, []⟩)))
def laws_FnSteps_ls24 (F : Nat) : LoopS := ⟨311, [3, 4, 5, 6, 17, 18, 19, 20, 23, 37], [], [3, 4, 5, 6, 23], [], [2], [], [], fun vals mem np killed => match vals, mem, np, killed with
  | [(.ptr 0 0 0 16), (.int .i64 d3), (.sl 1 0 q_list5), (.bool ok6), (.ptr 2 0 0 16), (.ptr 3 0 0 16), (.sl 4 0 between14), (.bool there15), (.int .i64 many16), (.int .i64 i17)], [(.var 16 (.ri .i64 b18)), (.vec 35 (.rr 4 list19)), (.var 16 (.ri .i64 x20)), (.var 16 (.ri .i64 y21)), (.vec 35 (.rr 4 between22))], 0, [] => .br ((Nat.beq q_list5 (List.length list19)) && (laws_FnSteps_l24 F d3 ok6 between14 there15 many16 b18 list19 x20 y21 between22 i17).isSome) (laws_FnSteps_o24 d3 ok6 between14 there15 many16 b18 list19 x20 y21 between22 ((laws_FnSteps_l24 F d3 ok6 between14 there15 many16 b18 list19 x20 y21 between22 i17).getD default)) .fail
  | _, _, _, _ => .fail⟩
theorem laws_FnSteps_step24 (F : Nat) (d3 : Int) (ok6 : Bool) (between14 : Nat) (there15 : Bool) (many16 : Int) (b18 : List Int) (list19 : List (List Int)) (x20 : List Int) (y21 : List Int) (between22 : List (List Int)) (i17 : Int) {R : Type} (k : Out → Option R) : stepS tt (laws_FnSteps_tab F) (laws_FnSteps_LS0 F) 70 (laws_FnSteps_ls24 F) (loopAt 24 (bodyOf Try.f3)) (laws_FnSteps_st24 d3 ok6 between14 there15 many16 b18 list19 x20 y21 between22 i17) k = laws_FnSteps_s24 F d3 ok6 between14 there15 many16 b18 list19 x20 y21 between22 R i17 (fun s => k (.norm (laws_FnSteps_st24 d3 ok6 between14 there15 many16 b18 list19 x20 y21 between22 s))) (fun x => (laws_FnSteps_o24 d3 ok6 between14 there15 many16 b18 list19 x20 y21 between22 x).run k) := by kernel_rfl
theorem laws_FnSteps_iter24 (F : Nat) (d3 : Int) (ok6 : Bool) (between14 : Nat) (there15 : Bool) (many16 : Int) (b18 : List Int) (list19 : List (List Int)) (x20 : List Int) (y21 : List Int) (between22 : List (List Int)) {R : Type} (k : Out → Option R) : ∀ (n : Nat) (i17 : Int), iterS tt (laws_FnSteps_tab F) (laws_FnSteps_LS0 F) 70 (laws_FnSteps_ls24 F) (loopAt 24 (bodyOf Try.f3)) n (laws_FnSteps_st24 d3 ok6 between14 there15 many16 b18 list19 x20 y21 between22 i17) k = loopC (laws_FnSteps_s24 F d3 ok6 between14 there15 many16 b18 list19 x20 y21 between22) n i17 (fun x => (laws_FnSteps_o24 d3 ok6 between14 there15 many16 b18 list19 x20 y21 between22 x).run k)
  | 0, i17 => rfl
  | n + 1, i17 => (iterS_succ tt (laws_FnSteps_tab F) (laws_FnSteps_LS0 F) 70 (laws_FnSteps_ls24 F) (loopAt 24 (bodyOf Try.f3)) n (laws_FnSteps_st24 d3 ok6 between14 there15 many16 b18 list19 x20 y21 between22 i17) k).trans ((laws_FnSteps_step24 F d3 ok6 between14 there15 many16 b18 list19 x20 y21 between22 i17 (nextK (iterS tt (laws_FnSteps_tab F) (laws_FnSteps_LS0 F) 70 (laws_FnSteps_ls24 F) (loopAt 24 (bodyOf Try.f3)) n) k)).trans (congrArg (fun kn => laws_FnSteps_s24 F d3 ok6 between14 there15 many16 b18 list19 x20 y21 between22 R i17 kn _) (funext (fun i17 => laws_FnSteps_iter24 F d3 ok6 between14 there15 many16 b18 list19 x20 y21 between22 k n i17))))
theorem laws_FnSteps_lok24 (F : Nat) : LoopOK Try.prog (loopAt 24 (bodyOf Try.f3)) (laws_FnSteps_ls24 F) := by
  refine loopOK_of mixed ttok deep (laws_FnSteps_tabok F) (loopsOK_at (laws_FnSteps_lsok0 F) 24) (fuel := 70) fun R vals mem np killed k x h => ?_
  simp only [laws_FnSteps_ls24] at h
  split at h
  · rename_i d3 q_list5 ok6 between14 there15 many16 i17 b18 list19 x20 y21 between22
    simp only [GT.run] at h
    have hc := (cond_noneL h).1
    replace h := (cond_noneL h).2
    have hg := (and_split hc).1
    replace hc := (and_split hc).2
    obtain rfl := nbeq_nat hg
    refine ⟨F, (laws_FnSteps_iter24 F d3 ok6 between14 there15 many16 b18 list19 x20 y21 between22 k F i17).trans ((loopC_use (laws_FnSteps_s24_nat F d3 ok6 between14 there15 many16 b18 list19 x20 y21 between22) hc _).trans h)⟩
  · simp only [GT.run] at h
    cases h
noncomputable def laws_FnSteps_LS1 (F : Nat) : LT := (24, laws_FnSteps_ls24 F) :: laws_FnSteps_LS0 F
theorem laws_FnSteps_lsok1 (F : Nat) : LoopsOK Try.prog (laws_FnSteps_LS1 F) (bodyOf Try.f3) := loopsOK_cons laws_FnSteps_keys (laws_FnSteps_lok24 F) (laws_FnSteps_lsok0 F)
theorem laws_FnSteps_run (F : Nat) (code0 : List Int) : runS tt (laws_FnSteps_tab F) (laws_FnSteps_LS1 F) [] [] Try.f3 (bodyOf Try.f3) 70 [(.ri .u8 code0)] [] = laws_FnSteps_c _ F code0 (fun r => some ⟨(.bool r), [], []⟩) := by kernel_rfl
def laws_FnSteps_ent (F : Nat) : Ent := ⟨[], .quiet, fun args mem => match args, mem with
  | [(.ri .u8 code0)], [] => some ((laws_FnSteps_p F code0).isSome, ⟨(.bool ((laws_FnSteps_p F code0).getD default)), [], []⟩)
  | _, _ => none⟩
theorem laws_FnSteps_fok : FunOK Try.prog 3 := funOK Try.func3 (by kernel_rfl) rfl
theorem laws_FnSteps_meets (F : Nat) : Meets Try.prog 3 (laws_FnSteps_ent F) := by
  refine meets_of_runS mixed ttok deep (laws_FnSteps_tabok F) Try.func3 (body_some rfl) (laws_FnSteps_lsok1 F) fun args mem hfit ret h => ?_
  clear hfit
  simp only [laws_FnSteps_ent] at h
  split at h
  · rename_i code0
    simp only [Option.some.injEq, Prod.mk.injEq] at h
    obtain ⟨hc, rfl⟩ := h
    exact ⟨[], [], 70, _, (laws_FnSteps_run F code0).trans ((laws_FnSteps_cp _ F code0 _).trans (bind_use hc _)), rfl, rfl, rfl⟩
  · cases h
end Go.Proofs.Ytabfliifleonaaf
