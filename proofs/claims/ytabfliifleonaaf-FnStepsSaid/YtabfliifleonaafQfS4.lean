/-
Pure functions and what the code of them does, by program; without conditions.
-/
import Derived.Test.YtabfliifleonaafQfP4
import Derived.Test.YtabfliifleonaafQfS3
namespace Go.Proofs.Ytabfliifleonaaf
open Go Go.Lv Go.Lv.P Go.Proofs
set_option linter.unusedVariables false
set_option linter.unusedSimpArgs false
set_option maxRecDepth 100000
/-! loop.example/g01194/spec.DrawStepBetween -/
noncomputable def spec_DrawStepBetween_tab (F : Nat) : Tab := [(22, (spec_l1Cur_tight5_ent F)), (27, (spec_l2Board_ent F)), (34, (spec_l1Cur_one_ent F)), (30, (spec_l1Cur_step5_ent F)), (33, (spec_l5Do_ent F)), (35, (spec_l1Cur_board_ent F))]
theorem spec_DrawStepBetween_tabok (F : Nat) : TabOK Try.prog (spec_DrawStepBetween_tab F) := (tab_cons (spec_l1Cur_tight5_meets F) spec_l1Cur_tight5_fok (tab_cons (spec_l2Board_meets F) spec_l2Board_fok (tab_cons (spec_l1Cur_one_meets F) spec_l1Cur_one_fok (tab_cons (spec_l1Cur_step5_meets F) spec_l1Cur_step5_fok (tab_cons (spec_l5Do_meets F) spec_l5Do_fok (tab_cons (spec_l1Cur_board_meets F) spec_l1Cur_board_fok tab_nil))))))
noncomputable def spec_DrawStepBetween_LS0 (F : Nat) : LT := []
theorem spec_DrawStepBetween_lsok0 (F : Nat) : LoopsOK Try.prog (spec_DrawStepBetween_LS0 F) (bodyOf Try.f12) := loopsOK_nil
theorem spec_DrawStepBetween_run (F : Nat) (code0 : List Int) : runS tt (spec_DrawStepBetween_tab F) (spec_DrawStepBetween_LS0 F) [] [] Try.f12 (bodyOf Try.f12) 70 [(.ri .u8 code0)] [] = spec_DrawStepBetween_c _ F code0 (fun r => some ⟨(.tup [(.ints 16 r.1), (.ints 16 r.2)]), [], []⟩) := by kernel_rfl
def spec_DrawStepBetween_ent (F : Nat) : Ent := ⟨[], .quiet, fun args mem => match args, mem with
  | [(.ri .u8 code0)], [] => some ((spec_DrawStepBetween_p F code0).isSome, ⟨(.tup [(.ints 16 ((spec_DrawStepBetween_p F code0).getD default).1), (.ints 16 ((spec_DrawStepBetween_p F code0).getD default).2)]), [], []⟩)
  | _, _ => none⟩
theorem spec_DrawStepBetween_fok : FunOK Try.prog 12 := funOK Try.func12 (by kernel_rfl) rfl
theorem spec_DrawStepBetween_meets (F : Nat) : Meets Try.prog 12 (spec_DrawStepBetween_ent F) := by
  refine meets_of_runS mixed ttok deep (spec_DrawStepBetween_tabok F) Try.func12 (body_some rfl) (spec_DrawStepBetween_lsok0 F) fun args mem hfit ret h => ?_
  clear hfit
  simp only [spec_DrawStepBetween_ent] at h
  split at h
  · rename_i code0
    simp only [Option.some.injEq, Prod.mk.injEq] at h
    obtain ⟨hc, rfl⟩ := h
    exact ⟨[], [], 70, _, (spec_DrawStepBetween_run F code0).trans ((spec_DrawStepBetween_cp _ F code0 _).trans (bind_use hc _)), rfl, rfl, rfl⟩
  · cases h

/-! slices.Grow[[]loop.example/g01194/impl.Step,loop.example/g01194/impl.Step] -/
noncomputable def slices_Grow_implStepimplStep_tab (F : Nat) : Tab := []
theorem slices_Grow_implStepimplStep_tabok (F : Nat) : TabOK Try.prog (slices_Grow_implStepimplStep_tab F) := tab_nil
noncomputable def slices_Grow_implStepimplStep_LS0 (F : Nat) : LT := []
theorem slices_Grow_implStepimplStep_lsok0 (F : Nat) : LoopsOK Try.prog (slices_Grow_implStepimplStep_LS0 F) (bodyOf Try.f80) := loopsOK_nil
theorem slices_Grow_implStepimplStep_run (F : Nat) (n0 : Int) : runS tt (slices_Grow_implStepimplStep_tab F) (slices_Grow_implStepimplStep_LS0 F) [⟨4, 35, (.rr 4 ([] : List (List Int)))⟩] [] Try.f80 (bodyOf Try.f80) 70 [.z0, (.int .i64 n0)] [] = slices_Grow_implStepimplStep_c _ n0 (fun r => some ⟨(.sl 0 0 0), [(.vec 35 (.rr 4 r))], []⟩) := by kernel_rfl
def slices_Grow_implStepimplStep_ent (F : Nat) : Ent := ⟨[true], .fresh, fun args mem => match args, mem with
  | [.z0, (.int .i64 n0)], [] => some ((slices_Grow_implStepimplStep_p n0).isSome, ⟨(.sl 0 0 0), [(.vec 35 (.rr 4 ((slices_Grow_implStepimplStep_p n0).getD default)))], []⟩)
  | _, _ => none⟩
theorem slices_Grow_implStepimplStep_fok : FunOK Try.prog 80 := funOK Try.func80 (by kernel_rfl) rfl
theorem slices_Grow_implStepimplStep_meets (F : Nat) : Meets Try.prog 80 (slices_Grow_implStepimplStep_ent F) := by
  refine meets_of_runS mixed ttok deep (slices_Grow_implStepimplStep_tabok F) Try.func80 (body_some rfl) (slices_Grow_implStepimplStep_lsok0 F) fun args mem hfit ret h => ?_
  clear hfit
  simp only [slices_Grow_implStepimplStep_ent] at h
  split at h
  · rename_i n0
    simp only [Option.some.injEq, Prod.mk.injEq] at h
    obtain ⟨hc, rfl⟩ := h
    exact ⟨[⟨4, 35, (.rr 4 ([] : List (List Int)))⟩], [], 70, _, (slices_Grow_implStepimplStep_run F n0).trans ((slices_Grow_implStepimplStep_cp _ n0 _).trans (bind_use hc _)), rfl, rfl, rfl⟩
  · cases h

/-! slices.Concat[[]loop.example/g01194/impl.Step,loop.example/g01194/impl.Step] -/
noncomputable def slices_Concat_implStepimplStep_tab (F : Nat) : Tab := [(80, (slices_Grow_implStepimplStep_ent F))]
theorem slices_Concat_implStepimplStep_tabok (F : Nat) : TabOK Try.prog (slices_Concat_implStepimplStep_tab F) := (tab_cons (slices_Grow_implStepimplStep_meets F) slices_Grow_implStepimplStep_fok tab_nil)
noncomputable def slices_Concat_implStepimplStep_LS0 (F : Nat) : LT := []
theorem slices_Concat_implStepimplStep_lsok0 (F : Nat) : LoopsOK Try.prog (slices_Concat_implStepimplStep_LS0 F) (bodyOf Try.f63) := loopsOK_nil
theorem slices_Concat_implStepimplStep_run (F : Nat) (slices0 : List (List Int)) (slices1 : List (List Int)) (slices2 : List (List Int)) (slices3 : List (List Int)) : runS tt (slices_Concat_implStepimplStep_tab F) (slices_Concat_implStepimplStep_LS0 F) [] [] Try.f63 (bodyOf Try.f63) 70 [(.rv [(.rr 4 slices0), (.rr 4 slices1), (.rr 4 slices2), (.rr 4 slices3)])] [] = slices_Concat_implStepimplStep_c _ slices0 slices1 slices2 slices3 (fun r => some ⟨(.sl 0 0 (List.length r)), [(.vec 35 (.rr 4 r))], []⟩) := by kernel_rfl
def slices_Concat_implStepimplStep_ent (F : Nat) : Ent := ⟨[], .fresh, fun args mem => match args, mem with
  | [(.rv [(.rr 4 slices0), (.rr 4 slices1), (.rr 4 slices2), (.rr 4 slices3)])], [] => some ((slices_Concat_implStepimplStep_p slices0 slices1 slices2 slices3).isSome, ⟨(.sl 0 0 (List.length ((slices_Concat_implStepimplStep_p slices0 slices1 slices2 slices3).getD default))), [(.vec 35 (.rr 4 ((slices_Concat_implStepimplStep_p slices0 slices1 slices2 slices3).getD default)))], []⟩)
  | _, _ => none⟩
theorem slices_Concat_implStepimplStep_fok : FunOK Try.prog 63 := funOK Try.func63 (by kernel_rfl) rfl
theorem slices_Concat_implStepimplStep_meets (F : Nat) : Meets Try.prog 63 (slices_Concat_implStepimplStep_ent F) := by
  refine meets_of_runS mixed ttok deep (slices_Concat_implStepimplStep_tabok F) Try.func63 (body_some rfl) (slices_Concat_implStepimplStep_lsok0 F) fun args mem hfit ret h => ?_
  clear hfit
  simp only [slices_Concat_implStepimplStep_ent] at h
  split at h
  · rename_i slices0 slices1 slices2 slices3
    simp only [Option.some.injEq, Prod.mk.injEq] at h
    obtain ⟨hc, rfl⟩ := h
    exact ⟨[], [], 70, _, (slices_Concat_implStepimplStep_run F slices0 slices1 slices2 slices3).trans ((slices_Concat_implStepimplStep_cp _ slices0 slices1 slices2 slices3 _).trans (bind_use hc _)), rfl, rfl, rfl⟩
  · cases h

/-! (loop.example/g01194/impl.Board).allSteps -/
noncomputable def impl_Board_allSteps_tab (F : Nat) : Tab := [(26, (impl_Board_steps_ent F)), (63, (slices_Concat_implStepimplStep_ent F))]
theorem impl_Board_allSteps_tabok (F : Nat) : TabOK Try.prog (impl_Board_allSteps_tab F) := (tab_cons (impl_Board_steps_meets F) impl_Board_steps_fok (tab_cons (slices_Concat_implStepimplStep_meets F) slices_Concat_implStepimplStep_fok tab_nil))
noncomputable def impl_Board_allSteps_LS0 (F : Nat) : LT := []
theorem impl_Board_allSteps_lsok0 (F : Nat) : LoopsOK Try.prog (impl_Board_allSteps_LS0 F) (bodyOf Try.f37) := loopsOK_nil
theorem impl_Board_allSteps_run (F : Nat) (b0 : List Int) : runS tt (impl_Board_allSteps_tab F) (impl_Board_allSteps_LS0 F) [] [] Try.f37 (bodyOf Try.f37) 70 [(.ints 16 b0)] [] = impl_Board_allSteps_c _ F b0 (fun r => some ⟨(.sl 0 0 (List.length r)), [(.vec 35 (.rr 4 r))], []⟩) := by kernel_rfl
def impl_Board_allSteps_ent (F : Nat) : Ent := ⟨[], .fresh, fun args mem => match args, mem with
  | [(.ints 16 b0)], [] => some ((impl_Board_allSteps_p F b0).isSome, ⟨(.sl 0 0 (List.length ((impl_Board_allSteps_p F b0).getD default))), [(.vec 35 (.rr 4 ((impl_Board_allSteps_p F b0).getD default)))], []⟩)
  | _, _ => none⟩
theorem impl_Board_allSteps_fok : FunOK Try.prog 37 := funOK Try.func37 (by kernel_rfl) rfl
theorem impl_Board_allSteps_meets (F : Nat) : Meets Try.prog 37 (impl_Board_allSteps_ent F) := by
  refine meets_of_runS mixed ttok deep (impl_Board_allSteps_tabok F) Try.func37 (body_some rfl) (impl_Board_allSteps_lsok0 F) fun args mem hfit ret h => ?_
  clear hfit
  simp only [impl_Board_allSteps_ent] at h
  split at h
  · rename_i b0
    simp only [Option.some.injEq, Prod.mk.injEq] at h
    obtain ⟨hc, rfl⟩ := h
    exact ⟨[], [], 70, _, (impl_Board_allSteps_run F b0).trans ((impl_Board_allSteps_cp _ F b0 _).trans (bind_use hc _)), rfl, rfl, rfl⟩
  · cases h

/-! loop.example/g01194/impl.StepBetween$1 -/
noncomputable def impl_StepBetween_f1_tab (F : Nat) : Tab := [(32, (impl_Board_behind_ent F))]
theorem impl_StepBetween_f1_tabok (F : Nat) : TabOK Try.prog (impl_StepBetween_f1_tab F) := (tab_cons (impl_Board_behind_meets F) impl_Board_behind_fok tab_nil)
noncomputable def impl_StepBetween_f1_LS0 (F : Nat) : LT := []
theorem impl_StepBetween_f1_lsok0 (F : Nat) : LoopsOK Try.prog (impl_StepBetween_f1_LS0 F) (bodyOf Try.f38) := loopsOK_nil
theorem impl_StepBetween_f1_run (F : Nat) (s0 : List Int) (a17 : List Int) (a28 : List Int) : runS tt (impl_StepBetween_f1_tab F) (impl_StepBetween_f1_LS0 F) [] [] Try.f38 (bodyOf Try.f38) 70 [(.ints 4 s0), (.ptr 0 0 0 16), (.ptr 1 0 0 16)] [(.var 16 (.ri .i64 a17)), (.var 16 (.ri .i64 a28))] = impl_StepBetween_f1_c _ F s0 a17 a28 (fun r => some ⟨(.bool r), [(.var 16 (.ri .i64 a17)), (.var 16 (.ri .i64 a28))], []⟩) := by kernel_rfl
def impl_StepBetween_f1_ent (F : Nat) : Ent := ⟨[], .quiet, fun args mem => match args, mem with
  | [(.ints 4 s0), (.ptr 0 0 0 16), (.ptr 1 0 0 16)], [(.var 16 (.ri .i64 a17)), (.var 16 (.ri .i64 a28))] => some ((impl_StepBetween_f1_p F s0 a17 a28).isSome, ⟨(.bool ((impl_StepBetween_f1_p F s0 a17 a28).getD default)), [], []⟩)
  | _, _ => none⟩
theorem impl_StepBetween_f1_fok : FunOK Try.prog 38 := funOK Try.func38 (by kernel_rfl) rfl
theorem impl_StepBetween_f1_meets (F : Nat) : Meets Try.prog 38 (impl_StepBetween_f1_ent F) := by
  refine meets_of_runS mixed ttok deep (impl_StepBetween_f1_tabok F) Try.func38 (body_some rfl) (impl_StepBetween_f1_lsok0 F) fun args mem hfit ret h => ?_
  clear hfit
  simp only [impl_StepBetween_f1_ent] at h
  split at h
  · rename_i s0 a17 a28
    simp only [Option.some.injEq, Prod.mk.injEq] at h
    obtain ⟨hc, rfl⟩ := h
    exact ⟨[], [], 70, _, (impl_StepBetween_f1_run F s0 a17 a28).trans ((impl_StepBetween_f1_cp _ F s0 a17 a28 _).trans (bind_use hc _)), rfl, rfl, rfl⟩
  · cases h

/-! slices.IndexFunc[[]loop.example/g01194/impl.Step,loop.example/g01194/impl.Step] -/
noncomputable def slices_IndexFunc_implStepimplStep_impl_StepBetween_f1_tab (F : Nat) : Tab := [(38, (impl_StepBetween_f1_ent F))]
theorem slices_IndexFunc_implStepimplStep_impl_StepBetween_f1_tabok (F : Nat) : TabOK Try.prog (slices_IndexFunc_implStepimplStep_impl_StepBetween_f1_tab F) := (tab_cons (impl_StepBetween_f1_meets F) impl_StepBetween_f1_fok tab_nil)
noncomputable def slices_IndexFunc_implStepimplStep_impl_StepBetween_f1_LS0 (F : Nat) : LT := []
theorem slices_IndexFunc_implStepimplStep_impl_StepBetween_f1_lsok0 (F : Nat) : LoopsOK Try.prog (slices_IndexFunc_implStepimplStep_impl_StepBetween_f1_LS0 F) (bodyOf Try.f62) := loopsOK_nil
theorem slices_IndexFunc_implStepimplStep_impl_StepBetween_f1_keys : keysOK (bodyOf Try.f62) = true := by kernel_rfl
def slices_IndexFunc_implStepimplStep_impl_StepBetween_f1_st2 (s0 : List (List Int)) (t77 : Int) (f9 : List Int) (f10 : List Int) (t88 : Int) : St := ⟨expand 19 0 [0, 1, 7, 8] [(.rr 4 s0), (.fn 38 [] [(.ptr 0 0 0 16), (.ptr 1 0 0 16)]), (.int .i64 t77), (.int .i64 t88)], [(.var 16 (.ri .i64 f9)), (.var 16 (.ri .i64 f10))], 2, []⟩
def slices_IndexFunc_implStepimplStep_impl_StepBetween_f1_o2 (s0 : List (List Int)) (t77 : Int) (f9 : List Int) (f10 : List Int) (x : Bool × Int) : GT := (.br x.1 (.out (.ret ⟨expand 19 0 [4] [(.int .i64 x.2)], [(.var 16 (.ri .i64 f9)), (.var 16 (.ri .i64 f10))], 2, []⟩)) (.out (.exit 0 ⟨expand 19 0 [] [], [(.var 16 (.ri .i64 f9)), (.var 16 (.ri .i64 f10))], 2, []⟩)))
def slices_IndexFunc_implStepimplStep_impl_StepBetween_f1_ls2 (F : Nat) : LoopS := ⟨19, [0, 1, 7, 8], [], [], [], [4], [], [], fun vals mem np killed => match vals, mem, np, killed with
  | [(.rr 4 s0), (.fn 38 [] [(.ptr 0 0 0 16), (.ptr 1 0 0 16)]), (.int .i64 t77), (.int .i64 t88)], [(.var 16 (.ri .i64 f9)), (.var 16 (.ri .i64 f10))], 2, [] => .br (slices_IndexFunc_implStepimplStep_impl_StepBetween_f1_l2 F s0 t77 f9 f10 t88).isSome (slices_IndexFunc_implStepimplStep_impl_StepBetween_f1_o2 s0 t77 f9 f10 ((slices_IndexFunc_implStepimplStep_impl_StepBetween_f1_l2 F s0 t77 f9 f10 t88).getD default)) .fail
  | _, _, _, _ => .fail⟩
theorem slices_IndexFunc_implStepimplStep_impl_StepBetween_f1_step2 (F : Nat) (s0 : List (List Int)) (t77 : Int) (f9 : List Int) (f10 : List Int) (t88 : Int) {R : Type} (k : Out → Option R) : stepS tt (slices_IndexFunc_implStepimplStep_impl_StepBetween_f1_tab F) (slices_IndexFunc_implStepimplStep_impl_StepBetween_f1_LS0 F) 70 (slices_IndexFunc_implStepimplStep_impl_StepBetween_f1_ls2 F) (loopAt 2 (bodyOf Try.f62)) (slices_IndexFunc_implStepimplStep_impl_StepBetween_f1_st2 s0 t77 f9 f10 t88) k = slices_IndexFunc_implStepimplStep_impl_StepBetween_f1_s2 F s0 t77 f9 f10 R t88 (fun s => k (.norm (slices_IndexFunc_implStepimplStep_impl_StepBetween_f1_st2 s0 t77 f9 f10 s))) (fun x => (slices_IndexFunc_implStepimplStep_impl_StepBetween_f1_o2 s0 t77 f9 f10 x).run k) := by kernel_rfl
theorem slices_IndexFunc_implStepimplStep_impl_StepBetween_f1_iter2 (F : Nat) (s0 : List (List Int)) (t77 : Int) (f9 : List Int) (f10 : List Int) {R : Type} (k : Out → Option R) : ∀ (n : Nat) (t88 : Int), iterS tt (slices_IndexFunc_implStepimplStep_impl_StepBetween_f1_tab F) (slices_IndexFunc_implStepimplStep_impl_StepBetween_f1_LS0 F) 70 (slices_IndexFunc_implStepimplStep_impl_StepBetween_f1_ls2 F) (loopAt 2 (bodyOf Try.f62)) n (slices_IndexFunc_implStepimplStep_impl_StepBetween_f1_st2 s0 t77 f9 f10 t88) k = loopC (slices_IndexFunc_implStepimplStep_impl_StepBetween_f1_s2 F s0 t77 f9 f10) n t88 (fun x => (slices_IndexFunc_implStepimplStep_impl_StepBetween_f1_o2 s0 t77 f9 f10 x).run k)
  | 0, t88 => rfl
  | n + 1, t88 => (iterS_succ tt (slices_IndexFunc_implStepimplStep_impl_StepBetween_f1_tab F) (slices_IndexFunc_implStepimplStep_impl_StepBetween_f1_LS0 F) 70 (slices_IndexFunc_implStepimplStep_impl_StepBetween_f1_ls2 F) (loopAt 2 (bodyOf Try.f62)) n (slices_IndexFunc_implStepimplStep_impl_StepBetween_f1_st2 s0 t77 f9 f10 t88) k).trans ((slices_IndexFunc_implStepimplStep_impl_StepBetween_f1_step2 F s0 t77 f9 f10 t88 (nextK (iterS tt (slices_IndexFunc_implStepimplStep_impl_StepBetween_f1_tab F) (slices_IndexFunc_implStepimplStep_impl_StepBetween_f1_LS0 F) 70 (slices_IndexFunc_implStepimplStep_impl_StepBetween_f1_ls2 F) (loopAt 2 (bodyOf Try.f62)) n) k)).trans (congrArg (fun kn => slices_IndexFunc_implStepimplStep_impl_StepBetween_f1_s2 F s0 t77 f9 f10 R t88 kn _) (funext (fun t88 => slices_IndexFunc_implStepimplStep_impl_StepBetween_f1_iter2 F s0 t77 f9 f10 k n t88))))
theorem slices_IndexFunc_implStepimplStep_impl_StepBetween_f1_lok2 (F : Nat) : LoopOK Try.prog (loopAt 2 (bodyOf Try.f62)) (slices_IndexFunc_implStepimplStep_impl_StepBetween_f1_ls2 F) := by
  refine loopOK_of mixed ttok deep (slices_IndexFunc_implStepimplStep_impl_StepBetween_f1_tabok F) (loopsOK_at (slices_IndexFunc_implStepimplStep_impl_StepBetween_f1_lsok0 F) 2) (fuel := 70) fun R vals mem np killed k x h => ?_
  simp only [slices_IndexFunc_implStepimplStep_impl_StepBetween_f1_ls2] at h
  split at h
  · rename_i s0 t77 t88 f9 f10
    simp only [GT.run] at h
    have hc := (cond_noneL h).1
    replace h := (cond_noneL h).2
    refine ⟨F, (slices_IndexFunc_implStepimplStep_impl_StepBetween_f1_iter2 F s0 t77 f9 f10 k F t88).trans ((loopC_use (slices_IndexFunc_implStepimplStep_impl_StepBetween_f1_s2_nat F s0 t77 f9 f10) hc _).trans h)⟩
  · simp only [GT.run] at h
    cases h
noncomputable def slices_IndexFunc_implStepimplStep_impl_StepBetween_f1_LS1 (F : Nat) : LT := (2, slices_IndexFunc_implStepimplStep_impl_StepBetween_f1_ls2 F) :: slices_IndexFunc_implStepimplStep_impl_StepBetween_f1_LS0 F
theorem slices_IndexFunc_implStepimplStep_impl_StepBetween_f1_lsok1 (F : Nat) : LoopsOK Try.prog (slices_IndexFunc_implStepimplStep_impl_StepBetween_f1_LS1 F) (bodyOf Try.f62) := loopsOK_cons slices_IndexFunc_implStepimplStep_impl_StepBetween_f1_keys (slices_IndexFunc_implStepimplStep_impl_StepBetween_f1_lok2 F) (slices_IndexFunc_implStepimplStep_impl_StepBetween_f1_lsok0 F)
theorem slices_IndexFunc_implStepimplStep_impl_StepBetween_f1_run (F : Nat) (s0 : List (List Int)) (f7 : List Int) (f8 : List Int) : runS tt (slices_IndexFunc_implStepimplStep_impl_StepBetween_f1_tab F) (slices_IndexFunc_implStepimplStep_impl_StepBetween_f1_LS1 F) [] [] Try.f62 (bodyOf Try.f62) 70 [(.rr 4 s0), (.fn 38 [] [(.ptr 0 0 0 16), (.ptr 1 0 0 16)])] [(.var 16 (.ri .i64 f7)), (.var 16 (.ri .i64 f8))] = slices_IndexFunc_implStepimplStep_impl_StepBetween_f1_c _ F s0 f7 f8 (fun r => some ⟨(.int .i64 r), [(.var 16 (.ri .i64 f7)), (.var 16 (.ri .i64 f8))], []⟩) := by kernel_rfl
def slices_IndexFunc_implStepimplStep_impl_StepBetween_f1_ent (F : Nat) : Ent := ⟨[], .quiet, fun args mem => match args, mem with
  | [(.rr 4 s0), (.fn 38 [] [(.ptr 0 0 0 16), (.ptr 1 0 0 16)])], [(.var 16 (.ri .i64 f7)), (.var 16 (.ri .i64 f8))] => some ((slices_IndexFunc_implStepimplStep_impl_StepBetween_f1_p F s0 f7 f8).isSome, ⟨(.int .i64 ((slices_IndexFunc_implStepimplStep_impl_StepBetween_f1_p F s0 f7 f8).getD default)), [], []⟩)
  | _, _ => none⟩
theorem slices_IndexFunc_implStepimplStep_impl_StepBetween_f1_fok : FunOK Try.prog 62 := funOK Try.func62 (by kernel_rfl) rfl
theorem slices_IndexFunc_implStepimplStep_impl_StepBetween_f1_meets (F : Nat) : Meets Try.prog 62 (slices_IndexFunc_implStepimplStep_impl_StepBetween_f1_ent F) := by
  refine meets_of_runS mixed ttok deep (slices_IndexFunc_implStepimplStep_impl_StepBetween_f1_tabok F) Try.func62 (body_some rfl) (slices_IndexFunc_implStepimplStep_impl_StepBetween_f1_lsok1 F) fun args mem hfit ret h => ?_
  clear hfit
  simp only [slices_IndexFunc_implStepimplStep_impl_StepBetween_f1_ent] at h
  split at h
  · rename_i s0 f7 f8
    simp only [Option.some.injEq, Prod.mk.injEq] at h
    obtain ⟨hc, rfl⟩ := h
    exact ⟨[], [], 70, _, (slices_IndexFunc_implStepimplStep_impl_StepBetween_f1_run F s0 f7 f8).trans ((slices_IndexFunc_implStepimplStep_impl_StepBetween_f1_cp _ F s0 f7 f8 _).trans (bind_use hc _)), rfl, rfl, rfl⟩
  · cases h

/-! slices.DeleteFunc[[]loop.example/g01194/impl.Step,loop.example/g01194/impl.Step] -/
noncomputable def slices_DeleteFunc_implStepimplStep_impl_StepBetween_f1_tab (F : Nat) : Tab := [(62, (slices_IndexFunc_implStepimplStep_impl_StepBetween_f1_ent F)), (38, (impl_StepBetween_f1_ent F))]
theorem slices_DeleteFunc_implStepimplStep_impl_StepBetween_f1_tabok (F : Nat) : TabOK Try.prog (slices_DeleteFunc_implStepimplStep_impl_StepBetween_f1_tab F) := (tab_cons (slices_IndexFunc_implStepimplStep_impl_StepBetween_f1_meets F) slices_IndexFunc_implStepimplStep_impl_StepBetween_f1_fok (tab_cons (impl_StepBetween_f1_meets F) impl_StepBetween_f1_fok tab_nil))
noncomputable def slices_DeleteFunc_implStepimplStep_impl_StepBetween_f1_LS0 (F : Nat) : LT := []
theorem slices_DeleteFunc_implStepimplStep_impl_StepBetween_f1_lsok0 (F : Nat) : LoopsOK Try.prog (slices_DeleteFunc_implStepimplStep_impl_StepBetween_f1_LS0 F) (bodyOf Try.f36) := loopsOK_nil
theorem slices_DeleteFunc_implStepimplStep_impl_StepBetween_f1_keys : keysOK (bodyOf Try.f36) = true := by kernel_rfl
def slices_DeleteFunc_implStepimplStep_impl_StepBetween_f1_st5 (s1 : Nat) (del11 : List Int) (del12 : List Int) (i8 : Int) (j9 : Int) (s10 : List (List Int)) : St := ⟨expand 42 0 [0, 1, 5, 6] [(.sl 0 0 s1), (.fn 38 [] [(.ptr 1 0 0 16), (.ptr 2 0 0 16)]), (.int .i64 i8), (.int .i64 j9)], [(.vec 35 (.rr 4 s10)), (.var 16 (.ri .i64 del11)), (.var 16 (.ri .i64 del12))], 3, []⟩
def slices_DeleteFunc_implStepimplStep_impl_StepBetween_f1_o5 (s1 : Nat) (del11 : List Int) (del12 : List Int) (x : Int × List (List Int)) : GT := (.out (.exit 0 ⟨expand 42 0 [0, 5] [(.sl 0 0 s1), (.int .i64 x.1)], [(.vec 35 (.rr 4 x.2)), (.var 16 (.ri .i64 del11)), (.var 16 (.ri .i64 del12))], 3, []⟩))
def slices_DeleteFunc_implStepimplStep_impl_StepBetween_f1_ls5 (F : Nat) : LoopS := ⟨42, [0, 1, 5, 6], [], [0, 5], [], [4], [], [], fun vals mem np killed => match vals, mem, np, killed with
  | [(.sl 0 0 s1), (.fn 38 [] [(.ptr 1 0 0 16), (.ptr 2 0 0 16)]), (.int .i64 i8), (.int .i64 j9)], [(.vec 35 (.rr 4 s10)), (.var 16 (.ri .i64 del11)), (.var 16 (.ri .i64 del12))], 3, [] => .br (slices_DeleteFunc_implStepimplStep_impl_StepBetween_f1_l5 F s1 del11 del12 i8 j9 s10).isSome (slices_DeleteFunc_implStepimplStep_impl_StepBetween_f1_o5 s1 del11 del12 ((slices_DeleteFunc_implStepimplStep_impl_StepBetween_f1_l5 F s1 del11 del12 i8 j9 s10).getD default)) .fail
  | _, _, _, _ => .fail⟩
theorem slices_DeleteFunc_implStepimplStep_impl_StepBetween_f1_step5 (F : Nat) (s1 : Nat) (del11 : List Int) (del12 : List Int) (i8 : Int) (j9 : Int) (s10 : List (List Int)) {R : Type} (k : Out → Option R) : stepS tt (slices_DeleteFunc_implStepimplStep_impl_StepBetween_f1_tab F) (slices_DeleteFunc_implStepimplStep_impl_StepBetween_f1_LS0 F) 70 (slices_DeleteFunc_implStepimplStep_impl_StepBetween_f1_ls5 F) (loopAt 5 (bodyOf Try.f36)) (slices_DeleteFunc_implStepimplStep_impl_StepBetween_f1_st5 s1 del11 del12 i8 j9 s10) k = slices_DeleteFunc_implStepimplStep_impl_StepBetween_f1_s5 F s1 del11 del12 R (i8, j9, s10) (fun s => k (.norm (slices_DeleteFunc_implStepimplStep_impl_StepBetween_f1_st5 s1 del11 del12 s.1 s.2.1 s.2.2))) (fun x => (slices_DeleteFunc_implStepimplStep_impl_StepBetween_f1_o5 s1 del11 del12 x).run k) := by kernel_rfl
theorem slices_DeleteFunc_implStepimplStep_impl_StepBetween_f1_iter5 (F : Nat) (s1 : Nat) (del11 : List Int) (del12 : List Int) {R : Type} (k : Out → Option R) : ∀ (n : Nat) (i8 : Int) (j9 : Int) (s10 : List (List Int)), iterS tt (slices_DeleteFunc_implStepimplStep_impl_StepBetween_f1_tab F) (slices_DeleteFunc_implStepimplStep_impl_StepBetween_f1_LS0 F) 70 (slices_DeleteFunc_implStepimplStep_impl_StepBetween_f1_ls5 F) (loopAt 5 (bodyOf Try.f36)) n (slices_DeleteFunc_implStepimplStep_impl_StepBetween_f1_st5 s1 del11 del12 i8 j9 s10) k = loopC (slices_DeleteFunc_implStepimplStep_impl_StepBetween_f1_s5 F s1 del11 del12) n (i8, j9, s10) (fun x => (slices_DeleteFunc_implStepimplStep_impl_StepBetween_f1_o5 s1 del11 del12 x).run k)
  | 0, i8, j9, s10 => rfl
  | n + 1, i8, j9, s10 => (iterS_succ tt (slices_DeleteFunc_implStepimplStep_impl_StepBetween_f1_tab F) (slices_DeleteFunc_implStepimplStep_impl_StepBetween_f1_LS0 F) 70 (slices_DeleteFunc_implStepimplStep_impl_StepBetween_f1_ls5 F) (loopAt 5 (bodyOf Try.f36)) n (slices_DeleteFunc_implStepimplStep_impl_StepBetween_f1_st5 s1 del11 del12 i8 j9 s10) k).trans ((slices_DeleteFunc_implStepimplStep_impl_StepBetween_f1_step5 F s1 del11 del12 i8 j9 s10 (nextK (iterS tt (slices_DeleteFunc_implStepimplStep_impl_StepBetween_f1_tab F) (slices_DeleteFunc_implStepimplStep_impl_StepBetween_f1_LS0 F) 70 (slices_DeleteFunc_implStepimplStep_impl_StepBetween_f1_ls5 F) (loopAt 5 (bodyOf Try.f36)) n) k)).trans (congrArg (fun kn => slices_DeleteFunc_implStepimplStep_impl_StepBetween_f1_s5 F s1 del11 del12 R (i8, j9, s10) kn _) (funext (fun ⟨i8, j9, s10⟩ => slices_DeleteFunc_implStepimplStep_impl_StepBetween_f1_iter5 F s1 del11 del12 k n i8 j9 s10))))
theorem slices_DeleteFunc_implStepimplStep_impl_StepBetween_f1_lok5 (F : Nat) : LoopOK Try.prog (loopAt 5 (bodyOf Try.f36)) (slices_DeleteFunc_implStepimplStep_impl_StepBetween_f1_ls5 F) := by
  refine loopOK_of mixed ttok deep (slices_DeleteFunc_implStepimplStep_impl_StepBetween_f1_tabok F) (loopsOK_at (slices_DeleteFunc_implStepimplStep_impl_StepBetween_f1_lsok0 F) 5) (fuel := 70) fun R vals mem np killed k x h => ?_
  simp only [slices_DeleteFunc_implStepimplStep_impl_StepBetween_f1_ls5] at h
  split at h
  · rename_i s1 i8 j9 s10 del11 del12
    simp only [GT.run] at h
    have hc := (cond_noneL h).1
    replace h := (cond_noneL h).2
    refine ⟨F, (slices_DeleteFunc_implStepimplStep_impl_StepBetween_f1_iter5 F s1 del11 del12 k F i8 j9 s10).trans ((loopC_use (slices_DeleteFunc_implStepimplStep_impl_StepBetween_f1_s5_nat F s1 del11 del12) hc _).trans h)⟩
  · simp only [GT.run] at h
    cases h
noncomputable def slices_DeleteFunc_implStepimplStep_impl_StepBetween_f1_LS1 (F : Nat) : LT := (5, slices_DeleteFunc_implStepimplStep_impl_StepBetween_f1_ls5 F) :: slices_DeleteFunc_implStepimplStep_impl_StepBetween_f1_LS0 F
theorem slices_DeleteFunc_implStepimplStep_impl_StepBetween_f1_lsok1 (F : Nat) : LoopsOK Try.prog (slices_DeleteFunc_implStepimplStep_impl_StepBetween_f1_LS1 F) (bodyOf Try.f36) := loopsOK_cons slices_DeleteFunc_implStepimplStep_impl_StepBetween_f1_keys (slices_DeleteFunc_implStepimplStep_impl_StepBetween_f1_lok5 F) (slices_DeleteFunc_implStepimplStep_impl_StepBetween_f1_lsok0 F)
theorem slices_DeleteFunc_implStepimplStep_impl_StepBetween_f1_run (F : Nat) (s8 : List (List Int)) (del9 : List Int) (del10 : List Int) : runS tt (slices_DeleteFunc_implStepimplStep_impl_StepBetween_f1_tab F) (slices_DeleteFunc_implStepimplStep_impl_StepBetween_f1_LS1 F) [] [] Try.f36 (bodyOf Try.f36) 70 [(.sl 0 0 (List.length s8)), (.fn 38 [] [(.ptr 1 0 0 16), (.ptr 2 0 0 16)])] [(.vec 35 (.rr 4 s8)), (.var 16 (.ri .i64 del9)), (.var 16 (.ri .i64 del10))] = slices_DeleteFunc_implStepimplStep_impl_StepBetween_f1_c _ F s8 del9 del10 (fun r => some ⟨(.sl 0 0 r.1), [(.vec 35 (.rr 4 r.2)), (.var 16 (.ri .i64 del9)), (.var 16 (.ri .i64 del10))], []⟩) := by kernel_rfl
def slices_DeleteFunc_implStepimplStep_impl_StepBetween_f1_ent (F : Nat) : Ent := ⟨[true], .loud, fun args mem => match args, mem with
  | [(.sl 0 0 q_s1), (.fn 38 [] [(.ptr 1 0 0 16), (.ptr 2 0 0 16)])], [(.vec 35 (.rr 4 s8)), (.var 16 (.ri .i64 del9)), (.var 16 (.ri .i64 del10))] => some (((Nat.beq q_s1 (List.length s8)) && (slices_DeleteFunc_implStepimplStep_impl_StepBetween_f1_p F s8 del9 del10).isSome), ⟨(.sl 0 0 ((slices_DeleteFunc_implStepimplStep_impl_StepBetween_f1_p F s8 del9 del10).getD default).1), [(.vec 35 (.rr 4 ((slices_DeleteFunc_implStepimplStep_impl_StepBetween_f1_p F s8 del9 del10).getD default).2)), (.var 16 (.ri .i64 del9)), (.var 16 (.ri .i64 del10))], []⟩)
  | _, _ => none⟩
theorem slices_DeleteFunc_implStepimplStep_impl_StepBetween_f1_fok : FunOK Try.prog 36 := funOK Try.func36 (by kernel_rfl) rfl
theorem slices_DeleteFunc_implStepimplStep_impl_StepBetween_f1_meets (F : Nat) : Meets Try.prog 36 (slices_DeleteFunc_implStepimplStep_impl_StepBetween_f1_ent F) := by
  refine meets_of_runS mixed ttok deep (slices_DeleteFunc_implStepimplStep_impl_StepBetween_f1_tabok F) Try.func36 (body_some rfl) (slices_DeleteFunc_implStepimplStep_impl_StepBetween_f1_lsok1 F) fun args mem hfit ret h => ?_
  clear hfit
  simp only [slices_DeleteFunc_implStepimplStep_impl_StepBetween_f1_ent] at h
  split at h
  · rename_i q_s1 s8 del9 del10
    simp only [Option.some.injEq, Prod.mk.injEq] at h
    obtain ⟨hc, rfl⟩ := h
    have hg := (and_split hc).1
    replace hc := (and_split hc).2
    obtain rfl := nbeq_nat hg
    exact ⟨[], [], 70, _, (slices_DeleteFunc_implStepimplStep_impl_StepBetween_f1_run F s8 del9 del10).trans ((slices_DeleteFunc_implStepimplStep_impl_StepBetween_f1_cp _ F s8 del9 del10 _).trans (bind_use hc _)), rfl, rfl, rfl⟩
  · cases h

/-! loop.example/g01194/impl.StepBetween -/
noncomputable def impl_StepBetween_tab (F : Nat) : Tab := [(24, (impl_IsBoard_ent F)), (37, (impl_Board_allSteps_ent F)), (36, (slices_DeleteFunc_implStepimplStep_impl_StepBetween_f1_ent F))]
theorem impl_StepBetween_tabok (F : Nat) : TabOK Try.prog (impl_StepBetween_tab F) := (tab_cons (impl_IsBoard_meets F) impl_IsBoard_fok (tab_cons (impl_Board_allSteps_meets F) impl_Board_allSteps_fok (tab_cons (slices_DeleteFunc_implStepimplStep_impl_StepBetween_f1_meets F) slices_DeleteFunc_implStepimplStep_impl_StepBetween_f1_fok tab_nil)))
noncomputable def impl_StepBetween_LS0 (F : Nat) : LT := []
theorem impl_StepBetween_lsok0 (F : Nat) : LoopsOK Try.prog (impl_StepBetween_LS0 F) (bodyOf Try.f13) := loopsOK_nil
theorem impl_StepBetween_run (F : Nat) (a0 : List Int) (b1 : List Int) : runS tt (impl_StepBetween_tab F) (impl_StepBetween_LS0 F) [⟨4, 35, (.rr 4 ([] : List (List Int)))⟩] [] Try.f13 (bodyOf Try.f13) 70 [(.ints 16 a0), (.ints 16 b1)] [] = impl_StepBetween_c _ F a0 b1 (fun r => some ⟨(.tup [(.sl 0 0 r.1), (.bool r.2.1)]), [(.vec 35 (.rr 4 r.2.2))], []⟩) := by kernel_rfl
def impl_StepBetween_ent (F : Nat) : Ent := ⟨[], .fresh, fun args mem => match args, mem with
  | [(.ints 16 a0), (.ints 16 b1)], [] => some ((impl_StepBetween_p F a0 b1).isSome, ⟨(.tup [(.sl 0 0 ((impl_StepBetween_p F a0 b1).getD default).1), (.bool ((impl_StepBetween_p F a0 b1).getD default).2.1)]), [(.vec 35 (.rr 4 ((impl_StepBetween_p F a0 b1).getD default).2.2))], []⟩)
  | _, _ => none⟩
theorem impl_StepBetween_fok : FunOK Try.prog 13 := funOK Try.func13 (by kernel_rfl) rfl
theorem impl_StepBetween_meets (F : Nat) : Meets Try.prog 13 (impl_StepBetween_ent F) := by
  refine meets_of_runS mixed ttok deep (impl_StepBetween_tabok F) Try.func13 (body_some rfl) (impl_StepBetween_lsok0 F) fun args mem hfit ret h => ?_
  clear hfit
  simp only [impl_StepBetween_ent] at h
  split at h
  · rename_i a0 b1
    simp only [Option.some.injEq, Prod.mk.injEq] at h
    obtain ⟨hc, rfl⟩ := h
    exact ⟨[⟨4, 35, (.rr 4 ([] : List (List Int)))⟩], [], 70, _, (impl_StepBetween_run F a0 b1).trans ((impl_StepBetween_cp _ F a0 b1 _).trans (bind_use hc _)), rfl, rfl, rfl⟩
  · cases h

/-! loop.example/g01194/spec.StepBetween -/
noncomputable def spec_StepBetween_tab (F : Nat) : Tab := [(27, (spec_l2Board_ent F)), (39, (spec_l5All_ent F)), (33, (spec_l5Do_ent F))]
theorem spec_StepBetween_tabok (F : Nat) : TabOK Try.prog (spec_StepBetween_tab F) := (tab_cons (spec_l2Board_meets F) spec_l2Board_fok (tab_cons (spec_l5All_meets F) spec_l5All_fok (tab_cons (spec_l5Do_meets F) spec_l5Do_fok tab_nil)))
noncomputable def spec_StepBetween_LS0 (F : Nat) : LT := []
theorem spec_StepBetween_lsok0 (F : Nat) : LoopsOK Try.prog (spec_StepBetween_LS0 F) (bodyOf Try.f14) := loopsOK_nil
theorem spec_StepBetween_keys : keysOK (bodyOf Try.f14) = true := by kernel_rfl
def spec_StepBetween_st6 (a11 : List Int) (b12 : List Int) (all14 : List (List Int)) (i10 : Int) (out13 : List (List Int)) : St := ⟨expand 51 0 [2, 3, 6, 7, 8] [(.ptr 0 0 0 16), (.ptr 1 0 0 16), (.sl 2 0 (List.length out13)), (.sl 3 0 (List.length all14)), (.int .i64 i10)], [(.var 16 (.ri .i64 a11)), (.var 16 (.ri .i64 b12)), (.vec 35 (.rr 4 out13)), (.vec 35 (.rr 4 all14))], 0, []⟩
def spec_StepBetween_o6 (a11 : List Int) (b12 : List Int) (all14 : List (List Int)) (x : List (List Int)) : GT := (.out (.exit 0 ⟨expand 51 0 [6] [(.sl 0 0 (List.length x))], [(.vec 35 (.rr 4 x))], 0, []⟩))
def spec_StepBetween_ls6 (F : Nat) : LoopS := ⟨51, [2, 3, 6, 7, 8], [], [6], [], [4, 5], [], [], fun vals mem np killed => match vals, mem, np, killed with
  | [(.ptr 0 0 0 16), (.ptr 1 0 0 16), (.sl 2 0 q_out7), (.sl 3 0 q_all9), (.int .i64 i10)], [(.var 16 (.ri .i64 a11)), (.var 16 (.ri .i64 b12)), (.vec 35 (.rr 4 out13)), (.vec 35 (.rr 4 all14))], 0, [] => .br ((Nat.beq q_out7 (List.length out13)) && ((Nat.beq q_all9 (List.length all14)) && (spec_StepBetween_l6 F a11 b12 all14 i10 out13).isSome)) (spec_StepBetween_o6 a11 b12 all14 ((spec_StepBetween_l6 F a11 b12 all14 i10 out13).getD default)) .fail
  | _, _, _, _ => .fail⟩
theorem spec_StepBetween_step6 (F : Nat) (a11 : List Int) (b12 : List Int) (all14 : List (List Int)) (i10 : Int) (out13 : List (List Int)) {R : Type} (k : Out → Option R) : stepS tt (spec_StepBetween_tab F) (spec_StepBetween_LS0 F) 70 (spec_StepBetween_ls6 F) (loopAt 6 (bodyOf Try.f14)) (spec_StepBetween_st6 a11 b12 all14 i10 out13) k = spec_StepBetween_s6 F a11 b12 all14 R (i10, out13) (fun s => k (.norm (spec_StepBetween_st6 a11 b12 all14 s.1 s.2))) (fun x => (spec_StepBetween_o6 a11 b12 all14 x).run k) := by kernel_rfl
theorem spec_StepBetween_iter6 (F : Nat) (a11 : List Int) (b12 : List Int) (all14 : List (List Int)) {R : Type} (k : Out → Option R) : ∀ (n : Nat) (i10 : Int) (out13 : List (List Int)), iterS tt (spec_StepBetween_tab F) (spec_StepBetween_LS0 F) 70 (spec_StepBetween_ls6 F) (loopAt 6 (bodyOf Try.f14)) n (spec_StepBetween_st6 a11 b12 all14 i10 out13) k = loopC (spec_StepBetween_s6 F a11 b12 all14) n (i10, out13) (fun x => (spec_StepBetween_o6 a11 b12 all14 x).run k)
  | 0, i10, out13 => rfl
  | n + 1, i10, out13 => (iterS_succ tt (spec_StepBetween_tab F) (spec_StepBetween_LS0 F) 70 (spec_StepBetween_ls6 F) (loopAt 6 (bodyOf Try.f14)) n (spec_StepBetween_st6 a11 b12 all14 i10 out13) k).trans ((spec_StepBetween_step6 F a11 b12 all14 i10 out13 (nextK (iterS tt (spec_StepBetween_tab F) (spec_StepBetween_LS0 F) 70 (spec_StepBetween_ls6 F) (loopAt 6 (bodyOf Try.f14)) n) k)).trans (congrArg (fun kn => spec_StepBetween_s6 F a11 b12 all14 R (i10, out13) kn _) (funext (fun ⟨i10, out13⟩ => spec_StepBetween_iter6 F a11 b12 all14 k n i10 out13))))
theorem spec_StepBetween_lok6 (F : Nat) : LoopOK Try.prog (loopAt 6 (bodyOf Try.f14)) (spec_StepBetween_ls6 F) := by
  refine loopOK_of mixed ttok deep (spec_StepBetween_tabok F) (loopsOK_at (spec_StepBetween_lsok0 F) 6) (fuel := 70) fun R vals mem np killed k x h => ?_
  simp only [spec_StepBetween_ls6] at h
  split at h
  · rename_i q_out7 q_all9 i10 a11 b12 out13 all14
    simp only [GT.run] at h
    have hc := (cond_noneL h).1
    replace h := (cond_noneL h).2
    have hg := (and_split hc).1
    replace hc := (and_split hc).2
    obtain rfl := nbeq_nat hg
    have hg := (and_split hc).1
    replace hc := (and_split hc).2
    obtain rfl := nbeq_nat hg
    refine ⟨F, (spec_StepBetween_iter6 F a11 b12 all14 k F i10 out13).trans ((loopC_use (spec_StepBetween_s6_nat F a11 b12 all14) hc _).trans h)⟩
  · simp only [GT.run] at h
    cases h
noncomputable def spec_StepBetween_LS1 (F : Nat) : LT := (6, spec_StepBetween_ls6 F) :: spec_StepBetween_LS0 F
theorem spec_StepBetween_lsok1 (F : Nat) : LoopsOK Try.prog (spec_StepBetween_LS1 F) (bodyOf Try.f14) := loopsOK_cons spec_StepBetween_keys (spec_StepBetween_lok6 F) (spec_StepBetween_lsok0 F)
theorem spec_StepBetween_run (F : Nat) (a0 : List Int) (b1 : List Int) : runS tt (spec_StepBetween_tab F) (spec_StepBetween_LS1 F) [] [] Try.f14 (bodyOf Try.f14) 70 [(.ints 16 a0), (.ints 16 b1)] [] = spec_StepBetween_c _ F a0 b1 (fun r => some ⟨(.tup [(.sl 0 0 (List.length r.2)), (.bool r.1)]), [(.vec 35 (.rr 4 r.2))], []⟩) := by kernel_rfl
def spec_StepBetween_ent (F : Nat) : Ent := ⟨[], .fresh, fun args mem => match args, mem with
  | [(.ints 16 a0), (.ints 16 b1)], [] => some ((spec_StepBetween_p F a0 b1).isSome, ⟨(.tup [(.sl 0 0 (List.length ((spec_StepBetween_p F a0 b1).getD default).2)), (.bool ((spec_StepBetween_p F a0 b1).getD default).1)]), [(.vec 35 (.rr 4 ((spec_StepBetween_p F a0 b1).getD default).2))], []⟩)
  | _, _ => none⟩
theorem spec_StepBetween_fok : FunOK Try.prog 14 := funOK Try.func14 (by kernel_rfl) rfl
theorem spec_StepBetween_meets (F : Nat) : Meets Try.prog 14 (spec_StepBetween_ent F) := by
  refine meets_of_runS mixed ttok deep (spec_StepBetween_tabok F) Try.func14 (body_some rfl) (spec_StepBetween_lsok1 F) fun args mem hfit ret h => ?_
  clear hfit
  simp only [spec_StepBetween_ent] at h
  split at h
  · rename_i a0 b1
    simp only [Option.some.injEq, Prod.mk.injEq] at h
    obtain ⟨hc, rfl⟩ := h
    exact ⟨[], [], 70, _, (spec_StepBetween_run F a0 b1).trans ((spec_StepBetween_cp _ F a0 b1 _).trans (bind_use hc _)), rfl, rfl, rfl⟩
  · cases h

/-! loop.example/g01194/impl.CountNext -/
noncomputable def impl_CountNext_tab (F : Nat) : Tab := [(24, (impl_IsBoard_ent F)), (37, (impl_Board_allSteps_ent F)), (32, (impl_Board_behind_ent F))]
theorem impl_CountNext_tabok (F : Nat) : TabOK Try.prog (impl_CountNext_tab F) := (tab_cons (impl_IsBoard_meets F) impl_IsBoard_fok (tab_cons (impl_Board_allSteps_meets F) impl_Board_allSteps_fok (tab_cons (impl_Board_behind_meets F) impl_Board_behind_fok tab_nil)))
noncomputable def impl_CountNext_LS0 (F : Nat) : LT := []
theorem impl_CountNext_lsok0 (F : Nat) : LoopsOK Try.prog (impl_CountNext_LS0 F) (bodyOf Try.f15) := loopsOK_nil
theorem impl_CountNext_keys : keysOK (bodyOf Try.f15) = true := by kernel_rfl
def impl_CountNext_st5 (t155 : Int) (b7 : List Int) (t149 : List (List Int)) (t166 : Int) (known8 : List (List Int × Bool)) : St := ⟨expand 31 0 [1, 4, 14, 15, 16] [(.ptr 0 0 0 16), (.map 1), (.sl 2 0 (List.length t149)), (.int .i64 t155), (.int .i64 t166)], [(.var 16 (.ri .i64 b7)), (.map 16 (.fl known8)), (.vec 35 (.rr 4 t149))], 0, []⟩
def impl_CountNext_o5 (t155 : Int) (b7 : List Int) (t149 : List (List Int)) (x : List (List Int × Bool)) : GT := (.out (.exit 0 ⟨expand 31 0 [4] [(.map 0)], [(.map 16 (.fl x))], 0, []⟩))
def impl_CountNext_ls5 (F : Nat) : LoopS := ⟨31, [1, 4, 14, 15, 16], [], [4], [], [2, 3], [], [], fun vals mem np killed => match vals, mem, np, killed with
  | [(.ptr 0 0 0 16), (.map 1), (.sl 2 0 q_t144), (.int .i64 t155), (.int .i64 t166)], [(.var 16 (.ri .i64 b7)), (.map 16 (.fl known8)), (.vec 35 (.rr 4 t149))], 0, [] => .br ((Nat.beq q_t144 (List.length t149)) && (impl_CountNext_l5 F t155 b7 t149 t166 known8).isSome) (impl_CountNext_o5 t155 b7 t149 ((impl_CountNext_l5 F t155 b7 t149 t166 known8).getD default)) .fail
  | _, _, _, _ => .fail⟩
theorem impl_CountNext_step5 (F : Nat) (t155 : Int) (b7 : List Int) (t149 : List (List Int)) (t166 : Int) (known8 : List (List Int × Bool)) {R : Type} (k : Out → Option R) : stepS tt (impl_CountNext_tab F) (impl_CountNext_LS0 F) 70 (impl_CountNext_ls5 F) (loopAt 5 (bodyOf Try.f15)) (impl_CountNext_st5 t155 b7 t149 t166 known8) k = impl_CountNext_s5 F t155 b7 t149 R (t166, known8) (fun s => k (.norm (impl_CountNext_st5 t155 b7 t149 s.1 s.2))) (fun x => (impl_CountNext_o5 t155 b7 t149 x).run k) := by kernel_rfl
theorem impl_CountNext_iter5 (F : Nat) (t155 : Int) (b7 : List Int) (t149 : List (List Int)) {R : Type} (k : Out → Option R) : ∀ (n : Nat) (t166 : Int) (known8 : List (List Int × Bool)), iterS tt (impl_CountNext_tab F) (impl_CountNext_LS0 F) 70 (impl_CountNext_ls5 F) (loopAt 5 (bodyOf Try.f15)) n (impl_CountNext_st5 t155 b7 t149 t166 known8) k = loopC (impl_CountNext_s5 F t155 b7 t149) n (t166, known8) (fun x => (impl_CountNext_o5 t155 b7 t149 x).run k)
  | 0, t166, known8 => rfl
  | n + 1, t166, known8 => (iterS_succ tt (impl_CountNext_tab F) (impl_CountNext_LS0 F) 70 (impl_CountNext_ls5 F) (loopAt 5 (bodyOf Try.f15)) n (impl_CountNext_st5 t155 b7 t149 t166 known8) k).trans ((impl_CountNext_step5 F t155 b7 t149 t166 known8 (nextK (iterS tt (impl_CountNext_tab F) (impl_CountNext_LS0 F) 70 (impl_CountNext_ls5 F) (loopAt 5 (bodyOf Try.f15)) n) k)).trans (congrArg (fun kn => impl_CountNext_s5 F t155 b7 t149 R (t166, known8) kn _) (funext (fun ⟨t166, known8⟩ => impl_CountNext_iter5 F t155 b7 t149 k n t166 known8))))
theorem impl_CountNext_lok5 (F : Nat) : LoopOK Try.prog (loopAt 5 (bodyOf Try.f15)) (impl_CountNext_ls5 F) := by
  refine loopOK_of mixed ttok deep (impl_CountNext_tabok F) (loopsOK_at (impl_CountNext_lsok0 F) 5) (fuel := 70) fun R vals mem np killed k x h => ?_
  simp only [impl_CountNext_ls5] at h
  split at h
  · rename_i q_t144 t155 t166 b7 known8 t149
    simp only [GT.run] at h
    have hc := (cond_noneL h).1
    replace h := (cond_noneL h).2
    have hg := (and_split hc).1
    replace hc := (and_split hc).2
    obtain rfl := nbeq_nat hg
    refine ⟨F, (impl_CountNext_iter5 F t155 b7 t149 k F t166 known8).trans ((loopC_use (impl_CountNext_s5_nat F t155 b7 t149) hc _).trans h)⟩
  · simp only [GT.run] at h
    cases h
noncomputable def impl_CountNext_LS1 (F : Nat) : LT := (5, impl_CountNext_ls5 F) :: impl_CountNext_LS0 F
theorem impl_CountNext_lsok1 (F : Nat) : LoopsOK Try.prog (impl_CountNext_LS1 F) (bodyOf Try.f15) := loopsOK_cons impl_CountNext_keys (impl_CountNext_lok5 F) (impl_CountNext_lsok0 F)
theorem impl_CountNext_run (F : Nat) (b0 : List Int) : runS tt (impl_CountNext_tab F) (impl_CountNext_LS1 F) [] [] Try.f15 (bodyOf Try.f15) 70 [(.ints 16 b0)] [] = impl_CountNext_c _ F b0 (fun r => some ⟨(.tup [(.int .i64 r.1), (.bool r.2)]), [], []⟩) := by kernel_rfl
def impl_CountNext_ent (F : Nat) : Ent := ⟨[], .quiet, fun args mem => match args, mem with
  | [(.ints 16 b0)], [] => some ((impl_CountNext_p F b0).isSome, ⟨(.tup [(.int .i64 ((impl_CountNext_p F b0).getD default).1), (.bool ((impl_CountNext_p F b0).getD default).2)]), [], []⟩)
  | _, _ => none⟩
theorem impl_CountNext_fok : FunOK Try.prog 15 := funOK Try.func15 (by kernel_rfl) rfl
theorem impl_CountNext_meets (F : Nat) : Meets Try.prog 15 (impl_CountNext_ent F) := by
  refine meets_of_runS mixed ttok deep (impl_CountNext_tabok F) Try.func15 (body_some rfl) (impl_CountNext_lsok1 F) fun args mem hfit ret h => ?_
  clear hfit
  simp only [impl_CountNext_ent] at h
  split at h
  · rename_i b0
    simp only [Option.some.injEq, Prod.mk.injEq] at h
    obtain ⟨hc, rfl⟩ := h
    exact ⟨[], [], 70, _, (impl_CountNext_run F b0).trans ((impl_CountNext_cp _ F b0 _).trans (bind_use hc _)), rfl, rfl, rfl⟩
  · cases h

/-! loop.example/g01194/spec.l2Before -/
noncomputable def spec_l2Before_tab (F : Nat) : Tab := []
theorem spec_l2Before_tabok (F : Nat) : TabOK Try.prog (spec_l2Before_tab F) := tab_nil
noncomputable def spec_l2Before_LS0 (F : Nat) : LT := []
theorem spec_l2Before_lsok0 (F : Nat) : LoopsOK Try.prog (spec_l2Before_LS0 F) (bodyOf Try.f64) := loopsOK_nil
theorem spec_l2Before_keys : keysOK (bodyOf Try.f64) = true := by kernel_rfl
def spec_l2Before_st5 (r6 : Int) (a8 : List Int) (b9 : List Int) (c7 : Int) : St := ⟨expand 41 0 [2, 3, 5, 6] [(.ptr 0 0 0 16), (.ptr 1 0 0 16), (.int .i64 r6), (.int .i64 c7)], [(.var 16 (.ri .i64 a8)), (.var 16 (.ri .i64 b9))], 0, []⟩
def spec_l2Before_o5 (r6 : Int) (a8 : List Int) (b9 : List Int) (x : Bool × Bool) : GT := (.br x.1 (.out (.ret ⟨expand 41 0 [4] [(.bool x.2)], [], 0, []⟩)) (.out (.exit 2 ⟨expand 41 0 [2, 3, 5] [(.ptr 0 0 0 16), (.ptr 1 0 0 16), (.int .i64 r6)], [(.var 16 (.ri .i64 a8)), (.var 16 (.ri .i64 b9))], 0, []⟩)))
def spec_l2Before_ls5 (F : Nat) : LoopS := ⟨41, [2, 3, 5, 6], [], [2, 3, 5], [], [4], [], [], fun vals mem np killed => match vals, mem, np, killed with
  | [(.ptr 0 0 0 16), (.ptr 1 0 0 16), (.int .i64 r6), (.int .i64 c7)], [(.var 16 (.ri .i64 a8)), (.var 16 (.ri .i64 b9))], 0, [] => .br (spec_l2Before_l5 F r6 a8 b9 c7).isSome (spec_l2Before_o5 r6 a8 b9 ((spec_l2Before_l5 F r6 a8 b9 c7).getD default)) .fail
  | _, _, _, _ => .fail⟩
theorem spec_l2Before_step5 (F : Nat) (r6 : Int) (a8 : List Int) (b9 : List Int) (c7 : Int) {R : Type} (k : Out → Option R) : stepS tt (spec_l2Before_tab F) (spec_l2Before_LS0 F) 70 (spec_l2Before_ls5 F) (loopAt 5 (bodyOf Try.f64)) (spec_l2Before_st5 r6 a8 b9 c7) k = spec_l2Before_s5 F r6 a8 b9 R c7 (fun s => k (.norm (spec_l2Before_st5 r6 a8 b9 s))) (fun x => (spec_l2Before_o5 r6 a8 b9 x).run k) := by kernel_rfl
theorem spec_l2Before_iter5 (F : Nat) (r6 : Int) (a8 : List Int) (b9 : List Int) {R : Type} (k : Out → Option R) : ∀ (n : Nat) (c7 : Int), iterS tt (spec_l2Before_tab F) (spec_l2Before_LS0 F) 70 (spec_l2Before_ls5 F) (loopAt 5 (bodyOf Try.f64)) n (spec_l2Before_st5 r6 a8 b9 c7) k = loopC (spec_l2Before_s5 F r6 a8 b9) n c7 (fun x => (spec_l2Before_o5 r6 a8 b9 x).run k)
  | 0, c7 => rfl
  | n + 1, c7 => (iterS_succ tt (spec_l2Before_tab F) (spec_l2Before_LS0 F) 70 (spec_l2Before_ls5 F) (loopAt 5 (bodyOf Try.f64)) n (spec_l2Before_st5 r6 a8 b9 c7) k).trans ((spec_l2Before_step5 F r6 a8 b9 c7 (nextK (iterS tt (spec_l2Before_tab F) (spec_l2Before_LS0 F) 70 (spec_l2Before_ls5 F) (loopAt 5 (bodyOf Try.f64)) n) k)).trans (congrArg (fun kn => spec_l2Before_s5 F r6 a8 b9 R c7 kn _) (funext (fun c7 => spec_l2Before_iter5 F r6 a8 b9 k n c7))))
theorem spec_l2Before_lok5 (F : Nat) : LoopOK Try.prog (loopAt 5 (bodyOf Try.f64)) (spec_l2Before_ls5 F) := by
  refine loopOK_of mixed ttok deep (spec_l2Before_tabok F) (loopsOK_at (spec_l2Before_lsok0 F) 5) (fuel := 70) fun R vals mem np killed k x h => ?_
  simp only [spec_l2Before_ls5] at h
  split at h
  · rename_i r6 c7 a8 b9
    simp only [GT.run] at h
    have hc := (cond_noneL h).1
    replace h := (cond_noneL h).2
    refine ⟨F, (spec_l2Before_iter5 F r6 a8 b9 k F c7).trans ((loopC_use (spec_l2Before_s5_nat F r6 a8 b9) hc _).trans h)⟩
  · simp only [GT.run] at h
    cases h
noncomputable def spec_l2Before_LS1 (F : Nat) : LT := (5, spec_l2Before_ls5 F) :: spec_l2Before_LS0 F
theorem spec_l2Before_lsok1 (F : Nat) : LoopsOK Try.prog (spec_l2Before_LS1 F) (bodyOf Try.f64) := loopsOK_cons spec_l2Before_keys (spec_l2Before_lok5 F) (spec_l2Before_lsok0 F)
def spec_l2Before_st2 (a7 : List Int) (b8 : List Int) (r6 : Int) : St := ⟨expand 41 0 [2, 3, 5] [(.ptr 0 0 0 16), (.ptr 1 0 0 16), (.int .i64 r6)], [(.var 16 (.ri .i64 a7)), (.var 16 (.ri .i64 b8))], 0, []⟩
def spec_l2Before_o2 (a7 : List Int) (b8 : List Int) (x : Bool × Bool) : GT := (.br x.1 (.out (.ret ⟨expand 41 0 [4] [(.bool x.2)], [], 0, []⟩)) (.out (.exit 0 ⟨expand 41 0 [] [], [], 0, []⟩)))
def spec_l2Before_ls2 (F : Nat) : LoopS := ⟨41, [2, 3, 5], [], [], [], [4], [], [], fun vals mem np killed => match vals, mem, np, killed with
  | [(.ptr 0 0 0 16), (.ptr 1 0 0 16), (.int .i64 r6)], [(.var 16 (.ri .i64 a7)), (.var 16 (.ri .i64 b8))], 0, [] => .br (spec_l2Before_l2 F a7 b8 r6).isSome (spec_l2Before_o2 a7 b8 ((spec_l2Before_l2 F a7 b8 r6).getD default)) .fail
  | _, _, _, _ => .fail⟩
theorem spec_l2Before_step2 (F : Nat) (a7 : List Int) (b8 : List Int) (r6 : Int) {R : Type} (k : Out → Option R) : stepS tt (spec_l2Before_tab F) (spec_l2Before_LS1 F) 70 (spec_l2Before_ls2 F) (loopAt 2 (bodyOf Try.f64)) (spec_l2Before_st2 a7 b8 r6) k = spec_l2Before_s2 F a7 b8 R r6 (fun s => k (.norm (spec_l2Before_st2 a7 b8 s))) (fun x => (spec_l2Before_o2 a7 b8 x).run k) := by kernel_rfl
theorem spec_l2Before_iter2 (F : Nat) (a7 : List Int) (b8 : List Int) {R : Type} (k : Out → Option R) : ∀ (n : Nat) (r6 : Int), iterS tt (spec_l2Before_tab F) (spec_l2Before_LS1 F) 70 (spec_l2Before_ls2 F) (loopAt 2 (bodyOf Try.f64)) n (spec_l2Before_st2 a7 b8 r6) k = loopC (spec_l2Before_s2 F a7 b8) n r6 (fun x => (spec_l2Before_o2 a7 b8 x).run k)
  | 0, r6 => rfl
  | n + 1, r6 => (iterS_succ tt (spec_l2Before_tab F) (spec_l2Before_LS1 F) 70 (spec_l2Before_ls2 F) (loopAt 2 (bodyOf Try.f64)) n (spec_l2Before_st2 a7 b8 r6) k).trans ((spec_l2Before_step2 F a7 b8 r6 (nextK (iterS tt (spec_l2Before_tab F) (spec_l2Before_LS1 F) 70 (spec_l2Before_ls2 F) (loopAt 2 (bodyOf Try.f64)) n) k)).trans (congrArg (fun kn => spec_l2Before_s2 F a7 b8 R r6 kn _) (funext (fun r6 => spec_l2Before_iter2 F a7 b8 k n r6))))
theorem spec_l2Before_lok2 (F : Nat) : LoopOK Try.prog (loopAt 2 (bodyOf Try.f64)) (spec_l2Before_ls2 F) := by
  refine loopOK_of mixed ttok deep (spec_l2Before_tabok F) (loopsOK_at (spec_l2Before_lsok1 F) 2) (fuel := 70) fun R vals mem np killed k x h => ?_
  simp only [spec_l2Before_ls2] at h
  split at h
  · rename_i r6 a7 b8
    simp only [GT.run] at h
    have hc := (cond_noneL h).1
    replace h := (cond_noneL h).2
    refine ⟨F, (spec_l2Before_iter2 F a7 b8 k F r6).trans ((loopC_use (spec_l2Before_s2_nat F a7 b8) hc _).trans h)⟩
  · simp only [GT.run] at h
    cases h
noncomputable def spec_l2Before_LS2 (F : Nat) : LT := (2, spec_l2Before_ls2 F) :: spec_l2Before_LS1 F
theorem spec_l2Before_lsok2 (F : Nat) : LoopsOK Try.prog (spec_l2Before_LS2 F) (bodyOf Try.f64) := loopsOK_cons spec_l2Before_keys (spec_l2Before_lok2 F) (spec_l2Before_lsok1 F)
theorem spec_l2Before_run (F : Nat) (a0 : List Int) (b1 : List Int) : runS tt (spec_l2Before_tab F) (spec_l2Before_LS2 F) [] [] Try.f64 (bodyOf Try.f64) 70 [(.ints 16 a0), (.ints 16 b1)] [] = spec_l2Before_c _ F a0 b1 (fun r => some ⟨(.bool r), [], []⟩) := by kernel_rfl
def spec_l2Before_ent (F : Nat) : Ent := ⟨[], .quiet, fun args mem => match args, mem with
  | [(.ints 16 a0), (.ints 16 b1)], [] => some ((spec_l2Before_p F a0 b1).isSome, ⟨(.bool ((spec_l2Before_p F a0 b1).getD default)), [], []⟩)
  | _, _ => none⟩
theorem spec_l2Before_fok : FunOK Try.prog 64 := funOK Try.func64 (by kernel_rfl) rfl
theorem spec_l2Before_meets (F : Nat) : Meets Try.prog 64 (spec_l2Before_ent F) := by
  refine meets_of_runS mixed ttok deep (spec_l2Before_tabok F) Try.func64 (body_some rfl) (spec_l2Before_lsok2 F) fun args mem hfit ret h => ?_
  clear hfit
  simp only [spec_l2Before_ent] at h
  split at h
  · rename_i a0 b1
    simp only [Option.some.injEq, Prod.mk.injEq] at h
    obtain ⟨hc, rfl⟩ := h
    exact ⟨[], [], 70, _, (spec_l2Before_run F a0 b1).trans ((spec_l2Before_cp _ F a0 b1 _).trans (bind_use hc _)), rfl, rfl, rfl⟩
  · cases h

/-! loop.example/g01194/spec.l3Add -/
noncomputable def spec_l3Add_tab (F : Nat) : Tab := [(64, (spec_l2Before_ent F))]
theorem spec_l3Add_tabok (F : Nat) : TabOK Try.prog (spec_l3Add_tab F) := (tab_cons (spec_l2Before_meets F) spec_l2Before_fok tab_nil)
noncomputable def spec_l3Add_LS0 (F : Nat) : LT := []
theorem spec_l3Add_lsok0 (F : Nat) : LoopsOK Try.prog (spec_l3Add_LS0 F) (bodyOf Try.f40) := loopsOK_nil
theorem spec_l3Add_keys : keysOK (bodyOf Try.f40) = true := by kernel_rfl
def spec_l3Add_st2 (all0 : List (List Int)) (b5 : List Int) (n4 : Int) : St := ⟨expand 45 0 [0, 3, 5] [(.rr 16 all0), (.ptr 0 0 0 16), (.int .i64 n4)], [(.var 16 (.ri .i64 b5))], 0, []⟩
def spec_l3Add_o2 (all0 : List (List Int)) (b5 : List Int) (x : Int) : GT := (.out (.exit 0 ⟨expand 45 0 [0, 3, 5] [(.rr 16 all0), (.ptr 0 0 0 16), (.int .i64 x)], [(.var 16 (.ri .i64 b5))], 0, []⟩))
def spec_l3Add_ls2 (F : Nat) : LoopS := ⟨45, [0, 3, 5], [], [0, 3, 5], [], [4], [], [], fun vals mem np killed => match vals, mem, np, killed with
  | [(.rr 16 all0), (.ptr 0 0 0 16), (.int .i64 n4)], [(.var 16 (.ri .i64 b5))], 0, [] => .br (spec_l3Add_l2 F all0 b5 n4).isSome (spec_l3Add_o2 all0 b5 ((spec_l3Add_l2 F all0 b5 n4).getD default)) .fail
  | _, _, _, _ => .fail⟩
theorem spec_l3Add_step2 (F : Nat) (all0 : List (List Int)) (b5 : List Int) (n4 : Int) {R : Type} (k : Out → Option R) : stepS tt (spec_l3Add_tab F) (spec_l3Add_LS0 F) 70 (spec_l3Add_ls2 F) (loopAt 2 (bodyOf Try.f40)) (spec_l3Add_st2 all0 b5 n4) k = spec_l3Add_s2 F all0 b5 R n4 (fun s => k (.norm (spec_l3Add_st2 all0 b5 s))) (fun x => (spec_l3Add_o2 all0 b5 x).run k) := by kernel_rfl
theorem spec_l3Add_iter2 (F : Nat) (all0 : List (List Int)) (b5 : List Int) {R : Type} (k : Out → Option R) : ∀ (n : Nat) (n4 : Int), iterS tt (spec_l3Add_tab F) (spec_l3Add_LS0 F) 70 (spec_l3Add_ls2 F) (loopAt 2 (bodyOf Try.f40)) n (spec_l3Add_st2 all0 b5 n4) k = loopC (spec_l3Add_s2 F all0 b5) n n4 (fun x => (spec_l3Add_o2 all0 b5 x).run k)
  | 0, n4 => rfl
  | n + 1, n4 => (iterS_succ tt (spec_l3Add_tab F) (spec_l3Add_LS0 F) 70 (spec_l3Add_ls2 F) (loopAt 2 (bodyOf Try.f40)) n (spec_l3Add_st2 all0 b5 n4) k).trans ((spec_l3Add_step2 F all0 b5 n4 (nextK (iterS tt (spec_l3Add_tab F) (spec_l3Add_LS0 F) 70 (spec_l3Add_ls2 F) (loopAt 2 (bodyOf Try.f40)) n) k)).trans (congrArg (fun kn => spec_l3Add_s2 F all0 b5 R n4 kn _) (funext (fun n4 => spec_l3Add_iter2 F all0 b5 k n n4))))
theorem spec_l3Add_lok2 (F : Nat) : LoopOK Try.prog (loopAt 2 (bodyOf Try.f40)) (spec_l3Add_ls2 F) := by
  refine loopOK_of mixed ttok deep (spec_l3Add_tabok F) (loopsOK_at (spec_l3Add_lsok0 F) 2) (fuel := 70) fun R vals mem np killed k x h => ?_
  simp only [spec_l3Add_ls2] at h
  split at h
  · rename_i all0 n4 b5
    simp only [GT.run] at h
    have hc := (cond_noneL h).1
    replace h := (cond_noneL h).2
    refine ⟨F, (spec_l3Add_iter2 F all0 b5 k F n4).trans ((loopC_use (spec_l3Add_s2_nat F all0 b5) hc _).trans h)⟩
  · simp only [GT.run] at h
    cases h
noncomputable def spec_l3Add_LS1 (F : Nat) : LT := (2, spec_l3Add_ls2 F) :: spec_l3Add_LS0 F
theorem spec_l3Add_lsok1 (F : Nat) : LoopsOK Try.prog (spec_l3Add_LS1 F) (bodyOf Try.f40) := loopsOK_cons spec_l3Add_keys (spec_l3Add_lok2 F) (spec_l3Add_lsok0 F)
theorem spec_l3Add_run (F : Nat) (all0 : List (List Int)) (b1 : List Int) : runS tt (spec_l3Add_tab F) (spec_l3Add_LS1 F) [⟨4, 0, (.tup [])⟩] [] Try.f40 (bodyOf Try.f40) 70 [(.rr 16 all0), (.ints 16 b1)] [] = spec_l3Add_c _ F all0 b1 (fun r => some ⟨(.rr 16 r), [], []⟩) := by kernel_rfl
def spec_l3Add_ent (F : Nat) : Ent := ⟨[], .quiet, fun args mem => match args, mem with
  | [(.rr 16 all0), (.ints 16 b1)], [] => some ((spec_l3Add_p F all0 b1).isSome, ⟨(.rr 16 ((spec_l3Add_p F all0 b1).getD default)), [], []⟩)
  | _, _ => none⟩
theorem spec_l3Add_fok : FunOK Try.prog 40 := funOK Try.func40 (by kernel_rfl) rfl
theorem spec_l3Add_meets (F : Nat) : Meets Try.prog 40 (spec_l3Add_ent F) := by
  refine meets_of_runS mixed ttok deep (spec_l3Add_tabok F) Try.func40 (body_some rfl) (spec_l3Add_lsok1 F) fun args mem hfit ret h => ?_
  clear hfit
  simp only [spec_l3Add_ent] at h
  split at h
  · rename_i all0 b1
    simp only [Option.some.injEq, Prod.mk.injEq] at h
    obtain ⟨hc, rfl⟩ := h
    exact ⟨[⟨4, 0, (.tup [])⟩], [], 70, _, (spec_l3Add_run F all0 b1).trans ((spec_l3Add_cp _ F all0 b1 _).trans (bind_use hc _)), rfl, rfl, rfl⟩
  · cases h

/-! loop.example/g01194/spec.CountNext -/
noncomputable def spec_CountNext_tab (F : Nat) : Tab := [(27, (spec_l2Board_ent F)), (39, (spec_l5All_ent F)), (33, (spec_l5Do_ent F)), (40, (spec_l3Add_ent F))]
theorem spec_CountNext_tabok (F : Nat) : TabOK Try.prog (spec_CountNext_tab F) := (tab_cons (spec_l2Board_meets F) spec_l2Board_fok (tab_cons (spec_l5All_meets F) spec_l5All_fok (tab_cons (spec_l5Do_meets F) spec_l5Do_fok (tab_cons (spec_l3Add_meets F) spec_l3Add_fok tab_nil))))
noncomputable def spec_CountNext_LS0 (F : Nat) : LT := []
theorem spec_CountNext_lsok0 (F : Nat) : LoopsOK Try.prog (spec_CountNext_LS0 F) (bodyOf Try.f16) := loopsOK_nil
theorem spec_CountNext_keys : keysOK (bodyOf Try.f16) = true := by kernel_rfl
def spec_CountNext_st5 (all4 : List (List Int)) (b6 : List Int) (seen3 : List (List Int)) (i5 : Int) : St := ⟨expand 37 0 [1, 4, 5, 6] [(.ptr 0 0 0 16), (.rr 16 seen3), (.rr 4 all4), (.int .i64 i5)], [(.var 16 (.ri .i64 b6))], 0, []⟩
def spec_CountNext_o5 (all4 : List (List Int)) (b6 : List Int) (x : List (List Int)) : GT := (.out (.exit 0 ⟨expand 37 0 [4] [(.rr 16 x)], [], 0, []⟩))
def spec_CountNext_ls5 (F : Nat) : LoopS := ⟨37, [1, 4, 5, 6], [⟨4, 0, (.tup [])⟩, ⟨5, 0, (.tup [])⟩], [4], [], [2, 3], [], [], fun vals mem np killed => match vals, mem, np, killed with
  | [(.ptr 0 0 0 16), (.rr 16 seen3), (.rr 4 all4), (.int .i64 i5)], [(.var 16 (.ri .i64 b6))], 0, [] => .br (spec_CountNext_l5 F all4 b6 seen3 i5).isSome (spec_CountNext_o5 all4 b6 ((spec_CountNext_l5 F all4 b6 seen3 i5).getD default)) .fail
  | _, _, _, _ => .fail⟩
theorem spec_CountNext_step5 (F : Nat) (all4 : List (List Int)) (b6 : List Int) (seen3 : List (List Int)) (i5 : Int) {R : Type} (k : Out → Option R) : stepS tt (spec_CountNext_tab F) (spec_CountNext_LS0 F) 70 (spec_CountNext_ls5 F) (loopAt 5 (bodyOf Try.f16)) (spec_CountNext_st5 all4 b6 seen3 i5) k = spec_CountNext_s5 F all4 b6 R (seen3, i5) (fun s => k (.norm (spec_CountNext_st5 all4 b6 s.1 s.2))) (fun x => (spec_CountNext_o5 all4 b6 x).run k) := by kernel_rfl
theorem spec_CountNext_iter5 (F : Nat) (all4 : List (List Int)) (b6 : List Int) {R : Type} (k : Out → Option R) : ∀ (n : Nat) (seen3 : List (List Int)) (i5 : Int), iterS tt (spec_CountNext_tab F) (spec_CountNext_LS0 F) 70 (spec_CountNext_ls5 F) (loopAt 5 (bodyOf Try.f16)) n (spec_CountNext_st5 all4 b6 seen3 i5) k = loopC (spec_CountNext_s5 F all4 b6) n (seen3, i5) (fun x => (spec_CountNext_o5 all4 b6 x).run k)
  | 0, seen3, i5 => rfl
  | n + 1, seen3, i5 => (iterS_succ tt (spec_CountNext_tab F) (spec_CountNext_LS0 F) 70 (spec_CountNext_ls5 F) (loopAt 5 (bodyOf Try.f16)) n (spec_CountNext_st5 all4 b6 seen3 i5) k).trans ((spec_CountNext_step5 F all4 b6 seen3 i5 (nextK (iterS tt (spec_CountNext_tab F) (spec_CountNext_LS0 F) 70 (spec_CountNext_ls5 F) (loopAt 5 (bodyOf Try.f16)) n) k)).trans (congrArg (fun kn => spec_CountNext_s5 F all4 b6 R (seen3, i5) kn _) (funext (fun ⟨seen3, i5⟩ => spec_CountNext_iter5 F all4 b6 k n seen3 i5))))
theorem spec_CountNext_lok5 (F : Nat) : LoopOK Try.prog (loopAt 5 (bodyOf Try.f16)) (spec_CountNext_ls5 F) := by
  refine loopOK_of mixed ttok deep (spec_CountNext_tabok F) (loopsOK_at (spec_CountNext_lsok0 F) 5) (fuel := 70) fun R vals mem np killed k x h => ?_
  simp only [spec_CountNext_ls5] at h
  split at h
  · rename_i seen3 all4 i5 b6
    simp only [GT.run] at h
    have hc := (cond_noneL h).1
    replace h := (cond_noneL h).2
    refine ⟨F, (spec_CountNext_iter5 F all4 b6 k F seen3 i5).trans ((loopC_use (spec_CountNext_s5_nat F all4 b6) hc _).trans h)⟩
  · simp only [GT.run] at h
    cases h
noncomputable def spec_CountNext_LS1 (F : Nat) : LT := (5, spec_CountNext_ls5 F) :: spec_CountNext_LS0 F
theorem spec_CountNext_lsok1 (F : Nat) : LoopsOK Try.prog (spec_CountNext_LS1 F) (bodyOf Try.f16) := loopsOK_cons spec_CountNext_keys (spec_CountNext_lok5 F) (spec_CountNext_lsok0 F)
theorem spec_CountNext_run (F : Nat) (b0 : List Int) : runS tt (spec_CountNext_tab F) (spec_CountNext_LS1 F) [] [] Try.f16 (bodyOf Try.f16) 70 [(.ints 16 b0)] [] = spec_CountNext_c _ F b0 (fun r => some ⟨(.tup [(.int .i64 r.1), (.bool r.2)]), [], []⟩) := by kernel_rfl
def spec_CountNext_ent (F : Nat) : Ent := ⟨[], .quiet, fun args mem => match args, mem with
  | [(.ints 16 b0)], [] => some ((spec_CountNext_p F b0).isSome, ⟨(.tup [(.int .i64 ((spec_CountNext_p F b0).getD default).1), (.bool ((spec_CountNext_p F b0).getD default).2)]), [], []⟩)
  | _, _ => none⟩
theorem spec_CountNext_fok : FunOK Try.prog 16 := funOK Try.func16 (by kernel_rfl) rfl
theorem spec_CountNext_meets (F : Nat) : Meets Try.prog 16 (spec_CountNext_ent F) := by
  refine meets_of_runS mixed ttok deep (spec_CountNext_tabok F) Try.func16 (body_some rfl) (spec_CountNext_lsok1 F) fun args mem hfit ret h => ?_
  clear hfit
  simp only [spec_CountNext_ent] at h
  split at h
  · rename_i b0
    simp only [Option.some.injEq, Prod.mk.injEq] at h
    obtain ⟨hc, rfl⟩ := h
    exact ⟨[], [], 70, _, (spec_CountNext_run F b0).trans ((spec_CountNext_cp _ F b0 _).trans (bind_use hc _)), rfl, rfl, rfl⟩
  · cases h
end Go.Proofs.Ytabfliifleonaaf
