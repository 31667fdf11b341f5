/-
Pure functions and what the code of them does, by program; without conditions.
-/
import Derived.Test.YtgpadaadcepgaaaTHP6
import Derived.Test.YtgpadaadcepgaaaTHS5
namespace Go.Proofs.Ytgpadaadcepgaaa
open Go Go.Lv Go.Lv.P Go.Proofs
set_option linter.unusedVariables false
set_option linter.unusedSimpArgs false
set_option maxRecDepth 100000
/-! slices.IndexFunc[[]loop.example/g01194/impl.Step,loop.example/g01194/impl.Step] -/
noncomputable def slices_IndexFunc_implStepimplStep_impl_IsTrapped_f1_tab (F : Nat) : Tab := [(58, (impl_IsTrapped_f1_ent F))]
theorem slices_IndexFunc_implStepimplStep_impl_IsTrapped_f1_tabok (F : Nat) : TabOK Try.prog (slices_IndexFunc_implStepimplStep_impl_IsTrapped_f1_tab F) := (tab_cons (impl_IsTrapped_f1_meets F) impl_IsTrapped_f1_fok tab_nil)
noncomputable def slices_IndexFunc_implStepimplStep_impl_IsTrapped_f1_LS0 (F : Nat) : LT := []
theorem slices_IndexFunc_implStepimplStep_impl_IsTrapped_f1_lsok0 (F : Nat) : LoopsOK Try.prog (slices_IndexFunc_implStepimplStep_impl_IsTrapped_f1_LS0 F) (bodyOf Try.f83) := loopsOK_nil
theorem slices_IndexFunc_implStepimplStep_impl_IsTrapped_f1_keys : keysOK (bodyOf Try.f83) = true := by kernel_rfl
def slices_IndexFunc_implStepimplStep_impl_IsTrapped_f1_st2 (s0 : List (List Int)) (t74 : Int) (f6 : List Int) (t85 : Int) : St := ⟨expand 19 0 [0, 1, 7, 8] [(.rr 4 s0), (.fn 58 [] [(.ptr 0 0 0 16)]), (.int .i64 t74), (.int .i64 t85)], [(.var 16 (.ri .i64 f6))], 1, []⟩
def slices_IndexFunc_implStepimplStep_impl_IsTrapped_f1_o2 (s0 : List (List Int)) (t74 : Int) (f6 : List Int) (x : Bool × Int) : GT := (.br x.1 (.out (.ret ⟨expand 19 0 [4] [(.int .i64 x.2)], [(.var 16 (.ri .i64 f6))], 1, []⟩)) (.out (.exit 0 ⟨expand 19 0 [] [], [(.var 16 (.ri .i64 f6))], 1, []⟩)))
def slices_IndexFunc_implStepimplStep_impl_IsTrapped_f1_ls2 (F : Nat) : LoopS := ⟨19, [0, 1, 7, 8], [], [], [], [4], [], [], fun vals mem np killed => match vals, mem, np, killed with
  | [(.rr 4 s0), (.fn 58 [] [(.ptr 0 0 0 16)]), (.int .i64 t74), (.int .i64 t85)], [(.var 16 (.ri .i64 f6))], 1, [] => .br (slices_IndexFunc_implStepimplStep_impl_IsTrapped_f1_l2 F s0 t74 f6 t85).isSome (slices_IndexFunc_implStepimplStep_impl_IsTrapped_f1_o2 s0 t74 f6 ((slices_IndexFunc_implStepimplStep_impl_IsTrapped_f1_l2 F s0 t74 f6 t85).getD default)) .fail
  | _, _, _, _ => .fail⟩
theorem slices_IndexFunc_implStepimplStep_impl_IsTrapped_f1_step2 (F : Nat) (s0 : List (List Int)) (t74 : Int) (f6 : List Int) (t85 : Int) {R : Type} (k : Out → Option R) : stepS tt (slices_IndexFunc_implStepimplStep_impl_IsTrapped_f1_tab F) (slices_IndexFunc_implStepimplStep_impl_IsTrapped_f1_LS0 F) 70 (slices_IndexFunc_implStepimplStep_impl_IsTrapped_f1_ls2 F) (loopAt 2 (bodyOf Try.f83)) (slices_IndexFunc_implStepimplStep_impl_IsTrapped_f1_st2 s0 t74 f6 t85) k = slices_IndexFunc_implStepimplStep_impl_IsTrapped_f1_s2 F s0 t74 f6 R t85 (fun s => k (.norm (slices_IndexFunc_implStepimplStep_impl_IsTrapped_f1_st2 s0 t74 f6 s))) (fun x => (slices_IndexFunc_implStepimplStep_impl_IsTrapped_f1_o2 s0 t74 f6 x).run k) := by kernel_rfl
theorem slices_IndexFunc_implStepimplStep_impl_IsTrapped_f1_iter2 (F : Nat) (s0 : List (List Int)) (t74 : Int) (f6 : List Int) {R : Type} (k : Out → Option R) : ∀ (n : Nat) (t85 : Int), iterS tt (slices_IndexFunc_implStepimplStep_impl_IsTrapped_f1_tab F) (slices_IndexFunc_implStepimplStep_impl_IsTrapped_f1_LS0 F) 70 (slices_IndexFunc_implStepimplStep_impl_IsTrapped_f1_ls2 F) (loopAt 2 (bodyOf Try.f83)) n (slices_IndexFunc_implStepimplStep_impl_IsTrapped_f1_st2 s0 t74 f6 t85) k = loopC (slices_IndexFunc_implStepimplStep_impl_IsTrapped_f1_s2 F s0 t74 f6) n t85 (fun x => (slices_IndexFunc_implStepimplStep_impl_IsTrapped_f1_o2 s0 t74 f6 x).run k)
  | 0, t85 => rfl
  | n + 1, t85 => (iterS_succ tt (slices_IndexFunc_implStepimplStep_impl_IsTrapped_f1_tab F) (slices_IndexFunc_implStepimplStep_impl_IsTrapped_f1_LS0 F) 70 (slices_IndexFunc_implStepimplStep_impl_IsTrapped_f1_ls2 F) (loopAt 2 (bodyOf Try.f83)) n (slices_IndexFunc_implStepimplStep_impl_IsTrapped_f1_st2 s0 t74 f6 t85) k).trans ((slices_IndexFunc_implStepimplStep_impl_IsTrapped_f1_step2 F s0 t74 f6 t85 (nextK (iterS tt (slices_IndexFunc_implStepimplStep_impl_IsTrapped_f1_tab F) (slices_IndexFunc_implStepimplStep_impl_IsTrapped_f1_LS0 F) 70 (slices_IndexFunc_implStepimplStep_impl_IsTrapped_f1_ls2 F) (loopAt 2 (bodyOf Try.f83)) n) k)).trans (congrArg (fun kn => slices_IndexFunc_implStepimplStep_impl_IsTrapped_f1_s2 F s0 t74 f6 R t85 kn _) (funext (fun t85 => slices_IndexFunc_implStepimplStep_impl_IsTrapped_f1_iter2 F s0 t74 f6 k n t85))))
theorem slices_IndexFunc_implStepimplStep_impl_IsTrapped_f1_lok2 (F : Nat) : LoopOK Try.prog (loopAt 2 (bodyOf Try.f83)) (slices_IndexFunc_implStepimplStep_impl_IsTrapped_f1_ls2 F) := by
  refine loopOK_of mixed ttok deep (slices_IndexFunc_implStepimplStep_impl_IsTrapped_f1_tabok F) (loopsOK_at (slices_IndexFunc_implStepimplStep_impl_IsTrapped_f1_lsok0 F) 2) (fuel := 70) fun R vals mem np killed k x h => ?_
  simp only [slices_IndexFunc_implStepimplStep_impl_IsTrapped_f1_ls2] at h
  split at h
  · rename_i s0 t74 t85 f6
    simp only [GT.run] at h
    have hc := (cond_noneL h).1
    replace h := (cond_noneL h).2
    refine ⟨F, (slices_IndexFunc_implStepimplStep_impl_IsTrapped_f1_iter2 F s0 t74 f6 k F t85).trans ((loopC_use (slices_IndexFunc_implStepimplStep_impl_IsTrapped_f1_s2_nat F s0 t74 f6) hc _).trans h)⟩
  · simp only [GT.run] at h
    cases h
noncomputable def slices_IndexFunc_implStepimplStep_impl_IsTrapped_f1_LS1 (F : Nat) : LT := (2, slices_IndexFunc_implStepimplStep_impl_IsTrapped_f1_ls2 F) :: slices_IndexFunc_implStepimplStep_impl_IsTrapped_f1_LS0 F
theorem slices_IndexFunc_implStepimplStep_impl_IsTrapped_f1_lsok1 (F : Nat) : LoopsOK Try.prog (slices_IndexFunc_implStepimplStep_impl_IsTrapped_f1_LS1 F) (bodyOf Try.f83) := loopsOK_cons slices_IndexFunc_implStepimplStep_impl_IsTrapped_f1_keys (slices_IndexFunc_implStepimplStep_impl_IsTrapped_f1_lok2 F) (slices_IndexFunc_implStepimplStep_impl_IsTrapped_f1_lsok0 F)
theorem slices_IndexFunc_implStepimplStep_impl_IsTrapped_f1_run (F : Nat) (s0 : List (List Int)) (f4 : List Int) : runS tt (slices_IndexFunc_implStepimplStep_impl_IsTrapped_f1_tab F) (slices_IndexFunc_implStepimplStep_impl_IsTrapped_f1_LS1 F) [] [] Try.f83 (bodyOf Try.f83) 70 [(.rr 4 s0), (.fn 58 [] [(.ptr 0 0 0 16)])] [(.var 16 (.ri .i64 f4))] = slices_IndexFunc_implStepimplStep_impl_IsTrapped_f1_c _ F s0 f4 (fun r => some ⟨(.int .i64 r), [(.var 16 (.ri .i64 f4))], []⟩) := by kernel_rfl
def slices_IndexFunc_implStepimplStep_impl_IsTrapped_f1_ent (F : Nat) : Ent := ⟨[], .quiet, fun args mem => match args, mem with
  | [(.rr 4 s0), (.fn 58 [] [(.ptr 0 0 0 16)])], [(.var 16 (.ri .i64 f4))] => some ((slices_IndexFunc_implStepimplStep_impl_IsTrapped_f1_p F s0 f4).isSome, ⟨(.int .i64 ((slices_IndexFunc_implStepimplStep_impl_IsTrapped_f1_p F s0 f4).getD default)), [], []⟩)
  | _, _ => none⟩
theorem slices_IndexFunc_implStepimplStep_impl_IsTrapped_f1_fok : FunOK Try.prog 83 := funOK Try.func83 (by kernel_rfl) rfl
theorem slices_IndexFunc_implStepimplStep_impl_IsTrapped_f1_meets (F : Nat) : Meets Try.prog 83 (slices_IndexFunc_implStepimplStep_impl_IsTrapped_f1_ent F) := by
  refine meets_of_runS mixed ttok deep (slices_IndexFunc_implStepimplStep_impl_IsTrapped_f1_tabok F) Try.func83 (body_some rfl) (slices_IndexFunc_implStepimplStep_impl_IsTrapped_f1_lsok1 F) fun args mem hfit ret h => ?_
  clear hfit
  simp only [slices_IndexFunc_implStepimplStep_impl_IsTrapped_f1_ent] at h
  split at h
  · rename_i s0 f4
    simp only [Option.some.injEq, Prod.mk.injEq] at h
    obtain ⟨hc, rfl⟩ := h
    exact ⟨[], [], 70, _, (slices_IndexFunc_implStepimplStep_impl_IsTrapped_f1_run F s0 f4).trans ((slices_IndexFunc_implStepimplStep_impl_IsTrapped_f1_cp _ F s0 f4 _).trans (bind_use hc _)), rfl, rfl, rfl⟩
  · cases h

/-! slices.ContainsFunc[[]loop.example/g01194/impl.Step,loop.example/g01194/impl.Step] -/
noncomputable def slices_ContainsFunc_implStepimplStep_impl_IsTrapped_f1_tab (F : Nat) : Tab := [(83, (slices_IndexFunc_implStepimplStep_impl_IsTrapped_f1_ent F))]
theorem slices_ContainsFunc_implStepimplStep_impl_IsTrapped_f1_tabok (F : Nat) : TabOK Try.prog (slices_ContainsFunc_implStepimplStep_impl_IsTrapped_f1_tab F) := (tab_cons (slices_IndexFunc_implStepimplStep_impl_IsTrapped_f1_meets F) slices_IndexFunc_implStepimplStep_impl_IsTrapped_f1_fok tab_nil)
noncomputable def slices_ContainsFunc_implStepimplStep_impl_IsTrapped_f1_LS0 (F : Nat) : LT := []
theorem slices_ContainsFunc_implStepimplStep_impl_IsTrapped_f1_lsok0 (F : Nat) : LoopsOK Try.prog (slices_ContainsFunc_implStepimplStep_impl_IsTrapped_f1_LS0 F) (bodyOf Try.f56) := loopsOK_nil
theorem slices_ContainsFunc_implStepimplStep_impl_IsTrapped_f1_run (F : Nat) (s0 : List (List Int)) (f4 : List Int) : runS tt (slices_ContainsFunc_implStepimplStep_impl_IsTrapped_f1_tab F) (slices_ContainsFunc_implStepimplStep_impl_IsTrapped_f1_LS0 F) [] [] Try.f56 (bodyOf Try.f56) 70 [(.rr 4 s0), (.fn 58 [] [(.ptr 0 0 0 16)])] [(.var 16 (.ri .i64 f4))] = slices_ContainsFunc_implStepimplStep_impl_IsTrapped_f1_c _ F s0 f4 (fun r => some ⟨(.bool r), [(.var 16 (.ri .i64 f4))], []⟩) := by kernel_rfl
def slices_ContainsFunc_implStepimplStep_impl_IsTrapped_f1_ent (F : Nat) : Ent := ⟨[], .quiet, fun args mem => match args, mem with
  | [(.rr 4 s0), (.fn 58 [] [(.ptr 0 0 0 16)])], [(.var 16 (.ri .i64 f4))] => some ((slices_ContainsFunc_implStepimplStep_impl_IsTrapped_f1_p F s0 f4).isSome, ⟨(.bool ((slices_ContainsFunc_implStepimplStep_impl_IsTrapped_f1_p F s0 f4).getD default)), [], []⟩)
  | _, _ => none⟩
theorem slices_ContainsFunc_implStepimplStep_impl_IsTrapped_f1_fok : FunOK Try.prog 56 := funOK Try.func56 (by kernel_rfl) rfl
theorem slices_ContainsFunc_implStepimplStep_impl_IsTrapped_f1_meets (F : Nat) : Meets Try.prog 56 (slices_ContainsFunc_implStepimplStep_impl_IsTrapped_f1_ent F) := by
  refine meets_of_runS mixed ttok deep (slices_ContainsFunc_implStepimplStep_impl_IsTrapped_f1_tabok F) Try.func56 (body_some rfl) (slices_ContainsFunc_implStepimplStep_impl_IsTrapped_f1_lsok0 F) fun args mem hfit ret h => ?_
  clear hfit
  simp only [slices_ContainsFunc_implStepimplStep_impl_IsTrapped_f1_ent] at h
  split at h
  · rename_i s0 f4
    simp only [Option.some.injEq, Prod.mk.injEq] at h
    obtain ⟨hc, rfl⟩ := h
    exact ⟨[], [], 70, _, (slices_ContainsFunc_implStepimplStep_impl_IsTrapped_f1_run F s0 f4).trans ((slices_ContainsFunc_implStepimplStep_impl_IsTrapped_f1_cp _ F s0 f4 _).trans (bind_use hc _)), rfl, rfl, rfl⟩
  · cases h

/-! loop.example/g01194/impl.IsTrapped -/
noncomputable def impl_IsTrapped_tab (F : Nat) : Tab := [(40, (impl_IsBoard_ent F)), (53, (impl_Board_isOver_ent F)), (57, (impl_Board_allSteps_ent F)), (56, (slices_ContainsFunc_implStepimplStep_impl_IsTrapped_f1_ent F))]
theorem impl_IsTrapped_tabok (F : Nat) : TabOK Try.prog (impl_IsTrapped_tab F) := (tab_cons (impl_IsBoard_meets F) impl_IsBoard_fok (tab_cons (impl_Board_isOver_meets F) impl_Board_isOver_fok (tab_cons (impl_Board_allSteps_meets F) impl_Board_allSteps_fok (tab_cons (slices_ContainsFunc_implStepimplStep_impl_IsTrapped_f1_meets F) slices_ContainsFunc_implStepimplStep_impl_IsTrapped_f1_fok tab_nil))))
noncomputable def impl_IsTrapped_LS0 (F : Nat) : LT := []
theorem impl_IsTrapped_lsok0 (F : Nat) : LoopsOK Try.prog (impl_IsTrapped_LS0 F) (bodyOf Try.f22) := loopsOK_nil
theorem impl_IsTrapped_run (F : Nat) (b0 : List Int) : runS tt (impl_IsTrapped_tab F) (impl_IsTrapped_LS0 F) [] [] Try.f22 (bodyOf Try.f22) 70 [(.ints 16 b0)] [] = impl_IsTrapped_c _ F b0 (fun r => some ⟨(.tup [(.bool r.1), (.bool r.2)]), [], []⟩) := by kernel_rfl
def impl_IsTrapped_ent (F : Nat) : Ent := ⟨[], .quiet, fun args mem => match args, mem with
  | [(.ints 16 b0)], [] => some ((impl_IsTrapped_p F b0).isSome, ⟨(.tup [(.bool ((impl_IsTrapped_p F b0).getD default).1), (.bool ((impl_IsTrapped_p F b0).getD default).2)]), [], []⟩)
  | _, _ => none⟩
theorem impl_IsTrapped_fok : FunOK Try.prog 22 := funOK Try.func22 (by kernel_rfl) rfl
theorem impl_IsTrapped_meets (F : Nat) : Meets Try.prog 22 (impl_IsTrapped_ent F) := by
  refine meets_of_runS mixed ttok deep (impl_IsTrapped_tabok F) Try.func22 (body_some rfl) (impl_IsTrapped_lsok0 F) fun args mem hfit ret h => ?_
  clear hfit
  simp only [impl_IsTrapped_ent] at h
  split at h
  · rename_i b0
    simp only [Option.some.injEq, Prod.mk.injEq] at h
    obtain ⟨hc, rfl⟩ := h
    exact ⟨[], [], 70, _, (impl_IsTrapped_run F b0).trans ((impl_IsTrapped_cp _ F b0 _).trans (bind_use hc _)), rfl, rfl, rfl⟩
  · cases h

/-! loop.example/g01194/laws.FnExactIsTrapped -/
noncomputable def laws_FnExactIsTrapped_tab (F : Nat) : Tab := [(11, (laws_toBoard_ent F)), (21, (spec_IsTrapped_ent F)), (22, (impl_IsTrapped_ent F))]
theorem laws_FnExactIsTrapped_tabok (F : Nat) : TabOK Try.prog (laws_FnExactIsTrapped_tab F) := (tab_cons (laws_toBoard_meets F) laws_toBoard_fok (tab_cons (spec_IsTrapped_meets F) spec_IsTrapped_fok (tab_cons (impl_IsTrapped_meets F) impl_IsTrapped_fok tab_nil)))
noncomputable def laws_FnExactIsTrapped_LS0 (F : Nat) : LT := []
theorem laws_FnExactIsTrapped_lsok0 (F : Nat) : LoopsOK Try.prog (laws_FnExactIsTrapped_LS0 F) (bodyOf Try.f7) := loopsOK_nil
theorem laws_FnExactIsTrapped_run (F : Nat) (aB0 : List Int) : runS tt (laws_FnExactIsTrapped_tab F) (laws_FnExactIsTrapped_LS0 F) [] [] Try.f7 (bodyOf Try.f7) 70 [(.ints 16 aB0)] [] = laws_FnExactIsTrapped_c _ F aB0 (fun r => some ⟨(.bool r), [], []⟩) := by kernel_rfl
def laws_FnExactIsTrapped_ent (F : Nat) : Ent := ⟨[], .quiet, fun args mem => match args, mem with
  | [(.ints 16 aB0)], [] => some ((laws_FnExactIsTrapped_p F aB0).isSome, ⟨(.bool ((laws_FnExactIsTrapped_p F aB0).getD default)), [], []⟩)
  | _, _ => none⟩
theorem laws_FnExactIsTrapped_fok : FunOK Try.prog 7 := funOK Try.func7 (by kernel_rfl) rfl
theorem laws_FnExactIsTrapped_meets (F : Nat) : Meets Try.prog 7 (laws_FnExactIsTrapped_ent F) := by
  refine meets_of_runS mixed ttok deep (laws_FnExactIsTrapped_tabok F) Try.func7 (body_some rfl) (laws_FnExactIsTrapped_lsok0 F) fun args mem hfit ret h => ?_
  clear hfit
  simp only [laws_FnExactIsTrapped_ent] at h
  split at h
  · rename_i aB0
    simp only [Option.some.injEq, Prod.mk.injEq] at h
    obtain ⟨hc, rfl⟩ := h
    exact ⟨[], [], 70, _, (laws_FnExactIsTrapped_run F aB0).trans ((laws_FnExactIsTrapped_cp _ F aB0 _).trans (bind_use hc _)), rfl, rfl, rfl⟩
  · cases h

/-! loop.example/g01194/spec.StepBetween -/
noncomputable def spec_StepBetween_tab (F : Nat) : Tab := [(34, (spec_l2Board_ent F)), (54, (spec_l5All_ent F)), (55, (spec_l5Do_ent F))]
theorem spec_StepBetween_tabok (F : Nat) : TabOK Try.prog (spec_StepBetween_tab F) := (tab_cons (spec_l2Board_meets F) spec_l2Board_fok (tab_cons (spec_l5All_meets F) spec_l5All_fok (tab_cons (spec_l5Do_meets F) spec_l5Do_fok tab_nil)))
noncomputable def spec_StepBetween_LS0 (F : Nat) : LT := []
theorem spec_StepBetween_lsok0 (F : Nat) : LoopsOK Try.prog (spec_StepBetween_LS0 F) (bodyOf Try.f23) := loopsOK_nil
theorem spec_StepBetween_keys : keysOK (bodyOf Try.f23) = true := by kernel_rfl
def spec_StepBetween_st6 (a11 : List Int) (b12 : List Int) (all14 : List (List Int)) (i10 : Int) (out13 : List (List Int)) : St := ⟨expand 51 0 [2, 3, 6, 7, 8] [(.ptr 0 0 0 16), (.ptr 1 0 0 16), (.sl 2 0 (List.length out13)), (.sl 3 0 (List.length all14)), (.int .i64 i10)], [(.var 16 (.ri .i64 a11)), (.var 16 (.ri .i64 b12)), (.vec 75 (.rr 4 out13)), (.vec 75 (.rr 4 all14))], 0, []⟩
def spec_StepBetween_o6 (a11 : List Int) (b12 : List Int) (all14 : List (List Int)) (x : List (List Int)) : GT := (.out (.exit 0 ⟨expand 51 0 [6] [(.sl 0 0 (List.length x))], [(.vec 75 (.rr 4 x))], 0, []⟩))
def spec_StepBetween_ls6 (F : Nat) : LoopS := ⟨51, [2, 3, 6, 7, 8], [], [6], [], [4, 5], [], [], fun vals mem np killed => match vals, mem, np, killed with
  | [(.ptr 0 0 0 16), (.ptr 1 0 0 16), (.sl 2 0 q_out7), (.sl 3 0 q_all9), (.int .i64 i10)], [(.var 16 (.ri .i64 a11)), (.var 16 (.ri .i64 b12)), (.vec 75 (.rr 4 out13)), (.vec 75 (.rr 4 all14))], 0, [] => .br ((Nat.beq q_out7 (List.length out13)) && ((Nat.beq q_all9 (List.length all14)) && (spec_StepBetween_l6 F a11 b12 all14 i10 out13).isSome)) (spec_StepBetween_o6 a11 b12 all14 ((spec_StepBetween_l6 F a11 b12 all14 i10 out13).getD default)) .fail
  | _, _, _, _ => .fail⟩
theorem spec_StepBetween_step6 (F : Nat) (a11 : List Int) (b12 : List Int) (all14 : List (List Int)) (i10 : Int) (out13 : List (List Int)) {R : Type} (k : Out → Option R) : stepS tt (spec_StepBetween_tab F) (spec_StepBetween_LS0 F) 70 (spec_StepBetween_ls6 F) (loopAt 6 (bodyOf Try.f23)) (spec_StepBetween_st6 a11 b12 all14 i10 out13) k = spec_StepBetween_s6 F a11 b12 all14 R (i10, out13) (fun s => k (.norm (spec_StepBetween_st6 a11 b12 all14 s.1 s.2))) (fun x => (spec_StepBetween_o6 a11 b12 all14 x).run k) := by kernel_rfl
theorem spec_StepBetween_iter6 (F : Nat) (a11 : List Int) (b12 : List Int) (all14 : List (List Int)) {R : Type} (k : Out → Option R) : ∀ (n : Nat) (i10 : Int) (out13 : List (List Int)), iterS tt (spec_StepBetween_tab F) (spec_StepBetween_LS0 F) 70 (spec_StepBetween_ls6 F) (loopAt 6 (bodyOf Try.f23)) n (spec_StepBetween_st6 a11 b12 all14 i10 out13) k = loopC (spec_StepBetween_s6 F a11 b12 all14) n (i10, out13) (fun x => (spec_StepBetween_o6 a11 b12 all14 x).run k)
  | 0, i10, out13 => rfl
  | n + 1, i10, out13 => (iterS_succ tt (spec_StepBetween_tab F) (spec_StepBetween_LS0 F) 70 (spec_StepBetween_ls6 F) (loopAt 6 (bodyOf Try.f23)) n (spec_StepBetween_st6 a11 b12 all14 i10 out13) k).trans ((spec_StepBetween_step6 F a11 b12 all14 i10 out13 (nextK (iterS tt (spec_StepBetween_tab F) (spec_StepBetween_LS0 F) 70 (spec_StepBetween_ls6 F) (loopAt 6 (bodyOf Try.f23)) n) k)).trans (congrArg (fun kn => spec_StepBetween_s6 F a11 b12 all14 R (i10, out13) kn _) (funext (fun ⟨i10, out13⟩ => spec_StepBetween_iter6 F a11 b12 all14 k n i10 out13))))
theorem spec_StepBetween_lok6 (F : Nat) : LoopOK Try.prog (loopAt 6 (bodyOf Try.f23)) (spec_StepBetween_ls6 F) := by
  refine loopOK_of mixed ttok deep (spec_StepBetween_tabok F) (loopsOK_at (spec_StepBetween_lsok0 F) 6) (fuel := 70) fun R vals mem np killed k x h => ?_
  simp only [spec_StepBetween_ls6] at h
  split at h
  · rename_i q_out7 q_all9 i10 a11 b12 out13 all14
    simp only [GT.run] at h
    have hc := (cond_noneL h).1
    replace h := (cond_noneL h).2
    have hg := (and_split hc).1
    replace hc := (and_split hc).2
    obtain rfl := nbeq_nat hg
    have hg := (and_split hc).1
    replace hc := (and_split hc).2
    obtain rfl := nbeq_nat hg
    refine ⟨F, (spec_StepBetween_iter6 F a11 b12 all14 k F i10 out13).trans ((loopC_use (spec_StepBetween_s6_nat F a11 b12 all14) hc _).trans h)⟩
  · simp only [GT.run] at h
    cases h
noncomputable def spec_StepBetween_LS1 (F : Nat) : LT := (6, spec_StepBetween_ls6 F) :: spec_StepBetween_LS0 F
theorem spec_StepBetween_lsok1 (F : Nat) : LoopsOK Try.prog (spec_StepBetween_LS1 F) (bodyOf Try.f23) := loopsOK_cons spec_StepBetween_keys (spec_StepBetween_lok6 F) (spec_StepBetween_lsok0 F)
theorem spec_StepBetween_run (F : Nat) (a0 : List Int) (b1 : List Int) : runS tt (spec_StepBetween_tab F) (spec_StepBetween_LS1 F) [] [] Try.f23 (bodyOf Try.f23) 70 [(.ints 16 a0), (.ints 16 b1)] [] = spec_StepBetween_c _ F a0 b1 (fun r => some ⟨(.tup [(.sl 0 0 (List.length r.2)), (.bool r.1)]), [(.vec 75 (.rr 4 r.2))], []⟩) := by kernel_rfl
def spec_StepBetween_ent (F : Nat) : Ent := ⟨[], .fresh, fun args mem => match args, mem with
  | [(.ints 16 a0), (.ints 16 b1)], [] => some ((spec_StepBetween_p F a0 b1).isSome, ⟨(.tup [(.sl 0 0 (List.length ((spec_StepBetween_p F a0 b1).getD default).2)), (.bool ((spec_StepBetween_p F a0 b1).getD default).1)]), [(.vec 75 (.rr 4 ((spec_StepBetween_p F a0 b1).getD default).2))], []⟩)
  | _, _ => none⟩
theorem spec_StepBetween_fok : FunOK Try.prog 23 := funOK Try.func23 (by kernel_rfl) rfl
theorem spec_StepBetween_meets (F : Nat) : Meets Try.prog 23 (spec_StepBetween_ent F) := by
  refine meets_of_runS mixed ttok deep (spec_StepBetween_tabok F) Try.func23 (body_some rfl) (spec_StepBetween_lsok1 F) fun args mem hfit ret h => ?_
  clear hfit
  simp only [spec_StepBetween_ent] at h
  split at h
  · rename_i a0 b1
    simp only [Option.some.injEq, Prod.mk.injEq] at h
    obtain ⟨hc, rfl⟩ := h
    exact ⟨[], [], 70, _, (spec_StepBetween_run F a0 b1).trans ((spec_StepBetween_cp _ F a0 b1 _).trans (bind_use hc _)), rfl, rfl, rfl⟩
  · cases h

/-! loop.example/g01194/impl.StepBetween$1 -/
noncomputable def impl_StepBetween_f1_tab (F : Nat) : Tab := [(59, (impl_Board_behind_ent F))]
theorem impl_StepBetween_f1_tabok (F : Nat) : TabOK Try.prog (impl_StepBetween_f1_tab F) := (tab_cons (impl_Board_behind_meets F) impl_Board_behind_fok tab_nil)
noncomputable def impl_StepBetween_f1_LS0 (F : Nat) : LT := []
theorem impl_StepBetween_f1_lsok0 (F : Nat) : LoopsOK Try.prog (impl_StepBetween_f1_LS0 F) (bodyOf Try.f61) := loopsOK_nil
theorem impl_StepBetween_f1_run (F : Nat) (s0 : List Int) (a17 : List Int) (a28 : List Int) : runS tt (impl_StepBetween_f1_tab F) (impl_StepBetween_f1_LS0 F) [] [] Try.f61 (bodyOf Try.f61) 70 [(.ints 4 s0), (.ptr 0 0 0 16), (.ptr 1 0 0 16)] [(.var 16 (.ri .i64 a17)), (.var 16 (.ri .i64 a28))] = impl_StepBetween_f1_c _ F s0 a17 a28 (fun r => some ⟨(.bool r), [(.var 16 (.ri .i64 a17)), (.var 16 (.ri .i64 a28))], []⟩) := by kernel_rfl
def impl_StepBetween_f1_ent (F : Nat) : Ent := ⟨[], .quiet, fun args mem => match args, mem with
  | [(.ints 4 s0), (.ptr 0 0 0 16), (.ptr 1 0 0 16)], [(.var 16 (.ri .i64 a17)), (.var 16 (.ri .i64 a28))] => some ((impl_StepBetween_f1_p F s0 a17 a28).isSome, ⟨(.bool ((impl_StepBetween_f1_p F s0 a17 a28).getD default)), [], []⟩)
  | _, _ => none⟩
theorem impl_StepBetween_f1_fok : FunOK Try.prog 61 := funOK Try.func61 (by kernel_rfl) rfl
theorem impl_StepBetween_f1_meets (F : Nat) : Meets Try.prog 61 (impl_StepBetween_f1_ent F) := by
  refine meets_of_runS mixed ttok deep (impl_StepBetween_f1_tabok F) Try.func61 (body_some rfl) (impl_StepBetween_f1_lsok0 F) fun args mem hfit ret h => ?_
  clear hfit
  simp only [impl_StepBetween_f1_ent] at h
  split at h
  · rename_i s0 a17 a28
    simp only [Option.some.injEq, Prod.mk.injEq] at h
    obtain ⟨hc, rfl⟩ := h
    exact ⟨[], [], 70, _, (impl_StepBetween_f1_run F s0 a17 a28).trans ((impl_StepBetween_f1_cp _ F s0 a17 a28 _).trans (bind_use hc _)), rfl, rfl, rfl⟩
  · cases h

/-! slices.IndexFunc[[]loop.example/g01194/impl.Step,loop.example/g01194/impl.Step] -/
noncomputable def slices_IndexFunc_implStepimplStep_impl_StepBetween_f1_tab (F : Nat) : Tab := [(61, (impl_StepBetween_f1_ent F))]
theorem slices_IndexFunc_implStepimplStep_impl_StepBetween_f1_tabok (F : Nat) : TabOK Try.prog (slices_IndexFunc_implStepimplStep_impl_StepBetween_f1_tab F) := (tab_cons (impl_StepBetween_f1_meets F) impl_StepBetween_f1_fok tab_nil)
noncomputable def slices_IndexFunc_implStepimplStep_impl_StepBetween_f1_LS0 (F : Nat) : LT := []
theorem slices_IndexFunc_implStepimplStep_impl_StepBetween_f1_lsok0 (F : Nat) : LoopsOK Try.prog (slices_IndexFunc_implStepimplStep_impl_StepBetween_f1_LS0 F) (bodyOf Try.f83) := loopsOK_nil
theorem slices_IndexFunc_implStepimplStep_impl_StepBetween_f1_keys : keysOK (bodyOf Try.f83) = true := by kernel_rfl
def slices_IndexFunc_implStepimplStep_impl_StepBetween_f1_st2 (s0 : List (List Int)) (t77 : Int) (f9 : List Int) (f10 : List Int) (t88 : Int) : St := ⟨expand 19 0 [0, 1, 7, 8] [(.rr 4 s0), (.fn 61 [] [(.ptr 0 0 0 16), (.ptr 1 0 0 16)]), (.int .i64 t77), (.int .i64 t88)], [(.var 16 (.ri .i64 f9)), (.var 16 (.ri .i64 f10))], 2, []⟩
def slices_IndexFunc_implStepimplStep_impl_StepBetween_f1_o2 (s0 : List (List Int)) (t77 : Int) (f9 : List Int) (f10 : List Int) (x : Bool × Int) : GT := (.br x.1 (.out (.ret ⟨expand 19 0 [4] [(.int .i64 x.2)], [(.var 16 (.ri .i64 f9)), (.var 16 (.ri .i64 f10))], 2, []⟩)) (.out (.exit 0 ⟨expand 19 0 [] [], [(.var 16 (.ri .i64 f9)), (.var 16 (.ri .i64 f10))], 2, []⟩)))
def slices_IndexFunc_implStepimplStep_impl_StepBetween_f1_ls2 (F : Nat) : LoopS := ⟨19, [0, 1, 7, 8], [], [], [], [4], [], [], fun vals mem np killed => match vals, mem, np, killed with
  | [(.rr 4 s0), (.fn 61 [] [(.ptr 0 0 0 16), (.ptr 1 0 0 16)]), (.int .i64 t77), (.int .i64 t88)], [(.var 16 (.ri .i64 f9)), (.var 16 (.ri .i64 f10))], 2, [] => .br (slices_IndexFunc_implStepimplStep_impl_StepBetween_f1_l2 F s0 t77 f9 f10 t88).isSome (slices_IndexFunc_implStepimplStep_impl_StepBetween_f1_o2 s0 t77 f9 f10 ((slices_IndexFunc_implStepimplStep_impl_StepBetween_f1_l2 F s0 t77 f9 f10 t88).getD default)) .fail
  | _, _, _, _ => .fail⟩
theorem slices_IndexFunc_implStepimplStep_impl_StepBetween_f1_step2 (F : Nat) (s0 : List (List Int)) (t77 : Int) (f9 : List Int) (f10 : List Int) (t88 : Int) {R : Type} (k : Out → Option R) : stepS tt (slices_IndexFunc_implStepimplStep_impl_StepBetween_f1_tab F) (slices_IndexFunc_implStepimplStep_impl_StepBetween_f1_LS0 F) 70 (slices_IndexFunc_implStepimplStep_impl_StepBetween_f1_ls2 F) (loopAt 2 (bodyOf Try.f83)) (slices_IndexFunc_implStepimplStep_impl_StepBetween_f1_st2 s0 t77 f9 f10 t88) k = slices_IndexFunc_implStepimplStep_impl_StepBetween_f1_s2 F s0 t77 f9 f10 R t88 (fun s => k (.norm (slices_IndexFunc_implStepimplStep_impl_StepBetween_f1_st2 s0 t77 f9 f10 s))) (fun x => (slices_IndexFunc_implStepimplStep_impl_StepBetween_f1_o2 s0 t77 f9 f10 x).run k) := by kernel_rfl
theorem slices_IndexFunc_implStepimplStep_impl_StepBetween_f1_iter2 (F : Nat) (s0 : List (List Int)) (t77 : Int) (f9 : List Int) (f10 : List Int) {R : Type} (k : Out → Option R) : ∀ (n : Nat) (t88 : Int), iterS tt (slices_IndexFunc_implStepimplStep_impl_StepBetween_f1_tab F) (slices_IndexFunc_implStepimplStep_impl_StepBetween_f1_LS0 F) 70 (slices_IndexFunc_implStepimplStep_impl_StepBetween_f1_ls2 F) (loopAt 2 (bodyOf Try.f83)) n (slices_IndexFunc_implStepimplStep_impl_StepBetween_f1_st2 s0 t77 f9 f10 t88) k = loopC (slices_IndexFunc_implStepimplStep_impl_StepBetween_f1_s2 F s0 t77 f9 f10) n t88 (fun x => (slices_IndexFunc_implStepimplStep_impl_StepBetween_f1_o2 s0 t77 f9 f10 x).run k)
  | 0, t88 => rfl
  | n + 1, t88 => (iterS_succ tt (slices_IndexFunc_implStepimplStep_impl_StepBetween_f1_tab F) (slices_IndexFunc_implStepimplStep_impl_StepBetween_f1_LS0 F) 70 (slices_IndexFunc_implStepimplStep_impl_StepBetween_f1_ls2 F) (loopAt 2 (bodyOf Try.f83)) n (slices_IndexFunc_implStepimplStep_impl_StepBetween_f1_st2 s0 t77 f9 f10 t88) k).trans ((slices_IndexFunc_implStepimplStep_impl_StepBetween_f1_step2 F s0 t77 f9 f10 t88 (nextK (iterS tt (slices_IndexFunc_implStepimplStep_impl_StepBetween_f1_tab F) (slices_IndexFunc_implStepimplStep_impl_StepBetween_f1_LS0 F) 70 (slices_IndexFunc_implStepimplStep_impl_StepBetween_f1_ls2 F) (loopAt 2 (bodyOf Try.f83)) n) k)).trans (congrArg (fun kn => slices_IndexFunc_implStepimplStep_impl_StepBetween_f1_s2 F s0 t77 f9 f10 R t88 kn _) (funext (fun t88 => slices_IndexFunc_implStepimplStep_impl_StepBetween_f1_iter2 F s0 t77 f9 f10 k n t88))))
theorem slices_IndexFunc_implStepimplStep_impl_StepBetween_f1_lok2 (F : Nat) : LoopOK Try.prog (loopAt 2 (bodyOf Try.f83)) (slices_IndexFunc_implStepimplStep_impl_StepBetween_f1_ls2 F) := by
  refine loopOK_of mixed ttok deep (slices_IndexFunc_implStepimplStep_impl_StepBetween_f1_tabok F) (loopsOK_at (slices_IndexFunc_implStepimplStep_impl_StepBetween_f1_lsok0 F) 2) (fuel := 70) fun R vals mem np killed k x h => ?_
  simp only [slices_IndexFunc_implStepimplStep_impl_StepBetween_f1_ls2] at h
  split at h
  · rename_i s0 t77 t88 f9 f10
    simp only [GT.run] at h
    have hc := (cond_noneL h).1
    replace h := (cond_noneL h).2
    refine ⟨F, (slices_IndexFunc_implStepimplStep_impl_StepBetween_f1_iter2 F s0 t77 f9 f10 k F t88).trans ((loopC_use (slices_IndexFunc_implStepimplStep_impl_StepBetween_f1_s2_nat F s0 t77 f9 f10) hc _).trans h)⟩
  · simp only [GT.run] at h
    cases h
noncomputable def slices_IndexFunc_implStepimplStep_impl_StepBetween_f1_LS1 (F : Nat) : LT := (2, slices_IndexFunc_implStepimplStep_impl_StepBetween_f1_ls2 F) :: slices_IndexFunc_implStepimplStep_impl_StepBetween_f1_LS0 F
theorem slices_IndexFunc_implStepimplStep_impl_StepBetween_f1_lsok1 (F : Nat) : LoopsOK Try.prog (slices_IndexFunc_implStepimplStep_impl_StepBetween_f1_LS1 F) (bodyOf Try.f83) := loopsOK_cons slices_IndexFunc_implStepimplStep_impl_StepBetween_f1_keys (slices_IndexFunc_implStepimplStep_impl_StepBetween_f1_lok2 F) (slices_IndexFunc_implStepimplStep_impl_StepBetween_f1_lsok0 F)
theorem slices_IndexFunc_implStepimplStep_impl_StepBetween_f1_run (F : Nat) (s0 : List (List Int)) (f7 : List Int) (f8 : List Int) : runS tt (slices_IndexFunc_implStepimplStep_impl_StepBetween_f1_tab F) (slices_IndexFunc_implStepimplStep_impl_StepBetween_f1_LS1 F) [] [] Try.f83 (bodyOf Try.f83) 70 [(.rr 4 s0), (.fn 61 [] [(.ptr 0 0 0 16), (.ptr 1 0 0 16)])] [(.var 16 (.ri .i64 f7)), (.var 16 (.ri .i64 f8))] = slices_IndexFunc_implStepimplStep_impl_StepBetween_f1_c _ F s0 f7 f8 (fun r => some ⟨(.int .i64 r), [(.var 16 (.ri .i64 f7)), (.var 16 (.ri .i64 f8))], []⟩) := by kernel_rfl
def slices_IndexFunc_implStepimplStep_impl_StepBetween_f1_ent (F : Nat) : Ent := ⟨[], .quiet, fun args mem => match args, mem with
  | [(.rr 4 s0), (.fn 61 [] [(.ptr 0 0 0 16), (.ptr 1 0 0 16)])], [(.var 16 (.ri .i64 f7)), (.var 16 (.ri .i64 f8))] => some ((slices_IndexFunc_implStepimplStep_impl_StepBetween_f1_p F s0 f7 f8).isSome, ⟨(.int .i64 ((slices_IndexFunc_implStepimplStep_impl_StepBetween_f1_p F s0 f7 f8).getD default)), [], []⟩)
  | _, _ => none⟩
theorem slices_IndexFunc_implStepimplStep_impl_StepBetween_f1_fok : FunOK Try.prog 83 := funOK Try.func83 (by kernel_rfl) rfl
theorem slices_IndexFunc_implStepimplStep_impl_StepBetween_f1_meets (F : Nat) : Meets Try.prog 83 (slices_IndexFunc_implStepimplStep_impl_StepBetween_f1_ent F) := by
  refine meets_of_runS mixed ttok deep (slices_IndexFunc_implStepimplStep_impl_StepBetween_f1_tabok F) Try.func83 (body_some rfl) (slices_IndexFunc_implStepimplStep_impl_StepBetween_f1_lsok1 F) fun args mem hfit ret h => ?_
  clear hfit
  simp only [slices_IndexFunc_implStepimplStep_impl_StepBetween_f1_ent] at h
  split at h
  · rename_i s0 f7 f8
    simp only [Option.some.injEq, Prod.mk.injEq] at h
    obtain ⟨hc, rfl⟩ := h
    exact ⟨[], [], 70, _, (slices_IndexFunc_implStepimplStep_impl_StepBetween_f1_run F s0 f7 f8).trans ((slices_IndexFunc_implStepimplStep_impl_StepBetween_f1_cp _ F s0 f7 f8 _).trans (bind_use hc _)), rfl, rfl, rfl⟩
  · cases h

/-! slices.DeleteFunc[[]loop.example/g01194/impl.Step,loop.example/g01194/impl.Step] -/
noncomputable def slices_DeleteFunc_implStepimplStep_impl_StepBetween_f1_tab (F : Nat) : Tab := [(83, (slices_IndexFunc_implStepimplStep_impl_StepBetween_f1_ent F)), (61, (impl_StepBetween_f1_ent F))]
theorem slices_DeleteFunc_implStepimplStep_impl_StepBetween_f1_tabok (F : Nat) : TabOK Try.prog (slices_DeleteFunc_implStepimplStep_impl_StepBetween_f1_tab F) := (tab_cons (slices_IndexFunc_implStepimplStep_impl_StepBetween_f1_meets F) slices_IndexFunc_implStepimplStep_impl_StepBetween_f1_fok (tab_cons (impl_StepBetween_f1_meets F) impl_StepBetween_f1_fok tab_nil))
noncomputable def slices_DeleteFunc_implStepimplStep_impl_StepBetween_f1_LS0 (F : Nat) : LT := []
theorem slices_DeleteFunc_implStepimplStep_impl_StepBetween_f1_lsok0 (F : Nat) : LoopsOK Try.prog (slices_DeleteFunc_implStepimplStep_impl_StepBetween_f1_LS0 F) (bodyOf Try.f60) := loopsOK_nil
theorem slices_DeleteFunc_implStepimplStep_impl_StepBetween_f1_keys : keysOK (bodyOf Try.f60) = true := by kernel_rfl
def slices_DeleteFunc_implStepimplStep_impl_StepBetween_f1_st5 (s1 : Nat) (del11 : List Int) (del12 : List Int) (i8 : Int) (j9 : Int) (s10 : List (List Int)) : St := ⟨expand 42 0 [0, 1, 5, 6] [(.sl 0 0 s1), (.fn 61 [] [(.ptr 1 0 0 16), (.ptr 2 0 0 16)]), (.int .i64 i8), (.int .i64 j9)], [(.vec 75 (.rr 4 s10)), (.var 16 (.ri .i64 del11)), (.var 16 (.ri .i64 del12))], 3, []⟩
def slices_DeleteFunc_implStepimplStep_impl_StepBetween_f1_o5 (s1 : Nat) (del11 : List Int) (del12 : List Int) (x : Int × List (List Int)) : GT := (.out (.exit 0 ⟨expand 42 0 [0, 5] [(.sl 0 0 s1), (.int .i64 x.1)], [(.vec 75 (.rr 4 x.2)), (.var 16 (.ri .i64 del11)), (.var 16 (.ri .i64 del12))], 3, []⟩))
def slices_DeleteFunc_implStepimplStep_impl_StepBetween_f1_ls5 (F : Nat) : LoopS := ⟨42, [0, 1, 5, 6], [], [0, 5], [], [4], [], [], fun vals mem np killed => match vals, mem, np, killed with
  | [(.sl 0 0 s1), (.fn 61 [] [(.ptr 1 0 0 16), (.ptr 2 0 0 16)]), (.int .i64 i8), (.int .i64 j9)], [(.vec 75 (.rr 4 s10)), (.var 16 (.ri .i64 del11)), (.var 16 (.ri .i64 del12))], 3, [] => .br (slices_DeleteFunc_implStepimplStep_impl_StepBetween_f1_l5 F s1 del11 del12 i8 j9 s10).isSome (slices_DeleteFunc_implStepimplStep_impl_StepBetween_f1_o5 s1 del11 del12 ((slices_DeleteFunc_implStepimplStep_impl_StepBetween_f1_l5 F s1 del11 del12 i8 j9 s10).getD default)) .fail
  | _, _, _, _ => .fail⟩
theorem slices_DeleteFunc_implStepimplStep_impl_StepBetween_f1_step5 (F : Nat) (s1 : Nat) (del11 : List Int) (del12 : List Int) (i8 : Int) (j9 : Int) (s10 : List (List Int)) {R : Type} (k : Out → Option R) : stepS tt (slices_DeleteFunc_implStepimplStep_impl_StepBetween_f1_tab F) (slices_DeleteFunc_implStepimplStep_impl_StepBetween_f1_LS0 F) 70 (slices_DeleteFunc_implStepimplStep_impl_StepBetween_f1_ls5 F) (loopAt 5 (bodyOf Try.f60)) (slices_DeleteFunc_implStepimplStep_impl_StepBetween_f1_st5 s1 del11 del12 i8 j9 s10) k = slices_DeleteFunc_implStepimplStep_impl_StepBetween_f1_s5 F s1 del11 del12 R (i8, j9, s10) (fun s => k (.norm (slices_DeleteFunc_implStepimplStep_impl_StepBetween_f1_st5 s1 del11 del12 s.1 s.2.1 s.2.2))) (fun x => (slices_DeleteFunc_implStepimplStep_impl_StepBetween_f1_o5 s1 del11 del12 x).run k) := by kernel_rfl
theorem slices_DeleteFunc_implStepimplStep_impl_StepBetween_f1_iter5 (F : Nat) (s1 : Nat) (del11 : List Int) (del12 : List Int) {R : Type} (k : Out → Option R) : ∀ (n : Nat) (i8 : Int) (j9 : Int) (s10 : List (List Int)), iterS tt (slices_DeleteFunc_implStepimplStep_impl_StepBetween_f1_tab F) (slices_DeleteFunc_implStepimplStep_impl_StepBetween_f1_LS0 F) 70 (slices_DeleteFunc_implStepimplStep_impl_StepBetween_f1_ls5 F) (loopAt 5 (bodyOf Try.f60)) n (slices_DeleteFunc_implStepimplStep_impl_StepBetween_f1_st5 s1 del11 del12 i8 j9 s10) k = loopC (slices_DeleteFunc_implStepimplStep_impl_StepBetween_f1_s5 F s1 del11 del12) n (i8, j9, s10) (fun x => (slices_DeleteFunc_implStepimplStep_impl_StepBetween_f1_o5 s1 del11 del12 x).run k)
  | 0, i8, j9, s10 => rfl
  | n + 1, i8, j9, s10 => (iterS_succ tt (slices_DeleteFunc_implStepimplStep_impl_StepBetween_f1_tab F) (slices_DeleteFunc_implStepimplStep_impl_StepBetween_f1_LS0 F) 70 (slices_DeleteFunc_implStepimplStep_impl_StepBetween_f1_ls5 F) (loopAt 5 (bodyOf Try.f60)) n (slices_DeleteFunc_implStepimplStep_impl_StepBetween_f1_st5 s1 del11 del12 i8 j9 s10) k).trans ((slices_DeleteFunc_implStepimplStep_impl_StepBetween_f1_step5 F s1 del11 del12 i8 j9 s10 (nextK (iterS tt (slices_DeleteFunc_implStepimplStep_impl_StepBetween_f1_tab F) (slices_DeleteFunc_implStepimplStep_impl_StepBetween_f1_LS0 F) 70 (slices_DeleteFunc_implStepimplStep_impl_StepBetween_f1_ls5 F) (loopAt 5 (bodyOf Try.f60)) n) k)).trans (congrArg (fun kn => slices_DeleteFunc_implStepimplStep_impl_StepBetween_f1_s5 F s1 del11 del12 R (i8, j9, s10) kn _) (funext (fun ⟨i8, j9, s10⟩ => slices_DeleteFunc_implStepimplStep_impl_StepBetween_f1_iter5 F s1 del11 del12 k n i8 j9 s10))))
theorem slices_DeleteFunc_implStepimplStep_impl_StepBetween_f1_lok5 (F : Nat) : LoopOK Try.prog (loopAt 5 (bodyOf Try.f60)) (slices_DeleteFunc_implStepimplStep_impl_StepBetween_f1_ls5 F) := by
  refine loopOK_of mixed ttok deep (slices_DeleteFunc_implStepimplStep_impl_StepBetween_f1_tabok F) (loopsOK_at (slices_DeleteFunc_implStepimplStep_impl_StepBetween_f1_lsok0 F) 5) (fuel := 70) fun R vals mem np killed k x h => ?_
  simp only [slices_DeleteFunc_implStepimplStep_impl_StepBetween_f1_ls5] at h
  split at h
  · rename_i s1 i8 j9 s10 del11 del12
    simp only [GT.run] at h
    have hc := (cond_noneL h).1
    replace h := (cond_noneL h).2
    refine ⟨F, (slices_DeleteFunc_implStepimplStep_impl_StepBetween_f1_iter5 F s1 del11 del12 k F i8 j9 s10).trans ((loopC_use (slices_DeleteFunc_implStepimplStep_impl_StepBetween_f1_s5_nat F s1 del11 del12) hc _).trans h)⟩
  · simp only [GT.run] at h
    cases h
noncomputable def slices_DeleteFunc_implStepimplStep_impl_StepBetween_f1_LS1 (F : Nat) : LT := (5, slices_DeleteFunc_implStepimplStep_impl_StepBetween_f1_ls5 F) :: slices_DeleteFunc_implStepimplStep_impl_StepBetween_f1_LS0 F
theorem slices_DeleteFunc_implStepimplStep_impl_StepBetween_f1_lsok1 (F : Nat) : LoopsOK Try.prog (slices_DeleteFunc_implStepimplStep_impl_StepBetween_f1_LS1 F) (bodyOf Try.f60) := loopsOK_cons slices_DeleteFunc_implStepimplStep_impl_StepBetween_f1_keys (slices_DeleteFunc_implStepimplStep_impl_StepBetween_f1_lok5 F) (slices_DeleteFunc_implStepimplStep_impl_StepBetween_f1_lsok0 F)
theorem slices_DeleteFunc_implStepimplStep_impl_StepBetween_f1_run (F : Nat) (s8 : List (List Int)) (del9 : List Int) (del10 : List Int) : runS tt (slices_DeleteFunc_implStepimplStep_impl_StepBetween_f1_tab F) (slices_DeleteFunc_implStepimplStep_impl_StepBetween_f1_LS1 F) [] [] Try.f60 (bodyOf Try.f60) 70 [(.sl 0 0 (List.length s8)), (.fn 61 [] [(.ptr 1 0 0 16), (.ptr 2 0 0 16)])] [(.vec 75 (.rr 4 s8)), (.var 16 (.ri .i64 del9)), (.var 16 (.ri .i64 del10))] = slices_DeleteFunc_implStepimplStep_impl_StepBetween_f1_c _ F s8 del9 del10 (fun r => some ⟨(.sl 0 0 r.1), [(.vec 75 (.rr 4 r.2)), (.var 16 (.ri .i64 del9)), (.var 16 (.ri .i64 del10))], []⟩) := by kernel_rfl
def slices_DeleteFunc_implStepimplStep_impl_StepBetween_f1_ent (F : Nat) : Ent := ⟨[true], .loud, fun args mem => match args, mem with
  | [(.sl 0 0 q_s1), (.fn 61 [] [(.ptr 1 0 0 16), (.ptr 2 0 0 16)])], [(.vec 75 (.rr 4 s8)), (.var 16 (.ri .i64 del9)), (.var 16 (.ri .i64 del10))] => some (((Nat.beq q_s1 (List.length s8)) && (slices_DeleteFunc_implStepimplStep_impl_StepBetween_f1_p F s8 del9 del10).isSome), ⟨(.sl 0 0 ((slices_DeleteFunc_implStepimplStep_impl_StepBetween_f1_p F s8 del9 del10).getD default).1), [(.vec 75 (.rr 4 ((slices_DeleteFunc_implStepimplStep_impl_StepBetween_f1_p F s8 del9 del10).getD default).2)), (.var 16 (.ri .i64 del9)), (.var 16 (.ri .i64 del10))], []⟩)
  | _, _ => none⟩
theorem slices_DeleteFunc_implStepimplStep_impl_StepBetween_f1_fok : FunOK Try.prog 60 := funOK Try.func60 (by kernel_rfl) rfl
theorem slices_DeleteFunc_implStepimplStep_impl_StepBetween_f1_meets (F : Nat) : Meets Try.prog 60 (slices_DeleteFunc_implStepimplStep_impl_StepBetween_f1_ent F) := by
  refine meets_of_runS mixed ttok deep (slices_DeleteFunc_implStepimplStep_impl_StepBetween_f1_tabok F) Try.func60 (body_some rfl) (slices_DeleteFunc_implStepimplStep_impl_StepBetween_f1_lsok1 F) fun args mem hfit ret h => ?_
  clear hfit
  simp only [slices_DeleteFunc_implStepimplStep_impl_StepBetween_f1_ent] at h
  split at h
  · rename_i q_s1 s8 del9 del10
    simp only [Option.some.injEq, Prod.mk.injEq] at h
    obtain ⟨hc, rfl⟩ := h
    have hg := (and_split hc).1
    replace hc := (and_split hc).2
    obtain rfl := nbeq_nat hg
    exact ⟨[], [], 70, _, (slices_DeleteFunc_implStepimplStep_impl_StepBetween_f1_run F s8 del9 del10).trans ((slices_DeleteFunc_implStepimplStep_impl_StepBetween_f1_cp _ F s8 del9 del10 _).trans (bind_use hc _)), rfl, rfl, rfl⟩
  · cases h

/-! loop.example/g01194/impl.StepBetween -/
noncomputable def impl_StepBetween_tab (F : Nat) : Tab := [(40, (impl_IsBoard_ent F)), (57, (impl_Board_allSteps_ent F)), (60, (slices_DeleteFunc_implStepimplStep_impl_StepBetween_f1_ent F))]
theorem impl_StepBetween_tabok (F : Nat) : TabOK Try.prog (impl_StepBetween_tab F) := (tab_cons (impl_IsBoard_meets F) impl_IsBoard_fok (tab_cons (impl_Board_allSteps_meets F) impl_Board_allSteps_fok (tab_cons (slices_DeleteFunc_implStepimplStep_impl_StepBetween_f1_meets F) slices_DeleteFunc_implStepimplStep_impl_StepBetween_f1_fok tab_nil)))
noncomputable def impl_StepBetween_LS0 (F : Nat) : LT := []
theorem impl_StepBetween_lsok0 (F : Nat) : LoopsOK Try.prog (impl_StepBetween_LS0 F) (bodyOf Try.f24) := loopsOK_nil
theorem impl_StepBetween_run (F : Nat) (a0 : List Int) (b1 : List Int) : runS tt (impl_StepBetween_tab F) (impl_StepBetween_LS0 F) [⟨4, 75, (.rr 4 ([] : List (List Int)))⟩] [] Try.f24 (bodyOf Try.f24) 70 [(.ints 16 a0), (.ints 16 b1)] [] = impl_StepBetween_c _ F a0 b1 (fun r => some ⟨(.tup [(.sl 0 0 r.1), (.bool r.2.1)]), [(.vec 75 (.rr 4 r.2.2))], []⟩) := by kernel_rfl
def impl_StepBetween_ent (F : Nat) : Ent := ⟨[], .fresh, fun args mem => match args, mem with
  | [(.ints 16 a0), (.ints 16 b1)], [] => some ((impl_StepBetween_p F a0 b1).isSome, ⟨(.tup [(.sl 0 0 ((impl_StepBetween_p F a0 b1).getD default).1), (.bool ((impl_StepBetween_p F a0 b1).getD default).2.1)]), [(.vec 75 (.rr 4 ((impl_StepBetween_p F a0 b1).getD default).2.2))], []⟩)
  | _, _ => none⟩
theorem impl_StepBetween_fok : FunOK Try.prog 24 := funOK Try.func24 (by kernel_rfl) rfl
theorem impl_StepBetween_meets (F : Nat) : Meets Try.prog 24 (impl_StepBetween_ent F) := by
  refine meets_of_runS mixed ttok deep (impl_StepBetween_tabok F) Try.func24 (body_some rfl) (impl_StepBetween_lsok0 F) fun args mem hfit ret h => ?_
  clear hfit
  simp only [impl_StepBetween_ent] at h
  split at h
  · rename_i a0 b1
    simp only [Option.some.injEq, Prod.mk.injEq] at h
    obtain ⟨hc, rfl⟩ := h
    exact ⟨[⟨4, 75, (.rr 4 ([] : List (List Int)))⟩], [], 70, _, (impl_StepBetween_run F a0 b1).trans ((impl_StepBetween_cp _ F a0 b1 _).trans (bind_use hc _)), rfl, rfl, rfl⟩
  · cases h

/-! loop.example/g01194/laws.eqStep -/
noncomputable def laws_eqStep_tab (F : Nat) : Tab := [(13, (laws_eqIntA2_ent F))]
theorem laws_eqStep_tabok (F : Nat) : TabOK Try.prog (laws_eqStep_tab F) := (tab_cons (laws_eqIntA2_meets F) laws_eqIntA2_fok tab_nil)
noncomputable def laws_eqStep_LS0 (F : Nat) : LT := []
theorem laws_eqStep_lsok0 (F : Nat) : LoopsOK Try.prog (laws_eqStep_LS0 F) (bodyOf Try.f62) := loopsOK_nil
theorem laws_eqStep_run (F : Nat) (a0 : List Int) (b1 : List Int) : runS tt (laws_eqStep_tab F) (laws_eqStep_LS0 F) [] [] Try.f62 (bodyOf Try.f62) 70 [(.ints 4 a0), (.ints 4 b1)] [] = laws_eqStep_c _ F a0 b1 (fun r => some ⟨(.bool r), [], []⟩) := by kernel_rfl
def laws_eqStep_ent (F : Nat) : Ent := ⟨[], .quiet, fun args mem => match args, mem with
  | [(.ints 4 a0), (.ints 4 b1)], [] => some ((laws_eqStep_p F a0 b1).isSome, ⟨(.bool ((laws_eqStep_p F a0 b1).getD default)), [], []⟩)
  | _, _ => none⟩
theorem laws_eqStep_fok : FunOK Try.prog 62 := funOK Try.func62 (by kernel_rfl) rfl
theorem laws_eqStep_meets (F : Nat) : Meets Try.prog 62 (laws_eqStep_ent F) := by
  refine meets_of_runS mixed ttok deep (laws_eqStep_tabok F) Try.func62 (body_some rfl) (laws_eqStep_lsok0 F) fun args mem hfit ret h => ?_
  clear hfit
  simp only [laws_eqStep_ent] at h
  split at h
  · rename_i a0 b1
    simp only [Option.some.injEq, Prod.mk.injEq] at h
    obtain ⟨hc, rfl⟩ := h
    exact ⟨[], [], 70, _, (laws_eqStep_run F a0 b1).trans ((laws_eqStep_cp _ F a0 b1 _).trans (bind_use hc _)), rfl, rfl, rfl⟩
  · cases h

/-! loop.example/g01194/laws.eqStepS -/
noncomputable def laws_eqStepS_tab (F : Nat) : Tab := [(62, (laws_eqStep_ent F))]
theorem laws_eqStepS_tabok (F : Nat) : TabOK Try.prog (laws_eqStepS_tab F) := (tab_cons (laws_eqStep_meets F) laws_eqStep_fok tab_nil)
noncomputable def laws_eqStepS_LS0 (F : Nat) : LT := []
theorem laws_eqStepS_lsok0 (F : Nat) : LoopsOK Try.prog (laws_eqStepS_LS0 F) (bodyOf Try.f25) := loopsOK_nil
theorem laws_eqStepS_keys : keysOK (bodyOf Try.f25) = true := by kernel_rfl
def laws_eqStepS_st4 (a0 : List (List Int)) (b1 : List (List Int)) (i2 : Int) : St := ⟨expand 27 0 [0, 1, 5] [(.rr 4 a0), (.rr 4 b1), (.int .i64 i2)], [], 0, []⟩
def laws_eqStepS_o4 (a0 : List (List Int)) (b1 : List (List Int)) (x : Bool) : GT := (.br x (.out (.ret ⟨expand 27 0 [4] [(.bool false)], [], 0, []⟩)) (.out (.exit 0 ⟨expand 27 0 [] [], [], 0, []⟩)))
def laws_eqStepS_ls4 (F : Nat) : LoopS := ⟨27, [0, 1, 5], [], [], [], [4], [], [], fun vals mem np killed => match vals, mem, np, killed with
  | [(.rr 4 a0), (.rr 4 b1), (.int .i64 i2)], [], 0, [] => .br (laws_eqStepS_l4 F a0 b1 i2).isSome (laws_eqStepS_o4 a0 b1 ((laws_eqStepS_l4 F a0 b1 i2).getD default)) .fail
  | _, _, _, _ => .fail⟩
theorem laws_eqStepS_step4 (F : Nat) (a0 : List (List Int)) (b1 : List (List Int)) (i2 : Int) {R : Type} (k : Out → Option R) : stepS tt (laws_eqStepS_tab F) (laws_eqStepS_LS0 F) 70 (laws_eqStepS_ls4 F) (loopAt 4 (bodyOf Try.f25)) (laws_eqStepS_st4 a0 b1 i2) k = laws_eqStepS_s4 F a0 b1 R i2 (fun s => k (.norm (laws_eqStepS_st4 a0 b1 s))) (fun x => (laws_eqStepS_o4 a0 b1 x).run k) := by kernel_rfl
theorem laws_eqStepS_iter4 (F : Nat) (a0 : List (List Int)) (b1 : List (List Int)) {R : Type} (k : Out → Option R) : ∀ (n : Nat) (i2 : Int), iterS tt (laws_eqStepS_tab F) (laws_eqStepS_LS0 F) 70 (laws_eqStepS_ls4 F) (loopAt 4 (bodyOf Try.f25)) n (laws_eqStepS_st4 a0 b1 i2) k = loopC (laws_eqStepS_s4 F a0 b1) n i2 (fun x => (laws_eqStepS_o4 a0 b1 x).run k)
  | 0, i2 => rfl
  | n + 1, i2 => (iterS_succ tt (laws_eqStepS_tab F) (laws_eqStepS_LS0 F) 70 (laws_eqStepS_ls4 F) (loopAt 4 (bodyOf Try.f25)) n (laws_eqStepS_st4 a0 b1 i2) k).trans ((laws_eqStepS_step4 F a0 b1 i2 (nextK (iterS tt (laws_eqStepS_tab F) (laws_eqStepS_LS0 F) 70 (laws_eqStepS_ls4 F) (loopAt 4 (bodyOf Try.f25)) n) k)).trans (congrArg (fun kn => laws_eqStepS_s4 F a0 b1 R i2 kn _) (funext (fun i2 => laws_eqStepS_iter4 F a0 b1 k n i2))))
theorem laws_eqStepS_lok4 (F : Nat) : LoopOK Try.prog (loopAt 4 (bodyOf Try.f25)) (laws_eqStepS_ls4 F) := by
  refine loopOK_of mixed ttok deep (laws_eqStepS_tabok F) (loopsOK_at (laws_eqStepS_lsok0 F) 4) (fuel := 70) fun R vals mem np killed k x h => ?_
  simp only [laws_eqStepS_ls4] at h
  split at h
  · rename_i a0 b1 i2
    simp only [GT.run] at h
    have hc := (cond_noneL h).1
    replace h := (cond_noneL h).2
    refine ⟨F, (laws_eqStepS_iter4 F a0 b1 k F i2).trans ((loopC_use (laws_eqStepS_s4_nat F a0 b1) hc _).trans h)⟩
  · simp only [GT.run] at h
    cases h
noncomputable def laws_eqStepS_LS1 (F : Nat) : LT := (4, laws_eqStepS_ls4 F) :: laws_eqStepS_LS0 F
theorem laws_eqStepS_lsok1 (F : Nat) : LoopsOK Try.prog (laws_eqStepS_LS1 F) (bodyOf Try.f25) := loopsOK_cons laws_eqStepS_keys (laws_eqStepS_lok4 F) (laws_eqStepS_lsok0 F)
theorem laws_eqStepS_run (F : Nat) (a0 : List (List Int)) (b1 : List (List Int)) : runS tt (laws_eqStepS_tab F) (laws_eqStepS_LS1 F) [] [] Try.f25 (bodyOf Try.f25) 70 [(.rr 4 a0), (.rr 4 b1)] [] = laws_eqStepS_c _ F a0 b1 (fun r => some ⟨(.bool r), [], []⟩) := by kernel_rfl
def laws_eqStepS_ent (F : Nat) : Ent := ⟨[], .quiet, fun args mem => match args, mem with
  | [(.rr 4 a0), (.rr 4 b1)], [] => some ((laws_eqStepS_p F a0 b1).isSome, ⟨(.bool ((laws_eqStepS_p F a0 b1).getD default)), [], []⟩)
  | _, _ => none⟩
theorem laws_eqStepS_fok : FunOK Try.prog 25 := funOK Try.func25 (by kernel_rfl) rfl
theorem laws_eqStepS_meets (F : Nat) : Meets Try.prog 25 (laws_eqStepS_ent F) := by
  refine meets_of_runS mixed ttok deep (laws_eqStepS_tabok F) Try.func25 (body_some rfl) (laws_eqStepS_lsok1 F) fun args mem hfit ret h => ?_
  clear hfit
  simp only [laws_eqStepS_ent] at h
  split at h
  · rename_i a0 b1
    simp only [Option.some.injEq, Prod.mk.injEq] at h
    obtain ⟨hc, rfl⟩ := h
    exact ⟨[], [], 70, _, (laws_eqStepS_run F a0 b1).trans ((laws_eqStepS_cp _ F a0 b1 _).trans (bind_use hc _)), rfl, rfl, rfl⟩
  · cases h

/-! loop.example/g01194/laws.markStepS -/
noncomputable def laws_markStepS_tab (F : Nat) : Tab := []
theorem laws_markStepS_tabok (F : Nat) : TabOK Try.prog (laws_markStepS_tab F) := tab_nil
noncomputable def laws_markStepS_LS0 (F : Nat) : LT := []
theorem laws_markStepS_lsok0 (F : Nat) : LoopsOK Try.prog (laws_markStepS_LS0 F) (bodyOf Try.f26) := loopsOK_nil
theorem laws_markStepS_keys : keysOK (bodyOf Try.f26) = true := by kernel_rfl
def laws_markStepS_st7 (a1 : Nat) (i3 : Int) (k2 : Int) (j4 : Int) (a5 : List (List Int)) : St := ⟨expand 41 0 [0, 1, 5, 6] [(.sl 0 0 a1), (.int .i64 k2), (.int .i64 i3), (.int .i64 j4)], [(.vec 75 (.rr 4 a5))], 1, []⟩
def laws_markStepS_o7 (a1 : Nat) (i3 : Int) (x : Int × List (List Int)) : GT := (.out (.exit 2 ⟨expand 41 0 [0, 1, 5] [(.sl 0 0 a1), (.int .i64 x.1), (.int .i64 i3)], [(.vec 75 (.rr 4 x.2))], 1, []⟩))
def laws_markStepS_ls7 (F : Nat) : LoopS := ⟨41, [0, 1, 5, 6], [], [0, 1, 5], [], [4], [], [], fun vals mem np killed => match vals, mem, np, killed with
  | [(.sl 0 0 a1), (.int .i64 k2), (.int .i64 i3), (.int .i64 j4)], [(.vec 75 (.rr 4 a5))], 1, [] => .br (laws_markStepS_l7 F a1 i3 k2 j4 a5).isSome (laws_markStepS_o7 a1 i3 ((laws_markStepS_l7 F a1 i3 k2 j4 a5).getD default)) .fail
  | _, _, _, _ => .fail⟩
theorem laws_markStepS_step7 (F : Nat) (a1 : Nat) (i3 : Int) (k2 : Int) (j4 : Int) (a5 : List (List Int)) {R : Type} (k : Out → Option R) : stepS tt (laws_markStepS_tab F) (laws_markStepS_LS0 F) 70 (laws_markStepS_ls7 F) (loopAt 7 (bodyOf Try.f26)) (laws_markStepS_st7 a1 i3 k2 j4 a5) k = laws_markStepS_s7 F a1 i3 R (k2, j4, a5) (fun s => k (.norm (laws_markStepS_st7 a1 i3 s.1 s.2.1 s.2.2))) (fun x => (laws_markStepS_o7 a1 i3 x).run k) := by kernel_rfl
theorem laws_markStepS_iter7 (F : Nat) (a1 : Nat) (i3 : Int) {R : Type} (k : Out → Option R) : ∀ (n : Nat) (k2 : Int) (j4 : Int) (a5 : List (List Int)), iterS tt (laws_markStepS_tab F) (laws_markStepS_LS0 F) 70 (laws_markStepS_ls7 F) (loopAt 7 (bodyOf Try.f26)) n (laws_markStepS_st7 a1 i3 k2 j4 a5) k = loopC (laws_markStepS_s7 F a1 i3) n (k2, j4, a5) (fun x => (laws_markStepS_o7 a1 i3 x).run k)
  | 0, k2, j4, a5 => rfl
  | n + 1, k2, j4, a5 => (iterS_succ tt (laws_markStepS_tab F) (laws_markStepS_LS0 F) 70 (laws_markStepS_ls7 F) (loopAt 7 (bodyOf Try.f26)) n (laws_markStepS_st7 a1 i3 k2 j4 a5) k).trans ((laws_markStepS_step7 F a1 i3 k2 j4 a5 (nextK (iterS tt (laws_markStepS_tab F) (laws_markStepS_LS0 F) 70 (laws_markStepS_ls7 F) (loopAt 7 (bodyOf Try.f26)) n) k)).trans (congrArg (fun kn => laws_markStepS_s7 F a1 i3 R (k2, j4, a5) kn _) (funext (fun ⟨k2, j4, a5⟩ => laws_markStepS_iter7 F a1 i3 k n k2 j4 a5))))
theorem laws_markStepS_lok7 (F : Nat) : LoopOK Try.prog (loopAt 7 (bodyOf Try.f26)) (laws_markStepS_ls7 F) := by
  refine loopOK_of mixed ttok deep (laws_markStepS_tabok F) (loopsOK_at (laws_markStepS_lsok0 F) 7) (fuel := 70) fun R vals mem np killed k x h => ?_
  simp only [laws_markStepS_ls7] at h
  split at h
  · rename_i a1 k2 i3 j4 a5
    simp only [GT.run] at h
    have hc := (cond_noneL h).1
    replace h := (cond_noneL h).2
    refine ⟨F, (laws_markStepS_iter7 F a1 i3 k F k2 j4 a5).trans ((loopC_use (laws_markStepS_s7_nat F a1 i3) hc _).trans h)⟩
  · simp only [GT.run] at h
    cases h
noncomputable def laws_markStepS_LS1 (F : Nat) : LT := (7, laws_markStepS_ls7 F) :: laws_markStepS_LS0 F
theorem laws_markStepS_lsok1 (F : Nat) : LoopsOK Try.prog (laws_markStepS_LS1 F) (bodyOf Try.f26) := loopsOK_cons laws_markStepS_keys (laws_markStepS_lok7 F) (laws_markStepS_lsok0 F)
def laws_markStepS_st2 (a1 : Nat) (k2 : Int) (i3 : Int) (a4 : List (List Int)) : St := ⟨expand 41 0 [0, 1, 5] [(.sl 0 0 a1), (.int .i64 k2), (.int .i64 i3)], [(.vec 75 (.rr 4 a4))], 1, []⟩
def laws_markStepS_o2 (a1 : Nat) (x : Int × List (List Int)) : GT := (.out (.exit 0 ⟨expand 41 0 [1] [(.int .i64 x.1)], [(.vec 75 (.rr 4 x.2))], 1, []⟩))
def laws_markStepS_ls2 (F : Nat) : LoopS := ⟨41, [0, 1, 5], [], [1], [], [4], [], [], fun vals mem np killed => match vals, mem, np, killed with
  | [(.sl 0 0 a1), (.int .i64 k2), (.int .i64 i3)], [(.vec 75 (.rr 4 a4))], 1, [] => .br (laws_markStepS_l2 F a1 k2 i3 a4).isSome (laws_markStepS_o2 a1 ((laws_markStepS_l2 F a1 k2 i3 a4).getD default)) .fail
  | _, _, _, _ => .fail⟩
theorem laws_markStepS_step2 (F : Nat) (a1 : Nat) (k2 : Int) (i3 : Int) (a4 : List (List Int)) {R : Type} (k : Out → Option R) : stepS tt (laws_markStepS_tab F) (laws_markStepS_LS1 F) 70 (laws_markStepS_ls2 F) (loopAt 2 (bodyOf Try.f26)) (laws_markStepS_st2 a1 k2 i3 a4) k = laws_markStepS_s2 F a1 R (k2, i3, a4) (fun s => k (.norm (laws_markStepS_st2 a1 s.1 s.2.1 s.2.2))) (fun x => (laws_markStepS_o2 a1 x).run k) := by kernel_rfl
theorem laws_markStepS_iter2 (F : Nat) (a1 : Nat) {R : Type} (k : Out → Option R) : ∀ (n : Nat) (k2 : Int) (i3 : Int) (a4 : List (List Int)), iterS tt (laws_markStepS_tab F) (laws_markStepS_LS1 F) 70 (laws_markStepS_ls2 F) (loopAt 2 (bodyOf Try.f26)) n (laws_markStepS_st2 a1 k2 i3 a4) k = loopC (laws_markStepS_s2 F a1) n (k2, i3, a4) (fun x => (laws_markStepS_o2 a1 x).run k)
  | 0, k2, i3, a4 => rfl
  | n + 1, k2, i3, a4 => (iterS_succ tt (laws_markStepS_tab F) (laws_markStepS_LS1 F) 70 (laws_markStepS_ls2 F) (loopAt 2 (bodyOf Try.f26)) n (laws_markStepS_st2 a1 k2 i3 a4) k).trans ((laws_markStepS_step2 F a1 k2 i3 a4 (nextK (iterS tt (laws_markStepS_tab F) (laws_markStepS_LS1 F) 70 (laws_markStepS_ls2 F) (loopAt 2 (bodyOf Try.f26)) n) k)).trans (congrArg (fun kn => laws_markStepS_s2 F a1 R (k2, i3, a4) kn _) (funext (fun ⟨k2, i3, a4⟩ => laws_markStepS_iter2 F a1 k n k2 i3 a4))))
theorem laws_markStepS_lok2 (F : Nat) : LoopOK Try.prog (loopAt 2 (bodyOf Try.f26)) (laws_markStepS_ls2 F) := by
  refine loopOK_of mixed ttok deep (laws_markStepS_tabok F) (loopsOK_at (laws_markStepS_lsok1 F) 2) (fuel := 70) fun R vals mem np killed k x h => ?_
  simp only [laws_markStepS_ls2] at h
  split at h
  · rename_i a1 k2 i3 a4
    simp only [GT.run] at h
    have hc := (cond_noneL h).1
    replace h := (cond_noneL h).2
    refine ⟨F, (laws_markStepS_iter2 F a1 k F k2 i3 a4).trans ((loopC_use (laws_markStepS_s2_nat F a1) hc _).trans h)⟩
  · simp only [GT.run] at h
    cases h
noncomputable def laws_markStepS_LS2 (F : Nat) : LT := (2, laws_markStepS_ls2 F) :: laws_markStepS_LS1 F
theorem laws_markStepS_lsok2 (F : Nat) : LoopsOK Try.prog (laws_markStepS_LS2 F) (bodyOf Try.f26) := loopsOK_cons laws_markStepS_keys (laws_markStepS_lok2 F) (laws_markStepS_lsok1 F)
theorem laws_markStepS_run (F : Nat) (a1 : Nat) (k2 : Int) (a3 : List (List Int)) : runS tt (laws_markStepS_tab F) (laws_markStepS_LS2 F) [] [] Try.f26 (bodyOf Try.f26) 70 [(.sl 0 0 a1), (.int .i64 k2)] [(.vec 75 (.rr 4 a3))] = laws_markStepS_c _ F a1 k2 a3 (fun r => some ⟨(.int .i64 r.1), [(.vec 75 (.rr 4 r.2))], []⟩) := by kernel_rfl
def laws_markStepS_ent (F : Nat) : Ent := ⟨[true], .loud, fun args mem => match args, mem with
  | [(.sl 0 0 a1), (.int .i64 k2)], [(.vec 75 (.rr 4 a3))] => some ((laws_markStepS_p F a1 k2 a3).isSome, ⟨(.int .i64 ((laws_markStepS_p F a1 k2 a3).getD default).1), [(.vec 75 (.rr 4 ((laws_markStepS_p F a1 k2 a3).getD default).2))], []⟩)
  | _, _ => none⟩
theorem laws_markStepS_fok : FunOK Try.prog 26 := funOK Try.func26 (by kernel_rfl) rfl
theorem laws_markStepS_meets (F : Nat) : Meets Try.prog 26 (laws_markStepS_ent F) := by
  refine meets_of_runS mixed ttok deep (laws_markStepS_tabok F) Try.func26 (body_some rfl) (laws_markStepS_lsok2 F) fun args mem hfit ret h => ?_
  clear hfit
  simp only [laws_markStepS_ent] at h
  split at h
  · rename_i a1 k2 a3
    simp only [Option.some.injEq, Prod.mk.injEq] at h
    obtain ⟨hc, rfl⟩ := h
    exact ⟨[], [], 70, _, (laws_markStepS_run F a1 k2 a3).trans ((laws_markStepS_cp _ F a1 k2 a3 _).trans (bind_use hc _)), rfl, rfl, rfl⟩
  · cases h
end Go.Proofs.Ytgpadaadcepgaaa
