/-
Pure functions and what the code of them does, by program; without conditions.
-/
import Derived.Test.YtplclbkelohajaaTFP4
import Derived.Test.YtplclbkelohajaaTFS3
namespace Go.Proofs.Ytplclbkelohajaa
open Go Go.Lv Go.Lv.P Go.Proofs
set_option linter.unusedVariables false
set_option linter.unusedSimpArgs false
set_option maxRecDepth 100000
/-! loop.example/g01194/spec.l5Steps -/
noncomputable def spec_l5Steps_tab (F : Nat) : Tab := [(52, (spec_l2Slide_ent F)), (26, (spec_l2Empty_ent F))]
theorem spec_l5Steps_tabok (F : Nat) : TabOK Try.prog (spec_l5Steps_tab F) := (tab_cons (spec_l2Slide_meets F) spec_l2Slide_fok (tab_cons (spec_l2Empty_meets F) spec_l2Empty_fok tab_nil))
noncomputable def spec_l5Steps_LS0 (F : Nat) : LT := []
theorem spec_l5Steps_lsok0 (F : Nat) : LoopsOK Try.prog (spec_l5Steps_LS0 F) (bodyOf Try.f42) := loopsOK_nil
theorem spec_l5Steps_keys : keysOK (bodyOf Try.f42) = true := by kernel_rfl
def spec_l5Steps_st7 (d0 : Int) (empty7 : List (List Int)) (i5 : Int) (out6 : List (List Int)) : St := ⟨expand 45 0 [1, 5, 8, 9] [(.int .i64 d0), (.sl 0 0 (List.length out6)), (.sl 1 0 (List.length empty7)), (.int .i64 i5)], [(.vec 38 (.rr 4 out6)), (.vec 33 (.rr 2 empty7))], 0, []⟩
def spec_l5Steps_o7 (d0 : Int) (empty7 : List (List Int)) (x : List (List Int)) : GT := (.out (.exit 0 ⟨expand 45 0 [5] [(.sl 0 0 (List.length x))], [(.vec 38 (.rr 4 x))], 0, []⟩))
def spec_l5Steps_ls7 (F : Nat) : LoopS := ⟨45, [1, 5, 8, 9], [], [5], [], [4], [], [], fun vals mem np killed => match vals, mem, np, killed with
  | [(.int .i64 d0), (.sl 0 0 q_out2), (.sl 1 0 q_empty4), (.int .i64 i5)], [(.vec 38 (.rr 4 out6)), (.vec 33 (.rr 2 empty7))], 0, [] => .br ((Nat.beq q_out2 (List.length out6)) && ((Nat.beq q_empty4 (List.length empty7)) && (spec_l5Steps_l7 F d0 empty7 i5 out6).isSome)) (spec_l5Steps_o7 d0 empty7 ((spec_l5Steps_l7 F d0 empty7 i5 out6).getD default)) .fail
  | _, _, _, _ => .fail⟩
theorem spec_l5Steps_step7 (F : Nat) (d0 : Int) (empty7 : List (List Int)) (i5 : Int) (out6 : List (List Int)) {R : Type} (k : Out → Option R) : stepS tt (spec_l5Steps_tab F) (spec_l5Steps_LS0 F) 70 (spec_l5Steps_ls7 F) (loopAt 7 (bodyOf Try.f42)) (spec_l5Steps_st7 d0 empty7 i5 out6) k = spec_l5Steps_s7 F d0 empty7 R (i5, out6) (fun s => k (.norm (spec_l5Steps_st7 d0 empty7 s.1 s.2))) (fun x => (spec_l5Steps_o7 d0 empty7 x).run k) := by kernel_rfl
theorem spec_l5Steps_iter7 (F : Nat) (d0 : Int) (empty7 : List (List Int)) {R : Type} (k : Out → Option R) : ∀ (n : Nat) (i5 : Int) (out6 : List (List Int)), iterS tt (spec_l5Steps_tab F) (spec_l5Steps_LS0 F) 70 (spec_l5Steps_ls7 F) (loopAt 7 (bodyOf Try.f42)) n (spec_l5Steps_st7 d0 empty7 i5 out6) k = loopC (spec_l5Steps_s7 F d0 empty7) n (i5, out6) (fun x => (spec_l5Steps_o7 d0 empty7 x).run k)
  | 0, i5, out6 => rfl
  | n + 1, i5, out6 => (iterS_succ tt (spec_l5Steps_tab F) (spec_l5Steps_LS0 F) 70 (spec_l5Steps_ls7 F) (loopAt 7 (bodyOf Try.f42)) n (spec_l5Steps_st7 d0 empty7 i5 out6) k).trans ((spec_l5Steps_step7 F d0 empty7 i5 out6 (nextK (iterS tt (spec_l5Steps_tab F) (spec_l5Steps_LS0 F) 70 (spec_l5Steps_ls7 F) (loopAt 7 (bodyOf Try.f42)) n) k)).trans (congrArg (fun kn => spec_l5Steps_s7 F d0 empty7 R (i5, out6) kn _) (funext (fun ⟨i5, out6⟩ => spec_l5Steps_iter7 F d0 empty7 k n i5 out6))))
theorem spec_l5Steps_lok7 (F : Nat) : LoopOK Try.prog (loopAt 7 (bodyOf Try.f42)) (spec_l5Steps_ls7 F) := by
  refine loopOK_of mixed ttok deep (spec_l5Steps_tabok F) (loopsOK_at (spec_l5Steps_lsok0 F) 7) (fuel := 70) fun R vals mem np killed k x h => ?_
  simp only [spec_l5Steps_ls7] at h
  split at h
  · rename_i d0 q_out2 q_empty4 i5 out6 empty7
    simp only [GT.run] at h
    have hc := (cond_noneL h).1
    replace h := (cond_noneL h).2
    have hg := (and_split hc).1
    replace hc := (and_split hc).2
    obtain rfl := nbeq_nat hg
    have hg := (and_split hc).1
    replace hc := (and_split hc).2
    obtain rfl := nbeq_nat hg
    refine ⟨F, (spec_l5Steps_iter7 F d0 empty7 k F i5 out6).trans ((loopC_use (spec_l5Steps_s7_nat F d0 empty7) hc _).trans h)⟩
  · simp only [GT.run] at h
    cases h
noncomputable def spec_l5Steps_LS1 (F : Nat) : LT := (7, spec_l5Steps_ls7 F) :: spec_l5Steps_LS0 F
theorem spec_l5Steps_lsok1 (F : Nat) : LoopsOK Try.prog (spec_l5Steps_LS1 F) (bodyOf Try.f42) := loopsOK_cons spec_l5Steps_keys (spec_l5Steps_lok7 F) (spec_l5Steps_lsok0 F)
theorem spec_l5Steps_run (F : Nat) (b0 : List Int) (d1 : Int) : runS tt (spec_l5Steps_tab F) (spec_l5Steps_LS1 F) [] [] Try.f42 (bodyOf Try.f42) 70 [(.ints 16 b0), (.int .i64 d1)] [] = spec_l5Steps_c _ F b0 d1 (fun r => some ⟨(.sl 0 0 (List.length r)), [(.vec 38 (.rr 4 r))], []⟩) := by kernel_rfl
def spec_l5Steps_ent (F : Nat) : Ent := ⟨[], .fresh, fun args mem => match args, mem with
  | [(.ints 16 b0), (.int .i64 d1)], [] => some ((spec_l5Steps_p F b0 d1).isSome, ⟨(.sl 0 0 (List.length ((spec_l5Steps_p F b0 d1).getD default))), [(.vec 38 (.rr 4 ((spec_l5Steps_p F b0 d1).getD default)))], []⟩)
  | _, _ => none⟩
theorem spec_l5Steps_fok : FunOK Try.prog 42 := funOK Try.func42 (by kernel_rfl) rfl
theorem spec_l5Steps_meets (F : Nat) : Meets Try.prog 42 (spec_l5Steps_ent F) := by
  refine meets_of_runS mixed ttok deep (spec_l5Steps_tabok F) Try.func42 (body_some rfl) (spec_l5Steps_lsok1 F) fun args mem hfit ret h => ?_
  clear hfit
  simp only [spec_l5Steps_ent] at h
  split at h
  · rename_i b0 d1
    simp only [Option.some.injEq, Prod.mk.injEq] at h
    obtain ⟨hc, rfl⟩ := h
    exact ⟨[], [], 70, _, (spec_l5Steps_run F b0 d1).trans ((spec_l5Steps_cp _ F b0 d1 _).trans (bind_use hc _)), rfl, rfl, rfl⟩
  · cases h

/-! loop.example/g01194/spec.StepsOf -/
noncomputable def spec_StepsOf_tab (F : Nat) : Tab := [(25, (spec_l2Board_ent F)), (41, (spec_l2Side_ent F)), (42, (spec_l5Steps_ent F))]
theorem spec_StepsOf_tabok (F : Nat) : TabOK Try.prog (spec_StepsOf_tab F) := (tab_cons (spec_l2Board_meets F) spec_l2Board_fok (tab_cons (spec_l2Side_meets F) spec_l2Side_fok (tab_cons (spec_l5Steps_meets F) spec_l5Steps_fok tab_nil)))
noncomputable def spec_StepsOf_LS0 (F : Nat) : LT := []
theorem spec_StepsOf_lsok0 (F : Nat) : LoopsOK Try.prog (spec_StepsOf_LS0 F) (bodyOf Try.f15) := loopsOK_nil
theorem spec_StepsOf_run (F : Nat) (b0 : List Int) (direction1 : Int) : runS tt (spec_StepsOf_tab F) (spec_StepsOf_LS0 F) [] [] Try.f15 (bodyOf Try.f15) 70 [(.ints 16 b0), (.int .i64 direction1)] [] = spec_StepsOf_c _ F b0 direction1 (fun r => some ⟨(.tup [(.sl 0 0 (List.length r.2)), (.bool r.1)]), [(.vec 38 (.rr 4 r.2))], []⟩) := by kernel_rfl
def spec_StepsOf_ent (F : Nat) : Ent := ⟨[], .fresh, fun args mem => match args, mem with
  | [(.ints 16 b0), (.int .i64 direction1)], [] => some ((spec_StepsOf_p F b0 direction1).isSome, ⟨(.tup [(.sl 0 0 (List.length ((spec_StepsOf_p F b0 direction1).getD default).2)), (.bool ((spec_StepsOf_p F b0 direction1).getD default).1)]), [(.vec 38 (.rr 4 ((spec_StepsOf_p F b0 direction1).getD default).2))], []⟩)
  | _, _ => none⟩
theorem spec_StepsOf_fok : FunOK Try.prog 15 := funOK Try.func15 (by kernel_rfl) rfl
theorem spec_StepsOf_meets (F : Nat) : Meets Try.prog 15 (spec_StepsOf_ent F) := by
  refine meets_of_runS mixed ttok deep (spec_StepsOf_tabok F) Try.func15 (body_some rfl) (spec_StepsOf_lsok0 F) fun args mem hfit ret h => ?_
  clear hfit
  simp only [spec_StepsOf_ent] at h
  split at h
  · rename_i b0 direction1
    simp only [Option.some.injEq, Prod.mk.injEq] at h
    obtain ⟨hc, rfl⟩ := h
    exact ⟨[], [], 70, _, (spec_StepsOf_run F b0 direction1).trans ((spec_StepsOf_cp _ F b0 direction1 _).trans (bind_use hc _)), rfl, rfl, rfl⟩
  · cases h

/-! loop.example/g01194/impl.StepsOf -/
noncomputable def impl_StepsOf_tab (F : Nat) : Tab := [(31, (impl_IsBoard_ent F)), (43, (impl_isDirection_ent F)), (44, (impl_Board_steps_ent F))]
theorem impl_StepsOf_tabok (F : Nat) : TabOK Try.prog (impl_StepsOf_tab F) := (tab_cons (impl_IsBoard_meets F) impl_IsBoard_fok (tab_cons (impl_isDirection_meets F) impl_isDirection_fok (tab_cons (impl_Board_steps_meets F) impl_Board_steps_fok tab_nil)))
noncomputable def impl_StepsOf_LS0 (F : Nat) : LT := []
theorem impl_StepsOf_lsok0 (F : Nat) : LoopsOK Try.prog (impl_StepsOf_LS0 F) (bodyOf Try.f16) := loopsOK_nil
theorem impl_StepsOf_run (F : Nat) (b0 : List Int) (direction1 : Int) : runS tt (impl_StepsOf_tab F) (impl_StepsOf_LS0 F) [⟨4, 38, (.rr 4 ([] : List (List Int)))⟩] [] Try.f16 (bodyOf Try.f16) 70 [(.ints 16 b0), (.int .i64 direction1)] [] = impl_StepsOf_c _ F b0 direction1 (fun r => some ⟨(.tup [(.sl 0 0 (List.length r.2)), (.bool r.1)]), [(.vec 38 (.rr 4 r.2))], []⟩) := by kernel_rfl
def impl_StepsOf_ent (F : Nat) : Ent := ⟨[], .fresh, fun args mem => match args, mem with
  | [(.ints 16 b0), (.int .i64 direction1)], [] => some ((impl_StepsOf_p F b0 direction1).isSome, ⟨(.tup [(.sl 0 0 (List.length ((impl_StepsOf_p F b0 direction1).getD default).2)), (.bool ((impl_StepsOf_p F b0 direction1).getD default).1)]), [(.vec 38 (.rr 4 ((impl_StepsOf_p F b0 direction1).getD default).2))], []⟩)
  | _, _ => none⟩
theorem impl_StepsOf_fok : FunOK Try.prog 16 := funOK Try.func16 (by kernel_rfl) rfl
theorem impl_StepsOf_meets (F : Nat) : Meets Try.prog 16 (impl_StepsOf_ent F) := by
  refine meets_of_runS mixed ttok deep (impl_StepsOf_tabok F) Try.func16 (body_some rfl) (impl_StepsOf_lsok0 F) fun args mem hfit ret h => ?_
  clear hfit
  simp only [impl_StepsOf_ent] at h
  split at h
  · rename_i b0 direction1
    simp only [Option.some.injEq, Prod.mk.injEq] at h
    obtain ⟨hc, rfl⟩ := h
    exact ⟨[⟨4, 38, (.rr 4 ([] : List (List Int)))⟩], [], 70, _, (impl_StepsOf_run F b0 direction1).trans ((impl_StepsOf_cp _ F b0 direction1 _).trans (bind_use hc _)), rfl, rfl, rfl⟩
  · cases h

/-! loop.example/g01194/laws.eqIntA2 -/
noncomputable def laws_eqIntA2_tab (F : Nat) : Tab := []
theorem laws_eqIntA2_tabok (F : Nat) : TabOK Try.prog (laws_eqIntA2_tab F) := tab_nil
noncomputable def laws_eqIntA2_LS0 (F : Nat) : LT := []
theorem laws_eqIntA2_lsok0 (F : Nat) : LoopsOK Try.prog (laws_eqIntA2_LS0 F) (bodyOf Try.f70) := loopsOK_nil
theorem laws_eqIntA2_keys : keysOK (bodyOf Try.f70) = true := by kernel_rfl
def laws_eqIntA2_st2 (a7 : List Int) (b8 : List Int) (i6 : Int) : St := ⟨expand 17 0 [2, 3, 5] [(.ptr 0 0 0 2), (.ptr 1 0 0 2), (.int .i64 i6)], [(.var 2 (.ri .i64 a7)), (.var 2 (.ri .i64 b8))], 0, []⟩
def laws_eqIntA2_o2 (a7 : List Int) (b8 : List Int) (x : Bool) : GT := (.br x (.out (.ret ⟨expand 17 0 [4] [(.bool false)], [], 0, []⟩)) (.out (.exit 0 ⟨expand 17 0 [] [], [], 0, []⟩)))
def laws_eqIntA2_ls2 (F : Nat) : LoopS := ⟨17, [2, 3, 5], [], [], [], [4], [], [], fun vals mem np killed => match vals, mem, np, killed with
  | [(.ptr 0 0 0 2), (.ptr 1 0 0 2), (.int .i64 i6)], [(.var 2 (.ri .i64 a7)), (.var 2 (.ri .i64 b8))], 0, [] => .br (laws_eqIntA2_l2 F a7 b8 i6).isSome (laws_eqIntA2_o2 a7 b8 ((laws_eqIntA2_l2 F a7 b8 i6).getD default)) .fail
  | _, _, _, _ => .fail⟩
theorem laws_eqIntA2_step2 (F : Nat) (a7 : List Int) (b8 : List Int) (i6 : Int) {R : Type} (k : Out → Option R) : stepS tt (laws_eqIntA2_tab F) (laws_eqIntA2_LS0 F) 70 (laws_eqIntA2_ls2 F) (loopAt 2 (bodyOf Try.f70)) (laws_eqIntA2_st2 a7 b8 i6) k = laws_eqIntA2_s2 F a7 b8 R i6 (fun s => k (.norm (laws_eqIntA2_st2 a7 b8 s))) (fun x => (laws_eqIntA2_o2 a7 b8 x).run k) := by kernel_rfl
theorem laws_eqIntA2_iter2 (F : Nat) (a7 : List Int) (b8 : List Int) {R : Type} (k : Out → Option R) : ∀ (n : Nat) (i6 : Int), iterS tt (laws_eqIntA2_tab F) (laws_eqIntA2_LS0 F) 70 (laws_eqIntA2_ls2 F) (loopAt 2 (bodyOf Try.f70)) n (laws_eqIntA2_st2 a7 b8 i6) k = loopC (laws_eqIntA2_s2 F a7 b8) n i6 (fun x => (laws_eqIntA2_o2 a7 b8 x).run k)
  | 0, i6 => rfl
  | n + 1, i6 => (iterS_succ tt (laws_eqIntA2_tab F) (laws_eqIntA2_LS0 F) 70 (laws_eqIntA2_ls2 F) (loopAt 2 (bodyOf Try.f70)) n (laws_eqIntA2_st2 a7 b8 i6) k).trans ((laws_eqIntA2_step2 F a7 b8 i6 (nextK (iterS tt (laws_eqIntA2_tab F) (laws_eqIntA2_LS0 F) 70 (laws_eqIntA2_ls2 F) (loopAt 2 (bodyOf Try.f70)) n) k)).trans (congrArg (fun kn => laws_eqIntA2_s2 F a7 b8 R i6 kn _) (funext (fun i6 => laws_eqIntA2_iter2 F a7 b8 k n i6))))
theorem laws_eqIntA2_lok2 (F : Nat) : LoopOK Try.prog (loopAt 2 (bodyOf Try.f70)) (laws_eqIntA2_ls2 F) := by
  refine loopOK_of mixed ttok deep (laws_eqIntA2_tabok F) (loopsOK_at (laws_eqIntA2_lsok0 F) 2) (fuel := 70) fun R vals mem np killed k x h => ?_
  simp only [laws_eqIntA2_ls2] at h
  split at h
  · rename_i i6 a7 b8
    simp only [GT.run] at h
    have hc := (cond_noneL h).1
    replace h := (cond_noneL h).2
    refine ⟨F, (laws_eqIntA2_iter2 F a7 b8 k F i6).trans ((loopC_use (laws_eqIntA2_s2_nat F a7 b8) hc _).trans h)⟩
  · simp only [GT.run] at h
    cases h
noncomputable def laws_eqIntA2_LS1 (F : Nat) : LT := (2, laws_eqIntA2_ls2 F) :: laws_eqIntA2_LS0 F
theorem laws_eqIntA2_lsok1 (F : Nat) : LoopsOK Try.prog (laws_eqIntA2_LS1 F) (bodyOf Try.f70) := loopsOK_cons laws_eqIntA2_keys (laws_eqIntA2_lok2 F) (laws_eqIntA2_lsok0 F)
theorem laws_eqIntA2_run (F : Nat) (a0 : List Int) (b1 : List Int) : runS tt (laws_eqIntA2_tab F) (laws_eqIntA2_LS1 F) [] [] Try.f70 (bodyOf Try.f70) 70 [(.ints 2 a0), (.ints 2 b1)] [] = laws_eqIntA2_c _ F a0 b1 (fun r => some ⟨(.bool r), [], []⟩) := by kernel_rfl
def laws_eqIntA2_ent (F : Nat) : Ent := ⟨[], .quiet, fun args mem => match args, mem with
  | [(.ints 2 a0), (.ints 2 b1)], [] => some ((laws_eqIntA2_p F a0 b1).isSome, ⟨(.bool ((laws_eqIntA2_p F a0 b1).getD default)), [], []⟩)
  | _, _ => none⟩
theorem laws_eqIntA2_fok : FunOK Try.prog 70 := funOK Try.func70 (by kernel_rfl) rfl
theorem laws_eqIntA2_meets (F : Nat) : Meets Try.prog 70 (laws_eqIntA2_ent F) := by
  refine meets_of_runS mixed ttok deep (laws_eqIntA2_tabok F) Try.func70 (body_some rfl) (laws_eqIntA2_lsok1 F) fun args mem hfit ret h => ?_
  clear hfit
  simp only [laws_eqIntA2_ent] at h
  split at h
  · rename_i a0 b1
    simp only [Option.some.injEq, Prod.mk.injEq] at h
    obtain ⟨hc, rfl⟩ := h
    exact ⟨[], [], 70, _, (laws_eqIntA2_run F a0 b1).trans ((laws_eqIntA2_cp _ F a0 b1 _).trans (bind_use hc _)), rfl, rfl, rfl⟩
  · cases h

/-! loop.example/g01194/laws.eqStep -/
noncomputable def laws_eqStep_tab (F : Nat) : Tab := [(70, (laws_eqIntA2_ent F))]
theorem laws_eqStep_tabok (F : Nat) : TabOK Try.prog (laws_eqStep_tab F) := (tab_cons (laws_eqIntA2_meets F) laws_eqIntA2_fok tab_nil)
noncomputable def laws_eqStep_LS0 (F : Nat) : LT := []
theorem laws_eqStep_lsok0 (F : Nat) : LoopsOK Try.prog (laws_eqStep_LS0 F) (bodyOf Try.f45) := loopsOK_nil
theorem laws_eqStep_run (F : Nat) (a0 : List Int) (b1 : List Int) : runS tt (laws_eqStep_tab F) (laws_eqStep_LS0 F) [] [] Try.f45 (bodyOf Try.f45) 70 [(.ints 4 a0), (.ints 4 b1)] [] = laws_eqStep_c _ F a0 b1 (fun r => some ⟨(.bool r), [], []⟩) := by kernel_rfl
def laws_eqStep_ent (F : Nat) : Ent := ⟨[], .quiet, fun args mem => match args, mem with
  | [(.ints 4 a0), (.ints 4 b1)], [] => some ((laws_eqStep_p F a0 b1).isSome, ⟨(.bool ((laws_eqStep_p F a0 b1).getD default)), [], []⟩)
  | _, _ => none⟩
theorem laws_eqStep_fok : FunOK Try.prog 45 := funOK Try.func45 (by kernel_rfl) rfl
theorem laws_eqStep_meets (F : Nat) : Meets Try.prog 45 (laws_eqStep_ent F) := by
  refine meets_of_runS mixed ttok deep (laws_eqStep_tabok F) Try.func45 (body_some rfl) (laws_eqStep_lsok0 F) fun args mem hfit ret h => ?_
  clear hfit
  simp only [laws_eqStep_ent] at h
  split at h
  · rename_i a0 b1
    simp only [Option.some.injEq, Prod.mk.injEq] at h
    obtain ⟨hc, rfl⟩ := h
    exact ⟨[], [], 70, _, (laws_eqStep_run F a0 b1).trans ((laws_eqStep_cp _ F a0 b1 _).trans (bind_use hc _)), rfl, rfl, rfl⟩
  · cases h

/-! loop.example/g01194/laws.eqStepS -/
noncomputable def laws_eqStepS_tab (F : Nat) : Tab := [(45, (laws_eqStep_ent F))]
theorem laws_eqStepS_tabok (F : Nat) : TabOK Try.prog (laws_eqStepS_tab F) := (tab_cons (laws_eqStep_meets F) laws_eqStep_fok tab_nil)
noncomputable def laws_eqStepS_LS0 (F : Nat) : LT := []
theorem laws_eqStepS_lsok0 (F : Nat) : LoopsOK Try.prog (laws_eqStepS_LS0 F) (bodyOf Try.f17) := loopsOK_nil
theorem laws_eqStepS_keys : keysOK (bodyOf Try.f17) = true := by kernel_rfl
def laws_eqStepS_st4 (a0 : List (List Int)) (b1 : List (List Int)) (i2 : Int) : St := ⟨expand 27 0 [0, 1, 5] [(.rr 4 a0), (.rr 4 b1), (.int .i64 i2)], [], 0, []⟩
def laws_eqStepS_o4 (a0 : List (List Int)) (b1 : List (List Int)) (x : Bool) : GT := (.br x (.out (.ret ⟨expand 27 0 [4] [(.bool false)], [], 0, []⟩)) (.out (.exit 0 ⟨expand 27 0 [] [], [], 0, []⟩)))
def laws_eqStepS_ls4 (F : Nat) : LoopS := ⟨27, [0, 1, 5], [], [], [], [4], [], [], fun vals mem np killed => match vals, mem, np, killed with
  | [(.rr 4 a0), (.rr 4 b1), (.int .i64 i2)], [], 0, [] => .br (laws_eqStepS_l4 F a0 b1 i2).isSome (laws_eqStepS_o4 a0 b1 ((laws_eqStepS_l4 F a0 b1 i2).getD default)) .fail
  | _, _, _, _ => .fail⟩
theorem laws_eqStepS_step4 (F : Nat) (a0 : List (List Int)) (b1 : List (List Int)) (i2 : Int) {R : Type} (k : Out → Option R) : stepS tt (laws_eqStepS_tab F) (laws_eqStepS_LS0 F) 70 (laws_eqStepS_ls4 F) (loopAt 4 (bodyOf Try.f17)) (laws_eqStepS_st4 a0 b1 i2) k = laws_eqStepS_s4 F a0 b1 R i2 (fun s => k (.norm (laws_eqStepS_st4 a0 b1 s))) (fun x => (laws_eqStepS_o4 a0 b1 x).run k) := by kernel_rfl
theorem laws_eqStepS_iter4 (F : Nat) (a0 : List (List Int)) (b1 : List (List Int)) {R : Type} (k : Out → Option R) : ∀ (n : Nat) (i2 : Int), iterS tt (laws_eqStepS_tab F) (laws_eqStepS_LS0 F) 70 (laws_eqStepS_ls4 F) (loopAt 4 (bodyOf Try.f17)) n (laws_eqStepS_st4 a0 b1 i2) k = loopC (laws_eqStepS_s4 F a0 b1) n i2 (fun x => (laws_eqStepS_o4 a0 b1 x).run k)
  | 0, i2 => rfl
  | n + 1, i2 => (iterS_succ tt (laws_eqStepS_tab F) (laws_eqStepS_LS0 F) 70 (laws_eqStepS_ls4 F) (loopAt 4 (bodyOf Try.f17)) n (laws_eqStepS_st4 a0 b1 i2) k).trans ((laws_eqStepS_step4 F a0 b1 i2 (nextK (iterS tt (laws_eqStepS_tab F) (laws_eqStepS_LS0 F) 70 (laws_eqStepS_ls4 F) (loopAt 4 (bodyOf Try.f17)) n) k)).trans (congrArg (fun kn => laws_eqStepS_s4 F a0 b1 R i2 kn _) (funext (fun i2 => laws_eqStepS_iter4 F a0 b1 k n i2))))
theorem laws_eqStepS_lok4 (F : Nat) : LoopOK Try.prog (loopAt 4 (bodyOf Try.f17)) (laws_eqStepS_ls4 F) := by
  refine loopOK_of mixed ttok deep (laws_eqStepS_tabok F) (loopsOK_at (laws_eqStepS_lsok0 F) 4) (fuel := 70) fun R vals mem np killed k x h => ?_
  simp only [laws_eqStepS_ls4] at h
  split at h
  · rename_i a0 b1 i2
    simp only [GT.run] at h
    have hc := (cond_noneL h).1
    replace h := (cond_noneL h).2
    refine ⟨F, (laws_eqStepS_iter4 F a0 b1 k F i2).trans ((loopC_use (laws_eqStepS_s4_nat F a0 b1) hc _).trans h)⟩
  · simp only [GT.run] at h
    cases h
noncomputable def laws_eqStepS_LS1 (F : Nat) : LT := (4, laws_eqStepS_ls4 F) :: laws_eqStepS_LS0 F
theorem laws_eqStepS_lsok1 (F : Nat) : LoopsOK Try.prog (laws_eqStepS_LS1 F) (bodyOf Try.f17) := loopsOK_cons laws_eqStepS_keys (laws_eqStepS_lok4 F) (laws_eqStepS_lsok0 F)
theorem laws_eqStepS_run (F : Nat) (a0 : List (List Int)) (b1 : List (List Int)) : runS tt (laws_eqStepS_tab F) (laws_eqStepS_LS1 F) [] [] Try.f17 (bodyOf Try.f17) 70 [(.rr 4 a0), (.rr 4 b1)] [] = laws_eqStepS_c _ F a0 b1 (fun r => some ⟨(.bool r), [], []⟩) := by kernel_rfl
def laws_eqStepS_ent (F : Nat) : Ent := ⟨[], .quiet, fun args mem => match args, mem with
  | [(.rr 4 a0), (.rr 4 b1)], [] => some ((laws_eqStepS_p F a0 b1).isSome, ⟨(.bool ((laws_eqStepS_p F a0 b1).getD default)), [], []⟩)
  | _, _ => none⟩
theorem laws_eqStepS_fok : FunOK Try.prog 17 := funOK Try.func17 (by kernel_rfl) rfl
theorem laws_eqStepS_meets (F : Nat) : Meets Try.prog 17 (laws_eqStepS_ent F) := by
  refine meets_of_runS mixed ttok deep (laws_eqStepS_tabok F) Try.func17 (body_some rfl) (laws_eqStepS_lsok1 F) fun args mem hfit ret h => ?_
  clear hfit
  simp only [laws_eqStepS_ent] at h
  split at h
  · rename_i a0 b1
    simp only [Option.some.injEq, Prod.mk.injEq] at h
    obtain ⟨hc, rfl⟩ := h
    exact ⟨[], [], 70, _, (laws_eqStepS_run F a0 b1).trans ((laws_eqStepS_cp _ F a0 b1 _).trans (bind_use hc _)), rfl, rfl, rfl⟩
  · cases h

/-! loop.example/g01194/laws.markStepS -/
noncomputable def laws_markStepS_tab (F : Nat) : Tab := []
theorem laws_markStepS_tabok (F : Nat) : TabOK Try.prog (laws_markStepS_tab F) := tab_nil
noncomputable def laws_markStepS_LS0 (F : Nat) : LT := []
theorem laws_markStepS_lsok0 (F : Nat) : LoopsOK Try.prog (laws_markStepS_LS0 F) (bodyOf Try.f18) := loopsOK_nil
theorem laws_markStepS_keys : keysOK (bodyOf Try.f18) = true := by kernel_rfl
def laws_markStepS_st7 (a1 : Nat) (i3 : Int) (k2 : Int) (j4 : Int) (a5 : List (List Int)) : St := ⟨expand 41 0 [0, 1, 5, 6] [(.sl 0 0 a1), (.int .i64 k2), (.int .i64 i3), (.int .i64 j4)], [(.vec 38 (.rr 4 a5))], 1, []⟩
def laws_markStepS_o7 (a1 : Nat) (i3 : Int) (x : Int × List (List Int)) : GT := (.out (.exit 2 ⟨expand 41 0 [0, 1, 5] [(.sl 0 0 a1), (.int .i64 x.1), (.int .i64 i3)], [(.vec 38 (.rr 4 x.2))], 1, []⟩))
def laws_markStepS_ls7 (F : Nat) : LoopS := ⟨41, [0, 1, 5, 6], [], [0, 1, 5], [], [4], [], [], fun vals mem np killed => match vals, mem, np, killed with
  | [(.sl 0 0 a1), (.int .i64 k2), (.int .i64 i3), (.int .i64 j4)], [(.vec 38 (.rr 4 a5))], 1, [] => .br (laws_markStepS_l7 F a1 i3 k2 j4 a5).isSome (laws_markStepS_o7 a1 i3 ((laws_markStepS_l7 F a1 i3 k2 j4 a5).getD default)) .fail
  | _, _, _, _ => .fail⟩
theorem laws_markStepS_step7 (F : Nat) (a1 : Nat) (i3 : Int) (k2 : Int) (j4 : Int) (a5 : List (List Int)) {R : Type} (k : Out → Option R) : stepS tt (laws_markStepS_tab F) (laws_markStepS_LS0 F) 70 (laws_markStepS_ls7 F) (loopAt 7 (bodyOf Try.f18)) (laws_markStepS_st7 a1 i3 k2 j4 a5) k = laws_markStepS_s7 F a1 i3 R (k2, j4, a5) (fun s => k (.norm (laws_markStepS_st7 a1 i3 s.1 s.2.1 s.2.2))) (fun x => (laws_markStepS_o7 a1 i3 x).run k) := by kernel_rfl
theorem laws_markStepS_iter7 (F : Nat) (a1 : Nat) (i3 : Int) {R : Type} (k : Out → Option R) : ∀ (n : Nat) (k2 : Int) (j4 : Int) (a5 : List (List Int)), iterS tt (laws_markStepS_tab F) (laws_markStepS_LS0 F) 70 (laws_markStepS_ls7 F) (loopAt 7 (bodyOf Try.f18)) n (laws_markStepS_st7 a1 i3 k2 j4 a5) k = loopC (laws_markStepS_s7 F a1 i3) n (k2, j4, a5) (fun x => (laws_markStepS_o7 a1 i3 x).run k)
  | 0, k2, j4, a5 => rfl
  | n + 1, k2, j4, a5 => (iterS_succ tt (laws_markStepS_tab F) (laws_markStepS_LS0 F) 70 (laws_markStepS_ls7 F) (loopAt 7 (bodyOf Try.f18)) n (laws_markStepS_st7 a1 i3 k2 j4 a5) k).trans ((laws_markStepS_step7 F a1 i3 k2 j4 a5 (nextK (iterS tt (laws_markStepS_tab F) (laws_markStepS_LS0 F) 70 (laws_markStepS_ls7 F) (loopAt 7 (bodyOf Try.f18)) n) k)).trans (congrArg (fun kn => laws_markStepS_s7 F a1 i3 R (k2, j4, a5) kn _) (funext (fun ⟨k2, j4, a5⟩ => laws_markStepS_iter7 F a1 i3 k n k2 j4 a5))))
theorem laws_markStepS_lok7 (F : Nat) : LoopOK Try.prog (loopAt 7 (bodyOf Try.f18)) (laws_markStepS_ls7 F) := by
  refine loopOK_of mixed ttok deep (laws_markStepS_tabok F) (loopsOK_at (laws_markStepS_lsok0 F) 7) (fuel := 70) fun R vals mem np killed k x h => ?_
  simp only [laws_markStepS_ls7] at h
  split at h
  · rename_i a1 k2 i3 j4 a5
    simp only [GT.run] at h
    have hc := (cond_noneL h).1
    replace h := (cond_noneL h).2
    refine ⟨F, (laws_markStepS_iter7 F a1 i3 k F k2 j4 a5).trans ((loopC_use (laws_markStepS_s7_nat F a1 i3) hc _).trans h)⟩
  · simp only [GT.run] at h
    cases h
noncomputable def laws_markStepS_LS1 (F : Nat) : LT := (7, laws_markStepS_ls7 F) :: laws_markStepS_LS0 F
theorem laws_markStepS_lsok1 (F : Nat) : LoopsOK Try.prog (laws_markStepS_LS1 F) (bodyOf Try.f18) := loopsOK_cons laws_markStepS_keys (laws_markStepS_lok7 F) (laws_markStepS_lsok0 F)
def laws_markStepS_st2 (a1 : Nat) (k2 : Int) (i3 : Int) (a4 : List (List Int)) : St := ⟨expand 41 0 [0, 1, 5] [(.sl 0 0 a1), (.int .i64 k2), (.int .i64 i3)], [(.vec 38 (.rr 4 a4))], 1, []⟩
def laws_markStepS_o2 (a1 : Nat) (x : Int × List (List Int)) : GT := (.out (.exit 0 ⟨expand 41 0 [1] [(.int .i64 x.1)], [(.vec 38 (.rr 4 x.2))], 1, []⟩))
def laws_markStepS_ls2 (F : Nat) : LoopS := ⟨41, [0, 1, 5], [], [1], [], [4], [], [], fun vals mem np killed => match vals, mem, np, killed with
  | [(.sl 0 0 a1), (.int .i64 k2), (.int .i64 i3)], [(.vec 38 (.rr 4 a4))], 1, [] => .br (laws_markStepS_l2 F a1 k2 i3 a4).isSome (laws_markStepS_o2 a1 ((laws_markStepS_l2 F a1 k2 i3 a4).getD default)) .fail
  | _, _, _, _ => .fail⟩
theorem laws_markStepS_step2 (F : Nat) (a1 : Nat) (k2 : Int) (i3 : Int) (a4 : List (List Int)) {R : Type} (k : Out → Option R) : stepS tt (laws_markStepS_tab F) (laws_markStepS_LS1 F) 70 (laws_markStepS_ls2 F) (loopAt 2 (bodyOf Try.f18)) (laws_markStepS_st2 a1 k2 i3 a4) k = laws_markStepS_s2 F a1 R (k2, i3, a4) (fun s => k (.norm (laws_markStepS_st2 a1 s.1 s.2.1 s.2.2))) (fun x => (laws_markStepS_o2 a1 x).run k) := by kernel_rfl
theorem laws_markStepS_iter2 (F : Nat) (a1 : Nat) {R : Type} (k : Out → Option R) : ∀ (n : Nat) (k2 : Int) (i3 : Int) (a4 : List (List Int)), iterS tt (laws_markStepS_tab F) (laws_markStepS_LS1 F) 70 (laws_markStepS_ls2 F) (loopAt 2 (bodyOf Try.f18)) n (laws_markStepS_st2 a1 k2 i3 a4) k = loopC (laws_markStepS_s2 F a1) n (k2, i3, a4) (fun x => (laws_markStepS_o2 a1 x).run k)
  | 0, k2, i3, a4 => rfl
  | n + 1, k2, i3, a4 => (iterS_succ tt (laws_markStepS_tab F) (laws_markStepS_LS1 F) 70 (laws_markStepS_ls2 F) (loopAt 2 (bodyOf Try.f18)) n (laws_markStepS_st2 a1 k2 i3 a4) k).trans ((laws_markStepS_step2 F a1 k2 i3 a4 (nextK (iterS tt (laws_markStepS_tab F) (laws_markStepS_LS1 F) 70 (laws_markStepS_ls2 F) (loopAt 2 (bodyOf Try.f18)) n) k)).trans (congrArg (fun kn => laws_markStepS_s2 F a1 R (k2, i3, a4) kn _) (funext (fun ⟨k2, i3, a4⟩ => laws_markStepS_iter2 F a1 k n k2 i3 a4))))
theorem laws_markStepS_lok2 (F : Nat) : LoopOK Try.prog (loopAt 2 (bodyOf Try.f18)) (laws_markStepS_ls2 F) := by
  refine loopOK_of mixed ttok deep (laws_markStepS_tabok F) (loopsOK_at (laws_markStepS_lsok1 F) 2) (fuel := 70) fun R vals mem np killed k x h => ?_
  simp only [laws_markStepS_ls2] at h
  split at h
  · rename_i a1 k2 i3 a4
    simp only [GT.run] at h
    have hc := (cond_noneL h).1
    replace h := (cond_noneL h).2
    refine ⟨F, (laws_markStepS_iter2 F a1 k F k2 i3 a4).trans ((loopC_use (laws_markStepS_s2_nat F a1) hc _).trans h)⟩
  · simp only [GT.run] at h
    cases h
noncomputable def laws_markStepS_LS2 (F : Nat) : LT := (2, laws_markStepS_ls2 F) :: laws_markStepS_LS1 F
theorem laws_markStepS_lsok2 (F : Nat) : LoopsOK Try.prog (laws_markStepS_LS2 F) (bodyOf Try.f18) := loopsOK_cons laws_markStepS_keys (laws_markStepS_lok2 F) (laws_markStepS_lsok1 F)
theorem laws_markStepS_run (F : Nat) (a1 : Nat) (k2 : Int) (a3 : List (List Int)) : runS tt (laws_markStepS_tab F) (laws_markStepS_LS2 F) [] [] Try.f18 (bodyOf Try.f18) 70 [(.sl 0 0 a1), (.int .i64 k2)] [(.vec 38 (.rr 4 a3))] = laws_markStepS_c _ F a1 k2 a3 (fun r => some ⟨(.int .i64 r.1), [(.vec 38 (.rr 4 r.2))], []⟩) := by kernel_rfl
def laws_markStepS_ent (F : Nat) : Ent := ⟨[true], .loud, fun args mem => match args, mem with
  | [(.sl 0 0 a1), (.int .i64 k2)], [(.vec 38 (.rr 4 a3))] => some ((laws_markStepS_p F a1 k2 a3).isSome, ⟨(.int .i64 ((laws_markStepS_p F a1 k2 a3).getD default).1), [(.vec 38 (.rr 4 ((laws_markStepS_p F a1 k2 a3).getD default).2))], []⟩)
  | _, _ => none⟩
theorem laws_markStepS_fok : FunOK Try.prog 18 := funOK Try.func18 (by kernel_rfl) rfl
theorem laws_markStepS_meets (F : Nat) : Meets Try.prog 18 (laws_markStepS_ent F) := by
  refine meets_of_runS mixed ttok deep (laws_markStepS_tabok F) Try.func18 (body_some rfl) (laws_markStepS_lsok2 F) fun args mem hfit ret h => ?_
  clear hfit
  simp only [laws_markStepS_ent] at h
  split at h
  · rename_i a1 k2 a3
    simp only [Option.some.injEq, Prod.mk.injEq] at h
    obtain ⟨hc, rfl⟩ := h
    exact ⟨[], [], 70, _, (laws_markStepS_run F a1 k2 a3).trans ((laws_markStepS_cp _ F a1 k2 a3 _).trans (bind_use hc _)), rfl, rfl, rfl⟩
  · cases h

/-! loop.example/g01194/laws.heldStepS -/
noncomputable def laws_heldStepS_tab (F : Nat) : Tab := []
theorem laws_heldStepS_tabok (F : Nat) : TabOK Try.prog (laws_heldStepS_tab F) := tab_nil
noncomputable def laws_heldStepS_LS0 (F : Nat) : LT := []
theorem laws_heldStepS_lsok0 (F : Nat) : LoopsOK Try.prog (laws_heldStepS_LS0 F) (bodyOf Try.f19) := loopsOK_nil
theorem laws_heldStepS_keys : keysOK (bodyOf Try.f19) = true := by kernel_rfl
def laws_heldStepS_st8 (a0 : List (List Int)) (i2 : Int) (k1 : Int) (j3 : Int) : St := ⟨expand 47 0 [0, 1, 5, 6] [(.rr 4 a0), (.int .i64 k1), (.int .i64 i2), (.int .i64 j3)], [], 0, []⟩
def laws_heldStepS_o8 (a0 : List (List Int)) (i2 : Int) (x : Bool × Int) : GT := (.br x.1 (.out (.ret ⟨expand 47 0 [4] [(.int .i64 (-1 : Int))], [], 0, []⟩)) (.out (.exit 2 ⟨expand 47 0 [0, 1, 5] [(.rr 4 a0), (.int .i64 x.2), (.int .i64 i2)], [], 0, []⟩)))
def laws_heldStepS_ls8 (F : Nat) : LoopS := ⟨47, [0, 1, 5, 6], [], [0, 1, 5], [], [4], [], [], fun vals mem np killed => match vals, mem, np, killed with
  | [(.rr 4 a0), (.int .i64 k1), (.int .i64 i2), (.int .i64 j3)], [], 0, [] => .br (laws_heldStepS_l8 F a0 i2 k1 j3).isSome (laws_heldStepS_o8 a0 i2 ((laws_heldStepS_l8 F a0 i2 k1 j3).getD default)) .fail
  | _, _, _, _ => .fail⟩
theorem laws_heldStepS_step8 (F : Nat) (a0 : List (List Int)) (i2 : Int) (k1 : Int) (j3 : Int) {R : Type} (k : Out → Option R) : stepS tt (laws_heldStepS_tab F) (laws_heldStepS_LS0 F) 70 (laws_heldStepS_ls8 F) (loopAt 8 (bodyOf Try.f19)) (laws_heldStepS_st8 a0 i2 k1 j3) k = laws_heldStepS_s8 F a0 i2 R (k1, j3) (fun s => k (.norm (laws_heldStepS_st8 a0 i2 s.1 s.2))) (fun x => (laws_heldStepS_o8 a0 i2 x).run k) := by kernel_rfl
theorem laws_heldStepS_iter8 (F : Nat) (a0 : List (List Int)) (i2 : Int) {R : Type} (k : Out → Option R) : ∀ (n : Nat) (k1 : Int) (j3 : Int), iterS tt (laws_heldStepS_tab F) (laws_heldStepS_LS0 F) 70 (laws_heldStepS_ls8 F) (loopAt 8 (bodyOf Try.f19)) n (laws_heldStepS_st8 a0 i2 k1 j3) k = loopC (laws_heldStepS_s8 F a0 i2) n (k1, j3) (fun x => (laws_heldStepS_o8 a0 i2 x).run k)
  | 0, k1, j3 => rfl
  | n + 1, k1, j3 => (iterS_succ tt (laws_heldStepS_tab F) (laws_heldStepS_LS0 F) 70 (laws_heldStepS_ls8 F) (loopAt 8 (bodyOf Try.f19)) n (laws_heldStepS_st8 a0 i2 k1 j3) k).trans ((laws_heldStepS_step8 F a0 i2 k1 j3 (nextK (iterS tt (laws_heldStepS_tab F) (laws_heldStepS_LS0 F) 70 (laws_heldStepS_ls8 F) (loopAt 8 (bodyOf Try.f19)) n) k)).trans (congrArg (fun kn => laws_heldStepS_s8 F a0 i2 R (k1, j3) kn _) (funext (fun ⟨k1, j3⟩ => laws_heldStepS_iter8 F a0 i2 k n k1 j3))))
theorem laws_heldStepS_lok8 (F : Nat) : LoopOK Try.prog (loopAt 8 (bodyOf Try.f19)) (laws_heldStepS_ls8 F) := by
  refine loopOK_of mixed ttok deep (laws_heldStepS_tabok F) (loopsOK_at (laws_heldStepS_lsok0 F) 8) (fuel := 70) fun R vals mem np killed k x h => ?_
  simp only [laws_heldStepS_ls8] at h
  split at h
  · rename_i a0 k1 i2 j3
    simp only [GT.run] at h
    have hc := (cond_noneL h).1
    replace h := (cond_noneL h).2
    refine ⟨F, (laws_heldStepS_iter8 F a0 i2 k F k1 j3).trans ((loopC_use (laws_heldStepS_s8_nat F a0 i2) hc _).trans h)⟩
  · simp only [GT.run] at h
    cases h
noncomputable def laws_heldStepS_LS1 (F : Nat) : LT := (8, laws_heldStepS_ls8 F) :: laws_heldStepS_LS0 F
theorem laws_heldStepS_lsok1 (F : Nat) : LoopsOK Try.prog (laws_heldStepS_LS1 F) (bodyOf Try.f19) := loopsOK_cons laws_heldStepS_keys (laws_heldStepS_lok8 F) (laws_heldStepS_lsok0 F)
def laws_heldStepS_st2 (a0 : List (List Int)) (k1 : Int) (i2 : Int) : St := ⟨expand 47 0 [0, 1, 5] [(.rr 4 a0), (.int .i64 k1), (.int .i64 i2)], [], 0, []⟩
def laws_heldStepS_o2 (a0 : List (List Int)) (x : Bool × Int) : GT := (.br x.1 (.out (.ret ⟨expand 47 0 [4] [(.int .i64 (-1 : Int))], [], 0, []⟩)) (.out (.exit 0 ⟨expand 47 0 [1] [(.int .i64 x.2)], [], 0, []⟩)))
def laws_heldStepS_ls2 (F : Nat) : LoopS := ⟨47, [0, 1, 5], [], [1], [], [4], [], [], fun vals mem np killed => match vals, mem, np, killed with
  | [(.rr 4 a0), (.int .i64 k1), (.int .i64 i2)], [], 0, [] => .br (laws_heldStepS_l2 F a0 k1 i2).isSome (laws_heldStepS_o2 a0 ((laws_heldStepS_l2 F a0 k1 i2).getD default)) .fail
  | _, _, _, _ => .fail⟩
theorem laws_heldStepS_step2 (F : Nat) (a0 : List (List Int)) (k1 : Int) (i2 : Int) {R : Type} (k : Out → Option R) : stepS tt (laws_heldStepS_tab F) (laws_heldStepS_LS1 F) 70 (laws_heldStepS_ls2 F) (loopAt 2 (bodyOf Try.f19)) (laws_heldStepS_st2 a0 k1 i2) k = laws_heldStepS_s2 F a0 R (k1, i2) (fun s => k (.norm (laws_heldStepS_st2 a0 s.1 s.2))) (fun x => (laws_heldStepS_o2 a0 x).run k) := by kernel_rfl
theorem laws_heldStepS_iter2 (F : Nat) (a0 : List (List Int)) {R : Type} (k : Out → Option R) : ∀ (n : Nat) (k1 : Int) (i2 : Int), iterS tt (laws_heldStepS_tab F) (laws_heldStepS_LS1 F) 70 (laws_heldStepS_ls2 F) (loopAt 2 (bodyOf Try.f19)) n (laws_heldStepS_st2 a0 k1 i2) k = loopC (laws_heldStepS_s2 F a0) n (k1, i2) (fun x => (laws_heldStepS_o2 a0 x).run k)
  | 0, k1, i2 => rfl
  | n + 1, k1, i2 => (iterS_succ tt (laws_heldStepS_tab F) (laws_heldStepS_LS1 F) 70 (laws_heldStepS_ls2 F) (loopAt 2 (bodyOf Try.f19)) n (laws_heldStepS_st2 a0 k1 i2) k).trans ((laws_heldStepS_step2 F a0 k1 i2 (nextK (iterS tt (laws_heldStepS_tab F) (laws_heldStepS_LS1 F) 70 (laws_heldStepS_ls2 F) (loopAt 2 (bodyOf Try.f19)) n) k)).trans (congrArg (fun kn => laws_heldStepS_s2 F a0 R (k1, i2) kn _) (funext (fun ⟨k1, i2⟩ => laws_heldStepS_iter2 F a0 k n k1 i2))))
theorem laws_heldStepS_lok2 (F : Nat) : LoopOK Try.prog (loopAt 2 (bodyOf Try.f19)) (laws_heldStepS_ls2 F) := by
  refine loopOK_of mixed ttok deep (laws_heldStepS_tabok F) (loopsOK_at (laws_heldStepS_lsok1 F) 2) (fuel := 70) fun R vals mem np killed k x h => ?_
  simp only [laws_heldStepS_ls2] at h
  split at h
  · rename_i a0 k1 i2
    simp only [GT.run] at h
    have hc := (cond_noneL h).1
    replace h := (cond_noneL h).2
    refine ⟨F, (laws_heldStepS_iter2 F a0 k F k1 i2).trans ((loopC_use (laws_heldStepS_s2_nat F a0) hc _).trans h)⟩
  · simp only [GT.run] at h
    cases h
noncomputable def laws_heldStepS_LS2 (F : Nat) : LT := (2, laws_heldStepS_ls2 F) :: laws_heldStepS_LS1 F
theorem laws_heldStepS_lsok2 (F : Nat) : LoopsOK Try.prog (laws_heldStepS_LS2 F) (bodyOf Try.f19) := loopsOK_cons laws_heldStepS_keys (laws_heldStepS_lok2 F) (laws_heldStepS_lsok1 F)
theorem laws_heldStepS_run (F : Nat) (a0 : List (List Int)) (k1 : Int) : runS tt (laws_heldStepS_tab F) (laws_heldStepS_LS2 F) [] [] Try.f19 (bodyOf Try.f19) 70 [(.rr 4 a0), (.int .i64 k1)] [] = laws_heldStepS_c _ F a0 k1 (fun r => some ⟨(.int .i64 r), [], []⟩) := by kernel_rfl
def laws_heldStepS_ent (F : Nat) : Ent := ⟨[], .quiet, fun args mem => match args, mem with
  | [(.rr 4 a0), (.int .i64 k1)], [] => some ((laws_heldStepS_p F a0 k1).isSome, ⟨(.int .i64 ((laws_heldStepS_p F a0 k1).getD default)), [], []⟩)
  | _, _ => none⟩
theorem laws_heldStepS_fok : FunOK Try.prog 19 := funOK Try.func19 (by kernel_rfl) rfl
theorem laws_heldStepS_meets (F : Nat) : Meets Try.prog 19 (laws_heldStepS_ent F) := by
  refine meets_of_runS mixed ttok deep (laws_heldStepS_tabok F) Try.func19 (body_some rfl) (laws_heldStepS_lsok2 F) fun args mem hfit ret h => ?_
  clear hfit
  simp only [laws_heldStepS_ent] at h
  split at h
  · rename_i a0 k1
    simp only [Option.some.injEq, Prod.mk.injEq] at h
    obtain ⟨hc, rfl⟩ := h
    exact ⟨[], [], 70, _, (laws_heldStepS_run F a0 k1).trans ((laws_heldStepS_cp _ F a0 k1 _).trans (bind_use hc _)), rfl, rfl, rfl⟩
  · cases h

/-! loop.example/g01194/laws.FnExactStepsOf -/
noncomputable def laws_FnExactStepsOf_tab (F : Nat) : Tab := [(8, (laws_toBoard_ent F)), (15, (spec_StepsOf_ent F)), (16, (impl_StepsOf_ent F)), (17, (laws_eqStepS_ent F)), (18, (laws_markStepS_ent F)), (19, (laws_heldStepS_ent F))]
theorem laws_FnExactStepsOf_tabok (F : Nat) : TabOK Try.prog (laws_FnExactStepsOf_tab F) := (tab_cons (laws_toBoard_meets F) laws_toBoard_fok (tab_cons (spec_StepsOf_meets F) spec_StepsOf_fok (tab_cons (impl_StepsOf_meets F) impl_StepsOf_fok (tab_cons (laws_eqStepS_meets F) laws_eqStepS_fok (tab_cons (laws_markStepS_meets F) laws_markStepS_fok (tab_cons (laws_heldStepS_meets F) laws_heldStepS_fok tab_nil))))))
noncomputable def laws_FnExactStepsOf_LS0 (F : Nat) : LT := []
theorem laws_FnExactStepsOf_lsok0 (F : Nat) : LoopsOK Try.prog (laws_FnExactStepsOf_LS0 F) (bodyOf Try.f5) := loopsOK_nil
theorem laws_FnExactStepsOf_run (F : Nat) (aB0 : List Int) (aDirection1 : Int) : runS tt (laws_FnExactStepsOf_tab F) (laws_FnExactStepsOf_LS0 F) [] [] Try.f5 (bodyOf Try.f5) 70 [(.ints 16 aB0), (.int .i64 aDirection1)] [] = laws_FnExactStepsOf_c _ F aB0 aDirection1 (fun r => some ⟨(.bool r), [], []⟩) := by kernel_rfl
def laws_FnExactStepsOf_ent (F : Nat) : Ent := ⟨[], .quiet, fun args mem => match args, mem with
  | [(.ints 16 aB0), (.int .i64 aDirection1)], [] => some ((laws_FnExactStepsOf_p F aB0 aDirection1).isSome, ⟨(.bool ((laws_FnExactStepsOf_p F aB0 aDirection1).getD default)), [], []⟩)
  | _, _ => none⟩
theorem laws_FnExactStepsOf_fok : FunOK Try.prog 5 := funOK Try.func5 (by kernel_rfl) rfl
theorem laws_FnExactStepsOf_meets (F : Nat) : Meets Try.prog 5 (laws_FnExactStepsOf_ent F) := by
  refine meets_of_runS mixed ttok deep (laws_FnExactStepsOf_tabok F) Try.func5 (body_some rfl) (laws_FnExactStepsOf_lsok0 F) fun args mem hfit ret h => ?_
  clear hfit
  simp only [laws_FnExactStepsOf_ent] at h
  split at h
  · rename_i aB0 aDirection1
    simp only [Option.some.injEq, Prod.mk.injEq] at h
    obtain ⟨hc, rfl⟩ := h
    exact ⟨[], [], 70, _, (laws_FnExactStepsOf_run F aB0 aDirection1).trans ((laws_FnExactStepsOf_cp _ F aB0 aDirection1 _).trans (bind_use hc _)), rfl, rfl, rfl⟩
  · cases h

/-! loop.example/g01194/spec.DeadPlaces -/
noncomputable def spec_DeadPlaces_tab (F : Nat) : Tab := [(25, (spec_l2Board_ent F)), (27, (spec_l8Places_ent F)), (29, (spec_l8Put_ent F)), (28, (spec_l2Moves_ent F))]
theorem spec_DeadPlaces_tabok (F : Nat) : TabOK Try.prog (spec_DeadPlaces_tab F) := (tab_cons (spec_l2Board_meets F) spec_l2Board_fok (tab_cons (spec_l8Places_meets F) spec_l8Places_fok (tab_cons (spec_l8Put_meets F) spec_l8Put_fok (tab_cons (spec_l2Moves_meets F) spec_l2Moves_fok tab_nil))))
noncomputable def spec_DeadPlaces_LS0 (F : Nat) : LT := []
theorem spec_DeadPlaces_lsok0 (F : Nat) : LoopsOK Try.prog (spec_DeadPlaces_LS0 F) (bodyOf Try.f20) := loopsOK_nil
theorem spec_DeadPlaces_keys : keysOK (bodyOf Try.f20) = true := by kernel_rfl
def spec_DeadPlaces_st6 (b8 : List Int) (all10 : List (List Int)) (i7 : Int) (out9 : List (List Int)) : St := ⟨expand 37 0 [1, 4, 5, 6] [(.ptr 0 0 0 16), (.sl 1 0 (List.length out9)), (.sl 2 0 (List.length all10)), (.int .i64 i7)], [(.var 16 (.ri .i64 b8)), (.vec 26 (.rr 3 out9)), (.vec 26 (.rr 3 all10))], 0, []⟩
def spec_DeadPlaces_o6 (b8 : List Int) (all10 : List (List Int)) (x : List (List Int)) : GT := (.out (.exit 0 ⟨expand 37 0 [4] [(.sl 0 0 (List.length x))], [(.vec 26 (.rr 3 x))], 0, []⟩))
def spec_DeadPlaces_ls6 (F : Nat) : LoopS := ⟨37, [1, 4, 5, 6], [], [4], [], [2, 3], [], [], fun vals mem np killed => match vals, mem, np, killed with
  | [(.ptr 0 0 0 16), (.sl 1 0 q_out4), (.sl 2 0 q_all6), (.int .i64 i7)], [(.var 16 (.ri .i64 b8)), (.vec 26 (.rr 3 out9)), (.vec 26 (.rr 3 all10))], 0, [] => .br ((Nat.beq q_out4 (List.length out9)) && ((Nat.beq q_all6 (List.length all10)) && (spec_DeadPlaces_l6 F b8 all10 i7 out9).isSome)) (spec_DeadPlaces_o6 b8 all10 ((spec_DeadPlaces_l6 F b8 all10 i7 out9).getD default)) .fail
  | _, _, _, _ => .fail⟩
theorem spec_DeadPlaces_step6 (F : Nat) (b8 : List Int) (all10 : List (List Int)) (i7 : Int) (out9 : List (List Int)) {R : Type} (k : Out → Option R) : stepS tt (spec_DeadPlaces_tab F) (spec_DeadPlaces_LS0 F) 70 (spec_DeadPlaces_ls6 F) (loopAt 6 (bodyOf Try.f20)) (spec_DeadPlaces_st6 b8 all10 i7 out9) k = spec_DeadPlaces_s6 F b8 all10 R (i7, out9) (fun s => k (.norm (spec_DeadPlaces_st6 b8 all10 s.1 s.2))) (fun x => (spec_DeadPlaces_o6 b8 all10 x).run k) := by kernel_rfl
theorem spec_DeadPlaces_iter6 (F : Nat) (b8 : List Int) (all10 : List (List Int)) {R : Type} (k : Out → Option R) : ∀ (n : Nat) (i7 : Int) (out9 : List (List Int)), iterS tt (spec_DeadPlaces_tab F) (spec_DeadPlaces_LS0 F) 70 (spec_DeadPlaces_ls6 F) (loopAt 6 (bodyOf Try.f20)) n (spec_DeadPlaces_st6 b8 all10 i7 out9) k = loopC (spec_DeadPlaces_s6 F b8 all10) n (i7, out9) (fun x => (spec_DeadPlaces_o6 b8 all10 x).run k)
  | 0, i7, out9 => rfl
  | n + 1, i7, out9 => (iterS_succ tt (spec_DeadPlaces_tab F) (spec_DeadPlaces_LS0 F) 70 (spec_DeadPlaces_ls6 F) (loopAt 6 (bodyOf Try.f20)) n (spec_DeadPlaces_st6 b8 all10 i7 out9) k).trans ((spec_DeadPlaces_step6 F b8 all10 i7 out9 (nextK (iterS tt (spec_DeadPlaces_tab F) (spec_DeadPlaces_LS0 F) 70 (spec_DeadPlaces_ls6 F) (loopAt 6 (bodyOf Try.f20)) n) k)).trans (congrArg (fun kn => spec_DeadPlaces_s6 F b8 all10 R (i7, out9) kn _) (funext (fun ⟨i7, out9⟩ => spec_DeadPlaces_iter6 F b8 all10 k n i7 out9))))
theorem spec_DeadPlaces_lok6 (F : Nat) : LoopOK Try.prog (loopAt 6 (bodyOf Try.f20)) (spec_DeadPlaces_ls6 F) := by
  refine loopOK_of mixed ttok deep (spec_DeadPlaces_tabok F) (loopsOK_at (spec_DeadPlaces_lsok0 F) 6) (fuel := 70) fun R vals mem np killed k x h => ?_
  simp only [spec_DeadPlaces_ls6] at h
  split at h
  · rename_i q_out4 q_all6 i7 b8 out9 all10
    simp only [GT.run] at h
    have hc := (cond_noneL h).1
    replace h := (cond_noneL h).2
    have hg := (and_split hc).1
    replace hc := (and_split hc).2
    obtain rfl := nbeq_nat hg
    have hg := (and_split hc).1
    replace hc := (and_split hc).2
    obtain rfl := nbeq_nat hg
    refine ⟨F, (spec_DeadPlaces_iter6 F b8 all10 k F i7 out9).trans ((loopC_use (spec_DeadPlaces_s6_nat F b8 all10) hc _).trans h)⟩
  · simp only [GT.run] at h
    cases h
noncomputable def spec_DeadPlaces_LS1 (F : Nat) : LT := (6, spec_DeadPlaces_ls6 F) :: spec_DeadPlaces_LS0 F
theorem spec_DeadPlaces_lsok1 (F : Nat) : LoopsOK Try.prog (spec_DeadPlaces_LS1 F) (bodyOf Try.f20) := loopsOK_cons spec_DeadPlaces_keys (spec_DeadPlaces_lok6 F) (spec_DeadPlaces_lsok0 F)
theorem spec_DeadPlaces_run (F : Nat) (b0 : List Int) : runS tt (spec_DeadPlaces_tab F) (spec_DeadPlaces_LS1 F) [] [] Try.f20 (bodyOf Try.f20) 70 [(.ints 16 b0)] [] = spec_DeadPlaces_c _ F b0 (fun r => some ⟨(.tup [(.sl 0 0 (List.length r.2)), (.bool r.1)]), [(.vec 26 (.rr 3 r.2))], []⟩) := by kernel_rfl
def spec_DeadPlaces_ent (F : Nat) : Ent := ⟨[], .fresh, fun args mem => match args, mem with
  | [(.ints 16 b0)], [] => some ((spec_DeadPlaces_p F b0).isSome, ⟨(.tup [(.sl 0 0 (List.length ((spec_DeadPlaces_p F b0).getD default).2)), (.bool ((spec_DeadPlaces_p F b0).getD default).1)]), [(.vec 26 (.rr 3 ((spec_DeadPlaces_p F b0).getD default).2))], []⟩)
  | _, _ => none⟩
theorem spec_DeadPlaces_fok : FunOK Try.prog 20 := funOK Try.func20 (by kernel_rfl) rfl
theorem spec_DeadPlaces_meets (F : Nat) : Meets Try.prog 20 (spec_DeadPlaces_ent F) := by
  refine meets_of_runS mixed ttok deep (spec_DeadPlaces_tabok F) Try.func20 (body_some rfl) (spec_DeadPlaces_lsok1 F) fun args mem hfit ret h => ?_
  clear hfit
  simp only [spec_DeadPlaces_ent] at h
  split at h
  · rename_i b0
    simp only [Option.some.injEq, Prod.mk.injEq] at h
    obtain ⟨hc, rfl⟩ := h
    exact ⟨[], [], 70, _, (spec_DeadPlaces_run F b0).trans ((spec_DeadPlaces_cp _ F b0 _).trans (bind_use hc _)), rfl, rfl, rfl⟩
  · cases h

/-! (loop.example/g01194/impl.Board).isOver -/
noncomputable def impl_Board_isOver_tab (F : Nat) : Tab := [(35, (impl_Board_moves_ent F))]
theorem impl_Board_isOver_tabok (F : Nat) : TabOK Try.prog (impl_Board_isOver_tab F) := (tab_cons (impl_Board_moves_meets F) impl_Board_moves_fok tab_nil)
noncomputable def impl_Board_isOver_LS0 (F : Nat) : LT := []
theorem impl_Board_isOver_lsok0 (F : Nat) : LoopsOK Try.prog (impl_Board_isOver_LS0 F) (bodyOf Try.f50) := loopsOK_nil
theorem impl_Board_isOver_run (F : Nat) (b0 : List Int) : runS tt (impl_Board_isOver_tab F) (impl_Board_isOver_LS0 F) [] [] Try.f50 (bodyOf Try.f50) 70 [(.ints 16 b0)] [] = impl_Board_isOver_c _ F b0 (fun r => some ⟨(.bool r), [], []⟩) := by kernel_rfl
def impl_Board_isOver_ent (F : Nat) : Ent := ⟨[], .quiet, fun args mem => match args, mem with
  | [(.ints 16 b0)], [] => some ((impl_Board_isOver_p F b0).isSome, ⟨(.bool ((impl_Board_isOver_p F b0).getD default)), [], []⟩)
  | _, _ => none⟩
theorem impl_Board_isOver_fok : FunOK Try.prog 50 := funOK Try.func50 (by kernel_rfl) rfl
theorem impl_Board_isOver_meets (F : Nat) : Meets Try.prog 50 (impl_Board_isOver_ent F) := by
  refine meets_of_runS mixed ttok deep (impl_Board_isOver_tabok F) Try.func50 (body_some rfl) (impl_Board_isOver_lsok0 F) fun args mem hfit ret h => ?_
  clear hfit
  simp only [impl_Board_isOver_ent] at h
  split at h
  · rename_i b0
    simp only [Option.some.injEq, Prod.mk.injEq] at h
    obtain ⟨hc, rfl⟩ := h
    exact ⟨[], [], 70, _, (impl_Board_isOver_run F b0).trans ((impl_Board_isOver_cp _ F b0 _).trans (bind_use hc _)), rfl, rfl, rfl⟩
  · cases h

/-! loop.example/g01194/impl.DeadPlaces$1 -/
noncomputable def impl_DeadPlaces_f1_tab (F : Nat) : Tab := [(49, (impl_Board_placed_ent F)), (50, (impl_Board_isOver_ent F))]
theorem impl_DeadPlaces_f1_tabok (F : Nat) : TabOK Try.prog (impl_DeadPlaces_f1_tab F) := (tab_cons (impl_Board_placed_meets F) impl_Board_placed_fok (tab_cons (impl_Board_isOver_meets F) impl_Board_isOver_fok tab_nil))
noncomputable def impl_DeadPlaces_f1_LS0 (F : Nat) : LT := []
theorem impl_DeadPlaces_f1_lsok0 (F : Nat) : LoopsOK Try.prog (impl_DeadPlaces_f1_LS0 F) (bodyOf Try.f48) := loopsOK_nil
theorem impl_DeadPlaces_f1_run (F : Nat) (p0 : List Int) (a14 : List Int) : runS tt (impl_DeadPlaces_f1_tab F) (impl_DeadPlaces_f1_LS0 F) [] [] Try.f48 (bodyOf Try.f48) 70 [(.ints 3 p0), (.ptr 0 0 0 16)] [(.var 16 (.ri .i64 a14))] = impl_DeadPlaces_f1_c _ F p0 a14 (fun r => some ⟨(.bool r), [(.var 16 (.ri .i64 a14))], []⟩) := by kernel_rfl
def impl_DeadPlaces_f1_ent (F : Nat) : Ent := ⟨[], .quiet, fun args mem => match args, mem with
  | [(.ints 3 p0), (.ptr 0 0 0 16)], [(.var 16 (.ri .i64 a14))] => some ((impl_DeadPlaces_f1_p F p0 a14).isSome, ⟨(.bool ((impl_DeadPlaces_f1_p F p0 a14).getD default)), [], []⟩)
  | _, _ => none⟩
theorem impl_DeadPlaces_f1_fok : FunOK Try.prog 48 := funOK Try.func48 (by kernel_rfl) rfl
theorem impl_DeadPlaces_f1_meets (F : Nat) : Meets Try.prog 48 (impl_DeadPlaces_f1_ent F) := by
  refine meets_of_runS mixed ttok deep (impl_DeadPlaces_f1_tabok F) Try.func48 (body_some rfl) (impl_DeadPlaces_f1_lsok0 F) fun args mem hfit ret h => ?_
  clear hfit
  simp only [impl_DeadPlaces_f1_ent] at h
  split at h
  · rename_i p0 a14
    simp only [Option.some.injEq, Prod.mk.injEq] at h
    obtain ⟨hc, rfl⟩ := h
    exact ⟨[], [], 70, _, (impl_DeadPlaces_f1_run F p0 a14).trans ((impl_DeadPlaces_f1_cp _ F p0 a14 _).trans (bind_use hc _)), rfl, rfl, rfl⟩
  · cases h

/-! slices.IndexFunc[[][3]int,[3]int] -/
noncomputable def slices_IndexFunc_3int3int_impl_DeadPlaces_f1_tab (F : Nat) : Tab := [(48, (impl_DeadPlaces_f1_ent F))]
theorem slices_IndexFunc_3int3int_impl_DeadPlaces_f1_tabok (F : Nat) : TabOK Try.prog (slices_IndexFunc_3int3int_impl_DeadPlaces_f1_tab F) := (tab_cons (impl_DeadPlaces_f1_meets F) impl_DeadPlaces_f1_fok tab_nil)
noncomputable def slices_IndexFunc_3int3int_impl_DeadPlaces_f1_LS0 (F : Nat) : LT := []
theorem slices_IndexFunc_3int3int_impl_DeadPlaces_f1_lsok0 (F : Nat) : LoopsOK Try.prog (slices_IndexFunc_3int3int_impl_DeadPlaces_f1_LS0 F) (bodyOf Try.f71) := loopsOK_nil
theorem slices_IndexFunc_3int3int_impl_DeadPlaces_f1_keys : keysOK (bodyOf Try.f71) = true := by kernel_rfl
def slices_IndexFunc_3int3int_impl_DeadPlaces_f1_st2 (s0 : List (List Int)) (t74 : Int) (f6 : List Int) (t85 : Int) : St := ⟨expand 19 0 [0, 1, 7, 8] [(.rr 3 s0), (.fn 48 [] [(.ptr 0 0 0 16)]), (.int .i64 t74), (.int .i64 t85)], [(.var 16 (.ri .i64 f6))], 1, []⟩
def slices_IndexFunc_3int3int_impl_DeadPlaces_f1_o2 (s0 : List (List Int)) (t74 : Int) (f6 : List Int) (x : Bool × Int) : GT := (.br x.1 (.out (.ret ⟨expand 19 0 [4] [(.int .i64 x.2)], [(.var 16 (.ri .i64 f6))], 1, []⟩)) (.out (.exit 0 ⟨expand 19 0 [] [], [(.var 16 (.ri .i64 f6))], 1, []⟩)))
def slices_IndexFunc_3int3int_impl_DeadPlaces_f1_ls2 (F : Nat) : LoopS := ⟨19, [0, 1, 7, 8], [], [], [], [4], [], [], fun vals mem np killed => match vals, mem, np, killed with
  | [(.rr 3 s0), (.fn 48 [] [(.ptr 0 0 0 16)]), (.int .i64 t74), (.int .i64 t85)], [(.var 16 (.ri .i64 f6))], 1, [] => .br (slices_IndexFunc_3int3int_impl_DeadPlaces_f1_l2 F s0 t74 f6 t85).isSome (slices_IndexFunc_3int3int_impl_DeadPlaces_f1_o2 s0 t74 f6 ((slices_IndexFunc_3int3int_impl_DeadPlaces_f1_l2 F s0 t74 f6 t85).getD default)) .fail
  | _, _, _, _ => .fail⟩
theorem slices_IndexFunc_3int3int_impl_DeadPlaces_f1_step2 (F : Nat) (s0 : List (List Int)) (t74 : Int) (f6 : List Int) (t85 : Int) {R : Type} (k : Out → Option R) : stepS tt (slices_IndexFunc_3int3int_impl_DeadPlaces_f1_tab F) (slices_IndexFunc_3int3int_impl_DeadPlaces_f1_LS0 F) 70 (slices_IndexFunc_3int3int_impl_DeadPlaces_f1_ls2 F) (loopAt 2 (bodyOf Try.f71)) (slices_IndexFunc_3int3int_impl_DeadPlaces_f1_st2 s0 t74 f6 t85) k = slices_IndexFunc_3int3int_impl_DeadPlaces_f1_s2 F s0 t74 f6 R t85 (fun s => k (.norm (slices_IndexFunc_3int3int_impl_DeadPlaces_f1_st2 s0 t74 f6 s))) (fun x => (slices_IndexFunc_3int3int_impl_DeadPlaces_f1_o2 s0 t74 f6 x).run k) := by kernel_rfl
theorem slices_IndexFunc_3int3int_impl_DeadPlaces_f1_iter2 (F : Nat) (s0 : List (List Int)) (t74 : Int) (f6 : List Int) {R : Type} (k : Out → Option R) : ∀ (n : Nat) (t85 : Int), iterS tt (slices_IndexFunc_3int3int_impl_DeadPlaces_f1_tab F) (slices_IndexFunc_3int3int_impl_DeadPlaces_f1_LS0 F) 70 (slices_IndexFunc_3int3int_impl_DeadPlaces_f1_ls2 F) (loopAt 2 (bodyOf Try.f71)) n (slices_IndexFunc_3int3int_impl_DeadPlaces_f1_st2 s0 t74 f6 t85) k = loopC (slices_IndexFunc_3int3int_impl_DeadPlaces_f1_s2 F s0 t74 f6) n t85 (fun x => (slices_IndexFunc_3int3int_impl_DeadPlaces_f1_o2 s0 t74 f6 x).run k)
  | 0, t85 => rfl
  | n + 1, t85 => (iterS_succ tt (slices_IndexFunc_3int3int_impl_DeadPlaces_f1_tab F) (slices_IndexFunc_3int3int_impl_DeadPlaces_f1_LS0 F) 70 (slices_IndexFunc_3int3int_impl_DeadPlaces_f1_ls2 F) (loopAt 2 (bodyOf Try.f71)) n (slices_IndexFunc_3int3int_impl_DeadPlaces_f1_st2 s0 t74 f6 t85) k).trans ((slices_IndexFunc_3int3int_impl_DeadPlaces_f1_step2 F s0 t74 f6 t85 (nextK (iterS tt (slices_IndexFunc_3int3int_impl_DeadPlaces_f1_tab F) (slices_IndexFunc_3int3int_impl_DeadPlaces_f1_LS0 F) 70 (slices_IndexFunc_3int3int_impl_DeadPlaces_f1_ls2 F) (loopAt 2 (bodyOf Try.f71)) n) k)).trans (congrArg (fun kn => slices_IndexFunc_3int3int_impl_DeadPlaces_f1_s2 F s0 t74 f6 R t85 kn _) (funext (fun t85 => slices_IndexFunc_3int3int_impl_DeadPlaces_f1_iter2 F s0 t74 f6 k n t85))))
theorem slices_IndexFunc_3int3int_impl_DeadPlaces_f1_lok2 (F : Nat) : LoopOK Try.prog (loopAt 2 (bodyOf Try.f71)) (slices_IndexFunc_3int3int_impl_DeadPlaces_f1_ls2 F) := by
  refine loopOK_of mixed ttok deep (slices_IndexFunc_3int3int_impl_DeadPlaces_f1_tabok F) (loopsOK_at (slices_IndexFunc_3int3int_impl_DeadPlaces_f1_lsok0 F) 2) (fuel := 70) fun R vals mem np killed k x h => ?_
  simp only [slices_IndexFunc_3int3int_impl_DeadPlaces_f1_ls2] at h
  split at h
  · rename_i s0 t74 t85 f6
    simp only [GT.run] at h
    have hc := (cond_noneL h).1
    replace h := (cond_noneL h).2
    refine ⟨F, (slices_IndexFunc_3int3int_impl_DeadPlaces_f1_iter2 F s0 t74 f6 k F t85).trans ((loopC_use (slices_IndexFunc_3int3int_impl_DeadPlaces_f1_s2_nat F s0 t74 f6) hc _).trans h)⟩
  · simp only [GT.run] at h
    cases h
noncomputable def slices_IndexFunc_3int3int_impl_DeadPlaces_f1_LS1 (F : Nat) : LT := (2, slices_IndexFunc_3int3int_impl_DeadPlaces_f1_ls2 F) :: slices_IndexFunc_3int3int_impl_DeadPlaces_f1_LS0 F
theorem slices_IndexFunc_3int3int_impl_DeadPlaces_f1_lsok1 (F : Nat) : LoopsOK Try.prog (slices_IndexFunc_3int3int_impl_DeadPlaces_f1_LS1 F) (bodyOf Try.f71) := loopsOK_cons slices_IndexFunc_3int3int_impl_DeadPlaces_f1_keys (slices_IndexFunc_3int3int_impl_DeadPlaces_f1_lok2 F) (slices_IndexFunc_3int3int_impl_DeadPlaces_f1_lsok0 F)
theorem slices_IndexFunc_3int3int_impl_DeadPlaces_f1_run (F : Nat) (s0 : List (List Int)) (f4 : List Int) : runS tt (slices_IndexFunc_3int3int_impl_DeadPlaces_f1_tab F) (slices_IndexFunc_3int3int_impl_DeadPlaces_f1_LS1 F) [] [] Try.f71 (bodyOf Try.f71) 70 [(.rr 3 s0), (.fn 48 [] [(.ptr 0 0 0 16)])] [(.var 16 (.ri .i64 f4))] = slices_IndexFunc_3int3int_impl_DeadPlaces_f1_c _ F s0 f4 (fun r => some ⟨(.int .i64 r), [(.var 16 (.ri .i64 f4))], []⟩) := by kernel_rfl
def slices_IndexFunc_3int3int_impl_DeadPlaces_f1_ent (F : Nat) : Ent := ⟨[], .quiet, fun args mem => match args, mem with
  | [(.rr 3 s0), (.fn 48 [] [(.ptr 0 0 0 16)])], [(.var 16 (.ri .i64 f4))] => some ((slices_IndexFunc_3int3int_impl_DeadPlaces_f1_p F s0 f4).isSome, ⟨(.int .i64 ((slices_IndexFunc_3int3int_impl_DeadPlaces_f1_p F s0 f4).getD default)), [], []⟩)
  | _, _ => none⟩
theorem slices_IndexFunc_3int3int_impl_DeadPlaces_f1_fok : FunOK Try.prog 71 := funOK Try.func71 (by kernel_rfl) rfl
theorem slices_IndexFunc_3int3int_impl_DeadPlaces_f1_meets (F : Nat) : Meets Try.prog 71 (slices_IndexFunc_3int3int_impl_DeadPlaces_f1_ent F) := by
  refine meets_of_runS mixed ttok deep (slices_IndexFunc_3int3int_impl_DeadPlaces_f1_tabok F) Try.func71 (body_some rfl) (slices_IndexFunc_3int3int_impl_DeadPlaces_f1_lsok1 F) fun args mem hfit ret h => ?_
  clear hfit
  simp only [slices_IndexFunc_3int3int_impl_DeadPlaces_f1_ent] at h
  split at h
  · rename_i s0 f4
    simp only [Option.some.injEq, Prod.mk.injEq] at h
    obtain ⟨hc, rfl⟩ := h
    exact ⟨[], [], 70, _, (slices_IndexFunc_3int3int_impl_DeadPlaces_f1_run F s0 f4).trans ((slices_IndexFunc_3int3int_impl_DeadPlaces_f1_cp _ F s0 f4 _).trans (bind_use hc _)), rfl, rfl, rfl⟩
  · cases h
end Go.Proofs.Ytplclbkelohajaa
