/-
Pure functions and what the code of them does, by program; without conditions.
-/
import Derived.Test.YtgpadaadcepgaaaTHP7
import Derived.Test.YtgpadaadcepgaaaTHS6
namespace Go.Proofs.Ytgpadaadcepgaaa
open Go Go.Lv Go.Lv.P Go.Proofs
set_option linter.unusedVariables false
set_option linter.unusedSimpArgs false
set_option maxRecDepth 100000
/-! loop.example/g01194/laws.heldStepS -/
noncomputable def laws_heldStepS_tab (F : Nat) : Tab := []
theorem laws_heldStepS_tabok (F : Nat) : TabOK Try.prog (laws_heldStepS_tab F) := tab_nil
noncomputable def laws_heldStepS_LS0 (F : Nat) : LT := []
theorem laws_heldStepS_lsok0 (F : Nat) : LoopsOK Try.prog (laws_heldStepS_LS0 F) (bodyOf Try.f27) := loopsOK_nil
theorem laws_heldStepS_keys : keysOK (bodyOf Try.f27) = true := by kernel_rfl
def laws_heldStepS_st8 (a0 : List (List Int)) (i2 : Int) (k1 : Int) (j3 : Int) : St := ⟨expand 47 0 [0, 1, 5, 6] [(.rr 4 a0), (.int .i64 k1), (.int .i64 i2), (.int .i64 j3)], [], 0, []⟩
def laws_heldStepS_o8 (a0 : List (List Int)) (i2 : Int) (x : Bool × Int) : GT := (.br x.1 (.out (.ret ⟨expand 47 0 [4] [(.int .i64 (-1 : Int))], [], 0, []⟩)) (.out (.exit 2 ⟨expand 47 0 [0, 1, 5] [(.rr 4 a0), (.int .i64 x.2), (.int .i64 i2)], [], 0, []⟩)))
def laws_heldStepS_ls8 (F : Nat) : LoopS := ⟨47, [0, 1, 5, 6], [], [0, 1, 5], [], [4], [], [], fun vals mem np killed => match vals, mem, np, killed with
  | [(.rr 4 a0), (.int .i64 k1), (.int .i64 i2), (.int .i64 j3)], [], 0, [] => .br (laws_heldStepS_l8 F a0 i2 k1 j3).isSome (laws_heldStepS_o8 a0 i2 ((laws_heldStepS_l8 F a0 i2 k1 j3).getD default)) .fail
  | _, _, _, _ => .fail⟩
theorem laws_heldStepS_step8 (F : Nat) (a0 : List (List Int)) (i2 : Int) (k1 : Int) (j3 : Int) {R : Type} (k : Out → Option R) : stepS tt (laws_heldStepS_tab F) (laws_heldStepS_LS0 F) 70 (laws_heldStepS_ls8 F) (loopAt 8 (bodyOf Try.f27)) (laws_heldStepS_st8 a0 i2 k1 j3) k = laws_heldStepS_s8 F a0 i2 R (k1, j3) (fun s => k (.norm (laws_heldStepS_st8 a0 i2 s.1 s.2))) (fun x => (laws_heldStepS_o8 a0 i2 x).run k) := by kernel_rfl
theorem laws_heldStepS_iter8 (F : Nat) (a0 : List (List Int)) (i2 : Int) {R : Type} (k : Out → Option R) : ∀ (n : Nat) (k1 : Int) (j3 : Int), iterS tt (laws_heldStepS_tab F) (laws_heldStepS_LS0 F) 70 (laws_heldStepS_ls8 F) (loopAt 8 (bodyOf Try.f27)) n (laws_heldStepS_st8 a0 i2 k1 j3) k = loopC (laws_heldStepS_s8 F a0 i2) n (k1, j3) (fun x => (laws_heldStepS_o8 a0 i2 x).run k)
  | 0, k1, j3 => rfl
  | n + 1, k1, j3 => (iterS_succ tt (laws_heldStepS_tab F) (laws_heldStepS_LS0 F) 70 (laws_heldStepS_ls8 F) (loopAt 8 (bodyOf Try.f27)) n (laws_heldStepS_st8 a0 i2 k1 j3) k).trans ((laws_heldStepS_step8 F a0 i2 k1 j3 (nextK (iterS tt (laws_heldStepS_tab F) (laws_heldStepS_LS0 F) 70 (laws_heldStepS_ls8 F) (loopAt 8 (bodyOf Try.f27)) n) k)).trans (congrArg (fun kn => laws_heldStepS_s8 F a0 i2 R (k1, j3) kn _) (funext (fun ⟨k1, j3⟩ => laws_heldStepS_iter8 F a0 i2 k n k1 j3))))
theorem laws_heldStepS_lok8 (F : Nat) : LoopOK Try.prog (loopAt 8 (bodyOf Try.f27)) (laws_heldStepS_ls8 F) := by
  refine loopOK_of mixed ttok deep (laws_heldStepS_tabok F) (loopsOK_at (laws_heldStepS_lsok0 F) 8) (fuel := 70) fun R vals mem np killed k x h => ?_
  simp only [laws_heldStepS_ls8] at h
  split at h
  · rename_i a0 k1 i2 j3
    simp only [GT.run] at h
    have hc := (cond_noneL h).1
    replace h := (cond_noneL h).2
    refine ⟨F, (laws_heldStepS_iter8 F a0 i2 k F k1 j3).trans ((loopC_use (laws_heldStepS_s8_nat F a0 i2) hc _).trans h)⟩
  · simp only [GT.run] at h
    cases h
noncomputable def laws_heldStepS_LS1 (F : Nat) : LT := (8, laws_heldStepS_ls8 F) :: laws_heldStepS_LS0 F
theorem laws_heldStepS_lsok1 (F : Nat) : LoopsOK Try.prog (laws_heldStepS_LS1 F) (bodyOf Try.f27) := loopsOK_cons laws_heldStepS_keys (laws_heldStepS_lok8 F) (laws_heldStepS_lsok0 F)
def laws_heldStepS_st2 (a0 : List (List Int)) (k1 : Int) (i2 : Int) : St := ⟨expand 47 0 [0, 1, 5] [(.rr 4 a0), (.int .i64 k1), (.int .i64 i2)], [], 0, []⟩
def laws_heldStepS_o2 (a0 : List (List Int)) (x : Bool × Int) : GT := (.br x.1 (.out (.ret ⟨expand 47 0 [4] [(.int .i64 (-1 : Int))], [], 0, []⟩)) (.out (.exit 0 ⟨expand 47 0 [1] [(.int .i64 x.2)], [], 0, []⟩)))
def laws_heldStepS_ls2 (F : Nat) : LoopS := ⟨47, [0, 1, 5], [], [1], [], [4], [], [], fun vals mem np killed => match vals, mem, np, killed with
  | [(.rr 4 a0), (.int .i64 k1), (.int .i64 i2)], [], 0, [] => .br (laws_heldStepS_l2 F a0 k1 i2).isSome (laws_heldStepS_o2 a0 ((laws_heldStepS_l2 F a0 k1 i2).getD default)) .fail
  | _, _, _, _ => .fail⟩
theorem laws_heldStepS_step2 (F : Nat) (a0 : List (List Int)) (k1 : Int) (i2 : Int) {R : Type} (k : Out → Option R) : stepS tt (laws_heldStepS_tab F) (laws_heldStepS_LS1 F) 70 (laws_heldStepS_ls2 F) (loopAt 2 (bodyOf Try.f27)) (laws_heldStepS_st2 a0 k1 i2) k = laws_heldStepS_s2 F a0 R (k1, i2) (fun s => k (.norm (laws_heldStepS_st2 a0 s.1 s.2))) (fun x => (laws_heldStepS_o2 a0 x).run k) := by kernel_rfl
theorem laws_heldStepS_iter2 (F : Nat) (a0 : List (List Int)) {R : Type} (k : Out → Option R) : ∀ (n : Nat) (k1 : Int) (i2 : Int), iterS tt (laws_heldStepS_tab F) (laws_heldStepS_LS1 F) 70 (laws_heldStepS_ls2 F) (loopAt 2 (bodyOf Try.f27)) n (laws_heldStepS_st2 a0 k1 i2) k = loopC (laws_heldStepS_s2 F a0) n (k1, i2) (fun x => (laws_heldStepS_o2 a0 x).run k)
  | 0, k1, i2 => rfl
  | n + 1, k1, i2 => (iterS_succ tt (laws_heldStepS_tab F) (laws_heldStepS_LS1 F) 70 (laws_heldStepS_ls2 F) (loopAt 2 (bodyOf Try.f27)) n (laws_heldStepS_st2 a0 k1 i2) k).trans ((laws_heldStepS_step2 F a0 k1 i2 (nextK (iterS tt (laws_heldStepS_tab F) (laws_heldStepS_LS1 F) 70 (laws_heldStepS_ls2 F) (loopAt 2 (bodyOf Try.f27)) n) k)).trans (congrArg (fun kn => laws_heldStepS_s2 F a0 R (k1, i2) kn _) (funext (fun ⟨k1, i2⟩ => laws_heldStepS_iter2 F a0 k n k1 i2))))
theorem laws_heldStepS_lok2 (F : Nat) : LoopOK Try.prog (loopAt 2 (bodyOf Try.f27)) (laws_heldStepS_ls2 F) := by
  refine loopOK_of mixed ttok deep (laws_heldStepS_tabok F) (loopsOK_at (laws_heldStepS_lsok1 F) 2) (fuel := 70) fun R vals mem np killed k x h => ?_
  simp only [laws_heldStepS_ls2] at h
  split at h
  · rename_i a0 k1 i2
    simp only [GT.run] at h
    have hc := (cond_noneL h).1
    replace h := (cond_noneL h).2
    refine ⟨F, (laws_heldStepS_iter2 F a0 k F k1 i2).trans ((loopC_use (laws_heldStepS_s2_nat F a0) hc _).trans h)⟩
  · simp only [GT.run] at h
    cases h
noncomputable def laws_heldStepS_LS2 (F : Nat) : LT := (2, laws_heldStepS_ls2 F) :: laws_heldStepS_LS1 F
theorem laws_heldStepS_lsok2 (F : Nat) : LoopsOK Try.prog (laws_heldStepS_LS2 F) (bodyOf Try.f27) := loopsOK_cons laws_heldStepS_keys (laws_heldStepS_lok2 F) (laws_heldStepS_lsok1 F)
theorem laws_heldStepS_run (F : Nat) (a0 : List (List Int)) (k1 : Int) : runS tt (laws_heldStepS_tab F) (laws_heldStepS_LS2 F) [] [] Try.f27 (bodyOf Try.f27) 70 [(.rr 4 a0), (.int .i64 k1)] [] = laws_heldStepS_c _ F a0 k1 (fun r => some ⟨(.int .i64 r), [], []⟩) := by kernel_rfl
def laws_heldStepS_ent (F : Nat) : Ent := ⟨[], .quiet, fun args mem => match args, mem with
  | [(.rr 4 a0), (.int .i64 k1)], [] => some ((laws_heldStepS_p F a0 k1).isSome, ⟨(.int .i64 ((laws_heldStepS_p F a0 k1).getD default)), [], []⟩)
  | _, _ => none⟩
theorem laws_heldStepS_fok : FunOK Try.prog 27 := funOK Try.func27 (by kernel_rfl) rfl
theorem laws_heldStepS_meets (F : Nat) : Meets Try.prog 27 (laws_heldStepS_ent F) := by
  refine meets_of_runS mixed ttok deep (laws_heldStepS_tabok F) Try.func27 (body_some rfl) (laws_heldStepS_lsok2 F) fun args mem hfit ret h => ?_
  clear hfit
  simp only [laws_heldStepS_ent] at h
  split at h
  · rename_i a0 k1
    simp only [Option.some.injEq, Prod.mk.injEq] at h
    obtain ⟨hc, rfl⟩ := h
    exact ⟨[], [], 70, _, (laws_heldStepS_run F a0 k1).trans ((laws_heldStepS_cp _ F a0 k1 _).trans (bind_use hc _)), rfl, rfl, rfl⟩
  · cases h

/-! loop.example/g01194/laws.FnExactStepBetween -/
noncomputable def laws_FnExactStepBetween_tab (F : Nat) : Tab := [(11, (laws_toBoard_ent F)), (23, (spec_StepBetween_ent F)), (24, (impl_StepBetween_ent F)), (25, (laws_eqStepS_ent F)), (26, (laws_markStepS_ent F)), (27, (laws_heldStepS_ent F))]
theorem laws_FnExactStepBetween_tabok (F : Nat) : TabOK Try.prog (laws_FnExactStepBetween_tab F) := (tab_cons (laws_toBoard_meets F) laws_toBoard_fok (tab_cons (spec_StepBetween_meets F) spec_StepBetween_fok (tab_cons (impl_StepBetween_meets F) impl_StepBetween_fok (tab_cons (laws_eqStepS_meets F) laws_eqStepS_fok (tab_cons (laws_markStepS_meets F) laws_markStepS_fok (tab_cons (laws_heldStepS_meets F) laws_heldStepS_fok tab_nil))))))
noncomputable def laws_FnExactStepBetween_LS0 (F : Nat) : LT := []
theorem laws_FnExactStepBetween_lsok0 (F : Nat) : LoopsOK Try.prog (laws_FnExactStepBetween_LS0 F) (bodyOf Try.f8) := loopsOK_nil
theorem laws_FnExactStepBetween_run (F : Nat) (aA0 : List Int) (aB1 : List Int) : runS tt (laws_FnExactStepBetween_tab F) (laws_FnExactStepBetween_LS0 F) [] [] Try.f8 (bodyOf Try.f8) 70 [(.ints 16 aA0), (.ints 16 aB1)] [] = laws_FnExactStepBetween_c _ F aA0 aB1 (fun r => some ⟨(.bool r), [], []⟩) := by kernel_rfl
def laws_FnExactStepBetween_ent (F : Nat) : Ent := ⟨[], .quiet, fun args mem => match args, mem with
  | [(.ints 16 aA0), (.ints 16 aB1)], [] => some ((laws_FnExactStepBetween_p F aA0 aB1).isSome, ⟨(.bool ((laws_FnExactStepBetween_p F aA0 aB1).getD default)), [], []⟩)
  | _, _ => none⟩
theorem laws_FnExactStepBetween_fok : FunOK Try.prog 8 := funOK Try.func8 (by kernel_rfl) rfl
theorem laws_FnExactStepBetween_meets (F : Nat) : Meets Try.prog 8 (laws_FnExactStepBetween_ent F) := by
  refine meets_of_runS mixed ttok deep (laws_FnExactStepBetween_tabok F) Try.func8 (body_some rfl) (laws_FnExactStepBetween_lsok0 F) fun args mem hfit ret h => ?_
  clear hfit
  simp only [laws_FnExactStepBetween_ent] at h
  split at h
  · rename_i aA0 aB1
    simp only [Option.some.injEq, Prod.mk.injEq] at h
    obtain ⟨hc, rfl⟩ := h
    exact ⟨[], [], 70, _, (laws_FnExactStepBetween_run F aA0 aB1).trans ((laws_FnExactStepBetween_cp _ F aA0 aB1 _).trans (bind_use hc _)), rfl, rfl, rfl⟩
  · cases h

/-! loop.example/g01194/laws.szStepS -/
noncomputable def laws_szStepS_tab (F : Nat) : Tab := []
theorem laws_szStepS_tabok (F : Nat) : TabOK Try.prog (laws_szStepS_tab F) := tab_nil
noncomputable def laws_szStepS_LS0 (F : Nat) : LT := []
theorem laws_szStepS_lsok0 (F : Nat) : LoopsOK Try.prog (laws_szStepS_LS0 F) (bodyOf Try.f28) := loopsOK_nil
theorem laws_szStepS_run (F : Nat) (a0 : List (List Int)) (left1 : Int) : runS tt (laws_szStepS_tab F) (laws_szStepS_LS0 F) [] [] Try.f28 (bodyOf Try.f28) 70 [(.rr 4 a0), (.int .i64 left1)] [] = laws_szStepS_c _ a0 left1 (fun r => some ⟨(.int .i64 r), [], []⟩) := by kernel_rfl
def laws_szStepS_ent (F : Nat) : Ent := ⟨[], .quiet, fun args mem => match args, mem with
  | [(.rr 4 a0), (.int .i64 left1)], [] => some (true, ⟨(.int .i64 (laws_szStepS_v a0 left1)), [], []⟩)
  | _, _ => none⟩
theorem laws_szStepS_fok : FunOK Try.prog 28 := funOK Try.func28 (by kernel_rfl) rfl
theorem laws_szStepS_meets (F : Nat) : Meets Try.prog 28 (laws_szStepS_ent F) := by
  refine meets_of_runS mixed ttok deep (laws_szStepS_tabok F) Try.func28 (body_some rfl) (laws_szStepS_lsok0 F) fun args mem hfit ret h => ?_
  clear hfit
  simp only [laws_szStepS_ent] at h
  split at h
  · rename_i a0 left1
    simp only [Option.some.injEq, Prod.mk.injEq] at h
    obtain ⟨hc, rfl⟩ := h
    exact ⟨[], [], 70, _, (laws_szStepS_run F a0 left1).trans (laws_szStepS_cv _ a0 left1 _), rfl, rfl, rfl⟩
  · cases h

/-! loop.example/g01194/laws.toStep -/
noncomputable def laws_toStep_tab (F : Nat) : Tab := [(15, (laws_toIntA2_ent F))]
theorem laws_toStep_tabok (F : Nat) : TabOK Try.prog (laws_toStep_tab F) := (tab_cons (laws_toIntA2_meets F) laws_toIntA2_fok tab_nil)
noncomputable def laws_toStep_LS0 (F : Nat) : LT := []
theorem laws_toStep_lsok0 (F : Nat) : LoopsOK Try.prog (laws_toStep_LS0 F) (bodyOf Try.f63) := loopsOK_nil
theorem laws_toStep_run (F : Nat) (a0 : List Int) : runS tt (laws_toStep_tab F) (laws_toStep_LS0 F) [] [] Try.f63 (bodyOf Try.f63) 70 [(.ints 4 a0)] [] = laws_toStep_c _ a0 (fun r => some ⟨(.ints 4 r), [], []⟩) := by kernel_rfl
def laws_toStep_ent (F : Nat) : Ent := ⟨[], .quiet, fun args mem => match args, mem with
  | [(.ints 4 a0)], [] => some (true, ⟨(.ints 4 (laws_toStep_v a0)), [], []⟩)
  | _, _ => none⟩
theorem laws_toStep_fok : FunOK Try.prog 63 := funOK Try.func63 (by kernel_rfl) rfl
theorem laws_toStep_meets (F : Nat) : Meets Try.prog 63 (laws_toStep_ent F) := by
  refine meets_of_runS mixed ttok deep (laws_toStep_tabok F) Try.func63 (body_some rfl) (laws_toStep_lsok0 F) fun args mem hfit ret h => ?_
  clear hfit
  simp only [laws_toStep_ent] at h
  split at h
  · rename_i a0
    simp only [Option.some.injEq, Prod.mk.injEq] at h
    obtain ⟨hc, rfl⟩ := h
    exact ⟨[], [], 70, _, (laws_toStep_run F a0).trans (laws_toStep_cv _ a0 _), rfl, rfl, rfl⟩
  · cases h

/-! loop.example/g01194/laws.toStepS -/
noncomputable def laws_toStepS_tab (F : Nat) : Tab := [(63, (laws_toStep_ent F))]
theorem laws_toStepS_tabok (F : Nat) : TabOK Try.prog (laws_toStepS_tab F) := (tab_cons (laws_toStep_meets F) laws_toStep_fok tab_nil)
noncomputable def laws_toStepS_LS0 (F : Nat) : LT := []
theorem laws_toStepS_lsok0 (F : Nat) : LoopsOK Try.prog (laws_toStepS_LS0 F) (bodyOf Try.f30) := loopsOK_nil
theorem laws_toStepS_keys : keysOK (bodyOf Try.f30) = true := by kernel_rfl
def laws_toStepS_st3 (a0 : List (List Int)) (out2 : Nat) (i3 : Int) (out4 : List (List Int)) : St := ⟨expand 23 0 [0, 3, 4] [(.rr 4 a0), (.sl 0 0 out2), (.int .i64 i3)], [(.vec 75 (.rr 4 out4))], 0, []⟩
def laws_toStepS_o3 (a0 : List (List Int)) (out2 : Nat) (x : List (List Int)) : GT := (.out (.exit 0 ⟨expand 23 0 [3] [(.sl 0 0 out2)], [(.vec 75 (.rr 4 x))], 0, []⟩))
def laws_toStepS_ls3 (F : Nat) : LoopS := ⟨23, [0, 3, 4], [], [3], [], [2], [], [], fun vals mem np killed => match vals, mem, np, killed with
  | [(.rr 4 a0), (.sl 0 0 out2), (.int .i64 i3)], [(.vec 75 (.rr 4 out4))], 0, [] => .br (laws_toStepS_l3 F a0 out2 i3 out4).isSome (laws_toStepS_o3 a0 out2 ((laws_toStepS_l3 F a0 out2 i3 out4).getD default)) .fail
  | _, _, _, _ => .fail⟩
theorem laws_toStepS_step3 (F : Nat) (a0 : List (List Int)) (out2 : Nat) (i3 : Int) (out4 : List (List Int)) {R : Type} (k : Out → Option R) : stepS tt (laws_toStepS_tab F) (laws_toStepS_LS0 F) 70 (laws_toStepS_ls3 F) (loopAt 3 (bodyOf Try.f30)) (laws_toStepS_st3 a0 out2 i3 out4) k = laws_toStepS_s3 F a0 out2 R (i3, out4) (fun s => k (.norm (laws_toStepS_st3 a0 out2 s.1 s.2))) (fun x => (laws_toStepS_o3 a0 out2 x).run k) := by kernel_rfl
theorem laws_toStepS_iter3 (F : Nat) (a0 : List (List Int)) (out2 : Nat) {R : Type} (k : Out → Option R) : ∀ (n : Nat) (i3 : Int) (out4 : List (List Int)), iterS tt (laws_toStepS_tab F) (laws_toStepS_LS0 F) 70 (laws_toStepS_ls3 F) (loopAt 3 (bodyOf Try.f30)) n (laws_toStepS_st3 a0 out2 i3 out4) k = loopC (laws_toStepS_s3 F a0 out2) n (i3, out4) (fun x => (laws_toStepS_o3 a0 out2 x).run k)
  | 0, i3, out4 => rfl
  | n + 1, i3, out4 => (iterS_succ tt (laws_toStepS_tab F) (laws_toStepS_LS0 F) 70 (laws_toStepS_ls3 F) (loopAt 3 (bodyOf Try.f30)) n (laws_toStepS_st3 a0 out2 i3 out4) k).trans ((laws_toStepS_step3 F a0 out2 i3 out4 (nextK (iterS tt (laws_toStepS_tab F) (laws_toStepS_LS0 F) 70 (laws_toStepS_ls3 F) (loopAt 3 (bodyOf Try.f30)) n) k)).trans (congrArg (fun kn => laws_toStepS_s3 F a0 out2 R (i3, out4) kn _) (funext (fun ⟨i3, out4⟩ => laws_toStepS_iter3 F a0 out2 k n i3 out4))))
theorem laws_toStepS_lok3 (F : Nat) : LoopOK Try.prog (loopAt 3 (bodyOf Try.f30)) (laws_toStepS_ls3 F) := by
  refine loopOK_of mixed ttok deep (laws_toStepS_tabok F) (loopsOK_at (laws_toStepS_lsok0 F) 3) (fuel := 70) fun R vals mem np killed k x h => ?_
  simp only [laws_toStepS_ls3] at h
  split at h
  · rename_i a0 out2 i3 out4
    simp only [GT.run] at h
    have hc := (cond_noneL h).1
    replace h := (cond_noneL h).2
    refine ⟨F, (laws_toStepS_iter3 F a0 out2 k F i3 out4).trans ((loopC_use (laws_toStepS_s3_nat F a0 out2) hc _).trans h)⟩
  · simp only [GT.run] at h
    cases h
noncomputable def laws_toStepS_LS1 (F : Nat) : LT := (3, laws_toStepS_ls3 F) :: laws_toStepS_LS0 F
theorem laws_toStepS_lsok1 (F : Nat) : LoopsOK Try.prog (laws_toStepS_LS1 F) (bodyOf Try.f30) := loopsOK_cons laws_toStepS_keys (laws_toStepS_lok3 F) (laws_toStepS_lsok0 F)
theorem laws_toStepS_run (F : Nat) (a0 : List (List Int)) : runS tt (laws_toStepS_tab F) (laws_toStepS_LS1 F) [] [] Try.f30 (bodyOf Try.f30) 70 [(.rr 4 a0)] [] = laws_toStepS_c _ F a0 (fun r => some ⟨(.sl 0 0 r.1), [(.vec 75 (.rr 4 r.2))], []⟩) := by kernel_rfl
def laws_toStepS_ent (F : Nat) : Ent := ⟨[], .fresh, fun args mem => match args, mem with
  | [(.rr 4 a0)], [] => some ((laws_toStepS_p F a0).isSome, ⟨(.sl 0 0 ((laws_toStepS_p F a0).getD default).1), [(.vec 75 (.rr 4 ((laws_toStepS_p F a0).getD default).2))], []⟩)
  | _, _ => none⟩
theorem laws_toStepS_fok : FunOK Try.prog 30 := funOK Try.func30 (by kernel_rfl) rfl
theorem laws_toStepS_meets (F : Nat) : Meets Try.prog 30 (laws_toStepS_ent F) := by
  refine meets_of_runS mixed ttok deep (laws_toStepS_tabok F) Try.func30 (body_some rfl) (laws_toStepS_lsok1 F) fun args mem hfit ret h => ?_
  clear hfit
  simp only [laws_toStepS_ent] at h
  split at h
  · rename_i a0
    simp only [Option.some.injEq, Prod.mk.injEq] at h
    obtain ⟨hc, rfl⟩ := h
    exact ⟨[], [], 70, _, (laws_toStepS_run F a0).trans ((laws_toStepS_cp _ F a0 _).trans (bind_use hc _)), rfl, rfl, rfl⟩
  · cases h

/-! loop.example/g01194/spec.PlaySteps -/
noncomputable def spec_PlaySteps_tab (F : Nat) : Tab := [(34, (spec_l2Board_ent F)), (55, (spec_l5Do_ent F))]
theorem spec_PlaySteps_tabok (F : Nat) : TabOK Try.prog (spec_PlaySteps_tab F) := (tab_cons (spec_l2Board_meets F) spec_l2Board_fok (tab_cons (spec_l5Do_meets F) spec_l5Do_fok tab_nil))
noncomputable def spec_PlaySteps_LS0 (F : Nat) : LT := []
theorem spec_PlaySteps_lsok0 (F : Nat) : LoopsOK Try.prog (spec_PlaySteps_LS0 F) (bodyOf Try.f29) := loopsOK_nil
theorem spec_PlaySteps_keys : keysOK (bodyOf Try.f29) = true := by kernel_rfl
def spec_PlaySteps_st5 (list0 : List (List Int)) (sum7 : Int) (i8 : Int) (b9 : List Int) : St := ⟨expand 46 0 [1, 2, 4, 8, 9] [(.rr 4 list0), (.ptr 0 0 0 16), (.ptr 1 0 0 16), (.int .i64 sum7), (.int .i64 i8)], [(.var 16 (.ri .i64 b9)), (.var 16 (.ri .i64 [(0 : Int), (0 : Int), (0 : Int), (0 : Int), (0 : Int), (0 : Int), (0 : Int), (0 : Int), (0 : Int), (0 : Int), (0 : Int), (0 : Int), (0 : Int), (0 : Int), (0 : Int), (0 : Int)]))], 0, []⟩
def spec_PlaySteps_o5 (list0 : List (List Int)) (x : Bool × Int × Int × List Int × Int × List Int) : GT := (.br x.1 (.out (.ret ⟨expand 46 0 [4, 5, 6, 7] [(.ptr 0 0 0 16), (.int .i64 x.2.1), (.int .i64 x.2.2.1), (.bool true)], [(.var 16 (.ri .i64 x.2.2.2.1))], 0, []⟩)) (.out (.exit 0 ⟨expand 46 0 [1, 2, 4, 8] [(.rr 4 list0), (.ptr 0 0 0 16), (.ptr 1 0 0 16), (.int .i64 x.2.2.2.2.1)], [(.var 16 (.ri .i64 x.2.2.2.2.2)), (.var 16 (.ri .i64 [(0 : Int), (0 : Int), (0 : Int), (0 : Int), (0 : Int), (0 : Int), (0 : Int), (0 : Int), (0 : Int), (0 : Int), (0 : Int), (0 : Int), (0 : Int), (0 : Int), (0 : Int), (0 : Int)]))], 0, []⟩)))
def spec_PlaySteps_ls5 (F : Nat) : LoopS := ⟨46, [1, 2, 4, 8, 9], [], [1, 2, 4, 8], [], [4, 5, 6, 7], [], [], fun vals mem np killed => match vals, mem, np, killed with
  | [(.rr 4 list0), (.ptr 0 0 0 16), (.ptr 1 0 0 16), (.int .i64 sum7), (.int .i64 i8)], [(.var 16 (.ri .i64 b9)), (.var 16 (.ri .i64 q_t410))], 0, [] => .br ((q_t410 == ([(0 : Int), (0 : Int), (0 : Int), (0 : Int), (0 : Int), (0 : Int), (0 : Int), (0 : Int), (0 : Int), (0 : Int), (0 : Int), (0 : Int), (0 : Int), (0 : Int), (0 : Int), (0 : Int)] : List Int)) && (spec_PlaySteps_l5 F list0 sum7 i8 b9).isSome) (spec_PlaySteps_o5 list0 ((spec_PlaySteps_l5 F list0 sum7 i8 b9).getD default)) .fail
  | _, _, _, _ => .fail⟩
theorem spec_PlaySteps_step5 (F : Nat) (list0 : List (List Int)) (sum7 : Int) (i8 : Int) (b9 : List Int) {R : Type} (k : Out → Option R) : stepS tt (spec_PlaySteps_tab F) (spec_PlaySteps_LS0 F) 70 (spec_PlaySteps_ls5 F) (loopAt 5 (bodyOf Try.f29)) (spec_PlaySteps_st5 list0 sum7 i8 b9) k = spec_PlaySteps_s5 F list0 R (sum7, i8, b9) (fun s => k (.norm (spec_PlaySteps_st5 list0 s.1 s.2.1 s.2.2))) (fun x => (spec_PlaySteps_o5 list0 x).run k) := by kernel_rfl
theorem spec_PlaySteps_iter5 (F : Nat) (list0 : List (List Int)) {R : Type} (k : Out → Option R) : ∀ (n : Nat) (sum7 : Int) (i8 : Int) (b9 : List Int), iterS tt (spec_PlaySteps_tab F) (spec_PlaySteps_LS0 F) 70 (spec_PlaySteps_ls5 F) (loopAt 5 (bodyOf Try.f29)) n (spec_PlaySteps_st5 list0 sum7 i8 b9) k = loopC (spec_PlaySteps_s5 F list0) n (sum7, i8, b9) (fun x => (spec_PlaySteps_o5 list0 x).run k)
  | 0, sum7, i8, b9 => rfl
  | n + 1, sum7, i8, b9 => (iterS_succ tt (spec_PlaySteps_tab F) (spec_PlaySteps_LS0 F) 70 (spec_PlaySteps_ls5 F) (loopAt 5 (bodyOf Try.f29)) n (spec_PlaySteps_st5 list0 sum7 i8 b9) k).trans ((spec_PlaySteps_step5 F list0 sum7 i8 b9 (nextK (iterS tt (spec_PlaySteps_tab F) (spec_PlaySteps_LS0 F) 70 (spec_PlaySteps_ls5 F) (loopAt 5 (bodyOf Try.f29)) n) k)).trans (congrArg (fun kn => spec_PlaySteps_s5 F list0 R (sum7, i8, b9) kn _) (funext (fun ⟨sum7, i8, b9⟩ => spec_PlaySteps_iter5 F list0 k n sum7 i8 b9))))
theorem spec_PlaySteps_lok5 (F : Nat) : LoopOK Try.prog (loopAt 5 (bodyOf Try.f29)) (spec_PlaySteps_ls5 F) := by
  refine loopOK_of mixed ttok deep (spec_PlaySteps_tabok F) (loopsOK_at (spec_PlaySteps_lsok0 F) 5) (fuel := 70) fun R vals mem np killed k x h => ?_
  simp only [spec_PlaySteps_ls5] at h
  split at h
  · rename_i list0 sum7 i8 b9 q_t410
    simp only [GT.run] at h
    have hc := (cond_noneL h).1
    replace h := (cond_noneL h).2
    have hg := (and_split hc).1
    replace hc := (and_split hc).2
    obtain rfl := beq_li hg
    refine ⟨F, (spec_PlaySteps_iter5 F list0 k F sum7 i8 b9).trans ((loopC_use (spec_PlaySteps_s5_nat F list0) hc _).trans h)⟩
  · simp only [GT.run] at h
    cases h
noncomputable def spec_PlaySteps_LS1 (F : Nat) : LT := (5, spec_PlaySteps_ls5 F) :: spec_PlaySteps_LS0 F
theorem spec_PlaySteps_lsok1 (F : Nat) : LoopsOK Try.prog (spec_PlaySteps_LS1 F) (bodyOf Try.f29) := loopsOK_cons spec_PlaySteps_keys (spec_PlaySteps_lok5 F) (spec_PlaySteps_lsok0 F)
theorem spec_PlaySteps_run (F : Nat) (b0 : List Int) (list1 : List (List Int)) : runS tt (spec_PlaySteps_tab F) (spec_PlaySteps_LS1 F) [] [] Try.f29 (bodyOf Try.f29) 70 [(.ints 16 b0), (.rr 4 list1)] [] = spec_PlaySteps_c _ F b0 list1 (fun r => some ⟨(.tup [(.ints 16 r.1), (.int .i64 r.2.1), (.int .i64 r.2.2.1), (.bool r.2.2.2)]), [], []⟩) := by kernel_rfl
def spec_PlaySteps_ent (F : Nat) : Ent := ⟨[], .quiet, fun args mem => match args, mem with
  | [(.ints 16 b0), (.rr 4 list1)], [] => some ((spec_PlaySteps_p F b0 list1).isSome, ⟨(.tup [(.ints 16 ((spec_PlaySteps_p F b0 list1).getD default).1), (.int .i64 ((spec_PlaySteps_p F b0 list1).getD default).2.1), (.int .i64 ((spec_PlaySteps_p F b0 list1).getD default).2.2.1), (.bool ((spec_PlaySteps_p F b0 list1).getD default).2.2.2)]), [], []⟩)
  | _, _ => none⟩
theorem spec_PlaySteps_fok : FunOK Try.prog 29 := funOK Try.func29 (by kernel_rfl) rfl
theorem spec_PlaySteps_meets (F : Nat) : Meets Try.prog 29 (spec_PlaySteps_ent F) := by
  refine meets_of_runS mixed ttok deep (spec_PlaySteps_tabok F) Try.func29 (body_some rfl) (spec_PlaySteps_lsok1 F) fun args mem hfit ret h => ?_
  clear hfit
  simp only [spec_PlaySteps_ent] at h
  split at h
  · rename_i b0 list1
    simp only [Option.some.injEq, Prod.mk.injEq] at h
    obtain ⟨hc, rfl⟩ := h
    exact ⟨[], [], 70, _, (spec_PlaySteps_run F b0 list1).trans ((spec_PlaySteps_cp _ F b0 list1 _).trans (bind_use hc _)), rfl, rfl, rfl⟩
  · cases h

/-! slices.Index[[]loop.example/g01194/impl.Step,loop.example/g01194/impl.Step] -/
noncomputable def slices_Index_implStepimplStep_tab (F : Nat) : Tab := []
theorem slices_Index_implStepimplStep_tabok (F : Nat) : TabOK Try.prog (slices_Index_implStepimplStep_tab F) := tab_nil
noncomputable def slices_Index_implStepimplStep_LS0 (F : Nat) : LT := []
theorem slices_Index_implStepimplStep_lsok0 (F : Nat) : LoopsOK Try.prog (slices_Index_implStepimplStep_LS0 F) (bodyOf Try.f106) := loopsOK_nil
theorem slices_Index_implStepimplStep_keys : keysOK (bodyOf Try.f106) = true := by kernel_rfl
def slices_Index_implStepimplStep_st2 (s0 : List (List Int)) (t74 : Int) (v6 : List Int) (t85 : Int) : St := ⟨expand 19 0 [0, 3, 7, 8] [(.rr 4 s0), (.ptr 0 0 0 4), (.int .i64 t74), (.int .i64 t85)], [(.var 4 (.ri .i64 v6))], 0, []⟩
def slices_Index_implStepimplStep_o2 (s0 : List (List Int)) (t74 : Int) (v6 : List Int) (x : Bool × Int) : GT := (.br x.1 (.out (.ret ⟨expand 19 0 [4] [(.int .i64 x.2)], [], 0, []⟩)) (.out (.exit 0 ⟨expand 19 0 [] [], [], 0, []⟩)))
def slices_Index_implStepimplStep_ls2 (F : Nat) : LoopS := ⟨19, [0, 3, 7, 8], [], [], [], [4], [], [], fun vals mem np killed => match vals, mem, np, killed with
  | [(.rr 4 s0), (.ptr 0 0 0 4), (.int .i64 t74), (.int .i64 t85)], [(.var 4 (.ri .i64 v6))], 0, [] => .br (slices_Index_implStepimplStep_l2 F s0 t74 v6 t85).isSome (slices_Index_implStepimplStep_o2 s0 t74 v6 ((slices_Index_implStepimplStep_l2 F s0 t74 v6 t85).getD default)) .fail
  | _, _, _, _ => .fail⟩
theorem slices_Index_implStepimplStep_step2 (F : Nat) (s0 : List (List Int)) (t74 : Int) (v6 : List Int) (t85 : Int) {R : Type} (k : Out → Option R) : stepS tt (slices_Index_implStepimplStep_tab F) (slices_Index_implStepimplStep_LS0 F) 70 (slices_Index_implStepimplStep_ls2 F) (loopAt 2 (bodyOf Try.f106)) (slices_Index_implStepimplStep_st2 s0 t74 v6 t85) k = slices_Index_implStepimplStep_s2 F s0 t74 v6 R t85 (fun s => k (.norm (slices_Index_implStepimplStep_st2 s0 t74 v6 s))) (fun x => (slices_Index_implStepimplStep_o2 s0 t74 v6 x).run k) := by kernel_rfl
theorem slices_Index_implStepimplStep_iter2 (F : Nat) (s0 : List (List Int)) (t74 : Int) (v6 : List Int) {R : Type} (k : Out → Option R) : ∀ (n : Nat) (t85 : Int), iterS tt (slices_Index_implStepimplStep_tab F) (slices_Index_implStepimplStep_LS0 F) 70 (slices_Index_implStepimplStep_ls2 F) (loopAt 2 (bodyOf Try.f106)) n (slices_Index_implStepimplStep_st2 s0 t74 v6 t85) k = loopC (slices_Index_implStepimplStep_s2 F s0 t74 v6) n t85 (fun x => (slices_Index_implStepimplStep_o2 s0 t74 v6 x).run k)
  | 0, t85 => rfl
  | n + 1, t85 => (iterS_succ tt (slices_Index_implStepimplStep_tab F) (slices_Index_implStepimplStep_LS0 F) 70 (slices_Index_implStepimplStep_ls2 F) (loopAt 2 (bodyOf Try.f106)) n (slices_Index_implStepimplStep_st2 s0 t74 v6 t85) k).trans ((slices_Index_implStepimplStep_step2 F s0 t74 v6 t85 (nextK (iterS tt (slices_Index_implStepimplStep_tab F) (slices_Index_implStepimplStep_LS0 F) 70 (slices_Index_implStepimplStep_ls2 F) (loopAt 2 (bodyOf Try.f106)) n) k)).trans (congrArg (fun kn => slices_Index_implStepimplStep_s2 F s0 t74 v6 R t85 kn _) (funext (fun t85 => slices_Index_implStepimplStep_iter2 F s0 t74 v6 k n t85))))
theorem slices_Index_implStepimplStep_lok2 (F : Nat) : LoopOK Try.prog (loopAt 2 (bodyOf Try.f106)) (slices_Index_implStepimplStep_ls2 F) := by
  refine loopOK_of mixed ttok deep (slices_Index_implStepimplStep_tabok F) (loopsOK_at (slices_Index_implStepimplStep_lsok0 F) 2) (fuel := 70) fun R vals mem np killed k x h => ?_
  simp only [slices_Index_implStepimplStep_ls2] at h
  split at h
  · rename_i s0 t74 t85 v6
    simp only [GT.run] at h
    have hc := (cond_noneL h).1
    replace h := (cond_noneL h).2
    refine ⟨F, (slices_Index_implStepimplStep_iter2 F s0 t74 v6 k F t85).trans ((loopC_use (slices_Index_implStepimplStep_s2_nat F s0 t74 v6) hc _).trans h)⟩
  · simp only [GT.run] at h
    cases h
noncomputable def slices_Index_implStepimplStep_LS1 (F : Nat) : LT := (2, slices_Index_implStepimplStep_ls2 F) :: slices_Index_implStepimplStep_LS0 F
theorem slices_Index_implStepimplStep_lsok1 (F : Nat) : LoopsOK Try.prog (slices_Index_implStepimplStep_LS1 F) (bodyOf Try.f106) := loopsOK_cons slices_Index_implStepimplStep_keys (slices_Index_implStepimplStep_lok2 F) (slices_Index_implStepimplStep_lsok0 F)
theorem slices_Index_implStepimplStep_run (F : Nat) (s0 : List (List Int)) (v1 : List Int) : runS tt (slices_Index_implStepimplStep_tab F) (slices_Index_implStepimplStep_LS1 F) [] [] Try.f106 (bodyOf Try.f106) 70 [(.rr 4 s0), (.ints 4 v1)] [] = slices_Index_implStepimplStep_c _ F s0 v1 (fun r => some ⟨(.int .i64 r), [], []⟩) := by kernel_rfl
def slices_Index_implStepimplStep_ent (F : Nat) : Ent := ⟨[], .quiet, fun args mem => match args, mem with
  | [(.rr 4 s0), (.ints 4 v1)], [] => some ((slices_Index_implStepimplStep_p F s0 v1).isSome, ⟨(.int .i64 ((slices_Index_implStepimplStep_p F s0 v1).getD default)), [], []⟩)
  | _, _ => none⟩
theorem slices_Index_implStepimplStep_fok : FunOK Try.prog 106 := funOK Try.func106 (by kernel_rfl) rfl
theorem slices_Index_implStepimplStep_meets (F : Nat) : Meets Try.prog 106 (slices_Index_implStepimplStep_ent F) := by
  refine meets_of_runS mixed ttok deep (slices_Index_implStepimplStep_tabok F) Try.func106 (body_some rfl) (slices_Index_implStepimplStep_lsok1 F) fun args mem hfit ret h => ?_
  clear hfit
  simp only [slices_Index_implStepimplStep_ent] at h
  split at h
  · rename_i s0 v1
    simp only [Option.some.injEq, Prod.mk.injEq] at h
    obtain ⟨hc, rfl⟩ := h
    exact ⟨[], [], 70, _, (slices_Index_implStepimplStep_run F s0 v1).trans ((slices_Index_implStepimplStep_cp _ F s0 v1 _).trans (bind_use hc _)), rfl, rfl, rfl⟩
  · cases h

/-! slices.Contains[[]loop.example/g01194/impl.Step,loop.example/g01194/impl.Step] -/
noncomputable def slices_Contains_implStepimplStep_tab (F : Nat) : Tab := [(106, (slices_Index_implStepimplStep_ent F))]
theorem slices_Contains_implStepimplStep_tabok (F : Nat) : TabOK Try.prog (slices_Contains_implStepimplStep_tab F) := (tab_cons (slices_Index_implStepimplStep_meets F) slices_Index_implStepimplStep_fok tab_nil)
noncomputable def slices_Contains_implStepimplStep_LS0 (F : Nat) : LT := []
theorem slices_Contains_implStepimplStep_lsok0 (F : Nat) : LoopsOK Try.prog (slices_Contains_implStepimplStep_LS0 F) (bodyOf Try.f87) := loopsOK_nil
theorem slices_Contains_implStepimplStep_run (F : Nat) (s0 : List (List Int)) (v1 : List Int) : runS tt (slices_Contains_implStepimplStep_tab F) (slices_Contains_implStepimplStep_LS0 F) [] [] Try.f87 (bodyOf Try.f87) 70 [(.rr 4 s0), (.ints 4 v1)] [] = slices_Contains_implStepimplStep_c _ F s0 v1 (fun r => some ⟨(.bool r), [], []⟩) := by kernel_rfl
def slices_Contains_implStepimplStep_ent (F : Nat) : Ent := ⟨[], .quiet, fun args mem => match args, mem with
  | [(.rr 4 s0), (.ints 4 v1)], [] => some ((slices_Contains_implStepimplStep_p F s0 v1).isSome, ⟨(.bool ((slices_Contains_implStepimplStep_p F s0 v1).getD default)), [], []⟩)
  | _, _ => none⟩
theorem slices_Contains_implStepimplStep_fok : FunOK Try.prog 87 := funOK Try.func87 (by kernel_rfl) rfl
theorem slices_Contains_implStepimplStep_meets (F : Nat) : Meets Try.prog 87 (slices_Contains_implStepimplStep_ent F) := by
  refine meets_of_runS mixed ttok deep (slices_Contains_implStepimplStep_tabok F) Try.func87 (body_some rfl) (slices_Contains_implStepimplStep_lsok0 F) fun args mem hfit ret h => ?_
  clear hfit
  simp only [slices_Contains_implStepimplStep_ent] at h
  split at h
  · rename_i s0 v1
    simp only [Option.some.injEq, Prod.mk.injEq] at h
    obtain ⟨hc, rfl⟩ := h
    exact ⟨[], [], 70, _, (slices_Contains_implStepimplStep_run F s0 v1).trans ((slices_Contains_implStepimplStep_cp _ F s0 v1 _).trans (bind_use hc _)), rfl, rfl, rfl⟩
  · cases h

/-! (loop.example/g01194/impl.Board).isStep -/
noncomputable def impl_Board_isStep_tab (F : Nat) : Tab := [(86, (impl_isDirection_ent F)), (46, (impl_isCell_ent F)), (85, (impl_Board_steps_ent F)), (87, (slices_Contains_implStepimplStep_ent F))]
theorem impl_Board_isStep_tabok (F : Nat) : TabOK Try.prog (impl_Board_isStep_tab F) := (tab_cons (impl_isDirection_meets F) impl_isDirection_fok (tab_cons (impl_isCell_meets F) impl_isCell_fok (tab_cons (impl_Board_steps_meets F) impl_Board_steps_fok (tab_cons (slices_Contains_implStepimplStep_meets F) slices_Contains_implStepimplStep_fok tab_nil))))
noncomputable def impl_Board_isStep_LS0 (F : Nat) : LT := []
theorem impl_Board_isStep_lsok0 (F : Nat) : LoopsOK Try.prog (impl_Board_isStep_LS0 F) (bodyOf Try.f64) := loopsOK_nil
theorem impl_Board_isStep_run (F : Nat) (b0 : List Int) (s1 : List Int) : runS tt (impl_Board_isStep_tab F) (impl_Board_isStep_LS0 F) [] [] Try.f64 (bodyOf Try.f64) 70 [(.ints 16 b0), (.ints 4 s1)] [] = impl_Board_isStep_c _ F b0 s1 (fun r => some ⟨(.bool r), [], []⟩) := by kernel_rfl
def impl_Board_isStep_ent (F : Nat) : Ent := ⟨[], .quiet, fun args mem => match args, mem with
  | [(.ints 16 b0), (.ints 4 s1)], [] => some ((impl_Board_isStep_p F b0 s1).isSome, ⟨(.bool ((impl_Board_isStep_p F b0 s1).getD default)), [], []⟩)
  | _, _ => none⟩
theorem impl_Board_isStep_fok : FunOK Try.prog 64 := funOK Try.func64 (by kernel_rfl) rfl
theorem impl_Board_isStep_meets (F : Nat) : Meets Try.prog 64 (impl_Board_isStep_ent F) := by
  refine meets_of_runS mixed ttok deep (impl_Board_isStep_tabok F) Try.func64 (body_some rfl) (impl_Board_isStep_lsok0 F) fun args mem hfit ret h => ?_
  clear hfit
  simp only [impl_Board_isStep_ent] at h
  split at h
  · rename_i b0 s1
    simp only [Option.some.injEq, Prod.mk.injEq] at h
    obtain ⟨hc, rfl⟩ := h
    exact ⟨[], [], 70, _, (impl_Board_isStep_run F b0 s1).trans ((impl_Board_isStep_cp _ F b0 s1 _).trans (bind_use hc _)), rfl, rfl, rfl⟩
  · cases h

/-! loop.example/g01194/impl.PlaySteps -/
noncomputable def impl_PlaySteps_tab (F : Nat) : Tab := [(40, (impl_IsBoard_ent F)), (64, (impl_Board_isStep_ent F)), (59, (impl_Board_behind_ent F))]
theorem impl_PlaySteps_tabok (F : Nat) : TabOK Try.prog (impl_PlaySteps_tab F) := (tab_cons (impl_IsBoard_meets F) impl_IsBoard_fok (tab_cons (impl_Board_isStep_meets F) impl_Board_isStep_fok (tab_cons (impl_Board_behind_meets F) impl_Board_behind_fok tab_nil)))
noncomputable def impl_PlaySteps_LS0 (F : Nat) : LT := []
theorem impl_PlaySteps_lsok0 (F : Nat) : LoopsOK Try.prog (impl_PlaySteps_LS0 F) (bodyOf Try.f31) := loopsOK_nil
theorem impl_PlaySteps_keys : keysOK (bodyOf Try.f31) = true := by kernel_rfl
def impl_PlaySteps_st5 (list0 : List (List Int)) (t178 : List (List Int)) (t189 : Int) (sum7 : Int) (t1910 : Int) (b11 : List Int) : St := ⟨expand 46 0 [1, 2, 4, 8, 17, 18, 19] [(.rr 4 list0), (.ptr 0 0 0 16), (.ptr 1 0 0 16), (.int .i64 sum7), (.rr 4 t178), (.int .i64 t189), (.int .i64 t1910)], [(.var 16 (.ri .i64 b11)), (.var 16 (.ri .i64 [(0 : Int), (0 : Int), (0 : Int), (0 : Int), (0 : Int), (0 : Int), (0 : Int), (0 : Int), (0 : Int), (0 : Int), (0 : Int), (0 : Int), (0 : Int), (0 : Int), (0 : Int), (0 : Int)]))], 0, []⟩
def impl_PlaySteps_o5 (list0 : List (List Int)) (t178 : List (List Int)) (t189 : Int) (x : Bool × Int × Int × List Int × Int × List Int) : GT := (.br x.1 (.out (.ret ⟨expand 46 0 [4, 5, 6, 7] [(.ptr 0 0 0 16), (.int .i64 x.2.1), (.int .i64 x.2.2.1), (.bool true)], [(.var 16 (.ri .i64 x.2.2.2.1))], 0, []⟩)) (.out (.exit 0 ⟨expand 46 0 [1, 2, 4, 8] [(.rr 4 list0), (.ptr 0 0 0 16), (.ptr 1 0 0 16), (.int .i64 x.2.2.2.2.1)], [(.var 16 (.ri .i64 x.2.2.2.2.2)), (.var 16 (.ri .i64 [(0 : Int), (0 : Int), (0 : Int), (0 : Int), (0 : Int), (0 : Int), (0 : Int), (0 : Int), (0 : Int), (0 : Int), (0 : Int), (0 : Int), (0 : Int), (0 : Int), (0 : Int), (0 : Int)]))], 0, []⟩)))
def impl_PlaySteps_ls5 (F : Nat) : LoopS := ⟨46, [1, 2, 4, 8, 17, 18, 19], [], [1, 2, 4, 8], [], [4, 5, 6, 7], [], [], fun vals mem np killed => match vals, mem, np, killed with
  | [(.rr 4 list0), (.ptr 0 0 0 16), (.ptr 1 0 0 16), (.int .i64 sum7), (.rr 4 t178), (.int .i64 t189), (.int .i64 t1910)], [(.var 16 (.ri .i64 b11)), (.var 16 (.ri .i64 q_t412))], 0, [] => .br ((q_t412 == ([(0 : Int), (0 : Int), (0 : Int), (0 : Int), (0 : Int), (0 : Int), (0 : Int), (0 : Int), (0 : Int), (0 : Int), (0 : Int), (0 : Int), (0 : Int), (0 : Int), (0 : Int), (0 : Int)] : List Int)) && (impl_PlaySteps_l5 F list0 t178 t189 sum7 t1910 b11).isSome) (impl_PlaySteps_o5 list0 t178 t189 ((impl_PlaySteps_l5 F list0 t178 t189 sum7 t1910 b11).getD default)) .fail
  | _, _, _, _ => .fail⟩
theorem impl_PlaySteps_step5 (F : Nat) (list0 : List (List Int)) (t178 : List (List Int)) (t189 : Int) (sum7 : Int) (t1910 : Int) (b11 : List Int) {R : Type} (k : Out → Option R) : stepS tt (impl_PlaySteps_tab F) (impl_PlaySteps_LS0 F) 70 (impl_PlaySteps_ls5 F) (loopAt 5 (bodyOf Try.f31)) (impl_PlaySteps_st5 list0 t178 t189 sum7 t1910 b11) k = impl_PlaySteps_s5 F list0 t178 t189 R (sum7, t1910, b11) (fun s => k (.norm (impl_PlaySteps_st5 list0 t178 t189 s.1 s.2.1 s.2.2))) (fun x => (impl_PlaySteps_o5 list0 t178 t189 x).run k) := by kernel_rfl
theorem impl_PlaySteps_iter5 (F : Nat) (list0 : List (List Int)) (t178 : List (List Int)) (t189 : Int) {R : Type} (k : Out → Option R) : ∀ (n : Nat) (sum7 : Int) (t1910 : Int) (b11 : List Int), iterS tt (impl_PlaySteps_tab F) (impl_PlaySteps_LS0 F) 70 (impl_PlaySteps_ls5 F) (loopAt 5 (bodyOf Try.f31)) n (impl_PlaySteps_st5 list0 t178 t189 sum7 t1910 b11) k = loopC (impl_PlaySteps_s5 F list0 t178 t189) n (sum7, t1910, b11) (fun x => (impl_PlaySteps_o5 list0 t178 t189 x).run k)
  | 0, sum7, t1910, b11 => rfl
  | n + 1, sum7, t1910, b11 => (iterS_succ tt (impl_PlaySteps_tab F) (impl_PlaySteps_LS0 F) 70 (impl_PlaySteps_ls5 F) (loopAt 5 (bodyOf Try.f31)) n (impl_PlaySteps_st5 list0 t178 t189 sum7 t1910 b11) k).trans ((impl_PlaySteps_step5 F list0 t178 t189 sum7 t1910 b11 (nextK (iterS tt (impl_PlaySteps_tab F) (impl_PlaySteps_LS0 F) 70 (impl_PlaySteps_ls5 F) (loopAt 5 (bodyOf Try.f31)) n) k)).trans (congrArg (fun kn => impl_PlaySteps_s5 F list0 t178 t189 R (sum7, t1910, b11) kn _) (funext (fun ⟨sum7, t1910, b11⟩ => impl_PlaySteps_iter5 F list0 t178 t189 k n sum7 t1910 b11))))
theorem impl_PlaySteps_lok5 (F : Nat) : LoopOK Try.prog (loopAt 5 (bodyOf Try.f31)) (impl_PlaySteps_ls5 F) := by
  refine loopOK_of mixed ttok deep (impl_PlaySteps_tabok F) (loopsOK_at (impl_PlaySteps_lsok0 F) 5) (fuel := 70) fun R vals mem np killed k x h => ?_
  simp only [impl_PlaySteps_ls5] at h
  split at h
  · rename_i list0 sum7 t178 t189 t1910 b11 q_t412
    simp only [GT.run] at h
    have hc := (cond_noneL h).1
    replace h := (cond_noneL h).2
    have hg := (and_split hc).1
    replace hc := (and_split hc).2
    obtain rfl := beq_li hg
    refine ⟨F, (impl_PlaySteps_iter5 F list0 t178 t189 k F sum7 t1910 b11).trans ((loopC_use (impl_PlaySteps_s5_nat F list0 t178 t189) hc _).trans h)⟩
  · simp only [GT.run] at h
    cases h
noncomputable def impl_PlaySteps_LS1 (F : Nat) : LT := (5, impl_PlaySteps_ls5 F) :: impl_PlaySteps_LS0 F
theorem impl_PlaySteps_lsok1 (F : Nat) : LoopsOK Try.prog (impl_PlaySteps_LS1 F) (bodyOf Try.f31) := loopsOK_cons impl_PlaySteps_keys (impl_PlaySteps_lok5 F) (impl_PlaySteps_lsok0 F)
theorem impl_PlaySteps_run (F : Nat) (b0 : List Int) (list1 : List (List Int)) : runS tt (impl_PlaySteps_tab F) (impl_PlaySteps_LS1 F) [] [] Try.f31 (bodyOf Try.f31) 70 [(.ints 16 b0), (.rr 4 list1)] [] = impl_PlaySteps_c _ F b0 list1 (fun r => some ⟨(.tup [(.ints 16 r.1), (.int .i64 r.2.1), (.int .i64 r.2.2.1), (.bool r.2.2.2)]), [], []⟩) := by kernel_rfl
def impl_PlaySteps_ent (F : Nat) : Ent := ⟨[], .quiet, fun args mem => match args, mem with
  | [(.ints 16 b0), (.rr 4 list1)], [] => some ((impl_PlaySteps_p F b0 list1).isSome, ⟨(.tup [(.ints 16 ((impl_PlaySteps_p F b0 list1).getD default).1), (.int .i64 ((impl_PlaySteps_p F b0 list1).getD default).2.1), (.int .i64 ((impl_PlaySteps_p F b0 list1).getD default).2.2.1), (.bool ((impl_PlaySteps_p F b0 list1).getD default).2.2.2)]), [], []⟩)
  | _, _ => none⟩
theorem impl_PlaySteps_fok : FunOK Try.prog 31 := funOK Try.func31 (by kernel_rfl) rfl
theorem impl_PlaySteps_meets (F : Nat) : Meets Try.prog 31 (impl_PlaySteps_ent F) := by
  refine meets_of_runS mixed ttok deep (impl_PlaySteps_tabok F) Try.func31 (body_some rfl) (impl_PlaySteps_lsok1 F) fun args mem hfit ret h => ?_
  clear hfit
  simp only [impl_PlaySteps_ent] at h
  split at h
  · rename_i b0 list1
    simp only [Option.some.injEq, Prod.mk.injEq] at h
    obtain ⟨hc, rfl⟩ := h
    exact ⟨[], [], 70, _, (impl_PlaySteps_run F b0 list1).trans ((impl_PlaySteps_cp _ F b0 list1 _).trans (bind_use hc _)), rfl, rfl, rfl⟩
  · cases h

/-! loop.example/g01194/laws.eqIntA4 -/
noncomputable def laws_eqIntA4_tab (F : Nat) : Tab := []
theorem laws_eqIntA4_tabok (F : Nat) : TabOK Try.prog (laws_eqIntA4_tab F) := tab_nil
noncomputable def laws_eqIntA4_LS0 (F : Nat) : LT := []
theorem laws_eqIntA4_lsok0 (F : Nat) : LoopsOK Try.prog (laws_eqIntA4_LS0 F) (bodyOf Try.f88) := loopsOK_nil
theorem laws_eqIntA4_keys : keysOK (bodyOf Try.f88) = true := by kernel_rfl
def laws_eqIntA4_st2 (a7 : List Int) (b8 : List Int) (i6 : Int) : St := ⟨expand 17 0 [2, 3, 5] [(.ptr 0 0 0 4), (.ptr 1 0 0 4), (.int .i64 i6)], [(.var 4 (.ri .i64 a7)), (.var 4 (.ri .i64 b8))], 0, []⟩
def laws_eqIntA4_o2 (a7 : List Int) (b8 : List Int) (x : Bool) : GT := (.br x (.out (.ret ⟨expand 17 0 [4] [(.bool false)], [], 0, []⟩)) (.out (.exit 0 ⟨expand 17 0 [] [], [], 0, []⟩)))
def laws_eqIntA4_ls2 (F : Nat) : LoopS := ⟨17, [2, 3, 5], [], [], [], [4], [], [], fun vals mem np killed => match vals, mem, np, killed with
  | [(.ptr 0 0 0 4), (.ptr 1 0 0 4), (.int .i64 i6)], [(.var 4 (.ri .i64 a7)), (.var 4 (.ri .i64 b8))], 0, [] => .br (laws_eqIntA4_l2 F a7 b8 i6).isSome (laws_eqIntA4_o2 a7 b8 ((laws_eqIntA4_l2 F a7 b8 i6).getD default)) .fail
  | _, _, _, _ => .fail⟩
theorem laws_eqIntA4_step2 (F : Nat) (a7 : List Int) (b8 : List Int) (i6 : Int) {R : Type} (k : Out → Option R) : stepS tt (laws_eqIntA4_tab F) (laws_eqIntA4_LS0 F) 70 (laws_eqIntA4_ls2 F) (loopAt 2 (bodyOf Try.f88)) (laws_eqIntA4_st2 a7 b8 i6) k = laws_eqIntA4_s2 F a7 b8 R i6 (fun s => k (.norm (laws_eqIntA4_st2 a7 b8 s))) (fun x => (laws_eqIntA4_o2 a7 b8 x).run k) := by kernel_rfl
theorem laws_eqIntA4_iter2 (F : Nat) (a7 : List Int) (b8 : List Int) {R : Type} (k : Out → Option R) : ∀ (n : Nat) (i6 : Int), iterS tt (laws_eqIntA4_tab F) (laws_eqIntA4_LS0 F) 70 (laws_eqIntA4_ls2 F) (loopAt 2 (bodyOf Try.f88)) n (laws_eqIntA4_st2 a7 b8 i6) k = loopC (laws_eqIntA4_s2 F a7 b8) n i6 (fun x => (laws_eqIntA4_o2 a7 b8 x).run k)
  | 0, i6 => rfl
  | n + 1, i6 => (iterS_succ tt (laws_eqIntA4_tab F) (laws_eqIntA4_LS0 F) 70 (laws_eqIntA4_ls2 F) (loopAt 2 (bodyOf Try.f88)) n (laws_eqIntA4_st2 a7 b8 i6) k).trans ((laws_eqIntA4_step2 F a7 b8 i6 (nextK (iterS tt (laws_eqIntA4_tab F) (laws_eqIntA4_LS0 F) 70 (laws_eqIntA4_ls2 F) (loopAt 2 (bodyOf Try.f88)) n) k)).trans (congrArg (fun kn => laws_eqIntA4_s2 F a7 b8 R i6 kn _) (funext (fun i6 => laws_eqIntA4_iter2 F a7 b8 k n i6))))
theorem laws_eqIntA4_lok2 (F : Nat) : LoopOK Try.prog (loopAt 2 (bodyOf Try.f88)) (laws_eqIntA4_ls2 F) := by
  refine loopOK_of mixed ttok deep (laws_eqIntA4_tabok F) (loopsOK_at (laws_eqIntA4_lsok0 F) 2) (fuel := 70) fun R vals mem np killed k x h => ?_
  simp only [laws_eqIntA4_ls2] at h
  split at h
  · rename_i i6 a7 b8
    simp only [GT.run] at h
    have hc := (cond_noneL h).1
    replace h := (cond_noneL h).2
    refine ⟨F, (laws_eqIntA4_iter2 F a7 b8 k F i6).trans ((loopC_use (laws_eqIntA4_s2_nat F a7 b8) hc _).trans h)⟩
  · simp only [GT.run] at h
    cases h
noncomputable def laws_eqIntA4_LS1 (F : Nat) : LT := (2, laws_eqIntA4_ls2 F) :: laws_eqIntA4_LS0 F
theorem laws_eqIntA4_lsok1 (F : Nat) : LoopsOK Try.prog (laws_eqIntA4_LS1 F) (bodyOf Try.f88) := loopsOK_cons laws_eqIntA4_keys (laws_eqIntA4_lok2 F) (laws_eqIntA4_lsok0 F)
theorem laws_eqIntA4_run (F : Nat) (a0 : List Int) (b1 : List Int) : runS tt (laws_eqIntA4_tab F) (laws_eqIntA4_LS1 F) [] [] Try.f88 (bodyOf Try.f88) 70 [(.ints 4 a0), (.ints 4 b1)] [] = laws_eqIntA4_c _ F a0 b1 (fun r => some ⟨(.bool r), [], []⟩) := by kernel_rfl
def laws_eqIntA4_ent (F : Nat) : Ent := ⟨[], .quiet, fun args mem => match args, mem with
  | [(.ints 4 a0), (.ints 4 b1)], [] => some ((laws_eqIntA4_p F a0 b1).isSome, ⟨(.bool ((laws_eqIntA4_p F a0 b1).getD default)), [], []⟩)
  | _, _ => none⟩
theorem laws_eqIntA4_fok : FunOK Try.prog 88 := funOK Try.func88 (by kernel_rfl) rfl
theorem laws_eqIntA4_meets (F : Nat) : Meets Try.prog 88 (laws_eqIntA4_ent F) := by
  refine meets_of_runS mixed ttok deep (laws_eqIntA4_tabok F) Try.func88 (body_some rfl) (laws_eqIntA4_lsok1 F) fun args mem hfit ret h => ?_
  clear hfit
  simp only [laws_eqIntA4_ent] at h
  split at h
  · rename_i a0 b1
    simp only [Option.some.injEq, Prod.mk.injEq] at h
    obtain ⟨hc, rfl⟩ := h
    exact ⟨[], [], 70, _, (laws_eqIntA4_run F a0 b1).trans ((laws_eqIntA4_cp _ F a0 b1 _).trans (bind_use hc _)), rfl, rfl, rfl⟩
  · cases h

/-! loop.example/g01194/laws.eqIntA4A4 -/
noncomputable def laws_eqIntA4A4_tab (F : Nat) : Tab := [(88, (laws_eqIntA4_ent F))]
theorem laws_eqIntA4A4_tabok (F : Nat) : TabOK Try.prog (laws_eqIntA4A4_tab F) := (tab_cons (laws_eqIntA4_meets F) laws_eqIntA4_fok tab_nil)
noncomputable def laws_eqIntA4A4_LS0 (F : Nat) : LT := []
theorem laws_eqIntA4A4_lsok0 (F : Nat) : LoopsOK Try.prog (laws_eqIntA4A4_LS0 F) (bodyOf Try.f65) := loopsOK_nil
theorem laws_eqIntA4A4_keys : keysOK (bodyOf Try.f65) = true := by kernel_rfl
def laws_eqIntA4A4_st2 (a7 : List Int) (b8 : List Int) (i6 : Int) : St := ⟨expand 18 0 [2, 3, 5] [(.ptr 0 0 0 16), (.ptr 1 0 0 16), (.int .i64 i6)], [(.var 16 (.ri .i64 a7)), (.var 16 (.ri .i64 b8))], 0, []⟩
def laws_eqIntA4A4_o2 (a7 : List Int) (b8 : List Int) (x : Bool) : GT := (.br x (.out (.ret ⟨expand 18 0 [4] [(.bool false)], [], 0, []⟩)) (.out (.exit 0 ⟨expand 18 0 [] [], [], 0, []⟩)))
def laws_eqIntA4A4_ls2 (F : Nat) : LoopS := ⟨18, [2, 3, 5], [], [], [], [4], [], [], fun vals mem np killed => match vals, mem, np, killed with
  | [(.ptr 0 0 0 16), (.ptr 1 0 0 16), (.int .i64 i6)], [(.var 16 (.ri .i64 a7)), (.var 16 (.ri .i64 b8))], 0, [] => .br (laws_eqIntA4A4_l2 F a7 b8 i6).isSome (laws_eqIntA4A4_o2 a7 b8 ((laws_eqIntA4A4_l2 F a7 b8 i6).getD default)) .fail
  | _, _, _, _ => .fail⟩
theorem laws_eqIntA4A4_step2 (F : Nat) (a7 : List Int) (b8 : List Int) (i6 : Int) {R : Type} (k : Out → Option R) : stepS tt (laws_eqIntA4A4_tab F) (laws_eqIntA4A4_LS0 F) 70 (laws_eqIntA4A4_ls2 F) (loopAt 2 (bodyOf Try.f65)) (laws_eqIntA4A4_st2 a7 b8 i6) k = laws_eqIntA4A4_s2 F a7 b8 R i6 (fun s => k (.norm (laws_eqIntA4A4_st2 a7 b8 s))) (fun x => (laws_eqIntA4A4_o2 a7 b8 x).run k) := by kernel_rfl
theorem laws_eqIntA4A4_iter2 (F : Nat) (a7 : List Int) (b8 : List Int) {R : Type} (k : Out → Option R) : ∀ (n : Nat) (i6 : Int), iterS tt (laws_eqIntA4A4_tab F) (laws_eqIntA4A4_LS0 F) 70 (laws_eqIntA4A4_ls2 F) (loopAt 2 (bodyOf Try.f65)) n (laws_eqIntA4A4_st2 a7 b8 i6) k = loopC (laws_eqIntA4A4_s2 F a7 b8) n i6 (fun x => (laws_eqIntA4A4_o2 a7 b8 x).run k)
  | 0, i6 => rfl
  | n + 1, i6 => (iterS_succ tt (laws_eqIntA4A4_tab F) (laws_eqIntA4A4_LS0 F) 70 (laws_eqIntA4A4_ls2 F) (loopAt 2 (bodyOf Try.f65)) n (laws_eqIntA4A4_st2 a7 b8 i6) k).trans ((laws_eqIntA4A4_step2 F a7 b8 i6 (nextK (iterS tt (laws_eqIntA4A4_tab F) (laws_eqIntA4A4_LS0 F) 70 (laws_eqIntA4A4_ls2 F) (loopAt 2 (bodyOf Try.f65)) n) k)).trans (congrArg (fun kn => laws_eqIntA4A4_s2 F a7 b8 R i6 kn _) (funext (fun i6 => laws_eqIntA4A4_iter2 F a7 b8 k n i6))))
theorem laws_eqIntA4A4_lok2 (F : Nat) : LoopOK Try.prog (loopAt 2 (bodyOf Try.f65)) (laws_eqIntA4A4_ls2 F) := by
  refine loopOK_of mixed ttok deep (laws_eqIntA4A4_tabok F) (loopsOK_at (laws_eqIntA4A4_lsok0 F) 2) (fuel := 70) fun R vals mem np killed k x h => ?_
  simp only [laws_eqIntA4A4_ls2] at h
  split at h
  · rename_i i6 a7 b8
    simp only [GT.run] at h
    have hc := (cond_noneL h).1
    replace h := (cond_noneL h).2
    refine ⟨F, (laws_eqIntA4A4_iter2 F a7 b8 k F i6).trans ((loopC_use (laws_eqIntA4A4_s2_nat F a7 b8) hc _).trans h)⟩
  · simp only [GT.run] at h
    cases h
noncomputable def laws_eqIntA4A4_LS1 (F : Nat) : LT := (2, laws_eqIntA4A4_ls2 F) :: laws_eqIntA4A4_LS0 F
theorem laws_eqIntA4A4_lsok1 (F : Nat) : LoopsOK Try.prog (laws_eqIntA4A4_LS1 F) (bodyOf Try.f65) := loopsOK_cons laws_eqIntA4A4_keys (laws_eqIntA4A4_lok2 F) (laws_eqIntA4A4_lsok0 F)
theorem laws_eqIntA4A4_run (F : Nat) (a0 : List Int) (b1 : List Int) : runS tt (laws_eqIntA4A4_tab F) (laws_eqIntA4A4_LS1 F) [] [] Try.f65 (bodyOf Try.f65) 70 [(.ints 16 a0), (.ints 16 b1)] [] = laws_eqIntA4A4_c _ F a0 b1 (fun r => some ⟨(.bool r), [], []⟩) := by kernel_rfl
def laws_eqIntA4A4_ent (F : Nat) : Ent := ⟨[], .quiet, fun args mem => match args, mem with
  | [(.ints 16 a0), (.ints 16 b1)], [] => some ((laws_eqIntA4A4_p F a0 b1).isSome, ⟨(.bool ((laws_eqIntA4A4_p F a0 b1).getD default)), [], []⟩)
  | _, _ => none⟩
theorem laws_eqIntA4A4_fok : FunOK Try.prog 65 := funOK Try.func65 (by kernel_rfl) rfl
theorem laws_eqIntA4A4_meets (F : Nat) : Meets Try.prog 65 (laws_eqIntA4A4_ent F) := by
  refine meets_of_runS mixed ttok deep (laws_eqIntA4A4_tabok F) Try.func65 (body_some rfl) (laws_eqIntA4A4_lsok1 F) fun args mem hfit ret h => ?_
  clear hfit
  simp only [laws_eqIntA4A4_ent] at h
  split at h
  · rename_i a0 b1
    simp only [Option.some.injEq, Prod.mk.injEq] at h
    obtain ⟨hc, rfl⟩ := h
    exact ⟨[], [], 70, _, (laws_eqIntA4A4_run F a0 b1).trans ((laws_eqIntA4A4_cp _ F a0 b1 _).trans (bind_use hc _)), rfl, rfl, rfl⟩
  · cases h

/-! loop.example/g01194/laws.eqBoard -/
noncomputable def laws_eqBoard_tab (F : Nat) : Tab := [(65, (laws_eqIntA4A4_ent F))]
theorem laws_eqBoard_tabok (F : Nat) : TabOK Try.prog (laws_eqBoard_tab F) := (tab_cons (laws_eqIntA4A4_meets F) laws_eqIntA4A4_fok tab_nil)
noncomputable def laws_eqBoard_LS0 (F : Nat) : LT := []
theorem laws_eqBoard_lsok0 (F : Nat) : LoopsOK Try.prog (laws_eqBoard_LS0 F) (bodyOf Try.f32) := loopsOK_nil
theorem laws_eqBoard_run (F : Nat) (a0 : List Int) (b1 : List Int) : runS tt (laws_eqBoard_tab F) (laws_eqBoard_LS0 F) [] [] Try.f32 (bodyOf Try.f32) 70 [(.ints 16 a0), (.ints 16 b1)] [] = laws_eqBoard_c _ F a0 b1 (fun r => some ⟨(.bool r), [], []⟩) := by kernel_rfl
def laws_eqBoard_ent (F : Nat) : Ent := ⟨[], .quiet, fun args mem => match args, mem with
  | [(.ints 16 a0), (.ints 16 b1)], [] => some ((laws_eqBoard_p F a0 b1).isSome, ⟨(.bool ((laws_eqBoard_p F a0 b1).getD default)), [], []⟩)
  | _, _ => none⟩
theorem laws_eqBoard_fok : FunOK Try.prog 32 := funOK Try.func32 (by kernel_rfl) rfl
theorem laws_eqBoard_meets (F : Nat) : Meets Try.prog 32 (laws_eqBoard_ent F) := by
  refine meets_of_runS mixed ttok deep (laws_eqBoard_tabok F) Try.func32 (body_some rfl) (laws_eqBoard_lsok0 F) fun args mem hfit ret h => ?_
  clear hfit
  simp only [laws_eqBoard_ent] at h
  split at h
  · rename_i a0 b1
    simp only [Option.some.injEq, Prod.mk.injEq] at h
    obtain ⟨hc, rfl⟩ := h
    exact ⟨[], [], 70, _, (laws_eqBoard_run F a0 b1).trans ((laws_eqBoard_cp _ F a0 b1 _).trans (bind_use hc _)), rfl, rfl, rfl⟩
  · cases h

/-! loop.example/g01194/laws.FnExactPlaySteps -/
noncomputable def laws_FnExactPlaySteps_tab (F : Nat) : Tab := [(28, (laws_szStepS_ent F)), (11, (laws_toBoard_ent F)), (30, (laws_toStepS_ent F)), (29, (spec_PlaySteps_ent F)), (31, (impl_PlaySteps_ent F)), (32, (laws_eqBoard_ent F)), (25, (laws_eqStepS_ent F))]
theorem laws_FnExactPlaySteps_tabok (F : Nat) : TabOK Try.prog (laws_FnExactPlaySteps_tab F) := (tab_cons (laws_szStepS_meets F) laws_szStepS_fok (tab_cons (laws_toBoard_meets F) laws_toBoard_fok (tab_cons (laws_toStepS_meets F) laws_toStepS_fok (tab_cons (spec_PlaySteps_meets F) spec_PlaySteps_fok (tab_cons (impl_PlaySteps_meets F) impl_PlaySteps_fok (tab_cons (laws_eqBoard_meets F) laws_eqBoard_fok (tab_cons (laws_eqStepS_meets F) laws_eqStepS_fok tab_nil)))))))
noncomputable def laws_FnExactPlaySteps_LS0 (F : Nat) : LT := []
theorem laws_FnExactPlaySteps_lsok0 (F : Nat) : LoopsOK Try.prog (laws_FnExactPlaySteps_LS0 F) (bodyOf Try.f9) := loopsOK_nil
theorem laws_FnExactPlaySteps_run (F : Nat) (aB0 : List Int) (aList1 : List (List Int)) : runS tt (laws_FnExactPlaySteps_tab F) (laws_FnExactPlaySteps_LS0 F) [] [] Try.f9 (bodyOf Try.f9) 70 [(.ints 16 aB0), (.rr 4 aList1)] [] = laws_FnExactPlaySteps_c _ F aB0 aList1 (fun r => some ⟨(.bool r), [], []⟩) := by kernel_rfl
def laws_FnExactPlaySteps_ent (F : Nat) : Ent := ⟨[], .quiet, fun args mem => match args, mem with
  | [(.ints 16 aB0), (.rr 4 aList1)], [] => some ((laws_FnExactPlaySteps_p F aB0 aList1).isSome, ⟨(.bool ((laws_FnExactPlaySteps_p F aB0 aList1).getD default)), [], []⟩)
  | _, _ => none⟩
theorem laws_FnExactPlaySteps_fok : FunOK Try.prog 9 := funOK Try.func9 (by kernel_rfl) rfl
theorem laws_FnExactPlaySteps_meets (F : Nat) : Meets Try.prog 9 (laws_FnExactPlaySteps_ent F) := by
  refine meets_of_runS mixed ttok deep (laws_FnExactPlaySteps_tabok F) Try.func9 (body_some rfl) (laws_FnExactPlaySteps_lsok0 F) fun args mem hfit ret h => ?_
  clear hfit
  simp only [laws_FnExactPlaySteps_ent] at h
  split at h
  · rename_i aB0 aList1
    simp only [Option.some.injEq, Prod.mk.injEq] at h
    obtain ⟨hc, rfl⟩ := h
    exact ⟨[], [], 70, _, (laws_FnExactPlaySteps_run F aB0 aList1).trans ((laws_FnExactPlaySteps_cp _ F aB0 aList1 _).trans (bind_use hc _)), rfl, rfl, rfl⟩
  · cases h
end Go.Proofs.Ytgpadaadcepgaaa
