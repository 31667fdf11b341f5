/-
Pure functions and what the code of them does, by program; without conditions.
-/
import Derived.Test.YtkhccaoancfeoaaQsP6
import Derived.Test.YtkhccaoancfeoaaQsS5
namespace Go.Proofs.Ytkhccaoancfeoaa
open Go Go.Lv Go.Lv.P Go.Proofs
set_option linter.unusedVariables false
set_option linter.unusedSimpArgs false
set_option maxRecDepth 100000
/-! loop.example/g01194/laws.markIntA2S -/
noncomputable def laws_markIntA2S_tab (F : Nat) : Tab := []
theorem laws_markIntA2S_tabok (F : Nat) : TabOK Try.prog (laws_markIntA2S_tab F) := tab_nil
noncomputable def laws_markIntA2S_LS0 (F : Nat) : LT := []
theorem laws_markIntA2S_lsok0 (F : Nat) : LoopsOK Try.prog (laws_markIntA2S_LS0 F) (bodyOf Try.f9) := loopsOK_nil
theorem laws_markIntA2S_keys : keysOK (bodyOf Try.f9) = true := by kernel_rfl
def laws_markIntA2S_st5 (a1 : Nat) (i3 : Int) (k2 : Int) (j4 : Int) (a5 : List (List Int)) : St := ⟨expand 26 0 [0, 1, 5, 6] [(.sl 0 0 a1), (.int .i64 k2), (.int .i64 i3), (.int .i64 j4)], [(.vec 41 (.rr 2 a5))], 1, []⟩
def laws_markIntA2S_o5 (a1 : Nat) (i3 : Int) (x : Int × List (List Int)) : GT := (.out (.exit 2 ⟨expand 26 0 [0, 1, 5] [(.sl 0 0 a1), (.int .i64 x.1), (.int .i64 i3)], [(.vec 41 (.rr 2 x.2))], 1, []⟩))
def laws_markIntA2S_ls5 (F : Nat) : LoopS := ⟨26, [0, 1, 5, 6], [], [0, 1, 5], [], [4], [], [], fun vals mem np killed => match vals, mem, np, killed with
  | [(.sl 0 0 a1), (.int .i64 k2), (.int .i64 i3), (.int .i64 j4)], [(.vec 41 (.rr 2 a5))], 1, [] => .br (laws_markIntA2S_l5 F a1 i3 k2 j4 a5).isSome (laws_markIntA2S_o5 a1 i3 ((laws_markIntA2S_l5 F a1 i3 k2 j4 a5).getD default)) .fail
  | _, _, _, _ => .fail⟩
theorem laws_markIntA2S_step5 (F : Nat) (a1 : Nat) (i3 : Int) (k2 : Int) (j4 : Int) (a5 : List (List Int)) {R : Type} (k : Out → Option R) : stepS tt (laws_markIntA2S_tab F) (laws_markIntA2S_LS0 F) 70 (laws_markIntA2S_ls5 F) (loopAt 5 (bodyOf Try.f9)) (laws_markIntA2S_st5 a1 i3 k2 j4 a5) k = laws_markIntA2S_s5 F a1 i3 R (k2, j4, a5) (fun s => k (.norm (laws_markIntA2S_st5 a1 i3 s.1 s.2.1 s.2.2))) (fun x => (laws_markIntA2S_o5 a1 i3 x).run k) := by kernel_rfl
theorem laws_markIntA2S_iter5 (F : Nat) (a1 : Nat) (i3 : Int) {R : Type} (k : Out → Option R) : ∀ (n : Nat) (k2 : Int) (j4 : Int) (a5 : List (List Int)), iterS tt (laws_markIntA2S_tab F) (laws_markIntA2S_LS0 F) 70 (laws_markIntA2S_ls5 F) (loopAt 5 (bodyOf Try.f9)) n (laws_markIntA2S_st5 a1 i3 k2 j4 a5) k = loopC (laws_markIntA2S_s5 F a1 i3) n (k2, j4, a5) (fun x => (laws_markIntA2S_o5 a1 i3 x).run k)
  | 0, k2, j4, a5 => rfl
  | n + 1, k2, j4, a5 => (iterS_succ tt (laws_markIntA2S_tab F) (laws_markIntA2S_LS0 F) 70 (laws_markIntA2S_ls5 F) (loopAt 5 (bodyOf Try.f9)) n (laws_markIntA2S_st5 a1 i3 k2 j4 a5) k).trans ((laws_markIntA2S_step5 F a1 i3 k2 j4 a5 (nextK (iterS tt (laws_markIntA2S_tab F) (laws_markIntA2S_LS0 F) 70 (laws_markIntA2S_ls5 F) (loopAt 5 (bodyOf Try.f9)) n) k)).trans (congrArg (fun kn => laws_markIntA2S_s5 F a1 i3 R (k2, j4, a5) kn _) (funext (fun ⟨k2, j4, a5⟩ => laws_markIntA2S_iter5 F a1 i3 k n k2 j4 a5))))
theorem laws_markIntA2S_lok5 (F : Nat) : LoopOK Try.prog (loopAt 5 (bodyOf Try.f9)) (laws_markIntA2S_ls5 F) := by
  refine loopOK_of mixed ttok deep (laws_markIntA2S_tabok F) (loopsOK_at (laws_markIntA2S_lsok0 F) 5) (fuel := 70) fun R vals mem np killed k x h => ?_
  simp only [laws_markIntA2S_ls5] at h
  split at h
  · rename_i a1 k2 i3 j4 a5
    simp only [GT.run] at h
    have hc := (cond_noneL h).1
    replace h := (cond_noneL h).2
    refine ⟨F, (laws_markIntA2S_iter5 F a1 i3 k F k2 j4 a5).trans ((loopC_use (laws_markIntA2S_s5_nat F a1 i3) hc _).trans h)⟩
  · simp only [GT.run] at h
    cases h
noncomputable def laws_markIntA2S_LS1 (F : Nat) : LT := (5, laws_markIntA2S_ls5 F) :: laws_markIntA2S_LS0 F
theorem laws_markIntA2S_lsok1 (F : Nat) : LoopsOK Try.prog (laws_markIntA2S_LS1 F) (bodyOf Try.f9) := loopsOK_cons laws_markIntA2S_keys (laws_markIntA2S_lok5 F) (laws_markIntA2S_lsok0 F)
def laws_markIntA2S_st2 (a1 : Nat) (k2 : Int) (i3 : Int) (a4 : List (List Int)) : St := ⟨expand 26 0 [0, 1, 5] [(.sl 0 0 a1), (.int .i64 k2), (.int .i64 i3)], [(.vec 41 (.rr 2 a4))], 1, []⟩
def laws_markIntA2S_o2 (a1 : Nat) (x : Int × List (List Int)) : GT := (.out (.exit 0 ⟨expand 26 0 [1] [(.int .i64 x.1)], [(.vec 41 (.rr 2 x.2))], 1, []⟩))
def laws_markIntA2S_ls2 (F : Nat) : LoopS := ⟨26, [0, 1, 5], [], [1], [], [4], [], [], fun vals mem np killed => match vals, mem, np, killed with
  | [(.sl 0 0 a1), (.int .i64 k2), (.int .i64 i3)], [(.vec 41 (.rr 2 a4))], 1, [] => .br (laws_markIntA2S_l2 F a1 k2 i3 a4).isSome (laws_markIntA2S_o2 a1 ((laws_markIntA2S_l2 F a1 k2 i3 a4).getD default)) .fail
  | _, _, _, _ => .fail⟩
theorem laws_markIntA2S_step2 (F : Nat) (a1 : Nat) (k2 : Int) (i3 : Int) (a4 : List (List Int)) {R : Type} (k : Out → Option R) : stepS tt (laws_markIntA2S_tab F) (laws_markIntA2S_LS1 F) 70 (laws_markIntA2S_ls2 F) (loopAt 2 (bodyOf Try.f9)) (laws_markIntA2S_st2 a1 k2 i3 a4) k = laws_markIntA2S_s2 F a1 R (k2, i3, a4) (fun s => k (.norm (laws_markIntA2S_st2 a1 s.1 s.2.1 s.2.2))) (fun x => (laws_markIntA2S_o2 a1 x).run k) := by kernel_rfl
theorem laws_markIntA2S_iter2 (F : Nat) (a1 : Nat) {R : Type} (k : Out → Option R) : ∀ (n : Nat) (k2 : Int) (i3 : Int) (a4 : List (List Int)), iterS tt (laws_markIntA2S_tab F) (laws_markIntA2S_LS1 F) 70 (laws_markIntA2S_ls2 F) (loopAt 2 (bodyOf Try.f9)) n (laws_markIntA2S_st2 a1 k2 i3 a4) k = loopC (laws_markIntA2S_s2 F a1) n (k2, i3, a4) (fun x => (laws_markIntA2S_o2 a1 x).run k)
  | 0, k2, i3, a4 => rfl
  | n + 1, k2, i3, a4 => (iterS_succ tt (laws_markIntA2S_tab F) (laws_markIntA2S_LS1 F) 70 (laws_markIntA2S_ls2 F) (loopAt 2 (bodyOf Try.f9)) n (laws_markIntA2S_st2 a1 k2 i3 a4) k).trans ((laws_markIntA2S_step2 F a1 k2 i3 a4 (nextK (iterS tt (laws_markIntA2S_tab F) (laws_markIntA2S_LS1 F) 70 (laws_markIntA2S_ls2 F) (loopAt 2 (bodyOf Try.f9)) n) k)).trans (congrArg (fun kn => laws_markIntA2S_s2 F a1 R (k2, i3, a4) kn _) (funext (fun ⟨k2, i3, a4⟩ => laws_markIntA2S_iter2 F a1 k n k2 i3 a4))))
theorem laws_markIntA2S_lok2 (F : Nat) : LoopOK Try.prog (loopAt 2 (bodyOf Try.f9)) (laws_markIntA2S_ls2 F) := by
  refine loopOK_of mixed ttok deep (laws_markIntA2S_tabok F) (loopsOK_at (laws_markIntA2S_lsok1 F) 2) (fuel := 70) fun R vals mem np killed k x h => ?_
  simp only [laws_markIntA2S_ls2] at h
  split at h
  · rename_i a1 k2 i3 a4
    simp only [GT.run] at h
    have hc := (cond_noneL h).1
    replace h := (cond_noneL h).2
    refine ⟨F, (laws_markIntA2S_iter2 F a1 k F k2 i3 a4).trans ((loopC_use (laws_markIntA2S_s2_nat F a1) hc _).trans h)⟩
  · simp only [GT.run] at h
    cases h
noncomputable def laws_markIntA2S_LS2 (F : Nat) : LT := (2, laws_markIntA2S_ls2 F) :: laws_markIntA2S_LS1 F
theorem laws_markIntA2S_lsok2 (F : Nat) : LoopsOK Try.prog (laws_markIntA2S_LS2 F) (bodyOf Try.f9) := loopsOK_cons laws_markIntA2S_keys (laws_markIntA2S_lok2 F) (laws_markIntA2S_lsok1 F)
theorem laws_markIntA2S_run (F : Nat) (a1 : Nat) (k2 : Int) (a3 : List (List Int)) : runS tt (laws_markIntA2S_tab F) (laws_markIntA2S_LS2 F) [] [] Try.f9 (bodyOf Try.f9) 70 [(.sl 0 0 a1), (.int .i64 k2)] [(.vec 41 (.rr 2 a3))] = laws_markIntA2S_c _ F a1 k2 a3 (fun r => some ⟨(.int .i64 r.1), [(.vec 41 (.rr 2 r.2))], []⟩) := by kernel_rfl
def laws_markIntA2S_ent (F : Nat) : Ent := ⟨[true], .loud, fun args mem => match args, mem with
  | [(.sl 0 0 a1), (.int .i64 k2)], [(.vec 41 (.rr 2 a3))] => some ((laws_markIntA2S_p F a1 k2 a3).isSome, ⟨(.int .i64 ((laws_markIntA2S_p F a1 k2 a3).getD default).1), [(.vec 41 (.rr 2 ((laws_markIntA2S_p F a1 k2 a3).getD default).2))], []⟩)
  | _, _ => none⟩
theorem laws_markIntA2S_fok : FunOK Try.prog 9 := funOK Try.func9 (by kernel_rfl) rfl
theorem laws_markIntA2S_meets (F : Nat) : Meets Try.prog 9 (laws_markIntA2S_ent F) := by
  refine meets_of_runS mixed ttok deep (laws_markIntA2S_tabok F) Try.func9 (body_some rfl) (laws_markIntA2S_lsok2 F) fun args mem hfit ret h => ?_
  clear hfit
  simp only [laws_markIntA2S_ent] at h
  split at h
  · rename_i a1 k2 a3
    simp only [Option.some.injEq, Prod.mk.injEq] at h
    obtain ⟨hc, rfl⟩ := h
    exact ⟨[], [], 70, _, (laws_markIntA2S_run F a1 k2 a3).trans ((laws_markIntA2S_cp _ F a1 k2 a3 _).trans (bind_use hc _)), rfl, rfl, rfl⟩
  · cases h

/-! loop.example/g01194/laws.heldIntA2S -/
noncomputable def laws_heldIntA2S_tab (F : Nat) : Tab := []
theorem laws_heldIntA2S_tabok (F : Nat) : TabOK Try.prog (laws_heldIntA2S_tab F) := tab_nil
noncomputable def laws_heldIntA2S_LS0 (F : Nat) : LT := []
theorem laws_heldIntA2S_lsok0 (F : Nat) : LoopsOK Try.prog (laws_heldIntA2S_LS0 F) (bodyOf Try.f10) := loopsOK_nil
theorem laws_heldIntA2S_keys : keysOK (bodyOf Try.f10) = true := by kernel_rfl
def laws_heldIntA2S_st5 (a0 : List (List Int)) (i2 : Int) (k1 : Int) (j3 : Int) : St := ⟨expand 28 0 [0, 1, 5, 6] [(.rr 2 a0), (.int .i64 k1), (.int .i64 i2), (.int .i64 j3)], [], 0, []⟩
def laws_heldIntA2S_o5 (a0 : List (List Int)) (i2 : Int) (x : Bool × Int) : GT := (.br x.1 (.out (.ret ⟨expand 28 0 [4] [(.int .i64 (-1 : Int))], [], 0, []⟩)) (.out (.exit 2 ⟨expand 28 0 [0, 1, 5] [(.rr 2 a0), (.int .i64 x.2), (.int .i64 i2)], [], 0, []⟩)))
def laws_heldIntA2S_ls5 (F : Nat) : LoopS := ⟨28, [0, 1, 5, 6], [], [0, 1, 5], [], [4], [], [], fun vals mem np killed => match vals, mem, np, killed with
  | [(.rr 2 a0), (.int .i64 k1), (.int .i64 i2), (.int .i64 j3)], [], 0, [] => .br (laws_heldIntA2S_l5 F a0 i2 k1 j3).isSome (laws_heldIntA2S_o5 a0 i2 ((laws_heldIntA2S_l5 F a0 i2 k1 j3).getD default)) .fail
  | _, _, _, _ => .fail⟩
theorem laws_heldIntA2S_step5 (F : Nat) (a0 : List (List Int)) (i2 : Int) (k1 : Int) (j3 : Int) {R : Type} (k : Out → Option R) : stepS tt (laws_heldIntA2S_tab F) (laws_heldIntA2S_LS0 F) 70 (laws_heldIntA2S_ls5 F) (loopAt 5 (bodyOf Try.f10)) (laws_heldIntA2S_st5 a0 i2 k1 j3) k = laws_heldIntA2S_s5 F a0 i2 R (k1, j3) (fun s => k (.norm (laws_heldIntA2S_st5 a0 i2 s.1 s.2))) (fun x => (laws_heldIntA2S_o5 a0 i2 x).run k) := by kernel_rfl
theorem laws_heldIntA2S_iter5 (F : Nat) (a0 : List (List Int)) (i2 : Int) {R : Type} (k : Out → Option R) : ∀ (n : Nat) (k1 : Int) (j3 : Int), iterS tt (laws_heldIntA2S_tab F) (laws_heldIntA2S_LS0 F) 70 (laws_heldIntA2S_ls5 F) (loopAt 5 (bodyOf Try.f10)) n (laws_heldIntA2S_st5 a0 i2 k1 j3) k = loopC (laws_heldIntA2S_s5 F a0 i2) n (k1, j3) (fun x => (laws_heldIntA2S_o5 a0 i2 x).run k)
  | 0, k1, j3 => rfl
  | n + 1, k1, j3 => (iterS_succ tt (laws_heldIntA2S_tab F) (laws_heldIntA2S_LS0 F) 70 (laws_heldIntA2S_ls5 F) (loopAt 5 (bodyOf Try.f10)) n (laws_heldIntA2S_st5 a0 i2 k1 j3) k).trans ((laws_heldIntA2S_step5 F a0 i2 k1 j3 (nextK (iterS tt (laws_heldIntA2S_tab F) (laws_heldIntA2S_LS0 F) 70 (laws_heldIntA2S_ls5 F) (loopAt 5 (bodyOf Try.f10)) n) k)).trans (congrArg (fun kn => laws_heldIntA2S_s5 F a0 i2 R (k1, j3) kn _) (funext (fun ⟨k1, j3⟩ => laws_heldIntA2S_iter5 F a0 i2 k n k1 j3))))
theorem laws_heldIntA2S_lok5 (F : Nat) : LoopOK Try.prog (loopAt 5 (bodyOf Try.f10)) (laws_heldIntA2S_ls5 F) := by
  refine loopOK_of mixed ttok deep (laws_heldIntA2S_tabok F) (loopsOK_at (laws_heldIntA2S_lsok0 F) 5) (fuel := 70) fun R vals mem np killed k x h => ?_
  simp only [laws_heldIntA2S_ls5] at h
  split at h
  · rename_i a0 k1 i2 j3
    simp only [GT.run] at h
    have hc := (cond_noneL h).1
    replace h := (cond_noneL h).2
    refine ⟨F, (laws_heldIntA2S_iter5 F a0 i2 k F k1 j3).trans ((loopC_use (laws_heldIntA2S_s5_nat F a0 i2) hc _).trans h)⟩
  · simp only [GT.run] at h
    cases h
noncomputable def laws_heldIntA2S_LS1 (F : Nat) : LT := (5, laws_heldIntA2S_ls5 F) :: laws_heldIntA2S_LS0 F
theorem laws_heldIntA2S_lsok1 (F : Nat) : LoopsOK Try.prog (laws_heldIntA2S_LS1 F) (bodyOf Try.f10) := loopsOK_cons laws_heldIntA2S_keys (laws_heldIntA2S_lok5 F) (laws_heldIntA2S_lsok0 F)
def laws_heldIntA2S_st2 (a0 : List (List Int)) (k1 : Int) (i2 : Int) : St := ⟨expand 28 0 [0, 1, 5] [(.rr 2 a0), (.int .i64 k1), (.int .i64 i2)], [], 0, []⟩
def laws_heldIntA2S_o2 (a0 : List (List Int)) (x : Bool × Int) : GT := (.br x.1 (.out (.ret ⟨expand 28 0 [4] [(.int .i64 (-1 : Int))], [], 0, []⟩)) (.out (.exit 0 ⟨expand 28 0 [1] [(.int .i64 x.2)], [], 0, []⟩)))
def laws_heldIntA2S_ls2 (F : Nat) : LoopS := ⟨28, [0, 1, 5], [], [1], [], [4], [], [], fun vals mem np killed => match vals, mem, np, killed with
  | [(.rr 2 a0), (.int .i64 k1), (.int .i64 i2)], [], 0, [] => .br (laws_heldIntA2S_l2 F a0 k1 i2).isSome (laws_heldIntA2S_o2 a0 ((laws_heldIntA2S_l2 F a0 k1 i2).getD default)) .fail
  | _, _, _, _ => .fail⟩
theorem laws_heldIntA2S_step2 (F : Nat) (a0 : List (List Int)) (k1 : Int) (i2 : Int) {R : Type} (k : Out → Option R) : stepS tt (laws_heldIntA2S_tab F) (laws_heldIntA2S_LS1 F) 70 (laws_heldIntA2S_ls2 F) (loopAt 2 (bodyOf Try.f10)) (laws_heldIntA2S_st2 a0 k1 i2) k = laws_heldIntA2S_s2 F a0 R (k1, i2) (fun s => k (.norm (laws_heldIntA2S_st2 a0 s.1 s.2))) (fun x => (laws_heldIntA2S_o2 a0 x).run k) := by kernel_rfl
theorem laws_heldIntA2S_iter2 (F : Nat) (a0 : List (List Int)) {R : Type} (k : Out → Option R) : ∀ (n : Nat) (k1 : Int) (i2 : Int), iterS tt (laws_heldIntA2S_tab F) (laws_heldIntA2S_LS1 F) 70 (laws_heldIntA2S_ls2 F) (loopAt 2 (bodyOf Try.f10)) n (laws_heldIntA2S_st2 a0 k1 i2) k = loopC (laws_heldIntA2S_s2 F a0) n (k1, i2) (fun x => (laws_heldIntA2S_o2 a0 x).run k)
  | 0, k1, i2 => rfl
  | n + 1, k1, i2 => (iterS_succ tt (laws_heldIntA2S_tab F) (laws_heldIntA2S_LS1 F) 70 (laws_heldIntA2S_ls2 F) (loopAt 2 (bodyOf Try.f10)) n (laws_heldIntA2S_st2 a0 k1 i2) k).trans ((laws_heldIntA2S_step2 F a0 k1 i2 (nextK (iterS tt (laws_heldIntA2S_tab F) (laws_heldIntA2S_LS1 F) 70 (laws_heldIntA2S_ls2 F) (loopAt 2 (bodyOf Try.f10)) n) k)).trans (congrArg (fun kn => laws_heldIntA2S_s2 F a0 R (k1, i2) kn _) (funext (fun ⟨k1, i2⟩ => laws_heldIntA2S_iter2 F a0 k n k1 i2))))
theorem laws_heldIntA2S_lok2 (F : Nat) : LoopOK Try.prog (loopAt 2 (bodyOf Try.f10)) (laws_heldIntA2S_ls2 F) := by
  refine loopOK_of mixed ttok deep (laws_heldIntA2S_tabok F) (loopsOK_at (laws_heldIntA2S_lsok1 F) 2) (fuel := 70) fun R vals mem np killed k x h => ?_
  simp only [laws_heldIntA2S_ls2] at h
  split at h
  · rename_i a0 k1 i2
    simp only [GT.run] at h
    have hc := (cond_noneL h).1
    replace h := (cond_noneL h).2
    refine ⟨F, (laws_heldIntA2S_iter2 F a0 k F k1 i2).trans ((loopC_use (laws_heldIntA2S_s2_nat F a0) hc _).trans h)⟩
  · simp only [GT.run] at h
    cases h
noncomputable def laws_heldIntA2S_LS2 (F : Nat) : LT := (2, laws_heldIntA2S_ls2 F) :: laws_heldIntA2S_LS1 F
theorem laws_heldIntA2S_lsok2 (F : Nat) : LoopsOK Try.prog (laws_heldIntA2S_LS2 F) (bodyOf Try.f10) := loopsOK_cons laws_heldIntA2S_keys (laws_heldIntA2S_lok2 F) (laws_heldIntA2S_lsok1 F)
theorem laws_heldIntA2S_run (F : Nat) (a0 : List (List Int)) (k1 : Int) : runS tt (laws_heldIntA2S_tab F) (laws_heldIntA2S_LS2 F) [] [] Try.f10 (bodyOf Try.f10) 70 [(.rr 2 a0), (.int .i64 k1)] [] = laws_heldIntA2S_c _ F a0 k1 (fun r => some ⟨(.int .i64 r), [], []⟩) := by kernel_rfl
def laws_heldIntA2S_ent (F : Nat) : Ent := ⟨[], .quiet, fun args mem => match args, mem with
  | [(.rr 2 a0), (.int .i64 k1)], [] => some ((laws_heldIntA2S_p F a0 k1).isSome, ⟨(.int .i64 ((laws_heldIntA2S_p F a0 k1).getD default)), [], []⟩)
  | _, _ => none⟩
theorem laws_heldIntA2S_fok : FunOK Try.prog 10 := funOK Try.func10 (by kernel_rfl) rfl
theorem laws_heldIntA2S_meets (F : Nat) : Meets Try.prog 10 (laws_heldIntA2S_ent F) := by
  refine meets_of_runS mixed ttok deep (laws_heldIntA2S_tabok F) Try.func10 (body_some rfl) (laws_heldIntA2S_lsok2 F) fun args mem hfit ret h => ?_
  clear hfit
  simp only [laws_heldIntA2S_ent] at h
  split at h
  · rename_i a0 k1
    simp only [Option.some.injEq, Prod.mk.injEq] at h
    obtain ⟨hc, rfl⟩ := h
    exact ⟨[], [], 70, _, (laws_heldIntA2S_run F a0 k1).trans ((laws_heldIntA2S_cp _ F a0 k1 _).trans (bind_use hc _)), rfl, rfl, rfl⟩
  · cases h

/-! loop.example/g01194/laws.FnExactCanMerge -/
noncomputable def laws_FnExactCanMerge_tab (F : Nat) : Tab := [(6, (laws_toBoard_ent F)), (5, (spec_CanMerge_ent F)), (7, (impl_CanMerge_ent F)), (8, (laws_eqIntA2S_ent F)), (9, (laws_markIntA2S_ent F)), (10, (laws_heldIntA2S_ent F))]
theorem laws_FnExactCanMerge_tabok (F : Nat) : TabOK Try.prog (laws_FnExactCanMerge_tab F) := (tab_cons (laws_toBoard_meets F) laws_toBoard_fok (tab_cons (spec_CanMerge_meets F) spec_CanMerge_fok (tab_cons (impl_CanMerge_meets F) impl_CanMerge_fok (tab_cons (laws_eqIntA2S_meets F) laws_eqIntA2S_fok (tab_cons (laws_markIntA2S_meets F) laws_markIntA2S_fok (tab_cons (laws_heldIntA2S_meets F) laws_heldIntA2S_fok tab_nil))))))
noncomputable def laws_FnExactCanMerge_LS0 (F : Nat) : LT := []
theorem laws_FnExactCanMerge_lsok0 (F : Nat) : LoopsOK Try.prog (laws_FnExactCanMerge_LS0 F) (bodyOf Try.f3) := loopsOK_nil
theorem laws_FnExactCanMerge_run (F : Nat) (aB0 : List Int) (aDirection1 : Int) : runS tt (laws_FnExactCanMerge_tab F) (laws_FnExactCanMerge_LS0 F) [] [] Try.f3 (bodyOf Try.f3) 70 [(.ints 16 aB0), (.int .i64 aDirection1)] [] = laws_FnExactCanMerge_c _ F aB0 aDirection1 (fun r => some ⟨(.bool r), [], []⟩) := by kernel_rfl
def laws_FnExactCanMerge_ent (F : Nat) : Ent := ⟨[], .quiet, fun args mem => match args, mem with
  | [(.ints 16 aB0), (.int .i64 aDirection1)], [] => some ((laws_FnExactCanMerge_p F aB0 aDirection1).isSome, ⟨(.bool ((laws_FnExactCanMerge_p F aB0 aDirection1).getD default)), [], []⟩)
  | _, _ => none⟩
theorem laws_FnExactCanMerge_fok : FunOK Try.prog 3 := funOK Try.func3 (by kernel_rfl) rfl
theorem laws_FnExactCanMerge_meets (F : Nat) : Meets Try.prog 3 (laws_FnExactCanMerge_ent F) := by
  refine meets_of_runS mixed ttok deep (laws_FnExactCanMerge_tabok F) Try.func3 (body_some rfl) (laws_FnExactCanMerge_lsok0 F) fun args mem hfit ret h => ?_
  clear hfit
  simp only [laws_FnExactCanMerge_ent] at h
  split at h
  · rename_i aB0 aDirection1
    simp only [Option.some.injEq, Prod.mk.injEq] at h
    obtain ⟨hc, rfl⟩ := h
    exact ⟨[], [], 70, _, (laws_FnExactCanMerge_run F aB0 aDirection1).trans ((laws_FnExactCanMerge_cp _ F aB0 aDirection1 _).trans (bind_use hc _)), rfl, rfl, rfl⟩
  · cases h

/-! loop.example/g01194/spec.MustMerge -/
noncomputable def spec_MustMerge_tab (F : Nat) : Tab := [(13, (spec_l2Board_ent F)), (14, (spec_l2Side_ent F)), (15, (spec_l6Count_ent F)), (16, (spec_l6Mergers_ent F))]
theorem spec_MustMerge_tabok (F : Nat) : TabOK Try.prog (spec_MustMerge_tab F) := (tab_cons (spec_l2Board_meets F) spec_l2Board_fok (tab_cons (spec_l2Side_meets F) spec_l2Side_fok (tab_cons (spec_l6Count_meets F) spec_l6Count_fok (tab_cons (spec_l6Mergers_meets F) spec_l6Mergers_fok tab_nil))))
noncomputable def spec_MustMerge_LS0 (F : Nat) : LT := []
theorem spec_MustMerge_lsok0 (F : Nat) : LoopsOK Try.prog (spec_MustMerge_LS0 F) (bodyOf Try.f11) := loopsOK_nil
theorem spec_MustMerge_run (F : Nat) (b0 : List Int) (direction1 : Int) : runS tt (spec_MustMerge_tab F) (spec_MustMerge_LS0 F) [] [] Try.f11 (bodyOf Try.f11) 70 [(.ints 16 b0), (.int .i64 direction1)] [] = spec_MustMerge_c _ F b0 direction1 (fun r => some ⟨(.tup [(.sl 0 0 (List.length r.2)), (.bool r.1)]), [(.vec 41 (.rr 2 r.2))], []⟩) := by kernel_rfl
def spec_MustMerge_ent (F : Nat) : Ent := ⟨[], .fresh, fun args mem => match args, mem with
  | [(.ints 16 b0), (.int .i64 direction1)], [] => some ((spec_MustMerge_p F b0 direction1).isSome, ⟨(.tup [(.sl 0 0 (List.length ((spec_MustMerge_p F b0 direction1).getD default).2)), (.bool ((spec_MustMerge_p F b0 direction1).getD default).1)]), [(.vec 41 (.rr 2 ((spec_MustMerge_p F b0 direction1).getD default).2))], []⟩)
  | _, _ => none⟩
theorem spec_MustMerge_fok : FunOK Try.prog 11 := funOK Try.func11 (by kernel_rfl) rfl
theorem spec_MustMerge_meets (F : Nat) : Meets Try.prog 11 (spec_MustMerge_ent F) := by
  refine meets_of_runS mixed ttok deep (spec_MustMerge_tabok F) Try.func11 (body_some rfl) (spec_MustMerge_lsok0 F) fun args mem hfit ret h => ?_
  clear hfit
  simp only [spec_MustMerge_ent] at h
  split at h
  · rename_i b0 direction1
    simp only [Option.some.injEq, Prod.mk.injEq] at h
    obtain ⟨hc, rfl⟩ := h
    exact ⟨[], [], 70, _, (spec_MustMerge_run F b0 direction1).trans ((spec_MustMerge_cp _ F b0 direction1 _).trans (bind_use hc _)), rfl, rfl, rfl⟩
  · cases h

/-! loop.example/g01194/impl.MustMerge -/
noncomputable def impl_MustMerge_tab (F : Nat) : Tab := [(18, (impl_Board_merged_ent F))]
theorem impl_MustMerge_tabok (F : Nat) : TabOK Try.prog (impl_MustMerge_tab F) := (tab_cons (impl_Board_merged_meets F) impl_Board_merged_fok tab_nil)
noncomputable def impl_MustMerge_LS0 (F : Nat) : LT := []
theorem impl_MustMerge_lsok0 (F : Nat) : LoopsOK Try.prog (impl_MustMerge_LS0 F) (bodyOf Try.f12) := loopsOK_nil
theorem impl_MustMerge_run (F : Nat) (b0 : List Int) (direction1 : Int) : runS tt (impl_MustMerge_tab F) (impl_MustMerge_LS0 F) [] [] Try.f12 (bodyOf Try.f12) 70 [(.ints 16 b0), (.int .i64 direction1)] [] = impl_MustMerge_c _ F b0 direction1 (fun r => some ⟨(.tup [(.sl 0 0 r.1), (.bool r.2.1)]), [(.vec 41 (.rr 2 r.2.2))], []⟩) := by kernel_rfl
def impl_MustMerge_ent (F : Nat) : Ent := ⟨[], .fresh, fun args mem => match args, mem with
  | [(.ints 16 b0), (.int .i64 direction1)], [] => some ((impl_MustMerge_p F b0 direction1).isSome, ⟨(.tup [(.sl 0 0 ((impl_MustMerge_p F b0 direction1).getD default).1), (.bool ((impl_MustMerge_p F b0 direction1).getD default).2.1)]), [(.vec 41 (.rr 2 ((impl_MustMerge_p F b0 direction1).getD default).2.2))], []⟩)
  | _, _ => none⟩
theorem impl_MustMerge_fok : FunOK Try.prog 12 := funOK Try.func12 (by kernel_rfl) rfl
theorem impl_MustMerge_meets (F : Nat) : Meets Try.prog 12 (impl_MustMerge_ent F) := by
  refine meets_of_runS mixed ttok deep (impl_MustMerge_tabok F) Try.func12 (body_some rfl) (impl_MustMerge_lsok0 F) fun args mem hfit ret h => ?_
  clear hfit
  simp only [impl_MustMerge_ent] at h
  split at h
  · rename_i b0 direction1
    simp only [Option.some.injEq, Prod.mk.injEq] at h
    obtain ⟨hc, rfl⟩ := h
    exact ⟨[], [], 70, _, (impl_MustMerge_run F b0 direction1).trans ((impl_MustMerge_cp _ F b0 direction1 _).trans (bind_use hc _)), rfl, rfl, rfl⟩
  · cases h

/-! loop.example/g01194/laws.FnExactMustMerge -/
noncomputable def laws_FnExactMustMerge_tab (F : Nat) : Tab := [(6, (laws_toBoard_ent F)), (11, (spec_MustMerge_ent F)), (12, (impl_MustMerge_ent F)), (8, (laws_eqIntA2S_ent F)), (9, (laws_markIntA2S_ent F)), (10, (laws_heldIntA2S_ent F))]
theorem laws_FnExactMustMerge_tabok (F : Nat) : TabOK Try.prog (laws_FnExactMustMerge_tab F) := (tab_cons (laws_toBoard_meets F) laws_toBoard_fok (tab_cons (spec_MustMerge_meets F) spec_MustMerge_fok (tab_cons (impl_MustMerge_meets F) impl_MustMerge_fok (tab_cons (laws_eqIntA2S_meets F) laws_eqIntA2S_fok (tab_cons (laws_markIntA2S_meets F) laws_markIntA2S_fok (tab_cons (laws_heldIntA2S_meets F) laws_heldIntA2S_fok tab_nil))))))
noncomputable def laws_FnExactMustMerge_LS0 (F : Nat) : LT := []
theorem laws_FnExactMustMerge_lsok0 (F : Nat) : LoopsOK Try.prog (laws_FnExactMustMerge_LS0 F) (bodyOf Try.f4) := loopsOK_nil
theorem laws_FnExactMustMerge_run (F : Nat) (aB0 : List Int) (aDirection1 : Int) : runS tt (laws_FnExactMustMerge_tab F) (laws_FnExactMustMerge_LS0 F) [] [] Try.f4 (bodyOf Try.f4) 70 [(.ints 16 aB0), (.int .i64 aDirection1)] [] = laws_FnExactMustMerge_c _ F aB0 aDirection1 (fun r => some ⟨(.bool r), [], []⟩) := by kernel_rfl
def laws_FnExactMustMerge_ent (F : Nat) : Ent := ⟨[], .quiet, fun args mem => match args, mem with
  | [(.ints 16 aB0), (.int .i64 aDirection1)], [] => some ((laws_FnExactMustMerge_p F aB0 aDirection1).isSome, ⟨(.bool ((laws_FnExactMustMerge_p F aB0 aDirection1).getD default)), [], []⟩)
  | _, _ => none⟩
theorem laws_FnExactMustMerge_fok : FunOK Try.prog 4 := funOK Try.func4 (by kernel_rfl) rfl
theorem laws_FnExactMustMerge_meets (F : Nat) : Meets Try.prog 4 (laws_FnExactMustMerge_ent F) := by
  refine meets_of_runS mixed ttok deep (laws_FnExactMustMerge_tabok F) Try.func4 (body_some rfl) (laws_FnExactMustMerge_lsok0 F) fun args mem hfit ret h => ?_
  clear hfit
  simp only [laws_FnExactMustMerge_ent] at h
  split at h
  · rename_i aB0 aDirection1
    simp only [Option.some.injEq, Prod.mk.injEq] at h
    obtain ⟨hc, rfl⟩ := h
    exact ⟨[], [], 70, _, (laws_FnExactMustMerge_run F aB0 aDirection1).trans ((laws_FnExactMustMerge_cp _ F aB0 aDirection1 _).trans (bind_use hc _)), rfl, rfl, rfl⟩
  · cases h
end Go.Proofs.Ytkhccaoancfeoaa
