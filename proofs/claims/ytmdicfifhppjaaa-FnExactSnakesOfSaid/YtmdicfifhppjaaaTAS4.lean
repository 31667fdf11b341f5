/-
Pure functions and what the code of them does, by program; without conditions.
-/
import Derived.Test.YtmdicfifhppjaaaTAP4
import Derived.Test.YtmdicfifhppjaaaTAS3
namespace Go.Proofs.Ytmdicfifhppjaaa
open Go Go.Lv Go.Lv.P Go.Proofs
set_option linter.unusedVariables false
set_option linter.unusedSimpArgs false
set_option maxRecDepth 100000
/-! loop.example/g01194/laws.markIntA3S -/
noncomputable def laws_markIntA3S_tab (F : Nat) : Tab := []
theorem laws_markIntA3S_tabok (F : Nat) : TabOK Try.prog (laws_markIntA3S_tab F) := tab_nil
noncomputable def laws_markIntA3S_LS0 (F : Nat) : LT := []
theorem laws_markIntA3S_lsok0 (F : Nat) : LoopsOK Try.prog (laws_markIntA3S_LS0 F) (bodyOf Try.f41) := loopsOK_nil
theorem laws_markIntA3S_keys : keysOK (bodyOf Try.f41) = true := by kernel_rfl
def laws_markIntA3S_st5 (a1 : Nat) (i3 : Int) (k2 : Int) (j4 : Int) (a5 : List (List Int)) : St := ⟨expand 26 0 [0, 1, 5, 6] [(.sl 0 0 a1), (.int .i64 k2), (.int .i64 i3), (.int .i64 j4)], [(.vec 39 (.rr 3 a5))], 1, []⟩
def laws_markIntA3S_o5 (a1 : Nat) (i3 : Int) (x : Int × List (List Int)) : GT := (.out (.exit 2 ⟨expand 26 0 [0, 1, 5] [(.sl 0 0 a1), (.int .i64 x.1), (.int .i64 i3)], [(.vec 39 (.rr 3 x.2))], 1, []⟩))
def laws_markIntA3S_ls5 (F : Nat) : LoopS := ⟨26, [0, 1, 5, 6], [], [0, 1, 5], [], [4], [], [], fun vals mem np killed => match vals, mem, np, killed with
  | [(.sl 0 0 a1), (.int .i64 k2), (.int .i64 i3), (.int .i64 j4)], [(.vec 39 (.rr 3 a5))], 1, [] => .br (laws_markIntA3S_l5 F a1 i3 k2 j4 a5).isSome (laws_markIntA3S_o5 a1 i3 ((laws_markIntA3S_l5 F a1 i3 k2 j4 a5).getD default)) .fail
  | _, _, _, _ => .fail⟩
theorem laws_markIntA3S_step5 (F : Nat) (a1 : Nat) (i3 : Int) (k2 : Int) (j4 : Int) (a5 : List (List Int)) {R : Type} (k : Out → Option R) : stepS tt (laws_markIntA3S_tab F) (laws_markIntA3S_LS0 F) 70 (laws_markIntA3S_ls5 F) (loopAt 5 (bodyOf Try.f41)) (laws_markIntA3S_st5 a1 i3 k2 j4 a5) k = laws_markIntA3S_s5 F a1 i3 R (k2, j4, a5) (fun s => k (.norm (laws_markIntA3S_st5 a1 i3 s.1 s.2.1 s.2.2))) (fun x => (laws_markIntA3S_o5 a1 i3 x).run k) := by kernel_rfl
theorem laws_markIntA3S_iter5 (F : Nat) (a1 : Nat) (i3 : Int) {R : Type} (k : Out → Option R) : ∀ (n : Nat) (k2 : Int) (j4 : Int) (a5 : List (List Int)), iterS tt (laws_markIntA3S_tab F) (laws_markIntA3S_LS0 F) 70 (laws_markIntA3S_ls5 F) (loopAt 5 (bodyOf Try.f41)) n (laws_markIntA3S_st5 a1 i3 k2 j4 a5) k = loopC (laws_markIntA3S_s5 F a1 i3) n (k2, j4, a5) (fun x => (laws_markIntA3S_o5 a1 i3 x).run k)
  | 0, k2, j4, a5 => rfl
  | n + 1, k2, j4, a5 => (iterS_succ tt (laws_markIntA3S_tab F) (laws_markIntA3S_LS0 F) 70 (laws_markIntA3S_ls5 F) (loopAt 5 (bodyOf Try.f41)) n (laws_markIntA3S_st5 a1 i3 k2 j4 a5) k).trans ((laws_markIntA3S_step5 F a1 i3 k2 j4 a5 (nextK (iterS tt (laws_markIntA3S_tab F) (laws_markIntA3S_LS0 F) 70 (laws_markIntA3S_ls5 F) (loopAt 5 (bodyOf Try.f41)) n) k)).trans (congrArg (fun kn => laws_markIntA3S_s5 F a1 i3 R (k2, j4, a5) kn _) (funext (fun ⟨k2, j4, a5⟩ => laws_markIntA3S_iter5 F a1 i3 k n k2 j4 a5))))
theorem laws_markIntA3S_lok5 (F : Nat) : LoopOK Try.prog (loopAt 5 (bodyOf Try.f41)) (laws_markIntA3S_ls5 F) := by
  refine loopOK_of mixed ttok deep (laws_markIntA3S_tabok F) (loopsOK_at (laws_markIntA3S_lsok0 F) 5) (fuel := 70) fun R vals mem np killed k x h => ?_
  simp only [laws_markIntA3S_ls5] at h
  split at h
  · rename_i a1 k2 i3 j4 a5
    simp only [GT.run] at h
    have hc := (cond_noneL h).1
    replace h := (cond_noneL h).2
    refine ⟨F, (laws_markIntA3S_iter5 F a1 i3 k F k2 j4 a5).trans ((loopC_use (laws_markIntA3S_s5_nat F a1 i3) hc _).trans h)⟩
  · simp only [GT.run] at h
    cases h
noncomputable def laws_markIntA3S_LS1 (F : Nat) : LT := (5, laws_markIntA3S_ls5 F) :: laws_markIntA3S_LS0 F
theorem laws_markIntA3S_lsok1 (F : Nat) : LoopsOK Try.prog (laws_markIntA3S_LS1 F) (bodyOf Try.f41) := loopsOK_cons laws_markIntA3S_keys (laws_markIntA3S_lok5 F) (laws_markIntA3S_lsok0 F)
def laws_markIntA3S_st2 (a1 : Nat) (k2 : Int) (i3 : Int) (a4 : List (List Int)) : St := ⟨expand 26 0 [0, 1, 5] [(.sl 0 0 a1), (.int .i64 k2), (.int .i64 i3)], [(.vec 39 (.rr 3 a4))], 1, []⟩
def laws_markIntA3S_o2 (a1 : Nat) (x : Int × List (List Int)) : GT := (.out (.exit 0 ⟨expand 26 0 [1] [(.int .i64 x.1)], [(.vec 39 (.rr 3 x.2))], 1, []⟩))
def laws_markIntA3S_ls2 (F : Nat) : LoopS := ⟨26, [0, 1, 5], [], [1], [], [4], [], [], fun vals mem np killed => match vals, mem, np, killed with
  | [(.sl 0 0 a1), (.int .i64 k2), (.int .i64 i3)], [(.vec 39 (.rr 3 a4))], 1, [] => .br (laws_markIntA3S_l2 F a1 k2 i3 a4).isSome (laws_markIntA3S_o2 a1 ((laws_markIntA3S_l2 F a1 k2 i3 a4).getD default)) .fail
  | _, _, _, _ => .fail⟩
theorem laws_markIntA3S_step2 (F : Nat) (a1 : Nat) (k2 : Int) (i3 : Int) (a4 : List (List Int)) {R : Type} (k : Out → Option R) : stepS tt (laws_markIntA3S_tab F) (laws_markIntA3S_LS1 F) 70 (laws_markIntA3S_ls2 F) (loopAt 2 (bodyOf Try.f41)) (laws_markIntA3S_st2 a1 k2 i3 a4) k = laws_markIntA3S_s2 F a1 R (k2, i3, a4) (fun s => k (.norm (laws_markIntA3S_st2 a1 s.1 s.2.1 s.2.2))) (fun x => (laws_markIntA3S_o2 a1 x).run k) := by kernel_rfl
theorem laws_markIntA3S_iter2 (F : Nat) (a1 : Nat) {R : Type} (k : Out → Option R) : ∀ (n : Nat) (k2 : Int) (i3 : Int) (a4 : List (List Int)), iterS tt (laws_markIntA3S_tab F) (laws_markIntA3S_LS1 F) 70 (laws_markIntA3S_ls2 F) (loopAt 2 (bodyOf Try.f41)) n (laws_markIntA3S_st2 a1 k2 i3 a4) k = loopC (laws_markIntA3S_s2 F a1) n (k2, i3, a4) (fun x => (laws_markIntA3S_o2 a1 x).run k)
  | 0, k2, i3, a4 => rfl
  | n + 1, k2, i3, a4 => (iterS_succ tt (laws_markIntA3S_tab F) (laws_markIntA3S_LS1 F) 70 (laws_markIntA3S_ls2 F) (loopAt 2 (bodyOf Try.f41)) n (laws_markIntA3S_st2 a1 k2 i3 a4) k).trans ((laws_markIntA3S_step2 F a1 k2 i3 a4 (nextK (iterS tt (laws_markIntA3S_tab F) (laws_markIntA3S_LS1 F) 70 (laws_markIntA3S_ls2 F) (loopAt 2 (bodyOf Try.f41)) n) k)).trans (congrArg (fun kn => laws_markIntA3S_s2 F a1 R (k2, i3, a4) kn _) (funext (fun ⟨k2, i3, a4⟩ => laws_markIntA3S_iter2 F a1 k n k2 i3 a4))))
theorem laws_markIntA3S_lok2 (F : Nat) : LoopOK Try.prog (loopAt 2 (bodyOf Try.f41)) (laws_markIntA3S_ls2 F) := by
  refine loopOK_of mixed ttok deep (laws_markIntA3S_tabok F) (loopsOK_at (laws_markIntA3S_lsok1 F) 2) (fuel := 70) fun R vals mem np killed k x h => ?_
  simp only [laws_markIntA3S_ls2] at h
  split at h
  · rename_i a1 k2 i3 a4
    simp only [GT.run] at h
    have hc := (cond_noneL h).1
    replace h := (cond_noneL h).2
    refine ⟨F, (laws_markIntA3S_iter2 F a1 k F k2 i3 a4).trans ((loopC_use (laws_markIntA3S_s2_nat F a1) hc _).trans h)⟩
  · simp only [GT.run] at h
    cases h
noncomputable def laws_markIntA3S_LS2 (F : Nat) : LT := (2, laws_markIntA3S_ls2 F) :: laws_markIntA3S_LS1 F
theorem laws_markIntA3S_lsok2 (F : Nat) : LoopsOK Try.prog (laws_markIntA3S_LS2 F) (bodyOf Try.f41) := loopsOK_cons laws_markIntA3S_keys (laws_markIntA3S_lok2 F) (laws_markIntA3S_lsok1 F)
theorem laws_markIntA3S_run (F : Nat) (k2 : Int) (a3 : List (List Int)) : runS tt (laws_markIntA3S_tab F) (laws_markIntA3S_LS2 F) [] [] Try.f41 (bodyOf Try.f41) 70 [(.sl 0 0 (List.length a3)), (.int .i64 k2)] [(.vec 39 (.rr 3 a3))] = laws_markIntA3S_c _ F k2 a3 (fun r => some ⟨(.int .i64 r.1), [(.vec 39 (.rr 3 r.2))], []⟩) := by kernel_rfl
def laws_markIntA3S_ent (F : Nat) : Ent := ⟨[true], .loud, fun args mem => match args, mem with
  | [(.sl 0 0 q_a1), (.int .i64 k2)], [(.vec 39 (.rr 3 a3))] => some (((Nat.beq q_a1 (List.length a3)) && (laws_markIntA3S_p F k2 a3).isSome), ⟨(.int .i64 ((laws_markIntA3S_p F k2 a3).getD default).1), [(.vec 39 (.rr 3 ((laws_markIntA3S_p F k2 a3).getD default).2))], []⟩)
  | _, _ => none⟩
theorem laws_markIntA3S_fok : FunOK Try.prog 41 := funOK Try.func41 (by kernel_rfl) rfl
theorem laws_markIntA3S_meets (F : Nat) : Meets Try.prog 41 (laws_markIntA3S_ent F) := by
  refine meets_of_runS mixed ttok deep (laws_markIntA3S_tabok F) Try.func41 (body_some rfl) (laws_markIntA3S_lsok2 F) fun args mem hfit ret h => ?_
  clear hfit
  simp only [laws_markIntA3S_ent] at h
  split at h
  · rename_i q_a1 k2 a3
    simp only [Option.some.injEq, Prod.mk.injEq] at h
    obtain ⟨hc, rfl⟩ := h
    have hg := (and_split hc).1
    replace hc := (and_split hc).2
    obtain rfl := nbeq_nat hg
    exact ⟨[], [], 70, _, (laws_markIntA3S_run F k2 a3).trans ((laws_markIntA3S_cp _ F k2 a3 _).trans (bind_use hc _)), rfl, rfl, rfl⟩
  · cases h

/-! loop.example/g01194/laws.heldIntA3S -/
noncomputable def laws_heldIntA3S_tab (F : Nat) : Tab := []
theorem laws_heldIntA3S_tabok (F : Nat) : TabOK Try.prog (laws_heldIntA3S_tab F) := tab_nil
noncomputable def laws_heldIntA3S_LS0 (F : Nat) : LT := []
theorem laws_heldIntA3S_lsok0 (F : Nat) : LoopsOK Try.prog (laws_heldIntA3S_LS0 F) (bodyOf Try.f42) := loopsOK_nil
theorem laws_heldIntA3S_keys : keysOK (bodyOf Try.f42) = true := by kernel_rfl
def laws_heldIntA3S_st5 (a0 : List (List Int)) (i2 : Int) (k1 : Int) (j3 : Int) : St := ⟨expand 28 0 [0, 1, 5, 6] [(.rr 3 a0), (.int .i64 k1), (.int .i64 i2), (.int .i64 j3)], [], 0, []⟩
def laws_heldIntA3S_o5 (a0 : List (List Int)) (i2 : Int) (x : Bool × Int) : GT := (.br x.1 (.out (.ret ⟨expand 28 0 [4] [(.int .i64 (-1 : Int))], [], 0, []⟩)) (.out (.exit 2 ⟨expand 28 0 [0, 1, 5] [(.rr 3 a0), (.int .i64 x.2), (.int .i64 i2)], [], 0, []⟩)))
def laws_heldIntA3S_ls5 (F : Nat) : LoopS := ⟨28, [0, 1, 5, 6], [], [0, 1, 5], [], [4], [], [], fun vals mem np killed => match vals, mem, np, killed with
  | [(.rr 3 a0), (.int .i64 k1), (.int .i64 i2), (.int .i64 j3)], [], 0, [] => .br (laws_heldIntA3S_l5 F a0 i2 k1 j3).isSome (laws_heldIntA3S_o5 a0 i2 ((laws_heldIntA3S_l5 F a0 i2 k1 j3).getD default)) .fail
  | _, _, _, _ => .fail⟩
theorem laws_heldIntA3S_step5 (F : Nat) (a0 : List (List Int)) (i2 : Int) (k1 : Int) (j3 : Int) {R : Type} (k : Out → Option R) : stepS tt (laws_heldIntA3S_tab F) (laws_heldIntA3S_LS0 F) 70 (laws_heldIntA3S_ls5 F) (loopAt 5 (bodyOf Try.f42)) (laws_heldIntA3S_st5 a0 i2 k1 j3) k = laws_heldIntA3S_s5 F a0 i2 R (k1, j3) (fun s => k (.norm (laws_heldIntA3S_st5 a0 i2 s.1 s.2))) (fun x => (laws_heldIntA3S_o5 a0 i2 x).run k) := by kernel_rfl
theorem laws_heldIntA3S_iter5 (F : Nat) (a0 : List (List Int)) (i2 : Int) {R : Type} (k : Out → Option R) : ∀ (n : Nat) (k1 : Int) (j3 : Int), iterS tt (laws_heldIntA3S_tab F) (laws_heldIntA3S_LS0 F) 70 (laws_heldIntA3S_ls5 F) (loopAt 5 (bodyOf Try.f42)) n (laws_heldIntA3S_st5 a0 i2 k1 j3) k = loopC (laws_heldIntA3S_s5 F a0 i2) n (k1, j3) (fun x => (laws_heldIntA3S_o5 a0 i2 x).run k)
  | 0, k1, j3 => rfl
  | n + 1, k1, j3 => (iterS_succ tt (laws_heldIntA3S_tab F) (laws_heldIntA3S_LS0 F) 70 (laws_heldIntA3S_ls5 F) (loopAt 5 (bodyOf Try.f42)) n (laws_heldIntA3S_st5 a0 i2 k1 j3) k).trans ((laws_heldIntA3S_step5 F a0 i2 k1 j3 (nextK (iterS tt (laws_heldIntA3S_tab F) (laws_heldIntA3S_LS0 F) 70 (laws_heldIntA3S_ls5 F) (loopAt 5 (bodyOf Try.f42)) n) k)).trans (congrArg (fun kn => laws_heldIntA3S_s5 F a0 i2 R (k1, j3) kn _) (funext (fun ⟨k1, j3⟩ => laws_heldIntA3S_iter5 F a0 i2 k n k1 j3))))
theorem laws_heldIntA3S_lok5 (F : Nat) : LoopOK Try.prog (loopAt 5 (bodyOf Try.f42)) (laws_heldIntA3S_ls5 F) := by
  refine loopOK_of mixed ttok deep (laws_heldIntA3S_tabok F) (loopsOK_at (laws_heldIntA3S_lsok0 F) 5) (fuel := 70) fun R vals mem np killed k x h => ?_
  simp only [laws_heldIntA3S_ls5] at h
  split at h
  · rename_i a0 k1 i2 j3
    simp only [GT.run] at h
    have hc := (cond_noneL h).1
    replace h := (cond_noneL h).2
    refine ⟨F, (laws_heldIntA3S_iter5 F a0 i2 k F k1 j3).trans ((loopC_use (laws_heldIntA3S_s5_nat F a0 i2) hc _).trans h)⟩
  · simp only [GT.run] at h
    cases h
noncomputable def laws_heldIntA3S_LS1 (F : Nat) : LT := (5, laws_heldIntA3S_ls5 F) :: laws_heldIntA3S_LS0 F
theorem laws_heldIntA3S_lsok1 (F : Nat) : LoopsOK Try.prog (laws_heldIntA3S_LS1 F) (bodyOf Try.f42) := loopsOK_cons laws_heldIntA3S_keys (laws_heldIntA3S_lok5 F) (laws_heldIntA3S_lsok0 F)
def laws_heldIntA3S_st2 (a0 : List (List Int)) (k1 : Int) (i2 : Int) : St := ⟨expand 28 0 [0, 1, 5] [(.rr 3 a0), (.int .i64 k1), (.int .i64 i2)], [], 0, []⟩
def laws_heldIntA3S_o2 (a0 : List (List Int)) (x : Bool × Int) : GT := (.br x.1 (.out (.ret ⟨expand 28 0 [4] [(.int .i64 (-1 : Int))], [], 0, []⟩)) (.out (.exit 0 ⟨expand 28 0 [1] [(.int .i64 x.2)], [], 0, []⟩)))
def laws_heldIntA3S_ls2 (F : Nat) : LoopS := ⟨28, [0, 1, 5], [], [1], [], [4], [], [], fun vals mem np killed => match vals, mem, np, killed with
  | [(.rr 3 a0), (.int .i64 k1), (.int .i64 i2)], [], 0, [] => .br (laws_heldIntA3S_l2 F a0 k1 i2).isSome (laws_heldIntA3S_o2 a0 ((laws_heldIntA3S_l2 F a0 k1 i2).getD default)) .fail
  | _, _, _, _ => .fail⟩
theorem laws_heldIntA3S_step2 (F : Nat) (a0 : List (List Int)) (k1 : Int) (i2 : Int) {R : Type} (k : Out → Option R) : stepS tt (laws_heldIntA3S_tab F) (laws_heldIntA3S_LS1 F) 70 (laws_heldIntA3S_ls2 F) (loopAt 2 (bodyOf Try.f42)) (laws_heldIntA3S_st2 a0 k1 i2) k = laws_heldIntA3S_s2 F a0 R (k1, i2) (fun s => k (.norm (laws_heldIntA3S_st2 a0 s.1 s.2))) (fun x => (laws_heldIntA3S_o2 a0 x).run k) := by kernel_rfl
theorem laws_heldIntA3S_iter2 (F : Nat) (a0 : List (List Int)) {R : Type} (k : Out → Option R) : ∀ (n : Nat) (k1 : Int) (i2 : Int), iterS tt (laws_heldIntA3S_tab F) (laws_heldIntA3S_LS1 F) 70 (laws_heldIntA3S_ls2 F) (loopAt 2 (bodyOf Try.f42)) n (laws_heldIntA3S_st2 a0 k1 i2) k = loopC (laws_heldIntA3S_s2 F a0) n (k1, i2) (fun x => (laws_heldIntA3S_o2 a0 x).run k)
  | 0, k1, i2 => rfl
  | n + 1, k1, i2 => (iterS_succ tt (laws_heldIntA3S_tab F) (laws_heldIntA3S_LS1 F) 70 (laws_heldIntA3S_ls2 F) (loopAt 2 (bodyOf Try.f42)) n (laws_heldIntA3S_st2 a0 k1 i2) k).trans ((laws_heldIntA3S_step2 F a0 k1 i2 (nextK (iterS tt (laws_heldIntA3S_tab F) (laws_heldIntA3S_LS1 F) 70 (laws_heldIntA3S_ls2 F) (loopAt 2 (bodyOf Try.f42)) n) k)).trans (congrArg (fun kn => laws_heldIntA3S_s2 F a0 R (k1, i2) kn _) (funext (fun ⟨k1, i2⟩ => laws_heldIntA3S_iter2 F a0 k n k1 i2))))
theorem laws_heldIntA3S_lok2 (F : Nat) : LoopOK Try.prog (loopAt 2 (bodyOf Try.f42)) (laws_heldIntA3S_ls2 F) := by
  refine loopOK_of mixed ttok deep (laws_heldIntA3S_tabok F) (loopsOK_at (laws_heldIntA3S_lsok1 F) 2) (fuel := 70) fun R vals mem np killed k x h => ?_
  simp only [laws_heldIntA3S_ls2] at h
  split at h
  · rename_i a0 k1 i2
    simp only [GT.run] at h
    have hc := (cond_noneL h).1
    replace h := (cond_noneL h).2
    refine ⟨F, (laws_heldIntA3S_iter2 F a0 k F k1 i2).trans ((loopC_use (laws_heldIntA3S_s2_nat F a0) hc _).trans h)⟩
  · simp only [GT.run] at h
    cases h
noncomputable def laws_heldIntA3S_LS2 (F : Nat) : LT := (2, laws_heldIntA3S_ls2 F) :: laws_heldIntA3S_LS1 F
theorem laws_heldIntA3S_lsok2 (F : Nat) : LoopsOK Try.prog (laws_heldIntA3S_LS2 F) (bodyOf Try.f42) := loopsOK_cons laws_heldIntA3S_keys (laws_heldIntA3S_lok2 F) (laws_heldIntA3S_lsok1 F)
theorem laws_heldIntA3S_run (F : Nat) (a0 : List (List Int)) (k1 : Int) : runS tt (laws_heldIntA3S_tab F) (laws_heldIntA3S_LS2 F) [] [] Try.f42 (bodyOf Try.f42) 70 [(.rr 3 a0), (.int .i64 k1)] [] = laws_heldIntA3S_c _ F a0 k1 (fun r => some ⟨(.int .i64 r), [], []⟩) := by kernel_rfl
def laws_heldIntA3S_ent (F : Nat) : Ent := ⟨[], .quiet, fun args mem => match args, mem with
  | [(.rr 3 a0), (.int .i64 k1)], [] => some ((laws_heldIntA3S_p F a0 k1).isSome, ⟨(.int .i64 ((laws_heldIntA3S_p F a0 k1).getD default)), [], []⟩)
  | _, _ => none⟩
theorem laws_heldIntA3S_fok : FunOK Try.prog 42 := funOK Try.func42 (by kernel_rfl) rfl
theorem laws_heldIntA3S_meets (F : Nat) : Meets Try.prog 42 (laws_heldIntA3S_ent F) := by
  refine meets_of_runS mixed ttok deep (laws_heldIntA3S_tabok F) Try.func42 (body_some rfl) (laws_heldIntA3S_lsok2 F) fun args mem hfit ret h => ?_
  clear hfit
  simp only [laws_heldIntA3S_ent] at h
  split at h
  · rename_i a0 k1
    simp only [Option.some.injEq, Prod.mk.injEq] at h
    obtain ⟨hc, rfl⟩ := h
    exact ⟨[], [], 70, _, (laws_heldIntA3S_run F a0 k1).trans ((laws_heldIntA3S_cp _ F a0 k1 _).trans (bind_use hc _)), rfl, rfl, rfl⟩
  · cases h

/-! loop.example/g01194/laws.FnExactPlacementsOf -/
noncomputable def laws_FnExactPlacementsOf_tab (F : Nat) : Tab := [(21, (laws_toBoard_ent F)), (38, (spec_PlacementsOf_ent F)), (39, (impl_PlacementsOf_ent F)), (40, (laws_eqIntA3S_ent F)), (41, (laws_markIntA3S_ent F)), (42, (laws_heldIntA3S_ent F))]
theorem laws_FnExactPlacementsOf_tabok (F : Nat) : TabOK Try.prog (laws_FnExactPlacementsOf_tab F) := (tab_cons (laws_toBoard_meets F) laws_toBoard_fok (tab_cons (spec_PlacementsOf_meets F) spec_PlacementsOf_fok (tab_cons (impl_PlacementsOf_meets F) impl_PlacementsOf_fok (tab_cons (laws_eqIntA3S_meets F) laws_eqIntA3S_fok (tab_cons (laws_markIntA3S_meets F) laws_markIntA3S_fok (tab_cons (laws_heldIntA3S_meets F) laws_heldIntA3S_fok tab_nil))))))
noncomputable def laws_FnExactPlacementsOf_LS0 (F : Nat) : LT := []
theorem laws_FnExactPlacementsOf_lsok0 (F : Nat) : LoopsOK Try.prog (laws_FnExactPlacementsOf_LS0 F) (bodyOf Try.f12) := loopsOK_nil
theorem laws_FnExactPlacementsOf_run (F : Nat) (aB0 : List Int) : runS tt (laws_FnExactPlacementsOf_tab F) (laws_FnExactPlacementsOf_LS0 F) [] [] Try.f12 (bodyOf Try.f12) 70 [(.ints 16 aB0)] [] = laws_FnExactPlacementsOf_c _ F aB0 (fun r => some ⟨(.bool r), [], []⟩) := by kernel_rfl
def laws_FnExactPlacementsOf_ent (F : Nat) : Ent := ⟨[], .quiet, fun args mem => match args, mem with
  | [(.ints 16 aB0)], [] => some ((laws_FnExactPlacementsOf_p F aB0).isSome, ⟨(.bool ((laws_FnExactPlacementsOf_p F aB0).getD default)), [], []⟩)
  | _, _ => none⟩
theorem laws_FnExactPlacementsOf_fok : FunOK Try.prog 12 := funOK Try.func12 (by kernel_rfl) rfl
theorem laws_FnExactPlacementsOf_meets (F : Nat) : Meets Try.prog 12 (laws_FnExactPlacementsOf_ent F) := by
  refine meets_of_runS mixed ttok deep (laws_FnExactPlacementsOf_tabok F) Try.func12 (body_some rfl) (laws_FnExactPlacementsOf_lsok0 F) fun args mem hfit ret h => ?_
  clear hfit
  simp only [laws_FnExactPlacementsOf_ent] at h
  split at h
  · rename_i aB0
    simp only [Option.some.injEq, Prod.mk.injEq] at h
    obtain ⟨hc, rfl⟩ := h
    exact ⟨[], [], 70, _, (laws_FnExactPlacementsOf_run F aB0).trans ((laws_FnExactPlacementsOf_cp _ F aB0 _).trans (bind_use hc _)), rfl, rfl, rfl⟩
  · cases h

/-! loop.example/g01194/spec.PackedBoard -/
noncomputable def spec_PackedBoard_tab (F : Nat) : Tab := [(57, (spec_l7Sum_ent F)), (53, (spec_l7Least_ent F)), (81, (spec_l2Put_ent F))]
theorem spec_PackedBoard_tabok (F : Nat) : TabOK Try.prog (spec_PackedBoard_tab F) := (tab_cons (spec_l7Sum_meets F) spec_l7Sum_fok (tab_cons (spec_l7Least_meets F) spec_l7Least_fok (tab_cons (spec_l2Put_meets F) spec_l2Put_fok tab_nil)))
noncomputable def spec_PackedBoard_LS0 (F : Nat) : LT := []
theorem spec_PackedBoard_lsok0 (F : Nat) : LoopsOK Try.prog (spec_PackedBoard_LS0 F) (bodyOf Try.f43) := loopsOK_nil
theorem spec_PackedBoard_keys : keysOK (bodyOf Try.f43) = true := by kernel_rfl
def spec_PackedBoard_st5 (list11 : List Int) (i8 : Int) (b10 : List Int) : St := ⟨expand 32 0 [2, 4, 5, 6] [(.ptr 0 0 0 16), (.ptr 1 0 0 16), (.sl 2 0 (List.length list11)), (.int .i64 i8)], [(.var 16 (.ri .i64 [(0 : Int), (0 : Int), (0 : Int), (0 : Int), (0 : Int), (0 : Int), (0 : Int), (0 : Int), (0 : Int), (0 : Int), (0 : Int), (0 : Int), (0 : Int), (0 : Int), (0 : Int), (0 : Int)])), (.var 16 (.ri .i64 b10)), (.vec 3 (.ri .i64 list11))], 0, []⟩
def spec_PackedBoard_o5 (list11 : List Int) (x : List Int) : GT := (.out (.exit 0 ⟨expand 32 0 [2, 4] [(.ptr 0 0 0 16), (.ptr 1 0 0 16)], [(.var 16 (.ri .i64 [(0 : Int), (0 : Int), (0 : Int), (0 : Int), (0 : Int), (0 : Int), (0 : Int), (0 : Int), (0 : Int), (0 : Int), (0 : Int), (0 : Int), (0 : Int), (0 : Int), (0 : Int), (0 : Int)])), (.var 16 (.ri .i64 x))], 0, []⟩))
def spec_PackedBoard_ls5 (F : Nat) : LoopS := ⟨32, [2, 4, 5, 6], [], [2, 4], [], [2, 3], [], [], fun vals mem np killed => match vals, mem, np, killed with
  | [(.ptr 0 0 0 16), (.ptr 1 0 0 16), (.sl 2 0 q_list7), (.int .i64 i8)], [(.var 16 (.ri .i64 q_t29)), (.var 16 (.ri .i64 b10)), (.vec 3 (.ri .i64 list11))], 0, [] => .br ((q_t29 == ([(0 : Int), (0 : Int), (0 : Int), (0 : Int), (0 : Int), (0 : Int), (0 : Int), (0 : Int), (0 : Int), (0 : Int), (0 : Int), (0 : Int), (0 : Int), (0 : Int), (0 : Int), (0 : Int)] : List Int)) && ((Nat.beq q_list7 (List.length list11)) && (spec_PackedBoard_l5 F list11 i8 b10).isSome)) (spec_PackedBoard_o5 list11 ((spec_PackedBoard_l5 F list11 i8 b10).getD default)) .fail
  | _, _, _, _ => .fail⟩
theorem spec_PackedBoard_step5 (F : Nat) (list11 : List Int) (i8 : Int) (b10 : List Int) {R : Type} (k : Out → Option R) : stepS tt (spec_PackedBoard_tab F) (spec_PackedBoard_LS0 F) 70 (spec_PackedBoard_ls5 F) (loopAt 5 (bodyOf Try.f43)) (spec_PackedBoard_st5 list11 i8 b10) k = spec_PackedBoard_s5 F list11 R (i8, b10) (fun s => k (.norm (spec_PackedBoard_st5 list11 s.1 s.2))) (fun x => (spec_PackedBoard_o5 list11 x).run k) := by kernel_rfl
theorem spec_PackedBoard_iter5 (F : Nat) (list11 : List Int) {R : Type} (k : Out → Option R) : ∀ (n : Nat) (i8 : Int) (b10 : List Int), iterS tt (spec_PackedBoard_tab F) (spec_PackedBoard_LS0 F) 70 (spec_PackedBoard_ls5 F) (loopAt 5 (bodyOf Try.f43)) n (spec_PackedBoard_st5 list11 i8 b10) k = loopC (spec_PackedBoard_s5 F list11) n (i8, b10) (fun x => (spec_PackedBoard_o5 list11 x).run k)
  | 0, i8, b10 => rfl
  | n + 1, i8, b10 => (iterS_succ tt (spec_PackedBoard_tab F) (spec_PackedBoard_LS0 F) 70 (spec_PackedBoard_ls5 F) (loopAt 5 (bodyOf Try.f43)) n (spec_PackedBoard_st5 list11 i8 b10) k).trans ((spec_PackedBoard_step5 F list11 i8 b10 (nextK (iterS tt (spec_PackedBoard_tab F) (spec_PackedBoard_LS0 F) 70 (spec_PackedBoard_ls5 F) (loopAt 5 (bodyOf Try.f43)) n) k)).trans (congrArg (fun kn => spec_PackedBoard_s5 F list11 R (i8, b10) kn _) (funext (fun ⟨i8, b10⟩ => spec_PackedBoard_iter5 F list11 k n i8 b10))))
theorem spec_PackedBoard_lok5 (F : Nat) : LoopOK Try.prog (loopAt 5 (bodyOf Try.f43)) (spec_PackedBoard_ls5 F) := by
  refine loopOK_of mixed ttok deep (spec_PackedBoard_tabok F) (loopsOK_at (spec_PackedBoard_lsok0 F) 5) (fuel := 70) fun R vals mem np killed k x h => ?_
  simp only [spec_PackedBoard_ls5] at h
  split at h
  · rename_i q_list7 i8 q_t29 b10 list11
    simp only [GT.run] at h
    have hc := (cond_noneL h).1
    replace h := (cond_noneL h).2
    have hg := (and_split hc).1
    replace hc := (and_split hc).2
    obtain rfl := beq_li hg
    have hg := (and_split hc).1
    replace hc := (and_split hc).2
    obtain rfl := nbeq_nat hg
    refine ⟨F, (spec_PackedBoard_iter5 F list11 k F i8 b10).trans ((loopC_use (spec_PackedBoard_s5_nat F list11) hc _).trans h)⟩
  · simp only [GT.run] at h
    cases h
noncomputable def spec_PackedBoard_LS1 (F : Nat) : LT := (5, spec_PackedBoard_ls5 F) :: spec_PackedBoard_LS0 F
theorem spec_PackedBoard_lsok1 (F : Nat) : LoopsOK Try.prog (spec_PackedBoard_LS1 F) (bodyOf Try.f43) := loopsOK_cons spec_PackedBoard_keys (spec_PackedBoard_lok5 F) (spec_PackedBoard_lsok0 F)
theorem spec_PackedBoard_run (F : Nat) (sum0 : Int) : runS tt (spec_PackedBoard_tab F) (spec_PackedBoard_LS1 F) [] [] Try.f43 (bodyOf Try.f43) 70 [(.int .i64 sum0)] [] = spec_PackedBoard_c _ F sum0 (fun r => some ⟨(.tup [(.ints 16 r.1), (.bool r.2)]), [], []⟩) := by kernel_rfl
def spec_PackedBoard_ent (F : Nat) : Ent := ⟨[], .quiet, fun args mem => match args, mem with
  | [(.int .i64 sum0)], [] => some ((spec_PackedBoard_p F sum0).isSome, ⟨(.tup [(.ints 16 ((spec_PackedBoard_p F sum0).getD default).1), (.bool ((spec_PackedBoard_p F sum0).getD default).2)]), [], []⟩)
  | _, _ => none⟩
theorem spec_PackedBoard_fok : FunOK Try.prog 43 := funOK Try.func43 (by kernel_rfl) rfl
theorem spec_PackedBoard_meets (F : Nat) : Meets Try.prog 43 (spec_PackedBoard_ent F) := by
  refine meets_of_runS mixed ttok deep (spec_PackedBoard_tabok F) Try.func43 (body_some rfl) (spec_PackedBoard_lsok1 F) fun args mem hfit ret h => ?_
  clear hfit
  simp only [spec_PackedBoard_ent] at h
  split at h
  · rename_i sum0
    simp only [Option.some.injEq, Prod.mk.injEq] at h
    obtain ⟨hc, rfl⟩ := h
    exact ⟨[], [], 70, _, (spec_PackedBoard_run F sum0).trans ((spec_PackedBoard_cp _ F sum0 _).trans (bind_use hc _)), rfl, rfl, rfl⟩
  · cases h

/-! loop.example/g01194/spec.l2Many -/
noncomputable def spec_l2Many_tab (F : Nat) : Tab := [(105, (spec_l2Empty_ent F))]
theorem spec_l2Many_tabok (F : Nat) : TabOK Try.prog (spec_l2Many_tab F) := (tab_cons (spec_l2Empty_meets F) spec_l2Empty_fok tab_nil)
noncomputable def spec_l2Many_LS0 (F : Nat) : LT := []
theorem spec_l2Many_lsok0 (F : Nat) : LoopsOK Try.prog (spec_l2Many_LS0 F) (bodyOf Try.f85) := loopsOK_nil
theorem spec_l2Many_run (F : Nat) (b0 : List Int) : runS tt (spec_l2Many_tab F) (spec_l2Many_LS0 F) [] [] Try.f85 (bodyOf Try.f85) 70 [(.ints 16 b0)] [] = spec_l2Many_c _ F b0 (fun r => some ⟨(.int .i64 r), [], []⟩) := by kernel_rfl
def spec_l2Many_ent (F : Nat) : Ent := ⟨[], .quiet, fun args mem => match args, mem with
  | [(.ints 16 b0)], [] => some ((spec_l2Many_p F b0).isSome, ⟨(.int .i64 ((spec_l2Many_p F b0).getD default)), [], []⟩)
  | _, _ => none⟩
theorem spec_l2Many_fok : FunOK Try.prog 85 := funOK Try.func85 (by kernel_rfl) rfl
theorem spec_l2Many_meets (F : Nat) : Meets Try.prog 85 (spec_l2Many_ent F) := by
  refine meets_of_runS mixed ttok deep (spec_l2Many_tabok F) Try.func85 (body_some rfl) (spec_l2Many_lsok0 F) fun args mem hfit ret h => ?_
  clear hfit
  simp only [spec_l2Many_ent] at h
  split at h
  · rename_i b0
    simp only [Option.some.injEq, Prod.mk.injEq] at h
    obtain ⟨hc, rfl⟩ := h
    exact ⟨[], [], 70, _, (spec_l2Many_run F b0).trans ((spec_l2Many_cp _ F b0 _).trans (bind_use hc _)), rfl, rfl, rfl⟩
  · cases h

/-! loop.example/g01194/spec.MergersLeft -/
noncomputable def spec_MergersLeft_tab (F : Nat) : Tab := [(64, (spec_l2Board_ent F)), (85, (spec_l2Many_ent F)), (65, (spec_l2Sum_ent F)), (53, (spec_l7Least_ent F))]
theorem spec_MergersLeft_tabok (F : Nat) : TabOK Try.prog (spec_MergersLeft_tab F) := (tab_cons (spec_l2Board_meets F) spec_l2Board_fok (tab_cons (spec_l2Many_meets F) spec_l2Many_fok (tab_cons (spec_l2Sum_meets F) spec_l2Sum_fok (tab_cons (spec_l7Least_meets F) spec_l7Least_fok tab_nil))))
noncomputable def spec_MergersLeft_LS0 (F : Nat) : LT := []
theorem spec_MergersLeft_lsok0 (F : Nat) : LoopsOK Try.prog (spec_MergersLeft_LS0 F) (bodyOf Try.f45) := loopsOK_nil
theorem spec_MergersLeft_run (F : Nat) (b0 : List Int) : runS tt (spec_MergersLeft_tab F) (spec_MergersLeft_LS0 F) [] [] Try.f45 (bodyOf Try.f45) 70 [(.ints 16 b0)] [] = spec_MergersLeft_c _ F b0 (fun r => some ⟨(.tup [(.int .i64 r.1), (.bool r.2)]), [], []⟩) := by kernel_rfl
def spec_MergersLeft_ent (F : Nat) : Ent := ⟨[], .quiet, fun args mem => match args, mem with
  | [(.ints 16 b0)], [] => some ((spec_MergersLeft_p F b0).isSome, ⟨(.tup [(.int .i64 ((spec_MergersLeft_p F b0).getD default).1), (.bool ((spec_MergersLeft_p F b0).getD default).2)]), [], []⟩)
  | _, _ => none⟩
theorem spec_MergersLeft_fok : FunOK Try.prog 45 := funOK Try.func45 (by kernel_rfl) rfl
theorem spec_MergersLeft_meets (F : Nat) : Meets Try.prog 45 (spec_MergersLeft_ent F) := by
  refine meets_of_runS mixed ttok deep (spec_MergersLeft_tabok F) Try.func45 (body_some rfl) (spec_MergersLeft_lsok0 F) fun args mem hfit ret h => ?_
  clear hfit
  simp only [spec_MergersLeft_ent] at h
  split at h
  · rename_i b0
    simp only [Option.some.injEq, Prod.mk.injEq] at h
    obtain ⟨hc, rfl⟩ := h
    exact ⟨[], [], 70, _, (spec_MergersLeft_run F b0).trans ((spec_MergersLeft_cp _ F b0 _).trans (bind_use hc _)), rfl, rfl, rfl⟩
  · cases h

/-! loop.example/g01194/impl.MergersLeft -/
noncomputable def impl_MergersLeft_tab (F : Nat) : Tab := [(66, (impl_IsBoard_ent F)), (86, (impl_Board_empty_ent F)), (67, (impl_Board_sum_ent F)), (56, (impl_leastTiles_ent F))]
theorem impl_MergersLeft_tabok (F : Nat) : TabOK Try.prog (impl_MergersLeft_tab F) := (tab_cons (impl_IsBoard_meets F) impl_IsBoard_fok (tab_cons (impl_Board_empty_meets F) impl_Board_empty_fok (tab_cons (impl_Board_sum_meets F) impl_Board_sum_fok (tab_cons (impl_leastTiles_meets F) impl_leastTiles_fok tab_nil))))
noncomputable def impl_MergersLeft_LS0 (F : Nat) : LT := []
theorem impl_MergersLeft_lsok0 (F : Nat) : LoopsOK Try.prog (impl_MergersLeft_LS0 F) (bodyOf Try.f46) := loopsOK_nil
theorem impl_MergersLeft_run (F : Nat) (b0 : List Int) : runS tt (impl_MergersLeft_tab F) (impl_MergersLeft_LS0 F) [] [] Try.f46 (bodyOf Try.f46) 70 [(.ints 16 b0)] [] = impl_MergersLeft_c _ F b0 (fun r => some ⟨(.tup [(.int .i64 r.1), (.bool r.2)]), [], []⟩) := by kernel_rfl
def impl_MergersLeft_ent (F : Nat) : Ent := ⟨[], .quiet, fun args mem => match args, mem with
  | [(.ints 16 b0)], [] => some ((impl_MergersLeft_p F b0).isSome, ⟨(.tup [(.int .i64 ((impl_MergersLeft_p F b0).getD default).1), (.bool ((impl_MergersLeft_p F b0).getD default).2)]), [], []⟩)
  | _, _ => none⟩
theorem impl_MergersLeft_fok : FunOK Try.prog 46 := funOK Try.func46 (by kernel_rfl) rfl
theorem impl_MergersLeft_meets (F : Nat) : Meets Try.prog 46 (impl_MergersLeft_ent F) := by
  refine meets_of_runS mixed ttok deep (impl_MergersLeft_tabok F) Try.func46 (body_some rfl) (impl_MergersLeft_lsok0 F) fun args mem hfit ret h => ?_
  clear hfit
  simp only [impl_MergersLeft_ent] at h
  split at h
  · rename_i b0
    simp only [Option.some.injEq, Prod.mk.injEq] at h
    obtain ⟨hc, rfl⟩ := h
    exact ⟨[], [], 70, _, (impl_MergersLeft_run F b0).trans ((impl_MergersLeft_cp _ F b0 _).trans (bind_use hc _)), rfl, rfl, rfl⟩
  · cases h

/-! loop.example/g01194/laws.FnExactMergersLeft -/
noncomputable def laws_FnExactMergersLeft_tab (F : Nat) : Tab := [(21, (laws_toBoard_ent F)), (45, (spec_MergersLeft_ent F)), (46, (impl_MergersLeft_ent F))]
theorem laws_FnExactMergersLeft_tabok (F : Nat) : TabOK Try.prog (laws_FnExactMergersLeft_tab F) := (tab_cons (laws_toBoard_meets F) laws_toBoard_fok (tab_cons (spec_MergersLeft_meets F) spec_MergersLeft_fok (tab_cons (impl_MergersLeft_meets F) impl_MergersLeft_fok tab_nil)))
noncomputable def laws_FnExactMergersLeft_LS0 (F : Nat) : LT := []
theorem laws_FnExactMergersLeft_lsok0 (F : Nat) : LoopsOK Try.prog (laws_FnExactMergersLeft_LS0 F) (bodyOf Try.f14) := loopsOK_nil
theorem laws_FnExactMergersLeft_run (F : Nat) (aB0 : List Int) : runS tt (laws_FnExactMergersLeft_tab F) (laws_FnExactMergersLeft_LS0 F) [] [] Try.f14 (bodyOf Try.f14) 70 [(.ints 16 aB0)] [] = laws_FnExactMergersLeft_c _ F aB0 (fun r => some ⟨(.bool r), [], []⟩) := by kernel_rfl
def laws_FnExactMergersLeft_ent (F : Nat) : Ent := ⟨[], .quiet, fun args mem => match args, mem with
  | [(.ints 16 aB0)], [] => some ((laws_FnExactMergersLeft_p F aB0).isSome, ⟨(.bool ((laws_FnExactMergersLeft_p F aB0).getD default)), [], []⟩)
  | _, _ => none⟩
theorem laws_FnExactMergersLeft_fok : FunOK Try.prog 14 := funOK Try.func14 (by kernel_rfl) rfl
theorem laws_FnExactMergersLeft_meets (F : Nat) : Meets Try.prog 14 (laws_FnExactMergersLeft_ent F) := by
  refine meets_of_runS mixed ttok deep (laws_FnExactMergersLeft_tabok F) Try.func14 (body_some rfl) (laws_FnExactMergersLeft_lsok0 F) fun args mem hfit ret h => ?_
  clear hfit
  simp only [laws_FnExactMergersLeft_ent] at h
  split at h
  · rename_i aB0
    simp only [Option.some.injEq, Prod.mk.injEq] at h
    obtain ⟨hc, rfl⟩ := h
    exact ⟨[], [], 70, _, (laws_FnExactMergersLeft_run F aB0).trans ((laws_FnExactMergersLeft_cp _ F aB0 _).trans (bind_use hc _)), rfl, rfl, rfl⟩
  · cases h

/-! loop.example/g01194/spec.l3Quarter -/
noncomputable def spec_l3Quarter_tab (F : Nat) : Tab := []
theorem spec_l3Quarter_tabok (F : Nat) : TabOK Try.prog (spec_l3Quarter_tab F) := tab_nil
noncomputable def spec_l3Quarter_LS0 (F : Nat) : LT := []
theorem spec_l3Quarter_lsok0 (F : Nat) : LoopsOK Try.prog (spec_l3Quarter_LS0 F) (bodyOf Try.f120) := loopsOK_nil
theorem spec_l3Quarter_run (F : Nat) (b0 : List Int) : runS tt (spec_l3Quarter_tab F) (spec_l3Quarter_LS0 F) [] [] Try.f120 (bodyOf Try.f120) 70 [(.ints 16 b0)] [] = spec_l3Quarter_c _ b0 (fun r => some ⟨(.ints 16 r), [], []⟩) := by kernel_rfl
def spec_l3Quarter_ent (F : Nat) : Ent := ⟨[], .quiet, fun args mem => match args, mem with
  | [(.ints 16 b0)], [] => some (true, ⟨(.ints 16 (spec_l3Quarter_v b0)), [], []⟩)
  | _, _ => none⟩
theorem spec_l3Quarter_fok : FunOK Try.prog 120 := funOK Try.func120 (by kernel_rfl) rfl
theorem spec_l3Quarter_meets (F : Nat) : Meets Try.prog 120 (spec_l3Quarter_ent F) := by
  refine meets_of_runS mixed ttok deep (spec_l3Quarter_tabok F) Try.func120 (body_some rfl) (spec_l3Quarter_lsok0 F) fun args mem hfit ret h => ?_
  clear hfit
  simp only [spec_l3Quarter_ent] at h
  split at h
  · rename_i b0
    simp only [Option.some.injEq, Prod.mk.injEq] at h
    obtain ⟨hc, rfl⟩ := h
    exact ⟨[], [], 70, _, (spec_l3Quarter_run F b0).trans (spec_l3Quarter_cv _ b0 _), rfl, rfl, rfl⟩
  · cases h

/-! loop.example/g01194/spec.l3Mirror -/
noncomputable def spec_l3Mirror_tab (F : Nat) : Tab := []
theorem spec_l3Mirror_tabok (F : Nat) : TabOK Try.prog (spec_l3Mirror_tab F) := tab_nil
noncomputable def spec_l3Mirror_LS0 (F : Nat) : LT := []
theorem spec_l3Mirror_lsok0 (F : Nat) : LoopsOK Try.prog (spec_l3Mirror_LS0 F) (bodyOf Try.f121) := loopsOK_nil
theorem spec_l3Mirror_run (F : Nat) (b0 : List Int) : runS tt (spec_l3Mirror_tab F) (spec_l3Mirror_LS0 F) [] [] Try.f121 (bodyOf Try.f121) 70 [(.ints 16 b0)] [] = spec_l3Mirror_c _ b0 (fun r => some ⟨(.ints 16 r), [], []⟩) := by kernel_rfl
def spec_l3Mirror_ent (F : Nat) : Ent := ⟨[], .quiet, fun args mem => match args, mem with
  | [(.ints 16 b0)], [] => some (true, ⟨(.ints 16 (spec_l3Mirror_v b0)), [], []⟩)
  | _, _ => none⟩
theorem spec_l3Mirror_fok : FunOK Try.prog 121 := funOK Try.func121 (by kernel_rfl) rfl
theorem spec_l3Mirror_meets (F : Nat) : Meets Try.prog 121 (spec_l3Mirror_ent F) := by
  refine meets_of_runS mixed ttok deep (spec_l3Mirror_tabok F) Try.func121 (body_some rfl) (spec_l3Mirror_lsok0 F) fun args mem hfit ret h => ?_
  clear hfit
  simp only [spec_l3Mirror_ent] at h
  split at h
  · rename_i b0
    simp only [Option.some.injEq, Prod.mk.injEq] at h
    obtain ⟨hc, rfl⟩ := h
    exact ⟨[], [], 70, _, (spec_l3Mirror_run F b0).trans (spec_l3Mirror_cv _ b0 _), rfl, rfl, rfl⟩
  · cases h

/-! loop.example/g01194/spec.l3Made -/
noncomputable def spec_l3Made_tab (F : Nat) : Tab := [(120, (spec_l3Quarter_ent F)), (121, (spec_l3Mirror_ent F))]
theorem spec_l3Made_tabok (F : Nat) : TabOK Try.prog (spec_l3Made_tab F) := (tab_cons (spec_l3Quarter_meets F) spec_l3Quarter_fok (tab_cons (spec_l3Mirror_meets F) spec_l3Mirror_fok tab_nil))
noncomputable def spec_l3Made_LS0 (F : Nat) : LT := []
theorem spec_l3Made_lsok0 (F : Nat) : LoopsOK Try.prog (spec_l3Made_LS0 F) (bodyOf Try.f117) := loopsOK_nil
theorem spec_l3Made_keys : keysOK (bodyOf Try.f117) = true := by kernel_rfl
def spec_l3Made_st2 (k0 : Int) (i7 : Int) (b8 : List Int) : St := ⟨expand 19 0 [1, 2, 4, 5] [(.int .i64 k0), (.ptr 0 0 0 16), (.ptr 1 0 0 16), (.int .i64 i7)], [(.var 16 (.ri .i64 b8)), (.var 16 (.ri .i64 [(0 : Int), (0 : Int), (0 : Int), (0 : Int), (0 : Int), (0 : Int), (0 : Int), (0 : Int), (0 : Int), (0 : Int), (0 : Int), (0 : Int), (0 : Int), (0 : Int), (0 : Int), (0 : Int)]))], 0, []⟩
def spec_l3Made_o2 (k0 : Int) (x : List Int) : GT := (.out (.exit 0 ⟨expand 19 0 [1, 2, 4] [(.int .i64 k0), (.ptr 0 0 0 16), (.ptr 1 0 0 16)], [(.var 16 (.ri .i64 x)), (.var 16 (.ri .i64 [(0 : Int), (0 : Int), (0 : Int), (0 : Int), (0 : Int), (0 : Int), (0 : Int), (0 : Int), (0 : Int), (0 : Int), (0 : Int), (0 : Int), (0 : Int), (0 : Int), (0 : Int), (0 : Int)]))], 0, []⟩))
def spec_l3Made_ls2 (F : Nat) : LoopS := ⟨19, [1, 2, 4, 5], [], [1, 2, 4], [], [4], [], [], fun vals mem np killed => match vals, mem, np, killed with
  | [(.int .i64 k0), (.ptr 0 0 0 16), (.ptr 1 0 0 16), (.int .i64 i7)], [(.var 16 (.ri .i64 b8)), (.var 16 (.ri .i64 q_t49))], 0, [] => .br ((q_t49 == ([(0 : Int), (0 : Int), (0 : Int), (0 : Int), (0 : Int), (0 : Int), (0 : Int), (0 : Int), (0 : Int), (0 : Int), (0 : Int), (0 : Int), (0 : Int), (0 : Int), (0 : Int), (0 : Int)] : List Int)) && (spec_l3Made_l2 F k0 i7 b8).isSome) (spec_l3Made_o2 k0 ((spec_l3Made_l2 F k0 i7 b8).getD default)) .fail
  | _, _, _, _ => .fail⟩
theorem spec_l3Made_step2 (F : Nat) (k0 : Int) (i7 : Int) (b8 : List Int) {R : Type} (k : Out → Option R) : stepS tt (spec_l3Made_tab F) (spec_l3Made_LS0 F) 70 (spec_l3Made_ls2 F) (loopAt 2 (bodyOf Try.f117)) (spec_l3Made_st2 k0 i7 b8) k = spec_l3Made_s2 F k0 R (i7, b8) (fun s => k (.norm (spec_l3Made_st2 k0 s.1 s.2))) (fun x => (spec_l3Made_o2 k0 x).run k) := by kernel_rfl
theorem spec_l3Made_iter2 (F : Nat) (k0 : Int) {R : Type} (k : Out → Option R) : ∀ (n : Nat) (i7 : Int) (b8 : List Int), iterS tt (spec_l3Made_tab F) (spec_l3Made_LS0 F) 70 (spec_l3Made_ls2 F) (loopAt 2 (bodyOf Try.f117)) n (spec_l3Made_st2 k0 i7 b8) k = loopC (spec_l3Made_s2 F k0) n (i7, b8) (fun x => (spec_l3Made_o2 k0 x).run k)
  | 0, i7, b8 => rfl
  | n + 1, i7, b8 => (iterS_succ tt (spec_l3Made_tab F) (spec_l3Made_LS0 F) 70 (spec_l3Made_ls2 F) (loopAt 2 (bodyOf Try.f117)) n (spec_l3Made_st2 k0 i7 b8) k).trans ((spec_l3Made_step2 F k0 i7 b8 (nextK (iterS tt (spec_l3Made_tab F) (spec_l3Made_LS0 F) 70 (spec_l3Made_ls2 F) (loopAt 2 (bodyOf Try.f117)) n) k)).trans (congrArg (fun kn => spec_l3Made_s2 F k0 R (i7, b8) kn _) (funext (fun ⟨i7, b8⟩ => spec_l3Made_iter2 F k0 k n i7 b8))))
theorem spec_l3Made_lok2 (F : Nat) : LoopOK Try.prog (loopAt 2 (bodyOf Try.f117)) (spec_l3Made_ls2 F) := by
  refine loopOK_of mixed ttok deep (spec_l3Made_tabok F) (loopsOK_at (spec_l3Made_lsok0 F) 2) (fuel := 70) fun R vals mem np killed k x h => ?_
  simp only [spec_l3Made_ls2] at h
  split at h
  · rename_i k0 i7 b8 q_t49
    simp only [GT.run] at h
    have hc := (cond_noneL h).1
    replace h := (cond_noneL h).2
    have hg := (and_split hc).1
    replace hc := (and_split hc).2
    obtain rfl := beq_li hg
    refine ⟨F, (spec_l3Made_iter2 F k0 k F i7 b8).trans ((loopC_use (spec_l3Made_s2_nat F k0) hc _).trans h)⟩
  · simp only [GT.run] at h
    cases h
noncomputable def spec_l3Made_LS1 (F : Nat) : LT := (2, spec_l3Made_ls2 F) :: spec_l3Made_LS0 F
theorem spec_l3Made_lsok1 (F : Nat) : LoopsOK Try.prog (spec_l3Made_LS1 F) (bodyOf Try.f117) := loopsOK_cons spec_l3Made_keys (spec_l3Made_lok2 F) (spec_l3Made_lsok0 F)
theorem spec_l3Made_run (F : Nat) (b0 : List Int) (k1 : Int) : runS tt (spec_l3Made_tab F) (spec_l3Made_LS1 F) [] [] Try.f117 (bodyOf Try.f117) 70 [(.ints 16 b0), (.int .i64 k1)] [] = spec_l3Made_c _ F b0 k1 (fun r => some ⟨(.ints 16 r), [], []⟩) := by kernel_rfl
def spec_l3Made_ent (F : Nat) : Ent := ⟨[], .quiet, fun args mem => match args, mem with
  | [(.ints 16 b0), (.int .i64 k1)], [] => some ((spec_l3Made_p F b0 k1).isSome, ⟨(.ints 16 ((spec_l3Made_p F b0 k1).getD default)), [], []⟩)
  | _, _ => none⟩
theorem spec_l3Made_fok : FunOK Try.prog 117 := funOK Try.func117 (by kernel_rfl) rfl
theorem spec_l3Made_meets (F : Nat) : Meets Try.prog 117 (spec_l3Made_ent F) := by
  refine meets_of_runS mixed ttok deep (spec_l3Made_tabok F) Try.func117 (body_some rfl) (spec_l3Made_lsok1 F) fun args mem hfit ret h => ?_
  clear hfit
  simp only [spec_l3Made_ent] at h
  split at h
  · rename_i b0 k1
    simp only [Option.some.injEq, Prod.mk.injEq] at h
    obtain ⟨hc, rfl⟩ := h
    exact ⟨[], [], 70, _, (spec_l3Made_run F b0 k1).trans ((spec_l3Made_cp _ F b0 k1 _).trans (bind_use hc _)), rfl, rfl, rfl⟩
  · cases h

/-! loop.example/g01194/spec.l7Snake -/
noncomputable def spec_l7Snake_tab (F : Nat) : Tab := [(117, (spec_l3Made_ent F))]
theorem spec_l7Snake_tabok (F : Nat) : TabOK Try.prog (spec_l7Snake_tab F) := (tab_cons (spec_l3Made_meets F) spec_l3Made_fok tab_nil)
noncomputable def spec_l7Snake_LS0 (F : Nat) : LT := []
theorem spec_l7Snake_lsok0 (F : Nat) : LoopsOK Try.prog (spec_l7Snake_LS0 F) (bodyOf Try.f108) := loopsOK_nil
theorem spec_l7Snake_run (F : Nat) (k0 : Int) : runS tt (spec_l7Snake_tab F) (spec_l7Snake_LS0 F) [] [] Try.f108 (bodyOf Try.f108) 70 [(.int .i64 k0)] [] = spec_l7Snake_c _ F k0 (fun r => some ⟨(.ints 32 r), [], []⟩) := by kernel_rfl
def spec_l7Snake_ent (F : Nat) : Ent := ⟨[], .quiet, fun args mem => match args, mem with
  | [(.int .i64 k0)], [] => some ((spec_l7Snake_p F k0).isSome, ⟨(.ints 32 ((spec_l7Snake_p F k0).getD default)), [], []⟩)
  | _, _ => none⟩
theorem spec_l7Snake_fok : FunOK Try.prog 108 := funOK Try.func108 (by kernel_rfl) rfl
theorem spec_l7Snake_meets (F : Nat) : Meets Try.prog 108 (spec_l7Snake_ent F) := by
  refine meets_of_runS mixed ttok deep (spec_l7Snake_tabok F) Try.func108 (body_some rfl) (spec_l7Snake_lsok0 F) fun args mem hfit ret h => ?_
  clear hfit
  simp only [spec_l7Snake_ent] at h
  split at h
  · rename_i k0
    simp only [Option.some.injEq, Prod.mk.injEq] at h
    obtain ⟨hc, rfl⟩ := h
    exact ⟨[], [], 70, _, (spec_l7Snake_run F k0).trans ((spec_l7Snake_cp _ F k0 _).trans (bind_use hc _)), rfl, rfl, rfl⟩
  · cases h

/-! loop.example/g01194/spec.l7Ordered -/
noncomputable def spec_l7Ordered_tab (F : Nat) : Tab := [(108, (spec_l7Snake_ent F)), (100, (spec_l2At_ent F))]
theorem spec_l7Ordered_tabok (F : Nat) : TabOK Try.prog (spec_l7Ordered_tab F) := (tab_cons (spec_l7Snake_meets F) spec_l7Snake_fok (tab_cons (spec_l2At_meets F) spec_l2At_fok tab_nil))
noncomputable def spec_l7Ordered_LS0 (F : Nat) : LT := []
theorem spec_l7Ordered_lsok0 (F : Nat) : LoopsOK Try.prog (spec_l7Ordered_LS0 F) (bodyOf Try.f87) := loopsOK_nil
theorem spec_l7Ordered_keys : keysOK (bodyOf Try.f87) = true := by kernel_rfl
def spec_l7Ordered_st3 (b7 : List Int) (path8 : List Int) (i6 : Int) : St := ⟨expand 25 0 [2, 5, 6] [(.ptr 0 0 0 16), (.ptr 1 0 0 32), (.int .i64 i6)], [(.var 16 (.ri .i64 b7)), (.var 32 (.ri .i64 path8))], 0, []⟩
def spec_l7Ordered_o3 (b7 : List Int) (path8 : List Int) (x : Bool) : GT := (.br x (.out (.ret ⟨expand 25 0 [4] [(.bool false)], [], 0, []⟩)) (.out (.exit 0 ⟨expand 25 0 [] [], [], 0, []⟩)))
def spec_l7Ordered_ls3 (F : Nat) : LoopS := ⟨25, [2, 5, 6], [], [], [], [4], [], [], fun vals mem np killed => match vals, mem, np, killed with
  | [(.ptr 0 0 0 16), (.ptr 1 0 0 32), (.int .i64 i6)], [(.var 16 (.ri .i64 b7)), (.var 32 (.ri .i64 path8))], 0, [] => .br (spec_l7Ordered_l3 F b7 path8 i6).isSome (spec_l7Ordered_o3 b7 path8 ((spec_l7Ordered_l3 F b7 path8 i6).getD default)) .fail
  | _, _, _, _ => .fail⟩
theorem spec_l7Ordered_step3 (F : Nat) (b7 : List Int) (path8 : List Int) (i6 : Int) {R : Type} (k : Out → Option R) : stepS tt (spec_l7Ordered_tab F) (spec_l7Ordered_LS0 F) 70 (spec_l7Ordered_ls3 F) (loopAt 3 (bodyOf Try.f87)) (spec_l7Ordered_st3 b7 path8 i6) k = spec_l7Ordered_s3 F b7 path8 R i6 (fun s => k (.norm (spec_l7Ordered_st3 b7 path8 s))) (fun x => (spec_l7Ordered_o3 b7 path8 x).run k) := by kernel_rfl
theorem spec_l7Ordered_iter3 (F : Nat) (b7 : List Int) (path8 : List Int) {R : Type} (k : Out → Option R) : ∀ (n : Nat) (i6 : Int), iterS tt (spec_l7Ordered_tab F) (spec_l7Ordered_LS0 F) 70 (spec_l7Ordered_ls3 F) (loopAt 3 (bodyOf Try.f87)) n (spec_l7Ordered_st3 b7 path8 i6) k = loopC (spec_l7Ordered_s3 F b7 path8) n i6 (fun x => (spec_l7Ordered_o3 b7 path8 x).run k)
  | 0, i6 => rfl
  | n + 1, i6 => (iterS_succ tt (spec_l7Ordered_tab F) (spec_l7Ordered_LS0 F) 70 (spec_l7Ordered_ls3 F) (loopAt 3 (bodyOf Try.f87)) n (spec_l7Ordered_st3 b7 path8 i6) k).trans ((spec_l7Ordered_step3 F b7 path8 i6 (nextK (iterS tt (spec_l7Ordered_tab F) (spec_l7Ordered_LS0 F) 70 (spec_l7Ordered_ls3 F) (loopAt 3 (bodyOf Try.f87)) n) k)).trans (congrArg (fun kn => spec_l7Ordered_s3 F b7 path8 R i6 kn _) (funext (fun i6 => spec_l7Ordered_iter3 F b7 path8 k n i6))))
theorem spec_l7Ordered_lok3 (F : Nat) : LoopOK Try.prog (loopAt 3 (bodyOf Try.f87)) (spec_l7Ordered_ls3 F) := by
  refine loopOK_of mixed ttok deep (spec_l7Ordered_tabok F) (loopsOK_at (spec_l7Ordered_lsok0 F) 3) (fuel := 70) fun R vals mem np killed k x h => ?_
  simp only [spec_l7Ordered_ls3] at h
  split at h
  · rename_i i6 b7 path8
    simp only [GT.run] at h
    have hc := (cond_noneL h).1
    replace h := (cond_noneL h).2
    refine ⟨F, (spec_l7Ordered_iter3 F b7 path8 k F i6).trans ((loopC_use (spec_l7Ordered_s3_nat F b7 path8) hc _).trans h)⟩
  · simp only [GT.run] at h
    cases h
noncomputable def spec_l7Ordered_LS1 (F : Nat) : LT := (3, spec_l7Ordered_ls3 F) :: spec_l7Ordered_LS0 F
theorem spec_l7Ordered_lsok1 (F : Nat) : LoopsOK Try.prog (spec_l7Ordered_LS1 F) (bodyOf Try.f87) := loopsOK_cons spec_l7Ordered_keys (spec_l7Ordered_lok3 F) (spec_l7Ordered_lsok0 F)
theorem spec_l7Ordered_run (F : Nat) (b0 : List Int) (k1 : Int) : runS tt (spec_l7Ordered_tab F) (spec_l7Ordered_LS1 F) [] [] Try.f87 (bodyOf Try.f87) 70 [(.ints 16 b0), (.int .i64 k1)] [] = spec_l7Ordered_c _ F b0 k1 (fun r => some ⟨(.bool r), [], []⟩) := by kernel_rfl
def spec_l7Ordered_ent (F : Nat) : Ent := ⟨[], .quiet, fun args mem => match args, mem with
  | [(.ints 16 b0), (.int .i64 k1)], [] => some ((spec_l7Ordered_p F b0 k1).isSome, ⟨(.bool ((spec_l7Ordered_p F b0 k1).getD default)), [], []⟩)
  | _, _ => none⟩
theorem spec_l7Ordered_fok : FunOK Try.prog 87 := funOK Try.func87 (by kernel_rfl) rfl
theorem spec_l7Ordered_meets (F : Nat) : Meets Try.prog 87 (spec_l7Ordered_ent F) := by
  refine meets_of_runS mixed ttok deep (spec_l7Ordered_tabok F) Try.func87 (body_some rfl) (spec_l7Ordered_lsok1 F) fun args mem hfit ret h => ?_
  clear hfit
  simp only [spec_l7Ordered_ent] at h
  split at h
  · rename_i b0 k1
    simp only [Option.some.injEq, Prod.mk.injEq] at h
    obtain ⟨hc, rfl⟩ := h
    exact ⟨[], [], 70, _, (spec_l7Ordered_run F b0 k1).trans ((spec_l7Ordered_cp _ F b0 k1 _).trans (bind_use hc _)), rfl, rfl, rfl⟩
  · cases h

/-! loop.example/g01194/spec.SnakesOf -/
noncomputable def spec_SnakesOf_tab (F : Nat) : Tab := [(64, (spec_l2Board_ent F)), (87, (spec_l7Ordered_ent F))]
theorem spec_SnakesOf_tabok (F : Nat) : TabOK Try.prog (spec_SnakesOf_tab F) := (tab_cons (spec_l2Board_meets F) spec_l2Board_fok (tab_cons (spec_l7Ordered_meets F) spec_l7Ordered_fok tab_nil))
noncomputable def spec_SnakesOf_LS0 (F : Nat) : LT := []
theorem spec_SnakesOf_lsok0 (F : Nat) : LoopsOK Try.prog (spec_SnakesOf_LS0 F) (bodyOf Try.f47) := loopsOK_nil
theorem spec_SnakesOf_keys : keysOK (bodyOf Try.f47) = true := by kernel_rfl
def spec_SnakesOf_st5 (b6 : List Int) (k5 : Int) (out7 : List Int) : St := ⟨expand 23 0 [1, 4, 5] [(.ptr 0 0 0 16), (.sl 1 0 (List.length out7)), (.int .i64 k5)], [(.var 16 (.ri .i64 b6)), (.vec 3 (.ri .i64 out7))], 0, []⟩
def spec_SnakesOf_o5 (b6 : List Int) (x : List Int) : GT := (.out (.exit 0 ⟨expand 23 0 [4] [(.sl 0 0 (List.length x))], [(.vec 3 (.ri .i64 x))], 0, []⟩))
def spec_SnakesOf_ls5 (F : Nat) : LoopS := ⟨23, [1, 4, 5], [], [4], [], [2, 3], [], [], fun vals mem np killed => match vals, mem, np, killed with
  | [(.ptr 0 0 0 16), (.sl 1 0 q_out4), (.int .i64 k5)], [(.var 16 (.ri .i64 b6)), (.vec 3 (.ri .i64 out7))], 0, [] => .br ((Nat.beq q_out4 (List.length out7)) && (spec_SnakesOf_l5 F b6 k5 out7).isSome) (spec_SnakesOf_o5 b6 ((spec_SnakesOf_l5 F b6 k5 out7).getD default)) .fail
  | _, _, _, _ => .fail⟩
theorem spec_SnakesOf_step5 (F : Nat) (b6 : List Int) (k5 : Int) (out7 : List Int) {R : Type} (k : Out → Option R) : stepS tt (spec_SnakesOf_tab F) (spec_SnakesOf_LS0 F) 70 (spec_SnakesOf_ls5 F) (loopAt 5 (bodyOf Try.f47)) (spec_SnakesOf_st5 b6 k5 out7) k = spec_SnakesOf_s5 F b6 R (k5, out7) (fun s => k (.norm (spec_SnakesOf_st5 b6 s.1 s.2))) (fun x => (spec_SnakesOf_o5 b6 x).run k) := by kernel_rfl
theorem spec_SnakesOf_iter5 (F : Nat) (b6 : List Int) {R : Type} (k : Out → Option R) : ∀ (n : Nat) (k5 : Int) (out7 : List Int), iterS tt (spec_SnakesOf_tab F) (spec_SnakesOf_LS0 F) 70 (spec_SnakesOf_ls5 F) (loopAt 5 (bodyOf Try.f47)) n (spec_SnakesOf_st5 b6 k5 out7) k = loopC (spec_SnakesOf_s5 F b6) n (k5, out7) (fun x => (spec_SnakesOf_o5 b6 x).run k)
  | 0, k5, out7 => rfl
  | n + 1, k5, out7 => (iterS_succ tt (spec_SnakesOf_tab F) (spec_SnakesOf_LS0 F) 70 (spec_SnakesOf_ls5 F) (loopAt 5 (bodyOf Try.f47)) n (spec_SnakesOf_st5 b6 k5 out7) k).trans ((spec_SnakesOf_step5 F b6 k5 out7 (nextK (iterS tt (spec_SnakesOf_tab F) (spec_SnakesOf_LS0 F) 70 (spec_SnakesOf_ls5 F) (loopAt 5 (bodyOf Try.f47)) n) k)).trans (congrArg (fun kn => spec_SnakesOf_s5 F b6 R (k5, out7) kn _) (funext (fun ⟨k5, out7⟩ => spec_SnakesOf_iter5 F b6 k n k5 out7))))
theorem spec_SnakesOf_lok5 (F : Nat) : LoopOK Try.prog (loopAt 5 (bodyOf Try.f47)) (spec_SnakesOf_ls5 F) := by
  refine loopOK_of mixed ttok deep (spec_SnakesOf_tabok F) (loopsOK_at (spec_SnakesOf_lsok0 F) 5) (fuel := 70) fun R vals mem np killed k x h => ?_
  simp only [spec_SnakesOf_ls5] at h
  split at h
  · rename_i q_out4 k5 b6 out7
    simp only [GT.run] at h
    have hc := (cond_noneL h).1
    replace h := (cond_noneL h).2
    have hg := (and_split hc).1
    replace hc := (and_split hc).2
    obtain rfl := nbeq_nat hg
    refine ⟨F, (spec_SnakesOf_iter5 F b6 k F k5 out7).trans ((loopC_use (spec_SnakesOf_s5_nat F b6) hc _).trans h)⟩
  · simp only [GT.run] at h
    cases h
noncomputable def spec_SnakesOf_LS1 (F : Nat) : LT := (5, spec_SnakesOf_ls5 F) :: spec_SnakesOf_LS0 F
theorem spec_SnakesOf_lsok1 (F : Nat) : LoopsOK Try.prog (spec_SnakesOf_LS1 F) (bodyOf Try.f47) := loopsOK_cons spec_SnakesOf_keys (spec_SnakesOf_lok5 F) (spec_SnakesOf_lsok0 F)
theorem spec_SnakesOf_run (F : Nat) (b0 : List Int) : runS tt (spec_SnakesOf_tab F) (spec_SnakesOf_LS1 F) [] [] Try.f47 (bodyOf Try.f47) 70 [(.ints 16 b0)] [] = spec_SnakesOf_c _ F b0 (fun r => some ⟨(.tup [(.sl 0 0 (List.length r.2)), (.bool r.1)]), [(.vec 3 (.ri .i64 r.2))], []⟩) := by kernel_rfl
def spec_SnakesOf_ent (F : Nat) : Ent := ⟨[], .fresh, fun args mem => match args, mem with
  | [(.ints 16 b0)], [] => some ((spec_SnakesOf_p F b0).isSome, ⟨(.tup [(.sl 0 0 (List.length ((spec_SnakesOf_p F b0).getD default).2)), (.bool ((spec_SnakesOf_p F b0).getD default).1)]), [(.vec 3 (.ri .i64 ((spec_SnakesOf_p F b0).getD default).2))], []⟩)
  | _, _ => none⟩
theorem spec_SnakesOf_fok : FunOK Try.prog 47 := funOK Try.func47 (by kernel_rfl) rfl
theorem spec_SnakesOf_meets (F : Nat) : Meets Try.prog 47 (spec_SnakesOf_ent F) := by
  refine meets_of_runS mixed ttok deep (spec_SnakesOf_tabok F) Try.func47 (body_some rfl) (spec_SnakesOf_lsok1 F) fun args mem hfit ret h => ?_
  clear hfit
  simp only [spec_SnakesOf_ent] at h
  split at h
  · rename_i b0
    simp only [Option.some.injEq, Prod.mk.injEq] at h
    obtain ⟨hc, rfl⟩ := h
    exact ⟨[], [], 70, _, (spec_SnakesOf_run F b0).trans ((spec_SnakesOf_cp _ F b0 _).trans (bind_use hc _)), rfl, rfl, rfl⟩
  · cases h

/-! loop.example/g01194/impl.moved -/
noncomputable def impl_moved_tab (F : Nat) : Tab := []
theorem impl_moved_tabok (F : Nat) : TabOK Try.prog (impl_moved_tab F) := tab_nil
noncomputable def impl_moved_LS0 (F : Nat) : LT := []
theorem impl_moved_lsok0 (F : Nat) : LoopsOK Try.prog (impl_moved_LS0 F) (bodyOf Try.f109) := loopsOK_nil
theorem impl_moved_keys : keysOK (bodyOf Try.f109) = true := by kernel_rfl
def impl_moved_st2 (k0 : Int) (t67 : Int) (t78 : Int) (cell9 : List Int) : St := ⟨expand 23 0 [0, 3, 4, 6, 7] [(.int .i64 k0), (.ptr 0 0 0 2), (.ptr 1 0 0 2), (.int .i64 t67), (.int .i64 t78)], [(.var 2 (.ri .i64 cell9)), (.var 2 (.ri .i64 [(0 : Int), (0 : Int)]))], 0, []⟩
def impl_moved_o2 (k0 : Int) (t67 : Int) (x : List Int) : GT := (.out (.exit 0 ⟨expand 23 0 [0, 3, 4] [(.int .i64 k0), (.ptr 0 0 0 2), (.ptr 1 0 0 2)], [(.var 2 (.ri .i64 x)), (.var 2 (.ri .i64 [(0 : Int), (0 : Int)]))], 0, []⟩))
def impl_moved_ls2 (F : Nat) : LoopS := ⟨23, [0, 3, 4, 6, 7], [], [0, 3, 4], [], [4], [], [], fun vals mem np killed => match vals, mem, np, killed with
  | [(.int .i64 k0), (.ptr 0 0 0 2), (.ptr 1 0 0 2), (.int .i64 t67), (.int .i64 t78)], [(.var 2 (.ri .i64 cell9)), (.var 2 (.ri .i64 q_t410))], 0, [] => .br ((q_t410 == ([(0 : Int), (0 : Int)] : List Int)) && (impl_moved_l2 F k0 t67 t78 cell9).isSome) (impl_moved_o2 k0 t67 ((impl_moved_l2 F k0 t67 t78 cell9).getD default)) .fail
  | _, _, _, _ => .fail⟩
theorem impl_moved_step2 (F : Nat) (k0 : Int) (t67 : Int) (t78 : Int) (cell9 : List Int) {R : Type} (k : Out → Option R) : stepS tt (impl_moved_tab F) (impl_moved_LS0 F) 70 (impl_moved_ls2 F) (loopAt 2 (bodyOf Try.f109)) (impl_moved_st2 k0 t67 t78 cell9) k = impl_moved_s2 F k0 t67 R (t78, cell9) (fun s => k (.norm (impl_moved_st2 k0 t67 s.1 s.2))) (fun x => (impl_moved_o2 k0 t67 x).run k) := by kernel_rfl
theorem impl_moved_iter2 (F : Nat) (k0 : Int) (t67 : Int) {R : Type} (k : Out → Option R) : ∀ (n : Nat) (t78 : Int) (cell9 : List Int), iterS tt (impl_moved_tab F) (impl_moved_LS0 F) 70 (impl_moved_ls2 F) (loopAt 2 (bodyOf Try.f109)) n (impl_moved_st2 k0 t67 t78 cell9) k = loopC (impl_moved_s2 F k0 t67) n (t78, cell9) (fun x => (impl_moved_o2 k0 t67 x).run k)
  | 0, t78, cell9 => rfl
  | n + 1, t78, cell9 => (iterS_succ tt (impl_moved_tab F) (impl_moved_LS0 F) 70 (impl_moved_ls2 F) (loopAt 2 (bodyOf Try.f109)) n (impl_moved_st2 k0 t67 t78 cell9) k).trans ((impl_moved_step2 F k0 t67 t78 cell9 (nextK (iterS tt (impl_moved_tab F) (impl_moved_LS0 F) 70 (impl_moved_ls2 F) (loopAt 2 (bodyOf Try.f109)) n) k)).trans (congrArg (fun kn => impl_moved_s2 F k0 t67 R (t78, cell9) kn _) (funext (fun ⟨t78, cell9⟩ => impl_moved_iter2 F k0 t67 k n t78 cell9))))
theorem impl_moved_lok2 (F : Nat) : LoopOK Try.prog (loopAt 2 (bodyOf Try.f109)) (impl_moved_ls2 F) := by
  refine loopOK_of mixed ttok deep (impl_moved_tabok F) (loopsOK_at (impl_moved_lsok0 F) 2) (fuel := 70) fun R vals mem np killed k x h => ?_
  simp only [impl_moved_ls2] at h
  split at h
  · rename_i k0 t67 t78 cell9 q_t410
    simp only [GT.run] at h
    have hc := (cond_noneL h).1
    replace h := (cond_noneL h).2
    have hg := (and_split hc).1
    replace hc := (and_split hc).2
    obtain rfl := beq_li hg
    refine ⟨F, (impl_moved_iter2 F k0 t67 k F t78 cell9).trans ((loopC_use (impl_moved_s2_nat F k0 t67) hc _).trans h)⟩
  · simp only [GT.run] at h
    cases h
noncomputable def impl_moved_LS1 (F : Nat) : LT := (2, impl_moved_ls2 F) :: impl_moved_LS0 F
theorem impl_moved_lsok1 (F : Nat) : LoopsOK Try.prog (impl_moved_LS1 F) (bodyOf Try.f109) := loopsOK_cons impl_moved_keys (impl_moved_lok2 F) (impl_moved_lsok0 F)
theorem impl_moved_run (F : Nat) (k0 : Int) (cell1 : List Int) : runS tt (impl_moved_tab F) (impl_moved_LS1 F) [] [] Try.f109 (bodyOf Try.f109) 70 [(.int .i64 k0), (.ints 2 cell1)] [] = impl_moved_c _ F k0 cell1 (fun r => some ⟨(.ints 2 r), [], []⟩) := by kernel_rfl
def impl_moved_ent (F : Nat) : Ent := ⟨[], .quiet, fun args mem => match args, mem with
  | [(.int .i64 k0), (.ints 2 cell1)], [] => some ((impl_moved_p F k0 cell1).isSome, ⟨(.ints 2 ((impl_moved_p F k0 cell1).getD default)), [], []⟩)
  | _, _ => none⟩
theorem impl_moved_fok : FunOK Try.prog 109 := funOK Try.func109 (by kernel_rfl) rfl
theorem impl_moved_meets (F : Nat) : Meets Try.prog 109 (impl_moved_ent F) := by
  refine meets_of_runS mixed ttok deep (impl_moved_tabok F) Try.func109 (body_some rfl) (impl_moved_lsok1 F) fun args mem hfit ret h => ?_
  clear hfit
  simp only [impl_moved_ent] at h
  split at h
  · rename_i k0 cell1
    simp only [Option.some.injEq, Prod.mk.injEq] at h
    obtain ⟨hc, rfl⟩ := h
    exact ⟨[], [], 70, _, (impl_moved_run F k0 cell1).trans ((impl_moved_cp _ F k0 cell1 _).trans (bind_use hc _)), rfl, rfl, rfl⟩
  · cases h

/-! loop.example/g01194/impl.snake -/
noncomputable def impl_snake_tab (F : Nat) : Tab := [(82, (impl_cells_ent F)), (109, (impl_moved_ent F))]
theorem impl_snake_tabok (F : Nat) : TabOK Try.prog (impl_snake_tab F) := (tab_cons (impl_cells_meets F) impl_cells_fok (tab_cons (impl_moved_meets F) impl_moved_fok tab_nil))
noncomputable def impl_snake_LS0 (F : Nat) : LT := []
theorem impl_snake_lsok0 (F : Nat) : LoopsOK Try.prog (impl_snake_LS0 F) (bodyOf Try.f88) := loopsOK_nil
theorem impl_snake_run (F : Nat) (k0 : Int) : runS tt (impl_snake_tab F) (impl_snake_LS0 F) [] [] Try.f88 (bodyOf Try.f88) 70 [(.int .i64 k0)] [] = impl_snake_c _ F k0 (fun r => some ⟨(.ints 32 r), [], []⟩) := by kernel_rfl
def impl_snake_ent (F : Nat) : Ent := ⟨[], .quiet, fun args mem => match args, mem with
  | [(.int .i64 k0)], [] => some ((impl_snake_p F k0).isSome, ⟨(.ints 32 ((impl_snake_p F k0).getD default)), [], []⟩)
  | _, _ => none⟩
theorem impl_snake_fok : FunOK Try.prog 88 := funOK Try.func88 (by kernel_rfl) rfl
theorem impl_snake_meets (F : Nat) : Meets Try.prog 88 (impl_snake_ent F) := by
  refine meets_of_runS mixed ttok deep (impl_snake_tabok F) Try.func88 (body_some rfl) (impl_snake_lsok0 F) fun args mem hfit ret h => ?_
  clear hfit
  simp only [impl_snake_ent] at h
  split at h
  · rename_i k0
    simp only [Option.some.injEq, Prod.mk.injEq] at h
    obtain ⟨hc, rfl⟩ := h
    exact ⟨[], [], 70, _, (impl_snake_run F k0).trans ((impl_snake_cp _ F k0 _).trans (bind_use hc _)), rfl, rfl, rfl⟩
  · cases h

/-! cmp.isNaN[int] -/
noncomputable def cmp_isNaN_int_tab (F : Nat) : Tab := []
theorem cmp_isNaN_int_tabok (F : Nat) : TabOK Try.prog (cmp_isNaN_int_tab F) := tab_nil
noncomputable def cmp_isNaN_int_LS0 (F : Nat) : LT := []
theorem cmp_isNaN_int_lsok0 (F : Nat) : LoopsOK Try.prog (cmp_isNaN_int_LS0 F) (bodyOf Try.f118) := loopsOK_nil
theorem cmp_isNaN_int_run (F : Nat) (x0 : Int) : runS tt (cmp_isNaN_int_tab F) (cmp_isNaN_int_LS0 F) [] [] Try.f118 (bodyOf Try.f118) 70 [(.int .i64 x0)] [] = cmp_isNaN_int_c _ x0 (fun r => some ⟨(.bool r), [], []⟩) := by kernel_rfl
def cmp_isNaN_int_ent (F : Nat) : Ent := ⟨[], .quiet, fun args mem => match args, mem with
  | [(.int .i64 x0)], [] => some (true, ⟨(.bool (cmp_isNaN_int_v x0)), [], []⟩)
  | _, _ => none⟩
theorem cmp_isNaN_int_fok : FunOK Try.prog 118 := funOK Try.func118 (by kernel_rfl) rfl
theorem cmp_isNaN_int_meets (F : Nat) : Meets Try.prog 118 (cmp_isNaN_int_ent F) := by
  refine meets_of_runS mixed ttok deep (cmp_isNaN_int_tabok F) Try.func118 (body_some rfl) (cmp_isNaN_int_lsok0 F) fun args mem hfit ret h => ?_
  clear hfit
  simp only [cmp_isNaN_int_ent] at h
  split at h
  · rename_i x0
    simp only [Option.some.injEq, Prod.mk.injEq] at h
    obtain ⟨hc, rfl⟩ := h
    exact ⟨[], [], 70, _, (cmp_isNaN_int_run F x0).trans (cmp_isNaN_int_cv _ x0 _), rfl, rfl, rfl⟩
  · cases h

/-! cmp.Less[int] -/
noncomputable def cmp_Less_int_tab (F : Nat) : Tab := [(118, (cmp_isNaN_int_ent F))]
theorem cmp_Less_int_tabok (F : Nat) : TabOK Try.prog (cmp_Less_int_tab F) := (tab_cons (cmp_isNaN_int_meets F) cmp_isNaN_int_fok tab_nil)
noncomputable def cmp_Less_int_LS0 (F : Nat) : LT := []
theorem cmp_Less_int_lsok0 (F : Nat) : LoopsOK Try.prog (cmp_Less_int_LS0 F) (bodyOf Try.f110) := loopsOK_nil
theorem cmp_Less_int_run (F : Nat) (x0 : Int) (y1 : Int) : runS tt (cmp_Less_int_tab F) (cmp_Less_int_LS0 F) [] [] Try.f110 (bodyOf Try.f110) 70 [(.int .i64 x0), (.int .i64 y1)] [] = cmp_Less_int_c _ x0 y1 (fun r => some ⟨(.bool r), [], []⟩) := by kernel_rfl
def cmp_Less_int_ent (F : Nat) : Ent := ⟨[], .quiet, fun args mem => match args, mem with
  | [(.int .i64 x0), (.int .i64 y1)], [] => some (true, ⟨(.bool (cmp_Less_int_v x0 y1)), [], []⟩)
  | _, _ => none⟩
theorem cmp_Less_int_fok : FunOK Try.prog 110 := funOK Try.func110 (by kernel_rfl) rfl
theorem cmp_Less_int_meets (F : Nat) : Meets Try.prog 110 (cmp_Less_int_ent F) := by
  refine meets_of_runS mixed ttok deep (cmp_Less_int_tabok F) Try.func110 (body_some rfl) (cmp_Less_int_lsok0 F) fun args mem hfit ret h => ?_
  clear hfit
  simp only [cmp_Less_int_ent] at h
  split at h
  · rename_i x0 y1
    simp only [Option.some.injEq, Prod.mk.injEq] at h
    obtain ⟨hc, rfl⟩ := h
    exact ⟨[], [], 70, _, (cmp_Less_int_run F x0 y1).trans (cmp_Less_int_cv _ x0 y1 _), rfl, rfl, rfl⟩
  · cases h
end Go.Proofs.Ytmdicfifhppjaaa
