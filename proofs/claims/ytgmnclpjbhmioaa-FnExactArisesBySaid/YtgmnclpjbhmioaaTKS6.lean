/-
Pure functions and what the code of them does, by program; without conditions.
-/
import Derived.Test.YtgmnclpjbhmioaaTKP6
import Derived.Test.YtgmnclpjbhmioaaTKS5
namespace Go.Proofs.Ytgmnclpjbhmioaa
open Go Go.Lv Go.Lv.P Go.Proofs
set_option linter.unusedVariables false
set_option linter.unusedSimpArgs false
set_option maxRecDepth 100000
/-! loop.example/g01194/laws.eqIntA2 -/
noncomputable def laws_eqIntA2_tab (F : Nat) : Tab := []
theorem laws_eqIntA2_tabok (F : Nat) : TabOK Try.prog (laws_eqIntA2_tab F) := tab_nil
noncomputable def laws_eqIntA2_LS0 (F : Nat) : LT := []
theorem laws_eqIntA2_lsok0 (F : Nat) : LoopsOK Try.prog (laws_eqIntA2_LS0 F) (bodyOf Try.f66) := loopsOK_nil
theorem laws_eqIntA2_keys : keysOK (bodyOf Try.f66) = true := by kernel_rfl
def laws_eqIntA2_st2 (a7 : List Int) (b8 : List Int) (i6 : Int) : St := ⟨expand 17 0 [2, 3, 5] [(.ptr 0 0 0 2), (.ptr 1 0 0 2), (.int .i64 i6)], [(.var 2 (.ri .i64 a7)), (.var 2 (.ri .i64 b8))], 0, []⟩
def laws_eqIntA2_o2 (a7 : List Int) (b8 : List Int) (x : Bool) : GT := (.br x (.out (.ret ⟨expand 17 0 [4] [(.bool false)], [], 0, []⟩)) (.out (.exit 0 ⟨expand 17 0 [] [], [], 0, []⟩)))
def laws_eqIntA2_ls2 (F : Nat) : LoopS := ⟨17, [2, 3, 5], [], [], [], [4], [], [], fun vals mem np killed => match vals, mem, np, killed with
  | [(.ptr 0 0 0 2), (.ptr 1 0 0 2), (.int .i64 i6)], [(.var 2 (.ri .i64 a7)), (.var 2 (.ri .i64 b8))], 0, [] => .br (laws_eqIntA2_l2 F a7 b8 i6).isSome (laws_eqIntA2_o2 a7 b8 ((laws_eqIntA2_l2 F a7 b8 i6).getD default)) .fail
  | _, _, _, _ => .fail⟩
theorem laws_eqIntA2_step2 (F : Nat) (a7 : List Int) (b8 : List Int) (i6 : Int) {R : Type} (k : Out → Option R) : stepS tt (laws_eqIntA2_tab F) (laws_eqIntA2_LS0 F) 70 (laws_eqIntA2_ls2 F) (loopAt 2 (bodyOf Try.f66)) (laws_eqIntA2_st2 a7 b8 i6) k = laws_eqIntA2_s2 F a7 b8 R i6 (fun s => k (.norm (laws_eqIntA2_st2 a7 b8 s))) (fun x => (laws_eqIntA2_o2 a7 b8 x).run k) := by kernel_rfl
theorem laws_eqIntA2_iter2 (F : Nat) (a7 : List Int) (b8 : List Int) {R : Type} (k : Out → Option R) : ∀ (n : Nat) (i6 : Int), iterS tt (laws_eqIntA2_tab F) (laws_eqIntA2_LS0 F) 70 (laws_eqIntA2_ls2 F) (loopAt 2 (bodyOf Try.f66)) n (laws_eqIntA2_st2 a7 b8 i6) k = loopC (laws_eqIntA2_s2 F a7 b8) n i6 (fun x => (laws_eqIntA2_o2 a7 b8 x).run k)
  | 0, i6 => rfl
  | n + 1, i6 => (iterS_succ tt (laws_eqIntA2_tab F) (laws_eqIntA2_LS0 F) 70 (laws_eqIntA2_ls2 F) (loopAt 2 (bodyOf Try.f66)) n (laws_eqIntA2_st2 a7 b8 i6) k).trans ((laws_eqIntA2_step2 F a7 b8 i6 (nextK (iterS tt (laws_eqIntA2_tab F) (laws_eqIntA2_LS0 F) 70 (laws_eqIntA2_ls2 F) (loopAt 2 (bodyOf Try.f66)) n) k)).trans (congrArg (fun kn => laws_eqIntA2_s2 F a7 b8 R i6 kn _) (funext (fun i6 => laws_eqIntA2_iter2 F a7 b8 k n i6))))
theorem laws_eqIntA2_lok2 (F : Nat) : LoopOK Try.prog (loopAt 2 (bodyOf Try.f66)) (laws_eqIntA2_ls2 F) := by
  refine loopOK_of mixed ttok deep (laws_eqIntA2_tabok F) (loopsOK_at (laws_eqIntA2_lsok0 F) 2) (fuel := 70) fun R vals mem np killed k x h => ?_
  simp only [laws_eqIntA2_ls2] at h
  split at h
  · rename_i i6 a7 b8
    simp only [GT.run] at h
    have hc := (cond_noneL h).1
    replace h := (cond_noneL h).2
    refine ⟨F, (laws_eqIntA2_iter2 F a7 b8 k F i6).trans ((loopC_use (laws_eqIntA2_s2_nat F a7 b8) hc _).trans h)⟩
  · simp only [GT.run] at h
    cases h
noncomputable def laws_eqIntA2_LS1 (F : Nat) : LT := (2, laws_eqIntA2_ls2 F) :: laws_eqIntA2_LS0 F
theorem laws_eqIntA2_lsok1 (F : Nat) : LoopsOK Try.prog (laws_eqIntA2_LS1 F) (bodyOf Try.f66) := loopsOK_cons laws_eqIntA2_keys (laws_eqIntA2_lok2 F) (laws_eqIntA2_lsok0 F)
theorem laws_eqIntA2_run (F : Nat) (a0 : List Int) (b1 : List Int) : runS tt (laws_eqIntA2_tab F) (laws_eqIntA2_LS1 F) [] [] Try.f66 (bodyOf Try.f66) 70 [(.ints 2 a0), (.ints 2 b1)] [] = laws_eqIntA2_c _ F a0 b1 (fun r => some ⟨(.bool r), [], []⟩) := by kernel_rfl
def laws_eqIntA2_ent (F : Nat) : Ent := ⟨[], .quiet, fun args mem => match args, mem with
  | [(.ints 2 a0), (.ints 2 b1)], [] => some ((laws_eqIntA2_p F a0 b1).isSome, ⟨(.bool ((laws_eqIntA2_p F a0 b1).getD default)), [], []⟩)
  | _, _ => none⟩
theorem laws_eqIntA2_fok : FunOK Try.prog 66 := funOK Try.func66 (by kernel_rfl) rfl
theorem laws_eqIntA2_meets (F : Nat) : Meets Try.prog 66 (laws_eqIntA2_ent F) := by
  refine meets_of_runS mixed ttok deep (laws_eqIntA2_tabok F) Try.func66 (body_some rfl) (laws_eqIntA2_lsok1 F) fun args mem hfit ret h => ?_
  clear hfit
  simp only [laws_eqIntA2_ent] at h
  split at h
  · rename_i a0 b1
    simp only [Option.some.injEq, Prod.mk.injEq] at h
    obtain ⟨hc, rfl⟩ := h
    exact ⟨[], [], 70, _, (laws_eqIntA2_run F a0 b1).trans ((laws_eqIntA2_cp _ F a0 b1 _).trans (bind_use hc _)), rfl, rfl, rfl⟩
  · cases h

/-! loop.example/g01194/laws.eqIntA2S -/
noncomputable def laws_eqIntA2S_tab (F : Nat) : Tab := [(66, (laws_eqIntA2_ent F))]
theorem laws_eqIntA2S_tabok (F : Nat) : TabOK Try.prog (laws_eqIntA2S_tab F) := (tab_cons (laws_eqIntA2_meets F) laws_eqIntA2_fok tab_nil)
noncomputable def laws_eqIntA2S_LS0 (F : Nat) : LT := []
theorem laws_eqIntA2S_lsok0 (F : Nat) : LoopsOK Try.prog (laws_eqIntA2S_LS0 F) (bodyOf Try.f30) := loopsOK_nil
theorem laws_eqIntA2S_keys : keysOK (bodyOf Try.f30) = true := by kernel_rfl
def laws_eqIntA2S_st4 (a0 : List (List Int)) (b1 : List (List Int)) (i2 : Int) : St := ⟨expand 27 0 [0, 1, 5] [(.rr 2 a0), (.rr 2 b1), (.int .i64 i2)], [], 0, []⟩
def laws_eqIntA2S_o4 (a0 : List (List Int)) (b1 : List (List Int)) (x : Bool) : GT := (.br x (.out (.ret ⟨expand 27 0 [4] [(.bool false)], [], 0, []⟩)) (.out (.exit 0 ⟨expand 27 0 [] [], [], 0, []⟩)))
def laws_eqIntA2S_ls4 (F : Nat) : LoopS := ⟨27, [0, 1, 5], [], [], [], [4], [], [], fun vals mem np killed => match vals, mem, np, killed with
  | [(.rr 2 a0), (.rr 2 b1), (.int .i64 i2)], [], 0, [] => .br (laws_eqIntA2S_l4 F a0 b1 i2).isSome (laws_eqIntA2S_o4 a0 b1 ((laws_eqIntA2S_l4 F a0 b1 i2).getD default)) .fail
  | _, _, _, _ => .fail⟩
theorem laws_eqIntA2S_step4 (F : Nat) (a0 : List (List Int)) (b1 : List (List Int)) (i2 : Int) {R : Type} (k : Out → Option R) : stepS tt (laws_eqIntA2S_tab F) (laws_eqIntA2S_LS0 F) 70 (laws_eqIntA2S_ls4 F) (loopAt 4 (bodyOf Try.f30)) (laws_eqIntA2S_st4 a0 b1 i2) k = laws_eqIntA2S_s4 F a0 b1 R i2 (fun s => k (.norm (laws_eqIntA2S_st4 a0 b1 s))) (fun x => (laws_eqIntA2S_o4 a0 b1 x).run k) := by kernel_rfl
theorem laws_eqIntA2S_iter4 (F : Nat) (a0 : List (List Int)) (b1 : List (List Int)) {R : Type} (k : Out → Option R) : ∀ (n : Nat) (i2 : Int), iterS tt (laws_eqIntA2S_tab F) (laws_eqIntA2S_LS0 F) 70 (laws_eqIntA2S_ls4 F) (loopAt 4 (bodyOf Try.f30)) n (laws_eqIntA2S_st4 a0 b1 i2) k = loopC (laws_eqIntA2S_s4 F a0 b1) n i2 (fun x => (laws_eqIntA2S_o4 a0 b1 x).run k)
  | 0, i2 => rfl
  | n + 1, i2 => (iterS_succ tt (laws_eqIntA2S_tab F) (laws_eqIntA2S_LS0 F) 70 (laws_eqIntA2S_ls4 F) (loopAt 4 (bodyOf Try.f30)) n (laws_eqIntA2S_st4 a0 b1 i2) k).trans ((laws_eqIntA2S_step4 F a0 b1 i2 (nextK (iterS tt (laws_eqIntA2S_tab F) (laws_eqIntA2S_LS0 F) 70 (laws_eqIntA2S_ls4 F) (loopAt 4 (bodyOf Try.f30)) n) k)).trans (congrArg (fun kn => laws_eqIntA2S_s4 F a0 b1 R i2 kn _) (funext (fun i2 => laws_eqIntA2S_iter4 F a0 b1 k n i2))))
theorem laws_eqIntA2S_lok4 (F : Nat) : LoopOK Try.prog (loopAt 4 (bodyOf Try.f30)) (laws_eqIntA2S_ls4 F) := by
  refine loopOK_of mixed ttok deep (laws_eqIntA2S_tabok F) (loopsOK_at (laws_eqIntA2S_lsok0 F) 4) (fuel := 70) fun R vals mem np killed k x h => ?_
  simp only [laws_eqIntA2S_ls4] at h
  split at h
  · rename_i a0 b1 i2
    simp only [GT.run] at h
    have hc := (cond_noneL h).1
    replace h := (cond_noneL h).2
    refine ⟨F, (laws_eqIntA2S_iter4 F a0 b1 k F i2).trans ((loopC_use (laws_eqIntA2S_s4_nat F a0 b1) hc _).trans h)⟩
  · simp only [GT.run] at h
    cases h
noncomputable def laws_eqIntA2S_LS1 (F : Nat) : LT := (4, laws_eqIntA2S_ls4 F) :: laws_eqIntA2S_LS0 F
theorem laws_eqIntA2S_lsok1 (F : Nat) : LoopsOK Try.prog (laws_eqIntA2S_LS1 F) (bodyOf Try.f30) := loopsOK_cons laws_eqIntA2S_keys (laws_eqIntA2S_lok4 F) (laws_eqIntA2S_lsok0 F)
theorem laws_eqIntA2S_run (F : Nat) (a0 : List (List Int)) (b1 : List (List Int)) : runS tt (laws_eqIntA2S_tab F) (laws_eqIntA2S_LS1 F) [] [] Try.f30 (bodyOf Try.f30) 70 [(.rr 2 a0), (.rr 2 b1)] [] = laws_eqIntA2S_c _ F a0 b1 (fun r => some ⟨(.bool r), [], []⟩) := by kernel_rfl
def laws_eqIntA2S_ent (F : Nat) : Ent := ⟨[], .quiet, fun args mem => match args, mem with
  | [(.rr 2 a0), (.rr 2 b1)], [] => some ((laws_eqIntA2S_p F a0 b1).isSome, ⟨(.bool ((laws_eqIntA2S_p F a0 b1).getD default)), [], []⟩)
  | _, _ => none⟩
theorem laws_eqIntA2S_fok : FunOK Try.prog 30 := funOK Try.func30 (by kernel_rfl) rfl
theorem laws_eqIntA2S_meets (F : Nat) : Meets Try.prog 30 (laws_eqIntA2S_ent F) := by
  refine meets_of_runS mixed ttok deep (laws_eqIntA2S_tabok F) Try.func30 (body_some rfl) (laws_eqIntA2S_lsok1 F) fun args mem hfit ret h => ?_
  clear hfit
  simp only [laws_eqIntA2S_ent] at h
  split at h
  · rename_i a0 b1
    simp only [Option.some.injEq, Prod.mk.injEq] at h
    obtain ⟨hc, rfl⟩ := h
    exact ⟨[], [], 70, _, (laws_eqIntA2S_run F a0 b1).trans ((laws_eqIntA2S_cp _ F a0 b1 _).trans (bind_use hc _)), rfl, rfl, rfl⟩
  · cases h

/-! loop.example/g01194/laws.markIntA2S -/
noncomputable def laws_markIntA2S_tab (F : Nat) : Tab := []
theorem laws_markIntA2S_tabok (F : Nat) : TabOK Try.prog (laws_markIntA2S_tab F) := tab_nil
noncomputable def laws_markIntA2S_LS0 (F : Nat) : LT := []
theorem laws_markIntA2S_lsok0 (F : Nat) : LoopsOK Try.prog (laws_markIntA2S_LS0 F) (bodyOf Try.f31) := loopsOK_nil
theorem laws_markIntA2S_keys : keysOK (bodyOf Try.f31) = true := by kernel_rfl
def laws_markIntA2S_st5 (a1 : Nat) (i3 : Int) (k2 : Int) (j4 : Int) (a5 : List (List Int)) : St := ⟨expand 26 0 [0, 1, 5, 6] [(.sl 0 0 a1), (.int .i64 k2), (.int .i64 i3), (.int .i64 j4)], [(.vec 69 (.rr 2 a5))], 1, []⟩
def laws_markIntA2S_o5 (a1 : Nat) (i3 : Int) (x : Int × List (List Int)) : GT := (.out (.exit 2 ⟨expand 26 0 [0, 1, 5] [(.sl 0 0 a1), (.int .i64 x.1), (.int .i64 i3)], [(.vec 69 (.rr 2 x.2))], 1, []⟩))
def laws_markIntA2S_ls5 (F : Nat) : LoopS := ⟨26, [0, 1, 5, 6], [], [0, 1, 5], [], [4], [], [], fun vals mem np killed => match vals, mem, np, killed with
  | [(.sl 0 0 a1), (.int .i64 k2), (.int .i64 i3), (.int .i64 j4)], [(.vec 69 (.rr 2 a5))], 1, [] => .br (laws_markIntA2S_l5 F a1 i3 k2 j4 a5).isSome (laws_markIntA2S_o5 a1 i3 ((laws_markIntA2S_l5 F a1 i3 k2 j4 a5).getD default)) .fail
  | _, _, _, _ => .fail⟩
theorem laws_markIntA2S_step5 (F : Nat) (a1 : Nat) (i3 : Int) (k2 : Int) (j4 : Int) (a5 : List (List Int)) {R : Type} (k : Out → Option R) : stepS tt (laws_markIntA2S_tab F) (laws_markIntA2S_LS0 F) 70 (laws_markIntA2S_ls5 F) (loopAt 5 (bodyOf Try.f31)) (laws_markIntA2S_st5 a1 i3 k2 j4 a5) k = laws_markIntA2S_s5 F a1 i3 R (k2, j4, a5) (fun s => k (.norm (laws_markIntA2S_st5 a1 i3 s.1 s.2.1 s.2.2))) (fun x => (laws_markIntA2S_o5 a1 i3 x).run k) := by kernel_rfl
theorem laws_markIntA2S_iter5 (F : Nat) (a1 : Nat) (i3 : Int) {R : Type} (k : Out → Option R) : ∀ (n : Nat) (k2 : Int) (j4 : Int) (a5 : List (List Int)), iterS tt (laws_markIntA2S_tab F) (laws_markIntA2S_LS0 F) 70 (laws_markIntA2S_ls5 F) (loopAt 5 (bodyOf Try.f31)) n (laws_markIntA2S_st5 a1 i3 k2 j4 a5) k = loopC (laws_markIntA2S_s5 F a1 i3) n (k2, j4, a5) (fun x => (laws_markIntA2S_o5 a1 i3 x).run k)
  | 0, k2, j4, a5 => rfl
  | n + 1, k2, j4, a5 => (iterS_succ tt (laws_markIntA2S_tab F) (laws_markIntA2S_LS0 F) 70 (laws_markIntA2S_ls5 F) (loopAt 5 (bodyOf Try.f31)) n (laws_markIntA2S_st5 a1 i3 k2 j4 a5) k).trans ((laws_markIntA2S_step5 F a1 i3 k2 j4 a5 (nextK (iterS tt (laws_markIntA2S_tab F) (laws_markIntA2S_LS0 F) 70 (laws_markIntA2S_ls5 F) (loopAt 5 (bodyOf Try.f31)) n) k)).trans (congrArg (fun kn => laws_markIntA2S_s5 F a1 i3 R (k2, j4, a5) kn _) (funext (fun ⟨k2, j4, a5⟩ => laws_markIntA2S_iter5 F a1 i3 k n k2 j4 a5))))
theorem laws_markIntA2S_lok5 (F : Nat) : LoopOK Try.prog (loopAt 5 (bodyOf Try.f31)) (laws_markIntA2S_ls5 F) := by
  refine loopOK_of mixed ttok deep (laws_markIntA2S_tabok F) (loopsOK_at (laws_markIntA2S_lsok0 F) 5) (fuel := 70) fun R vals mem np killed k x h => ?_
  simp only [laws_markIntA2S_ls5] at h
  split at h
  · rename_i a1 k2 i3 j4 a5
    simp only [GT.run] at h
    have hc := (cond_noneL h).1
    replace h := (cond_noneL h).2
    refine ⟨F, (laws_markIntA2S_iter5 F a1 i3 k F k2 j4 a5).trans ((loopC_use (laws_markIntA2S_s5_nat F a1 i3) hc _).trans h)⟩
  · simp only [GT.run] at h
    cases h
noncomputable def laws_markIntA2S_LS1 (F : Nat) : LT := (5, laws_markIntA2S_ls5 F) :: laws_markIntA2S_LS0 F
theorem laws_markIntA2S_lsok1 (F : Nat) : LoopsOK Try.prog (laws_markIntA2S_LS1 F) (bodyOf Try.f31) := loopsOK_cons laws_markIntA2S_keys (laws_markIntA2S_lok5 F) (laws_markIntA2S_lsok0 F)
def laws_markIntA2S_st2 (a1 : Nat) (k2 : Int) (i3 : Int) (a4 : List (List Int)) : St := ⟨expand 26 0 [0, 1, 5] [(.sl 0 0 a1), (.int .i64 k2), (.int .i64 i3)], [(.vec 69 (.rr 2 a4))], 1, []⟩
def laws_markIntA2S_o2 (a1 : Nat) (x : Int × List (List Int)) : GT := (.out (.exit 0 ⟨expand 26 0 [1] [(.int .i64 x.1)], [(.vec 69 (.rr 2 x.2))], 1, []⟩))
def laws_markIntA2S_ls2 (F : Nat) : LoopS := ⟨26, [0, 1, 5], [], [1], [], [4], [], [], fun vals mem np killed => match vals, mem, np, killed with
  | [(.sl 0 0 a1), (.int .i64 k2), (.int .i64 i3)], [(.vec 69 (.rr 2 a4))], 1, [] => .br (laws_markIntA2S_l2 F a1 k2 i3 a4).isSome (laws_markIntA2S_o2 a1 ((laws_markIntA2S_l2 F a1 k2 i3 a4).getD default)) .fail
  | _, _, _, _ => .fail⟩
theorem laws_markIntA2S_step2 (F : Nat) (a1 : Nat) (k2 : Int) (i3 : Int) (a4 : List (List Int)) {R : Type} (k : Out → Option R) : stepS tt (laws_markIntA2S_tab F) (laws_markIntA2S_LS1 F) 70 (laws_markIntA2S_ls2 F) (loopAt 2 (bodyOf Try.f31)) (laws_markIntA2S_st2 a1 k2 i3 a4) k = laws_markIntA2S_s2 F a1 R (k2, i3, a4) (fun s => k (.norm (laws_markIntA2S_st2 a1 s.1 s.2.1 s.2.2))) (fun x => (laws_markIntA2S_o2 a1 x).run k) := by kernel_rfl
theorem laws_markIntA2S_iter2 (F : Nat) (a1 : Nat) {R : Type} (k : Out → Option R) : ∀ (n : Nat) (k2 : Int) (i3 : Int) (a4 : List (List Int)), iterS tt (laws_markIntA2S_tab F) (laws_markIntA2S_LS1 F) 70 (laws_markIntA2S_ls2 F) (loopAt 2 (bodyOf Try.f31)) n (laws_markIntA2S_st2 a1 k2 i3 a4) k = loopC (laws_markIntA2S_s2 F a1) n (k2, i3, a4) (fun x => (laws_markIntA2S_o2 a1 x).run k)
  | 0, k2, i3, a4 => rfl
  | n + 1, k2, i3, a4 => (iterS_succ tt (laws_markIntA2S_tab F) (laws_markIntA2S_LS1 F) 70 (laws_markIntA2S_ls2 F) (loopAt 2 (bodyOf Try.f31)) n (laws_markIntA2S_st2 a1 k2 i3 a4) k).trans ((laws_markIntA2S_step2 F a1 k2 i3 a4 (nextK (iterS tt (laws_markIntA2S_tab F) (laws_markIntA2S_LS1 F) 70 (laws_markIntA2S_ls2 F) (loopAt 2 (bodyOf Try.f31)) n) k)).trans (congrArg (fun kn => laws_markIntA2S_s2 F a1 R (k2, i3, a4) kn _) (funext (fun ⟨k2, i3, a4⟩ => laws_markIntA2S_iter2 F a1 k n k2 i3 a4))))
theorem laws_markIntA2S_lok2 (F : Nat) : LoopOK Try.prog (loopAt 2 (bodyOf Try.f31)) (laws_markIntA2S_ls2 F) := by
  refine loopOK_of mixed ttok deep (laws_markIntA2S_tabok F) (loopsOK_at (laws_markIntA2S_lsok1 F) 2) (fuel := 70) fun R vals mem np killed k x h => ?_
  simp only [laws_markIntA2S_ls2] at h
  split at h
  · rename_i a1 k2 i3 a4
    simp only [GT.run] at h
    have hc := (cond_noneL h).1
    replace h := (cond_noneL h).2
    refine ⟨F, (laws_markIntA2S_iter2 F a1 k F k2 i3 a4).trans ((loopC_use (laws_markIntA2S_s2_nat F a1) hc _).trans h)⟩
  · simp only [GT.run] at h
    cases h
noncomputable def laws_markIntA2S_LS2 (F : Nat) : LT := (2, laws_markIntA2S_ls2 F) :: laws_markIntA2S_LS1 F
theorem laws_markIntA2S_lsok2 (F : Nat) : LoopsOK Try.prog (laws_markIntA2S_LS2 F) (bodyOf Try.f31) := loopsOK_cons laws_markIntA2S_keys (laws_markIntA2S_lok2 F) (laws_markIntA2S_lsok1 F)
theorem laws_markIntA2S_run (F : Nat) (a1 : Nat) (k2 : Int) (a3 : List (List Int)) : runS tt (laws_markIntA2S_tab F) (laws_markIntA2S_LS2 F) [] [] Try.f31 (bodyOf Try.f31) 70 [(.sl 0 0 a1), (.int .i64 k2)] [(.vec 69 (.rr 2 a3))] = laws_markIntA2S_c _ F a1 k2 a3 (fun r => some ⟨(.int .i64 r.1), [(.vec 69 (.rr 2 r.2))], []⟩) := by kernel_rfl
def laws_markIntA2S_ent (F : Nat) : Ent := ⟨[true], .loud, fun args mem => match args, mem with
  | [(.sl 0 0 a1), (.int .i64 k2)], [(.vec 69 (.rr 2 a3))] => some ((laws_markIntA2S_p F a1 k2 a3).isSome, ⟨(.int .i64 ((laws_markIntA2S_p F a1 k2 a3).getD default).1), [(.vec 69 (.rr 2 ((laws_markIntA2S_p F a1 k2 a3).getD default).2))], []⟩)
  | _, _ => none⟩
theorem laws_markIntA2S_fok : FunOK Try.prog 31 := funOK Try.func31 (by kernel_rfl) rfl
theorem laws_markIntA2S_meets (F : Nat) : Meets Try.prog 31 (laws_markIntA2S_ent F) := by
  refine meets_of_runS mixed ttok deep (laws_markIntA2S_tabok F) Try.func31 (body_some rfl) (laws_markIntA2S_lsok2 F) fun args mem hfit ret h => ?_
  clear hfit
  simp only [laws_markIntA2S_ent] at h
  split at h
  · rename_i a1 k2 a3
    simp only [Option.some.injEq, Prod.mk.injEq] at h
    obtain ⟨hc, rfl⟩ := h
    exact ⟨[], [], 70, _, (laws_markIntA2S_run F a1 k2 a3).trans ((laws_markIntA2S_cp _ F a1 k2 a3 _).trans (bind_use hc _)), rfl, rfl, rfl⟩
  · cases h

/-! loop.example/g01194/laws.heldIntA2S -/
noncomputable def laws_heldIntA2S_tab (F : Nat) : Tab := []
theorem laws_heldIntA2S_tabok (F : Nat) : TabOK Try.prog (laws_heldIntA2S_tab F) := tab_nil
noncomputable def laws_heldIntA2S_LS0 (F : Nat) : LT := []
theorem laws_heldIntA2S_lsok0 (F : Nat) : LoopsOK Try.prog (laws_heldIntA2S_LS0 F) (bodyOf Try.f32) := loopsOK_nil
theorem laws_heldIntA2S_keys : keysOK (bodyOf Try.f32) = true := by kernel_rfl
def laws_heldIntA2S_st5 (a0 : List (List Int)) (i2 : Int) (k1 : Int) (j3 : Int) : St := ⟨expand 28 0 [0, 1, 5, 6] [(.rr 2 a0), (.int .i64 k1), (.int .i64 i2), (.int .i64 j3)], [], 0, []⟩
def laws_heldIntA2S_o5 (a0 : List (List Int)) (i2 : Int) (x : Bool × Int) : GT := (.br x.1 (.out (.ret ⟨expand 28 0 [4] [(.int .i64 (-1 : Int))], [], 0, []⟩)) (.out (.exit 2 ⟨expand 28 0 [0, 1, 5] [(.rr 2 a0), (.int .i64 x.2), (.int .i64 i2)], [], 0, []⟩)))
def laws_heldIntA2S_ls5 (F : Nat) : LoopS := ⟨28, [0, 1, 5, 6], [], [0, 1, 5], [], [4], [], [], fun vals mem np killed => match vals, mem, np, killed with
  | [(.rr 2 a0), (.int .i64 k1), (.int .i64 i2), (.int .i64 j3)], [], 0, [] => .br (laws_heldIntA2S_l5 F a0 i2 k1 j3).isSome (laws_heldIntA2S_o5 a0 i2 ((laws_heldIntA2S_l5 F a0 i2 k1 j3).getD default)) .fail
  | _, _, _, _ => .fail⟩
theorem laws_heldIntA2S_step5 (F : Nat) (a0 : List (List Int)) (i2 : Int) (k1 : Int) (j3 : Int) {R : Type} (k : Out → Option R) : stepS tt (laws_heldIntA2S_tab F) (laws_heldIntA2S_LS0 F) 70 (laws_heldIntA2S_ls5 F) (loopAt 5 (bodyOf Try.f32)) (laws_heldIntA2S_st5 a0 i2 k1 j3) k = laws_heldIntA2S_s5 F a0 i2 R (k1, j3) (fun s => k (.norm (laws_heldIntA2S_st5 a0 i2 s.1 s.2))) (fun x => (laws_heldIntA2S_o5 a0 i2 x).run k) := by kernel_rfl
theorem laws_heldIntA2S_iter5 (F : Nat) (a0 : List (List Int)) (i2 : Int) {R : Type} (k : Out → Option R) : ∀ (n : Nat) (k1 : Int) (j3 : Int), iterS tt (laws_heldIntA2S_tab F) (laws_heldIntA2S_LS0 F) 70 (laws_heldIntA2S_ls5 F) (loopAt 5 (bodyOf Try.f32)) n (laws_heldIntA2S_st5 a0 i2 k1 j3) k = loopC (laws_heldIntA2S_s5 F a0 i2) n (k1, j3) (fun x => (laws_heldIntA2S_o5 a0 i2 x).run k)
  | 0, k1, j3 => rfl
  | n + 1, k1, j3 => (iterS_succ tt (laws_heldIntA2S_tab F) (laws_heldIntA2S_LS0 F) 70 (laws_heldIntA2S_ls5 F) (loopAt 5 (bodyOf Try.f32)) n (laws_heldIntA2S_st5 a0 i2 k1 j3) k).trans ((laws_heldIntA2S_step5 F a0 i2 k1 j3 (nextK (iterS tt (laws_heldIntA2S_tab F) (laws_heldIntA2S_LS0 F) 70 (laws_heldIntA2S_ls5 F) (loopAt 5 (bodyOf Try.f32)) n) k)).trans (congrArg (fun kn => laws_heldIntA2S_s5 F a0 i2 R (k1, j3) kn _) (funext (fun ⟨k1, j3⟩ => laws_heldIntA2S_iter5 F a0 i2 k n k1 j3))))
theorem laws_heldIntA2S_lok5 (F : Nat) : LoopOK Try.prog (loopAt 5 (bodyOf Try.f32)) (laws_heldIntA2S_ls5 F) := by
  refine loopOK_of mixed ttok deep (laws_heldIntA2S_tabok F) (loopsOK_at (laws_heldIntA2S_lsok0 F) 5) (fuel := 70) fun R vals mem np killed k x h => ?_
  simp only [laws_heldIntA2S_ls5] at h
  split at h
  · rename_i a0 k1 i2 j3
    simp only [GT.run] at h
    have hc := (cond_noneL h).1
    replace h := (cond_noneL h).2
    refine ⟨F, (laws_heldIntA2S_iter5 F a0 i2 k F k1 j3).trans ((loopC_use (laws_heldIntA2S_s5_nat F a0 i2) hc _).trans h)⟩
  · simp only [GT.run] at h
    cases h
noncomputable def laws_heldIntA2S_LS1 (F : Nat) : LT := (5, laws_heldIntA2S_ls5 F) :: laws_heldIntA2S_LS0 F
theorem laws_heldIntA2S_lsok1 (F : Nat) : LoopsOK Try.prog (laws_heldIntA2S_LS1 F) (bodyOf Try.f32) := loopsOK_cons laws_heldIntA2S_keys (laws_heldIntA2S_lok5 F) (laws_heldIntA2S_lsok0 F)
def laws_heldIntA2S_st2 (a0 : List (List Int)) (k1 : Int) (i2 : Int) : St := ⟨expand 28 0 [0, 1, 5] [(.rr 2 a0), (.int .i64 k1), (.int .i64 i2)], [], 0, []⟩
def laws_heldIntA2S_o2 (a0 : List (List Int)) (x : Bool × Int) : GT := (.br x.1 (.out (.ret ⟨expand 28 0 [4] [(.int .i64 (-1 : Int))], [], 0, []⟩)) (.out (.exit 0 ⟨expand 28 0 [1] [(.int .i64 x.2)], [], 0, []⟩)))
def laws_heldIntA2S_ls2 (F : Nat) : LoopS := ⟨28, [0, 1, 5], [], [1], [], [4], [], [], fun vals mem np killed => match vals, mem, np, killed with
  | [(.rr 2 a0), (.int .i64 k1), (.int .i64 i2)], [], 0, [] => .br (laws_heldIntA2S_l2 F a0 k1 i2).isSome (laws_heldIntA2S_o2 a0 ((laws_heldIntA2S_l2 F a0 k1 i2).getD default)) .fail
  | _, _, _, _ => .fail⟩
theorem laws_heldIntA2S_step2 (F : Nat) (a0 : List (List Int)) (k1 : Int) (i2 : Int) {R : Type} (k : Out → Option R) : stepS tt (laws_heldIntA2S_tab F) (laws_heldIntA2S_LS1 F) 70 (laws_heldIntA2S_ls2 F) (loopAt 2 (bodyOf Try.f32)) (laws_heldIntA2S_st2 a0 k1 i2) k = laws_heldIntA2S_s2 F a0 R (k1, i2) (fun s => k (.norm (laws_heldIntA2S_st2 a0 s.1 s.2))) (fun x => (laws_heldIntA2S_o2 a0 x).run k) := by kernel_rfl
theorem laws_heldIntA2S_iter2 (F : Nat) (a0 : List (List Int)) {R : Type} (k : Out → Option R) : ∀ (n : Nat) (k1 : Int) (i2 : Int), iterS tt (laws_heldIntA2S_tab F) (laws_heldIntA2S_LS1 F) 70 (laws_heldIntA2S_ls2 F) (loopAt 2 (bodyOf Try.f32)) n (laws_heldIntA2S_st2 a0 k1 i2) k = loopC (laws_heldIntA2S_s2 F a0) n (k1, i2) (fun x => (laws_heldIntA2S_o2 a0 x).run k)
  | 0, k1, i2 => rfl
  | n + 1, k1, i2 => (iterS_succ tt (laws_heldIntA2S_tab F) (laws_heldIntA2S_LS1 F) 70 (laws_heldIntA2S_ls2 F) (loopAt 2 (bodyOf Try.f32)) n (laws_heldIntA2S_st2 a0 k1 i2) k).trans ((laws_heldIntA2S_step2 F a0 k1 i2 (nextK (iterS tt (laws_heldIntA2S_tab F) (laws_heldIntA2S_LS1 F) 70 (laws_heldIntA2S_ls2 F) (loopAt 2 (bodyOf Try.f32)) n) k)).trans (congrArg (fun kn => laws_heldIntA2S_s2 F a0 R (k1, i2) kn _) (funext (fun ⟨k1, i2⟩ => laws_heldIntA2S_iter2 F a0 k n k1 i2))))
theorem laws_heldIntA2S_lok2 (F : Nat) : LoopOK Try.prog (loopAt 2 (bodyOf Try.f32)) (laws_heldIntA2S_ls2 F) := by
  refine loopOK_of mixed ttok deep (laws_heldIntA2S_tabok F) (loopsOK_at (laws_heldIntA2S_lsok1 F) 2) (fuel := 70) fun R vals mem np killed k x h => ?_
  simp only [laws_heldIntA2S_ls2] at h
  split at h
  · rename_i a0 k1 i2
    simp only [GT.run] at h
    have hc := (cond_noneL h).1
    replace h := (cond_noneL h).2
    refine ⟨F, (laws_heldIntA2S_iter2 F a0 k F k1 i2).trans ((loopC_use (laws_heldIntA2S_s2_nat F a0) hc _).trans h)⟩
  · simp only [GT.run] at h
    cases h
noncomputable def laws_heldIntA2S_LS2 (F : Nat) : LT := (2, laws_heldIntA2S_ls2 F) :: laws_heldIntA2S_LS1 F
theorem laws_heldIntA2S_lsok2 (F : Nat) : LoopsOK Try.prog (laws_heldIntA2S_LS2 F) (bodyOf Try.f32) := loopsOK_cons laws_heldIntA2S_keys (laws_heldIntA2S_lok2 F) (laws_heldIntA2S_lsok1 F)
theorem laws_heldIntA2S_run (F : Nat) (a0 : List (List Int)) (k1 : Int) : runS tt (laws_heldIntA2S_tab F) (laws_heldIntA2S_LS2 F) [] [] Try.f32 (bodyOf Try.f32) 70 [(.rr 2 a0), (.int .i64 k1)] [] = laws_heldIntA2S_c _ F a0 k1 (fun r => some ⟨(.int .i64 r), [], []⟩) := by kernel_rfl
def laws_heldIntA2S_ent (F : Nat) : Ent := ⟨[], .quiet, fun args mem => match args, mem with
  | [(.rr 2 a0), (.int .i64 k1)], [] => some ((laws_heldIntA2S_p F a0 k1).isSome, ⟨(.int .i64 ((laws_heldIntA2S_p F a0 k1).getD default)), [], []⟩)
  | _, _ => none⟩
theorem laws_heldIntA2S_fok : FunOK Try.prog 32 := funOK Try.func32 (by kernel_rfl) rfl
theorem laws_heldIntA2S_meets (F : Nat) : Meets Try.prog 32 (laws_heldIntA2S_ent F) := by
  refine meets_of_runS mixed ttok deep (laws_heldIntA2S_tabok F) Try.func32 (body_some rfl) (laws_heldIntA2S_lsok2 F) fun args mem hfit ret h => ?_
  clear hfit
  simp only [laws_heldIntA2S_ent] at h
  split at h
  · rename_i a0 k1
    simp only [Option.some.injEq, Prod.mk.injEq] at h
    obtain ⟨hc, rfl⟩ := h
    exact ⟨[], [], 70, _, (laws_heldIntA2S_run F a0 k1).trans ((laws_heldIntA2S_cp _ F a0 k1 _).trans (bind_use hc _)), rfl, rfl, rfl⟩
  · cases h

/-! loop.example/g01194/laws.FnExactArisesBy -/
noncomputable def laws_FnExactArisesBy_tab (F : Nat) : Tab := [(14, (laws_toBoard_ent F)), (28, (spec_ArisesBy_ent F)), (29, (impl_ArisesBy_ent F)), (30, (laws_eqIntA2S_ent F)), (31, (laws_markIntA2S_ent F)), (32, (laws_heldIntA2S_ent F))]
theorem laws_FnExactArisesBy_tabok (F : Nat) : TabOK Try.prog (laws_FnExactArisesBy_tab F) := (tab_cons (laws_toBoard_meets F) laws_toBoard_fok (tab_cons (spec_ArisesBy_meets F) spec_ArisesBy_fok (tab_cons (impl_ArisesBy_meets F) impl_ArisesBy_fok (tab_cons (laws_eqIntA2S_meets F) laws_eqIntA2S_fok (tab_cons (laws_markIntA2S_meets F) laws_markIntA2S_fok (tab_cons (laws_heldIntA2S_meets F) laws_heldIntA2S_fok tab_nil))))))
noncomputable def laws_FnExactArisesBy_LS0 (F : Nat) : LT := []
theorem laws_FnExactArisesBy_lsok0 (F : Nat) : LoopsOK Try.prog (laws_FnExactArisesBy_LS0 F) (bodyOf Try.f8) := loopsOK_nil
theorem laws_FnExactArisesBy_run (F : Nat) (aB0 : List Int) : runS tt (laws_FnExactArisesBy_tab F) (laws_FnExactArisesBy_LS0 F) [] [] Try.f8 (bodyOf Try.f8) 70 [(.ints 16 aB0)] [] = laws_FnExactArisesBy_c _ F aB0 (fun r => some ⟨(.bool r), [], []⟩) := by kernel_rfl
def laws_FnExactArisesBy_ent (F : Nat) : Ent := ⟨[], .quiet, fun args mem => match args, mem with
  | [(.ints 16 aB0)], [] => some ((laws_FnExactArisesBy_p F aB0).isSome, ⟨(.bool ((laws_FnExactArisesBy_p F aB0).getD default)), [], []⟩)
  | _, _ => none⟩
theorem laws_FnExactArisesBy_fok : FunOK Try.prog 8 := funOK Try.func8 (by kernel_rfl) rfl
theorem laws_FnExactArisesBy_meets (F : Nat) : Meets Try.prog 8 (laws_FnExactArisesBy_ent F) := by
  refine meets_of_runS mixed ttok deep (laws_FnExactArisesBy_tabok F) Try.func8 (body_some rfl) (laws_FnExactArisesBy_lsok0 F) fun args mem hfit ret h => ?_
  clear hfit
  simp only [laws_FnExactArisesBy_ent] at h
  split at h
  · rename_i aB0
    simp only [Option.some.injEq, Prod.mk.injEq] at h
    obtain ⟨hc, rfl⟩ := h
    exact ⟨[], [], 70, _, (laws_FnExactArisesBy_run F aB0).trans ((laws_FnExactArisesBy_cp _ F aB0 _).trans (bind_use hc _)), rfl, rfl, rfl⟩
  · cases h

/-! loop.example/g01194/spec.l6Merged -/
noncomputable def spec_l6Merged_tab (F : Nat) : Tab := []
theorem spec_l6Merged_tabok (F : Nat) : TabOK Try.prog (spec_l6Merged_tab F) := tab_nil
noncomputable def spec_l6Merged_LS0 (F : Nat) : LT := []
theorem spec_l6Merged_lsok0 (F : Nat) : LoopsOK Try.prog (spec_l6Merged_LS0 F) (bodyOf Try.f95) := loopsOK_nil
theorem spec_l6Merged_keys : keysOK (bodyOf Try.f95) = true := by kernel_rfl
def spec_l6Merged_st3 (row12 : List Int) (n9 : Int) (last10 : Int) (k11 : Int) (out14 : List Bool) : St := ⟨expand 47 0 [1, 2, 3, 4, 5, 6] [(.ptr 0 0 0 4), (.ptr 1 0 0 4), (.ptr 2 0 0 4), (.int .i64 n9), (.int .i64 last10), (.int .i64 k11)], [(.var 4 (.ri .i64 row12)), (.var 4 (.rb [false, false, false, false])), (.var 4 (.rb out14))], 0, []⟩
def spec_l6Merged_o3 (row12 : List Int) (x : List Bool) : GT := (.out (.exit 0 ⟨expand 47 0 [2, 3] [(.ptr 0 0 0 4), (.ptr 1 0 0 4)], [(.var 4 (.rb [false, false, false, false])), (.var 4 (.rb x))], 0, []⟩))
def spec_l6Merged_ls3 (F : Nat) : LoopS := ⟨47, [1, 2, 3, 4, 5, 6], [], [2, 3], [], [2], [], [], fun vals mem np killed => match vals, mem, np, killed with
  | [(.ptr 0 0 0 4), (.ptr 1 0 0 4), (.ptr 2 0 0 4), (.int .i64 n9), (.int .i64 last10), (.int .i64 k11)], [(.var 4 (.ri .i64 row12)), (.var 4 (.rb q_t213)), (.var 4 (.rb out14))], 0, [] => .br ((q_t213 == ([false, false, false, false] : List Bool)) && (spec_l6Merged_l3 F row12 n9 last10 k11 out14).isSome) (spec_l6Merged_o3 row12 ((spec_l6Merged_l3 F row12 n9 last10 k11 out14).getD default)) .fail
  | _, _, _, _ => .fail⟩
theorem spec_l6Merged_step3 (F : Nat) (row12 : List Int) (n9 : Int) (last10 : Int) (k11 : Int) (out14 : List Bool) {R : Type} (k : Out → Option R) : stepS tt (spec_l6Merged_tab F) (spec_l6Merged_LS0 F) 70 (spec_l6Merged_ls3 F) (loopAt 3 (bodyOf Try.f95)) (spec_l6Merged_st3 row12 n9 last10 k11 out14) k = spec_l6Merged_s3 F row12 R (n9, last10, k11, out14) (fun s => k (.norm (spec_l6Merged_st3 row12 s.1 s.2.1 s.2.2.1 s.2.2.2))) (fun x => (spec_l6Merged_o3 row12 x).run k) := by kernel_rfl
theorem spec_l6Merged_iter3 (F : Nat) (row12 : List Int) {R : Type} (k : Out → Option R) : ∀ (n : Nat) (n9 : Int) (last10 : Int) (k11 : Int) (out14 : List Bool), iterS tt (spec_l6Merged_tab F) (spec_l6Merged_LS0 F) 70 (spec_l6Merged_ls3 F) (loopAt 3 (bodyOf Try.f95)) n (spec_l6Merged_st3 row12 n9 last10 k11 out14) k = loopC (spec_l6Merged_s3 F row12) n (n9, last10, k11, out14) (fun x => (spec_l6Merged_o3 row12 x).run k)
  | 0, n9, last10, k11, out14 => rfl
  | n + 1, n9, last10, k11, out14 => (iterS_succ tt (spec_l6Merged_tab F) (spec_l6Merged_LS0 F) 70 (spec_l6Merged_ls3 F) (loopAt 3 (bodyOf Try.f95)) n (spec_l6Merged_st3 row12 n9 last10 k11 out14) k).trans ((spec_l6Merged_step3 F row12 n9 last10 k11 out14 (nextK (iterS tt (spec_l6Merged_tab F) (spec_l6Merged_LS0 F) 70 (spec_l6Merged_ls3 F) (loopAt 3 (bodyOf Try.f95)) n) k)).trans (congrArg (fun kn => spec_l6Merged_s3 F row12 R (n9, last10, k11, out14) kn _) (funext (fun ⟨n9, last10, k11, out14⟩ => spec_l6Merged_iter3 F row12 k n n9 last10 k11 out14))))
theorem spec_l6Merged_lok3 (F : Nat) : LoopOK Try.prog (loopAt 3 (bodyOf Try.f95)) (spec_l6Merged_ls3 F) := by
  refine loopOK_of mixed ttok deep (spec_l6Merged_tabok F) (loopsOK_at (spec_l6Merged_lsok0 F) 3) (fuel := 70) fun R vals mem np killed k x h => ?_
  simp only [spec_l6Merged_ls3] at h
  split at h
  · rename_i n9 last10 k11 row12 q_t213 out14
    simp only [GT.run] at h
    have hc := (cond_noneL h).1
    replace h := (cond_noneL h).2
    have hg := (and_split hc).1
    replace hc := (and_split hc).2
    obtain rfl := beq_lb hg
    refine ⟨F, (spec_l6Merged_iter3 F row12 k F n9 last10 k11 out14).trans ((loopC_use (spec_l6Merged_s3_nat F row12) hc _).trans h)⟩
  · simp only [GT.run] at h
    cases h
noncomputable def spec_l6Merged_LS1 (F : Nat) : LT := (3, spec_l6Merged_ls3 F) :: spec_l6Merged_LS0 F
theorem spec_l6Merged_lsok1 (F : Nat) : LoopsOK Try.prog (spec_l6Merged_LS1 F) (bodyOf Try.f95) := loopsOK_cons spec_l6Merged_keys (spec_l6Merged_lok3 F) (spec_l6Merged_lsok0 F)
theorem spec_l6Merged_run (F : Nat) (row0 : List Int) : runS tt (spec_l6Merged_tab F) (spec_l6Merged_LS1 F) [] [] Try.f95 (bodyOf Try.f95) 70 [(.ints 4 row0)] [] = spec_l6Merged_c _ F row0 (fun r => some ⟨(.bools 4 r), [], []⟩) := by kernel_rfl
def spec_l6Merged_ent (F : Nat) : Ent := ⟨[], .quiet, fun args mem => match args, mem with
  | [(.ints 4 row0)], [] => some ((spec_l6Merged_p F row0).isSome, ⟨(.bools 4 ((spec_l6Merged_p F row0).getD default)), [], []⟩)
  | _, _ => none⟩
theorem spec_l6Merged_fok : FunOK Try.prog 95 := funOK Try.func95 (by kernel_rfl) rfl
theorem spec_l6Merged_meets (F : Nat) : Meets Try.prog 95 (spec_l6Merged_ent F) := by
  refine meets_of_runS mixed ttok deep (spec_l6Merged_tabok F) Try.func95 (body_some rfl) (spec_l6Merged_lsok1 F) fun args mem hfit ret h => ?_
  clear hfit
  simp only [spec_l6Merged_ent] at h
  split at h
  · rename_i row0
    simp only [Option.some.injEq, Prod.mk.injEq] at h
    obtain ⟨hc, rfl⟩ := h
    exact ⟨[], [], 70, _, (spec_l6Merged_run F row0).trans ((spec_l6Merged_cp _ F row0 _).trans (bind_use hc _)), rfl, rfl, rfl⟩
  · cases h

/-! loop.example/g01194/spec.l6Mergers -/
noncomputable def spec_l6Mergers_tab (F : Nat) : Tab := [(53, (spec_l6Lists_ent F)), (80, (spec_l6Still_ent F)), (94, (spec_l2Line_ent F)), (95, (spec_l6Merged_ent F))]
theorem spec_l6Mergers_tabok (F : Nat) : TabOK Try.prog (spec_l6Mergers_tab F) := (tab_cons (spec_l6Lists_meets F) spec_l6Lists_fok (tab_cons (spec_l6Still_meets F) spec_l6Still_fok (tab_cons (spec_l2Line_meets F) spec_l2Line_fok (tab_cons (spec_l6Merged_meets F) spec_l6Merged_fok tab_nil))))
noncomputable def spec_l6Mergers_LS0 (F : Nat) : LT := []
theorem spec_l6Mergers_lsok0 (F : Nat) : LoopsOK Try.prog (spec_l6Mergers_LS0 F) (bodyOf Try.f67) := loopsOK_nil
theorem spec_l6Mergers_keys : keysOK (bodyOf Try.f67) = true := by kernel_rfl
def spec_l6Mergers_st12 (d0 : Int) (some1 : Bool) (still5 : Bool) (i9 : Int) (k13 : Int) (lists16 : List (List Int)) (lists17 : List (List Int)) (lists18 : List (List Int)) (lists19 : List (List Int)) (marks20 : List Int) (line21 : List Int) (yes14 : Int) (n15 : Int) : St := ⟨expand 108 0 [1, 2, 7, 8, 9, 10, 11, 12, 13, 14] [(.int .i64 d0), (.bool some1), (.ptr 0 0 0 4), (.bool still5), (.ptr 1 0 0 16), (.int .i64 i9), (.ptr 2 0 0 8), (.int .i64 k13), (.int .i64 yes14), (.int .i64 n15)], [(.var 4 (.rv [(.rr 4 lists16), (.rr 4 lists17), (.rr 4 lists18), (.rr 4 lists19)])), (.var 16 (.ri .i64 marks20)), (.var 8 (.ri .i64 line21))], 0, []⟩
def spec_l6Mergers_o12 (d0 : Int) (some1 : Bool) (still5 : Bool) (i9 : Int) (k13 : Int) (lists16 : List (List Int)) (lists17 : List (List Int)) (lists18 : List (List Int)) (lists19 : List (List Int)) (marks20 : List Int) (line21 : List Int) (x : Int) : GT := (.out (.exit 4 ⟨expand 108 0 [1, 2, 7, 8, 9, 10, 11, 12, 13] [(.int .i64 d0), (.bool some1), (.ptr 0 0 0 4), (.bool still5), (.ptr 1 0 0 16), (.int .i64 i9), (.ptr 2 0 0 8), (.int .i64 k13), (.int .i64 x)], [(.var 4 (.rv [(.rr 4 lists16), (.rr 4 lists17), (.rr 4 lists18), (.rr 4 lists19)])), (.var 16 (.ri .i64 marks20)), (.var 8 (.ri .i64 line21))], 0, []⟩))
def spec_l6Mergers_ls12 (F : Nat) : LoopS := ⟨108, [1, 2, 7, 8, 9, 10, 11, 12, 13, 14], [], [1, 2, 7, 8, 9, 10, 11, 12, 13], [], [6], [], [], fun vals mem np killed => match vals, mem, np, killed with
  | [(.int .i64 d0), (.bool some1), (.ptr 0 0 0 4), (.bool still5), (.ptr 1 0 0 16), (.int .i64 i9), (.ptr 2 0 0 8), (.int .i64 k13), (.int .i64 yes14), (.int .i64 n15)], [(.var 4 (.rv [(.rr 4 lists16), (.rr 4 lists17), (.rr 4 lists18), (.rr 4 lists19)])), (.var 16 (.ri .i64 marks20)), (.var 8 (.ri .i64 line21))], 0, [] => .br (spec_l6Mergers_l12 F d0 some1 still5 i9 k13 lists16 lists17 lists18 lists19 marks20 line21 yes14 n15).isSome (spec_l6Mergers_o12 d0 some1 still5 i9 k13 lists16 lists17 lists18 lists19 marks20 line21 ((spec_l6Mergers_l12 F d0 some1 still5 i9 k13 lists16 lists17 lists18 lists19 marks20 line21 yes14 n15).getD default)) .fail
  | _, _, _, _ => .fail⟩
theorem spec_l6Mergers_step12 (F : Nat) (d0 : Int) (some1 : Bool) (still5 : Bool) (i9 : Int) (k13 : Int) (lists16 : List (List Int)) (lists17 : List (List Int)) (lists18 : List (List Int)) (lists19 : List (List Int)) (marks20 : List Int) (line21 : List Int) (yes14 : Int) (n15 : Int) {R : Type} (k : Out → Option R) : stepS tt (spec_l6Mergers_tab F) (spec_l6Mergers_LS0 F) 70 (spec_l6Mergers_ls12 F) (loopAt 12 (bodyOf Try.f67)) (spec_l6Mergers_st12 d0 some1 still5 i9 k13 lists16 lists17 lists18 lists19 marks20 line21 yes14 n15) k = spec_l6Mergers_s12 F d0 some1 still5 i9 k13 lists16 lists17 lists18 lists19 marks20 line21 R (yes14, n15) (fun s => k (.norm (spec_l6Mergers_st12 d0 some1 still5 i9 k13 lists16 lists17 lists18 lists19 marks20 line21 s.1 s.2))) (fun x => (spec_l6Mergers_o12 d0 some1 still5 i9 k13 lists16 lists17 lists18 lists19 marks20 line21 x).run k) := by kernel_rfl
theorem spec_l6Mergers_iter12 (F : Nat) (d0 : Int) (some1 : Bool) (still5 : Bool) (i9 : Int) (k13 : Int) (lists16 : List (List Int)) (lists17 : List (List Int)) (lists18 : List (List Int)) (lists19 : List (List Int)) (marks20 : List Int) (line21 : List Int) {R : Type} (k : Out → Option R) : ∀ (n : Nat) (yes14 : Int) (n15 : Int), iterS tt (spec_l6Mergers_tab F) (spec_l6Mergers_LS0 F) 70 (spec_l6Mergers_ls12 F) (loopAt 12 (bodyOf Try.f67)) n (spec_l6Mergers_st12 d0 some1 still5 i9 k13 lists16 lists17 lists18 lists19 marks20 line21 yes14 n15) k = loopC (spec_l6Mergers_s12 F d0 some1 still5 i9 k13 lists16 lists17 lists18 lists19 marks20 line21) n (yes14, n15) (fun x => (spec_l6Mergers_o12 d0 some1 still5 i9 k13 lists16 lists17 lists18 lists19 marks20 line21 x).run k)
  | 0, yes14, n15 => rfl
  | n + 1, yes14, n15 => (iterS_succ tt (spec_l6Mergers_tab F) (spec_l6Mergers_LS0 F) 70 (spec_l6Mergers_ls12 F) (loopAt 12 (bodyOf Try.f67)) n (spec_l6Mergers_st12 d0 some1 still5 i9 k13 lists16 lists17 lists18 lists19 marks20 line21 yes14 n15) k).trans ((spec_l6Mergers_step12 F d0 some1 still5 i9 k13 lists16 lists17 lists18 lists19 marks20 line21 yes14 n15 (nextK (iterS tt (spec_l6Mergers_tab F) (spec_l6Mergers_LS0 F) 70 (spec_l6Mergers_ls12 F) (loopAt 12 (bodyOf Try.f67)) n) k)).trans (congrArg (fun kn => spec_l6Mergers_s12 F d0 some1 still5 i9 k13 lists16 lists17 lists18 lists19 marks20 line21 R (yes14, n15) kn _) (funext (fun ⟨yes14, n15⟩ => spec_l6Mergers_iter12 F d0 some1 still5 i9 k13 lists16 lists17 lists18 lists19 marks20 line21 k n yes14 n15))))
theorem spec_l6Mergers_lok12 (F : Nat) : LoopOK Try.prog (loopAt 12 (bodyOf Try.f67)) (spec_l6Mergers_ls12 F) := by
  refine loopOK_of mixed ttok deep (spec_l6Mergers_tabok F) (loopsOK_at (spec_l6Mergers_lsok0 F) 12) (fuel := 70) fun R vals mem np killed k x h => ?_
  simp only [spec_l6Mergers_ls12] at h
  split at h
  · rename_i d0 some1 still5 i9 k13 yes14 n15 lists16 lists17 lists18 lists19 marks20 line21
    simp only [GT.run] at h
    have hc := (cond_noneL h).1
    replace h := (cond_noneL h).2
    refine ⟨F, (spec_l6Mergers_iter12 F d0 some1 still5 i9 k13 lists16 lists17 lists18 lists19 marks20 line21 k F yes14 n15).trans ((loopC_use (spec_l6Mergers_s12_nat F d0 some1 still5 i9 k13 lists16 lists17 lists18 lists19 marks20 line21) hc _).trans h)⟩
  · simp only [GT.run] at h
    cases h
noncomputable def spec_l6Mergers_LS1 (F : Nat) : LT := (12, spec_l6Mergers_ls12 F) :: spec_l6Mergers_LS0 F
theorem spec_l6Mergers_lsok1 (F : Nat) : LoopsOK Try.prog (spec_l6Mergers_LS1 F) (bodyOf Try.f67) := loopsOK_cons spec_l6Mergers_keys (spec_l6Mergers_lok12 F) (spec_l6Mergers_lsok0 F)
def spec_l6Mergers_st8 (d0 : Int) (some1 : Bool) (still5 : Bool) (i9 : Int) (lists14 : List (List Int)) (lists15 : List (List Int)) (lists16 : List (List Int)) (lists17 : List (List Int)) (line19 : List Int) (k13 : Int) (marks18 : List Int) : St := ⟨expand 108 0 [1, 2, 7, 8, 9, 10, 11, 12] [(.int .i64 d0), (.bool some1), (.ptr 0 0 0 4), (.bool still5), (.ptr 1 0 0 16), (.int .i64 i9), (.ptr 2 0 0 8), (.int .i64 k13)], [(.var 4 (.rv [(.rr 4 lists14), (.rr 4 lists15), (.rr 4 lists16), (.rr 4 lists17)])), (.var 16 (.ri .i64 marks18)), (.var 8 (.ri .i64 line19))], 0, []⟩
def spec_l6Mergers_o8 (d0 : Int) (some1 : Bool) (still5 : Bool) (i9 : Int) (lists14 : List (List Int)) (lists15 : List (List Int)) (lists16 : List (List Int)) (lists17 : List (List Int)) (line19 : List Int) (x : List Int) : GT := (.out (.exit 2 ⟨expand 108 0 [1, 2, 7, 8, 9, 10] [(.int .i64 d0), (.bool some1), (.ptr 0 0 0 4), (.bool still5), (.ptr 1 0 0 16), (.int .i64 i9)], [(.var 4 (.rv [(.rr 4 lists14), (.rr 4 lists15), (.rr 4 lists16), (.rr 4 lists17)])), (.var 16 (.ri .i64 x))], 0, []⟩))
def spec_l6Mergers_ls8 (F : Nat) : LoopS := ⟨108, [1, 2, 7, 8, 9, 10, 11, 12], [], [1, 2, 7, 8, 9, 10], [], [6], [], [], fun vals mem np killed => match vals, mem, np, killed with
  | [(.int .i64 d0), (.bool some1), (.ptr 0 0 0 4), (.bool still5), (.ptr 1 0 0 16), (.int .i64 i9), (.ptr 2 0 0 8), (.int .i64 k13)], [(.var 4 (.rv [(.rr 4 lists14), (.rr 4 lists15), (.rr 4 lists16), (.rr 4 lists17)])), (.var 16 (.ri .i64 marks18)), (.var 8 (.ri .i64 line19))], 0, [] => .br (spec_l6Mergers_l8 F d0 some1 still5 i9 lists14 lists15 lists16 lists17 line19 k13 marks18).isSome (spec_l6Mergers_o8 d0 some1 still5 i9 lists14 lists15 lists16 lists17 line19 ((spec_l6Mergers_l8 F d0 some1 still5 i9 lists14 lists15 lists16 lists17 line19 k13 marks18).getD default)) .fail
  | _, _, _, _ => .fail⟩
theorem spec_l6Mergers_step8 (F : Nat) (d0 : Int) (some1 : Bool) (still5 : Bool) (i9 : Int) (lists14 : List (List Int)) (lists15 : List (List Int)) (lists16 : List (List Int)) (lists17 : List (List Int)) (line19 : List Int) (k13 : Int) (marks18 : List Int) {R : Type} (k : Out → Option R) : stepS tt (spec_l6Mergers_tab F) (spec_l6Mergers_LS1 F) 70 (spec_l6Mergers_ls8 F) (loopAt 8 (bodyOf Try.f67)) (spec_l6Mergers_st8 d0 some1 still5 i9 lists14 lists15 lists16 lists17 line19 k13 marks18) k = spec_l6Mergers_s8 F d0 some1 still5 i9 lists14 lists15 lists16 lists17 line19 R (k13, marks18) (fun s => k (.norm (spec_l6Mergers_st8 d0 some1 still5 i9 lists14 lists15 lists16 lists17 line19 s.1 s.2))) (fun x => (spec_l6Mergers_o8 d0 some1 still5 i9 lists14 lists15 lists16 lists17 line19 x).run k) := by kernel_rfl
theorem spec_l6Mergers_iter8 (F : Nat) (d0 : Int) (some1 : Bool) (still5 : Bool) (i9 : Int) (lists14 : List (List Int)) (lists15 : List (List Int)) (lists16 : List (List Int)) (lists17 : List (List Int)) (line19 : List Int) {R : Type} (k : Out → Option R) : ∀ (n : Nat) (k13 : Int) (marks18 : List Int), iterS tt (spec_l6Mergers_tab F) (spec_l6Mergers_LS1 F) 70 (spec_l6Mergers_ls8 F) (loopAt 8 (bodyOf Try.f67)) n (spec_l6Mergers_st8 d0 some1 still5 i9 lists14 lists15 lists16 lists17 line19 k13 marks18) k = loopC (spec_l6Mergers_s8 F d0 some1 still5 i9 lists14 lists15 lists16 lists17 line19) n (k13, marks18) (fun x => (spec_l6Mergers_o8 d0 some1 still5 i9 lists14 lists15 lists16 lists17 line19 x).run k)
  | 0, k13, marks18 => rfl
  | n + 1, k13, marks18 => (iterS_succ tt (spec_l6Mergers_tab F) (spec_l6Mergers_LS1 F) 70 (spec_l6Mergers_ls8 F) (loopAt 8 (bodyOf Try.f67)) n (spec_l6Mergers_st8 d0 some1 still5 i9 lists14 lists15 lists16 lists17 line19 k13 marks18) k).trans ((spec_l6Mergers_step8 F d0 some1 still5 i9 lists14 lists15 lists16 lists17 line19 k13 marks18 (nextK (iterS tt (spec_l6Mergers_tab F) (spec_l6Mergers_LS1 F) 70 (spec_l6Mergers_ls8 F) (loopAt 8 (bodyOf Try.f67)) n) k)).trans (congrArg (fun kn => spec_l6Mergers_s8 F d0 some1 still5 i9 lists14 lists15 lists16 lists17 line19 R (k13, marks18) kn _) (funext (fun ⟨k13, marks18⟩ => spec_l6Mergers_iter8 F d0 some1 still5 i9 lists14 lists15 lists16 lists17 line19 k n k13 marks18))))
theorem spec_l6Mergers_lok8 (F : Nat) : LoopOK Try.prog (loopAt 8 (bodyOf Try.f67)) (spec_l6Mergers_ls8 F) := by
  refine loopOK_of mixed ttok deep (spec_l6Mergers_tabok F) (loopsOK_at (spec_l6Mergers_lsok1 F) 8) (fuel := 70) fun R vals mem np killed k x h => ?_
  simp only [spec_l6Mergers_ls8] at h
  split at h
  · rename_i d0 some1 still5 i9 k13 lists14 lists15 lists16 lists17 marks18 line19
    simp only [GT.run] at h
    have hc := (cond_noneL h).1
    replace h := (cond_noneL h).2
    refine ⟨F, (spec_l6Mergers_iter8 F d0 some1 still5 i9 lists14 lists15 lists16 lists17 line19 k F k13 marks18).trans ((loopC_use (spec_l6Mergers_s8_nat F d0 some1 still5 i9 lists14 lists15 lists16 lists17 line19) hc _).trans h)⟩
  · simp only [GT.run] at h
    cases h
noncomputable def spec_l6Mergers_LS2 (F : Nat) : LT := (8, spec_l6Mergers_ls8 F) :: spec_l6Mergers_LS1 F
theorem spec_l6Mergers_lsok2 (F : Nat) : LoopsOK Try.prog (spec_l6Mergers_LS2 F) (bodyOf Try.f67) := loopsOK_cons spec_l6Mergers_keys (spec_l6Mergers_lok8 F) (spec_l6Mergers_lsok1 F)
def spec_l6Mergers_st4 (d0 : Int) (some1 : Bool) (still5 : Bool) (lists10 : List (List Int)) (lists11 : List (List Int)) (lists12 : List (List Int)) (lists13 : List (List Int)) (i9 : Int) (marks14 : List Int) : St := ⟨expand 108 0 [1, 2, 7, 8, 9, 10] [(.int .i64 d0), (.bool some1), (.ptr 0 0 0 4), (.bool still5), (.ptr 1 0 0 16), (.int .i64 i9)], [(.var 4 (.rv [(.rr 4 lists10), (.rr 4 lists11), (.rr 4 lists12), (.rr 4 lists13)])), (.var 16 (.ri .i64 marks14))], 0, []⟩
def spec_l6Mergers_o4 (d0 : Int) (some1 : Bool) (still5 : Bool) (lists10 : List (List Int)) (lists11 : List (List Int)) (lists12 : List (List Int)) (lists13 : List (List Int)) (x : List Int) : GT := (.out (.exit 0 ⟨expand 108 0 [9] [(.ptr 0 0 0 16)], [(.var 16 (.ri .i64 x))], 0, []⟩))
def spec_l6Mergers_ls4 (F : Nat) : LoopS := ⟨108, [1, 2, 7, 8, 9, 10], [], [9], [], [6], [], [], fun vals mem np killed => match vals, mem, np, killed with
  | [(.int .i64 d0), (.bool some1), (.ptr 0 0 0 4), (.bool still5), (.ptr 1 0 0 16), (.int .i64 i9)], [(.var 4 (.rv [(.rr 4 lists10), (.rr 4 lists11), (.rr 4 lists12), (.rr 4 lists13)])), (.var 16 (.ri .i64 marks14))], 0, [] => .br (spec_l6Mergers_l4 F d0 some1 still5 lists10 lists11 lists12 lists13 i9 marks14).isSome (spec_l6Mergers_o4 d0 some1 still5 lists10 lists11 lists12 lists13 ((spec_l6Mergers_l4 F d0 some1 still5 lists10 lists11 lists12 lists13 i9 marks14).getD default)) .fail
  | _, _, _, _ => .fail⟩
theorem spec_l6Mergers_step4 (F : Nat) (d0 : Int) (some1 : Bool) (still5 : Bool) (lists10 : List (List Int)) (lists11 : List (List Int)) (lists12 : List (List Int)) (lists13 : List (List Int)) (i9 : Int) (marks14 : List Int) {R : Type} (k : Out → Option R) : stepS tt (spec_l6Mergers_tab F) (spec_l6Mergers_LS2 F) 70 (spec_l6Mergers_ls4 F) (loopAt 4 (bodyOf Try.f67)) (spec_l6Mergers_st4 d0 some1 still5 lists10 lists11 lists12 lists13 i9 marks14) k = spec_l6Mergers_s4 F d0 some1 still5 lists10 lists11 lists12 lists13 R (i9, marks14) (fun s => k (.norm (spec_l6Mergers_st4 d0 some1 still5 lists10 lists11 lists12 lists13 s.1 s.2))) (fun x => (spec_l6Mergers_o4 d0 some1 still5 lists10 lists11 lists12 lists13 x).run k) := by kernel_rfl
theorem spec_l6Mergers_iter4 (F : Nat) (d0 : Int) (some1 : Bool) (still5 : Bool) (lists10 : List (List Int)) (lists11 : List (List Int)) (lists12 : List (List Int)) (lists13 : List (List Int)) {R : Type} (k : Out → Option R) : ∀ (n : Nat) (i9 : Int) (marks14 : List Int), iterS tt (spec_l6Mergers_tab F) (spec_l6Mergers_LS2 F) 70 (spec_l6Mergers_ls4 F) (loopAt 4 (bodyOf Try.f67)) n (spec_l6Mergers_st4 d0 some1 still5 lists10 lists11 lists12 lists13 i9 marks14) k = loopC (spec_l6Mergers_s4 F d0 some1 still5 lists10 lists11 lists12 lists13) n (i9, marks14) (fun x => (spec_l6Mergers_o4 d0 some1 still5 lists10 lists11 lists12 lists13 x).run k)
  | 0, i9, marks14 => rfl
  | n + 1, i9, marks14 => (iterS_succ tt (spec_l6Mergers_tab F) (spec_l6Mergers_LS2 F) 70 (spec_l6Mergers_ls4 F) (loopAt 4 (bodyOf Try.f67)) n (spec_l6Mergers_st4 d0 some1 still5 lists10 lists11 lists12 lists13 i9 marks14) k).trans ((spec_l6Mergers_step4 F d0 some1 still5 lists10 lists11 lists12 lists13 i9 marks14 (nextK (iterS tt (spec_l6Mergers_tab F) (spec_l6Mergers_LS2 F) 70 (spec_l6Mergers_ls4 F) (loopAt 4 (bodyOf Try.f67)) n) k)).trans (congrArg (fun kn => spec_l6Mergers_s4 F d0 some1 still5 lists10 lists11 lists12 lists13 R (i9, marks14) kn _) (funext (fun ⟨i9, marks14⟩ => spec_l6Mergers_iter4 F d0 some1 still5 lists10 lists11 lists12 lists13 k n i9 marks14))))
theorem spec_l6Mergers_lok4 (F : Nat) : LoopOK Try.prog (loopAt 4 (bodyOf Try.f67)) (spec_l6Mergers_ls4 F) := by
  refine loopOK_of mixed ttok deep (spec_l6Mergers_tabok F) (loopsOK_at (spec_l6Mergers_lsok2 F) 4) (fuel := 70) fun R vals mem np killed k x h => ?_
  simp only [spec_l6Mergers_ls4] at h
  split at h
  · rename_i d0 some1 still5 i9 lists10 lists11 lists12 lists13 marks14
    simp only [GT.run] at h
    have hc := (cond_noneL h).1
    replace h := (cond_noneL h).2
    refine ⟨F, (spec_l6Mergers_iter4 F d0 some1 still5 lists10 lists11 lists12 lists13 k F i9 marks14).trans ((loopC_use (spec_l6Mergers_s4_nat F d0 some1 still5 lists10 lists11 lists12 lists13) hc _).trans h)⟩
  · simp only [GT.run] at h
    cases h
noncomputable def spec_l6Mergers_LS3 (F : Nat) : LT := (4, spec_l6Mergers_ls4 F) :: spec_l6Mergers_LS2 F
theorem spec_l6Mergers_lsok3 (F : Nat) : LoopsOK Try.prog (spec_l6Mergers_LS3 F) (bodyOf Try.f67) := loopsOK_cons spec_l6Mergers_keys (spec_l6Mergers_lok4 F) (spec_l6Mergers_lsok2 F)
def spec_l6Mergers_st23 (r5 : Int) (marks7 : List Int) (c6 : Int) (out8 : List (List Int)) : St := ⟨expand 108 0 [9, 15, 16, 17] [(.ptr 0 0 0 16), (.sl 1 0 (List.length out8)), (.int .i64 r5), (.int .i64 c6)], [(.var 16 (.ri .i64 marks7)), (.vec 69 (.rr 2 out8))], 0, []⟩
def spec_l6Mergers_o23 (r5 : Int) (marks7 : List Int) (x : List (List Int)) : GT := (.out (.exit 8 ⟨expand 108 0 [9, 15, 16] [(.ptr 0 0 0 16), (.sl 1 0 (List.length x)), (.int .i64 r5)], [(.var 16 (.ri .i64 marks7)), (.vec 69 (.rr 2 x))], 0, []⟩))
def spec_l6Mergers_ls23 (F : Nat) : LoopS := ⟨108, [9, 15, 16, 17], [], [9, 15, 16], [], [6], [], [], fun vals mem np killed => match vals, mem, np, killed with
  | [(.ptr 0 0 0 16), (.sl 1 0 q_out4), (.int .i64 r5), (.int .i64 c6)], [(.var 16 (.ri .i64 marks7)), (.vec 69 (.rr 2 out8))], 0, [] => .br ((Nat.beq q_out4 (List.length out8)) && (spec_l6Mergers_l23 F r5 marks7 c6 out8).isSome) (spec_l6Mergers_o23 r5 marks7 ((spec_l6Mergers_l23 F r5 marks7 c6 out8).getD default)) .fail
  | _, _, _, _ => .fail⟩
theorem spec_l6Mergers_step23 (F : Nat) (r5 : Int) (marks7 : List Int) (c6 : Int) (out8 : List (List Int)) {R : Type} (k : Out → Option R) : stepS tt (spec_l6Mergers_tab F) (spec_l6Mergers_LS3 F) 70 (spec_l6Mergers_ls23 F) (loopAt 23 (bodyOf Try.f67)) (spec_l6Mergers_st23 r5 marks7 c6 out8) k = spec_l6Mergers_s23 F r5 marks7 R (c6, out8) (fun s => k (.norm (spec_l6Mergers_st23 r5 marks7 s.1 s.2))) (fun x => (spec_l6Mergers_o23 r5 marks7 x).run k) := by kernel_rfl
theorem spec_l6Mergers_iter23 (F : Nat) (r5 : Int) (marks7 : List Int) {R : Type} (k : Out → Option R) : ∀ (n : Nat) (c6 : Int) (out8 : List (List Int)), iterS tt (spec_l6Mergers_tab F) (spec_l6Mergers_LS3 F) 70 (spec_l6Mergers_ls23 F) (loopAt 23 (bodyOf Try.f67)) n (spec_l6Mergers_st23 r5 marks7 c6 out8) k = loopC (spec_l6Mergers_s23 F r5 marks7) n (c6, out8) (fun x => (spec_l6Mergers_o23 r5 marks7 x).run k)
  | 0, c6, out8 => rfl
  | n + 1, c6, out8 => (iterS_succ tt (spec_l6Mergers_tab F) (spec_l6Mergers_LS3 F) 70 (spec_l6Mergers_ls23 F) (loopAt 23 (bodyOf Try.f67)) n (spec_l6Mergers_st23 r5 marks7 c6 out8) k).trans ((spec_l6Mergers_step23 F r5 marks7 c6 out8 (nextK (iterS tt (spec_l6Mergers_tab F) (spec_l6Mergers_LS3 F) 70 (spec_l6Mergers_ls23 F) (loopAt 23 (bodyOf Try.f67)) n) k)).trans (congrArg (fun kn => spec_l6Mergers_s23 F r5 marks7 R (c6, out8) kn _) (funext (fun ⟨c6, out8⟩ => spec_l6Mergers_iter23 F r5 marks7 k n c6 out8))))
theorem spec_l6Mergers_lok23 (F : Nat) : LoopOK Try.prog (loopAt 23 (bodyOf Try.f67)) (spec_l6Mergers_ls23 F) := by
  refine loopOK_of mixed ttok deep (spec_l6Mergers_tabok F) (loopsOK_at (spec_l6Mergers_lsok3 F) 23) (fuel := 70) fun R vals mem np killed k x h => ?_
  simp only [spec_l6Mergers_ls23] at h
  split at h
  · rename_i q_out4 r5 c6 marks7 out8
    simp only [GT.run] at h
    have hc := (cond_noneL h).1
    replace h := (cond_noneL h).2
    have hg := (and_split hc).1
    replace hc := (and_split hc).2
    obtain rfl := nbeq_nat hg
    refine ⟨F, (spec_l6Mergers_iter23 F r5 marks7 k F c6 out8).trans ((loopC_use (spec_l6Mergers_s23_nat F r5 marks7) hc _).trans h)⟩
  · simp only [GT.run] at h
    cases h
noncomputable def spec_l6Mergers_LS4 (F : Nat) : LT := (23, spec_l6Mergers_ls23 F) :: spec_l6Mergers_LS3 F
theorem spec_l6Mergers_lsok4 (F : Nat) : LoopsOK Try.prog (spec_l6Mergers_LS4 F) (bodyOf Try.f67) := loopsOK_cons spec_l6Mergers_keys (spec_l6Mergers_lok23 F) (spec_l6Mergers_lsok3 F)
def spec_l6Mergers_st20 (marks6 : List Int) (r5 : Int) (out7 : List (List Int)) : St := ⟨expand 108 0 [9, 15, 16] [(.ptr 0 0 0 16), (.sl 1 0 (List.length out7)), (.int .i64 r5)], [(.var 16 (.ri .i64 marks6)), (.vec 69 (.rr 2 out7))], 0, []⟩
def spec_l6Mergers_o20 (marks6 : List Int) (x : List (List Int)) : GT := (.out (.exit 6 ⟨expand 108 0 [15] [(.sl 0 0 (List.length x))], [(.vec 69 (.rr 2 x))], 0, []⟩))
def spec_l6Mergers_ls20 (F : Nat) : LoopS := ⟨108, [9, 15, 16], [], [15], [], [6], [], [], fun vals mem np killed => match vals, mem, np, killed with
  | [(.ptr 0 0 0 16), (.sl 1 0 q_out4), (.int .i64 r5)], [(.var 16 (.ri .i64 marks6)), (.vec 69 (.rr 2 out7))], 0, [] => .br ((Nat.beq q_out4 (List.length out7)) && (spec_l6Mergers_l20 F marks6 r5 out7).isSome) (spec_l6Mergers_o20 marks6 ((spec_l6Mergers_l20 F marks6 r5 out7).getD default)) .fail
  | _, _, _, _ => .fail⟩
theorem spec_l6Mergers_step20 (F : Nat) (marks6 : List Int) (r5 : Int) (out7 : List (List Int)) {R : Type} (k : Out → Option R) : stepS tt (spec_l6Mergers_tab F) (spec_l6Mergers_LS4 F) 70 (spec_l6Mergers_ls20 F) (loopAt 20 (bodyOf Try.f67)) (spec_l6Mergers_st20 marks6 r5 out7) k = spec_l6Mergers_s20 F marks6 R (r5, out7) (fun s => k (.norm (spec_l6Mergers_st20 marks6 s.1 s.2))) (fun x => (spec_l6Mergers_o20 marks6 x).run k) := by kernel_rfl
theorem spec_l6Mergers_iter20 (F : Nat) (marks6 : List Int) {R : Type} (k : Out → Option R) : ∀ (n : Nat) (r5 : Int) (out7 : List (List Int)), iterS tt (spec_l6Mergers_tab F) (spec_l6Mergers_LS4 F) 70 (spec_l6Mergers_ls20 F) (loopAt 20 (bodyOf Try.f67)) n (spec_l6Mergers_st20 marks6 r5 out7) k = loopC (spec_l6Mergers_s20 F marks6) n (r5, out7) (fun x => (spec_l6Mergers_o20 marks6 x).run k)
  | 0, r5, out7 => rfl
  | n + 1, r5, out7 => (iterS_succ tt (spec_l6Mergers_tab F) (spec_l6Mergers_LS4 F) 70 (spec_l6Mergers_ls20 F) (loopAt 20 (bodyOf Try.f67)) n (spec_l6Mergers_st20 marks6 r5 out7) k).trans ((spec_l6Mergers_step20 F marks6 r5 out7 (nextK (iterS tt (spec_l6Mergers_tab F) (spec_l6Mergers_LS4 F) 70 (spec_l6Mergers_ls20 F) (loopAt 20 (bodyOf Try.f67)) n) k)).trans (congrArg (fun kn => spec_l6Mergers_s20 F marks6 R (r5, out7) kn _) (funext (fun ⟨r5, out7⟩ => spec_l6Mergers_iter20 F marks6 k n r5 out7))))
theorem spec_l6Mergers_lok20 (F : Nat) : LoopOK Try.prog (loopAt 20 (bodyOf Try.f67)) (spec_l6Mergers_ls20 F) := by
  refine loopOK_of mixed ttok deep (spec_l6Mergers_tabok F) (loopsOK_at (spec_l6Mergers_lsok4 F) 20) (fuel := 70) fun R vals mem np killed k x h => ?_
  simp only [spec_l6Mergers_ls20] at h
  split at h
  · rename_i q_out4 r5 marks6 out7
    simp only [GT.run] at h
    have hc := (cond_noneL h).1
    replace h := (cond_noneL h).2
    have hg := (and_split hc).1
    replace hc := (and_split hc).2
    obtain rfl := nbeq_nat hg
    refine ⟨F, (spec_l6Mergers_iter20 F marks6 k F r5 out7).trans ((loopC_use (spec_l6Mergers_s20_nat F marks6) hc _).trans h)⟩
  · simp only [GT.run] at h
    cases h
noncomputable def spec_l6Mergers_LS5 (F : Nat) : LT := (20, spec_l6Mergers_ls20 F) :: spec_l6Mergers_LS4 F
theorem spec_l6Mergers_lsok5 (F : Nat) : LoopsOK Try.prog (spec_l6Mergers_LS5 F) (bodyOf Try.f67) := loopsOK_cons spec_l6Mergers_keys (spec_l6Mergers_lok20 F) (spec_l6Mergers_lsok4 F)
theorem spec_l6Mergers_run (F : Nat) (b0 : List Int) (d1 : Int) (some2 : Bool) : runS tt (spec_l6Mergers_tab F) (spec_l6Mergers_LS5 F) [] [] Try.f67 (bodyOf Try.f67) 70 [(.ints 16 b0), (.int .i64 d1), (.bool some2)] [] = spec_l6Mergers_c _ F b0 d1 some2 (fun r => some ⟨(.sl 0 0 (List.length r)), [(.vec 69 (.rr 2 r))], []⟩) := by kernel_rfl
def spec_l6Mergers_ent (F : Nat) : Ent := ⟨[], .fresh, fun args mem => match args, mem with
  | [(.ints 16 b0), (.int .i64 d1), (.bool some2)], [] => some ((spec_l6Mergers_p F b0 d1 some2).isSome, ⟨(.sl 0 0 (List.length ((spec_l6Mergers_p F b0 d1 some2).getD default))), [(.vec 69 (.rr 2 ((spec_l6Mergers_p F b0 d1 some2).getD default)))], []⟩)
  | _, _ => none⟩
theorem spec_l6Mergers_fok : FunOK Try.prog 67 := funOK Try.func67 (by kernel_rfl) rfl
theorem spec_l6Mergers_meets (F : Nat) : Meets Try.prog 67 (spec_l6Mergers_ent F) := by
  refine meets_of_runS mixed ttok deep (spec_l6Mergers_tabok F) Try.func67 (body_some rfl) (spec_l6Mergers_lsok5 F) fun args mem hfit ret h => ?_
  clear hfit
  simp only [spec_l6Mergers_ent] at h
  split at h
  · rename_i b0 d1 some2
    simp only [Option.some.injEq, Prod.mk.injEq] at h
    obtain ⟨hc, rfl⟩ := h
    exact ⟨[], [], 70, _, (spec_l6Mergers_run F b0 d1 some2).trans ((spec_l6Mergers_cp _ F b0 d1 some2 _).trans (bind_use hc _)), rfl, rfl, rfl⟩
  · cases h

/-! loop.example/g01194/spec.CanMerge -/
noncomputable def spec_CanMerge_tab (F : Nat) : Tab := [(45, (spec_l2Board_ent F)), (46, (spec_l2Side_ent F)), (47, (spec_l6Count_ent F)), (67, (spec_l6Mergers_ent F))]
theorem spec_CanMerge_tabok (F : Nat) : TabOK Try.prog (spec_CanMerge_tab F) := (tab_cons (spec_l2Board_meets F) spec_l2Board_fok (tab_cons (spec_l2Side_meets F) spec_l2Side_fok (tab_cons (spec_l6Count_meets F) spec_l6Count_fok (tab_cons (spec_l6Mergers_meets F) spec_l6Mergers_fok tab_nil))))
noncomputable def spec_CanMerge_LS0 (F : Nat) : LT := []
theorem spec_CanMerge_lsok0 (F : Nat) : LoopsOK Try.prog (spec_CanMerge_LS0 F) (bodyOf Try.f33) := loopsOK_nil
theorem spec_CanMerge_run (F : Nat) (b0 : List Int) (direction1 : Int) : runS tt (spec_CanMerge_tab F) (spec_CanMerge_LS0 F) [] [] Try.f33 (bodyOf Try.f33) 70 [(.ints 16 b0), (.int .i64 direction1)] [] = spec_CanMerge_c _ F b0 direction1 (fun r => some ⟨(.tup [(.sl 0 0 (List.length r.2)), (.bool r.1)]), [(.vec 69 (.rr 2 r.2))], []⟩) := by kernel_rfl
def spec_CanMerge_ent (F : Nat) : Ent := ⟨[], .fresh, fun args mem => match args, mem with
  | [(.ints 16 b0), (.int .i64 direction1)], [] => some ((spec_CanMerge_p F b0 direction1).isSome, ⟨(.tup [(.sl 0 0 (List.length ((spec_CanMerge_p F b0 direction1).getD default).2)), (.bool ((spec_CanMerge_p F b0 direction1).getD default).1)]), [(.vec 69 (.rr 2 ((spec_CanMerge_p F b0 direction1).getD default).2))], []⟩)
  | _, _ => none⟩
theorem spec_CanMerge_fok : FunOK Try.prog 33 := funOK Try.func33 (by kernel_rfl) rfl
theorem spec_CanMerge_meets (F : Nat) : Meets Try.prog 33 (spec_CanMerge_ent F) := by
  refine meets_of_runS mixed ttok deep (spec_CanMerge_tabok F) Try.func33 (body_some rfl) (spec_CanMerge_lsok0 F) fun args mem hfit ret h => ?_
  clear hfit
  simp only [spec_CanMerge_ent] at h
  split at h
  · rename_i b0 direction1
    simp only [Option.some.injEq, Prod.mk.injEq] at h
    obtain ⟨hc, rfl⟩ := h
    exact ⟨[], [], 70, _, (spec_CanMerge_run F b0 direction1).trans ((spec_CanMerge_cp _ F b0 direction1 _).trans (bind_use hc _)), rfl, rfl, rfl⟩
  · cases h
end Go.Proofs.Ytgmnclpjbhmioaa
