/-
Pure functions and what the code of them does, by program; without conditions.
-/
import Derived.Test.YtgmnclpjbhmioaaGreatTZP6
import Derived.Test.YtgmnclpjbhmioaaGreatTZS5
namespace Go.Proofs.YtgmnclpjbhmioaaGreat
open Go Go.Lv Go.Lv.P Go.Proofs
set_option linter.unusedVariables false
set_option linter.unusedSimpArgs false
set_option maxRecDepth 100000
/-! loop.example/g01194/laws.eqIntA4A4 -/
noncomputable def laws_eqIntA4A4_tab (F : Nat) : Tab := [(32, (laws_eqIntA4_ent F))]
theorem laws_eqIntA4A4_tabok (F : Nat) : TabOK Tryz.prog (laws_eqIntA4A4_tab F) := (tab_cons (laws_eqIntA4_meets F) laws_eqIntA4_fok tab_nil)
noncomputable def laws_eqIntA4A4_LS0 (F : Nat) : LT := []
theorem laws_eqIntA4A4_lsok0 (F : Nat) : LoopsOK Tryz.prog (laws_eqIntA4A4_LS0 F) (bodyOf Tryz.f17) := loopsOK_nil
theorem laws_eqIntA4A4_keys : keysOK (bodyOf Tryz.f17) = true := by kernel_rfl
def laws_eqIntA4A4_st2 (a7 : List Int) (b8 : List Int) (i6 : Int) : St := ⟨expand 18 0 [2, 3, 5] [(.ptr 0 0 0 16), (.ptr 1 0 0 16), (.int .i64 i6)], [(.var 16 (.ri .i64 a7)), (.var 16 (.ri .i64 b8))], 0, []⟩
def laws_eqIntA4A4_o2 (a7 : List Int) (b8 : List Int) (x : Bool) : GT := (.br x (.out (.ret ⟨expand 18 0 [4] [(.bool false)], [], 0, []⟩)) (.out (.exit 0 ⟨expand 18 0 [] [], [], 0, []⟩)))
def laws_eqIntA4A4_ls2 (F : Nat) : LoopS := ⟨18, [2, 3, 5], [], [], [], [4], [], [], fun vals mem np killed => match vals, mem, np, killed with
  | [(.ptr 0 0 0 16), (.ptr 1 0 0 16), (.int .i64 i6)], [(.var 16 (.ri .i64 a7)), (.var 16 (.ri .i64 b8))], 0, [] => .br (laws_eqIntA4A4_l2 F a7 b8 i6).isSome (laws_eqIntA4A4_o2 a7 b8 ((laws_eqIntA4A4_l2 F a7 b8 i6).getD default)) .fail
  | _, _, _, _ => .fail⟩
theorem laws_eqIntA4A4_step2 (F : Nat) (a7 : List Int) (b8 : List Int) (i6 : Int) {R : Type} (k : Out → Option R) : stepS tt (laws_eqIntA4A4_tab F) (laws_eqIntA4A4_LS0 F) 70 (laws_eqIntA4A4_ls2 F) (loopAt 2 (bodyOf Tryz.f17)) (laws_eqIntA4A4_st2 a7 b8 i6) k = laws_eqIntA4A4_s2 F a7 b8 R i6 (fun s => k (.norm (laws_eqIntA4A4_st2 a7 b8 s))) (fun x => (laws_eqIntA4A4_o2 a7 b8 x).run k) := by kernel_rfl
theorem laws_eqIntA4A4_iter2 (F : Nat) (a7 : List Int) (b8 : List Int) {R : Type} (k : Out → Option R) : ∀ (n : Nat) (i6 : Int), iterS tt (laws_eqIntA4A4_tab F) (laws_eqIntA4A4_LS0 F) 70 (laws_eqIntA4A4_ls2 F) (loopAt 2 (bodyOf Tryz.f17)) n (laws_eqIntA4A4_st2 a7 b8 i6) k = loopC (laws_eqIntA4A4_s2 F a7 b8) n i6 (fun x => (laws_eqIntA4A4_o2 a7 b8 x).run k)
  | 0, i6 => rfl
  | n + 1, i6 => (iterS_succ tt (laws_eqIntA4A4_tab F) (laws_eqIntA4A4_LS0 F) 70 (laws_eqIntA4A4_ls2 F) (loopAt 2 (bodyOf Tryz.f17)) n (laws_eqIntA4A4_st2 a7 b8 i6) k).trans ((laws_eqIntA4A4_step2 F a7 b8 i6 (nextK (iterS tt (laws_eqIntA4A4_tab F) (laws_eqIntA4A4_LS0 F) 70 (laws_eqIntA4A4_ls2 F) (loopAt 2 (bodyOf Tryz.f17)) n) k)).trans (congrArg (fun kn => laws_eqIntA4A4_s2 F a7 b8 R i6 kn _) (funext (fun i6 => laws_eqIntA4A4_iter2 F a7 b8 k n i6))))
theorem laws_eqIntA4A4_lok2 (F : Nat) : LoopOK Tryz.prog (loopAt 2 (bodyOf Tryz.f17)) (laws_eqIntA4A4_ls2 F) := by
  refine loopOK_of mixed ttok deep (laws_eqIntA4A4_tabok F) (loopsOK_at (laws_eqIntA4A4_lsok0 F) 2) (fuel := 70) fun R vals mem np killed k x h => ?_
  simp only [laws_eqIntA4A4_ls2] at h
  split at h
  · rename_i i6 a7 b8
    simp only [GT.run] at h
    have hc := (cond_noneL h).1
    replace h := (cond_noneL h).2
    refine ⟨F, (laws_eqIntA4A4_iter2 F a7 b8 k F i6).trans ((loopC_use (laws_eqIntA4A4_s2_nat F a7 b8) hc _).trans h)⟩
  · simp only [GT.run] at h
    cases h
noncomputable def laws_eqIntA4A4_LS1 (F : Nat) : LT := (2, laws_eqIntA4A4_ls2 F) :: laws_eqIntA4A4_LS0 F
theorem laws_eqIntA4A4_lsok1 (F : Nat) : LoopsOK Tryz.prog (laws_eqIntA4A4_LS1 F) (bodyOf Tryz.f17) := loopsOK_cons laws_eqIntA4A4_keys (laws_eqIntA4A4_lok2 F) (laws_eqIntA4A4_lsok0 F)
theorem laws_eqIntA4A4_run (F : Nat) (a0 : List Int) (b1 : List Int) : runS tt (laws_eqIntA4A4_tab F) (laws_eqIntA4A4_LS1 F) [] [] Tryz.f17 (bodyOf Tryz.f17) 70 [(.ints 16 a0), (.ints 16 b1)] [] = laws_eqIntA4A4_c _ F a0 b1 (fun r => some ⟨(.bool r), [], []⟩) := by kernel_rfl
def laws_eqIntA4A4_ent (F : Nat) : Ent := ⟨[], .quiet, fun args mem => match args, mem with
  | [(.ints 16 a0), (.ints 16 b1)], [] => some ((laws_eqIntA4A4_p F a0 b1).isSome, ⟨(.bool ((laws_eqIntA4A4_p F a0 b1).getD default)), [], []⟩)
  | _, _ => none⟩
theorem laws_eqIntA4A4_fok : FunOK Tryz.prog 17 := funOK Tryz.func17 (by kernel_rfl) rfl
theorem laws_eqIntA4A4_meets (F : Nat) : Meets Tryz.prog 17 (laws_eqIntA4A4_ent F) := by
  refine meets_of_runS mixed ttok deep (laws_eqIntA4A4_tabok F) Tryz.func17 (body_some rfl) (laws_eqIntA4A4_lsok1 F) fun args mem hfit ret h => ?_
  clear hfit
  simp only [laws_eqIntA4A4_ent] at h
  split at h
  · rename_i a0 b1
    simp only [Option.some.injEq, Prod.mk.injEq] at h
    obtain ⟨hc, rfl⟩ := h
    exact ⟨[], [], 70, _, (laws_eqIntA4A4_run F a0 b1).trans ((laws_eqIntA4A4_cp _ F a0 b1 _).trans (bind_use hc _)), rfl, rfl, rfl⟩
  · cases h

/-! loop.example/g01194/laws.eqBoard -/
noncomputable def laws_eqBoard_tab (F : Nat) : Tab := [(17, (laws_eqIntA4A4_ent F))]
theorem laws_eqBoard_tabok (F : Nat) : TabOK Tryz.prog (laws_eqBoard_tab F) := (tab_cons (laws_eqIntA4A4_meets F) laws_eqIntA4A4_fok tab_nil)
noncomputable def laws_eqBoard_LS0 (F : Nat) : LT := []
theorem laws_eqBoard_lsok0 (F : Nat) : LoopsOK Tryz.prog (laws_eqBoard_LS0 F) (bodyOf Tryz.f8) := loopsOK_nil
theorem laws_eqBoard_run (F : Nat) (a0 : List Int) (b1 : List Int) : runS tt (laws_eqBoard_tab F) (laws_eqBoard_LS0 F) [] [] Tryz.f8 (bodyOf Tryz.f8) 70 [(.ints 16 a0), (.ints 16 b1)] [] = laws_eqBoard_c _ F a0 b1 (fun r => some ⟨(.bool r), [], []⟩) := by kernel_rfl
def laws_eqBoard_ent (F : Nat) : Ent := ⟨[], .quiet, fun args mem => match args, mem with
  | [(.ints 16 a0), (.ints 16 b1)], [] => some ((laws_eqBoard_p F a0 b1).isSome, ⟨(.bool ((laws_eqBoard_p F a0 b1).getD default)), [], []⟩)
  | _, _ => none⟩
theorem laws_eqBoard_fok : FunOK Tryz.prog 8 := funOK Tryz.func8 (by kernel_rfl) rfl
theorem laws_eqBoard_meets (F : Nat) : Meets Tryz.prog 8 (laws_eqBoard_ent F) := by
  refine meets_of_runS mixed ttok deep (laws_eqBoard_tabok F) Tryz.func8 (body_some rfl) (laws_eqBoard_lsok0 F) fun args mem hfit ret h => ?_
  clear hfit
  simp only [laws_eqBoard_ent] at h
  split at h
  · rename_i a0 b1
    simp only [Option.some.injEq, Prod.mk.injEq] at h
    obtain ⟨hc, rfl⟩ := h
    exact ⟨[], [], 70, _, (laws_eqBoard_run F a0 b1).trans ((laws_eqBoard_cp _ F a0 b1 _).trans (bind_use hc _)), rfl, rfl, rfl⟩
  · cases h

/-! loop.example/g01194/laws.FnExactBackStep -/
noncomputable def laws_FnExactBackStep_tab (F : Nat) : Tab := [(6, (laws_toBoard_ent F)), (5, (spec_BackStep_ent F)), (7, (impl_BackStep_ent F)), (8, (laws_eqBoard_ent F))]
theorem laws_FnExactBackStep_tabok (F : Nat) : TabOK Tryz.prog (laws_FnExactBackStep_tab F) := (tab_cons (laws_toBoard_meets F) laws_toBoard_fok (tab_cons (spec_BackStep_meets F) spec_BackStep_fok (tab_cons (impl_BackStep_meets F) impl_BackStep_fok (tab_cons (laws_eqBoard_meets F) laws_eqBoard_fok tab_nil))))
noncomputable def laws_FnExactBackStep_LS0 (F : Nat) : LT := []
theorem laws_FnExactBackStep_lsok0 (F : Nat) : LoopsOK Tryz.prog (laws_FnExactBackStep_LS0 F) (bodyOf Tryz.f3) := loopsOK_nil
theorem laws_FnExactBackStep_run (F : Nat) (aB0 : List Int) (aDirection1 : Int) (aK2 : Int) : runS tt (laws_FnExactBackStep_tab F) (laws_FnExactBackStep_LS0 F) [] [] Tryz.f3 (bodyOf Tryz.f3) 70 [(.ints 16 aB0), (.int .i64 aDirection1), (.int .i64 aK2)] [] = laws_FnExactBackStep_c _ F aB0 aDirection1 aK2 (fun r => some ⟨(.bool r), [], []⟩) := by kernel_rfl
def laws_FnExactBackStep_ent (F : Nat) : Ent := ⟨[], .quiet, fun args mem => match args, mem with
  | [(.ints 16 aB0), (.int .i64 aDirection1), (.int .i64 aK2)], [] => some ((laws_FnExactBackStep_p F aB0 aDirection1 aK2).isSome, ⟨(.bool ((laws_FnExactBackStep_p F aB0 aDirection1 aK2).getD default)), [], []⟩)
  | _, _ => none⟩
theorem laws_FnExactBackStep_fok : FunOK Tryz.prog 3 := funOK Tryz.func3 (by kernel_rfl) rfl
theorem laws_FnExactBackStep_meets (F : Nat) : Meets Tryz.prog 3 (laws_FnExactBackStep_ent F) := by
  refine meets_of_runS mixed ttok deep (laws_FnExactBackStep_tabok F) Tryz.func3 (body_some rfl) (laws_FnExactBackStep_lsok0 F) fun args mem hfit ret h => ?_
  clear hfit
  simp only [laws_FnExactBackStep_ent] at h
  split at h
  · rename_i aB0 aDirection1 aK2
    simp only [Option.some.injEq, Prod.mk.injEq] at h
    obtain ⟨hc, rfl⟩ := h
    exact ⟨[], [], 70, _, (laws_FnExactBackStep_run F aB0 aDirection1 aK2).trans ((laws_FnExactBackStep_cp _ F aB0 aDirection1 aK2 _).trans (bind_use hc _)), rfl, rfl, rfl⟩
  · cases h

/-! loop.example/g01194/laws.eqBoardS -/
noncomputable def laws_eqBoardS_tab (F : Nat) : Tab := [(8, (laws_eqBoard_ent F))]
theorem laws_eqBoardS_tabok (F : Nat) : TabOK Tryz.prog (laws_eqBoardS_tab F) := (tab_cons (laws_eqBoard_meets F) laws_eqBoard_fok tab_nil)
noncomputable def laws_eqBoardS_LS0 (F : Nat) : LT := []
theorem laws_eqBoardS_lsok0 (F : Nat) : LoopsOK Tryz.prog (laws_eqBoardS_LS0 F) (bodyOf Tryz.f11) := loopsOK_nil
theorem laws_eqBoardS_keys : keysOK (bodyOf Tryz.f11) = true := by kernel_rfl
def laws_eqBoardS_st4 (a0 : List (List Int)) (b1 : List (List Int)) (i2 : Int) : St := ⟨expand 27 0 [0, 1, 5] [(.rr 16 a0), (.rr 16 b1), (.int .i64 i2)], [], 0, []⟩
def laws_eqBoardS_o4 (a0 : List (List Int)) (b1 : List (List Int)) (x : Bool) : GT := (.br x (.out (.ret ⟨expand 27 0 [4] [(.bool false)], [], 0, []⟩)) (.out (.exit 0 ⟨expand 27 0 [] [], [], 0, []⟩)))
def laws_eqBoardS_ls4 (F : Nat) : LoopS := ⟨27, [0, 1, 5], [], [], [], [4], [], [], fun vals mem np killed => match vals, mem, np, killed with
  | [(.rr 16 a0), (.rr 16 b1), (.int .i64 i2)], [], 0, [] => .br (laws_eqBoardS_l4 F a0 b1 i2).isSome (laws_eqBoardS_o4 a0 b1 ((laws_eqBoardS_l4 F a0 b1 i2).getD default)) .fail
  | _, _, _, _ => .fail⟩
theorem laws_eqBoardS_step4 (F : Nat) (a0 : List (List Int)) (b1 : List (List Int)) (i2 : Int) {R : Type} (k : Out → Option R) : stepS tt (laws_eqBoardS_tab F) (laws_eqBoardS_LS0 F) 70 (laws_eqBoardS_ls4 F) (loopAt 4 (bodyOf Tryz.f11)) (laws_eqBoardS_st4 a0 b1 i2) k = laws_eqBoardS_s4 F a0 b1 R i2 (fun s => k (.norm (laws_eqBoardS_st4 a0 b1 s))) (fun x => (laws_eqBoardS_o4 a0 b1 x).run k) := by kernel_rfl
theorem laws_eqBoardS_iter4 (F : Nat) (a0 : List (List Int)) (b1 : List (List Int)) {R : Type} (k : Out → Option R) : ∀ (n : Nat) (i2 : Int), iterS tt (laws_eqBoardS_tab F) (laws_eqBoardS_LS0 F) 70 (laws_eqBoardS_ls4 F) (loopAt 4 (bodyOf Tryz.f11)) n (laws_eqBoardS_st4 a0 b1 i2) k = loopC (laws_eqBoardS_s4 F a0 b1) n i2 (fun x => (laws_eqBoardS_o4 a0 b1 x).run k)
  | 0, i2 => rfl
  | n + 1, i2 => (iterS_succ tt (laws_eqBoardS_tab F) (laws_eqBoardS_LS0 F) 70 (laws_eqBoardS_ls4 F) (loopAt 4 (bodyOf Tryz.f11)) n (laws_eqBoardS_st4 a0 b1 i2) k).trans ((laws_eqBoardS_step4 F a0 b1 i2 (nextK (iterS tt (laws_eqBoardS_tab F) (laws_eqBoardS_LS0 F) 70 (laws_eqBoardS_ls4 F) (loopAt 4 (bodyOf Tryz.f11)) n) k)).trans (congrArg (fun kn => laws_eqBoardS_s4 F a0 b1 R i2 kn _) (funext (fun i2 => laws_eqBoardS_iter4 F a0 b1 k n i2))))
theorem laws_eqBoardS_lok4 (F : Nat) : LoopOK Tryz.prog (loopAt 4 (bodyOf Tryz.f11)) (laws_eqBoardS_ls4 F) := by
  refine loopOK_of mixed ttok deep (laws_eqBoardS_tabok F) (loopsOK_at (laws_eqBoardS_lsok0 F) 4) (fuel := 70) fun R vals mem np killed k x h => ?_
  simp only [laws_eqBoardS_ls4] at h
  split at h
  · rename_i a0 b1 i2
    simp only [GT.run] at h
    have hc := (cond_noneL h).1
    replace h := (cond_noneL h).2
    refine ⟨F, (laws_eqBoardS_iter4 F a0 b1 k F i2).trans ((loopC_use (laws_eqBoardS_s4_nat F a0 b1) hc _).trans h)⟩
  · simp only [GT.run] at h
    cases h
noncomputable def laws_eqBoardS_LS1 (F : Nat) : LT := (4, laws_eqBoardS_ls4 F) :: laws_eqBoardS_LS0 F
theorem laws_eqBoardS_lsok1 (F : Nat) : LoopsOK Tryz.prog (laws_eqBoardS_LS1 F) (bodyOf Tryz.f11) := loopsOK_cons laws_eqBoardS_keys (laws_eqBoardS_lok4 F) (laws_eqBoardS_lsok0 F)
theorem laws_eqBoardS_run (F : Nat) (a0 : List (List Int)) (b1 : List (List Int)) : runS tt (laws_eqBoardS_tab F) (laws_eqBoardS_LS1 F) [] [] Tryz.f11 (bodyOf Tryz.f11) 70 [(.rr 16 a0), (.rr 16 b1)] [] = laws_eqBoardS_c _ F a0 b1 (fun r => some ⟨(.bool r), [], []⟩) := by kernel_rfl
def laws_eqBoardS_ent (F : Nat) : Ent := ⟨[], .quiet, fun args mem => match args, mem with
  | [(.rr 16 a0), (.rr 16 b1)], [] => some ((laws_eqBoardS_p F a0 b1).isSome, ⟨(.bool ((laws_eqBoardS_p F a0 b1).getD default)), [], []⟩)
  | _, _ => none⟩
theorem laws_eqBoardS_fok : FunOK Tryz.prog 11 := funOK Tryz.func11 (by kernel_rfl) rfl
theorem laws_eqBoardS_meets (F : Nat) : Meets Tryz.prog 11 (laws_eqBoardS_ent F) := by
  refine meets_of_runS mixed ttok deep (laws_eqBoardS_tabok F) Tryz.func11 (body_some rfl) (laws_eqBoardS_lsok1 F) fun args mem hfit ret h => ?_
  clear hfit
  simp only [laws_eqBoardS_ent] at h
  split at h
  · rename_i a0 b1
    simp only [Option.some.injEq, Prod.mk.injEq] at h
    obtain ⟨hc, rfl⟩ := h
    exact ⟨[], [], 70, _, (laws_eqBoardS_run F a0 b1).trans ((laws_eqBoardS_cp _ F a0 b1 _).trans (bind_use hc _)), rfl, rfl, rfl⟩
  · cases h

/-! loop.example/g01194/laws.markBoardS -/
noncomputable def laws_markBoardS_tab (F : Nat) : Tab := []
theorem laws_markBoardS_tabok (F : Nat) : TabOK Tryz.prog (laws_markBoardS_tab F) := tab_nil
noncomputable def laws_markBoardS_LS0 (F : Nat) : LT := []
theorem laws_markBoardS_lsok0 (F : Nat) : LoopsOK Tryz.prog (laws_markBoardS_LS0 F) (bodyOf Tryz.f12) := loopsOK_nil
theorem laws_markBoardS_keys : keysOK (bodyOf Tryz.f12) = true := by kernel_rfl
def laws_markBoardS_st2 (a1 : Nat) (k2 : Int) (a4 : List (List Int)) (i3 : Int) : St := ⟨expand 13 0 [0, 1, 5] [(.sl 0 0 a1), (.int .i64 k2), (.int .i64 i3)], [(.vec 26 (.rr 16 a4))], 1, []⟩
def laws_markBoardS_o2 (a1 : Nat) (k2 : Int) (a4 : List (List Int)) (x : Unit) : GT := (.out (.exit 0 ⟨expand 13 0 [1] [(.int .i64 k2)], [(.vec 26 (.rr 16 a4))], 1, []⟩))
def laws_markBoardS_ls2 (F : Nat) : LoopS := ⟨13, [0, 1, 5], [], [1], [], [4], [], [], fun vals mem np killed => match vals, mem, np, killed with
  | [(.sl 0 0 a1), (.int .i64 k2), (.int .i64 i3)], [(.vec 26 (.rr 16 a4))], 1, [] => .br (laws_markBoardS_l2 F a1 k2 a4 i3).isSome (laws_markBoardS_o2 a1 k2 a4 ((laws_markBoardS_l2 F a1 k2 a4 i3).getD default)) .fail
  | _, _, _, _ => .fail⟩
theorem laws_markBoardS_step2 (F : Nat) (a1 : Nat) (k2 : Int) (a4 : List (List Int)) (i3 : Int) {R : Type} (k : Out → Option R) : stepS tt (laws_markBoardS_tab F) (laws_markBoardS_LS0 F) 70 (laws_markBoardS_ls2 F) (loopAt 2 (bodyOf Tryz.f12)) (laws_markBoardS_st2 a1 k2 a4 i3) k = laws_markBoardS_s2 F a1 k2 a4 R i3 (fun s => k (.norm (laws_markBoardS_st2 a1 k2 a4 s))) (fun x => (laws_markBoardS_o2 a1 k2 a4 x).run k) := by kernel_rfl
theorem laws_markBoardS_iter2 (F : Nat) (a1 : Nat) (k2 : Int) (a4 : List (List Int)) {R : Type} (k : Out → Option R) : ∀ (n : Nat) (i3 : Int), iterS tt (laws_markBoardS_tab F) (laws_markBoardS_LS0 F) 70 (laws_markBoardS_ls2 F) (loopAt 2 (bodyOf Tryz.f12)) n (laws_markBoardS_st2 a1 k2 a4 i3) k = loopC (laws_markBoardS_s2 F a1 k2 a4) n i3 (fun x => (laws_markBoardS_o2 a1 k2 a4 x).run k)
  | 0, i3 => rfl
  | n + 1, i3 => (iterS_succ tt (laws_markBoardS_tab F) (laws_markBoardS_LS0 F) 70 (laws_markBoardS_ls2 F) (loopAt 2 (bodyOf Tryz.f12)) n (laws_markBoardS_st2 a1 k2 a4 i3) k).trans ((laws_markBoardS_step2 F a1 k2 a4 i3 (nextK (iterS tt (laws_markBoardS_tab F) (laws_markBoardS_LS0 F) 70 (laws_markBoardS_ls2 F) (loopAt 2 (bodyOf Tryz.f12)) n) k)).trans (congrArg (fun kn => laws_markBoardS_s2 F a1 k2 a4 R i3 kn _) (funext (fun i3 => laws_markBoardS_iter2 F a1 k2 a4 k n i3))))
theorem laws_markBoardS_lok2 (F : Nat) : LoopOK Tryz.prog (loopAt 2 (bodyOf Tryz.f12)) (laws_markBoardS_ls2 F) := by
  refine loopOK_of mixed ttok deep (laws_markBoardS_tabok F) (loopsOK_at (laws_markBoardS_lsok0 F) 2) (fuel := 70) fun R vals mem np killed k x h => ?_
  simp only [laws_markBoardS_ls2] at h
  split at h
  · rename_i a1 k2 i3 a4
    simp only [GT.run] at h
    have hc := (cond_noneL h).1
    replace h := (cond_noneL h).2
    refine ⟨F, (laws_markBoardS_iter2 F a1 k2 a4 k F i3).trans ((loopC_use (laws_markBoardS_s2_nat F a1 k2 a4) hc _).trans h)⟩
  · simp only [GT.run] at h
    cases h
noncomputable def laws_markBoardS_LS1 (F : Nat) : LT := (2, laws_markBoardS_ls2 F) :: laws_markBoardS_LS0 F
theorem laws_markBoardS_lsok1 (F : Nat) : LoopsOK Tryz.prog (laws_markBoardS_LS1 F) (bodyOf Tryz.f12) := loopsOK_cons laws_markBoardS_keys (laws_markBoardS_lok2 F) (laws_markBoardS_lsok0 F)
theorem laws_markBoardS_run (F : Nat) (a1 : Nat) (k2 : Int) (a3 : List (List Int)) : runS tt (laws_markBoardS_tab F) (laws_markBoardS_LS1 F) [] [] Tryz.f12 (bodyOf Tryz.f12) 70 [(.sl 0 0 a1), (.int .i64 k2)] [(.vec 26 (.rr 16 a3))] = laws_markBoardS_c _ F a1 k2 a3 (fun r => some ⟨(.int .i64 k2), [(.vec 26 (.rr 16 a3))], []⟩) := by kernel_rfl
def laws_markBoardS_ent (F : Nat) : Ent := ⟨[true], .quiet, fun args mem => match args, mem with
  | [(.sl 0 0 a1), (.int .i64 k2)], [(.vec 26 (.rr 16 a3))] => some ((laws_markBoardS_p F a1 k2 a3).isSome, ⟨(.int .i64 k2), [], []⟩)
  | _, _ => none⟩
theorem laws_markBoardS_fok : FunOK Tryz.prog 12 := funOK Tryz.func12 (by kernel_rfl) rfl
theorem laws_markBoardS_meets (F : Nat) : Meets Tryz.prog 12 (laws_markBoardS_ent F) := by
  refine meets_of_runS mixed ttok deep (laws_markBoardS_tabok F) Tryz.func12 (body_some rfl) (laws_markBoardS_lsok1 F) fun args mem hfit ret h => ?_
  clear hfit
  simp only [laws_markBoardS_ent] at h
  split at h
  · rename_i a1 k2 a3
    simp only [Option.some.injEq, Prod.mk.injEq] at h
    obtain ⟨hc, rfl⟩ := h
    exact ⟨[], [], 70, _, (laws_markBoardS_run F a1 k2 a3).trans ((laws_markBoardS_cp _ F a1 k2 a3 _).trans (bind_use hc _)), rfl, rfl, rfl⟩
  · cases h

/-! loop.example/g01194/laws.heldBoardS -/
noncomputable def laws_heldBoardS_tab (F : Nat) : Tab := []
theorem laws_heldBoardS_tabok (F : Nat) : TabOK Tryz.prog (laws_heldBoardS_tab F) := tab_nil
noncomputable def laws_heldBoardS_LS0 (F : Nat) : LT := []
theorem laws_heldBoardS_lsok0 (F : Nat) : LoopsOK Tryz.prog (laws_heldBoardS_LS0 F) (bodyOf Tryz.f13) := loopsOK_nil
theorem laws_heldBoardS_keys : keysOK (bodyOf Tryz.f13) = true := by kernel_rfl
def laws_heldBoardS_st2 (a0 : List (List Int)) (k1 : Int) (i2 : Int) : St := ⟨expand 13 0 [0, 1, 5] [(.rr 16 a0), (.int .i64 k1), (.int .i64 i2)], [], 0, []⟩
def laws_heldBoardS_o2 (a0 : List (List Int)) (k1 : Int) (x : Unit) : GT := (.out (.exit 0 ⟨expand 13 0 [1] [(.int .i64 k1)], [], 0, []⟩))
def laws_heldBoardS_ls2 (F : Nat) : LoopS := ⟨13, [0, 1, 5], [], [1], [], [4], [], [], fun vals mem np killed => match vals, mem, np, killed with
  | [(.rr 16 a0), (.int .i64 k1), (.int .i64 i2)], [], 0, [] => .br (laws_heldBoardS_l2 F a0 k1 i2).isSome (laws_heldBoardS_o2 a0 k1 ((laws_heldBoardS_l2 F a0 k1 i2).getD default)) .fail
  | _, _, _, _ => .fail⟩
theorem laws_heldBoardS_step2 (F : Nat) (a0 : List (List Int)) (k1 : Int) (i2 : Int) {R : Type} (k : Out → Option R) : stepS tt (laws_heldBoardS_tab F) (laws_heldBoardS_LS0 F) 70 (laws_heldBoardS_ls2 F) (loopAt 2 (bodyOf Tryz.f13)) (laws_heldBoardS_st2 a0 k1 i2) k = laws_heldBoardS_s2 F a0 k1 R i2 (fun s => k (.norm (laws_heldBoardS_st2 a0 k1 s))) (fun x => (laws_heldBoardS_o2 a0 k1 x).run k) := by kernel_rfl
theorem laws_heldBoardS_iter2 (F : Nat) (a0 : List (List Int)) (k1 : Int) {R : Type} (k : Out → Option R) : ∀ (n : Nat) (i2 : Int), iterS tt (laws_heldBoardS_tab F) (laws_heldBoardS_LS0 F) 70 (laws_heldBoardS_ls2 F) (loopAt 2 (bodyOf Tryz.f13)) n (laws_heldBoardS_st2 a0 k1 i2) k = loopC (laws_heldBoardS_s2 F a0 k1) n i2 (fun x => (laws_heldBoardS_o2 a0 k1 x).run k)
  | 0, i2 => rfl
  | n + 1, i2 => (iterS_succ tt (laws_heldBoardS_tab F) (laws_heldBoardS_LS0 F) 70 (laws_heldBoardS_ls2 F) (loopAt 2 (bodyOf Tryz.f13)) n (laws_heldBoardS_st2 a0 k1 i2) k).trans ((laws_heldBoardS_step2 F a0 k1 i2 (nextK (iterS tt (laws_heldBoardS_tab F) (laws_heldBoardS_LS0 F) 70 (laws_heldBoardS_ls2 F) (loopAt 2 (bodyOf Tryz.f13)) n) k)).trans (congrArg (fun kn => laws_heldBoardS_s2 F a0 k1 R i2 kn _) (funext (fun i2 => laws_heldBoardS_iter2 F a0 k1 k n i2))))
theorem laws_heldBoardS_lok2 (F : Nat) : LoopOK Tryz.prog (loopAt 2 (bodyOf Tryz.f13)) (laws_heldBoardS_ls2 F) := by
  refine loopOK_of mixed ttok deep (laws_heldBoardS_tabok F) (loopsOK_at (laws_heldBoardS_lsok0 F) 2) (fuel := 70) fun R vals mem np killed k x h => ?_
  simp only [laws_heldBoardS_ls2] at h
  split at h
  · rename_i a0 k1 i2
    simp only [GT.run] at h
    have hc := (cond_noneL h).1
    replace h := (cond_noneL h).2
    refine ⟨F, (laws_heldBoardS_iter2 F a0 k1 k F i2).trans ((loopC_use (laws_heldBoardS_s2_nat F a0 k1) hc _).trans h)⟩
  · simp only [GT.run] at h
    cases h
noncomputable def laws_heldBoardS_LS1 (F : Nat) : LT := (2, laws_heldBoardS_ls2 F) :: laws_heldBoardS_LS0 F
theorem laws_heldBoardS_lsok1 (F : Nat) : LoopsOK Tryz.prog (laws_heldBoardS_LS1 F) (bodyOf Tryz.f13) := loopsOK_cons laws_heldBoardS_keys (laws_heldBoardS_lok2 F) (laws_heldBoardS_lsok0 F)
theorem laws_heldBoardS_run (F : Nat) (a0 : List (List Int)) (k1 : Int) : runS tt (laws_heldBoardS_tab F) (laws_heldBoardS_LS1 F) [] [] Tryz.f13 (bodyOf Tryz.f13) 70 [(.rr 16 a0), (.int .i64 k1)] [] = laws_heldBoardS_c _ F a0 k1 (fun r => some ⟨(.int .i64 k1), [], []⟩) := by kernel_rfl
def laws_heldBoardS_ent (F : Nat) : Ent := ⟨[], .quiet, fun args mem => match args, mem with
  | [(.rr 16 a0), (.int .i64 k1)], [] => some ((laws_heldBoardS_p F a0 k1).isSome, ⟨(.int .i64 k1), [], []⟩)
  | _, _ => none⟩
theorem laws_heldBoardS_fok : FunOK Tryz.prog 13 := funOK Tryz.func13 (by kernel_rfl) rfl
theorem laws_heldBoardS_meets (F : Nat) : Meets Tryz.prog 13 (laws_heldBoardS_ent F) := by
  refine meets_of_runS mixed ttok deep (laws_heldBoardS_tabok F) Tryz.func13 (body_some rfl) (laws_heldBoardS_lsok1 F) fun args mem hfit ret h => ?_
  clear hfit
  simp only [laws_heldBoardS_ent] at h
  split at h
  · rename_i a0 k1
    simp only [Option.some.injEq, Prod.mk.injEq] at h
    obtain ⟨hc, rfl⟩ := h
    exact ⟨[], [], 70, _, (laws_heldBoardS_run F a0 k1).trans ((laws_heldBoardS_cp _ F a0 k1 _).trans (bind_use hc _)), rfl, rfl, rfl⟩
  · cases h

/-! loop.example/g01194/laws.FnExactBoardsBefore -/
noncomputable def laws_FnExactBoardsBefore_tab (F : Nat) : Tab := [(6, (laws_toBoard_ent F)), (9, (spec_BoardsBefore_ent F)), (10, (impl_BoardsBefore_ent F)), (11, (laws_eqBoardS_ent F)), (12, (laws_markBoardS_ent F)), (13, (laws_heldBoardS_ent F))]
theorem laws_FnExactBoardsBefore_tabok (F : Nat) : TabOK Tryz.prog (laws_FnExactBoardsBefore_tab F) := (tab_cons (laws_toBoard_meets F) laws_toBoard_fok (tab_cons (spec_BoardsBefore_meets F) spec_BoardsBefore_fok (tab_cons (impl_BoardsBefore_meets F) impl_BoardsBefore_fok (tab_cons (laws_eqBoardS_meets F) laws_eqBoardS_fok (tab_cons (laws_markBoardS_meets F) laws_markBoardS_fok (tab_cons (laws_heldBoardS_meets F) laws_heldBoardS_fok tab_nil))))))
noncomputable def laws_FnExactBoardsBefore_LS0 (F : Nat) : LT := []
theorem laws_FnExactBoardsBefore_lsok0 (F : Nat) : LoopsOK Tryz.prog (laws_FnExactBoardsBefore_LS0 F) (bodyOf Tryz.f4) := loopsOK_nil
theorem laws_FnExactBoardsBefore_run (F : Nat) (aB0 : List Int) (aDirection1 : Int) : runS tt (laws_FnExactBoardsBefore_tab F) (laws_FnExactBoardsBefore_LS0 F) [] [] Tryz.f4 (bodyOf Tryz.f4) 70 [(.ints 16 aB0), (.int .i64 aDirection1)] [] = laws_FnExactBoardsBefore_c _ F aB0 aDirection1 (fun r => some ⟨(.bool r), [], []⟩) := by kernel_rfl
def laws_FnExactBoardsBefore_ent (F : Nat) : Ent := ⟨[], .quiet, fun args mem => match args, mem with
  | [(.ints 16 aB0), (.int .i64 aDirection1)], [] => some ((laws_FnExactBoardsBefore_p F aB0 aDirection1).isSome, ⟨(.bool ((laws_FnExactBoardsBefore_p F aB0 aDirection1).getD default)), [], []⟩)
  | _, _ => none⟩
theorem laws_FnExactBoardsBefore_fok : FunOK Tryz.prog 4 := funOK Tryz.func4 (by kernel_rfl) rfl
theorem laws_FnExactBoardsBefore_meets (F : Nat) : Meets Tryz.prog 4 (laws_FnExactBoardsBefore_ent F) := by
  refine meets_of_runS mixed ttok deep (laws_FnExactBoardsBefore_tabok F) Tryz.func4 (body_some rfl) (laws_FnExactBoardsBefore_lsok0 F) fun args mem hfit ret h => ?_
  clear hfit
  simp only [laws_FnExactBoardsBefore_ent] at h
  split at h
  · rename_i aB0 aDirection1
    simp only [Option.some.injEq, Prod.mk.injEq] at h
    obtain ⟨hc, rfl⟩ := h
    exact ⟨[], [], 70, _, (laws_FnExactBoardsBefore_run F aB0 aDirection1).trans ((laws_FnExactBoardsBefore_cp _ F aB0 aDirection1 _).trans (bind_use hc _)), rfl, rfl, rfl⟩
  · cases h
end Go.Proofs.YtgmnclpjbhmioaaGreat
