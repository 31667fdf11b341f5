/-
Pure functions and what the code of them does, by program; without conditions.
-/
import Derived.Test.YtgdokdkcbgkekafGfP6
import Derived.Test.YtgdokdkcbgkekafGfS5
namespace Go.Proofs.Ytgdokdkcbgkekaf
open Go Go.Lv Go.Lv.P Go.Proofs
set_option linter.unusedVariables false
set_option linter.unusedSimpArgs false
set_option maxRecDepth 100000
/-! loop.example/g01194/laws.rInts -/
noncomputable def laws_rInts_tab (F : Nat) : Tab := []
theorem laws_rInts_tabok (F : Nat) : TabOK Try.prog (laws_rInts_tab F) := tab_nil
noncomputable def laws_rInts_LS0 (F : Nat) : LT := []
theorem laws_rInts_lsok0 (F : Nat) : LoopsOK Try.prog (laws_rInts_LS0 F) (bodyOf Try.f12) := loopsOK_nil
theorem laws_rInts_keys : keysOK (bodyOf Try.f12) = true := by kernel_rfl
def laws_rInts_st4 (a0 : List Int) (b1 : List Int) (i2 : Int) : St := ⟨expand 26 0 [0, 1, 5] [(.ri .i64 a0), (.ri .i64 b1), (.int .i64 i2)], [], 0, []⟩
def laws_rInts_o4 (a0 : List Int) (b1 : List Int) (x : Bool) : GT := (.br x (.out (.ret ⟨expand 26 0 [4] [(.bool false)], [], 0, []⟩)) (.out (.exit 0 ⟨expand 26 0 [] [], [], 0, []⟩)))
def laws_rInts_ls4 (F : Nat) : LoopS := ⟨26, [0, 1, 5], [], [], [], [4], [], [], fun vals mem np killed => match vals, mem, np, killed with
  | [(.ri .i64 a0), (.ri .i64 b1), (.int .i64 i2)], [], 0, [] => .br (laws_rInts_l4 F a0 b1 i2).isSome (laws_rInts_o4 a0 b1 ((laws_rInts_l4 F a0 b1 i2).getD default)) .fail
  | _, _, _, _ => .fail⟩
theorem laws_rInts_step4 (F : Nat) (a0 : List Int) (b1 : List Int) (i2 : Int) {R : Type} (k : Out → Option R) : stepS tt (laws_rInts_tab F) (laws_rInts_LS0 F) 70 (laws_rInts_ls4 F) (loopAt 4 (bodyOf Try.f12)) (laws_rInts_st4 a0 b1 i2) k = laws_rInts_s4 F a0 b1 R i2 (fun s => k (.norm (laws_rInts_st4 a0 b1 s))) (fun x => (laws_rInts_o4 a0 b1 x).run k) := by kernel_rfl
theorem laws_rInts_iter4 (F : Nat) (a0 : List Int) (b1 : List Int) {R : Type} (k : Out → Option R) : ∀ (n : Nat) (i2 : Int), iterS tt (laws_rInts_tab F) (laws_rInts_LS0 F) 70 (laws_rInts_ls4 F) (loopAt 4 (bodyOf Try.f12)) n (laws_rInts_st4 a0 b1 i2) k = loopC (laws_rInts_s4 F a0 b1) n i2 (fun x => (laws_rInts_o4 a0 b1 x).run k)
  | 0, i2 => rfl
  | n + 1, i2 => (iterS_succ tt (laws_rInts_tab F) (laws_rInts_LS0 F) 70 (laws_rInts_ls4 F) (loopAt 4 (bodyOf Try.f12)) n (laws_rInts_st4 a0 b1 i2) k).trans ((laws_rInts_step4 F a0 b1 i2 (nextK (iterS tt (laws_rInts_tab F) (laws_rInts_LS0 F) 70 (laws_rInts_ls4 F) (loopAt 4 (bodyOf Try.f12)) n) k)).trans (congrArg (fun kn => laws_rInts_s4 F a0 b1 R i2 kn _) (funext (fun i2 => laws_rInts_iter4 F a0 b1 k n i2))))
theorem laws_rInts_lok4 (F : Nat) : LoopOK Try.prog (loopAt 4 (bodyOf Try.f12)) (laws_rInts_ls4 F) := by
  refine loopOK_of mixed ttok deep (laws_rInts_tabok F) (loopsOK_at (laws_rInts_lsok0 F) 4) (fuel := 70) fun R vals mem np killed k x h => ?_
  simp only [laws_rInts_ls4] at h
  split at h
  · rename_i a0 b1 i2
    simp only [GT.run] at h
    have hc := (cond_noneL h).1
    replace h := (cond_noneL h).2
    refine ⟨F, (laws_rInts_iter4 F a0 b1 k F i2).trans ((loopC_use (laws_rInts_s4_nat F a0 b1) hc _).trans h)⟩
  · simp only [GT.run] at h
    cases h
noncomputable def laws_rInts_LS1 (F : Nat) : LT := (4, laws_rInts_ls4 F) :: laws_rInts_LS0 F
theorem laws_rInts_lsok1 (F : Nat) : LoopsOK Try.prog (laws_rInts_LS1 F) (bodyOf Try.f12) := loopsOK_cons laws_rInts_keys (laws_rInts_lok4 F) (laws_rInts_lsok0 F)
theorem laws_rInts_run (F : Nat) (a0 : List Int) (b1 : List Int) : runS tt (laws_rInts_tab F) (laws_rInts_LS1 F) [] [] Try.f12 (bodyOf Try.f12) 70 [(.ri .i64 a0), (.ri .i64 b1)] [] = laws_rInts_c _ F a0 b1 (fun r => some ⟨(.bool r), [], []⟩) := by kernel_rfl
def laws_rInts_ent (F : Nat) : Ent := ⟨[], .quiet, fun args mem => match args, mem with
  | [(.ri .i64 a0), (.ri .i64 b1)], [] => some ((laws_rInts_p F a0 b1).isSome, ⟨(.bool ((laws_rInts_p F a0 b1).getD default)), [], []⟩)
  | _, _ => none⟩
theorem laws_rInts_fok : FunOK Try.prog 12 := funOK Try.func12 (by kernel_rfl) rfl
theorem laws_rInts_meets (F : Nat) : Meets Try.prog 12 (laws_rInts_ent F) := by
  refine meets_of_runS mixed ttok deep (laws_rInts_tabok F) Try.func12 (body_some rfl) (laws_rInts_lsok1 F) fun args mem hfit ret h => ?_
  clear hfit
  simp only [laws_rInts_ent] at h
  split at h
  · rename_i a0 b1
    simp only [Option.some.injEq, Prod.mk.injEq] at h
    obtain ⟨hc, rfl⟩ := h
    exact ⟨[], [], 70, _, (laws_rInts_run F a0 b1).trans ((laws_rInts_cp _ F a0 b1 _).trans (bind_use hc _)), rfl, rfl, rfl⟩
  · cases h

/-! (*loop.example/g01194/spec.l1Cur).side -/
noncomputable def spec_l1Cur_side_tab (F : Nat) : Tab := [(61, (spec_l1Cur_one_ent F)), (25, (spec_l1Cur_among_ent F)), (60, (spec_l1Cur_pick_ent F))]
theorem spec_l1Cur_side_tabok (F : Nat) : TabOK Try.prog (spec_l1Cur_side_tab F) := (tab_cons (spec_l1Cur_one_meets F) spec_l1Cur_one_fok (tab_cons (spec_l1Cur_among_meets F) spec_l1Cur_among_fok (tab_cons (spec_l1Cur_pick_meets F) spec_l1Cur_pick_fok tab_nil)))
noncomputable def spec_l1Cur_side_LS0 (F : Nat) : LT := []
theorem spec_l1Cur_side_lsok0 (F : Nat) : LoopsOK Try.prog (spec_l1Cur_side_LS0 F) (bodyOf Try.f38) := loopsOK_nil
theorem spec_l1Cur_side_run (F : Nat) (c3 : List Int) (c4 : Int) (c5 : Int) : runS tt (spec_l1Cur_side_tab F) (spec_l1Cur_side_LS0 F) [] [] Try.f38 (bodyOf Try.f38) 70 [(.ptr 0 0 0 3)] [(.var 3 (.rv [(.ri .u8 c3), (.int .i64 c4), (.int .u64 c5)]))] = spec_l1Cur_side_c _ c3 c4 c5 (fun r => some ⟨(.int .i64 r.1), [(.var 3 (.rv [(.ri .u8 c3), (.int .i64 r.2.1), (.int .u64 r.2.2)]))], []⟩) := by kernel_rfl
def spec_l1Cur_side_ent (F : Nat) : Ent := ⟨[], .loud, fun args mem => match args, mem with
  | [(.ptr 0 0 0 3)], [(.var 3 (.rv [(.ri .u8 c3), (.int .i64 c4), (.int .u64 c5)]))] => some ((spec_l1Cur_side_p c3 c4 c5).isSome, ⟨(.int .i64 ((spec_l1Cur_side_p c3 c4 c5).getD default).1), [(.var 3 (.rv [(.ri .u8 c3), (.int .i64 ((spec_l1Cur_side_p c3 c4 c5).getD default).2.1), (.int .u64 ((spec_l1Cur_side_p c3 c4 c5).getD default).2.2)]))], []⟩)
  | _, _ => none⟩
theorem spec_l1Cur_side_fok : FunOK Try.prog 38 := funOK Try.func38 (by kernel_rfl) rfl
theorem spec_l1Cur_side_meets (F : Nat) : Meets Try.prog 38 (spec_l1Cur_side_ent F) := by
  refine meets_of_runS mixed ttok deep (spec_l1Cur_side_tabok F) Try.func38 (body_some rfl) (spec_l1Cur_side_lsok0 F) fun args mem hfit ret h => ?_
  clear hfit
  simp only [spec_l1Cur_side_ent] at h
  split at h
  · rename_i c3 c4 c5
    simp only [Option.some.injEq, Prod.mk.injEq] at h
    obtain ⟨hc, rfl⟩ := h
    exact ⟨[], [], 70, _, (spec_l1Cur_side_run F c3 c4 c5).trans ((spec_l1Cur_side_cp _ c3 c4 c5 _).trans (bind_use hc _)), rfl, rfl, rfl⟩
  · cases h

/-! loop.example/g01194/spec.DrawRefuteMove -/
noncomputable def spec_DrawRefuteMove_tab (F : Nat) : Tab := [(5, (spec_DrawLasts_ent F)), (38, (spec_l1Cur_side_ent F))]
theorem spec_DrawRefuteMove_tabok (F : Nat) : TabOK Try.prog (spec_DrawRefuteMove_tab F) := (tab_cons (spec_DrawLasts_meets F) spec_DrawLasts_fok (tab_cons (spec_l1Cur_side_meets F) spec_l1Cur_side_fok tab_nil))
noncomputable def spec_DrawRefuteMove_LS0 (F : Nat) : LT := []
theorem spec_DrawRefuteMove_lsok0 (F : Nat) : LoopsOK Try.prog (spec_DrawRefuteMove_LS0 F) (bodyOf Try.f13) := loopsOK_nil
theorem spec_DrawRefuteMove_run (F : Nat) (code0 : List Int) : runS tt (spec_DrawRefuteMove_tab F) (spec_DrawRefuteMove_LS0 F) [] [] Try.f13 (bodyOf Try.f13) 70 [(.ri .u8 code0)] [] = spec_DrawRefuteMove_c _ F code0 (fun r => some ⟨(.tup [(.ints 16 r.1), (.int .i64 r.2.1), (.int .i64 r.2.2)]), [], []⟩) := by kernel_rfl
def spec_DrawRefuteMove_ent (F : Nat) : Ent := ⟨[], .quiet, fun args mem => match args, mem with
  | [(.ri .u8 code0)], [] => some ((spec_DrawRefuteMove_p F code0).isSome, ⟨(.tup [(.ints 16 ((spec_DrawRefuteMove_p F code0).getD default).1), (.int .i64 ((spec_DrawRefuteMove_p F code0).getD default).2.1), (.int .i64 ((spec_DrawRefuteMove_p F code0).getD default).2.2)]), [], []⟩)
  | _, _ => none⟩
theorem spec_DrawRefuteMove_fok : FunOK Try.prog 13 := funOK Try.func13 (by kernel_rfl) rfl
theorem spec_DrawRefuteMove_meets (F : Nat) : Meets Try.prog 13 (spec_DrawRefuteMove_ent F) := by
  refine meets_of_runS mixed ttok deep (spec_DrawRefuteMove_tabok F) Try.func13 (body_some rfl) (spec_DrawRefuteMove_lsok0 F) fun args mem hfit ret h => ?_
  clear hfit
  simp only [spec_DrawRefuteMove_ent] at h
  split at h
  · rename_i code0
    simp only [Option.some.injEq, Prod.mk.injEq] at h
    obtain ⟨hc, rfl⟩ := h
    exact ⟨[], [], 70, _, (spec_DrawRefuteMove_run F code0).trans ((spec_DrawRefuteMove_cp _ F code0 _).trans (bind_use hc _)), rfl, rfl, rfl⟩
  · cases h

/-! loop.example/g01194/impl.isDirection -/
noncomputable def impl_isDirection_tab (F : Nat) : Tab := [(28, (impl_in_ent F))]
theorem impl_isDirection_tabok (F : Nat) : TabOK Try.prog (impl_isDirection_tab F) := (tab_cons (impl_in_meets F) impl_in_fok tab_nil)
noncomputable def impl_isDirection_LS0 (F : Nat) : LT := []
theorem impl_isDirection_lsok0 (F : Nat) : LoopsOK Try.prog (impl_isDirection_LS0 F) (bodyOf Try.f58) := loopsOK_nil
theorem impl_isDirection_run (F : Nat) (d0 : Int) : runS tt (impl_isDirection_tab F) (impl_isDirection_LS0 F) [] [] Try.f58 (bodyOf Try.f58) 70 [(.int .i64 d0)] [] = impl_isDirection_c _ d0 (fun r => some ⟨(.bool r), [], []⟩) := by kernel_rfl
def impl_isDirection_ent (F : Nat) : Ent := ⟨[], .quiet, fun args mem => match args, mem with
  | [(.int .i64 d0)], [] => some (true, ⟨(.bool (impl_isDirection_v d0)), [], []⟩)
  | _, _ => none⟩
theorem impl_isDirection_fok : FunOK Try.prog 58 := funOK Try.func58 (by kernel_rfl) rfl
theorem impl_isDirection_meets (F : Nat) : Meets Try.prog 58 (impl_isDirection_ent F) := by
  refine meets_of_runS mixed ttok deep (impl_isDirection_tabok F) Try.func58 (body_some rfl) (impl_isDirection_lsok0 F) fun args mem hfit ret h => ?_
  clear hfit
  simp only [impl_isDirection_ent] at h
  split at h
  · rename_i d0
    simp only [Option.some.injEq, Prod.mk.injEq] at h
    obtain ⟨hc, rfl⟩ := h
    exact ⟨[], [], 70, _, (impl_isDirection_run F d0).trans (impl_isDirection_cv _ d0 _), rfl, rfl, rfl⟩
  · cases h

/-! (loop.example/g01194/impl.Board).isMove -/
noncomputable def impl_Board_isMove_tab (F : Nat) : Tab := [(27, (impl_IsBoard_ent F)), (58, (impl_isDirection_ent F)), (40, (impl_Board_slides_ent F))]
theorem impl_Board_isMove_tabok (F : Nat) : TabOK Try.prog (impl_Board_isMove_tab F) := (tab_cons (impl_IsBoard_meets F) impl_IsBoard_fok (tab_cons (impl_isDirection_meets F) impl_isDirection_fok (tab_cons (impl_Board_slides_meets F) impl_Board_slides_fok tab_nil)))
noncomputable def impl_Board_isMove_LS0 (F : Nat) : LT := []
theorem impl_Board_isMove_lsok0 (F : Nat) : LoopsOK Try.prog (impl_Board_isMove_LS0 F) (bodyOf Try.f39) := loopsOK_nil
theorem impl_Board_isMove_run (F : Nat) (b0 : List Int) (direction1 : Int) : runS tt (impl_Board_isMove_tab F) (impl_Board_isMove_LS0 F) [] [] Try.f39 (bodyOf Try.f39) 70 [(.ints 16 b0), (.int .i64 direction1)] [] = impl_Board_isMove_c _ F b0 direction1 (fun r => some ⟨(.bool r), [], []⟩) := by kernel_rfl
def impl_Board_isMove_ent (F : Nat) : Ent := ⟨[], .quiet, fun args mem => match args, mem with
  | [(.ints 16 b0), (.int .i64 direction1)], [] => some ((impl_Board_isMove_p F b0 direction1).isSome, ⟨(.bool ((impl_Board_isMove_p F b0 direction1).getD default)), [], []⟩)
  | _, _ => none⟩
theorem impl_Board_isMove_fok : FunOK Try.prog 39 := funOK Try.func39 (by kernel_rfl) rfl
theorem impl_Board_isMove_meets (F : Nat) : Meets Try.prog 39 (impl_Board_isMove_ent F) := by
  refine meets_of_runS mixed ttok deep (impl_Board_isMove_tabok F) Try.func39 (body_some rfl) (impl_Board_isMove_lsok0 F) fun args mem hfit ret h => ?_
  clear hfit
  simp only [impl_Board_isMove_ent] at h
  split at h
  · rename_i b0 direction1
    simp only [Option.some.injEq, Prod.mk.injEq] at h
    obtain ⟨hc, rfl⟩ := h
    exact ⟨[], [], 70, _, (impl_Board_isMove_run F b0 direction1).trans ((impl_Board_isMove_cp _ F b0 direction1 _).trans (bind_use hc _)), rfl, rfl, rfl⟩
  · cases h

/-! (loop.example/g01194/impl.Board).refuted -/
def impl_Board_refuted_ent (F : Nat) : Ent := ⟨[], .quiet, fun args mem => match args, mem with
  | [(.ints 16 b0), (.int .i64 n1)], [] => some ((impl_Board_refuted_p F b0 n1).isSome, ⟨(.tup [(.ints 3 ((impl_Board_refuted_p F b0 n1).getD default).1), (.bool ((impl_Board_refuted_p F b0 n1).getD default).2)]), [], []⟩)
  | _, _ => none⟩
theorem impl_Board_refuted_fok : FunOK Try.prog 41 := funOK Try.func41 (by kernel_rfl) rfl
theorem impl_Board_refuted_meets (F : Nat) : Meets Try.prog 41 (impl_Board_refuted_ent F) := by
  intro fr w ρ mem args reals hw ha ret hg
  simp only [impl_Board_refuted_ent] at hg
  split at hg
  · rename_i b0 n1
    simp only [Option.some.injEq, Prod.mk.injEq] at hg
    obtain ⟨hc, rfl⟩ := hg
    by_cases hn0 : (n1 == (0 : Int)) = true
    · obtain rfl := beq_int hn0
      have e : impl_Board_refuted_p F b0 (0 : Int) = (bif (Option.isSome (impl_Board_refuted_n0_p F b0)) then some ([(0 : Int), (0 : Int), (0 : Int)], false) else none) := by kernel_rfl
      have hg' : (impl_Board_refuted_n0_ent F).g [(.ints 16 b0), (.int .i64 (0 : Int))] [] = some ((Option.isSome (impl_Board_refuted_n0_p F b0)), ⟨(.tup [(.ints 3 [(0 : Int), (0 : Int), (0 : Int)]), (.bool false)]), [], []⟩) := by kernel_rfl
      rw [e] at hc
      have hC := isSome_cond hc
      rw [hC] at hg'
      have h9 := impl_Board_refuted_n0_meets F fr w ρ _ _ reals hw ha _ hg'
      simp only [e, hC, cond_true, Option.getD_some]
      exact h9
    · replace hn0 : (n1 == (0 : Int)) = false := by simpa using hn0
      by_cases hn1 : (n1 == (1 : Int)) = true
      · obtain rfl := beq_int hn1
        have e : impl_Board_refuted_p F b0 (1 : Int) = (bif (Option.isSome (impl_Board_refuted_n1_p F b0)) then some ((Option.getD (impl_Board_refuted_n1_p F b0) default).1, (Option.getD (impl_Board_refuted_n1_p F b0) default).2) else none) := by kernel_rfl
        have hg' : (impl_Board_refuted_n1_ent F).g [(.ints 16 b0), (.int .i64 (1 : Int))] [] = some ((Option.isSome (impl_Board_refuted_n1_p F b0)), ⟨(.tup [(.ints 3 (Option.getD (impl_Board_refuted_n1_p F b0) default).1), (.bool (Option.getD (impl_Board_refuted_n1_p F b0) default).2)]), [], []⟩) := by kernel_rfl
        rw [e] at hc
        have hC := isSome_cond hc
        rw [hC] at hg'
        have h9 := impl_Board_refuted_n1_meets F fr w ρ _ _ reals hw ha _ hg'
        simp only [e, hC, cond_true, Option.getD_some]
        exact h9
      · replace hn1 : (n1 == (1 : Int)) = false := by simpa using hn1
        by_cases hn2 : (n1 == (2 : Int)) = true
        · obtain rfl := beq_int hn2
          have e : impl_Board_refuted_p F b0 (2 : Int) = (bif (Option.isSome (impl_Board_refuted_n2_p F b0)) then some ((Option.getD (impl_Board_refuted_n2_p F b0) default).1, (Option.getD (impl_Board_refuted_n2_p F b0) default).2) else none) := by kernel_rfl
          have hg' : (impl_Board_refuted_n2_ent F).g [(.ints 16 b0), (.int .i64 (2 : Int))] [] = some ((Option.isSome (impl_Board_refuted_n2_p F b0)), ⟨(.tup [(.ints 3 (Option.getD (impl_Board_refuted_n2_p F b0) default).1), (.bool (Option.getD (impl_Board_refuted_n2_p F b0) default).2)]), [], []⟩) := by kernel_rfl
          rw [e] at hc
          have hC := isSome_cond hc
          rw [hC] at hg'
          have h9 := impl_Board_refuted_n2_meets F fr w ρ _ _ reals hw ha _ hg'
          simp only [e, hC, cond_true, Option.getD_some]
          exact h9
        · replace hn2 : (n1 == (2 : Int)) = false := by simpa using hn2
          exfalso
          have e : impl_Board_refuted_p F b0 n1 = none := by simp only [impl_Board_refuted_p, impl_Board_refuted_c, hn0, hn1, hn2, cond_false]
          rw [e] at hc
          cases hc
  · cases hg

/-! loop.example/g01194/impl.RefuteMove -/
noncomputable def impl_RefuteMove_tab (F : Nat) : Tab := [(39, (impl_Board_isMove_ent F)), (28, (impl_in_ent F)), (40, (impl_Board_slides_ent F)), (41, (impl_Board_refuted_ent F))]
theorem impl_RefuteMove_tabok (F : Nat) : TabOK Try.prog (impl_RefuteMove_tab F) := (tab_cons (impl_Board_isMove_meets F) impl_Board_isMove_fok (tab_cons (impl_in_meets F) impl_in_fok (tab_cons (impl_Board_slides_meets F) impl_Board_slides_fok (tab_cons (impl_Board_refuted_meets F) impl_Board_refuted_fok tab_nil))))
noncomputable def impl_RefuteMove_LS0 (F : Nat) : LT := []
theorem impl_RefuteMove_lsok0 (F : Nat) : LoopsOK Try.prog (impl_RefuteMove_LS0 F) (bodyOf Try.f14) := loopsOK_nil
theorem impl_RefuteMove_run (F : Nat) (b0 : List Int) (direction1 : Int) (n2 : Int) : runS tt (impl_RefuteMove_tab F) (impl_RefuteMove_LS0 F) [] [] Try.f14 (bodyOf Try.f14) 70 [(.ints 16 b0), (.int .i64 direction1), (.int .i64 n2)] [] = impl_RefuteMove_c _ F b0 direction1 n2 (fun r => some ⟨(.tup [(.ints 3 r.1), (.bool r.2)]), [], []⟩) := by kernel_rfl
def impl_RefuteMove_ent (F : Nat) : Ent := ⟨[], .quiet, fun args mem => match args, mem with
  | [(.ints 16 b0), (.int .i64 direction1), (.int .i64 n2)], [] => some ((impl_RefuteMove_p F b0 direction1 n2).isSome, ⟨(.tup [(.ints 3 ((impl_RefuteMove_p F b0 direction1 n2).getD default).1), (.bool ((impl_RefuteMove_p F b0 direction1 n2).getD default).2)]), [], []⟩)
  | _, _ => none⟩
theorem impl_RefuteMove_fok : FunOK Try.prog 14 := funOK Try.func14 (by kernel_rfl) rfl
theorem impl_RefuteMove_meets (F : Nat) : Meets Try.prog 14 (impl_RefuteMove_ent F) := by
  refine meets_of_runS mixed ttok deep (impl_RefuteMove_tabok F) Try.func14 (body_some rfl) (impl_RefuteMove_lsok0 F) fun args mem hfit ret h => ?_
  clear hfit
  simp only [impl_RefuteMove_ent] at h
  split at h
  · rename_i b0 direction1 n2
    simp only [Option.some.injEq, Prod.mk.injEq] at h
    obtain ⟨hc, rfl⟩ := h
    exact ⟨[], [], 70, _, (impl_RefuteMove_run F b0 direction1 n2).trans ((impl_RefuteMove_cp _ F b0 direction1 n2 _).trans (bind_use hc _)), rfl, rfl, rfl⟩
  · cases h

/-! loop.example/g01194/spec.l2Side -/
noncomputable def spec_l2Side_tab (F : Nat) : Tab := [(31, (spec_l1In_ent F))]
theorem spec_l2Side_tabok (F : Nat) : TabOK Try.prog (spec_l2Side_tab F) := (tab_cons (spec_l1In_meets F) spec_l1In_fok tab_nil)
noncomputable def spec_l2Side_LS0 (F : Nat) : LT := []
theorem spec_l2Side_lsok0 (F : Nat) : LoopsOK Try.prog (spec_l2Side_LS0 F) (bodyOf Try.f42) := loopsOK_nil
theorem spec_l2Side_run (F : Nat) (d0 : Int) : runS tt (spec_l2Side_tab F) (spec_l2Side_LS0 F) [] [] Try.f42 (bodyOf Try.f42) 70 [(.int .i64 d0)] [] = spec_l2Side_c _ d0 (fun r => some ⟨(.bool r), [], []⟩) := by kernel_rfl
def spec_l2Side_ent (F : Nat) : Ent := ⟨[], .quiet, fun args mem => match args, mem with
  | [(.int .i64 d0)], [] => some (true, ⟨(.bool (spec_l2Side_v d0)), [], []⟩)
  | _, _ => none⟩
theorem spec_l2Side_fok : FunOK Try.prog 42 := funOK Try.func42 (by kernel_rfl) rfl
theorem spec_l2Side_meets (F : Nat) : Meets Try.prog 42 (spec_l2Side_ent F) := by
  refine meets_of_runS mixed ttok deep (spec_l2Side_tabok F) Try.func42 (body_some rfl) (spec_l2Side_lsok0 F) fun args mem hfit ret h => ?_
  clear hfit
  simp only [spec_l2Side_ent] at h
  split at h
  · rename_i d0
    simp only [Option.some.injEq, Prod.mk.injEq] at h
    obtain ⟨hc, rfl⟩ := h
    exact ⟨[], [], 70, _, (spec_l2Side_run F d0).trans (spec_l2Side_cv _ d0 _), rfl, rfl, rfl⟩
  · cases h

/-! loop.example/g01194/spec.l8Refuted -/
def spec_l8Refuted_ent (F : Nat) : Ent := ⟨[], .quiet, fun args mem => match args, mem with
  | [(.ints 16 next0), (.int .i64 n1)], [] => some ((spec_l8Refuted_p F next0 n1).isSome, ⟨(.tup [(.ints 3 ((spec_l8Refuted_p F next0 n1).getD default).1), (.bool ((spec_l8Refuted_p F next0 n1).getD default).2)]), [], []⟩)
  | _, _ => none⟩
theorem spec_l8Refuted_fok : FunOK Try.prog 44 := funOK Try.func44 (by kernel_rfl) rfl
theorem spec_l8Refuted_meets (F : Nat) : Meets Try.prog 44 (spec_l8Refuted_ent F) := by
  intro fr w ρ mem args reals hw ha ret hg
  simp only [spec_l8Refuted_ent] at hg
  split at hg
  · rename_i next0 n1
    simp only [Option.some.injEq, Prod.mk.injEq] at hg
    obtain ⟨hc, rfl⟩ := hg
    by_cases hn0 : (n1 == (1 : Int)) = true
    · obtain rfl := beq_int hn0
      have e : spec_l8Refuted_p F next0 (1 : Int) = some ([(0 : Int), (0 : Int), (0 : Int)], false) := by kernel_rfl
      have hg' : (spec_l8Refuted_n1_ent F).g [(.ints 16 next0), (.int .i64 (1 : Int))] [] = some (true, ⟨(.tup [(.ints 3 [(0 : Int), (0 : Int), (0 : Int)]), (.bool false)]), [], []⟩) := by kernel_rfl
      have h9 := spec_l8Refuted_n1_meets F fr w ρ _ _ reals hw ha _ hg'
      simp only [e, cond_true, Option.getD_some]
      exact h9
    · replace hn0 : (n1 == (1 : Int)) = false := by simpa using hn0
      by_cases hn1 : (n1 == (2 : Int)) = true
      · obtain rfl := beq_int hn1
        have e : spec_l8Refuted_p F next0 (2 : Int) = (bif (Option.isSome (spec_l8Refuted_n2_p F next0)) then some ((Option.getD (spec_l8Refuted_n2_p F next0) default).1, (Option.getD (spec_l8Refuted_n2_p F next0) default).2) else none) := by kernel_rfl
        have hg' : (spec_l8Refuted_n2_ent F).g [(.ints 16 next0), (.int .i64 (2 : Int))] [] = some ((Option.isSome (spec_l8Refuted_n2_p F next0)), ⟨(.tup [(.ints 3 (Option.getD (spec_l8Refuted_n2_p F next0) default).1), (.bool (Option.getD (spec_l8Refuted_n2_p F next0) default).2)]), [], []⟩) := by kernel_rfl
        rw [e] at hc
        have hC := isSome_cond hc
        rw [hC] at hg'
        have h9 := spec_l8Refuted_n2_meets F fr w ρ _ _ reals hw ha _ hg'
        simp only [e, hC, cond_true, Option.getD_some]
        exact h9
      · replace hn1 : (n1 == (2 : Int)) = false := by simpa using hn1
        by_cases hn2 : (n1 == (3 : Int)) = true
        · obtain rfl := beq_int hn2
          have e : spec_l8Refuted_p F next0 (3 : Int) = (bif (Option.isSome (spec_l8Refuted_n3_p F next0)) then some ((Option.getD (spec_l8Refuted_n3_p F next0) default).1, (Option.getD (spec_l8Refuted_n3_p F next0) default).2) else none) := by kernel_rfl
          have hg' : (spec_l8Refuted_n3_ent F).g [(.ints 16 next0), (.int .i64 (3 : Int))] [] = some ((Option.isSome (spec_l8Refuted_n3_p F next0)), ⟨(.tup [(.ints 3 (Option.getD (spec_l8Refuted_n3_p F next0) default).1), (.bool (Option.getD (spec_l8Refuted_n3_p F next0) default).2)]), [], []⟩) := by kernel_rfl
          rw [e] at hc
          have hC := isSome_cond hc
          rw [hC] at hg'
          have h9 := spec_l8Refuted_n3_meets F fr w ρ _ _ reals hw ha _ hg'
          simp only [e, hC, cond_true, Option.getD_some]
          exact h9
        · replace hn2 : (n1 == (3 : Int)) = false := by simpa using hn2
          exfalso
          have e : spec_l8Refuted_p F next0 n1 = none := by simp only [spec_l8Refuted_p, spec_l8Refuted_c, hn0, hn1, hn2, cond_false]
          rw [e] at hc
          cases hc
  · cases hg

/-! loop.example/g01194/spec.RefuteMove -/
noncomputable def spec_RefuteMove_tab (F : Nat) : Tab := [(30, (spec_l2Board_ent F)), (42, (spec_l2Side_ent F)), (31, (spec_l1In_ent F)), (43, (spec_l2Slide_ent F)), (44, (spec_l8Refuted_ent F))]
theorem spec_RefuteMove_tabok (F : Nat) : TabOK Try.prog (spec_RefuteMove_tab F) := (tab_cons (spec_l2Board_meets F) spec_l2Board_fok (tab_cons (spec_l2Side_meets F) spec_l2Side_fok (tab_cons (spec_l1In_meets F) spec_l1In_fok (tab_cons (spec_l2Slide_meets F) spec_l2Slide_fok (tab_cons (spec_l8Refuted_meets F) spec_l8Refuted_fok tab_nil)))))
noncomputable def spec_RefuteMove_LS0 (F : Nat) : LT := []
theorem spec_RefuteMove_lsok0 (F : Nat) : LoopsOK Try.prog (spec_RefuteMove_LS0 F) (bodyOf Try.f15) := loopsOK_nil
theorem spec_RefuteMove_run (F : Nat) (b0 : List Int) (direction1 : Int) (n2 : Int) : runS tt (spec_RefuteMove_tab F) (spec_RefuteMove_LS0 F) [] [] Try.f15 (bodyOf Try.f15) 70 [(.ints 16 b0), (.int .i64 direction1), (.int .i64 n2)] [] = spec_RefuteMove_c _ F b0 direction1 n2 (fun r => some ⟨(.tup [(.ints 3 r.1), (.bool r.2)]), [], []⟩) := by kernel_rfl
def spec_RefuteMove_ent (F : Nat) : Ent := ⟨[], .quiet, fun args mem => match args, mem with
  | [(.ints 16 b0), (.int .i64 direction1), (.int .i64 n2)], [] => some ((spec_RefuteMove_p F b0 direction1 n2).isSome, ⟨(.tup [(.ints 3 ((spec_RefuteMove_p F b0 direction1 n2).getD default).1), (.bool ((spec_RefuteMove_p F b0 direction1 n2).getD default).2)]), [], []⟩)
  | _, _ => none⟩
theorem spec_RefuteMove_fok : FunOK Try.prog 15 := funOK Try.func15 (by kernel_rfl) rfl
theorem spec_RefuteMove_meets (F : Nat) : Meets Try.prog 15 (spec_RefuteMove_ent F) := by
  refine meets_of_runS mixed ttok deep (spec_RefuteMove_tabok F) Try.func15 (body_some rfl) (spec_RefuteMove_lsok0 F) fun args mem hfit ret h => ?_
  clear hfit
  simp only [spec_RefuteMove_ent] at h
  split at h
  · rename_i b0 direction1 n2
    simp only [Option.some.injEq, Prod.mk.injEq] at h
    obtain ⟨hc, rfl⟩ := h
    exact ⟨[], [], 70, _, (spec_RefuteMove_run F b0 direction1 n2).trans ((spec_RefuteMove_cp _ F b0 direction1 n2 _).trans (bind_use hc _)), rfl, rfl, rfl⟩
  · cases h

/-! loop.example/g01194/impl.DeadPlaces$1 -/
noncomputable def impl_DeadPlaces_f1_tab (F : Nat) : Tab := [(48, (impl_Board_placed_ent F)), (49, (impl_Board_isOver_ent F))]
theorem impl_DeadPlaces_f1_tabok (F : Nat) : TabOK Try.prog (impl_DeadPlaces_f1_tab F) := (tab_cons (impl_Board_placed_meets F) impl_Board_placed_fok (tab_cons (impl_Board_isOver_meets F) impl_Board_isOver_fok tab_nil))
noncomputable def impl_DeadPlaces_f1_LS0 (F : Nat) : LT := []
theorem impl_DeadPlaces_f1_lsok0 (F : Nat) : LoopsOK Try.prog (impl_DeadPlaces_f1_LS0 F) (bodyOf Try.f47) := loopsOK_nil
theorem impl_DeadPlaces_f1_run (F : Nat) (p0 : List Int) (a14 : List Int) : runS tt (impl_DeadPlaces_f1_tab F) (impl_DeadPlaces_f1_LS0 F) [] [] Try.f47 (bodyOf Try.f47) 70 [(.ints 3 p0), (.ptr 0 0 0 16)] [(.var 16 (.ri .i64 a14))] = impl_DeadPlaces_f1_c _ F p0 a14 (fun r => some ⟨(.bool r), [(.var 16 (.ri .i64 a14))], []⟩) := by kernel_rfl
def impl_DeadPlaces_f1_ent (F : Nat) : Ent := ⟨[], .quiet, fun args mem => match args, mem with
  | [(.ints 3 p0), (.ptr 0 0 0 16)], [(.var 16 (.ri .i64 a14))] => some ((impl_DeadPlaces_f1_p F p0 a14).isSome, ⟨(.bool ((impl_DeadPlaces_f1_p F p0 a14).getD default)), [], []⟩)
  | _, _ => none⟩
theorem impl_DeadPlaces_f1_fok : FunOK Try.prog 47 := funOK Try.func47 (by kernel_rfl) rfl
theorem impl_DeadPlaces_f1_meets (F : Nat) : Meets Try.prog 47 (impl_DeadPlaces_f1_ent F) := by
  refine meets_of_runS mixed ttok deep (impl_DeadPlaces_f1_tabok F) Try.func47 (body_some rfl) (impl_DeadPlaces_f1_lsok0 F) fun args mem hfit ret h => ?_
  clear hfit
  simp only [impl_DeadPlaces_f1_ent] at h
  split at h
  · rename_i p0 a14
    simp only [Option.some.injEq, Prod.mk.injEq] at h
    obtain ⟨hc, rfl⟩ := h
    exact ⟨[], [], 70, _, (impl_DeadPlaces_f1_run F p0 a14).trans ((impl_DeadPlaces_f1_cp _ F p0 a14 _).trans (bind_use hc _)), rfl, rfl, rfl⟩
  · cases h

/-! slices.IndexFunc[[][3]int,[3]int] -/
noncomputable def slices_IndexFunc_3int3int_impl_DeadPlaces_f1_tab (F : Nat) : Tab := [(47, (impl_DeadPlaces_f1_ent F))]
theorem slices_IndexFunc_3int3int_impl_DeadPlaces_f1_tabok (F : Nat) : TabOK Try.prog (slices_IndexFunc_3int3int_impl_DeadPlaces_f1_tab F) := (tab_cons (impl_DeadPlaces_f1_meets F) impl_DeadPlaces_f1_fok tab_nil)
noncomputable def slices_IndexFunc_3int3int_impl_DeadPlaces_f1_LS0 (F : Nat) : LT := []
theorem slices_IndexFunc_3int3int_impl_DeadPlaces_f1_lsok0 (F : Nat) : LoopsOK Try.prog (slices_IndexFunc_3int3int_impl_DeadPlaces_f1_LS0 F) (bodyOf Try.f73) := loopsOK_nil
theorem slices_IndexFunc_3int3int_impl_DeadPlaces_f1_keys : keysOK (bodyOf Try.f73) = true := by kernel_rfl
def slices_IndexFunc_3int3int_impl_DeadPlaces_f1_st2 (s0 : List (List Int)) (t74 : Int) (f6 : List Int) (t85 : Int) : St := ⟨expand 19 0 [0, 1, 7, 8] [(.rr 3 s0), (.fn 47 [] [(.ptr 0 0 0 16)]), (.int .i64 t74), (.int .i64 t85)], [(.var 16 (.ri .i64 f6))], 1, []⟩
def slices_IndexFunc_3int3int_impl_DeadPlaces_f1_o2 (s0 : List (List Int)) (t74 : Int) (f6 : List Int) (x : Bool × Int) : GT := (.br x.1 (.out (.ret ⟨expand 19 0 [4] [(.int .i64 x.2)], [(.var 16 (.ri .i64 f6))], 1, []⟩)) (.out (.exit 0 ⟨expand 19 0 [] [], [(.var 16 (.ri .i64 f6))], 1, []⟩)))
def slices_IndexFunc_3int3int_impl_DeadPlaces_f1_ls2 (F : Nat) : LoopS := ⟨19, [0, 1, 7, 8], [], [], [], [4], [], [], fun vals mem np killed => match vals, mem, np, killed with
  | [(.rr 3 s0), (.fn 47 [] [(.ptr 0 0 0 16)]), (.int .i64 t74), (.int .i64 t85)], [(.var 16 (.ri .i64 f6))], 1, [] => .br (slices_IndexFunc_3int3int_impl_DeadPlaces_f1_l2 F s0 t74 f6 t85).isSome (slices_IndexFunc_3int3int_impl_DeadPlaces_f1_o2 s0 t74 f6 ((slices_IndexFunc_3int3int_impl_DeadPlaces_f1_l2 F s0 t74 f6 t85).getD default)) .fail
  | _, _, _, _ => .fail⟩
theorem slices_IndexFunc_3int3int_impl_DeadPlaces_f1_step2 (F : Nat) (s0 : List (List Int)) (t74 : Int) (f6 : List Int) (t85 : Int) {R : Type} (k : Out → Option R) : stepS tt (slices_IndexFunc_3int3int_impl_DeadPlaces_f1_tab F) (slices_IndexFunc_3int3int_impl_DeadPlaces_f1_LS0 F) 70 (slices_IndexFunc_3int3int_impl_DeadPlaces_f1_ls2 F) (loopAt 2 (bodyOf Try.f73)) (slices_IndexFunc_3int3int_impl_DeadPlaces_f1_st2 s0 t74 f6 t85) k = slices_IndexFunc_3int3int_impl_DeadPlaces_f1_s2 F s0 t74 f6 R t85 (fun s => k (.norm (slices_IndexFunc_3int3int_impl_DeadPlaces_f1_st2 s0 t74 f6 s))) (fun x => (slices_IndexFunc_3int3int_impl_DeadPlaces_f1_o2 s0 t74 f6 x).run k) := by kernel_rfl
theorem slices_IndexFunc_3int3int_impl_DeadPlaces_f1_iter2 (F : Nat) (s0 : List (List Int)) (t74 : Int) (f6 : List Int) {R : Type} (k : Out → Option R) : ∀ (n : Nat) (t85 : Int), iterS tt (slices_IndexFunc_3int3int_impl_DeadPlaces_f1_tab F) (slices_IndexFunc_3int3int_impl_DeadPlaces_f1_LS0 F) 70 (slices_IndexFunc_3int3int_impl_DeadPlaces_f1_ls2 F) (loopAt 2 (bodyOf Try.f73)) n (slices_IndexFunc_3int3int_impl_DeadPlaces_f1_st2 s0 t74 f6 t85) k = loopC (slices_IndexFunc_3int3int_impl_DeadPlaces_f1_s2 F s0 t74 f6) n t85 (fun x => (slices_IndexFunc_3int3int_impl_DeadPlaces_f1_o2 s0 t74 f6 x).run k)
  | 0, t85 => rfl
  | n + 1, t85 => (iterS_succ tt (slices_IndexFunc_3int3int_impl_DeadPlaces_f1_tab F) (slices_IndexFunc_3int3int_impl_DeadPlaces_f1_LS0 F) 70 (slices_IndexFunc_3int3int_impl_DeadPlaces_f1_ls2 F) (loopAt 2 (bodyOf Try.f73)) n (slices_IndexFunc_3int3int_impl_DeadPlaces_f1_st2 s0 t74 f6 t85) k).trans ((slices_IndexFunc_3int3int_impl_DeadPlaces_f1_step2 F s0 t74 f6 t85 (nextK (iterS tt (slices_IndexFunc_3int3int_impl_DeadPlaces_f1_tab F) (slices_IndexFunc_3int3int_impl_DeadPlaces_f1_LS0 F) 70 (slices_IndexFunc_3int3int_impl_DeadPlaces_f1_ls2 F) (loopAt 2 (bodyOf Try.f73)) n) k)).trans (congrArg (fun kn => slices_IndexFunc_3int3int_impl_DeadPlaces_f1_s2 F s0 t74 f6 R t85 kn _) (funext (fun t85 => slices_IndexFunc_3int3int_impl_DeadPlaces_f1_iter2 F s0 t74 f6 k n t85))))
theorem slices_IndexFunc_3int3int_impl_DeadPlaces_f1_lok2 (F : Nat) : LoopOK Try.prog (loopAt 2 (bodyOf Try.f73)) (slices_IndexFunc_3int3int_impl_DeadPlaces_f1_ls2 F) := by
  refine loopOK_of mixed ttok deep (slices_IndexFunc_3int3int_impl_DeadPlaces_f1_tabok F) (loopsOK_at (slices_IndexFunc_3int3int_impl_DeadPlaces_f1_lsok0 F) 2) (fuel := 70) fun R vals mem np killed k x h => ?_
  simp only [slices_IndexFunc_3int3int_impl_DeadPlaces_f1_ls2] at h
  split at h
  · rename_i s0 t74 t85 f6
    simp only [GT.run] at h
    have hc := (cond_noneL h).1
    replace h := (cond_noneL h).2
    refine ⟨F, (slices_IndexFunc_3int3int_impl_DeadPlaces_f1_iter2 F s0 t74 f6 k F t85).trans ((loopC_use (slices_IndexFunc_3int3int_impl_DeadPlaces_f1_s2_nat F s0 t74 f6) hc _).trans h)⟩
  · simp only [GT.run] at h
    cases h
noncomputable def slices_IndexFunc_3int3int_impl_DeadPlaces_f1_LS1 (F : Nat) : LT := (2, slices_IndexFunc_3int3int_impl_DeadPlaces_f1_ls2 F) :: slices_IndexFunc_3int3int_impl_DeadPlaces_f1_LS0 F
theorem slices_IndexFunc_3int3int_impl_DeadPlaces_f1_lsok1 (F : Nat) : LoopsOK Try.prog (slices_IndexFunc_3int3int_impl_DeadPlaces_f1_LS1 F) (bodyOf Try.f73) := loopsOK_cons slices_IndexFunc_3int3int_impl_DeadPlaces_f1_keys (slices_IndexFunc_3int3int_impl_DeadPlaces_f1_lok2 F) (slices_IndexFunc_3int3int_impl_DeadPlaces_f1_lsok0 F)
theorem slices_IndexFunc_3int3int_impl_DeadPlaces_f1_run (F : Nat) (s0 : List (List Int)) (f4 : List Int) : runS tt (slices_IndexFunc_3int3int_impl_DeadPlaces_f1_tab F) (slices_IndexFunc_3int3int_impl_DeadPlaces_f1_LS1 F) [] [] Try.f73 (bodyOf Try.f73) 70 [(.rr 3 s0), (.fn 47 [] [(.ptr 0 0 0 16)])] [(.var 16 (.ri .i64 f4))] = slices_IndexFunc_3int3int_impl_DeadPlaces_f1_c _ F s0 f4 (fun r => some ⟨(.int .i64 r), [(.var 16 (.ri .i64 f4))], []⟩) := by kernel_rfl
def slices_IndexFunc_3int3int_impl_DeadPlaces_f1_ent (F : Nat) : Ent := ⟨[], .quiet, fun args mem => match args, mem with
  | [(.rr 3 s0), (.fn 47 [] [(.ptr 0 0 0 16)])], [(.var 16 (.ri .i64 f4))] => some ((slices_IndexFunc_3int3int_impl_DeadPlaces_f1_p F s0 f4).isSome, ⟨(.int .i64 ((slices_IndexFunc_3int3int_impl_DeadPlaces_f1_p F s0 f4).getD default)), [], []⟩)
  | _, _ => none⟩
theorem slices_IndexFunc_3int3int_impl_DeadPlaces_f1_fok : FunOK Try.prog 73 := funOK Try.func73 (by kernel_rfl) rfl
theorem slices_IndexFunc_3int3int_impl_DeadPlaces_f1_meets (F : Nat) : Meets Try.prog 73 (slices_IndexFunc_3int3int_impl_DeadPlaces_f1_ent F) := by
  refine meets_of_runS mixed ttok deep (slices_IndexFunc_3int3int_impl_DeadPlaces_f1_tabok F) Try.func73 (body_some rfl) (slices_IndexFunc_3int3int_impl_DeadPlaces_f1_lsok1 F) fun args mem hfit ret h => ?_
  clear hfit
  simp only [slices_IndexFunc_3int3int_impl_DeadPlaces_f1_ent] at h
  split at h
  · rename_i s0 f4
    simp only [Option.some.injEq, Prod.mk.injEq] at h
    obtain ⟨hc, rfl⟩ := h
    exact ⟨[], [], 70, _, (slices_IndexFunc_3int3int_impl_DeadPlaces_f1_run F s0 f4).trans ((slices_IndexFunc_3int3int_impl_DeadPlaces_f1_cp _ F s0 f4 _).trans (bind_use hc _)), rfl, rfl, rfl⟩
  · cases h

/-! slices.DeleteFunc[[][3]int,[3]int] -/
noncomputable def slices_DeleteFunc_3int3int_impl_DeadPlaces_f1_tab (F : Nat) : Tab := [(73, (slices_IndexFunc_3int3int_impl_DeadPlaces_f1_ent F)), (47, (impl_DeadPlaces_f1_ent F))]
theorem slices_DeleteFunc_3int3int_impl_DeadPlaces_f1_tabok (F : Nat) : TabOK Try.prog (slices_DeleteFunc_3int3int_impl_DeadPlaces_f1_tab F) := (tab_cons (slices_IndexFunc_3int3int_impl_DeadPlaces_f1_meets F) slices_IndexFunc_3int3int_impl_DeadPlaces_f1_fok (tab_cons (impl_DeadPlaces_f1_meets F) impl_DeadPlaces_f1_fok tab_nil))
noncomputable def slices_DeleteFunc_3int3int_impl_DeadPlaces_f1_LS0 (F : Nat) : LT := []
theorem slices_DeleteFunc_3int3int_impl_DeadPlaces_f1_lsok0 (F : Nat) : LoopsOK Try.prog (slices_DeleteFunc_3int3int_impl_DeadPlaces_f1_LS0 F) (bodyOf Try.f45) := loopsOK_nil
theorem slices_DeleteFunc_3int3int_impl_DeadPlaces_f1_keys : keysOK (bodyOf Try.f45) = true := by kernel_rfl
def slices_DeleteFunc_3int3int_impl_DeadPlaces_f1_st5 (s1 : Nat) (del8 : List Int) (i5 : Int) (j6 : Int) (s7 : List (List Int)) : St := ⟨expand 42 0 [0, 1, 5, 6] [(.sl 0 0 s1), (.fn 47 [] [(.ptr 1 0 0 16)]), (.int .i64 i5), (.int .i64 j6)], [(.vec 40 (.rr 3 s7)), (.var 16 (.ri .i64 del8))], 2, []⟩
def slices_DeleteFunc_3int3int_impl_DeadPlaces_f1_o5 (s1 : Nat) (del8 : List Int) (x : Int × List (List Int)) : GT := (.out (.exit 0 ⟨expand 42 0 [0, 5] [(.sl 0 0 s1), (.int .i64 x.1)], [(.vec 40 (.rr 3 x.2)), (.var 16 (.ri .i64 del8))], 2, []⟩))
def slices_DeleteFunc_3int3int_impl_DeadPlaces_f1_ls5 (F : Nat) : LoopS := ⟨42, [0, 1, 5, 6], [], [0, 5], [], [4], [], [], fun vals mem np killed => match vals, mem, np, killed with
  | [(.sl 0 0 s1), (.fn 47 [] [(.ptr 1 0 0 16)]), (.int .i64 i5), (.int .i64 j6)], [(.vec 40 (.rr 3 s7)), (.var 16 (.ri .i64 del8))], 2, [] => .br (slices_DeleteFunc_3int3int_impl_DeadPlaces_f1_l5 F s1 del8 i5 j6 s7).isSome (slices_DeleteFunc_3int3int_impl_DeadPlaces_f1_o5 s1 del8 ((slices_DeleteFunc_3int3int_impl_DeadPlaces_f1_l5 F s1 del8 i5 j6 s7).getD default)) .fail
  | _, _, _, _ => .fail⟩
theorem slices_DeleteFunc_3int3int_impl_DeadPlaces_f1_step5 (F : Nat) (s1 : Nat) (del8 : List Int) (i5 : Int) (j6 : Int) (s7 : List (List Int)) {R : Type} (k : Out → Option R) : stepS tt (slices_DeleteFunc_3int3int_impl_DeadPlaces_f1_tab F) (slices_DeleteFunc_3int3int_impl_DeadPlaces_f1_LS0 F) 70 (slices_DeleteFunc_3int3int_impl_DeadPlaces_f1_ls5 F) (loopAt 5 (bodyOf Try.f45)) (slices_DeleteFunc_3int3int_impl_DeadPlaces_f1_st5 s1 del8 i5 j6 s7) k = slices_DeleteFunc_3int3int_impl_DeadPlaces_f1_s5 F s1 del8 R (i5, j6, s7) (fun s => k (.norm (slices_DeleteFunc_3int3int_impl_DeadPlaces_f1_st5 s1 del8 s.1 s.2.1 s.2.2))) (fun x => (slices_DeleteFunc_3int3int_impl_DeadPlaces_f1_o5 s1 del8 x).run k) := by kernel_rfl
theorem slices_DeleteFunc_3int3int_impl_DeadPlaces_f1_iter5 (F : Nat) (s1 : Nat) (del8 : List Int) {R : Type} (k : Out → Option R) : ∀ (n : Nat) (i5 : Int) (j6 : Int) (s7 : List (List Int)), iterS tt (slices_DeleteFunc_3int3int_impl_DeadPlaces_f1_tab F) (slices_DeleteFunc_3int3int_impl_DeadPlaces_f1_LS0 F) 70 (slices_DeleteFunc_3int3int_impl_DeadPlaces_f1_ls5 F) (loopAt 5 (bodyOf Try.f45)) n (slices_DeleteFunc_3int3int_impl_DeadPlaces_f1_st5 s1 del8 i5 j6 s7) k = loopC (slices_DeleteFunc_3int3int_impl_DeadPlaces_f1_s5 F s1 del8) n (i5, j6, s7) (fun x => (slices_DeleteFunc_3int3int_impl_DeadPlaces_f1_o5 s1 del8 x).run k)
  | 0, i5, j6, s7 => rfl
  | n + 1, i5, j6, s7 => (iterS_succ tt (slices_DeleteFunc_3int3int_impl_DeadPlaces_f1_tab F) (slices_DeleteFunc_3int3int_impl_DeadPlaces_f1_LS0 F) 70 (slices_DeleteFunc_3int3int_impl_DeadPlaces_f1_ls5 F) (loopAt 5 (bodyOf Try.f45)) n (slices_DeleteFunc_3int3int_impl_DeadPlaces_f1_st5 s1 del8 i5 j6 s7) k).trans ((slices_DeleteFunc_3int3int_impl_DeadPlaces_f1_step5 F s1 del8 i5 j6 s7 (nextK (iterS tt (slices_DeleteFunc_3int3int_impl_DeadPlaces_f1_tab F) (slices_DeleteFunc_3int3int_impl_DeadPlaces_f1_LS0 F) 70 (slices_DeleteFunc_3int3int_impl_DeadPlaces_f1_ls5 F) (loopAt 5 (bodyOf Try.f45)) n) k)).trans (congrArg (fun kn => slices_DeleteFunc_3int3int_impl_DeadPlaces_f1_s5 F s1 del8 R (i5, j6, s7) kn _) (funext (fun ⟨i5, j6, s7⟩ => slices_DeleteFunc_3int3int_impl_DeadPlaces_f1_iter5 F s1 del8 k n i5 j6 s7))))
theorem slices_DeleteFunc_3int3int_impl_DeadPlaces_f1_lok5 (F : Nat) : LoopOK Try.prog (loopAt 5 (bodyOf Try.f45)) (slices_DeleteFunc_3int3int_impl_DeadPlaces_f1_ls5 F) := by
  refine loopOK_of mixed ttok deep (slices_DeleteFunc_3int3int_impl_DeadPlaces_f1_tabok F) (loopsOK_at (slices_DeleteFunc_3int3int_impl_DeadPlaces_f1_lsok0 F) 5) (fuel := 70) fun R vals mem np killed k x h => ?_
  simp only [slices_DeleteFunc_3int3int_impl_DeadPlaces_f1_ls5] at h
  split at h
  · rename_i s1 i5 j6 s7 del8
    simp only [GT.run] at h
    have hc := (cond_noneL h).1
    replace h := (cond_noneL h).2
    refine ⟨F, (slices_DeleteFunc_3int3int_impl_DeadPlaces_f1_iter5 F s1 del8 k F i5 j6 s7).trans ((loopC_use (slices_DeleteFunc_3int3int_impl_DeadPlaces_f1_s5_nat F s1 del8) hc _).trans h)⟩
  · simp only [GT.run] at h
    cases h
noncomputable def slices_DeleteFunc_3int3int_impl_DeadPlaces_f1_LS1 (F : Nat) : LT := (5, slices_DeleteFunc_3int3int_impl_DeadPlaces_f1_ls5 F) :: slices_DeleteFunc_3int3int_impl_DeadPlaces_f1_LS0 F
theorem slices_DeleteFunc_3int3int_impl_DeadPlaces_f1_lsok1 (F : Nat) : LoopsOK Try.prog (slices_DeleteFunc_3int3int_impl_DeadPlaces_f1_LS1 F) (bodyOf Try.f45) := loopsOK_cons slices_DeleteFunc_3int3int_impl_DeadPlaces_f1_keys (slices_DeleteFunc_3int3int_impl_DeadPlaces_f1_lok5 F) (slices_DeleteFunc_3int3int_impl_DeadPlaces_f1_lsok0 F)
theorem slices_DeleteFunc_3int3int_impl_DeadPlaces_f1_run (F : Nat) (s5 : List (List Int)) (del6 : List Int) : runS tt (slices_DeleteFunc_3int3int_impl_DeadPlaces_f1_tab F) (slices_DeleteFunc_3int3int_impl_DeadPlaces_f1_LS1 F) [] [] Try.f45 (bodyOf Try.f45) 70 [(.sl 0 0 (List.length s5)), (.fn 47 [] [(.ptr 1 0 0 16)])] [(.vec 40 (.rr 3 s5)), (.var 16 (.ri .i64 del6))] = slices_DeleteFunc_3int3int_impl_DeadPlaces_f1_c _ F s5 del6 (fun r => some ⟨(.sl 0 0 r.1), [(.vec 40 (.rr 3 r.2)), (.var 16 (.ri .i64 del6))], []⟩) := by kernel_rfl
def slices_DeleteFunc_3int3int_impl_DeadPlaces_f1_ent (F : Nat) : Ent := ⟨[true], .loud, fun args mem => match args, mem with
  | [(.sl 0 0 q_s1), (.fn 47 [] [(.ptr 1 0 0 16)])], [(.vec 40 (.rr 3 s5)), (.var 16 (.ri .i64 del6))] => some (((Nat.beq q_s1 (List.length s5)) && (slices_DeleteFunc_3int3int_impl_DeadPlaces_f1_p F s5 del6).isSome), ⟨(.sl 0 0 ((slices_DeleteFunc_3int3int_impl_DeadPlaces_f1_p F s5 del6).getD default).1), [(.vec 40 (.rr 3 ((slices_DeleteFunc_3int3int_impl_DeadPlaces_f1_p F s5 del6).getD default).2)), (.var 16 (.ri .i64 del6))], []⟩)
  | _, _ => none⟩
theorem slices_DeleteFunc_3int3int_impl_DeadPlaces_f1_fok : FunOK Try.prog 45 := funOK Try.func45 (by kernel_rfl) rfl
theorem slices_DeleteFunc_3int3int_impl_DeadPlaces_f1_meets (F : Nat) : Meets Try.prog 45 (slices_DeleteFunc_3int3int_impl_DeadPlaces_f1_ent F) := by
  refine meets_of_runS mixed ttok deep (slices_DeleteFunc_3int3int_impl_DeadPlaces_f1_tabok F) Try.func45 (body_some rfl) (slices_DeleteFunc_3int3int_impl_DeadPlaces_f1_lsok1 F) fun args mem hfit ret h => ?_
  clear hfit
  simp only [slices_DeleteFunc_3int3int_impl_DeadPlaces_f1_ent] at h
  split at h
  · rename_i q_s1 s5 del6
    simp only [Option.some.injEq, Prod.mk.injEq] at h
    obtain ⟨hc, rfl⟩ := h
    have hg := (and_split hc).1
    replace hc := (and_split hc).2
    obtain rfl := nbeq_nat hg
    exact ⟨[], [], 70, _, (slices_DeleteFunc_3int3int_impl_DeadPlaces_f1_run F s5 del6).trans ((slices_DeleteFunc_3int3int_impl_DeadPlaces_f1_cp _ F s5 del6 _).trans (bind_use hc _)), rfl, rfl, rfl⟩
  · cases h

/-! loop.example/g01194/impl.DeadPlaces -/
noncomputable def impl_DeadPlaces_tab (F : Nat) : Tab := [(27, (impl_IsBoard_ent F)), (46, (impl_Board_placements_ent F)), (45, (slices_DeleteFunc_3int3int_impl_DeadPlaces_f1_ent F))]
theorem impl_DeadPlaces_tabok (F : Nat) : TabOK Try.prog (impl_DeadPlaces_tab F) := (tab_cons (impl_IsBoard_meets F) impl_IsBoard_fok (tab_cons (impl_Board_placements_meets F) impl_Board_placements_fok (tab_cons (slices_DeleteFunc_3int3int_impl_DeadPlaces_f1_meets F) slices_DeleteFunc_3int3int_impl_DeadPlaces_f1_fok tab_nil)))
noncomputable def impl_DeadPlaces_LS0 (F : Nat) : LT := []
theorem impl_DeadPlaces_lsok0 (F : Nat) : LoopsOK Try.prog (impl_DeadPlaces_LS0 F) (bodyOf Try.f16) := loopsOK_nil
theorem impl_DeadPlaces_run (F : Nat) (b0 : List Int) : runS tt (impl_DeadPlaces_tab F) (impl_DeadPlaces_LS0 F) [⟨2, 40, (.rr 3 ([] : List (List Int)))⟩] [] Try.f16 (bodyOf Try.f16) 70 [(.ints 16 b0)] [] = impl_DeadPlaces_c _ F b0 (fun r => some ⟨(.tup [(.sl 0 0 r.1), (.bool r.2.1)]), [(.vec 40 (.rr 3 r.2.2))], []⟩) := by kernel_rfl
def impl_DeadPlaces_ent (F : Nat) : Ent := ⟨[], .fresh, fun args mem => match args, mem with
  | [(.ints 16 b0)], [] => some ((impl_DeadPlaces_p F b0).isSome, ⟨(.tup [(.sl 0 0 ((impl_DeadPlaces_p F b0).getD default).1), (.bool ((impl_DeadPlaces_p F b0).getD default).2.1)]), [(.vec 40 (.rr 3 ((impl_DeadPlaces_p F b0).getD default).2.2))], []⟩)
  | _, _ => none⟩
theorem impl_DeadPlaces_fok : FunOK Try.prog 16 := funOK Try.func16 (by kernel_rfl) rfl
theorem impl_DeadPlaces_meets (F : Nat) : Meets Try.prog 16 (impl_DeadPlaces_ent F) := by
  refine meets_of_runS mixed ttok deep (impl_DeadPlaces_tabok F) Try.func16 (body_some rfl) (impl_DeadPlaces_lsok0 F) fun args mem hfit ret h => ?_
  clear hfit
  simp only [impl_DeadPlaces_ent] at h
  split at h
  · rename_i b0
    simp only [Option.some.injEq, Prod.mk.injEq] at h
    obtain ⟨hc, rfl⟩ := h
    exact ⟨[⟨2, 40, (.rr 3 ([] : List (List Int)))⟩], [], 70, _, (impl_DeadPlaces_run F b0).trans ((impl_DeadPlaces_cp _ F b0 _).trans (bind_use hc _)), rfl, rfl, rfl⟩
  · cases h

/-! loop.example/g01194/spec.l2Moves -/
noncomputable def spec_l2Moves_tab (F : Nat) : Tab := [(43, (spec_l2Slide_ent F))]
theorem spec_l2Moves_tabok (F : Nat) : TabOK Try.prog (spec_l2Moves_tab F) := (tab_cons (spec_l2Slide_meets F) spec_l2Slide_fok tab_nil)
noncomputable def spec_l2Moves_LS0 (F : Nat) : LT := []
theorem spec_l2Moves_lsok0 (F : Nat) : LoopsOK Try.prog (spec_l2Moves_LS0 F) (bodyOf Try.f51) := loopsOK_nil
theorem spec_l2Moves_keys : keysOK (bodyOf Try.f51) = true := by kernel_rfl
def spec_l2Moves_st3 (b6 : List Int) (d5 : Int) (out7 : List Int) : St := ⟨expand 26 0 [1, 3, 4] [(.ptr 0 0 0 16), (.sl 1 0 (List.length out7)), (.int .i64 d5)], [(.var 16 (.ri .i64 b6)), (.vec 3 (.ri .i64 out7))], 0, []⟩
def spec_l2Moves_o3 (b6 : List Int) (x : List Int) : GT := (.out (.exit 0 ⟨expand 26 0 [3] [(.sl 0 0 (List.length x))], [(.vec 3 (.ri .i64 x))], 0, []⟩))
def spec_l2Moves_ls3 (F : Nat) : LoopS := ⟨26, [1, 3, 4], [], [3], [], [2], [], [], fun vals mem np killed => match vals, mem, np, killed with
  | [(.ptr 0 0 0 16), (.sl 1 0 q_out4), (.int .i64 d5)], [(.var 16 (.ri .i64 b6)), (.vec 3 (.ri .i64 out7))], 0, [] => .br ((Nat.beq q_out4 (List.length out7)) && (spec_l2Moves_l3 F b6 d5 out7).isSome) (spec_l2Moves_o3 b6 ((spec_l2Moves_l3 F b6 d5 out7).getD default)) .fail
  | _, _, _, _ => .fail⟩
theorem spec_l2Moves_step3 (F : Nat) (b6 : List Int) (d5 : Int) (out7 : List Int) {R : Type} (k : Out → Option R) : stepS tt (spec_l2Moves_tab F) (spec_l2Moves_LS0 F) 70 (spec_l2Moves_ls3 F) (loopAt 3 (bodyOf Try.f51)) (spec_l2Moves_st3 b6 d5 out7) k = spec_l2Moves_s3 F b6 R (d5, out7) (fun s => k (.norm (spec_l2Moves_st3 b6 s.1 s.2))) (fun x => (spec_l2Moves_o3 b6 x).run k) := by kernel_rfl
theorem spec_l2Moves_iter3 (F : Nat) (b6 : List Int) {R : Type} (k : Out → Option R) : ∀ (n : Nat) (d5 : Int) (out7 : List Int), iterS tt (spec_l2Moves_tab F) (spec_l2Moves_LS0 F) 70 (spec_l2Moves_ls3 F) (loopAt 3 (bodyOf Try.f51)) n (spec_l2Moves_st3 b6 d5 out7) k = loopC (spec_l2Moves_s3 F b6) n (d5, out7) (fun x => (spec_l2Moves_o3 b6 x).run k)
  | 0, d5, out7 => rfl
  | n + 1, d5, out7 => (iterS_succ tt (spec_l2Moves_tab F) (spec_l2Moves_LS0 F) 70 (spec_l2Moves_ls3 F) (loopAt 3 (bodyOf Try.f51)) n (spec_l2Moves_st3 b6 d5 out7) k).trans ((spec_l2Moves_step3 F b6 d5 out7 (nextK (iterS tt (spec_l2Moves_tab F) (spec_l2Moves_LS0 F) 70 (spec_l2Moves_ls3 F) (loopAt 3 (bodyOf Try.f51)) n) k)).trans (congrArg (fun kn => spec_l2Moves_s3 F b6 R (d5, out7) kn _) (funext (fun ⟨d5, out7⟩ => spec_l2Moves_iter3 F b6 k n d5 out7))))
theorem spec_l2Moves_lok3 (F : Nat) : LoopOK Try.prog (loopAt 3 (bodyOf Try.f51)) (spec_l2Moves_ls3 F) := by
  refine loopOK_of mixed ttok deep (spec_l2Moves_tabok F) (loopsOK_at (spec_l2Moves_lsok0 F) 3) (fuel := 70) fun R vals mem np killed k x h => ?_
  simp only [spec_l2Moves_ls3] at h
  split at h
  · rename_i q_out4 d5 b6 out7
    simp only [GT.run] at h
    have hc := (cond_noneL h).1
    replace h := (cond_noneL h).2
    have hg := (and_split hc).1
    replace hc := (and_split hc).2
    obtain rfl := nbeq_nat hg
    refine ⟨F, (spec_l2Moves_iter3 F b6 k F d5 out7).trans ((loopC_use (spec_l2Moves_s3_nat F b6) hc _).trans h)⟩
  · simp only [GT.run] at h
    cases h
noncomputable def spec_l2Moves_LS1 (F : Nat) : LT := (3, spec_l2Moves_ls3 F) :: spec_l2Moves_LS0 F
theorem spec_l2Moves_lsok1 (F : Nat) : LoopsOK Try.prog (spec_l2Moves_LS1 F) (bodyOf Try.f51) := loopsOK_cons spec_l2Moves_keys (spec_l2Moves_lok3 F) (spec_l2Moves_lsok0 F)
theorem spec_l2Moves_run (F : Nat) (b0 : List Int) : runS tt (spec_l2Moves_tab F) (spec_l2Moves_LS1 F) [] [] Try.f51 (bodyOf Try.f51) 70 [(.ints 16 b0)] [] = spec_l2Moves_c _ F b0 (fun r => some ⟨(.sl 0 0 (List.length r)), [(.vec 3 (.ri .i64 r))], []⟩) := by kernel_rfl
def spec_l2Moves_ent (F : Nat) : Ent := ⟨[], .fresh, fun args mem => match args, mem with
  | [(.ints 16 b0)], [] => some ((spec_l2Moves_p F b0).isSome, ⟨(.sl 0 0 (List.length ((spec_l2Moves_p F b0).getD default))), [(.vec 3 (.ri .i64 ((spec_l2Moves_p F b0).getD default)))], []⟩)
  | _, _ => none⟩
theorem spec_l2Moves_fok : FunOK Try.prog 51 := funOK Try.func51 (by kernel_rfl) rfl
theorem spec_l2Moves_meets (F : Nat) : Meets Try.prog 51 (spec_l2Moves_ent F) := by
  refine meets_of_runS mixed ttok deep (spec_l2Moves_tabok F) Try.func51 (body_some rfl) (spec_l2Moves_lsok1 F) fun args mem hfit ret h => ?_
  clear hfit
  simp only [spec_l2Moves_ent] at h
  split at h
  · rename_i b0
    simp only [Option.some.injEq, Prod.mk.injEq] at h
    obtain ⟨hc, rfl⟩ := h
    exact ⟨[], [], 70, _, (spec_l2Moves_run F b0).trans ((spec_l2Moves_cp _ F b0 _).trans (bind_use hc _)), rfl, rfl, rfl⟩
  · cases h

/-! loop.example/g01194/spec.DeadPlaces -/
noncomputable def spec_DeadPlaces_tab (F : Nat) : Tab := [(30, (spec_l2Board_ent F)), (50, (spec_l8Places_ent F)), (52, (spec_l8Put_ent F)), (51, (spec_l2Moves_ent F))]
theorem spec_DeadPlaces_tabok (F : Nat) : TabOK Try.prog (spec_DeadPlaces_tab F) := (tab_cons (spec_l2Board_meets F) spec_l2Board_fok (tab_cons (spec_l8Places_meets F) spec_l8Places_fok (tab_cons (spec_l8Put_meets F) spec_l8Put_fok (tab_cons (spec_l2Moves_meets F) spec_l2Moves_fok tab_nil))))
noncomputable def spec_DeadPlaces_LS0 (F : Nat) : LT := []
theorem spec_DeadPlaces_lsok0 (F : Nat) : LoopsOK Try.prog (spec_DeadPlaces_LS0 F) (bodyOf Try.f17) := loopsOK_nil
theorem spec_DeadPlaces_keys : keysOK (bodyOf Try.f17) = true := by kernel_rfl
def spec_DeadPlaces_st6 (b8 : List Int) (all10 : List (List Int)) (i7 : Int) (out9 : List (List Int)) : St := ⟨expand 37 0 [1, 4, 5, 6] [(.ptr 0 0 0 16), (.sl 1 0 (List.length out9)), (.sl 2 0 (List.length all10)), (.int .i64 i7)], [(.var 16 (.ri .i64 b8)), (.vec 40 (.rr 3 out9)), (.vec 40 (.rr 3 all10))], 0, []⟩
def spec_DeadPlaces_o6 (b8 : List Int) (all10 : List (List Int)) (x : List (List Int)) : GT := (.out (.exit 0 ⟨expand 37 0 [4] [(.sl 0 0 (List.length x))], [(.vec 40 (.rr 3 x))], 0, []⟩))
def spec_DeadPlaces_ls6 (F : Nat) : LoopS := ⟨37, [1, 4, 5, 6], [], [4], [], [2, 3], [], [], fun vals mem np killed => match vals, mem, np, killed with
  | [(.ptr 0 0 0 16), (.sl 1 0 q_out4), (.sl 2 0 q_all6), (.int .i64 i7)], [(.var 16 (.ri .i64 b8)), (.vec 40 (.rr 3 out9)), (.vec 40 (.rr 3 all10))], 0, [] => .br ((Nat.beq q_out4 (List.length out9)) && ((Nat.beq q_all6 (List.length all10)) && (spec_DeadPlaces_l6 F b8 all10 i7 out9).isSome)) (spec_DeadPlaces_o6 b8 all10 ((spec_DeadPlaces_l6 F b8 all10 i7 out9).getD default)) .fail
  | _, _, _, _ => .fail⟩
theorem spec_DeadPlaces_step6 (F : Nat) (b8 : List Int) (all10 : List (List Int)) (i7 : Int) (out9 : List (List Int)) {R : Type} (k : Out → Option R) : stepS tt (spec_DeadPlaces_tab F) (spec_DeadPlaces_LS0 F) 70 (spec_DeadPlaces_ls6 F) (loopAt 6 (bodyOf Try.f17)) (spec_DeadPlaces_st6 b8 all10 i7 out9) k = spec_DeadPlaces_s6 F b8 all10 R (i7, out9) (fun s => k (.norm (spec_DeadPlaces_st6 b8 all10 s.1 s.2))) (fun x => (spec_DeadPlaces_o6 b8 all10 x).run k) := by kernel_rfl
theorem spec_DeadPlaces_iter6 (F : Nat) (b8 : List Int) (all10 : List (List Int)) {R : Type} (k : Out → Option R) : ∀ (n : Nat) (i7 : Int) (out9 : List (List Int)), iterS tt (spec_DeadPlaces_tab F) (spec_DeadPlaces_LS0 F) 70 (spec_DeadPlaces_ls6 F) (loopAt 6 (bodyOf Try.f17)) n (spec_DeadPlaces_st6 b8 all10 i7 out9) k = loopC (spec_DeadPlaces_s6 F b8 all10) n (i7, out9) (fun x => (spec_DeadPlaces_o6 b8 all10 x).run k)
  | 0, i7, out9 => rfl
  | n + 1, i7, out9 => (iterS_succ tt (spec_DeadPlaces_tab F) (spec_DeadPlaces_LS0 F) 70 (spec_DeadPlaces_ls6 F) (loopAt 6 (bodyOf Try.f17)) n (spec_DeadPlaces_st6 b8 all10 i7 out9) k).trans ((spec_DeadPlaces_step6 F b8 all10 i7 out9 (nextK (iterS tt (spec_DeadPlaces_tab F) (spec_DeadPlaces_LS0 F) 70 (spec_DeadPlaces_ls6 F) (loopAt 6 (bodyOf Try.f17)) n) k)).trans (congrArg (fun kn => spec_DeadPlaces_s6 F b8 all10 R (i7, out9) kn _) (funext (fun ⟨i7, out9⟩ => spec_DeadPlaces_iter6 F b8 all10 k n i7 out9))))
theorem spec_DeadPlaces_lok6 (F : Nat) : LoopOK Try.prog (loopAt 6 (bodyOf Try.f17)) (spec_DeadPlaces_ls6 F) := by
  refine loopOK_of mixed ttok deep (spec_DeadPlaces_tabok F) (loopsOK_at (spec_DeadPlaces_lsok0 F) 6) (fuel := 70) fun R vals mem np killed k x h => ?_
  simp only [spec_DeadPlaces_ls6] at h
  split at h
  · rename_i q_out4 q_all6 i7 b8 out9 all10
    simp only [GT.run] at h
    have hc := (cond_noneL h).1
    replace h := (cond_noneL h).2
    have hg := (and_split hc).1
    replace hc := (and_split hc).2
    obtain rfl := nbeq_nat hg
    have hg := (and_split hc).1
    replace hc := (and_split hc).2
    obtain rfl := nbeq_nat hg
    refine ⟨F, (spec_DeadPlaces_iter6 F b8 all10 k F i7 out9).trans ((loopC_use (spec_DeadPlaces_s6_nat F b8 all10) hc _).trans h)⟩
  · simp only [GT.run] at h
    cases h
noncomputable def spec_DeadPlaces_LS1 (F : Nat) : LT := (6, spec_DeadPlaces_ls6 F) :: spec_DeadPlaces_LS0 F
theorem spec_DeadPlaces_lsok1 (F : Nat) : LoopsOK Try.prog (spec_DeadPlaces_LS1 F) (bodyOf Try.f17) := loopsOK_cons spec_DeadPlaces_keys (spec_DeadPlaces_lok6 F) (spec_DeadPlaces_lsok0 F)
theorem spec_DeadPlaces_run (F : Nat) (b0 : List Int) : runS tt (spec_DeadPlaces_tab F) (spec_DeadPlaces_LS1 F) [] [] Try.f17 (bodyOf Try.f17) 70 [(.ints 16 b0)] [] = spec_DeadPlaces_c _ F b0 (fun r => some ⟨(.tup [(.sl 0 0 (List.length r.2)), (.bool r.1)]), [(.vec 40 (.rr 3 r.2))], []⟩) := by kernel_rfl
def spec_DeadPlaces_ent (F : Nat) : Ent := ⟨[], .fresh, fun args mem => match args, mem with
  | [(.ints 16 b0)], [] => some ((spec_DeadPlaces_p F b0).isSome, ⟨(.tup [(.sl 0 0 (List.length ((spec_DeadPlaces_p F b0).getD default).2)), (.bool ((spec_DeadPlaces_p F b0).getD default).1)]), [(.vec 40 (.rr 3 ((spec_DeadPlaces_p F b0).getD default).2))], []⟩)
  | _, _ => none⟩
theorem spec_DeadPlaces_fok : FunOK Try.prog 17 := funOK Try.func17 (by kernel_rfl) rfl
theorem spec_DeadPlaces_meets (F : Nat) : Meets Try.prog 17 (spec_DeadPlaces_ent F) := by
  refine meets_of_runS mixed ttok deep (spec_DeadPlaces_tabok F) Try.func17 (body_some rfl) (spec_DeadPlaces_lsok1 F) fun args mem hfit ret h => ?_
  clear hfit
  simp only [spec_DeadPlaces_ent] at h
  split at h
  · rename_i b0
    simp only [Option.some.injEq, Prod.mk.injEq] at h
    obtain ⟨hc, rfl⟩ := h
    exact ⟨[], [], 70, _, (spec_DeadPlaces_run F b0).trans ((spec_DeadPlaces_cp _ F b0 _).trans (bind_use hc _)), rfl, rfl, rfl⟩
  · cases h

/-! loop.example/g01194/impl.isCell -/
noncomputable def impl_isCell_tab (F : Nat) : Tab := [(28, (impl_in_ent F))]
theorem impl_isCell_tabok (F : Nat) : TabOK Try.prog (impl_isCell_tab F) := (tab_cons (impl_in_meets F) impl_in_fok tab_nil)
noncomputable def impl_isCell_LS0 (F : Nat) : LT := []
theorem impl_isCell_lsok0 (F : Nat) : LoopsOK Try.prog (impl_isCell_LS0 F) (bodyOf Try.f74) := loopsOK_nil
theorem impl_isCell_run (F : Nat) (cell0 : List Int) : runS tt (impl_isCell_tab F) (impl_isCell_LS0 F) [] [] Try.f74 (bodyOf Try.f74) 70 [(.ints 2 cell0)] [] = impl_isCell_c _ cell0 (fun r => some ⟨(.bool r), [], []⟩) := by kernel_rfl
def impl_isCell_ent (F : Nat) : Ent := ⟨[], .quiet, fun args mem => match args, mem with
  | [(.ints 2 cell0)], [] => some (true, ⟨(.bool (impl_isCell_v cell0)), [], []⟩)
  | _, _ => none⟩
theorem impl_isCell_fok : FunOK Try.prog 74 := funOK Try.func74 (by kernel_rfl) rfl
theorem impl_isCell_meets (F : Nat) : Meets Try.prog 74 (impl_isCell_ent F) := by
  refine meets_of_runS mixed ttok deep (impl_isCell_tabok F) Try.func74 (body_some rfl) (impl_isCell_lsok0 F) fun args mem hfit ret h => ?_
  clear hfit
  simp only [impl_isCell_ent] at h
  split at h
  · rename_i cell0
    simp only [Option.some.injEq, Prod.mk.injEq] at h
    obtain ⟨hc, rfl⟩ := h
    exact ⟨[], [], 70, _, (impl_isCell_run F cell0).trans (impl_isCell_cv _ cell0 _), rfl, rfl, rfl⟩
  · cases h

/-! loop.example/g01194/impl.PutTile -/
noncomputable def impl_PutTile_tab (F : Nat) : Tab := [(27, (impl_IsBoard_ent F)), (74, (impl_isCell_ent F)), (28, (impl_in_ent F)), (75, (impl_Board_at_ent F))]
theorem impl_PutTile_tabok (F : Nat) : TabOK Try.prog (impl_PutTile_tab F) := (tab_cons (impl_IsBoard_meets F) impl_IsBoard_fok (tab_cons (impl_isCell_meets F) impl_isCell_fok (tab_cons (impl_in_meets F) impl_in_fok (tab_cons (impl_Board_at_meets F) impl_Board_at_fok tab_nil))))
noncomputable def impl_PutTile_LS0 (F : Nat) : LT := []
theorem impl_PutTile_lsok0 (F : Nat) : LoopsOK Try.prog (impl_PutTile_LS0 F) (bodyOf Try.f53) := loopsOK_nil
theorem impl_PutTile_run (F : Nat) (b0 : List Int) (cell1 : List Int) (t2 : Int) : runS tt (impl_PutTile_tab F) (impl_PutTile_LS0 F) [] [] Try.f53 (bodyOf Try.f53) 70 [(.ints 16 b0), (.ints 2 cell1), (.int .i64 t2)] [] = impl_PutTile_c _ F b0 cell1 t2 (fun r => some ⟨(.tup [(.ints 16 r.1), (.bool r.2)]), [], []⟩) := by kernel_rfl
def impl_PutTile_ent (F : Nat) : Ent := ⟨[], .quiet, fun args mem => match args, mem with
  | [(.ints 16 b0), (.ints 2 cell1), (.int .i64 t2)], [] => some ((impl_PutTile_p F b0 cell1 t2).isSome, ⟨(.tup [(.ints 16 ((impl_PutTile_p F b0 cell1 t2).getD default).1), (.bool ((impl_PutTile_p F b0 cell1 t2).getD default).2)]), [], []⟩)
  | _, _ => none⟩
theorem impl_PutTile_fok : FunOK Try.prog 53 := funOK Try.func53 (by kernel_rfl) rfl
theorem impl_PutTile_meets (F : Nat) : Meets Try.prog 53 (impl_PutTile_ent F) := by
  refine meets_of_runS mixed ttok deep (impl_PutTile_tabok F) Try.func53 (body_some rfl) (impl_PutTile_lsok0 F) fun args mem hfit ret h => ?_
  clear hfit
  simp only [impl_PutTile_ent] at h
  split at h
  · rename_i b0 cell1 t2
    simp only [Option.some.injEq, Prod.mk.injEq] at h
    obtain ⟨hc, rfl⟩ := h
    exact ⟨[], [], 70, _, (impl_PutTile_run F b0 cell1 t2).trans ((impl_PutTile_cp _ F b0 cell1 t2 _).trans (bind_use hc _)), rfl, rfl, rfl⟩
  · cases h

/-! loop.example/g01194/impl.PlaceTile -/
noncomputable def impl_PlaceTile_tab (F : Nat) : Tab := [(28, (impl_in_ent F)), (53, (impl_PutTile_ent F))]
theorem impl_PlaceTile_tabok (F : Nat) : TabOK Try.prog (impl_PlaceTile_tab F) := (tab_cons (impl_in_meets F) impl_in_fok (tab_cons (impl_PutTile_meets F) impl_PutTile_fok tab_nil))
noncomputable def impl_PlaceTile_LS0 (F : Nat) : LT := []
theorem impl_PlaceTile_lsok0 (F : Nat) : LoopsOK Try.prog (impl_PlaceTile_LS0 F) (bodyOf Try.f18) := loopsOK_nil
theorem impl_PlaceTile_run (F : Nat) (b0 : List Int) (p1 : List Int) : runS tt (impl_PlaceTile_tab F) (impl_PlaceTile_LS0 F) [] [] Try.f18 (bodyOf Try.f18) 70 [(.ints 16 b0), (.ints 3 p1)] [] = impl_PlaceTile_c _ F b0 p1 (fun r => some ⟨(.tup [(.ints 16 r.1), (.bool r.2)]), [], []⟩) := by kernel_rfl
def impl_PlaceTile_ent (F : Nat) : Ent := ⟨[], .quiet, fun args mem => match args, mem with
  | [(.ints 16 b0), (.ints 3 p1)], [] => some ((impl_PlaceTile_p F b0 p1).isSome, ⟨(.tup [(.ints 16 ((impl_PlaceTile_p F b0 p1).getD default).1), (.bool ((impl_PlaceTile_p F b0 p1).getD default).2)]), [], []⟩)
  | _, _ => none⟩
theorem impl_PlaceTile_fok : FunOK Try.prog 18 := funOK Try.func18 (by kernel_rfl) rfl
theorem impl_PlaceTile_meets (F : Nat) : Meets Try.prog 18 (impl_PlaceTile_ent F) := by
  refine meets_of_runS mixed ttok deep (impl_PlaceTile_tabok F) Try.func18 (body_some rfl) (impl_PlaceTile_lsok0 F) fun args mem hfit ret h => ?_
  clear hfit
  simp only [impl_PlaceTile_ent] at h
  split at h
  · rename_i b0 p1
    simp only [Option.some.injEq, Prod.mk.injEq] at h
    obtain ⟨hc, rfl⟩ := h
    exact ⟨[], [], 70, _, (impl_PlaceTile_run F b0 p1).trans ((impl_PlaceTile_cp _ F b0 p1 _).trans (bind_use hc _)), rfl, rfl, rfl⟩
  · cases h
end Go.Proofs.Ytgdokdkcbgkekaf
