/-
Pure functions and what the code of them does, by program; without conditions.
-/
import Derived.Test.YtidmlibanopfhaaTGP6
import Derived.Test.YtidmlibanopfhaaTGS5
namespace Go.Proofs.Ytidmlibanopfhaa
open Go Go.Lv Go.Lv.P Go.Proofs
set_option linter.unusedVariables false
set_option linter.unusedSimpArgs false
set_option maxRecDepth 100000
/-! loop.example/g01194/spec.LastsHow -/
noncomputable def spec_LastsHow_tab (F : Nat) : Tab := [(29, (spec_l2Board_ent F)), (36, (spec_l8Lasts_ent F))]
theorem spec_LastsHow_tabok (F : Nat) : TabOK Try.prog (spec_LastsHow_tab F) := (tab_cons (spec_l2Board_meets F) spec_l2Board_fok (tab_cons (spec_l8Lasts_meets F) spec_l8Lasts_fok tab_nil))
noncomputable def spec_LastsHow_LS0 (F : Nat) : LT := []
theorem spec_LastsHow_lsok0 (F : Nat) : LoopsOK Try.prog (spec_LastsHow_LS0 F) (bodyOf Try.f17) := loopsOK_nil
theorem spec_LastsHow_keys : keysOK (bodyOf Try.f17) = true := by kernel_rfl
def spec_LastsHow_st4 (b4 : List Int) (n3 : Int) : St := ⟨expand 19 0 [1, 4] [(.ptr 0 0 0 16), (.int .i64 n3)], [(.var 16 (.ri .i64 b4))], 0, []⟩
def spec_LastsHow_o4 (b4 : List Int) (x : Int) : GT := (.out (.exit 0 ⟨expand 19 0 [4] [(.int .i64 x)], [], 0, []⟩))
def spec_LastsHow_ls4 (F : Nat) : LoopS := ⟨19, [1, 4], [], [4], [], [2, 3], [], [], fun vals mem np killed => match vals, mem, np, killed with
  | [(.ptr 0 0 0 16), (.int .i64 n3)], [(.var 16 (.ri .i64 b4))], 0, [] => .br (spec_LastsHow_l4 F b4 n3).isSome (spec_LastsHow_o4 b4 ((spec_LastsHow_l4 F b4 n3).getD default)) .fail
  | _, _, _, _ => .fail⟩
theorem spec_LastsHow_step4 (F : Nat) (b4 : List Int) (n3 : Int) {R : Type} (k : Out → Option R) : stepS tt (spec_LastsHow_tab F) (spec_LastsHow_LS0 F) 70 (spec_LastsHow_ls4 F) (loopAt 4 (bodyOf Try.f17)) (spec_LastsHow_st4 b4 n3) k = spec_LastsHow_s4 F b4 R n3 (fun s => k (.norm (spec_LastsHow_st4 b4 s))) (fun x => (spec_LastsHow_o4 b4 x).run k) := by kernel_rfl
theorem spec_LastsHow_iter4 (F : Nat) (b4 : List Int) {R : Type} (k : Out → Option R) : ∀ (n : Nat) (n3 : Int), iterS tt (spec_LastsHow_tab F) (spec_LastsHow_LS0 F) 70 (spec_LastsHow_ls4 F) (loopAt 4 (bodyOf Try.f17)) n (spec_LastsHow_st4 b4 n3) k = loopC (spec_LastsHow_s4 F b4) n n3 (fun x => (spec_LastsHow_o4 b4 x).run k)
  | 0, n3 => rfl
  | n + 1, n3 => (iterS_succ tt (spec_LastsHow_tab F) (spec_LastsHow_LS0 F) 70 (spec_LastsHow_ls4 F) (loopAt 4 (bodyOf Try.f17)) n (spec_LastsHow_st4 b4 n3) k).trans ((spec_LastsHow_step4 F b4 n3 (nextK (iterS tt (spec_LastsHow_tab F) (spec_LastsHow_LS0 F) 70 (spec_LastsHow_ls4 F) (loopAt 4 (bodyOf Try.f17)) n) k)).trans (congrArg (fun kn => spec_LastsHow_s4 F b4 R n3 kn _) (funext (fun n3 => spec_LastsHow_iter4 F b4 k n n3))))
theorem spec_LastsHow_lok4 (F : Nat) : LoopOK Try.prog (loopAt 4 (bodyOf Try.f17)) (spec_LastsHow_ls4 F) := by
  refine loopOK_of mixed ttok deep (spec_LastsHow_tabok F) (loopsOK_at (spec_LastsHow_lsok0 F) 4) (fuel := 70) fun R vals mem np killed k x h => ?_
  simp only [spec_LastsHow_ls4] at h
  split at h
  · rename_i n3 b4
    simp only [GT.run] at h
    have hc := (cond_noneL h).1
    replace h := (cond_noneL h).2
    refine ⟨F, (spec_LastsHow_iter4 F b4 k F n3).trans ((loopC_use (spec_LastsHow_s4_nat F b4) hc _).trans h)⟩
  · simp only [GT.run] at h
    cases h
noncomputable def spec_LastsHow_LS1 (F : Nat) : LT := (4, spec_LastsHow_ls4 F) :: spec_LastsHow_LS0 F
theorem spec_LastsHow_lsok1 (F : Nat) : LoopsOK Try.prog (spec_LastsHow_LS1 F) (bodyOf Try.f17) := loopsOK_cons spec_LastsHow_keys (spec_LastsHow_lok4 F) (spec_LastsHow_lsok0 F)
theorem spec_LastsHow_run (F : Nat) (b0 : List Int) : runS tt (spec_LastsHow_tab F) (spec_LastsHow_LS1 F) [] [] Try.f17 (bodyOf Try.f17) 70 [(.ints 16 b0)] [] = spec_LastsHow_c _ F b0 (fun r => some ⟨(.tup [(.int .i64 r.1), (.bool r.2)]), [], []⟩) := by kernel_rfl
def spec_LastsHow_ent (F : Nat) : Ent := ⟨[], .quiet, fun args mem => match args, mem with
  | [(.ints 16 b0)], [] => some ((spec_LastsHow_p F b0).isSome, ⟨(.tup [(.int .i64 ((spec_LastsHow_p F b0).getD default).1), (.bool ((spec_LastsHow_p F b0).getD default).2)]), [], []⟩)
  | _, _ => none⟩
theorem spec_LastsHow_fok : FunOK Try.prog 17 := funOK Try.func17 (by kernel_rfl) rfl
theorem spec_LastsHow_meets (F : Nat) : Meets Try.prog 17 (spec_LastsHow_ent F) := by
  refine meets_of_runS mixed ttok deep (spec_LastsHow_tabok F) Try.func17 (body_some rfl) (spec_LastsHow_lsok1 F) fun args mem hfit ret h => ?_
  clear hfit
  simp only [spec_LastsHow_ent] at h
  split at h
  · rename_i b0
    simp only [Option.some.injEq, Prod.mk.injEq] at h
    obtain ⟨hc, rfl⟩ := h
    exact ⟨[], [], 70, _, (spec_LastsHow_run F b0).trans ((spec_LastsHow_cp _ F b0 _).trans (bind_use hc _)), rfl, rfl, rfl⟩
  · cases h

/-! loop.example/g01194/impl.LastsHow -/
noncomputable def impl_LastsHow_tab (F : Nat) : Tab := [(33, (impl_IsBoard_ent F)), (37, (impl_Board_lasts_ent F))]
theorem impl_LastsHow_tabok (F : Nat) : TabOK Try.prog (impl_LastsHow_tab F) := (tab_cons (impl_IsBoard_meets F) impl_IsBoard_fok (tab_cons (impl_Board_lasts_meets F) impl_Board_lasts_fok tab_nil))
noncomputable def impl_LastsHow_LS0 (F : Nat) : LT := []
theorem impl_LastsHow_lsok0 (F : Nat) : LoopsOK Try.prog (impl_LastsHow_LS0 F) (bodyOf Try.f18) := loopsOK_nil
theorem impl_LastsHow_keys : keysOK (bodyOf Try.f18) = true := by kernel_rfl
def impl_LastsHow_st4 (b4 : List Int) (n3 : Int) : St := ⟨expand 19 0 [1, 4] [(.ptr 0 0 0 16), (.int .i64 n3)], [(.var 16 (.ri .i64 b4))], 0, []⟩
def impl_LastsHow_o4 (b4 : List Int) (x : Int) : GT := (.out (.exit 0 ⟨expand 19 0 [4] [(.int .i64 x)], [], 0, []⟩))
def impl_LastsHow_ls4 (F : Nat) : LoopS := ⟨19, [1, 4], [], [4], [], [2, 3], [], [], fun vals mem np killed => match vals, mem, np, killed with
  | [(.ptr 0 0 0 16), (.int .i64 n3)], [(.var 16 (.ri .i64 b4))], 0, [] => .br (impl_LastsHow_l4 F b4 n3).isSome (impl_LastsHow_o4 b4 ((impl_LastsHow_l4 F b4 n3).getD default)) .fail
  | _, _, _, _ => .fail⟩
theorem impl_LastsHow_step4 (F : Nat) (b4 : List Int) (n3 : Int) {R : Type} (k : Out → Option R) : stepS tt (impl_LastsHow_tab F) (impl_LastsHow_LS0 F) 70 (impl_LastsHow_ls4 F) (loopAt 4 (bodyOf Try.f18)) (impl_LastsHow_st4 b4 n3) k = impl_LastsHow_s4 F b4 R n3 (fun s => k (.norm (impl_LastsHow_st4 b4 s))) (fun x => (impl_LastsHow_o4 b4 x).run k) := by kernel_rfl
theorem impl_LastsHow_iter4 (F : Nat) (b4 : List Int) {R : Type} (k : Out → Option R) : ∀ (n : Nat) (n3 : Int), iterS tt (impl_LastsHow_tab F) (impl_LastsHow_LS0 F) 70 (impl_LastsHow_ls4 F) (loopAt 4 (bodyOf Try.f18)) n (impl_LastsHow_st4 b4 n3) k = loopC (impl_LastsHow_s4 F b4) n n3 (fun x => (impl_LastsHow_o4 b4 x).run k)
  | 0, n3 => rfl
  | n + 1, n3 => (iterS_succ tt (impl_LastsHow_tab F) (impl_LastsHow_LS0 F) 70 (impl_LastsHow_ls4 F) (loopAt 4 (bodyOf Try.f18)) n (impl_LastsHow_st4 b4 n3) k).trans ((impl_LastsHow_step4 F b4 n3 (nextK (iterS tt (impl_LastsHow_tab F) (impl_LastsHow_LS0 F) 70 (impl_LastsHow_ls4 F) (loopAt 4 (bodyOf Try.f18)) n) k)).trans (congrArg (fun kn => impl_LastsHow_s4 F b4 R n3 kn _) (funext (fun n3 => impl_LastsHow_iter4 F b4 k n n3))))
theorem impl_LastsHow_lok4 (F : Nat) : LoopOK Try.prog (loopAt 4 (bodyOf Try.f18)) (impl_LastsHow_ls4 F) := by
  refine loopOK_of mixed ttok deep (impl_LastsHow_tabok F) (loopsOK_at (impl_LastsHow_lsok0 F) 4) (fuel := 70) fun R vals mem np killed k x h => ?_
  simp only [impl_LastsHow_ls4] at h
  split at h
  · rename_i n3 b4
    simp only [GT.run] at h
    have hc := (cond_noneL h).1
    replace h := (cond_noneL h).2
    refine ⟨F, (impl_LastsHow_iter4 F b4 k F n3).trans ((loopC_use (impl_LastsHow_s4_nat F b4) hc _).trans h)⟩
  · simp only [GT.run] at h
    cases h
noncomputable def impl_LastsHow_LS1 (F : Nat) : LT := (4, impl_LastsHow_ls4 F) :: impl_LastsHow_LS0 F
theorem impl_LastsHow_lsok1 (F : Nat) : LoopsOK Try.prog (impl_LastsHow_LS1 F) (bodyOf Try.f18) := loopsOK_cons impl_LastsHow_keys (impl_LastsHow_lok4 F) (impl_LastsHow_lsok0 F)
theorem impl_LastsHow_run (F : Nat) (b0 : List Int) : runS tt (impl_LastsHow_tab F) (impl_LastsHow_LS1 F) [] [] Try.f18 (bodyOf Try.f18) 70 [(.ints 16 b0)] [] = impl_LastsHow_c _ F b0 (fun r => some ⟨(.tup [(.int .i64 r.1), (.bool r.2)]), [], []⟩) := by kernel_rfl
def impl_LastsHow_ent (F : Nat) : Ent := ⟨[], .quiet, fun args mem => match args, mem with
  | [(.ints 16 b0)], [] => some ((impl_LastsHow_p F b0).isSome, ⟨(.tup [(.int .i64 ((impl_LastsHow_p F b0).getD default).1), (.bool ((impl_LastsHow_p F b0).getD default).2)]), [], []⟩)
  | _, _ => none⟩
theorem impl_LastsHow_fok : FunOK Try.prog 18 := funOK Try.func18 (by kernel_rfl) rfl
theorem impl_LastsHow_meets (F : Nat) : Meets Try.prog 18 (impl_LastsHow_ent F) := by
  refine meets_of_runS mixed ttok deep (impl_LastsHow_tabok F) Try.func18 (body_some rfl) (impl_LastsHow_lsok1 F) fun args mem hfit ret h => ?_
  clear hfit
  simp only [impl_LastsHow_ent] at h
  split at h
  · rename_i b0
    simp only [Option.some.injEq, Prod.mk.injEq] at h
    obtain ⟨hc, rfl⟩ := h
    exact ⟨[], [], 70, _, (impl_LastsHow_run F b0).trans ((impl_LastsHow_cp _ F b0 _).trans (bind_use hc _)), rfl, rfl, rfl⟩
  · cases h

/-! loop.example/g01194/laws.FnExactLastsHow -/
noncomputable def laws_FnExactLastsHow_tab (F : Nat) : Tab := [(11, (laws_toBoard_ent F)), (17, (spec_LastsHow_ent F)), (18, (impl_LastsHow_ent F))]
theorem laws_FnExactLastsHow_tabok (F : Nat) : TabOK Try.prog (laws_FnExactLastsHow_tab F) := (tab_cons (laws_toBoard_meets F) laws_toBoard_fok (tab_cons (spec_LastsHow_meets F) spec_LastsHow_fok (tab_cons (impl_LastsHow_meets F) impl_LastsHow_fok tab_nil)))
noncomputable def laws_FnExactLastsHow_LS0 (F : Nat) : LT := []
theorem laws_FnExactLastsHow_lsok0 (F : Nat) : LoopsOK Try.prog (laws_FnExactLastsHow_LS0 F) (bodyOf Try.f6) := loopsOK_nil
theorem laws_FnExactLastsHow_run (F : Nat) (aB0 : List Int) : runS tt (laws_FnExactLastsHow_tab F) (laws_FnExactLastsHow_LS0 F) [] [] Try.f6 (bodyOf Try.f6) 70 [(.ints 16 aB0)] [] = laws_FnExactLastsHow_c _ F aB0 (fun r => some ⟨(.bool r), [], []⟩) := by kernel_rfl
def laws_FnExactLastsHow_ent (F : Nat) : Ent := ⟨[], .quiet, fun args mem => match args, mem with
  | [(.ints 16 aB0)], [] => some ((laws_FnExactLastsHow_p F aB0).isSome, ⟨(.bool ((laws_FnExactLastsHow_p F aB0).getD default)), [], []⟩)
  | _, _ => none⟩
theorem laws_FnExactLastsHow_fok : FunOK Try.prog 6 := funOK Try.func6 (by kernel_rfl) rfl
theorem laws_FnExactLastsHow_meets (F : Nat) : Meets Try.prog 6 (laws_FnExactLastsHow_ent F) := by
  refine meets_of_runS mixed ttok deep (laws_FnExactLastsHow_tabok F) Try.func6 (body_some rfl) (laws_FnExactLastsHow_lsok0 F) fun args mem hfit ret h => ?_
  clear hfit
  simp only [laws_FnExactLastsHow_ent] at h
  split at h
  · rename_i aB0
    simp only [Option.some.injEq, Prod.mk.injEq] at h
    obtain ⟨hc, rfl⟩ := h
    exact ⟨[], [], 70, _, (laws_FnExactLastsHow_run F aB0).trans ((laws_FnExactLastsHow_cp _ F aB0 _).trans (bind_use hc _)), rfl, rfl, rfl⟩
  · cases h

/-! loop.example/g01194/spec.l2Side -/
noncomputable def spec_l2Side_tab (F : Nat) : Tab := [(30, (spec_l1In_ent F))]
theorem spec_l2Side_tabok (F : Nat) : TabOK Try.prog (spec_l2Side_tab F) := (tab_cons (spec_l1In_meets F) spec_l1In_fok tab_nil)
noncomputable def spec_l2Side_LS0 (F : Nat) : LT := []
theorem spec_l2Side_lsok0 (F : Nat) : LoopsOK Try.prog (spec_l2Side_LS0 F) (bodyOf Try.f41) := loopsOK_nil
theorem spec_l2Side_run (F : Nat) (d0 : Int) : runS tt (spec_l2Side_tab F) (spec_l2Side_LS0 F) [] [] Try.f41 (bodyOf Try.f41) 70 [(.int .i64 d0)] [] = spec_l2Side_c _ d0 (fun r => some ⟨(.bool r), [], []⟩) := by kernel_rfl
def spec_l2Side_ent (F : Nat) : Ent := ⟨[], .quiet, fun args mem => match args, mem with
  | [(.int .i64 d0)], [] => some (true, ⟨(.bool (spec_l2Side_v d0)), [], []⟩)
  | _, _ => none⟩
theorem spec_l2Side_fok : FunOK Try.prog 41 := funOK Try.func41 (by kernel_rfl) rfl
theorem spec_l2Side_meets (F : Nat) : Meets Try.prog 41 (spec_l2Side_ent F) := by
  refine meets_of_runS mixed ttok deep (spec_l2Side_tabok F) Try.func41 (body_some rfl) (spec_l2Side_lsok0 F) fun args mem hfit ret h => ?_
  clear hfit
  simp only [spec_l2Side_ent] at h
  split at h
  · rename_i d0
    simp only [Option.some.injEq, Prod.mk.injEq] at h
    obtain ⟨hc, rfl⟩ := h
    exact ⟨[], [], 70, _, (spec_l2Side_run F d0).trans (spec_l2Side_cv _ d0 _), rfl, rfl, rfl⟩
  · cases h

/-! loop.example/g01194/spec.l8Refuted -/
def spec_l8Refuted_ent (F : Nat) : Ent := ⟨[], .quiet, fun args mem => match args, mem with
  | [(.ints 16 next0), (.int .i64 n1)], [] => some ((spec_l8Refuted_p F next0 n1).isSome, ⟨(.tup [(.ints 3 ((spec_l8Refuted_p F next0 n1).getD default).1), (.bool ((spec_l8Refuted_p F next0 n1).getD default).2)]), [], []⟩)
  | _, _ => none⟩
theorem spec_l8Refuted_fok : FunOK Try.prog 43 := funOK Try.func43 (by kernel_rfl) rfl
theorem spec_l8Refuted_meets (F : Nat) : Meets Try.prog 43 (spec_l8Refuted_ent F) := by
  intro fr w ρ mem args reals hw ha ret hg
  simp only [spec_l8Refuted_ent] at hg
  split at hg
  · rename_i next0 n1
    simp only [Option.some.injEq, Prod.mk.injEq] at hg
    obtain ⟨hc, rfl⟩ := hg
    by_cases hn0 : (n1 == (1 : Int)) = true
    · obtain rfl := beq_int hn0
      have e : spec_l8Refuted_p F next0 (1 : Int) = some ([(0 : Int), (0 : Int), (0 : Int)], false) := by kernel_rfl
      have hg' : (spec_l8Refuted_n1_ent F).g [(.ints 16 next0), (.int .i64 (1 : Int))] [] = some (true, ⟨(.tup [(.ints 3 [(0 : Int), (0 : Int), (0 : Int)]), (.bool false)]), [], []⟩) := by kernel_rfl
      have h9 := spec_l8Refuted_n1_meets F fr w ρ _ _ reals hw ha _ hg'
      simp only [e, cond_true, Option.getD_some]
      exact h9
    · replace hn0 : (n1 == (1 : Int)) = false := by simpa using hn0
      by_cases hn1 : (n1 == (2 : Int)) = true
      · obtain rfl := beq_int hn1
        have e : spec_l8Refuted_p F next0 (2 : Int) = (bif (Option.isSome (spec_l8Refuted_n2_p F next0)) then some ((Option.getD (spec_l8Refuted_n2_p F next0) default).1, (Option.getD (spec_l8Refuted_n2_p F next0) default).2) else none) := by kernel_rfl
        have hg' : (spec_l8Refuted_n2_ent F).g [(.ints 16 next0), (.int .i64 (2 : Int))] [] = some ((Option.isSome (spec_l8Refuted_n2_p F next0)), ⟨(.tup [(.ints 3 (Option.getD (spec_l8Refuted_n2_p F next0) default).1), (.bool (Option.getD (spec_l8Refuted_n2_p F next0) default).2)]), [], []⟩) := by kernel_rfl
        rw [e] at hc
        have hC := isSome_cond hc
        rw [hC] at hg'
        have h9 := spec_l8Refuted_n2_meets F fr w ρ _ _ reals hw ha _ hg'
        simp only [e, hC, cond_true, Option.getD_some]
        exact h9
      · replace hn1 : (n1 == (2 : Int)) = false := by simpa using hn1
        by_cases hn2 : (n1 == (3 : Int)) = true
        · obtain rfl := beq_int hn2
          have e : spec_l8Refuted_p F next0 (3 : Int) = (bif (Option.isSome (spec_l8Refuted_n3_p F next0)) then some ((Option.getD (spec_l8Refuted_n3_p F next0) default).1, (Option.getD (spec_l8Refuted_n3_p F next0) default).2) else none) := by kernel_rfl
          have hg' : (spec_l8Refuted_n3_ent F).g [(.ints 16 next0), (.int .i64 (3 : Int))] [] = some ((Option.isSome (spec_l8Refuted_n3_p F next0)), ⟨(.tup [(.ints 3 (Option.getD (spec_l8Refuted_n3_p F next0) default).1), (.bool (Option.getD (spec_l8Refuted_n3_p F next0) default).2)]), [], []⟩) := by kernel_rfl
          rw [e] at hc
          have hC := isSome_cond hc
          rw [hC] at hg'
          have h9 := spec_l8Refuted_n3_meets F fr w ρ _ _ reals hw ha _ hg'
          simp only [e, hC, cond_true, Option.getD_some]
          exact h9
        · replace hn2 : (n1 == (3 : Int)) = false := by simpa using hn2
          exfalso
          have e : spec_l8Refuted_p F next0 n1 = none := by simp only [spec_l8Refuted_p, spec_l8Refuted_c, hn0, hn1, hn2, cond_false]
          rw [e] at hc
          cases hc
  · cases hg

/-! loop.example/g01194/spec.RefuteMove -/
noncomputable def spec_RefuteMove_tab (F : Nat) : Tab := [(29, (spec_l2Board_ent F)), (41, (spec_l2Side_ent F)), (30, (spec_l1In_ent F)), (42, (spec_l2Slide_ent F)), (43, (spec_l8Refuted_ent F))]
theorem spec_RefuteMove_tabok (F : Nat) : TabOK Try.prog (spec_RefuteMove_tab F) := (tab_cons (spec_l2Board_meets F) spec_l2Board_fok (tab_cons (spec_l2Side_meets F) spec_l2Side_fok (tab_cons (spec_l1In_meets F) spec_l1In_fok (tab_cons (spec_l2Slide_meets F) spec_l2Slide_fok (tab_cons (spec_l8Refuted_meets F) spec_l8Refuted_fok tab_nil)))))
noncomputable def spec_RefuteMove_LS0 (F : Nat) : LT := []
theorem spec_RefuteMove_lsok0 (F : Nat) : LoopsOK Try.prog (spec_RefuteMove_LS0 F) (bodyOf Try.f19) := loopsOK_nil
theorem spec_RefuteMove_run (F : Nat) (b0 : List Int) (direction1 : Int) (n2 : Int) : runS tt (spec_RefuteMove_tab F) (spec_RefuteMove_LS0 F) [] [] Try.f19 (bodyOf Try.f19) 70 [(.ints 16 b0), (.int .i64 direction1), (.int .i64 n2)] [] = spec_RefuteMove_c _ F b0 direction1 n2 (fun r => some ⟨(.tup [(.ints 3 r.1), (.bool r.2)]), [], []⟩) := by kernel_rfl
def spec_RefuteMove_ent (F : Nat) : Ent := ⟨[], .quiet, fun args mem => match args, mem with
  | [(.ints 16 b0), (.int .i64 direction1), (.int .i64 n2)], [] => some ((spec_RefuteMove_p F b0 direction1 n2).isSome, ⟨(.tup [(.ints 3 ((spec_RefuteMove_p F b0 direction1 n2).getD default).1), (.bool ((spec_RefuteMove_p F b0 direction1 n2).getD default).2)]), [], []⟩)
  | _, _ => none⟩
theorem spec_RefuteMove_fok : FunOK Try.prog 19 := funOK Try.func19 (by kernel_rfl) rfl
theorem spec_RefuteMove_meets (F : Nat) : Meets Try.prog 19 (spec_RefuteMove_ent F) := by
  refine meets_of_runS mixed ttok deep (spec_RefuteMove_tabok F) Try.func19 (body_some rfl) (spec_RefuteMove_lsok0 F) fun args mem hfit ret h => ?_
  clear hfit
  simp only [spec_RefuteMove_ent] at h
  split at h
  · rename_i b0 direction1 n2
    simp only [Option.some.injEq, Prod.mk.injEq] at h
    obtain ⟨hc, rfl⟩ := h
    exact ⟨[], [], 70, _, (spec_RefuteMove_run F b0 direction1 n2).trans ((spec_RefuteMove_cp _ F b0 direction1 n2 _).trans (bind_use hc _)), rfl, rfl, rfl⟩
  · cases h

/-! loop.example/g01194/impl.isDirection -/
noncomputable def impl_isDirection_tab (F : Nat) : Tab := [(34, (impl_in_ent F))]
theorem impl_isDirection_tabok (F : Nat) : TabOK Try.prog (impl_isDirection_tab F) := (tab_cons (impl_in_meets F) impl_in_fok tab_nil)
noncomputable def impl_isDirection_LS0 (F : Nat) : LT := []
theorem impl_isDirection_lsok0 (F : Nat) : LoopsOK Try.prog (impl_isDirection_LS0 F) (bodyOf Try.f69) := loopsOK_nil
theorem impl_isDirection_run (F : Nat) (d0 : Int) : runS tt (impl_isDirection_tab F) (impl_isDirection_LS0 F) [] [] Try.f69 (bodyOf Try.f69) 70 [(.int .i64 d0)] [] = impl_isDirection_c _ d0 (fun r => some ⟨(.bool r), [], []⟩) := by kernel_rfl
def impl_isDirection_ent (F : Nat) : Ent := ⟨[], .quiet, fun args mem => match args, mem with
  | [(.int .i64 d0)], [] => some (true, ⟨(.bool (impl_isDirection_v d0)), [], []⟩)
  | _, _ => none⟩
theorem impl_isDirection_fok : FunOK Try.prog 69 := funOK Try.func69 (by kernel_rfl) rfl
theorem impl_isDirection_meets (F : Nat) : Meets Try.prog 69 (impl_isDirection_ent F) := by
  refine meets_of_runS mixed ttok deep (impl_isDirection_tabok F) Try.func69 (body_some rfl) (impl_isDirection_lsok0 F) fun args mem hfit ret h => ?_
  clear hfit
  simp only [impl_isDirection_ent] at h
  split at h
  · rename_i d0
    simp only [Option.some.injEq, Prod.mk.injEq] at h
    obtain ⟨hc, rfl⟩ := h
    exact ⟨[], [], 70, _, (impl_isDirection_run F d0).trans (impl_isDirection_cv _ d0 _), rfl, rfl, rfl⟩
  · cases h

/-! (loop.example/g01194/impl.Board).isMove -/
noncomputable def impl_Board_isMove_tab (F : Nat) : Tab := [(33, (impl_IsBoard_ent F)), (69, (impl_isDirection_ent F)), (45, (impl_Board_slides_ent F))]
theorem impl_Board_isMove_tabok (F : Nat) : TabOK Try.prog (impl_Board_isMove_tab F) := (tab_cons (impl_IsBoard_meets F) impl_IsBoard_fok (tab_cons (impl_isDirection_meets F) impl_isDirection_fok (tab_cons (impl_Board_slides_meets F) impl_Board_slides_fok tab_nil)))
noncomputable def impl_Board_isMove_LS0 (F : Nat) : LT := []
theorem impl_Board_isMove_lsok0 (F : Nat) : LoopsOK Try.prog (impl_Board_isMove_LS0 F) (bodyOf Try.f44) := loopsOK_nil
theorem impl_Board_isMove_run (F : Nat) (b0 : List Int) (direction1 : Int) : runS tt (impl_Board_isMove_tab F) (impl_Board_isMove_LS0 F) [] [] Try.f44 (bodyOf Try.f44) 70 [(.ints 16 b0), (.int .i64 direction1)] [] = impl_Board_isMove_c _ F b0 direction1 (fun r => some ⟨(.bool r), [], []⟩) := by kernel_rfl
def impl_Board_isMove_ent (F : Nat) : Ent := ⟨[], .quiet, fun args mem => match args, mem with
  | [(.ints 16 b0), (.int .i64 direction1)], [] => some ((impl_Board_isMove_p F b0 direction1).isSome, ⟨(.bool ((impl_Board_isMove_p F b0 direction1).getD default)), [], []⟩)
  | _, _ => none⟩
theorem impl_Board_isMove_fok : FunOK Try.prog 44 := funOK Try.func44 (by kernel_rfl) rfl
theorem impl_Board_isMove_meets (F : Nat) : Meets Try.prog 44 (impl_Board_isMove_ent F) := by
  refine meets_of_runS mixed ttok deep (impl_Board_isMove_tabok F) Try.func44 (body_some rfl) (impl_Board_isMove_lsok0 F) fun args mem hfit ret h => ?_
  clear hfit
  simp only [impl_Board_isMove_ent] at h
  split at h
  · rename_i b0 direction1
    simp only [Option.some.injEq, Prod.mk.injEq] at h
    obtain ⟨hc, rfl⟩ := h
    exact ⟨[], [], 70, _, (impl_Board_isMove_run F b0 direction1).trans ((impl_Board_isMove_cp _ F b0 direction1 _).trans (bind_use hc _)), rfl, rfl, rfl⟩
  · cases h

/-! (loop.example/g01194/impl.Board).refuted -/
noncomputable def impl_Board_refuted_n0_tab (F : Nat) : Tab := [(70, (impl_Board_placements_ent F)), (71, (impl_Board_placed_ent F)), (37, (impl_Board_lasts_n0_ent F))]
theorem impl_Board_refuted_n0_tabok (F : Nat) : TabOK Try.prog (impl_Board_refuted_n0_tab F) := (tab_cons (impl_Board_placements_meets F) impl_Board_placements_fok (tab_cons (impl_Board_placed_meets F) impl_Board_placed_fok (tab_cons (impl_Board_lasts_n0_meets F) impl_Board_lasts_n0_fok tab_nil)))
noncomputable def impl_Board_refuted_n0_LS0 (F : Nat) : LT := []
theorem impl_Board_refuted_n0_lsok0 (F : Nat) : LoopsOK Try.prog (impl_Board_refuted_n0_LS0 F) (bodyOf Try.f46) := loopsOK_nil
theorem impl_Board_refuted_n0_keys : keysOK (bodyOf Try.f46) = true := by kernel_rfl
def impl_Board_refuted_n0_st2 (t109 : Int) (b11 : List Int) (t913 : List (List Int)) (t1110 : Int) : St := ⟨expand 24 0 [1, 2, 4, 9, 10, 11] [(.int .i64 (0 : Int)), (.ptr 0 0 0 16), (.ptr 1 0 0 3), (.sl 2 0 (List.length t913)), (.int .i64 t109), (.int .i64 t1110)], [(.var 16 (.ri .i64 b11)), (.var 3 (.ri .i64 [(0 : Int), (0 : Int), (0 : Int)])), (.vec 35 (.rr 3 t913))], 0, []⟩
def impl_Board_refuted_n0_o2 (t109 : Int) (b11 : List Int) (t913 : List (List Int)) (x : Unit) : GT := (.out (.exit 0 ⟨expand 24 0 [4] [(.ptr 0 0 0 3)], [(.var 3 (.ri .i64 [(0 : Int), (0 : Int), (0 : Int)]))], 0, []⟩))
def impl_Board_refuted_n0_ls2 (F : Nat) : LoopS := ⟨24, [1, 2, 4, 9, 10, 11], [], [4], [], [4, 5], [], [], fun vals mem np killed => match vals, mem, np, killed with
  | [(.int .i64 q_n0), (.ptr 0 0 0 16), (.ptr 1 0 0 3), (.sl 2 0 q_t98), (.int .i64 t109), (.int .i64 t1110)], [(.var 16 (.ri .i64 b11)), (.var 3 (.ri .i64 q_t412)), (.vec 35 (.rr 3 t913))], 0, [] => .br ((q_n0 == (0 : Int)) && ((q_t412 == ([(0 : Int), (0 : Int), (0 : Int)] : List Int)) && ((Nat.beq q_t98 (List.length t913)) && (impl_Board_refuted_n0_l2 F t109 b11 t913 t1110).isSome))) (impl_Board_refuted_n0_o2 t109 b11 t913 ((impl_Board_refuted_n0_l2 F t109 b11 t913 t1110).getD default)) .fail
  | _, _, _, _ => .fail⟩
theorem impl_Board_refuted_n0_step2 (F : Nat) (t109 : Int) (b11 : List Int) (t913 : List (List Int)) (t1110 : Int) {R : Type} (k : Out → Option R) : stepS tt (impl_Board_refuted_n0_tab F) (impl_Board_refuted_n0_LS0 F) 70 (impl_Board_refuted_n0_ls2 F) (loopAt 2 (bodyOf Try.f46)) (impl_Board_refuted_n0_st2 t109 b11 t913 t1110) k = impl_Board_refuted_n0_s2 F t109 b11 t913 R t1110 (fun s => k (.norm (impl_Board_refuted_n0_st2 t109 b11 t913 s))) (fun x => (impl_Board_refuted_n0_o2 t109 b11 t913 x).run k) := by kernel_rfl
theorem impl_Board_refuted_n0_iter2 (F : Nat) (t109 : Int) (b11 : List Int) (t913 : List (List Int)) {R : Type} (k : Out → Option R) : ∀ (n : Nat) (t1110 : Int), iterS tt (impl_Board_refuted_n0_tab F) (impl_Board_refuted_n0_LS0 F) 70 (impl_Board_refuted_n0_ls2 F) (loopAt 2 (bodyOf Try.f46)) n (impl_Board_refuted_n0_st2 t109 b11 t913 t1110) k = loopC (impl_Board_refuted_n0_s2 F t109 b11 t913) n t1110 (fun x => (impl_Board_refuted_n0_o2 t109 b11 t913 x).run k)
  | 0, t1110 => rfl
  | n + 1, t1110 => (iterS_succ tt (impl_Board_refuted_n0_tab F) (impl_Board_refuted_n0_LS0 F) 70 (impl_Board_refuted_n0_ls2 F) (loopAt 2 (bodyOf Try.f46)) n (impl_Board_refuted_n0_st2 t109 b11 t913 t1110) k).trans ((impl_Board_refuted_n0_step2 F t109 b11 t913 t1110 (nextK (iterS tt (impl_Board_refuted_n0_tab F) (impl_Board_refuted_n0_LS0 F) 70 (impl_Board_refuted_n0_ls2 F) (loopAt 2 (bodyOf Try.f46)) n) k)).trans (congrArg (fun kn => impl_Board_refuted_n0_s2 F t109 b11 t913 R t1110 kn _) (funext (fun t1110 => impl_Board_refuted_n0_iter2 F t109 b11 t913 k n t1110))))
theorem impl_Board_refuted_n0_lok2 (F : Nat) : LoopOK Try.prog (loopAt 2 (bodyOf Try.f46)) (impl_Board_refuted_n0_ls2 F) := by
  refine loopOK_of mixed ttok deep (impl_Board_refuted_n0_tabok F) (loopsOK_at (impl_Board_refuted_n0_lsok0 F) 2) (fuel := 70) fun R vals mem np killed k x h => ?_
  simp only [impl_Board_refuted_n0_ls2] at h
  split at h
  · rename_i q_n0 q_t98 t109 t1110 b11 q_t412 t913
    simp only [GT.run] at h
    have hc := (cond_noneL h).1
    replace h := (cond_noneL h).2
    have hg := (and_split hc).1
    replace hc := (and_split hc).2
    obtain rfl := beq_int hg
    have hg := (and_split hc).1
    replace hc := (and_split hc).2
    obtain rfl := beq_li hg
    have hg := (and_split hc).1
    replace hc := (and_split hc).2
    obtain rfl := nbeq_nat hg
    refine ⟨F, (impl_Board_refuted_n0_iter2 F t109 b11 t913 k F t1110).trans ((loopC_use (impl_Board_refuted_n0_s2_nat F t109 b11 t913) hc _).trans h)⟩
  · simp only [GT.run] at h
    cases h
noncomputable def impl_Board_refuted_n0_LS1 (F : Nat) : LT := (2, impl_Board_refuted_n0_ls2 F) :: impl_Board_refuted_n0_LS0 F
theorem impl_Board_refuted_n0_lsok1 (F : Nat) : LoopsOK Try.prog (impl_Board_refuted_n0_LS1 F) (bodyOf Try.f46) := loopsOK_cons impl_Board_refuted_n0_keys (impl_Board_refuted_n0_lok2 F) (impl_Board_refuted_n0_lsok0 F)
theorem impl_Board_refuted_n0_run (F : Nat) (b0 : List Int) : runS tt (impl_Board_refuted_n0_tab F) (impl_Board_refuted_n0_LS1 F) [] [] Try.f46 (bodyOf Try.f46) 70 [(.ints 16 b0), (.int .i64 (0 : Int))] [] = impl_Board_refuted_n0_c _ F b0 (fun r => some ⟨(.tup [(.ints 3 [(0 : Int), (0 : Int), (0 : Int)]), (.bool false)]), [], []⟩) := by kernel_rfl
def impl_Board_refuted_n0_ent (F : Nat) : Ent := ⟨[], .quiet, fun args mem => match args, mem with
  | [(.ints 16 b0), (.int .i64 q_n1)], [] => bif (q_n1 == (0 : Int)) then some ((impl_Board_refuted_n0_p F b0).isSome, ⟨(.tup [(.ints 3 [(0 : Int), (0 : Int), (0 : Int)]), (.bool false)]), [], []⟩) else none
  | _, _ => none⟩
theorem impl_Board_refuted_n0_fok : FunOK Try.prog 46 := funOK Try.func46 (by kernel_rfl) rfl
theorem impl_Board_refuted_n0_meets (F : Nat) : Meets Try.prog 46 (impl_Board_refuted_n0_ent F) := by
  refine meets_of_runS mixed ttok deep (impl_Board_refuted_n0_tabok F) Try.func46 (body_some rfl) (impl_Board_refuted_n0_lsok1 F) fun args mem hfit ret h => ?_
  clear hfit
  simp only [impl_Board_refuted_n0_ent] at h
  split at h
  · rename_i b0 q_n1
    have hg0 := (cond_noneL h).1
    replace h := (cond_noneL h).2
    obtain rfl := beq_int hg0
    simp only [Option.some.injEq, Prod.mk.injEq] at h
    obtain ⟨hc, rfl⟩ := h
    exact ⟨[], [], 70, _, (impl_Board_refuted_n0_run F b0).trans ((impl_Board_refuted_n0_cp _ F b0 _).trans (bind_use hc _)), rfl, rfl, rfl⟩
  · cases h

/-! (loop.example/g01194/impl.Board).refuted -/
def impl_Board_refuted_ent (F : Nat) : Ent := ⟨[], .quiet, fun args mem => match args, mem with
  | [(.ints 16 b0), (.int .i64 n1)], [] => some ((impl_Board_refuted_p F b0 n1).isSome, ⟨(.tup [(.ints 3 ((impl_Board_refuted_p F b0 n1).getD default).1), (.bool ((impl_Board_refuted_p F b0 n1).getD default).2)]), [], []⟩)
  | _, _ => none⟩
theorem impl_Board_refuted_fok : FunOK Try.prog 46 := funOK Try.func46 (by kernel_rfl) rfl
theorem impl_Board_refuted_meets (F : Nat) : Meets Try.prog 46 (impl_Board_refuted_ent F) := by
  intro fr w ρ mem args reals hw ha ret hg
  simp only [impl_Board_refuted_ent] at hg
  split at hg
  · rename_i b0 n1
    simp only [Option.some.injEq, Prod.mk.injEq] at hg
    obtain ⟨hc, rfl⟩ := hg
    by_cases hn0 : (n1 == (0 : Int)) = true
    · obtain rfl := beq_int hn0
      have e : impl_Board_refuted_p F b0 (0 : Int) = (bif (Option.isSome (impl_Board_refuted_n0_p F b0)) then some ([(0 : Int), (0 : Int), (0 : Int)], false) else none) := by kernel_rfl
      have hg' : (impl_Board_refuted_n0_ent F).g [(.ints 16 b0), (.int .i64 (0 : Int))] [] = some ((Option.isSome (impl_Board_refuted_n0_p F b0)), ⟨(.tup [(.ints 3 [(0 : Int), (0 : Int), (0 : Int)]), (.bool false)]), [], []⟩) := by kernel_rfl
      rw [e] at hc
      have hC := isSome_cond hc
      rw [hC] at hg'
      have h9 := impl_Board_refuted_n0_meets F fr w ρ _ _ reals hw ha _ hg'
      simp only [e, hC, cond_true, Option.getD_some]
      exact h9
    · replace hn0 : (n1 == (0 : Int)) = false := by simpa using hn0
      by_cases hn1 : (n1 == (1 : Int)) = true
      · obtain rfl := beq_int hn1
        have e : impl_Board_refuted_p F b0 (1 : Int) = (bif (Option.isSome (impl_Board_refuted_n1_p F b0)) then some ((Option.getD (impl_Board_refuted_n1_p F b0) default).1, (Option.getD (impl_Board_refuted_n1_p F b0) default).2) else none) := by kernel_rfl
        have hg' : (impl_Board_refuted_n1_ent F).g [(.ints 16 b0), (.int .i64 (1 : Int))] [] = some ((Option.isSome (impl_Board_refuted_n1_p F b0)), ⟨(.tup [(.ints 3 (Option.getD (impl_Board_refuted_n1_p F b0) default).1), (.bool (Option.getD (impl_Board_refuted_n1_p F b0) default).2)]), [], []⟩) := by kernel_rfl
        rw [e] at hc
        have hC := isSome_cond hc
        rw [hC] at hg'
        have h9 := impl_Board_refuted_n1_meets F fr w ρ _ _ reals hw ha _ hg'
        simp only [e, hC, cond_true, Option.getD_some]
        exact h9
      · replace hn1 : (n1 == (1 : Int)) = false := by simpa using hn1
        by_cases hn2 : (n1 == (2 : Int)) = true
        · obtain rfl := beq_int hn2
          have e : impl_Board_refuted_p F b0 (2 : Int) = (bif (Option.isSome (impl_Board_refuted_n2_p F b0)) then some ((Option.getD (impl_Board_refuted_n2_p F b0) default).1, (Option.getD (impl_Board_refuted_n2_p F b0) default).2) else none) := by kernel_rfl
          have hg' : (impl_Board_refuted_n2_ent F).g [(.ints 16 b0), (.int .i64 (2 : Int))] [] = some ((Option.isSome (impl_Board_refuted_n2_p F b0)), ⟨(.tup [(.ints 3 (Option.getD (impl_Board_refuted_n2_p F b0) default).1), (.bool (Option.getD (impl_Board_refuted_n2_p F b0) default).2)]), [], []⟩) := by kernel_rfl
          rw [e] at hc
          have hC := isSome_cond hc
          rw [hC] at hg'
          have h9 := impl_Board_refuted_n2_meets F fr w ρ _ _ reals hw ha _ hg'
          simp only [e, hC, cond_true, Option.getD_some]
          exact h9
        · replace hn2 : (n1 == (2 : Int)) = false := by simpa using hn2
          exfalso
          have e : impl_Board_refuted_p F b0 n1 = none := by simp only [impl_Board_refuted_p, impl_Board_refuted_c, hn0, hn1, hn2, cond_false]
          rw [e] at hc
          cases hc
  · cases hg

/-! loop.example/g01194/impl.RefuteMove -/
noncomputable def impl_RefuteMove_tab (F : Nat) : Tab := [(44, (impl_Board_isMove_ent F)), (34, (impl_in_ent F)), (45, (impl_Board_slides_ent F)), (46, (impl_Board_refuted_ent F))]
theorem impl_RefuteMove_tabok (F : Nat) : TabOK Try.prog (impl_RefuteMove_tab F) := (tab_cons (impl_Board_isMove_meets F) impl_Board_isMove_fok (tab_cons (impl_in_meets F) impl_in_fok (tab_cons (impl_Board_slides_meets F) impl_Board_slides_fok (tab_cons (impl_Board_refuted_meets F) impl_Board_refuted_fok tab_nil))))
noncomputable def impl_RefuteMove_LS0 (F : Nat) : LT := []
theorem impl_RefuteMove_lsok0 (F : Nat) : LoopsOK Try.prog (impl_RefuteMove_LS0 F) (bodyOf Try.f20) := loopsOK_nil
theorem impl_RefuteMove_run (F : Nat) (b0 : List Int) (direction1 : Int) (n2 : Int) : runS tt (impl_RefuteMove_tab F) (impl_RefuteMove_LS0 F) [] [] Try.f20 (bodyOf Try.f20) 70 [(.ints 16 b0), (.int .i64 direction1), (.int .i64 n2)] [] = impl_RefuteMove_c _ F b0 direction1 n2 (fun r => some ⟨(.tup [(.ints 3 r.1), (.bool r.2)]), [], []⟩) := by kernel_rfl
def impl_RefuteMove_ent (F : Nat) : Ent := ⟨[], .quiet, fun args mem => match args, mem with
  | [(.ints 16 b0), (.int .i64 direction1), (.int .i64 n2)], [] => some ((impl_RefuteMove_p F b0 direction1 n2).isSome, ⟨(.tup [(.ints 3 ((impl_RefuteMove_p F b0 direction1 n2).getD default).1), (.bool ((impl_RefuteMove_p F b0 direction1 n2).getD default).2)]), [], []⟩)
  | _, _ => none⟩
theorem impl_RefuteMove_fok : FunOK Try.prog 20 := funOK Try.func20 (by kernel_rfl) rfl
theorem impl_RefuteMove_meets (F : Nat) : Meets Try.prog 20 (impl_RefuteMove_ent F) := by
  refine meets_of_runS mixed ttok deep (impl_RefuteMove_tabok F) Try.func20 (body_some rfl) (impl_RefuteMove_lsok0 F) fun args mem hfit ret h => ?_
  clear hfit
  simp only [impl_RefuteMove_ent] at h
  split at h
  · rename_i b0 direction1 n2
    simp only [Option.some.injEq, Prod.mk.injEq] at h
    obtain ⟨hc, rfl⟩ := h
    exact ⟨[], [], 70, _, (impl_RefuteMove_run F b0 direction1 n2).trans ((impl_RefuteMove_cp _ F b0 direction1 n2 _).trans (bind_use hc _)), rfl, rfl, rfl⟩
  · cases h

/-! loop.example/g01194/laws.eqIntA3 -/
noncomputable def laws_eqIntA3_tab (F : Nat) : Tab := []
theorem laws_eqIntA3_tabok (F : Nat) : TabOK Try.prog (laws_eqIntA3_tab F) := tab_nil
noncomputable def laws_eqIntA3_LS0 (F : Nat) : LT := []
theorem laws_eqIntA3_lsok0 (F : Nat) : LoopsOK Try.prog (laws_eqIntA3_LS0 F) (bodyOf Try.f21) := loopsOK_nil
theorem laws_eqIntA3_keys : keysOK (bodyOf Try.f21) = true := by kernel_rfl
def laws_eqIntA3_st2 (a7 : List Int) (b8 : List Int) (i6 : Int) : St := ⟨expand 17 0 [2, 3, 5] [(.ptr 0 0 0 3), (.ptr 1 0 0 3), (.int .i64 i6)], [(.var 3 (.ri .i64 a7)), (.var 3 (.ri .i64 b8))], 0, []⟩
def laws_eqIntA3_o2 (a7 : List Int) (b8 : List Int) (x : Bool) : GT := (.br x (.out (.ret ⟨expand 17 0 [4] [(.bool false)], [], 0, []⟩)) (.out (.exit 0 ⟨expand 17 0 [] [], [], 0, []⟩)))
def laws_eqIntA3_ls2 (F : Nat) : LoopS := ⟨17, [2, 3, 5], [], [], [], [4], [], [], fun vals mem np killed => match vals, mem, np, killed with
  | [(.ptr 0 0 0 3), (.ptr 1 0 0 3), (.int .i64 i6)], [(.var 3 (.ri .i64 a7)), (.var 3 (.ri .i64 b8))], 0, [] => .br (laws_eqIntA3_l2 F a7 b8 i6).isSome (laws_eqIntA3_o2 a7 b8 ((laws_eqIntA3_l2 F a7 b8 i6).getD default)) .fail
  | _, _, _, _ => .fail⟩
theorem laws_eqIntA3_step2 (F : Nat) (a7 : List Int) (b8 : List Int) (i6 : Int) {R : Type} (k : Out → Option R) : stepS tt (laws_eqIntA3_tab F) (laws_eqIntA3_LS0 F) 70 (laws_eqIntA3_ls2 F) (loopAt 2 (bodyOf Try.f21)) (laws_eqIntA3_st2 a7 b8 i6) k = laws_eqIntA3_s2 F a7 b8 R i6 (fun s => k (.norm (laws_eqIntA3_st2 a7 b8 s))) (fun x => (laws_eqIntA3_o2 a7 b8 x).run k) := by kernel_rfl
theorem laws_eqIntA3_iter2 (F : Nat) (a7 : List Int) (b8 : List Int) {R : Type} (k : Out → Option R) : ∀ (n : Nat) (i6 : Int), iterS tt (laws_eqIntA3_tab F) (laws_eqIntA3_LS0 F) 70 (laws_eqIntA3_ls2 F) (loopAt 2 (bodyOf Try.f21)) n (laws_eqIntA3_st2 a7 b8 i6) k = loopC (laws_eqIntA3_s2 F a7 b8) n i6 (fun x => (laws_eqIntA3_o2 a7 b8 x).run k)
  | 0, i6 => rfl
  | n + 1, i6 => (iterS_succ tt (laws_eqIntA3_tab F) (laws_eqIntA3_LS0 F) 70 (laws_eqIntA3_ls2 F) (loopAt 2 (bodyOf Try.f21)) n (laws_eqIntA3_st2 a7 b8 i6) k).trans ((laws_eqIntA3_step2 F a7 b8 i6 (nextK (iterS tt (laws_eqIntA3_tab F) (laws_eqIntA3_LS0 F) 70 (laws_eqIntA3_ls2 F) (loopAt 2 (bodyOf Try.f21)) n) k)).trans (congrArg (fun kn => laws_eqIntA3_s2 F a7 b8 R i6 kn _) (funext (fun i6 => laws_eqIntA3_iter2 F a7 b8 k n i6))))
theorem laws_eqIntA3_lok2 (F : Nat) : LoopOK Try.prog (loopAt 2 (bodyOf Try.f21)) (laws_eqIntA3_ls2 F) := by
  refine loopOK_of mixed ttok deep (laws_eqIntA3_tabok F) (loopsOK_at (laws_eqIntA3_lsok0 F) 2) (fuel := 70) fun R vals mem np killed k x h => ?_
  simp only [laws_eqIntA3_ls2] at h
  split at h
  · rename_i i6 a7 b8
    simp only [GT.run] at h
    have hc := (cond_noneL h).1
    replace h := (cond_noneL h).2
    refine ⟨F, (laws_eqIntA3_iter2 F a7 b8 k F i6).trans ((loopC_use (laws_eqIntA3_s2_nat F a7 b8) hc _).trans h)⟩
  · simp only [GT.run] at h
    cases h
noncomputable def laws_eqIntA3_LS1 (F : Nat) : LT := (2, laws_eqIntA3_ls2 F) :: laws_eqIntA3_LS0 F
theorem laws_eqIntA3_lsok1 (F : Nat) : LoopsOK Try.prog (laws_eqIntA3_LS1 F) (bodyOf Try.f21) := loopsOK_cons laws_eqIntA3_keys (laws_eqIntA3_lok2 F) (laws_eqIntA3_lsok0 F)
theorem laws_eqIntA3_run (F : Nat) (a0 : List Int) (b1 : List Int) : runS tt (laws_eqIntA3_tab F) (laws_eqIntA3_LS1 F) [] [] Try.f21 (bodyOf Try.f21) 70 [(.ints 3 a0), (.ints 3 b1)] [] = laws_eqIntA3_c _ F a0 b1 (fun r => some ⟨(.bool r), [], []⟩) := by kernel_rfl
def laws_eqIntA3_ent (F : Nat) : Ent := ⟨[], .quiet, fun args mem => match args, mem with
  | [(.ints 3 a0), (.ints 3 b1)], [] => some ((laws_eqIntA3_p F a0 b1).isSome, ⟨(.bool ((laws_eqIntA3_p F a0 b1).getD default)), [], []⟩)
  | _, _ => none⟩
theorem laws_eqIntA3_fok : FunOK Try.prog 21 := funOK Try.func21 (by kernel_rfl) rfl
theorem laws_eqIntA3_meets (F : Nat) : Meets Try.prog 21 (laws_eqIntA3_ent F) := by
  refine meets_of_runS mixed ttok deep (laws_eqIntA3_tabok F) Try.func21 (body_some rfl) (laws_eqIntA3_lsok1 F) fun args mem hfit ret h => ?_
  clear hfit
  simp only [laws_eqIntA3_ent] at h
  split at h
  · rename_i a0 b1
    simp only [Option.some.injEq, Prod.mk.injEq] at h
    obtain ⟨hc, rfl⟩ := h
    exact ⟨[], [], 70, _, (laws_eqIntA3_run F a0 b1).trans ((laws_eqIntA3_cp _ F a0 b1 _).trans (bind_use hc _)), rfl, rfl, rfl⟩
  · cases h

/-! loop.example/g01194/laws.FnExactRefuteMove -/
noncomputable def laws_FnExactRefuteMove_tab (F : Nat) : Tab := [(11, (laws_toBoard_ent F)), (19, (spec_RefuteMove_ent F)), (20, (impl_RefuteMove_ent F)), (21, (laws_eqIntA3_ent F))]
theorem laws_FnExactRefuteMove_tabok (F : Nat) : TabOK Try.prog (laws_FnExactRefuteMove_tab F) := (tab_cons (laws_toBoard_meets F) laws_toBoard_fok (tab_cons (spec_RefuteMove_meets F) spec_RefuteMove_fok (tab_cons (impl_RefuteMove_meets F) impl_RefuteMove_fok (tab_cons (laws_eqIntA3_meets F) laws_eqIntA3_fok tab_nil))))
noncomputable def laws_FnExactRefuteMove_LS0 (F : Nat) : LT := []
theorem laws_FnExactRefuteMove_lsok0 (F : Nat) : LoopsOK Try.prog (laws_FnExactRefuteMove_LS0 F) (bodyOf Try.f7) := loopsOK_nil
theorem laws_FnExactRefuteMove_run (F : Nat) (aB0 : List Int) (aDirection1 : Int) (aN2 : Int) : runS tt (laws_FnExactRefuteMove_tab F) (laws_FnExactRefuteMove_LS0 F) [] [] Try.f7 (bodyOf Try.f7) 70 [(.ints 16 aB0), (.int .i64 aDirection1), (.int .i64 aN2)] [] = laws_FnExactRefuteMove_c _ F aB0 aDirection1 aN2 (fun r => some ⟨(.bool r), [], []⟩) := by kernel_rfl
def laws_FnExactRefuteMove_ent (F : Nat) : Ent := ⟨[], .quiet, fun args mem => match args, mem with
  | [(.ints 16 aB0), (.int .i64 aDirection1), (.int .i64 aN2)], [] => some ((laws_FnExactRefuteMove_p F aB0 aDirection1 aN2).isSome, ⟨(.bool ((laws_FnExactRefuteMove_p F aB0 aDirection1 aN2).getD default)), [], []⟩)
  | _, _ => none⟩
theorem laws_FnExactRefuteMove_fok : FunOK Try.prog 7 := funOK Try.func7 (by kernel_rfl) rfl
theorem laws_FnExactRefuteMove_meets (F : Nat) : Meets Try.prog 7 (laws_FnExactRefuteMove_ent F) := by
  refine meets_of_runS mixed ttok deep (laws_FnExactRefuteMove_tabok F) Try.func7 (body_some rfl) (laws_FnExactRefuteMove_lsok0 F) fun args mem hfit ret h => ?_
  clear hfit
  simp only [laws_FnExactRefuteMove_ent] at h
  split at h
  · rename_i aB0 aDirection1 aN2
    simp only [Option.some.injEq, Prod.mk.injEq] at h
    obtain ⟨hc, rfl⟩ := h
    exact ⟨[], [], 70, _, (laws_FnExactRefuteMove_run F aB0 aDirection1 aN2).trans ((laws_FnExactRefuteMove_cp _ F aB0 aDirection1 aN2 _).trans (bind_use hc _)), rfl, rfl, rfl⟩
  · cases h

/-! loop.example/g01194/spec.l8Least -/
def spec_l8Least_ent (F : Nat) : Ent := ⟨[], .quiet, fun args mem => match args, mem with
  | [(.ints 16 next0), (.int .i64 n1)], [] => some ((spec_l8Least_p F next0 n1).isSome, ⟨(.tup [(.ints 3 ((spec_l8Least_p F next0 n1).getD default).1), (.int .i64 ((spec_l8Least_p F next0 n1).getD default).2)]), [], []⟩)
  | _, _ => none⟩
theorem spec_l8Least_fok : FunOK Try.prog 47 := funOK Try.func47 (by kernel_rfl) rfl
theorem spec_l8Least_meets (F : Nat) : Meets Try.prog 47 (spec_l8Least_ent F) := by
  intro fr w ρ mem args reals hw ha ret hg
  simp only [spec_l8Least_ent] at hg
  split at hg
  · rename_i next0 n1
    simp only [Option.some.injEq, Prod.mk.injEq] at hg
    obtain ⟨hc, rfl⟩ := hg
    by_cases hn0 : (n1 == (0 : Int)) = true
    · obtain rfl := beq_int hn0
      have e : spec_l8Least_p F next0 (0 : Int) = (bif (Option.isSome (spec_l8Least_n0_p F next0)) then some ((Option.getD (spec_l8Least_n0_p F next0) default), (0 : Int)) else none) := by kernel_rfl
      have hg' : (spec_l8Least_n0_ent F).g [(.ints 16 next0), (.int .i64 (0 : Int))] [] = some ((Option.isSome (spec_l8Least_n0_p F next0)), ⟨(.tup [(.ints 3 (Option.getD (spec_l8Least_n0_p F next0) default)), (.int .i64 (0 : Int))]), [], []⟩) := by kernel_rfl
      rw [e] at hc
      have hC := isSome_cond hc
      rw [hC] at hg'
      have h9 := spec_l8Least_n0_meets F fr w ρ _ _ reals hw ha _ hg'
      simp only [e, hC, cond_true, Option.getD_some]
      exact h9
    · replace hn0 : (n1 == (0 : Int)) = false := by simpa using hn0
      by_cases hn1 : (n1 == (1 : Int)) = true
      · obtain rfl := beq_int hn1
        have e : spec_l8Least_p F next0 (1 : Int) = (bif (Option.isSome (spec_l8Least_n1_p F next0)) then some ((Option.getD (spec_l8Least_n1_p F next0) default).1, (Option.getD (spec_l8Least_n1_p F next0) default).2) else none) := by kernel_rfl
        have hg' : (spec_l8Least_n1_ent F).g [(.ints 16 next0), (.int .i64 (1 : Int))] [] = some ((Option.isSome (spec_l8Least_n1_p F next0)), ⟨(.tup [(.ints 3 (Option.getD (spec_l8Least_n1_p F next0) default).1), (.int .i64 (Option.getD (spec_l8Least_n1_p F next0) default).2)]), [], []⟩) := by kernel_rfl
        rw [e] at hc
        have hC := isSome_cond hc
        rw [hC] at hg'
        have h9 := spec_l8Least_n1_meets F fr w ρ _ _ reals hw ha _ hg'
        simp only [e, hC, cond_true, Option.getD_some]
        exact h9
      · replace hn1 : (n1 == (1 : Int)) = false := by simpa using hn1
        exfalso
        have e : spec_l8Least_p F next0 n1 = none := by simp only [spec_l8Least_p, spec_l8Least_c, hn0, hn1, cond_false]
        rw [e] at hc
        cases hc
  · cases hg

/-! loop.example/g01194/spec.WorstReply -/
noncomputable def spec_WorstReply_tab (F : Nat) : Tab := [(29, (spec_l2Board_ent F)), (41, (spec_l2Side_ent F)), (30, (spec_l1In_ent F)), (42, (spec_l2Slide_ent F)), (47, (spec_l8Least_ent F))]
theorem spec_WorstReply_tabok (F : Nat) : TabOK Try.prog (spec_WorstReply_tab F) := (tab_cons (spec_l2Board_meets F) spec_l2Board_fok (tab_cons (spec_l2Side_meets F) spec_l2Side_fok (tab_cons (spec_l1In_meets F) spec_l1In_fok (tab_cons (spec_l2Slide_meets F) spec_l2Slide_fok (tab_cons (spec_l8Least_meets F) spec_l8Least_fok tab_nil)))))
noncomputable def spec_WorstReply_LS0 (F : Nat) : LT := []
theorem spec_WorstReply_lsok0 (F : Nat) : LoopsOK Try.prog (spec_WorstReply_LS0 F) (bodyOf Try.f22) := loopsOK_nil
theorem spec_WorstReply_run (F : Nat) (b0 : List Int) (direction1 : Int) (n2 : Int) : runS tt (spec_WorstReply_tab F) (spec_WorstReply_LS0 F) [] [] Try.f22 (bodyOf Try.f22) 70 [(.ints 16 b0), (.int .i64 direction1), (.int .i64 n2)] [] = spec_WorstReply_c _ F b0 direction1 n2 (fun r => some ⟨(.tup [(.ints 3 r.1), (.int .i64 r.2.1), (.bool r.2.2)]), [], []⟩) := by kernel_rfl
def spec_WorstReply_ent (F : Nat) : Ent := ⟨[], .quiet, fun args mem => match args, mem with
  | [(.ints 16 b0), (.int .i64 direction1), (.int .i64 n2)], [] => some ((spec_WorstReply_p F b0 direction1 n2).isSome, ⟨(.tup [(.ints 3 ((spec_WorstReply_p F b0 direction1 n2).getD default).1), (.int .i64 ((spec_WorstReply_p F b0 direction1 n2).getD default).2.1), (.bool ((spec_WorstReply_p F b0 direction1 n2).getD default).2.2)]), [], []⟩)
  | _, _ => none⟩
theorem spec_WorstReply_fok : FunOK Try.prog 22 := funOK Try.func22 (by kernel_rfl) rfl
theorem spec_WorstReply_meets (F : Nat) : Meets Try.prog 22 (spec_WorstReply_ent F) := by
  refine meets_of_runS mixed ttok deep (spec_WorstReply_tabok F) Try.func22 (body_some rfl) (spec_WorstReply_lsok0 F) fun args mem hfit ret h => ?_
  clear hfit
  simp only [spec_WorstReply_ent] at h
  split at h
  · rename_i b0 direction1 n2
    simp only [Option.some.injEq, Prod.mk.injEq] at h
    obtain ⟨hc, rfl⟩ := h
    exact ⟨[], [], 70, _, (spec_WorstReply_run F b0 direction1 n2).trans ((spec_WorstReply_cp _ F b0 direction1 n2 _).trans (bind_use hc _)), rfl, rfl, rfl⟩
  · cases h

/-! loop.example/g01194/impl.WorstReply$1 -/
noncomputable def impl_WorstReply_f1_tab (F : Nat) : Tab := [(35, (impl_Board_sure_ent F))]
theorem impl_WorstReply_f1_tabok (F : Nat) : TabOK Try.prog (impl_WorstReply_f1_tab F) := (tab_cons (impl_Board_sure_meets F) impl_Board_sure_fok tab_nil)
noncomputable def impl_WorstReply_f1_LS0 (F : Nat) : LT := []
theorem impl_WorstReply_f1_lsok0 (F : Nat) : LoopsOK Try.prog (impl_WorstReply_f1_LS0 F) (bodyOf Try.f49) := loopsOK_nil
theorem impl_WorstReply_f1_run (F : Nat) (own0 : List Int) (a14 : List Int) : runS tt (impl_WorstReply_f1_tab F) (impl_WorstReply_f1_LS0 F) [] [] Try.f49 (bodyOf Try.f49) 70 [(.ints 16 own0), (.ptr 0 0 0 1)] [(.var 1 (.ri .i64 a14))] = impl_WorstReply_f1_c _ F own0 a14 (fun r => some ⟨(.int .i64 r), [(.var 1 (.ri .i64 a14))], []⟩) := by kernel_rfl
def impl_WorstReply_f1_ent (F : Nat) : Ent := ⟨[], .quiet, fun args mem => match args, mem with
  | [(.ints 16 own0), (.ptr 0 0 0 1)], [(.var 1 (.ri .i64 a14))] => some ((impl_WorstReply_f1_p F own0 a14).isSome, ⟨(.int .i64 ((impl_WorstReply_f1_p F own0 a14).getD default)), [], []⟩)
  | _, _ => none⟩
theorem impl_WorstReply_f1_fok : FunOK Try.prog 49 := funOK Try.func49 (by kernel_rfl) rfl
theorem impl_WorstReply_f1_meets (F : Nat) : Meets Try.prog 49 (impl_WorstReply_f1_ent F) := by
  refine meets_of_runS mixed ttok deep (impl_WorstReply_f1_tabok F) Try.func49 (body_some rfl) (impl_WorstReply_f1_lsok0 F) fun args mem hfit ret h => ?_
  clear hfit
  simp only [impl_WorstReply_f1_ent] at h
  split at h
  · rename_i own0 a14
    simp only [Option.some.injEq, Prod.mk.injEq] at h
    obtain ⟨hc, rfl⟩ := h
    exact ⟨[], [], 70, _, (impl_WorstReply_f1_run F own0 a14).trans ((impl_WorstReply_f1_cp _ F own0 a14 _).trans (bind_use hc _)), rfl, rfl, rfl⟩
  · cases h

/-! (loop.example/g01194/impl.Board).worst -/
noncomputable def impl_Board_worst_impl_WorstReply_f1_tab (F : Nat) : Tab := [(70, (impl_Board_placements_ent F)), (71, (impl_Board_placed_ent F)), (49, (impl_WorstReply_f1_ent F))]
theorem impl_Board_worst_impl_WorstReply_f1_tabok (F : Nat) : TabOK Try.prog (impl_Board_worst_impl_WorstReply_f1_tab F) := (tab_cons (impl_Board_placements_meets F) impl_Board_placements_fok (tab_cons (impl_Board_placed_meets F) impl_Board_placed_fok (tab_cons (impl_WorstReply_f1_meets F) impl_WorstReply_f1_fok tab_nil)))
noncomputable def impl_Board_worst_impl_WorstReply_f1_LS0 (F : Nat) : LT := []
theorem impl_Board_worst_impl_WorstReply_f1_lsok0 (F : Nat) : LoopsOK Try.prog (impl_Board_worst_impl_WorstReply_f1_LS0 F) (bodyOf Try.f48) := loopsOK_nil
theorem impl_Board_worst_impl_WorstReply_f1_keys : keysOK (bodyOf Try.f48) = true := by kernel_rfl
def impl_Board_worst_impl_WorstReply_f1_st3 (t1415 : Int) (of17 : List Int) (b18 : List Int) (t1321 : List (List Int)) (least12 : Int) (t1516 : Int) (out20 : List Int) : St := ⟨expand 36 0 [1, 2, 4, 6, 7, 13, 14, 15] [(.fn 49 [] [(.ptr 0 0 0 1)]), (.ptr 1 0 0 16), (.ptr 2 0 0 3), (.ptr 3 0 0 3), (.int .i64 least12), (.sl 4 0 (List.length t1321)), (.int .i64 t1415), (.int .i64 t1516)], [(.var 1 (.ri .i64 of17)), (.var 16 (.ri .i64 b18)), (.var 3 (.ri .i64 [(0 : Int), (0 : Int), (0 : Int)])), (.var 3 (.ri .i64 out20)), (.vec 35 (.rr 3 t1321))], 1, []⟩
def impl_Board_worst_impl_WorstReply_f1_o3 (t1415 : Int) (of17 : List Int) (b18 : List Int) (t1321 : List (List Int)) (x : Int × List Int) : GT := (.out (.exit 0 ⟨expand 36 0 [4, 6, 7] [(.ptr 1 0 0 3), (.ptr 2 0 0 3), (.int .i64 x.1)], [(.var 1 (.ri .i64 of17)), (.var 3 (.ri .i64 [(0 : Int), (0 : Int), (0 : Int)])), (.var 3 (.ri .i64 x.2))], 1, []⟩))
def impl_Board_worst_impl_WorstReply_f1_ls3 (F : Nat) : LoopS := ⟨36, [1, 2, 4, 6, 7, 13, 14, 15], [], [4, 6, 7], [], [4, 5], [], [], fun vals mem np killed => match vals, mem, np, killed with
  | [(.fn 49 [] [(.ptr 0 0 0 1)]), (.ptr 1 0 0 16), (.ptr 2 0 0 3), (.ptr 3 0 0 3), (.int .i64 least12), (.sl 4 0 q_t1314), (.int .i64 t1415), (.int .i64 t1516)], [(.var 1 (.ri .i64 of17)), (.var 16 (.ri .i64 b18)), (.var 3 (.ri .i64 q_t419)), (.var 3 (.ri .i64 out20)), (.vec 35 (.rr 3 t1321))], 1, [] => .br ((q_t419 == ([(0 : Int), (0 : Int), (0 : Int)] : List Int)) && ((Nat.beq q_t1314 (List.length t1321)) && (impl_Board_worst_impl_WorstReply_f1_l3 F t1415 of17 b18 t1321 least12 t1516 out20).isSome)) (impl_Board_worst_impl_WorstReply_f1_o3 t1415 of17 b18 t1321 ((impl_Board_worst_impl_WorstReply_f1_l3 F t1415 of17 b18 t1321 least12 t1516 out20).getD default)) .fail
  | _, _, _, _ => .fail⟩
theorem impl_Board_worst_impl_WorstReply_f1_step3 (F : Nat) (t1415 : Int) (of17 : List Int) (b18 : List Int) (t1321 : List (List Int)) (least12 : Int) (t1516 : Int) (out20 : List Int) {R : Type} (k : Out → Option R) : stepS tt (impl_Board_worst_impl_WorstReply_f1_tab F) (impl_Board_worst_impl_WorstReply_f1_LS0 F) 70 (impl_Board_worst_impl_WorstReply_f1_ls3 F) (loopAt 3 (bodyOf Try.f48)) (impl_Board_worst_impl_WorstReply_f1_st3 t1415 of17 b18 t1321 least12 t1516 out20) k = impl_Board_worst_impl_WorstReply_f1_s3 F t1415 of17 b18 t1321 R (least12, t1516, out20) (fun s => k (.norm (impl_Board_worst_impl_WorstReply_f1_st3 t1415 of17 b18 t1321 s.1 s.2.1 s.2.2))) (fun x => (impl_Board_worst_impl_WorstReply_f1_o3 t1415 of17 b18 t1321 x).run k) := by kernel_rfl
theorem impl_Board_worst_impl_WorstReply_f1_iter3 (F : Nat) (t1415 : Int) (of17 : List Int) (b18 : List Int) (t1321 : List (List Int)) {R : Type} (k : Out → Option R) : ∀ (n : Nat) (least12 : Int) (t1516 : Int) (out20 : List Int), iterS tt (impl_Board_worst_impl_WorstReply_f1_tab F) (impl_Board_worst_impl_WorstReply_f1_LS0 F) 70 (impl_Board_worst_impl_WorstReply_f1_ls3 F) (loopAt 3 (bodyOf Try.f48)) n (impl_Board_worst_impl_WorstReply_f1_st3 t1415 of17 b18 t1321 least12 t1516 out20) k = loopC (impl_Board_worst_impl_WorstReply_f1_s3 F t1415 of17 b18 t1321) n (least12, t1516, out20) (fun x => (impl_Board_worst_impl_WorstReply_f1_o3 t1415 of17 b18 t1321 x).run k)
  | 0, least12, t1516, out20 => rfl
  | n + 1, least12, t1516, out20 => (iterS_succ tt (impl_Board_worst_impl_WorstReply_f1_tab F) (impl_Board_worst_impl_WorstReply_f1_LS0 F) 70 (impl_Board_worst_impl_WorstReply_f1_ls3 F) (loopAt 3 (bodyOf Try.f48)) n (impl_Board_worst_impl_WorstReply_f1_st3 t1415 of17 b18 t1321 least12 t1516 out20) k).trans ((impl_Board_worst_impl_WorstReply_f1_step3 F t1415 of17 b18 t1321 least12 t1516 out20 (nextK (iterS tt (impl_Board_worst_impl_WorstReply_f1_tab F) (impl_Board_worst_impl_WorstReply_f1_LS0 F) 70 (impl_Board_worst_impl_WorstReply_f1_ls3 F) (loopAt 3 (bodyOf Try.f48)) n) k)).trans (congrArg (fun kn => impl_Board_worst_impl_WorstReply_f1_s3 F t1415 of17 b18 t1321 R (least12, t1516, out20) kn _) (funext (fun ⟨least12, t1516, out20⟩ => impl_Board_worst_impl_WorstReply_f1_iter3 F t1415 of17 b18 t1321 k n least12 t1516 out20))))
theorem impl_Board_worst_impl_WorstReply_f1_lok3 (F : Nat) : LoopOK Try.prog (loopAt 3 (bodyOf Try.f48)) (impl_Board_worst_impl_WorstReply_f1_ls3 F) := by
  refine loopOK_of mixed ttok deep (impl_Board_worst_impl_WorstReply_f1_tabok F) (loopsOK_at (impl_Board_worst_impl_WorstReply_f1_lsok0 F) 3) (fuel := 70) fun R vals mem np killed k x h => ?_
  simp only [impl_Board_worst_impl_WorstReply_f1_ls3] at h
  split at h
  · rename_i least12 q_t1314 t1415 t1516 of17 b18 q_t419 out20 t1321
    simp only [GT.run] at h
    have hc := (cond_noneL h).1
    replace h := (cond_noneL h).2
    have hg := (and_split hc).1
    replace hc := (and_split hc).2
    obtain rfl := beq_li hg
    have hg := (and_split hc).1
    replace hc := (and_split hc).2
    obtain rfl := nbeq_nat hg
    refine ⟨F, (impl_Board_worst_impl_WorstReply_f1_iter3 F t1415 of17 b18 t1321 k F least12 t1516 out20).trans ((loopC_use (impl_Board_worst_impl_WorstReply_f1_s3_nat F t1415 of17 b18 t1321) hc _).trans h)⟩
  · simp only [GT.run] at h
    cases h
noncomputable def impl_Board_worst_impl_WorstReply_f1_LS1 (F : Nat) : LT := (3, impl_Board_worst_impl_WorstReply_f1_ls3 F) :: impl_Board_worst_impl_WorstReply_f1_LS0 F
theorem impl_Board_worst_impl_WorstReply_f1_lsok1 (F : Nat) : LoopsOK Try.prog (impl_Board_worst_impl_WorstReply_f1_LS1 F) (bodyOf Try.f48) := loopsOK_cons impl_Board_worst_impl_WorstReply_f1_keys (impl_Board_worst_impl_WorstReply_f1_lok3 F) (impl_Board_worst_impl_WorstReply_f1_lsok0 F)
theorem impl_Board_worst_impl_WorstReply_f1_run (F : Nat) (b0 : List Int) (of4 : List Int) : runS tt (impl_Board_worst_impl_WorstReply_f1_tab F) (impl_Board_worst_impl_WorstReply_f1_LS1 F) [] [] Try.f48 (bodyOf Try.f48) 70 [(.ints 16 b0), (.fn 49 [] [(.ptr 0 0 0 1)])] [(.var 1 (.ri .i64 of4))] = impl_Board_worst_impl_WorstReply_f1_c _ F b0 of4 (fun r => some ⟨(.tup [(.ints 3 r.1), (.int .i64 r.2)]), [(.var 1 (.ri .i64 of4))], []⟩) := by kernel_rfl
def impl_Board_worst_impl_WorstReply_f1_ent (F : Nat) : Ent := ⟨[], .quiet, fun args mem => match args, mem with
  | [(.ints 16 b0), (.fn 49 [] [(.ptr 0 0 0 1)])], [(.var 1 (.ri .i64 of4))] => some ((impl_Board_worst_impl_WorstReply_f1_p F b0 of4).isSome, ⟨(.tup [(.ints 3 ((impl_Board_worst_impl_WorstReply_f1_p F b0 of4).getD default).1), (.int .i64 ((impl_Board_worst_impl_WorstReply_f1_p F b0 of4).getD default).2)]), [], []⟩)
  | _, _ => none⟩
theorem impl_Board_worst_impl_WorstReply_f1_fok : FunOK Try.prog 48 := funOK Try.func48 (by kernel_rfl) rfl
theorem impl_Board_worst_impl_WorstReply_f1_meets (F : Nat) : Meets Try.prog 48 (impl_Board_worst_impl_WorstReply_f1_ent F) := by
  refine meets_of_runS mixed ttok deep (impl_Board_worst_impl_WorstReply_f1_tabok F) Try.func48 (body_some rfl) (impl_Board_worst_impl_WorstReply_f1_lsok1 F) fun args mem hfit ret h => ?_
  clear hfit
  simp only [impl_Board_worst_impl_WorstReply_f1_ent] at h
  split at h
  · rename_i b0 of4
    simp only [Option.some.injEq, Prod.mk.injEq] at h
    obtain ⟨hc, rfl⟩ := h
    exact ⟨[], [], 70, _, (impl_Board_worst_impl_WorstReply_f1_run F b0 of4).trans ((impl_Board_worst_impl_WorstReply_f1_cp _ F b0 of4 _).trans (bind_use hc _)), rfl, rfl, rfl⟩
  · cases h

/-! loop.example/g01194/impl.WorstReply -/
noncomputable def impl_WorstReply_tab (F : Nat) : Tab := [(44, (impl_Board_isMove_ent F)), (34, (impl_in_ent F)), (45, (impl_Board_slides_ent F)), (48, (impl_Board_worst_impl_WorstReply_f1_ent F))]
theorem impl_WorstReply_tabok (F : Nat) : TabOK Try.prog (impl_WorstReply_tab F) := (tab_cons (impl_Board_isMove_meets F) impl_Board_isMove_fok (tab_cons (impl_in_meets F) impl_in_fok (tab_cons (impl_Board_slides_meets F) impl_Board_slides_fok (tab_cons (impl_Board_worst_impl_WorstReply_f1_meets F) impl_Board_worst_impl_WorstReply_f1_fok tab_nil))))
noncomputable def impl_WorstReply_LS0 (F : Nat) : LT := []
theorem impl_WorstReply_lsok0 (F : Nat) : LoopsOK Try.prog (impl_WorstReply_LS0 F) (bodyOf Try.f23) := loopsOK_nil
theorem impl_WorstReply_run (F : Nat) (b0 : List Int) (direction1 : Int) (n2 : Int) : runS tt (impl_WorstReply_tab F) (impl_WorstReply_LS0 F) [] [] Try.f23 (bodyOf Try.f23) 70 [(.ints 16 b0), (.int .i64 direction1), (.int .i64 n2)] [] = impl_WorstReply_c _ F b0 direction1 n2 (fun r => some ⟨(.tup [(.ints 3 r.1), (.int .i64 r.2.1), (.bool r.2.2)]), [], []⟩) := by kernel_rfl
def impl_WorstReply_ent (F : Nat) : Ent := ⟨[], .quiet, fun args mem => match args, mem with
  | [(.ints 16 b0), (.int .i64 direction1), (.int .i64 n2)], [] => some ((impl_WorstReply_p F b0 direction1 n2).isSome, ⟨(.tup [(.ints 3 ((impl_WorstReply_p F b0 direction1 n2).getD default).1), (.int .i64 ((impl_WorstReply_p F b0 direction1 n2).getD default).2.1), (.bool ((impl_WorstReply_p F b0 direction1 n2).getD default).2.2)]), [], []⟩)
  | _, _ => none⟩
theorem impl_WorstReply_fok : FunOK Try.prog 23 := funOK Try.func23 (by kernel_rfl) rfl
theorem impl_WorstReply_meets (F : Nat) : Meets Try.prog 23 (impl_WorstReply_ent F) := by
  refine meets_of_runS mixed ttok deep (impl_WorstReply_tabok F) Try.func23 (body_some rfl) (impl_WorstReply_lsok0 F) fun args mem hfit ret h => ?_
  clear hfit
  simp only [impl_WorstReply_ent] at h
  split at h
  · rename_i b0 direction1 n2
    simp only [Option.some.injEq, Prod.mk.injEq] at h
    obtain ⟨hc, rfl⟩ := h
    exact ⟨[], [], 70, _, (impl_WorstReply_run F b0 direction1 n2).trans ((impl_WorstReply_cp _ F b0 direction1 n2 _).trans (bind_use hc _)), rfl, rfl, rfl⟩
  · cases h

/-! loop.example/g01194/laws.FnExactWorstReply -/
noncomputable def laws_FnExactWorstReply_tab (F : Nat) : Tab := [(11, (laws_toBoard_ent F)), (22, (spec_WorstReply_ent F)), (23, (impl_WorstReply_ent F)), (21, (laws_eqIntA3_ent F))]
theorem laws_FnExactWorstReply_tabok (F : Nat) : TabOK Try.prog (laws_FnExactWorstReply_tab F) := (tab_cons (laws_toBoard_meets F) laws_toBoard_fok (tab_cons (spec_WorstReply_meets F) spec_WorstReply_fok (tab_cons (impl_WorstReply_meets F) impl_WorstReply_fok (tab_cons (laws_eqIntA3_meets F) laws_eqIntA3_fok tab_nil))))
noncomputable def laws_FnExactWorstReply_LS0 (F : Nat) : LT := []
theorem laws_FnExactWorstReply_lsok0 (F : Nat) : LoopsOK Try.prog (laws_FnExactWorstReply_LS0 F) (bodyOf Try.f8) := loopsOK_nil
theorem laws_FnExactWorstReply_run (F : Nat) (aB0 : List Int) (aDirection1 : Int) (aN2 : Int) : runS tt (laws_FnExactWorstReply_tab F) (laws_FnExactWorstReply_LS0 F) [] [] Try.f8 (bodyOf Try.f8) 70 [(.ints 16 aB0), (.int .i64 aDirection1), (.int .i64 aN2)] [] = laws_FnExactWorstReply_c _ F aB0 aDirection1 aN2 (fun r => some ⟨(.bool r), [], []⟩) := by kernel_rfl
def laws_FnExactWorstReply_ent (F : Nat) : Ent := ⟨[], .quiet, fun args mem => match args, mem with
  | [(.ints 16 aB0), (.int .i64 aDirection1), (.int .i64 aN2)], [] => some ((laws_FnExactWorstReply_p F aB0 aDirection1 aN2).isSome, ⟨(.bool ((laws_FnExactWorstReply_p F aB0 aDirection1 aN2).getD default)), [], []⟩)
  | _, _ => none⟩
theorem laws_FnExactWorstReply_fok : FunOK Try.prog 8 := funOK Try.func8 (by kernel_rfl) rfl
theorem laws_FnExactWorstReply_meets (F : Nat) : Meets Try.prog 8 (laws_FnExactWorstReply_ent F) := by
  refine meets_of_runS mixed ttok deep (laws_FnExactWorstReply_tabok F) Try.func8 (body_some rfl) (laws_FnExactWorstReply_lsok0 F) fun args mem hfit ret h => ?_
  clear hfit
  simp only [laws_FnExactWorstReply_ent] at h
  split at h
  · rename_i aB0 aDirection1 aN2
    simp only [Option.some.injEq, Prod.mk.injEq] at h
    obtain ⟨hc, rfl⟩ := h
    exact ⟨[], [], 70, _, (laws_FnExactWorstReply_run F aB0 aDirection1 aN2).trans ((laws_FnExactWorstReply_cp _ F aB0 aDirection1 aN2 _).trans (bind_use hc _)), rfl, rfl, rfl⟩
  · cases h
end Go.Proofs.Ytidmlibanopfhaa
