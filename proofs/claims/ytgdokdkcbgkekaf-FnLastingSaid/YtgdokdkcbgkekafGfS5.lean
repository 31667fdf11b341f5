/-
Pure functions and what the code of them does, by program; without conditions.
-/
import Derived.Test.YtgdokdkcbgkekafGfP5
import Derived.Test.YtgdokdkcbgkekafGfS4
namespace Go.Proofs.Ytgdokdkcbgkekaf
open Go Go.Lv Go.Lv.P Go.Proofs
set_option linter.unusedVariables false
set_option linter.unusedSimpArgs false
set_option maxRecDepth 100000
/-! loop.example/g01194/spec.l8Lasts -/
noncomputable def spec_l8Lasts_n3_tab (F : Nat) : Tab := [(37, (spec_l8Safe_n3_ent F))]
theorem spec_l8Lasts_n3_tabok (F : Nat) : TabOK Try.prog (spec_l8Lasts_n3_tab F) := (tab_cons (spec_l8Safe_n3_meets F) spec_l8Safe_n3_fok tab_nil)
noncomputable def spec_l8Lasts_n3_LS0 (F : Nat) : LT := []
theorem spec_l8Lasts_n3_lsok0 (F : Nat) : LoopsOK Try.prog (spec_l8Lasts_n3_LS0 F) (bodyOf Try.f32) := loopsOK_nil
theorem spec_l8Lasts_n3_keys : keysOK (bodyOf Try.f32) = true := by kernel_rfl
def spec_l8Lasts_n3_st4 (b5 : List Int) (d4 : Int) : St := ⟨expand 16 0 [1, 2, 5] [(.int .i64 (3 : Int)), (.ptr 0 0 0 16), (.int .i64 d4)], [(.var 16 (.ri .i64 b5))], 0, []⟩
def spec_l8Lasts_n3_o4 (b5 : List Int) (x : Bool) : GT := (.br x (.out (.ret ⟨expand 16 0 [4] [(.bool true)], [], 0, []⟩)) (.out (.exit 0 ⟨expand 16 0 [] [], [], 0, []⟩)))
def spec_l8Lasts_n3_ls4 (F : Nat) : LoopS := ⟨16, [1, 2, 5], [], [], [], [4], [], [], fun vals mem np killed => match vals, mem, np, killed with
  | [(.int .i64 q_n0), (.ptr 0 0 0 16), (.int .i64 d4)], [(.var 16 (.ri .i64 b5))], 0, [] => .br ((q_n0 == (3 : Int)) && (spec_l8Lasts_n3_l4 F b5 d4).isSome) (spec_l8Lasts_n3_o4 b5 ((spec_l8Lasts_n3_l4 F b5 d4).getD default)) .fail
  | _, _, _, _ => .fail⟩
theorem spec_l8Lasts_n3_step4 (F : Nat) (b5 : List Int) (d4 : Int) {R : Type} (k : Out → Option R) : stepS tt (spec_l8Lasts_n3_tab F) (spec_l8Lasts_n3_LS0 F) 70 (spec_l8Lasts_n3_ls4 F) (loopAt 4 (bodyOf Try.f32)) (spec_l8Lasts_n3_st4 b5 d4) k = spec_l8Lasts_n3_s4 F b5 R d4 (fun s => k (.norm (spec_l8Lasts_n3_st4 b5 s))) (fun x => (spec_l8Lasts_n3_o4 b5 x).run k) := by kernel_rfl
theorem spec_l8Lasts_n3_iter4 (F : Nat) (b5 : List Int) {R : Type} (k : Out → Option R) : ∀ (n : Nat) (d4 : Int), iterS tt (spec_l8Lasts_n3_tab F) (spec_l8Lasts_n3_LS0 F) 70 (spec_l8Lasts_n3_ls4 F) (loopAt 4 (bodyOf Try.f32)) n (spec_l8Lasts_n3_st4 b5 d4) k = loopC (spec_l8Lasts_n3_s4 F b5) n d4 (fun x => (spec_l8Lasts_n3_o4 b5 x).run k)
  | 0, d4 => rfl
  | n + 1, d4 => (iterS_succ tt (spec_l8Lasts_n3_tab F) (spec_l8Lasts_n3_LS0 F) 70 (spec_l8Lasts_n3_ls4 F) (loopAt 4 (bodyOf Try.f32)) n (spec_l8Lasts_n3_st4 b5 d4) k).trans ((spec_l8Lasts_n3_step4 F b5 d4 (nextK (iterS tt (spec_l8Lasts_n3_tab F) (spec_l8Lasts_n3_LS0 F) 70 (spec_l8Lasts_n3_ls4 F) (loopAt 4 (bodyOf Try.f32)) n) k)).trans (congrArg (fun kn => spec_l8Lasts_n3_s4 F b5 R d4 kn _) (funext (fun d4 => spec_l8Lasts_n3_iter4 F b5 k n d4))))
theorem spec_l8Lasts_n3_lok4 (F : Nat) : LoopOK Try.prog (loopAt 4 (bodyOf Try.f32)) (spec_l8Lasts_n3_ls4 F) := by
  refine loopOK_of mixed ttok deep (spec_l8Lasts_n3_tabok F) (loopsOK_at (spec_l8Lasts_n3_lsok0 F) 4) (fuel := 70) fun R vals mem np killed k x h => ?_
  simp only [spec_l8Lasts_n3_ls4] at h
  split at h
  · rename_i q_n0 d4 b5
    simp only [GT.run] at h
    have hc := (cond_noneL h).1
    replace h := (cond_noneL h).2
    have hg := (and_split hc).1
    replace hc := (and_split hc).2
    obtain rfl := beq_int hg
    refine ⟨F, (spec_l8Lasts_n3_iter4 F b5 k F d4).trans ((loopC_use (spec_l8Lasts_n3_s4_nat F b5) hc _).trans h)⟩
  · simp only [GT.run] at h
    cases h
noncomputable def spec_l8Lasts_n3_LS1 (F : Nat) : LT := (4, spec_l8Lasts_n3_ls4 F) :: spec_l8Lasts_n3_LS0 F
theorem spec_l8Lasts_n3_lsok1 (F : Nat) : LoopsOK Try.prog (spec_l8Lasts_n3_LS1 F) (bodyOf Try.f32) := loopsOK_cons spec_l8Lasts_n3_keys (spec_l8Lasts_n3_lok4 F) (spec_l8Lasts_n3_lsok0 F)
theorem spec_l8Lasts_n3_run (F : Nat) (b0 : List Int) : runS tt (spec_l8Lasts_n3_tab F) (spec_l8Lasts_n3_LS1 F) [] [] Try.f32 (bodyOf Try.f32) 70 [(.ints 16 b0), (.int .i64 (3 : Int))] [] = spec_l8Lasts_n3_c _ F b0 (fun r => some ⟨(.bool r), [], []⟩) := by kernel_rfl
def spec_l8Lasts_n3_ent (F : Nat) : Ent := ⟨[], .quiet, fun args mem => match args, mem with
  | [(.ints 16 b0), (.int .i64 q_n1)], [] => bif (q_n1 == (3 : Int)) then some ((spec_l8Lasts_n3_p F b0).isSome, ⟨(.bool ((spec_l8Lasts_n3_p F b0).getD default)), [], []⟩) else none
  | _, _ => none⟩
theorem spec_l8Lasts_n3_fok : FunOK Try.prog 32 := funOK Try.func32 (by kernel_rfl) rfl
theorem spec_l8Lasts_n3_meets (F : Nat) : Meets Try.prog 32 (spec_l8Lasts_n3_ent F) := by
  refine meets_of_runS mixed ttok deep (spec_l8Lasts_n3_tabok F) Try.func32 (body_some rfl) (spec_l8Lasts_n3_lsok1 F) fun args mem hfit ret h => ?_
  clear hfit
  simp only [spec_l8Lasts_n3_ent] at h
  split at h
  · rename_i b0 q_n1
    have hg0 := (cond_noneL h).1
    replace h := (cond_noneL h).2
    obtain rfl := beq_int hg0
    simp only [Option.some.injEq, Prod.mk.injEq] at h
    obtain ⟨hc, rfl⟩ := h
    exact ⟨[], [], 70, _, (spec_l8Lasts_n3_run F b0).trans ((spec_l8Lasts_n3_cp _ F b0 _).trans (bind_use hc _)), rfl, rfl, rfl⟩
  · cases h

/-! loop.example/g01194/spec.l8Lasts -/
def spec_l8Lasts_ent (F : Nat) : Ent := ⟨[], .quiet, fun args mem => match args, mem with
  | [(.ints 16 b0), (.int .i64 n1)], [] => some ((spec_l8Lasts_p F b0 n1).isSome, ⟨(.bool ((spec_l8Lasts_p F b0 n1).getD default)), [], []⟩)
  | _, _ => none⟩
theorem spec_l8Lasts_fok : FunOK Try.prog 32 := funOK Try.func32 (by kernel_rfl) rfl
theorem spec_l8Lasts_meets (F : Nat) : Meets Try.prog 32 (spec_l8Lasts_ent F) := by
  intro fr w ρ mem args reals hw ha ret hg
  simp only [spec_l8Lasts_ent] at hg
  split at hg
  · rename_i b0 n1
    simp only [Option.some.injEq, Prod.mk.injEq] at hg
    obtain ⟨hc, rfl⟩ := hg
    by_cases hn0 : (n1 == (0 : Int)) = true
    · obtain rfl := beq_int hn0
      have e : spec_l8Lasts_p F b0 (0 : Int) = some true := by kernel_rfl
      have hg' : (spec_l8Lasts_n0_ent F).g [(.ints 16 b0), (.int .i64 (0 : Int))] [] = some (true, ⟨(.bool true), [], []⟩) := by kernel_rfl
      have h9 := spec_l8Lasts_n0_meets F fr w ρ _ _ reals hw ha _ hg'
      simp only [e, cond_true, Option.getD_some]
      exact h9
    · replace hn0 : (n1 == (0 : Int)) = false := by simpa using hn0
      by_cases hn1 : (n1 == (1 : Int)) = true
      · obtain rfl := beq_int hn1
        have e : spec_l8Lasts_p F b0 (1 : Int) = (bif (Option.isSome (spec_l8Lasts_n1_p F b0)) then some (Option.getD (spec_l8Lasts_n1_p F b0) default) else none) := by kernel_rfl
        have hg' : (spec_l8Lasts_n1_ent F).g [(.ints 16 b0), (.int .i64 (1 : Int))] [] = some ((Option.isSome (spec_l8Lasts_n1_p F b0)), ⟨(.bool (Option.getD (spec_l8Lasts_n1_p F b0) default)), [], []⟩) := by kernel_rfl
        rw [e] at hc
        have hC := isSome_cond hc
        rw [hC] at hg'
        have h9 := spec_l8Lasts_n1_meets F fr w ρ _ _ reals hw ha _ hg'
        simp only [e, hC, cond_true, Option.getD_some]
        exact h9
      · replace hn1 : (n1 == (1 : Int)) = false := by simpa using hn1
        by_cases hn2 : (n1 == (2 : Int)) = true
        · obtain rfl := beq_int hn2
          have e : spec_l8Lasts_p F b0 (2 : Int) = (bif (Option.isSome (spec_l8Lasts_n2_p F b0)) then some (Option.getD (spec_l8Lasts_n2_p F b0) default) else none) := by kernel_rfl
          have hg' : (spec_l8Lasts_n2_ent F).g [(.ints 16 b0), (.int .i64 (2 : Int))] [] = some ((Option.isSome (spec_l8Lasts_n2_p F b0)), ⟨(.bool (Option.getD (spec_l8Lasts_n2_p F b0) default)), [], []⟩) := by kernel_rfl
          rw [e] at hc
          have hC := isSome_cond hc
          rw [hC] at hg'
          have h9 := spec_l8Lasts_n2_meets F fr w ρ _ _ reals hw ha _ hg'
          simp only [e, hC, cond_true, Option.getD_some]
          exact h9
        · replace hn2 : (n1 == (2 : Int)) = false := by simpa using hn2
          by_cases hn3 : (n1 == (3 : Int)) = true
          · obtain rfl := beq_int hn3
            have e : spec_l8Lasts_p F b0 (3 : Int) = (bif (Option.isSome (spec_l8Lasts_n3_p F b0)) then some (Option.getD (spec_l8Lasts_n3_p F b0) default) else none) := by kernel_rfl
            have hg' : (spec_l8Lasts_n3_ent F).g [(.ints 16 b0), (.int .i64 (3 : Int))] [] = some ((Option.isSome (spec_l8Lasts_n3_p F b0)), ⟨(.bool (Option.getD (spec_l8Lasts_n3_p F b0) default)), [], []⟩) := by kernel_rfl
            rw [e] at hc
            have hC := isSome_cond hc
            rw [hC] at hg'
            have h9 := spec_l8Lasts_n3_meets F fr w ρ _ _ reals hw ha _ hg'
            simp only [e, hC, cond_true, Option.getD_some]
            exact h9
          · replace hn3 : (n1 == (3 : Int)) = false := by simpa using hn3
            exfalso
            have e : spec_l8Lasts_p F b0 n1 = none := by simp only [spec_l8Lasts_p, spec_l8Lasts_c, hn0, hn1, hn2, hn3, cond_false]
            rw [e] at hc
            cases hc
  · cases hg

/-! loop.example/g01194/spec.Lasts -/
noncomputable def spec_Lasts_tab (F : Nat) : Tab := [(30, (spec_l2Board_ent F)), (31, (spec_l1In_ent F)), (32, (spec_l8Lasts_ent F))]
theorem spec_Lasts_tabok (F : Nat) : TabOK Try.prog (spec_Lasts_tab F) := (tab_cons (spec_l2Board_meets F) spec_l2Board_fok (tab_cons (spec_l1In_meets F) spec_l1In_fok (tab_cons (spec_l8Lasts_meets F) spec_l8Lasts_fok tab_nil)))
noncomputable def spec_Lasts_LS0 (F : Nat) : LT := []
theorem spec_Lasts_lsok0 (F : Nat) : LoopsOK Try.prog (spec_Lasts_LS0 F) (bodyOf Try.f7) := loopsOK_nil
theorem spec_Lasts_run (F : Nat) (b0 : List Int) (n1 : Int) : runS tt (spec_Lasts_tab F) (spec_Lasts_LS0 F) [] [] Try.f7 (bodyOf Try.f7) 70 [(.ints 16 b0), (.int .i64 n1)] [] = spec_Lasts_c _ F b0 n1 (fun r => some ⟨(.tup [(.bool r.1), (.bool r.2)]), [], []⟩) := by kernel_rfl
def spec_Lasts_ent (F : Nat) : Ent := ⟨[], .quiet, fun args mem => match args, mem with
  | [(.ints 16 b0), (.int .i64 n1)], [] => some ((spec_Lasts_p F b0 n1).isSome, ⟨(.tup [(.bool ((spec_Lasts_p F b0 n1).getD default).1), (.bool ((spec_Lasts_p F b0 n1).getD default).2)]), [], []⟩)
  | _, _ => none⟩
theorem spec_Lasts_fok : FunOK Try.prog 7 := funOK Try.func7 (by kernel_rfl) rfl
theorem spec_Lasts_meets (F : Nat) : Meets Try.prog 7 (spec_Lasts_ent F) := by
  refine meets_of_runS mixed ttok deep (spec_Lasts_tabok F) Try.func7 (body_some rfl) (spec_Lasts_lsok0 F) fun args mem hfit ret h => ?_
  clear hfit
  simp only [spec_Lasts_ent] at h
  split at h
  · rename_i b0 n1
    simp only [Option.some.injEq, Prod.mk.injEq] at h
    obtain ⟨hc, rfl⟩ := h
    exact ⟨[], [], 70, _, (spec_Lasts_run F b0 n1).trans ((spec_Lasts_cp _ F b0 n1 _).trans (bind_use hc _)), rfl, rfl, rfl⟩
  · cases h

/-! loop.example/g01194/impl.LastsHow -/
noncomputable def impl_LastsHow_tab (F : Nat) : Tab := [(27, (impl_IsBoard_ent F)), (29, (impl_Board_lasts_ent F))]
theorem impl_LastsHow_tabok (F : Nat) : TabOK Try.prog (impl_LastsHow_tab F) := (tab_cons (impl_IsBoard_meets F) impl_IsBoard_fok (tab_cons (impl_Board_lasts_meets F) impl_Board_lasts_fok tab_nil))
noncomputable def impl_LastsHow_LS0 (F : Nat) : LT := []
theorem impl_LastsHow_lsok0 (F : Nat) : LoopsOK Try.prog (impl_LastsHow_LS0 F) (bodyOf Try.f8) := loopsOK_nil
theorem impl_LastsHow_keys : keysOK (bodyOf Try.f8) = true := by kernel_rfl
def impl_LastsHow_st4 (b4 : List Int) (n3 : Int) : St := ⟨expand 19 0 [1, 4] [(.ptr 0 0 0 16), (.int .i64 n3)], [(.var 16 (.ri .i64 b4))], 0, []⟩
def impl_LastsHow_o4 (b4 : List Int) (x : Int) : GT := (.out (.exit 0 ⟨expand 19 0 [4] [(.int .i64 x)], [], 0, []⟩))
def impl_LastsHow_ls4 (F : Nat) : LoopS := ⟨19, [1, 4], [], [4], [], [2, 3], [], [], fun vals mem np killed => match vals, mem, np, killed with
  | [(.ptr 0 0 0 16), (.int .i64 n3)], [(.var 16 (.ri .i64 b4))], 0, [] => .br (impl_LastsHow_l4 F b4 n3).isSome (impl_LastsHow_o4 b4 ((impl_LastsHow_l4 F b4 n3).getD default)) .fail
  | _, _, _, _ => .fail⟩
theorem impl_LastsHow_step4 (F : Nat) (b4 : List Int) (n3 : Int) {R : Type} (k : Out → Option R) : stepS tt (impl_LastsHow_tab F) (impl_LastsHow_LS0 F) 70 (impl_LastsHow_ls4 F) (loopAt 4 (bodyOf Try.f8)) (impl_LastsHow_st4 b4 n3) k = impl_LastsHow_s4 F b4 R n3 (fun s => k (.norm (impl_LastsHow_st4 b4 s))) (fun x => (impl_LastsHow_o4 b4 x).run k) := by kernel_rfl
theorem impl_LastsHow_iter4 (F : Nat) (b4 : List Int) {R : Type} (k : Out → Option R) : ∀ (n : Nat) (n3 : Int), iterS tt (impl_LastsHow_tab F) (impl_LastsHow_LS0 F) 70 (impl_LastsHow_ls4 F) (loopAt 4 (bodyOf Try.f8)) n (impl_LastsHow_st4 b4 n3) k = loopC (impl_LastsHow_s4 F b4) n n3 (fun x => (impl_LastsHow_o4 b4 x).run k)
  | 0, n3 => rfl
  | n + 1, n3 => (iterS_succ tt (impl_LastsHow_tab F) (impl_LastsHow_LS0 F) 70 (impl_LastsHow_ls4 F) (loopAt 4 (bodyOf Try.f8)) n (impl_LastsHow_st4 b4 n3) k).trans ((impl_LastsHow_step4 F b4 n3 (nextK (iterS tt (impl_LastsHow_tab F) (impl_LastsHow_LS0 F) 70 (impl_LastsHow_ls4 F) (loopAt 4 (bodyOf Try.f8)) n) k)).trans (congrArg (fun kn => impl_LastsHow_s4 F b4 R n3 kn _) (funext (fun n3 => impl_LastsHow_iter4 F b4 k n n3))))
theorem impl_LastsHow_lok4 (F : Nat) : LoopOK Try.prog (loopAt 4 (bodyOf Try.f8)) (impl_LastsHow_ls4 F) := by
  refine loopOK_of mixed ttok deep (impl_LastsHow_tabok F) (loopsOK_at (impl_LastsHow_lsok0 F) 4) (fuel := 70) fun R vals mem np killed k x h => ?_
  simp only [impl_LastsHow_ls4] at h
  split at h
  · rename_i n3 b4
    simp only [GT.run] at h
    have hc := (cond_noneL h).1
    replace h := (cond_noneL h).2
    refine ⟨F, (impl_LastsHow_iter4 F b4 k F n3).trans ((loopC_use (impl_LastsHow_s4_nat F b4) hc _).trans h)⟩
  · simp only [GT.run] at h
    cases h
noncomputable def impl_LastsHow_LS1 (F : Nat) : LT := (4, impl_LastsHow_ls4 F) :: impl_LastsHow_LS0 F
theorem impl_LastsHow_lsok1 (F : Nat) : LoopsOK Try.prog (impl_LastsHow_LS1 F) (bodyOf Try.f8) := loopsOK_cons impl_LastsHow_keys (impl_LastsHow_lok4 F) (impl_LastsHow_lsok0 F)
theorem impl_LastsHow_run (F : Nat) (b0 : List Int) : runS tt (impl_LastsHow_tab F) (impl_LastsHow_LS1 F) [] [] Try.f8 (bodyOf Try.f8) 70 [(.ints 16 b0)] [] = impl_LastsHow_c _ F b0 (fun r => some ⟨(.tup [(.int .i64 r.1), (.bool r.2)]), [], []⟩) := by kernel_rfl
def impl_LastsHow_ent (F : Nat) : Ent := ⟨[], .quiet, fun args mem => match args, mem with
  | [(.ints 16 b0)], [] => some ((impl_LastsHow_p F b0).isSome, ⟨(.tup [(.int .i64 ((impl_LastsHow_p F b0).getD default).1), (.bool ((impl_LastsHow_p F b0).getD default).2)]), [], []⟩)
  | _, _ => none⟩
theorem impl_LastsHow_fok : FunOK Try.prog 8 := funOK Try.func8 (by kernel_rfl) rfl
theorem impl_LastsHow_meets (F : Nat) : Meets Try.prog 8 (impl_LastsHow_ent F) := by
  refine meets_of_runS mixed ttok deep (impl_LastsHow_tabok F) Try.func8 (body_some rfl) (impl_LastsHow_lsok1 F) fun args mem hfit ret h => ?_
  clear hfit
  simp only [impl_LastsHow_ent] at h
  split at h
  · rename_i b0
    simp only [Option.some.injEq, Prod.mk.injEq] at h
    obtain ⟨hc, rfl⟩ := h
    exact ⟨[], [], 70, _, (impl_LastsHow_run F b0).trans ((impl_LastsHow_cp _ F b0 _).trans (bind_use hc _)), rfl, rfl, rfl⟩
  · cases h

/-! loop.example/g01194/spec.LastsHow -/
noncomputable def spec_LastsHow_tab (F : Nat) : Tab := [(30, (spec_l2Board_ent F)), (32, (spec_l8Lasts_ent F))]
theorem spec_LastsHow_tabok (F : Nat) : TabOK Try.prog (spec_LastsHow_tab F) := (tab_cons (spec_l2Board_meets F) spec_l2Board_fok (tab_cons (spec_l8Lasts_meets F) spec_l8Lasts_fok tab_nil))
noncomputable def spec_LastsHow_LS0 (F : Nat) : LT := []
theorem spec_LastsHow_lsok0 (F : Nat) : LoopsOK Try.prog (spec_LastsHow_LS0 F) (bodyOf Try.f9) := loopsOK_nil
theorem spec_LastsHow_keys : keysOK (bodyOf Try.f9) = true := by kernel_rfl
def spec_LastsHow_st4 (b4 : List Int) (n3 : Int) : St := ⟨expand 19 0 [1, 4] [(.ptr 0 0 0 16), (.int .i64 n3)], [(.var 16 (.ri .i64 b4))], 0, []⟩
def spec_LastsHow_o4 (b4 : List Int) (x : Int) : GT := (.out (.exit 0 ⟨expand 19 0 [4] [(.int .i64 x)], [], 0, []⟩))
def spec_LastsHow_ls4 (F : Nat) : LoopS := ⟨19, [1, 4], [], [4], [], [2, 3], [], [], fun vals mem np killed => match vals, mem, np, killed with
  | [(.ptr 0 0 0 16), (.int .i64 n3)], [(.var 16 (.ri .i64 b4))], 0, [] => .br (spec_LastsHow_l4 F b4 n3).isSome (spec_LastsHow_o4 b4 ((spec_LastsHow_l4 F b4 n3).getD default)) .fail
  | _, _, _, _ => .fail⟩
theorem spec_LastsHow_step4 (F : Nat) (b4 : List Int) (n3 : Int) {R : Type} (k : Out → Option R) : stepS tt (spec_LastsHow_tab F) (spec_LastsHow_LS0 F) 70 (spec_LastsHow_ls4 F) (loopAt 4 (bodyOf Try.f9)) (spec_LastsHow_st4 b4 n3) k = spec_LastsHow_s4 F b4 R n3 (fun s => k (.norm (spec_LastsHow_st4 b4 s))) (fun x => (spec_LastsHow_o4 b4 x).run k) := by kernel_rfl
theorem spec_LastsHow_iter4 (F : Nat) (b4 : List Int) {R : Type} (k : Out → Option R) : ∀ (n : Nat) (n3 : Int), iterS tt (spec_LastsHow_tab F) (spec_LastsHow_LS0 F) 70 (spec_LastsHow_ls4 F) (loopAt 4 (bodyOf Try.f9)) n (spec_LastsHow_st4 b4 n3) k = loopC (spec_LastsHow_s4 F b4) n n3 (fun x => (spec_LastsHow_o4 b4 x).run k)
  | 0, n3 => rfl
  | n + 1, n3 => (iterS_succ tt (spec_LastsHow_tab F) (spec_LastsHow_LS0 F) 70 (spec_LastsHow_ls4 F) (loopAt 4 (bodyOf Try.f9)) n (spec_LastsHow_st4 b4 n3) k).trans ((spec_LastsHow_step4 F b4 n3 (nextK (iterS tt (spec_LastsHow_tab F) (spec_LastsHow_LS0 F) 70 (spec_LastsHow_ls4 F) (loopAt 4 (bodyOf Try.f9)) n) k)).trans (congrArg (fun kn => spec_LastsHow_s4 F b4 R n3 kn _) (funext (fun n3 => spec_LastsHow_iter4 F b4 k n n3))))
theorem spec_LastsHow_lok4 (F : Nat) : LoopOK Try.prog (loopAt 4 (bodyOf Try.f9)) (spec_LastsHow_ls4 F) := by
  refine loopOK_of mixed ttok deep (spec_LastsHow_tabok F) (loopsOK_at (spec_LastsHow_lsok0 F) 4) (fuel := 70) fun R vals mem np killed k x h => ?_
  simp only [spec_LastsHow_ls4] at h
  split at h
  · rename_i n3 b4
    simp only [GT.run] at h
    have hc := (cond_noneL h).1
    replace h := (cond_noneL h).2
    refine ⟨F, (spec_LastsHow_iter4 F b4 k F n3).trans ((loopC_use (spec_LastsHow_s4_nat F b4) hc _).trans h)⟩
  · simp only [GT.run] at h
    cases h
noncomputable def spec_LastsHow_LS1 (F : Nat) : LT := (4, spec_LastsHow_ls4 F) :: spec_LastsHow_LS0 F
theorem spec_LastsHow_lsok1 (F : Nat) : LoopsOK Try.prog (spec_LastsHow_LS1 F) (bodyOf Try.f9) := loopsOK_cons spec_LastsHow_keys (spec_LastsHow_lok4 F) (spec_LastsHow_lsok0 F)
theorem spec_LastsHow_run (F : Nat) (b0 : List Int) : runS tt (spec_LastsHow_tab F) (spec_LastsHow_LS1 F) [] [] Try.f9 (bodyOf Try.f9) 70 [(.ints 16 b0)] [] = spec_LastsHow_c _ F b0 (fun r => some ⟨(.tup [(.int .i64 r.1), (.bool r.2)]), [], []⟩) := by kernel_rfl
def spec_LastsHow_ent (F : Nat) : Ent := ⟨[], .quiet, fun args mem => match args, mem with
  | [(.ints 16 b0)], [] => some ((spec_LastsHow_p F b0).isSome, ⟨(.tup [(.int .i64 ((spec_LastsHow_p F b0).getD default).1), (.bool ((spec_LastsHow_p F b0).getD default).2)]), [], []⟩)
  | _, _ => none⟩
theorem spec_LastsHow_fok : FunOK Try.prog 9 := funOK Try.func9 (by kernel_rfl) rfl
theorem spec_LastsHow_meets (F : Nat) : Meets Try.prog 9 (spec_LastsHow_ent F) := by
  refine meets_of_runS mixed ttok deep (spec_LastsHow_tabok F) Try.func9 (body_some rfl) (spec_LastsHow_lsok1 F) fun args mem hfit ret h => ?_
  clear hfit
  simp only [spec_LastsHow_ent] at h
  split at h
  · rename_i b0
    simp only [Option.some.injEq, Prod.mk.injEq] at h
    obtain ⟨hc, rfl⟩ := h
    exact ⟨[], [], 70, _, (spec_LastsHow_run F b0).trans ((spec_LastsHow_cp _ F b0 _).trans (bind_use hc _)), rfl, rfl, rfl⟩
  · cases h

/-! (loop.example/g01194/impl.Board).refuted -/
noncomputable def impl_Board_refuted_n0_tab (F : Nat) : Tab := [(46, (impl_Board_placements_ent F)), (48, (impl_Board_placed_ent F)), (29, (impl_Board_lasts_n0_ent F))]
theorem impl_Board_refuted_n0_tabok (F : Nat) : TabOK Try.prog (impl_Board_refuted_n0_tab F) := (tab_cons (impl_Board_placements_meets F) impl_Board_placements_fok (tab_cons (impl_Board_placed_meets F) impl_Board_placed_fok (tab_cons (impl_Board_lasts_n0_meets F) impl_Board_lasts_n0_fok tab_nil)))
noncomputable def impl_Board_refuted_n0_LS0 (F : Nat) : LT := []
theorem impl_Board_refuted_n0_lsok0 (F : Nat) : LoopsOK Try.prog (impl_Board_refuted_n0_LS0 F) (bodyOf Try.f41) := loopsOK_nil
theorem impl_Board_refuted_n0_keys : keysOK (bodyOf Try.f41) = true := by kernel_rfl
def impl_Board_refuted_n0_st2 (t109 : Int) (b11 : List Int) (t913 : List (List Int)) (t1110 : Int) : St := ⟨expand 24 0 [1, 2, 4, 9, 10, 11] [(.int .i64 (0 : Int)), (.ptr 0 0 0 16), (.ptr 1 0 0 3), (.sl 2 0 (List.length t913)), (.int .i64 t109), (.int .i64 t1110)], [(.var 16 (.ri .i64 b11)), (.var 3 (.ri .i64 [(0 : Int), (0 : Int), (0 : Int)])), (.vec 40 (.rr 3 t913))], 0, []⟩
def impl_Board_refuted_n0_o2 (t109 : Int) (b11 : List Int) (t913 : List (List Int)) (x : Unit) : GT := (.out (.exit 0 ⟨expand 24 0 [4] [(.ptr 0 0 0 3)], [(.var 3 (.ri .i64 [(0 : Int), (0 : Int), (0 : Int)]))], 0, []⟩))
def impl_Board_refuted_n0_ls2 (F : Nat) : LoopS := ⟨24, [1, 2, 4, 9, 10, 11], [], [4], [], [4, 5], [], [], fun vals mem np killed => match vals, mem, np, killed with
  | [(.int .i64 q_n0), (.ptr 0 0 0 16), (.ptr 1 0 0 3), (.sl 2 0 q_t98), (.int .i64 t109), (.int .i64 t1110)], [(.var 16 (.ri .i64 b11)), (.var 3 (.ri .i64 q_t412)), (.vec 40 (.rr 3 t913))], 0, [] => .br ((q_n0 == (0 : Int)) && ((q_t412 == ([(0 : Int), (0 : Int), (0 : Int)] : List Int)) && ((Nat.beq q_t98 (List.length t913)) && (impl_Board_refuted_n0_l2 F t109 b11 t913 t1110).isSome))) (impl_Board_refuted_n0_o2 t109 b11 t913 ((impl_Board_refuted_n0_l2 F t109 b11 t913 t1110).getD default)) .fail
  | _, _, _, _ => .fail⟩
theorem impl_Board_refuted_n0_step2 (F : Nat) (t109 : Int) (b11 : List Int) (t913 : List (List Int)) (t1110 : Int) {R : Type} (k : Out → Option R) : stepS tt (impl_Board_refuted_n0_tab F) (impl_Board_refuted_n0_LS0 F) 70 (impl_Board_refuted_n0_ls2 F) (loopAt 2 (bodyOf Try.f41)) (impl_Board_refuted_n0_st2 t109 b11 t913 t1110) k = impl_Board_refuted_n0_s2 F t109 b11 t913 R t1110 (fun s => k (.norm (impl_Board_refuted_n0_st2 t109 b11 t913 s))) (fun x => (impl_Board_refuted_n0_o2 t109 b11 t913 x).run k) := by kernel_rfl
theorem impl_Board_refuted_n0_iter2 (F : Nat) (t109 : Int) (b11 : List Int) (t913 : List (List Int)) {R : Type} (k : Out → Option R) : ∀ (n : Nat) (t1110 : Int), iterS tt (impl_Board_refuted_n0_tab F) (impl_Board_refuted_n0_LS0 F) 70 (impl_Board_refuted_n0_ls2 F) (loopAt 2 (bodyOf Try.f41)) n (impl_Board_refuted_n0_st2 t109 b11 t913 t1110) k = loopC (impl_Board_refuted_n0_s2 F t109 b11 t913) n t1110 (fun x => (impl_Board_refuted_n0_o2 t109 b11 t913 x).run k)
  | 0, t1110 => rfl
  | n + 1, t1110 => (iterS_succ tt (impl_Board_refuted_n0_tab F) (impl_Board_refuted_n0_LS0 F) 70 (impl_Board_refuted_n0_ls2 F) (loopAt 2 (bodyOf Try.f41)) n (impl_Board_refuted_n0_st2 t109 b11 t913 t1110) k).trans ((impl_Board_refuted_n0_step2 F t109 b11 t913 t1110 (nextK (iterS tt (impl_Board_refuted_n0_tab F) (impl_Board_refuted_n0_LS0 F) 70 (impl_Board_refuted_n0_ls2 F) (loopAt 2 (bodyOf Try.f41)) n) k)).trans (congrArg (fun kn => impl_Board_refuted_n0_s2 F t109 b11 t913 R t1110 kn _) (funext (fun t1110 => impl_Board_refuted_n0_iter2 F t109 b11 t913 k n t1110))))
theorem impl_Board_refuted_n0_lok2 (F : Nat) : LoopOK Try.prog (loopAt 2 (bodyOf Try.f41)) (impl_Board_refuted_n0_ls2 F) := by
  refine loopOK_of mixed ttok deep (impl_Board_refuted_n0_tabok F) (loopsOK_at (impl_Board_refuted_n0_lsok0 F) 2) (fuel := 70) fun R vals mem np killed k x h => ?_
  simp only [impl_Board_refuted_n0_ls2] at h
  split at h
  · rename_i q_n0 q_t98 t109 t1110 b11 q_t412 t913
    simp only [GT.run] at h
    have hc := (cond_noneL h).1
    replace h := (cond_noneL h).2
    have hg := (and_split hc).1
    replace hc := (and_split hc).2
    obtain rfl := beq_int hg
    have hg := (and_split hc).1
    replace hc := (and_split hc).2
    obtain rfl := beq_li hg
    have hg := (and_split hc).1
    replace hc := (and_split hc).2
    obtain rfl := nbeq_nat hg
    refine ⟨F, (impl_Board_refuted_n0_iter2 F t109 b11 t913 k F t1110).trans ((loopC_use (impl_Board_refuted_n0_s2_nat F t109 b11 t913) hc _).trans h)⟩
  · simp only [GT.run] at h
    cases h
noncomputable def impl_Board_refuted_n0_LS1 (F : Nat) : LT := (2, impl_Board_refuted_n0_ls2 F) :: impl_Board_refuted_n0_LS0 F
theorem impl_Board_refuted_n0_lsok1 (F : Nat) : LoopsOK Try.prog (impl_Board_refuted_n0_LS1 F) (bodyOf Try.f41) := loopsOK_cons impl_Board_refuted_n0_keys (impl_Board_refuted_n0_lok2 F) (impl_Board_refuted_n0_lsok0 F)
theorem impl_Board_refuted_n0_run (F : Nat) (b0 : List Int) : runS tt (impl_Board_refuted_n0_tab F) (impl_Board_refuted_n0_LS1 F) [] [] Try.f41 (bodyOf Try.f41) 70 [(.ints 16 b0), (.int .i64 (0 : Int))] [] = impl_Board_refuted_n0_c _ F b0 (fun r => some ⟨(.tup [(.ints 3 [(0 : Int), (0 : Int), (0 : Int)]), (.bool false)]), [], []⟩) := by kernel_rfl
def impl_Board_refuted_n0_ent (F : Nat) : Ent := ⟨[], .quiet, fun args mem => match args, mem with
  | [(.ints 16 b0), (.int .i64 q_n1)], [] => bif (q_n1 == (0 : Int)) then some ((impl_Board_refuted_n0_p F b0).isSome, ⟨(.tup [(.ints 3 [(0 : Int), (0 : Int), (0 : Int)]), (.bool false)]), [], []⟩) else none
  | _, _ => none⟩
theorem impl_Board_refuted_n0_fok : FunOK Try.prog 41 := funOK Try.func41 (by kernel_rfl) rfl
theorem impl_Board_refuted_n0_meets (F : Nat) : Meets Try.prog 41 (impl_Board_refuted_n0_ent F) := by
  refine meets_of_runS mixed ttok deep (impl_Board_refuted_n0_tabok F) Try.func41 (body_some rfl) (impl_Board_refuted_n0_lsok1 F) fun args mem hfit ret h => ?_
  clear hfit
  simp only [impl_Board_refuted_n0_ent] at h
  split at h
  · rename_i b0 q_n1
    have hg0 := (cond_noneL h).1
    replace h := (cond_noneL h).2
    obtain rfl := beq_int hg0
    simp only [Option.some.injEq, Prod.mk.injEq] at h
    obtain ⟨hc, rfl⟩ := h
    exact ⟨[], [], 70, _, (impl_Board_refuted_n0_run F b0).trans ((impl_Board_refuted_n0_cp _ F b0 _).trans (bind_use hc _)), rfl, rfl, rfl⟩
  · cases h

/-! (loop.example/g01194/impl.Board).isSafe -/
noncomputable def impl_Board_isSafe_n1_tab (F : Nat) : Tab := [(40, (impl_Board_slides_ent F)), (41, (impl_Board_refuted_n0_ent F))]
theorem impl_Board_isSafe_n1_tabok (F : Nat) : TabOK Try.prog (impl_Board_isSafe_n1_tab F) := (tab_cons (impl_Board_slides_meets F) impl_Board_slides_fok (tab_cons (impl_Board_refuted_n0_meets F) impl_Board_refuted_n0_fok tab_nil))
noncomputable def impl_Board_isSafe_n1_LS0 (F : Nat) : LT := []
theorem impl_Board_isSafe_n1_lsok0 (F : Nat) : LoopsOK Try.prog (impl_Board_isSafe_n1_LS0 F) (bodyOf Try.f36) := loopsOK_nil
theorem impl_Board_isSafe_n1_run (F : Nat) (b0 : List Int) (direction1 : Int) : runS tt (impl_Board_isSafe_n1_tab F) (impl_Board_isSafe_n1_LS0 F) [] [] Try.f36 (bodyOf Try.f36) 70 [(.ints 16 b0), (.int .i64 direction1), (.int .i64 (1 : Int))] [] = impl_Board_isSafe_n1_c _ F b0 direction1 (fun r => some ⟨(.bool true), [], []⟩) := by kernel_rfl
def impl_Board_isSafe_n1_ent (F : Nat) : Ent := ⟨[], .quiet, fun args mem => match args, mem with
  | [(.ints 16 b0), (.int .i64 direction1), (.int .i64 q_n2)], [] => bif (q_n2 == (1 : Int)) then some ((impl_Board_isSafe_n1_p F b0 direction1).isSome, ⟨(.bool true), [], []⟩) else none
  | _, _ => none⟩
theorem impl_Board_isSafe_n1_fok : FunOK Try.prog 36 := funOK Try.func36 (by kernel_rfl) rfl
theorem impl_Board_isSafe_n1_meets (F : Nat) : Meets Try.prog 36 (impl_Board_isSafe_n1_ent F) := by
  refine meets_of_runS mixed ttok deep (impl_Board_isSafe_n1_tabok F) Try.func36 (body_some rfl) (impl_Board_isSafe_n1_lsok0 F) fun args mem hfit ret h => ?_
  clear hfit
  simp only [impl_Board_isSafe_n1_ent] at h
  split at h
  · rename_i b0 direction1 q_n2
    have hg0 := (cond_noneL h).1
    replace h := (cond_noneL h).2
    obtain rfl := beq_int hg0
    simp only [Option.some.injEq, Prod.mk.injEq] at h
    obtain ⟨hc, rfl⟩ := h
    exact ⟨[], [], 70, _, (impl_Board_isSafe_n1_run F b0 direction1).trans ((impl_Board_isSafe_n1_cp _ F b0 direction1 _).trans (bind_use hc _)), rfl, rfl, rfl⟩
  · cases h

/-! (loop.example/g01194/impl.Board).isSafe -/
def impl_Board_isSafe_ent (F : Nat) : Ent := ⟨[], .quiet, fun args mem => match args, mem with
  | [(.ints 16 b0), (.int .i64 direction1), (.int .i64 n2)], [] => some ((impl_Board_isSafe_p F b0 direction1 n2).isSome, ⟨(.bool ((impl_Board_isSafe_p F b0 direction1 n2).getD default)), [], []⟩)
  | _, _ => none⟩
theorem impl_Board_isSafe_fok : FunOK Try.prog 36 := funOK Try.func36 (by kernel_rfl) rfl
theorem impl_Board_isSafe_meets (F : Nat) : Meets Try.prog 36 (impl_Board_isSafe_ent F) := by
  intro fr w ρ mem args reals hw ha ret hg
  simp only [impl_Board_isSafe_ent] at hg
  split at hg
  · rename_i b0 direction1 n2
    simp only [Option.some.injEq, Prod.mk.injEq] at hg
    obtain ⟨hc, rfl⟩ := hg
    by_cases hn0 : (n2 == (1 : Int)) = true
    · obtain rfl := beq_int hn0
      have e : impl_Board_isSafe_p F b0 direction1 (1 : Int) = (bif (Option.isSome (impl_Board_isSafe_n1_p F b0 direction1)) then some true else none) := by kernel_rfl
      have hg' : (impl_Board_isSafe_n1_ent F).g [(.ints 16 b0), (.int .i64 direction1), (.int .i64 (1 : Int))] [] = some ((Option.isSome (impl_Board_isSafe_n1_p F b0 direction1)), ⟨(.bool true), [], []⟩) := by kernel_rfl
      rw [e] at hc
      have hC := isSome_cond hc
      rw [hC] at hg'
      have h9 := impl_Board_isSafe_n1_meets F fr w ρ _ _ reals hw ha _ hg'
      simp only [e, hC, cond_true, Option.getD_some]
      exact h9
    · replace hn0 : (n2 == (1 : Int)) = false := by simpa using hn0
      by_cases hn1 : (n2 == (2 : Int)) = true
      · obtain rfl := beq_int hn1
        have e : impl_Board_isSafe_p F b0 direction1 (2 : Int) = (bif (Option.isSome (impl_Board_isSafe_n2_p F b0 direction1)) then some (Option.getD (impl_Board_isSafe_n2_p F b0 direction1) default) else none) := by kernel_rfl
        have hg' : (impl_Board_isSafe_n2_ent F).g [(.ints 16 b0), (.int .i64 direction1), (.int .i64 (2 : Int))] [] = some ((Option.isSome (impl_Board_isSafe_n2_p F b0 direction1)), ⟨(.bool (Option.getD (impl_Board_isSafe_n2_p F b0 direction1) default)), [], []⟩) := by kernel_rfl
        rw [e] at hc
        have hC := isSome_cond hc
        rw [hC] at hg'
        have h9 := impl_Board_isSafe_n2_meets F fr w ρ _ _ reals hw ha _ hg'
        simp only [e, hC, cond_true, Option.getD_some]
        exact h9
      · replace hn1 : (n2 == (2 : Int)) = false := by simpa using hn1
        by_cases hn2 : (n2 == (3 : Int)) = true
        · obtain rfl := beq_int hn2
          have e : impl_Board_isSafe_p F b0 direction1 (3 : Int) = (bif (Option.isSome (impl_Board_isSafe_n3_p F b0 direction1)) then some (Option.getD (impl_Board_isSafe_n3_p F b0 direction1) default) else none) := by kernel_rfl
          have hg' : (impl_Board_isSafe_n3_ent F).g [(.ints 16 b0), (.int .i64 direction1), (.int .i64 (3 : Int))] [] = some ((Option.isSome (impl_Board_isSafe_n3_p F b0 direction1)), ⟨(.bool (Option.getD (impl_Board_isSafe_n3_p F b0 direction1) default)), [], []⟩) := by kernel_rfl
          rw [e] at hc
          have hC := isSome_cond hc
          rw [hC] at hg'
          have h9 := impl_Board_isSafe_n3_meets F fr w ρ _ _ reals hw ha _ hg'
          simp only [e, hC, cond_true, Option.getD_some]
          exact h9
        · replace hn2 : (n2 == (3 : Int)) = false := by simpa using hn2
          exfalso
          have e : impl_Board_isSafe_p F b0 direction1 n2 = none := by simp only [impl_Board_isSafe_p, impl_Board_isSafe_c, hn0, hn1, hn2, cond_false]
          rw [e] at hc
          cases hc
  · cases hg

/-! loop.example/g01194/impl.SafeMoves$1 -/
noncomputable def impl_SafeMoves_f1_tab (F : Nat) : Tab := [(36, (impl_Board_isSafe_ent F))]
theorem impl_SafeMoves_f1_tabok (F : Nat) : TabOK Try.prog (impl_SafeMoves_f1_tab F) := (tab_cons (impl_Board_isSafe_meets F) impl_Board_isSafe_fok tab_nil)
noncomputable def impl_SafeMoves_f1_LS0 (F : Nat) : LT := []
theorem impl_SafeMoves_f1_lsok0 (F : Nat) : LoopsOK Try.prog (impl_SafeMoves_f1_LS0 F) (bodyOf Try.f35) := loopsOK_nil
theorem impl_SafeMoves_f1_run (F : Nat) (d0 : Int) (a17 : List Int) (a28 : List Int) : runS tt (impl_SafeMoves_f1_tab F) (impl_SafeMoves_f1_LS0 F) [] [] Try.f35 (bodyOf Try.f35) 70 [(.int .i64 d0), (.ptr 0 0 0 16), (.ptr 1 0 0 1)] [(.var 16 (.ri .i64 a17)), (.var 1 (.ri .i64 a28))] = impl_SafeMoves_f1_c _ F d0 a17 a28 (fun r => some ⟨(.bool r), [(.var 16 (.ri .i64 a17)), (.var 1 (.ri .i64 a28))], []⟩) := by kernel_rfl
def impl_SafeMoves_f1_ent (F : Nat) : Ent := ⟨[], .quiet, fun args mem => match args, mem with
  | [(.int .i64 d0), (.ptr 0 0 0 16), (.ptr 1 0 0 1)], [(.var 16 (.ri .i64 a17)), (.var 1 (.ri .i64 a28))] => some ((impl_SafeMoves_f1_p F d0 a17 a28).isSome, ⟨(.bool ((impl_SafeMoves_f1_p F d0 a17 a28).getD default)), [], []⟩)
  | _, _ => none⟩
theorem impl_SafeMoves_f1_fok : FunOK Try.prog 35 := funOK Try.func35 (by kernel_rfl) rfl
theorem impl_SafeMoves_f1_meets (F : Nat) : Meets Try.prog 35 (impl_SafeMoves_f1_ent F) := by
  refine meets_of_runS mixed ttok deep (impl_SafeMoves_f1_tabok F) Try.func35 (body_some rfl) (impl_SafeMoves_f1_lsok0 F) fun args mem hfit ret h => ?_
  clear hfit
  simp only [impl_SafeMoves_f1_ent] at h
  split at h
  · rename_i d0 a17 a28
    simp only [Option.some.injEq, Prod.mk.injEq] at h
    obtain ⟨hc, rfl⟩ := h
    exact ⟨[], [], 70, _, (impl_SafeMoves_f1_run F d0 a17 a28).trans ((impl_SafeMoves_f1_cp _ F d0 a17 a28 _).trans (bind_use hc _)), rfl, rfl, rfl⟩
  · cases h

/-! slices.IndexFunc[[]int,int] -/
noncomputable def slices_IndexFunc_intint_impl_SafeMoves_f1_tab (F : Nat) : Tab := [(35, (impl_SafeMoves_f1_ent F))]
theorem slices_IndexFunc_intint_impl_SafeMoves_f1_tabok (F : Nat) : TabOK Try.prog (slices_IndexFunc_intint_impl_SafeMoves_f1_tab F) := (tab_cons (impl_SafeMoves_f1_meets F) impl_SafeMoves_f1_fok tab_nil)
noncomputable def slices_IndexFunc_intint_impl_SafeMoves_f1_LS0 (F : Nat) : LT := []
theorem slices_IndexFunc_intint_impl_SafeMoves_f1_lsok0 (F : Nat) : LoopsOK Try.prog (slices_IndexFunc_intint_impl_SafeMoves_f1_LS0 F) (bodyOf Try.f68) := loopsOK_nil
theorem slices_IndexFunc_intint_impl_SafeMoves_f1_keys : keysOK (bodyOf Try.f68) = true := by kernel_rfl
def slices_IndexFunc_intint_impl_SafeMoves_f1_st2 (s0 : List Int) (t77 : Int) (f9 : List Int) (f10 : List Int) (t88 : Int) : St := ⟨expand 19 0 [0, 1, 7, 8] [(.ri .i64 s0), (.fn 35 [] [(.ptr 0 0 0 16), (.ptr 1 0 0 1)]), (.int .i64 t77), (.int .i64 t88)], [(.var 16 (.ri .i64 f9)), (.var 1 (.ri .i64 f10))], 2, []⟩
def slices_IndexFunc_intint_impl_SafeMoves_f1_o2 (s0 : List Int) (t77 : Int) (f9 : List Int) (f10 : List Int) (x : Bool × Int) : GT := (.br x.1 (.out (.ret ⟨expand 19 0 [4] [(.int .i64 x.2)], [(.var 16 (.ri .i64 f9)), (.var 1 (.ri .i64 f10))], 2, []⟩)) (.out (.exit 0 ⟨expand 19 0 [] [], [(.var 16 (.ri .i64 f9)), (.var 1 (.ri .i64 f10))], 2, []⟩)))
def slices_IndexFunc_intint_impl_SafeMoves_f1_ls2 (F : Nat) : LoopS := ⟨19, [0, 1, 7, 8], [], [], [], [4], [], [], fun vals mem np killed => match vals, mem, np, killed with
  | [(.ri .i64 s0), (.fn 35 [] [(.ptr 0 0 0 16), (.ptr 1 0 0 1)]), (.int .i64 t77), (.int .i64 t88)], [(.var 16 (.ri .i64 f9)), (.var 1 (.ri .i64 f10))], 2, [] => .br (slices_IndexFunc_intint_impl_SafeMoves_f1_l2 F s0 t77 f9 f10 t88).isSome (slices_IndexFunc_intint_impl_SafeMoves_f1_o2 s0 t77 f9 f10 ((slices_IndexFunc_intint_impl_SafeMoves_f1_l2 F s0 t77 f9 f10 t88).getD default)) .fail
  | _, _, _, _ => .fail⟩
theorem slices_IndexFunc_intint_impl_SafeMoves_f1_step2 (F : Nat) (s0 : List Int) (t77 : Int) (f9 : List Int) (f10 : List Int) (t88 : Int) {R : Type} (k : Out → Option R) : stepS tt (slices_IndexFunc_intint_impl_SafeMoves_f1_tab F) (slices_IndexFunc_intint_impl_SafeMoves_f1_LS0 F) 70 (slices_IndexFunc_intint_impl_SafeMoves_f1_ls2 F) (loopAt 2 (bodyOf Try.f68)) (slices_IndexFunc_intint_impl_SafeMoves_f1_st2 s0 t77 f9 f10 t88) k = slices_IndexFunc_intint_impl_SafeMoves_f1_s2 F s0 t77 f9 f10 R t88 (fun s => k (.norm (slices_IndexFunc_intint_impl_SafeMoves_f1_st2 s0 t77 f9 f10 s))) (fun x => (slices_IndexFunc_intint_impl_SafeMoves_f1_o2 s0 t77 f9 f10 x).run k) := by kernel_rfl
theorem slices_IndexFunc_intint_impl_SafeMoves_f1_iter2 (F : Nat) (s0 : List Int) (t77 : Int) (f9 : List Int) (f10 : List Int) {R : Type} (k : Out → Option R) : ∀ (n : Nat) (t88 : Int), iterS tt (slices_IndexFunc_intint_impl_SafeMoves_f1_tab F) (slices_IndexFunc_intint_impl_SafeMoves_f1_LS0 F) 70 (slices_IndexFunc_intint_impl_SafeMoves_f1_ls2 F) (loopAt 2 (bodyOf Try.f68)) n (slices_IndexFunc_intint_impl_SafeMoves_f1_st2 s0 t77 f9 f10 t88) k = loopC (slices_IndexFunc_intint_impl_SafeMoves_f1_s2 F s0 t77 f9 f10) n t88 (fun x => (slices_IndexFunc_intint_impl_SafeMoves_f1_o2 s0 t77 f9 f10 x).run k)
  | 0, t88 => rfl
  | n + 1, t88 => (iterS_succ tt (slices_IndexFunc_intint_impl_SafeMoves_f1_tab F) (slices_IndexFunc_intint_impl_SafeMoves_f1_LS0 F) 70 (slices_IndexFunc_intint_impl_SafeMoves_f1_ls2 F) (loopAt 2 (bodyOf Try.f68)) n (slices_IndexFunc_intint_impl_SafeMoves_f1_st2 s0 t77 f9 f10 t88) k).trans ((slices_IndexFunc_intint_impl_SafeMoves_f1_step2 F s0 t77 f9 f10 t88 (nextK (iterS tt (slices_IndexFunc_intint_impl_SafeMoves_f1_tab F) (slices_IndexFunc_intint_impl_SafeMoves_f1_LS0 F) 70 (slices_IndexFunc_intint_impl_SafeMoves_f1_ls2 F) (loopAt 2 (bodyOf Try.f68)) n) k)).trans (congrArg (fun kn => slices_IndexFunc_intint_impl_SafeMoves_f1_s2 F s0 t77 f9 f10 R t88 kn _) (funext (fun t88 => slices_IndexFunc_intint_impl_SafeMoves_f1_iter2 F s0 t77 f9 f10 k n t88))))
theorem slices_IndexFunc_intint_impl_SafeMoves_f1_lok2 (F : Nat) : LoopOK Try.prog (loopAt 2 (bodyOf Try.f68)) (slices_IndexFunc_intint_impl_SafeMoves_f1_ls2 F) := by
  refine loopOK_of mixed ttok deep (slices_IndexFunc_intint_impl_SafeMoves_f1_tabok F) (loopsOK_at (slices_IndexFunc_intint_impl_SafeMoves_f1_lsok0 F) 2) (fuel := 70) fun R vals mem np killed k x h => ?_
  simp only [slices_IndexFunc_intint_impl_SafeMoves_f1_ls2] at h
  split at h
  · rename_i s0 t77 t88 f9 f10
    simp only [GT.run] at h
    have hc := (cond_noneL h).1
    replace h := (cond_noneL h).2
    refine ⟨F, (slices_IndexFunc_intint_impl_SafeMoves_f1_iter2 F s0 t77 f9 f10 k F t88).trans ((loopC_use (slices_IndexFunc_intint_impl_SafeMoves_f1_s2_nat F s0 t77 f9 f10) hc _).trans h)⟩
  · simp only [GT.run] at h
    cases h
noncomputable def slices_IndexFunc_intint_impl_SafeMoves_f1_LS1 (F : Nat) : LT := (2, slices_IndexFunc_intint_impl_SafeMoves_f1_ls2 F) :: slices_IndexFunc_intint_impl_SafeMoves_f1_LS0 F
theorem slices_IndexFunc_intint_impl_SafeMoves_f1_lsok1 (F : Nat) : LoopsOK Try.prog (slices_IndexFunc_intint_impl_SafeMoves_f1_LS1 F) (bodyOf Try.f68) := loopsOK_cons slices_IndexFunc_intint_impl_SafeMoves_f1_keys (slices_IndexFunc_intint_impl_SafeMoves_f1_lok2 F) (slices_IndexFunc_intint_impl_SafeMoves_f1_lsok0 F)
theorem slices_IndexFunc_intint_impl_SafeMoves_f1_run (F : Nat) (s0 : List Int) (f7 : List Int) (f8 : List Int) : runS tt (slices_IndexFunc_intint_impl_SafeMoves_f1_tab F) (slices_IndexFunc_intint_impl_SafeMoves_f1_LS1 F) [] [] Try.f68 (bodyOf Try.f68) 70 [(.ri .i64 s0), (.fn 35 [] [(.ptr 0 0 0 16), (.ptr 1 0 0 1)])] [(.var 16 (.ri .i64 f7)), (.var 1 (.ri .i64 f8))] = slices_IndexFunc_intint_impl_SafeMoves_f1_c _ F s0 f7 f8 (fun r => some ⟨(.int .i64 r), [(.var 16 (.ri .i64 f7)), (.var 1 (.ri .i64 f8))], []⟩) := by kernel_rfl
def slices_IndexFunc_intint_impl_SafeMoves_f1_ent (F : Nat) : Ent := ⟨[], .quiet, fun args mem => match args, mem with
  | [(.ri .i64 s0), (.fn 35 [] [(.ptr 0 0 0 16), (.ptr 1 0 0 1)])], [(.var 16 (.ri .i64 f7)), (.var 1 (.ri .i64 f8))] => some ((slices_IndexFunc_intint_impl_SafeMoves_f1_p F s0 f7 f8).isSome, ⟨(.int .i64 ((slices_IndexFunc_intint_impl_SafeMoves_f1_p F s0 f7 f8).getD default)), [], []⟩)
  | _, _ => none⟩
theorem slices_IndexFunc_intint_impl_SafeMoves_f1_fok : FunOK Try.prog 68 := funOK Try.func68 (by kernel_rfl) rfl
theorem slices_IndexFunc_intint_impl_SafeMoves_f1_meets (F : Nat) : Meets Try.prog 68 (slices_IndexFunc_intint_impl_SafeMoves_f1_ent F) := by
  refine meets_of_runS mixed ttok deep (slices_IndexFunc_intint_impl_SafeMoves_f1_tabok F) Try.func68 (body_some rfl) (slices_IndexFunc_intint_impl_SafeMoves_f1_lsok1 F) fun args mem hfit ret h => ?_
  clear hfit
  simp only [slices_IndexFunc_intint_impl_SafeMoves_f1_ent] at h
  split at h
  · rename_i s0 f7 f8
    simp only [Option.some.injEq, Prod.mk.injEq] at h
    obtain ⟨hc, rfl⟩ := h
    exact ⟨[], [], 70, _, (slices_IndexFunc_intint_impl_SafeMoves_f1_run F s0 f7 f8).trans ((slices_IndexFunc_intint_impl_SafeMoves_f1_cp _ F s0 f7 f8 _).trans (bind_use hc _)), rfl, rfl, rfl⟩
  · cases h

/-! slices.DeleteFunc[[]int,int] -/
noncomputable def slices_DeleteFunc_intint_impl_SafeMoves_f1_tab (F : Nat) : Tab := [(68, (slices_IndexFunc_intint_impl_SafeMoves_f1_ent F)), (35, (impl_SafeMoves_f1_ent F))]
theorem slices_DeleteFunc_intint_impl_SafeMoves_f1_tabok (F : Nat) : TabOK Try.prog (slices_DeleteFunc_intint_impl_SafeMoves_f1_tab F) := (tab_cons (slices_IndexFunc_intint_impl_SafeMoves_f1_meets F) slices_IndexFunc_intint_impl_SafeMoves_f1_fok (tab_cons (impl_SafeMoves_f1_meets F) impl_SafeMoves_f1_fok tab_nil))
noncomputable def slices_DeleteFunc_intint_impl_SafeMoves_f1_LS0 (F : Nat) : LT := []
theorem slices_DeleteFunc_intint_impl_SafeMoves_f1_lsok0 (F : Nat) : LoopsOK Try.prog (slices_DeleteFunc_intint_impl_SafeMoves_f1_LS0 F) (bodyOf Try.f33) := loopsOK_nil
theorem slices_DeleteFunc_intint_impl_SafeMoves_f1_keys : keysOK (bodyOf Try.f33) = true := by kernel_rfl
def slices_DeleteFunc_intint_impl_SafeMoves_f1_st5 (s1 : Nat) (del11 : List Int) (del12 : List Int) (i8 : Int) (j9 : Int) (s10 : List Int) : St := ⟨expand 42 0 [0, 1, 5, 6] [(.sl 0 0 s1), (.fn 35 [] [(.ptr 1 0 0 16), (.ptr 2 0 0 1)]), (.int .i64 i8), (.int .i64 j9)], [(.vec 3 (.ri .i64 s10)), (.var 16 (.ri .i64 del11)), (.var 1 (.ri .i64 del12))], 3, []⟩
def slices_DeleteFunc_intint_impl_SafeMoves_f1_o5 (s1 : Nat) (del11 : List Int) (del12 : List Int) (x : Int × List Int) : GT := (.out (.exit 0 ⟨expand 42 0 [0, 5] [(.sl 0 0 s1), (.int .i64 x.1)], [(.vec 3 (.ri .i64 x.2)), (.var 16 (.ri .i64 del11)), (.var 1 (.ri .i64 del12))], 3, []⟩))
def slices_DeleteFunc_intint_impl_SafeMoves_f1_ls5 (F : Nat) : LoopS := ⟨42, [0, 1, 5, 6], [], [0, 5], [], [4], [], [], fun vals mem np killed => match vals, mem, np, killed with
  | [(.sl 0 0 s1), (.fn 35 [] [(.ptr 1 0 0 16), (.ptr 2 0 0 1)]), (.int .i64 i8), (.int .i64 j9)], [(.vec 3 (.ri .i64 s10)), (.var 16 (.ri .i64 del11)), (.var 1 (.ri .i64 del12))], 3, [] => .br (slices_DeleteFunc_intint_impl_SafeMoves_f1_l5 F s1 del11 del12 i8 j9 s10).isSome (slices_DeleteFunc_intint_impl_SafeMoves_f1_o5 s1 del11 del12 ((slices_DeleteFunc_intint_impl_SafeMoves_f1_l5 F s1 del11 del12 i8 j9 s10).getD default)) .fail
  | _, _, _, _ => .fail⟩
theorem slices_DeleteFunc_intint_impl_SafeMoves_f1_step5 (F : Nat) (s1 : Nat) (del11 : List Int) (del12 : List Int) (i8 : Int) (j9 : Int) (s10 : List Int) {R : Type} (k : Out → Option R) : stepS tt (slices_DeleteFunc_intint_impl_SafeMoves_f1_tab F) (slices_DeleteFunc_intint_impl_SafeMoves_f1_LS0 F) 70 (slices_DeleteFunc_intint_impl_SafeMoves_f1_ls5 F) (loopAt 5 (bodyOf Try.f33)) (slices_DeleteFunc_intint_impl_SafeMoves_f1_st5 s1 del11 del12 i8 j9 s10) k = slices_DeleteFunc_intint_impl_SafeMoves_f1_s5 F s1 del11 del12 R (i8, j9, s10) (fun s => k (.norm (slices_DeleteFunc_intint_impl_SafeMoves_f1_st5 s1 del11 del12 s.1 s.2.1 s.2.2))) (fun x => (slices_DeleteFunc_intint_impl_SafeMoves_f1_o5 s1 del11 del12 x).run k) := by kernel_rfl
theorem slices_DeleteFunc_intint_impl_SafeMoves_f1_iter5 (F : Nat) (s1 : Nat) (del11 : List Int) (del12 : List Int) {R : Type} (k : Out → Option R) : ∀ (n : Nat) (i8 : Int) (j9 : Int) (s10 : List Int), iterS tt (slices_DeleteFunc_intint_impl_SafeMoves_f1_tab F) (slices_DeleteFunc_intint_impl_SafeMoves_f1_LS0 F) 70 (slices_DeleteFunc_intint_impl_SafeMoves_f1_ls5 F) (loopAt 5 (bodyOf Try.f33)) n (slices_DeleteFunc_intint_impl_SafeMoves_f1_st5 s1 del11 del12 i8 j9 s10) k = loopC (slices_DeleteFunc_intint_impl_SafeMoves_f1_s5 F s1 del11 del12) n (i8, j9, s10) (fun x => (slices_DeleteFunc_intint_impl_SafeMoves_f1_o5 s1 del11 del12 x).run k)
  | 0, i8, j9, s10 => rfl
  | n + 1, i8, j9, s10 => (iterS_succ tt (slices_DeleteFunc_intint_impl_SafeMoves_f1_tab F) (slices_DeleteFunc_intint_impl_SafeMoves_f1_LS0 F) 70 (slices_DeleteFunc_intint_impl_SafeMoves_f1_ls5 F) (loopAt 5 (bodyOf Try.f33)) n (slices_DeleteFunc_intint_impl_SafeMoves_f1_st5 s1 del11 del12 i8 j9 s10) k).trans ((slices_DeleteFunc_intint_impl_SafeMoves_f1_step5 F s1 del11 del12 i8 j9 s10 (nextK (iterS tt (slices_DeleteFunc_intint_impl_SafeMoves_f1_tab F) (slices_DeleteFunc_intint_impl_SafeMoves_f1_LS0 F) 70 (slices_DeleteFunc_intint_impl_SafeMoves_f1_ls5 F) (loopAt 5 (bodyOf Try.f33)) n) k)).trans (congrArg (fun kn => slices_DeleteFunc_intint_impl_SafeMoves_f1_s5 F s1 del11 del12 R (i8, j9, s10) kn _) (funext (fun ⟨i8, j9, s10⟩ => slices_DeleteFunc_intint_impl_SafeMoves_f1_iter5 F s1 del11 del12 k n i8 j9 s10))))
theorem slices_DeleteFunc_intint_impl_SafeMoves_f1_lok5 (F : Nat) : LoopOK Try.prog (loopAt 5 (bodyOf Try.f33)) (slices_DeleteFunc_intint_impl_SafeMoves_f1_ls5 F) := by
  refine loopOK_of mixed ttok deep (slices_DeleteFunc_intint_impl_SafeMoves_f1_tabok F) (loopsOK_at (slices_DeleteFunc_intint_impl_SafeMoves_f1_lsok0 F) 5) (fuel := 70) fun R vals mem np killed k x h => ?_
  simp only [slices_DeleteFunc_intint_impl_SafeMoves_f1_ls5] at h
  split at h
  · rename_i s1 i8 j9 s10 del11 del12
    simp only [GT.run] at h
    have hc := (cond_noneL h).1
    replace h := (cond_noneL h).2
    refine ⟨F, (slices_DeleteFunc_intint_impl_SafeMoves_f1_iter5 F s1 del11 del12 k F i8 j9 s10).trans ((loopC_use (slices_DeleteFunc_intint_impl_SafeMoves_f1_s5_nat F s1 del11 del12) hc _).trans h)⟩
  · simp only [GT.run] at h
    cases h
noncomputable def slices_DeleteFunc_intint_impl_SafeMoves_f1_LS1 (F : Nat) : LT := (5, slices_DeleteFunc_intint_impl_SafeMoves_f1_ls5 F) :: slices_DeleteFunc_intint_impl_SafeMoves_f1_LS0 F
theorem slices_DeleteFunc_intint_impl_SafeMoves_f1_lsok1 (F : Nat) : LoopsOK Try.prog (slices_DeleteFunc_intint_impl_SafeMoves_f1_LS1 F) (bodyOf Try.f33) := loopsOK_cons slices_DeleteFunc_intint_impl_SafeMoves_f1_keys (slices_DeleteFunc_intint_impl_SafeMoves_f1_lok5 F) (slices_DeleteFunc_intint_impl_SafeMoves_f1_lsok0 F)
theorem slices_DeleteFunc_intint_impl_SafeMoves_f1_run (F : Nat) (s8 : List Int) (del9 : List Int) (del10 : List Int) : runS tt (slices_DeleteFunc_intint_impl_SafeMoves_f1_tab F) (slices_DeleteFunc_intint_impl_SafeMoves_f1_LS1 F) [] [] Try.f33 (bodyOf Try.f33) 70 [(.sl 0 0 (List.length s8)), (.fn 35 [] [(.ptr 1 0 0 16), (.ptr 2 0 0 1)])] [(.vec 3 (.ri .i64 s8)), (.var 16 (.ri .i64 del9)), (.var 1 (.ri .i64 del10))] = slices_DeleteFunc_intint_impl_SafeMoves_f1_c _ F s8 del9 del10 (fun r => some ⟨(.sl 0 0 r.1), [(.vec 3 (.ri .i64 r.2)), (.var 16 (.ri .i64 del9)), (.var 1 (.ri .i64 del10))], []⟩) := by kernel_rfl
def slices_DeleteFunc_intint_impl_SafeMoves_f1_ent (F : Nat) : Ent := ⟨[true], .loud, fun args mem => match args, mem with
  | [(.sl 0 0 q_s1), (.fn 35 [] [(.ptr 1 0 0 16), (.ptr 2 0 0 1)])], [(.vec 3 (.ri .i64 s8)), (.var 16 (.ri .i64 del9)), (.var 1 (.ri .i64 del10))] => some (((Nat.beq q_s1 (List.length s8)) && (slices_DeleteFunc_intint_impl_SafeMoves_f1_p F s8 del9 del10).isSome), ⟨(.sl 0 0 ((slices_DeleteFunc_intint_impl_SafeMoves_f1_p F s8 del9 del10).getD default).1), [(.vec 3 (.ri .i64 ((slices_DeleteFunc_intint_impl_SafeMoves_f1_p F s8 del9 del10).getD default).2)), (.var 16 (.ri .i64 del9)), (.var 1 (.ri .i64 del10))], []⟩)
  | _, _ => none⟩
theorem slices_DeleteFunc_intint_impl_SafeMoves_f1_fok : FunOK Try.prog 33 := funOK Try.func33 (by kernel_rfl) rfl
theorem slices_DeleteFunc_intint_impl_SafeMoves_f1_meets (F : Nat) : Meets Try.prog 33 (slices_DeleteFunc_intint_impl_SafeMoves_f1_ent F) := by
  refine meets_of_runS mixed ttok deep (slices_DeleteFunc_intint_impl_SafeMoves_f1_tabok F) Try.func33 (body_some rfl) (slices_DeleteFunc_intint_impl_SafeMoves_f1_lsok1 F) fun args mem hfit ret h => ?_
  clear hfit
  simp only [slices_DeleteFunc_intint_impl_SafeMoves_f1_ent] at h
  split at h
  · rename_i q_s1 s8 del9 del10
    simp only [Option.some.injEq, Prod.mk.injEq] at h
    obtain ⟨hc, rfl⟩ := h
    have hg := (and_split hc).1
    replace hc := (and_split hc).2
    obtain rfl := nbeq_nat hg
    exact ⟨[], [], 70, _, (slices_DeleteFunc_intint_impl_SafeMoves_f1_run F s8 del9 del10).trans ((slices_DeleteFunc_intint_impl_SafeMoves_f1_cp _ F s8 del9 del10 _).trans (bind_use hc _)), rfl, rfl, rfl⟩
  · cases h

/-! loop.example/g01194/impl.SafeMoves -/
noncomputable def impl_SafeMoves_tab (F : Nat) : Tab := [(27, (impl_IsBoard_ent F)), (28, (impl_in_ent F)), (34, (impl_Board_moves_ent F)), (33, (slices_DeleteFunc_intint_impl_SafeMoves_f1_ent F))]
theorem impl_SafeMoves_tabok (F : Nat) : TabOK Try.prog (impl_SafeMoves_tab F) := (tab_cons (impl_IsBoard_meets F) impl_IsBoard_fok (tab_cons (impl_in_meets F) impl_in_fok (tab_cons (impl_Board_moves_meets F) impl_Board_moves_fok (tab_cons (slices_DeleteFunc_intint_impl_SafeMoves_f1_meets F) slices_DeleteFunc_intint_impl_SafeMoves_f1_fok tab_nil))))
noncomputable def impl_SafeMoves_LS0 (F : Nat) : LT := []
theorem impl_SafeMoves_lsok0 (F : Nat) : LoopsOK Try.prog (impl_SafeMoves_LS0 F) (bodyOf Try.f10) := loopsOK_nil
theorem impl_SafeMoves_run (F : Nat) (b0 : List Int) (n1 : Int) : runS tt (impl_SafeMoves_tab F) (impl_SafeMoves_LS0 F) [⟨4, 3, (.ri .i64 ([] : List Int))⟩] [] Try.f10 (bodyOf Try.f10) 70 [(.ints 16 b0), (.int .i64 n1)] [] = impl_SafeMoves_c _ F b0 n1 (fun r => some ⟨(.tup [(.sl 0 0 r.1), (.bool r.2.1)]), [(.vec 3 (.ri .i64 r.2.2))], []⟩) := by kernel_rfl
def impl_SafeMoves_ent (F : Nat) : Ent := ⟨[], .fresh, fun args mem => match args, mem with
  | [(.ints 16 b0), (.int .i64 n1)], [] => some ((impl_SafeMoves_p F b0 n1).isSome, ⟨(.tup [(.sl 0 0 ((impl_SafeMoves_p F b0 n1).getD default).1), (.bool ((impl_SafeMoves_p F b0 n1).getD default).2.1)]), [(.vec 3 (.ri .i64 ((impl_SafeMoves_p F b0 n1).getD default).2.2))], []⟩)
  | _, _ => none⟩
theorem impl_SafeMoves_fok : FunOK Try.prog 10 := funOK Try.func10 (by kernel_rfl) rfl
theorem impl_SafeMoves_meets (F : Nat) : Meets Try.prog 10 (impl_SafeMoves_ent F) := by
  refine meets_of_runS mixed ttok deep (impl_SafeMoves_tabok F) Try.func10 (body_some rfl) (impl_SafeMoves_lsok0 F) fun args mem hfit ret h => ?_
  clear hfit
  simp only [impl_SafeMoves_ent] at h
  split at h
  · rename_i b0 n1
    simp only [Option.some.injEq, Prod.mk.injEq] at h
    obtain ⟨hc, rfl⟩ := h
    exact ⟨[⟨4, 3, (.ri .i64 ([] : List Int))⟩], [], 70, _, (impl_SafeMoves_run F b0 n1).trans ((impl_SafeMoves_cp _ F b0 n1 _).trans (bind_use hc _)), rfl, rfl, rfl⟩
  · cases h

/-! loop.example/g01194/spec.l8Safe -/
def spec_l8Safe_ent (F : Nat) : Ent := ⟨[], .quiet, fun args mem => match args, mem with
  | [(.ints 16 b0), (.int .i64 d1), (.int .i64 n2)], [] => some ((spec_l8Safe_p F b0 d1 n2).isSome, ⟨(.bool ((spec_l8Safe_p F b0 d1 n2).getD default)), [], []⟩)
  | _, _ => none⟩
theorem spec_l8Safe_fok : FunOK Try.prog 37 := funOK Try.func37 (by kernel_rfl) rfl
theorem spec_l8Safe_meets (F : Nat) : Meets Try.prog 37 (spec_l8Safe_ent F) := by
  intro fr w ρ mem args reals hw ha ret hg
  simp only [spec_l8Safe_ent] at hg
  split at hg
  · rename_i b0 d1 n2
    simp only [Option.some.injEq, Prod.mk.injEq] at hg
    obtain ⟨hc, rfl⟩ := hg
    by_cases hn0 : (n2 == (1 : Int)) = true
    · obtain rfl := beq_int hn0
      have e : spec_l8Safe_p F b0 d1 (1 : Int) = (bif (Option.isSome (spec_l8Safe_n1_p F b0 d1)) then some (Option.getD (spec_l8Safe_n1_p F b0 d1) default) else none) := by kernel_rfl
      have hg' : (spec_l8Safe_n1_ent F).g [(.ints 16 b0), (.int .i64 d1), (.int .i64 (1 : Int))] [] = some ((Option.isSome (spec_l8Safe_n1_p F b0 d1)), ⟨(.bool (Option.getD (spec_l8Safe_n1_p F b0 d1) default)), [], []⟩) := by kernel_rfl
      rw [e] at hc
      have hC := isSome_cond hc
      rw [hC] at hg'
      have h9 := spec_l8Safe_n1_meets F fr w ρ _ _ reals hw ha _ hg'
      simp only [e, hC, cond_true, Option.getD_some]
      exact h9
    · replace hn0 : (n2 == (1 : Int)) = false := by simpa using hn0
      by_cases hn1 : (n2 == (2 : Int)) = true
      · obtain rfl := beq_int hn1
        have e : spec_l8Safe_p F b0 d1 (2 : Int) = (bif (Option.isSome (spec_l8Safe_n2_p F b0 d1)) then some (Option.getD (spec_l8Safe_n2_p F b0 d1) default) else none) := by kernel_rfl
        have hg' : (spec_l8Safe_n2_ent F).g [(.ints 16 b0), (.int .i64 d1), (.int .i64 (2 : Int))] [] = some ((Option.isSome (spec_l8Safe_n2_p F b0 d1)), ⟨(.bool (Option.getD (spec_l8Safe_n2_p F b0 d1) default)), [], []⟩) := by kernel_rfl
        rw [e] at hc
        have hC := isSome_cond hc
        rw [hC] at hg'
        have h9 := spec_l8Safe_n2_meets F fr w ρ _ _ reals hw ha _ hg'
        simp only [e, hC, cond_true, Option.getD_some]
        exact h9
      · replace hn1 : (n2 == (2 : Int)) = false := by simpa using hn1
        by_cases hn2 : (n2 == (3 : Int)) = true
        · obtain rfl := beq_int hn2
          have e : spec_l8Safe_p F b0 d1 (3 : Int) = (bif (Option.isSome (spec_l8Safe_n3_p F b0 d1)) then some (Option.getD (spec_l8Safe_n3_p F b0 d1) default) else none) := by kernel_rfl
          have hg' : (spec_l8Safe_n3_ent F).g [(.ints 16 b0), (.int .i64 d1), (.int .i64 (3 : Int))] [] = some ((Option.isSome (spec_l8Safe_n3_p F b0 d1)), ⟨(.bool (Option.getD (spec_l8Safe_n3_p F b0 d1) default)), [], []⟩) := by kernel_rfl
          rw [e] at hc
          have hC := isSome_cond hc
          rw [hC] at hg'
          have h9 := spec_l8Safe_n3_meets F fr w ρ _ _ reals hw ha _ hg'
          simp only [e, hC, cond_true, Option.getD_some]
          exact h9
        · replace hn2 : (n2 == (3 : Int)) = false := by simpa using hn2
          exfalso
          have e : spec_l8Safe_p F b0 d1 n2 = none := by simp only [spec_l8Safe_p, spec_l8Safe_c, hn0, hn1, hn2, cond_false]
          rw [e] at hc
          cases hc
  · cases hg

/-! loop.example/g01194/spec.SafeMoves -/
noncomputable def spec_SafeMoves_tab (F : Nat) : Tab := [(30, (spec_l2Board_ent F)), (31, (spec_l1In_ent F)), (37, (spec_l8Safe_ent F))]
theorem spec_SafeMoves_tabok (F : Nat) : TabOK Try.prog (spec_SafeMoves_tab F) := (tab_cons (spec_l2Board_meets F) spec_l2Board_fok (tab_cons (spec_l1In_meets F) spec_l1In_fok (tab_cons (spec_l8Safe_meets F) spec_l8Safe_fok tab_nil)))
noncomputable def spec_SafeMoves_LS0 (F : Nat) : LT := []
theorem spec_SafeMoves_lsok0 (F : Nat) : LoopsOK Try.prog (spec_SafeMoves_LS0 F) (bodyOf Try.f11) := loopsOK_nil
theorem spec_SafeMoves_keys : keysOK (bodyOf Try.f11) = true := by kernel_rfl
def spec_SafeMoves_st5 (n0 : Int) (b7 : List Int) (d6 : Int) (out8 : List Int) : St := ⟨expand 31 0 [1, 2, 6, 7] [(.int .i64 n0), (.ptr 0 0 0 16), (.sl 1 0 (List.length out8)), (.int .i64 d6)], [(.var 16 (.ri .i64 b7)), (.vec 3 (.ri .i64 out8))], 0, []⟩
def spec_SafeMoves_o5 (n0 : Int) (b7 : List Int) (x : List Int) : GT := (.out (.exit 0 ⟨expand 31 0 [6] [(.sl 0 0 (List.length x))], [(.vec 3 (.ri .i64 x))], 0, []⟩))
def spec_SafeMoves_ls5 (F : Nat) : LoopS := ⟨31, [1, 2, 6, 7], [], [6], [], [4, 5], [], [], fun vals mem np killed => match vals, mem, np, killed with
  | [(.int .i64 n0), (.ptr 0 0 0 16), (.sl 1 0 q_out5), (.int .i64 d6)], [(.var 16 (.ri .i64 b7)), (.vec 3 (.ri .i64 out8))], 0, [] => .br ((Nat.beq q_out5 (List.length out8)) && (spec_SafeMoves_l5 F n0 b7 d6 out8).isSome) (spec_SafeMoves_o5 n0 b7 ((spec_SafeMoves_l5 F n0 b7 d6 out8).getD default)) .fail
  | _, _, _, _ => .fail⟩
theorem spec_SafeMoves_step5 (F : Nat) (n0 : Int) (b7 : List Int) (d6 : Int) (out8 : List Int) {R : Type} (k : Out → Option R) : stepS tt (spec_SafeMoves_tab F) (spec_SafeMoves_LS0 F) 70 (spec_SafeMoves_ls5 F) (loopAt 5 (bodyOf Try.f11)) (spec_SafeMoves_st5 n0 b7 d6 out8) k = spec_SafeMoves_s5 F n0 b7 R (d6, out8) (fun s => k (.norm (spec_SafeMoves_st5 n0 b7 s.1 s.2))) (fun x => (spec_SafeMoves_o5 n0 b7 x).run k) := by kernel_rfl
theorem spec_SafeMoves_iter5 (F : Nat) (n0 : Int) (b7 : List Int) {R : Type} (k : Out → Option R) : ∀ (n : Nat) (d6 : Int) (out8 : List Int), iterS tt (spec_SafeMoves_tab F) (spec_SafeMoves_LS0 F) 70 (spec_SafeMoves_ls5 F) (loopAt 5 (bodyOf Try.f11)) n (spec_SafeMoves_st5 n0 b7 d6 out8) k = loopC (spec_SafeMoves_s5 F n0 b7) n (d6, out8) (fun x => (spec_SafeMoves_o5 n0 b7 x).run k)
  | 0, d6, out8 => rfl
  | n + 1, d6, out8 => (iterS_succ tt (spec_SafeMoves_tab F) (spec_SafeMoves_LS0 F) 70 (spec_SafeMoves_ls5 F) (loopAt 5 (bodyOf Try.f11)) n (spec_SafeMoves_st5 n0 b7 d6 out8) k).trans ((spec_SafeMoves_step5 F n0 b7 d6 out8 (nextK (iterS tt (spec_SafeMoves_tab F) (spec_SafeMoves_LS0 F) 70 (spec_SafeMoves_ls5 F) (loopAt 5 (bodyOf Try.f11)) n) k)).trans (congrArg (fun kn => spec_SafeMoves_s5 F n0 b7 R (d6, out8) kn _) (funext (fun ⟨d6, out8⟩ => spec_SafeMoves_iter5 F n0 b7 k n d6 out8))))
theorem spec_SafeMoves_lok5 (F : Nat) : LoopOK Try.prog (loopAt 5 (bodyOf Try.f11)) (spec_SafeMoves_ls5 F) := by
  refine loopOK_of mixed ttok deep (spec_SafeMoves_tabok F) (loopsOK_at (spec_SafeMoves_lsok0 F) 5) (fuel := 70) fun R vals mem np killed k x h => ?_
  simp only [spec_SafeMoves_ls5] at h
  split at h
  · rename_i n0 q_out5 d6 b7 out8
    simp only [GT.run] at h
    have hc := (cond_noneL h).1
    replace h := (cond_noneL h).2
    have hg := (and_split hc).1
    replace hc := (and_split hc).2
    obtain rfl := nbeq_nat hg
    refine ⟨F, (spec_SafeMoves_iter5 F n0 b7 k F d6 out8).trans ((loopC_use (spec_SafeMoves_s5_nat F n0 b7) hc _).trans h)⟩
  · simp only [GT.run] at h
    cases h
noncomputable def spec_SafeMoves_LS1 (F : Nat) : LT := (5, spec_SafeMoves_ls5 F) :: spec_SafeMoves_LS0 F
theorem spec_SafeMoves_lsok1 (F : Nat) : LoopsOK Try.prog (spec_SafeMoves_LS1 F) (bodyOf Try.f11) := loopsOK_cons spec_SafeMoves_keys (spec_SafeMoves_lok5 F) (spec_SafeMoves_lsok0 F)
theorem spec_SafeMoves_run (F : Nat) (b0 : List Int) (n1 : Int) : runS tt (spec_SafeMoves_tab F) (spec_SafeMoves_LS1 F) [] [] Try.f11 (bodyOf Try.f11) 70 [(.ints 16 b0), (.int .i64 n1)] [] = spec_SafeMoves_c _ F b0 n1 (fun r => some ⟨(.tup [(.sl 0 0 (List.length r.2)), (.bool r.1)]), [(.vec 3 (.ri .i64 r.2))], []⟩) := by kernel_rfl
def spec_SafeMoves_ent (F : Nat) : Ent := ⟨[], .fresh, fun args mem => match args, mem with
  | [(.ints 16 b0), (.int .i64 n1)], [] => some ((spec_SafeMoves_p F b0 n1).isSome, ⟨(.tup [(.sl 0 0 (List.length ((spec_SafeMoves_p F b0 n1).getD default).2)), (.bool ((spec_SafeMoves_p F b0 n1).getD default).1)]), [(.vec 3 (.ri .i64 ((spec_SafeMoves_p F b0 n1).getD default).2))], []⟩)
  | _, _ => none⟩
theorem spec_SafeMoves_fok : FunOK Try.prog 11 := funOK Try.func11 (by kernel_rfl) rfl
theorem spec_SafeMoves_meets (F : Nat) : Meets Try.prog 11 (spec_SafeMoves_ent F) := by
  refine meets_of_runS mixed ttok deep (spec_SafeMoves_tabok F) Try.func11 (body_some rfl) (spec_SafeMoves_lsok1 F) fun args mem hfit ret h => ?_
  clear hfit
  simp only [spec_SafeMoves_ent] at h
  split at h
  · rename_i b0 n1
    simp only [Option.some.injEq, Prod.mk.injEq] at h
    obtain ⟨hc, rfl⟩ := h
    exact ⟨[], [], 70, _, (spec_SafeMoves_run F b0 n1).trans ((spec_SafeMoves_cp _ F b0 n1 _).trans (bind_use hc _)), rfl, rfl, rfl⟩
  · cases h
end Go.Proofs.Ytgdokdkcbgkekaf
