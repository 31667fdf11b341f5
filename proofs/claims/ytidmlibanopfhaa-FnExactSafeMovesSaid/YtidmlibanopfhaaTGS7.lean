/-
Pure functions and what the code of them does, by program; without conditions.
-/
import Derived.Test.YtidmlibanopfhaaTGP7
import Derived.Test.YtidmlibanopfhaaTGS6
namespace Go.Proofs.Ytidmlibanopfhaa
open Go Go.Lv Go.Lv.P Go.Proofs
set_option linter.unusedVariables false
set_option linter.unusedSimpArgs false
set_option maxRecDepth 100000
/-! loop.example/g01194/spec.l8Safe -/
def spec_l8Safe_ent (F : Nat) : Ent := ⟨[], .quiet, fun args mem => match args, mem with
  | [(.ints 16 b0), (.int .i64 d1), (.int .i64 n2)], [] => some ((spec_l8Safe_p F b0 d1 n2).isSome, ⟨(.bool ((spec_l8Safe_p F b0 d1 n2).getD default)), [], []⟩)
  | _, _ => none⟩
theorem spec_l8Safe_fok : FunOK Try.prog 50 := funOK Try.func50 (by kernel_rfl) rfl
theorem spec_l8Safe_meets (F : Nat) : Meets Try.prog 50 (spec_l8Safe_ent F) := by
  intro fr w ρ mem args reals hw ha ret hg
  simp only [spec_l8Safe_ent] at hg
  split at hg
  · rename_i b0 d1 n2
    simp only [Option.some.injEq, Prod.mk.injEq] at hg
    obtain ⟨hc, rfl⟩ := hg
    by_cases hn0 : (n2 == (1 : Int)) = true
    · obtain rfl := beq_int hn0
      have e : spec_l8Safe_p F b0 d1 (1 : Int) = (bif (Option.isSome (spec_l8Safe_n1_p F b0 d1)) then some (Option.getD (spec_l8Safe_n1_p F b0 d1) default) else none) := by kernel_rfl
      have hg' : (spec_l8Safe_n1_ent F).g [(.ints 16 b0), (.int .i64 d1), (.int .i64 (1 : Int))] [] = some ((Option.isSome (spec_l8Safe_n1_p F b0 d1)), ⟨(.bool (Option.getD (spec_l8Safe_n1_p F b0 d1) default)), [], []⟩) := by kernel_rfl
      rw [e] at hc
      have hC := isSome_cond hc
      rw [hC] at hg'
      have h9 := spec_l8Safe_n1_meets F fr w ρ _ _ reals hw ha _ hg'
      simp only [e, hC, cond_true, Option.getD_some]
      exact h9
    · replace hn0 : (n2 == (1 : Int)) = false := by simpa using hn0
      by_cases hn1 : (n2 == (2 : Int)) = true
      · obtain rfl := beq_int hn1
        have e : spec_l8Safe_p F b0 d1 (2 : Int) = (bif (Option.isSome (spec_l8Safe_n2_p F b0 d1)) then some (Option.getD (spec_l8Safe_n2_p F b0 d1) default) else none) := by kernel_rfl
        have hg' : (spec_l8Safe_n2_ent F).g [(.ints 16 b0), (.int .i64 d1), (.int .i64 (2 : Int))] [] = some ((Option.isSome (spec_l8Safe_n2_p F b0 d1)), ⟨(.bool (Option.getD (spec_l8Safe_n2_p F b0 d1) default)), [], []⟩) := by kernel_rfl
        rw [e] at hc
        have hC := isSome_cond hc
        rw [hC] at hg'
        have h9 := spec_l8Safe_n2_meets F fr w ρ _ _ reals hw ha _ hg'
        simp only [e, hC, cond_true, Option.getD_some]
        exact h9
      · replace hn1 : (n2 == (2 : Int)) = false := by simpa using hn1
        by_cases hn2 : (n2 == (3 : Int)) = true
        · obtain rfl := beq_int hn2
          have e : spec_l8Safe_p F b0 d1 (3 : Int) = (bif (Option.isSome (spec_l8Safe_n3_p F b0 d1)) then some (Option.getD (spec_l8Safe_n3_p F b0 d1) default) else none) := by kernel_rfl
          have hg' : (spec_l8Safe_n3_ent F).g [(.ints 16 b0), (.int .i64 d1), (.int .i64 (3 : Int))] [] = some ((Option.isSome (spec_l8Safe_n3_p F b0 d1)), ⟨(.bool (Option.getD (spec_l8Safe_n3_p F b0 d1) default)), [], []⟩) := by kernel_rfl
          rw [e] at hc
          have hC := isSome_cond hc
          rw [hC] at hg'
          have h9 := spec_l8Safe_n3_meets F fr w ρ _ _ reals hw ha _ hg'
          simp only [e, hC, cond_true, Option.getD_some]
          exact h9
        · replace hn2 : (n2 == (3 : Int)) = false := by simpa using hn2
          exfalso
          have e : spec_l8Safe_p F b0 d1 n2 = none := by simp only [spec_l8Safe_p, spec_l8Safe_c, hn0, hn1, hn2, cond_false]
          rw [e] at hc
          cases hc
  · cases hg

/-! loop.example/g01194/spec.SafeMoves -/
noncomputable def spec_SafeMoves_tab (F : Nat) : Tab := [(29, (spec_l2Board_ent F)), (30, (spec_l1In_ent F)), (50, (spec_l8Safe_ent F))]
theorem spec_SafeMoves_tabok (F : Nat) : TabOK Try.prog (spec_SafeMoves_tab F) := (tab_cons (spec_l2Board_meets F) spec_l2Board_fok (tab_cons (spec_l1In_meets F) spec_l1In_fok (tab_cons (spec_l8Safe_meets F) spec_l8Safe_fok tab_nil)))
noncomputable def spec_SafeMoves_LS0 (F : Nat) : LT := []
theorem spec_SafeMoves_lsok0 (F : Nat) : LoopsOK Try.prog (spec_SafeMoves_LS0 F) (bodyOf Try.f24) := loopsOK_nil
theorem spec_SafeMoves_keys : keysOK (bodyOf Try.f24) = true := by kernel_rfl
def spec_SafeMoves_st5 (n0 : Int) (b7 : List Int) (d6 : Int) (out8 : List Int) : St := ⟨expand 31 0 [1, 2, 6, 7] [(.int .i64 n0), (.ptr 0 0 0 16), (.sl 1 0 (List.length out8)), (.int .i64 d6)], [(.var 16 (.ri .i64 b7)), (.vec 3 (.ri .i64 out8))], 0, []⟩
def spec_SafeMoves_o5 (n0 : Int) (b7 : List Int) (x : List Int) : GT := (.out (.exit 0 ⟨expand 31 0 [6] [(.sl 0 0 (List.length x))], [(.vec 3 (.ri .i64 x))], 0, []⟩))
def spec_SafeMoves_ls5 (F : Nat) : LoopS := ⟨31, [1, 2, 6, 7], [], [6], [], [4, 5], [], [], fun vals mem np killed => match vals, mem, np, killed with
  | [(.int .i64 n0), (.ptr 0 0 0 16), (.sl 1 0 q_out5), (.int .i64 d6)], [(.var 16 (.ri .i64 b7)), (.vec 3 (.ri .i64 out8))], 0, [] => .br ((Nat.beq q_out5 (List.length out8)) && (spec_SafeMoves_l5 F n0 b7 d6 out8).isSome) (spec_SafeMoves_o5 n0 b7 ((spec_SafeMoves_l5 F n0 b7 d6 out8).getD default)) .fail
  | _, _, _, _ => .fail⟩
theorem spec_SafeMoves_step5 (F : Nat) (n0 : Int) (b7 : List Int) (d6 : Int) (out8 : List Int) {R : Type} (k : Out → Option R) : stepS tt (spec_SafeMoves_tab F) (spec_SafeMoves_LS0 F) 70 (spec_SafeMoves_ls5 F) (loopAt 5 (bodyOf Try.f24)) (spec_SafeMoves_st5 n0 b7 d6 out8) k = spec_SafeMoves_s5 F n0 b7 R (d6, out8) (fun s => k (.norm (spec_SafeMoves_st5 n0 b7 s.1 s.2))) (fun x => (spec_SafeMoves_o5 n0 b7 x).run k) := by kernel_rfl
theorem spec_SafeMoves_iter5 (F : Nat) (n0 : Int) (b7 : List Int) {R : Type} (k : Out → Option R) : ∀ (n : Nat) (d6 : Int) (out8 : List Int), iterS tt (spec_SafeMoves_tab F) (spec_SafeMoves_LS0 F) 70 (spec_SafeMoves_ls5 F) (loopAt 5 (bodyOf Try.f24)) n (spec_SafeMoves_st5 n0 b7 d6 out8) k = loopC (spec_SafeMoves_s5 F n0 b7) n (d6, out8) (fun x => (spec_SafeMoves_o5 n0 b7 x).run k)
  | 0, d6, out8 => rfl
  | n + 1, d6, out8 => (iterS_succ tt (spec_SafeMoves_tab F) (spec_SafeMoves_LS0 F) 70 (spec_SafeMoves_ls5 F) (loopAt 5 (bodyOf Try.f24)) n (spec_SafeMoves_st5 n0 b7 d6 out8) k).trans ((spec_SafeMoves_step5 F n0 b7 d6 out8 (nextK (iterS tt (spec_SafeMoves_tab F) (spec_SafeMoves_LS0 F) 70 (spec_SafeMoves_ls5 F) (loopAt 5 (bodyOf Try.f24)) n) k)).trans (congrArg (fun kn => spec_SafeMoves_s5 F n0 b7 R (d6, out8) kn _) (funext (fun ⟨d6, out8⟩ => spec_SafeMoves_iter5 F n0 b7 k n d6 out8))))
theorem spec_SafeMoves_lok5 (F : Nat) : LoopOK Try.prog (loopAt 5 (bodyOf Try.f24)) (spec_SafeMoves_ls5 F) := by
  refine loopOK_of mixed ttok deep (spec_SafeMoves_tabok F) (loopsOK_at (spec_SafeMoves_lsok0 F) 5) (fuel := 70) fun R vals mem np killed k x h => ?_
  simp only [spec_SafeMoves_ls5] at h
  split at h
  · rename_i n0 q_out5 d6 b7 out8
    simp only [GT.run] at h
    have hc := (cond_noneL h).1
    replace h := (cond_noneL h).2
    have hg := (and_split hc).1
    replace hc := (and_split hc).2
    obtain rfl := nbeq_nat hg
    refine ⟨F, (spec_SafeMoves_iter5 F n0 b7 k F d6 out8).trans ((loopC_use (spec_SafeMoves_s5_nat F n0 b7) hc _).trans h)⟩
  · simp only [GT.run] at h
    cases h
noncomputable def spec_SafeMoves_LS1 (F : Nat) : LT := (5, spec_SafeMoves_ls5 F) :: spec_SafeMoves_LS0 F
theorem spec_SafeMoves_lsok1 (F : Nat) : LoopsOK Try.prog (spec_SafeMoves_LS1 F) (bodyOf Try.f24) := loopsOK_cons spec_SafeMoves_keys (spec_SafeMoves_lok5 F) (spec_SafeMoves_lsok0 F)
theorem spec_SafeMoves_run (F : Nat) (b0 : List Int) (n1 : Int) : runS tt (spec_SafeMoves_tab F) (spec_SafeMoves_LS1 F) [] [] Try.f24 (bodyOf Try.f24) 70 [(.ints 16 b0), (.int .i64 n1)] [] = spec_SafeMoves_c _ F b0 n1 (fun r => some ⟨(.tup [(.sl 0 0 (List.length r.2)), (.bool r.1)]), [(.vec 3 (.ri .i64 r.2))], []⟩) := by kernel_rfl
def spec_SafeMoves_ent (F : Nat) : Ent := ⟨[], .fresh, fun args mem => match args, mem with
  | [(.ints 16 b0), (.int .i64 n1)], [] => some ((spec_SafeMoves_p F b0 n1).isSome, ⟨(.tup [(.sl 0 0 (List.length ((spec_SafeMoves_p F b0 n1).getD default).2)), (.bool ((spec_SafeMoves_p F b0 n1).getD default).1)]), [(.vec 3 (.ri .i64 ((spec_SafeMoves_p F b0 n1).getD default).2))], []⟩)
  | _, _ => none⟩
theorem spec_SafeMoves_fok : FunOK Try.prog 24 := funOK Try.func24 (by kernel_rfl) rfl
theorem spec_SafeMoves_meets (F : Nat) : Meets Try.prog 24 (spec_SafeMoves_ent F) := by
  refine meets_of_runS mixed ttok deep (spec_SafeMoves_tabok F) Try.func24 (body_some rfl) (spec_SafeMoves_lsok1 F) fun args mem hfit ret h => ?_
  clear hfit
  simp only [spec_SafeMoves_ent] at h
  split at h
  · rename_i b0 n1
    simp only [Option.some.injEq, Prod.mk.injEq] at h
    obtain ⟨hc, rfl⟩ := h
    exact ⟨[], [], 70, _, (spec_SafeMoves_run F b0 n1).trans ((spec_SafeMoves_cp _ F b0 n1 _).trans (bind_use hc _)), rfl, rfl, rfl⟩
  · cases h

/-! (loop.example/g01194/impl.Board).isSafe -/
noncomputable def impl_Board_isSafe_n1_tab (F : Nat) : Tab := [(45, (impl_Board_slides_ent F)), (46, (impl_Board_refuted_n0_ent F))]
theorem impl_Board_isSafe_n1_tabok (F : Nat) : TabOK Try.prog (impl_Board_isSafe_n1_tab F) := (tab_cons (impl_Board_slides_meets F) impl_Board_slides_fok (tab_cons (impl_Board_refuted_n0_meets F) impl_Board_refuted_n0_fok tab_nil))
noncomputable def impl_Board_isSafe_n1_LS0 (F : Nat) : LT := []
theorem impl_Board_isSafe_n1_lsok0 (F : Nat) : LoopsOK Try.prog (impl_Board_isSafe_n1_LS0 F) (bodyOf Try.f53) := loopsOK_nil
theorem impl_Board_isSafe_n1_run (F : Nat) (b0 : List Int) (direction1 : Int) : runS tt (impl_Board_isSafe_n1_tab F) (impl_Board_isSafe_n1_LS0 F) [] [] Try.f53 (bodyOf Try.f53) 70 [(.ints 16 b0), (.int .i64 direction1), (.int .i64 (1 : Int))] [] = impl_Board_isSafe_n1_c _ F b0 direction1 (fun r => some ⟨(.bool true), [], []⟩) := by kernel_rfl
def impl_Board_isSafe_n1_ent (F : Nat) : Ent := ⟨[], .quiet, fun args mem => match args, mem with
  | [(.ints 16 b0), (.int .i64 direction1), (.int .i64 q_n2)], [] => bif (q_n2 == (1 : Int)) then some ((impl_Board_isSafe_n1_p F b0 direction1).isSome, ⟨(.bool true), [], []⟩) else none
  | _, _ => none⟩
theorem impl_Board_isSafe_n1_fok : FunOK Try.prog 53 := funOK Try.func53 (by kernel_rfl) rfl
theorem impl_Board_isSafe_n1_meets (F : Nat) : Meets Try.prog 53 (impl_Board_isSafe_n1_ent F) := by
  refine meets_of_runS mixed ttok deep (impl_Board_isSafe_n1_tabok F) Try.func53 (body_some rfl) (impl_Board_isSafe_n1_lsok0 F) fun args mem hfit ret h => ?_
  clear hfit
  simp only [impl_Board_isSafe_n1_ent] at h
  split at h
  · rename_i b0 direction1 q_n2
    have hg0 := (cond_noneL h).1
    replace h := (cond_noneL h).2
    obtain rfl := beq_int hg0
    simp only [Option.some.injEq, Prod.mk.injEq] at h
    obtain ⟨hc, rfl⟩ := h
    exact ⟨[], [], 70, _, (impl_Board_isSafe_n1_run F b0 direction1).trans ((impl_Board_isSafe_n1_cp _ F b0 direction1 _).trans (bind_use hc _)), rfl, rfl, rfl⟩
  · cases h

/-! (loop.example/g01194/impl.Board).isSafe -/
def impl_Board_isSafe_ent (F : Nat) : Ent := ⟨[], .quiet, fun args mem => match args, mem with
  | [(.ints 16 b0), (.int .i64 direction1), (.int .i64 n2)], [] => some ((impl_Board_isSafe_p F b0 direction1 n2).isSome, ⟨(.bool ((impl_Board_isSafe_p F b0 direction1 n2).getD default)), [], []⟩)
  | _, _ => none⟩
theorem impl_Board_isSafe_fok : FunOK Try.prog 53 := funOK Try.func53 (by kernel_rfl) rfl
theorem impl_Board_isSafe_meets (F : Nat) : Meets Try.prog 53 (impl_Board_isSafe_ent F) := by
  intro fr w ρ mem args reals hw ha ret hg
  simp only [impl_Board_isSafe_ent] at hg
  split at hg
  · rename_i b0 direction1 n2
    simp only [Option.some.injEq, Prod.mk.injEq] at hg
    obtain ⟨hc, rfl⟩ := hg
    by_cases hn0 : (n2 == (1 : Int)) = true
    · obtain rfl := beq_int hn0
      have e : impl_Board_isSafe_p F b0 direction1 (1 : Int) = (bif (Option.isSome (impl_Board_isSafe_n1_p F b0 direction1)) then some true else none) := by kernel_rfl
      have hg' : (impl_Board_isSafe_n1_ent F).g [(.ints 16 b0), (.int .i64 direction1), (.int .i64 (1 : Int))] [] = some ((Option.isSome (impl_Board_isSafe_n1_p F b0 direction1)), ⟨(.bool true), [], []⟩) := by kernel_rfl
      rw [e] at hc
      have hC := isSome_cond hc
      rw [hC] at hg'
      have h9 := impl_Board_isSafe_n1_meets F fr w ρ _ _ reals hw ha _ hg'
      simp only [e, hC, cond_true, Option.getD_some]
      exact h9
    · replace hn0 : (n2 == (1 : Int)) = false := by simpa using hn0
      by_cases hn1 : (n2 == (2 : Int)) = true
      · obtain rfl := beq_int hn1
        have e : impl_Board_isSafe_p F b0 direction1 (2 : Int) = (bif (Option.isSome (impl_Board_isSafe_n2_p F b0 direction1)) then some (Option.getD (impl_Board_isSafe_n2_p F b0 direction1) default) else none) := by kernel_rfl
        have hg' : (impl_Board_isSafe_n2_ent F).g [(.ints 16 b0), (.int .i64 direction1), (.int .i64 (2 : Int))] [] = some ((Option.isSome (impl_Board_isSafe_n2_p F b0 direction1)), ⟨(.bool (Option.getD (impl_Board_isSafe_n2_p F b0 direction1) default)), [], []⟩) := by kernel_rfl
        rw [e] at hc
        have hC := isSome_cond hc
        rw [hC] at hg'
        have h9 := impl_Board_isSafe_n2_meets F fr w ρ _ _ reals hw ha _ hg'
        simp only [e, hC, cond_true, Option.getD_some]
        exact h9
      · replace hn1 : (n2 == (2 : Int)) = false := by simpa using hn1
        by_cases hn2 : (n2 == (3 : Int)) = true
        · obtain rfl := beq_int hn2
          have e : impl_Board_isSafe_p F b0 direction1 (3 : Int) = (bif (Option.isSome (impl_Board_isSafe_n3_p F b0 direction1)) then some (Option.getD (impl_Board_isSafe_n3_p F b0 direction1) default) else none) := by kernel_rfl
          have hg' : (impl_Board_isSafe_n3_ent F).g [(.ints 16 b0), (.int .i64 direction1), (.int .i64 (3 : Int))] [] = some ((Option.isSome (impl_Board_isSafe_n3_p F b0 direction1)), ⟨(.bool (Option.getD (impl_Board_isSafe_n3_p F b0 direction1) default)), [], []⟩) := by kernel_rfl
          rw [e] at hc
          have hC := isSome_cond hc
          rw [hC] at hg'
          have h9 := impl_Board_isSafe_n3_meets F fr w ρ _ _ reals hw ha _ hg'
          simp only [e, hC, cond_true, Option.getD_some]
          exact h9
        · replace hn2 : (n2 == (3 : Int)) = false := by simpa using hn2
          exfalso
          have e : impl_Board_isSafe_p F b0 direction1 n2 = none := by simp only [impl_Board_isSafe_p, impl_Board_isSafe_c, hn0, hn1, hn2, cond_false]
          rw [e] at hc
          cases hc
  · cases hg

/-! loop.example/g01194/impl.SafeMoves$1 -/
noncomputable def impl_SafeMoves_f1_tab (F : Nat) : Tab := [(53, (impl_Board_isSafe_ent F))]
theorem impl_SafeMoves_f1_tabok (F : Nat) : TabOK Try.prog (impl_SafeMoves_f1_tab F) := (tab_cons (impl_Board_isSafe_meets F) impl_Board_isSafe_fok tab_nil)
noncomputable def impl_SafeMoves_f1_LS0 (F : Nat) : LT := []
theorem impl_SafeMoves_f1_lsok0 (F : Nat) : LoopsOK Try.prog (impl_SafeMoves_f1_LS0 F) (bodyOf Try.f52) := loopsOK_nil
theorem impl_SafeMoves_f1_run (F : Nat) (d0 : Int) (a17 : List Int) (a28 : List Int) : runS tt (impl_SafeMoves_f1_tab F) (impl_SafeMoves_f1_LS0 F) [] [] Try.f52 (bodyOf Try.f52) 70 [(.int .i64 d0), (.ptr 0 0 0 16), (.ptr 1 0 0 1)] [(.var 16 (.ri .i64 a17)), (.var 1 (.ri .i64 a28))] = impl_SafeMoves_f1_c _ F d0 a17 a28 (fun r => some ⟨(.bool r), [(.var 16 (.ri .i64 a17)), (.var 1 (.ri .i64 a28))], []⟩) := by kernel_rfl
def impl_SafeMoves_f1_ent (F : Nat) : Ent := ⟨[], .quiet, fun args mem => match args, mem with
  | [(.int .i64 d0), (.ptr 0 0 0 16), (.ptr 1 0 0 1)], [(.var 16 (.ri .i64 a17)), (.var 1 (.ri .i64 a28))] => some ((impl_SafeMoves_f1_p F d0 a17 a28).isSome, ⟨(.bool ((impl_SafeMoves_f1_p F d0 a17 a28).getD default)), [], []⟩)
  | _, _ => none⟩
theorem impl_SafeMoves_f1_fok : FunOK Try.prog 52 := funOK Try.func52 (by kernel_rfl) rfl
theorem impl_SafeMoves_f1_meets (F : Nat) : Meets Try.prog 52 (impl_SafeMoves_f1_ent F) := by
  refine meets_of_runS mixed ttok deep (impl_SafeMoves_f1_tabok F) Try.func52 (body_some rfl) (impl_SafeMoves_f1_lsok0 F) fun args mem hfit ret h => ?_
  clear hfit
  simp only [impl_SafeMoves_f1_ent] at h
  split at h
  · rename_i d0 a17 a28
    simp only [Option.some.injEq, Prod.mk.injEq] at h
    obtain ⟨hc, rfl⟩ := h
    exact ⟨[], [], 70, _, (impl_SafeMoves_f1_run F d0 a17 a28).trans ((impl_SafeMoves_f1_cp _ F d0 a17 a28 _).trans (bind_use hc _)), rfl, rfl, rfl⟩
  · cases h

/-! slices.IndexFunc[[]int,int] -/
noncomputable def slices_IndexFunc_intint_impl_SafeMoves_f1_tab (F : Nat) : Tab := [(52, (impl_SafeMoves_f1_ent F))]
theorem slices_IndexFunc_intint_impl_SafeMoves_f1_tabok (F : Nat) : TabOK Try.prog (slices_IndexFunc_intint_impl_SafeMoves_f1_tab F) := (tab_cons (impl_SafeMoves_f1_meets F) impl_SafeMoves_f1_fok tab_nil)
noncomputable def slices_IndexFunc_intint_impl_SafeMoves_f1_LS0 (F : Nat) : LT := []
theorem slices_IndexFunc_intint_impl_SafeMoves_f1_lsok0 (F : Nat) : LoopsOK Try.prog (slices_IndexFunc_intint_impl_SafeMoves_f1_LS0 F) (bodyOf Try.f72) := loopsOK_nil
theorem slices_IndexFunc_intint_impl_SafeMoves_f1_keys : keysOK (bodyOf Try.f72) = true := by kernel_rfl
def slices_IndexFunc_intint_impl_SafeMoves_f1_st2 (s0 : List Int) (t77 : Int) (f9 : List Int) (f10 : List Int) (t88 : Int) : St := ⟨expand 19 0 [0, 1, 7, 8] [(.ri .i64 s0), (.fn 52 [] [(.ptr 0 0 0 16), (.ptr 1 0 0 1)]), (.int .i64 t77), (.int .i64 t88)], [(.var 16 (.ri .i64 f9)), (.var 1 (.ri .i64 f10))], 2, []⟩
def slices_IndexFunc_intint_impl_SafeMoves_f1_o2 (s0 : List Int) (t77 : Int) (f9 : List Int) (f10 : List Int) (x : Bool × Int) : GT := (.br x.1 (.out (.ret ⟨expand 19 0 [4] [(.int .i64 x.2)], [(.var 16 (.ri .i64 f9)), (.var 1 (.ri .i64 f10))], 2, []⟩)) (.out (.exit 0 ⟨expand 19 0 [] [], [(.var 16 (.ri .i64 f9)), (.var 1 (.ri .i64 f10))], 2, []⟩)))
def slices_IndexFunc_intint_impl_SafeMoves_f1_ls2 (F : Nat) : LoopS := ⟨19, [0, 1, 7, 8], [], [], [], [4], [], [], fun vals mem np killed => match vals, mem, np, killed with
  | [(.ri .i64 s0), (.fn 52 [] [(.ptr 0 0 0 16), (.ptr 1 0 0 1)]), (.int .i64 t77), (.int .i64 t88)], [(.var 16 (.ri .i64 f9)), (.var 1 (.ri .i64 f10))], 2, [] => .br (slices_IndexFunc_intint_impl_SafeMoves_f1_l2 F s0 t77 f9 f10 t88).isSome (slices_IndexFunc_intint_impl_SafeMoves_f1_o2 s0 t77 f9 f10 ((slices_IndexFunc_intint_impl_SafeMoves_f1_l2 F s0 t77 f9 f10 t88).getD default)) .fail
  | _, _, _, _ => .fail⟩
theorem slices_IndexFunc_intint_impl_SafeMoves_f1_step2 (F : Nat) (s0 : List Int) (t77 : Int) (f9 : List Int) (f10 : List Int) (t88 : Int) {R : Type} (k : Out → Option R) : stepS tt (slices_IndexFunc_intint_impl_SafeMoves_f1_tab F) (slices_IndexFunc_intint_impl_SafeMoves_f1_LS0 F) 70 (slices_IndexFunc_intint_impl_SafeMoves_f1_ls2 F) (loopAt 2 (bodyOf Try.f72)) (slices_IndexFunc_intint_impl_SafeMoves_f1_st2 s0 t77 f9 f10 t88) k = slices_IndexFunc_intint_impl_SafeMoves_f1_s2 F s0 t77 f9 f10 R t88 (fun s => k (.norm (slices_IndexFunc_intint_impl_SafeMoves_f1_st2 s0 t77 f9 f10 s))) (fun x => (slices_IndexFunc_intint_impl_SafeMoves_f1_o2 s0 t77 f9 f10 x).run k) := by kernel_rfl
theorem slices_IndexFunc_intint_impl_SafeMoves_f1_iter2 (F : Nat) (s0 : List Int) (t77 : Int) (f9 : List Int) (f10 : List Int) {R : Type} (k : Out → Option R) : ∀ (n : Nat) (t88 : Int), iterS tt (slices_IndexFunc_intint_impl_SafeMoves_f1_tab F) (slices_IndexFunc_intint_impl_SafeMoves_f1_LS0 F) 70 (slices_IndexFunc_intint_impl_SafeMoves_f1_ls2 F) (loopAt 2 (bodyOf Try.f72)) n (slices_IndexFunc_intint_impl_SafeMoves_f1_st2 s0 t77 f9 f10 t88) k = loopC (slices_IndexFunc_intint_impl_SafeMoves_f1_s2 F s0 t77 f9 f10) n t88 (fun x => (slices_IndexFunc_intint_impl_SafeMoves_f1_o2 s0 t77 f9 f10 x).run k)
  | 0, t88 => rfl
  | n + 1, t88 => (iterS_succ tt (slices_IndexFunc_intint_impl_SafeMoves_f1_tab F) (slices_IndexFunc_intint_impl_SafeMoves_f1_LS0 F) 70 (slices_IndexFunc_intint_impl_SafeMoves_f1_ls2 F) (loopAt 2 (bodyOf Try.f72)) n (slices_IndexFunc_intint_impl_SafeMoves_f1_st2 s0 t77 f9 f10 t88) k).trans ((slices_IndexFunc_intint_impl_SafeMoves_f1_step2 F s0 t77 f9 f10 t88 (nextK (iterS tt (slices_IndexFunc_intint_impl_SafeMoves_f1_tab F) (slices_IndexFunc_intint_impl_SafeMoves_f1_LS0 F) 70 (slices_IndexFunc_intint_impl_SafeMoves_f1_ls2 F) (loopAt 2 (bodyOf Try.f72)) n) k)).trans (congrArg (fun kn => slices_IndexFunc_intint_impl_SafeMoves_f1_s2 F s0 t77 f9 f10 R t88 kn _) (funext (fun t88 => slices_IndexFunc_intint_impl_SafeMoves_f1_iter2 F s0 t77 f9 f10 k n t88))))
theorem slices_IndexFunc_intint_impl_SafeMoves_f1_lok2 (F : Nat) : LoopOK Try.prog (loopAt 2 (bodyOf Try.f72)) (slices_IndexFunc_intint_impl_SafeMoves_f1_ls2 F) := by
  refine loopOK_of mixed ttok deep (slices_IndexFunc_intint_impl_SafeMoves_f1_tabok F) (loopsOK_at (slices_IndexFunc_intint_impl_SafeMoves_f1_lsok0 F) 2) (fuel := 70) fun R vals mem np killed k x h => ?_
  simp only [slices_IndexFunc_intint_impl_SafeMoves_f1_ls2] at h
  split at h
  · rename_i s0 t77 t88 f9 f10
    simp only [GT.run] at h
    have hc := (cond_noneL h).1
    replace h := (cond_noneL h).2
    refine ⟨F, (slices_IndexFunc_intint_impl_SafeMoves_f1_iter2 F s0 t77 f9 f10 k F t88).trans ((loopC_use (slices_IndexFunc_intint_impl_SafeMoves_f1_s2_nat F s0 t77 f9 f10) hc _).trans h)⟩
  · simp only [GT.run] at h
    cases h
noncomputable def slices_IndexFunc_intint_impl_SafeMoves_f1_LS1 (F : Nat) : LT := (2, slices_IndexFunc_intint_impl_SafeMoves_f1_ls2 F) :: slices_IndexFunc_intint_impl_SafeMoves_f1_LS0 F
theorem slices_IndexFunc_intint_impl_SafeMoves_f1_lsok1 (F : Nat) : LoopsOK Try.prog (slices_IndexFunc_intint_impl_SafeMoves_f1_LS1 F) (bodyOf Try.f72) := loopsOK_cons slices_IndexFunc_intint_impl_SafeMoves_f1_keys (slices_IndexFunc_intint_impl_SafeMoves_f1_lok2 F) (slices_IndexFunc_intint_impl_SafeMoves_f1_lsok0 F)
theorem slices_IndexFunc_intint_impl_SafeMoves_f1_run (F : Nat) (s0 : List Int) (f7 : List Int) (f8 : List Int) : runS tt (slices_IndexFunc_intint_impl_SafeMoves_f1_tab F) (slices_IndexFunc_intint_impl_SafeMoves_f1_LS1 F) [] [] Try.f72 (bodyOf Try.f72) 70 [(.ri .i64 s0), (.fn 52 [] [(.ptr 0 0 0 16), (.ptr 1 0 0 1)])] [(.var 16 (.ri .i64 f7)), (.var 1 (.ri .i64 f8))] = slices_IndexFunc_intint_impl_SafeMoves_f1_c _ F s0 f7 f8 (fun r => some ⟨(.int .i64 r), [(.var 16 (.ri .i64 f7)), (.var 1 (.ri .i64 f8))], []⟩) := by kernel_rfl
def slices_IndexFunc_intint_impl_SafeMoves_f1_ent (F : Nat) : Ent := ⟨[], .quiet, fun args mem => match args, mem with
  | [(.ri .i64 s0), (.fn 52 [] [(.ptr 0 0 0 16), (.ptr 1 0 0 1)])], [(.var 16 (.ri .i64 f7)), (.var 1 (.ri .i64 f8))] => some ((slices_IndexFunc_intint_impl_SafeMoves_f1_p F s0 f7 f8).isSome, ⟨(.int .i64 ((slices_IndexFunc_intint_impl_SafeMoves_f1_p F s0 f7 f8).getD default)), [], []⟩)
  | _, _ => none⟩
theorem slices_IndexFunc_intint_impl_SafeMoves_f1_fok : FunOK Try.prog 72 := funOK Try.func72 (by kernel_rfl) rfl
theorem slices_IndexFunc_intint_impl_SafeMoves_f1_meets (F : Nat) : Meets Try.prog 72 (slices_IndexFunc_intint_impl_SafeMoves_f1_ent F) := by
  refine meets_of_runS mixed ttok deep (slices_IndexFunc_intint_impl_SafeMoves_f1_tabok F) Try.func72 (body_some rfl) (slices_IndexFunc_intint_impl_SafeMoves_f1_lsok1 F) fun args mem hfit ret h => ?_
  clear hfit
  simp only [slices_IndexFunc_intint_impl_SafeMoves_f1_ent] at h
  split at h
  · rename_i s0 f7 f8
    simp only [Option.some.injEq, Prod.mk.injEq] at h
    obtain ⟨hc, rfl⟩ := h
    exact ⟨[], [], 70, _, (slices_IndexFunc_intint_impl_SafeMoves_f1_run F s0 f7 f8).trans ((slices_IndexFunc_intint_impl_SafeMoves_f1_cp _ F s0 f7 f8 _).trans (bind_use hc _)), rfl, rfl, rfl⟩
  · cases h

/-! slices.DeleteFunc[[]int,int] -/
noncomputable def slices_DeleteFunc_intint_impl_SafeMoves_f1_tab (F : Nat) : Tab := [(72, (slices_IndexFunc_intint_impl_SafeMoves_f1_ent F)), (52, (impl_SafeMoves_f1_ent F))]
theorem slices_DeleteFunc_intint_impl_SafeMoves_f1_tabok (F : Nat) : TabOK Try.prog (slices_DeleteFunc_intint_impl_SafeMoves_f1_tab F) := (tab_cons (slices_IndexFunc_intint_impl_SafeMoves_f1_meets F) slices_IndexFunc_intint_impl_SafeMoves_f1_fok (tab_cons (impl_SafeMoves_f1_meets F) impl_SafeMoves_f1_fok tab_nil))
noncomputable def slices_DeleteFunc_intint_impl_SafeMoves_f1_LS0 (F : Nat) : LT := []
theorem slices_DeleteFunc_intint_impl_SafeMoves_f1_lsok0 (F : Nat) : LoopsOK Try.prog (slices_DeleteFunc_intint_impl_SafeMoves_f1_LS0 F) (bodyOf Try.f51) := loopsOK_nil
theorem slices_DeleteFunc_intint_impl_SafeMoves_f1_keys : keysOK (bodyOf Try.f51) = true := by kernel_rfl
def slices_DeleteFunc_intint_impl_SafeMoves_f1_st5 (s1 : Nat) (del11 : List Int) (del12 : List Int) (i8 : Int) (j9 : Int) (s10 : List Int) : St := ⟨expand 42 0 [0, 1, 5, 6] [(.sl 0 0 s1), (.fn 52 [] [(.ptr 1 0 0 16), (.ptr 2 0 0 1)]), (.int .i64 i8), (.int .i64 j9)], [(.vec 3 (.ri .i64 s10)), (.var 16 (.ri .i64 del11)), (.var 1 (.ri .i64 del12))], 3, []⟩
def slices_DeleteFunc_intint_impl_SafeMoves_f1_o5 (s1 : Nat) (del11 : List Int) (del12 : List Int) (x : Int × List Int) : GT := (.out (.exit 0 ⟨expand 42 0 [0, 5] [(.sl 0 0 s1), (.int .i64 x.1)], [(.vec 3 (.ri .i64 x.2)), (.var 16 (.ri .i64 del11)), (.var 1 (.ri .i64 del12))], 3, []⟩))
def slices_DeleteFunc_intint_impl_SafeMoves_f1_ls5 (F : Nat) : LoopS := ⟨42, [0, 1, 5, 6], [], [0, 5], [], [4], [], [], fun vals mem np killed => match vals, mem, np, killed with
  | [(.sl 0 0 s1), (.fn 52 [] [(.ptr 1 0 0 16), (.ptr 2 0 0 1)]), (.int .i64 i8), (.int .i64 j9)], [(.vec 3 (.ri .i64 s10)), (.var 16 (.ri .i64 del11)), (.var 1 (.ri .i64 del12))], 3, [] => .br (slices_DeleteFunc_intint_impl_SafeMoves_f1_l5 F s1 del11 del12 i8 j9 s10).isSome (slices_DeleteFunc_intint_impl_SafeMoves_f1_o5 s1 del11 del12 ((slices_DeleteFunc_intint_impl_SafeMoves_f1_l5 F s1 del11 del12 i8 j9 s10).getD default)) .fail
  | _, _, _, _ => .fail⟩
theorem slices_DeleteFunc_intint_impl_SafeMoves_f1_step5 (F : Nat) (s1 : Nat) (del11 : List Int) (del12 : List Int) (i8 : Int) (j9 : Int) (s10 : List Int) {R : Type} (k : Out → Option R) : stepS tt (slices_DeleteFunc_intint_impl_SafeMoves_f1_tab F) (slices_DeleteFunc_intint_impl_SafeMoves_f1_LS0 F) 70 (slices_DeleteFunc_intint_impl_SafeMoves_f1_ls5 F) (loopAt 5 (bodyOf Try.f51)) (slices_DeleteFunc_intint_impl_SafeMoves_f1_st5 s1 del11 del12 i8 j9 s10) k = slices_DeleteFunc_intint_impl_SafeMoves_f1_s5 F s1 del11 del12 R (i8, j9, s10) (fun s => k (.norm (slices_DeleteFunc_intint_impl_SafeMoves_f1_st5 s1 del11 del12 s.1 s.2.1 s.2.2))) (fun x => (slices_DeleteFunc_intint_impl_SafeMoves_f1_o5 s1 del11 del12 x).run k) := by kernel_rfl
theorem slices_DeleteFunc_intint_impl_SafeMoves_f1_iter5 (F : Nat) (s1 : Nat) (del11 : List Int) (del12 : List Int) {R : Type} (k : Out → Option R) : ∀ (n : Nat) (i8 : Int) (j9 : Int) (s10 : List Int), iterS tt (slices_DeleteFunc_intint_impl_SafeMoves_f1_tab F) (slices_DeleteFunc_intint_impl_SafeMoves_f1_LS0 F) 70 (slices_DeleteFunc_intint_impl_SafeMoves_f1_ls5 F) (loopAt 5 (bodyOf Try.f51)) n (slices_DeleteFunc_intint_impl_SafeMoves_f1_st5 s1 del11 del12 i8 j9 s10) k = loopC (slices_DeleteFunc_intint_impl_SafeMoves_f1_s5 F s1 del11 del12) n (i8, j9, s10) (fun x => (slices_DeleteFunc_intint_impl_SafeMoves_f1_o5 s1 del11 del12 x).run k)
  | 0, i8, j9, s10 => rfl
  | n + 1, i8, j9, s10 => (iterS_succ tt (slices_DeleteFunc_intint_impl_SafeMoves_f1_tab F) (slices_DeleteFunc_intint_impl_SafeMoves_f1_LS0 F) 70 (slices_DeleteFunc_intint_impl_SafeMoves_f1_ls5 F) (loopAt 5 (bodyOf Try.f51)) n (slices_DeleteFunc_intint_impl_SafeMoves_f1_st5 s1 del11 del12 i8 j9 s10) k).trans ((slices_DeleteFunc_intint_impl_SafeMoves_f1_step5 F s1 del11 del12 i8 j9 s10 (nextK (iterS tt (slices_DeleteFunc_intint_impl_SafeMoves_f1_tab F) (slices_DeleteFunc_intint_impl_SafeMoves_f1_LS0 F) 70 (slices_DeleteFunc_intint_impl_SafeMoves_f1_ls5 F) (loopAt 5 (bodyOf Try.f51)) n) k)).trans (congrArg (fun kn => slices_DeleteFunc_intint_impl_SafeMoves_f1_s5 F s1 del11 del12 R (i8, j9, s10) kn _) (funext (fun ⟨i8, j9, s10⟩ => slices_DeleteFunc_intint_impl_SafeMoves_f1_iter5 F s1 del11 del12 k n i8 j9 s10))))
theorem slices_DeleteFunc_intint_impl_SafeMoves_f1_lok5 (F : Nat) : LoopOK Try.prog (loopAt 5 (bodyOf Try.f51)) (slices_DeleteFunc_intint_impl_SafeMoves_f1_ls5 F) := by
  refine loopOK_of mixed ttok deep (slices_DeleteFunc_intint_impl_SafeMoves_f1_tabok F) (loopsOK_at (slices_DeleteFunc_intint_impl_SafeMoves_f1_lsok0 F) 5) (fuel := 70) fun R vals mem np killed k x h => ?_
  simp only [slices_DeleteFunc_intint_impl_SafeMoves_f1_ls5] at h
  split at h
  · rename_i s1 i8 j9 s10 del11 del12
    simp only [GT.run] at h
    have hc := (cond_noneL h).1
    replace h := (cond_noneL h).2
    refine ⟨F, (slices_DeleteFunc_intint_impl_SafeMoves_f1_iter5 F s1 del11 del12 k F i8 j9 s10).trans ((loopC_use (slices_DeleteFunc_intint_impl_SafeMoves_f1_s5_nat F s1 del11 del12) hc _).trans h)⟩
  · simp only [GT.run] at h
    cases h
noncomputable def slices_DeleteFunc_intint_impl_SafeMoves_f1_LS1 (F : Nat) : LT := (5, slices_DeleteFunc_intint_impl_SafeMoves_f1_ls5 F) :: slices_DeleteFunc_intint_impl_SafeMoves_f1_LS0 F
theorem slices_DeleteFunc_intint_impl_SafeMoves_f1_lsok1 (F : Nat) : LoopsOK Try.prog (slices_DeleteFunc_intint_impl_SafeMoves_f1_LS1 F) (bodyOf Try.f51) := loopsOK_cons slices_DeleteFunc_intint_impl_SafeMoves_f1_keys (slices_DeleteFunc_intint_impl_SafeMoves_f1_lok5 F) (slices_DeleteFunc_intint_impl_SafeMoves_f1_lsok0 F)
theorem slices_DeleteFunc_intint_impl_SafeMoves_f1_run (F : Nat) (s8 : List Int) (del9 : List Int) (del10 : List Int) : runS tt (slices_DeleteFunc_intint_impl_SafeMoves_f1_tab F) (slices_DeleteFunc_intint_impl_SafeMoves_f1_LS1 F) [] [] Try.f51 (bodyOf Try.f51) 70 [(.sl 0 0 (List.length s8)), (.fn 52 [] [(.ptr 1 0 0 16), (.ptr 2 0 0 1)])] [(.vec 3 (.ri .i64 s8)), (.var 16 (.ri .i64 del9)), (.var 1 (.ri .i64 del10))] = slices_DeleteFunc_intint_impl_SafeMoves_f1_c _ F s8 del9 del10 (fun r => some ⟨(.sl 0 0 r.1), [(.vec 3 (.ri .i64 r.2)), (.var 16 (.ri .i64 del9)), (.var 1 (.ri .i64 del10))], []⟩) := by kernel_rfl
def slices_DeleteFunc_intint_impl_SafeMoves_f1_ent (F : Nat) : Ent := ⟨[true], .loud, fun args mem => match args, mem with
  | [(.sl 0 0 q_s1), (.fn 52 [] [(.ptr 1 0 0 16), (.ptr 2 0 0 1)])], [(.vec 3 (.ri .i64 s8)), (.var 16 (.ri .i64 del9)), (.var 1 (.ri .i64 del10))] => some (((Nat.beq q_s1 (List.length s8)) && (slices_DeleteFunc_intint_impl_SafeMoves_f1_p F s8 del9 del10).isSome), ⟨(.sl 0 0 ((slices_DeleteFunc_intint_impl_SafeMoves_f1_p F s8 del9 del10).getD default).1), [(.vec 3 (.ri .i64 ((slices_DeleteFunc_intint_impl_SafeMoves_f1_p F s8 del9 del10).getD default).2)), (.var 16 (.ri .i64 del9)), (.var 1 (.ri .i64 del10))], []⟩)
  | _, _ => none⟩
theorem slices_DeleteFunc_intint_impl_SafeMoves_f1_fok : FunOK Try.prog 51 := funOK Try.func51 (by kernel_rfl) rfl
theorem slices_DeleteFunc_intint_impl_SafeMoves_f1_meets (F : Nat) : Meets Try.prog 51 (slices_DeleteFunc_intint_impl_SafeMoves_f1_ent F) := by
  refine meets_of_runS mixed ttok deep (slices_DeleteFunc_intint_impl_SafeMoves_f1_tabok F) Try.func51 (body_some rfl) (slices_DeleteFunc_intint_impl_SafeMoves_f1_lsok1 F) fun args mem hfit ret h => ?_
  clear hfit
  simp only [slices_DeleteFunc_intint_impl_SafeMoves_f1_ent] at h
  split at h
  · rename_i q_s1 s8 del9 del10
    simp only [Option.some.injEq, Prod.mk.injEq] at h
    obtain ⟨hc, rfl⟩ := h
    have hg := (and_split hc).1
    replace hc := (and_split hc).2
    obtain rfl := nbeq_nat hg
    exact ⟨[], [], 70, _, (slices_DeleteFunc_intint_impl_SafeMoves_f1_run F s8 del9 del10).trans ((slices_DeleteFunc_intint_impl_SafeMoves_f1_cp _ F s8 del9 del10 _).trans (bind_use hc _)), rfl, rfl, rfl⟩
  · cases h

/-! loop.example/g01194/impl.SafeMoves -/
noncomputable def impl_SafeMoves_tab (F : Nat) : Tab := [(33, (impl_IsBoard_ent F)), (34, (impl_in_ent F)), (39, (impl_Board_moves_ent F)), (51, (slices_DeleteFunc_intint_impl_SafeMoves_f1_ent F))]
theorem impl_SafeMoves_tabok (F : Nat) : TabOK Try.prog (impl_SafeMoves_tab F) := (tab_cons (impl_IsBoard_meets F) impl_IsBoard_fok (tab_cons (impl_in_meets F) impl_in_fok (tab_cons (impl_Board_moves_meets F) impl_Board_moves_fok (tab_cons (slices_DeleteFunc_intint_impl_SafeMoves_f1_meets F) slices_DeleteFunc_intint_impl_SafeMoves_f1_fok tab_nil))))
noncomputable def impl_SafeMoves_LS0 (F : Nat) : LT := []
theorem impl_SafeMoves_lsok0 (F : Nat) : LoopsOK Try.prog (impl_SafeMoves_LS0 F) (bodyOf Try.f25) := loopsOK_nil
theorem impl_SafeMoves_run (F : Nat) (b0 : List Int) (n1 : Int) : runS tt (impl_SafeMoves_tab F) (impl_SafeMoves_LS0 F) [⟨4, 3, (.ri .i64 ([] : List Int))⟩] [] Try.f25 (bodyOf Try.f25) 70 [(.ints 16 b0), (.int .i64 n1)] [] = impl_SafeMoves_c _ F b0 n1 (fun r => some ⟨(.tup [(.sl 0 0 r.1), (.bool r.2.1)]), [(.vec 3 (.ri .i64 r.2.2))], []⟩) := by kernel_rfl
def impl_SafeMoves_ent (F : Nat) : Ent := ⟨[], .fresh, fun args mem => match args, mem with
  | [(.ints 16 b0), (.int .i64 n1)], [] => some ((impl_SafeMoves_p F b0 n1).isSome, ⟨(.tup [(.sl 0 0 ((impl_SafeMoves_p F b0 n1).getD default).1), (.bool ((impl_SafeMoves_p F b0 n1).getD default).2.1)]), [(.vec 3 (.ri .i64 ((impl_SafeMoves_p F b0 n1).getD default).2.2))], []⟩)
  | _, _ => none⟩
theorem impl_SafeMoves_fok : FunOK Try.prog 25 := funOK Try.func25 (by kernel_rfl) rfl
theorem impl_SafeMoves_meets (F : Nat) : Meets Try.prog 25 (impl_SafeMoves_ent F) := by
  refine meets_of_runS mixed ttok deep (impl_SafeMoves_tabok F) Try.func25 (body_some rfl) (impl_SafeMoves_lsok0 F) fun args mem hfit ret h => ?_
  clear hfit
  simp only [impl_SafeMoves_ent] at h
  split at h
  · rename_i b0 n1
    simp only [Option.some.injEq, Prod.mk.injEq] at h
    obtain ⟨hc, rfl⟩ := h
    exact ⟨[⟨4, 3, (.ri .i64 ([] : List Int))⟩], [], 70, _, (impl_SafeMoves_run F b0 n1).trans ((impl_SafeMoves_cp _ F b0 n1 _).trans (bind_use hc _)), rfl, rfl, rfl⟩
  · cases h

/-! loop.example/g01194/laws.eqIntS -/
noncomputable def laws_eqIntS_tab (F : Nat) : Tab := []
theorem laws_eqIntS_tabok (F : Nat) : TabOK Try.prog (laws_eqIntS_tab F) := tab_nil
noncomputable def laws_eqIntS_LS0 (F : Nat) : LT := []
theorem laws_eqIntS_lsok0 (F : Nat) : LoopsOK Try.prog (laws_eqIntS_LS0 F) (bodyOf Try.f26) := loopsOK_nil
theorem laws_eqIntS_keys : keysOK (bodyOf Try.f26) = true := by kernel_rfl
def laws_eqIntS_st4 (a0 : List Int) (b1 : List Int) (i2 : Int) : St := ⟨expand 26 0 [0, 1, 5] [(.ri .i64 a0), (.ri .i64 b1), (.int .i64 i2)], [], 0, []⟩
def laws_eqIntS_o4 (a0 : List Int) (b1 : List Int) (x : Bool) : GT := (.br x (.out (.ret ⟨expand 26 0 [4] [(.bool false)], [], 0, []⟩)) (.out (.exit 0 ⟨expand 26 0 [] [], [], 0, []⟩)))
def laws_eqIntS_ls4 (F : Nat) : LoopS := ⟨26, [0, 1, 5], [], [], [], [4], [], [], fun vals mem np killed => match vals, mem, np, killed with
  | [(.ri .i64 a0), (.ri .i64 b1), (.int .i64 i2)], [], 0, [] => .br (laws_eqIntS_l4 F a0 b1 i2).isSome (laws_eqIntS_o4 a0 b1 ((laws_eqIntS_l4 F a0 b1 i2).getD default)) .fail
  | _, _, _, _ => .fail⟩
theorem laws_eqIntS_step4 (F : Nat) (a0 : List Int) (b1 : List Int) (i2 : Int) {R : Type} (k : Out → Option R) : stepS tt (laws_eqIntS_tab F) (laws_eqIntS_LS0 F) 70 (laws_eqIntS_ls4 F) (loopAt 4 (bodyOf Try.f26)) (laws_eqIntS_st4 a0 b1 i2) k = laws_eqIntS_s4 F a0 b1 R i2 (fun s => k (.norm (laws_eqIntS_st4 a0 b1 s))) (fun x => (laws_eqIntS_o4 a0 b1 x).run k) := by kernel_rfl
theorem laws_eqIntS_iter4 (F : Nat) (a0 : List Int) (b1 : List Int) {R : Type} (k : Out → Option R) : ∀ (n : Nat) (i2 : Int), iterS tt (laws_eqIntS_tab F) (laws_eqIntS_LS0 F) 70 (laws_eqIntS_ls4 F) (loopAt 4 (bodyOf Try.f26)) n (laws_eqIntS_st4 a0 b1 i2) k = loopC (laws_eqIntS_s4 F a0 b1) n i2 (fun x => (laws_eqIntS_o4 a0 b1 x).run k)
  | 0, i2 => rfl
  | n + 1, i2 => (iterS_succ tt (laws_eqIntS_tab F) (laws_eqIntS_LS0 F) 70 (laws_eqIntS_ls4 F) (loopAt 4 (bodyOf Try.f26)) n (laws_eqIntS_st4 a0 b1 i2) k).trans ((laws_eqIntS_step4 F a0 b1 i2 (nextK (iterS tt (laws_eqIntS_tab F) (laws_eqIntS_LS0 F) 70 (laws_eqIntS_ls4 F) (loopAt 4 (bodyOf Try.f26)) n) k)).trans (congrArg (fun kn => laws_eqIntS_s4 F a0 b1 R i2 kn _) (funext (fun i2 => laws_eqIntS_iter4 F a0 b1 k n i2))))
theorem laws_eqIntS_lok4 (F : Nat) : LoopOK Try.prog (loopAt 4 (bodyOf Try.f26)) (laws_eqIntS_ls4 F) := by
  refine loopOK_of mixed ttok deep (laws_eqIntS_tabok F) (loopsOK_at (laws_eqIntS_lsok0 F) 4) (fuel := 70) fun R vals mem np killed k x h => ?_
  simp only [laws_eqIntS_ls4] at h
  split at h
  · rename_i a0 b1 i2
    simp only [GT.run] at h
    have hc := (cond_noneL h).1
    replace h := (cond_noneL h).2
    refine ⟨F, (laws_eqIntS_iter4 F a0 b1 k F i2).trans ((loopC_use (laws_eqIntS_s4_nat F a0 b1) hc _).trans h)⟩
  · simp only [GT.run] at h
    cases h
noncomputable def laws_eqIntS_LS1 (F : Nat) : LT := (4, laws_eqIntS_ls4 F) :: laws_eqIntS_LS0 F
theorem laws_eqIntS_lsok1 (F : Nat) : LoopsOK Try.prog (laws_eqIntS_LS1 F) (bodyOf Try.f26) := loopsOK_cons laws_eqIntS_keys (laws_eqIntS_lok4 F) (laws_eqIntS_lsok0 F)
theorem laws_eqIntS_run (F : Nat) (a0 : List Int) (b1 : List Int) : runS tt (laws_eqIntS_tab F) (laws_eqIntS_LS1 F) [] [] Try.f26 (bodyOf Try.f26) 70 [(.ri .i64 a0), (.ri .i64 b1)] [] = laws_eqIntS_c _ F a0 b1 (fun r => some ⟨(.bool r), [], []⟩) := by kernel_rfl
def laws_eqIntS_ent (F : Nat) : Ent := ⟨[], .quiet, fun args mem => match args, mem with
  | [(.ri .i64 a0), (.ri .i64 b1)], [] => some ((laws_eqIntS_p F a0 b1).isSome, ⟨(.bool ((laws_eqIntS_p F a0 b1).getD default)), [], []⟩)
  | _, _ => none⟩
theorem laws_eqIntS_fok : FunOK Try.prog 26 := funOK Try.func26 (by kernel_rfl) rfl
theorem laws_eqIntS_meets (F : Nat) : Meets Try.prog 26 (laws_eqIntS_ent F) := by
  refine meets_of_runS mixed ttok deep (laws_eqIntS_tabok F) Try.func26 (body_some rfl) (laws_eqIntS_lsok1 F) fun args mem hfit ret h => ?_
  clear hfit
  simp only [laws_eqIntS_ent] at h
  split at h
  · rename_i a0 b1
    simp only [Option.some.injEq, Prod.mk.injEq] at h
    obtain ⟨hc, rfl⟩ := h
    exact ⟨[], [], 70, _, (laws_eqIntS_run F a0 b1).trans ((laws_eqIntS_cp _ F a0 b1 _).trans (bind_use hc _)), rfl, rfl, rfl⟩
  · cases h

/-! loop.example/g01194/laws.markIntS -/
noncomputable def laws_markIntS_tab (F : Nat) : Tab := []
theorem laws_markIntS_tabok (F : Nat) : TabOK Try.prog (laws_markIntS_tab F) := tab_nil
noncomputable def laws_markIntS_LS0 (F : Nat) : LT := []
theorem laws_markIntS_lsok0 (F : Nat) : LoopsOK Try.prog (laws_markIntS_LS0 F) (bodyOf Try.f27) := loopsOK_nil
theorem laws_markIntS_keys : keysOK (bodyOf Try.f27) = true := by kernel_rfl
def laws_markIntS_st2 (a1 : Nat) (k2 : Int) (i3 : Int) (a4 : List Int) : St := ⟨expand 19 0 [0, 1, 5] [(.sl 0 0 a1), (.int .i64 k2), (.int .i64 i3)], [(.vec 3 (.ri .i64 a4))], 1, []⟩
def laws_markIntS_o2 (a1 : Nat) (x : Int × List Int) : GT := (.out (.exit 0 ⟨expand 19 0 [1] [(.int .i64 x.1)], [(.vec 3 (.ri .i64 x.2))], 1, []⟩))
def laws_markIntS_ls2 (F : Nat) : LoopS := ⟨19, [0, 1, 5], [], [1], [], [4], [], [], fun vals mem np killed => match vals, mem, np, killed with
  | [(.sl 0 0 a1), (.int .i64 k2), (.int .i64 i3)], [(.vec 3 (.ri .i64 a4))], 1, [] => .br (laws_markIntS_l2 F a1 k2 i3 a4).isSome (laws_markIntS_o2 a1 ((laws_markIntS_l2 F a1 k2 i3 a4).getD default)) .fail
  | _, _, _, _ => .fail⟩
theorem laws_markIntS_step2 (F : Nat) (a1 : Nat) (k2 : Int) (i3 : Int) (a4 : List Int) {R : Type} (k : Out → Option R) : stepS tt (laws_markIntS_tab F) (laws_markIntS_LS0 F) 70 (laws_markIntS_ls2 F) (loopAt 2 (bodyOf Try.f27)) (laws_markIntS_st2 a1 k2 i3 a4) k = laws_markIntS_s2 F a1 R (k2, i3, a4) (fun s => k (.norm (laws_markIntS_st2 a1 s.1 s.2.1 s.2.2))) (fun x => (laws_markIntS_o2 a1 x).run k) := by kernel_rfl
theorem laws_markIntS_iter2 (F : Nat) (a1 : Nat) {R : Type} (k : Out → Option R) : ∀ (n : Nat) (k2 : Int) (i3 : Int) (a4 : List Int), iterS tt (laws_markIntS_tab F) (laws_markIntS_LS0 F) 70 (laws_markIntS_ls2 F) (loopAt 2 (bodyOf Try.f27)) n (laws_markIntS_st2 a1 k2 i3 a4) k = loopC (laws_markIntS_s2 F a1) n (k2, i3, a4) (fun x => (laws_markIntS_o2 a1 x).run k)
  | 0, k2, i3, a4 => rfl
  | n + 1, k2, i3, a4 => (iterS_succ tt (laws_markIntS_tab F) (laws_markIntS_LS0 F) 70 (laws_markIntS_ls2 F) (loopAt 2 (bodyOf Try.f27)) n (laws_markIntS_st2 a1 k2 i3 a4) k).trans ((laws_markIntS_step2 F a1 k2 i3 a4 (nextK (iterS tt (laws_markIntS_tab F) (laws_markIntS_LS0 F) 70 (laws_markIntS_ls2 F) (loopAt 2 (bodyOf Try.f27)) n) k)).trans (congrArg (fun kn => laws_markIntS_s2 F a1 R (k2, i3, a4) kn _) (funext (fun ⟨k2, i3, a4⟩ => laws_markIntS_iter2 F a1 k n k2 i3 a4))))
theorem laws_markIntS_lok2 (F : Nat) : LoopOK Try.prog (loopAt 2 (bodyOf Try.f27)) (laws_markIntS_ls2 F) := by
  refine loopOK_of mixed ttok deep (laws_markIntS_tabok F) (loopsOK_at (laws_markIntS_lsok0 F) 2) (fuel := 70) fun R vals mem np killed k x h => ?_
  simp only [laws_markIntS_ls2] at h
  split at h
  · rename_i a1 k2 i3 a4
    simp only [GT.run] at h
    have hc := (cond_noneL h).1
    replace h := (cond_noneL h).2
    refine ⟨F, (laws_markIntS_iter2 F a1 k F k2 i3 a4).trans ((loopC_use (laws_markIntS_s2_nat F a1) hc _).trans h)⟩
  · simp only [GT.run] at h
    cases h
noncomputable def laws_markIntS_LS1 (F : Nat) : LT := (2, laws_markIntS_ls2 F) :: laws_markIntS_LS0 F
theorem laws_markIntS_lsok1 (F : Nat) : LoopsOK Try.prog (laws_markIntS_LS1 F) (bodyOf Try.f27) := loopsOK_cons laws_markIntS_keys (laws_markIntS_lok2 F) (laws_markIntS_lsok0 F)
theorem laws_markIntS_run (F : Nat) (a1 : Nat) (k2 : Int) (a3 : List Int) : runS tt (laws_markIntS_tab F) (laws_markIntS_LS1 F) [] [] Try.f27 (bodyOf Try.f27) 70 [(.sl 0 0 a1), (.int .i64 k2)] [(.vec 3 (.ri .i64 a3))] = laws_markIntS_c _ F a1 k2 a3 (fun r => some ⟨(.int .i64 r.1), [(.vec 3 (.ri .i64 r.2))], []⟩) := by kernel_rfl
def laws_markIntS_ent (F : Nat) : Ent := ⟨[true], .loud, fun args mem => match args, mem with
  | [(.sl 0 0 a1), (.int .i64 k2)], [(.vec 3 (.ri .i64 a3))] => some ((laws_markIntS_p F a1 k2 a3).isSome, ⟨(.int .i64 ((laws_markIntS_p F a1 k2 a3).getD default).1), [(.vec 3 (.ri .i64 ((laws_markIntS_p F a1 k2 a3).getD default).2))], []⟩)
  | _, _ => none⟩
theorem laws_markIntS_fok : FunOK Try.prog 27 := funOK Try.func27 (by kernel_rfl) rfl
theorem laws_markIntS_meets (F : Nat) : Meets Try.prog 27 (laws_markIntS_ent F) := by
  refine meets_of_runS mixed ttok deep (laws_markIntS_tabok F) Try.func27 (body_some rfl) (laws_markIntS_lsok1 F) fun args mem hfit ret h => ?_
  clear hfit
  simp only [laws_markIntS_ent] at h
  split at h
  · rename_i a1 k2 a3
    simp only [Option.some.injEq, Prod.mk.injEq] at h
    obtain ⟨hc, rfl⟩ := h
    exact ⟨[], [], 70, _, (laws_markIntS_run F a1 k2 a3).trans ((laws_markIntS_cp _ F a1 k2 a3 _).trans (bind_use hc _)), rfl, rfl, rfl⟩
  · cases h

/-! loop.example/g01194/laws.heldIntS -/
noncomputable def laws_heldIntS_tab (F : Nat) : Tab := []
theorem laws_heldIntS_tabok (F : Nat) : TabOK Try.prog (laws_heldIntS_tab F) := tab_nil
noncomputable def laws_heldIntS_LS0 (F : Nat) : LT := []
theorem laws_heldIntS_lsok0 (F : Nat) : LoopsOK Try.prog (laws_heldIntS_LS0 F) (bodyOf Try.f28) := loopsOK_nil
theorem laws_heldIntS_keys : keysOK (bodyOf Try.f28) = true := by kernel_rfl
def laws_heldIntS_st2 (a0 : List Int) (k1 : Int) (i2 : Int) : St := ⟨expand 21 0 [0, 1, 5] [(.ri .i64 a0), (.int .i64 k1), (.int .i64 i2)], [], 0, []⟩
def laws_heldIntS_o2 (a0 : List Int) (x : Bool × Int) : GT := (.br x.1 (.out (.ret ⟨expand 21 0 [4] [(.int .i64 (-1 : Int))], [], 0, []⟩)) (.out (.exit 0 ⟨expand 21 0 [1] [(.int .i64 x.2)], [], 0, []⟩)))
def laws_heldIntS_ls2 (F : Nat) : LoopS := ⟨21, [0, 1, 5], [], [1], [], [4], [], [], fun vals mem np killed => match vals, mem, np, killed with
  | [(.ri .i64 a0), (.int .i64 k1), (.int .i64 i2)], [], 0, [] => .br (laws_heldIntS_l2 F a0 k1 i2).isSome (laws_heldIntS_o2 a0 ((laws_heldIntS_l2 F a0 k1 i2).getD default)) .fail
  | _, _, _, _ => .fail⟩
theorem laws_heldIntS_step2 (F : Nat) (a0 : List Int) (k1 : Int) (i2 : Int) {R : Type} (k : Out → Option R) : stepS tt (laws_heldIntS_tab F) (laws_heldIntS_LS0 F) 70 (laws_heldIntS_ls2 F) (loopAt 2 (bodyOf Try.f28)) (laws_heldIntS_st2 a0 k1 i2) k = laws_heldIntS_s2 F a0 R (k1, i2) (fun s => k (.norm (laws_heldIntS_st2 a0 s.1 s.2))) (fun x => (laws_heldIntS_o2 a0 x).run k) := by kernel_rfl
theorem laws_heldIntS_iter2 (F : Nat) (a0 : List Int) {R : Type} (k : Out → Option R) : ∀ (n : Nat) (k1 : Int) (i2 : Int), iterS tt (laws_heldIntS_tab F) (laws_heldIntS_LS0 F) 70 (laws_heldIntS_ls2 F) (loopAt 2 (bodyOf Try.f28)) n (laws_heldIntS_st2 a0 k1 i2) k = loopC (laws_heldIntS_s2 F a0) n (k1, i2) (fun x => (laws_heldIntS_o2 a0 x).run k)
  | 0, k1, i2 => rfl
  | n + 1, k1, i2 => (iterS_succ tt (laws_heldIntS_tab F) (laws_heldIntS_LS0 F) 70 (laws_heldIntS_ls2 F) (loopAt 2 (bodyOf Try.f28)) n (laws_heldIntS_st2 a0 k1 i2) k).trans ((laws_heldIntS_step2 F a0 k1 i2 (nextK (iterS tt (laws_heldIntS_tab F) (laws_heldIntS_LS0 F) 70 (laws_heldIntS_ls2 F) (loopAt 2 (bodyOf Try.f28)) n) k)).trans (congrArg (fun kn => laws_heldIntS_s2 F a0 R (k1, i2) kn _) (funext (fun ⟨k1, i2⟩ => laws_heldIntS_iter2 F a0 k n k1 i2))))
theorem laws_heldIntS_lok2 (F : Nat) : LoopOK Try.prog (loopAt 2 (bodyOf Try.f28)) (laws_heldIntS_ls2 F) := by
  refine loopOK_of mixed ttok deep (laws_heldIntS_tabok F) (loopsOK_at (laws_heldIntS_lsok0 F) 2) (fuel := 70) fun R vals mem np killed k x h => ?_
  simp only [laws_heldIntS_ls2] at h
  split at h
  · rename_i a0 k1 i2
    simp only [GT.run] at h
    have hc := (cond_noneL h).1
    replace h := (cond_noneL h).2
    refine ⟨F, (laws_heldIntS_iter2 F a0 k F k1 i2).trans ((loopC_use (laws_heldIntS_s2_nat F a0) hc _).trans h)⟩
  · simp only [GT.run] at h
    cases h
noncomputable def laws_heldIntS_LS1 (F : Nat) : LT := (2, laws_heldIntS_ls2 F) :: laws_heldIntS_LS0 F
theorem laws_heldIntS_lsok1 (F : Nat) : LoopsOK Try.prog (laws_heldIntS_LS1 F) (bodyOf Try.f28) := loopsOK_cons laws_heldIntS_keys (laws_heldIntS_lok2 F) (laws_heldIntS_lsok0 F)
theorem laws_heldIntS_run (F : Nat) (a0 : List Int) (k1 : Int) : runS tt (laws_heldIntS_tab F) (laws_heldIntS_LS1 F) [] [] Try.f28 (bodyOf Try.f28) 70 [(.ri .i64 a0), (.int .i64 k1)] [] = laws_heldIntS_c _ F a0 k1 (fun r => some ⟨(.int .i64 r), [], []⟩) := by kernel_rfl
def laws_heldIntS_ent (F : Nat) : Ent := ⟨[], .quiet, fun args mem => match args, mem with
  | [(.ri .i64 a0), (.int .i64 k1)], [] => some ((laws_heldIntS_p F a0 k1).isSome, ⟨(.int .i64 ((laws_heldIntS_p F a0 k1).getD default)), [], []⟩)
  | _, _ => none⟩
theorem laws_heldIntS_fok : FunOK Try.prog 28 := funOK Try.func28 (by kernel_rfl) rfl
theorem laws_heldIntS_meets (F : Nat) : Meets Try.prog 28 (laws_heldIntS_ent F) := by
  refine meets_of_runS mixed ttok deep (laws_heldIntS_tabok F) Try.func28 (body_some rfl) (laws_heldIntS_lsok1 F) fun args mem hfit ret h => ?_
  clear hfit
  simp only [laws_heldIntS_ent] at h
  split at h
  · rename_i a0 k1
    simp only [Option.some.injEq, Prod.mk.injEq] at h
    obtain ⟨hc, rfl⟩ := h
    exact ⟨[], [], 70, _, (laws_heldIntS_run F a0 k1).trans ((laws_heldIntS_cp _ F a0 k1 _).trans (bind_use hc _)), rfl, rfl, rfl⟩
  · cases h

/-! loop.example/g01194/laws.FnExactSafeMoves -/
noncomputable def laws_FnExactSafeMoves_tab (F : Nat) : Tab := [(11, (laws_toBoard_ent F)), (24, (spec_SafeMoves_ent F)), (25, (impl_SafeMoves_ent F)), (26, (laws_eqIntS_ent F)), (27, (laws_markIntS_ent F)), (28, (laws_heldIntS_ent F))]
theorem laws_FnExactSafeMoves_tabok (F : Nat) : TabOK Try.prog (laws_FnExactSafeMoves_tab F) := (tab_cons (laws_toBoard_meets F) laws_toBoard_fok (tab_cons (spec_SafeMoves_meets F) spec_SafeMoves_fok (tab_cons (impl_SafeMoves_meets F) impl_SafeMoves_fok (tab_cons (laws_eqIntS_meets F) laws_eqIntS_fok (tab_cons (laws_markIntS_meets F) laws_markIntS_fok (tab_cons (laws_heldIntS_meets F) laws_heldIntS_fok tab_nil))))))
noncomputable def laws_FnExactSafeMoves_LS0 (F : Nat) : LT := []
theorem laws_FnExactSafeMoves_lsok0 (F : Nat) : LoopsOK Try.prog (laws_FnExactSafeMoves_LS0 F) (bodyOf Try.f9) := loopsOK_nil
theorem laws_FnExactSafeMoves_run (F : Nat) (aB0 : List Int) (aN1 : Int) : runS tt (laws_FnExactSafeMoves_tab F) (laws_FnExactSafeMoves_LS0 F) [] [] Try.f9 (bodyOf Try.f9) 70 [(.ints 16 aB0), (.int .i64 aN1)] [] = laws_FnExactSafeMoves_c _ F aB0 aN1 (fun r => some ⟨(.bool r), [], []⟩) := by kernel_rfl
def laws_FnExactSafeMoves_ent (F : Nat) : Ent := ⟨[], .quiet, fun args mem => match args, mem with
  | [(.ints 16 aB0), (.int .i64 aN1)], [] => some ((laws_FnExactSafeMoves_p F aB0 aN1).isSome, ⟨(.bool ((laws_FnExactSafeMoves_p F aB0 aN1).getD default)), [], []⟩)
  | _, _ => none⟩
theorem laws_FnExactSafeMoves_fok : FunOK Try.prog 9 := funOK Try.func9 (by kernel_rfl) rfl
theorem laws_FnExactSafeMoves_meets (F : Nat) : Meets Try.prog 9 (laws_FnExactSafeMoves_ent F) := by
  refine meets_of_runS mixed ttok deep (laws_FnExactSafeMoves_tabok F) Try.func9 (body_some rfl) (laws_FnExactSafeMoves_lsok0 F) fun args mem hfit ret h => ?_
  clear hfit
  simp only [laws_FnExactSafeMoves_ent] at h
  split at h
  · rename_i aB0 aN1
    simp only [Option.some.injEq, Prod.mk.injEq] at h
    obtain ⟨hc, rfl⟩ := h
    exact ⟨[], [], 70, _, (laws_FnExactSafeMoves_run F aB0 aN1).trans ((laws_FnExactSafeMoves_cp _ F aB0 aN1 _).trans (bind_use hc _)), rfl, rfl, rfl⟩
  · cases h
end Go.Proofs.Ytidmlibanopfhaa
