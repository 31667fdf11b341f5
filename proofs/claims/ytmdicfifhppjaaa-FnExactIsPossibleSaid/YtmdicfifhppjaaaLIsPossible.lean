/-
FnExactIsPossible: both say the same.
-/
import Derived.Test.YtmdicfifhppjaaaTAP0
import Derived.Test.YtmdicfifhppjaaaPLeast
namespace Go.Lv.P
open Go Go.Lv
set_option linter.unusedVariables false
set_option linter.unusedSimpArgs false

theorem l1In_eq0 (x a b : Int) : spec_l1In_v x a b = inB x a b := by unfold spec_l1In_v inB; cases decide (a ≤ x) <;> rfl
theorem in_eq0 (x a b : Int) : impl_in_v x a b = inB x a b := by unfold impl_in_v inB; cases decide (a ≤ x) <;> rfl
theorem even_nat {s : Int} (h : inB s 0 2097152 = true) : ∃ n : Nat, s = n ∧ n ≤ 2097152 := by
  simp [inB] at h
  exact ⟨s.toNat, by omega, by omega⟩
theorem even_of {n : Nat} (h : (Int.tmod (n : Int) 2 == 0) = true) : n % 2 = 0 := by
  have h := eq_of_beq h
  rw [Int.tmod_eq_emod_of_nonneg (by omega)] at h
  omega

theorem possible_same (F : Nat) (s m : Int) (hF : 1000 < F) : spec_IsPossible_p F s m = some (impl_IsPossible_v s m) := by
  simp only [spec_IsPossible_p, spec_IsPossible_c, impl_IsPossible_v, l1In_eq0, impl_isSum_v, in_eq0]
  cases h1 : inB s 0 2097152 with
  | false => rfl
  | true =>
    cases h2 : inB m 0 16 with
    | false => rfl
    | true =>
      cases h3 : Int.tmod s 2 == 0 with
      | false => rfl
      | true =>
        obtain ⟨n, rfl, hn⟩ := even_nat h1
        obtain ⟨o, e1, e2⟩ := least_spec F n hF hn
        simp only [Bool.not_true, cond_false, cond_true, e1, Option.isSome_some, Option.getD_some, e2, least_impl n hn (even_of h3), inB]
        cases decide (((cntT 17 n : Nat) : Int) ≤ m) <;> rfl

theorem law_IsPossible (F : Nat) (s : Int) (_ : Rng s) (m : Int) (_ : Rng m) (hF : 1000 < F) : laws_FnExactIsPossible_p F s m = some true := by
  simp only [laws_FnExactIsPossible_p, laws_FnExactIsPossible_c, possible_same F s m hF, Option.isSome_some, Option.getD_some, cond_true, beq_self_eq_true, Bool.not_true, cond_false]
end Go.Lv.P
