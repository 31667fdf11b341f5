/-
Sums that are sums of few tiles.
-/
import Derived.Test.YtmdicfifhppjaaaTBP0
import Derived.Test.YtmdicfifhppjaaaPLeast
namespace Go.Lv.P
open Go Go.Lv
set_option linter.unusedVariables false
set_option linter.unusedSimpArgs false

theorem l1In_eq0 (x a b : Int) : spec_l1In_v x a b = inB x a b := by unfold spec_l1In_v inB; cases decide (a ≤ x) <;> rfl
theorem in_eq0 (x a b : Int) : impl_in_v x a b = inB x a b := by unfold impl_in_v inB; cases decide (a ≤ x) <;> rfl
theorem even_nat {s : Int} (h : inB s 0 2097152 = true) : ∃ n : Nat, s = n ∧ n ≤ 2097152 := by
  simp [inB] at h
  exact ⟨s.toNat, by omega, by omega⟩
theorem even_of {n : Nat} (h : (Int.tmod (n : Int) 2 == 0) = true) : n % 2 = 0 := by
  have h := eq_of_beq h
  rw [Int.tmod_eq_emod_of_nonneg (by omega)] at h
  omega

theorem sumfor_same (F : Nat) (s : Int) (hF : 1000 < F) : spec_l7Sum_p F s = some (impl_isFor_v s) := by
  simp only [spec_l7Sum_p, spec_l7Sum_c, impl_isFor_v, l1In_eq0, impl_isSum_v, in_eq0]
  cases h1 : inB s 0 2097152 with
  | false => rfl
  | true =>
    cases h3 : Int.tmod s 2 == 0 with
    | false => rfl
    | true =>
      obtain ⟨n, rfl, hn⟩ := even_nat h1
      obtain ⟨o, e1, e2⟩ := least_spec F n hF hn
      simp only [cond_true, e1, Option.isSome_some, Option.getD_some, e2, least_impl n hn (even_of h3)]

theorem isFor_nat {s : Int} (h : impl_isFor_v s = true) : ∃ n : Nat, s = n ∧ n ≤ 2097152 ∧ n % 2 = 0 := by
  simp only [impl_isFor_v, impl_isSum_v, in_eq0] at h
  cases h1 : inB s 0 2097152 with
  | false => rw [h1] at h; exact absurd (show false = true from h) (by decide)
  | true =>
    cases h3 : Int.tmod s 2 == 0 with
    | false => rw [h1, h3] at h; exact absurd (show false = true from h) (by decide)
    | true =>
      obtain ⟨n, rfl, hn⟩ := even_nat h1
      exact ⟨n, rfl, hn, even_of h3⟩

end Go.Lv.P
