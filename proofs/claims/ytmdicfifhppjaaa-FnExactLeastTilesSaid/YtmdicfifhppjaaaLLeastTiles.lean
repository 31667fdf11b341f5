/-
FnExactLeastTiles: both say the same.
-/
import Derived.Test.YtmdicfifhppjaaaTAP0
import Derived.Test.YtmdicfifhppjaaaLIsPossible
namespace Go.Lv.P
open Go Go.Lv
set_option linter.unusedVariables false
set_option linter.unusedSimpArgs false

theorem sumfor_same (F : Nat) (s : Int) (hF : 1000 < F) : spec_l7Sum_p F s = some (impl_isFor_v s) := by
  simp only [spec_l7Sum_p, spec_l7Sum_c, impl_isFor_v, l1In_eq0, impl_isSum_v, in_eq0]
  cases h1 : inB s 0 2097152 with
  | false => rfl
  | true =>
    cases h3 : Int.tmod s 2 == 0 with
    | false => rfl
    | true =>
      obtain ⟨n, rfl, hn⟩ := even_nat h1
      obtain ⟨o, e1, e2⟩ := least_spec F n hF hn
      simp only [cond_true, e1, Option.isSome_some, Option.getD_some, e2, least_impl n hn (even_of h3)]

theorem isFor_nat {s : Int} (h : impl_isFor_v s = true) : ∃ n : Nat, s = n ∧ n ≤ 2097152 ∧ n % 2 = 0 := by
  simp only [impl_isFor_v, impl_isSum_v, in_eq0] at h
  cases h1 : inB s 0 2097152 with
  | false => rw [h1] at h; exact absurd (show false = true from h) (by decide)
  | true =>
    cases h3 : Int.tmod s 2 == 0 with
    | false => rw [h1, h3] at h; exact absurd (show false = true from h) (by decide)
    | true =>
      obtain ⟨n, rfl, hn⟩ := even_nat h1
      exact ⟨n, rfl, hn, even_of h3⟩

theorem leastTiles_same (F : Nat) (s : Int) (hF : 1000 < F) : spec_LeastTiles_p F s = some (impl_LeastTiles_v s) := by
  simp only [spec_LeastTiles_p, spec_LeastTiles_c, impl_LeastTiles_v, sumfor_same F s hF, Option.isSome_some, Option.getD_some, cond_true]
  cases h : impl_isFor_v s with
  | false => rfl
  | true =>
    obtain ⟨n, rfl, hn, he⟩ := isFor_nat h
    obtain ⟨o, e1, e2⟩ := least_spec F n hF hn
    simp only [Bool.not_true, cond_false, e1, Option.isSome_some, Option.getD_some, cond_true, e2, least_impl n hn he]

theorem law_LeastTiles (F : Nat) (s : Int) (_ : Rng s) (hF : 1000 < F) : laws_FnExactLeastTiles_p F s = some true := by
  simp only [laws_FnExactLeastTiles_p, laws_FnExactLeastTiles_c, leastTiles_same F s hF, Option.isSome_some, Option.getD_some, cond_true, beq_self_eq_true, Bool.not_true, cond_false]
end Go.Lv.P
