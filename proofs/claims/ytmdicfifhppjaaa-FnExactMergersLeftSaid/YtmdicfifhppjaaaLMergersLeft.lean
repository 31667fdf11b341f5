/-
FnExactMergersLeft: both say the same.
-/
import Derived.Test.YtmdicfifhppjaaaTAP4
import Derived.Test.YtmdicfifhppjaaaPLeast
import Derived.Test.YtmdicfifhppjaaaPEmpty
import Derived.Test.YtmdicfifhppjaaaPSum
import Derived.Test.YtmdicfifhppjaaaPEq
namespace Go.Lv.P
open Go Go.Lv
set_option linter.unusedVariables false
set_option linter.unusedSimpArgs false

theorem mergers_same (F : Nat) (b : List Int) (hb : b.length = 16) (hF : 1000 < F) : ∃ v, spec_MergersLeft_p F b = some v ∧ impl_MergersLeft_p F b = some v := by
  obtain ⟨r, h1, h2⟩ := impl_empty_eq F b hF
  have hr : r.1 = (em b).length := by rw [h2.1, em_not]
  simp only [spec_MergersLeft_p, spec_MergersLeft_c, impl_MergersLeft_p, impl_MergersLeft_c, spec_l2Many_p, spec_l2Many_c, spec_empty_eq F b hF, h1, hr, spec_l2Board_eq F b hb hF, impl_IsBoard_eq F b hb hF, Option.isSome_some, Option.getD_some, cond_true]
  cases hB : okB b with
  | false => exact ⟨_, rfl, rfl⟩
  | true =>
    obtain ⟨f1, f2, f3⟩ := sumB_facts hB
    rw [hb] at f2
    obtain ⟨n, hn⟩ : ∃ n : Nat, sumB b = n := ⟨(sumB b).toNat, by omega⟩
    obtain ⟨o, e1, e2⟩ := least_spec F n hF (by omega)
    simp only [impl_sum_eq b hb hB, spec_sum_eq F b hb hB hF, Option.isSome_some, Option.getD_some, cond_true, Bool.not_true, cond_false, hn, e1, e2, least_impl n (by omega) (by omega)]
    exact ⟨_, rfl, rfl⟩

theorem law_MergersLeft (F : Nat) (b : List Int) (hb : b.length = 16) (_ : ∀ x ∈ b, Rng x) (hF : 1000 < F) : laws_FnExactMergersLeft_p F b = some true := by
  obtain ⟨v, h1, h2⟩ := mergers_same F b hb hF
  simp only [laws_FnExactMergersLeft_p, laws_FnExactMergersLeft_c, toBoard_eq hb, h1, h2, Option.isSome_some, Option.getD_some, cond_true, beq_self_eq_true, Bool.not_true, cond_false]
end Go.Lv.P
