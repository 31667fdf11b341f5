/-
FnExactPotentialOf: both say the same.
-/
import Derived.Test.YtloemkielkdegaaTIP7
import Derived.Test.YtloemkielkdegaaTIPPot
import Derived.Test.YtloemkielkdegaaTIPToBoard
namespace Go.Lv.P
open Go Go.Lv
set_option linter.unusedVariables false
set_option linter.unusedSimpArgs false
set_option linter.unusedSectionVars false

theorem pot_same (F : Nat) (b : List Int) (hb : b.length = 16) (hF : 1000 < F) : ∃ v, spec_PotentialOf_p F b = some v ∧ impl_PotentialOf_p F b = some v := by
  simp only [spec_PotentialOf_p, spec_PotentialOf_c, impl_PotentialOf_p, impl_PotentialOf_c, spec_l2Board_eq F b hb hF, impl_IsBoard_eq F b hb hF, Option.isSome_some, Option.getD_some, cond_true]
  cases hB : okB b with
  | false => exact ⟨_, rfl, rfl⟩
  | true =>
    simp only [spec_pot hb hB F hF, impl_pot hb hB F hF, Option.isSome_some, Option.getD_some, cond_true, Bool.not_true, cond_false]
    exact ⟨_, rfl, rfl⟩
theorem law_PotentialOf (F : Nat) (b : List Int) (hb : b.length = 16) (_ : ∀ x ∈ b, Rng x) (hF : 1000 < F) : laws_FnExactPotentialOf_p F b = some true := by
  obtain ⟨v, h1, h2⟩ := pot_same F b hb hF
  simp only [laws_FnExactPotentialOf_p, laws_FnExactPotentialOf_c, toBoard_eq hb, h1, h2, Option.isSome_some, Option.getD_some, cond_true, beq_self_eq_true, Bool.not_true, cond_false]
end Go.Lv.P
