/-
FnExactSureScore: both say the same.
-/
import Derived.Test.YtidmlibanopfhaaTGP3
import Derived.Test.YtidmlibanopfhaaTGPSureS
import Derived.Test.YtidmlibanopfhaaTGPSureI
import Derived.Test.YtidmlibanopfhaaTGPToBoard
import Derived.Test.YtidmlibanopfhaaTGPBoard
namespace Go.Lv.P
open Go Go.Lv
set_option linter.unusedVariables false
set_option linter.unusedSimpArgs false

theorem law_SureScore (F : Nat) (b : List Int) (hb : b.length = 16) (_ : ∀ x ∈ b, Rng x) (n : Int) (_ : Rng n) (hF : 1000 < F) : laws_FnExactSureScore_p F b n = some true := by
  have h : ∃ v, spec_SureScore_p F b n = some v ∧ impl_SureScore_p F b n = some v := by
    simp only [spec_SureScore_p, spec_SureScore_c, impl_SureScore_p, impl_SureScore_c, spec_l2Board_eq F b hb hF, impl_IsBoard_eq F b hb hF, Option.isSome_some, Option.getD_some, cond_true, l1In_eq, in_eq]
    cases hB : okB b with
    | false => exact ⟨_, rfl, rfl⟩
    | true =>
      cases hn : inB n 0 2 with
      | false => exact ⟨_, rfl, rfl⟩
      | true =>
        simp only [spec_sure hb hB F hF hn, impl_sure hb hB F hF hn, Option.isSome_some, Option.getD_some, cond_true, Bool.not_true, cond_false]
        exact ⟨_, rfl, rfl⟩
  obtain ⟨v, h1, h2⟩ := h
  simp only [laws_FnExactSureScore_p, laws_FnExactSureScore_c, toBoard_eq hb, h1, h2, Option.isSome_some, Option.getD_some, cond_true, beq_self_eq_true, Bool.not_true, cond_false]
end Go.Lv.P
