/-
FnExactScoreBetween: both say the same.
-/
import Derived.Test.YtloemkielkdegaaTIP7
import Derived.Test.YtloemkielkdegaaTIPPot
import Derived.Test.YtloemkielkdegaaTIPToBoard
namespace Go.Lv.P
open Go Go.Lv
set_option linter.unusedVariables false
set_option linter.unusedSimpArgs false
set_option linter.unusedSectionVars false

theorem between_same (F : Nat) (a b : List Int) (ha : a.length = 16) (hb : b.length = 16) (t : Int) (hF : 1000 < F) : ∃ v, spec_ScoreBetween_p F a b t = some v ∧ impl_ScoreBetween_p F a b t = some v := by
  simp only [spec_ScoreBetween_p, spec_ScoreBetween_c, impl_ScoreBetween_p, impl_ScoreBetween_c, spec_l2Board_eq F a ha hF, impl_IsBoard_eq F a ha hF, spec_l2Board_eq F b hb hF, impl_IsBoard_eq F b hb hF, l1In_eq, impl_isSum_v, in_eq, Option.isSome_some, Option.getD_some, cond_true]
  cases hA : okB a with
  | false => exact ⟨_, rfl, rfl⟩
  | true =>
    cases hB : okB b with
    | false => exact ⟨_, rfl, rfl⟩
    | true =>
      cases inB t 0 2097152 with
      | false => exact ⟨_, rfl, rfl⟩
      | true =>
        simp only [spec_pot hb hB F hF, impl_pot hb hB F hF, spec_pot ha hA F hF, impl_pot ha hA F hF, Option.isSome_some, Option.getD_some, cond_true, Bool.not_true, cond_false]
        exact ⟨_, rfl, rfl⟩
theorem law_ScoreBetween (F : Nat) (a : List Int) (ha : a.length = 16) (_ : ∀ x ∈ a, Rng x) (b : List Int) (hb : b.length = 16) (_ : ∀ x ∈ b, Rng x) (t : Int) (_ : Rng t) (hF : 1000 < F) : laws_FnExactScoreBetween_p F a b t = some true := by
  obtain ⟨v, h1, h2⟩ := between_same F a b ha hb t hF
  simp only [laws_FnExactScoreBetween_p, laws_FnExactScoreBetween_c, toBoard_eq ha, toBoard_eq hb, h1, h2, Option.isSome_some, Option.getD_some, cond_true, beq_self_eq_true, Bool.not_true, cond_false]
end Go.Lv.P
