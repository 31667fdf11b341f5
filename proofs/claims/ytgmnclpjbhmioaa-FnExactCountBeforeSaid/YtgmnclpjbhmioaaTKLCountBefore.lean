/-
FnExactCountBefore: both say the same.
-/
import Derived.Test.YtgmnclpjbhmioaaTKP0
import Derived.Test.YtgmnclpjbhmioaaTKP1
import Derived.Test.YtgmnclpjbhmioaaTKP4
import Derived.Test.YtgmnclpjbhmioaaTKPLinesB
import Derived.Test.YtgmnclpjbhmioaaTKPToBoard
namespace Go.Lv.P
open Go Go.Lv
set_option linter.unusedVariables false
set_option linter.unusedSimpArgs false
set_option linter.unusedSectionVars false

theorem countB_same (F : Nat) (b : List Int) (hb : b.length = 16) (d : Int) (hF : 1000 < F) : ∃ v, spec_CountBefore_p F b d = some v ∧ impl_CountBefore_p F b d = some v := by
  simp only [spec_CountBefore_p, spec_CountBefore_c, impl_CountBefore_p, impl_CountBefore_c, spec_l2Board_eq F b hb hF, impl_IsBoard_eq F b hb hF, Option.isSome_some, Option.getD_some, cond_true, spec_l2Side_v, impl_isDirection_v, l1In_eq, in_eq]
  cases hB : okB b with
  | false => exact ⟨_, rfl, rfl⟩
  | true =>
    cases hd : inB d 0 3 with
    | false => exact ⟨_, rfl, rfl⟩
    | true =>
      simp [inB] at hd
      obtain ⟨k, rfl⟩ := Int.eq_ofNat_of_zero_le hd.1
      simp only [spec_count hb hB F hF (d := k) (by omega), impl_count hb hB F hF (d := k) (by omega), Option.isSome_some, Option.getD_some, cond_true, Bool.not_true, cond_false]
      exact ⟨_, rfl, rfl⟩
theorem law_CountBefore (F : Nat) (b : List Int) (hb : b.length = 16) (_ : ∀ x ∈ b, Rng x) (d : Int) (_ : Rng d) (hF : 1000 < F) : laws_FnExactCountBefore_p F b d = some true := by
  obtain ⟨v, h1, h2⟩ := countB_same F b hb d hF
  simp only [laws_FnExactCountBefore_p, laws_FnExactCountBefore_c, toBoard_eq hb, h1, h2, Option.isSome_some, Option.getD_some, cond_true, beq_self_eq_true, Bool.not_true, cond_false]
end Go.Lv.P
