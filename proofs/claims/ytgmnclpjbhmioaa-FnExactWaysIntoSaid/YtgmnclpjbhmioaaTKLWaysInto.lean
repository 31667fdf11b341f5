/-
FnExactWaysInto: both say the same.
-/
import Derived.Test.YtgmnclpjbhmioaaTKP4
import Derived.Test.YtgmnclpjbhmioaaTKPLinesB
import Derived.Test.YtgmnclpjbhmioaaTKPEqB
import Derived.Test.YtgmnclpjbhmioaaTKPToBoard
namespace Go.Lv.P
open Go Go.Lv
set_option linter.unusedVariables false
set_option linter.unusedSimpArgs false
theorem ways_same (F : Nat) (b : List Int) (hb : b.length = 16) (hF : 1000 < F) : ∃ v, spec_WaysInto_p F b = some v ∧ impl_WaysInto_p F b = some v := by
  simp only [spec_WaysInto_p, spec_WaysInto_c, impl_WaysInto_p, impl_WaysInto_c, spec_l2Board_eq F b hb hF, impl_IsBoard_eq F b hb hF, Option.isSome_some, Option.getD_some, cond_true]
  cases hB : okB b with
  | false => exact ⟨_, rfl, rfl⟩
  | true =>
    have s0 := spec_count hb hB F hF (d := 0) (by decide)
    have s1 := spec_count hb hB F hF (d := 1) (by decide)
    have s2 := spec_count hb hB F hF (d := 2) (by decide)
    have s3 := spec_count hb hB F hF (d := 3) (by decide)
    have i0 := impl_count hb hB F hF (d := 0) (by decide)
    have i1 := impl_count hb hB F hF (d := 1) (by decide)
    have i2 := impl_count hb hB F hF (d := 2) (by decide)
    have i3 := impl_count hb hB F hF (d := 3) (by decide)
    have e0 : ((0 : Nat) : Int) = 0 := rfl
    have e1 : ((1 : Nat) : Int) = 1 := rfl
    have e2 : ((2 : Nat) : Int) = 2 := rfl
    have e3 : ((3 : Nat) : Int) = 3 := rfl
    rw [e0] at s0 i0
    rw [e1] at s1 i1
    rw [e2] at s2 i2
    rw [e3] at s3 i3
    simp only [s0, s1, s2, s3, i0, i1, i2, i3, Option.isSome_some, Option.getD_some, cond_true, Bool.not_true, cond_false]
    exact ⟨_, rfl, rfl⟩
theorem law_WaysInto (F : Nat) (b : List Int) (hb : b.length = 16) (_ : ∀ x ∈ b, Rng x) (hF : 1000 < F) : laws_FnExactWaysInto_p F b = some true := by
  obtain ⟨v, h1, h2⟩ := ways_same F b hb hF
  simp only [laws_FnExactWaysInto_p, laws_FnExactWaysInto_c, toBoard_eq hb, h1, h2, eqIntA4_refl F v.1 hF, Option.isSome_some, Option.getD_some, cond_true, beq_self_eq_true, Bool.not_true, cond_false]
end Go.Lv.P
