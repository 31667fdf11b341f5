/-
FnExactBackStep: both say the same.
-/
import Derived.Test.YtgmnclpjbhmioaaGreatTZP2
import Derived.Test.YtgmnclpjbhmioaaGreatTZP5
import Derived.Test.YtgmnclpjbhmioaaGreatTZP6
import Derived.Test.YtgmnclpjbhmioaaGreatTZPBoardsC
import Derived.Test.YtgmnclpjbhmioaaGreatTZPEqB
import Derived.Test.YtgmnclpjbhmioaaGreatTZPToBoard
namespace Go.Lv.P
open Go Go.Lv
set_option linter.unusedVariables false
set_option linter.unusedSimpArgs false
theorem back_same (F : Nat) (b : List Int) (hb : b.length = 16) (d k : Int) (hF : 10000000000 < F) : ∃ v, spec_BackStep_p F b d k = some v ∧ impl_BackStep_p F b d k = some v := by
  obtain ⟨n, m, v, o, h1, h2, hv, hl, hn, h40⟩ := boards_same F b hb d hF
  simp only [spec_BackStep_p, spec_BackStep_c, impl_BackStep_p, impl_BackStep_c, h1, h2, Option.isSome_some, Option.getD_some, cond_true, l1In_eq, in_eq, hl]
  cases o with
  | false => exact ⟨_, rfl, rfl⟩
  | true =>
    cases hk : inB k 0 (IntKind.wrap .i64 (((n : Nat) : Int) - 1)) with
    | false => exact ⟨_, rfl, rfl⟩
    | true =>
      simp only [inB, Bool.and_eq_true, decide_eq_true_eq] at hk
      rw [wrap_of (by omega) (by omega)] at hk
      obtain ⟨j, rfl⟩ := Int.eq_ofNat_of_zero_le hk.1
      have hj : j < n := by omega
      have e : rget m (0 + j) = rget v (0 + j) := by
        rw [Nat.zero_add, rgetL, rgetL, ← hv, List.getElem?_take, if_pos hj]
      simp only [inR_cast, hj, decide_true, cond_true, cond_false, Bool.not_true, Int.toNat_natCast, e]
      exact ⟨_, rfl, rfl⟩
theorem law_BackStep (F : Nat) (b : List Int) (hb : b.length = 16) (_ : ∀ x ∈ b, Rng x) (d : Int) (_ : Rng d) (k : Int) (_ : Rng k) (hF : 10000000000 < F) : laws_FnExactBackStep_p F b d k = some true := by
  obtain ⟨v, h1, h2⟩ := back_same F b hb d k hF
  simp only [laws_FnExactBackStep_p, laws_FnExactBackStep_c, toBoard_eq hb, h1, h2, eqBoard_refl F v.1 (by omega), Option.isSome_some, Option.getD_some, cond_true, beq_self_eq_true, Bool.not_true, cond_false]
end Go.Lv.P
