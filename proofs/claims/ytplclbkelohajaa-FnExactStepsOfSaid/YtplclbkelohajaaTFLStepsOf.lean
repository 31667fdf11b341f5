/-
FnExactStepsOf: both say the same.
-/
import Derived.Test.YtplclbkelohajaaTFP4
import Derived.Test.YtplclbkelohajaaTFPSteps
import Derived.Test.YtplclbkelohajaaTFPEq
import Derived.Test.YtplclbkelohajaaTFPMkStepS
import Derived.Test.YtplclbkelohajaaTFPTail
namespace Go.Lv.P
open Go Go.Lv
set_option linter.unusedVariables false
set_option linter.unusedSimpArgs false

theorem stepsOf_same (F : Nat) (b : List Int) (hb : b.length = 16) (d : Int) (hF : 1000 < F) : ∃ v : Bool × LL, spec_StepsOf_p F b d = some v ∧ impl_StepsOf_p F b d = some v ∧ v.2.length ≤ 32 ∧ ∀ x ∈ v.2, x.length = 4 := by
  simp only [spec_StepsOf_p, spec_StepsOf_c, impl_StepsOf_p, impl_StepsOf_c, spec_l2Board_eq F b hb hF, impl_IsBoard_eq F b hb hF, Option.isSome_some, Option.getD_some, cond_true, spec_l2Side_v, impl_isDirection_v, l1In_eq, in_eq]
  cases hB : okB b with
  | false => exact ⟨_, rfl, rfl, by simp, by simp⟩
  | true =>
    cases hd : inB d 0 3 with
    | false => exact ⟨_, rfl, rfl, by simp, by simp⟩
    | true =>
      obtain ⟨n, rfl, hn⟩ : ∃ n : Nat, d = n ∧ n < 4 := by
        simp [inB] at hd
        exact ⟨d.toNat, by omega, by omega⟩
      simp only [spec_steps hb hB F hF hn, impl_steps hb hB F hF hn, Option.isSome_some, Option.getD_some, cond_true, Bool.not_true, cond_false]
      have l1 := stepsB_len b n
      have l2 := stepsB_rows b n
      generalize stepsB b n = w at l1 l2 ⊢
      exact ⟨(true, w), rfl, rfl, l1, l2⟩

theorem law_StepsOf (F : Nat) (b : List Int) (hb : b.length = 16) (_ : ∀ x ∈ b, Rng x) (d : Int) (_ : Rng d) (hF : 1000 < F) : laws_FnExactStepsOf_p F b d = some true := by
  obtain ⟨v, h1, h2, hl, h4⟩ := stepsOf_same F b hb d hF
  obtain ⟨m', e1, e1l, e1t⟩ := markStepS_eq F v.2.length v.2 (fun x hx => h4 x (List.mem_of_mem_take hx)) (Nat.le_refl _) (by omega) hF (by omega)
  have e2 := heldStepS_eq F v.2.length (by omega) hF (by omega)
  have hp : decide ((1 : Int) + 4 * (v.2.length : Int) < 0) = false := by simp; omega
  simp only [laws_FnExactStepsOf_p, laws_FnExactStepsOf_c, toBoard_eq hb, h1, h2, Option.isSome_some, Option.getD_some, cond_true, subn_take0, List.take_length, eqStepS_refl F v.2 (by omega) hF (by omega), beq_self_eq_true, Bool.not_true, cond_false, beq_selfL, Bool.and_self, e1, e1t, e2, hp]
end Go.Lv.P
