/-
FnExactMovesBetween: both say the same.
-/
import Derived.Test.YtmdicfifhppjaaaTAP2
import Derived.Test.YtmdicfifhppjaaaPEq
import Derived.Test.YtmdicfifhppjaaaPSum
namespace Go.Lv.P
open Go Go.Lv
set_option linter.unusedVariables false
set_option linter.unusedSimpArgs false

theorem tdiv_pos {n : Int} (h : 0 ≤ n) (d : Int) : Int.tdiv n d = n / d := Int.tdiv_eq_ediv_of_nonneg h

theorem moves_same (F : Nat) (a b : List Int) (ha : a.length = 16) (hb : b.length = 16) (hF : 1000 < F) : ∃ v, spec_MovesBetween_p F a b = some v ∧ impl_MovesBetween_p F a b = some v := by
  simp only [spec_MovesBetween_p, spec_MovesBetween_c, impl_MovesBetween_p, impl_MovesBetween_c, spec_l2Board_eq F _ ha hF, spec_l2Board_eq F _ hb hF, impl_IsBoard_eq F _ ha hF, impl_IsBoard_eq F _ hb hF, Option.isSome_some, Option.getD_some, cond_true]
  cases hA : okB a with
  | false => exact ⟨_, rfl, rfl⟩
  | true =>
    cases hB : okB b with
    | false => exact ⟨_, rfl, rfl⟩
    | true =>
      simp only [spec_sum_eq F a ha hA hF, spec_sum_eq F b hb hB hF, impl_sum_eq a ha hA, impl_sum_eq b hb hB, Option.isSome_some, Option.getD_some, cond_true, Bool.not_true, cond_false]
      by_cases hlt : sumB b < sumB a
      · simp only [hlt, decide_true, cond_true]; exact ⟨_, rfl, rfl⟩
      · simp only [hlt, decide_false, cond_false]
        have fa := sumB_facts hA
        have fb := sumB_facts hB
        rw [ha] at fa
        rw [hb] at fb
        have e : IntKind.wrap .i64 (sumB b - sumB a) = sumB b - sumB a := wrap_of (by omega) (by omega)
        rw [e, wrap_of (n := sumB b - sumB a + 2) (by omega) (by omega), wrap_of (n := sumB b - sumB a + 3) (by omega) (by omega), tdiv_pos (by omega), tdiv_pos (by omega), tdiv_pos (by omega)]
        have : (sumB b - sumB a + 2) / 4 = (sumB b - sumB a + 3) / 4 := by omega
        rw [this]
        exact ⟨_, rfl, rfl⟩

theorem law_MovesBetween (F : Nat) (a : List Int) (ha : a.length = 16) (_ : ∀ x ∈ a, Rng x) (b : List Int) (hb : b.length = 16) (_ : ∀ x ∈ b, Rng x) (hF : 1000 < F) : laws_FnExactMovesBetween_p F a b = some true := by
  obtain ⟨v, h1, h2⟩ := moves_same F a b ha hb hF
  simp only [laws_FnExactMovesBetween_p, laws_FnExactMovesBetween_c, toBoard_eq ha, toBoard_eq hb, h1, h2, Option.isSome_some, Option.getD_some, cond_true, beq_self_eq_true, Bool.not_true, cond_false]
end Go.Lv.P
