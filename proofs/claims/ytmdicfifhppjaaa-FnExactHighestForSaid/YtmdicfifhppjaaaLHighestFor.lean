/-
FnExactHighestFor: both say the same.
-/
import Derived.Test.YtmdicfifhppjaaaTBP0
import Derived.Test.YtmdicfifhppjaaaPTop
import Derived.Test.YtmdicfifhppjaaaPFor
namespace Go.Lv.P
open Go Go.Lv
set_option linter.unusedVariables false
set_option linter.unusedSimpArgs false
theorem highest_same (F : Nat) (s : Int) (hF : 1000 < F) : ∃ v, spec_HighestFor_p F s = some v ∧ impl_HighestFor_p s = some v := by
  simp only [spec_HighestFor_p, spec_HighestFor_c, impl_HighestFor_p, impl_HighestFor_c, sumfor_same F s hF, Option.isSome_some, Option.getD_some, cond_true]
  cases h : impl_isFor_v s with
  | false => exact ⟨_, rfl, rfl⟩
  | true =>
    obtain ⟨n, rfl, hn, he⟩ := isFor_nat h
    simp only [least_list F n hF hn, len_eq n (by omega), Option.isSome_some, Option.getD_some, cond_true, Bool.not_true, cond_false]
    by_cases h0 : n = 0
    · subst h0
      exact ⟨_, rfl, rfl⟩
    · have h2 : 2 ≤ n := by omega
      have hlg : n.log2 < 64 := (Nat.log2_lt h0).2 (by omega)
      have hw : IntKind.wrap .i64 (((if n = 0 then 0 else n.log2 + 1 : Nat) : Int) - 1) = (n.log2 : Int) := by
        rw [if_neg h0, wrap_of (by omega) (by omega)]; omega
      rw [lst_top 17 n h2 (by omega), hw]
      refine ⟨(((min 17 n.log2 : Nat) : Int), true), ?_, ?_⟩
      · have h1 : decide ((0 : Int) < (((((min 17 n.log2 : Nat) : Int) :: lst 17 (n - 2 ^ min 17 n.log2)).length : Nat) : Int)) = true := decide_eq_true (by simp)
        have h3 : inR (0 : Int) ((((min 17 n.log2 : Nat) : Int) :: lst 17 (n - 2 ^ min 17 n.log2)).length) = true := inR_true (by omega) (by simp)
        rw [h1, h3]
        rfl
      · have e : (if (17 : Int) < (n.log2 : Int) then (17 : Int) else (n.log2 : Int)) = ((min 17 n.log2 : Nat) : Int) := by
          by_cases hh : 17 < n.log2
          · rw [if_pos (by omega), Nat.min_eq_left (by omega)]; rfl
          · rw [if_neg (by omega), Nat.min_eq_right (by omega)]
        rw [e, if_neg (by omega)]

theorem law_HighestFor (F : Nat) (s : Int) (_ : Rng s) (hF : 1000 < F) : laws_FnExactHighestFor_p F s = some true := by
  obtain ⟨v, h1, h2⟩ := highest_same F s hF
  simp only [laws_FnExactHighestFor_p, laws_FnExactHighestFor_c, h1, h2, Option.isSome_some, Option.getD_some, cond_true, beq_self_eq_true, Bool.not_true, cond_false]
end Go.Lv.P
