/-
Fractions cut to their least terms.
-/
import Derived.Test.YtloemkielkdegaaTIP1
import Derived.Test.YtloemkielkdegaaTIP4
import Derived.Test.YtloemkielkdegaaLv3
namespace Go.Lv.P
open Go Go.Lv
set_option linter.unusedVariables false
set_option linter.unusedSimpArgs false

theorem gcd_step (a b : Nat) : Nat.gcd a b = Nat.gcd b (a % b) := by
  rw [Nat.gcd_comm a b, Nat.gcd_rec b a, Nat.gcd_comm]
theorem tmod_nat (a b : Nat) : Int.tmod (a : Int) (b : Int) = ((a % b : Nat) : Int) := by
  rw [Int.tmod_eq_emod_of_nonneg (by omega)]; rfl
theorem tdiv_nat (a b : Nat) : Int.tdiv (a : Int) (b : Int) = ((a / b : Nat) : Int) := rfl

theorem spec_gcd (F0 : Nat) (a0 b0 : Int) : ∀ (F b a : Nat), b < F → loopC (spec_l9Cut_s2 F0 a0 b0) F ((a : Int), (b : Int)) some = some ((Nat.gcd a b : Nat) : Int)
  | 0, b, a, h => absurd h (Nat.not_lt_zero _)
  | F + 1, 0, a, h => by simp [loopC, spec_l9Cut_s2]
  | F + 1, b + 1, a, h => by
    have h1 : decide ((0 : Int) < ((b + 1 : Nat) : Int)) = true := decide_eq_true (by omega)
    have h2 : (((b + 1 : Nat) : Int) == 0) = false := by rw [beq_eq_false_iff_ne]; omega
    simp only [loopC, spec_l9Cut_s2, h1, h2, cond_true, cond_false, tmod_nat]
    rw [spec_gcd F0 a0 b0 F (a % (b + 1)) (b + 1) (Nat.lt_of_lt_of_le (Nat.mod_lt a (by omega : b + 1 > 0)) (by omega)), ← gcd_step]

theorem impl_gcd (F0 : Nat) (a0 b0 : Int) : ∀ (F b a : Nat), b < F → loopC (impl_fraction_s2 F0 a0 b0) F ((a : Int), (b : Int)) some = some ((Nat.gcd a b : Nat) : Int)
  | 0, b, a, h => absurd h (Nat.not_lt_zero _)
  | F + 1, 0, a, h => by simp [loopC, impl_fraction_s2]
  | F + 1, b + 1, a, h => by
    have h2 : (((b + 1 : Nat) : Int) == 0) = false := by rw [beq_eq_false_iff_ne]; omega
    simp only [loopC, impl_fraction_s2, h2, Bool.not_false, cond_true, cond_false, tmod_nat]
    rw [impl_gcd F0 a0 b0 F (a % (b + 1)) (b + 1) (Nat.lt_of_lt_of_le (Nat.mod_lt a (by omega : b + 1 > 0)) (by omega)), ← gcd_step]

theorem wi' (n : Nat) (h : n < 2 ^ 63) : IntKind.wrap .i64 (n : Int) = n := wrap_of (by omega) (by omega)
theorem cut_eq (F a b : Nat) (hb : 0 < b) (hF : b < F) (ha : a < 2 ^ 62) (hb2 : b < 2 ^ 62) : spec_l9Cut_p F a b = some [((a / Nat.gcd a b : Nat) : Int), ((b / Nat.gcd a b : Nat) : Int)] := by
  have hg : 0 < Nat.gcd a b := Nat.gcd_pos_of_pos_right _ hb
  have hm : spec_l1Most_v ((Nat.gcd a b : Nat) : Int) 1 = ((Nat.gcd a b : Nat) : Int) := by
    unfold spec_l1Most_v
    cases h : decide ((1 : Int) < ((Nat.gcd a b : Nat) : Int)) with
    | true => rfl
    | false =>
      have := of_decide_eq_false h
      show (1 : Int) = _
      omega
  have h2 : (((Nat.gcd a b : Nat) : Int) == 0) = false := by rw [beq_eq_false_iff_ne]; omega
  have d1 := Nat.div_le_self a (Nat.gcd a b)
  have d2 := Nat.div_le_self b (Nat.gcd a b)
  simp only [spec_l9Cut_p, spec_l9Cut_c, spec_l9Cut_l2, spec_gcd F a b F b a hF, Option.isSome_some, Option.getD_some, cond_true, hm, h2, cond_false, tdiv_nat, wi' (a / Nat.gcd a b) (by omega), wi' (b / Nat.gcd a b) (by omega)]

theorem fraction_eq (F a b : Nat) (hb : 0 < b) (hF : b < F) (ha : a < 2 ^ 62) (hb2 : b < 2 ^ 62) : impl_fraction_p F a b = some [((a / Nat.gcd a b : Nat) : Int), ((b / Nat.gcd a b : Nat) : Int)] := by
  have hg : 0 < Nat.gcd a b := Nat.gcd_pos_of_pos_right _ hb
  have h2 : (((Nat.gcd a b : Nat) : Int) == 0) = false := by rw [beq_eq_false_iff_ne]; omega
  have d1 := Nat.div_le_self a (Nat.gcd a b)
  have d2 := Nat.div_le_self b (Nat.gcd a b)
  simp only [impl_fraction_p, impl_fraction_c, impl_fraction_l2, impl_gcd F a b F b a hF, Option.isSome_some, Option.getD_some, cond_true, h2, cond_false, tdiv_nat, wi' (a / Nat.gcd a b) (by omega), wi' (b / Nat.gcd a b) (by omega)]
end Go.Lv.P
