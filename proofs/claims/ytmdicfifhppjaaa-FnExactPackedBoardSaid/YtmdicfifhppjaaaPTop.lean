/-
The highest tile of a sum.
-/
import Derived.Test.YtmdicfifhppjaaaTBP0
import Derived.Test.YtmdicfifhppjaaaPLeast
namespace Go.Lv.P
open Go Go.Lv
set_option linter.unusedVariables false
set_option linter.unusedSimpArgs false

theorem bitLenAux_eq : ∀ (f n : Nat), n < 2 ^ f → Go.Lib.bitLenAux f n = if n = 0 then 0 else n.log2 + 1
  | 0, n, h => by
    obtain rfl : n = 0 := by omega
    rfl
  | f + 1, n, h => by
    rw [Nat.pow_succ] at h
    rw [Go.Lib.bitLenAux]
    by_cases h0 : n = 0
    · rw [if_pos h0, if_pos h0]
    · rw [if_neg h0, if_neg h0, bitLenAux_eq f (n / 2) (by omega)]
      rw [Nat.log2_def n]
      by_cases h2 : n ≥ 2
      · rw [if_neg (by omega), if_pos h2]; omega
      · rw [if_pos (by omega), if_neg h2]

/-- the highest tile of a sum -/
def top (n : Nat) : Nat := min 17 n.log2

theorem len_eq (n : Nat) (h : n < 2 ^ 63) : math_bits_Len_p (IntKind.wrap .u64 (n : Int)) = some (((if n = 0 then 0 else n.log2 + 1 : Nat) : Nat) : Int) := by
  rw [wu n (by omega)]
  have h1 : decide ((0 : Int) ≤ (n : Int)) = true := decide_eq_true (by omega)
  have h2 : decide ((n : Int) ≤ 18446744073709551615) = true := decide_eq_true (by omega)
  simp only [math_bits_Len_p, math_bits_Len_c, h1, h2, Bool.and_self, cond_true, math_bits_Len64_v, Int.toNat_natCast, Go.Lib.bitLen]
  rw [bitLenAux_eq 64 n (by omega)]

theorem lst_top : ∀ (k n : Nat), 2 ≤ n → 1 ≤ k → lst k n = ((min k n.log2 : Nat) : Int) :: lst k (n - 2 ^ min k n.log2)
  | 0, n, h, hk => absurd hk (by omega)
  | k + 1, n, h, _ => by
    have hn0 : n ≠ 0 := by omega
    have hpos : 0 < 2 ^ (k + 1) := Nat.two_pow_pos _
    by_cases hq : 2 ^ (k + 1) ≤ n
    · have hm : min (k + 1) n.log2 = k + 1 := Nat.min_eq_left ((Nat.le_log2 hn0).2 hq)
      rw [hm, lst, lst, Nat.mod_eq_sub_mod hq]
      obtain ⟨m, rfl⟩ : ∃ m, n = m + 2 ^ (k + 1) := ⟨n - 2 ^ (k + 1), by omega⟩
      rw [Nat.add_sub_cancel, Nat.add_div_right _ hpos, List.replicate_succ]
      rfl
    · have hlt : n < 2 ^ (k + 1) := by omega
      have hk1 : 1 ≤ k := by
        rcases k with _ | k
        · exact absurd hlt (by omega)
        · omega
      have hlg : n.log2 < k + 1 := (Nat.log2_lt hn0).2 hlt
      have hm : min (k + 1) n.log2 = min k n.log2 := by omega
      have ih := lst_top k n h hk1
      rw [hm, lst, lst, Nat.div_eq_of_lt hlt, Nat.mod_eq_of_lt hlt]
      have hlt2 : n - 2 ^ min k n.log2 < 2 ^ (k + 1) := Nat.lt_of_le_of_lt (Nat.sub_le _ _) hlt
      rw [Nat.div_eq_of_lt hlt2, Nat.mod_eq_of_lt hlt2]
      simpa using ih

theorem top_facts {n : Nat} (h : 2 ≤ n) (he : n % 2 = 0) : 1 ≤ top n ∧ top n ≤ 17 ∧ 2 ^ top n ≤ n ∧ (n - 2 ^ top n) % 2 = 0 := by
  have hn0 : n ≠ 0 := by omega
  have h1 : 1 ≤ n.log2 := (Nat.le_log2 hn0).2 (by omega)
  have ht : 1 ≤ top n := by unfold top; omega
  have hp : 2 ^ top n ≤ n := Nat.le_trans (Nat.pow_le_pow_right (by omega) (Nat.min_le_right _ _)) (Nat.log2_self_le hn0)
  refine ⟨ht, by unfold top; omega, hp, ?_⟩
  obtain ⟨j, hj⟩ : ∃ j, top n = j + 1 := ⟨top n - 1, by omega⟩
  rw [hj, Nat.pow_succ] at hp ⊢
  omega

theorem lst_zero (k : Nat) : lst k 0 = [] := by
  induction k with
  | zero => rfl
  | succ k ih => simp [lst, ih]
end Go.Lv.P
