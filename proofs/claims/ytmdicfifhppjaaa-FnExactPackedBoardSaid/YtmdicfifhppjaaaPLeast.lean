/-
The least number of tiles for a sum: counting ones.
-/
import Derived.Test.YtmdicfifhppjaaaTBP0
import Derived.Test.YtmdicfifhppjaaaLv3
namespace Go.Lv.P
open Go Go.Lv
set_option linter.unusedVariables false
set_option linter.unusedSimpArgs false

def onesN (x : Nat) : Nat :=
  (fun z1 => (fun z2 => (fun z3 => (fun z4 => (fun z5 => (z5 + z5 / 4294967296) &&& 127) (z4 + z4 / 65536)) (z3 + z3 / 256)) ((z2 / 16 + z2) &&& 1085102592571150095)) ((z1 / 4 &&& 3689348814741910323) + (z1 &&& 3689348814741910323))) ((x / 2 &&& 6148914691236517205) + (x &&& 6148914691236517205))
def chk : Nat → Nat → Nat → Bool
  | 0, x, c => Nat.beq (onesN (2 * x)) c
  | n + 1, x, c => chk n (2 * x) c && chk n (2 * x + 1) (c + 1)
/-- the ones among the lowest digits -/
def cnt : Nat → Nat → Nat
  | 0, _ => 0
  | k + 1, y => y / 2 ^ k + cnt k (y % 2 ^ k)
def cntT : Nat → Nat → Nat
  | 0, _ => 0
  | k + 1, n => n / 2 ^ (k + 1) + cntT k (n % 2 ^ (k + 1))

theorem chk_cnt : ∀ (n x c : Nat), chk n x c = true → ∀ y, y < 2 ^ n → onesN (2 * (x * 2 ^ n + y)) = c + cnt n y
  | 0, x, c, h, y, hy => by
    obtain rfl : y = 0 := by omega
    have := Nat.eq_of_beq_eq_true h
    simpa [cnt] using this
  | n + 1, x, c, h, y, hy => by
    simp only [chk, Bool.and_eq_true] at h
    rw [Nat.pow_succ] at hy
    by_cases hlt : y < 2 ^ n
    · have := chk_cnt n (2 * x) c h.1 y hlt
      rw [cnt, Nat.div_eq_of_lt hlt, Nat.mod_eq_of_lt hlt, Nat.zero_add, ← this, Nat.pow_succ]
      congr 2
      rw [Nat.mul_comm 2 x, Nat.mul_assoc, Nat.mul_comm 2]
    · have h1 : y = 2 ^ n + (y - 2 ^ n) := by omega
      have h2 : y - 2 ^ n < 2 ^ n := by omega
      have := chk_cnt n (2 * x + 1) (c + 1) h.2 (y - 2 ^ n) h2
      have hd : y / 2 ^ n = 1 := by
        rw [h1, Nat.add_div_left _ (Nat.two_pow_pos n), Nat.div_eq_of_lt h2]
      have hm : y % 2 ^ n = y - 2 ^ n := by
        conv => lhs; rw [h1]
        rw [Nat.add_mod_left, Nat.mod_eq_of_lt h2]
      rw [cnt, hd, hm, ← Nat.add_assoc, ← this, Nat.pow_succ]
      congr 2
      rw [Nat.add_mul, Nat.mul_comm 2 x, Nat.mul_assoc, Nat.mul_comm 2, Nat.one_mul]
      omega

theorem chk16 : chk 16 0 0 = true := by kernel_rfl

theorem ones_even (y : Nat) (h : y < 65536) : onesN (2 * y) = cnt 16 y := by
  have := chk_cnt 16 0 0 chk16 y h
  simpa using this

theorem cnt_le : ∀ (k y : Nat), cnt k (y % 2 ^ k) ≤ k
  | 0, y => Nat.le_refl _
  | k + 1, y => by
    have h := cnt_le k (y % 2 ^ (k + 1))
    have : y % 2 ^ (k + 1) / 2 ^ k < 2 := by
      rw [Nat.div_lt_iff_lt_mul (Nat.two_pow_pos k), ← Nat.pow_succ']
      exact Nat.mod_lt _ (Nat.two_pow_pos _)
    rw [cnt]
    omega

theorem cntT_even : ∀ (k y : Nat), cntT k (2 * y) = cnt k y
  | 0, y => rfl
  | k + 1, y => by
    rw [cntT, cnt, Nat.pow_succ, Nat.mul_comm (2 ^ k) 2, Nat.mul_div_mul_left _ _ (by omega), Nat.mul_mod_mul_left, cntT_even k]

theorem wu (n : Nat) (h : n < 2 ^ 64) : IntKind.wrap .u64 (n : Int) = n := by
  show ((n : Int) % 2 ^ 64) = n
  omega
theorem wi (n : Nat) (h : n < 2 ^ 63) : IntKind.wrap .i64 (n : Int) = n := wrap_of (by omega) (by omega)
theorem andu (a b : Nat) (ha : a < 2 ^ 64) (hb : b < 2 ^ 64) : (BitVec.ofInt (IntKind.bits .u64) (a : Int) &&& BitVec.ofInt (IntKind.bits .u64) (b : Int)).toNat = a &&& b := by
  rw [BitVec.toNat_and, BitVec.ofInt_natCast, BitVec.ofInt_natCast, BitVec.toNat_ofNat, BitVec.toNat_ofNat, Nat.mod_eq_of_lt (by exact ha), Nat.mod_eq_of_lt (by exact hb)]
theorem andi (a b : Nat) (ha : a < 2 ^ 64) (hb : b < 2 ^ 64) : (BitVec.ofInt (IntKind.bits .i64) (a : Int) &&& BitVec.ofInt (IntKind.bits .i64) (b : Int)).toNat = a &&& b := andu a b ha hb
theorem shu (a k : Nat) (hk : k ≤ 64) : Int.fdiv (a : Int) (2 ^ (min (Int.toNat (k : Int)) (IntKind.bits .u64)) : Int) = ((a / 2 ^ k : Nat) : Int) := by
  have : min (Int.toNat (k : Int)) (IntKind.bits .u64) = k := by
    rw [Int.toNat_natCast]; exact Nat.min_eq_left hk
  rw [this, Int.fdiv_eq_ediv_of_nonneg _ (by exact_mod_cast Nat.zero_le _)]
  norm_cast
theorem ones_eq (x : Nat) (hx : x < 2 ^ 63) : math_bits_OnesCount_v (x : Int) = (onesN x : Nat) := by
  have hm : ∀ a b : Nat, a &&& b ≤ b := fun a b => Nat.and_le_right
  simp only [math_bits_OnesCount_v, math_bits_OnesCount64_v, onesN]
  have e1 : IntKind.wrap .u64 ((IntKind.wrap .u64 (((BitVec.ofInt (IntKind.bits .u64) (Int.fdiv (x : Int) (2 ^ (min (Int.toNat (1 : Int)) (IntKind.bits .u64)) : Int)) &&& BitVec.ofInt (IntKind.bits .u64) (6148914691236517205 : Int)).toNat : Nat) : Int)) + (IntKind.wrap .u64 (((BitVec.ofInt (IntKind.bits .u64) (x : Int) &&& BitVec.ofInt (IntKind.bits .u64) (6148914691236517205 : Int)).toNat : Nat) : Int))) = ((x / 2 &&& 6148914691236517205) + (x &&& 6148914691236517205) : Nat) := by
    have a1 := hm (x / 2) 6148914691236517205
    have a2 := hm x 6148914691236517205
    have s : Int.fdiv (x : Int) (2 ^ (min (Int.toNat (1 : Int)) (IntKind.bits .u64)) : Int) = ((x / 2 : Nat) : Int) := shu x 1 (by omega)
    have b1 : (BitVec.ofInt (IntKind.bits .u64) ((x / 2 : Nat) : Int) &&& BitVec.ofInt (IntKind.bits .u64) (6148914691236517205 : Int)).toNat = (x / 2) &&& 6148914691236517205 := andu (x / 2) 6148914691236517205 (by omega) (by omega)
    have b2 : (BitVec.ofInt (IntKind.bits .u64) ((x : Nat) : Int) &&& BitVec.ofInt (IntKind.bits .u64) (6148914691236517205 : Int)).toNat = (x) &&& 6148914691236517205 := andu (x) 6148914691236517205 (by omega) (by omega)
    rw [s, b1, b2, wu _ (by omega), wu _ (by omega), ← Int.natCast_add, wu _ (by omega)]
  rw [e1]
  have l1 : (x / 2 &&& 6148914691236517205) + (x &&& 6148914691236517205) < 2 ^ 64 := by
    have a1 := hm (x / 2) 6148914691236517205
    have a2 := hm x 6148914691236517205
    omega
  generalize (x / 2 &&& 6148914691236517205) + (x &&& 6148914691236517205) = z1 at l1
  have e2 : IntKind.wrap .u64 ((IntKind.wrap .u64 (((BitVec.ofInt (IntKind.bits .u64) (Int.fdiv (z1 : Int) (2 ^ (min (Int.toNat (2 : Int)) (IntKind.bits .u64)) : Int)) &&& BitVec.ofInt (IntKind.bits .u64) (3689348814741910323 : Int)).toNat : Nat) : Int)) + (IntKind.wrap .u64 (((BitVec.ofInt (IntKind.bits .u64) (z1 : Int) &&& BitVec.ofInt (IntKind.bits .u64) (3689348814741910323 : Int)).toNat : Nat) : Int))) = ((z1 / 4 &&& 3689348814741910323) + (z1 &&& 3689348814741910323) : Nat) := by
    have a1 := hm (z1 / 4) 3689348814741910323
    have a2 := hm z1 3689348814741910323
    have s : Int.fdiv (z1 : Int) (2 ^ (min (Int.toNat (2 : Int)) (IntKind.bits .u64)) : Int) = ((z1 / 4 : Nat) : Int) := shu z1 2 (by omega)
    have b1 : (BitVec.ofInt (IntKind.bits .u64) ((z1 / 4 : Nat) : Int) &&& BitVec.ofInt (IntKind.bits .u64) (3689348814741910323 : Int)).toNat = (z1 / 4) &&& 3689348814741910323 := andu (z1 / 4) 3689348814741910323 (by omega) (by omega)
    have b2 : (BitVec.ofInt (IntKind.bits .u64) ((z1 : Nat) : Int) &&& BitVec.ofInt (IntKind.bits .u64) (3689348814741910323 : Int)).toNat = (z1) &&& 3689348814741910323 := andu (z1) 3689348814741910323 (by omega) (by omega)
    rw [s, b1, b2, wu _ (by omega), wu _ (by omega), ← Int.natCast_add, wu _ (by omega)]
  rw [e2]
  have l2 : (z1 / 4 &&& 3689348814741910323) + (z1 &&& 3689348814741910323) ≤ 2 * 3689348814741910323 := by
    have a1 := hm (z1 / 4) 3689348814741910323
    have a2 := hm z1 3689348814741910323
    omega
  generalize (z1 / 4 &&& 3689348814741910323) + (z1 &&& 3689348814741910323) = z2 at l2
  have e3 : IntKind.wrap .u64 (((BitVec.ofInt (IntKind.bits .u64) (IntKind.wrap .u64 ((Int.fdiv (z2 : Int) (2 ^ (min (Int.toNat (4 : Int)) (IntKind.bits .u64)) : Int)) + (z2 : Int))) &&& BitVec.ofInt (IntKind.bits .u64) (1085102592571150095 : Int)).toNat : Nat) : Int) = ((z2 / 16 + z2 &&& 1085102592571150095 : Nat) : Int) := by
    have a1 := hm (z2 / 16 + z2) 1085102592571150095
    have s : Int.fdiv (z2 : Int) (2 ^ (min (Int.toNat (4 : Int)) (IntKind.bits .u64)) : Int) = ((z2 / 16 : Nat) : Int) := shu z2 4 (by omega)
    have b1 : (BitVec.ofInt (IntKind.bits .u64) ((z2 / 16 + z2 : Nat) : Int) &&& BitVec.ofInt (IntKind.bits .u64) (1085102592571150095 : Int)).toNat = (z2 / 16 + z2) &&& 1085102592571150095 := andu (z2 / 16 + z2) 1085102592571150095 (by omega) (by omega)
    rw [s, ← Int.natCast_add, wu (z2 / 16 + z2) (by omega), b1, wu _ (by omega)]
  rw [e3]
  have l3 := hm (z2 / 16 + z2) 1085102592571150095
  generalize (z2 / 16 + z2 &&& 1085102592571150095) = z3 at l3
  have s4 : Int.fdiv (z3 : Int) (2 ^ (min (Int.toNat (8 : Int)) (IntKind.bits .u64)) : Int) = ((z3 / 256 : Nat) : Int) := shu z3 8 (by omega)
  rw [s4, ← Int.natCast_add, wu _ (by omega)]
  have l4 : z3 + z3 / 256 ≤ 2 * 1085102592571150095 := by omega
  generalize z3 + z3 / 256 = z4 at l4
  have s5 : Int.fdiv (z4 : Int) (2 ^ (min (Int.toNat (16 : Int)) (IntKind.bits .u64)) : Int) = ((z4 / 65536 : Nat) : Int) := shu z4 16 (by omega)
  rw [s5, ← Int.natCast_add, wu _ (by omega)]
  have l5 : z4 + z4 / 65536 ≤ 3 * 1085102592571150095 := by omega
  generalize z4 + z4 / 65536 = z5 at l5
  have s6 : Int.fdiv (z5 : Int) (2 ^ (min (Int.toNat (32 : Int)) (IntKind.bits .u64)) : Int) = ((z5 / 4294967296 : Nat) : Int) := shu z5 32 (by omega)
  have a6 := hm (z5 + z5 / 4294967296) 127
  have b6 : (BitVec.ofInt (IntKind.bits .i64) ((z5 + z5 / 4294967296 : Nat) : Int) &&& BitVec.ofInt (IntKind.bits .i64) (127 : Int)).toNat = (z5 + z5 / 4294967296) &&& 127 := andi (z5 + z5 / 4294967296) 127 (by omega) (by omega)
  rw [s6, ← Int.natCast_add, wu _ (by omega), wi (z5 + z5 / 4294967296) (by omega), b6, wi _ (by omega)]

theorem least_impl (n : Nat) (hn : n ≤ 2097152) (he : n % 2 = 0) : impl_leastTiles_v (n : Int) = (cntT 17 n : Nat) := by
  have s : Int.fdiv (n : Int) (2 ^ (min (Int.toNat (17 : Int)) (IntKind.bits .u64)) : Int) = ((n / 131072 : Nat) : Int) := shu n 17 (by omega)
  have b : (BitVec.ofInt (IntKind.bits .u64) ((n : Nat) : Int) &&& BitVec.ofInt (IntKind.bits .u64) (131071 : Int)).toNat = (n) &&& 131071 := andu (n) 131071 (by omega) (by omega)
  simp only [impl_leastTiles_v]
  have s' : Int.fdiv (n : Int) (2 ^ (min (Int.toNat (17 : Int)) (IntKind.bits .i64)) : Int) = ((n / 131072 : Nat) : Int) := s
  have hl : n &&& 131071 ≤ 131071 := Nat.and_le_right
  rw [s', wu n (by omega), b, wu _ (by omega), ones_eq _ (by omega), show n &&& 131071 = n % 2 ^ 17 from Nat.and_two_pow_sub_one_eq_mod n 17]
  have e : n % 2 ^ 17 = 2 * (n % 2 ^ 17 / 2) := by omega
  have hb : cntT 16 (n % 2 ^ 17) ≤ 16 := by
    rw [e, cntT_even, show n % 2 ^ 17 / 2 = (n % 2 ^ 17 / 2) % 2 ^ 16 by omega]
    exact cnt_le 16 _
  have hd : n / 131072 ≤ 16 := by omega
  rw [e, ones_even _ (by omega), ← cntT_even, ← e, ← Int.natCast_add, wi _ (by omega)]
  rfl

theorem worth_p (t : Nat) (ht : t ≤ 17) : spec_l2Worth_p (t : Int) = some ((2 ^ t : Nat) : Int) := by
  have h0 : decide ((t : Int) < 0) = false := by simp
  have hm : min (Int.toNat (t : Int)) (IntKind.bits .i64) = t := by
    rw [Int.toNat_natCast]; exact Nat.min_eq_left (by show t ≤ 64; omega)
  have hp : 2 ^ t ≤ 2 ^ 17 := Nat.pow_le_pow_right (by omega) ht
  simp only [spec_l2Worth_p, spec_l2Worth_c, h0, cond_false, hm, Int.one_mul]
  have e2 : (2 : Int) ^ t = ((2 ^ t : Nat) : Int) := by rw [Int.natCast_pow]; rfl
  rw [e2, wi _ (by omega)]

theorem least_inner (F0 t w r : Nat) (hw : spec_l2Worth_p (t : Int) = some (w : Int)) (hr : r < w) : ∀ (q F : Nat) (out : List Int), q < F → out.length + q ≤ 100000 → q * w + r ≤ 100000000 →
    loopC (spec_l7Least_s5 F0 t) F ((q * w + r : Nat), out) some = some ((r : Int), out ++ List.replicate q (t : Int))
  | 0, F, out, hF, ho, hb => by
    obtain ⟨G, rfl⟩ : ∃ G, F = G + 1 := ⟨F - 1, by omega⟩
    have : ¬ (w : Int) ≤ ((0 * w + r : Nat) : Int) := by omega
    simp only [loopC, spec_l7Least_s5, hw, Option.isSome_some, Option.getD_some, cond_true, this, decide_false, cond_false]
    simp
  | q + 1, F, out, hF, ho, hb => by
    obtain ⟨G, rfl⟩ : ∃ G, F = G + 1 := ⟨F - 1, by omega⟩
    have hq : (q + 1) * w = q * w + w := by rw [Nat.add_mul, Nat.one_mul]
    have h1 : (w : Int) ≤ (((q + 1) * w + r : Nat) : Int) := by omega
    have hf : fits (out ++ [(t : Int)]).length 8 = true := fits_of (by simp; omega) (by simp; omega)
    have hs : IntKind.wrap .i64 ((((q + 1) * w + r : Nat) : Int) - (w : Int)) = ((q * w + r : Nat) : Int) := by
      rw [wrap_of (by omega) (by omega)]; omega
    simp only [loopC, spec_l7Least_s5, hw, Option.isSome_some, Option.getD_some, cond_true, h1, decide_true, subn_self, hf, hs]
    rw [least_inner F0 t w r hw hr q G _ (by omega) (by simp; omega) (by omega), List.append_assoc, List.replicate_succ]
    rfl

/-- the tiles of the least list -/
def lst : Nat → Nat → List Int
  | 0, _ => []
  | k + 1, n => List.replicate (n / 2 ^ (k + 1)) ((k + 1 : Nat) : Int) ++ lst k (n % 2 ^ (k + 1))
theorem lst_len : ∀ k n, (lst k n).length = cntT k n
  | 0, n => rfl
  | k + 1, n => by rw [lst, cntT, List.length_append, List.length_replicate, lst_len k]

theorem least_outer (F0 : Nat) (hF0 : 1000 < F0) : ∀ (k F n : Nat) (out : List Int), k < F → k ≤ 17 → n < 2 ^ (k + 5) → out.length + 40 * k ≤ 1000 →
    loopC (spec_l7Least_s3 F0) F ((n : Int), (k : Int), out) some = some (out ++ lst k n)
  | 0, F, n, out, hF, hk, hn, ho => by
    obtain ⟨G, rfl⟩ : ∃ G, F = G + 1 := ⟨F - 1, by omega⟩
    simp [loopC, spec_l7Least_s3, lst]
  | k + 1, F, n, out, hF, hk, hn, ho => by
    obtain ⟨G, rfl⟩ : ∃ G, F = G + 1 := ⟨F - 1, by omega⟩
    have hp : 2 ^ (k + 1) ≤ 2 ^ 17 := Nat.pow_le_pow_right (by omega) hk
    have hpos : 0 < 2 ^ (k + 1) := Nat.two_pow_pos _
    have hq : n / 2 ^ (k + 1) < 32 := by
      rw [Nat.div_lt_iff_lt_mul hpos]
      rw [show k + 1 + 5 = 5 + (k + 1) by omega, Nat.pow_add] at hn
      exact hn
    have hr : n % 2 ^ (k + 1) < 2 ^ (k + 1) := Nat.mod_lt _ hpos
    have hdm : n / 2 ^ (k + 1) * 2 ^ (k + 1) + n % 2 ^ (k + 1) = n := by rw [Nat.mul_comm]; exact Nat.div_add_mod n _
    have hn' : n < 100000000 := by
      have := Nat.mul_le_mul (Nat.le_of_lt hq) hp
      omega
    have hi := least_inner F0 (k + 1) (2 ^ (k + 1)) (n % 2 ^ (k + 1)) (worth_p (k + 1) hk) hr (n / 2 ^ (k + 1)) F0 out (by omega) (by omega) (by omega)
    rw [hdm] at hi
    have h1 := least_outer F0 hF0 k G (n % 2 ^ (k + 1)) (out ++ List.replicate (n / 2 ^ (k + 1)) ((k + 1 : Nat) : Int)) (by omega) (by omega) (by
      refine Nat.lt_of_lt_of_le hr (Nat.pow_le_pow_right (by omega) (by omega))) (by simp; omega)
    have hk0 : decide ((0 : Int) < ((k + 1 : Nat) : Int)) = true := decide_eq_true (by omega)
    have hs : IntKind.wrap .i64 (((k + 1 : Nat) : Int) - 1) = (k : Int) := by rw [wrap_of (by omega) (by omega)]; omega
    simp only [loopC, spec_l7Least_s3, hk0, cond_true, beq_selfL, spec_l7Least_l5, hi, Option.isSome_some, Option.getD_some, Bool.and_self, hs]
    rw [h1, List.append_assoc]
    rfl

theorem least_list (F n : Nat) (hF : 1000 < F) (hn : n ≤ 2097152) : spec_l7Least_p F (n : Int) = some (lst 17 n) := by
  have h1 := least_outer F hF 17 F n [] (by omega) (by omega) (by omega) (by simp)
  simp only [spec_l7Least_p, spec_l7Least_c, spec_l7Least_l3, show ((17 : Nat) : Int) = 17 from rfl, List.nil_append] at h1 ⊢
  simp only [h1, Option.isSome_some, Option.getD_some, cond_true]

theorem least_spec (F n : Nat) (hF : 1000 < F) (hn : n ≤ 2097152) : ∃ out, spec_l7Least_p F (n : Int) = some out ∧ out.length = cntT 17 n :=
  ⟨_, least_list F n hF hn, lst_len 17 n⟩
end Go.Lv.P
