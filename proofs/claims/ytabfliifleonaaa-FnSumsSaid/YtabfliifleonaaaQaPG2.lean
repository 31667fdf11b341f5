/-
Plain facts of the pure functions, part 2; without conditions.
-/
import Derived.Test.YtabfliifleonaaaQaPG1
import Derived.Test.YtabfliifleonaaaQaP2
import Derived.Test.YtabfliifleonaaaQaP0
import Derived.Test.YtabfliifleonaaaQaP3
import Derived.Test.YtabfliifleonaaaLv3
import Derived.Test.YtabfliifleonaaaQaP1
set_option linter.unusedVariables false
set_option linter.unusedSimpArgs false
set_option linter.unusedSectionVars false
namespace Go.Lv.P
open Go Go.Lv
set_option maxRecDepth 100000
/-- one tile more: how many tiles lie there, the score, whether the last one was merged, the row -/
abbrev RS := Nat × Int × Bool × List Int
def rstep (s : RS) (x : Int) : RS :=
  bif decide (0 < s.1) && (iget s.2.2.2 (0 + (s.1 - 1) * 1) == x) && decide (x < 17) && !s.2.2.1 then (s.1, IntKind.wrap .i64 (s.2.1 + W (x + 1)), true, iset s.2.2.2 (0 + (s.1 - 1) * 1) (x + 1))
  else (s.1 + 1, s.2.1, false, iset s.2.2.2 (0 + s.1 * 1) x)
def rslide (row : List Int) : RS := (row.filter fun x => !(x == 0)).foldl rstep (0, 0, false, [0, 0, 0, 0])
theorem rstep_n (s : RS) (x : Int) : (rstep s x).1 ≤ s.1 + 1 := by
  unfold rstep
  cases decide (0 < s.1) && (iget s.2.2.2 (0 + (s.1 - 1) * 1) == x) && decide (x < 17) && !s.2.2.1
  · exact Nat.le_refl _
  · exact Nat.le_succ _
/-- a tile of a row -/
def rput (row : List Int) (i : Nat) (s : RS) : RS := bif iget row (0 + i * 1) == 0 then s else rstep s (iget row (0 + i * 1))
theorem fld_rput (row : List Int) (h : row.length = 4) (s : RS) : fld (rput row) 0 4 s = (row.filter fun x => !(x == 0)).foldl rstep s := by
  obtain ⟨a, b, c, d, rfl⟩ := list4 h
  have key : ∀ (x : Int) (l : List Int) (s : RS), ((x :: l).filter fun x => !(x == 0)).foldl rstep s = (l.filter fun x => !(x == 0)).foldl rstep (bif x == 0 then s else rstep s x) := fun x l s => by
    rw [List.filter_cons]
    cases x == 0 <;> rfl
  rw [key, key, key, key]
  rfl
theorem wrap_pred {n : Nat} (h : 0 < n) (h2 : n ≤ 100) : IntKind.wrap .i64 ((n : Int) - 1) = ((n - 1 : Nat) : Int) := by
  rw [wrap_of (by omega) (by omega)]; omega
theorem bsetL (xs : List Bool) (n : Nat) (x : Bool) : bset xs n x = xs.set n x := by
  induction xs generalizing n with
  | nil => cases n <;> rfl
  | cons a r ih => cases n with
    | zero => rfl
    | succ n => simp only [bset, ih, List.set_cons_succ]
theorem bgetL (xs : List Bool) (n : Nat) : bget xs n = xs[n]?.getD false := by
  induction xs generalizing n with
  | nil => cases n <;> rfl
  | cons a r ih => cases n with
    | zero => rfl
    | succ n => simp only [bget, ih, List.getElem?_cons_succ]
theorem fld_list (l : List Int) (g : RS → Int → RS) : ∀ (m i : Nat) (s : RS), i + m = l.length → fld (fun i s => g s (iget l (0 + i))) i m s = (l.drop i).foldl g s
  | 0, i, s, h => by rw [List.drop_eq_nil_of_le (by omega)]; rfl
  | m + 1, i, s, h => by
    have hi : i < l.length := by omega
    rw [fld, fld_list l g m (i + 1) _ (by omega), List.drop_eq_getElem_cons hi, List.foldl_cons, Nat.zero_add, igetL, List.getElem?_eq_getElem hi]
    rfl
end Go.Lv.P

namespace Go.Lv.P
open Go Go.Lv
/-- the sum of a board's worths -/
def sumB (b : List Int) : Int := (b.map W).foldl (· + ·) 0
theorem okB_iget {b : List Int} (hb : b.length = 16) (ok : okB b = true) (i : Nat) (hi : i < 16) : inB (iget b i) 0 17 = true := by
  simp only [okB, List.all_eq_true] at ok
  rw [igetL, List.getElem?_eq_getElem (by omega)]
  exact ok _ (List.getElem_mem _)
theorem wrap_small {n : Int} (h1 : 0 ≤ n) (h2 : n ≤ 9223372036854775807) : IntKind.wrap .i64 n = n := wrap_of (by omega) h2
theorem foldw : ∀ (l : List Int) (a : Int), (∀ x ∈ l, 0 ≤ x ∧ x ≤ 131072) → 0 ≤ a → a + l.length * 131072 ≤ 9223372036854775807 → l.foldl (fun a x => IntKind.wrap .i64 (a + x)) a = l.foldl (· + ·) a
  | [], a, _, _, _ => rfl
  | x :: r, a, h, h0, h1 => by
    have hx := h x (by simp)
    simp only [List.length_cons] at h1
    simp only [List.foldl_cons]
    rw [wrap_small (by omega) (by omega)]
    exact foldw r (a + x) (fun y hy => h y (by simp [hy])) (by omega) (by omega)
theorem sumB_facts {b : List Int} (ok : okB b = true) : 0 ≤ sumB b ∧ sumB b ≤ b.length * 131072 ∧ sumB b % 2 = 0 := by
  have : ∀ (l : List Int) (a : Int), (∀ x ∈ l, inB x 0 17 = true) → 0 ≤ a → a % 2 = 0 → 0 ≤ (l.map W).foldl (· + ·) a ∧ (l.map W).foldl (· + ·) a ≤ a + l.length * 131072 ∧ (l.map W).foldl (· + ·) a % 2 = 0 := by
    intro l
    induction l with
    | nil => intro a _ h0 h2; exact ⟨h0, by simp, h2⟩
    | cons x r ih =>
      intro a h h0 h2
      have hw := W_facts (h x (by simp))
      obtain ⟨g1, g2, g3⟩ := ih (a + W x) (fun y hy => h y (by simp [hy])) (by omega) (by omega)
      refine ⟨g1, ?_, g3⟩
      simp only [List.map_cons, List.foldl_cons, List.length_cons]
      omega
  simp only [okB, List.all_eq_true] at ok
  have := this b 0 ok (by omega) (by omega)
  refine ⟨this.1, ?_, this.2.2⟩
  have := this.2.1
  unfold sumB
  omega
end Go.Lv.P

namespace Go.Lv.P
open Go Go.Lv
theorem empty_f1 (b : List Int) : ∀ x ∈ cells16, impl_Board_empty_f1_p x b = some (!(iget b (plc x) == 0)) :=
  cells_all fun r c hr hc => by
    have e : impl_Board_at_p [(r : Int), (c : Int)] b = some (plc [(r : Int), (c : Int)]) := by
      simp only [impl_Board_at_p, impl_Board_at_c, show iget [(r : Int), (c : Int)] 0 = r from rfl, show iget [(r : Int), (c : Int)] 1 = c from rfl, inR_cast, hr, hc, decide_true, cond_true, plc]
    simp only [impl_Board_empty_f1_p, impl_Board_empty_f1_c, e, Option.isSome_some, Option.getD_some, cond_true]
theorem DeleteFunc_empty (F : Nat) (s : LL) (b : List Int) (q : List Int → Bool) (hs : s.length ≤ 1000) (hF : 1000 < F) (hq : ∀ x ∈ s, impl_Board_empty_f1_p x b = some (q x)) :
    ∃ r, slices_DeleteFunc_2int2int_impl_Board_empty_f1_p F s b = some r ∧ Deleted s q r := by
  have hg : ∀ i, i < s.length → impl_Board_empty_f1_p (rget s i) b = some (q (rget s i)) := fun i hi => by
    refine hq _ ?_
    rw [rgetL, List.getElem?_eq_getElem hi]
    exact List.getElem_mem hi
  have h1 : slices_IndexFunc_2int2int_impl_Board_empty_f1_l2 F s s.length b 0 = some (fnd (fun i => q (rget s i)) (fun i => (true, (i : Int))) (false, default) 0 s.length) := by
    refine loop_find (fun i => i) s.length _ _ _ (by omega) (by omega) (fun i hi Q kn kx => ?_) fun Q kn kx => ?_
    · simp only [slices_IndexFunc_2int2int_impl_Board_empty_f1_s2, inR_cast, hi, hg i hi, Int.toNat_natCast, decide_true, cond_true, Int.ofNat_lt, Option.isSome_some, Option.getD_some]
    · simp [slices_IndexFunc_2int2int_impl_Board_empty_f1_s2]
  simp only [slices_DeleteFunc_2int2int_impl_Board_empty_f1_p, slices_DeleteFunc_2int2int_impl_Board_empty_f1_c, slices_IndexFunc_2int2int_impl_Board_empty_f1_p, slices_IndexFunc_2int2int_impl_Board_empty_f1_c, subn_self, h1, Option.isSome_some, Option.getD_some, cond_true]
  rcases fnd_split s q s.length 0 (by omega) (by simp) with ⟨h2, h3⟩ | ⟨j, hj, h2, h3, h4⟩
  · rw [h2]
    refine ⟨(s.length, s), rfl, ?_⟩
    have e := filter_all (q := q) h3
    exact ⟨by rw [e], by rw [e]; exact List.take_length, rfl⟩
  · rw [h2]
    have hgj : rget s j = s[j] := by rw [rgetL, List.getElem?_eq_getElem hj]; rfl
    obtain ⟨s', l1, l2, l3⟩ := delete_loop (step := slices_DeleteFunc_2int2int_impl_Board_empty_f1_s5 F s.length b) q (fun x => impl_Board_empty_f1_p x b = some (q x)) s.length (by omega)
      (fun i j s'' hij hjn hl hp Q kn kx => by
        have hin : i < s.length := by omega
        simp only [slices_DeleteFunc_2int2int_impl_Board_empty_f1_s5, Int.ofNat_lt, hjn, inR_cast, hin, Int.toNat_natCast, decide_true, cond_true, hp, Option.isSome_some, Option.getD_some]
        cases q (rget s'' (0 + j)) <;> rfl)
      (fun i s'' Q kn kx => by simp [slices_DeleteFunc_2int2int_impl_Board_empty_f1_s5]) (s.length - (j + 1)) j (j + 1) F s (by omega) (by omega) (by omega) rfl (fun x hx => hq x (List.mem_of_mem_drop hx))
    have e : s.filter (fun x => !q x) = s.take j ++ (s.drop (j + 1)).filter (fun x => !q x) := by
      have e1 : s = s.take j ++ s[j] :: s.drop (j + 1) := by rw [← List.drop_eq_getElem_cons hj, List.take_append_drop]
      conv => lhs; rw [e1]
      rw [List.filter_append, List.filter_cons, ← hgj, h3]
      simp only [Bool.not_true, Bool.false_eq_true, if_false]
      rw [filter_all]
      exact h4
    have el : j + ((s.drop (j + 1)).filter fun x => !q x).length = (s.filter fun x => !q x).length := by
      rw [e, List.length_append, List.length_take, Nat.min_eq_left (Nat.le_of_lt hj)]
    rw [el] at l1 l3
    rw [← e] at l3
    have ll : (s.filter fun x => !q x).length ≤ s.length := List.length_filter_le _ _
    have l1' : slices_DeleteFunc_2int2int_impl_Board_empty_f1_l5 F s.length b (j : Int) (IntKind.wrap .i64 ((j : Int) + 1)) s = some ((((s.filter fun x => !q x).length : Nat) : Int), s') := by
      rw [wrap_succ (n := s.length) hj (by omega)]
      exact l1
    have hne : ((j : Int) == -1) = false := by
      rw [beq_eq_false_iff_ne]; omega
    simp only [cond_true, Option.getD_some, l1', hne, cond_false, Option.isSome_some, inLe_cast, ll, decide_true, Int.toNat_natCast, Nat.sub_zero]
    refine ⟨_, rfl, rfl, ?_, ?_⟩
    · show (splice s' (0 + _) _ _).take _ = _
      rw [splice_take _ _ _ _ (by omega) (by simp), l3]
    · rw [← l2]
      show (splice s' (0 + _) _ _).length = _
      exact splice_len' _ _ _ (by omega) (by simp)
theorem impl_empty_eq (F : Nat) (b : List Int) (hF : 1000 < F) : ∃ r, impl_Board_empty_p F b = some r ∧ Deleted cells16 (fun c => !(iget b (plc c) == 0)) r := by
  obtain ⟨r, h1, h2⟩ := DeleteFunc_empty F cells16 b (fun c => !(iget b (plc c) == 0)) (by decide) hF (empty_f1 b)
  exact ⟨r, by simp only [impl_Board_empty_p, impl_Board_empty_c, h1, Option.isSome_some, Option.getD_some, cond_true], h2⟩
end Go.Lv.P

namespace Go.Lv.P
open Go Go.Lv
theorem spec_empty_eq (F : Nat) (b : List Int) (hF : 1000 < F) : spec_l2Empty_p F b = some (em b) := by
  let hc : Nat → Nat → LL := fun r c => bif iget b (0 + r * 4 + c * 1) == 0 then [[(r : Int), (c : Int)]] else []
  have hc1 : ∀ r c, (hc r c).length ≤ 1 := fun r c => by
    show (bif iget b (0 + r * 4 + c * 1) == 0 then [[(r : Int), (c : Int)]] else [] : LL).length ≤ 1
    cases iget b (0 + r * 4 + c * 1) == 0 <;> simp
  have hin : ∀ (r : Nat) (out : LL), r < 4 → out.length ≤ 100 → spec_l2Empty_l6 F r b 0 out = some (out ++ (List.range' 0 4).flatMap (hc r)) := fun r out hr ho => by
    rw [← fld_add]
    refine (loop_fold (step := spec_l2Empty_s6 F r b) (fun i a => (i, a)) 4 (fun i a => a ++ hc r i) (fun a => a) (fun i a => a.length ≤ 100 + i) (F := F) (by omega) (by omega) (a := out) (by omega) (fun i a hi hI => ⟨?_, fun Q kn kx => ?_⟩) (fun a _ Q kn kx => by simp [spec_l2Empty_s6])).1
    · have := hc1 r i
      simp only [List.length_append]
      omega
    · have hi' : (i : Int) < 4 := by omega
      have hf : fits (a ++ [[(r : Int), (i : Int)]]).length 16 = true := fits_of (by simp; omega) (by simp; omega)
      simp only [spec_l2Empty_s6, hi', inR_cast, hi, hr, Int.toNat_natCast, decide_true, cond_true, subn_self, hf, hc]
      cases iget b (0 + r * 4 + i * 1) == 0
      · simp only [cond_false, List.append_nil]
      · rfl
  have hout : spec_l2Empty_l3 F b 0 [] = some ([] ++ (List.range' 0 4).flatMap fun r => (List.range' 0 4).flatMap (hc r)) := by
    rw [← fld_add]
    refine (loop_fold (step := spec_l2Empty_s3 F b) (fun i a => (i, a)) 4 (fun r a => a ++ (List.range' 0 4).flatMap (hc r)) (fun a => a) (fun i a => a.length ≤ 4 * i) (F := F) (by omega) (by omega) (a := []) (by simp) (fun i a hi hI => ⟨?_, fun Q kn kx => ?_⟩) (fun a _ Q kn kx => by simp [spec_l2Empty_s3])).1
    · have := flat_len (hc1 i) 4 0
      simp only [List.length_append]
      omega
    · have hi' : (i : Int) < 4 := by omega
      simp only [spec_l2Empty_s3, hi', decide_true, cond_true, hin i a hi (by omega), beq_selfL, Option.isSome_some, Option.getD_some, Bool.and_self]
  simp only [spec_l2Empty_p, spec_l2Empty_c, hout, Option.isSome_some, Option.getD_some, cond_true]
  congr 1
  rw [em, filter_flatMap]
  simp only [List.range'_succ, List.range'_zero, List.flatMap_cons, List.flatMap_nil, List.append_nil, List.nil_append, List.append_assoc, hc, cells16]
  rfl
end Go.Lv.P

namespace Go.Lv.P
open Go Go.Lv
def onesN (x : Nat) : Nat :=
  (fun z1 => (fun z2 => (fun z3 => (fun z4 => (fun z5 => (z5 + z5 / 4294967296) &&& 127) (z4 + z4 / 65536)) (z3 + z3 / 256)) ((z2 / 16 + z2) &&& 1085102592571150095)) ((z1 / 4 &&& 3689348814741910323) + (z1 &&& 3689348814741910323))) ((x / 2 &&& 6148914691236517205) + (x &&& 6148914691236517205))
def chk : Nat → Nat → Nat → Bool
  | 0, x, c => Nat.beq (onesN (2 * x)) c
  | n + 1, x, c => chk n (2 * x) c && chk n (2 * x + 1) (c + 1)
theorem chk_cnt : ∀ (n x c : Nat), chk n x c = true → ∀ y, y < 2 ^ n → onesN (2 * (x * 2 ^ n + y)) = c + cnt n y
  | 0, x, c, h, y, hy => by
    obtain rfl : y = 0 := by omega
    have := Nat.eq_of_beq_eq_true h
    simpa [cnt] using this
  | n + 1, x, c, h, y, hy => by
    simp only [chk, Bool.and_eq_true] at h
    rw [Nat.pow_succ] at hy
    by_cases hlt : y < 2 ^ n
    · have := chk_cnt n (2 * x) c h.1 y hlt
      rw [cnt, Nat.div_eq_of_lt hlt, Nat.mod_eq_of_lt hlt, Nat.zero_add, ← this, Nat.pow_succ]
      congr 2
      rw [Nat.mul_comm 2 x, Nat.mul_assoc, Nat.mul_comm 2]
    · have h1 : y = 2 ^ n + (y - 2 ^ n) := by omega
      have h2 : y - 2 ^ n < 2 ^ n := by omega
      have := chk_cnt n (2 * x + 1) (c + 1) h.2 (y - 2 ^ n) h2
      have hd : y / 2 ^ n = 1 := by
        rw [h1, Nat.add_div_left _ (Nat.two_pow_pos n), Nat.div_eq_of_lt h2]
      have hm : y % 2 ^ n = y - 2 ^ n := by
        conv => lhs; rw [h1]
        rw [Nat.add_mod_left, Nat.mod_eq_of_lt h2]
      rw [cnt, hd, hm, ← Nat.add_assoc, ← this, Nat.pow_succ]
      congr 2
      rw [Nat.add_mul, Nat.mul_comm 2 x, Nat.mul_assoc, Nat.mul_comm 2, Nat.one_mul]
      omega
theorem chk16 : chk 16 0 0 = true := by kernel_rfl
theorem ones_even (y : Nat) (h : y < 65536) : onesN (2 * y) = cnt 16 y := by
  have := chk_cnt 16 0 0 chk16 y h
  simpa using this
theorem wu (n : Nat) (h : n < 2 ^ 64) : IntKind.wrap .u64 (n : Int) = n := by
  show ((n : Int) % 2 ^ 64) = n
  omega
theorem andu (a b : Nat) (ha : a < 2 ^ 64) (hb : b < 2 ^ 64) : (BitVec.ofInt (IntKind.bits .u64) (a : Int) &&& BitVec.ofInt (IntKind.bits .u64) (b : Int)).toNat = a &&& b := by
  rw [BitVec.toNat_and, BitVec.ofInt_natCast, BitVec.ofInt_natCast, BitVec.toNat_ofNat, BitVec.toNat_ofNat, Nat.mod_eq_of_lt (by exact ha), Nat.mod_eq_of_lt (by exact hb)]
theorem andi (a b : Nat) (ha : a < 2 ^ 64) (hb : b < 2 ^ 64) : (BitVec.ofInt (IntKind.bits .i64) (a : Int) &&& BitVec.ofInt (IntKind.bits .i64) (b : Int)).toNat = a &&& b := andu a b ha hb
theorem shu (a k : Nat) (hk : k ≤ 64) : Int.fdiv (a : Int) (2 ^ (min (Int.toNat (k : Int)) (IntKind.bits .u64)) : Int) = ((a / 2 ^ k : Nat) : Int) := by
  have : min (Int.toNat (k : Int)) (IntKind.bits .u64) = k := by
    rw [Int.toNat_natCast]; exact Nat.min_eq_left hk
  rw [this, Int.fdiv_eq_ediv_of_nonneg _ (by exact_mod_cast Nat.zero_le _)]
  norm_cast
theorem ones_eq (x : Nat) (hx : x < 2 ^ 63) : math_bits_OnesCount_v (x : Int) = (onesN x : Nat) := by
  have hm : ∀ a b : Nat, a &&& b ≤ b := fun a b => Nat.and_le_right
  simp only [math_bits_OnesCount_v, math_bits_OnesCount64_v, onesN]
  have e1 : IntKind.wrap .u64 ((IntKind.wrap .u64 (((BitVec.ofInt (IntKind.bits .u64) (Int.fdiv (x : Int) (2 ^ (min (Int.toNat (1 : Int)) (IntKind.bits .u64)) : Int)) &&& BitVec.ofInt (IntKind.bits .u64) (6148914691236517205 : Int)).toNat : Nat) : Int)) + (IntKind.wrap .u64 (((BitVec.ofInt (IntKind.bits .u64) (x : Int) &&& BitVec.ofInt (IntKind.bits .u64) (6148914691236517205 : Int)).toNat : Nat) : Int))) = ((x / 2 &&& 6148914691236517205) + (x &&& 6148914691236517205) : Nat) := by
    have a1 := hm (x / 2) 6148914691236517205
    have a2 := hm x 6148914691236517205
    have s : Int.fdiv (x : Int) (2 ^ (min (Int.toNat (1 : Int)) (IntKind.bits .u64)) : Int) = ((x / 2 : Nat) : Int) := shu x 1 (by omega)
    have b1 : (BitVec.ofInt (IntKind.bits .u64) ((x / 2 : Nat) : Int) &&& BitVec.ofInt (IntKind.bits .u64) (6148914691236517205 : Int)).toNat = (x / 2) &&& 6148914691236517205 := andu (x / 2) 6148914691236517205 (by omega) (by omega)
    have b2 : (BitVec.ofInt (IntKind.bits .u64) ((x : Nat) : Int) &&& BitVec.ofInt (IntKind.bits .u64) (6148914691236517205 : Int)).toNat = (x) &&& 6148914691236517205 := andu (x) 6148914691236517205 (by omega) (by omega)
    rw [s, b1, b2, wu _ (by omega), wu _ (by omega), ← Int.natCast_add, wu _ (by omega)]
  rw [e1]
  have l1 : (x / 2 &&& 6148914691236517205) + (x &&& 6148914691236517205) < 2 ^ 64 := by
    have a1 := hm (x / 2) 6148914691236517205
    have a2 := hm x 6148914691236517205
    omega
  generalize (x / 2 &&& 6148914691236517205) + (x &&& 6148914691236517205) = z1 at l1
  have e2 : IntKind.wrap .u64 ((IntKind.wrap .u64 (((BitVec.ofInt (IntKind.bits .u64) (Int.fdiv (z1 : Int) (2 ^ (min (Int.toNat (2 : Int)) (IntKind.bits .u64)) : Int)) &&& BitVec.ofInt (IntKind.bits .u64) (3689348814741910323 : Int)).toNat : Nat) : Int)) + (IntKind.wrap .u64 (((BitVec.ofInt (IntKind.bits .u64) (z1 : Int) &&& BitVec.ofInt (IntKind.bits .u64) (3689348814741910323 : Int)).toNat : Nat) : Int))) = ((z1 / 4 &&& 3689348814741910323) + (z1 &&& 3689348814741910323) : Nat) := by
    have a1 := hm (z1 / 4) 3689348814741910323
    have a2 := hm z1 3689348814741910323
    have s : Int.fdiv (z1 : Int) (2 ^ (min (Int.toNat (2 : Int)) (IntKind.bits .u64)) : Int) = ((z1 / 4 : Nat) : Int) := shu z1 2 (by omega)
    have b1 : (BitVec.ofInt (IntKind.bits .u64) ((z1 / 4 : Nat) : Int) &&& BitVec.ofInt (IntKind.bits .u64) (3689348814741910323 : Int)).toNat = (z1 / 4) &&& 3689348814741910323 := andu (z1 / 4) 3689348814741910323 (by omega) (by omega)
    have b2 : (BitVec.ofInt (IntKind.bits .u64) ((z1 : Nat) : Int) &&& BitVec.ofInt (IntKind.bits .u64) (3689348814741910323 : Int)).toNat = (z1) &&& 3689348814741910323 := andu (z1) 3689348814741910323 (by omega) (by omega)
    rw [s, b1, b2, wu _ (by omega), wu _ (by omega), ← Int.natCast_add, wu _ (by omega)]
  rw [e2]
  have l2 : (z1 / 4 &&& 3689348814741910323) + (z1 &&& 3689348814741910323) ≤ 2 * 3689348814741910323 := by
    have a1 := hm (z1 / 4) 3689348814741910323
    have a2 := hm z1 3689348814741910323
    omega
  generalize (z1 / 4 &&& 3689348814741910323) + (z1 &&& 3689348814741910323) = z2 at l2
  have e3 : IntKind.wrap .u64 (((BitVec.ofInt (IntKind.bits .u64) (IntKind.wrap .u64 ((Int.fdiv (z2 : Int) (2 ^ (min (Int.toNat (4 : Int)) (IntKind.bits .u64)) : Int)) + (z2 : Int))) &&& BitVec.ofInt (IntKind.bits .u64) (1085102592571150095 : Int)).toNat : Nat) : Int) = ((z2 / 16 + z2 &&& 1085102592571150095 : Nat) : Int) := by
    have a1 := hm (z2 / 16 + z2) 1085102592571150095
    have s : Int.fdiv (z2 : Int) (2 ^ (min (Int.toNat (4 : Int)) (IntKind.bits .u64)) : Int) = ((z2 / 16 : Nat) : Int) := shu z2 4 (by omega)
    have b1 : (BitVec.ofInt (IntKind.bits .u64) ((z2 / 16 + z2 : Nat) : Int) &&& BitVec.ofInt (IntKind.bits .u64) (1085102592571150095 : Int)).toNat = (z2 / 16 + z2) &&& 1085102592571150095 := andu (z2 / 16 + z2) 1085102592571150095 (by omega) (by omega)
    rw [s, ← Int.natCast_add, wu (z2 / 16 + z2) (by omega), b1, wu _ (by omega)]
  rw [e3]
  have l3 := hm (z2 / 16 + z2) 1085102592571150095
  generalize (z2 / 16 + z2 &&& 1085102592571150095) = z3 at l3
  have s4 : Int.fdiv (z3 : Int) (2 ^ (min (Int.toNat (8 : Int)) (IntKind.bits .u64)) : Int) = ((z3 / 256 : Nat) : Int) := shu z3 8 (by omega)
  rw [s4, ← Int.natCast_add, wu _ (by omega)]
  have l4 : z3 + z3 / 256 ≤ 2 * 1085102592571150095 := by omega
  generalize z3 + z3 / 256 = z4 at l4
  have s5 : Int.fdiv (z4 : Int) (2 ^ (min (Int.toNat (16 : Int)) (IntKind.bits .u64)) : Int) = ((z4 / 65536 : Nat) : Int) := shu z4 16 (by omega)
  rw [s5, ← Int.natCast_add, wu _ (by omega)]
  have l5 : z4 + z4 / 65536 ≤ 3 * 1085102592571150095 := by omega
  generalize z4 + z4 / 65536 = z5 at l5
  have s6 : Int.fdiv (z5 : Int) (2 ^ (min (Int.toNat (32 : Int)) (IntKind.bits .u64)) : Int) = ((z5 / 4294967296 : Nat) : Int) := shu z5 32 (by omega)
  have a6 := hm (z5 + z5 / 4294967296) 127
  have b6 : (BitVec.ofInt (IntKind.bits .i64) ((z5 + z5 / 4294967296 : Nat) : Int) &&& BitVec.ofInt (IntKind.bits .i64) (127 : Int)).toNat = (z5 + z5 / 4294967296) &&& 127 := andi (z5 + z5 / 4294967296) 127 (by omega) (by omega)
  rw [s6, ← Int.natCast_add, wu _ (by omega), wi (z5 + z5 / 4294967296) (by omega), b6, wi _ (by omega)]
theorem least_impl (n : Nat) (hn : n ≤ 2097152) (he : n % 2 = 0) : impl_leastTiles_v (n : Int) = (cntT 17 n : Nat) := by
  have s : Int.fdiv (n : Int) (2 ^ (min (Int.toNat (17 : Int)) (IntKind.bits .u64)) : Int) = ((n / 131072 : Nat) : Int) := shu n 17 (by omega)
  have b : (BitVec.ofInt (IntKind.bits .u64) ((n : Nat) : Int) &&& BitVec.ofInt (IntKind.bits .u64) (131071 : Int)).toNat = (n) &&& 131071 := andu (n) 131071 (by omega) (by omega)
  simp only [impl_leastTiles_v]
  have s' : Int.fdiv (n : Int) (2 ^ (min (Int.toNat (17 : Int)) (IntKind.bits .i64)) : Int) = ((n / 131072 : Nat) : Int) := s
  have hl : n &&& 131071 ≤ 131071 := Nat.and_le_right
  rw [s', wu n (by omega), b, wu _ (by omega), ones_eq _ (by omega), show n &&& 131071 = n % 2 ^ 17 from Nat.and_two_pow_sub_one_eq_mod n 17]
  have e : n % 2 ^ 17 = 2 * (n % 2 ^ 17 / 2) := by omega
  have hb : cntT 16 (n % 2 ^ 17) ≤ 16 := by
    rw [e, cntT_even, show n % 2 ^ 17 / 2 = (n % 2 ^ 17 / 2) % 2 ^ 16 by omega]
    exact cnt_le 16 _
  have hd : n / 131072 ≤ 16 := by omega
  rw [e, ones_even _ (by omega), ← cntT_even, ← e, ← Int.natCast_add, wi _ (by omega)]
  rfl
end Go.Lv.P

namespace Go.Lv.P
open Go Go.Lv
abbrev zero16 : List Int := [0, 0, 0, 0, 0, 0, 0, 0, 0, 0, 0, 0, 0, 0, 0, 0]
/-- the first tiles of a list, laid -/
def laid (l : List Int) (i : Nat) : List Int := fld (fun i b => iset b i (iget l i)) 0 i zero16
theorem fld_last {A : Type} (g : Nat → A → A) : ∀ (m i : Nat) (a : A), fld g i (m + 1) a = g (i + m) (fld g i m a)
  | 0, i, a => rfl
  | m + 1, i, a => by
    rw [fld, fld_last g m (i + 1) (g i a), fld, show i + 1 + m = i + (m + 1) by omega]
theorem laid_succ (l : List Int) (i : Nat) : laid l (i + 1) = iset (laid l i) i (iget l i) := by
  rw [laid, fld_last, Nat.zero_add]; rfl
theorem put_at (b : List Int) (t : Int) : ∀ i : Nat, i < 16 → spec_l2Put_p b [(IntKind.wrap .i64 (Int.tdiv (i : Int) (4 : Int))), (Int.tmod (i : Int) (4 : Int))] t = some (iset b i t) := by
  intro i hi
  obtain rfl | rfl | rfl | rfl | rfl | rfl | rfl | rfl | rfl | rfl | rfl | rfl | rfl | rfl | rfl | rfl : i = 0 ∨ i = 1 ∨ i = 2 ∨ i = 3 ∨ i = 4 ∨ i = 5 ∨ i = 6 ∨ i = 7 ∨ i = 8 ∨ i = 9 ∨ i = 10 ∨ i = 11 ∨ i = 12 ∨ i = 13 ∨ i = 14 ∨ i = 15 := by omega
  all_goals kernel_rfl
theorem laid_len (l : List Int) : ∀ i, (laid l i).length = 16
  | 0 => rfl
  | i + 1 => by rw [laid_succ, isetL, List.length_set]; exact laid_len l i
/-- a sum of few tiles -/
def sumV (s : Int) : Bool := inB s 0 2097152 && (Int.tmod s 2 == 0) && decide (((cntT 17 s.toNat : Nat) : Int) ≤ 16)
theorem sum_spec (F : Nat) (s : Int) (hF : 1000 < F) : spec_l7Sum_p F s = some (sumV s) := by
  unfold sumV
  simp only [spec_l7Sum_p, spec_l7Sum_c, l1In_eq]
  cases h1 : inB s 0 2097152 with
  | false => rfl
  | true =>
    cases h3 : Int.tmod s 2 == 0 with
    | false => rfl
    | true =>
      have h2 : 0 ≤ s ∧ s ≤ 2097152 := by simpa [inB] using h1
      obtain ⟨n, rfl⟩ := Int.eq_ofNat_of_zero_le h2.1
      obtain ⟨o, e1, e2⟩ := least_spec F n hF (by omega)
      simp only [cond_true, e1, Option.isSome_some, Option.getD_some, e2, Bool.and_self, Bool.true_and, Int.toNat_natCast]
theorem sumV_nat {s : Int} (h : sumV s = true) : ∃ n : Nat, s = n ∧ n ≤ 2097152 ∧ n % 2 = 0 ∧ cntT 17 n ≤ 16 := by
  unfold sumV at h
  simp only [Bool.and_eq_true, decide_eq_true_eq] at h
  obtain ⟨⟨h1, h2⟩, h3⟩ := h
  simp [inB] at h1
  obtain ⟨n, rfl⟩ := Int.eq_ofNat_of_zero_le h1.1
  have h2 := eq_of_beq h2
  rw [Int.tmod_eq_emod_of_nonneg (by omega)] at h2
  rw [Int.toNat_natCast] at h3
  exact ⟨n, rfl, by omega, by omega, by omega⟩
theorem packed_spec_val (F : Nat) (s : Int) (hF : 1000 < F) : spec_PackedBoard_p F s = some (bif sumV s then (laid (lst 17 s.toNat) (lst 17 s.toNat).length, true) else (zero16, false)) := by
  simp only [spec_PackedBoard_p, spec_PackedBoard_c, sum_spec F s hF, Option.isSome_some, Option.getD_some, cond_true]
  cases h : sumV s with
  | false => rfl
  | true =>
    obtain ⟨n, rfl, hn, he, hc⟩ := sumV_nat h
    have hlen : (lst 17 n).length ≤ 16 := by rw [lst_len]; exact hc
    have e1 : spec_PackedBoard_l5 F (lst 17 n) 0 zero16 = some (laid (lst 17 n) (lst 17 n).length) := by
      refine (loop_fold (step := spec_PackedBoard_s5 F (lst 17 n)) (fun i a => (i, a)) (lst 17 n).length (fun i b => iset b i (iget (lst 17 n) i)) (fun a => a) (fun _ _ => True) (F := F) (by omega) (by omega) (a := zero16) trivial (fun i b hi _ => ⟨trivial, fun Q kn kx => ?_⟩) (fun a _ Q kn kx => by simp [spec_PackedBoard_s5])).1
      simp only [spec_PackedBoard_s5, Int.ofNat_lt, inR_cast, hi, Int.toNat_natCast, decide_true, cond_true, Nat.zero_add, put_at b _ i (by omega), Option.isSome_some, Option.getD_some]
    simp only [least_list F n hF hn, e1, Option.isSome_some, Option.getD_some, cond_true, Bool.not_true, cond_false, beq_selfL, Bool.and_self, Int.toNat_natCast]
theorem packed_spec (F : Nat) (s : Int) (hF : 1000 < F) : ∃ (pb : List Int) (po : Bool), spec_PackedBoard_p F s = some (pb, po) ∧ pb.length = 16 := by
  rw [packed_spec_val F s hF]
  cases sumV s with
  | true => exact ⟨_, _, rfl, laid_len _ _⟩
  | false => exact ⟨_, _, rfl, rfl⟩
end Go.Lv.P

namespace Go.Lv.P
open Go Go.Lv
set_option maxRecDepth 100000
theorem DeleteFunc_tiles (F : Nat) (s : List Int) (q : Int → Bool) (hs : s.length ≤ 1000) (hF : 1000 < F) (hq : ∀ x ∈ s, impl_tiles_f1_v x = q x) :
    ∃ r, slices_DeleteFunc_intint_impl_tiles_f1_p F s = some r ∧ DeletedI s q r := by
  have hg : ∀ i, i < s.length → impl_tiles_f1_v (iget s i) = q (iget s i) := fun i hi => by
    refine hq _ ?_
    rw [igetL, List.getElem?_eq_getElem hi]
    exact List.getElem_mem hi
  have h1 : slices_IndexFunc_intint_impl_tiles_f1_l2 F s s.length 0 = some (fnd (fun i => q (iget s i)) (fun i => (true, (i : Int))) (false, default) 0 s.length) := by
    refine loop_find (fun i => i) s.length _ _ _ (by omega) (by omega) (fun i hi Q kn kx => ?_) fun Q kn kx => ?_
    · simp only [slices_IndexFunc_intint_impl_tiles_f1_s2, inR_cast, hi, hg i hi, Int.toNat_natCast, decide_true, cond_true, Int.ofNat_lt, Option.isSome_some, Option.getD_some]
    · simp [slices_IndexFunc_intint_impl_tiles_f1_s2]
  simp only [slices_DeleteFunc_intint_impl_tiles_f1_p, slices_DeleteFunc_intint_impl_tiles_f1_c, slices_IndexFunc_intint_impl_tiles_f1_p, slices_IndexFunc_intint_impl_tiles_f1_c, subn_self, h1, Option.isSome_some, Option.getD_some, cond_true]
  rcases fnd_splitI s q s.length 0 (by omega) (by simp) with ⟨h2, h3⟩ | ⟨j, hj, h2, h3, h4⟩
  · rw [h2]
    refine ⟨(s.length, s), rfl, ?_⟩
    have e := filter_allI (q := q) h3
    exact ⟨by rw [e], by rw [e]; exact List.take_length, rfl⟩
  · rw [h2]
    have hgj : iget s j = s[j] := by rw [igetL, List.getElem?_eq_getElem hj]; rfl
    obtain ⟨s', l1, l2, l3⟩ := delete_loopI (step := slices_DeleteFunc_intint_impl_tiles_f1_s5 F s.length) q (fun x => impl_tiles_f1_v x = q x) s.length (by omega)
      (fun i j s'' hij hjn hl hp Q kn kx => by
        have hin : i < s.length := by omega
        simp only [slices_DeleteFunc_intint_impl_tiles_f1_s5, Int.ofNat_lt, hjn, inR_cast, hin, Int.toNat_natCast, decide_true, cond_true, hp, Option.isSome_some, Option.getD_some]
        cases q (iget s'' (0 + j)) <;> rfl)
      (fun i s'' Q kn kx => by simp [slices_DeleteFunc_intint_impl_tiles_f1_s5]) (s.length - (j + 1)) j (j + 1) F s (by omega) (by omega) (by omega) rfl (fun x hx => hq x (List.mem_of_mem_drop hx))
    have e : s.filter (fun x => !q x) = s.take j ++ (s.drop (j + 1)).filter (fun x => !q x) := by
      have e1 : s = s.take j ++ s[j] :: s.drop (j + 1) := by rw [← List.drop_eq_getElem_cons hj, List.take_append_drop]
      conv => lhs; rw [e1]
      rw [List.filter_append, List.filter_cons, ← hgj, h3]
      simp only [Bool.not_true, Bool.false_eq_true, if_false]
      rw [filter_allI]
      exact h4
    have el : j + ((s.drop (j + 1)).filter fun x => !q x).length = (s.filter fun x => !q x).length := by
      rw [e, List.length_append, List.length_take, Nat.min_eq_left (Nat.le_of_lt hj)]
    rw [el] at l1 l3
    rw [← e] at l3
    have ll : (s.filter fun x => !q x).length ≤ s.length := List.length_filter_le _ _
    have l1' : slices_DeleteFunc_intint_impl_tiles_f1_l5 F s.length (j : Int) (IntKind.wrap .i64 ((j : Int) + 1)) s = some ((((s.filter fun x => !q x).length : Nat) : Int), s') := by
      rw [wrap_succ (n := s.length) hj (by omega)]
      exact l1
    have hne : ((j : Int) == -1) = false := by
      rw [beq_eq_false_iff_ne]; omega
    simp only [cond_true, Option.getD_some, l1', hne, cond_false, Option.isSome_some, inLe_cast, ll, decide_true, Int.toNat_natCast, Nat.sub_zero]
    refine ⟨_, rfl, rfl, ?_, ?_⟩
    · show (splice s' (0 + _) _ _).take _ = _
      rw [splice_takeI _ _ _ _ (by omega) (by simp), l3]
    · rw [← l2]
      show (splice s' (0 + _) _ _).length = _
      exact splice_lenI _ _ _ (by omega) (by simp)
theorem impl_row (F : Nat) (row : List Int) (h4 : row.length = 4) (hr : ∀ x ∈ row, inB x 0 17 = true) (hF : 1000 < F) : ∃ mg, impl_slideRow_p F row = some ((rslide row).2.2.2, (rslide row).2.1, mg) := by
  have hs4 : sub row 0 4 = row := by obtain ⟨a, b, c, d, rfl⟩ := list4 h4; rfl
  obtain ⟨r, d1, d2⟩ := DeleteFunc_tiles F row (fun x => x == 0) (by omega) hF (fun x _ => rfl)
  have ht : impl_tiles_p F row = some r := by
    have hf : fits row.length 8 = true := fits_of (by omega) (by omega)
    simp only [impl_tiles_p, impl_tiles_c, hs4, d1, hf, Option.isSome_some, Option.getD_some, cond_true, beq_selfL, Bool.and_self]
  obtain ⟨m, mem⟩ := r
  have hm : m = (row.filter fun x => !(x == 0)).length := d2.1
  have hl : ∀ i, i < m → iget mem (0 + i) = iget (row.filter fun x => !(x == 0)) i := fun i hi => d2.get hi
  have hm4 : m ≤ 4 := by rw [hm, ← h4]; exact List.length_filter_le _ _
  have hx : ∀ i, i < m → inB (iget (row.filter fun x => !(x == 0)) i) 1 17 = true := fun i hi => by
    have hm : iget (row.filter fun x => !(x == 0)) i ∈ row.filter fun x => !(x == 0) := by
      rw [igetL, List.getElem?_eq_getElem (by omega)]
      exact List.getElem_mem _
    generalize iget (row.filter fun x => !(x == 0)) i = y at hm ⊢
    have this := List.mem_filter.1 hm
    have h1 := hr _ this.1
    have h2 : y ≠ 0 := by simpa using this.2
    simp [inB] at h1
    show inB y 1 17 = true
    simp [inB]
    omega
  have h := loop_fold (step := impl_slideRow_s3 F m m mem) (fun i (s : RS × List Bool) => (s.1.2.1, (s.1.1 : Int), i, s.1.2.2.2, s.2)) m
    (fun i s => (rstep s.1 (iget (row.filter fun x => !(x == 0)) i), bif decide (0 < s.1.1) && (iget s.1.2.2.2 (0 + (s.1.1 - 1) * 1) == iget (row.filter fun x => !(x == 0)) i) && decide (iget (row.filter fun x => !(x == 0)) i < 17) && !s.1.2.2.1 then bset s.2 (0 + (s.1.1 - 1) * 1) true else s.2)) (fun s => (s.1.2.1, s.1.2.2.2, s.2))
    (fun i s => s.1.1 ≤ i ∧ s.2.length = 4 ∧ (0 < s.1.1 → bget s.2 (0 + (s.1.1 - 1) * 1) = s.1.2.2.1) ∧ ∀ j, s.1.1 ≤ j → bget s.2 j = false) (F := F) (by omega) (by omega) (a := ((0, 0, false, [0, 0, 0, 0]), [false, false, false, false]))
    ⟨Nat.le_refl 0, rfl, fun h => absurd h (by decide), fun j _ => by rw [bgetL]; rcases j with _ | _ | _ | _ | j <;> simp⟩
    (fun i s hi hI => by
      obtain ⟨⟨n, sc, mg, out⟩, ms⟩ := s
      obtain ⟨i1, i2, i3, i4⟩ := hI
      simp only at i1 i2 i3 i4 ⊢
      have hxi := hx i hi
      have hi' : (i : Int) < (m : Int) := by omega
      have hn4 : n < 4 := by omega
      have hsn : IntKind.wrap .i64 ((n : Int) + 1) = ((n + 1 : Nat) : Int) := wrap_succ (n := 4) hn4 (by omega)
      simp only [impl_slideRow_s3, hi', inR_cast, hi, Int.toNat_natCast, decide_true, cond_true, hl i hi, hn4]
      generalize iget (row.filter fun x => !(x == 0)) i = x at hxi ⊢
      have hx1 : 1 ≤ x ∧ x ≤ 17 := by simpa [inB] using hxi
      have push : (n + 1 ≤ i + 1 ∧ ms.length = 4 ∧ (0 < n + 1 → bget ms (0 + (n + 1 - 1) * 1) = false) ∧ ∀ j, n + 1 ≤ j → bget ms j = false) := ⟨by omega, i2, fun _ => i4 _ (by omega), fun j hj => i4 j (by omega)⟩
      by_cases hn : 0 < n
      · have hn' : (0 : Int) < (n : Int) := by omega
        have hp := wrap_pred hn (by omega)
        have hp4 : n - 1 < 4 := by omega
        have hmg := i3 hn
        simp only [hn', decide_true, cond_true, hp, inR_cast, hp4, Int.toNat_natCast, rstep, hn, Bool.true_and, hsn, hn4, hmg]
        cases hq : iget out (0 + (n - 1) * 1) == x with
        | false => exact ⟨push, fun Q kn kx => by first | rfl | trivial⟩
        | true =>
          by_cases h17 : x < 17
          · have hw : IntKind.wrap .i64 (x + 1) = x + 1 := wrap_of (by omega) (by omega)
            have hwo : impl_worth_p (x + 1) = some (W (x + 1)) := worth_eq (by simp [inB]; omega)
            cases mg with
            | true =>
              simp only [h17, decide_true, cond_true, Bool.not_true, cond_false, Bool.true_and]
              exact ⟨push, fun Q kn kx => by first | rfl | trivial⟩
            | false =>
              simp only [h17, decide_true, cond_true, Bool.not_false, hw, hwo, Option.isSome_some, Option.getD_some, Bool.true_and]
              refine ⟨⟨by omega, by rw [bsetL]; simpa using i2, fun _ => ?_, fun j hj => ?_⟩, fun Q kn kx => by first | rfl | trivial⟩
              · rw [bsetL, bgetL, List.getElem?_set_self (by omega)]; rfl
              · rw [bsetL, bgetL, List.getElem?_set_ne (by omega), ← bgetL]
                exact i4 j hj
          · simp only [h17, decide_false, cond_false, cond_true, Bool.and_false, Bool.false_and, Bool.true_and]
            exact ⟨push, fun Q kn kx => by first | rfl | trivial⟩
      · have hn' : ¬ (0 : Int) < (n : Int) := by omega
        simp only [cond_false, hn', decide_false, cond_true, rstep, hn, Bool.false_and, hsn, inR_cast, hn4, decide_true, Int.toNat_natCast]
        exact ⟨push, fun Q kn kx => by first | rfl | trivial⟩)
    (fun s _ Q kn kx => by simp [impl_slideRow_s3])
  have hf : ∀ (k i : Nat) (s : RS) (ms : List Bool), (fld (fun i (s : RS × List Bool) => (rstep s.1 (iget (row.filter fun x => !(x == 0)) i), bif decide (0 < s.1.1) && (iget s.1.2.2.2 (0 + (s.1.1 - 1) * 1) == iget (row.filter fun x => !(x == 0)) i) && decide (iget (row.filter fun x => !(x == 0)) i < 17) && !s.1.2.2.1 then bset s.2 (0 + (s.1.1 - 1) * 1) true else s.2)) i k (s, ms)).1 = fld (fun i s => rstep s (iget (row.filter fun x => !(x == 0)) (0 + i))) i k s := by
    intro k
    induction k with
    | zero => intro i s ms; rfl
    | succ k ih =>
      intro i s ms
      simp only [fld]
      rw [ih, Nat.zero_add]
  obtain ⟨r, e, hr2⟩ : ∃ r : RS × List Bool, impl_slideRow_l3 F m m mem 0 0 0 [0, 0, 0, 0] [false, false, false, false] = some (r.1.2.1, r.1.2.2.2, r.2) ∧ r.1 = rslide row :=
    ⟨_, h.1, by
      rw [hf, fld_list (row.filter fun x => !(x == 0)) rstep m 0 _ (by omega), List.drop_zero]
      rfl⟩
  rw [hr2] at e
  exact ⟨r.2, by simp only [impl_slideRow_p, impl_slideRow_c, ht, e, Option.isSome_some, Option.getD_some, cond_true]⟩
end Go.Lv.P

namespace Go.Lv.P
open Go Go.Lv
set_option maxRecDepth 100000
/-- the place in a board of the cell k of the line i, as a slide looks at it -/
def plcD (d i k : Nat) : Nat :=
  match d with
  | 0 => i * 4 + k
  | 1 => k * 4 + i
  | 2 => i * 4 + (3 - k)
  | _ => (3 - k) * 4 + i
def crd (d i : Nat) : List Int := [0, 1, 2, 3].flatMap fun k => [((plcD d i k / 4 : Nat) : Int), ((plcD d i k % 4 : Nat) : Int)]
def lineB (b : List Int) (d i : Nat) : List Int := [iget b (plcD d i 0), iget b (plcD d i 1), iget b (plcD d i 2), iget b (plcD d i 3)]
def putB (b : List Int) (d i : Nat) (row : List Int) : List Int := iset (iset (iset (iset b (plcD d i 0) (iget row 0)) (plcD d i 1) (iget row 1)) (plcD d i 2) (iget row 2)) (plcD d i 3) (iget row 3)
def sstep (b : List Int) (d i : Nat) (s : List Int × Int) : List Int × Int := (putB s.1 d i (rslide (lineB b d i)).2.2.2, IntKind.wrap .i64 (s.2 + (rslide (lineB b d i)).2.1))
/-- the board behind a slide, and the score -/
def slideB (b : List Int) (d : Nat) : List Int × Int := fld (sstep b d) 0 4 (b, 0)
theorem plcD_lt {d i k : Nat} (hd : d < 4) (hi : i < 4) (hk : k < 4) : plcD d i k < 16 := by
  obtain rfl | rfl | rfl | rfl : d = 0 ∨ d = 1 ∨ d = 2 ∨ d = 3 := by omega
  all_goals (simp only [plcD]; omega)
theorem iset_len (l : List Int) (i : Nat) (x : Int) : (iset l i x).length = l.length := by rw [isetL, List.length_set]
theorem iset_all {p : Int → Prop} {l : List Int} (h : ∀ y ∈ l, p y) (i : Nat) {x : Int} (hx : p x) : ∀ y ∈ iset l i x, p y := by
  rw [isetL]
  intro y hy
  rcases List.mem_or_eq_of_mem_set hy with hy | rfl
  · exact h y hy
  · exact hx
abbrev tileOK (x : Int) : Prop := inB x 0 17 = true
theorem rstep_ok {s : RS} {x : Int} (hx : inB x 1 17 = true) (h : s.2.2.2.length = 4 ∧ ∀ y ∈ s.2.2.2, tileOK y) : (rstep s x).2.2.2.length = 4 ∧ ∀ y ∈ (rstep s x).2.2.2, tileOK y := by
  have hx1 : 1 ≤ x ∧ x ≤ 17 := by simpa [inB] using hx
  unfold rstep
  cases h17 : decide (x < 17) with
  | false =>
    simp only [Bool.and_false, Bool.false_and, cond_false]
    exact ⟨by rw [iset_len]; exact h.1, iset_all h.2 _ (by simp [tileOK, inB]; omega)⟩
  | true =>
    have h17 := of_decide_eq_true h17
    cases decide (0 < s.1) && (iget s.2.2.2 (0 + (s.1 - 1) * 1) == x) && true && !s.2.2.1
    · exact ⟨by simp only [cond_false]; rw [iset_len]; exact h.1, iset_all h.2 _ (by simp [tileOK, inB]; omega)⟩
    · exact ⟨by simp only [cond_true]; rw [iset_len]; exact h.1, iset_all h.2 _ (by simp [tileOK, inB]; omega)⟩
theorem rfold_ok : ∀ (l : List Int) (s : RS), (∀ x ∈ l, inB x 1 17 = true) → (s.2.2.2.length = 4 ∧ ∀ y ∈ s.2.2.2, tileOK y) → ((l.foldl rstep s).2.2.2.length = 4 ∧ ∀ y ∈ (l.foldl rstep s).2.2.2, tileOK y)
  | [], s, _, h => h
  | x :: r, s, hl, h => rfold_ok r (rstep s x) (fun y hy => hl y (List.mem_cons_of_mem _ hy)) (rstep_ok (hl x List.mem_cons_self) h)
theorem rslide_ok {row : List Int} (hr : ∀ x ∈ row, tileOK x) : (rslide row).2.2.2.length = 4 ∧ ∀ y ∈ (rslide row).2.2.2, tileOK y := by
  refine rfold_ok _ _ (fun x hx => ?_) ⟨rfl, by decide⟩
  rw [List.mem_filter] at hx
  have h1 := hr x hx.1
  have h2 : x ≠ 0 := by simpa using hx.2
  simp [tileOK, inB] at h1
  simp [inB]
  omega
theorem okB_iff (b : List Int) : okB b = true ↔ ∀ x ∈ b, tileOK x := by simp [okB, tileOK]
theorem iget_ok {b : List Int} {n : Nat} (h : ∀ x ∈ b, tileOK x) (hn : n < b.length) : tileOK (iget b n) := by
  rw [igetL, List.getElem?_eq_getElem hn]
  exact h _ (List.getElem_mem _)
theorem line_ok {b : List Int} (hb : b.length = 16) (ok : ∀ x ∈ b, tileOK x) {d i : Nat} (hd : d < 4) (hi : i < 4) : ∀ x ∈ lineB b d i, tileOK x := by
  have h : ∀ k, k < 4 → tileOK (iget b (plcD d i k)) := fun k hk => iget_ok ok (by rw [hb]; exact plcD_lt hd hi hk)
  intro x hx
  simp only [lineB, List.mem_cons, List.not_mem_nil, or_false] at hx
  rcases hx with rfl | rfl | rfl | rfl
  · exact h 0 (by omega)
  · exact h 1 (by omega)
  · exact h 2 (by omega)
  · exact h 3 (by omega)
theorem put_ok {b row : List Int} (hb : b.length = 16 ∧ ∀ x ∈ b, tileOK x) (hr : row.length = 4 ∧ ∀ x ∈ row, tileOK x) (d i : Nat) : (putB b d i row).length = 16 ∧ ∀ x ∈ putB b d i row, tileOK x := by
  have h : ∀ k, k < 4 → tileOK (iget row k) := fun k hk => iget_ok hr.2 (by omega)
  refine ⟨by simp only [putB, iset_len]; exact hb.1, ?_⟩
  exact iset_all (iset_all (iset_all (iset_all hb.2 _ (h 0 (by omega))) _ (h 1 (by omega))) _ (h 2 (by omega))) _ (h 3 (by omega))
section
variable {b : List Int} (hb : b.length = 16) (ok : okB b = true)
include hb ok
theorem sstep_ok {d i : Nat} (hd : d < 4) (hi : i < 4) {s : List Int × Int} (hs : s.1.length = 16 ∧ ∀ x ∈ s.1, tileOK x) : (sstep b d i s).1.length = 16 ∧ ∀ x ∈ (sstep b d i s).1, tileOK x :=
  put_ok hs (rslide_ok (line_ok hb ((okB_iff b).1 ok) hd hi)) d i
theorem slide_ok {d : Nat} (hd : d < 4) : (slideB b d).1.length = 16 ∧ okB (slideB b d).1 = true := by
  have h0 : (b, (0 : Int)).1.length = 16 ∧ ∀ x ∈ (b, (0 : Int)).1, tileOK x := ⟨hb, (okB_iff b).1 ok⟩
  have h := sstep_ok hb ok hd (show 3 < 4 by omega) (sstep_ok hb ok hd (show 2 < 4 by omega) (sstep_ok hb ok hd (show 1 < 4 by omega) (sstep_ok hb ok hd (show 0 < 4 by omega) h0)))
  exact ⟨h.1, (okB_iff _).2 h.2⟩
end
end Go.Lv.P

namespace Go.Lv.P
open Go Go.Lv
theorem impl_sum_eq (b : List Int) (hb : b.length = 16) (ok : okB b = true) : impl_Board_sum_p b = some (sumB b) := by
  have hk := fun i hi => okB_iget hb ok i hi
  obtain ⟨x0, x1, x2, x3, x4, x5, x6, x7, x8, x9, x10, x11, x12, x13, x14, x15, rfl⟩ := list16 hb
  have h0 : inB x0 0 17 = true := hk 0 (by decide)
  have h1 : inB x1 0 17 = true := hk 1 (by decide)
  have h2 : inB x2 0 17 = true := hk 2 (by decide)
  have h3 : inB x3 0 17 = true := hk 3 (by decide)
  have h4 : inB x4 0 17 = true := hk 4 (by decide)
  have h5 : inB x5 0 17 = true := hk 5 (by decide)
  have h6 : inB x6 0 17 = true := hk 6 (by decide)
  have h7 : inB x7 0 17 = true := hk 7 (by decide)
  have h8 : inB x8 0 17 = true := hk 8 (by decide)
  have h9 : inB x9 0 17 = true := hk 9 (by decide)
  have h10 : inB x10 0 17 = true := hk 10 (by decide)
  have h11 : inB x11 0 17 = true := hk 11 (by decide)
  have h12 : inB x12 0 17 = true := hk 12 (by decide)
  have h13 : inB x13 0 17 = true := hk 13 (by decide)
  have h14 : inB x14 0 17 = true := hk 14 (by decide)
  have h15 : inB x15 0 17 = true := hk 15 (by decide)
  have key : impl_Board_sum_p [x0, x1, x2, x3, x4, x5, x6, x7, x8, x9, x10, x11, x12, x13, x14, x15] =
      bif (impl_worth_p x0).isSome then bif (impl_worth_p x1).isSome then bif (impl_worth_p x2).isSome then bif (impl_worth_p x3).isSome then
      bif (impl_worth_p x4).isSome then bif (impl_worth_p x5).isSome then bif (impl_worth_p x6).isSome then bif (impl_worth_p x7).isSome then
      bif (impl_worth_p x8).isSome then bif (impl_worth_p x9).isSome then bif (impl_worth_p x10).isSome then bif (impl_worth_p x11).isSome then
      bif (impl_worth_p x12).isSome then bif (impl_worth_p x13).isSome then bif (impl_worth_p x14).isSome then bif (impl_worth_p x15).isSome then
      some (([x0, x1, x2, x3, x4, x5, x6, x7, x8, x9, x10, x11, x12, x13, x14, x15].map fun x => (impl_worth_p x).getD default).foldl (fun a x => IntKind.wrap .i64 (a + x)) 0)
      else none else none else none else none else none else none else none else none else none else none else none else none else none else none else none else none := by kernel_rfl
  rw [key]
  have hall : ∀ x ∈ [x0, x1, x2, x3, x4, x5, x6, x7, x8, x9, x10, x11, x12, x13, x14, x15], inB x 0 17 = true := by simpa [okB] using ok
  have e1 : ([x0, x1, x2, x3, x4, x5, x6, x7, x8, x9, x10, x11, x12, x13, x14, x15].map fun x => (impl_worth_p x).getD default) = [x0, x1, x2, x3, x4, x5, x6, x7, x8, x9, x10, x11, x12, x13, x14, x15].map W :=
    List.map_congr_left fun x hx => by rw [worth_eq (hall x hx)]; rfl
  rw [e1, foldw _ 0 (fun x hx => by
    obtain ⟨y, hy, rfl⟩ := List.mem_map.1 hx
    have := W_facts (hall y hy)
    exact ⟨this.1, this.2.1⟩) (by omega) (by simp)]
  simp only [worth_eq h0, worth_eq h1, worth_eq h2, worth_eq h3, worth_eq h4, worth_eq h5, worth_eq h6, worth_eq h7, worth_eq h8, worth_eq h9, worth_eq h10, worth_eq h11, worth_eq h12, worth_eq h13, worth_eq h14, worth_eq h15, Option.isSome_some, cond_true]
  rfl
end Go.Lv.P

namespace Go.Lv.P
open Go Go.Lv
theorem spec_sum_eq (F : Nat) (b : List Int) (hb : b.length = 16) (ok : okB b = true) (hF : 1000 < F) : spec_l2Sum_p F b = some (sumB b) := by
  have hk := fun i hi => okB_iget hb ok i hi
  have h1 : ∀ (r : Nat) (s : Int), r < 4 → 0 ≤ s → s ≤ r * 524288 → spec_l2Sum_l6 F r b s 0 = some (fld (fun c a => a + W (iget b (0 + r * 4 + c * 1))) 0 4 s) ∧ 0 ≤ fld (fun c a => a + W (iget b (0 + r * 4 + c * 1))) 0 4 s ∧ fld (fun c a => a + W (iget b (0 + r * 4 + c * 1))) 0 4 s ≤ (r + 1 : Nat) * 524288 := fun r s hr hs0 hs1 => by
    have := loop_fold (step := spec_l2Sum_s6 F r b) (fun i a => (a, i)) 4 (fun c a => a + W (iget b (0 + r * 4 + c * 1))) (fun a => a) (fun i a => 0 ≤ a ∧ a ≤ r * 524288 + i * 131072) (F := F) (by omega) (by omega) (a := s) ⟨hs0, by omega⟩
      (fun i a hi ha => ?_) (fun a ha Q kn kx => ?_)
    · exact ⟨this.1, this.2.1, by have := this.2.2; omega⟩
    · have hx := hk (0 + r * 4 + i * 1) (by omega)
      have hw := W_facts hx
      refine ⟨⟨by omega, by omega⟩, fun Q kn kx => ?_⟩
      have hi' : (i : Int) < 4 := by omega
      simp only [spec_l2Sum_s6, inR_cast, hi, hi', hr, Int.toNat_natCast, decide_true, cond_true]
      by_cases hp : 0 < iget b (0 + r * 4 + i * 1)
      · simp only [hp, decide_true, cond_true, l2Worth_eq hx hp, Option.isSome_some, Option.getD_some]
        rw [wrap_small (n := a + W (iget b (0 + r * 4 + i * 1))) (by omega) (by omega)]
      · have h0 : iget b (0 + r * 4 + i * 1) = 0 := by simp only [inB, Bool.and_eq_true, decide_eq_true_eq] at hx; omega
        simp only [h0, W, if_true, Int.add_zero]
        simp
    · simp [spec_l2Sum_s6]
  have h2 := loop_fold (step := spec_l2Sum_s3 F b) (fun i a => (a, i)) 4 (fun r a => fld (fun c a => a + W (iget b (0 + r * 4 + c * 1))) 0 4 a) (fun a => a) (fun i a => 0 ≤ a ∧ a ≤ i * 524288) (F := F) (by omega) (by omega) (a := 0) ⟨by omega, by omega⟩
    (fun i a hi ha => by
      obtain ⟨g1, g2, g3⟩ := h1 i a hi ha.1 ha.2
      refine ⟨⟨g2, g3⟩, fun Q kn kx => ?_⟩
      have hi' : (i : Int) < 4 := by omega
      simp only [spec_l2Sum_s3, hi', g1, decide_true, cond_true, Option.isSome_some, Option.getD_some]) (fun a ha Q kn kx => by simp [spec_l2Sum_s3])
  have e : spec_l2Sum_l3 F b 0 0 = some (sumB b) := by
    refine h2.1.trans ?_
    obtain ⟨x0, x1, x2, x3, x4, x5, x6, x7, x8, x9, x10, x11, x12, x13, x14, x15, rfl⟩ := list16 hb
    rfl
  simp only [spec_l2Sum_p, spec_l2Sum_c, e, Option.isSome_some, Option.getD_some, cond_true]
end Go.Lv.P

namespace Go.Lv.P
open Go Go.Lv
theorem subn_take0 {α : Type} (m : List α) (n : Nat) : subn m.length m 0 n = m.take n := by
  rw [subn_eqL _ _ _ _ rfl, sub, List.drop_zero]
theorem subn_00 {α : Type} (l : List α) : subn l.length l 0 0 = [] := by rw [subn_take0, List.take_zero]
theorem fld_filter (l : LL) (q : List Int → Bool) : fld (fun i out => bif q (rget l i) then out ++ [rget l i] else out) 0 l.length [] = l.filter q := by
  have : ∀ (m i : Nat) (out : LL), i + m = l.length → fld (fun i out => bif q (rget l i) then out ++ [rget l i] else out) i m out = out ++ (l.drop i).filter q := by
    intro m
    induction m with
    | zero => intro i out h; rw [List.drop_eq_nil_of_le (by omega)]; simp [fld]
    | succ m ih =>
      intro i out h
      have hi : i < l.length := by omega
      have hg : rget l i = l[i] := by rw [rgetL, List.getElem?_eq_getElem hi]; rfl
      simp only [fld]
      rw [ih (i + 1) _ (by omega), List.drop_eq_getElem_cons hi, List.filter_cons, hg]
      cases q l[i] <;> simp
  simpa using this l.length 0 [] (by omega)
theorem fld_filterI (l : List Int) (q : Int → Bool) : fld (fun i out => bif q (iget l i) then out ++ [iget l i] else out) 0 l.length [] = l.filter q := by
  have : ∀ (m i : Nat) (out : List Int), i + m = l.length → fld (fun i out => bif q (iget l i) then out ++ [iget l i] else out) i m out = out ++ (l.drop i).filter q := by
    intro m
    induction m with
    | zero => intro i out h; rw [List.drop_eq_nil_of_le (by omega)]; simp [fld]
    | succ m ih =>
      intro i out h
      have hi : i < l.length := by omega
      have hg : iget l i = l[i] := by rw [igetL, List.getElem?_eq_getElem hi]; rfl
      simp only [fld]
      rw [ih (i + 1) _ (by omega), List.drop_eq_getElem_cons hi, List.filter_cons, hg]
      cases q l[i] <;> simp
  simpa using this l.length 0 [] (by omega)
end Go.Lv.P

namespace Go.Lv.P
open Go Go.Lv
theorem wrap_u8 (n : Int) : 0 ≤ IntKind.wrap .u8 n ∧ IntKind.wrap .u8 n ≤ 255 := by
  have h : ∀ n : Int, IntKind.wrap .u8 n = n % 256 := fun n => by
    rw [IntKind.wrap_u8]
  rw [h]; omega
theorem cut_ok {c : List Int} (hc : Byt c) (hl : c.length ≤ 65536) {n : Nat} (hn : n ≤ 100) : ∃ r, laws_vCut_p c (n : Int) = some r ∧ Byt r := by
  have f1 : ∀ m : Nat, m ≤ 70000 → fits m 1 = true := fun m h => fits_of (by omega) (by omega)
  have sub_mem : ∀ (o s : Nat) (x : Int), x ∈ subn c.length c o s → x ∈ c := fun o s x hx => by
    rw [subn_eqL _ _ _ _ rfl] at hx
    exact List.mem_of_mem_drop (List.mem_of_mem_take hx)
  have sub_le : ∀ (o s : Nat), (subn c.length c o s).length ≤ c.length := fun o s => by
    rw [subn_eqL _ _ _ _ rfl]
    show ((c.drop o).take s).length ≤ _
    rw [List.length_take, List.length_drop]; omega
  have fin : ∀ (o s : Nat) (m : Int), Byt (subn c.length c o s ++ [IntKind.wrap .u8 m]) := fun o s m x hx => by
    rcases List.mem_append.1 hx with h | h
    · exact hc x (sub_mem o s x h)
    · rw [List.mem_singleton] at h
      subst h
      exact wrap_u8 m
  simp only [laws_vCut_p, laws_vCut_c, subn_self, inLe_cast, Nat.le_refl, decide_true, cond_true]
  by_cases h : ((c.length : Nat) : Int) < (n : Int)
  · have e1 := sub_le c.length (c.length - c.length)
    simp only [h, decide_true, cond_true]
    rw [f1 _ (by omega), cond_true, f1 _ (by rw [List.length_append, List.length_singleton]; omega), cond_true]
    exact ⟨_, rfl, fin _ _ _⟩
  · have hle : n ≤ c.length := by omega
    have e1 := sub_le (Int.toNat n) (c.length - Int.toNat n)
    simp only [h, decide_false, cond_false, hle, decide_true, cond_true]
    rw [f1 _ (by omega), cond_true, f1 _ (by rw [List.length_append, List.length_singleton]; omega), cond_true]
    exact ⟨_, rfl, fin _ _ _⟩
end Go.Lv.P

namespace Go.Lv.P
open Go Go.Lv
theorem concat_ints (s0 s1 s2 s3 : List Int) (h0 : s0.length ≤ 32) (h1 : s1.length ≤ 32) (h2 : s2.length ≤ 32) (h3 : s3.length ≤ 32) : slices_Concat_intint_p s0 s1 s2 s3 = some (s0 ++ s1 ++ s2 ++ s3) := by
  have e0 : IntKind.wrap .i64 ((0 : Int) + (s0.length : Int)) = ((s0.length : Nat) : Int) := by rw [Int.zero_add, wrap_of (by omega) (by omega)]
  have e1 : IntKind.wrap .i64 (((s0.length : Nat) : Int) + (s1.length : Int)) = ((s0.length + s1.length : Nat) : Int) := by rw [wrap_of (by omega) (by omega)]; omega
  have e2 : IntKind.wrap .i64 (((s0.length + s1.length : Nat) : Int) + (s2.length : Int)) = ((s0.length + s1.length + s2.length : Nat) : Int) := by rw [wrap_of (by omega) (by omega)]; omega
  have e3 : IntKind.wrap .i64 (((s0.length + s1.length + s2.length : Nat) : Int) + (s3.length : Int)) = ((s0.length + s1.length + s2.length + s3.length : Nat) : Int) := by rw [wrap_of (by omega) (by omega)]; omega
  have hneg : ∀ n : Nat, decide ((n : Int) < 0) = false := fun n => decide_eq_false (by omega)
  obtain ⟨g, hg⟩ : ∃ g, slices_Grow_intint_p ((s0.length + s1.length + s2.length + s3.length : Nat) : Int) = some g := by
    generalize hn : s0.length + s1.length + s2.length + s3.length = n
    have e : IntKind.wrap .i64 ((n : Int) - 0) = (n : Int) := by rw [Int.sub_zero, wrap_of (by omega) (by omega)]
    simp only [slices_Grow_intint_p, slices_Grow_intint_c, e, hneg, cond_false, Int.toNat_natCast]
    cases hp : decide ((0 : Int) < (n : Int)) with
    | false => exact ⟨_, rfl⟩
    | true =>
      simp at hp
      have hf : fits n 8 = true := fits_of (by omega) (by omega)
      have h1 : decide ((1 : Int) ≤ (n : Int)) = true := decide_eq_true (by omega)
      have h2 : inLe (0 : Int) n = true := inLe_cast 0 n ▸ decide_eq_true (Nat.zero_le _)
      rw [cond_true, h1, hf, h2]; exact ⟨_, rfl⟩
  have f : ∀ n : Nat, n ≤ 128 → fits n 8 = true := fun n h => fits_of (by omega) (by omega)
  simp only [slices_Concat_intint_p, slices_Concat_intint_c, e0, e1, e2, e3, hneg, hg, cond_false, cond_true, Option.isSome_some, Option.getD_some, subn_00, subn_self, List.nil_append]
  rw [f _ (by omega), cond_true, f _ (by rw [List.length_append]; omega), cond_true, f _ (by simp only [List.length_append]; omega), cond_true, f _ (by simp only [List.length_append]; omega), cond_true]
theorem flat_eq {b : List Int} (hb : b.length = 16) : impl_Board_flat_p b = some b := by
  have hs : ∀ o, (sub b o 4).length ≤ 32 := fun o => by unfold sub; exact Nat.le_trans (List.length_take_le _ _) (by omega)
  have hc := concat_ints (sub b 0 4) (sub b 4 4) (sub b 8 4) (sub b 12 4) (hs _) (hs _) (hs _) (hs _)
  have e : sub b 0 4 ++ sub b 4 4 ++ sub b 8 4 ++ sub b 12 4 = b := by
    obtain ⟨x0, x1, x2, x3, x4, x5, x6, x7, x8, x9, xa, xb, xc, xd, xe, xf, rfl⟩ := list16 hb
    rfl
  rw [e] at hc
  simp only [impl_Board_flat_p, impl_Board_flat_c, hc, Option.isSome_some, Option.getD_some, cond_true]
end Go.Lv.P

namespace Go.Lv.P
open Go Go.Lv
theorem l1In_eq0 (x a b : Int) : spec_l1In_v x a b = inB x a b := by unfold spec_l1In_v inB; cases decide (a ≤ x) <;> rfl
theorem in_eq0 (x a b : Int) : impl_in_v x a b = inB x a b := by unfold impl_in_v inB; cases decide (a ≤ x) <;> rfl
theorem even_nat {s : Int} (h : inB s 0 2097152 = true) : ∃ n : Nat, s = n ∧ n ≤ 2097152 := by
  simp [inB] at h
  exact ⟨s.toNat, by omega, by omega⟩
theorem even_of {n : Nat} (h : (Int.tmod (n : Int) 2 == 0) = true) : n % 2 = 0 := by
  have h := eq_of_beq h
  rw [Int.tmod_eq_emod_of_nonneg (by omega)] at h
  omega
theorem sumfor_same (F : Nat) (s : Int) (hF : 1000 < F) : spec_l7Sum_p F s = some (impl_isFor_v s) := by
  simp only [spec_l7Sum_p, spec_l7Sum_c, impl_isFor_v, l1In_eq0, impl_isSum_v, in_eq0]
  cases h1 : inB s 0 2097152 with
  | false => rfl
  | true =>
    cases h3 : Int.tmod s 2 == 0 with
    | false => rfl
    | true =>
      obtain ⟨n, rfl, hn⟩ := even_nat h1
      obtain ⟨o, e1, e2⟩ := least_spec F n hF hn
      simp only [cond_true, e1, Option.isSome_some, Option.getD_some, e2, least_impl n hn (even_of h3)]
theorem isFor_nat {s : Int} (h : impl_isFor_v s = true) : ∃ n : Nat, s = n ∧ n ≤ 2097152 ∧ n % 2 = 0 := by
  simp only [impl_isFor_v, impl_isSum_v, in_eq0] at h
  cases h1 : inB s 0 2097152 with
  | false => rw [h1] at h; exact absurd (show false = true from h) (by decide)
  | true =>
    cases h3 : Int.tmod s 2 == 0 with
    | false => rw [h1, h3] at h; exact absurd (show false = true from h) (by decide)
    | true =>
      obtain ⟨n, rfl, hn⟩ := even_nat h1
      exact ⟨n, rfl, hn, even_of h3⟩
end Go.Lv.P
