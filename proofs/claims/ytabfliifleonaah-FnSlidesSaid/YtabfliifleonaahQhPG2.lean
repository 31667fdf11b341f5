/-
Plain facts of the pure functions, part 2; without conditions.
-/
import Derived.Test.YtabfliifleonaahLv3
import Derived.Test.YtabfliifleonaahQhPG1
import Derived.Test.YtabfliifleonaahQhP5
import Derived.Test.YtabfliifleonaahQhP1
import Derived.Test.YtabfliifleonaahQhP0
import Derived.Test.YtabfliifleonaahQhP4
import Derived.Test.YtabfliifleonaahMvOrd
import Derived.Test.YtabfliifleonaahQhP2
import Derived.Test.YtabfliifleonaahQhP3
set_option linter.unusedVariables false
set_option linter.unusedSimpArgs false
set_option linter.unusedSectionVars false
namespace Go.Lv.P
open Go Go.Lv
/-- m marks from k on -/
def mrow (m : Nat) (k : Int) : List Int := (List.range m).map fun j : Nat => k + (j : Int)
/-- n rows of marks -/
def mrows (m : Nat) (k : Int) (n : Nat) : LL := (List.range n).map fun i : Nat => mrow m (k + (m : Int) * (i : Int))
theorem mrows_len (m : Nat) (k : Int) (n : Nat) : (mrows m k n).length = n := by simp [mrows]
theorem mrows_get (m : Nat) (k : Int) (n i : Nat) (h : i < n) : rget (mrows m k n) i = mrow m (k + (m : Int) * (i : Int)) := by
  rw [rgetL, mrows, List.getElem?_map, List.getElem?_range h]; rfl
theorem mark_gen {step : (Q : Type) → Int × Int × LL → (Int × Int × LL → Option Q) → (Int × LL → Option Q) → Option Q} (m n F : Nat) (k : Int) (a : LL) (ha : ∀ x ∈ a.take n, x.length = m) (hn : n ≤ a.length) (hF : n < F) (hb : n ≤ 1000000)
    (hs : ∀ (i : Nat) (a' : LL), i < n → a'.length = a.length → (∀ x ∈ a'.take n, x.length = m) → ∀ (Q : Type) kn kx, step Q (k + (m : Int) * (i : Int), (i : Int), a') kn kx = kn (k + (m : Int) * ((i + 1 : Nat) : Int), IntKind.wrap .i64 ((i : Int) + 1), rset a' i (mrow m (k + (m : Int) * (i : Int)))))
    (he : ∀ (c : Int) (a' : LL) (Q : Type) kn kx, step Q (c, (n : Int), a') kn kx = kx (c, a')) :
    ∃ a' : LL, loopC step F (k, 0, a) some = some (k + (m : Int) * (n : Int), a') ∧ a'.length = a.length ∧ a'.take n = mrows m k n := by
  have h := loop_fold (step := step) (fun i (s : Int × LL) => (s.1, i, s.2)) n (fun i s => (k + (m : Int) * ((i + 1 : Nat) : Int), rset s.2 i (mrow m (k + (m : Int) * (i : Int))))) (fun s => s)
    (fun i s => s.1 = k + (m : Int) * (i : Int) ∧ s.2.length = a.length ∧ (∀ x ∈ s.2.take n, x.length = m) ∧ s.2.take i = mrows m k i) (F := F) hF (by omega) (a := (k, a)) ⟨by simp, rfl, ha, rfl⟩
    (fun i s hi ⟨h1, h2, h3, h4⟩ => by
      have hil : i < s.2.length := by omega
      refine ⟨⟨rfl, by rw [rsetL]; simpa using h2, ?_, ?_⟩, fun Q kn kx => ?_⟩
      · intro x hx
        rw [rsetL, List.take_set] at hx
        rcases List.mem_or_eq_of_mem_set hx with hx | rfl
        · exact h3 x hx
        · simp [mrow]
      · show (rset s.2 i _).take (i + 1) = _
        rw [rset_take s.2 i _ hil, h4, mrows, mrows, List.range_succ, List.map_append]; rfl
      · rw [h1]
        exact hs i s.2 hi h2 h3 Q kn kx)
    (fun s _ Q kn kx => he s.1 s.2 Q kn kx)
  obtain ⟨h1, h2, h3, h4, h5⟩ := h
  exact ⟨_, h1.trans (congrArg some (Prod.ext h2 rfl)), h3, h5⟩
theorem get_take {a : LL} {n i : Nat} (hi : i < n) (hn : n ≤ a.length) : a[i]'(by omega) ∈ a.take n := by
  have h : i < (a.take n).length := by simp; omega
  have := List.getElem_mem h
  rwa [List.getElem_take] at this
theorem held_gen {step : (Q : Type) → Int × Int → (Int × Int → Option Q) → (Bool × Int → Option Q) → Option Q} (m n F : Nat) (k : Int) (hF : n < F) (hb : n ≤ 1000000)
    (hs : ∀ (i : Nat), i < n → ∀ (Q : Type) kn kx, step Q (k + (m : Int) * (i : Int), (i : Int)) kn kx = kn (k + (m : Int) * ((i + 1 : Nat) : Int), IntKind.wrap .i64 ((i : Int) + 1)))
    (he : ∀ (c : Int) (Q : Type) kn kx, step Q (c, (n : Int)) kn kx = kx (false, c)) : loopC step F (k, 0) some = some (false, k + (m : Int) * (n : Int)) := by
  have h := loop_fold (step := step) (fun i (s : Int) => (s, i)) n (fun i s => k + (m : Int) * ((i + 1 : Nat) : Int)) (fun s => (false, s))
    (fun i s => s = k + (m : Int) * (i : Int)) (F := F) hF (by omega) (a := k) (by simp)
    (fun i s hi h1 => ⟨rfl, fun Q kn kx => by rw [h1]; exact hs i hi Q kn kx⟩) (fun s _ Q kn kx => he s Q kn kx)
  exact h.1.trans (congrArg some (Prod.ext rfl h.2))
end Go.Lv.P

namespace Go.Lv.P
open Go Go.Lv
set_option maxRecDepth 100000
/-- one tile more: how many tiles lie there, the score, whether the last one was merged, the row -/
abbrev RS := Nat × Int × Bool × List Int
def rstep (s : RS) (x : Int) : RS :=
  bif decide (0 < s.1) && (iget s.2.2.2 (0 + (s.1 - 1) * 1) == x) && decide (x < 17) && !s.2.2.1 then (s.1, IntKind.wrap .i64 (s.2.1 + W (x + 1)), true, iset s.2.2.2 (0 + (s.1 - 1) * 1) (x + 1))
  else (s.1 + 1, s.2.1, false, iset s.2.2.2 (0 + s.1 * 1) x)
def rslide (row : List Int) : RS := (row.filter fun x => !(x == 0)).foldl rstep (0, 0, false, [0, 0, 0, 0])
theorem rstep_n (s : RS) (x : Int) : (rstep s x).1 ≤ s.1 + 1 := by
  unfold rstep
  cases decide (0 < s.1) && (iget s.2.2.2 (0 + (s.1 - 1) * 1) == x) && decide (x < 17) && !s.2.2.1
  · exact Nat.le_refl _
  · exact Nat.le_succ _
/-- a tile of a row -/
def rput (row : List Int) (i : Nat) (s : RS) : RS := bif iget row (0 + i * 1) == 0 then s else rstep s (iget row (0 + i * 1))
theorem fld_rput (row : List Int) (h : row.length = 4) (s : RS) : fld (rput row) 0 4 s = (row.filter fun x => !(x == 0)).foldl rstep s := by
  obtain ⟨a, b, c, d, rfl⟩ := list4 h
  have key : ∀ (x : Int) (l : List Int) (s : RS), ((x :: l).filter fun x => !(x == 0)).foldl rstep s = (l.filter fun x => !(x == 0)).foldl rstep (bif x == 0 then s else rstep s x) := fun x l s => by
    rw [List.filter_cons]
    cases x == 0 <;> rfl
  rw [key, key, key, key]
  rfl
theorem wrap_pred {n : Nat} (h : 0 < n) (h2 : n ≤ 100) : IntKind.wrap .i64 ((n : Int) - 1) = ((n - 1 : Nat) : Int) := by
  rw [wrap_of (by omega) (by omega)]; omega
theorem bsetL (xs : List Bool) (n : Nat) (x : Bool) : bset xs n x = xs.set n x := by
  induction xs generalizing n with
  | nil => cases n <;> rfl
  | cons a r ih => cases n with
    | zero => rfl
    | succ n => simp only [bset, ih, List.set_cons_succ]
theorem bgetL (xs : List Bool) (n : Nat) : bget xs n = xs[n]?.getD false := by
  induction xs generalizing n with
  | nil => cases n <;> rfl
  | cons a r ih => cases n with
    | zero => rfl
    | succ n => simp only [bget, ih, List.getElem?_cons_succ]
theorem fld_list (l : List Int) (g : RS → Int → RS) : ∀ (m i : Nat) (s : RS), i + m = l.length → fld (fun i s => g s (iget l (0 + i))) i m s = (l.drop i).foldl g s
  | 0, i, s, h => by rw [List.drop_eq_nil_of_le (by omega)]; rfl
  | m + 1, i, s, h => by
    have hi : i < l.length := by omega
    rw [fld, fld_list l g m (i + 1) _ (by omega), List.drop_eq_getElem_cons hi, List.foldl_cons, Nat.zero_add, igetL, List.getElem?_eq_getElem hi]
    rfl
end Go.Lv.P

namespace Go.Lv.P
open Go Go.Lv
/-- the sum of a board's worths -/
def sumB (b : List Int) : Int := (b.map W).foldl (· + ·) 0
theorem okB_iget {b : List Int} (hb : b.length = 16) (ok : okB b = true) (i : Nat) (hi : i < 16) : inB (iget b i) 0 17 = true := by
  simp only [okB, List.all_eq_true] at ok
  rw [igetL, List.getElem?_eq_getElem (by omega)]
  exact ok _ (List.getElem_mem _)
theorem wrap_small {n : Int} (h1 : 0 ≤ n) (h2 : n ≤ 9223372036854775807) : IntKind.wrap .i64 n = n := wrap_of (by omega) h2
theorem foldw : ∀ (l : List Int) (a : Int), (∀ x ∈ l, 0 ≤ x ∧ x ≤ 131072) → 0 ≤ a → a + l.length * 131072 ≤ 9223372036854775807 → l.foldl (fun a x => IntKind.wrap .i64 (a + x)) a = l.foldl (· + ·) a
  | [], a, _, _, _ => rfl
  | x :: r, a, h, h0, h1 => by
    have hx := h x (by simp)
    simp only [List.length_cons] at h1
    simp only [List.foldl_cons]
    rw [wrap_small (by omega) (by omega)]
    exact foldw r (a + x) (fun y hy => h y (by simp [hy])) (by omega) (by omega)
theorem sumB_facts {b : List Int} (ok : okB b = true) : 0 ≤ sumB b ∧ sumB b ≤ b.length * 131072 ∧ sumB b % 2 = 0 := by
  have : ∀ (l : List Int) (a : Int), (∀ x ∈ l, inB x 0 17 = true) → 0 ≤ a → a % 2 = 0 → 0 ≤ (l.map W).foldl (· + ·) a ∧ (l.map W).foldl (· + ·) a ≤ a + l.length * 131072 ∧ (l.map W).foldl (· + ·) a % 2 = 0 := by
    intro l
    induction l with
    | nil => intro a _ h0 h2; exact ⟨h0, by simp, h2⟩
    | cons x r ih =>
      intro a h h0 h2
      have hw := W_facts (h x (by simp))
      obtain ⟨g1, g2, g3⟩ := ih (a + W x) (fun y hy => h y (by simp [hy])) (by omega) (by omega)
      refine ⟨g1, ?_, g3⟩
      simp only [List.map_cons, List.foldl_cons, List.length_cons]
      omega
  simp only [okB, List.all_eq_true] at ok
  have := this b 0 ok (by omega) (by omega)
  refine ⟨this.1, ?_, this.2.2⟩
  have := this.2.1
  unfold sumB
  omega
end Go.Lv.P

namespace Go.Lv.P
open Go Go.Lv
/-- a sum of few tiles -/
def sumV (s : Int) : Bool := inB s 0 2097152 && (Int.tmod s 2 == 0) && decide (((cntT 17 s.toNat : Nat) : Int) ≤ 16)
theorem sumV_nat {s : Int} (h : sumV s = true) : ∃ n : Nat, s = n ∧ n ≤ 2097152 ∧ n % 2 = 0 ∧ cntT 17 n ≤ 16 := by
  unfold sumV at h
  simp only [Bool.and_eq_true, decide_eq_true_eq] at h
  obtain ⟨⟨h1, h2⟩, h3⟩ := h
  simp [inB] at h1
  obtain ⟨n, rfl⟩ := Int.eq_ofNat_of_zero_le h1.1
  have h2 := eq_of_beq h2
  rw [Int.tmod_eq_emod_of_nonneg (by omega)] at h2
  rw [Int.toNat_natCast] at h3
  exact ⟨n, rfl, by omega, by omega, by omega⟩
end Go.Lv.P

namespace Go.Lv.P
open Go Go.Lv
theorem bitLenAux_eq : ∀ (f n : Nat), n < 2 ^ f → Go.Lib.bitLenAux f n = if n = 0 then 0 else n.log2 + 1
  | 0, n, h => by
    obtain rfl : n = 0 := by omega
    rfl
  | f + 1, n, h => by
    rw [Nat.pow_succ] at h
    rw [Go.Lib.bitLenAux]
    by_cases h0 : n = 0
    · rw [if_pos h0, if_pos h0]
    · rw [if_neg h0, if_neg h0, bitLenAux_eq f (n / 2) (by omega)]
      rw [Nat.log2_def n]
      by_cases h2 : n ≥ 2
      · rw [if_neg (by omega), if_pos h2]; omega
      · rw [if_pos (by omega), if_neg h2]
/-- the highest tile of a sum -/
def top (n : Nat) : Nat := min 17 n.log2
theorem len_eq (n : Nat) (h : n < 2 ^ 63) : math_bits_Len_p (IntKind.wrap .u64 (n : Int)) = some (((if n = 0 then 0 else n.log2 + 1 : Nat) : Nat) : Int) := by
  rw [wu n (by omega)]
  have h1 : decide ((0 : Int) ≤ (n : Int)) = true := decide_eq_true (by omega)
  have h2 : decide ((n : Int) ≤ 18446744073709551615) = true := decide_eq_true (by omega)
  simp only [math_bits_Len_p, math_bits_Len_c, h1, h2, Bool.and_self, cond_true, math_bits_Len64_v, Int.toNat_natCast, Go.Lib.bitLen]
  rw [bitLenAux_eq 64 n (by omega)]
theorem lst_top : ∀ (k n : Nat), 2 ≤ n → 1 ≤ k → lst k n = ((min k n.log2 : Nat) : Int) :: lst k (n - 2 ^ min k n.log2)
  | 0, n, h, hk => absurd hk (by omega)
  | k + 1, n, h, _ => by
    have hn0 : n ≠ 0 := by omega
    have hpos : 0 < 2 ^ (k + 1) := Nat.two_pow_pos _
    by_cases hq : 2 ^ (k + 1) ≤ n
    · have hm : min (k + 1) n.log2 = k + 1 := Nat.min_eq_left ((Nat.le_log2 hn0).2 hq)
      rw [hm, lst, lst, Nat.mod_eq_sub_mod hq]
      obtain ⟨m, rfl⟩ : ∃ m, n = m + 2 ^ (k + 1) := ⟨n - 2 ^ (k + 1), by omega⟩
      rw [Nat.add_sub_cancel, Nat.add_div_right _ hpos, List.replicate_succ]
      rfl
    · have hlt : n < 2 ^ (k + 1) := by omega
      have hk1 : 1 ≤ k := by
        rcases k with _ | k
        · exact absurd hlt (by omega)
        · omega
      have hlg : n.log2 < k + 1 := (Nat.log2_lt hn0).2 hlt
      have hm : min (k + 1) n.log2 = min k n.log2 := by omega
      have ih := lst_top k n h hk1
      rw [hm, lst, lst, Nat.div_eq_of_lt hlt, Nat.mod_eq_of_lt hlt]
      have hlt2 : n - 2 ^ min k n.log2 < 2 ^ (k + 1) := Nat.lt_of_le_of_lt (Nat.sub_le _ _) hlt
      rw [Nat.div_eq_of_lt hlt2, Nat.mod_eq_of_lt hlt2]
      simpa using ih
theorem top_facts {n : Nat} (h : 2 ≤ n) (he : n % 2 = 0) : 1 ≤ top n ∧ top n ≤ 17 ∧ 2 ^ top n ≤ n ∧ (n - 2 ^ top n) % 2 = 0 := by
  have hn0 : n ≠ 0 := by omega
  have h1 : 1 ≤ n.log2 := (Nat.le_log2 hn0).2 (by omega)
  have ht : 1 ≤ top n := by unfold top; omega
  have hp : 2 ^ top n ≤ n := Nat.le_trans (Nat.pow_le_pow_right (by omega) (Nat.min_le_right _ _)) (Nat.log2_self_le hn0)
  refine ⟨ht, by unfold top; omega, hp, ?_⟩
  obtain ⟨j, hj⟩ : ∃ j, top n = j + 1 := ⟨top n - 1, by omega⟩
  rw [hj, Nat.pow_succ] at hp ⊢
  omega
theorem lst_zero (k : Nat) : lst k 0 = [] := by
  induction k with
  | zero => rfl
  | succ k ih => simp [lst, ih]
end Go.Lv.P

namespace Go.Lv.P
open Go Go.Lv
theorem worth_eq {t : Int} (h : inB t 0 17 = true) : impl_worth_p t = some (W t) := by
  rcases tile_cases h with h | h | h | h | h | h | h | h | h | h | h | h | h | h | h | h | h | h <;> subst h <;> decide
end Go.Lv.P

namespace Go.Lv.P
open Go Go.Lv
theorem in_eq0 (x a b : Int) : impl_in_v x a b = inB x a b := by unfold impl_in_v inB; cases decide (a ≤ x) <;> rfl
theorem even_nat {s : Int} (h : inB s 0 2097152 = true) : ∃ n : Nat, s = n ∧ n ≤ 2097152 := by
  simp [inB] at h
  exact ⟨s.toNat, by omega, by omega⟩
theorem even_of {n : Nat} (h : (Int.tmod (n : Int) 2 == 0) = true) : n % 2 = 0 := by
  have h := eq_of_beq h
  rw [Int.tmod_eq_emod_of_nonneg (by omega)] at h
  omega
theorem isFor_nat {s : Int} (h : impl_isFor_v s = true) : ∃ n : Nat, s = n ∧ n ≤ 2097152 ∧ n % 2 = 0 := by
  simp only [impl_isFor_v, impl_isSum_v, in_eq0] at h
  cases h1 : inB s 0 2097152 with
  | false => rw [h1] at h; exact absurd (show false = true from h) (by decide)
  | true =>
    cases h3 : Int.tmod s 2 == 0 with
    | false => rw [h1, h3] at h; exact absurd (show false = true from h) (by decide)
    | true =>
      obtain ⟨n, rfl, hn⟩ := even_nat h1
      exact ⟨n, rfl, hn, even_of h3⟩
theorem isFor_val (s : Int) : impl_isFor_v s = sumV s := by
  unfold sumV
  simp only [impl_isFor_v, impl_isSum_v, in_eq0]
  cases h1 : inB s 0 2097152 with
  | false => rfl
  | true =>
    cases h3 : Int.tmod s 2 == 0 with
    | false => rfl
    | true =>
      obtain ⟨n, rfl, hn⟩ := even_nat h1
      simp only [cond_true, least_impl n hn (even_of h3), Bool.and_self, Bool.true_and, Int.toNat_natCast]
end Go.Lv.P

namespace Go.Lv.P
open Go Go.Lv
theorem spec_high (F : Nat) (b : List Int) (hb : b.length = 16) (hF : 1000 < F) : spec_HighestTile_p F b = some (bif okB b then ((highB b).1, (highB b).2, decide (0 < (highB b).1)) else (0, [0, 0], false)) := by
  have hin : ∀ (r : Nat) (s : Int × List Int), r < 4 → spec_HighestTile_l8 F r b s.1 0 s.2 = some ((fld (fun c s => hstep b (0 + r * 4 + c * 1) s) 0 4 s).1, (fld (fun c s => hstep b (0 + r * 4 + c * 1) s) 0 4 s).2) := fun r s hr => by
    refine (loop_fold (step := spec_HighestTile_s8 F r b) (fun c (s : Int × List Int) => (s.1, c, s.2)) 4 (fun c s => hstep b (0 + r * 4 + c * 1) s) (fun s => (s.1, s.2)) (fun _ _ => True) (F := F) (by omega) (by omega) (a := s) trivial
      (fun c s hc _ => ⟨trivial, fun Q kn kx => by
        have hc' : (c : Int) < 4 := by omega
        have e1 : (0 + r * 4 + c * 1) / 4 = r := by omega
        have e2 : (0 + r * 4 + c * 1) % 4 = c := by omega
        simp only [spec_HighestTile_s8, hc', decide_true, cond_true, inR_cast, hc, hr, Int.toNat_natCast, hstep, e1, e2]
        cases decide (s.1 < iget b (0 + r * 4 + c * 1)) <;> rfl⟩) (fun s _ Q kn kx => by simp [spec_HighestTile_s8])).1
  have h := loop_fold (step := spec_HighestTile_s5 F b) (fun r (s : Int × List Int) => (s.1, r, s.2)) 4 (fun r s => fld (fun c s => hstep b (0 + r * 4 + c * 1) s) 0 4 s) (fun s => (s.1, s.2)) (fun _ _ => True) (F := F) (by omega) (by omega) (a := (0, [0, 0])) trivial
    (fun r s hr _ => ⟨trivial, fun Q kn kx => by
      have hr' : (r : Int) < 4 := by omega
      simp only [spec_HighestTile_s5, hr', decide_true, cond_true, hin r s hr, Option.isSome_some, Option.getD_some]⟩) (fun s _ Q kn kx => by simp [spec_HighestTile_s5])
  have h1 := h.1
  rw [fld_44 (hstep b)] at h1
  have h1 : spec_HighestTile_l5 F b 0 0 [0, 0] = some (highB b) := h1
  simp only [spec_HighestTile_p, spec_HighestTile_c, h1, spec_l2Board_eq F b hb hF, Option.isSome_some, Option.getD_some, cond_true]
  cases okB b <;> rfl
end Go.Lv.P

namespace Go.Lv.P
open Go Go.Lv
set_option maxRecDepth 100000
theorem DeleteFunc_tiles (F : Nat) (s : List Int) (q : Int → Bool) (hs : s.length ≤ 1000) (hF : 1000 < F) (hq : ∀ x ∈ s, impl_tiles_f1_v x = q x) :
    ∃ r, slices_DeleteFunc_intint_impl_tiles_f1_p F s = some r ∧ DeletedI s q r := by
  have hg : ∀ i, i < s.length → impl_tiles_f1_v (iget s i) = q (iget s i) := fun i hi => by
    refine hq _ ?_
    rw [igetL, List.getElem?_eq_getElem hi]
    exact List.getElem_mem hi
  have h1 : slices_IndexFunc_intint_impl_tiles_f1_l2 F s s.length 0 = some (fnd (fun i => q (iget s i)) (fun i => (true, (i : Int))) (false, default) 0 s.length) := by
    refine loop_find (fun i => i) s.length _ _ _ (by omega) (by omega) (fun i hi Q kn kx => ?_) fun Q kn kx => ?_
    · simp only [slices_IndexFunc_intint_impl_tiles_f1_s2, inR_cast, hi, hg i hi, Int.toNat_natCast, decide_true, cond_true, Int.ofNat_lt, Option.isSome_some, Option.getD_some]
    · simp [slices_IndexFunc_intint_impl_tiles_f1_s2]
  simp only [slices_DeleteFunc_intint_impl_tiles_f1_p, slices_DeleteFunc_intint_impl_tiles_f1_c, slices_IndexFunc_intint_impl_tiles_f1_p, slices_IndexFunc_intint_impl_tiles_f1_c, subn_self, h1, Option.isSome_some, Option.getD_some, cond_true]
  rcases fnd_splitI s q s.length 0 (by omega) (by simp) with ⟨h2, h3⟩ | ⟨j, hj, h2, h3, h4⟩
  · rw [h2]
    refine ⟨(s.length, s), rfl, ?_⟩
    have e := filter_allI (q := q) h3
    exact ⟨by rw [e], by rw [e]; exact List.take_length, rfl⟩
  · rw [h2]
    have hgj : iget s j = s[j] := by rw [igetL, List.getElem?_eq_getElem hj]; rfl
    obtain ⟨s', l1, l2, l3⟩ := delete_loopI (step := slices_DeleteFunc_intint_impl_tiles_f1_s5 F s.length) q (fun x => impl_tiles_f1_v x = q x) s.length (by omega)
      (fun i j s'' hij hjn hl hp Q kn kx => by
        have hin : i < s.length := by omega
        simp only [slices_DeleteFunc_intint_impl_tiles_f1_s5, Int.ofNat_lt, hjn, inR_cast, hin, Int.toNat_natCast, decide_true, cond_true, hp, Option.isSome_some, Option.getD_some]
        cases q (iget s'' (0 + j)) <;> rfl)
      (fun i s'' Q kn kx => by simp [slices_DeleteFunc_intint_impl_tiles_f1_s5]) (s.length - (j + 1)) j (j + 1) F s (by omega) (by omega) (by omega) rfl (fun x hx => hq x (List.mem_of_mem_drop hx))
    have e : s.filter (fun x => !q x) = s.take j ++ (s.drop (j + 1)).filter (fun x => !q x) := by
      have e1 : s = s.take j ++ s[j] :: s.drop (j + 1) := by rw [← List.drop_eq_getElem_cons hj, List.take_append_drop]
      conv => lhs; rw [e1]
      rw [List.filter_append, List.filter_cons, ← hgj, h3]
      simp only [Bool.not_true, Bool.false_eq_true, if_false]
      rw [filter_allI]
      exact h4
    have el : j + ((s.drop (j + 1)).filter fun x => !q x).length = (s.filter fun x => !q x).length := by
      rw [e, List.length_append, List.length_take, Nat.min_eq_left (Nat.le_of_lt hj)]
    rw [el] at l1 l3
    rw [← e] at l3
    have ll : (s.filter fun x => !q x).length ≤ s.length := List.length_filter_le _ _
    have l1' : slices_DeleteFunc_intint_impl_tiles_f1_l5 F s.length (j : Int) (IntKind.wrap .i64 ((j : Int) + 1)) s = some ((((s.filter fun x => !q x).length : Nat) : Int), s') := by
      rw [wrap_succ (n := s.length) hj (by omega)]
      exact l1
    have hne : ((j : Int) == -1) = false := by
      rw [beq_eq_false_iff_ne]; omega
    simp only [cond_true, Option.getD_some, l1', hne, cond_false, Option.isSome_some, inLe_cast, ll, decide_true, Int.toNat_natCast, Nat.sub_zero]
    refine ⟨_, rfl, rfl, ?_, ?_⟩
    · show (splice s' (0 + _) _ _).take _ = _
      rw [splice_takeI _ _ _ _ (by omega) (by simp), l3]
    · rw [← l2]
      show (splice s' (0 + _) _ _).length = _
      exact splice_lenI _ _ _ (by omega) (by simp)
theorem impl_row (F : Nat) (row : List Int) (h4 : row.length = 4) (hr : ∀ x ∈ row, inB x 0 17 = true) (hF : 1000 < F) : ∃ mg, impl_slideRow_p F row = some ((rslide row).2.2.2, (rslide row).2.1, mg) := by
  have hs4 : sub row 0 4 = row := by obtain ⟨a, b, c, d, rfl⟩ := list4 h4; rfl
  obtain ⟨r, d1, d2⟩ := DeleteFunc_tiles F row (fun x => x == 0) (by omega) hF (fun x _ => rfl)
  have ht : impl_tiles_p F row = some r := by
    have hf : fits row.length 8 = true := fits_of (by omega) (by omega)
    simp only [impl_tiles_p, impl_tiles_c, hs4, d1, hf, Option.isSome_some, Option.getD_some, cond_true, beq_selfL, Bool.and_self]
  obtain ⟨m, mem⟩ := r
  have hm : m = (row.filter fun x => !(x == 0)).length := d2.1
  have hl : ∀ i, i < m → iget mem (0 + i) = iget (row.filter fun x => !(x == 0)) i := fun i hi => d2.get hi
  have hm4 : m ≤ 4 := by rw [hm, ← h4]; exact List.length_filter_le _ _
  have hx : ∀ i, i < m → inB (iget (row.filter fun x => !(x == 0)) i) 1 17 = true := fun i hi => by
    have hm : iget (row.filter fun x => !(x == 0)) i ∈ row.filter fun x => !(x == 0) := by
      rw [igetL, List.getElem?_eq_getElem (by omega)]
      exact List.getElem_mem _
    generalize iget (row.filter fun x => !(x == 0)) i = y at hm ⊢
    have this := List.mem_filter.1 hm
    have h1 := hr _ this.1
    have h2 : y ≠ 0 := by simpa using this.2
    simp [inB] at h1
    show inB y 1 17 = true
    simp [inB]
    omega
  have h := loop_fold (step := impl_slideRow_s3 F m m mem) (fun i (s : RS × List Bool) => (s.1.2.1, (s.1.1 : Int), i, s.1.2.2.2, s.2)) m
    (fun i s => (rstep s.1 (iget (row.filter fun x => !(x == 0)) i), bif decide (0 < s.1.1) && (iget s.1.2.2.2 (0 + (s.1.1 - 1) * 1) == iget (row.filter fun x => !(x == 0)) i) && decide (iget (row.filter fun x => !(x == 0)) i < 17) && !s.1.2.2.1 then bset s.2 (0 + (s.1.1 - 1) * 1) true else s.2)) (fun s => (s.1.2.1, s.1.2.2.2, s.2))
    (fun i s => s.1.1 ≤ i ∧ s.2.length = 4 ∧ (0 < s.1.1 → bget s.2 (0 + (s.1.1 - 1) * 1) = s.1.2.2.1) ∧ ∀ j, s.1.1 ≤ j → bget s.2 j = false) (F := F) (by omega) (by omega) (a := ((0, 0, false, [0, 0, 0, 0]), [false, false, false, false]))
    ⟨Nat.le_refl 0, rfl, fun h => absurd h (by decide), fun j _ => by rw [bgetL]; rcases j with _ | _ | _ | _ | j <;> simp⟩
    (fun i s hi hI => by
      obtain ⟨⟨n, sc, mg, out⟩, ms⟩ := s
      obtain ⟨i1, i2, i3, i4⟩ := hI
      simp only at i1 i2 i3 i4 ⊢
      have hxi := hx i hi
      have hi' : (i : Int) < (m : Int) := by omega
      have hn4 : n < 4 := by omega
      have hsn : IntKind.wrap .i64 ((n : Int) + 1) = ((n + 1 : Nat) : Int) := wrap_succ (n := 4) hn4 (by omega)
      simp only [impl_slideRow_s3, hi', inR_cast, hi, Int.toNat_natCast, decide_true, cond_true, hl i hi, hn4]
      generalize iget (row.filter fun x => !(x == 0)) i = x at hxi ⊢
      have hx1 : 1 ≤ x ∧ x ≤ 17 := by simpa [inB] using hxi
      have push : (n + 1 ≤ i + 1 ∧ ms.length = 4 ∧ (0 < n + 1 → bget ms (0 + (n + 1 - 1) * 1) = false) ∧ ∀ j, n + 1 ≤ j → bget ms j = false) := ⟨by omega, i2, fun _ => i4 _ (by omega), fun j hj => i4 j (by omega)⟩
      by_cases hn : 0 < n
      · have hn' : (0 : Int) < (n : Int) := by omega
        have hp := wrap_pred hn (by omega)
        have hp4 : n - 1 < 4 := by omega
        have hmg := i3 hn
        simp only [hn', decide_true, cond_true, hp, inR_cast, hp4, Int.toNat_natCast, rstep, hn, Bool.true_and, hsn, hn4, hmg]
        cases hq : iget out (0 + (n - 1) * 1) == x with
        | false => exact ⟨push, fun Q kn kx => by first | rfl | trivial⟩
        | true =>
          by_cases h17 : x < 17
          · have hw : IntKind.wrap .i64 (x + 1) = x + 1 := wrap_of (by omega) (by omega)
            have hwo : impl_worth_p (x + 1) = some (W (x + 1)) := worth_eq (by simp [inB]; omega)
            cases mg with
            | true =>
              simp only [h17, decide_true, cond_true, Bool.not_true, cond_false, Bool.true_and]
              exact ⟨push, fun Q kn kx => by first | rfl | trivial⟩
            | false =>
              simp only [h17, decide_true, cond_true, Bool.not_false, hw, hwo, Option.isSome_some, Option.getD_some, Bool.true_and]
              refine ⟨⟨by omega, by rw [bsetL]; simpa using i2, fun _ => ?_, fun j hj => ?_⟩, fun Q kn kx => by first | rfl | trivial⟩
              · rw [bsetL, bgetL, List.getElem?_set_self (by omega)]; rfl
              · rw [bsetL, bgetL, List.getElem?_set_ne (by omega), ← bgetL]
                exact i4 j hj
          · simp only [h17, decide_false, cond_false, cond_true, Bool.and_false, Bool.false_and, Bool.true_and]
            exact ⟨push, fun Q kn kx => by first | rfl | trivial⟩
      · have hn' : ¬ (0 : Int) < (n : Int) := by omega
        simp only [cond_false, hn', decide_false, cond_true, rstep, hn, Bool.false_and, hsn, inR_cast, hn4, decide_true, Int.toNat_natCast]
        exact ⟨push, fun Q kn kx => by first | rfl | trivial⟩)
    (fun s _ Q kn kx => by simp [impl_slideRow_s3])
  have hf : ∀ (k i : Nat) (s : RS) (ms : List Bool), (fld (fun i (s : RS × List Bool) => (rstep s.1 (iget (row.filter fun x => !(x == 0)) i), bif decide (0 < s.1.1) && (iget s.1.2.2.2 (0 + (s.1.1 - 1) * 1) == iget (row.filter fun x => !(x == 0)) i) && decide (iget (row.filter fun x => !(x == 0)) i < 17) && !s.1.2.2.1 then bset s.2 (0 + (s.1.1 - 1) * 1) true else s.2)) i k (s, ms)).1 = fld (fun i s => rstep s (iget (row.filter fun x => !(x == 0)) (0 + i))) i k s := by
    intro k
    induction k with
    | zero => intro i s ms; rfl
    | succ k ih =>
      intro i s ms
      simp only [fld]
      rw [ih, Nat.zero_add]
  obtain ⟨r, e, hr2⟩ : ∃ r : RS × List Bool, impl_slideRow_l3 F m m mem 0 0 0 [0, 0, 0, 0] [false, false, false, false] = some (r.1.2.1, r.1.2.2.2, r.2) ∧ r.1 = rslide row :=
    ⟨_, h.1, by
      rw [hf, fld_list (row.filter fun x => !(x == 0)) rstep m 0 _ (by omega), List.drop_zero]
      rfl⟩
  rw [hr2] at e
  exact ⟨r.2, by simp only [impl_slideRow_p, impl_slideRow_c, ht, e, Option.isSome_some, Option.getD_some, cond_true]⟩
end Go.Lv.P

namespace Go.Lv.P
open Go Go.Lv
/-- strictly ascending -/
def Asc : LL → Prop
  | [] => True
  | a :: r => (∀ x ∈ r, ltL a x = true) ∧ Asc r
/-- put to its place, if it is not there -/
def insB (b : List Int) : LL → LL
  | [] => [b]
  | a :: r => bif ltL a b then a :: insB b r else bif a == b then a :: r else b :: a :: r
theorem insB_mem {b x : List Int} : ∀ {l : LL}, x ∈ insB b l ↔ x = b ∨ x ∈ l
  | [] => by simp [insB]
  | a :: r => by
    simp only [insB]
    cases h1 : ltL a b with
    | true =>
      rw [cond_true, List.mem_cons, insB_mem, List.mem_cons]
      constructor
      · rintro (h | h | h)
        · exact .inr (.inl h)
        · exact .inl h
        · exact .inr (.inr h)
      · rintro (h | h | h)
        · exact .inr (.inl h)
        · exact .inl h
        · exact .inr (.inr h)
    | false =>
      rw [cond_false]
      cases h2 : a == b with
      | true =>
        rw [cond_true]
        have e := eq_of_beq h2
        subst e
        simp
      | false => rw [cond_false]; simp
theorem insB_asc {b : List Int} : ∀ {l : LL}, Asc l → (∀ x ∈ l, x.length = b.length) → Asc (insB b l)
  | [], _, _ => ⟨fun x hx => (by cases hx), trivial⟩
  | a :: r, ⟨h1, h2⟩, hl => by
    simp only [insB]
    cases hab : ltL a b with
    | true =>
      rw [cond_true]
      refine ⟨fun x hx => ?_, insB_asc h2 fun x hx => hl x (List.mem_cons_of_mem _ hx)⟩
      rcases insB_mem.1 hx with rfl | hx
      · exact hab
      · exact h1 x hx
    | false =>
      rw [cond_false]
      cases he : a == b with
      | true => exact ⟨h1, h2⟩
      | false =>
        rw [cond_false]
        have hne : a ≠ b := by rw [beq_eq_false_iff_ne] at he; exact he
        have hba := ltL_tot (hl a List.mem_cons_self) hab hne
        refine ⟨fun x hx => ?_, h1, h2⟩
        rcases List.mem_cons.1 hx with rfl | hx
        · exact hba
        · exact ltL_trans hba (h1 x hx)
/-- how many there are: one more just if it was not there -/
theorem insB_len {b : List Int} : ∀ {l : LL}, Asc l → (∀ x ∈ l, x.length = b.length) → (insB b l).length = bif l.contains b then l.length else l.length + 1
  | [], _, _ => rfl
  | a :: r, ⟨h1, h2⟩, hl => by
    have ih := insB_len h2 fun x hx => hl x (List.mem_cons_of_mem _ hx)
    simp only [insB, List.contains_cons]
    cases hab : ltL a b with
    | true =>
      have hne : (b == a) = false := by
        rw [beq_eq_false_iff_ne]; intro e; subst e; rw [ltL_irr] at hab; cases hab
      rw [cond_true, hne, Bool.false_or, List.length_cons, ih]
      cases r.contains b <;> rfl
    | false =>
      rw [cond_false]
      cases he : a == b with
      | true =>
        have e := eq_of_beq he
        subst e
        simp
      | false =>
        have hne : a ≠ b := by rw [beq_eq_false_iff_ne] at he; exact he
        have hba := ltL_tot (hl a List.mem_cons_self) hab hne
        have h3 : (b == a) = false := by rw [beq_eq_false_iff_ne]; exact Ne.symm hne
        have h4 : r.contains b = false := by
          cases hc : r.contains b with
          | false => rfl
          | true =>
            have hm := List.contains_iff_mem.1 hc
            have := ltL_trans hba (h1 b hm)
            rw [ltL_irr] at this; cases this
        rw [h3, h4]; rfl
end Go.Lv.P

namespace Go.Lv.P
open Go Go.Lv
set_option maxRecDepth 100000
/-- the place in a board of the cell k of the line i, as a slide looks at it -/
def plcD (d i k : Nat) : Nat :=
  match d with
  | 0 => i * 4 + k
  | 1 => k * 4 + i
  | 2 => i * 4 + (3 - k)
  | _ => (3 - k) * 4 + i
def crd (d i : Nat) : List Int := [0, 1, 2, 3].flatMap fun k => [((plcD d i k / 4 : Nat) : Int), ((plcD d i k % 4 : Nat) : Int)]
def lineB (b : List Int) (d i : Nat) : List Int := [iget b (plcD d i 0), iget b (plcD d i 1), iget b (plcD d i 2), iget b (plcD d i 3)]
def putB (b : List Int) (d i : Nat) (row : List Int) : List Int := iset (iset (iset (iset b (plcD d i 0) (iget row 0)) (plcD d i 1) (iget row 1)) (plcD d i 2) (iget row 2)) (plcD d i 3) (iget row 3)
def sstep (b : List Int) (d i : Nat) (s : List Int × Int) : List Int × Int := (putB s.1 d i (rslide (lineB b d i)).2.2.2, IntKind.wrap .i64 (s.2 + (rslide (lineB b d i)).2.1))
/-- the board behind a slide, and the score -/
def slideB (b : List Int) (d : Nat) : List Int × Int := fld (sstep b d) 0 4 (b, 0)
theorem plcD_lt {d i k : Nat} (hd : d < 4) (hi : i < 4) (hk : k < 4) : plcD d i k < 16 := by
  obtain rfl | rfl | rfl | rfl : d = 0 ∨ d = 1 ∨ d = 2 ∨ d = 3 := by omega
  all_goals (simp only [plcD]; omega)
theorem iset_len (l : List Int) (i : Nat) (x : Int) : (iset l i x).length = l.length := by rw [isetL, List.length_set]
theorem iset_all {p : Int → Prop} {l : List Int} (h : ∀ y ∈ l, p y) (i : Nat) {x : Int} (hx : p x) : ∀ y ∈ iset l i x, p y := by
  rw [isetL]
  intro y hy
  rcases List.mem_or_eq_of_mem_set hy with hy | rfl
  · exact h y hy
  · exact hx
abbrev tileOK (x : Int) : Prop := inB x 0 17 = true
theorem rstep_ok {s : RS} {x : Int} (hx : inB x 1 17 = true) (h : s.2.2.2.length = 4 ∧ ∀ y ∈ s.2.2.2, tileOK y) : (rstep s x).2.2.2.length = 4 ∧ ∀ y ∈ (rstep s x).2.2.2, tileOK y := by
  have hx1 : 1 ≤ x ∧ x ≤ 17 := by simpa [inB] using hx
  unfold rstep
  cases h17 : decide (x < 17) with
  | false =>
    simp only [Bool.and_false, Bool.false_and, cond_false]
    exact ⟨by rw [iset_len]; exact h.1, iset_all h.2 _ (by simp [tileOK, inB]; omega)⟩
  | true =>
    have h17 := of_decide_eq_true h17
    cases decide (0 < s.1) && (iget s.2.2.2 (0 + (s.1 - 1) * 1) == x) && true && !s.2.2.1
    · exact ⟨by simp only [cond_false]; rw [iset_len]; exact h.1, iset_all h.2 _ (by simp [tileOK, inB]; omega)⟩
    · exact ⟨by simp only [cond_true]; rw [iset_len]; exact h.1, iset_all h.2 _ (by simp [tileOK, inB]; omega)⟩
theorem rfold_ok : ∀ (l : List Int) (s : RS), (∀ x ∈ l, inB x 1 17 = true) → (s.2.2.2.length = 4 ∧ ∀ y ∈ s.2.2.2, tileOK y) → ((l.foldl rstep s).2.2.2.length = 4 ∧ ∀ y ∈ (l.foldl rstep s).2.2.2, tileOK y)
  | [], s, _, h => h
  | x :: r, s, hl, h => rfold_ok r (rstep s x) (fun y hy => hl y (List.mem_cons_of_mem _ hy)) (rstep_ok (hl x List.mem_cons_self) h)
theorem rslide_ok {row : List Int} (hr : ∀ x ∈ row, tileOK x) : (rslide row).2.2.2.length = 4 ∧ ∀ y ∈ (rslide row).2.2.2, tileOK y := by
  refine rfold_ok _ _ (fun x hx => ?_) ⟨rfl, by decide⟩
  rw [List.mem_filter] at hx
  have h1 := hr x hx.1
  have h2 : x ≠ 0 := by simpa using hx.2
  simp [tileOK, inB] at h1
  simp [inB]
  omega
theorem okB_iff (b : List Int) : okB b = true ↔ ∀ x ∈ b, tileOK x := by simp [okB, tileOK]
theorem iget_ok {b : List Int} {n : Nat} (h : ∀ x ∈ b, tileOK x) (hn : n < b.length) : tileOK (iget b n) := by
  rw [igetL, List.getElem?_eq_getElem hn]
  exact h _ (List.getElem_mem _)
theorem line_ok {b : List Int} (hb : b.length = 16) (ok : ∀ x ∈ b, tileOK x) {d i : Nat} (hd : d < 4) (hi : i < 4) : ∀ x ∈ lineB b d i, tileOK x := by
  have h : ∀ k, k < 4 → tileOK (iget b (plcD d i k)) := fun k hk => iget_ok ok (by rw [hb]; exact plcD_lt hd hi hk)
  intro x hx
  simp only [lineB, List.mem_cons, List.not_mem_nil, or_false] at hx
  rcases hx with rfl | rfl | rfl | rfl
  · exact h 0 (by omega)
  · exact h 1 (by omega)
  · exact h 2 (by omega)
  · exact h 3 (by omega)
theorem put_ok {b row : List Int} (hb : b.length = 16 ∧ ∀ x ∈ b, tileOK x) (hr : row.length = 4 ∧ ∀ x ∈ row, tileOK x) (d i : Nat) : (putB b d i row).length = 16 ∧ ∀ x ∈ putB b d i row, tileOK x := by
  have h : ∀ k, k < 4 → tileOK (iget row k) := fun k hk => iget_ok hr.2 (by omega)
  refine ⟨by simp only [putB, iset_len]; exact hb.1, ?_⟩
  exact iset_all (iset_all (iset_all (iset_all hb.2 _ (h 0 (by omega))) _ (h 1 (by omega))) _ (h 2 (by omega))) _ (h 3 (by omega))
section
variable {b : List Int} (hb : b.length = 16) (ok : okB b = true)
include hb ok
theorem sstep_ok {d i : Nat} (hd : d < 4) (hi : i < 4) {s : List Int × Int} (hs : s.1.length = 16 ∧ ∀ x ∈ s.1, tileOK x) : (sstep b d i s).1.length = 16 ∧ ∀ x ∈ (sstep b d i s).1, tileOK x :=
  put_ok hs (rslide_ok (line_ok hb ((okB_iff b).1 ok) hd hi)) d i
theorem slide_ok {d : Nat} (hd : d < 4) : (slideB b d).1.length = 16 ∧ okB (slideB b d).1 = true := by
  have h0 : (b, (0 : Int)).1.length = 16 ∧ ∀ x ∈ (b, (0 : Int)).1, tileOK x := ⟨hb, (okB_iff b).1 ok⟩
  have h := sstep_ok hb ok hd (show 3 < 4 by omega) (sstep_ok hb ok hd (show 2 < 4 by omega) (sstep_ok hb ok hd (show 1 < 4 by omega) (sstep_ok hb ok hd (show 0 < 4 by omega) h0)))
  exact ⟨h.1, (okB_iff _).2 h.2⟩
end
end Go.Lv.P

namespace Go.Lv.P
open Go Go.Lv
theorem impl_sum_eq (b : List Int) (hb : b.length = 16) (ok : okB b = true) : impl_Board_sum_p b = some (sumB b) := by
  have hk := fun i hi => okB_iget hb ok i hi
  obtain ⟨x0, x1, x2, x3, x4, x5, x6, x7, x8, x9, x10, x11, x12, x13, x14, x15, rfl⟩ := list16 hb
  have h0 : inB x0 0 17 = true := hk 0 (by decide)
  have h1 : inB x1 0 17 = true := hk 1 (by decide)
  have h2 : inB x2 0 17 = true := hk 2 (by decide)
  have h3 : inB x3 0 17 = true := hk 3 (by decide)
  have h4 : inB x4 0 17 = true := hk 4 (by decide)
  have h5 : inB x5 0 17 = true := hk 5 (by decide)
  have h6 : inB x6 0 17 = true := hk 6 (by decide)
  have h7 : inB x7 0 17 = true := hk 7 (by decide)
  have h8 : inB x8 0 17 = true := hk 8 (by decide)
  have h9 : inB x9 0 17 = true := hk 9 (by decide)
  have h10 : inB x10 0 17 = true := hk 10 (by decide)
  have h11 : inB x11 0 17 = true := hk 11 (by decide)
  have h12 : inB x12 0 17 = true := hk 12 (by decide)
  have h13 : inB x13 0 17 = true := hk 13 (by decide)
  have h14 : inB x14 0 17 = true := hk 14 (by decide)
  have h15 : inB x15 0 17 = true := hk 15 (by decide)
  have key : impl_Board_sum_p [x0, x1, x2, x3, x4, x5, x6, x7, x8, x9, x10, x11, x12, x13, x14, x15] =
      bif (impl_worth_p x0).isSome then bif (impl_worth_p x1).isSome then bif (impl_worth_p x2).isSome then bif (impl_worth_p x3).isSome then
      bif (impl_worth_p x4).isSome then bif (impl_worth_p x5).isSome then bif (impl_worth_p x6).isSome then bif (impl_worth_p x7).isSome then
      bif (impl_worth_p x8).isSome then bif (impl_worth_p x9).isSome then bif (impl_worth_p x10).isSome then bif (impl_worth_p x11).isSome then
      bif (impl_worth_p x12).isSome then bif (impl_worth_p x13).isSome then bif (impl_worth_p x14).isSome then bif (impl_worth_p x15).isSome then
      some (([x0, x1, x2, x3, x4, x5, x6, x7, x8, x9, x10, x11, x12, x13, x14, x15].map fun x => (impl_worth_p x).getD default).foldl (fun a x => IntKind.wrap .i64 (a + x)) 0)
      else none else none else none else none else none else none else none else none else none else none else none else none else none else none else none else none := by kernel_rfl
  rw [key]
  have hall : ∀ x ∈ [x0, x1, x2, x3, x4, x5, x6, x7, x8, x9, x10, x11, x12, x13, x14, x15], inB x 0 17 = true := by simpa [okB] using ok
  have e1 : ([x0, x1, x2, x3, x4, x5, x6, x7, x8, x9, x10, x11, x12, x13, x14, x15].map fun x => (impl_worth_p x).getD default) = [x0, x1, x2, x3, x4, x5, x6, x7, x8, x9, x10, x11, x12, x13, x14, x15].map W :=
    List.map_congr_left fun x hx => by rw [worth_eq (hall x hx)]; rfl
  rw [e1, foldw _ 0 (fun x hx => by
    obtain ⟨y, hy, rfl⟩ := List.mem_map.1 hx
    have := W_facts (hall y hy)
    exact ⟨this.1, this.2.1⟩) (by omega) (by simp)]
  simp only [worth_eq h0, worth_eq h1, worth_eq h2, worth_eq h3, worth_eq h4, worth_eq h5, worth_eq h6, worth_eq h7, worth_eq h8, worth_eq h9, worth_eq h10, worth_eq h11, worth_eq h12, worth_eq h13, worth_eq h14, worth_eq h15, Option.isSome_some, cond_true]
  rfl
end Go.Lv.P

namespace Go.Lv.P
open Go Go.Lv
theorem subn_take0 {α : Type} (m : List α) (n : Nat) : subn m.length m 0 n = m.take n := by
  rw [subn_eqL _ _ _ _ rfl, sub, List.drop_zero]
theorem subn_00 {α : Type} (l : List α) : subn l.length l 0 0 = [] := by rw [subn_take0, List.take_zero]
theorem fld_filter (l : LL) (q : List Int → Bool) : fld (fun i out => bif q (rget l i) then out ++ [rget l i] else out) 0 l.length [] = l.filter q := by
  have : ∀ (m i : Nat) (out : LL), i + m = l.length → fld (fun i out => bif q (rget l i) then out ++ [rget l i] else out) i m out = out ++ (l.drop i).filter q := by
    intro m
    induction m with
    | zero => intro i out h; rw [List.drop_eq_nil_of_le (by omega)]; simp [fld]
    | succ m ih =>
      intro i out h
      have hi : i < l.length := by omega
      have hg : rget l i = l[i] := by rw [rgetL, List.getElem?_eq_getElem hi]; rfl
      simp only [fld]
      rw [ih (i + 1) _ (by omega), List.drop_eq_getElem_cons hi, List.filter_cons, hg]
      cases q l[i] <;> simp
  simpa using this l.length 0 [] (by omega)
theorem fld_filterI (l : List Int) (q : Int → Bool) : fld (fun i out => bif q (iget l i) then out ++ [iget l i] else out) 0 l.length [] = l.filter q := by
  have : ∀ (m i : Nat) (out : List Int), i + m = l.length → fld (fun i out => bif q (iget l i) then out ++ [iget l i] else out) i m out = out ++ (l.drop i).filter q := by
    intro m
    induction m with
    | zero => intro i out h; rw [List.drop_eq_nil_of_le (by omega)]; simp [fld]
    | succ m ih =>
      intro i out h
      have hi : i < l.length := by omega
      have hg : iget l i = l[i] := by rw [igetL, List.getElem?_eq_getElem hi]; rfl
      simp only [fld]
      rw [ih (i + 1) _ (by omega), List.drop_eq_getElem_cons hi, List.filter_cons, hg]
      cases q l[i] <;> simp
  simpa using this l.length 0 [] (by omega)
end Go.Lv.P

namespace Go.Lv.P
open Go Go.Lv
theorem l2Worth_eq {t : Int} (h : inB t 0 17 = true) (h0 : 0 < t) : spec_l2Worth_p t = some (W t) := by
  rcases tile_cases h with h | h | h | h | h | h | h | h | h | h | h | h | h | h | h | h | h | h <;> subst h <;> first | (exact absurd h0 (by decide)) | decide
end Go.Lv.P

namespace Go.Lv.P
open Go Go.Lv
theorem pair_in (a : Bool) (u : Bool) (X Y : Bool × Bool) : (bif (bif a then (true, u) else X).1 then (true, (bif a then (true, u) else X).2) else Y) = bif a then (true, u) else (bif X.1 then (true, X.2) else Y) := by cases a <;> rfl
theorem pair_out (a : Bool) (u : Bool) (X : Bool × Bool) : (bif (bif a then (true, u) else X).1 then (bif a then (true, u) else X).2 else false) = bif a then u else (bif X.1 then X.2 else false) := by cases a <;> rfl
theorem fnd_grid (p g : Nat → Bool) : fnd (fun r => (fnd (fun c => p (0 + r * 4 + c * 1)) (fun c => (true, g (0 + r * 4 + c * 1))) (false, default) 0 4).1) (fun r => (true, (fnd (fun c => p (0 + r * 4 + c * 1)) (fun c => (true, g (0 + r * 4 + c * 1))) (false, default) 0 4).2)) (false, default) 0 4 = fnd p (fun i => (true, g i)) (false, default) 0 16 := by
  simp only [fnd, pair_in, cond_false]
theorem before_eq (F : Nat) (hF : 1000 < F) {a b : List Int} (ha : a.length = 16) (hb : b.length = 16) : spec_l2Before_p F a b = some (ltL a b) := by
  have hin : ∀ r : Nat, r < 4 → spec_l2Before_l5 F r a b 0 = some (fnd (fun c => !(iget a (0 + r * 4 + c * 1) == iget b (0 + r * 4 + c * 1))) (fun c => (true, decide (iget a (0 + r * 4 + c * 1) < iget b (0 + r * 4 + c * 1)))) (false, default) 0 4) := fun r hr => by
    refine loop_find (step := spec_l2Before_s5 F r a b) (fun i => i) 4 (fun c => !(iget a (0 + r * 4 + c * 1) == iget b (0 + r * 4 + c * 1))) (fun c => (true, decide (iget a (0 + r * 4 + c * 1) < iget b (0 + r * 4 + c * 1)))) (false, default) (by omega) (by omega) (fun i hi Q kn kx => ?_) fun Q kn kx => ?_
    · have hi' : (i : Int) < 4 := by omega
      simp only [spec_l2Before_s5, hi', inR_cast, hr, hi, decide_true, cond_true, Int.toNat_natCast]
    · simp [spec_l2Before_s5]
  have hout : spec_l2Before_l2 F a b 0 = some (fnd (fun i => !(iget a i == iget b i)) (fun i => (true, decide (iget a i < iget b i))) (false, default) 0 16) := by
    rw [← fnd_grid (fun i => !(iget a i == iget b i)) (fun i => decide (iget a i < iget b i))]
    refine loop_find (step := spec_l2Before_s2 F a b) (fun i => i) 4 (fun r => (fnd (fun c => !(iget a (0 + r * 4 + c * 1) == iget b (0 + r * 4 + c * 1))) (fun c => (true, decide (iget a (0 + r * 4 + c * 1) < iget b (0 + r * 4 + c * 1)))) (false, default) 0 4).1) (fun r => (true, (fnd (fun c => !(iget a (0 + r * 4 + c * 1) == iget b (0 + r * 4 + c * 1))) (fun c => (true, decide (iget a (0 + r * 4 + c * 1) < iget b (0 + r * 4 + c * 1)))) (false, default) 0 4).2)) (false, default) (by omega) (by omega) (fun i hi Q kn kx => ?_) fun Q kn kx => ?_
    · have hi' : (i : Int) < 4 := by omega
      simp only [spec_l2Before_s2, hi', decide_true, cond_true, hin i hi, Option.isSome_some, Option.getD_some]
    · simp [spec_l2Before_s2]
  simp only [spec_l2Before_p, spec_l2Before_c, hout, Option.isSome_some, Option.getD_some, cond_true]
  have key : ∀ (n i : Nat), i + n = 16 → (bif (fnd (fun i => !(iget a i == iget b i)) (fun i => (true, decide (iget a i < iget b i))) (false, default) i n).1 then (fnd (fun i => !(iget a i == iget b i)) (fun i => (true, decide (iget a i < iget b i))) (false, default) i n).2 else false) = ltL (a.drop i) (b.drop i) := by
    intro n
    induction n with
    | zero => intro i h; rw [List.drop_eq_nil_of_le (by omega)]; rfl
    | succ n ih =>
      intro i h
      have hia : i < a.length := by omega
      have hib : i < b.length := by omega
      have ga : iget a i = a[i] := by rw [igetL, List.getElem?_eq_getElem hia]; rfl
      have gb : iget b i = b[i] := by rw [igetL, List.getElem?_eq_getElem hib]; rfl
      rw [List.drop_eq_getElem_cons hia, List.drop_eq_getElem_cons hib]
      simp only [fnd, pair_out, ltL]
      rw [ih (i + 1) (by omega), ga, gb]
      cases a[i] == b[i] <;> rfl
  have h0 := key 16 0 rfl
  rw [List.drop_zero, List.drop_zero] at h0
  have e : ∀ (X : Bool × Bool), (bif X.1 then some X.2 else some false) = some (bif X.1 then X.2 else false) := fun X => by cases X.1 <;> rfl
  rw [e, h0]
end Go.Lv.P

namespace Go.Lv.P
open Go Go.Lv
theorem wrap_u8 (n : Int) : 0 ≤ IntKind.wrap .u8 n ∧ IntKind.wrap .u8 n ≤ 255 := by
  have h : ∀ n : Int, IntKind.wrap .u8 n = n % 256 := fun n => by
    rw [IntKind.wrap_u8]
  rw [h]; omega
theorem cut_ok {c : List Int} (hc : Byt c) (hl : c.length ≤ 65536) {n : Nat} (hn : n ≤ 100) : ∃ r, laws_vCut_p c (n : Int) = some r ∧ Byt r := by
  have f1 : ∀ m : Nat, m ≤ 70000 → fits m 1 = true := fun m h => fits_of (by omega) (by omega)
  have sub_mem : ∀ (o s : Nat) (x : Int), x ∈ subn c.length c o s → x ∈ c := fun o s x hx => by
    rw [subn_eqL _ _ _ _ rfl] at hx
    exact List.mem_of_mem_drop (List.mem_of_mem_take hx)
  have sub_le : ∀ (o s : Nat), (subn c.length c o s).length ≤ c.length := fun o s => by
    rw [subn_eqL _ _ _ _ rfl]
    show ((c.drop o).take s).length ≤ _
    rw [List.length_take, List.length_drop]; omega
  have fin : ∀ (o s : Nat) (m : Int), Byt (subn c.length c o s ++ [IntKind.wrap .u8 m]) := fun o s m x hx => by
    rcases List.mem_append.1 hx with h | h
    · exact hc x (sub_mem o s x h)
    · rw [List.mem_singleton] at h
      subst h
      exact wrap_u8 m
  simp only [laws_vCut_p, laws_vCut_c, subn_self, inLe_cast, Nat.le_refl, decide_true, cond_true]
  by_cases h : ((c.length : Nat) : Int) < (n : Int)
  · have e1 := sub_le c.length (c.length - c.length)
    simp only [h, decide_true, cond_true]
    rw [f1 _ (by omega), cond_true, f1 _ (by rw [List.length_append, List.length_singleton]; omega), cond_true]
    exact ⟨_, rfl, fin _ _ _⟩
  · have hle : n ≤ c.length := by omega
    have e1 := sub_le (Int.toNat n) (c.length - Int.toNat n)
    simp only [h, decide_false, cond_false, hle, decide_true, cond_true]
    rw [f1 _ (by omega), cond_true, f1 _ (by rw [List.length_append, List.length_singleton]; omega), cond_true]
    exact ⟨_, rfl, fin _ _ _⟩
end Go.Lv.P

namespace Go.Lv.P
open Go Go.Lv
theorem concat_ints (s0 s1 s2 s3 : List Int) (h0 : s0.length ≤ 32) (h1 : s1.length ≤ 32) (h2 : s2.length ≤ 32) (h3 : s3.length ≤ 32) : slices_Concat_intint_p s0 s1 s2 s3 = some (s0 ++ s1 ++ s2 ++ s3) := by
  have e0 : IntKind.wrap .i64 ((0 : Int) + (s0.length : Int)) = ((s0.length : Nat) : Int) := by rw [Int.zero_add, wrap_of (by omega) (by omega)]
  have e1 : IntKind.wrap .i64 (((s0.length : Nat) : Int) + (s1.length : Int)) = ((s0.length + s1.length : Nat) : Int) := by rw [wrap_of (by omega) (by omega)]; omega
  have e2 : IntKind.wrap .i64 (((s0.length + s1.length : Nat) : Int) + (s2.length : Int)) = ((s0.length + s1.length + s2.length : Nat) : Int) := by rw [wrap_of (by omega) (by omega)]; omega
  have e3 : IntKind.wrap .i64 (((s0.length + s1.length + s2.length : Nat) : Int) + (s3.length : Int)) = ((s0.length + s1.length + s2.length + s3.length : Nat) : Int) := by rw [wrap_of (by omega) (by omega)]; omega
  have hneg : ∀ n : Nat, decide ((n : Int) < 0) = false := fun n => decide_eq_false (by omega)
  obtain ⟨g, hg⟩ : ∃ g, slices_Grow_intint_p ((s0.length + s1.length + s2.length + s3.length : Nat) : Int) = some g := by
    generalize hn : s0.length + s1.length + s2.length + s3.length = n
    have e : IntKind.wrap .i64 ((n : Int) - 0) = (n : Int) := by rw [Int.sub_zero, wrap_of (by omega) (by omega)]
    simp only [slices_Grow_intint_p, slices_Grow_intint_c, e, hneg, cond_false, Int.toNat_natCast]
    cases hp : decide ((0 : Int) < (n : Int)) with
    | false => exact ⟨_, rfl⟩
    | true =>
      simp at hp
      have hf : fits n 8 = true := fits_of (by omega) (by omega)
      have h1 : decide ((1 : Int) ≤ (n : Int)) = true := decide_eq_true (by omega)
      have h2 : inLe (0 : Int) n = true := inLe_cast 0 n ▸ decide_eq_true (Nat.zero_le _)
      rw [cond_true, h1, hf, h2]; exact ⟨_, rfl⟩
  have f : ∀ n : Nat, n ≤ 128 → fits n 8 = true := fun n h => fits_of (by omega) (by omega)
  simp only [slices_Concat_intint_p, slices_Concat_intint_c, e0, e1, e2, e3, hneg, hg, cond_false, cond_true, Option.isSome_some, Option.getD_some, subn_00, subn_self, List.nil_append]
  rw [f _ (by omega), cond_true, f _ (by rw [List.length_append]; omega), cond_true, f _ (by simp only [List.length_append]; omega), cond_true, f _ (by simp only [List.length_append]; omega), cond_true]
theorem flat_eq {b : List Int} (hb : b.length = 16) : impl_Board_flat_p b = some b := by
  have hs : ∀ o, (sub b o 4).length ≤ 32 := fun o => by unfold sub; exact Nat.le_trans (List.length_take_le _ _) (by omega)
  have hc := concat_ints (sub b 0 4) (sub b 4 4) (sub b 8 4) (sub b 12 4) (hs _) (hs _) (hs _) (hs _)
  have e : sub b 0 4 ++ sub b 4 4 ++ sub b 8 4 ++ sub b 12 4 = b := by
    obtain ⟨x0, x1, x2, x3, x4, x5, x6, x7, x8, x9, xa, xb, xc, xd, xe, xf, rfl⟩ := list16 hb
    rfl
  rw [e] at hc
  simp only [impl_Board_flat_p, impl_Board_flat_c, hc, Option.isSome_some, Option.getD_some, cond_true]
end Go.Lv.P
