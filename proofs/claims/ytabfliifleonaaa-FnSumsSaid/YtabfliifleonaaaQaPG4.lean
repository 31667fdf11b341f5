/-
Plain facts of the pure functions, part 4; without conditions.
-/
import Derived.Test.YtabfliifleonaaaQaPG3
import Derived.Test.YtabfliifleonaaaQaPG1
import Derived.Test.YtabfliifleonaaaQaP3
import Derived.Test.YtabfliifleonaaaQaPG2
import Derived.Test.YtabfliifleonaaaQaP0
import Derived.Test.YtabfliifleonaaaQaP1
import Derived.Test.YtabfliifleonaaaQaP2
import Derived.Test.YtabfliifleonaaaQaP4
set_option linter.unusedVariables false
set_option linter.unusedSimpArgs false
set_option linter.unusedSectionVars false
namespace Go.Lv.P
open Go Go.Lv
theorem cnt_low : ∀ (k y : Nat), cnt (k + 2) y = y % 2 + cnt (k + 1) (y / 2)
  | 0, y => by simp [cnt, Nat.pow_succ]; omega
  | k + 1, y => by
    have h := cnt_low k (y % 2 ^ (k + 2))
    have hc : cnt (k + 1 + 1) (y / 2) = y / 2 / 2 ^ (k + 1) + cnt (k + 1) (y / 2 % 2 ^ (k + 1)) := rfl
    rw [cnt, h, hc]
    have e1 : y % 2 ^ (k + 2) % 2 = y % 2 := Nat.mod_mod_of_dvd _ (by rw [Nat.pow_succ]; exact Nat.dvd_mul_left _ _)
    have e2 : y % 2 ^ (k + 2) / 2 = y / 2 % 2 ^ (k + 1) := by
      rw [Nat.pow_succ' , Nat.mod_mul_right_div_self]
    have e3 : y / 2 ^ (k + 2) = y / 2 / 2 ^ (k + 1) := by rw [Nat.div_div_eq_div_mul, ← Nat.pow_succ']
    rw [e1, e2, e3]; omega
theorem cnt_coin : ∀ (k t y : Nat), t ≤ k → cnt (k + 1) (y + 2 ^ t) ≤ cnt (k + 1) y + 1
  | 0, t, y, h => by
    obtain rfl : t = 0 := by omega
    simp [cnt]
  | k + 1, 0, y, h => by
    rw [cnt_low, cnt_low]
    by_cases hy : y % 2 = 0
    · have : (y + 2 ^ 0) / 2 = y / 2 := by omega
      rw [this]; omega
    · have : (y + 2 ^ 0) / 2 = y / 2 + 2 ^ 0 := by omega
      have ih := cnt_coin k 0 (y / 2) (by omega)
      rw [this]; omega
  | k + 1, t + 1, y, h => by
    have ih := cnt_coin k t (y / 2) (by omega)
    rw [cnt_low, cnt_low]
    have e1 : (y + 2 ^ (t + 1)) / 2 = y / 2 + 2 ^ t := by rw [Nat.pow_succ]; omega
    have e2 : (y + 2 ^ (t + 1)) % 2 = y % 2 := by rw [Nat.pow_succ]; omega
    rw [e1, e2]; omega
theorem W_tile {x : Int} (h : inB x 0 17 = true) (h0 : x ≠ 0) : ∃ t : Nat, t ≤ 16 ∧ W x = ((2 * 2 ^ t : Nat) : Int) := by
  simp [inB] at h
  refine ⟨x.toNat - 1, by omega, ?_⟩
  have e : x.toNat = x.toNat - 1 + 1 := by omega
  unfold W
  rw [if_neg h0]
  conv => lhs; rw [e, Int.pow_succ]
  rw [Int.natCast_mul, Int.natCast_pow]; exact Int.mul_comm _ _
/-- a sum of tiles is one of at least so many -/
theorem least_tiles : ∀ (l : List Int), (∀ x ∈ l, inB x 0 17 = true) → ∃ m : Nat, fs W l = ((2 * m : Nat) : Int) ∧ ((cnt 17 m : Nat) : Int) ≤ fs isT l ∧ fs isT l ≤ l.length ∧ fs isT l ≤ (m : Int)
  | [], _ => ⟨0, rfl, by decide, by decide, by decide⟩
  | x :: l, h => by
    obtain ⟨m, h1, h2, h3, h4⟩ := least_tiles l fun y hy => h y (List.mem_cons_of_mem _ hy)
    have hx := h x List.mem_cons_self
    by_cases h0 : x = 0
    · subst h0
      refine ⟨m, ?_, ?_, ?_, ?_⟩
      · simp only [fs, h1, W, if_true]; omega
      · simp only [fs, isT, if_true]; omega
      · simp only [fs, isT, if_true, List.length_cons]; omega
      · simp only [fs, isT, if_true]; omega
    · obtain ⟨t, t1, t2⟩ := W_tile hx h0
      have hc : cnt 17 (m + 2 ^ t) ≤ cnt 17 m + 1 := cnt_coin 16 t m t1
      have hp : 0 < 2 ^ t := Nat.two_pow_pos t
      refine ⟨m + 2 ^ t, ?_, ?_, ?_, ?_⟩
      · simp only [fs, h1, t2]; omega
      · simp only [fs, isT, h0, if_false]; omega
      · simp only [fs, isT, h0, if_false, List.length_cons]; omega
      · simp only [fs, isT, h0, if_false]; omega
theorem fs_replicate (f : Int → Int) (x : Int) : ∀ n : Nat, fs f (List.replicate n x) = n * f x
  | 0 => by simp [fs]
  | n + 1 => by
    rw [List.replicate_succ, fs, fs_replicate f x n, Int.natCast_add, Int.add_mul]; simp; omega
theorem lst_sum : ∀ (k n : Nat), fs W (lst k n) = n - (n % 2 : Nat)  ∨ k = 0
  | 0, n => .inr rfl
  | k + 1, n => .inl (by
    rw [lst, fs_append, fs_replicate]
    have e : W ((k + 1 : Nat) : Int) = ((2 ^ (k + 1) : Nat) : Int) := by
      unfold W
      rw [if_neg (by omega), Int.toNat_natCast, Int.natCast_pow]; rfl
    have hm : n % 2 ^ (k + 1) % 2 = n % 2 := Nat.mod_mod_of_dvd _ (by rw [Nat.pow_succ]; exact Nat.dvd_mul_left _ _)
    have hd : 2 ^ (k + 1) * (n / 2 ^ (k + 1)) + n % 2 ^ (k + 1) = n := Nat.div_add_mod n _
    have hd : 2 ^ (k + 1) * (n / 2 ^ (k + 1)) + n % 2 ^ (k + 1) = n := Nat.div_add_mod n _
    rw [e, ← Int.natCast_mul, Nat.mul_comm]
    rcases lst_sum k (n % 2 ^ (k + 1)) with h | h
    · rw [h, hm]; omega
    · subst h
      simp only [lst, fs]
      have : n % 2 ^ (0 + 1) = n % 2 := rfl
      rw [this] at hd ⊢
      omega)
theorem lst_count : ∀ (k n t : Nat), 1 ≤ t → fs (isN (t : Int)) (lst k n) = if k < t then 0 else if k = t then ((n / 2 ^ t : Nat) : Int) else ((n / 2 ^ t % 2 : Nat) : Int)
  | 0, n, t, h => by simp [lst, fs]; omega
  | k + 1, n, t, h => by
    rw [lst, fs_append, fs_replicate, lst_count k _ t h]
    by_cases h1 : k + 1 < t
    · rw [if_pos (by omega), if_pos h1, isN, if_neg (by omega)]; simp
    · by_cases h2 : k + 1 = t
      · subst h2
        rw [if_pos (by omega), if_neg (by omega), if_pos rfl, isN, if_pos rfl]; simp
      · rw [if_neg (by omega), if_neg h1, if_neg h2, isN, if_neg (by omega)]
        have ht : t ≤ k := by omega
        have e : n % 2 ^ (k + 1) / 2 ^ t % 2 = n / 2 ^ t % 2 := by
          obtain ⟨j, rfl⟩ : ∃ j, k = t + j := ⟨k - t, by omega⟩
          rw [show t + j + 1 = t + (j + 1) by omega, Nat.pow_add, Nat.mod_mul_right_div_self, Nat.pow_succ, Nat.mul_comm, Nat.mod_mul_right_mod]
        by_cases h3 : k = t
        · subst h3
          have hlt : n % 2 ^ (k + 1) / 2 ^ k < 2 := by
            rw [Nat.div_lt_iff_lt_mul (Nat.two_pow_pos k), ← Nat.pow_succ']
            exact Nat.mod_lt _ (Nat.two_pow_pos _)
          rw [Nat.mod_eq_of_lt hlt] at e
          rw [if_pos rfl, e]
          simp
        · rw [if_neg h3, e]; simp
theorem lst_pos : ∀ (k n : Nat), ∀ x ∈ lst k n, 1 ≤ x ∧ x ≤ k
  | 0, n, x, h => by simp [lst] at h
  | k + 1, n, x, h => by
    simp only [lst, List.mem_append, List.mem_replicate] at h
    rcases h with ⟨_, rfl⟩ | h
    · omega
    · have := lst_pos k _ x h; omega
end Go.Lv.P

namespace Go.Lv.P
open Go Go.Lv
abbrev cellsL : List (List Int) := [[0, 0], [0, 1], [0, 2], [0, 3], [1, 0], [1, 1], [1, 2], [1, 3], [2, 0], [2, 1], [2, 2], [2, 3], [3, 0], [3, 1], [3, 2], [3, 3]]
theorem inR18 {x : Int} (h : inB x 0 17 = true) : inR x 18 = true := by
  simp [inB] at h
  exact inR_true h.1 (by omega)
theorem at_cells (b : List Int) : ∀ i : Nat, i < 16 → impl_Board_at_p (rget cellsL (0 + i)) b = some i := by
  intro i hi
  obtain rfl | rfl | rfl | rfl | rfl | rfl | rfl | rfl | rfl | rfl | rfl | rfl | rfl | rfl | rfl | rfl : i = 0 ∨ i = 1 ∨ i = 2 ∨ i = 3 ∨ i = 4 ∨ i = 5 ∨ i = 6 ∨ i = 7 ∨ i = 8 ∨ i = 9 ∨ i = 10 ∨ i = 11 ∨ i = 12 ∨ i = 13 ∨ i = 14 ∨ i = 15 := by omega
  all_goals rfl
theorem bump_len (out : List Int) (x : Int) : (bump out x).length = out.length := by simp [bump, isetL]
theorem bumps_len : ∀ (l : List Int) (out : List Int), (l.foldl bump out).length = out.length
  | [], _ => rfl
  | x :: r, out => by rw [List.foldl_cons, bumps_len r, bump_len]
theorem impl_Count_eq (F : Nat) (b : List Int) (hb : b.length = 16) (hF : 1000 < F) : impl_CountTiles_p F b = some (bif okB b then (b.foldl bump zero18, true) else (zero18, false)) := by
  simp only [impl_CountTiles_p, impl_CountTiles_c, impl_IsBoard_eq F b hb hF, Option.isSome_some, Option.getD_some, cond_true]
  cases hB : okB b with
  | false => rfl
  | true =>
    have h := loop_fold (step := impl_CountTiles_s5 F b) (fun i a => (i, a)) 16 (fun i a => bump a (iget b i)) (fun a => a) (fun _ _ => True) (F := F) (by omega) (by omega) (a := zero18) trivial
      (fun i a hi _ => ⟨trivial, fun Q kn kx => by
        have hi' : (i : Int) < 16 := by omega
        simp only [impl_CountTiles_s5, Int.toNat_natCast, at_cells b i hi, hi', inR_cast, hi, decide_true, cond_true, Option.isSome_some, Option.getD_some, inR18 (okB_iget hb hB i hi), bump]⟩) (fun a _ Q kn kx => by simp [impl_CountTiles_s5])
    have e : impl_CountTiles_l5 F b 0 zero18 = some (b.foldl bump zero18) := by
      refine h.1.trans ?_
      clear h hB
      obtain ⟨x0, x1, x2, x3, x4, x5, x6, x7, x8, x9, x10, x11, x12, x13, x14, x15, rfl⟩ := list16 hb
      kernel_rfl
    simp only [e, Bool.not_true, cond_false, Option.isSome_some, Option.getD_some, cond_true]
end Go.Lv.P

namespace Go.Lv.P
open Go Go.Lv
/-! ### rows without mergers are pushed together -/
def nzf (row : List Int) : List Int := row.filter fun x => !(x == 0)
def packR (row : List Int) : List Int := nzf row ++ List.replicate (4 - (nzf row).length) 0
theorem zeros_of : ∀ (l : List Int) (n : Nat), l.length = n → (∀ j, j < n → iget l j = 0) → l = List.replicate n 0
  | [], n, h, _ => by subst h; rfl
  | x :: l, n, h, h0 => by
    subst h
    have e : x = 0 := h0 0 (by simp)
    rw [List.length_cons, List.replicate_succ, e, ← zeros_of l l.length rfl fun j hj => h0 (j + 1) (by simp; omega)]
theorem iget_drop (l : List Int) (n j : Nat) : iget (l.drop n) j = iget l (n + j) := by
  rw [igetL, igetL, List.getElem?_drop]
theorem fold_pack : ∀ (l : List Int) (s : RS), RI s → s.1 + l.length ≤ 4 → mgs s l = [] → (l.foldl rstep s).2.2.2 = s.2.2.2.take s.1 ++ (l ++ List.replicate (4 - (s.1 + l.length)) 0)
  | [], s, h, hl, _ => by
    have e := zeros_of (s.2.2.2.drop s.1) (4 - s.1) (by rw [List.length_drop, h.1]) fun j hj => by rw [iget_drop]; exact h.2 _ (by omega) (by omega)
    rw [List.foldl_nil, List.nil_append, List.length_nil, Nat.add_zero, ← e, List.take_append_drop]
  | x :: l, s, h, hl, hm => by
    simp only [List.length_cons] at hl
    have hr : rhit s x = false := by
      cases hh : rhit s x with
      | false => rfl
      | true => simp only [mgs, hh, cond_true] at hm; cases hm
    simp only [mgs, hr, cond_false] at hm
    have e : rstep s x = (s.1 + 1, s.2.1, false, iset s.2.2.2 (0 + s.1 * 1) x) := by
      unfold rhit at hr
      unfold rstep
      rw [hr]; rfl
    have h1 := rstep_RI (x := x) h (by omega)
    rw [List.foldl_cons]
    rw [e] at h1 hm ⊢
    rw [fold_pack l _ h1 (by show s.1 + 1 + l.length ≤ 4; omega) hm]
    show (iset s.2.2.2 (0 + s.1 * 1) x).take (s.1 + 1) ++ (l ++ List.replicate (4 - (s.1 + 1 + l.length)) 0) = _
    rw [show 0 + s.1 * 1 = s.1 by omega, isetL, List.take_add_one, List.take_set_of_le (Nat.le_refl _), List.getElem?_set_self (by rw [h.1]; omega), List.length_cons, show s.1 + (l.length + 1) = s.1 + 1 + l.length by omega, List.append_assoc]
    rfl
theorem row_pack {row : List Int} (hl : row.length = 4) (h : rowM row = []) : (rslide row).2.2.2 = packR row := by
  have hn : (row.filter fun x => !(x == 0)).length ≤ 4 := by rw [← hl]; exact List.length_filter_le _ _
  have := fold_pack (row.filter fun x => !(x == 0)) (0, 0, false, [0, 0, 0, 0]) ⟨rfl, fun j _ hj => by
    obtain rfl | rfl | rfl | rfl : j = 0 ∨ j = 1 ∨ j = 2 ∨ j = 3 := by omega
    all_goals rfl⟩ (by simpa using hn) h
  simp only [List.take_zero, List.nil_append, Nat.zero_add] at this
  exact this
def packB (b : List Int) (d : Nat) : List Int := putB (putB (putB (putB b d 0 (packR (lineB b d 0))) d 1 (packR (lineB b d 1))) d 2 (packR (lineB b d 2))) d 3 (packR (lineB b d 3))
theorem slide_pack {b : List Int} {d : Nat} (h : boardM b d = []) : (slideB b d).1 = packB b d := by
  have e : (slideB b d).1 = putB (putB (putB (putB b d 0 (rslide (lineB b d 0)).2.2.2) d 1 (rslide (lineB b d 1)).2.2.2) d 2 (rslide (lineB b d 2)).2.2.2) d 3 (rslide (lineB b d 3)).2.2.2 := rfl
  simp only [boardM, List.append_eq_nil_iff] at h
  obtain ⟨⟨⟨h0, h1⟩, h2⟩, h3⟩ := h
  rw [e, row_pack rfl h0, row_pack rfl h1, row_pack rfl h2, row_pack rfl h3]; rfl
/-! ### other names for the tiles -/
def Nam (f : Int → Int) : Prop := ∀ x, f x = 0 ↔ x = 0
theorem iget_map {f : Int → Int} (h : f 0 = 0) (l : List Int) (i : Nat) : iget (l.map f) i = f (iget l i) := by
  rw [igetL, igetL, List.getElem?_map]
  cases l[i]? with
  | none => exact h.symm
  | some x => rfl
theorem line_map {f : Int → Int} (h : f 0 = 0) (b : List Int) (d i : Nat) : lineB (b.map f) d i = (lineB b d i).map f := by
  simp only [lineB, iget_map h, List.map_cons, List.map_nil]
theorem put_map {f : Int → Int} (h : f 0 = 0) (b r : List Int) (d i : Nat) : putB (b.map f) d i (r.map f) = (putB b d i r).map f := by
  simp only [putB, iget_map h, isetL, List.map_set]
theorem nzf_map {f : Int → Int} (h : Nam f) : ∀ r : List Int, nzf (r.map f) = (nzf r).map f
  | [] => rfl
  | x :: r => by
    have ih := nzf_map h r
    unfold nzf at ih ⊢
    rw [List.map_cons, List.filter_cons, List.filter_cons]
    have : (f x == 0) = (x == 0) := by
      rw [Bool.eq_iff_iff, beq_iff_eq, beq_iff_eq]; exact h x
    rw [this]
    cases x == 0 <;> simp [ih]
theorem pack_map {f : Int → Int} (h : Nam f) (r : List Int) : packR (r.map f) = (packR r).map f := by
  unfold packR
  rw [nzf_map h, List.length_map, List.map_append, List.map_replicate, (h 0).2 rfl]
theorem packB_map {f : Int → Int} (h : Nam f) (b : List Int) (d : Nat) : packB (b.map f) d = (packB b d).map f := by
  have h0 : f 0 = 0 := (h 0).2 rfl
  unfold packB
  simp only [line_map h0, pack_map h, put_map h0]
/-- all slides of a list, without mergers -/
def packW (w : List Nat) (b : List Int) : List Int := w.foldl packB b
theorem packW_map {f : Int → Int} (h : Nam f) : ∀ (w : List Nat) (b : List Int), packW w (b.map f) = (packW w b).map f
  | [], b => rfl
  | d :: w, b => by
    show packW w (packB (b.map f) d) = _
    rw [packB_map h, packW_map h w]; rfl
theorem packR_len {r : List Int} (h : r.length = 4) : (packR r).length = 4 := by
  have hn : (nzf r).length ≤ 4 := by rw [← h]; exact List.length_filter_le _ _
  unfold packR
  rw [List.length_append, List.length_replicate]; omega
theorem packB_len {b : List Int} (hb : b.length = 16) (d : Nat) : (packB b d).length = 16 := by
  simp only [packB, putB, iset_len, hb]
theorem packW_len : ∀ (w : List Nat) {b : List Int}, b.length = 16 → (packW w b).length = 16
  | [], b, h => h
  | d :: w, b, h => packW_len w (packB_len h d)
theorem pack_fs {f : Int → Int} (h0 : f 0 = 0) (r : List Int) : fs f (packR r) = fs f r := by
  have hz : ∀ n, fs f (List.replicate n 0) = 0 := fun n => fs_zero fun x hx => by rw [List.eq_of_mem_replicate hx]; exact h0
  unfold packR nzf
  rw [fs_append, hz, fs_filter f h0]; omega
theorem packB_fs {f : Int → Int} (h0 : f 0 = 0) {b : List Int} (hb : b.length = 16) {d : Nat} (hd : d < 4) : fs f (packB b d) = fs f b := by
  have h := put_lines b (packR (lineB b d 0)) (packR (lineB b d 1)) (packR (lineB b d 2)) (packR (lineB b d 3)) hb (packR_len rfl) (packR_len rfl) (packR_len rfl) (packR_len rfl) hd
  rw [fs_lines f (packB_len hb d) hd, fs_lines f hb hd]
  unfold packB
  rw [h.1, h.2.1, h.2.2.1, h.2.2.2, pack_fs h0, pack_fs h0, pack_fs h0, pack_fs h0]
theorem packW_fs {f : Int → Int} (h0 : f 0 = 0) : ∀ (w : List Nat), (∀ d ∈ w, d < 4) → ∀ {b : List Int}, b.length = 16 → fs f (packW w b) = fs f b
  | [], _, b, _ => rfl
  | d :: w, hw, b, hb => by
    show fs f (packW w (packB b d)) = _
    rw [packW_fs h0 w (fun e he => hw e (List.mem_cons_of_mem _ he)) (packB_len hb d), packB_fs h0 hb (hw d List.mem_cons_self)]
/-! ### places come back -/
/-- the pigeonhole -/
theorem pigeon : ∀ (n : Nat) (f : Nat → Nat), (∀ i, i ≤ n → f i < n) → ∃ i j, i < j ∧ j ≤ n ∧ f i = f j
  | 0, f, h => absurd (h 0 (Nat.le_refl _)) (by omega)
  | n + 1, f, h => by
    by_cases hex : ∃ i, i ≤ n ∧ f i = f (n + 1)
    · obtain ⟨i, h1, h2⟩ := hex
      exact ⟨i, n + 1, by omega, Nat.le_refl _, h2⟩
    · have hne : ∀ i, i ≤ n → f i ≠ f (n + 1) := fun i hi e => hex ⟨i, hi, e⟩
      have hl := h (n + 1) (Nat.le_refl _)
      obtain ⟨i, j, h1, h2, h3⟩ := pigeon n (fun i => if f i = n then f (n + 1) else f i) fun i hi => by
        have hi1 := h i (by omega)
        have hi2 := hne i hi
        show (if f i = n then f (n + 1) else f i) < n
        split
        · rename_i e; omega
        · omega
      refine ⟨i, j, h1, by omega, ?_⟩
      have hi2 := hne i (by omega)
      have hj2 := hne j h2
      have h3 : (if f i = n then f (n + 1) else f i) = (if f j = n then f (n + 1) else f j) := h3
      split at h3
      · rename_i ei
        split at h3
        · rename_i ej; omega
        · exact absurd h3.symm hj2
      · split at h3
        · exact absurd h3 hi2
        · exact h3
/-- a function, again and again -/
def itr (g : Nat → Nat) : Nat → Nat → Nat
  | 0, x => x
  | k + 1, x => itr g k (g x)
theorem itr_add (g : Nat → Nat) : ∀ (a b x : Nat), itr g (a + b) x = itr g b (itr g a x)
  | 0, b, x => by rw [Nat.zero_add]; rfl
  | a + 1, b, x => by rw [show a + 1 + b = (a + b) + 1 by omega]; exact itr_add g a b (g x)
section
variable {g : Nat → Nat} {S : Nat → Prop} (hS : ∀ x, S x → S (g x)) (hlt : ∀ x, S x → x < 16) (hinj : ∀ x y, S x → S y → g x = g y → x = y)
include hS
theorem itr_S : ∀ (k : Nat) {x : Nat}, S x → S (itr g k x)
  | 0, x, h => h
  | k + 1, x, h => itr_S k (hS x h)
include hinj
theorem itr_inj : ∀ (k : Nat) {x y : Nat}, S x → S y → itr g k x = itr g k y → x = y
  | 0, x, y, _, _, h => h
  | k + 1, x, y, hx, hy, h => hinj x y hx hy (itr_inj k (hS x hx) (hS y hy) h)
include hlt
theorem itr_back {x : Nat} (hx : S x) : itr g 720720 x = x := by
  obtain ⟨i, j, h1, h2, h3⟩ := pigeon 16 (fun k => itr g k x) fun k _ => hlt _ (itr_S hS k hx)
  have h3 : itr g i x = itr g j x := h3
  obtain ⟨m, rfl⟩ : ∃ m, j = m + i := ⟨j - i, by omega⟩
  rw [itr_add] at h3
  have hm : itr g m x = x := (itr_inj hS hinj i hx (itr_S hS m hx) h3).symm
  have hmul : ∀ k, itr g (k * m) x = x := by
    intro k
    induction k with
    | zero => rw [Nat.zero_mul]; rfl
    | succ k ih => rw [Nat.add_mul, Nat.one_mul, itr_add, ih, hm]
  have hd : ∃ k, 720720 = k * m := by
    have : m = 1 ∨ m = 2 ∨ m = 3 ∨ m = 4 ∨ m = 5 ∨ m = 6 ∨ m = 7 ∨ m = 8 ∨ m = 9 ∨ m = 10 ∨ m = 11 ∨ m = 12 ∨ m = 13 ∨ m = 14 ∨ m = 15 ∨ m = 16 := by omega
    refine ⟨720720 / m, ?_⟩
    rcases this with h | h | h | h | h | h | h | h | h | h | h | h | h | h | h | h <;> subst h <;> rfl
  obtain ⟨k, hk⟩ := hd
  rw [hk]; exact hmul k
end
/-! ### boards come back -/
/-- names of the places that have a tile -/
def lab (b : List Int) : List Int := (List.range 16).map fun i => if iget b i = 0 then 0 else ((i + 1 : Nat) : Int)
def nam (b : List Int) (x : Int) : Int := if x = 0 then 0 else if iget b (x.toNat - 1) = 0 then 1 else iget b (x.toNat - 1)
theorem nam_ok (b : List Int) : Nam (nam b) := by
  intro x
  unfold nam
  by_cases h : x = 0
  · simp [h]
  · simp only [h, if_false, iff_false]
    split
    · omega
    · assumption
theorem lab_len (b : List Int) : (lab b).length = 16 := by simp [lab]
theorem lab_get (b : List Int) {i : Nat} (hi : i < 16) : iget (lab b) i = if iget b i = 0 then 0 else ((i + 1 : Nat) : Int) := by
  rw [igetL, lab, List.getElem?_map, List.getElem?_range hi]; rfl
theorem ext16 {a b : List Int} (ha : a.length = 16) (hb : b.length = 16) (h : ∀ i, i < 16 → iget a i = iget b i) : a = b := by
  refine List.ext_getElem (by rw [ha, hb]) fun i h1 h2 => ?_
  have := h i (by omega)
  rw [igetL, igetL, List.getElem?_eq_getElem h1, List.getElem?_eq_getElem h2] at this
  exact this
theorem lab_nam {b : List Int} (hb : b.length = 16) : (lab b).map (nam b) = b := by
  refine ext16 (by rw [List.length_map, lab_len]) hb fun i hi => ?_
  rw [iget_map rfl, lab_get b hi]
  by_cases h : iget b i = 0
  · rw [if_pos h, h]; rfl
  · have hne : ¬ ((i + 1 : Nat) : Int) = 0 := by omega
    have e : ((i + 1 : Nat) : Int).toNat - 1 = i := by omega
    rw [if_neg h, nam, if_neg hne, e, if_neg h]
/-- the same places have tiles -/
def SameP (a b : List Int) : Prop := ∀ i, i < 16 → (iget a i = 0 ↔ iget b i = 0)
theorem lab_same {a b : List Int} (h : SameP a b) : lab a = lab b := by
  refine ext16 (lab_len a) (lab_len b) fun i hi => ?_
  rw [lab_get a hi, lab_get b hi]
  by_cases h0 : iget b i = 0
  · rw [if_pos h0, if_pos ((h i hi).2 h0)]
  · rw [if_neg h0, if_neg (fun e => h0 ((h i hi).1 e))]
/-- a list of slides that merge nothing, and that leave the same places with tiles, comes back when it is done often enough -/
theorem pack_back (w : List Nat) (hw : ∀ d ∈ w, d < 4) {b : List Int} (hb : b.length = 16) (hp : SameP (packW w b) b) : ∀ (k : Nat) {c : List Int}, c = b → Nat.repeat (packW w) 720720 c = b := by
  intro k c hc
  subst hc
  -- the places' names
  have hL := lab_len c
  have hL' : (packW w (lab c)).length = 16 := packW_len w hL
  have hnat : ∀ {a : List Int}, a.length = 16 → SameP a c → packW w a = (packW w (lab c)).map (nam a) := fun {a} ha hs => by
    conv => lhs; rw [← lab_nam ha, packW_map (nam_ok a), lab_same hs]
  have hpat : ∀ i, i < 16 → (iget (packW w (lab c)) i = 0 ↔ iget c i = 0) := fun i hi => by
    have h := hp i hi
    rw [hnat hb (fun i _ => Iff.rfl), iget_map rfl, nam_ok c] at h
    exact h
  -- each name is there once
  have hin : ∀ x ∈ lab c, inB x 0 17 = true := fun x hx => by
    simp only [lab, List.mem_map, List.mem_range] at hx
    obtain ⟨i, hi, rfl⟩ := hx
    split
    · decide
    · simp [inB]; omega
  have once : ∀ t : Int, t ≠ 0 → fs (isN t) (lab c) ≤ 1 := fun t ht => by
    have key : ∀ (l : List Nat), l.Nodup → fs (isN t) (l.map fun i => if iget c i = 0 then (0 : Int) else ((i + 1 : Nat) : Int)) ≤ 1 ∧ ((∀ i ∈ l, ((i + 1 : Nat) : Int) ≠ t) → fs (isN t) (l.map fun i => if iget c i = 0 then (0 : Int) else ((i + 1 : Nat) : Int)) = 0) := by
      intro l
      induction l with
      | nil => intro _; exact ⟨by simp [fs], fun _ => rfl⟩
      | cons i l ih =>
        intro hn
        rw [List.nodup_cons] at hn
        obtain ⟨g1, g2⟩ := ih hn.2
        simp only [List.map_cons, fs]
        have hle : isN t (if iget c i = 0 then (0 : Int) else ((i + 1 : Nat) : Int)) ≤ 1 := by unfold isN; split <;> omega
        by_cases he : ((i + 1 : Nat) : Int) = t
        · have h0 := g2 fun j hj e => hn.1 (by have : i = j := by omega
                                               rw [this]; exact hj)
          exact ⟨by omega, fun h => absurd he (h i List.mem_cons_self)⟩
        · have hz : isN t (if iget c i = 0 then (0 : Int) else ((i + 1 : Nat) : Int)) = 0 := by
            unfold isN
            by_cases hc0 : iget c i = 0
            · rw [if_pos hc0, if_neg (Ne.symm ht)]
            · rw [if_neg hc0, if_neg he]
          exact ⟨by omega, fun h => by rw [hz, g2 fun j hj => h j (List.mem_cons_of_mem _ hj)]; rfl⟩
    exact (key (List.range 16) List.nodup_range).1
  have once' : ∀ t : Int, t ≠ 0 → fs (isN t) (packW w (lab c)) ≤ 1 := fun t ht => by
    have h0 : isN t 0 = 0 := by unfold isN; rw [if_neg (Ne.symm ht)]
    rw [packW_fs h0 w hw hL]; exact once t ht
  have fs_pos : ∀ {l : List Int} {t : Int}, 1 ≤ fs (isN t) l → t ∈ l := by
    intro l t
    induction l with
    | nil => intro h; simp [fs] at h
    | cons x l ih =>
      intro h
      simp only [fs] at h
      by_cases hx : x = t
      · subst hx; exact List.mem_cons_self
      · have : isN t x = 0 := by unfold isN; rw [if_neg hx]
        exact List.mem_cons_of_mem _ (ih (by omega))
  let S : Nat → Prop := fun x => x < 16 ∧ iget c x ≠ 0
  let g : Nat → Nat := fun x => (iget (packW w (lab c)) x).toNat - 1
  have hg : ∀ x, S x → ∃ y, S y ∧ g x = y ∧ iget (packW w (lab c)) x = ((y + 1 : Nat) : Int) := fun x hx => by
    have hne : iget (packW w (lab c)) x ≠ 0 := fun e => hx.2 ((hpat x hx.1).1 e)
    have h1 : 1 ≤ fs (isN (iget (packW w (lab c)) x)) (packW w (lab c)) := fs_mem (by rw [hL']; exact hx.1) rfl
    have h0 : isN (iget (packW w (lab c)) x) 0 = 0 := by unfold isN; rw [if_neg (Ne.symm hne)]
    rw [packW_fs h0 w hw hL] at h1
    have hm := fs_pos h1
    simp only [lab, List.mem_map, List.mem_range] at hm
    obtain ⟨y, hy, e⟩ := hm
    by_cases hy0 : iget c y = 0
    · rw [if_pos hy0] at e; exact absurd e.symm hne
    · rw [if_neg hy0] at e
      exact ⟨y, ⟨hy, hy0⟩, by show (iget (packW w (lab c)) x).toNat - 1 = y; unfold lab; rw [← e]; omega, e.symm⟩
  have hS : ∀ x, S x → S (g x) := fun x hx => by obtain ⟨y, h1, h2, _⟩ := hg x hx; rw [h2]; exact h1
  have hinj : ∀ x y, S x → S y → g x = g y → x = y := fun x y hx hy e => by
    obtain ⟨u, _, u2, u3⟩ := hg x hx
    obtain ⟨v, _, v2, v3⟩ := hg y hy
    have huv : u = v := by rw [← u2, ← v2, e]
    subst huv
    by_cases hxy : x = y
    · exact hxy
    · have := once' ((u + 1 : Nat) : Int) (by omega)
      rcases Nat.lt_or_gt_of_ne hxy with h | h
      · have := fs_two h (by rw [hL']; exact hy.1) u3 v3; omega
      · have := fs_two h (by rw [hL']; exact hx.1) v3 u3; omega
  -- one round more
  have one : ∀ {a : List Int}, a.length = 16 → SameP a c → SameP (packW w a) c ∧ ∀ x, S x → iget (packW w a) x = iget a (g x) := fun {a} ha hs => by
    have e := hnat ha hs
    refine ⟨fun i hi => by rw [e, iget_map rfl, nam_ok a]; exact hpat i hi, fun x hx => ?_⟩
    obtain ⟨y, h1, h2, h3⟩ := hg x hx
    rw [e, iget_map rfl, h3, h2, nam, if_neg (by omega), show ((y + 1 : Nat) : Int).toNat - 1 = y by omega, if_neg (fun e0 => h1.2 ((hs y h1.1).1 e0))]
  have all : ∀ k, (Nat.repeat (packW w) k c).length = 16 ∧ SameP (Nat.repeat (packW w) k c) c ∧ ∀ x, S x → iget (Nat.repeat (packW w) k c) x = iget c (itr g k x) := by
    intro k
    induction k with
    | zero => exact ⟨hb, fun i _ => Iff.rfl, fun x _ => rfl⟩
    | succ k ih =>
      obtain ⟨i1, i2, i3⟩ := ih
      obtain ⟨o1, o2⟩ := one i1 i2
      refine ⟨packW_len w i1, o1, fun x hx => ?_⟩
      show iget (packW w (Nat.repeat (packW w) k c)) x = _
      rw [o2 x hx, i3 _ (hS x hx)]; rfl
  obtain ⟨a1, a2, a3⟩ := all 720720
  refine ext16 a1 hb fun i hi => ?_
  by_cases h0 : iget c i = 0
  · rw [h0, (a2 i hi).2 h0]
  · rw [a3 i ⟨hi, h0⟩, itr_back hS (fun x hx => hx.1) hinj ⟨hi, h0⟩]
end Go.Lv.P

namespace Go.Lv.P
open Go Go.Lv
/-- the potential as a sum -/
def pt (x : Int) : Int := if 0 < x then (x - 1) * W x else 0
theorem pt_facts {x : Int} (h : inB x 0 17 = true) : 0 ≤ pt x ∧ pt x ≤ 2097152 := by
  rcases tile_cases h with e | e | e | e | e | e | e | e | e | e | e | e | e | e | e | e | e | e <;> subst e <;> decide
theorem pst_eq {x : Int} (h : inB x 0 17 = true) {s : Int} (h0 : 0 ≤ s) (h1 : s ≤ 1000000000) : pst x s = s + pt x := by
  have hp := pt_facts h
  have hx : 0 ≤ x ∧ x ≤ 17 := by simpa [inB] using h
  unfold pst
  by_cases hx0 : 0 < x
  · have e : pt x = (x - 1) * W x := by unfold pt; rw [if_pos hx0]
    rw [decide_eq_true hx0, cond_true, wrap_of (n := x - 1) (by omega) (by omega), ← e, wrap_of (n := pt x) (by omega) (by omega), wrap_of (by omega) (by omega)]
  · have e : pt x = 0 := by unfold pt; rw [if_neg hx0]
    rw [decide_eq_false hx0, cond_false, e]; omega
theorem fld_drop {g : Int → Int → Int} (b : List Int) : ∀ (m i : Nat) (s : Int), i + m = b.length → fld (fun i s => g (iget b (0 + i)) s) i m s = (b.drop i).foldl (fun s x => g x s) s
  | 0, i, s, h => by rw [List.drop_eq_nil_of_le (by omega)]; rfl
  | m + 1, i, s, h => by
    have hi : i < b.length := by omega
    rw [fld, fld_drop b m (i + 1) _ (by omega), List.drop_eq_getElem_cons hi, List.foldl_cons, Nat.zero_add, igetL, List.getElem?_eq_getElem hi]; rfl
theorem pst_fold : ∀ (l : List Int) (s : Int), (∀ x ∈ l, inB x 0 17 = true) → 0 ≤ s → s + 2097152 * l.length ≤ 1000000000 → l.foldl (fun s x => pst x s) s = s + fs pt l
  | [], s, _, _, _ => by simp [fs]
  | x :: l, s, h, h0, h1 => by
    have hx := h x List.mem_cons_self
    have hp := pt_facts hx
    simp only [List.length_cons] at h1
    rw [List.foldl_cons, pst_eq hx h0 (by omega), pst_fold l _ (fun y hy => h y (List.mem_cons_of_mem _ hy)) (by omega) (by omega), fs]; omega
theorem potB_fs {b : List Int} (hb : b.length = 16) (ok : okB b = true) : potB b = fs pt b ∧ 0 ≤ potB b ∧ potB b ≤ 33554432 := by
  have e : potB b = fs pt b := by
    unfold potB
    rw [fld_drop b 16 0 0 (by omega), List.drop_zero, pst_fold b 0 ((okB_iff b).1 ok) (Int.le_refl _) (by omega)]; omega
  have h := fs_bound (f := pt) (m := 2097152) (l := b) fun x hx => pt_facts ((okB_iff b).1 ok x hx)
  rw [e]
  exact ⟨rfl, by omega, by omega⟩
end Go.Lv.P

namespace Go.Lv.P
open Go Go.Lv
def Gd (b : List Int) : Prop := b.length = 16 ∧ okB b = true
/-- all slides of a list -/
def stp (w : List Nat) (b : List Int) : List Int := w.foldl (fun b d => (slideB b d).1) b
theorem stp_nil (b : List Int) : stp [] b = b := rfl
theorem packW_nil (b : List Int) : packW [] b = b := rfl
theorem packW_cons (d : Nat) (w : List Nat) (b : List Int) : packW (d :: w) b = packW w (packB b d) := rfl
theorem stp_cons (d : Nat) (w : List Nat) (b : List Int) : stp (d :: w) b = stp w (slideB b d).1 := rfl
theorem slide_tiles {b : List Int} (g : Gd b) {d : Nat} (hd : d < 4) : fs isT (slideB b d).1 = fs isT b - (((boardM b d).length : Nat) : Int) := by
  have key : ∀ l : List Int, (∀ m ∈ l, inB m 2 17 = true) → fs (fun m => isT m - 2 * isT (m - 1)) l = -((l.length : Nat) : Int) := by
    intro l
    induction l with
    | nil => intro _; rfl
    | cons x l ih =>
      intro h
      have hx := h x List.mem_cons_self
      simp [inB] at hx
      simp only [fs, List.length_cons]
      rw [ih fun m hm => h m (List.mem_cons_of_mem _ hm), isT, isT, if_neg (by omega), if_neg (by omega)]
      omega
  rw [slide_fs g.1 g.2 isT rfl hd, key _ (boardM_ok g.1 g.2 hd)]; omega
theorem stp_good : ∀ (w : List Nat), (∀ d ∈ w, d < 4) → ∀ {b : List Int}, Gd b → Gd (stp w b)
  | [], _, b, g => g
  | d :: w, hw, b, g => by
    rw [stp_cons]
    exact stp_good w (fun e he => hw e (List.mem_cons_of_mem _ he)) (slide_ok g.1 g.2 (hw d List.mem_cons_self))
theorem stp_tiles : ∀ (w : List Nat), (∀ d ∈ w, d < 4) → ∀ {b : List Int}, Gd b → fs isT (stp w b) ≤ fs isT b ∧ (fs isT (stp w b) = fs isT b → stp w b = packW w b)
  | [], _, b, g => by rw [stp_nil, packW_nil]; exact ⟨Int.le_refl _, fun _ => rfl⟩
  | d :: w, hw, b, g => by
    have hd := hw d List.mem_cons_self
    have h1 := slide_tiles g hd
    obtain ⟨h2, h3⟩ := stp_tiles w (fun e he => hw e (List.mem_cons_of_mem _ he)) (b := (slideB b d).1) (slide_ok g.1 g.2 hd)
    rw [stp_cons]
    refine ⟨by omega, fun e => ?_⟩
    have h0 : boardM b d = [] := List.length_eq_zero_iff.1 (by omega)
    rw [h3 (by omega), slide_pack h0, packW_cons]
/-- so many rounds -/
def rn (w : List Nat) (b : List Int) (k : Nat) : List Int := Nat.repeat (stp w) k b
theorem rn_succ (w : List Nat) (b : List Int) (k : Nat) : rn w b (k + 1) = stp w (rn w b k) := rfl
theorem rn_add (w : List Nat) (b : List Int) (a : Nat) : ∀ k, rn w b (a + k) = rn w (rn w b a) k
  | 0 => rfl
  | k + 1 => by rw [← Nat.add_assoc, rn_succ, rn_succ, rn_add w b a k]
def encN (b : List Int) : Nat → Nat
  | 0 => 0
  | n + 1 => 2 * encN b n + (if iget b n = 0 then 0 else 1)
theorem encN_lt (b : List Int) : ∀ n, encN b n < 2 ^ n
  | 0 => Nat.one_pos
  | n + 1 => by
    have := encN_lt b n
    rw [encN, Nat.pow_succ]
    split <;> omega
theorem encN_inj (a b : List Int) : ∀ n, encN a n = encN b n → ∀ i, i < n → (iget a i = 0 ↔ iget b i = 0)
  | 0, _, i, hi => by omega
  | n + 1, h, i, hi => by
    rw [encN, encN] at h
    by_cases ha : iget a n = 0 <;> by_cases hb : iget b n = 0
    · rw [if_pos ha, if_pos hb] at h
      by_cases e : i = n
      · subst e; exact ⟨fun _ => hb, fun _ => ha⟩
      · exact encN_inj a b n (by omega) i (by omega)
    · rw [if_pos ha, if_neg hb] at h; omega
    · rw [if_neg ha, if_pos hb] at h; omega
    · rw [if_neg ha, if_neg hb] at h
      by_cases e : i = n
      · subst e; exact ⟨fun h => absurd h ha, fun h => absurd h hb⟩
      · exact encN_inj a b n (by omega) i (by omega)
theorem packW_append (u w : List Nat) (b : List Int) : packW (u ++ w) b = packW w (packW u b) := List.foldl_append
/-- T rounds -/
def wT (w : List Nat) : Nat → List Nat
  | 0 => []
  | T + 1 => wT w T ++ w
theorem wT_lt {w : List Nat} (hw : ∀ d ∈ w, d < 4) : ∀ T, ∀ d ∈ wT w T, d < 4
  | 0, d, h => by simp [wT] at h
  | T + 1, d, h => by
    simp only [wT, List.mem_append] at h
    rcases h with h | h
    · exact wT_lt hw T d h
    · exact hw d h
theorem tiles_le {b : List Int} (g : Gd b) : 0 ≤ fs isT b ∧ fs isT b ≤ 16 := by
  have := fs_bound (f := isT) (m := 1) (l := b) fun x _ => by unfold isT; split <;> omega
  have := g.1
  omega
section
variable {w : List Nat} (hw : ∀ d ∈ w, d < 4) {b : List Int} (g : Gd b)
include hw g
theorem rn_good : ∀ k, Gd (rn w b k)
  | 0 => g
  | k + 1 => stp_good w hw (rn_good k)
theorem rn_le : ∀ k j, fs isT (rn w b (k + j)) ≤ fs isT (rn w b k)
  | k, 0 => Int.le_refl _
  | k, j + 1 => Int.le_trans (stp_tiles w hw (rn_good hw g (k + j))).1 (rn_le k j)
/-- rounds without mergers -/
theorem rn_pack {lo hi : Nat} (he : fs isT (rn w b lo) = fs isT (rn w b hi)) : ∀ T k, lo ≤ k → k + T ≤ hi → rn w b (k + T) = packW (wT w T) (rn w b k)
  | 0, k, _, _ => rfl
  | T + 1, k, h1, h2 => by
    have ih := rn_pack he T k h1 (by omega)
    obtain ⟨s1, s2⟩ := stp_tiles w hw (rn_good hw g (k + T))
    have a1 := rn_le hw g lo (k + T - lo)
    rw [show lo + (k + T - lo) = k + T by omega] at a1
    have a2 := rn_le hw g (k + T + 1) (hi - (k + T + 1))
    rw [show k + T + 1 + (hi - (k + T + 1)) = hi by omega] at a2
    have e : rn w b (k + T + 1) = stp w (rn w b (k + T)) := rfl
    rw [e] at a2
    show rn w b (k + T + 1) = _
    rw [e, s2 (by omega), ih, wT, packW_append]
theorem rn_turn {lo hi : Nat} (he : fs isT (rn w b lo) = fs isT (rn w b hi)) {k T : Nat} (h1 : lo ≤ k) : ∀ m, k + m * T ≤ hi → rn w b (k + m * T) = Nat.repeat (packW (wT w T)) m (rn w b k)
  | 0, _ => by rw [Nat.zero_mul]; rfl
  | m + 1, h2 => by
    rw [Nat.add_mul, Nat.one_mul] at h2
    have ih := rn_turn he (T := T) h1 m (by omega)
    have hp := rn_pack hw g he T (k + m * T) (by omega) (by omega)
    rw [Nat.add_mul, Nat.one_mul, ← Nat.add_assoc, hp, ih]; rfl
/-- a board comes back -/
theorem comes_back_gen (K : Nat) (hK : K = 65536 + 720720 * 65536) : ∃ i j, i < j ∧ j ≤ 17 * K ∧ rn w b i = rn w b j := by
  have hblock : ∃ c, c ≤ 16 ∧ fs isT (rn w b (c * K)) = fs isT (rn w b (c * K + K)) := by
    refine Classical.byContradiction fun hn => ?_
    have key : ∀ c : Nat, c ≤ 17 → fs isT (rn w b (c * K)) + (c : Int) ≤ 16 := by
      intro c
      induction c with
      | zero => intro _; have := (tiles_le (rn_good hw g (0 * K))).2; omega
      | succ c ih =>
        intro hc
        have h1 := ih (by omega)
        have h2 := rn_le hw g (c * K) K
        have h3 : fs isT (rn w b (c * K)) ≠ fs isT (rn w b (c * K + K)) := fun e => hn ⟨c, by omega, e⟩
        rw [show (c + 1) * K = c * K + K by rw [Nat.add_mul, Nat.one_mul]]
        omega
    have h1 := key 17 (Nat.le_refl _)
    have h2 := (tiles_le (rn_good hw g (17 * K))).1
    omega
  obtain ⟨c, hc, he⟩ := hblock
  have hcK : c * K ≤ 16 * K := Nat.mul_le_mul_right K hc
  generalize hN : (65536 : Nat) = N at hK
  obtain ⟨i, j, h1, h2, h3⟩ := pigeon N (fun k => encN (rn w b (c * K + k)) 16) fun k _ => by rw [← hN]; exact encN_lt _ 16
  have h3 : encN (rn w b (c * K + i)) 16 = encN (rn w b (c * K + j)) 16 := h3
  obtain ⟨T, rfl⟩ : ∃ T, j = i + T := ⟨j - i, by omega⟩
  have hTN : 720720 * (i + T) ≤ 720720 * N := Nat.mul_le_mul_left _ h2
  have hp := rn_pack hw g he T (c * K + i) (by omega) (by omega)
  rw [Nat.add_assoc] at hp
  have hs : SameP (packW (wT w T) (rn w b (c * K + i))) (rn w b (c * K + i)) := by
    rw [← hp]
    intro x hx
    exact (encN_inj _ _ 16 h3 x hx).symm
  have hk := pack_back (wT w T) (wT_lt hw T) (rn_good hw g (c * K + i)).1 hs 0 rfl
  have ht := rn_turn hw g he (k := c * K + i) (T := T) (by omega) 720720 (by omega)
  rw [hk] at ht
  exact ⟨c * K + i, c * K + i + 720720 * T, by omega, by omega, ht.symm⟩
theorem comes_back : ∃ i j, i < j ∧ j ≤ 802963914752 ∧ rn w b i = rn w b j := by
  obtain ⟨i, j, h1, h2, h3⟩ := comes_back_gen hw g 47233171456 (by decide)
  exact ⟨i, j, h1, by omega, h3⟩
end
end Go.Lv.P

namespace Go.Lv.P
open Go Go.Lv
theorem isFor_val (s : Int) : impl_isFor_v s = sumV s := by
  unfold sumV
  simp only [impl_isFor_v, impl_isSum_v, in_eq0]
  cases h1 : inB s 0 2097152 with
  | false => rfl
  | true =>
    cases h3 : Int.tmod s 2 == 0 with
    | false => rfl
    | true =>
      obtain ⟨n, rfl, hn⟩ := even_nat h1
      simp only [cond_true, least_impl n hn (even_of h3), Bool.and_self, Bool.true_and, Int.toNat_natCast]
/-- the least number of tiles -/
def leastV (s : Int) : Int × Bool := bif sumV s then (((cntT 17 s.toNat : Nat) : Int), true) else (0, false)
theorem least_val (F : Nat) (s : Int) (hF : 1000 < F) : spec_LeastTiles_p F s = some (leastV s) ∧ impl_LeastTiles_v s = leastV s := by
  have h : impl_LeastTiles_v s = leastV s := by
    unfold leastV
    simp only [impl_LeastTiles_v, isFor_val]
    cases h : sumV s with
    | false => rfl
    | true =>
      obtain ⟨n, rfl, hn, he, _⟩ := sumV_nat h
      simp only [Bool.not_true, cond_false, cond_true, least_impl n hn he, Int.toNat_natCast]
  refine ⟨?_, h⟩
  simp only [spec_LeastTiles_p, spec_LeastTiles_c, sumfor_same F s hF, Option.isSome_some, Option.getD_some, cond_true, ← h, impl_LeastTiles_v]
  cases h : impl_isFor_v s with
  | false => rfl
  | true =>
    obtain ⟨n, rfl, hn, he⟩ := isFor_nat h
    obtain ⟨o, e1, e2⟩ := least_spec F n hF hn
    simp only [Bool.not_true, cond_false, e1, Option.isSome_some, Option.getD_some, cond_true, e2, least_impl n hn he]
/-- whether so many tiles are possible -/
def possV (s m : Int) : Bool × Bool := bif inB s 0 2097152 && inB m 0 16 then ((Int.tmod s 2 == 0) && (decide (((cntT 17 s.toNat : Nat) : Int) ≤ m) && decide (m ≤ Int.tdiv s 2)), true) else (false, false)
theorem poss_val (F : Nat) (s m : Int) (hF : 1000 < F) : spec_IsPossible_p F s m = some (possV s m) ∧ impl_IsPossible_v s m = possV s m := by
  unfold possV
  simp only [spec_IsPossible_p, spec_IsPossible_c, impl_IsPossible_v, l1In_eq0, impl_isSum_v, in_eq0]
  cases h1 : inB s 0 2097152 with
  | false => exact ⟨rfl, rfl⟩
  | true =>
    cases h2 : inB m 0 16 with
    | false => exact ⟨rfl, rfl⟩
    | true =>
      cases h3 : Int.tmod s 2 == 0 with
      | false => exact ⟨rfl, rfl⟩
      | true =>
        obtain ⟨n, rfl, hn⟩ := even_nat h1
        obtain ⟨o, e1, e2⟩ := least_spec F n hF hn
        have hd : IntKind.wrap .i64 (Int.tdiv (n : Int) 2) = Int.tdiv (n : Int) 2 := by
          rw [Int.tdiv_eq_ediv_of_nonneg (by omega), wrap_of (by omega) (by omega)]
        simp only [Bool.not_true, cond_false, cond_true, e1, Option.isSome_some, Option.getD_some, e2, least_impl n hn (even_of h3), inB, hd, Bool.and_self, Bool.true_and, Int.toNat_natCast]
        cases decide (((cntT 17 n : Nat) : Int) ≤ m) <;> first | exact ⟨rfl, rfl⟩ | exact ⟨trivial, trivial⟩ | exact ⟨rfl, trivial⟩ | exact ⟨trivial, rfl⟩
/-- the highest tile of a sum -/
def hiV (s : Int) : Int × Bool := bif sumV s then (iget (lst 17 s.toNat) 0, true) else (0, false)
theorem hi_val (F : Nat) (s : Int) (hF : 1000 < F) : spec_HighestFor_p F s = some (hiV s) ∧ impl_HighestFor_p s = some (hiV s) := by
  unfold hiV
  simp only [spec_HighestFor_p, spec_HighestFor_c, impl_HighestFor_p, impl_HighestFor_c, sumfor_same F s hF, isFor_val, Option.isSome_some, Option.getD_some, cond_true]
  cases h : sumV s with
  | false => exact ⟨rfl, rfl⟩
  | true =>
    obtain ⟨n, rfl, hn, he, _⟩ := sumV_nat h
    simp only [least_list F n hF hn, len_eq n (by omega), Option.isSome_some, Option.getD_some, cond_true, Bool.not_true, cond_false, Int.toNat_natCast]
    by_cases h0 : n = 0
    · subst h0
      exact ⟨rfl, rfl⟩
    · have h2 : 2 ≤ n := by omega
      have hlg : n.log2 < 64 := (Nat.log2_lt h0).2 (by omega)
      have hw : IntKind.wrap .i64 (((if n = 0 then 0 else n.log2 + 1 : Nat) : Int) - 1) = (n.log2 : Int) := by
        rw [if_neg h0, wrap_of (by omega) (by omega)]; omega
      rw [lst_top 17 n h2 (by omega), hw]
      have hi : iget (((min 17 n.log2 : Nat) : Int) :: lst 17 (n - 2 ^ min 17 n.log2)) 0 = ((min 17 n.log2 : Nat) : Int) := rfl
      refine ⟨?_, ?_⟩
      · have h1 : decide ((0 : Int) < (((((min 17 n.log2 : Nat) : Int) :: lst 17 (n - 2 ^ min 17 n.log2)).length : Nat) : Int)) = true := decide_eq_true (by simp)
        have h3 : inR (0 : Int) ((((min 17 n.log2 : Nat) : Int) :: lst 17 (n - 2 ^ min 17 n.log2)).length) = true := inR_true (by omega) (by simp)
        rw [h1, h3]
        rfl
      · have e : (if (17 : Int) < (n.log2 : Int) then (17 : Int) else (n.log2 : Int)) = ((min 17 n.log2 : Nat) : Int) := by
          by_cases hh : 17 < n.log2
          · rw [if_pos (by omega), Nat.min_eq_left (by omega)]; rfl
          · rw [if_neg (by omega), Nat.min_eq_right (by omega)]
        rw [e, if_neg (by omega), hi]
/-! ### the packed board -/
theorem iset_mid (a r : List Int) (x y : Int) : iset (a ++ y :: r) a.length x = a ++ x :: r := by
  rw [isetL, List.set_append_right _ _ (Nat.le_refl _), Nat.sub_self]; rfl
theorem laid_eq {l : List Int} (hl : l.length ≤ 16) : ∀ i, i ≤ l.length → laid l i = l.take i ++ List.replicate (16 - i) 0
  | 0, _ => rfl
  | i + 1, h => by
    have ih := laid_eq hl i (by omega)
    have e : 16 - i = 16 - (i + 1) + 1 := by omega
    have ht : (l.take i).length = i := by rw [List.length_take]; omega
    have hm := iset_mid (l.take i) (List.replicate (16 - (i + 1)) 0) (iget l i) 0
    rw [ht] at hm
    rw [laid_succ, ih, e, List.replicate_succ, hm, List.take_succ_eq_append_getElem (by omega), List.append_assoc, igetL, List.getElem?_eq_getElem (by omega)]
    rfl
def pkB (n : Nat) : List Int := lst 17 n ++ List.replicate (16 - (lst 17 n).length) 0
theorem pkB_eq {n : Nat} (h : cntT 17 n ≤ 16) : laid (lst 17 n) (lst 17 n).length = pkB n := by
  rw [laid_eq (by rw [lst_len]; exact h) _ (Nat.le_refl _), List.take_length]; rfl
section
variable {n : Nat} (h : cntT 17 n ≤ 16) (he : n % 2 = 0)
include h
theorem pk_len : (pkB n).length = 16 := by
  have := lst_len 17 n
  rw [pkB, List.length_append, List.length_replicate]; omega
theorem pk_ok : okB (pkB n) = true := by
  rw [okB_iff]
  intro x hx
  simp only [pkB, List.mem_append, List.mem_replicate] at hx
  rcases hx with hx | ⟨_, rfl⟩
  · have := lst_pos 17 n x hx
    simp [tileOK, inB]; omega
  · decide
theorem pk_fs {f : Int → Int} (h0 : f 0 = 0) : fs f (pkB n) = fs f (lst 17 n) := by
  rw [pkB, fs_append, fs_replicate, h0]; omega
include he
theorem pk_sum : sumB (pkB n) = n := by
  rw [sumB_fs, pk_fs h rfl]
  rcases lst_sum 17 n with h | h
  · rw [h, he]; simp
  · omega
omit he
theorem pk_zero : iget ((pkB n).foldl bump zero18) 0 = 16 - ((cntT 17 n : Nat) : Int) := by
  have h0 := count_get (pk_len h) ((okB_iff _).1 (pk_ok h)) 0 (by omega)
  rw [h0]
  have hl := lst_len 17 n
  have hz : fs (isN 0) (lst 17 n) = 0 := fs_zero fun x hx => by
    have := lst_pos 17 n x hx
    unfold isN; rw [if_neg (by omega)]
  show fs (isN 0) (pkB n) = _
  rw [pkB, fs_append, fs_replicate, hz, hl, isN, if_pos rfl]; omega
theorem pk_count (t : Nat) (h1 : 1 ≤ t) (h2 : t < 17) : iget ((pkB n).foldl bump zero18) t ≤ 1 := by
  rw [count_get (pk_len h) ((okB_iff _).1 (pk_ok h)) t (by omega), pk_fs h (by unfold isN; rw [if_neg (by omega)]), lst_count 17 n t h1, if_neg (by omega), if_neg (by omega)]
  omega
theorem least_half : cntT 17 n ≤ n / 2 ∨ n % 2 = 1 := by
  by_cases he : n % 2 = 0
  · left
    obtain ⟨m, m1, m2, m3, m4⟩ := least_tiles (lst 17 n) fun x hx => by
      have := lst_pos 17 n x hx
      simp [inB]; omega
    have hs : fs W (lst 17 n) = (n : Int) := by
      rcases lst_sum 17 n with h | h
      · rw [h, he]; simp
      · omega
    have ht : fs isT (lst 17 n) = (((lst 17 n).length : Nat) : Int) := by
      have key : ∀ l : List Int, (∀ x ∈ l, x ≠ 0) → fs isT l = ((l.length : Nat) : Int) := by
        intro l
        induction l with
        | nil => intro _; rfl
        | cons x l ih =>
          intro h
          simp only [fs, List.length_cons]
          rw [ih fun y hy => h y (List.mem_cons_of_mem _ hy), isT, if_neg (h x List.mem_cons_self)]; omega
      exact key _ fun x hx => by have := lst_pos 17 n x hx; omega
    rw [lst_len] at ht
    omega
  · right; omega
end
/-- descending from the first on -/
theorem high_desc {b : List Int} (h0 : 0 ≤ iget b 0) (hd : ∀ i, i < 16 → iget b i ≤ iget b 0) : (highB b).1 = iget b 0 := by
  unfold highB
  have key : ∀ (m i : Nat) (s : Int × List Int), i + m = 16 → s.1 = iget b 0 → (fld (hstep b) i m s).1 = iget b 0 := by
    intro m
    induction m with
    | zero => intro i s _ h; exact h
    | succ m ih =>
      intro i s hi h
      rw [fld]
      refine ih (i + 1) _ (by omega) ?_
      unfold hstep
      rw [h, decide_eq_false (by have := hd i (by omega); omega)]
      exact h
  rw [show (16 : Nat) = 15 + 1 from rfl, fld]
  by_cases hz : 0 < iget b 0
  · refine key 15 1 _ rfl ?_
    unfold hstep
    rw [decide_eq_true (by exact hz)]; rfl
  · refine key 15 1 _ rfl ?_
    unfold hstep
    rw [decide_eq_false (by exact hz)]
    show (0 : Int) = _
    omega
theorem lst_desc : ∀ (k n : Nat), ∀ x ∈ lst k n, x ≤ iget (lst k n) 0
  | 0, n, x, h => by simp [lst] at h
  | k + 1, n, x, h => by
    have hb : x ≤ ((k + 1 : Nat) : Int) := (lst_pos (k + 1) n x h).2
    rw [lst] at h ⊢
    by_cases hq : n / 2 ^ (k + 1) = 0
    · rw [hq, List.replicate_zero, List.nil_append] at h ⊢
      exact lst_desc k _ x h
    · obtain ⟨q, hq'⟩ : ∃ q, n / 2 ^ (k + 1) = q + 1 := Nat.exists_eq_succ_of_ne_zero hq
      rw [hq', List.replicate_succ]
      exact hb
theorem pk_high (F : Nat) (hF : 1000 < F) {n : Nat} (h : cntT 17 n ≤ 16) (he : n % 2 = 0) : ∃ c, impl_HighestTile_p F (pkB n) = some (iget (lst 17 n) 0, c, decide ((0 : Int) < (n : Int))) := by
  have hl := pk_len h
  have ho := pk_ok h
  have hs := pk_sum h he
  have hg : iget (pkB n) 0 = iget (lst 17 n) 0 := by
    unfold pkB
    cases hh : lst 17 n with
    | nil => rfl
    | cons x r => rfl
  have hh := high_desc (b := pkB n) (by
    have := (okB_iff _).1 ho (iget (pkB n) 0) (by rw [igetL, List.getElem?_eq_getElem (by omega)]; exact List.getElem_mem _)
    simp [tileOK, inB] at this; omega) fun i hi => by
      have hm : iget (pkB n) i ∈ pkB n := by rw [igetL, List.getElem?_eq_getElem (by omega)]; exact List.getElem_mem _
      rw [hg]
      simp only [pkB, List.mem_append, List.mem_replicate] at hm
      rcases hm with hm | ⟨_, hm⟩
      · exact lst_desc 17 n _ hm
      · have h0 : iget (pkB n) i = 0 := hm
        rw [h0]
        cases hh : lst 17 n with
        | nil => exact Int.le_refl _
        | cons x r =>
          have := lst_pos 17 n x (by rw [hh]; exact List.mem_cons_self)
          show 0 ≤ x
          omega
  have hzero : (pkB n == [(0 : Int), 0, 0, 0, 0, 0, 0, 0, 0, 0, 0, 0, 0, 0, 0, 0]) = !decide ((0 : Int) < (n : Int)) := by
    by_cases hn : n = 0
    · subst hn; rfl
    · rw [decide_eq_true (by omega)]
      cases hq : pkB n == [(0 : Int), 0, 0, 0, 0, 0, 0, 0, 0, 0, 0, 0, 0, 0, 0, 0] with
      | false => rfl
      | true =>
        rw [eq_of_beq hq] at hs
        have : sumB [(0 : Int), 0, 0, 0, 0, 0, 0, 0, 0, 0, 0, 0, 0, 0, 0, 0] = 0 := by decide
        omega
  simp only [impl_HighestTile_p, impl_HighestTile_c, impl_IsBoard_eq F _ hl hF, ho, hzero, impl_high F _ hF, hh, hg, Option.isSome_some, Option.getD_some, cond_true, cond_false, Bool.not_true]
  by_cases hn : n = 0
  · subst hn; exact ⟨_, rfl⟩
  · rw [decide_eq_true (by omega)]; exact ⟨_, rfl⟩
end Go.Lv.P

namespace Go.Lv.P
open Go Go.Lv
theorem em_tiles {b : List Int} (hb : b.length = 16) : (((em b).length : Nat) : Int) + fs isT b = 16 := by
  have key : ∀ l : List (List Int), (((l.filter fun c => iget b (plc c) == 0).length : Nat) : Int) + fs isT (l.map fun c => iget b (plc c)) = ((l.length : Nat) : Int) := by
    intro l
    induction l with
    | nil => rfl
    | cons c l ih =>
      rw [List.filter_cons, List.map_cons, fs, List.length_cons]
      cases hc : iget b (plc c) == 0 with
      | true =>
        rw [if_pos rfl, List.length_cons, eq_of_beq hc, isT, if_pos rfl]; omega
      | false =>
        have hc : iget b (plc c) ≠ 0 := by rw [beq_eq_false_iff_ne] at hc; exact hc
        have e : isT (iget b (plc c)) = 1 := by unfold isT; rw [if_neg hc]
        rw [e, if_neg (by decide)]; omega
  have h := key cells16
  have e : (cells16.map fun c => iget b (plc c)) = b := by
    obtain ⟨x0, x1, x2, x3, x4, x5, x6, x7, x8, x9, xa, xb, xc, xd, xe, xf, rfl⟩ := list16 hb
    rfl
  rw [e] at h
  exact h
/-- the mergers that are left -/
def leftB (b : List Int) : Int := fs isT b - ((cntT 17 (sumB b).toNat : Nat) : Int)
theorem tiles_sum {b : List Int} (g : Gd b) : ∃ m : Nat, sumB b = ((2 * m : Nat) : Int) ∧ ((cntT 17 (sumB b).toNat : Nat) : Int) ≤ fs isT b ∧ m ≤ 1048576 := by
  obtain ⟨m, h1, h2, h3, h4⟩ := least_tiles b ((okB_iff b).1 g.2)
  rw [← sumB_fs] at h1
  obtain ⟨f1, f2, f3⟩ := sumB_facts g.2
  rw [g.1] at f2
  refine ⟨m, h1, ?_, by omega⟩
  rw [h1, Int.toNat_natCast, cntT_even]; exact h2
theorem left_val (F : Nat) {b : List Int} (hb : b.length = 16) (hF : 1000 < F) : spec_MergersLeft_p F b = some (bif okB b then (leftB b, true) else (0, false)) ∧ impl_MergersLeft_p F b = some (bif okB b then (leftB b, true) else (0, false)) := by
  obtain ⟨r, h1, h2⟩ := impl_empty_eq F b hF
  have hr : r.1 = (em b).length := by rw [h2.1, em_not]
  simp only [spec_MergersLeft_p, spec_MergersLeft_c, impl_MergersLeft_p, impl_MergersLeft_c, spec_l2Many_p, spec_l2Many_c, spec_empty_eq F b hF, h1, hr, spec_l2Board_eq F b hb hF, impl_IsBoard_eq F b hb hF, Option.isSome_some, Option.getD_some, cond_true]
  cases hB : okB b with
  | false => exact ⟨rfl, rfl⟩
  | true =>
    have ht := em_tiles hb
    obtain ⟨m, m1, m2, m3⟩ := tiles_sum (b := b) ⟨hb, hB⟩
    obtain ⟨o, e1, e2⟩ := least_spec F (2 * m) hF (by omega)
    rw [m1, Int.toNat_natCast] at m2
    have hle := em_len b
    have hw : IntKind.wrap .i64 ((16 : Int) - (((em b).length : Nat) : Int)) = fs isT b := by rw [wrap_of (by omega) (by omega)]; omega
    have hw2 : IntKind.wrap .i64 (fs isT b - ((cntT 17 (2 * m) : Nat) : Int)) = leftB b := by
      rw [leftB, m1, Int.toNat_natCast, wrap_of (by omega) (by omega)]
    simp only [impl_sum_eq b hb hB, spec_sum_eq F b hb hB hF, Option.isSome_some, Option.getD_some, cond_true, Bool.not_true, cond_false, m1, e1, e2, least_impl (2 * m) (by omega) (by omega), hw, hw2]
    exact ⟨trivial, trivial⟩
theorem merg_val (F : Nat) {b : List Int} (g : Gd b) {d : Nat} (hd : d < 4) (hF : 1000 < F) : impl_MergersOf_p F b d = some ((((boardM b d).length : Nat) : Int), true) := by
  have h : inB (d : Int) 0 3 = true := by simp [inB]; omega
  simp only [impl_MergersOf_p, impl_MergersOf_c, impl_IsBoard_eq F b g.1 hF, g.2, impl_isDirection_v, in_eq, h, impl_slide2 g.1 g.2 F hF hd, Option.isSome_some, Option.getD_some, cond_true, cond_false, Bool.not_true]
theorem left_most {b : List Int} (g : Gd b) {d : Nat} (hd : d < 4) : (((boardM b d).length : Nat) : Int) ≤ leftB b := by
  have h1 := slide_tiles g hd
  obtain ⟨m, m1, m2, m3⟩ := tiles_sum (b := (slideB b d).1) (slide_ok g.1 g.2 hd)
  rw [slide_sum g.1 g.2 hd] at m2
  unfold leftB; omega
theorem empty_val (F : Nat) {b : List Int} (g : Gd b) (hF : 1000 < F) : ∃ m : List (List Int), impl_EmptyCells_p F b = some ((em b).length, true, m) := by
  obtain ⟨r, h1, h2⟩ := impl_empty_eq F b hF
  have hr : r.1 = (em b).length := by rw [h2.1, em_not]
  exact ⟨r.2, by simp only [impl_EmptyCells_p, impl_EmptyCells_c, impl_IsBoard_eq F b g.1 hF, g.2, h1, hr, Option.isSome_some, Option.getD_some, cond_true, cond_false, Bool.not_true]⟩
end Go.Lv.P
