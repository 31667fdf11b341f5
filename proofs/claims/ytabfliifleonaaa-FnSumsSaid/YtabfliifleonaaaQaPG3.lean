/-
Plain facts of the pure functions, part 3; without conditions.
-/
import Derived.Test.YtabfliifleonaaaQaPG2
import Derived.Test.YtabfliifleonaaaQaP3
import Derived.Test.YtabfliifleonaaaQaP4
import Derived.Test.YtabfliifleonaaaQaPG1
import Derived.Test.YtabfliifleonaaaQaP0
import Derived.Test.YtabfliifleonaaaQaP2
set_option linter.unusedVariables false
set_option linter.unusedSimpArgs false
set_option linter.unusedSectionVars false
namespace Go.Lv.P
open Go Go.Lv
/-- the sum of a function over numbers -/
def fs (f : Int → Int) : List Int → Int
  | [] => 0
  | x :: r => f x + fs f r
theorem fs_append (f : Int → Int) : ∀ a b : List Int, fs f (a ++ b) = fs f a + fs f b
  | [], b => by simp [fs]
  | x :: a, b => by simp only [List.cons_append, fs, fs_append f a b]; omega
theorem fs_foldl (f : Int → Int) : ∀ (l : List Int) (a : Int), (l.map f).foldl (· + ·) a = a + fs f l
  | [], a => by simp [fs]
  | x :: l, a => by simp only [List.map_cons, List.foldl_cons, fs_foldl f l, fs]; omega
theorem fs_iset (f : Int → Int) : ∀ (l : List Int) (i : Nat) (x : Int), i < l.length → fs f (iset l i x) = fs f l - f (iget l i) + f x
  | [], i, x, h => by simp at h
  | y :: l, 0, x, h => by simp only [iset, iget, fs]; omega
  | y :: l, i + 1, x, h => by
    have := fs_iset f l i x (by simpa using h)
    simp only [iset, iget, fs, this]; omega
theorem fs_filter (f : Int → Int) (h0 : f 0 = 0) : ∀ l : List Int, fs f (l.filter fun x => !(x == 0)) = fs f l
  | [] => rfl
  | x :: l => by
    rw [List.filter_cons]
    cases hx : x == 0 with
    | true =>
      have e := eq_of_beq hx
      subst e
      simp only [Bool.not_true, Bool.false_eq_true, if_false, fs, h0, fs_filter f h0 l]; omega
    | false => simp only [Bool.not_false, if_true, fs, fs_filter f h0 l]
theorem fs_sub (f g : Int → Int) : ∀ l : List Int, fs (fun x => f x - g x) l = fs f l - fs g l
  | [] => rfl
  | x :: l => by simp only [fs, fs_sub f g l]; omega
theorem fs_congr {f g : Int → Int} : ∀ {l : List Int}, (∀ x ∈ l, f x = g x) → fs f l = fs g l
  | [], _ => rfl
  | x :: l, h => by simp only [fs, h x List.mem_cons_self, fs_congr fun y hy => h y (List.mem_cons_of_mem _ hy)]
theorem fs_bound {f : Int → Int} {m : Int} : ∀ {l : List Int}, (∀ x ∈ l, 0 ≤ f x ∧ f x ≤ m) → 0 ≤ fs f l ∧ fs f l ≤ m * l.length
  | [], _ => by simp [fs]
  | x :: l, h => by
    have h1 := h x List.mem_cons_self
    have h2 := fs_bound (f := f) (m := m) fun y hy => h y (List.mem_cons_of_mem _ hy)
    simp only [fs, List.length_cons]
    rw [show m * ((l.length + 1 : Nat) : Int) = m * (l.length : Int) + m by rw [Int.natCast_add, Int.mul_add]; simp]
    omega
/-- what merges when one more tile comes -/
def rhit (s : RS) (x : Int) : Bool := decide (0 < s.1) && (iget s.2.2.2 (0 + (s.1 - 1) * 1) == x) && decide (x < 17) && !s.2.2.1
def mgs : RS → List Int → List Int
  | _, [] => []
  | s, x :: r => bif rhit s x then (x + 1) :: mgs (rstep s x) r else mgs (rstep s x) r
def RI (s : RS) : Prop := s.2.2.2.length = 4 ∧ ∀ j, s.1 ≤ j → j < 4 → iget s.2.2.2 j = 0
theorem iget_iset (l : List Int) (i j : Nat) (x : Int) (h : i < l.length) : iget (iset l i x) j = if i = j then x else iget l j := by
  rw [igetL, igetL, isetL, List.getElem?_set]
  split
  · rename_i e; subst e; simp [h]
  · rfl
theorem rstep_RI {s : RS} {x : Int} (h : RI s) (hs : s.1 < 4) : RI (rstep s x) := by
  unfold rstep
  cases hc : decide (0 < s.1) && (iget s.2.2.2 (0 + (s.1 - 1) * 1) == x) && decide (x < 17) && !s.2.2.1 with
  | true =>
    have h0 : 0 < s.1 := by simp at hc; omega
    refine ⟨by rw [cond_true]; show (iset _ _ _).length = 4; rw [iset_len]; exact h.1, fun j hj hj4 => ?_⟩
    rw [cond_true] at hj ⊢
    have hj : s.1 ≤ j := hj
    show iget (iset s.2.2.2 _ _) j = 0
    rw [iget_iset _ _ _ _ (by rw [h.1]; omega), if_neg (by omega)]
    exact h.2 j hj hj4
  | false =>
    refine ⟨by rw [cond_false]; show (iset _ _ _).length = 4; rw [iset_len]; exact h.1, fun j hj hj4 => ?_⟩
    rw [cond_false] at hj ⊢
    have hj : s.1 + 1 ≤ j := hj
    show iget (iset s.2.2.2 _ _) j = 0
    rw [iget_iset _ _ _ _ (by rw [h.1]; omega), if_neg (by omega)]
    exact h.2 j (by omega) hj4
theorem rstep_fs (f : Int → Int) (h0 : f 0 = 0) {s : RS} {x : Int} (h : RI s) (hs : s.1 < 4) : fs f (rstep s x).2.2.2 = fs f s.2.2.2 + f x + bif rhit s x then f (x + 1) - 2 * f x else 0 := by
  unfold rstep rhit
  cases hc : decide (0 < s.1) && (iget s.2.2.2 (0 + (s.1 - 1) * 1) == x) && decide (x < 17) && !s.2.2.1 with
  | true =>
    have h1 : 0 < s.1 := by simp at hc; omega
    have h2 : iget s.2.2.2 (0 + (s.1 - 1) * 1) = x := by simp at hc; simpa using hc.1.1.2
    rw [cond_true, cond_true]
    show fs f (iset s.2.2.2 _ _) = _
    rw [fs_iset f _ _ _ (by rw [h.1]; omega), h2]; omega
  | false =>
    rw [cond_false, cond_false]
    show fs f (iset s.2.2.2 _ _) = _
    rw [fs_iset f _ _ _ (by rw [h.1]; omega), h.2 (0 + s.1 * 1) (by omega) (by omega), h0]; omega
theorem rfold_fs (f : Int → Int) (h0 : f 0 = 0) : ∀ (l : List Int) (s : RS), RI s → s.1 + l.length ≤ 4 → fs f (l.foldl rstep s).2.2.2 = fs f s.2.2.2 + fs f l + fs (fun m => f m - 2 * f (m - 1)) (mgs s l)
  | [], s, _, _ => by simp [fs, mgs]
  | x :: l, s, h, hl => by
    simp only [List.length_cons] at hl
    have h1 := rstep_n s x
    have ih := rfold_fs f h0 l (rstep s x) (rstep_RI h (by omega)) (by omega)
    have h2 := rstep_fs f h0 (x := x) h (by omega)
    rw [List.foldl_cons, ih, h2]
    simp only [fs, mgs]
    cases rhit s x with
    | true => simp only [cond_true, fs]; rw [show x + 1 - 1 = x by omega]; omega
    | false => simp only [cond_false]; omega
/-- what has merged is of two tiles -/
theorem mgs_ok : ∀ (l : List Int) (s : RS), (∀ x ∈ l, inB x 1 17 = true) → ∀ m ∈ mgs s l, inB m 2 17 = true
  | [], s, _, m, h => by simp [mgs] at h
  | x :: l, s, hl, m, h => by
    have hx := hl x List.mem_cons_self
    simp only [mgs] at h
    have ih := mgs_ok l (rstep s x) (fun y hy => hl y (List.mem_cons_of_mem _ hy))
    cases hh : rhit s x with
    | false => rw [hh] at h; exact ih m h
    | true =>
      rw [hh, cond_true] at h
      rcases List.mem_cons.1 h with rfl | h
      · unfold rhit at hh
        simp only [Bool.and_eq_true, decide_eq_true_eq] at hh
        simp only [inB, Bool.and_eq_true, decide_eq_true_eq] at hx ⊢
        omega
      · exact ih m h
theorem mgs_len : ∀ (l : List Int) (s : RS), (mgs s l).length ≤ l.length
  | [], s => by simp [mgs]
  | x :: l, s => by
    have := mgs_len l (rstep s x)
    simp only [mgs, List.length_cons]
    cases rhit s x
    · rw [cond_false]; omega
    · rw [cond_true, List.length_cons]; omega
theorem kstep_score {s : RS} {x : Int} : (rstep s x).2.1 = bif rhit s x then IntKind.wrap .i64 (s.2.1 + W (x + 1)) else s.2.1 := by
  unfold rstep rhit
  cases decide (0 < s.1) && (iget s.2.2.2 (0 + (s.1 - 1) * 1) == x) && decide (x < 17) && !s.2.2.1 <;> rfl
theorem W_of {m : Int} (h : inB m 2 17 = true) : 0 ≤ W m ∧ W m ≤ 131072 := by
  have h2 : inB m 0 17 = true := by
    simp only [inB, Bool.and_eq_true, decide_eq_true_eq] at h ⊢; omega
  exact ⟨(W_facts h2).1, (W_facts h2).2.1⟩
theorem kfold_score : ∀ (l : List Int) (s : RS), (∀ x ∈ l, inB x 1 17 = true) → 0 ≤ s.2.1 → s.2.1 + 131072 * l.length ≤ 1000000000 → (l.foldl rstep s).2.1 = s.2.1 + fs W (mgs s l)
  | [], s, _, _, _ => by simp [fs, mgs]
  | x :: l, s, hl, h0, h1 => by
    rw [List.foldl_cons]
    rw [List.length_cons, Int.natCast_add] at h1
    have hsc := kstep_score (s := s) (x := x)
    have hr : ∀ y ∈ l, inB y 1 17 = true := fun y hy => hl y (List.mem_cons_of_mem _ hy)
    cases hh : rhit s x with
    | true =>
      rw [hh, cond_true] at hsc
      have hw := W_of (mgs_ok (x :: l) s hl (x + 1) (by simp only [mgs, hh, cond_true]; exact List.mem_cons_self))
      rw [wrap_of (by omega) (by omega)] at hsc
      rw [kfold_score l _ hr (by omega) (by omega), hsc]
      simp only [mgs, hh, cond_true, fs]; omega
    | false =>
      rw [hh, cond_false] at hsc
      rw [kfold_score l _ hr (by omega) (by omega), hsc]
      simp only [mgs, hh, cond_false]
/-- the mergers of a row, by the tiles that they make -/
def rowM (row : List Int) : List Int := mgs (0, 0, false, [0, 0, 0, 0]) (row.filter fun x => !(x == 0))
theorem row_tiles {row : List Int} (h : ∀ x ∈ row, tileOK x) : ∀ x ∈ row.filter (fun x => !(x == 0)), inB x 1 17 = true := by
  intro x hx
  rw [List.mem_filter] at hx
  have h1 := h x hx.1
  have h2 : x ≠ 0 := by simpa using hx.2
  simp only [tileOK, inB, Bool.and_eq_true, decide_eq_true_eq] at h1 ⊢
  omega
section
variable {row : List Int} (hl : row.length = 4) (h : ∀ x ∈ row, tileOK x)
include hl h
theorem row_fs (f : Int → Int) (h0 : f 0 = 0) : fs f (rslide row).2.2.2 = fs f row + fs (fun m => f m - 2 * f (m - 1)) (rowM row) := by
  have hn : (row.filter fun x => !(x == 0)).length ≤ 4 := by rw [← hl]; exact List.length_filter_le _ _
  have := rfold_fs f h0 (row.filter fun x => !(x == 0)) (0, 0, false, [0, 0, 0, 0]) ⟨rfl, fun j _ hj => by
    obtain rfl | rfl | rfl | rfl : j = 0 ∨ j = 1 ∨ j = 2 ∨ j = 3 := by omega
    all_goals rfl⟩ (by simpa using hn)
  rw [fs_filter f h0] at this
  rw [show fs f ((0 : Nat), (0 : Int), false, [0, 0, 0, 0]).2.2.2 = 0 by simp [fs, h0], Int.zero_add] at this
  exact this
theorem row_score : (rslide row).2.1 = fs W (rowM row) := by
  have hn : (row.filter fun x => !(x == 0)).length ≤ 4 := by rw [← hl]; exact List.length_filter_le _ _
  have := kfold_score (row.filter fun x => !(x == 0)) (0, 0, false, [0, 0, 0, 0]) (row_tiles h) (Int.le_refl _) (by show (0 : Int) + _ ≤ _; omega)
  rw [show ((0 : Nat), (0 : Int), false, [(0 : Int), 0, 0, 0]).2.1 = 0 from rfl, Int.zero_add] at this
  exact this
theorem rowM_ok : ∀ m ∈ rowM row, inB m 2 17 = true := mgs_ok _ _ (row_tiles h)
theorem rowM_len : (rowM row).length ≤ 4 := by
  have hn : (row.filter fun x => !(x == 0)).length ≤ 4 := by rw [← hl]; exact List.length_filter_le _ _
  exact Nat.le_trans (mgs_len _ _) hn
end
/-- the mergers of a slide -/
def boardM (b : List Int) (d : Nat) : List Int := rowM (lineB b d 0) ++ rowM (lineB b d 1) ++ rowM (lineB b d 2) ++ rowM (lineB b d 3)
theorem fs_lines (f : Int → Int) {b : List Int} (hb : b.length = 16) {d : Nat} (hd : d < 4) : fs f b = fs f (lineB b d 0) + fs f (lineB b d 1) + fs f (lineB b d 2) + fs f (lineB b d 3) := by
  obtain ⟨x0, x1, x2, x3, x4, x5, x6, x7, x8, x9, x10, x11, x12, x13, x14, x15, rfl⟩ := list16 hb
  obtain rfl | rfl | rfl | rfl : d = 0 ∨ d = 1 ∨ d = 2 ∨ d = 3 := by omega
  all_goals (simp [fs, lineB, plcD, iget]; omega)
theorem put_lines (b r0 r1 r2 r3 : List Int) (hb : b.length = 16) (h0 : r0.length = 4) (h1 : r1.length = 4) (h2 : r2.length = 4) (h3 : r3.length = 4) {d : Nat} (hd : d < 4) :
    lineB (putB (putB (putB (putB b d 0 r0) d 1 r1) d 2 r2) d 3 r3) d 0 = r0 ∧ lineB (putB (putB (putB (putB b d 0 r0) d 1 r1) d 2 r2) d 3 r3) d 1 = r1 ∧ lineB (putB (putB (putB (putB b d 0 r0) d 1 r1) d 2 r2) d 3 r3) d 2 = r2 ∧ lineB (putB (putB (putB (putB b d 0 r0) d 1 r1) d 2 r2) d 3 r3) d 3 = r3 := by
  obtain ⟨x0, x1, x2, x3, x4, x5, x6, x7, x8, x9, x10, x11, x12, x13, x14, x15, rfl⟩ := list16 hb
  obtain ⟨a0, a1, a2, a3, rfl⟩ := list4 h0
  obtain ⟨c0, c1, c2, c3, rfl⟩ := list4 h1
  obtain ⟨g0, g1, g2, g3, rfl⟩ := list4 h2
  obtain ⟨k0, k1, k2, k3, rfl⟩ := list4 h3
  obtain rfl | rfl | rfl | rfl : d = 0 ∨ d = 1 ∨ d = 2 ∨ d = 3 := by omega
  all_goals exact ⟨by kernel_rfl, by kernel_rfl, by kernel_rfl, by kernel_rfl⟩
section
variable {b : List Int} (hb : b.length = 16) (ok : okB b = true)
include hb ok
theorem slide_lines {d : Nat} (hd : d < 4) {i : Nat} (hi : i < 4) : lineB (slideB b d).1 d i = (rslide (lineB b d i)).2.2.2 := by
  have r := fun i hi => (rslide_ok (line_ok hb ((okB_iff b).1 ok) hd (show i < 4 from hi))).1
  have e : (slideB b d).1 = putB (putB (putB (putB b d 0 (rslide (lineB b d 0)).2.2.2) d 1 (rslide (lineB b d 1)).2.2.2) d 2 (rslide (lineB b d 2)).2.2.2) d 3 (rslide (lineB b d 3)).2.2.2 := rfl
  have h := put_lines b _ _ _ _ hb (r 0 (by omega)) (r 1 (by omega)) (r 2 (by omega)) (r 3 (by omega)) hd
  rw [e]
  obtain rfl | rfl | rfl | rfl : i = 0 ∨ i = 1 ∨ i = 2 ∨ i = 3 := by omega
  · exact h.1
  · exact h.2.1
  · exact h.2.2.1
  · exact h.2.2.2
/-- sums over the tiles behind a slide -/
theorem slide_fs (f : Int → Int) (h0 : f 0 = 0) {d : Nat} (hd : d < 4) : fs f (slideB b d).1 = fs f b + fs (fun m => f m - 2 * f (m - 1)) (boardM b d) := by
  have g := fun i (hi : i < 4) => row_fs (row := lineB b d i) rfl (line_ok hb ((okB_iff b).1 ok) hd hi) f h0
  rw [fs_lines f (slide_ok hb ok hd).1 hd, slide_lines hb ok hd (show 0 < 4 by omega), slide_lines hb ok hd (show 1 < 4 by omega), slide_lines hb ok hd (show 2 < 4 by omega), slide_lines hb ok hd (show 3 < 4 by omega),
    g 0 (by omega), g 1 (by omega), g 2 (by omega), g 3 (by omega), fs_lines f hb hd, boardM, fs_append, fs_append, fs_append]
  omega
theorem boardM_ok {d : Nat} (hd : d < 4) : ∀ m ∈ boardM b d, inB m 2 17 = true := by
  have g := fun i (hi : i < 4) => rowM_ok (row := lineB b d i) rfl (line_ok hb ((okB_iff b).1 ok) hd hi)
  intro m hm
  simp only [boardM, List.mem_append] at hm
  rcases hm with ((h | h) | h) | h
  · exact g 0 (by omega) m h
  · exact g 1 (by omega) m h
  · exact g 2 (by omega) m h
  · exact g 3 (by omega) m h
theorem kslide_score {d : Nat} (hd : d < 4) : (slideB b d).2 = fs W (boardM b d) := by
  have g := fun i (hi : i < 4) => row_score (row := lineB b d i) rfl (line_ok hb ((okB_iff b).1 ok) hd hi)
  have k := fun i (hi : i < 4) => rowM_ok (row := lineB b d i) rfl (line_ok hb ((okB_iff b).1 ok) hd hi)
  have n := fun i (hi : i < 4) => rowM_len (row := lineB b d i) rfl (line_ok hb ((okB_iff b).1 ok) hd hi)
  have w := fun i (hi : i < 4) => fs_bound (f := W) (m := 131072) (l := rowM (lineB b d i)) fun m hm => W_of (k i hi m hm)
  have w0 := w 0 (by omega); have w1 := w 1 (by omega); have w2 := w 2 (by omega); have w3 := w 3 (by omega)
  have n0 := n 0 (by omega); have n1 := n 1 (by omega); have n2 := n 2 (by omega); have n3 := n 3 (by omega)
  have e : (slideB b d).2 = IntKind.wrap .i64 (IntKind.wrap .i64 (IntKind.wrap .i64 (IntKind.wrap .i64 (0 + (rslide (lineB b d 0)).2.1) + (rslide (lineB b d 1)).2.1) + (rslide (lineB b d 2)).2.1) + (rslide (lineB b d 3)).2.1) := rfl
  rw [e, g 0 (by omega), g 1 (by omega), g 2 (by omega), g 3 (by omega), boardM, fs_append, fs_append, fs_append]
  rw [wrap_of (n := 0 + fs W (rowM (lineB b d 0))) (by omega) (by omega), wrap_of (n := 0 + fs W (rowM (lineB b d 0)) + fs W (rowM (lineB b d 1))) (by omega) (by omega), wrap_of (n := 0 + fs W (rowM (lineB b d 0)) + fs W (rowM (lineB b d 1)) + fs W (rowM (lineB b d 2))) (by omega) (by omega), wrap_of (by omega) (by omega)]
  omega
end
theorem W_double {m : Int} (h : inB m 2 17 = true) : W m - 2 * W (m - 1) = 0 := by
  have h2 : inB m 0 17 = true := by
    simp only [inB, Bool.and_eq_true, decide_eq_true_eq] at h ⊢; omega
  rcases tile_cases h2 with e | e | e | e | e | e | e | e | e | e | e | e | e | e | e | e | e | e <;> subst e <;> revert h <;> decide
theorem fs_zero {f : Int → Int} : ∀ {l : List Int}, (∀ x ∈ l, f x = 0) → fs f l = 0
  | [], _ => rfl
  | x :: l, h => by simp only [fs, h x List.mem_cons_self, fs_zero fun y hy => h y (List.mem_cons_of_mem _ hy)]; rfl
theorem sumB_fs (b : List Int) : sumB b = fs W b := by
  rw [sumB, fs_foldl]; omega
/-- a slide keeps the sum -/
theorem slide_sum {b : List Int} (hb : b.length = 16) (ok : okB b = true) {d : Nat} (hd : d < 4) : sumB (slideB b d).1 = sumB b := by
  rw [sumB_fs, sumB_fs, slide_fs hb ok W rfl hd, fs_zero fun m hm => W_double (boardM_ok hb ok hd m hm)]
  omega
end Go.Lv.P

namespace Go.Lv.P
open Go Go.Lv
def rstep2 (s : RS × List Bool) (x : Int) : RS × List Bool := (rstep s.1 x, bif decide (0 < s.1.1) && (iget s.1.2.2.2 (0 + (s.1.1 - 1) * 1) == x) && decide (x < 17) && !s.1.2.2.1 then bset s.2 (0 + (s.1.1 - 1) * 1) true else s.2)
def rslide2 (row : List Int) : RS × List Bool := (row.filter fun x => !(x == 0)).foldl rstep2 ((0, 0, false, [0, 0, 0, 0]), [false, false, false, false])
theorem rfold2_fst : ∀ (l : List Int) (s : RS × List Bool), (l.foldl rstep2 s).1 = l.foldl rstep s.1
  | [], s => rfl
  | x :: l, s => by rw [List.foldl_cons, List.foldl_cons, rfold2_fst l]; rfl
theorem fld_listG {A : Type} (l : List Int) (g : A → Int → A) : ∀ (m i : Nat) (a : A), i + m = l.length → fld (fun i s => g s (iget l i)) i m a = (l.drop i).foldl g a
  | 0, i, a, h => by rw [List.drop_eq_nil_of_le (by omega)]; rfl
  | m + 1, i, a, h => by
    have hi : i < l.length := by omega
    rw [fld, fld_listG l g m (i + 1) _ (by omega), List.drop_eq_getElem_cons hi, List.foldl_cons, igetL, List.getElem?_eq_getElem hi]; rfl
theorem rslide2_fst (row : List Int) : (rslide2 row).1 = rslide row := rfold2_fst _ _
theorem impl_row2 (F : Nat) (row : List Int) (h4 : row.length = 4) (hr : ∀ x ∈ row, inB x 0 17 = true) (hF : 1000 < F) : impl_slideRow_p F row = some ((rslide row).2.2.2, (rslide row).2.1, (rslide2 row).2) := by
  have hs4 : sub row 0 4 = row := by obtain ⟨a, b, c, d, rfl⟩ := list4 h4; rfl
  obtain ⟨r, d1, d2⟩ := DeleteFunc_tiles F row (fun x => x == 0) (by omega) hF (fun x _ => rfl)
  have ht : impl_tiles_p F row = some r := by
    have hf : fits row.length 8 = true := fits_of (by omega) (by omega)
    simp only [impl_tiles_p, impl_tiles_c, hs4, d1, hf, Option.isSome_some, Option.getD_some, cond_true, beq_selfL, Bool.and_self]
  obtain ⟨m, mem⟩ := r
  have hm : m = (row.filter fun x => !(x == 0)).length := d2.1
  have hl : ∀ i, i < m → iget mem (0 + i) = iget (row.filter fun x => !(x == 0)) i := fun i hi => d2.get hi
  have hm4 : m ≤ 4 := by rw [hm, ← h4]; exact List.length_filter_le _ _
  have hx : ∀ i, i < m → inB (iget (row.filter fun x => !(x == 0)) i) 1 17 = true := fun i hi => by
    have hm : iget (row.filter fun x => !(x == 0)) i ∈ row.filter fun x => !(x == 0) := by
      rw [igetL, List.getElem?_eq_getElem (by omega)]
      exact List.getElem_mem _
    generalize iget (row.filter fun x => !(x == 0)) i = y at hm ⊢
    have this := List.mem_filter.1 hm
    have h1 := hr _ this.1
    have h2 : y ≠ 0 := by simpa using this.2
    simp [inB] at h1
    show inB y 1 17 = true
    simp [inB]
    omega
  have h := loop_fold (step := impl_slideRow_s3 F m m mem) (fun i (s : RS × List Bool) => (s.1.2.1, (s.1.1 : Int), i, s.1.2.2.2, s.2)) m
    (fun i s => (rstep s.1 (iget (row.filter fun x => !(x == 0)) i), bif decide (0 < s.1.1) && (iget s.1.2.2.2 (0 + (s.1.1 - 1) * 1) == iget (row.filter fun x => !(x == 0)) i) && decide (iget (row.filter fun x => !(x == 0)) i < 17) && !s.1.2.2.1 then bset s.2 (0 + (s.1.1 - 1) * 1) true else s.2)) (fun s => (s.1.2.1, s.1.2.2.2, s.2))
    (fun i s => s.1.1 ≤ i ∧ s.2.length = 4 ∧ (0 < s.1.1 → bget s.2 (0 + (s.1.1 - 1) * 1) = s.1.2.2.1) ∧ ∀ j, s.1.1 ≤ j → bget s.2 j = false) (F := F) (by omega) (by omega) (a := ((0, 0, false, [0, 0, 0, 0]), [false, false, false, false]))
    ⟨Nat.le_refl 0, rfl, fun h => absurd h (by decide), fun j _ => by rw [bgetL]; rcases j with _ | _ | _ | _ | j <;> simp⟩
    (fun i s hi hI => by
      obtain ⟨⟨n, sc, mg, out⟩, ms⟩ := s
      obtain ⟨i1, i2, i3, i4⟩ := hI
      simp only at i1 i2 i3 i4 ⊢
      have hxi := hx i hi
      have hi' : (i : Int) < (m : Int) := by omega
      have hn4 : n < 4 := by omega
      have hsn : IntKind.wrap .i64 ((n : Int) + 1) = ((n + 1 : Nat) : Int) := wrap_succ (n := 4) hn4 (by omega)
      simp only [impl_slideRow_s3, hi', inR_cast, hi, Int.toNat_natCast, decide_true, cond_true, hl i hi, hn4]
      generalize iget (row.filter fun x => !(x == 0)) i = x at hxi ⊢
      have hx1 : 1 ≤ x ∧ x ≤ 17 := by simpa [inB] using hxi
      have push : (n + 1 ≤ i + 1 ∧ ms.length = 4 ∧ (0 < n + 1 → bget ms (0 + (n + 1 - 1) * 1) = false) ∧ ∀ j, n + 1 ≤ j → bget ms j = false) := ⟨by omega, i2, fun _ => i4 _ (by omega), fun j hj => i4 j (by omega)⟩
      by_cases hn : 0 < n
      · have hn' : (0 : Int) < (n : Int) := by omega
        have hp := wrap_pred hn (by omega)
        have hp4 : n - 1 < 4 := by omega
        have hmg := i3 hn
        simp only [hn', decide_true, cond_true, hp, inR_cast, hp4, Int.toNat_natCast, rstep, hn, Bool.true_and, hsn, hn4, hmg]
        cases hq : iget out (0 + (n - 1) * 1) == x with
        | false => exact ⟨push, fun Q kn kx => by first | rfl | trivial⟩
        | true =>
          by_cases h17 : x < 17
          · have hw : IntKind.wrap .i64 (x + 1) = x + 1 := wrap_of (by omega) (by omega)
            have hwo : impl_worth_p (x + 1) = some (W (x + 1)) := worth_eq (by simp [inB]; omega)
            cases mg with
            | true =>
              simp only [h17, decide_true, cond_true, Bool.not_true, cond_false, Bool.true_and]
              exact ⟨push, fun Q kn kx => by first | rfl | trivial⟩
            | false =>
              simp only [h17, decide_true, cond_true, Bool.not_false, hw, hwo, Option.isSome_some, Option.getD_some, Bool.true_and]
              refine ⟨⟨by omega, by rw [bsetL]; simpa using i2, fun _ => ?_, fun j hj => ?_⟩, fun Q kn kx => by first | rfl | trivial⟩
              · rw [bsetL, bgetL, List.getElem?_set_self (by omega)]; rfl
              · rw [bsetL, bgetL, List.getElem?_set_ne (by omega), ← bgetL]
                exact i4 j hj
          · simp only [h17, decide_false, cond_false, cond_true, Bool.and_false, Bool.false_and, Bool.true_and]
            exact ⟨push, fun Q kn kx => by first | rfl | trivial⟩
      · have hn' : ¬ (0 : Int) < (n : Int) := by omega
        simp only [cond_false, hn', decide_false, cond_true, rstep, hn, Bool.false_and, hsn, inR_cast, hn4, decide_true, Int.toNat_natCast]
        exact ⟨push, fun Q kn kx => by first | rfl | trivial⟩)
    (fun s _ Q kn kx => by simp [impl_slideRow_s3])
  have hh : fld (fun i (s : RS × List Bool) => (rstep s.1 (iget (row.filter fun x => !(x == 0)) i), bif decide (0 < s.1.1) && (iget s.1.2.2.2 (0 + (s.1.1 - 1) * 1) == iget (row.filter fun x => !(x == 0)) i) && decide (iget (row.filter fun x => !(x == 0)) i < 17) && !s.1.2.2.1 then bset s.2 (0 + (s.1.1 - 1) * 1) true else s.2)) 0 m ((0, 0, false, [0, 0, 0, 0]), [false, false, false, false]) = rslide2 row := by
    have hg := fld_listG (row.filter fun x => !(x == 0)) rstep2 m 0 ((0, 0, false, [0, 0, 0, 0]), [false, false, false, false]) (by omega)
    rw [List.drop_zero] at hg
    exact hg
  have e : impl_slideRow_l3 F m m mem 0 0 0 [0, 0, 0, 0] [false, false, false, false] = some ((rslide2 row).1.2.1, (rslide2 row).1.2.2.2, (rslide2 row).2) := by
    rw [← hh]; exact h.1
  rw [rslide2_fst] at e
  simp only [impl_slideRow_p, impl_slideRow_c, ht, e, Option.isSome_some, Option.getD_some, cond_true]
end Go.Lv.P

namespace Go.Lv.P
open Go Go.Lv
set_option maxRecDepth 100000
theorem impl_line (b : List Int) {d i : Nat} (hd : d < 4) (hi : i < 4) : impl_Board_line_p b d i = some (lineB b d i) := by
  obtain rfl | rfl | rfl | rfl : d = 0 ∨ d = 1 ∨ d = 2 ∨ d = 3 := by omega
  all_goals
    obtain rfl | rfl | rfl | rfl : i = 0 ∨ i = 1 ∨ i = 2 ∨ i = 3 := by omega
    all_goals rfl
theorem impl_with (b row : List Int) {d i : Nat} (hd : d < 4) (hi : i < 4) : impl_Board_withLine_p b d i row = some (putB b d i row) := by
  obtain rfl | rfl | rfl | rfl : d = 0 ∨ d = 1 ∨ d = 2 ∨ d = 3 := by omega
  all_goals
    obtain rfl | rfl | rfl | rfl : i = 0 ∨ i = 1 ∨ i = 2 ∨ i = 3 := by omega
    all_goals rfl
section
variable {b : List Int} (hb : b.length = 16) (ok : okB b = true)
include hb ok
theorem impl_slide (F : Nat) (hF : 1000 < F) {d : Nat} (hd : d < 4) : ∃ m, impl_Board_slide_p F b d = some ((slideB b d).1, (slideB b d).2, m) := by
  have l8 : ∀ (sc : Int) (t : Int) (ms : List Bool) (b' out : List Int) (m : Int), ∃ m', impl_Board_slide_l8 F d sc t ms b' out m 0 = some m' := fun sc t ms b' out m =>
    ⟨_, (loop_fold (step := impl_Board_slide_s8 F d sc t ms b' out) (fun i (a : Int) => (a, i)) 4 (fun i a => bif bget ms (i * 1) then IntKind.wrap .i64 (a + 1) else a) (fun a => a) (fun _ _ => True) (F := F) (by omega) (by omega) (a := m) trivial (fun i a hi _ => ⟨trivial, fun Q kn kx => by
      have hi' : (i : Int) < 4 := by omega
      simp only [impl_Board_slide_s8, hi', inR_cast, hi, Int.toNat_natCast, decide_true, cond_true]
      cases bget ms (i * 1) <;> rfl⟩) (fun a _ Q kn kx => by simp [impl_Board_slide_s8])).1⟩
  have row : ∀ i, i < 4 → ∃ mg, impl_slideRow_p F (lineB b d i) = some ((rslide (lineB b d i)).2.2.2, (rslide (lineB b d i)).2.1, mg) := fun i hi => impl_row F _ rfl (line_ok hb ((okB_iff b).1 ok) hd hi) hF
  have step : ∀ (i : Nat) (m : Int) (s : List Int × Int), i < 4 → ∃ m' : Int, ∀ (Q : Type) kn kx, impl_Board_slide_s3 F d b Q (s.2, m, (i : Int), s.1) kn kx = kn ((sstep b d i s).2, m', IntKind.wrap .i64 ((i : Int) + 1), (sstep b d i s).1) := fun i m s hi => by
    obtain ⟨mg, hr⟩ := row i hi
    obtain ⟨m', h8⟩ := l8 (IntKind.wrap .i64 (s.2 + (rslide (lineB b d i)).2.1)) i mg b (putB s.1 d i (rslide (lineB b d i)).2.2.2) m
    refine ⟨m', fun Q kn kx => ?_⟩
    have hi' : (i : Int) < 4 := by omega
    simp only [impl_Board_slide_s3, hi', decide_true, cond_true, impl_line b hd hi, hr, impl_with _ _ hd hi, h8, Option.isSome_some, Option.getD_some, sstep]
  obtain ⟨G, rfl⟩ : ∃ G, F = G + 5 := ⟨F - 5, by omega⟩
  obtain ⟨m1, h1⟩ := step 0 0 (b, 0) (by omega)
  obtain ⟨m2, h2⟩ := step 1 m1 _ (by omega)
  obtain ⟨m3, h3⟩ := step 2 m2 _ (by omega)
  obtain ⟨m4, h4⟩ := step 3 m3 _ (by omega)
  have e : impl_Board_slide_l3 (G + 5) d b 0 0 0 b = some ((slideB b d).2, m4, (slideB b d).1) := by
    have w : ∀ n : Nat, n < 4 → IntKind.wrap .i64 ((n : Int) + 1) = ((n + 1 : Nat) : Int) := fun n hn => wrap_succ hn (by omega)
    show loopC _ (G + 5) ((b, (0 : Int)).2, (0 : Int), ((0 : Nat) : Int), (b, (0 : Int)).1) some = _
    simp only [loopC]
    rw [h1, w 0 (by omega), h2, w 1 (by omega), h3, w 2 (by omega), h4, w 3 (by omega)]
    simp [impl_Board_slide_s3]
    exact ⟨rfl, rfl⟩
  exact ⟨m4, by simp only [impl_Board_slide_p, impl_Board_slide_c, e, Option.isSome_some, Option.getD_some, cond_true]⟩
end
end Go.Lv.P


namespace Go.Lv.P
open Go Go.Lv
theorem sum_val (F : Nat) (hF : 1000 < F) {b : List Int} (hb : b.length = 16) (ok : okB b = true) : impl_SumOf_p F b = some (sumB b, true) := by
  simp only [impl_SumOf_p, impl_SumOf_c, impl_IsBoard_eq F b hb hF, ok, impl_sum_eq b hb ok, Option.isSome_some, Option.getD_some, cond_true, cond_false, Bool.not_true]
end Go.Lv.P

namespace Go.Lv.P
open Go Go.Lv
theorem bitLenAux_eq : ∀ (f n : Nat), n < 2 ^ f → Go.Lib.bitLenAux f n = if n = 0 then 0 else n.log2 + 1
  | 0, n, h => by
    obtain rfl : n = 0 := by omega
    rfl
  | f + 1, n, h => by
    rw [Nat.pow_succ] at h
    rw [Go.Lib.bitLenAux]
    by_cases h0 : n = 0
    · rw [if_pos h0, if_pos h0]
    · rw [if_neg h0, if_neg h0, bitLenAux_eq f (n / 2) (by omega)]
      rw [Nat.log2_def n]
      by_cases h2 : n ≥ 2
      · rw [if_neg (by omega), if_pos h2]; omega
      · rw [if_pos (by omega), if_neg h2]
/-- the highest tile of a sum -/
def top (n : Nat) : Nat := min 17 n.log2
theorem len_eq (n : Nat) (h : n < 2 ^ 63) : math_bits_Len_p (IntKind.wrap .u64 (n : Int)) = some (((if n = 0 then 0 else n.log2 + 1 : Nat) : Nat) : Int) := by
  rw [wu n (by omega)]
  have h1 : decide ((0 : Int) ≤ (n : Int)) = true := decide_eq_true (by omega)
  have h2 : decide ((n : Int) ≤ 18446744073709551615) = true := decide_eq_true (by omega)
  simp only [math_bits_Len_p, math_bits_Len_c, h1, h2, Bool.and_self, cond_true, math_bits_Len64_v, Int.toNat_natCast, Go.Lib.bitLen]
  rw [bitLenAux_eq 64 n (by omega)]
theorem lst_top : ∀ (k n : Nat), 2 ≤ n → 1 ≤ k → lst k n = ((min k n.log2 : Nat) : Int) :: lst k (n - 2 ^ min k n.log2)
  | 0, n, h, hk => absurd hk (by omega)
  | k + 1, n, h, _ => by
    have hn0 : n ≠ 0 := by omega
    have hpos : 0 < 2 ^ (k + 1) := Nat.two_pow_pos _
    by_cases hq : 2 ^ (k + 1) ≤ n
    · have hm : min (k + 1) n.log2 = k + 1 := Nat.min_eq_left ((Nat.le_log2 hn0).2 hq)
      rw [hm, lst, lst, Nat.mod_eq_sub_mod hq]
      obtain ⟨m, rfl⟩ : ∃ m, n = m + 2 ^ (k + 1) := ⟨n - 2 ^ (k + 1), by omega⟩
      rw [Nat.add_sub_cancel, Nat.add_div_right _ hpos, List.replicate_succ]
      rfl
    · have hlt : n < 2 ^ (k + 1) := by omega
      have hk1 : 1 ≤ k := by
        rcases k with _ | k
        · exact absurd hlt (by omega)
        · omega
      have hlg : n.log2 < k + 1 := (Nat.log2_lt hn0).2 hlt
      have hm : min (k + 1) n.log2 = min k n.log2 := by omega
      have ih := lst_top k n h hk1
      rw [hm, lst, lst, Nat.div_eq_of_lt hlt, Nat.mod_eq_of_lt hlt]
      have hlt2 : n - 2 ^ min k n.log2 < 2 ^ (k + 1) := Nat.lt_of_le_of_lt (Nat.sub_le _ _) hlt
      rw [Nat.div_eq_of_lt hlt2, Nat.mod_eq_of_lt hlt2]
      simpa using ih
theorem top_facts {n : Nat} (h : 2 ≤ n) (he : n % 2 = 0) : 1 ≤ top n ∧ top n ≤ 17 ∧ 2 ^ top n ≤ n ∧ (n - 2 ^ top n) % 2 = 0 := by
  have hn0 : n ≠ 0 := by omega
  have h1 : 1 ≤ n.log2 := (Nat.le_log2 hn0).2 (by omega)
  have ht : 1 ≤ top n := by unfold top; omega
  have hp : 2 ^ top n ≤ n := Nat.le_trans (Nat.pow_le_pow_right (by omega) (Nat.min_le_right _ _)) (Nat.log2_self_le hn0)
  refine ⟨ht, by unfold top; omega, hp, ?_⟩
  obtain ⟨j, hj⟩ : ∃ j, top n = j + 1 := ⟨top n - 1, by omega⟩
  rw [hj, Nat.pow_succ] at hp ⊢
  omega
theorem lst_zero (k : Nat) : lst k 0 = [] := by
  induction k with
  | zero => rfl
  | succ k ih => simp [lst, ih]
end Go.Lv.P

namespace Go.Lv.P
open Go Go.Lv
/-- the number of tiles -/
def isT (x : Int) : Int := if x = 0 then 0 else 1
/-- how often a tile is in a list -/
def isN (t x : Int) : Int := if x = t then 1 else 0
def bump (out : List Int) (x : Int) : List Int := iset out (0 + x.toNat * 1) (IntKind.wrap .i64 (iget out (0 + x.toNat * 1) + 1))
theorem bump_get {out : List Int} (hl : out.length = 18) {x : Int} (hx : inB x 0 17 = true) (h0 : 0 ≤ iget out x.toNat ∧ iget out x.toNat ≤ 1000000) (t : Nat) (ht : t < 18) : iget (bump out x) t = iget out t + isN (t : Int) x := by
  simp [inB] at hx
  unfold bump isN
  rw [iget_iset _ _ _ _ (by omega), wrap_of (by simp only [Nat.mul_one, Nat.zero_add]; omega) (by simp only [Nat.mul_one, Nat.zero_add]; omega)]
  simp only [Nat.mul_one, Nat.zero_add]
  by_cases h : x.toNat = t
  · have h' : x = (t : Int) := by omega
    rw [if_pos h, if_pos h', h]
  · have h' : ¬ x = (t : Int) := by omega
    rw [if_neg h, if_neg h']; omega
theorem bumps_get : ∀ (l : List Int) (out : List Int), out.length = 18 → (∀ x ∈ l, inB x 0 17 = true) → l.length ≤ 1000 → (∀ t, t < 18 → 0 ≤ iget out t ∧ iget out t + l.length ≤ 100000) → ∀ t : Nat, t < 18 → iget (l.foldl bump out) t = iget out t + fs (isN (t : Int)) l
  | [], out, _, _, _, _, t, _ => by simp [fs]
  | x :: l, out, hl, hx, hn, hb, t, ht => by
    have hx0 := hx x List.mem_cons_self
    have hx1 : 0 ≤ x ∧ x ≤ 17 := by simpa [inB] using hx0
    simp only [List.length_cons] at hn hb
    have g := fun t (ht : t < 18) => bump_get hl hx0 (by have := hb x.toNat (by omega); omega) t ht
    have hlen : (bump out x).length = 18 := by unfold bump; rw [isetL, List.length_set, hl]
    have nn : ∀ t : Nat, 0 ≤ isN (t : Int) x ∧ isN (t : Int) x ≤ 1 := fun t => by unfold isN; split <;> omega
    rw [List.foldl_cons, bumps_get l (bump out x) hlen (fun y hy => hx y (List.mem_cons_of_mem _ hy)) (by omega) (fun t ht => by have := g t ht; have := hb t ht; have := nn t; omega) t ht, g t ht, fs]
    omega
abbrev zero18 : List Int := [0, 0, 0, 0, 0, 0, 0, 0, 0, 0, 0, 0, 0, 0, 0, 0, 0, 0]
theorem count_get {b : List Int} (hb : b.length = 16) (ok : ∀ x ∈ b, inB x 0 17 = true) (t : Nat) (ht : t < 18) : iget (b.foldl bump zero18) t = fs (isN (t : Int)) b := by
  have z : ∀ t, t < 18 → iget zero18 t = 0 := fun t ht => by
    obtain rfl | rfl | rfl | rfl | rfl | rfl | rfl | rfl | rfl | rfl | rfl | rfl | rfl | rfl | rfl | rfl | rfl | rfl : t = 0 ∨ t = 1 ∨ t = 2 ∨ t = 3 ∨ t = 4 ∨ t = 5 ∨ t = 6 ∨ t = 7 ∨ t = 8 ∨ t = 9 ∨ t = 10 ∨ t = 11 ∨ t = 12 ∨ t = 13 ∨ t = 14 ∨ t = 15 ∨ t = 16 ∨ t = 17 := by omega
    all_goals rfl
  rw [bumps_get b zero18 rfl ok (by omega) (fun t ht => by rw [z t ht]; omega) t ht, z t ht]; omega
theorem fs_nonneg {f : Int → Int} (h : ∀ x, 0 ≤ f x) : ∀ l : List Int, 0 ≤ fs f l
  | [] => Int.le_refl _
  | x :: l => by have := fs_nonneg h l; have := h x; simp only [fs]; omega
theorem isN_nn (t x : Int) : 0 ≤ isN t x := by unfold isN; split <;> omega
theorem fs_mem {t : Int} : ∀ {l : List Int} {p : Nat}, p < l.length → iget l p = t → 1 ≤ fs (isN t) l
  | [], p, h, _ => by simp at h
  | x :: l, 0, _, e => by
    have e : x = t := e
    have := fs_nonneg (isN_nn t) l
    simp only [fs, isN, e, if_true]; omega
  | x :: l, p + 1, h, e => by
    have := fs_mem (t := t) (l := l) (p := p) (by simpa using h) e
    have := isN_nn t x
    simp only [fs]; omega
theorem fs_two {t : Int} : ∀ {l : List Int} {p q : Nat}, p < q → q < l.length → iget l p = t → iget l q = t → 2 ≤ fs (isN t) l
  | [], p, q, _, h, _, _ => by simp at h
  | x :: l, 0, q + 1, _, h, e1, e2 => by
    have e1 : x = t := e1
    have := fs_mem (t := t) (l := l) (p := q) (by simpa using h) e2
    simp only [fs, isN, e1, if_true]; omega
  | x :: l, p + 1, q + 1, hpq, h, e1, e2 => by
    have := fs_two (t := t) (l := l) (p := p) (q := q) (by omega) (by simpa using h) e1 e2
    have := isN_nn t x
    simp only [fs]; omega
/-- no tile is there twice -/
def Dis (b : List Int) : Prop := ∀ p q : Nat, p < 16 → q < 16 → p ≠ q → iget b p = iget b q → iget b p = 0
theorem dis_of {b : List Int} (hb : b.length = 16) (ok : ∀ x ∈ b, inB x 0 17 = true) (h : ∀ t : Nat, 1 ≤ t → t ≤ 17 → fs (isN (t : Int)) b ≤ 1) : Dis b := by
  intro p q hp hq hpq e
  have hin : inB (iget b p) 0 17 = true := by
    rw [igetL, List.getElem?_eq_getElem (by omega)]; exact ok _ (List.getElem_mem _)
  simp [inB] at hin
  obtain ⟨t, ht⟩ := Int.eq_ofNat_of_zero_le hin.1
  by_cases h0 : t = 0
  · rw [ht, h0]; rfl
  · have := h t (by omega) (by omega)
    rcases Nat.lt_or_gt_of_ne hpq with h1 | h1
    · have := fs_two h1 (by omega) ht (by rw [← e, ht]); omega
    · have := fs_two h1 (by omega) (by rw [← e, ht]) ht; omega
end Go.Lv.P

namespace Go.Lv.P
open Go Go.Lv
abbrev cellsP : List (List Int) := [[0, 0], [0, 1], [0, 2], [0, 3], [1, 0], [1, 1], [1, 2], [1, 3], [2, 0], [2, 1], [2, 2], [2, 3], [3, 0], [3, 1], [3, 2], [3, 3]]
theorem at_cellP (b : List Int) : ∀ i : Nat, i < 16 → impl_Board_at_p (rget cellsP (0 + i)) b = some i := by
  intro i hi
  obtain rfl | rfl | rfl | rfl | rfl | rfl | rfl | rfl | rfl | rfl | rfl | rfl | rfl | rfl | rfl | rfl : i = 0 ∨ i = 1 ∨ i = 2 ∨ i = 3 ∨ i = 4 ∨ i = 5 ∨ i = 6 ∨ i = 7 ∨ i = 8 ∨ i = 9 ∨ i = 10 ∨ i = 11 ∨ i = 12 ∨ i = 13 ∨ i = 14 ∨ i = 15 := by omega
  all_goals rfl
theorem worth_top (t : Nat) (h1 : 1 ≤ t) (h2 : t ≤ 17) : impl_worth_p (t : Int) = some ((2 ^ t : Nat) : Int) := by
  obtain rfl | rfl | rfl | rfl | rfl | rfl | rfl | rfl | rfl | rfl | rfl | rfl | rfl | rfl | rfl | rfl | rfl : t = 1 ∨ t = 2 ∨ t = 3 ∨ t = 4 ∨ t = 5 ∨ t = 6 ∨ t = 7 ∨ t = 8 ∨ t = 9 ∨ t = 10 ∨ t = 11 ∨ t = 12 ∨ t = 13 ∨ t = 14 ∨ t = 15 ∨ t = 16 ∨ t = 17 := by omega
  all_goals kernel_rfl
theorem drop_cons {l r : List Int} {x : Int} {i : Nat} (h : l.drop i = x :: r) : i < l.length ∧ iget l i = x ∧ l.drop (i + 1) = r := by
  have hi : i < l.length := by
    by_cases h1 : i < l.length
    · exact h1
    · rw [List.drop_eq_nil_of_le (by omega)] at h; cases h
  rw [List.drop_eq_getElem_cons hi] at h
  injection h with h1 h2
  exact ⟨hi, by rw [igetL, List.getElem?_eq_getElem hi, ← h1]; rfl, h2⟩
theorem packed_two (F : Nat) (s : Int) (hF : 1000 < F) : ∃ v, spec_PackedBoard_p F s = some v ∧ impl_PackedBoard_p F s = some v := by
  simp only [spec_PackedBoard_p, spec_PackedBoard_c, impl_PackedBoard_p, impl_PackedBoard_c, sumfor_same F s hF, Option.isSome_some, Option.getD_some, cond_true]
  cases h : impl_isFor_v s with
  | false => exact ⟨_, rfl, rfl⟩
  | true =>
    obtain ⟨n, rfl, hn, he⟩ := isFor_nat h
    have hlen : (lst 17 n).length ≤ 16 := by
      have h' := h
      simp only [impl_isFor_v, least_impl n hn he] at h'
      cases h1 : impl_isSum_v (n : Int) with
      | false => rw [h1] at h'; exact absurd (show false = true from h') (by decide)
      | true =>
        cases h2 : Int.tmod (n : Int) 2 == 0 with
        | false => rw [h1, h2] at h'; exact absurd (show false = true from h') (by decide)
        | true =>
          rw [h1, h2] at h'
          simp only [cond_true, decide_eq_true_eq] at h'
          rw [lst_len]
          omega
    have e1 : spec_PackedBoard_l5 F (lst 17 n) 0 zero16 = some (laid (lst 17 n) (lst 17 n).length) := by
      refine (loop_fold (step := spec_PackedBoard_s5 F (lst 17 n)) (fun i a => (i, a)) (lst 17 n).length (fun i b => iset b i (iget (lst 17 n) i)) (fun a => a) (fun _ _ => True) (F := F) (by omega) (by omega) (a := zero16) trivial (fun i b hi _ => ⟨trivial, fun Q kn kx => ?_⟩) (fun a _ Q kn kx => by simp [spec_PackedBoard_s5])).1
      simp only [spec_PackedBoard_s5, Int.ofNat_lt, inR_cast, hi, Int.toNat_natCast, decide_true, cond_true, Nat.zero_add, put_at b _ i (by omega), Option.isSome_some, Option.getD_some]
    have e2 : impl_PackedBoard_l5 F n 0 zero16 = some (laid (lst 17 n) (lst 17 n).length) := by
      have hh := loop_fold (step := impl_PackedBoard_s5 F) (fun i (a : Nat × List Int) => ((a.1 : Int), i, a.2)) 16 (fun i a => if a.1 = 0 then a else (a.1 - 2 ^ top a.1, iset a.2 i ((top a.1 : Nat) : Int))) (fun a => a.2) (fun i a => a.1 ≤ 2097152 ∧ a.1 % 2 = 0 ∧ lst 17 a.1 = (lst 17 n).drop i ∧ a.2 = laid (lst 17 n) (min i (lst 17 n).length)) (F := F) (by omega) (by omega) (a := (n, zero16)) ⟨hn, he, rfl, by simp [laid, fld]⟩
        (fun i a hi ⟨h1, h2, h3, h4⟩ => by
          obtain ⟨m, b⟩ := a
          simp only at h1 h2 h3 h4 ⊢
          have hi' : (i : Int) < 16 := by omega
          by_cases h0 : m = 0
          · subst h0
            rw [lst_zero] at h3
            have hle : (lst 17 n).length ≤ i := List.drop_eq_nil_iff.1 h3.symm
            refine ⟨⟨h1, h2, ?_, ?_⟩, fun Q kn kx => ?_⟩
            · show lst 17 0 = _
              rw [lst_zero, List.drop_eq_nil_of_le (by omega)]
            · show b = _
              rw [h4, Nat.min_eq_right hle, Nat.min_eq_right (by omega)]
            · simp only [impl_PackedBoard_s5, hi', inR_cast, hi, decide_true, cond_true, if_true]
              rfl
          · have hm2 : 2 ≤ m := by omega
            obtain ⟨t1, t2, t3, t4⟩ := top_facts hm2 h2
            have ht := lst_top 17 m hm2 (by omega)
            rw [h3] at ht
            obtain ⟨d1, d2, d3⟩ := drop_cons ht
            have d2 : iget (lst 17 n) i = ((top m : Nat) : Int) := d2
            have d3 : (lst 17 n).drop (i + 1) = lst 17 (m - 2 ^ top m) := d3
            simp only [h0, if_false]
            have hlg : m.log2 < 64 := (Nat.log2_lt h0).2 (by omega)
            refine ⟨⟨Nat.le_trans (Nat.sub_le _ _) h1, t4, d3.symm, ?_⟩, fun Q kn kx => ?_⟩
            · rw [h4, Nat.min_eq_left (by omega), Nat.min_eq_left (by omega), laid_succ, d2]
            · have hp : decide ((0 : Int) < (m : Int)) = true := decide_eq_true (by omega)
              have hw : IntKind.wrap .i64 (((m.log2 + 1 : Nat) : Int) - 1) = (m.log2 : Int) := by
                rw [wrap_of (by omega) (by omega)]; omega
              have e : (if (17 : Int) < (m.log2 : Int) then (17 : Int) else (m.log2 : Int)) = ((top m : Nat) : Int) := by
                unfold top
                by_cases hh : 17 < m.log2
                · rw [if_pos (by omega), Nat.min_eq_left (by omega)]; rfl
                · rw [if_neg (by omega), Nat.min_eq_right (by omega)]
              have hs : IntKind.wrap .i64 ((m : Int) - ((2 ^ top m : Nat) : Int)) = ((m - 2 ^ top m : Nat) : Int) := by
                have : ∀ p : Nat, p ≤ m → IntKind.wrap .i64 ((m : Int) - (p : Int)) = ((m - p : Nat) : Int) := fun p hp => by
                  rw [wrap_of (by omega) (by omega)]; omega
                exact this _ t3
              simp only [impl_PackedBoard_s5, hi', inR_cast, hi, Int.toNat_natCast, decide_true, cond_true, hp, len_eq m (by omega), h0, if_false, Option.isSome_some, Option.getD_some, at_cellP b i hi, hw, e, worth_top (top m) t1 t2, hs])
        (fun a _ Q kn kx => by simp [impl_PackedBoard_s5])
      refine hh.1.trans (congrArg some ?_)
      rw [hh.2.2.2.2, Nat.min_eq_right hlen]
    refine ⟨(laid (lst 17 n) (lst 17 n).length, true), ?_, ?_⟩
    · simp only [least_list F n hF hn, e1, Option.isSome_some, Option.getD_some, cond_true, Bool.not_true, cond_false, beq_selfL, Bool.and_self]
    · simp only [e2, Option.isSome_some, Option.getD_some, cond_true, Bool.not_true, cond_false]
theorem packed_both (F : Nat) (s : Int) (hF : 1000 < F) : impl_PackedBoard_p F s = some (bif sumV s then (laid (lst 17 s.toNat) (lst 17 s.toNat).length, true) else (zero16, false)) := by
  obtain ⟨v, h1, h2⟩ := packed_two F s hF
  rw [packed_spec_val F s hF] at h1
  rw [h2, ← h1]
end Go.Lv.P

namespace Go.Lv.P
open Go Go.Lv
def pst (x s : Int) : Int := bif decide ((0 : Int) < x) then IntKind.wrap .i64 (s + IntKind.wrap .i64 (IntKind.wrap .i64 (x - 1) * W x)) else s
def potB (b : List Int) : Int := fld (fun i s => pst (iget b (0 + i)) s) 0 16 0
theorem fld44 (g : Int → Int → Int) (b : List Int) : fld (fun r s => fld (fun c s => g (iget b (0 + r * 4 + c * 1)) s) 0 4 s) 0 4 0 = fld (fun i s => g (iget b (0 + i)) s) 0 16 0 := rfl
section
variable {b : List Int} (hb : b.length = 16) (ok : okB b = true)
include hb ok
theorem worthI (i : Nat) (hi : i < 16) (h0 : decide ((0 : Int) < iget b i) = true) : impl_worth_p (iget b i) = some (W (iget b i)) ∧ spec_l2Worth_p (iget b i) = some (W (iget b i)) := by
  have ht := iget_ok ((okB_iff b).1 ok) (by omega : i < b.length)
  simp at h0
  exact ⟨worth_eq ht, l2Worth_eq ht h0⟩
theorem impl_pot (F : Nat) (hF : 1000 < F) : impl_Board_potential_p F b = some (potB b) := by
  have h := loop_fold (step := impl_Board_potential_s3 F ((16 : Nat) : Int) b) (fun i (s : Int) => (s, i)) 16 (fun i s => pst (iget b (0 + i)) s) (fun s => s) (fun _ _ => True) (F := F) (by omega) (by omega) (a := 0) trivial
    (fun i s hi _ => ⟨trivial, fun Q kn kx => by
      have hi' : i < b.length := by omega
      have hin : inR (i : Int) b.length = true := by rw [inR_cast]; exact decide_eq_true hi'
      simp only [impl_Board_potential_s3, Int.ofNat_lt, hi, decide_true, hin, cond_true, Int.toNat_natCast, pst]
      cases h0 : decide ((0 : Int) < iget b (0 + i)) with
      | false => rfl
      | true =>
        rw [Nat.zero_add] at h0 ⊢
        rw [(worthI hb ok i hi h0).1]; rfl⟩) (fun s _ Q kn kx => by simp [impl_Board_potential_s3])
  have h1 : impl_Board_potential_l3 F ((16 : Nat) : Int) b 0 0 = some (potB b) := h.1
  simp only [impl_Board_potential_p, impl_Board_potential_c, flat_eq hb, hb, h1, Option.isSome_some, Option.getD_some, cond_true, beq_selfL, Bool.and_self]
theorem spec_pot (F : Nat) (hF : 1000 < F) : spec_l7Potential_p F b = some (potB b) := by
  have hin : ∀ (r : Nat) (s : Int), r < 4 → spec_l7Potential_l6 F r b s 0 = some (fld (fun c s => pst (iget b (0 + r * 4 + c * 1)) s) 0 4 s) := fun r s hr =>
    (loop_fold (step := spec_l7Potential_s6 F r b) (fun i (s : Int) => (s, i)) 4 (fun c s => pst (iget b (0 + r * 4 + c * 1)) s) (fun s => s) (fun _ _ => True) (F := F) (by omega) (by omega) (a := s) trivial
    (fun i s hi _ => ⟨trivial, fun Q kn kx => by
      have hi' : (i : Int) < 4 := by omega
      simp only [spec_l7Potential_s6, hi', inR_cast, hr, hi, decide_true, cond_true, Int.toNat_natCast, pst]
      cases h0 : decide ((0 : Int) < iget b (0 + r * 4 + i * 1)) with
      | false => rfl
      | true =>
        rw [(worthI hb ok (0 + r * 4 + i * 1) (by omega) h0).2]; rfl⟩) (fun s _ Q kn kx => by simp [spec_l7Potential_s6])).1
  have h := loop_fold (step := spec_l7Potential_s3 F b) (fun i (s : Int) => (s, i)) 4 (fun r s => fld (fun c s => pst (iget b (0 + r * 4 + c * 1)) s) 0 4 s) (fun s => s) (fun _ _ => True) (F := F) (by omega) (by omega) (a := 0) trivial
    (fun i s hi _ => ⟨trivial, fun Q kn kx => by
      have hi' : (i : Int) < 4 := by omega
      simp only [spec_l7Potential_s3, hi', decide_true, cond_true, hin i s hi, Option.isSome_some, Option.getD_some]⟩) (fun s _ Q kn kx => by simp [spec_l7Potential_s3])
  have h1 : spec_l7Potential_l3 F b 0 0 = some (potB b) := by
    have hh := h.1
    rw [fld44] at hh
    exact hh
  simp only [spec_l7Potential_p, spec_l7Potential_c, h1, Option.isSome_some, Option.getD_some, cond_true]
end
end Go.Lv.P

namespace Go.Lv.P
open Go Go.Lv
/-- the number of marks -/
def tr : List Bool → Nat
  | [] => 0
  | b :: r => (bif b then 1 else 0) + tr r
theorem tr_le : ∀ l : List Bool, tr l ≤ l.length
  | [] => Nat.le_refl _
  | b :: r => by have := tr_le r; simp only [tr, List.length_cons]; cases b <;> simp only [cond_true, cond_false] <;> omega
theorem tr_bset : ∀ (l : List Bool) (i : Nat), i < l.length → bget l i = false → tr (bset l i true) = tr l + 1
  | [], i, h, _ => by simp at h
  | b :: r, 0, _, h => by
    have h : b = false := h
    subst h
    simp only [bset, tr, cond_true, cond_false]; omega
  | b :: r, i + 1, h, hb => by
    have := tr_bset r i (by simpa using h) hb
    simp only [bset, tr, this]; omega
def MI (s : RS × List Bool) : Prop := s.2.length = 4 ∧ (0 < s.1.1 → bget s.2 (0 + (s.1.1 - 1) * 1) = s.1.2.2.1) ∧ ∀ j, s.1.1 ≤ j → bget s.2 j = false
theorem rstep2_MI {s : RS × List Bool} {x : Int} (h : MI s) (hs : s.1.1 < 4) : MI (rstep2 s x) ∧ tr (rstep2 s x).2 = tr s.2 + (bif rhit s.1 x then 1 else 0) := by
  obtain ⟨⟨n, sc, mg, out⟩, ms⟩ := s
  obtain ⟨i2, i3, i4⟩ := h
  simp only at i2 i3 i4 hs
  unfold rstep2 rstep rhit
  simp only
  cases hc : decide (0 < n) && (iget out (0 + (n - 1) * 1) == x) && decide (x < 17) && !mg with
  | true =>
    simp only [Bool.and_eq_true, decide_eq_true_eq, Bool.not_eq_true'] at hc
    have h0 := hc.1.1.1
    have hmg := hc.2
    rw [hmg] at i3
    simp only [cond_true]
    refine ⟨⟨by rw [bsetL]; simpa using i2, fun _ => ?_, fun j hj => ?_⟩, tr_bset _ _ (by omega) (i3 h0)⟩
    · show bget (bset ms _ true) _ = true
      rw [bsetL, bgetL, List.getElem?_set_self (by omega)]; rfl
    · have hj : n ≤ j := hj
      show bget (bset ms _ true) j = false
      rw [bsetL, bgetL, List.getElem?_set_ne (by omega), ← bgetL]
      exact i4 j hj
  | false =>
    simp only [cond_false]
    exact ⟨⟨i2, fun _ => i4 _ (by simp only; omega), fun j hj => i4 j (by have hj : n + 1 ≤ j := hj; omega)⟩, rfl⟩
theorem rfold2_tr : ∀ (l : List Int) (s : RS × List Bool), MI s → s.1.1 + l.length ≤ 4 → tr (l.foldl rstep2 s).2 = tr s.2 + (mgs s.1 l).length
  | [], s, _, _ => rfl
  | x :: l, s, h, hl => by
    simp only [List.length_cons] at hl
    obtain ⟨h1, h2⟩ := rstep2_MI (x := x) h (by omega)
    have hn := rstep_n s.1 x
    rw [List.foldl_cons, rfold2_tr l _ h1 (by show (rstep s.1 x).1 + _ ≤ 4; omega), h2]
    simp only [mgs, rstep2]
    cases rhit s.1 x with
    | true => simp only [cond_true, List.length_cons]; omega
    | false => simp only [cond_false]; omega
theorem rslide2_tr {row : List Int} (hl : row.length = 4) : tr (rslide2 row).2 = (rowM row).length := by
  have hn : (row.filter fun x => !(x == 0)).length ≤ 4 := by rw [← hl]; exact List.length_filter_le _ _
  have := rfold2_tr (row.filter fun x => !(x == 0)) ((0, 0, false, [0, 0, 0, 0]), [false, false, false, false]) ⟨rfl, fun h => absurd h (by decide), fun j _ => by rw [bgetL]; rcases j with _ | _ | _ | _ | j <;> simp⟩ (by simpa using hn)
  rw [show tr ((((0 : Nat), (0 : Int), false, [(0 : Int), 0, 0, 0]) : RS), [false, false, false, false]).2 = 0 from rfl, Nat.zero_add] at this
  exact this
theorem rslide2_len {row : List Int} (hl : row.length = 4) : (rslide2 row).2.length = 4 := by
  have key : ∀ (l : List Int) (s : RS × List Bool), s.2.length = 4 → (l.foldl rstep2 s).2.length = 4 := by
    intro l
    induction l with
    | nil => intro s h; exact h
    | cons x l ih =>
      intro s h
      rw [List.foldl_cons]
      refine ih _ ?_
      unfold rstep2
      simp only
      cases decide (0 < s.1.1) && (iget s.1.2.2.2 (0 + (s.1.1 - 1) * 1) == x) && decide (x < 17) && !s.1.2.2.1 <;> simp only [cond_true, cond_false, bsetL, List.length_set, h]
  exact key _ _ rfl
theorem tr4 {l : List Bool} (h : l.length = 4) (a : Int) (h0 : 0 ≤ a) (h1 : a ≤ 1000) : fld (fun i (x : Int) => bif bget l (i * 1) then IntKind.wrap .i64 (x + 1) else x) 0 4 a = a + (tr l : Int) := by
  match l, h with
  | [p, q, r, s], _ =>
    have w1 : IntKind.wrap .i64 (a + 1) = a + 1 := wrap_of (by omega) (by omega)
    have w2 : IntKind.wrap .i64 (a + 1 + 1) = a + 1 + 1 := wrap_of (by omega) (by omega)
    have w3 : IntKind.wrap .i64 (a + 1 + 1 + 1) = a + 1 + 1 + 1 := wrap_of (by omega) (by omega)
    have w4 : IntKind.wrap .i64 (a + 1 + 1 + 1 + 1) = a + 1 + 1 + 1 + 1 := wrap_of (by omega) (by omega)
    cases p <;> cases q <;> cases r <;> cases s <;> simp only [fld, bget, tr, cond_true, cond_false, w1, w2, w3, w4] <;> omega
section
variable {b : List Int} (hb : b.length = 16) (ok : okB b = true)
include hb ok
theorem impl_slide2 (F : Nat) (hF : 1000 < F) {d : Nat} (hd : d < 4) : impl_Board_slide_p F b d = some ((slideB b d).1, (slideB b d).2, (((boardM b d).length : Nat) : Int)) := by
  have l8 : ∀ (sc : Int) (t : Int) (ms : List Bool) (b' out : List Int) (m : Int), ms.length = 4 → 0 ≤ m → m ≤ 1000 → impl_Board_slide_l8 F d sc t ms b' out m 0 = some (m + (tr ms : Int)) := fun sc t ms b' out m hms h0 h1 => by
    rw [← tr4 hms m h0 h1]
    exact (loop_fold (step := impl_Board_slide_s8 F d sc t ms b' out) (fun i (a : Int) => (a, i)) 4 (fun i a => bif bget ms (i * 1) then IntKind.wrap .i64 (a + 1) else a) (fun a => a) (fun _ _ => True) (F := F) (by omega) (by omega) (a := m) trivial (fun i a hi _ => ⟨trivial, fun Q kn kx => by
      have hi' : (i : Int) < 4 := by omega
      simp only [impl_Board_slide_s8, hi', inR_cast, hi, Int.toNat_natCast, decide_true, cond_true]
      cases bget ms (i * 1) <;> rfl⟩) (fun a _ Q kn kx => by simp [impl_Board_slide_s8])).1
  have row : ∀ i, i < 4 → impl_slideRow_p F (lineB b d i) = some ((rslide (lineB b d i)).2.2.2, (rslide (lineB b d i)).2.1, (rslide2 (lineB b d i)).2) := fun i hi => impl_row2 F _ rfl (line_ok hb ((okB_iff b).1 ok) hd hi) hF
  have len : ∀ i, i < 4 → (rowM (lineB b d i)).length ≤ 4 := fun i hi => rowM_len (row := lineB b d i) rfl (line_ok hb ((okB_iff b).1 ok) hd hi)
  have step : ∀ (i : Nat) (m : Int) (s : List Int × Int), i < 4 → 0 ≤ m → m ≤ 100 → ∀ (Q : Type) kn kx, impl_Board_slide_s3 F d b Q (s.2, m, (i : Int), s.1) kn kx = kn ((sstep b d i s).2, m + (((rowM (lineB b d i)).length : Nat) : Int), IntKind.wrap .i64 ((i : Int) + 1), (sstep b d i s).1) := fun i m s hi h0 h1 Q kn kx => by
    have h8 := l8 (IntKind.wrap .i64 (s.2 + (rslide (lineB b d i)).2.1)) i (rslide2 (lineB b d i)).2 b (putB s.1 d i (rslide (lineB b d i)).2.2.2) m (rslide2_len rfl) h0 (by omega)
    rw [rslide2_tr (row := lineB b d i) rfl] at h8
    have hi' : (i : Int) < 4 := by omega
    simp only [impl_Board_slide_s3, hi', decide_true, cond_true, impl_line b hd hi, row i hi, impl_with _ _ hd hi, h8, Option.isSome_some, Option.getD_some, sstep]
  obtain ⟨G, rfl⟩ : ∃ G, F = G + 5 := ⟨F - 5, by omega⟩
  have n0 := len 0 (by omega)
  have n1 := len 1 (by omega)
  have n2 := len 2 (by omega)
  have n3 := len 3 (by omega)
  have h1 := step 0 0 (b, 0) (by omega) (by omega) (by omega)
  have h2 := step 1 (0 + (((rowM (lineB b d 0)).length : Nat) : Int)) (sstep b d 0 (b, 0)) (by omega) (by omega) (by omega)
  have h3 := step 2 (0 + (((rowM (lineB b d 0)).length : Nat) : Int) + (((rowM (lineB b d 1)).length : Nat) : Int)) (sstep b d 1 (sstep b d 0 (b, 0))) (by omega) (by omega) (by omega)
  have h4 := step 3 (0 + (((rowM (lineB b d 0)).length : Nat) : Int) + (((rowM (lineB b d 1)).length : Nat) : Int) + (((rowM (lineB b d 2)).length : Nat) : Int)) (sstep b d 2 (sstep b d 1 (sstep b d 0 (b, 0)))) (by omega) (by omega) (by omega)
  have e : impl_Board_slide_l3 (G + 5) d b 0 0 0 b = some ((slideB b d).2, (((boardM b d).length : Nat) : Int), (slideB b d).1) := by
    have w : ∀ n : Nat, n < 4 → IntKind.wrap .i64 ((n : Int) + 1) = ((n + 1 : Nat) : Int) := fun n hn => wrap_succ hn (by omega)
    have hl : (((boardM b d).length : Nat) : Int) = 0 + (((rowM (lineB b d 0)).length : Nat) : Int) + (((rowM (lineB b d 1)).length : Nat) : Int) + (((rowM (lineB b d 2)).length : Nat) : Int) + (((rowM (lineB b d 3)).length : Nat) : Int) := by
      simp only [boardM, List.length_append]; omega
    rw [hl]
    show loopC _ (G + 5) ((b, (0 : Int)).2, (0 : Int), ((0 : Nat) : Int), (b, (0 : Int)).1) some = _
    simp only [loopC]
    rw [h1, w 0 (by omega), h2, w 1 (by omega), h3, w 2 (by omega), h4, w 3 (by omega)]
    simp [impl_Board_slide_s3]
    exact ⟨rfl, rfl⟩
  simp only [impl_Board_slide_p, impl_Board_slide_c, e, Option.isSome_some, Option.getD_some, cond_true]
end
end Go.Lv.P
