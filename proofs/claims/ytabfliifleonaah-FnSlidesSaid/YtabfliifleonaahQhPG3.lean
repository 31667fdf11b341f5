/-
Plain facts of the pure functions, part 3; without conditions.
-/
import Derived.Test.YtabfliifleonaahQhPG2
import Derived.Test.YtabfliifleonaahQhP2
import Derived.Test.YtabfliifleonaahQhP1
import Derived.Test.YtabfliifleonaahQhP5
import Derived.Test.YtabfliifleonaahQhPG1
import Derived.Test.YtabfliifleonaahLv3
import Derived.Test.YtabfliifleonaahQhP4
set_option linter.unusedVariables false
set_option linter.unusedSimpArgs false
set_option linter.unusedSectionVars false
namespace Go.Lv.P
open Go Go.Lv
/-- the sum of a function over numbers -/
def fs (f : Int → Int) : List Int → Int
  | [] => 0
  | x :: r => f x + fs f r
theorem fs_append (f : Int → Int) : ∀ a b : List Int, fs f (a ++ b) = fs f a + fs f b
  | [], b => by simp [fs]
  | x :: a, b => by simp only [List.cons_append, fs, fs_append f a b]; omega
theorem fs_foldl (f : Int → Int) : ∀ (l : List Int) (a : Int), (l.map f).foldl (· + ·) a = a + fs f l
  | [], a => by simp [fs]
  | x :: l, a => by simp only [List.map_cons, List.foldl_cons, fs_foldl f l, fs]; omega
theorem fs_iset (f : Int → Int) : ∀ (l : List Int) (i : Nat) (x : Int), i < l.length → fs f (iset l i x) = fs f l - f (iget l i) + f x
  | [], i, x, h => by simp at h
  | y :: l, 0, x, h => by simp only [iset, iget, fs]; omega
  | y :: l, i + 1, x, h => by
    have := fs_iset f l i x (by simpa using h)
    simp only [iset, iget, fs, this]; omega
theorem fs_filter (f : Int → Int) (h0 : f 0 = 0) : ∀ l : List Int, fs f (l.filter fun x => !(x == 0)) = fs f l
  | [] => rfl
  | x :: l => by
    rw [List.filter_cons]
    cases hx : x == 0 with
    | true =>
      have e := eq_of_beq hx
      subst e
      simp only [Bool.not_true, Bool.false_eq_true, if_false, fs, h0, fs_filter f h0 l]; omega
    | false => simp only [Bool.not_false, if_true, fs, fs_filter f h0 l]
theorem fs_sub (f g : Int → Int) : ∀ l : List Int, fs (fun x => f x - g x) l = fs f l - fs g l
  | [] => rfl
  | x :: l => by simp only [fs, fs_sub f g l]; omega
theorem fs_congr {f g : Int → Int} : ∀ {l : List Int}, (∀ x ∈ l, f x = g x) → fs f l = fs g l
  | [], _ => rfl
  | x :: l, h => by simp only [fs, h x List.mem_cons_self, fs_congr fun y hy => h y (List.mem_cons_of_mem _ hy)]
theorem fs_bound {f : Int → Int} {m : Int} : ∀ {l : List Int}, (∀ x ∈ l, 0 ≤ f x ∧ f x ≤ m) → 0 ≤ fs f l ∧ fs f l ≤ m * l.length
  | [], _ => by simp [fs]
  | x :: l, h => by
    have h1 := h x List.mem_cons_self
    have h2 := fs_bound (f := f) (m := m) fun y hy => h y (List.mem_cons_of_mem _ hy)
    simp only [fs, List.length_cons]
    rw [show m * ((l.length + 1 : Nat) : Int) = m * (l.length : Int) + m by rw [Int.natCast_add, Int.mul_add]; simp]
    omega
/-- what merges when one more tile comes -/
def rhit (s : RS) (x : Int) : Bool := decide (0 < s.1) && (iget s.2.2.2 (0 + (s.1 - 1) * 1) == x) && decide (x < 17) && !s.2.2.1
def mgs : RS → List Int → List Int
  | _, [] => []
  | s, x :: r => bif rhit s x then (x + 1) :: mgs (rstep s x) r else mgs (rstep s x) r
def RI (s : RS) : Prop := s.2.2.2.length = 4 ∧ ∀ j, s.1 ≤ j → j < 4 → iget s.2.2.2 j = 0
theorem iget_iset (l : List Int) (i j : Nat) (x : Int) (h : i < l.length) : iget (iset l i x) j = if i = j then x else iget l j := by
  rw [igetL, igetL, isetL, List.getElem?_set]
  split
  · rename_i e; subst e; simp [h]
  · rfl
theorem rstep_RI {s : RS} {x : Int} (h : RI s) (hs : s.1 < 4) : RI (rstep s x) := by
  unfold rstep
  cases hc : decide (0 < s.1) && (iget s.2.2.2 (0 + (s.1 - 1) * 1) == x) && decide (x < 17) && !s.2.2.1 with
  | true =>
    have h0 : 0 < s.1 := by simp at hc; omega
    refine ⟨by rw [cond_true]; show (iset _ _ _).length = 4; rw [iset_len]; exact h.1, fun j hj hj4 => ?_⟩
    rw [cond_true] at hj ⊢
    have hj : s.1 ≤ j := hj
    show iget (iset s.2.2.2 _ _) j = 0
    rw [iget_iset _ _ _ _ (by rw [h.1]; omega), if_neg (by omega)]
    exact h.2 j hj hj4
  | false =>
    refine ⟨by rw [cond_false]; show (iset _ _ _).length = 4; rw [iset_len]; exact h.1, fun j hj hj4 => ?_⟩
    rw [cond_false] at hj ⊢
    have hj : s.1 + 1 ≤ j := hj
    show iget (iset s.2.2.2 _ _) j = 0
    rw [iget_iset _ _ _ _ (by rw [h.1]; omega), if_neg (by omega)]
    exact h.2 j (by omega) hj4
theorem rstep_fs (f : Int → Int) (h0 : f 0 = 0) {s : RS} {x : Int} (h : RI s) (hs : s.1 < 4) : fs f (rstep s x).2.2.2 = fs f s.2.2.2 + f x + bif rhit s x then f (x + 1) - 2 * f x else 0 := by
  unfold rstep rhit
  cases hc : decide (0 < s.1) && (iget s.2.2.2 (0 + (s.1 - 1) * 1) == x) && decide (x < 17) && !s.2.2.1 with
  | true =>
    have h1 : 0 < s.1 := by simp at hc; omega
    have h2 : iget s.2.2.2 (0 + (s.1 - 1) * 1) = x := by simp at hc; simpa using hc.1.1.2
    rw [cond_true, cond_true]
    show fs f (iset s.2.2.2 _ _) = _
    rw [fs_iset f _ _ _ (by rw [h.1]; omega), h2]; omega
  | false =>
    rw [cond_false, cond_false]
    show fs f (iset s.2.2.2 _ _) = _
    rw [fs_iset f _ _ _ (by rw [h.1]; omega), h.2 (0 + s.1 * 1) (by omega) (by omega), h0]; omega
theorem rfold_fs (f : Int → Int) (h0 : f 0 = 0) : ∀ (l : List Int) (s : RS), RI s → s.1 + l.length ≤ 4 → fs f (l.foldl rstep s).2.2.2 = fs f s.2.2.2 + fs f l + fs (fun m => f m - 2 * f (m - 1)) (mgs s l)
  | [], s, _, _ => by simp [fs, mgs]
  | x :: l, s, h, hl => by
    simp only [List.length_cons] at hl
    have h1 := rstep_n s x
    have ih := rfold_fs f h0 l (rstep s x) (rstep_RI h (by omega)) (by omega)
    have h2 := rstep_fs f h0 (x := x) h (by omega)
    rw [List.foldl_cons, ih, h2]
    simp only [fs, mgs]
    cases rhit s x with
    | true => simp only [cond_true, fs]; rw [show x + 1 - 1 = x by omega]; omega
    | false => simp only [cond_false]; omega
/-- what has merged is of two tiles -/
theorem mgs_ok : ∀ (l : List Int) (s : RS), (∀ x ∈ l, inB x 1 17 = true) → ∀ m ∈ mgs s l, inB m 2 17 = true
  | [], s, _, m, h => by simp [mgs] at h
  | x :: l, s, hl, m, h => by
    have hx := hl x List.mem_cons_self
    simp only [mgs] at h
    have ih := mgs_ok l (rstep s x) (fun y hy => hl y (List.mem_cons_of_mem _ hy))
    cases hh : rhit s x with
    | false => rw [hh] at h; exact ih m h
    | true =>
      rw [hh, cond_true] at h
      rcases List.mem_cons.1 h with rfl | h
      · unfold rhit at hh
        simp only [Bool.and_eq_true, decide_eq_true_eq] at hh
        simp only [inB, Bool.and_eq_true, decide_eq_true_eq] at hx ⊢
        omega
      · exact ih m h
theorem mgs_len : ∀ (l : List Int) (s : RS), (mgs s l).length ≤ l.length
  | [], s => by simp [mgs]
  | x :: l, s => by
    have := mgs_len l (rstep s x)
    simp only [mgs, List.length_cons]
    cases rhit s x
    · rw [cond_false]; omega
    · rw [cond_true, List.length_cons]; omega
theorem kstep_score {s : RS} {x : Int} : (rstep s x).2.1 = bif rhit s x then IntKind.wrap .i64 (s.2.1 + W (x + 1)) else s.2.1 := by
  unfold rstep rhit
  cases decide (0 < s.1) && (iget s.2.2.2 (0 + (s.1 - 1) * 1) == x) && decide (x < 17) && !s.2.2.1 <;> rfl
theorem W_of {m : Int} (h : inB m 2 17 = true) : 0 ≤ W m ∧ W m ≤ 131072 := by
  have h2 : inB m 0 17 = true := by
    simp only [inB, Bool.and_eq_true, decide_eq_true_eq] at h ⊢; omega
  exact ⟨(W_facts h2).1, (W_facts h2).2.1⟩
theorem kfold_score : ∀ (l : List Int) (s : RS), (∀ x ∈ l, inB x 1 17 = true) → 0 ≤ s.2.1 → s.2.1 + 131072 * l.length ≤ 1000000000 → (l.foldl rstep s).2.1 = s.2.1 + fs W (mgs s l)
  | [], s, _, _, _ => by simp [fs, mgs]
  | x :: l, s, hl, h0, h1 => by
    rw [List.foldl_cons]
    rw [List.length_cons, Int.natCast_add] at h1
    have hsc := kstep_score (s := s) (x := x)
    have hr : ∀ y ∈ l, inB y 1 17 = true := fun y hy => hl y (List.mem_cons_of_mem _ hy)
    cases hh : rhit s x with
    | true =>
      rw [hh, cond_true] at hsc
      have hw := W_of (mgs_ok (x :: l) s hl (x + 1) (by simp only [mgs, hh, cond_true]; exact List.mem_cons_self))
      rw [wrap_of (by omega) (by omega)] at hsc
      rw [kfold_score l _ hr (by omega) (by omega), hsc]
      simp only [mgs, hh, cond_true, fs]; omega
    | false =>
      rw [hh, cond_false] at hsc
      rw [kfold_score l _ hr (by omega) (by omega), hsc]
      simp only [mgs, hh, cond_false]
/-- the mergers of a row, by the tiles that they make -/
def rowM (row : List Int) : List Int := mgs (0, 0, false, [0, 0, 0, 0]) (row.filter fun x => !(x == 0))
theorem row_tiles {row : List Int} (h : ∀ x ∈ row, tileOK x) : ∀ x ∈ row.filter (fun x => !(x == 0)), inB x 1 17 = true := by
  intro x hx
  rw [List.mem_filter] at hx
  have h1 := h x hx.1
  have h2 : x ≠ 0 := by simpa using hx.2
  simp only [tileOK, inB, Bool.and_eq_true, decide_eq_true_eq] at h1 ⊢
  omega
section
variable {row : List Int} (hl : row.length = 4) (h : ∀ x ∈ row, tileOK x)
include hl h
theorem row_fs (f : Int → Int) (h0 : f 0 = 0) : fs f (rslide row).2.2.2 = fs f row + fs (fun m => f m - 2 * f (m - 1)) (rowM row) := by
  have hn : (row.filter fun x => !(x == 0)).length ≤ 4 := by rw [← hl]; exact List.length_filter_le _ _
  have := rfold_fs f h0 (row.filter fun x => !(x == 0)) (0, 0, false, [0, 0, 0, 0]) ⟨rfl, fun j _ hj => by
    obtain rfl | rfl | rfl | rfl : j = 0 ∨ j = 1 ∨ j = 2 ∨ j = 3 := by omega
    all_goals rfl⟩ (by simpa using hn)
  rw [fs_filter f h0] at this
  rw [show fs f ((0 : Nat), (0 : Int), false, [0, 0, 0, 0]).2.2.2 = 0 by simp [fs, h0], Int.zero_add] at this
  exact this
theorem row_score : (rslide row).2.1 = fs W (rowM row) := by
  have hn : (row.filter fun x => !(x == 0)).length ≤ 4 := by rw [← hl]; exact List.length_filter_le _ _
  have := kfold_score (row.filter fun x => !(x == 0)) (0, 0, false, [0, 0, 0, 0]) (row_tiles h) (Int.le_refl _) (by show (0 : Int) + _ ≤ _; omega)
  rw [show ((0 : Nat), (0 : Int), false, [(0 : Int), 0, 0, 0]).2.1 = 0 from rfl, Int.zero_add] at this
  exact this
theorem rowM_ok : ∀ m ∈ rowM row, inB m 2 17 = true := mgs_ok _ _ (row_tiles h)
theorem rowM_len : (rowM row).length ≤ 4 := by
  have hn : (row.filter fun x => !(x == 0)).length ≤ 4 := by rw [← hl]; exact List.length_filter_le _ _
  exact Nat.le_trans (mgs_len _ _) hn
end
/-- the mergers of a slide -/
def boardM (b : List Int) (d : Nat) : List Int := rowM (lineB b d 0) ++ rowM (lineB b d 1) ++ rowM (lineB b d 2) ++ rowM (lineB b d 3)
theorem fs_lines (f : Int → Int) {b : List Int} (hb : b.length = 16) {d : Nat} (hd : d < 4) : fs f b = fs f (lineB b d 0) + fs f (lineB b d 1) + fs f (lineB b d 2) + fs f (lineB b d 3) := by
  obtain ⟨x0, x1, x2, x3, x4, x5, x6, x7, x8, x9, x10, x11, x12, x13, x14, x15, rfl⟩ := list16 hb
  obtain rfl | rfl | rfl | rfl : d = 0 ∨ d = 1 ∨ d = 2 ∨ d = 3 := by omega
  all_goals (simp [fs, lineB, plcD, iget]; omega)
theorem put_lines (b r0 r1 r2 r3 : List Int) (hb : b.length = 16) (h0 : r0.length = 4) (h1 : r1.length = 4) (h2 : r2.length = 4) (h3 : r3.length = 4) {d : Nat} (hd : d < 4) :
    lineB (putB (putB (putB (putB b d 0 r0) d 1 r1) d 2 r2) d 3 r3) d 0 = r0 ∧ lineB (putB (putB (putB (putB b d 0 r0) d 1 r1) d 2 r2) d 3 r3) d 1 = r1 ∧ lineB (putB (putB (putB (putB b d 0 r0) d 1 r1) d 2 r2) d 3 r3) d 2 = r2 ∧ lineB (putB (putB (putB (putB b d 0 r0) d 1 r1) d 2 r2) d 3 r3) d 3 = r3 := by
  obtain ⟨x0, x1, x2, x3, x4, x5, x6, x7, x8, x9, x10, x11, x12, x13, x14, x15, rfl⟩ := list16 hb
  obtain ⟨a0, a1, a2, a3, rfl⟩ := list4 h0
  obtain ⟨c0, c1, c2, c3, rfl⟩ := list4 h1
  obtain ⟨g0, g1, g2, g3, rfl⟩ := list4 h2
  obtain ⟨k0, k1, k2, k3, rfl⟩ := list4 h3
  obtain rfl | rfl | rfl | rfl : d = 0 ∨ d = 1 ∨ d = 2 ∨ d = 3 := by omega
  all_goals exact ⟨by kernel_rfl, by kernel_rfl, by kernel_rfl, by kernel_rfl⟩
section
variable {b : List Int} (hb : b.length = 16) (ok : okB b = true)
include hb ok
theorem slide_lines {d : Nat} (hd : d < 4) {i : Nat} (hi : i < 4) : lineB (slideB b d).1 d i = (rslide (lineB b d i)).2.2.2 := by
  have r := fun i hi => (rslide_ok (line_ok hb ((okB_iff b).1 ok) hd (show i < 4 from hi))).1
  have e : (slideB b d).1 = putB (putB (putB (putB b d 0 (rslide (lineB b d 0)).2.2.2) d 1 (rslide (lineB b d 1)).2.2.2) d 2 (rslide (lineB b d 2)).2.2.2) d 3 (rslide (lineB b d 3)).2.2.2 := rfl
  have h := put_lines b _ _ _ _ hb (r 0 (by omega)) (r 1 (by omega)) (r 2 (by omega)) (r 3 (by omega)) hd
  rw [e]
  obtain rfl | rfl | rfl | rfl : i = 0 ∨ i = 1 ∨ i = 2 ∨ i = 3 := by omega
  · exact h.1
  · exact h.2.1
  · exact h.2.2.1
  · exact h.2.2.2
/-- sums over the tiles behind a slide -/
theorem slide_fs (f : Int → Int) (h0 : f 0 = 0) {d : Nat} (hd : d < 4) : fs f (slideB b d).1 = fs f b + fs (fun m => f m - 2 * f (m - 1)) (boardM b d) := by
  have g := fun i (hi : i < 4) => row_fs (row := lineB b d i) rfl (line_ok hb ((okB_iff b).1 ok) hd hi) f h0
  rw [fs_lines f (slide_ok hb ok hd).1 hd, slide_lines hb ok hd (show 0 < 4 by omega), slide_lines hb ok hd (show 1 < 4 by omega), slide_lines hb ok hd (show 2 < 4 by omega), slide_lines hb ok hd (show 3 < 4 by omega),
    g 0 (by omega), g 1 (by omega), g 2 (by omega), g 3 (by omega), fs_lines f hb hd, boardM, fs_append, fs_append, fs_append]
  omega
theorem boardM_ok {d : Nat} (hd : d < 4) : ∀ m ∈ boardM b d, inB m 2 17 = true := by
  have g := fun i (hi : i < 4) => rowM_ok (row := lineB b d i) rfl (line_ok hb ((okB_iff b).1 ok) hd hi)
  intro m hm
  simp only [boardM, List.mem_append] at hm
  rcases hm with ((h | h) | h) | h
  · exact g 0 (by omega) m h
  · exact g 1 (by omega) m h
  · exact g 2 (by omega) m h
  · exact g 3 (by omega) m h
theorem kslide_score {d : Nat} (hd : d < 4) : (slideB b d).2 = fs W (boardM b d) := by
  have g := fun i (hi : i < 4) => row_score (row := lineB b d i) rfl (line_ok hb ((okB_iff b).1 ok) hd hi)
  have k := fun i (hi : i < 4) => rowM_ok (row := lineB b d i) rfl (line_ok hb ((okB_iff b).1 ok) hd hi)
  have n := fun i (hi : i < 4) => rowM_len (row := lineB b d i) rfl (line_ok hb ((okB_iff b).1 ok) hd hi)
  have w := fun i (hi : i < 4) => fs_bound (f := W) (m := 131072) (l := rowM (lineB b d i)) fun m hm => W_of (k i hi m hm)
  have w0 := w 0 (by omega); have w1 := w 1 (by omega); have w2 := w 2 (by omega); have w3 := w 3 (by omega)
  have n0 := n 0 (by omega); have n1 := n 1 (by omega); have n2 := n 2 (by omega); have n3 := n 3 (by omega)
  have e : (slideB b d).2 = IntKind.wrap .i64 (IntKind.wrap .i64 (IntKind.wrap .i64 (IntKind.wrap .i64 (0 + (rslide (lineB b d 0)).2.1) + (rslide (lineB b d 1)).2.1) + (rslide (lineB b d 2)).2.1) + (rslide (lineB b d 3)).2.1) := rfl
  rw [e, g 0 (by omega), g 1 (by omega), g 2 (by omega), g 3 (by omega), boardM, fs_append, fs_append, fs_append]
  rw [wrap_of (n := 0 + fs W (rowM (lineB b d 0))) (by omega) (by omega), wrap_of (n := 0 + fs W (rowM (lineB b d 0)) + fs W (rowM (lineB b d 1))) (by omega) (by omega), wrap_of (n := 0 + fs W (rowM (lineB b d 0)) + fs W (rowM (lineB b d 1)) + fs W (rowM (lineB b d 2))) (by omega) (by omega), wrap_of (by omega) (by omega)]
  omega
end
theorem W_double {m : Int} (h : inB m 2 17 = true) : W m - 2 * W (m - 1) = 0 := by
  have h2 : inB m 0 17 = true := by
    simp only [inB, Bool.and_eq_true, decide_eq_true_eq] at h ⊢; omega
  rcases tile_cases h2 with e | e | e | e | e | e | e | e | e | e | e | e | e | e | e | e | e | e <;> subst e <;> revert h <;> decide
theorem fs_zero {f : Int → Int} : ∀ {l : List Int}, (∀ x ∈ l, f x = 0) → fs f l = 0
  | [], _ => rfl
  | x :: l, h => by simp only [fs, h x List.mem_cons_self, fs_zero fun y hy => h y (List.mem_cons_of_mem _ hy)]; rfl
theorem sumB_fs (b : List Int) : sumB b = fs W b := by
  rw [sumB, fs_foldl]; omega
/-- a slide keeps the sum -/
theorem slide_sum {b : List Int} (hb : b.length = 16) (ok : okB b = true) {d : Nat} (hd : d < 4) : sumB (slideB b d).1 = sumB b := by
  rw [sumB_fs, sumB_fs, slide_fs hb ok W rfl hd, fs_zero fun m hm => W_double (boardM_ok hb ok hd m hm)]
  omega
end Go.Lv.P

namespace Go.Lv.P
open Go Go.Lv
set_option maxRecDepth 100000
theorem spec_row (F : Nat) (row : List Int) (h4 : row.length = 4) (hr : ∀ x ∈ row, inB x 0 17 = true) (hF : 1000 < F) : spec_l2Row_p F row = some ((rslide row).2.2.2, (rslide row).2.1) := by
  have hg : ∀ i, i < 4 → inB (iget row (0 + i * 1)) 0 17 = true := fun i hi => by
    rw [igetL, List.getElem?_eq_getElem (by omega)]
    exact hr _ (List.getElem_mem _)
  have h := loop_fold (step := spec_l2Row_s3 F row) (fun i (s : RS) => ((s.1 : Int), s.2.1, s.2.2.1, i, s.2.2.2)) 4 (rput row) (fun s => (s.2.1, s.2.2.2)) (fun i s => s.1 ≤ i) (F := F) (by omega) (by omega) (a := (0, 0, false, [0, 0, 0, 0])) (Nat.le_refl 0)
    (fun i s hi hI => by
      obtain ⟨n, sc, mg, out⟩ := s
      have hI : n ≤ i := hI
      have hx := hg i hi
      have hi' : (i : Int) < 4 := by omega
      have hn4 : n < 4 := by omega
      refine ⟨?_, fun Q kn kx => ?_⟩
      · show (rput row i (n, sc, mg, out)).1 ≤ i + 1
        unfold rput
        cases iget row (0 + i * 1) == 0
        · have := rstep_n (n, sc, mg, out) (iget row (0 + i * 1))
          simp only at this
          simp only [cond_false]
          omega
        · simp only [cond_true]; omega
      · simp only [spec_l2Row_s3, hi', inR_cast, hi, Int.toNat_natCast, decide_true, cond_true, rput, hn4]
        obtain ⟨x, hxe⟩ : ∃ x, x = iget row (0 + i * 1) := ⟨_, rfl⟩
        simp only [← hxe] at hx ⊢
        cases h0 : x == 0 with
        | true => rfl
        | false =>
          have hx0 : x ≠ 0 := by simpa using h0
          have hx1 : 0 ≤ x ∧ x ≤ 17 := by simpa [inB] using hx
          have hsn : IntKind.wrap .i64 ((n : Int) + 1) = ((n + 1 : Nat) : Int) := wrap_succ (n := 4) hn4 (by omega)
          by_cases hn : 0 < n
          · have hn' : (0 : Int) < (n : Int) := by omega
            have hp := wrap_pred hn (by omega)
            have hp4 : n - 1 < 4 := by omega
            simp only [cond_false, hn', decide_true, cond_true, hp, inR_cast, hp4, Int.toNat_natCast, rstep, hn, Bool.true_and, hsn, hn4]
            cases hq : iget out (0 + (n - 1) * 1) == x with
            | false => rfl
            | true =>
              by_cases h17 : x < 17
              · have hw : IntKind.wrap .i64 (x + 1) = x + 1 := wrap_of (by omega) (by omega)
                have hwo : spec_l2Worth_p (x + 1) = some (W (x + 1)) := l2Worth_eq (by simp [inB]; omega) (by omega)
                cases mg with
                | true => simp only [h17, decide_true, cond_true, Bool.not_true, cond_false, Bool.true_and]
                | false => simp only [h17, decide_true, cond_true, Bool.not_false, hw, hwo, Option.isSome_some, Option.getD_some, Bool.true_and]
              · simp only [h17, decide_false, cond_false, cond_true, Bool.and_false, Bool.false_and, Bool.true_and]
          · have hn' : ¬ (0 : Int) < (n : Int) := by omega
            simp only [cond_false, hn', decide_false, cond_true, rstep, hn, Bool.false_and, hsn, inR_cast, hn4, decide_true, Int.toNat_natCast])
    (fun s _ Q kn kx => by simp [spec_l2Row_s3])
  have e : spec_l2Row_l3 F row 0 0 false 0 [0, 0, 0, 0] = some ((rslide row).2.1, (rslide row).2.2.2) := by
    refine h.1.trans ?_
    rw [fld_rput row h4]; rfl
  simp only [spec_l2Row_p, spec_l2Row_c, e, Option.isSome_some, Option.getD_some, cond_true]
end Go.Lv.P

namespace Go.Lv.P
open Go Go.Lv
set_option maxRecDepth 100000
theorem impl_line (b : List Int) {d i : Nat} (hd : d < 4) (hi : i < 4) : impl_Board_line_p b d i = some (lineB b d i) := by
  obtain rfl | rfl | rfl | rfl : d = 0 ∨ d = 1 ∨ d = 2 ∨ d = 3 := by omega
  all_goals
    obtain rfl | rfl | rfl | rfl : i = 0 ∨ i = 1 ∨ i = 2 ∨ i = 3 := by omega
    all_goals rfl
theorem impl_with (b row : List Int) {d i : Nat} (hd : d < 4) (hi : i < 4) : impl_Board_withLine_p b d i row = some (putB b d i row) := by
  obtain rfl | rfl | rfl | rfl : d = 0 ∨ d = 1 ∨ d = 2 ∨ d = 3 := by omega
  all_goals
    obtain rfl | rfl | rfl | rfl : i = 0 ∨ i = 1 ∨ i = 2 ∨ i = 3 := by omega
    all_goals rfl
section
variable {b : List Int} (hb : b.length = 16) (ok : okB b = true)
include hb ok
theorem impl_slide (F : Nat) (hF : 1000 < F) {d : Nat} (hd : d < 4) : ∃ m, impl_Board_slide_p F b d = some ((slideB b d).1, (slideB b d).2, m) := by
  have l8 : ∀ (sc : Int) (t : Int) (ms : List Bool) (b' out : List Int) (m : Int), ∃ m', impl_Board_slide_l8 F d sc t ms b' out m 0 = some m' := fun sc t ms b' out m =>
    ⟨_, (loop_fold (step := impl_Board_slide_s8 F d sc t ms b' out) (fun i (a : Int) => (a, i)) 4 (fun i a => bif bget ms (i * 1) then IntKind.wrap .i64 (a + 1) else a) (fun a => a) (fun _ _ => True) (F := F) (by omega) (by omega) (a := m) trivial (fun i a hi _ => ⟨trivial, fun Q kn kx => by
      have hi' : (i : Int) < 4 := by omega
      simp only [impl_Board_slide_s8, hi', inR_cast, hi, Int.toNat_natCast, decide_true, cond_true]
      cases bget ms (i * 1) <;> rfl⟩) (fun a _ Q kn kx => by simp [impl_Board_slide_s8])).1⟩
  have row : ∀ i, i < 4 → ∃ mg, impl_slideRow_p F (lineB b d i) = some ((rslide (lineB b d i)).2.2.2, (rslide (lineB b d i)).2.1, mg) := fun i hi => impl_row F _ rfl (line_ok hb ((okB_iff b).1 ok) hd hi) hF
  have step : ∀ (i : Nat) (m : Int) (s : List Int × Int), i < 4 → ∃ m' : Int, ∀ (Q : Type) kn kx, impl_Board_slide_s3 F d b Q (s.2, m, (i : Int), s.1) kn kx = kn ((sstep b d i s).2, m', IntKind.wrap .i64 ((i : Int) + 1), (sstep b d i s).1) := fun i m s hi => by
    obtain ⟨mg, hr⟩ := row i hi
    obtain ⟨m', h8⟩ := l8 (IntKind.wrap .i64 (s.2 + (rslide (lineB b d i)).2.1)) i mg b (putB s.1 d i (rslide (lineB b d i)).2.2.2) m
    refine ⟨m', fun Q kn kx => ?_⟩
    have hi' : (i : Int) < 4 := by omega
    simp only [impl_Board_slide_s3, hi', decide_true, cond_true, impl_line b hd hi, hr, impl_with _ _ hd hi, h8, Option.isSome_some, Option.getD_some, sstep]
  obtain ⟨G, rfl⟩ : ∃ G, F = G + 5 := ⟨F - 5, by omega⟩
  obtain ⟨m1, h1⟩ := step 0 0 (b, 0) (by omega)
  obtain ⟨m2, h2⟩ := step 1 m1 _ (by omega)
  obtain ⟨m3, h3⟩ := step 2 m2 _ (by omega)
  obtain ⟨m4, h4⟩ := step 3 m3 _ (by omega)
  have e : impl_Board_slide_l3 (G + 5) d b 0 0 0 b = some ((slideB b d).2, m4, (slideB b d).1) := by
    have w : ∀ n : Nat, n < 4 → IntKind.wrap .i64 ((n : Int) + 1) = ((n + 1 : Nat) : Int) := fun n hn => wrap_succ hn (by omega)
    show loopC _ (G + 5) ((b, (0 : Int)).2, (0 : Int), ((0 : Nat) : Int), (b, (0 : Int)).1) some = _
    simp only [loopC]
    rw [h1, w 0 (by omega), h2, w 1 (by omega), h3, w 2 (by omega), h4, w 3 (by omega)]
    simp [impl_Board_slide_s3]
    exact ⟨rfl, rfl⟩
  exact ⟨m4, by simp only [impl_Board_slide_p, impl_Board_slide_c, e, Option.isSome_some, Option.getD_some, cond_true]⟩
end
end Go.Lv.P

namespace Go.Lv.P
open Go Go.Lv
theorem sum_val (F : Nat) (hF : 1000 < F) {b : List Int} (hb : b.length = 16) (ok : okB b = true) : impl_SumOf_p F b = some (sumB b, true) := by
  simp only [impl_SumOf_p, impl_SumOf_c, impl_IsBoard_eq F b hb hF, ok, impl_sum_eq b hb ok, Option.isSome_some, Option.getD_some, cond_true, cond_false, Bool.not_true]
end Go.Lv.P

namespace Go.Lv.P
open Go Go.Lv
/-- words of n letters, in order -/
def words : Nat → List (List Nat)
  | 0 => [[]]
  | n + 1 => [0, 1, 2, 3].flatMap fun d => (words n).map (d :: ·)
theorem mem_words : ∀ {n : Nat} {w : List Nat}, w ∈ words n ↔ w.length = n ∧ ∀ d ∈ w, d < 4
  | 0, w => by
    simp only [words, List.mem_singleton]
    constructor
    · rintro rfl; exact ⟨rfl, fun d h => by cases h⟩
    · rintro ⟨h, _⟩; exact List.length_eq_zero_iff.1 h
  | n + 1, w => by
    simp only [words, List.mem_flatMap, List.mem_map]
    constructor
    · rintro ⟨d, hd, v, hv, rfl⟩
      obtain ⟨h1, h2⟩ := mem_words.1 hv
      refine ⟨by simp [h1], fun e he => ?_⟩
      rcases List.mem_cons.1 he with rfl | he
      · simp at hd; omega
      · exact h2 e he
    · rintro ⟨h1, h2⟩
      cases w with
      | nil => simp at h1
      | cons d v =>
        have hd := h2 d List.mem_cons_self
        exact ⟨d, by simp; omega, v, mem_words.2 ⟨by simpa using h1, fun e he => h2 e (List.mem_cons_of_mem _ he)⟩, rfl⟩
/-- the same words, grown at their end -/
theorem words_snoc : ∀ n : Nat, words (n + 1) = (words n).flatMap fun w => [0, 1, 2, 3].map fun d => w ++ [d]
  | 0 => rfl
  | n + 1 => by
    have ih := words_snoc n
    have e : words (n + 2) = [0, 1, 2, 3].flatMap fun d => ((words n).flatMap fun w => [0, 1, 2, 3].map fun e => w ++ [e]).map (d :: ·) := by rw [← ih]; rfl
    rw [e]
    have e2 : words (n + 1) = [0, 1, 2, 3].flatMap fun d => (words n).map (d :: ·) := rfl
    rw [e2]
    simp only [List.flatMap_assoc, List.map_flatMap, List.flatMap_map]
    simp [List.flatMap_cons]
theorem words_len : ∀ n : Nat, (words n).length = 4 ^ n
  | 0 => rfl
  | n + 1 => by
    have ih := words_len n
    simp [words, ih]
    omega
abbrev EL := List (List Int × List Int)
def nw (w : List Nat) : List Int := w.map fun d : Nat => (d : Int)
theorem nw_len (w : List Nat) : (nw w).length = w.length := by simp [nw]
/-- an entry, if there is none of its key -/
def insE (E : EL) (x : List Int × List Int) : EL := bif (E.map Prod.fst).contains x.1 then E else E ++ [x]
theorem insE_mem (E : EL) (x : List Int × List Int) (y : List Int) : y ∈ (insE E x).map Prod.fst ↔ y ∈ E.map Prod.fst ∨ y = x.1 := by
  unfold insE
  cases h : (E.map Prod.fst).contains x.1 with
  | true =>
    rw [cond_true]
    refine ⟨.inl, ?_⟩
    rintro (h1 | rfl)
    · exact h1
    · exact List.contains_iff_mem.1 h
  | false => rw [cond_false]; simp
theorem insE_pre (E : EL) (x : List Int × List Int) : ∃ l, insE E x = E ++ l := by
  unfold insE
  cases (E.map Prod.fst).contains x.1
  · exact ⟨[x], rfl⟩
  · exact ⟨[], by simp⟩
theorem insE_len (E : EL) (x : List Int × List Int) : (insE E x).length ≤ E.length + 1 := by
  unfold insE
  cases (E.map Prod.fst).contains x.1 <;> simp
theorem insE_nodup {E : EL} (h : (E.map Prod.fst).Nodup) (x : List Int × List Int) : ((insE E x).map Prod.fst).Nodup := by
  unfold insE
  cases hc : (E.map Prod.fst).contains x.1 with
  | true => exact h
  | false =>
    rw [cond_false, List.map_append, List.nodup_append]
    refine ⟨h, by simp, fun a ha b hb => ?_⟩
    simp only [List.map_cons, List.map_nil, List.mem_singleton] at hb
    subst hb
    rintro rfl
    rw [List.contains_iff_mem.2 ha] at hc; cases hc
theorem mlook_none {x : List Int} : ∀ {E : EL}, mlook x E = none ↔ x ∉ E.map Prod.fst
  | [] => by simp [mlook]
  | (y, p) :: r => by
    simp only [mlook, List.map_cons, List.mem_cons]
    cases h : x == y with
    | true => simp [eq_of_beq h]
    | false =>
      rw [cond_false, mlook_none]
      have : x ≠ y := by rw [beq_eq_false_iff_ne] at h; exact h
      simp [this]
theorem mlook_isSome {x : List Int} {E : EL} : (mlook x E).isSome = (E.map Prod.fst).contains x := by
  rw [Bool.eq_iff_iff, List.contains_iff_mem]
  cases h : mlook x E with
  | none => simpa using mlook_none.1 h
  | some p =>
    simp only [Option.isSome_some, true_iff]
    by_cases hm : x ∈ E.map Prod.fst
    · exact hm
    · rw [mlook_none.2 hm] at h; cases h
theorem mlook_append {x : List Int} {l : EL} : ∀ {E : EL}, mlook x (E ++ l) = (mlook x E).or (mlook x l)
  | [] => rfl
  | (y, p) :: r => by
    simp only [List.cons_append, mlook]
    cases x == y
    · simp only [cond_false]; exact mlook_append
    · rfl
theorem mlook_mem {x p : List Int} : ∀ {E : EL}, (E.map Prod.fst).Nodup → (x, p) ∈ E → mlook x E = some p
  | [], _, h => by cases h
  | (y, q) :: r, hn, h => by
    simp only [mlook]
    rw [List.map_cons, List.nodup_cons] at hn
    rcases List.mem_cons.1 h with h | h
    · cases h; simp
    · have : x ∈ r.map Prod.fst := List.mem_map.2 ⟨_, h, rfl⟩
      have hne : (x == y) = false := by
        rw [beq_eq_false_iff_ne]; rintro rfl; exact hn.1 this
      rw [hne, cond_false]
      exact mlook_mem hn.2 h
theorem mput_none {x p : List Int} : ∀ {E : EL}, (E.map Prod.fst).contains x = false → mput x p E = E ++ [(x, p)]
  | [], _ => rfl
  | (y, q) :: r, h => by
    rw [List.map_cons, List.contains_cons] at h
    have h1 : (x == y) = false := by
      cases hx : x == y with
      | false => rfl
      | true => rw [hx] at h; cases h
    rw [h1, Bool.false_or] at h
    simp only [mput, h1, cond_false, mput_none h, List.cons_append]
section
variable (S : List Int → Nat → List Int) (b : List Int)
/-- the board behind slides -/
def runW (S : List Int → Nat → List Int) : List Int → List Nat → List Int
  | b, [] => b
  | b, d :: r => runW S (S b d) r
theorem runW_snoc (S : List Int → Nat → List Int) : ∀ (b : List Int) (w : List Nat) (d : Nat), runW S b (w ++ [d]) = S (runW S b w) d
  | b, [], d => rfl
  | b, e :: w, d => by simp only [List.cons_append, runW]; exact runW_snoc S _ w d
def addW (E : EL) (w : List Nat) : EL := insE E (runW S b w, nw w)
/-- what words of fewer than k letters find -/
def TW : Nat → EL
  | 0 => []
  | k + 1 => (words k).foldl (addW S b) (TW k)
/-- all boards behind one -/
def expE (E : EL) (x : List Int × List Int) : EL := [0, 1, 2, 3].foldl (fun E d => insE E (S x.1 d, x.2 ++ [((d : Nat) : Int)])) E
theorem fold_mem : ∀ (ws : List (List Nat)) (E : EL) (y : List Int), y ∈ (ws.foldl (addW S b) E).map Prod.fst ↔ y ∈ E.map Prod.fst ∨ ∃ w ∈ ws, runW S b w = y
  | [], E, y => by simp
  | w :: ws, E, y => by
    rw [List.foldl_cons, fold_mem ws, addW, insE_mem]
    constructor
    · rintro ((h | h) | ⟨v, hv, h⟩)
      · exact .inl h
      · exact .inr ⟨w, List.mem_cons_self, h.symm⟩
      · exact .inr ⟨v, List.mem_cons_of_mem _ hv, h⟩
    · rintro (h | ⟨v, hv, h⟩)
      · exact .inl (.inl h)
      · rcases List.mem_cons.1 hv with rfl | hv
        · exact .inl (.inr h.symm)
        · exact .inr ⟨v, hv, h⟩
theorem TW_mem : ∀ (k : Nat) (y : List Int), y ∈ (TW S b k).map Prod.fst ↔ ∃ w : List Nat, w.length < k ∧ (∀ d ∈ w, d < 4) ∧ runW S b w = y
  | 0, y => by simp [TW]
  | k + 1, y => by
    rw [TW, fold_mem, TW_mem k]
    constructor
    · rintro (⟨w, h1, h2, h3⟩ | ⟨w, hw, h3⟩)
      · exact ⟨w, by omega, h2, h3⟩
      · obtain ⟨h1, h2⟩ := mem_words.1 hw
        exact ⟨w, by omega, h2, h3⟩
    · rintro ⟨w, h1, h2, h3⟩
      by_cases h : w.length = k
      · exact .inr ⟨w, mem_words.2 ⟨h, h2⟩, h3⟩
      · exact .inl ⟨w, by omega, h2, h3⟩
theorem fold_nodup : ∀ (ws : List (List Nat)) (E : EL), (E.map Prod.fst).Nodup → ((ws.foldl (addW S b) E).map Prod.fst).Nodup
  | [], E, h => h
  | w :: ws, E, h => fold_nodup ws _ (insE_nodup h _)
theorem TW_nodup : ∀ k : Nat, ((TW S b k).map Prod.fst).Nodup
  | 0 => List.nodup_nil
  | k + 1 => fold_nodup S b _ _ (TW_nodup k)
theorem fold_pre : ∀ (ws : List (List Nat)) (E : EL), ∃ l, ws.foldl (addW S b) E = E ++ l ∧ (∀ x ∈ l, ∃ w ∈ ws, x = (runW S b w, nw w)) ∧ l.length ≤ ws.length
  | [], E => ⟨[], by simp, fun x h => (by cases h), by simp⟩
  | w :: ws, E => by
    obtain ⟨l, h1, h2, h3⟩ := fold_pre ws (addW S b E w)
    rw [List.foldl_cons, h1]
    unfold addW insE
    cases (E.map Prod.fst).contains (runW S b w)
    · refine ⟨(runW S b w, nw w) :: l, by simp, fun x hx => ?_, by simp; omega⟩
      rcases List.mem_cons.1 hx with rfl | hx
      · exact ⟨w, List.mem_cons_self, rfl⟩
      · obtain ⟨v, hv, e⟩ := h2 x hx
        exact ⟨v, List.mem_cons_of_mem _ hv, e⟩
    · refine ⟨l, rfl, fun x hx => ?_, by simp; omega⟩
      obtain ⟨v, hv, e⟩ := h2 x hx
      exact ⟨v, List.mem_cons_of_mem _ hv, e⟩
theorem TW_ent : ∀ (k : Nat) (x : List Int × List Int), x ∈ TW S b k → ∃ w : List Nat, w.length < k ∧ (∀ d ∈ w, d < 4) ∧ x = (runW S b w, nw w)
  | 0, x, h => by simp [TW] at h
  | k + 1, x, h => by
    obtain ⟨l, h1, h2, _⟩ := fold_pre S b (words k) (TW S b k)
    rw [TW, h1, List.mem_append] at h
    rcases h with h | h
    · obtain ⟨w, a1, a2, a3⟩ := TW_ent k x h
      exact ⟨w, by omega, a2, a3⟩
    · obtain ⟨w, hw, e⟩ := h2 x h
      obtain ⟨a1, a2⟩ := mem_words.1 hw
      exact ⟨w, by omega, a2, e⟩
theorem TW_len : ∀ k : Nat, (TW S b k).length ≤ k * 4 ^ k
  | 0 => by simp [TW]
  | k + 1 => by
    obtain ⟨l, h1, _, h3⟩ := fold_pre S b (words k) (TW S b k)
    rw [TW, h1, List.length_append]
    have := TW_len k
    rw [words_len] at h3
    have e : 4 ^ (k + 1) = 4 * 4 ^ k := by rw [Nat.pow_succ]; omega
    rw [e, Nat.add_mul, Nat.mul_left_comm]
    omega
theorem exp_mem (E : EL) (x : List Int × List Int) (y : List Int) : y ∈ (expE S E x).map Prod.fst ↔ y ∈ E.map Prod.fst ∨ ∃ d : Nat, d < 4 ∧ y = S x.1 d := by
  simp only [expE, List.foldl_cons, List.foldl_nil, insE_mem]
  constructor
  · rintro ((((h | h) | h) | h) | h)
    · exact .inl h
    · exact .inr ⟨0, by omega, h⟩
    · exact .inr ⟨1, by omega, h⟩
    · exact .inr ⟨2, by omega, h⟩
    · exact .inr ⟨3, by omega, h⟩
  · rintro (h | ⟨d, hd, h⟩)
    · exact .inl (.inl (.inl (.inl h)))
    · obtain rfl | rfl | rfl | rfl : d = 0 ∨ d = 1 ∨ d = 2 ∨ d = 3 := by omega
      · exact .inl (.inl (.inl (.inr h)))
      · exact .inl (.inl (.inr h))
      · exact .inl (.inr h)
      · exact .inr h
theorem exp_idle (E : EL) (x : List Int × List Int) (h : ∀ d : Nat, d < 4 → S x.1 d ∈ E.map Prod.fst) : expE S E x = E := by
  have e : ∀ d : Nat, d < 4 → insE E (S x.1 d, x.2 ++ [((d : Nat) : Int)]) = E := fun d hd => by
    unfold insE
    rw [show (E.map Prod.fst).contains (S x.1 d, x.2 ++ [((d : Nat) : Int)]).1 = true from List.contains_iff_mem.2 (h d hd)]; rfl
  simp only [expE, List.foldl_cons, List.foldl_nil]
  rw [e 0 (by omega), e 1 (by omega), e 2 (by omega), e 3 (by omega)]
/-- only the new ones matter -/
theorem exp_new : ∀ (ws : List (List Nat)) (E0 G : EL) (l : EL), ws.foldl (addW S b) E0 = E0 ++ l → (∀ x ∈ E0.map Prod.fst, ∀ d : Nat, d < 4 → S x d ∈ G.map Prod.fst) →
    l.foldl (expE S) G = (ws.map fun w => (runW S b w, nw w)).foldl (expE S) G
  | [], E0, G, l, h, _ => by
    rw [List.foldl_nil] at h
    have : l = [] := by
      have := congrArg List.length h
      rw [List.length_append] at this
      exact List.length_eq_zero_iff.1 (by omega)
    rw [this]; rfl
  | w :: ws, E0, G, l, h, hc => by
    rw [List.foldl_cons] at h
    rw [List.map_cons, List.foldl_cons]
    cases hm : (E0.map Prod.fst).contains (runW S b w) with
    | true =>
      have e : addW S b E0 w = E0 := by unfold addW insE; rw [hm]; rfl
      rw [e] at h
      rw [exp_idle S G _ fun d hd => hc _ (List.contains_iff_mem.1 hm) d hd]
      exact exp_new ws E0 G l h hc
    | false =>
      have e : addW S b E0 w = E0 ++ [(runW S b w, nw w)] := by unfold addW insE; rw [hm]; rfl
      rw [e] at h
      obtain ⟨l', h1, _, _⟩ := fold_pre S b ws (E0 ++ [(runW S b w, nw w)])
      have hl : l = (runW S b w, nw w) :: l' := by
        rw [h1, List.append_assoc] at h
        exact (List.append_cancel_left h).symm
      rw [hl, List.foldl_cons]
      refine exp_new ws _ _ l' h1 fun x hx d hd => ?_
      rw [List.map_append, List.mem_append] at hx
      rw [exp_mem]
      rcases hx with hx | hx
      · exact .inl (hc x hx d hd)
      · simp only [List.map_cons, List.map_nil, List.mem_singleton] at hx
        subst hx
        exact .inr ⟨d, hd, rfl⟩
theorem fold_exp : ∀ (ws : List (List Nat)) (G : EL), (ws.map fun w => (runW S b w, nw w)).foldl (expE S) G = (ws.flatMap fun w => [0, 1, 2, 3].map fun d => w ++ [d]).foldl (addW S b) G
  | [], G => rfl
  | w :: ws, G => by
    rw [List.map_cons, List.foldl_cons, fold_exp ws, List.flatMap_cons, List.foldl_append]
    congr 1
    simp only [expE, List.map_cons, List.map_nil, List.foldl_cons, List.foldl_nil, addW, runW_snoc]
    simp [nw]
/-- what a level adds is what the next one comes of -/
theorem TW_next (k : Nat) {l : EL} (h : TW S b (k + 1) = TW S b k ++ l) : l.foldl (expE S) (TW S b (k + 1)) = TW S b (k + 2) := by
  rw [exp_new S b (words k) (TW S b k) _ l h fun x hx d hd => ?_, fold_exp, ← words_snoc]
  · rfl
  · obtain ⟨w, h1, h2, rfl⟩ := (TW_mem S b k x).1 hx
    refine (TW_mem S b (k + 1) _).2 ⟨w ++ [d], by simp; omega, fun e he => ?_, runW_snoc S b w d⟩
    rcases List.mem_append.1 he with he | he
    · exact h2 e he
    · simp at he; omega
/-- the first word that leads somewhere -/
theorem mlook_fold (c : List Int) : ∀ (ws : List (List Nat)) (E : EL), mlook c (ws.foldl (addW S b) E) = (mlook c E).or ((ws.find? fun w => runW S b w == c).map nw)
  | [], E => by simp
  | w :: ws, E => by
    rw [List.foldl_cons, mlook_fold c ws, List.find?_cons]
    unfold addW insE
    cases hm : (E.map Prod.fst).contains (runW S b w) with
    | true =>
      rw [cond_true]
      cases hw : runW S b w == c with
      | false => rfl
      | true =>
        have e := eq_of_beq hw
        subst e
        obtain ⟨p, hp⟩ : ∃ p, mlook (runW S b w) E = some p := by
          rw [← Option.isSome_iff_exists, mlook_isSome]; exact hm
        rw [hp]; rfl
    | false =>
      rw [cond_false, mlook_append]
      have e2 : mlook c [(runW S b w, nw w)] = bif runW S b w == c then some (nw w) else none := by
        simp only [mlook]
        have : (c == runW S b w) = (runW S b w == c) := by rw [Bool.eq_iff_iff, beq_iff_eq, beq_iff_eq]; exact ⟨Eq.symm, Eq.symm⟩
        rw [this]
      rw [e2]
      cases hw : runW S b w == c with
      | false => simp
      | true =>
        cases mlook c E <;> rfl
theorem find_words (a c : List Int) (n : Nat) : (words (n + 1)).find? (fun w => runW S a w == c) = ([0, 1, 2, 3].find? fun d => ((words n).find? fun w => runW S (S a d) w == c).isSome).bind fun d => ((words n).find? fun w => runW S (S a d) w == c).map (d :: ·) := by
  have key : ∀ ds : List Nat, (ds.flatMap fun d => (words n).map (d :: ·)).find? (fun w => runW S a w == c) = (ds.find? fun d => ((words n).find? fun w => runW S (S a d) w == c).isSome).bind fun d => ((words n).find? fun w => runW S (S a d) w == c).map (d :: ·) := by
    intro ds
    induction ds with
    | nil => rfl
    | cons d r ih =>
      rw [List.flatMap_cons, List.find?_append, ih, List.find?_cons, List.find?_map]
      have e : ((fun w => runW S a w == c) ∘ (d :: ·)) = fun w => runW S (S a d) w == c := rfl
      rw [e]
      cases h : (words n).find? fun w => runW S (S a d) w == c with
      | none => simp
      | some v => simp [h]
  exact key _
end
end Go.Lv.P

namespace Go.Lv.P
open Go Go.Lv
/-- the first place that is not below -/
theorem insB_at (b : List Int) : ∀ l : LL, ∃ n, n ≤ l.length ∧ (∀ i, i < n → ltL (rget l i) b = true) ∧ (n < l.length → ltL (rget l n) b = false) ∧ insB b l = bif decide (n < l.length) && (rget l n == b) then l else l.take n ++ [b] ++ l.drop n
  | [] => ⟨0, Nat.le_refl _, fun i h => by omega, fun h => by simp at h, rfl⟩
  | a :: r => by
    cases h : ltL a b with
    | true =>
      obtain ⟨n, h1, h2, h3, h4⟩ := insB_at b r
      refine ⟨n + 1, by simp; omega, fun i hi => ?_, fun hn => ?_, ?_⟩
      · cases i with
        | zero => exact h
        | succ i => exact h2 i (by omega)
      · exact h3 (by simpa using hn)
      · have e1 : rget (a :: r) (n + 1) = rget r n := rfl
        have e2 : decide (n + 1 < (a :: r).length) = decide (n < r.length) := by simp
        rw [e1, e2]
        simp only [insB, h, cond_true, h4]
        cases decide (n < r.length) && (rget r n == b) <;> simp
    | false =>
      refine ⟨0, Nat.zero_le _, fun i hi => by omega, fun _ => h, ?_⟩
      have e1 : rget (a :: r) 0 = a := rfl
      rw [e1]
      simp only [insB, h, cond_false]
      cases a == b <;> simp
theorem fnd_at {X : Type} (p : Nat → Bool) (f : Nat → X) (e : X) : ∀ (m i n : Nat), (∀ j, i ≤ j → j < i + n → p j = false) → n ≤ m → (n < m → p (i + n) = true) → fnd p f e i m = bif decide (n < m) then f (i + n) else e
  | 0, i, n, _, h, _ => by
    have : n = 0 := by omega
    subst this; rfl
  | m + 1, i, 0, _, _, h => by
    have := h (by omega)
    simp only [Nat.add_zero] at this
    simp only [fnd, this, cond_true, Nat.add_zero]
    rw [decide_eq_true (by omega)]; rfl
  | m + 1, i, n + 1, h1, h2, h3 => by
    have h0 := h1 i (Nat.le_refl _) (by omega)
    simp only [fnd, h0, cond_false]
    rw [fnd_at p f e m (i + 1) n (fun j hj hj2 => h1 j (by omega) (by omega)) (by omega) (fun hh => by rw [show i + 1 + n = i + (n + 1) by omega]; exact h3 (by omega))]
    rw [show i + 1 + n = i + (n + 1) by omega]
    have : decide (n < m) = decide (n + 1 < m + 1) := by simp
    rw [this]
theorem add_eq (F : Nat) {l : LL} {b : List Int} (hF : 1000 < F) (hb : b.length = 16) (h16 : ∀ x ∈ l, x.length = 16) (hl : l.length ≤ 1000000) (hlF : l.length < F) : spec_l3Add_p F l b = some (insB b l) := by
  obtain ⟨n, h1, h2, h3, h4⟩ := insB_at b l
  have hmem : ∀ i, i < l.length → (rget l i).length = 16 := fun i hi => h16 _ (by rw [rgetL, List.getElem?_eq_getElem hi]; exact List.getElem_mem hi)
  have hloop : spec_l3Add_l2 F l b 0 = some ((n : Nat) : Int) := by
    have h := loop_find (step := spec_l3Add_s2 F l b) (fun i => i) l.length (fun i => !(ltL (rget l i) b)) (fun i => (i : Int)) ((l.length : Nat) : Int) (F := F) hlF (by omega) (fun i hi Q kn kx => by
      simp only [spec_l3Add_s2, Int.ofNat_lt, inR_cast, hi, Int.toNat_natCast, decide_true, cond_true, before_eq F hF (hmem i hi) hb, Option.isSome_some, Option.getD_some]
      cases ltL (rget l i) b <;> rfl) (fun Q kn kx => by simp [spec_l3Add_s2])
    rw [fnd_at _ _ _ l.length 0 n (fun j _ hj => by rw [h2 j (by omega)]; rfl) h1 (fun hn => by rw [Nat.zero_add, h3 hn]; rfl), Nat.zero_add] at h
    have h : spec_l3Add_l2 F l b 0 = _ := h
    rw [h]
    cases hd : decide (n < l.length) with
    | true => rfl
    | false =>
      have := of_decide_eq_false hd
      have : n = l.length := by omega
      rw [this]; rfl
  have f : ∀ m : Nat, m ≤ 1000001 → fits m 128 = true := fun m h => fits_of (by omega) (by omega)
  have e1 : subn l.length l 0 n = l.take n := subn_take0 l n
  have e2 : subn l.length l n (l.length - n) = l.drop n := by
    rw [subn_eqL _ _ _ _ rfl, sub, List.take_of_length_le (by simp)]
  have t1 : (l.take n).length ≤ 1000001 := by simp; omega
  have t2 : (l.take n ++ [b]).length ≤ 1000001 := by simp; omega
  have t3 : (l.take n ++ [b] ++ l.drop n).length ≤ 1000001 := by simp; omega
  simp only [spec_l3Add_p, spec_l3Add_c, hloop, Option.isSome_some, Option.getD_some, cond_true, Int.toNat_natCast, Int.ofNat_lt, inR_cast, inLe_cast, h1, Nat.sub_zero, e1, e2, subn_self, decide_true, f _ t1, f _ t2, f _ t3]
  rw [h4]
  cases hd : decide (n < l.length) with
  | true =>
    cases rget l n == b <;> rfl
  | false => rfl
end Go.Lv.P

namespace Go.Lv.P
open Go Go.Lv
/-- the number of tiles -/
def isT (x : Int) : Int := if x = 0 then 0 else 1
/-- how often a tile is in a list -/
def isN (t x : Int) : Int := if x = t then 1 else 0
def bump (out : List Int) (x : Int) : List Int := iset out (0 + x.toNat * 1) (IntKind.wrap .i64 (iget out (0 + x.toNat * 1) + 1))
theorem bump_get {out : List Int} (hl : out.length = 18) {x : Int} (hx : inB x 0 17 = true) (h0 : 0 ≤ iget out x.toNat ∧ iget out x.toNat ≤ 1000000) (t : Nat) (ht : t < 18) : iget (bump out x) t = iget out t + isN (t : Int) x := by
  simp [inB] at hx
  unfold bump isN
  rw [iget_iset _ _ _ _ (by omega), wrap_of (by simp only [Nat.mul_one, Nat.zero_add]; omega) (by simp only [Nat.mul_one, Nat.zero_add]; omega)]
  simp only [Nat.mul_one, Nat.zero_add]
  by_cases h : x.toNat = t
  · have h' : x = (t : Int) := by omega
    rw [if_pos h, if_pos h', h]
  · have h' : ¬ x = (t : Int) := by omega
    rw [if_neg h, if_neg h']; omega
theorem bumps_get : ∀ (l : List Int) (out : List Int), out.length = 18 → (∀ x ∈ l, inB x 0 17 = true) → l.length ≤ 1000 → (∀ t, t < 18 → 0 ≤ iget out t ∧ iget out t + l.length ≤ 100000) → ∀ t : Nat, t < 18 → iget (l.foldl bump out) t = iget out t + fs (isN (t : Int)) l
  | [], out, _, _, _, _, t, _ => by simp [fs]
  | x :: l, out, hl, hx, hn, hb, t, ht => by
    have hx0 := hx x List.mem_cons_self
    have hx1 : 0 ≤ x ∧ x ≤ 17 := by simpa [inB] using hx0
    simp only [List.length_cons] at hn hb
    have g := fun t (ht : t < 18) => bump_get hl hx0 (by have := hb x.toNat (by omega); omega) t ht
    have hlen : (bump out x).length = 18 := by unfold bump; rw [isetL, List.length_set, hl]
    have nn : ∀ t : Nat, 0 ≤ isN (t : Int) x ∧ isN (t : Int) x ≤ 1 := fun t => by unfold isN; split <;> omega
    rw [List.foldl_cons, bumps_get l (bump out x) hlen (fun y hy => hx y (List.mem_cons_of_mem _ hy)) (by omega) (fun t ht => by have := g t ht; have := hb t ht; have := nn t; omega) t ht, g t ht, fs]
    omega
abbrev zero18 : List Int := [0, 0, 0, 0, 0, 0, 0, 0, 0, 0, 0, 0, 0, 0, 0, 0, 0, 0]
theorem count_get {b : List Int} (hb : b.length = 16) (ok : ∀ x ∈ b, inB x 0 17 = true) (t : Nat) (ht : t < 18) : iget (b.foldl bump zero18) t = fs (isN (t : Int)) b := by
  have z : ∀ t, t < 18 → iget zero18 t = 0 := fun t ht => by
    obtain rfl | rfl | rfl | rfl | rfl | rfl | rfl | rfl | rfl | rfl | rfl | rfl | rfl | rfl | rfl | rfl | rfl | rfl : t = 0 ∨ t = 1 ∨ t = 2 ∨ t = 3 ∨ t = 4 ∨ t = 5 ∨ t = 6 ∨ t = 7 ∨ t = 8 ∨ t = 9 ∨ t = 10 ∨ t = 11 ∨ t = 12 ∨ t = 13 ∨ t = 14 ∨ t = 15 ∨ t = 16 ∨ t = 17 := by omega
    all_goals rfl
  rw [bumps_get b zero18 rfl ok (by omega) (fun t ht => by rw [z t ht]; omega) t ht, z t ht]; omega
theorem fs_nonneg {f : Int → Int} (h : ∀ x, 0 ≤ f x) : ∀ l : List Int, 0 ≤ fs f l
  | [] => Int.le_refl _
  | x :: l => by have := fs_nonneg h l; have := h x; simp only [fs]; omega
theorem isN_nn (t x : Int) : 0 ≤ isN t x := by unfold isN; split <;> omega
theorem fs_mem {t : Int} : ∀ {l : List Int} {p : Nat}, p < l.length → iget l p = t → 1 ≤ fs (isN t) l
  | [], p, h, _ => by simp at h
  | x :: l, 0, _, e => by
    have e : x = t := e
    have := fs_nonneg (isN_nn t) l
    simp only [fs, isN, e, if_true]; omega
  | x :: l, p + 1, h, e => by
    have := fs_mem (t := t) (l := l) (p := p) (by simpa using h) e
    have := isN_nn t x
    simp only [fs]; omega
theorem fs_two {t : Int} : ∀ {l : List Int} {p q : Nat}, p < q → q < l.length → iget l p = t → iget l q = t → 2 ≤ fs (isN t) l
  | [], p, q, _, h, _, _ => by simp at h
  | x :: l, 0, q + 1, _, h, e1, e2 => by
    have e1 : x = t := e1
    have := fs_mem (t := t) (l := l) (p := q) (by simpa using h) e2
    simp only [fs, isN, e1, if_true]; omega
  | x :: l, p + 1, q + 1, hpq, h, e1, e2 => by
    have := fs_two (t := t) (l := l) (p := p) (q := q) (by omega) (by simpa using h) e1 e2
    have := isN_nn t x
    simp only [fs]; omega
/-- no tile is there twice -/
def Dis (b : List Int) : Prop := ∀ p q : Nat, p < 16 → q < 16 → p ≠ q → iget b p = iget b q → iget b p = 0
theorem dis_of {b : List Int} (hb : b.length = 16) (ok : ∀ x ∈ b, inB x 0 17 = true) (h : ∀ t : Nat, 1 ≤ t → t ≤ 17 → fs (isN (t : Int)) b ≤ 1) : Dis b := by
  intro p q hp hq hpq e
  have hin : inB (iget b p) 0 17 = true := by
    rw [igetL, List.getElem?_eq_getElem (by omega)]; exact ok _ (List.getElem_mem _)
  simp [inB] at hin
  obtain ⟨t, ht⟩ := Int.eq_ofNat_of_zero_le hin.1
  by_cases h0 : t = 0
  · rw [ht, h0]; rfl
  · have := h t (by omega) (by omega)
    rcases Nat.lt_or_gt_of_ne hpq with h1 | h1
    · have := fs_two h1 (by omega) ht (by rw [← e, ht]); omega
    · have := fs_two h1 (by omega) (by rw [← e, ht]) ht; omega
end Go.Lv.P

namespace Go.Lv.P
open Go Go.Lv
def pst (x s : Int) : Int := bif decide ((0 : Int) < x) then IntKind.wrap .i64 (s + IntKind.wrap .i64 (IntKind.wrap .i64 (x - 1) * W x)) else s
def potB (b : List Int) : Int := fld (fun i s => pst (iget b (0 + i)) s) 0 16 0
theorem fld44 (g : Int → Int → Int) (b : List Int) : fld (fun r s => fld (fun c s => g (iget b (0 + r * 4 + c * 1)) s) 0 4 s) 0 4 0 = fld (fun i s => g (iget b (0 + i)) s) 0 16 0 := rfl
section
variable {b : List Int} (hb : b.length = 16) (ok : okB b = true)
include hb ok
theorem worthI (i : Nat) (hi : i < 16) (h0 : decide ((0 : Int) < iget b i) = true) : impl_worth_p (iget b i) = some (W (iget b i)) := by
  have ht := iget_ok ((okB_iff b).1 ok) (by omega : i < b.length)
  simp at h0
  exact worth_eq ht
theorem impl_pot (F : Nat) (hF : 1000 < F) : impl_Board_potential_p F b = some (potB b) := by
  have h := loop_fold (step := impl_Board_potential_s3 F ((16 : Nat) : Int) b) (fun i (s : Int) => (s, i)) 16 (fun i s => pst (iget b (0 + i)) s) (fun s => s) (fun _ _ => True) (F := F) (by omega) (by omega) (a := 0) trivial
    (fun i s hi _ => ⟨trivial, fun Q kn kx => by
      have hi' : i < b.length := by omega
      have hin : inR (i : Int) b.length = true := by rw [inR_cast]; exact decide_eq_true hi'
      simp only [impl_Board_potential_s3, Int.ofNat_lt, hi, decide_true, hin, cond_true, Int.toNat_natCast, pst]
      cases h0 : decide ((0 : Int) < iget b (0 + i)) with
      | false => rfl
      | true =>
        rw [Nat.zero_add] at h0 ⊢
        rw [(worthI hb ok i hi h0)]; rfl⟩) (fun s _ Q kn kx => by simp [impl_Board_potential_s3])
  have h1 : impl_Board_potential_l3 F ((16 : Nat) : Int) b 0 0 = some (potB b) := h.1
  simp only [impl_Board_potential_p, impl_Board_potential_c, flat_eq hb, hb, h1, Option.isSome_some, Option.getD_some, cond_true, beq_selfL, Bool.and_self]
end
end Go.Lv.P

namespace Go.Lv.P
open Go Go.Lv
set_option maxRecDepth 100000
theorem spec_line (G : Nat) {d i : Nat} (hd : d < 4) (hi : i < 4) : spec_l2Line_p (G + 1001) d i = some (crd d i) := by
  obtain rfl | rfl | rfl | rfl : d = 0 ∨ d = 1 ∨ d = 2 ∨ d = 3 := by omega
  all_goals
    obtain rfl | rfl | rfl | rfl : i = 0 ∨ i = 1 ∨ i = 2 ∨ i = 3 := by omega
    all_goals kernel_rfl
theorem spec_nums (G : Nat) (b : List Int) {d i : Nat} (hd : d < 4) (hi : i < 4) : spec_l2Numbers_p (G + 1001) b d i = some (lineB b d i) := by
  obtain rfl | rfl | rfl | rfl : d = 0 ∨ d = 1 ∨ d = 2 ∨ d = 3 := by omega
  all_goals
    obtain rfl | rfl | rfl | rfl : i = 0 ∨ i = 1 ∨ i = 2 ∨ i = 3 := by omega
    all_goals kernel_rfl
theorem put_line0 (out : List Int) (x : Int) {d i : Nat} (hd : d < 4) (hi : i < 4) : spec_l2Put_p out (sub (crd d i) 0 2) x = some (iset out (plcD d i 0) x) := by
  obtain rfl | rfl | rfl | rfl : d = 0 ∨ d = 1 ∨ d = 2 ∨ d = 3 := by omega
  all_goals
    obtain rfl | rfl | rfl | rfl : i = 0 ∨ i = 1 ∨ i = 2 ∨ i = 3 := by omega
    all_goals kernel_rfl
theorem put_line1 (out : List Int) (x : Int) {d i : Nat} (hd : d < 4) (hi : i < 4) : spec_l2Put_p out (sub (crd d i) 2 2) x = some (iset out (plcD d i 1) x) := by
  obtain rfl | rfl | rfl | rfl : d = 0 ∨ d = 1 ∨ d = 2 ∨ d = 3 := by omega
  all_goals
    obtain rfl | rfl | rfl | rfl : i = 0 ∨ i = 1 ∨ i = 2 ∨ i = 3 := by omega
    all_goals kernel_rfl
theorem put_line2 (out : List Int) (x : Int) {d i : Nat} (hd : d < 4) (hi : i < 4) : spec_l2Put_p out (sub (crd d i) 4 2) x = some (iset out (plcD d i 2) x) := by
  obtain rfl | rfl | rfl | rfl : d = 0 ∨ d = 1 ∨ d = 2 ∨ d = 3 := by omega
  all_goals
    obtain rfl | rfl | rfl | rfl : i = 0 ∨ i = 1 ∨ i = 2 ∨ i = 3 := by omega
    all_goals kernel_rfl
theorem put_line3 (out : List Int) (x : Int) {d i : Nat} (hd : d < 4) (hi : i < 4) : spec_l2Put_p out (sub (crd d i) 6 2) x = some (iset out (plcD d i 3) x) := by
  obtain rfl | rfl | rfl | rfl : d = 0 ∨ d = 1 ∨ d = 2 ∨ d = 3 := by omega
  all_goals
    obtain rfl | rfl | rfl | rfl : i = 0 ∨ i = 1 ∨ i = 2 ∨ i = 3 := by omega
    all_goals kernel_rfl
section
variable {b : List Int} (hb : b.length = 16) (ok : okB b = true)
include hb ok
theorem spec_slide (F : Nat) (hF : 1000 < F) {d : Nat} (hd : d < 4) : spec_l2Slide_p F b d = some (slideB b d) := by
  obtain ⟨G, rfl⟩ : ∃ G, F = G + 1001 := ⟨F - 1001, by omega⟩
  have h := loop_fold (step := spec_l2Slide_s3 (G + 1001) d b) (fun i (s : List Int × Int) => (s.2, i, s.1)) 4 (sstep b d) (fun s => (s.2, s.1)) (fun _ _ => True) (F := G + 1001) (by omega) (by omega) (a := (b, 0)) trivial
    (fun i s hi _ => ⟨trivial, fun Q kn kx => by
      have hi' : (i : Int) < 4 := by omega
      simp only [spec_l2Slide_s3, hi', decide_true, cond_true, spec_nums G b hd hi, spec_row (G + 1001) _ rfl (line_ok hb ((okB_iff b).1 ok) hd hi) hF, spec_line G hd hi, put_line0 _ _ hd hi, put_line1 _ _ hd hi, put_line2 _ _ hd hi, put_line3 _ _ hd hi, Option.isSome_some, Option.getD_some, sstep, putB]⟩)
    (fun s _ Q kn kx => by simp [spec_l2Slide_s3])
  have e : spec_l2Slide_l3 (G + 1001) d b 0 0 b = some ((slideB b d).2, (slideB b d).1) := h.1
  simp only [spec_l2Slide_p, spec_l2Slide_c, e, Option.isSome_some, Option.getD_some, cond_true]
end
end Go.Lv.P
