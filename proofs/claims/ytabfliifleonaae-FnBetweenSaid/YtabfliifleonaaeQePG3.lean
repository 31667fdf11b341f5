/-
Plain facts of the pure functions, part 3; without conditions.
-/
import Derived.Test.YtabfliifleonaaeQePG2
import Derived.Test.YtabfliifleonaaeQePG1
import Derived.Test.YtabfliifleonaaeQeP4
import Derived.Test.YtabfliifleonaaeQeP2
import Derived.Test.YtabfliifleonaaeQeP1
import Derived.Test.YtabfliifleonaaeQeP3
set_option linter.unusedVariables false
set_option linter.unusedSimpArgs false
set_option linter.unusedSectionVars false
namespace Go.Lv.P
open Go Go.Lv
/-- the sum of a function over numbers -/
def fs (f : Int → Int) : List Int → Int
  | [] => 0
  | x :: r => f x + fs f r
theorem fs_append (f : Int → Int) : ∀ a b : List Int, fs f (a ++ b) = fs f a + fs f b
  | [], b => by simp [fs]
  | x :: a, b => by simp only [List.cons_append, fs, fs_append f a b]; omega
theorem fs_foldl (f : Int → Int) : ∀ (l : List Int) (a : Int), (l.map f).foldl (· + ·) a = a + fs f l
  | [], a => by simp [fs]
  | x :: l, a => by simp only [List.map_cons, List.foldl_cons, fs_foldl f l, fs]; omega
theorem fs_iset (f : Int → Int) : ∀ (l : List Int) (i : Nat) (x : Int), i < l.length → fs f (iset l i x) = fs f l - f (iget l i) + f x
  | [], i, x, h => by simp at h
  | y :: l, 0, x, h => by simp only [iset, iget, fs]; omega
  | y :: l, i + 1, x, h => by
    have := fs_iset f l i x (by simpa using h)
    simp only [iset, iget, fs, this]; omega
theorem fs_filter (f : Int → Int) (h0 : f 0 = 0) : ∀ l : List Int, fs f (l.filter fun x => !(x == 0)) = fs f l
  | [] => rfl
  | x :: l => by
    rw [List.filter_cons]
    cases hx : x == 0 with
    | true =>
      have e := eq_of_beq hx
      subst e
      simp only [Bool.not_true, Bool.false_eq_true, if_false, fs, h0, fs_filter f h0 l]; omega
    | false => simp only [Bool.not_false, if_true, fs, fs_filter f h0 l]
theorem fs_sub (f g : Int → Int) : ∀ l : List Int, fs (fun x => f x - g x) l = fs f l - fs g l
  | [] => rfl
  | x :: l => by simp only [fs, fs_sub f g l]; omega
theorem fs_congr {f g : Int → Int} : ∀ {l : List Int}, (∀ x ∈ l, f x = g x) → fs f l = fs g l
  | [], _ => rfl
  | x :: l, h => by simp only [fs, h x List.mem_cons_self, fs_congr fun y hy => h y (List.mem_cons_of_mem _ hy)]
theorem fs_bound {f : Int → Int} {m : Int} : ∀ {l : List Int}, (∀ x ∈ l, 0 ≤ f x ∧ f x ≤ m) → 0 ≤ fs f l ∧ fs f l ≤ m * l.length
  | [], _ => by simp [fs]
  | x :: l, h => by
    have h1 := h x List.mem_cons_self
    have h2 := fs_bound (f := f) (m := m) fun y hy => h y (List.mem_cons_of_mem _ hy)
    simp only [fs, List.length_cons]
    rw [show m * ((l.length + 1 : Nat) : Int) = m * (l.length : Int) + m by rw [Int.natCast_add, Int.mul_add]; simp]
    omega
/-- what merges when one more tile comes -/
def rhit (s : RS) (x : Int) : Bool := decide (0 < s.1) && (iget s.2.2.2 (0 + (s.1 - 1) * 1) == x) && decide (x < 17) && !s.2.2.1
def mgs : RS → List Int → List Int
  | _, [] => []
  | s, x :: r => bif rhit s x then (x + 1) :: mgs (rstep s x) r else mgs (rstep s x) r
def RI (s : RS) : Prop := s.2.2.2.length = 4 ∧ ∀ j, s.1 ≤ j → j < 4 → iget s.2.2.2 j = 0
theorem iget_iset (l : List Int) (i j : Nat) (x : Int) (h : i < l.length) : iget (iset l i x) j = if i = j then x else iget l j := by
  rw [igetL, igetL, isetL, List.getElem?_set]
  split
  · rename_i e; subst e; simp [h]
  · rfl
theorem rstep_RI {s : RS} {x : Int} (h : RI s) (hs : s.1 < 4) : RI (rstep s x) := by
  unfold rstep
  cases hc : decide (0 < s.1) && (iget s.2.2.2 (0 + (s.1 - 1) * 1) == x) && decide (x < 17) && !s.2.2.1 with
  | true =>
    have h0 : 0 < s.1 := by simp at hc; omega
    refine ⟨by rw [cond_true]; show (iset _ _ _).length = 4; rw [iset_len]; exact h.1, fun j hj hj4 => ?_⟩
    rw [cond_true] at hj ⊢
    have hj : s.1 ≤ j := hj
    show iget (iset s.2.2.2 _ _) j = 0
    rw [iget_iset _ _ _ _ (by rw [h.1]; omega), if_neg (by omega)]
    exact h.2 j hj hj4
  | false =>
    refine ⟨by rw [cond_false]; show (iset _ _ _).length = 4; rw [iset_len]; exact h.1, fun j hj hj4 => ?_⟩
    rw [cond_false] at hj ⊢
    have hj : s.1 + 1 ≤ j := hj
    show iget (iset s.2.2.2 _ _) j = 0
    rw [iget_iset _ _ _ _ (by rw [h.1]; omega), if_neg (by omega)]
    exact h.2 j (by omega) hj4
theorem rstep_fs (f : Int → Int) (h0 : f 0 = 0) {s : RS} {x : Int} (h : RI s) (hs : s.1 < 4) : fs f (rstep s x).2.2.2 = fs f s.2.2.2 + f x + bif rhit s x then f (x + 1) - 2 * f x else 0 := by
  unfold rstep rhit
  cases hc : decide (0 < s.1) && (iget s.2.2.2 (0 + (s.1 - 1) * 1) == x) && decide (x < 17) && !s.2.2.1 with
  | true =>
    have h1 : 0 < s.1 := by simp at hc; omega
    have h2 : iget s.2.2.2 (0 + (s.1 - 1) * 1) = x := by simp at hc; simpa using hc.1.1.2
    rw [cond_true, cond_true]
    show fs f (iset s.2.2.2 _ _) = _
    rw [fs_iset f _ _ _ (by rw [h.1]; omega), h2]; omega
  | false =>
    rw [cond_false, cond_false]
    show fs f (iset s.2.2.2 _ _) = _
    rw [fs_iset f _ _ _ (by rw [h.1]; omega), h.2 (0 + s.1 * 1) (by omega) (by omega), h0]; omega
theorem rfold_fs (f : Int → Int) (h0 : f 0 = 0) : ∀ (l : List Int) (s : RS), RI s → s.1 + l.length ≤ 4 → fs f (l.foldl rstep s).2.2.2 = fs f s.2.2.2 + fs f l + fs (fun m => f m - 2 * f (m - 1)) (mgs s l)
  | [], s, _, _ => by simp [fs, mgs]
  | x :: l, s, h, hl => by
    simp only [List.length_cons] at hl
    have h1 := rstep_n s x
    have ih := rfold_fs f h0 l (rstep s x) (rstep_RI h (by omega)) (by omega)
    have h2 := rstep_fs f h0 (x := x) h (by omega)
    rw [List.foldl_cons, ih, h2]
    simp only [fs, mgs]
    cases rhit s x with
    | true => simp only [cond_true, fs]; rw [show x + 1 - 1 = x by omega]; omega
    | false => simp only [cond_false]; omega
/-- what has merged is of two tiles -/
theorem mgs_ok : ∀ (l : List Int) (s : RS), (∀ x ∈ l, inB x 1 17 = true) → ∀ m ∈ mgs s l, inB m 2 17 = true
  | [], s, _, m, h => by simp [mgs] at h
  | x :: l, s, hl, m, h => by
    have hx := hl x List.mem_cons_self
    simp only [mgs] at h
    have ih := mgs_ok l (rstep s x) (fun y hy => hl y (List.mem_cons_of_mem _ hy))
    cases hh : rhit s x with
    | false => rw [hh] at h; exact ih m h
    | true =>
      rw [hh, cond_true] at h
      rcases List.mem_cons.1 h with rfl | h
      · unfold rhit at hh
        simp only [Bool.and_eq_true, decide_eq_true_eq] at hh
        simp only [inB, Bool.and_eq_true, decide_eq_true_eq] at hx ⊢
        omega
      · exact ih m h
theorem mgs_len : ∀ (l : List Int) (s : RS), (mgs s l).length ≤ l.length
  | [], s => by simp [mgs]
  | x :: l, s => by
    have := mgs_len l (rstep s x)
    simp only [mgs, List.length_cons]
    cases rhit s x
    · rw [cond_false]; omega
    · rw [cond_true, List.length_cons]; omega
theorem kstep_score {s : RS} {x : Int} : (rstep s x).2.1 = bif rhit s x then IntKind.wrap .i64 (s.2.1 + W (x + 1)) else s.2.1 := by
  unfold rstep rhit
  cases decide (0 < s.1) && (iget s.2.2.2 (0 + (s.1 - 1) * 1) == x) && decide (x < 17) && !s.2.2.1 <;> rfl
theorem W_of {m : Int} (h : inB m 2 17 = true) : 0 ≤ W m ∧ W m ≤ 131072 := by
  have h2 : inB m 0 17 = true := by
    simp only [inB, Bool.and_eq_true, decide_eq_true_eq] at h ⊢; omega
  exact ⟨(W_facts h2).1, (W_facts h2).2.1⟩
theorem kfold_score : ∀ (l : List Int) (s : RS), (∀ x ∈ l, inB x 1 17 = true) → 0 ≤ s.2.1 → s.2.1 + 131072 * l.length ≤ 1000000000 → (l.foldl rstep s).2.1 = s.2.1 + fs W (mgs s l)
  | [], s, _, _, _ => by simp [fs, mgs]
  | x :: l, s, hl, h0, h1 => by
    rw [List.foldl_cons]
    rw [List.length_cons, Int.natCast_add] at h1
    have hsc := kstep_score (s := s) (x := x)
    have hr : ∀ y ∈ l, inB y 1 17 = true := fun y hy => hl y (List.mem_cons_of_mem _ hy)
    cases hh : rhit s x with
    | true =>
      rw [hh, cond_true] at hsc
      have hw := W_of (mgs_ok (x :: l) s hl (x + 1) (by simp only [mgs, hh, cond_true]; exact List.mem_cons_self))
      rw [wrap_of (by omega) (by omega)] at hsc
      rw [kfold_score l _ hr (by omega) (by omega), hsc]
      simp only [mgs, hh, cond_true, fs]; omega
    | false =>
      rw [hh, cond_false] at hsc
      rw [kfold_score l _ hr (by omega) (by omega), hsc]
      simp only [mgs, hh, cond_false]
/-- the mergers of a row, by the tiles that they make -/
def rowM (row : List Int) : List Int := mgs (0, 0, false, [0, 0, 0, 0]) (row.filter fun x => !(x == 0))
theorem row_tiles {row : List Int} (h : ∀ x ∈ row, tileOK x) : ∀ x ∈ row.filter (fun x => !(x == 0)), inB x 1 17 = true := by
  intro x hx
  rw [List.mem_filter] at hx
  have h1 := h x hx.1
  have h2 : x ≠ 0 := by simpa using hx.2
  simp only [tileOK, inB, Bool.and_eq_true, decide_eq_true_eq] at h1 ⊢
  omega
section
variable {row : List Int} (hl : row.length = 4) (h : ∀ x ∈ row, tileOK x)
include hl h
theorem row_fs (f : Int → Int) (h0 : f 0 = 0) : fs f (rslide row).2.2.2 = fs f row + fs (fun m => f m - 2 * f (m - 1)) (rowM row) := by
  have hn : (row.filter fun x => !(x == 0)).length ≤ 4 := by rw [← hl]; exact List.length_filter_le _ _
  have := rfold_fs f h0 (row.filter fun x => !(x == 0)) (0, 0, false, [0, 0, 0, 0]) ⟨rfl, fun j _ hj => by
    obtain rfl | rfl | rfl | rfl : j = 0 ∨ j = 1 ∨ j = 2 ∨ j = 3 := by omega
    all_goals rfl⟩ (by simpa using hn)
  rw [fs_filter f h0] at this
  rw [show fs f ((0 : Nat), (0 : Int), false, [0, 0, 0, 0]).2.2.2 = 0 by simp [fs, h0], Int.zero_add] at this
  exact this
theorem row_score : (rslide row).2.1 = fs W (rowM row) := by
  have hn : (row.filter fun x => !(x == 0)).length ≤ 4 := by rw [← hl]; exact List.length_filter_le _ _
  have := kfold_score (row.filter fun x => !(x == 0)) (0, 0, false, [0, 0, 0, 0]) (row_tiles h) (Int.le_refl _) (by show (0 : Int) + _ ≤ _; omega)
  rw [show ((0 : Nat), (0 : Int), false, [(0 : Int), 0, 0, 0]).2.1 = 0 from rfl, Int.zero_add] at this
  exact this
theorem rowM_ok : ∀ m ∈ rowM row, inB m 2 17 = true := mgs_ok _ _ (row_tiles h)
theorem rowM_len : (rowM row).length ≤ 4 := by
  have hn : (row.filter fun x => !(x == 0)).length ≤ 4 := by rw [← hl]; exact List.length_filter_le _ _
  exact Nat.le_trans (mgs_len _ _) hn
end
/-- the mergers of a slide -/
def boardM (b : List Int) (d : Nat) : List Int := rowM (lineB b d 0) ++ rowM (lineB b d 1) ++ rowM (lineB b d 2) ++ rowM (lineB b d 3)
theorem fs_lines (f : Int → Int) {b : List Int} (hb : b.length = 16) {d : Nat} (hd : d < 4) : fs f b = fs f (lineB b d 0) + fs f (lineB b d 1) + fs f (lineB b d 2) + fs f (lineB b d 3) := by
  obtain ⟨x0, x1, x2, x3, x4, x5, x6, x7, x8, x9, x10, x11, x12, x13, x14, x15, rfl⟩ := list16 hb
  obtain rfl | rfl | rfl | rfl : d = 0 ∨ d = 1 ∨ d = 2 ∨ d = 3 := by omega
  all_goals (simp [fs, lineB, plcD, iget]; omega)
theorem put_lines (b r0 r1 r2 r3 : List Int) (hb : b.length = 16) (h0 : r0.length = 4) (h1 : r1.length = 4) (h2 : r2.length = 4) (h3 : r3.length = 4) {d : Nat} (hd : d < 4) :
    lineB (putB (putB (putB (putB b d 0 r0) d 1 r1) d 2 r2) d 3 r3) d 0 = r0 ∧ lineB (putB (putB (putB (putB b d 0 r0) d 1 r1) d 2 r2) d 3 r3) d 1 = r1 ∧ lineB (putB (putB (putB (putB b d 0 r0) d 1 r1) d 2 r2) d 3 r3) d 2 = r2 ∧ lineB (putB (putB (putB (putB b d 0 r0) d 1 r1) d 2 r2) d 3 r3) d 3 = r3 := by
  obtain ⟨x0, x1, x2, x3, x4, x5, x6, x7, x8, x9, x10, x11, x12, x13, x14, x15, rfl⟩ := list16 hb
  obtain ⟨a0, a1, a2, a3, rfl⟩ := list4 h0
  obtain ⟨c0, c1, c2, c3, rfl⟩ := list4 h1
  obtain ⟨g0, g1, g2, g3, rfl⟩ := list4 h2
  obtain ⟨k0, k1, k2, k3, rfl⟩ := list4 h3
  obtain rfl | rfl | rfl | rfl : d = 0 ∨ d = 1 ∨ d = 2 ∨ d = 3 := by omega
  all_goals exact ⟨by kernel_rfl, by kernel_rfl, by kernel_rfl, by kernel_rfl⟩
section
variable {b : List Int} (hb : b.length = 16) (ok : okB b = true)
include hb ok
theorem slide_lines {d : Nat} (hd : d < 4) {i : Nat} (hi : i < 4) : lineB (slideB b d).1 d i = (rslide (lineB b d i)).2.2.2 := by
  have r := fun i hi => (rslide_ok (line_ok hb ((okB_iff b).1 ok) hd (show i < 4 from hi))).1
  have e : (slideB b d).1 = putB (putB (putB (putB b d 0 (rslide (lineB b d 0)).2.2.2) d 1 (rslide (lineB b d 1)).2.2.2) d 2 (rslide (lineB b d 2)).2.2.2) d 3 (rslide (lineB b d 3)).2.2.2 := rfl
  have h := put_lines b _ _ _ _ hb (r 0 (by omega)) (r 1 (by omega)) (r 2 (by omega)) (r 3 (by omega)) hd
  rw [e]
  obtain rfl | rfl | rfl | rfl : i = 0 ∨ i = 1 ∨ i = 2 ∨ i = 3 := by omega
  · exact h.1
  · exact h.2.1
  · exact h.2.2.1
  · exact h.2.2.2
/-- sums over the tiles behind a slide -/
theorem slide_fs (f : Int → Int) (h0 : f 0 = 0) {d : Nat} (hd : d < 4) : fs f (slideB b d).1 = fs f b + fs (fun m => f m - 2 * f (m - 1)) (boardM b d) := by
  have g := fun i (hi : i < 4) => row_fs (row := lineB b d i) rfl (line_ok hb ((okB_iff b).1 ok) hd hi) f h0
  rw [fs_lines f (slide_ok hb ok hd).1 hd, slide_lines hb ok hd (show 0 < 4 by omega), slide_lines hb ok hd (show 1 < 4 by omega), slide_lines hb ok hd (show 2 < 4 by omega), slide_lines hb ok hd (show 3 < 4 by omega),
    g 0 (by omega), g 1 (by omega), g 2 (by omega), g 3 (by omega), fs_lines f hb hd, boardM, fs_append, fs_append, fs_append]
  omega
theorem boardM_ok {d : Nat} (hd : d < 4) : ∀ m ∈ boardM b d, inB m 2 17 = true := by
  have g := fun i (hi : i < 4) => rowM_ok (row := lineB b d i) rfl (line_ok hb ((okB_iff b).1 ok) hd hi)
  intro m hm
  simp only [boardM, List.mem_append] at hm
  rcases hm with ((h | h) | h) | h
  · exact g 0 (by omega) m h
  · exact g 1 (by omega) m h
  · exact g 2 (by omega) m h
  · exact g 3 (by omega) m h
theorem kslide_score {d : Nat} (hd : d < 4) : (slideB b d).2 = fs W (boardM b d) := by
  have g := fun i (hi : i < 4) => row_score (row := lineB b d i) rfl (line_ok hb ((okB_iff b).1 ok) hd hi)
  have k := fun i (hi : i < 4) => rowM_ok (row := lineB b d i) rfl (line_ok hb ((okB_iff b).1 ok) hd hi)
  have n := fun i (hi : i < 4) => rowM_len (row := lineB b d i) rfl (line_ok hb ((okB_iff b).1 ok) hd hi)
  have w := fun i (hi : i < 4) => fs_bound (f := W) (m := 131072) (l := rowM (lineB b d i)) fun m hm => W_of (k i hi m hm)
  have w0 := w 0 (by omega); have w1 := w 1 (by omega); have w2 := w 2 (by omega); have w3 := w 3 (by omega)
  have n0 := n 0 (by omega); have n1 := n 1 (by omega); have n2 := n 2 (by omega); have n3 := n 3 (by omega)
  have e : (slideB b d).2 = IntKind.wrap .i64 (IntKind.wrap .i64 (IntKind.wrap .i64 (IntKind.wrap .i64 (0 + (rslide (lineB b d 0)).2.1) + (rslide (lineB b d 1)).2.1) + (rslide (lineB b d 2)).2.1) + (rslide (lineB b d 3)).2.1) := rfl
  rw [e, g 0 (by omega), g 1 (by omega), g 2 (by omega), g 3 (by omega), boardM, fs_append, fs_append, fs_append]
  rw [wrap_of (n := 0 + fs W (rowM (lineB b d 0))) (by omega) (by omega), wrap_of (n := 0 + fs W (rowM (lineB b d 0)) + fs W (rowM (lineB b d 1))) (by omega) (by omega), wrap_of (n := 0 + fs W (rowM (lineB b d 0)) + fs W (rowM (lineB b d 1)) + fs W (rowM (lineB b d 2))) (by omega) (by omega), wrap_of (by omega) (by omega)]
  omega
end
theorem W_double {m : Int} (h : inB m 2 17 = true) : W m - 2 * W (m - 1) = 0 := by
  have h2 : inB m 0 17 = true := by
    simp only [inB, Bool.and_eq_true, decide_eq_true_eq] at h ⊢; omega
  rcases tile_cases h2 with e | e | e | e | e | e | e | e | e | e | e | e | e | e | e | e | e | e <;> subst e <;> revert h <;> decide
theorem fs_zero {f : Int → Int} : ∀ {l : List Int}, (∀ x ∈ l, f x = 0) → fs f l = 0
  | [], _ => rfl
  | x :: l, h => by simp only [fs, h x List.mem_cons_self, fs_zero fun y hy => h y (List.mem_cons_of_mem _ hy)]; rfl
theorem sumB_fs (b : List Int) : sumB b = fs W b := by
  rw [sumB, fs_foldl]; omega
/-- a slide keeps the sum -/
theorem slide_sum {b : List Int} (hb : b.length = 16) (ok : okB b = true) {d : Nat} (hd : d < 4) : sumB (slideB b d).1 = sumB b := by
  rw [sumB_fs, sumB_fs, slide_fs hb ok W rfl hd, fs_zero fun m hm => W_double (boardM_ok hb ok hd m hm)]
  omega
end Go.Lv.P

namespace Go.Lv.P
open Go Go.Lv
/-- the two steps with a cell -/
def step1 (d : Int) (c : List Int) : List Int := iset (splice [d, 0, 0, 0] 1 c 2) 3 1
def step2 (d : Int) (c : List Int) : List Int := iset (splice [d, 0, 0, 0] 1 c 2) 3 2
/-- the steps onto a board -/
def stepsOn (n : List Int) (d : Int) : LL := fld (fun i a => a ++ [step1 d (rget (em n) i), step2 d (rget (em n) i)]) 0 (em n).length []
def stepsB (b : List Int) (d : Nat) : LL := bif (slideB b d).1 == b then [] else stepsOn (slideB b d).1 (d : Int)
theorem stepsOn_len (n : List Int) (d : Int) : (stepsOn n d).length = 2 * (em n).length := by
  rw [stepsOn, fld_add]
  have : ∀ m i, ((List.range' i m).flatMap fun i => [step1 d (rget (em n) i), step2 d (rget (em n) i)]).length = 2 * m := by
    intro m
    induction m with
    | zero => intro i; rfl
    | succ m ih => intro i; rw [List.range'_succ, List.flatMap_cons, List.length_append, ih]; simp; omega
  simpa using this (em n).length 0
theorem cells_len : ∀ x ∈ cells16, x.length = 2 := cells_all fun _ _ _ _ => rfl
theorem em_get {n : List Int} {i : Nat} (h : i < (em n).length) : rget (em n) i ∈ cells16 := by
  rw [rgetL, List.getElem?_eq_getElem h]
  exact em_mem n _ (List.getElem_mem _)
theorem step1_eq (d x y : Int) : step1 d [x, y] = [d, x, y, 1] := rfl
theorem step2_eq (d x y : Int) : step2 d [x, y] = [d, x, y, 2] := rfl
theorem stepsOn_mem (n : List Int) (d : Int) : ∀ x ∈ stepsOn n d, ∃ c ∈ em n, x = step1 d c ∨ x = step2 d c := by
  rw [stepsOn, fld_add]
  intro x hx
  simp only [List.nil_append, List.mem_flatMap, List.mem_cons, List.not_mem_nil, or_false] at hx
  obtain ⟨i, hi, hx⟩ := hx
  have hi : i < (em n).length := by
    have := List.mem_range'_1.1 hi
    omega
  refine ⟨rget (em n) i, ?_, hx⟩
  rw [rgetL, List.getElem?_eq_getElem hi]
  exact List.getElem_mem _
theorem stepsB_len (b : List Int) (d : Nat) : (stepsB b d).length ≤ 32 := by
  unfold stepsB
  generalize (slideB b d).1 = n
  cases n == b
  · have := stepsOn_len n d
    have := em_len n
    simp only [cond_false]
    omega
  · simp
theorem stepsB_mem (b : List Int) (d : Nat) : ∀ x ∈ stepsB b d, ∃ c ∈ em (slideB b d).1, x = step1 d c ∨ x = step2 d c := by
  unfold stepsB
  generalize (slideB b d).1 = n
  cases n == b
  · simp only [cond_false]; exact stepsOn_mem _ _
  · intro x hx; simp at hx
theorem stepsB_rows (b : List Int) (d : Nat) : ∀ x ∈ stepsB b d, x.length = 4 := by
  intro x hx
  obtain ⟨c, hc, h⟩ := stepsB_mem b d x hx
  obtain ⟨p, q, rfl⟩ := list2 (cells_len c (em_mem _ _ hc))
  rcases h with rfl | rfl <;> rfl
end Go.Lv.P


namespace Go.Lv.P
open Go Go.Lv
theorem sum_val (F : Nat) (hF : 1000 < F) {b : List Int} (hb : b.length = 16) (ok : okB b = true) : impl_SumOf_p F b = some (sumB b, true) := by
  simp only [impl_SumOf_p, impl_SumOf_c, impl_IsBoard_eq F b hb hF, ok, impl_sum_eq b hb ok, Option.isSome_some, Option.getD_some, cond_true, cond_false, Bool.not_true]
end Go.Lv.P

namespace Go.Lv.P
open Go Go.Lv
/-- the number of tiles -/
def isT (x : Int) : Int := if x = 0 then 0 else 1
/-- how often a tile is in a list -/
def isN (t x : Int) : Int := if x = t then 1 else 0
def bump (out : List Int) (x : Int) : List Int := iset out (0 + x.toNat * 1) (IntKind.wrap .i64 (iget out (0 + x.toNat * 1) + 1))
theorem bump_get {out : List Int} (hl : out.length = 18) {x : Int} (hx : inB x 0 17 = true) (h0 : 0 ≤ iget out x.toNat ∧ iget out x.toNat ≤ 1000000) (t : Nat) (ht : t < 18) : iget (bump out x) t = iget out t + isN (t : Int) x := by
  simp [inB] at hx
  unfold bump isN
  rw [iget_iset _ _ _ _ (by omega), wrap_of (by simp only [Nat.mul_one, Nat.zero_add]; omega) (by simp only [Nat.mul_one, Nat.zero_add]; omega)]
  simp only [Nat.mul_one, Nat.zero_add]
  by_cases h : x.toNat = t
  · have h' : x = (t : Int) := by omega
    rw [if_pos h, if_pos h', h]
  · have h' : ¬ x = (t : Int) := by omega
    rw [if_neg h, if_neg h']; omega
theorem bumps_get : ∀ (l : List Int) (out : List Int), out.length = 18 → (∀ x ∈ l, inB x 0 17 = true) → l.length ≤ 1000 → (∀ t, t < 18 → 0 ≤ iget out t ∧ iget out t + l.length ≤ 100000) → ∀ t : Nat, t < 18 → iget (l.foldl bump out) t = iget out t + fs (isN (t : Int)) l
  | [], out, _, _, _, _, t, _ => by simp [fs]
  | x :: l, out, hl, hx, hn, hb, t, ht => by
    have hx0 := hx x List.mem_cons_self
    have hx1 : 0 ≤ x ∧ x ≤ 17 := by simpa [inB] using hx0
    simp only [List.length_cons] at hn hb
    have g := fun t (ht : t < 18) => bump_get hl hx0 (by have := hb x.toNat (by omega); omega) t ht
    have hlen : (bump out x).length = 18 := by unfold bump; rw [isetL, List.length_set, hl]
    have nn : ∀ t : Nat, 0 ≤ isN (t : Int) x ∧ isN (t : Int) x ≤ 1 := fun t => by unfold isN; split <;> omega
    rw [List.foldl_cons, bumps_get l (bump out x) hlen (fun y hy => hx y (List.mem_cons_of_mem _ hy)) (by omega) (fun t ht => by have := g t ht; have := hb t ht; have := nn t; omega) t ht, g t ht, fs]
    omega
abbrev zero18 : List Int := [0, 0, 0, 0, 0, 0, 0, 0, 0, 0, 0, 0, 0, 0, 0, 0, 0, 0]
theorem count_get {b : List Int} (hb : b.length = 16) (ok : ∀ x ∈ b, inB x 0 17 = true) (t : Nat) (ht : t < 18) : iget (b.foldl bump zero18) t = fs (isN (t : Int)) b := by
  have z : ∀ t, t < 18 → iget zero18 t = 0 := fun t ht => by
    obtain rfl | rfl | rfl | rfl | rfl | rfl | rfl | rfl | rfl | rfl | rfl | rfl | rfl | rfl | rfl | rfl | rfl | rfl : t = 0 ∨ t = 1 ∨ t = 2 ∨ t = 3 ∨ t = 4 ∨ t = 5 ∨ t = 6 ∨ t = 7 ∨ t = 8 ∨ t = 9 ∨ t = 10 ∨ t = 11 ∨ t = 12 ∨ t = 13 ∨ t = 14 ∨ t = 15 ∨ t = 16 ∨ t = 17 := by omega
    all_goals rfl
  rw [bumps_get b zero18 rfl ok (by omega) (fun t ht => by rw [z t ht]; omega) t ht, z t ht]; omega
theorem fs_nonneg {f : Int → Int} (h : ∀ x, 0 ≤ f x) : ∀ l : List Int, 0 ≤ fs f l
  | [] => Int.le_refl _
  | x :: l => by have := fs_nonneg h l; have := h x; simp only [fs]; omega
theorem isN_nn (t x : Int) : 0 ≤ isN t x := by unfold isN; split <;> omega
theorem fs_mem {t : Int} : ∀ {l : List Int} {p : Nat}, p < l.length → iget l p = t → 1 ≤ fs (isN t) l
  | [], p, h, _ => by simp at h
  | x :: l, 0, _, e => by
    have e : x = t := e
    have := fs_nonneg (isN_nn t) l
    simp only [fs, isN, e, if_true]; omega
  | x :: l, p + 1, h, e => by
    have := fs_mem (t := t) (l := l) (p := p) (by simpa using h) e
    have := isN_nn t x
    simp only [fs]; omega
theorem fs_two {t : Int} : ∀ {l : List Int} {p q : Nat}, p < q → q < l.length → iget l p = t → iget l q = t → 2 ≤ fs (isN t) l
  | [], p, q, _, h, _, _ => by simp at h
  | x :: l, 0, q + 1, _, h, e1, e2 => by
    have e1 : x = t := e1
    have := fs_mem (t := t) (l := l) (p := q) (by simpa using h) e2
    simp only [fs, isN, e1, if_true]; omega
  | x :: l, p + 1, q + 1, hpq, h, e1, e2 => by
    have := fs_two (t := t) (l := l) (p := p) (q := q) (by omega) (by simpa using h) e1 e2
    have := isN_nn t x
    simp only [fs]; omega
/-- no tile is there twice -/
def Dis (b : List Int) : Prop := ∀ p q : Nat, p < 16 → q < 16 → p ≠ q → iget b p = iget b q → iget b p = 0
theorem dis_of {b : List Int} (hb : b.length = 16) (ok : ∀ x ∈ b, inB x 0 17 = true) (h : ∀ t : Nat, 1 ≤ t → t ≤ 17 → fs (isN (t : Int)) b ≤ 1) : Dis b := by
  intro p q hp hq hpq e
  have hin : inB (iget b p) 0 17 = true := by
    rw [igetL, List.getElem?_eq_getElem (by omega)]; exact ok _ (List.getElem_mem _)
  simp [inB] at hin
  obtain ⟨t, ht⟩ := Int.eq_ofNat_of_zero_le hin.1
  by_cases h0 : t = 0
  · rw [ht, h0]; rfl
  · have := h t (by omega) (by omega)
    rcases Nat.lt_or_gt_of_ne hpq with h1 | h1
    · have := fs_two h1 (by omega) ht (by rw [← e, ht]); omega
    · have := fs_two h1 (by omega) (by rw [← e, ht]) ht; omega
end Go.Lv.P

namespace Go.Lv.P
open Go Go.Lv
theorem tdiv_pos {n : Int} (h : 0 ≤ n) (d : Int) : Int.tdiv n d = n / d := Int.tdiv_eq_ediv_of_nonneg h
theorem between_val (F : Nat) (a b : List Int) (ha : a.length = 16) (hb : b.length = 16) (hF : 1000 < F) : ∃ (l m : Int) (o : Bool), spec_MovesBetween_p F a b = some (l, m, o) ∧ impl_MovesBetween_p F a b = some (l, m, o) ∧ (o = true → okB a = true ∧ okB b = true ∧ sumB a ≤ sumB b ∧ 2 * m = sumB b - sumB a ∧ sumB b - sumB a ≤ 4 * l ∧ 4 * l < sumB b - sumB a + 4 ∧ l ≤ m) := by
  simp only [spec_MovesBetween_p, spec_MovesBetween_c, impl_MovesBetween_p, impl_MovesBetween_c, spec_l2Board_eq F _ ha hF, spec_l2Board_eq F _ hb hF, impl_IsBoard_eq F _ ha hF, impl_IsBoard_eq F _ hb hF, Option.isSome_some, Option.getD_some, cond_true]
  cases hA : okB a with
  | false => exact ⟨_, _, false, rfl, rfl, fun h => by cases h⟩
  | true =>
    cases hB : okB b with
    | false => exact ⟨_, _, false, rfl, rfl, fun h => by cases h⟩
    | true =>
      simp only [spec_sum_eq F a ha hA hF, spec_sum_eq F b hb hB hF, impl_sum_eq a ha hA, impl_sum_eq b hb hB, Option.isSome_some, Option.getD_some, cond_true, Bool.not_true, cond_false]
      by_cases hlt : sumB b < sumB a
      · simp only [hlt, decide_true, cond_true]; exact ⟨_, _, false, rfl, rfl, fun h => by cases h⟩
      · simp only [hlt, decide_false, cond_false]
        have fa := sumB_facts hA
        have fb := sumB_facts hB
        rw [ha] at fa
        rw [hb] at fb
        have e : IntKind.wrap .i64 (sumB b - sumB a) = sumB b - sumB a := wrap_of (by omega) (by omega)
        rw [e, wrap_of (n := sumB b - sumB a + 2) (by omega) (by omega), wrap_of (n := sumB b - sumB a + 3) (by omega) (by omega), tdiv_pos (by omega), tdiv_pos (by omega), tdiv_pos (by omega)]
        have : (sumB b - sumB a + 2) / 4 = (sumB b - sumB a + 3) / 4 := by omega
        rw [this]
        rw [wrap_of (n := (sumB b - sumB a) / 2) (by omega) (by omega), wrap_of (n := (sumB b - sumB a + 3) / 4) (by omega) (by omega)]
        exact ⟨_, _, true, rfl, rfl, fun _ => ⟨trivial, trivial, by omega, by omega, by omega, by omega, by omega⟩⟩
end Go.Lv.P

namespace Go.Lv.P
open Go Go.Lv
def pst (x s : Int) : Int := bif decide ((0 : Int) < x) then IntKind.wrap .i64 (s + IntKind.wrap .i64 (IntKind.wrap .i64 (x - 1) * W x)) else s
def potB (b : List Int) : Int := fld (fun i s => pst (iget b (0 + i)) s) 0 16 0
theorem fld44 (g : Int → Int → Int) (b : List Int) : fld (fun r s => fld (fun c s => g (iget b (0 + r * 4 + c * 1)) s) 0 4 s) 0 4 0 = fld (fun i s => g (iget b (0 + i)) s) 0 16 0 := rfl
section
variable {b : List Int} (hb : b.length = 16) (ok : okB b = true)
include hb ok
theorem worthI (i : Nat) (hi : i < 16) (h0 : decide ((0 : Int) < iget b i) = true) : impl_worth_p (iget b i) = some (W (iget b i)) ∧ spec_l2Worth_p (iget b i) = some (W (iget b i)) := by
  have ht := iget_ok ((okB_iff b).1 ok) (by omega : i < b.length)
  simp at h0
  exact ⟨worth_eq ht, l2Worth_eq ht h0⟩
theorem impl_pot (F : Nat) (hF : 1000 < F) : impl_Board_potential_p F b = some (potB b) := by
  have h := loop_fold (step := impl_Board_potential_s3 F ((16 : Nat) : Int) b) (fun i (s : Int) => (s, i)) 16 (fun i s => pst (iget b (0 + i)) s) (fun s => s) (fun _ _ => True) (F := F) (by omega) (by omega) (a := 0) trivial
    (fun i s hi _ => ⟨trivial, fun Q kn kx => by
      have hi' : i < b.length := by omega
      have hin : inR (i : Int) b.length = true := by rw [inR_cast]; exact decide_eq_true hi'
      simp only [impl_Board_potential_s3, Int.ofNat_lt, hi, decide_true, hin, cond_true, Int.toNat_natCast, pst]
      cases h0 : decide ((0 : Int) < iget b (0 + i)) with
      | false => rfl
      | true =>
        rw [Nat.zero_add] at h0 ⊢
        rw [(worthI hb ok i hi h0).1]; rfl⟩) (fun s _ Q kn kx => by simp [impl_Board_potential_s3])
  have h1 : impl_Board_potential_l3 F ((16 : Nat) : Int) b 0 0 = some (potB b) := h.1
  simp only [impl_Board_potential_p, impl_Board_potential_c, flat_eq hb, hb, h1, Option.isSome_some, Option.getD_some, cond_true, beq_selfL, Bool.and_self]
theorem spec_pot (F : Nat) (hF : 1000 < F) : spec_l7Potential_p F b = some (potB b) := by
  have hin : ∀ (r : Nat) (s : Int), r < 4 → spec_l7Potential_l6 F r b s 0 = some (fld (fun c s => pst (iget b (0 + r * 4 + c * 1)) s) 0 4 s) := fun r s hr =>
    (loop_fold (step := spec_l7Potential_s6 F r b) (fun i (s : Int) => (s, i)) 4 (fun c s => pst (iget b (0 + r * 4 + c * 1)) s) (fun s => s) (fun _ _ => True) (F := F) (by omega) (by omega) (a := s) trivial
    (fun i s hi _ => ⟨trivial, fun Q kn kx => by
      have hi' : (i : Int) < 4 := by omega
      simp only [spec_l7Potential_s6, hi', inR_cast, hr, hi, decide_true, cond_true, Int.toNat_natCast, pst]
      cases h0 : decide ((0 : Int) < iget b (0 + r * 4 + i * 1)) with
      | false => rfl
      | true =>
        rw [(worthI hb ok (0 + r * 4 + i * 1) (by omega) h0).2]; rfl⟩) (fun s _ Q kn kx => by simp [spec_l7Potential_s6])).1
  have h := loop_fold (step := spec_l7Potential_s3 F b) (fun i (s : Int) => (s, i)) 4 (fun r s => fld (fun c s => pst (iget b (0 + r * 4 + c * 1)) s) 0 4 s) (fun s => s) (fun _ _ => True) (F := F) (by omega) (by omega) (a := 0) trivial
    (fun i s hi _ => ⟨trivial, fun Q kn kx => by
      have hi' : (i : Int) < 4 := by omega
      simp only [spec_l7Potential_s3, hi', decide_true, cond_true, hin i s hi, Option.isSome_some, Option.getD_some]⟩) (fun s _ Q kn kx => by simp [spec_l7Potential_s3])
  have h1 : spec_l7Potential_l3 F b 0 0 = some (potB b) := by
    have hh := h.1
    rw [fld44] at hh
    exact hh
  simp only [spec_l7Potential_p, spec_l7Potential_c, h1, Option.isSome_some, Option.getD_some, cond_true]
end
end Go.Lv.P

namespace Go.Lv.P
open Go Go.Lv
section
variable {b : List Int} (hb : b.length = 16) (ok : okB b = true)
include hb ok
theorem spec_steps (F : Nat) (hF : 1000 < F) {d : Nat} (hd : d < 4) : spec_l5Steps_p F b d = some (stepsB b d) := by
  have hl := em_len (slideB b d).1
  have h : spec_l5Steps_l7 F d (em (slideB b d).1) 0 [] = some (stepsOn (slideB b d).1 d) := by
    refine (loop_fold (step := spec_l5Steps_s7 F d (em (slideB b d).1)) (fun i a => (i, a)) (em (slideB b d).1).length _ (fun a => a) (fun i a => a.length ≤ 2 * i) (F := F) (by omega) (by omega) (a := []) (by simp) (fun i a hi hI => ⟨?_, fun Q kn kx => ?_⟩) (fun a _ Q kn kx => by simp [spec_l5Steps_s7])).1
    · simp; omega
    · have hf : ∀ x y : List Int, fits (a ++ [x, y]).length 32 = true := fun x y => fits_of (by simp; omega) (by simp; omega)
      simp only [spec_l5Steps_s7, Int.ofNat_lt, inR_cast, hi, Int.toNat_natCast, decide_true, cond_true, subn_self, hf, Nat.zero_add, step1, step2]
  simp only [spec_l5Steps_p, spec_l5Steps_c, spec_slide hb ok F hF hd, spec_empty_eq F _ hF, h, Option.isSome_some, Option.getD_some, cond_true, beq_selfL, Bool.and_self, stepsB]
  generalize (slideB b d).1 = n
  cases n == b
  · simp only [cond_false]
  · simp only [cond_true]
end
end Go.Lv.P

namespace Go.Lv.P
open Go Go.Lv
def allB (b : List Int) : LL := stepsB b 0 ++ stepsB b 1 ++ stepsB b 2 ++ stepsB b 3
theorem allB_len (b : List Int) : (allB b).length ≤ 128 := by
  have h0 := stepsB_len b 0
  have h1 := stepsB_len b 1
  have h2 := stepsB_len b 2
  have h3 := stepsB_len b 3
  simp only [allB, List.length_append]; omega
theorem allB_rows (b : List Int) : ∀ x ∈ allB b, x.length = 4 := by
  intro x hx
  simp only [allB, List.mem_append] at hx
  rcases hx with ((h | h) | h) | h <;> exact stepsB_rows _ _ _ h
section
variable {b : List Int} (hb : b.length = 16) (ok : okB b = true)
include hb ok
theorem spec_all (F : Nat) (hF : 1000 < F) : spec_l5All_p F b = some (allB b) := by
  have h := loop_fold (step := spec_l5All_s3 F b) (fun i (a : LL) => (i, a)) 4 (fun i a => a ++ stepsB b i) (fun a => a) (fun i a => a.length ≤ 32 * i) (F := F) (by omega) (by omega) (a := []) (by simp)
    (fun i a hi hI => by
      have hl := stepsB_len b i
      refine ⟨by simp only [List.length_append]; omega, fun Q kn kx => ?_⟩
      have hi' : (i : Int) < 4 := by omega
      have hf : fits (a ++ stepsB b i).length 32 = true := fits_of (by simp only [List.length_append]; omega) (by simp only [List.length_append]; omega)
      simp only [spec_l5All_s3, hi', decide_true, spec_steps hb ok F hF hi, Option.isSome_some, Option.getD_some, cond_true, subn_self, hf]) (fun a _ Q kn kx => by simp [spec_l5All_s3])
  have f4 : ∀ (g : Nat → LL → LL) (a : LL), fld g 0 4 a = g 3 (g 2 (g 1 (g 0 a))) := fun _ _ => rfl
  have hh := h.1
  rw [f4, List.nil_append] at hh
  have h1 : spec_l5All_l3 F b 0 [] = some (allB b) := hh
  simp only [spec_l5All_p, spec_l5All_c, h1, Option.isSome_some, Option.getD_some, cond_true]
end
end Go.Lv.P

namespace Go.Lv.P
open Go Go.Lv
abbrev cellsL : List (List Int) := [[0, 0], [0, 1], [0, 2], [0, 3], [1, 0], [1, 1], [1, 2], [1, 3], [2, 0], [2, 1], [2, 2], [2, 3], [3, 0], [3, 1], [3, 2], [3, 3]]
theorem inR18 {x : Int} (h : inB x 0 17 = true) : inR x 18 = true := by
  simp [inB] at h
  exact inR_true h.1 (by omega)
theorem at_cells (b : List Int) : ∀ i : Nat, i < 16 → impl_Board_at_p (rget cellsL (0 + i)) b = some i := by
  intro i hi
  obtain rfl | rfl | rfl | rfl | rfl | rfl | rfl | rfl | rfl | rfl | rfl | rfl | rfl | rfl | rfl | rfl : i = 0 ∨ i = 1 ∨ i = 2 ∨ i = 3 ∨ i = 4 ∨ i = 5 ∨ i = 6 ∨ i = 7 ∨ i = 8 ∨ i = 9 ∨ i = 10 ∨ i = 11 ∨ i = 12 ∨ i = 13 ∨ i = 14 ∨ i = 15 := by omega
  all_goals rfl
theorem bump_len (out : List Int) (x : Int) : (bump out x).length = out.length := by simp [bump, isetL]
theorem bumps_len : ∀ (l : List Int) (out : List Int), (l.foldl bump out).length = out.length
  | [], _ => rfl
  | x :: r, out => by rw [List.foldl_cons, bumps_len r, bump_len]
theorem impl_Count_eq (F : Nat) (b : List Int) (hb : b.length = 16) (hF : 1000 < F) : impl_CountTiles_p F b = some (bif okB b then (b.foldl bump zero18, true) else (zero18, false)) := by
  simp only [impl_CountTiles_p, impl_CountTiles_c, impl_IsBoard_eq F b hb hF, Option.isSome_some, Option.getD_some, cond_true]
  cases hB : okB b with
  | false => rfl
  | true =>
    have h := loop_fold (step := impl_CountTiles_s5 F b) (fun i a => (i, a)) 16 (fun i a => bump a (iget b i)) (fun a => a) (fun _ _ => True) (F := F) (by omega) (by omega) (a := zero18) trivial
      (fun i a hi _ => ⟨trivial, fun Q kn kx => by
        have hi' : (i : Int) < 16 := by omega
        simp only [impl_CountTiles_s5, Int.toNat_natCast, at_cells b i hi, hi', inR_cast, hi, decide_true, cond_true, Option.isSome_some, Option.getD_some, inR18 (okB_iget hb hB i hi), bump]⟩) (fun a _ Q kn kx => by simp [impl_CountTiles_s5])
    have e : impl_CountTiles_l5 F b 0 zero18 = some (b.foldl bump zero18) := by
      refine h.1.trans ?_
      clear h hB
      obtain ⟨x0, x1, x2, x3, x4, x5, x6, x7, x8, x9, x10, x11, x12, x13, x14, x15, rfl⟩ := list16 hb
      kernel_rfl
    simp only [e, Bool.not_true, cond_false, Option.isSome_some, Option.getD_some, cond_true]
end Go.Lv.P

namespace Go.Lv.P
open Go Go.Lv
theorem mgs_nil : ∀ (l : List Int) (s : RS), RI s → s.1 + l.length ≤ 4 → (0 < s.1 → ∀ x ∈ l, iget s.2.2.2 (s.1 - 1) ≠ x) → l.Nodup → mgs s l = []
  | [], s, _, _, _, _ => rfl
  | x :: l, s, h, hl, hd, hn => by
    simp only [List.length_cons] at hl
    rw [List.nodup_cons] at hn
    have hr : rhit s x = false := by
      unfold rhit
      cases h0 : decide (0 < s.1) with
      | false => rfl
      | true =>
        have hx := hd (of_decide_eq_true h0) x List.mem_cons_self
        have e : (iget s.2.2.2 (0 + (s.1 - 1) * 1) == x) = false := by
          rw [show 0 + (s.1 - 1) * 1 = s.1 - 1 by omega, beq_eq_false_iff_ne]; exact hx
        rw [e]; rfl
    have e : rstep s x = (s.1 + 1, s.2.1, false, iset s.2.2.2 (0 + s.1 * 1) x) := by
      unfold rhit at hr
      unfold rstep
      rw [hr]; rfl
    simp only [mgs, hr, cond_false]
    have h1 := rstep_RI (x := x) h (by omega)
    rw [e] at h1 ⊢
    refine mgs_nil l _ h1 (by show s.1 + 1 + l.length ≤ 4; omega) (fun _ y hy => ?_) hn.2
    show iget (iset s.2.2.2 (0 + s.1 * 1) x) (s.1 + 1 - 1) ≠ y
    rw [iget_iset _ _ _ _ (by rw [h.1]; omega), if_pos (by omega)]
    intro e; subst e; exact hn.1 hy
theorem row_nil {x0 x1 x2 x3 : Int} (h01 : x0 = x1 → x0 = 0) (h02 : x0 = x2 → x0 = 0) (h03 : x0 = x3 → x0 = 0) (h12 : x1 = x2 → x1 = 0) (h13 : x1 = x3 → x1 = 0) (h23 : x2 = x3 → x2 = 0) : rowM [x0, x1, x2, x3] = [] := by
  refine mgs_nil _ _ ⟨rfl, fun j _ hj => ?_⟩ ?_ (fun h => absurd h (by decide)) ?_
  · obtain rfl | rfl | rfl | rfl : j = 0 ∨ j = 1 ∨ j = 2 ∨ j = 3 := by omega
    all_goals rfl
  · have : ([x0, x1, x2, x3].filter fun x => !(x == 0)).length ≤ 4 := List.length_filter_le _ _
    simpa using this
  · have f : ∀ (x : Int) (l : List Int), (x :: l).filter (fun x => !(x == 0)) = if x = 0 then l.filter (fun x => !(x == 0)) else x :: l.filter (fun x => !(x == 0)) := fun x l => by
      rw [List.filter_cons]
      by_cases hx : x = 0
      · simp [hx]
      · have : (x == 0) = false := beq_eq_false_iff_ne.2 hx
        simp [this, hx]
    rw [f, f, f, f]
    have f0 : ([] : List Int).filter (fun x => !(x == 0)) = [] := rfl
    rw [f0]
    by_cases a0 : x0 = 0 <;> by_cases a1 : x1 = 0 <;> by_cases a2 : x2 = 0 <;> by_cases a3 : x3 = 0 <;> simp only [a0, a1, a2, a3, if_true, if_false, List.nodup_cons, List.mem_cons, List.not_mem_nil, or_false, List.nodup_nil, not_false_eq_true, and_true, true_and] <;> (try omega)
section
variable {b : List Int} (hb : b.length = 16) (h : Dis b)
include hb h
theorem dis_line {d i : Nat} (hd : d < 4) (hi : i < 4) : rowM (lineB b d i) = [] := by
  have g : ∀ k l, k < 4 → l < 4 → k ≠ l → iget b (plcD d i k) = iget b (plcD d i l) → iget b (plcD d i k) = 0 := fun k l hk hl hkl e => by
    refine h _ _ (plcD_lt hd hi hk) (plcD_lt hd hi hl) ?_ e
    obtain rfl | rfl | rfl | rfl : d = 0 ∨ d = 1 ∨ d = 2 ∨ d = 3 := by omega
    all_goals (simp only [plcD]; omega)
  exact row_nil (g 0 1 (by omega) (by omega) (by omega)) (g 0 2 (by omega) (by omega) (by omega)) (g 0 3 (by omega) (by omega) (by omega)) (g 1 2 (by omega) (by omega) (by omega)) (g 1 3 (by omega) (by omega) (by omega)) (g 2 3 (by omega) (by omega) (by omega))
theorem dis_slide {d : Nat} (hd : d < 4) : boardM b d = [] := by
  simp only [boardM, dis_line hb h hd (show 0 < 4 by omega), dis_line hb h hd (show 1 < 4 by omega), dis_line hb h hd (show 2 < 4 by omega), dis_line hb h hd (show 3 < 4 by omega), List.append_nil]
end
end Go.Lv.P

namespace Go.Lv.P
open Go Go.Lv
/-- one more place of a line -/
def eqp (row : List Int) (k : Nat) (n : Int) : Int := bif iget row (0 + k * 1) == iget row (0 + (k + 1) * 1) && inB (iget row (0 + k * 1)) 1 16 then IntKind.wrap .i64 (n + 1) else n
def pairsB (b : List Int) : Int := fld (fun d n => fld (fun i n => fld (eqp (lineB b d i)) 0 3 n) 0 4 n) 0 2 0
theorem pairs_row (F : Nat) (hF : 1000 < F) (d t s : Int) (b row : List Int) (n : Int) : impl_EqualPairs_l12 F d t s b row n 0 = some (fld (eqp row) 0 3 n) := by
  exact (loop_fold (step := impl_EqualPairs_s12 F d t s b row) (fun i (n : Int) => (n, i)) 3 (eqp row) (fun n => n) (fun _ _ => True) (F := F) (by omega) (by omega) (a := n) trivial
    (fun i n hi _ => ⟨trivial, fun Q kn kx => by
      have hi' : (i : Int) < 3 := by omega
      have h4 : i < 4 := by omega
      have h5 : i + 1 < 4 := by omega
      have w : IntKind.wrap .i64 ((i : Int) + 1) = ((i + 1 : Nat) : Int) := wrap_succ (n := 4) h4 (by omega)
      simp only [impl_EqualPairs_s12, hi', w, inR_cast, h4, h5, decide_true, cond_true, Int.toNat_natCast, eqp, in_eq]
      cases iget row (0 + i * 1) == iget row (0 + (i + 1) * 1) with
      | false => rfl
      | true => cases inB (iget row (0 + i * 1)) 1 16 <;> rfl⟩) (fun n _ Q kn kx => by simp [impl_EqualPairs_s12])).1
theorem pairs_line (F : Nat) (hF : 1000 < F) {b : List Int} {d : Nat} (hd : d < 4) (t : Int) (n : Int) : impl_EqualPairs_l8 F d t b n 0 = some (fld (fun i n => fld (eqp (lineB b d i)) 0 3 n) 0 4 n) := by
  exact (loop_fold (step := impl_EqualPairs_s8 F d t b) (fun i (n : Int) => (n, i)) 4 (fun i n => fld (eqp (lineB b d i)) 0 3 n) (fun n => n) (fun _ _ => True) (F := F) (by omega) (by omega) (a := n) trivial
    (fun i n hi _ => ⟨trivial, fun Q kn kx => by
      have hi' : (i : Int) < 4 := by omega
      simp only [impl_EqualPairs_s8, hi', impl_line b hd hi, pairs_row F hF, decide_true, cond_true, Option.isSome_some, Option.getD_some]⟩) (fun n _ Q kn kx => by simp [impl_EqualPairs_s8])).1
theorem pairs_val (F : Nat) (hF : 1000 < F) {b : List Int} (hb : b.length = 16) : impl_EqualPairs_p F b = some (bif okB b then (pairsB b, true) else (0, false)) := by
  have h := (loop_fold (step := impl_EqualPairs_s5 F b) (fun i (n : Int) => (n, i)) 2 (fun d n => fld (fun i n => fld (eqp (lineB b d i)) 0 3 n) 0 4 n) (fun n => n) (fun _ _ => True) (F := F) (by omega) (by omega) (a := 0) trivial
    (fun i n hi _ => ⟨trivial, fun Q kn kx => by
      have hi' : (i : Int) < 2 := by omega
      simp only [impl_EqualPairs_s5, hi', pairs_line F hF (show i < 4 by omega), decide_true, cond_true, Option.isSome_some, Option.getD_some]⟩) (fun n _ Q kn kx => by simp [impl_EqualPairs_s5])).1
  have h1 : impl_EqualPairs_l5 F b 0 0 = some (pairsB b) := h
  simp only [impl_EqualPairs_p, impl_EqualPairs_c, impl_IsBoard_eq F b hb hF, h1, Option.isSome_some, Option.getD_some, cond_true]
  cases okB b <;> rfl
theorem fld_id {A : Type} {g : Nat → A → A} : ∀ (m i : Nat) (a : A), (∀ j, i ≤ j → j < i + m → ∀ a, g j a = a) → fld g i m a = a
  | 0, i, a, _ => rfl
  | m + 1, i, a, h => by
    rw [fld, h i (Nat.le_refl _) (by omega), fld_id m (i + 1) a fun j h1 h2 => h j (by omega) (by omega)]
theorem pairs_dis {b : List Int} (h : Dis b) : pairsB b = 0 := by
  unfold pairsB
  refine fld_id 2 0 _ fun d _ hd a => fld_id 4 0 _ fun i _ hi a => fld_id 3 0 _ fun k _ hk a => ?_
  have e : ∀ k, k < 4 → iget (lineB b d i) (0 + k * 1) = iget b (plcD d i k) := fun k hk => by
    obtain rfl | rfl | rfl | rfl : k = 0 ∨ k = 1 ∨ k = 2 ∨ k = 3 := by omega
    all_goals rfl
  unfold eqp
  rw [e k (by omega), e (k + 1) (by omega)]
  cases he : iget b (plcD d i k) == iget b (plcD d i (k + 1)) with
  | false => rfl
  | true =>
    have hne : plcD d i k ≠ plcD d i (k + 1) := by
      obtain rfl | rfl : d = 0 ∨ d = 1 := by omega
      all_goals (simp only [plcD]; omega)
    have h0 := h _ _ (plcD_lt (by omega) (by omega) (by omega)) (plcD_lt (by omega) (by omega) (by omega)) hne (eq_of_beq he)
    rw [h0]; rfl
end Go.Lv.P

namespace Go.Lv.P
open Go Go.Lv
def scoreV (a b : List Int) (t : Int) : Int × Bool := bif okB a && okB b && inB t 0 2097152 then (IntKind.wrap .i64 (IntKind.wrap .i64 (potB b - potB a) - IntKind.wrap .i64 (4 * t)), true) else (0, false)
theorem score_val (F : Nat) (a b : List Int) (ha : a.length = 16) (hb : b.length = 16) (t : Int) (hF : 1000 < F) : spec_ScoreBetween_p F a b t = some (scoreV a b t) ∧ impl_ScoreBetween_p F a b t = some (scoreV a b t) := by
  unfold scoreV
  simp only [spec_ScoreBetween_p, spec_ScoreBetween_c, impl_ScoreBetween_p, impl_ScoreBetween_c, spec_l2Board_eq F a ha hF, impl_IsBoard_eq F a ha hF, spec_l2Board_eq F b hb hF, impl_IsBoard_eq F b hb hF, l1In_eq, impl_isSum_v, in_eq, Option.isSome_some, Option.getD_some, cond_true]
  cases hA : okB a with
  | false => exact ⟨rfl, rfl⟩
  | true =>
    cases hB : okB b with
    | false => exact ⟨rfl, rfl⟩
    | true =>
      cases inB t 0 2097152 with
      | false => exact ⟨rfl, rfl⟩
      | true =>
        simp only [spec_pot hb hB F hF, impl_pot hb hB F hF, spec_pot ha hA F hF, impl_pot ha hA F hF, Option.isSome_some, Option.getD_some, cond_true, Bool.not_true, cond_false]
        exact ⟨rfl, rfl⟩
/-- the potential as a sum -/
def pt (x : Int) : Int := if 0 < x then (x - 1) * W x else 0
theorem pt_facts {x : Int} (h : inB x 0 17 = true) : 0 ≤ pt x ∧ pt x ≤ 2097152 := by
  rcases tile_cases h with e | e | e | e | e | e | e | e | e | e | e | e | e | e | e | e | e | e <;> subst e <;> decide
theorem pst_eq {x : Int} (h : inB x 0 17 = true) {s : Int} (h0 : 0 ≤ s) (h1 : s ≤ 1000000000) : pst x s = s + pt x := by
  have hp := pt_facts h
  have hx : 0 ≤ x ∧ x ≤ 17 := by simpa [inB] using h
  unfold pst
  by_cases hx0 : 0 < x
  · have e : pt x = (x - 1) * W x := by unfold pt; rw [if_pos hx0]
    rw [decide_eq_true hx0, cond_true, wrap_of (n := x - 1) (by omega) (by omega), ← e, wrap_of (n := pt x) (by omega) (by omega), wrap_of (by omega) (by omega)]
  · have e : pt x = 0 := by unfold pt; rw [if_neg hx0]
    rw [decide_eq_false hx0, cond_false, e]; omega
theorem fld_drop {g : Int → Int → Int} (b : List Int) : ∀ (m i : Nat) (s : Int), i + m = b.length → fld (fun i s => g (iget b (0 + i)) s) i m s = (b.drop i).foldl (fun s x => g x s) s
  | 0, i, s, h => by rw [List.drop_eq_nil_of_le (by omega)]; rfl
  | m + 1, i, s, h => by
    have hi : i < b.length := by omega
    rw [fld, fld_drop b m (i + 1) _ (by omega), List.drop_eq_getElem_cons hi, List.foldl_cons, Nat.zero_add, igetL, List.getElem?_eq_getElem hi]; rfl
theorem pst_fold : ∀ (l : List Int) (s : Int), (∀ x ∈ l, inB x 0 17 = true) → 0 ≤ s → s + 2097152 * l.length ≤ 1000000000 → l.foldl (fun s x => pst x s) s = s + fs pt l
  | [], s, _, _, _ => by simp [fs]
  | x :: l, s, h, h0, h1 => by
    have hx := h x List.mem_cons_self
    have hp := pt_facts hx
    simp only [List.length_cons] at h1
    rw [List.foldl_cons, pst_eq hx h0 (by omega), pst_fold l _ (fun y hy => h y (List.mem_cons_of_mem _ hy)) (by omega) (by omega), fs]; omega
theorem potB_fs {b : List Int} (hb : b.length = 16) (ok : okB b = true) : potB b = fs pt b ∧ 0 ≤ potB b ∧ potB b ≤ 33554432 := by
  have e : potB b = fs pt b := by
    unfold potB
    rw [fld_drop b 16 0 0 (by omega), List.drop_zero, pst_fold b 0 ((okB_iff b).1 ok) (Int.le_refl _) (by omega)]; omega
  have h := fs_bound (f := pt) (m := 2097152) (l := b) fun x hx => pt_facts ((okB_iff b).1 ok x hx)
  rw [e]
  exact ⟨rfl, by omega, by omega⟩
end Go.Lv.P

namespace Go.Lv.P
open Go Go.Lv
theorem spec_Count_eq (F : Nat) (b : List Int) (hb : b.length = 16) (hF : 1000 < F) : spec_CountTiles_p F b = some (bif okB b then (b.foldl bump zero18, true) else (zero18, false)) := by
  simp only [spec_CountTiles_p, spec_CountTiles_c, spec_l2Board_eq F b hb hF, Option.isSome_some, Option.getD_some, cond_true]
  cases hB : okB b with
  | false => rfl
  | true =>
    have h := loop_fold (step := spec_CountTiles_s5 F b) (fun i a => (i, a)) 4 (fun i a => bump (bump (bump (bump a (iget b (0 + i * 4))) (iget b (0 + i * 4 + 1))) (iget b (0 + i * 4 + 2))) (iget b (0 + i * 4 + 3))) (fun a => a) (fun _ _ => True) (F := F) (by omega) (by omega) (a := zero18) trivial
      (fun i a hi _ => ⟨trivial, fun Q kn kx => by
        have hi' : (i : Int) < 4 := by omega
        simp only [spec_CountTiles_s5, Int.toNat_natCast, hi', inR_cast, hi, decide_true, cond_true, inR18 (okB_iget hb hB (0 + i * 4) (by omega)), inR18 (okB_iget hb hB (0 + i * 4 + 1) (by omega)), inR18 (okB_iget hb hB (0 + i * 4 + 2) (by omega)), inR18 (okB_iget hb hB (0 + i * 4 + 3) (by omega)), bump]⟩) (fun a _ Q kn kx => by simp [spec_CountTiles_s5])
    have e : spec_CountTiles_l5 F b 0 zero18 = some (b.foldl bump zero18) := by
      refine h.1.trans ?_
      clear h hB
      obtain ⟨x0, x1, x2, x3, x4, x5, x6, x7, x8, x9, x10, x11, x12, x13, x14, x15, rfl⟩ := list16 hb
      kernel_rfl
    simp only [e, Bool.not_true, cond_false, Option.isSome_some, Option.getD_some, cond_true]
end Go.Lv.P

namespace Go.Lv.P
open Go Go.Lv
theorem step5_ok {c : List Int} (hc : Byt c) (F : Nat) (hF : 1000 < F) {b : List Int} (hb : b.length = 16) {n : Nat} (hn : n ≤ 500000000) {a s : Int} (h : Cur n a) : ∃ (v : List Int) (a' s' : Int), spec_l1Cur_step5_p F b c a s = some (v, a', s') ∧ v.length = 4 ∧ Cur (n + 100) a' := by
  obtain ⟨v1, a1, s1, e1, c1⟩ := side_ok hc (by omega) h (s := s)
  obtain ⟨v2, a2, s2, e2, l2, c2⟩ := cell_ok hc (by omega) c1 (s := s1)
  obtain ⟨v3, a3, s3, e3, _, c3⟩ := pick_ok hc (by omega) (q := 10) (by decide) (by decide) c2 (s := s2)
  obtain ⟨f4, a4, s4, e4, c4⟩ := one_ok hc (by omega) (q := 8) (by decide) (by decide) c3 (s := s3)
  obtain ⟨f5, a5, s5, e5, c5⟩ := one_ok hc (by omega) (q := 40) (by decide) (by decide) c4 (s := s4)
  obtain ⟨v6, a6, s6, e6, _, c6⟩ := among_ok hc (by omega) (l := [0, 3, -1]) (by decide) (by decide) c5 (s := s5)
  obtain ⟨f7, a7, s7, e7, c7⟩ := one_ok hc (by omega) (q := 40) (by decide) (by decide) c3 (s := s3)
  obtain ⟨v8, a8, s8, e8, _, c8⟩ := among_ok hc (by omega) (l := [0, 3, -1]) (by decide) (by decide) c7 (s := s7)
  have q10 : ((10 : Nat) : Int) = 10 := rfl
  have q8 : ((8 : Nat) : Int) = 8 := rfl
  have q40 : ((40 : Nat) : Int) = 40 := rfl
  rw [q10] at e3
  rw [q8] at e4
  rw [q40] at e5 e7
  have il : ∀ (l : List Int) (i : Nat) (x : Int), l.length = 4 → (iset l i x).length = 4 := fun l i x h => by rw [isetL, List.length_set, h]
  have sl : ∀ x : Int, (splice [x, (0 : Int), (0 : Int), (0 : Int)] 1 v2 2).length = 4 := fun x => by
    obtain ⟨y, z, rfl⟩ := list2 l2
    rfl
  simp only [spec_l1Cur_step5_p, spec_l1Cur_step5_c, e1, e2, e3, e4, e5, e6, e7, e8, spec_l2Board_eq F b hb hF, Option.isSome_some, Option.getD_some, cond_true]
  cases ok : okB b with
  | false =>
    cases f7 with
    | true => exact ⟨_, _, _, rfl, il _ _ _ (il _ _ _ (sl _)), c8.mono (by omega)⟩
    | false => exact ⟨_, _, _, rfl, il _ _ _ (sl _), c7.mono (by omega)⟩
  | true =>
    have hall := spec_all hb ok F hF
    have hlen := allB_len b
    have hrows := allB_rows b
    generalize allB b = L at hall hlen hrows
    simp only [hall, Option.isSome_some, Option.getD_some, cond_true]
    have last : ∃ (v : List Int) (a' s' : Int), (bif f5 then some (iset (iset (splice [v1, (0 : Int), (0 : Int), (0 : Int)] 1 v2 2) 3 (IntKind.wrap .i64 ((1 : Int) + (IntKind.wrap .i64 (Int.tdiv (v3 : Int) (9 : Int)))))) 3 v6, a6, s6) else some (iset (splice [v1, (0 : Int), (0 : Int), (0 : Int)] 1 v2 2) 3 (IntKind.wrap .i64 ((1 : Int) + (IntKind.wrap .i64 (Int.tdiv (v3 : Int) (9 : Int))))), a5, s5)) = some (v, a', s') ∧ v.length = 4 ∧ Cur (n + 100) a' := by
      cases f5 with
      | true => exact ⟨_, _, _, rfl, il _ _ _ (il _ _ _ (sl _)), c6.mono (by omega)⟩
      | false => exact ⟨_, _, _, rfl, il _ _ _ (sl _), c5.mono (by omega)⟩
    cases f4 with
    | true => exact last
    | false =>
      by_cases h0 : 0 < L.length
      · have hp : decide ((0 : Int) < ((L.length : Nat) : Int)) = true := decide_eq_true (by omega)
        obtain ⟨v9, a9, s9, e9, g9, c9⟩ := pick_ok hc (by omega) (q := L.length) (by omega) (by omega) c4 (s := s4)
        obtain ⟨fa, aa, sa, ea, ca⟩ := one_ok hc (by omega) (q := 40) (by decide) (by decide) c9 (s := s9)
        obtain ⟨vb, ab, sb, eb, _, cb⟩ := among_ok hc (by omega) (l := [0, 3, -1]) (by decide) (by decide) ca (s := sa)
        rw [q40] at ea
        have hm : (rget L (0 + v9)).length = 4 := by
          rw [Nat.zero_add, rgetL, List.getElem?_eq_getElem g9]
          exact hrows _ (List.getElem_mem g9)
        simp only [hp, e9, ea, eb, inR_cast, g9, decide_true, cond_true, Bool.not_false, Option.isSome_some, Option.getD_some, Int.toNat_natCast]
        cases fa with
        | true => exact ⟨_, _, _, rfl, il _ _ _ hm, cb.mono (by omega)⟩
        | false => exact ⟨_, _, _, rfl, hm, ca.mono (by omega)⟩
      · have hp : decide ((0 : Int) < ((L.length : Nat) : Int)) = false := decide_eq_false (by omega)
        simp only [hp, cond_true, cond_false, Bool.not_false]
        exact last
end Go.Lv.P
