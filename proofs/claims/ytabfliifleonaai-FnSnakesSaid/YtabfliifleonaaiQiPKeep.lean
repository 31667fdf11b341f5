/-
What a slide keeps: sums over the tiles, told by what merges.
-/
import Derived.Test.YtabfliifleonaaiQiPSlideC
import Derived.Test.YtabfliifleonaaiQiPSumB
namespace Go.Lv.P
open Go Go.Lv
set_option linter.unusedVariables false
set_option linter.unusedSimpArgs false
set_option linter.unusedSectionVars false

/-- the sum of a function over numbers -/
def fs (f : Int → Int) : List Int → Int
  | [] => 0
  | x :: r => f x + fs f r
theorem fs_append (f : Int → Int) : ∀ a b : List Int, fs f (a ++ b) = fs f a + fs f b
  | [], b => by simp [fs]
  | x :: a, b => by simp only [List.cons_append, fs, fs_append f a b]; omega
theorem fs_foldl (f : Int → Int) : ∀ (l : List Int) (a : Int), (l.map f).foldl (· + ·) a = a + fs f l
  | [], a => by simp [fs]
  | x :: l, a => by simp only [List.map_cons, List.foldl_cons, fs_foldl f l, fs]; omega
theorem fs_iset (f : Int → Int) : ∀ (l : List Int) (i : Nat) (x : Int), i < l.length → fs f (iset l i x) = fs f l - f (iget l i) + f x
  | [], i, x, h => by simp at h
  | y :: l, 0, x, h => by simp only [iset, iget, fs]; omega
  | y :: l, i + 1, x, h => by
    have := fs_iset f l i x (by simpa using h)
    simp only [iset, iget, fs, this]; omega
theorem fs_filter (f : Int → Int) (h0 : f 0 = 0) : ∀ l : List Int, fs f (l.filter fun x => !(x == 0)) = fs f l
  | [] => rfl
  | x :: l => by
    rw [List.filter_cons]
    cases hx : x == 0 with
    | true =>
      have e := eq_of_beq hx
      subst e
      simp only [Bool.not_true, Bool.false_eq_true, if_false, fs, h0, fs_filter f h0 l]; omega
    | false => simp only [Bool.not_false, if_true, fs, fs_filter f h0 l]
theorem fs_sub (f g : Int → Int) : ∀ l : List Int, fs (fun x => f x - g x) l = fs f l - fs g l
  | [] => rfl
  | x :: l => by simp only [fs, fs_sub f g l]; omega
theorem fs_congr {f g : Int → Int} : ∀ {l : List Int}, (∀ x ∈ l, f x = g x) → fs f l = fs g l
  | [], _ => rfl
  | x :: l, h => by simp only [fs, h x List.mem_cons_self, fs_congr fun y hy => h y (List.mem_cons_of_mem _ hy)]
theorem fs_bound {f : Int → Int} {m : Int} : ∀ {l : List Int}, (∀ x ∈ l, 0 ≤ f x ∧ f x ≤ m) → 0 ≤ fs f l ∧ fs f l ≤ m * l.length
  | [], _ => by simp [fs]
  | x :: l, h => by
    have h1 := h x List.mem_cons_self
    have h2 := fs_bound (f := f) (m := m) fun y hy => h y (List.mem_cons_of_mem _ hy)
    simp only [fs, List.length_cons]
    rw [show m * ((l.length + 1 : Nat) : Int) = m * (l.length : Int) + m by rw [Int.natCast_add, Int.mul_add]; simp]
    omega

/-- what merges when one more tile comes -/
def rhit (s : RS) (x : Int) : Bool := decide (0 < s.1) && (iget s.2.2.2 (0 + (s.1 - 1) * 1) == x) && decide (x < 17) && !s.2.2.1
def mgs : RS → List Int → List Int
  | _, [] => []
  | s, x :: r => bif rhit s x then (x + 1) :: mgs (rstep s x) r else mgs (rstep s x) r
def RI (s : RS) : Prop := s.2.2.2.length = 4 ∧ ∀ j, s.1 ≤ j → j < 4 → iget s.2.2.2 j = 0
theorem iget_iset (l : List Int) (i j : Nat) (x : Int) (h : i < l.length) : iget (iset l i x) j = if i = j then x else iget l j := by
  rw [igetL, igetL, isetL, List.getElem?_set]
  split
  · rename_i e; subst e; simp [h]
  · rfl
theorem rstep_RI {s : RS} {x : Int} (h : RI s) (hs : s.1 < 4) : RI (rstep s x) := by
  unfold rstep
  cases hc : decide (0 < s.1) && (iget s.2.2.2 (0 + (s.1 - 1) * 1) == x) && decide (x < 17) && !s.2.2.1 with
  | true =>
    have h0 : 0 < s.1 := by simp at hc; omega
    refine ⟨by rw [cond_true]; show (iset _ _ _).length = 4; rw [iset_len]; exact h.1, fun j hj hj4 => ?_⟩
    rw [cond_true] at hj ⊢
    have hj : s.1 ≤ j := hj
    show iget (iset s.2.2.2 _ _) j = 0
    rw [iget_iset _ _ _ _ (by rw [h.1]; omega), if_neg (by omega)]
    exact h.2 j hj hj4
  | false =>
    refine ⟨by rw [cond_false]; show (iset _ _ _).length = 4; rw [iset_len]; exact h.1, fun j hj hj4 => ?_⟩
    rw [cond_false] at hj ⊢
    have hj : s.1 + 1 ≤ j := hj
    show iget (iset s.2.2.2 _ _) j = 0
    rw [iget_iset _ _ _ _ (by rw [h.1]; omega), if_neg (by omega)]
    exact h.2 j (by omega) hj4
theorem rstep_fs (f : Int → Int) (h0 : f 0 = 0) {s : RS} {x : Int} (h : RI s) (hs : s.1 < 4) : fs f (rstep s x).2.2.2 = fs f s.2.2.2 + f x + bif rhit s x then f (x + 1) - 2 * f x else 0 := by
  unfold rstep rhit
  cases hc : decide (0 < s.1) && (iget s.2.2.2 (0 + (s.1 - 1) * 1) == x) && decide (x < 17) && !s.2.2.1 with
  | true =>
    have h1 : 0 < s.1 := by simp at hc; omega
    have h2 : iget s.2.2.2 (0 + (s.1 - 1) * 1) = x := by simp at hc; simpa using hc.1.1.2
    rw [cond_true, cond_true]
    show fs f (iset s.2.2.2 _ _) = _
    rw [fs_iset f _ _ _ (by rw [h.1]; omega), h2]; omega
  | false =>
    rw [cond_false, cond_false]
    show fs f (iset s.2.2.2 _ _) = _
    rw [fs_iset f _ _ _ (by rw [h.1]; omega), h.2 (0 + s.1 * 1) (by omega) (by omega), h0]; omega
theorem rfold_fs (f : Int → Int) (h0 : f 0 = 0) : ∀ (l : List Int) (s : RS), RI s → s.1 + l.length ≤ 4 → fs f (l.foldl rstep s).2.2.2 = fs f s.2.2.2 + fs f l + fs (fun m => f m - 2 * f (m - 1)) (mgs s l)
  | [], s, _, _ => by simp [fs, mgs]
  | x :: l, s, h, hl => by
    simp only [List.length_cons] at hl
    have h1 := rstep_n s x
    have ih := rfold_fs f h0 l (rstep s x) (rstep_RI h (by omega)) (by omega)
    have h2 := rstep_fs f h0 (x := x) h (by omega)
    rw [List.foldl_cons, ih, h2]
    simp only [fs, mgs]
    cases rhit s x with
    | true => simp only [cond_true, fs]; rw [show x + 1 - 1 = x by omega]; omega
    | false => simp only [cond_false]; omega
/-- what has merged is of two tiles -/
theorem mgs_ok : ∀ (l : List Int) (s : RS), (∀ x ∈ l, inB x 1 17 = true) → ∀ m ∈ mgs s l, inB m 2 17 = true
  | [], s, _, m, h => by simp [mgs] at h
  | x :: l, s, hl, m, h => by
    have hx := hl x List.mem_cons_self
    simp only [mgs] at h
    have ih := mgs_ok l (rstep s x) (fun y hy => hl y (List.mem_cons_of_mem _ hy))
    cases hh : rhit s x with
    | false => rw [hh] at h; exact ih m h
    | true =>
      rw [hh, cond_true] at h
      rcases List.mem_cons.1 h with rfl | h
      · unfold rhit at hh
        simp only [Bool.and_eq_true, decide_eq_true_eq] at hh
        simp only [inB, Bool.and_eq_true, decide_eq_true_eq] at hx ⊢
        omega
      · exact ih m h
theorem mgs_len : ∀ (l : List Int) (s : RS), (mgs s l).length ≤ l.length
  | [], s => by simp [mgs]
  | x :: l, s => by
    have := mgs_len l (rstep s x)
    simp only [mgs, List.length_cons]
    cases rhit s x
    · rw [cond_false]; omega
    · rw [cond_true, List.length_cons]; omega
theorem kstep_score {s : RS} {x : Int} : (rstep s x).2.1 = bif rhit s x then IntKind.wrap .i64 (s.2.1 + W (x + 1)) else s.2.1 := by
  unfold rstep rhit
  cases decide (0 < s.1) && (iget s.2.2.2 (0 + (s.1 - 1) * 1) == x) && decide (x < 17) && !s.2.2.1 <;> rfl
theorem W_of {m : Int} (h : inB m 2 17 = true) : 0 ≤ W m ∧ W m ≤ 131072 := by
  have h2 : inB m 0 17 = true := by
    simp only [inB, Bool.and_eq_true, decide_eq_true_eq] at h ⊢; omega
  exact ⟨(W_facts h2).1, (W_facts h2).2.1⟩
theorem kfold_score : ∀ (l : List Int) (s : RS), (∀ x ∈ l, inB x 1 17 = true) → 0 ≤ s.2.1 → s.2.1 + 131072 * l.length ≤ 1000000000 → (l.foldl rstep s).2.1 = s.2.1 + fs W (mgs s l)
  | [], s, _, _, _ => by simp [fs, mgs]
  | x :: l, s, hl, h0, h1 => by
    rw [List.foldl_cons]
    rw [List.length_cons, Int.natCast_add] at h1
    have hsc := kstep_score (s := s) (x := x)
    have hr : ∀ y ∈ l, inB y 1 17 = true := fun y hy => hl y (List.mem_cons_of_mem _ hy)
    cases hh : rhit s x with
    | true =>
      rw [hh, cond_true] at hsc
      have hw := W_of (mgs_ok (x :: l) s hl (x + 1) (by simp only [mgs, hh, cond_true]; exact List.mem_cons_self))
      rw [wrap_of (by omega) (by omega)] at hsc
      rw [kfold_score l _ hr (by omega) (by omega), hsc]
      simp only [mgs, hh, cond_true, fs]; omega
    | false =>
      rw [hh, cond_false] at hsc
      rw [kfold_score l _ hr (by omega) (by omega), hsc]
      simp only [mgs, hh, cond_false]
/-- the mergers of a row, by the tiles that they make -/
def rowM (row : List Int) : List Int := mgs (0, 0, false, [0, 0, 0, 0]) (row.filter fun x => !(x == 0))
theorem row_tiles {row : List Int} (h : ∀ x ∈ row, tileOK x) : ∀ x ∈ row.filter (fun x => !(x == 0)), inB x 1 17 = true := by
  intro x hx
  rw [List.mem_filter] at hx
  have h1 := h x hx.1
  have h2 : x ≠ 0 := by simpa using hx.2
  simp only [tileOK, inB, Bool.and_eq_true, decide_eq_true_eq] at h1 ⊢
  omega
section
variable {row : List Int} (hl : row.length = 4) (h : ∀ x ∈ row, tileOK x)
include hl h
theorem row_fs (f : Int → Int) (h0 : f 0 = 0) : fs f (rslide row).2.2.2 = fs f row + fs (fun m => f m - 2 * f (m - 1)) (rowM row) := by
  have hn : (row.filter fun x => !(x == 0)).length ≤ 4 := by rw [← hl]; exact List.length_filter_le _ _
  have := rfold_fs f h0 (row.filter fun x => !(x == 0)) (0, 0, false, [0, 0, 0, 0]) ⟨rfl, fun j _ hj => by
    obtain rfl | rfl | rfl | rfl : j = 0 ∨ j = 1 ∨ j = 2 ∨ j = 3 := by omega
    all_goals rfl⟩ (by simpa using hn)
  rw [fs_filter f h0] at this
  rw [show fs f ((0 : Nat), (0 : Int), false, [0, 0, 0, 0]).2.2.2 = 0 by simp [fs, h0], Int.zero_add] at this
  exact this
theorem row_score : (rslide row).2.1 = fs W (rowM row) := by
  have hn : (row.filter fun x => !(x == 0)).length ≤ 4 := by rw [← hl]; exact List.length_filter_le _ _
  have := kfold_score (row.filter fun x => !(x == 0)) (0, 0, false, [0, 0, 0, 0]) (row_tiles h) (Int.le_refl _) (by show (0 : Int) + _ ≤ _; omega)
  rw [show ((0 : Nat), (0 : Int), false, [(0 : Int), 0, 0, 0]).2.1 = 0 from rfl, Int.zero_add] at this
  exact this
theorem rowM_ok : ∀ m ∈ rowM row, inB m 2 17 = true := mgs_ok _ _ (row_tiles h)
theorem rowM_len : (rowM row).length ≤ 4 := by
  have hn : (row.filter fun x => !(x == 0)).length ≤ 4 := by rw [← hl]; exact List.length_filter_le _ _
  exact Nat.le_trans (mgs_len _ _) hn
end
/-- the mergers of a slide -/
def boardM (b : List Int) (d : Nat) : List Int := rowM (lineB b d 0) ++ rowM (lineB b d 1) ++ rowM (lineB b d 2) ++ rowM (lineB b d 3)
theorem fs_lines (f : Int → Int) {b : List Int} (hb : b.length = 16) {d : Nat} (hd : d < 4) : fs f b = fs f (lineB b d 0) + fs f (lineB b d 1) + fs f (lineB b d 2) + fs f (lineB b d 3) := by
  obtain ⟨x0, x1, x2, x3, x4, x5, x6, x7, x8, x9, x10, x11, x12, x13, x14, x15, rfl⟩ := list16 hb
  obtain rfl | rfl | rfl | rfl : d = 0 ∨ d = 1 ∨ d = 2 ∨ d = 3 := by omega
  all_goals (simp [fs, lineB, plcD, iget]; omega)
theorem put_lines (b r0 r1 r2 r3 : List Int) (hb : b.length = 16) (h0 : r0.length = 4) (h1 : r1.length = 4) (h2 : r2.length = 4) (h3 : r3.length = 4) {d : Nat} (hd : d < 4) :
    lineB (putB (putB (putB (putB b d 0 r0) d 1 r1) d 2 r2) d 3 r3) d 0 = r0 ∧ lineB (putB (putB (putB (putB b d 0 r0) d 1 r1) d 2 r2) d 3 r3) d 1 = r1 ∧ lineB (putB (putB (putB (putB b d 0 r0) d 1 r1) d 2 r2) d 3 r3) d 2 = r2 ∧ lineB (putB (putB (putB (putB b d 0 r0) d 1 r1) d 2 r2) d 3 r3) d 3 = r3 := by
  obtain ⟨x0, x1, x2, x3, x4, x5, x6, x7, x8, x9, x10, x11, x12, x13, x14, x15, rfl⟩ := list16 hb
  obtain ⟨a0, a1, a2, a3, rfl⟩ := list4 h0
  obtain ⟨c0, c1, c2, c3, rfl⟩ := list4 h1
  obtain ⟨g0, g1, g2, g3, rfl⟩ := list4 h2
  obtain ⟨k0, k1, k2, k3, rfl⟩ := list4 h3
  obtain rfl | rfl | rfl | rfl : d = 0 ∨ d = 1 ∨ d = 2 ∨ d = 3 := by omega
  all_goals exact ⟨by kernel_rfl, by kernel_rfl, by kernel_rfl, by kernel_rfl⟩
section
variable {b : List Int} (hb : b.length = 16) (ok : okB b = true)
include hb ok
theorem slide_lines {d : Nat} (hd : d < 4) {i : Nat} (hi : i < 4) : lineB (slideB b d).1 d i = (rslide (lineB b d i)).2.2.2 := by
  have r := fun i hi => (rslide_ok (line_ok hb ((okB_iff b).1 ok) hd (show i < 4 from hi))).1
  have e : (slideB b d).1 = putB (putB (putB (putB b d 0 (rslide (lineB b d 0)).2.2.2) d 1 (rslide (lineB b d 1)).2.2.2) d 2 (rslide (lineB b d 2)).2.2.2) d 3 (rslide (lineB b d 3)).2.2.2 := rfl
  have h := put_lines b _ _ _ _ hb (r 0 (by omega)) (r 1 (by omega)) (r 2 (by omega)) (r 3 (by omega)) hd
  rw [e]
  obtain rfl | rfl | rfl | rfl : i = 0 ∨ i = 1 ∨ i = 2 ∨ i = 3 := by omega
  · exact h.1
  · exact h.2.1
  · exact h.2.2.1
  · exact h.2.2.2
/-- sums over the tiles behind a slide -/
theorem slide_fs (f : Int → Int) (h0 : f 0 = 0) {d : Nat} (hd : d < 4) : fs f (slideB b d).1 = fs f b + fs (fun m => f m - 2 * f (m - 1)) (boardM b d) := by
  have g := fun i (hi : i < 4) => row_fs (row := lineB b d i) rfl (line_ok hb ((okB_iff b).1 ok) hd hi) f h0
  rw [fs_lines f (slide_ok hb ok hd).1 hd, slide_lines hb ok hd (show 0 < 4 by omega), slide_lines hb ok hd (show 1 < 4 by omega), slide_lines hb ok hd (show 2 < 4 by omega), slide_lines hb ok hd (show 3 < 4 by omega),
    g 0 (by omega), g 1 (by omega), g 2 (by omega), g 3 (by omega), fs_lines f hb hd, boardM, fs_append, fs_append, fs_append]
  omega
theorem boardM_ok {d : Nat} (hd : d < 4) : ∀ m ∈ boardM b d, inB m 2 17 = true := by
  have g := fun i (hi : i < 4) => rowM_ok (row := lineB b d i) rfl (line_ok hb ((okB_iff b).1 ok) hd hi)
  intro m hm
  simp only [boardM, List.mem_append] at hm
  rcases hm with ((h | h) | h) | h
  · exact g 0 (by omega) m h
  · exact g 1 (by omega) m h
  · exact g 2 (by omega) m h
  · exact g 3 (by omega) m h
theorem kslide_score {d : Nat} (hd : d < 4) : (slideB b d).2 = fs W (boardM b d) := by
  have g := fun i (hi : i < 4) => row_score (row := lineB b d i) rfl (line_ok hb ((okB_iff b).1 ok) hd hi)
  have k := fun i (hi : i < 4) => rowM_ok (row := lineB b d i) rfl (line_ok hb ((okB_iff b).1 ok) hd hi)
  have n := fun i (hi : i < 4) => rowM_len (row := lineB b d i) rfl (line_ok hb ((okB_iff b).1 ok) hd hi)
  have w := fun i (hi : i < 4) => fs_bound (f := W) (m := 131072) (l := rowM (lineB b d i)) fun m hm => W_of (k i hi m hm)
  have w0 := w 0 (by omega); have w1 := w 1 (by omega); have w2 := w 2 (by omega); have w3 := w 3 (by omega)
  have n0 := n 0 (by omega); have n1 := n 1 (by omega); have n2 := n 2 (by omega); have n3 := n 3 (by omega)
  have e : (slideB b d).2 = IntKind.wrap .i64 (IntKind.wrap .i64 (IntKind.wrap .i64 (IntKind.wrap .i64 (0 + (rslide (lineB b d 0)).2.1) + (rslide (lineB b d 1)).2.1) + (rslide (lineB b d 2)).2.1) + (rslide (lineB b d 3)).2.1) := rfl
  rw [e, g 0 (by omega), g 1 (by omega), g 2 (by omega), g 3 (by omega), boardM, fs_append, fs_append, fs_append]
  rw [wrap_of (n := 0 + fs W (rowM (lineB b d 0))) (by omega) (by omega), wrap_of (n := 0 + fs W (rowM (lineB b d 0)) + fs W (rowM (lineB b d 1))) (by omega) (by omega), wrap_of (n := 0 + fs W (rowM (lineB b d 0)) + fs W (rowM (lineB b d 1)) + fs W (rowM (lineB b d 2))) (by omega) (by omega), wrap_of (by omega) (by omega)]
  omega
end
theorem W_double {m : Int} (h : inB m 2 17 = true) : W m - 2 * W (m - 1) = 0 := by
  have h2 : inB m 0 17 = true := by
    simp only [inB, Bool.and_eq_true, decide_eq_true_eq] at h ⊢; omega
  rcases tile_cases h2 with e | e | e | e | e | e | e | e | e | e | e | e | e | e | e | e | e | e <;> subst e <;> revert h <;> decide
theorem fs_zero {f : Int → Int} : ∀ {l : List Int}, (∀ x ∈ l, f x = 0) → fs f l = 0
  | [], _ => rfl
  | x :: l, h => by simp only [fs, h x List.mem_cons_self, fs_zero fun y hy => h y (List.mem_cons_of_mem _ hy)]; rfl
theorem sumB_fs (b : List Int) : sumB b = fs W b := by
  rw [sumB, fs_foldl]; omega
/-- a slide keeps the sum -/
theorem slide_sum {b : List Int} (hb : b.length = 16) (ok : okB b = true) {d : Nat} (hd : d < 4) : sumB (slideB b d).1 = sumB b := by
  rw [sumB_fs, sumB_fs, slide_fs hb ok W rfl hd, fs_zero fun m hm => W_double (boardM_ok hb ok hd m hm)]
  omega
end Go.Lv.P
