/-
Boards that slide: scores within bounds; a board that changes has room behind it.
-/
import Derived.Test.YtgdokdkcbgkekaeGePSlide
import Derived.Test.YtgdokdkcbgkekaeGePEm
namespace Go.Lv.P
open Go Go.Lv
set_option linter.unusedVariables false
set_option linter.unusedSimpArgs false

theorem rstep_score {s : RS} {x : Int} (hx : inB x 1 17 = true) (h0 : 0 ≤ s.2.1) (h1 : s.2.1 ≤ 1000000000) : s.2.1 ≤ (rstep s x).2.1 ∧ (rstep s x).2.1 ≤ s.2.1 + 131072 := by
  have hx1 : 1 ≤ x ∧ x ≤ 17 := by simpa [inB] using hx
  unfold rstep
  cases h17 : decide (x < 17) with
  | false =>
    simp only [Bool.and_false, Bool.false_and, cond_false]
    omega
  | true =>
    have h17 := of_decide_eq_true h17
    obtain ⟨w1, w2, _⟩ := W_facts (t := x + 1) (by simp [inB]; omega)
    cases decide (0 < s.1) && (iget s.2.2.2 (0 + (s.1 - 1) * 1) == x) && true && !s.2.2.1
    · simp only [cond_false]; omega
    · simp only [cond_true]
      rw [wrap_of (by omega) (by omega)]
      omega
theorem rfold_score : ∀ (l : List Int) (s : RS), (∀ x ∈ l, inB x 1 17 = true) → 0 ≤ s.2.1 → s.2.1 + 131072 * l.length ≤ 900000000 → s.2.1 ≤ (l.foldl rstep s).2.1 ∧ (l.foldl rstep s).2.1 ≤ s.2.1 + 131072 * l.length := by
  intro l
  induction l with
  | nil => intro s _ _ _; simp
  | cons y r ih =>
    intro s hl h0 h1
    simp only [List.length_cons] at h1
    obtain ⟨g1, g2⟩ := rstep_score (s := s) (hl y List.mem_cons_self) h0 (by omega)
    obtain ⟨g3, g4⟩ := ih (rstep s y) (fun z hz => hl z (List.mem_cons_of_mem _ hz)) (by omega) (by omega)
    simp only [List.foldl_cons, List.length_cons]
    omega

theorem tiles_in {row : List Int} (hr : ∀ x ∈ row, tileOK x) : ∀ x ∈ row.filter fun x => !(x == 0), inB x 1 17 = true := by
  intro x hx
  rw [List.mem_filter] at hx
  have h1 := hr x hx.1
  have h2 : x ≠ 0 := by simpa using hx.2
  simp [tileOK, inB] at h1
  simp [inB]
  omega
theorem rslide_score {row : List Int} (hl : row.length = 4) (hr : ∀ x ∈ row, tileOK x) : 0 ≤ (rslide row).2.1 ∧ (rslide row).2.1 ≤ 524288 := by
  have h := rfold_score _ (0, 0, false, [0, 0, 0, 0]) (tiles_in hr) (by simp) (by have := List.length_filter_le (fun x => !(x == 0)) row; simp only; omega)
  have hq := List.length_filter_le (fun x => !(x == 0)) row
  simp only [rslide]
  simp only at h
  omega

theorem rstep_inc {s : RS} {x : Int} (h : (rstep s x).1 = s.1 + 1) : rstep s x = (s.1 + 1, s.2.1, false, iset s.2.2.2 (0 + s.1 * 1) x) := by
  unfold rstep at h ⊢
  cases hc : decide (0 < s.1) && (iget s.2.2.2 (0 + (s.1 - 1) * 1) == x) && decide (x < 17) && !s.2.2.1 with
  | false => rfl
  | true => rw [hc] at h; simp at h

theorem iget_iset_ne (l : List Int) (i j : Nat) (x : Int) (h : i ≠ j) : iget (iset l i x) j = iget l j := by
  rw [igetL, igetL, isetL, List.getElem?_set_ne h]

/-- behind the tiles that lie there all is empty -/
def ends (s : RS) : Prop := ∀ j, s.1 ≤ j → iget s.2.2.2 j = 0
theorem rstep_ends {s : RS} {x : Int} (h : ends s) : ends (rstep s x) := by
  unfold rstep
  cases hc : decide (0 < s.1) && (iget s.2.2.2 (0 + (s.1 - 1) * 1) == x) && decide (x < 17) && !s.2.2.1 with
  | false =>
    intro j hj
    simp only [cond_false] at hj ⊢
    rw [iget_iset_ne _ _ _ _ (by omega)]
    exact h j (by omega)
  | true =>
    intro j hj
    simp only [Bool.and_eq_true, decide_eq_true_eq] at hc
    simp only [cond_true] at hj ⊢
    rw [iget_iset_ne _ _ _ _ (by omega)]
    exact h j (by omega)
theorem rfold_ends : ∀ (l : List Int) (s : RS), ends s → ends (l.foldl rstep s) ∧ (l.foldl rstep s).1 ≤ s.1 + l.length
  | [], s, h => ⟨h, Nat.le_refl _⟩
  | x :: r, s, h => by
    obtain ⟨g1, g2⟩ := rfold_ends r (rstep s x) (rstep_ends h)
    have := rstep_n s x
    exact ⟨g1, by simp only [List.foldl_cons, List.length_cons]; omega⟩

theorem rstep4 {a b c d : Int} (h4 : 4 ≤ (rstep (rstep (rstep (rstep (0, 0, false, [0, 0, 0, 0]) a) b) c) d).1) : rstep (rstep (rstep (rstep (0, 0, false, [0, 0, 0, 0]) a) b) c) d = (4, 0, false, [a, b, c, d]) := by
  have n1 : (rstep (0, 0, false, [0, 0, 0, 0]) a).1 ≤ 1 := rstep_n _ _
  have n2 := rstep_n (rstep (0, 0, false, [0, 0, 0, 0]) a) b
  have n3 := rstep_n (rstep (rstep (0, 0, false, [0, 0, 0, 0]) a) b) c
  have n4 := rstep_n (rstep (rstep (rstep (0, 0, false, [0, 0, 0, 0]) a) b) c) d
  have k1 : rstep (0, 0, false, [0, 0, 0, 0]) a = (1, 0, false, [a, 0, 0, 0]) := rstep_inc (by show (rstep (0, 0, false, [0, 0, 0, 0]) a).1 = 1; omega)
  rw [k1] at n2 n3 n4 h4 ⊢
  have n2 : (rstep (1, 0, false, [a, 0, 0, 0]) b).1 ≤ 2 := n2
  have k2 : rstep (1, 0, false, [a, 0, 0, 0]) b = (2, 0, false, [a, b, 0, 0]) := rstep_inc (by show (rstep (1, 0, false, [a, 0, 0, 0]) b).1 = 2; omega)
  rw [k2] at n3 n4 h4 ⊢
  have n3 : (rstep (2, 0, false, [a, b, 0, 0]) c).1 ≤ 3 := n3
  have k3 : rstep (2, 0, false, [a, b, 0, 0]) c = (3, 0, false, [a, b, c, 0]) := rstep_inc (by show (rstep (2, 0, false, [a, b, 0, 0]) c).1 = 3; omega)
  rw [k3] at n4 h4 ⊢
  have n4 : (rstep (3, 0, false, [a, b, c, 0]) d).1 ≤ 4 := n4
  exact rstep_inc (by show (rstep (3, 0, false, [a, b, c, 0]) d).1 = 4; omega)

/-- a row that is full behind its slide has not moved -/
theorem row_full {row : List Int} (hl : row.length = 4) (hf : ∀ x ∈ (rslide row).2.2.2, x ≠ 0) (hr : ∀ x ∈ row, tileOK x) : (rslide row).2.2.2 = row := by
  obtain ⟨a, b, c, d, rfl⟩ := list4 hl
  have h0 : ends (0, 0, false, [0, 0, 0, 0]) := fun j _ => by
    match j with
    | 0 => rfl
    | 1 => rfl
    | 2 => rfl
    | 3 => rfl
    | j + 4 => rfl
  obtain ⟨e1, e2⟩ := rfold_ends ([a, b, c, d].filter fun x => !(x == 0)) _ h0
  have h3 : iget (rslide [a, b, c, d]).2.2.2 3 ≠ 0 := by
    have hlen := (rslide_ok hr).1
    have := hf (rslide [a, b, c, d]).2.2.2[3] (List.getElem_mem _)
    rw [igetL, List.getElem?_eq_getElem (by omega)]
    exact this
  have h4 : 4 ≤ (rslide [a, b, c, d]).1 := by
    rcases Nat.lt_or_ge (rslide [a, b, c, d]).1 4 with h | h
    · exact absurd (e1 3 (by show (rslide [a, b, c, d]).1 ≤ 3; omega)) h3
    · exact h
  have hq : ([a, b, c, d].filter fun x => !(x == 0)).length = 4 := by
    have := List.length_filter_le (fun x : Int => !(x == 0)) [a, b, c, d]
    have e2 : (rslide [a, b, c, d]).1 ≤ 0 + ([a, b, c, d].filter fun x => !(x == 0)).length := e2
    simp only [List.length_cons, List.length_nil] at this
    omega
  have hall : ([a, b, c, d].filter fun x => !(x == 0)) = [a, b, c, d] := by
    apply (List.filter_sublist (l := [a, b, c, d]) (p := fun x => !(x == 0))).eq_of_length
    rw [hq]; rfl
  have hs : rslide [a, b, c, d] = rstep (rstep (rstep (rstep (0, 0, false, [0, 0, 0, 0]) a) b) c) d := by
    rw [rslide, hall]; rfl
  rw [hs] at h4 ⊢
  rw [rstep4 h4]

theorem slide_rows (b : List Int) (d : Nat) : (slideB b d).1 = putB (putB (putB (putB b d 0 (rslide (lineB b d 0)).2.2.2) d 1 (rslide (lineB b d 1)).2.2.2) d 2 (rslide (lineB b d 2)).2.2.2) d 3 (rslide (lineB b d 3)).2.2.2 := rfl

theorem rows_full {b r0 r1 r2 r3 : List Int} (hb : b.length = 16) (h0 : r0.length = 4) (h1 : r1.length = 4) (h2 : r2.length = 4) (h3 : r3.length = 4) {d : Nat} (hd : d < 4)
    (hf : ∀ x ∈ putB (putB (putB (putB b d 0 r0) d 1 r1) d 2 r2) d 3 r3, x ≠ 0) : (∀ x ∈ r0, x ≠ 0) ∧ (∀ x ∈ r1, x ≠ 0) ∧ (∀ x ∈ r2, x ≠ 0) ∧ ∀ x ∈ r3, x ≠ 0 := by
  obtain ⟨x0, x1, x2, x3, x4, x5, x6, x7, x8, x9, x10, x11, x12, x13, x14, x15, rfl⟩ := list16 hb
  obtain ⟨a0, a1, a2, a3, rfl⟩ := list4 h0
  obtain ⟨b0, b1, b2, b3, rfl⟩ := list4 h1
  obtain ⟨c0, c1, c2, c3, rfl⟩ := list4 h2
  obtain ⟨d0, d1, d2, d3, rfl⟩ := list4 h3
  obtain rfl | rfl | rfl | rfl : d = 0 ∨ d = 1 ∨ d = 2 ∨ d = 3 := by omega
  · have e : putB (putB (putB (putB [x0, x1, x2, x3, x4, x5, x6, x7, x8, x9, x10, x11, x12, x13, x14, x15] 0 0 [a0, a1, a2, a3]) 0 1 [b0, b1, b2, b3]) 0 2 [c0, c1, c2, c3]) 0 3 [d0, d1, d2, d3] = [a0, a1, a2, a3, b0, b1, b2, b3, c0, c1, c2, c3, d0, d1, d2, d3] := by kernel_rfl
    rw [e] at hf
    simp only [List.mem_cons, List.not_mem_nil, or_false, forall_eq_or_imp, forall_eq] at hf ⊢
    simp_all
  · have e : putB (putB (putB (putB [x0, x1, x2, x3, x4, x5, x6, x7, x8, x9, x10, x11, x12, x13, x14, x15] 1 0 [a0, a1, a2, a3]) 1 1 [b0, b1, b2, b3]) 1 2 [c0, c1, c2, c3]) 1 3 [d0, d1, d2, d3] = [a0, b0, c0, d0, a1, b1, c1, d1, a2, b2, c2, d2, a3, b3, c3, d3] := by kernel_rfl
    rw [e] at hf
    simp only [List.mem_cons, List.not_mem_nil, or_false, forall_eq_or_imp, forall_eq] at hf ⊢
    simp_all
  · have e : putB (putB (putB (putB [x0, x1, x2, x3, x4, x5, x6, x7, x8, x9, x10, x11, x12, x13, x14, x15] 2 0 [a0, a1, a2, a3]) 2 1 [b0, b1, b2, b3]) 2 2 [c0, c1, c2, c3]) 2 3 [d0, d1, d2, d3] = [a3, a2, a1, a0, b3, b2, b1, b0, c3, c2, c1, c0, d3, d2, d1, d0] := by kernel_rfl
    rw [e] at hf
    simp only [List.mem_cons, List.not_mem_nil, or_false, forall_eq_or_imp, forall_eq] at hf ⊢
    simp_all
  · have e : putB (putB (putB (putB [x0, x1, x2, x3, x4, x5, x6, x7, x8, x9, x10, x11, x12, x13, x14, x15] 3 0 [a0, a1, a2, a3]) 3 1 [b0, b1, b2, b3]) 3 2 [c0, c1, c2, c3]) 3 3 [d0, d1, d2, d3] = [a3, b3, c3, d3, a2, b2, c2, d2, a1, b1, c1, d1, a0, b0, c0, d0] := by kernel_rfl
    rw [e] at hf
    simp only [List.mem_cons, List.not_mem_nil, or_false, forall_eq_or_imp, forall_eq] at hf ⊢
    simp_all
theorem rows_self {b : List Int} (hb : b.length = 16) {d : Nat} (hd : d < 4) : putB (putB (putB (putB b d 0 (lineB b d 0)) d 1 (lineB b d 1)) d 2 (lineB b d 2)) d 3 (lineB b d 3) = b := by
  obtain ⟨x0, x1, x2, x3, x4, x5, x6, x7, x8, x9, x10, x11, x12, x13, x14, x15, rfl⟩ := list16 hb
  obtain rfl | rfl | rfl | rfl : d = 0 ∨ d = 1 ∨ d = 2 ∨ d = 3 := by omega
  all_goals kernel_rfl

theorem em_full {n : List Int} (hn : n.length = 16) (h : (em n).length = 0) : ∀ x ∈ n, x ≠ 0 := by
  have h : em n = [] := List.eq_nil_of_length_eq_zero h
  have key : ∀ c ∈ cells16, iget n (plc c) ≠ 0 := fun c hc h0 => by
    have : c ∈ em n := List.mem_filter.2 ⟨hc, by simpa using h0⟩
    rw [h] at this; cases this
  obtain ⟨x0, x1, x2, x3, x4, x5, x6, x7, x8, x9, x10, x11, x12, x13, x14, x15, rfl⟩ := list16 hn
  have g : ∀ (c : List Int) (x : Int), c ∈ cells16 → iget [x0, x1, x2, x3, x4, x5, x6, x7, x8, x9, x10, x11, x12, x13, x14, x15] (plc c) = x → x ≠ 0 := fun c x hc e => e ▸ key c hc
  intro x hx
  simp only [List.mem_cons, List.not_mem_nil, or_false] at hx
  rcases hx with rfl | rfl | rfl | rfl | rfl | rfl | rfl | rfl | rfl | rfl | rfl | rfl | rfl | rfl | rfl | rfl
  · exact g [0, 0] _ (by decide) rfl
  · exact g [0, 1] _ (by decide) rfl
  · exact g [0, 2] _ (by decide) rfl
  · exact g [0, 3] _ (by decide) rfl
  · exact g [1, 0] _ (by decide) rfl
  · exact g [1, 1] _ (by decide) rfl
  · exact g [1, 2] _ (by decide) rfl
  · exact g [1, 3] _ (by decide) rfl
  · exact g [2, 0] _ (by decide) rfl
  · exact g [2, 1] _ (by decide) rfl
  · exact g [2, 2] _ (by decide) rfl
  · exact g [2, 3] _ (by decide) rfl
  · exact g [3, 0] _ (by decide) rfl
  · exact g [3, 1] _ (by decide) rfl
  · exact g [3, 2] _ (by decide) rfl
  · exact g [3, 3] _ (by decide) rfl

section
variable {b : List Int} (hb : b.length = 16) (ok : okB b = true)
include hb ok
/-- a board that changes has an empty cell behind the slide -/
theorem slide_room {d : Nat} (hd : d < 4) (h : ((slideB b d).1 == b) = false) : 0 < (em (slideB b d).1).length := by
  rcases Nat.eq_zero_or_pos (em (slideB b d).1).length with h0 | h0
  · exfalso
    have hf := em_full (slide_ok hb ok hd).1 h0
    rw [slide_rows] at hf
    have hl : ∀ i, i < 4 → ∀ x ∈ lineB b d i, tileOK x := fun i hi => line_ok hb ((okB_iff b).1 ok) hd hi
    obtain ⟨f0, f1, f2, f3⟩ := rows_full hb (rslide_ok (hl 0 (by omega))).1 (rslide_ok (hl 1 (by omega))).1 (rslide_ok (hl 2 (by omega))).1 (rslide_ok (hl 3 (by omega))).1 hd hf
    have e := slide_rows b d
    rw [row_full rfl f0 (hl 0 (by omega)), row_full rfl f1 (hl 1 (by omega)), row_full rfl f2 (hl 2 (by omega)), row_full rfl f3 (hl 3 (by omega)), rows_self hb hd] at e
    rw [e] at h
    simp at h
  · exact h0
theorem slide_score {d : Nat} (hd : d < 4) : 0 ≤ (slideB b d).2 ∧ (slideB b d).2 ≤ 2097152 := by
  have hl : ∀ i, i < 4 → 0 ≤ (rslide (lineB b d i)).2.1 ∧ (rslide (lineB b d i)).2.1 ≤ 524288 := fun i hi => rslide_score rfl (line_ok hb ((okB_iff b).1 ok) hd hi)
  have l0 := hl 0 (by omega)
  have l1 := hl 1 (by omega)
  have l2 := hl 2 (by omega)
  have l3 := hl 3 (by omega)
  have e : (slideB b d).2 = IntKind.wrap .i64 (IntKind.wrap .i64 (IntKind.wrap .i64 (IntKind.wrap .i64 (0 + (rslide (lineB b d 0)).2.1) + (rslide (lineB b d 1)).2.1) + (rslide (lineB b d 2)).2.1) + (rslide (lineB b d 3)).2.1) := rfl
  rw [e, wrap_of (n := 0 + _) (by omega) (by omega), wrap_of (n := 0 + _ + _) (by omega) (by omega), wrap_of (n := 0 + _ + _ + _) (by omega) (by omega), wrap_of (by omega) (by omega)]
  omega
end
end Go.Lv.P
