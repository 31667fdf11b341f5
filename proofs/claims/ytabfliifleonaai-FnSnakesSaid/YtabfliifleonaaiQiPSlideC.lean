/-
A board that slides: plain definitions.
-/
import Derived.Test.YtabfliifleonaaiQiPRowC
namespace Go.Lv.P
open Go Go.Lv
set_option linter.unusedVariables false
set_option linter.unusedSimpArgs false
set_option linter.unusedSectionVars false
set_option maxRecDepth 100000

/-- the place in a board of the cell k of the line i, as a slide looks at it -/
def plcD (d i k : Nat) : Nat :=
  match d with
  | 0 => i * 4 + k
  | 1 => k * 4 + i
  | 2 => i * 4 + (3 - k)
  | _ => (3 - k) * 4 + i
def crd (d i : Nat) : List Int := [0, 1, 2, 3].flatMap fun k => [((plcD d i k / 4 : Nat) : Int), ((plcD d i k % 4 : Nat) : Int)]
def lineB (b : List Int) (d i : Nat) : List Int := [iget b (plcD d i 0), iget b (plcD d i 1), iget b (plcD d i 2), iget b (plcD d i 3)]
def putB (b : List Int) (d i : Nat) (row : List Int) : List Int := iset (iset (iset (iset b (plcD d i 0) (iget row 0)) (plcD d i 1) (iget row 1)) (plcD d i 2) (iget row 2)) (plcD d i 3) (iget row 3)
def sstep (b : List Int) (d i : Nat) (s : List Int × Int) : List Int × Int := (putB s.1 d i (rslide (lineB b d i)).2.2.2, IntKind.wrap .i64 (s.2 + (rslide (lineB b d i)).2.1))
/-- the board behind a slide, and the score -/
def slideB (b : List Int) (d : Nat) : List Int × Int := fld (sstep b d) 0 4 (b, 0)

theorem plcD_lt {d i k : Nat} (hd : d < 4) (hi : i < 4) (hk : k < 4) : plcD d i k < 16 := by
  obtain rfl | rfl | rfl | rfl : d = 0 ∨ d = 1 ∨ d = 2 ∨ d = 3 := by omega
  all_goals (simp only [plcD]; omega)

theorem iset_len (l : List Int) (i : Nat) (x : Int) : (iset l i x).length = l.length := by rw [isetL, List.length_set]
theorem iset_all {p : Int → Prop} {l : List Int} (h : ∀ y ∈ l, p y) (i : Nat) {x : Int} (hx : p x) : ∀ y ∈ iset l i x, p y := by
  rw [isetL]
  intro y hy
  rcases List.mem_or_eq_of_mem_set hy with hy | rfl
  · exact h y hy
  · exact hx

abbrev tileOK (x : Int) : Prop := inB x 0 17 = true
theorem rstep_ok {s : RS} {x : Int} (hx : inB x 1 17 = true) (h : s.2.2.2.length = 4 ∧ ∀ y ∈ s.2.2.2, tileOK y) : (rstep s x).2.2.2.length = 4 ∧ ∀ y ∈ (rstep s x).2.2.2, tileOK y := by
  have hx1 : 1 ≤ x ∧ x ≤ 17 := by simpa [inB] using hx
  unfold rstep
  cases h17 : decide (x < 17) with
  | false =>
    simp only [Bool.and_false, Bool.false_and, cond_false]
    exact ⟨by rw [iset_len]; exact h.1, iset_all h.2 _ (by simp [tileOK, inB]; omega)⟩
  | true =>
    have h17 := of_decide_eq_true h17
    cases decide (0 < s.1) && (iget s.2.2.2 (0 + (s.1 - 1) * 1) == x) && true && !s.2.2.1
    · exact ⟨by simp only [cond_false]; rw [iset_len]; exact h.1, iset_all h.2 _ (by simp [tileOK, inB]; omega)⟩
    · exact ⟨by simp only [cond_true]; rw [iset_len]; exact h.1, iset_all h.2 _ (by simp [tileOK, inB]; omega)⟩

theorem rfold_ok : ∀ (l : List Int) (s : RS), (∀ x ∈ l, inB x 1 17 = true) → (s.2.2.2.length = 4 ∧ ∀ y ∈ s.2.2.2, tileOK y) → ((l.foldl rstep s).2.2.2.length = 4 ∧ ∀ y ∈ (l.foldl rstep s).2.2.2, tileOK y)
  | [], s, _, h => h
  | x :: r, s, hl, h => rfold_ok r (rstep s x) (fun y hy => hl y (List.mem_cons_of_mem _ hy)) (rstep_ok (hl x List.mem_cons_self) h)

theorem rslide_ok {row : List Int} (hr : ∀ x ∈ row, tileOK x) : (rslide row).2.2.2.length = 4 ∧ ∀ y ∈ (rslide row).2.2.2, tileOK y := by
  refine rfold_ok _ _ (fun x hx => ?_) ⟨rfl, by decide⟩
  rw [List.mem_filter] at hx
  have h1 := hr x hx.1
  have h2 : x ≠ 0 := by simpa using hx.2
  simp [tileOK, inB] at h1
  simp [inB]
  omega

theorem okB_iff (b : List Int) : okB b = true ↔ ∀ x ∈ b, tileOK x := by simp [okB, tileOK]
theorem iget_ok {b : List Int} {n : Nat} (h : ∀ x ∈ b, tileOK x) (hn : n < b.length) : tileOK (iget b n) := by
  rw [igetL, List.getElem?_eq_getElem hn]
  exact h _ (List.getElem_mem _)

theorem line_ok {b : List Int} (hb : b.length = 16) (ok : ∀ x ∈ b, tileOK x) {d i : Nat} (hd : d < 4) (hi : i < 4) : ∀ x ∈ lineB b d i, tileOK x := by
  have h : ∀ k, k < 4 → tileOK (iget b (plcD d i k)) := fun k hk => iget_ok ok (by rw [hb]; exact plcD_lt hd hi hk)
  intro x hx
  simp only [lineB, List.mem_cons, List.not_mem_nil, or_false] at hx
  rcases hx with rfl | rfl | rfl | rfl
  · exact h 0 (by omega)
  · exact h 1 (by omega)
  · exact h 2 (by omega)
  · exact h 3 (by omega)

theorem put_ok {b row : List Int} (hb : b.length = 16 ∧ ∀ x ∈ b, tileOK x) (hr : row.length = 4 ∧ ∀ x ∈ row, tileOK x) (d i : Nat) : (putB b d i row).length = 16 ∧ ∀ x ∈ putB b d i row, tileOK x := by
  have h : ∀ k, k < 4 → tileOK (iget row k) := fun k hk => iget_ok hr.2 (by omega)
  refine ⟨by simp only [putB, iset_len]; exact hb.1, ?_⟩
  exact iset_all (iset_all (iset_all (iset_all hb.2 _ (h 0 (by omega))) _ (h 1 (by omega))) _ (h 2 (by omega))) _ (h 3 (by omega))

section
variable {b : List Int} (hb : b.length = 16) (ok : okB b = true)
include hb ok

theorem sstep_ok {d i : Nat} (hd : d < 4) (hi : i < 4) {s : List Int × Int} (hs : s.1.length = 16 ∧ ∀ x ∈ s.1, tileOK x) : (sstep b d i s).1.length = 16 ∧ ∀ x ∈ (sstep b d i s).1, tileOK x :=
  put_ok hs (rslide_ok (line_ok hb ((okB_iff b).1 ok) hd hi)) d i

theorem slide_ok {d : Nat} (hd : d < 4) : (slideB b d).1.length = 16 ∧ okB (slideB b d).1 = true := by
  have h0 : (b, (0 : Int)).1.length = 16 ∧ ∀ x ∈ (b, (0 : Int)).1, tileOK x := ⟨hb, (okB_iff b).1 ok⟩
  have h := sstep_ok hb ok hd (show 3 < 4 by omega) (sstep_ok hb ok hd (show 2 < 4 by omega) (sstep_ok hb ok hd (show 1 < 4 by omega) (sstep_ok hb ok hd (show 0 < 4 by omega) h0)))
  exact ⟨h.1, (okB_iff _).2 h.2⟩

end
end Go.Lv.P
