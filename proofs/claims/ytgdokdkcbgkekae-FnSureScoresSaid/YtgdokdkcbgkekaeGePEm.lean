/-
The empty cells of a board; the placements.
-/
import Derived.Test.YtgdokdkcbgkekaeGePBoard
import Derived.Test.YtgdokdkcbgkekaeGePDelete
namespace Go.Lv.P
open Go Go.Lv
set_option linter.unusedVariables false
set_option linter.unusedSimpArgs false

abbrev cells16 : LL := [[0, 0], [0, 1], [0, 2], [0, 3], [1, 0], [1, 1], [1, 2], [1, 3], [2, 0], [2, 1], [2, 2], [2, 3], [3, 0], [3, 1], [3, 2], [3, 3]]

/-- the place of a cell -/
def plc (c : List Int) : Nat := 0 + (iget c 0).toNat * 4 + (iget c 1).toNat * 1

/-- the empty cells -/
def em (b : List Int) : LL := cells16.filter fun c => iget b (plc c) == 0

theorem cells_all {p : List Int → Prop} (h : ∀ r c : Nat, r < 4 → c < 4 → p [(r : Int), (c : Int)]) : ∀ x ∈ cells16, p x := by
  intro x hx
  simp only [cells16, List.mem_cons, List.not_mem_nil, or_false] at hx
  rcases hx with rfl | rfl | rfl | rfl | rfl | rfl | rfl | rfl | rfl | rfl | rfl | rfl | rfl | rfl | rfl | rfl
  · exact h 0 0 (by decide) (by decide)
  · exact h 0 1 (by decide) (by decide)
  · exact h 0 2 (by decide) (by decide)
  · exact h 0 3 (by decide) (by decide)
  · exact h 1 0 (by decide) (by decide)
  · exact h 1 1 (by decide) (by decide)
  · exact h 1 2 (by decide) (by decide)
  · exact h 1 3 (by decide) (by decide)
  · exact h 2 0 (by decide) (by decide)
  · exact h 2 1 (by decide) (by decide)
  · exact h 2 2 (by decide) (by decide)
  · exact h 2 3 (by decide) (by decide)
  · exact h 3 0 (by decide) (by decide)
  · exact h 3 1 (by decide) (by decide)
  · exact h 3 2 (by decide) (by decide)
  · exact h 3 3 (by decide) (by decide)

theorem em_not (b : List Int) : (cells16.filter fun x => !!(iget b (plc x) == 0)) = em b := by simp only [Bool.not_not]; rfl

theorem em_len (b : List Int) : (em b).length ≤ 16 := List.length_filter_le _ _

theorem em_mem (b : List Int) : ∀ x ∈ em b, x ∈ cells16 := fun x hx => (List.mem_filter.1 hx).1

theorem fld_add {h : Nat → LL} : ∀ (m i : Nat) (a : LL), fld (fun i a => a ++ h i) i m a = a ++ (List.range' i m).flatMap h
  | 0, i, a => by simp [fld]
  | m + 1, i, a => by
    simp only [fld, fld_add m (i + 1), List.range'_succ, List.flatMap_cons, List.append_assoc]

theorem filter_flatMap (l : LL) (q : List Int → Bool) : l.filter q = l.flatMap fun c => bif q c then [c] else [] := by
  induction l with
  | nil => rfl
  | cons a r ih =>
    rw [List.filter_cons, List.flatMap_cons, ← ih]
    cases q a <;> rfl

theorem flat_len {h : Nat → LL} (hl : ∀ i, (h i).length ≤ 1) : ∀ m i, ((List.range' i m).flatMap h).length ≤ m
  | 0, i => by simp
  | m + 1, i => by
    have := flat_len hl m (i + 1)
    have := hl i
    simp only [List.range'_succ, List.flatMap_cons, List.length_append]
    omega

/-- the placements on a board -/
def plm (b : List Int) : LL := fld (fun i a => a ++ [[iget (rget (em b) i) 0, iget (rget (em b) i) 1, 1], [iget (rget (em b) i) 0, iget (rget (em b) i) 1, 2]]) 0 (em b).length []

theorem plm_mem (b : List Int) : ∀ x ∈ plm b, x.length = 3 := by
  rw [plm, fld_add]
  intro x hx
  simp only [List.nil_append, List.mem_flatMap, List.mem_cons, List.not_mem_nil, or_false] at hx
  obtain ⟨i, _, rfl | rfl⟩ := hx <;> rfl

theorem plm_len (b : List Int) : (plm b).length = 2 * (em b).length := by
  rw [plm, fld_add]
  have : ∀ m i, ((List.range' i m).flatMap fun i => [[iget (rget (em b) i) 0, iget (rget (em b) i) 1, 1], [iget (rget (em b) i) 0, iget (rget (em b) i) 1, (2 : Int)]]).length = 2 * m := by
    intro m
    induction m with
    | zero => intro i; rfl
    | succ m ih => intro i; rw [List.range'_succ, List.flatMap_cons, List.length_append, ih]; simp; omega
  simpa using this (em b).length 0
end Go.Lv.P
