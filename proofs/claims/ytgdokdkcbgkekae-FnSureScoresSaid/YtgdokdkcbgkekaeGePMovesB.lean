/-
The moves of a board.
-/
import Derived.Test.YtgdokdkcbgkekaeGePSlide

namespace Go.Lv.P
open Go Go.Lv
set_option linter.unusedVariables false
set_option linter.unusedSimpArgs false
/-- the directions in which a slide is a move -/
def movesB (b : List Int) : List Int := fld (fun d out => bif (!((slideB b d).1 == b)) then out ++ [(d : Int)] else out) 0 4 []

theorem moves_step {c : Bool} {d : Nat} {out : List Int} (h : out.length ≤ d) : (bif c then out ++ [(d : Int)] else out).length ≤ d + 1 := by
  cases c
  · simp; omega
  · simp; omega


theorem movesB_eq (b : List Int) : movesB b = ((List.range 4).filter fun d => !((slideB b d).1 == b)).map fun d : Nat => (d : Int) := by
  have e : List.range 4 = [0, 1, 2, 3] := rfl
  rw [e]
  simp only [movesB, fld, List.filter]
  cases ((slideB b 0).1 == b) <;> cases ((slideB b (0 + 1)).1 == b) <;> cases ((slideB b (0 + 1 + 1)).1 == b) <;> cases ((slideB b (0 + 1 + 1 + 1)).1 == b) <;> rfl
theorem movesB_len (b : List Int) : (movesB b).length ≤ 4 := by
  rw [movesB_eq, List.length_map]
  exact List.length_filter_le _ _
theorem movesB_mem {b : List Int} {x : Int} (h : x ∈ movesB b) : ∃ d : Nat, x = d ∧ d < 4 ∧ ((slideB b d).1 == b) = false := by
  rw [movesB_eq] at h
  simp only [List.mem_map, List.mem_filter, List.mem_range] at h
  obtain ⟨d, ⟨h1, h2⟩, rfl⟩ := h
  exact ⟨d, rfl, h1, by simpa using h2⟩
end Go.Lv.P
