/-
Steps of a board.
-/
import Derived.Test.YtgdokdkcbgkekaeGePSlide
import Derived.Test.YtgdokdkcbgkekaeGePEm
namespace Go.Lv.P
open Go Go.Lv
set_option linter.unusedVariables false
set_option linter.unusedSimpArgs false

/-- the two steps with a cell -/
def step1 (d : Int) (c : List Int) : List Int := iset (splice [d, 0, 0, 0] 1 c 2) 3 1
def step2 (d : Int) (c : List Int) : List Int := iset (splice [d, 0, 0, 0] 1 c 2) 3 2
/-- the steps onto a board -/
def stepsOn (n : List Int) (d : Int) : LL := fld (fun i a => a ++ [step1 d (rget (em n) i), step2 d (rget (em n) i)]) 0 (em n).length []
def stepsB (b : List Int) (d : Nat) : LL := bif (slideB b d).1 == b then [] else stepsOn (slideB b d).1 (d : Int)

theorem stepsOn_len (n : List Int) (d : Int) : (stepsOn n d).length = 2 * (em n).length := by
  rw [stepsOn, fld_add]
  have : ∀ m i, ((List.range' i m).flatMap fun i => [step1 d (rget (em n) i), step2 d (rget (em n) i)]).length = 2 * m := by
    intro m
    induction m with
    | zero => intro i; rfl
    | succ m ih => intro i; rw [List.range'_succ, List.flatMap_cons, List.length_append, ih]; simp; omega
  simpa using this (em n).length 0

theorem cells_len : ∀ x ∈ cells16, x.length = 2 := cells_all fun _ _ _ _ => rfl
theorem em_get {n : List Int} {i : Nat} (h : i < (em n).length) : rget (em n) i ∈ cells16 := by
  rw [rgetL, List.getElem?_eq_getElem h]
  exact em_mem n _ (List.getElem_mem _)
theorem step1_eq (d x y : Int) : step1 d [x, y] = [d, x, y, 1] := rfl
theorem step2_eq (d x y : Int) : step2 d [x, y] = [d, x, y, 2] := rfl

theorem stepsOn_mem (n : List Int) (d : Int) : ∀ x ∈ stepsOn n d, ∃ c ∈ em n, x = step1 d c ∨ x = step2 d c := by
  rw [stepsOn, fld_add]
  intro x hx
  simp only [List.nil_append, List.mem_flatMap, List.mem_cons, List.not_mem_nil, or_false] at hx
  obtain ⟨i, hi, hx⟩ := hx
  have hi : i < (em n).length := by
    have := List.mem_range'_1.1 hi
    omega
  refine ⟨rget (em n) i, ?_, hx⟩
  rw [rgetL, List.getElem?_eq_getElem hi]
  exact List.getElem_mem _
theorem stepsB_len (b : List Int) (d : Nat) : (stepsB b d).length ≤ 32 := by
  unfold stepsB
  generalize (slideB b d).1 = n
  cases n == b
  · have := stepsOn_len n d
    have := em_len n
    simp only [cond_false]
    omega
  · simp
theorem stepsB_mem (b : List Int) (d : Nat) : ∀ x ∈ stepsB b d, ∃ c ∈ em (slideB b d).1, x = step1 d c ∨ x = step2 d c := by
  unfold stepsB
  generalize (slideB b d).1 = n
  cases n == b
  · simp only [cond_false]; exact stepsOn_mem _ _
  · intro x hx; simp at hx
theorem stepsB_rows (b : List Int) (d : Nat) : ∀ x ∈ stepsB b d, x.length = 4 := by
  intro x hx
  obtain ⟨c, hc, h⟩ := stepsB_mem b d x hx
  obtain ⟨p, q, rfl⟩ := list2 (cells_len c (em_mem _ _ hc))
  rcases h with rfl | rfl <;> rfl

end Go.Lv.P
