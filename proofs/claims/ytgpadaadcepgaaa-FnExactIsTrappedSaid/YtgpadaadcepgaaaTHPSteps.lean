/-
The steps of a board, told plainly.
-/
import Derived.Test.YtgpadaadcepgaaaTHP0
import Derived.Test.YtgpadaadcepgaaaTHP5
import Derived.Test.YtgpadaadcepgaaaTHPSlides1
import Derived.Test.YtgpadaadcepgaaaTHPEmptyS
import Derived.Test.YtgpadaadcepgaaaTHPEmptyI
namespace Go.Lv.P
open Go Go.Lv
set_option linter.unusedVariables false
set_option linter.unusedSimpArgs false

/-- the two steps with a cell -/
def step1 (d : Int) (c : List Int) : List Int := iset (splice [d, 0, 0, 0] 1 c 2) 3 1
def step2 (d : Int) (c : List Int) : List Int := iset (splice [d, 0, 0, 0] 1 c 2) 3 2
/-- the steps onto a board -/
def stepsOn (n : List Int) (d : Int) : LL := fld (fun i a => a ++ [step1 d (rget (em n) i), step2 d (rget (em n) i)]) 0 (em n).length []
def stepsB (b : List Int) (d : Nat) : LL := bif (slideB b d).1 == b then [] else stepsOn (slideB b d).1 (d : Int)

theorem stepsOn_len (n : List Int) (d : Int) : (stepsOn n d).length = 2 * (em n).length := by
  rw [stepsOn, fld_add]
  have : ∀ m i, ((List.range' i m).flatMap fun i => [step1 d (rget (em n) i), step2 d (rget (em n) i)]).length = 2 * m := by
    intro m
    induction m with
    | zero => intro i; rfl
    | succ m ih => intro i; rw [List.range'_succ, List.flatMap_cons, List.length_append, ih]; simp; omega
  simpa using this (em n).length 0

theorem cells_len : ∀ x ∈ cells16, x.length = 2 := cells_all fun _ _ _ _ => rfl
theorem em_get {n : List Int} {i : Nat} (h : i < (em n).length) : rget (em n) i ∈ cells16 := by
  rw [rgetL, List.getElem?_eq_getElem h]
  exact em_mem n _ (List.getElem_mem _)
theorem step1_eq (d x y : Int) : step1 d [x, y] = [d, x, y, 1] := rfl
theorem step2_eq (d x y : Int) : step2 d [x, y] = [d, x, y, 2] := rfl

theorem stepsOn_mem (n : List Int) (d : Int) : ∀ x ∈ stepsOn n d, ∃ c ∈ em n, x = step1 d c ∨ x = step2 d c := by
  rw [stepsOn, fld_add]
  intro x hx
  simp only [List.nil_append, List.mem_flatMap, List.mem_cons, List.not_mem_nil, or_false] at hx
  obtain ⟨i, hi, hx⟩ := hx
  have hi : i < (em n).length := by
    have := List.mem_range'_1.1 hi
    omega
  refine ⟨rget (em n) i, ?_, hx⟩
  rw [rgetL, List.getElem?_eq_getElem hi]
  exact List.getElem_mem _
theorem stepsB_len (b : List Int) (d : Nat) : (stepsB b d).length ≤ 32 := by
  unfold stepsB
  generalize (slideB b d).1 = n
  cases n == b
  · have := stepsOn_len n d
    have := em_len n
    simp only [cond_false]
    omega
  · simp
theorem stepsB_mem (b : List Int) (d : Nat) : ∀ x ∈ stepsB b d, ∃ c ∈ em (slideB b d).1, x = step1 d c ∨ x = step2 d c := by
  unfold stepsB
  generalize (slideB b d).1 = n
  cases n == b
  · simp only [cond_false]; exact stepsOn_mem _ _
  · intro x hx; simp at hx
theorem stepsB_rows (b : List Int) (d : Nat) : ∀ x ∈ stepsB b d, x.length = 4 := by
  intro x hx
  obtain ⟨c, hc, h⟩ := stepsB_mem b d x hx
  obtain ⟨p, q, rfl⟩ := list2 (cells_len c (em_mem _ _ hc))
  rcases h with rfl | rfl <;> rfl

section
variable {b : List Int} (hb : b.length = 16) (ok : okB b = true)
include hb ok

theorem spec_steps (F : Nat) (hF : 1000 < F) {d : Nat} (hd : d < 4) : spec_l5Steps_p F b d = some (stepsB b d) := by
  have hl := em_len (slideB b d).1
  have h : spec_l5Steps_l7 F d (em (slideB b d).1) 0 [] = some (stepsOn (slideB b d).1 d) := by
    refine (loop_fold (step := spec_l5Steps_s7 F d (em (slideB b d).1)) (fun i a => (i, a)) (em (slideB b d).1).length _ (fun a => a) (fun i a => a.length ≤ 2 * i) (F := F) (by omega) (by omega) (a := []) (by simp) (fun i a hi hI => ⟨?_, fun Q kn kx => ?_⟩) (fun a _ Q kn kx => by simp [spec_l5Steps_s7])).1
    · simp; omega
    · have hf : ∀ x y : List Int, fits (a ++ [x, y]).length 32 = true := fun x y => fits_of (by simp; omega) (by simp; omega)
      simp only [spec_l5Steps_s7, Int.ofNat_lt, inR_cast, hi, Int.toNat_natCast, decide_true, cond_true, subn_self, hf, Nat.zero_add, step1, step2]
  simp only [spec_l5Steps_p, spec_l5Steps_c, spec_slide hb ok F hF hd, spec_empty_eq F _ hF, h, Option.isSome_some, Option.getD_some, cond_true, beq_selfL, Bool.and_self, stepsB]
  generalize (slideB b d).1 = n
  cases n == b
  · simp only [cond_false]
  · simp only [cond_true]

theorem impl_steps (F : Nat) (hF : 1000 < F) {d : Nat} (hd : d < 4) : impl_Board_steps_p F b d = some (stepsB b d) := by
  have hl := em_len (slideB b d).1
  obtain ⟨r, h1, h2⟩ := impl_empty_eq F (slideB b d).1 hF
  have hr : r.1 = (em (slideB b d).1).length := by rw [h2.1, em_not]
  have hg : ∀ i, i < (em (slideB b d).1).length → rget r.2 (0 + i) = rget (em (slideB b d).1) i := fun i hi => by
    rw [h2.get (hr ▸ hi), em_not]
  have h : impl_Board_steps_l5 F d r.1 r.1 r.2 0 [] = some (stepsOn (slideB b d).1 d) := by
    rw [hr]
    refine (loop_fold (step := impl_Board_steps_s5 F d (em (slideB b d).1).length (em (slideB b d).1).length r.2) (fun i a => (i, a)) (em (slideB b d).1).length _ (fun a => a) (fun i a => a.length ≤ 2 * i) (F := F) (by omega) (by omega) (a := []) (by simp) (fun i a hi hI => ⟨?_, fun Q kn kx => ?_⟩) (fun a _ Q kn kx => by simp [impl_Board_steps_s5])).1
    · simp; omega
    · have hf : ∀ x y : List Int, fits (a ++ [x, y]).length 32 = true := fun x y => fits_of (by simp; omega) (by simp; omega)
      simp only [impl_Board_steps_s5, Int.ofNat_lt, inR_cast, hi, Int.toNat_natCast, decide_true, cond_true, subn_self, hf, hg i hi, step1, step2]
  simp only [impl_Board_steps_p, impl_Board_steps_c, impl_slides1 hb ok F hF hd, h1, h, Option.isSome_some, Option.getD_some, cond_true, stepsB]
  generalize (slideB b d).1 = n
  cases n == b
  · simp only [cond_false]
  · simp only [cond_true]
end
end Go.Lv.P
