/-
Steps that a board has, told plainly.
-/
import Derived.Test.YtgpadaadcepgaaaTHP5
import Derived.Test.YtgpadaadcepgaaaTHP7
import Derived.Test.YtgpadaadcepgaaaTHPSteps
namespace Go.Lv.P
open Go Go.Lv
set_option linter.unusedVariables false
set_option linter.unusedSimpArgs false

theorem contains_step (F : Nat) (s : LL) (v : List Int) (hs : s.length ≤ 1000) (hF : 1000 < F) : slices_Contains_implStepimplStep_p F s v = some (s.any fun x => v == x) := by
  have h : slices_Index_implStepimplStep_l2 F s s.length v 0 = some (fnd (fun i => v == rget s i) (fun i => (true, (i : Int))) (false, default) 0 s.length) := by
    refine loop_find (fun i => i) s.length _ _ _ (by omega) (by omega) (fun i hi Q kn kx => ?_) fun Q kn kx => ?_
    · simp only [slices_Index_implStepimplStep_s2, inR_cast, hi, Int.toNat_natCast, decide_true, cond_true, Int.ofNat_lt]
    · simp [slices_Index_implStepimplStep_s2]
  simp only [slices_Contains_implStepimplStep_p, slices_Contains_implStepimplStep_c, slices_Index_implStepimplStep_p, slices_Index_implStepimplStep_c, h, Option.isSome_some, Option.getD_some, cond_true]
  rw [← any_rget s fun x => v == x, ← fnd_place]
  cases (fnd (fun i => v == rget s i) (fun i => (true, (i : Int))) (false, default) 0 s.length).1 <;> rfl

theorem stepsOn_iff (n : List Int) (d : Int) (x : List Int) : x ∈ stepsOn n d ↔ ∃ c ∈ em n, x = step1 d c ∨ x = step2 d c := by
  refine ⟨stepsOn_mem n d x, fun ⟨c, hc, h⟩ => ?_⟩
  rw [stepsOn, fld_add]
  simp only [List.nil_append, List.mem_flatMap, List.mem_cons, List.not_mem_nil, or_false]
  obtain ⟨i, hi, rfl⟩ := List.getElem_of_mem hc
  refine ⟨i, List.mem_range'_1.2 ⟨by omega, by omega⟩, ?_⟩
  rw [rgetL, List.getElem?_eq_getElem hi]
  exact h

theorem mem_cells {r c : Int} (hr : inB r 0 3 = true) (hc : inB c 0 3 = true) : [r, c] ∈ cells16 := by
  simp [inB] at hr hc
  obtain rfl | rfl | rfl | rfl : r = 0 ∨ r = 1 ∨ r = 2 ∨ r = 3 := by omega
  all_goals
    obtain rfl | rfl | rfl | rfl : c = 0 ∨ c = 1 ∨ c = 2 ∨ c = 3 := by omega
    all_goals simp [cells16]

theorem step_any (n : List Int) (d r c t : Int) (hr : inB r 0 3 = true) (hc : inB c 0 3 = true) : ((stepsOn n d).any fun x => [d, r, c, t] == x) = ((iget n (plc [r, c]) == 0) && inB t 1 2) := by
  rw [Bool.eq_iff_iff, List.any_eq_true]
  constructor
  · rintro ⟨x, hx, e⟩
    have e := eq_of_beq e
    subst e
    obtain ⟨p, hp, h⟩ := (stepsOn_iff n d _).1 hx
    obtain ⟨u, v, rfl⟩ := list2 (cells_len p (em_mem _ _ hp))
    rw [step1_eq, step2_eq] at h
    have h0 := (List.mem_filter.1 hp).2
    rcases h with h | h
    · injection h with _ h; injection h with h1 h; injection h with h2 h; injection h with h3 h
      subst h1; subst h2; subst h3
      rw [h0]; rfl
    · injection h with _ h; injection h with h1 h; injection h with h2 h; injection h with h3 h
      subst h1; subst h2; subst h3
      rw [h0]; rfl
  · intro h
    rw [Bool.and_eq_true] at h
    have ht : t = 1 ∨ t = 2 := by
      have := h.2
      simp [inB] at this
      omega
    refine ⟨[d, r, c, t], (stepsOn_iff n d _).2 ⟨[r, c], List.mem_filter.2 ⟨mem_cells hr hc, h.1⟩, ?_⟩, beq_self_eq_true _⟩
    rw [step1_eq, step2_eq]
    rcases ht with rfl | rfl
    · exact .inl rfl
    · exact .inr rfl

/-- is it a step -/
def isStepB (b : List Int) (d : Nat) (r c t : Int) : Bool := !((slideB b d).1 == b) && ((iget (slideB b d).1 (plc [r, c]) == 0) && inB t 1 2)
theorem stepsB_any (b : List Int) (d : Nat) (r c t : Int) (hr : inB r 0 3 = true) (hc : inB c 0 3 = true) : ((stepsB b d).any fun x => [(d : Int), r, c, t] == x) = isStepB b d r c t := by
  unfold stepsB isStepB
  rw [← step_any (slideB b d).1 d r c t hr hc]
  generalize (slideB b d).1 = n
  cases n == b
  · simp only [cond_false, Bool.not_false, Bool.true_and]
  · simp only [cond_true, Bool.not_true, Bool.false_and, List.any_nil]
end Go.Lv.P
