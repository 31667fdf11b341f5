/-
All steps of a board, and the boards behind them.
-/
import Derived.Test.YtkclnchkemacgaaTJP4
import Derived.Test.YtkclnchkemacgaaTJPDo
import Derived.Test.YtkclnchkemacgaaTJPSteps
import Derived.Test.YtkclnchkemacgaaTJPMovesB
import Derived.Test.YtkclnchkemacgaaTJPTail
namespace Go.Lv.P
open Go Go.Lv
set_option linter.unusedVariables false
set_option linter.unusedSimpArgs false
set_option linter.unusedSectionVars false

def allB (b : List Int) : LL := stepsB b 0 ++ stepsB b 1 ++ stepsB b 2 ++ stepsB b 3
theorem allB_len (b : List Int) : (allB b).length ≤ 128 := by
  have h0 := stepsB_len b 0
  have h1 := stepsB_len b 1
  have h2 := stepsB_len b 2
  have h3 := stepsB_len b 3
  simp only [allB, List.length_append]; omega
theorem allB_rows (b : List Int) : ∀ x ∈ allB b, x.length = 4 := by
  intro x hx
  simp only [allB, List.mem_append] at hx
  rcases hx with ((h | h) | h) | h <;> exact stepsB_rows _ _ _ h
theorem subn_00 {α : Type} (l : List α) : subn l.length l 0 0 = [] := by rw [subn_take0, List.take_zero]
theorem concat_steps (s0 s1 s2 s3 : LL) (h0 : s0.length ≤ 32) (h1 : s1.length ≤ 32) (h2 : s2.length ≤ 32) (h3 : s3.length ≤ 32) : slices_Concat_implStepimplStep_p s0 s1 s2 s3 = some (s0 ++ s1 ++ s2 ++ s3) := by
  have e0 : IntKind.wrap .i64 ((0 : Int) + (s0.length : Int)) = ((s0.length : Nat) : Int) := by rw [Int.zero_add, wrap_of (by omega) (by omega)]
  have e1 : IntKind.wrap .i64 (((s0.length : Nat) : Int) + (s1.length : Int)) = ((s0.length + s1.length : Nat) : Int) := by rw [wrap_of (by omega) (by omega)]; omega
  have e2 : IntKind.wrap .i64 (((s0.length + s1.length : Nat) : Int) + (s2.length : Int)) = ((s0.length + s1.length + s2.length : Nat) : Int) := by rw [wrap_of (by omega) (by omega)]; omega
  have e3 : IntKind.wrap .i64 (((s0.length + s1.length + s2.length : Nat) : Int) + (s3.length : Int)) = ((s0.length + s1.length + s2.length + s3.length : Nat) : Int) := by rw [wrap_of (by omega) (by omega)]; omega
  have hneg : ∀ n : Nat, decide ((n : Int) < 0) = false := fun n => decide_eq_false (by omega)
  obtain ⟨g, hg⟩ : ∃ g, slices_Grow_implStepimplStep_p ((s0.length + s1.length + s2.length + s3.length : Nat) : Int) = some g := by
    generalize hn : s0.length + s1.length + s2.length + s3.length = n
    have e : IntKind.wrap .i64 ((n : Int) - 0) = (n : Int) := by rw [Int.sub_zero, wrap_of (by omega) (by omega)]
    simp only [slices_Grow_implStepimplStep_p, slices_Grow_implStepimplStep_c, e, hneg, cond_false, Int.toNat_natCast]
    cases hp : decide ((0 : Int) < (n : Int)) with
    | false => exact ⟨_, rfl⟩
    | true =>
      simp at hp
      have hf : fits n 32 = true := fits_of (by omega) (by omega)
      have h1 : decide ((1 : Int) ≤ (n : Int)) = true := decide_eq_true (by omega)
      have h2 : inLe (0 : Int) n = true := inLe_cast 0 n ▸ decide_eq_true (Nat.zero_le _)
      rw [cond_true, h1, hf, h2]; exact ⟨_, rfl⟩
  have f : ∀ n : Nat, n ≤ 128 → fits n 32 = true := fun n h => fits_of (by omega) (by omega)
  simp only [slices_Concat_implStepimplStep_p, slices_Concat_implStepimplStep_c, e0, e1, e2, e3, hneg, hg, cond_false, cond_true, Option.isSome_some, Option.getD_some, subn_00, subn_self, List.nil_append]
  rw [f _ (by omega), cond_true, f _ (by rw [List.length_append]; omega), cond_true, f _ (by simp only [List.length_append]; omega), cond_true, f _ (by simp only [List.length_append]; omega), cond_true]
section
variable {b : List Int} (hb : b.length = 16) (ok : okB b = true)
include hb ok
theorem spec_all (F : Nat) (hF : 1000 < F) : spec_l5All_p F b = some (allB b) := by
  have h := loop_fold (step := spec_l5All_s3 F b) (fun i (a : LL) => (i, a)) 4 (fun i a => a ++ stepsB b i) (fun a => a) (fun i a => a.length ≤ 32 * i) (F := F) (by omega) (by omega) (a := []) (by simp)
    (fun i a hi hI => by
      have hl := stepsB_len b i
      refine ⟨by simp only [List.length_append]; omega, fun Q kn kx => ?_⟩
      have hi' : (i : Int) < 4 := by omega
      have hf : fits (a ++ stepsB b i).length 32 = true := fits_of (by simp only [List.length_append]; omega) (by simp only [List.length_append]; omega)
      simp only [spec_l5All_s3, hi', decide_true, spec_steps hb ok F hF hi, Option.isSome_some, Option.getD_some, cond_true, subn_self, hf]) (fun a _ Q kn kx => by simp [spec_l5All_s3])
  have f4 : ∀ (g : Nat → LL → LL) (a : LL), fld g 0 4 a = g 3 (g 2 (g 1 (g 0 a))) := fun _ _ => rfl
  have hh := h.1
  rw [f4, List.nil_append] at hh
  have h1 : spec_l5All_l3 F b 0 [] = some (allB b) := hh
  simp only [spec_l5All_p, spec_l5All_c, h1, Option.isSome_some, Option.getD_some, cond_true]
theorem impl_all (F : Nat) (hF : 1000 < F) : impl_Board_allSteps_p F b = some (allB b) := by
  have s0 := impl_steps hb ok F hF (d := 0) (by omega)
  have s1 := impl_steps hb ok F hF (d := 1) (by omega)
  have s2 := impl_steps hb ok F hF (d := 2) (by omega)
  have s3 := impl_steps hb ok F hF (d := 3) (by omega)
  have hc := concat_steps (stepsB b 0) (stepsB b 1) (stepsB b 2) (stepsB b 3) (stepsB_len b 0) (stepsB_len b 1) (stepsB_len b 2) (stepsB_len b 3)
  have s0 : impl_Board_steps_p F b 0 = _ := s0
  have s1 : impl_Board_steps_p F b 1 = _ := s1
  have s2 : impl_Board_steps_p F b 2 = _ := s2
  have s3 : impl_Board_steps_p F b 3 = _ := s3
  simp only [impl_Board_allSteps_p, impl_Board_allSteps_c, s0, s1, s2, s3, Option.isSome_some, Option.getD_some, cond_true, subn_self, hc]
  rfl
theorem steps_plm {d : Nat} {s : List Int} (hs : s ∈ stepsB b d) : ((slideB b d).1 == b) = false ∧ ∃ p ∈ plm (slideB b d).1, s = (d : Int) :: p := by
  unfold stepsB at hs
  cases hq : (slideB b d).1 == b with
  | true => rw [hq] at hs; cases hs
  | false =>
    rw [hq, cond_false, stepsOn_list] at hs
    obtain ⟨p, hp, rfl⟩ := List.mem_map.1 hs
    exact ⟨rfl, p, hp, rfl⟩
theorem all_is {s : List Int} (hs : s ∈ allB b) : ∃ d : Nat, d < 4 ∧ ((slideB b d).1 == b) = false ∧ ∃ p ∈ plm (slideB b d).1, s = (d : Int) :: p := by
  simp only [allB, List.mem_append] at hs
  rcases hs with ((h | h) | h) | h
  · exact ⟨0, by omega, steps_plm hb ok h⟩
  · exact ⟨1, by omega, steps_plm hb ok h⟩
  · exact ⟨2, by omega, steps_plm hb ok h⟩
  · exact ⟨3, by omega, steps_plm hb ok h⟩
end
/-- the board behind a step -/
def nxt (b s : List Int) : List Int := putP (slideB b (iget s 0).toNat).1 s.tail
section
variable {b : List Int} (hb : b.length = 16) (ok : okB b = true)
include hb ok
theorem nxt_ok {s : List Int} (hs : s ∈ allB b) : (nxt b s).length = 16 ∧ okB (nxt b s) = true := by
  obtain ⟨d, hd, hq, p, hp, rfl⟩ := all_is hb ok hs
  obtain ⟨l, o⟩ := slide_ok hb ok hd
  exact (put_all l o hp).2
theorem spec_nxt (F : Nat) (hF : 1000 < F) {s : List Int} (hs : s ∈ allB b) : ∃ w, spec_l5Do_p F b s = some (nxt b s, w, true) := by
  obtain ⟨d, hd, hq, p, hp, rfl⟩ := all_is hb ok hs
  exact ⟨_, do_eq hb ok F hF hd hq hp⟩
theorem impl_nxt (F : Nat) (hF : 1000 < F) {s : List Int} (hs : s ∈ allB b) : ∃ w, impl_Board_behind_p F b s = some (nxt b s, w) := by
  obtain ⟨d, hd, hq, p, hp, rfl⟩ := all_is hb ok hs
  obtain ⟨r, c, t, rfl, hr, hc, ht, hz⟩ := plm_is hp
  obtain ⟨m, hm⟩ := impl_slide hb ok F hF hd
  have s1 : sub [(d : Int), (r : Int), (c : Int), t] 1 2 = [(r : Int), (c : Int)] := rfl
  have g0 : iget [(d : Int), (r : Int), (c : Int), t] 0 = d := rfl
  have g3 : iget [(d : Int), (r : Int), (c : Int), t] 3 = t := rfl
  have q0 : iget [(r : Int), (c : Int)] 0 = r := rfl
  have q1 : iget [(r : Int), (c : Int)] 1 = c := rfl
  refine ⟨(slideB b d).2, ?_⟩
  simp only [impl_Board_behind_p, impl_Board_behind_c, g0, g3, s1, hm, impl_Board_at_p, impl_Board_at_c, q0, q1, inR_cast, hr, hc, decide_true, Option.isSome_some, Option.getD_some, cond_true]
  rfl
end
end Go.Lv.P
