/-
FnExactIsTrapped: both say the same.
-/
import Derived.Test.YtgpadaadcepgaaaTHP5
import Derived.Test.YtgpadaadcepgaaaTHP6
import Derived.Test.YtgpadaadcepgaaaTHPAll
import Derived.Test.YtgpadaadcepgaaaTHPMovesS
import Derived.Test.YtgpadaadcepgaaaTHPMovesI
import Derived.Test.YtgpadaadcepgaaaTHPToBoard
namespace Go.Lv.P
open Go Go.Lv
set_option linter.unusedVariables false
set_option linter.unusedSimpArgs false
set_option linter.unusedSectionVars false

theorem contains_trapped (F : Nat) (s : LL) (b : List Int) (q : List Int → Bool) (hs : s.length ≤ 1000) (hF : 1000 < F) (hq : ∀ x ∈ s, impl_IsTrapped_f1_p F x b = some (q x)) : slices_ContainsFunc_implStepimplStep_impl_IsTrapped_f1_p F s b = some (s.any q) := by
  have h : slices_IndexFunc_implStepimplStep_impl_IsTrapped_f1_l2 F s s.length b 0 = some (fnd (fun i => q (rget s i)) (fun i => (true, (i : Int))) (false, default) 0 s.length) := by
    refine loop_find (fun i => i) s.length (fun i => q (rget s i)) (fun i => (true, (i : Int))) (false, default) (by omega) (by omega) (fun i hi Q kn kx => ?_) fun Q kn kx => ?_
    · simp only [slices_IndexFunc_implStepimplStep_impl_IsTrapped_f1_s2, inR_cast, hi, Int.toNat_natCast, decide_true, cond_true, Int.ofNat_lt, hq _ (rget_mem hi), Option.isSome_some, Option.getD_some]
    · simp [slices_IndexFunc_implStepimplStep_impl_IsTrapped_f1_s2]
  simp only [slices_ContainsFunc_implStepimplStep_impl_IsTrapped_f1_p, slices_ContainsFunc_implStepimplStep_impl_IsTrapped_f1_c, slices_IndexFunc_implStepimplStep_impl_IsTrapped_f1_p, slices_IndexFunc_implStepimplStep_impl_IsTrapped_f1_c, h, Option.isSome_some, Option.getD_some, cond_true]
  rw [← any_rget s fun x => q x, ← fnd_place]
  cases (fnd (fun i => q (rget s i)) (fun i => (true, (i : Int))) (false, default) 0 s.length).1 <;> rfl
/-- can one go on behind a step -/
def goes (b s : List Int) : Bool := decide ((0 : Int) < (((movesB (nxt b s)).length : Nat) : Int))
theorem goes_not (b s : List Int) : (!((((movesB (nxt b s)).length : Nat) : Int) == 0)) = goes b s := by
  unfold goes
  generalize (movesB (nxt b s)).length = n
  rw [Bool.eq_iff_iff]; simp; omega
theorem moves_all {b : List Int} (hb : b.length = 16) (ok : okB b = true) : decide ((0 : Int) < (((allB b).length : Nat) : Int)) = !((((movesB b).length : Nat) : Int) == 0) := by
  have hd : ∀ d, d < 4 → (((slideB b d).1 == b) = true ∧ (stepsB b d).length = 0) ∨ (((slideB b d).1 == b) = false ∧ 0 < (stepsB b d).length) := fun d hd => by
    cases hq : (slideB b d).1 == b with
    | true => exact .inl ⟨rfl, by rw [stepsB, hq]; rfl⟩
    | false =>
      refine .inr ⟨rfl, ?_⟩
      have hr := slide_room hb ok hd hq
      rw [stepsB, hq, cond_false, stepsOn_len]; omega
  have e : List.range 4 = [0, 1, 2, 3] := rfl
  rw [movesB_eq, e, allB]
  simp only [List.length_append]
  rcases hd 0 (by omega) with ⟨h0, l0⟩ | ⟨h0, l0⟩ <;> rcases hd 1 (by omega) with ⟨h1, l1⟩ | ⟨h1, l1⟩ <;> rcases hd 2 (by omega) with ⟨h2, l2⟩ | ⟨h2, l2⟩ <;> rcases hd 3 (by omega) with ⟨h3, l3⟩ | ⟨h3, l3⟩ <;>
    (simp only [List.filter, h0, h1, h2, h3, Bool.not_true, Bool.not_false, List.map, List.length]
     first
       | (rw [decide_eq_true (by omega)]; rfl)
       | (rw [decide_eq_false (by omega)]; rfl))
theorem trapped_same (F : Nat) (b : List Int) (hb : b.length = 16) (hF : 1000 < F) : ∃ v, spec_IsTrapped_p F b = some v ∧ impl_IsTrapped_p F b = some v := by
  rcases hB : okB b with _ | _
  · exact ⟨(false, false), by simp only [spec_IsTrapped_p, spec_IsTrapped_c, spec_l2Board_eq F b hb hF, hB, Option.isSome_some, Option.getD_some, cond_true, Bool.not_false], by simp only [impl_IsTrapped_p, impl_IsTrapped_c, impl_IsBoard_eq F b hb hF, hB, Option.isSome_some, Option.getD_some, cond_true, Bool.not_false]⟩
  · have hl := allB_len b
    have h1 : spec_IsTrapped_l5 F b (allB b) 0 = some ((allB b).any (goes b)) := by
      rw [← any_rget, ← fnd_any]
      refine loop_find (step := spec_IsTrapped_s5 F b (allB b)) (fun i => i) (allB b).length (fun i => goes b (rget (allB b) i)) (fun _ => true) false (by omega) (by omega) (fun i hi Q kn kx => ?_) fun Q kn kx => ?_
      · obtain ⟨w, hw⟩ := spec_nxt hb hB F hF (rget_mem hi)
        obtain ⟨n1, n2⟩ := nxt_ok hb hB (rget_mem hi)
        simp only [spec_IsTrapped_s5, Int.ofNat_lt, inR_cast, hi, Int.toNat_natCast, decide_true, cond_true, Nat.zero_add, hw, Option.isSome_some, Option.getD_some, (spec_moves n1 n2 F hF).1]
        rfl
      · simp [spec_IsTrapped_s5]
    have h2 := contains_trapped F (allB b) b (goes b) (by omega) hF (fun x hx => by
      obtain ⟨w, hw⟩ := impl_nxt hb hB F hF hx
      obtain ⟨n1, n2⟩ := nxt_ok hb hB hx
      simp only [impl_IsTrapped_f1_p, impl_IsTrapped_f1_c, hw, Option.isSome_some, Option.getD_some, cond_true, impl_Board_isOver_p, impl_Board_isOver_c, impl_moves n1 n2 F hF, goes_not])
    have ho : impl_Board_isOver_p F b = some ((((movesB b).length : Nat) : Int) == 0) := by
      simp only [impl_Board_isOver_p, impl_Board_isOver_c, impl_moves hb hB F hF, Option.isSome_some, Option.getD_some, cond_true]
    have hm := moves_all hb hB
    have hemp : decide ((0 : Int) < (((allB b).length : Nat) : Int)) = false → (allB b).any (goes b) = false := fun h => by
      have : (allB b).length = 0 := by simp at h; simp [h]
      rw [List.length_eq_zero_iff.1 this]; rfl
    simp only [spec_IsTrapped_p, spec_IsTrapped_c, impl_IsTrapped_p, impl_IsTrapped_c, spec_l2Board_eq F b hb hF, impl_IsBoard_eq F b hb hF, hB, spec_all hb hB F hF, impl_all hb hB F hF, h1, h2, ho, Option.isSome_some, Option.getD_some, cond_true, Bool.not_true, cond_false, beq_selfL, Bool.and_self, subn_self]
    rw [hm] at hemp ⊢
    revert hemp
    generalize (allB b).any (goes b) = g
    generalize ((((movesB b).length : Nat) : Int) == 0) = o
    intro hemp
    cases o with
    | true =>
      have hemp := hemp rfl
      subst hemp
      exact ⟨_, rfl, rfl⟩
    | false => cases g <;> exact ⟨_, rfl, rfl⟩
theorem law_IsTrapped (F : Nat) (b : List Int) (hb : b.length = 16) (_ : ∀ x ∈ b, Rng x) (hF : 1000 < F) : laws_FnExactIsTrapped_p F b = some true := by
  obtain ⟨v, h1, h2⟩ := trapped_same F b hb hF
  simp only [laws_FnExactIsTrapped_p, laws_FnExactIsTrapped_c, toBoard_eq hb, h1, h2, Option.isSome_some, Option.getD_some, cond_true, beq_self_eq_true, Bool.not_true, cond_false]
end Go.Lv.P
