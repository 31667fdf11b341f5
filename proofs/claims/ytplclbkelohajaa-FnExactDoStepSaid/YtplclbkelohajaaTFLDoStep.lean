/-
FnExactDoStep: both say the same.
-/
import Derived.Test.YtplclbkelohajaaTFP0
import Derived.Test.YtplclbkelohajaaTFP3
import Derived.Test.YtplclbkelohajaaTFPIsStep
import Derived.Test.YtplclbkelohajaaTFPEq
namespace Go.Lv.P
open Go Go.Lv
set_option linter.unusedVariables false
set_option linter.unusedSimpArgs false

theorem inR4 {x : Int} (h : inB x 0 3 = true) : inR x 4 = true := by
  simp [inB] at h
  exact inR_true h.1 (by omega)
theorem toStep_eq {s : List Int} (h : s.length = 4) : laws_toStep_v s = s := by
  obtain ⟨d, r, c, t, rfl⟩ := list4 h; rfl

theorem doStep_same (F : Nat) (b : List Int) (hb : b.length = 16) (d r c t : Int) (hF : 1000 < F) : ∃ v, spec_DoStep_p F b [d, r, c, t] = some v ∧ impl_DoStep_p F b [d, r, c, t] = some v := by
  have s1 : sub [d, r, c, t] 1 2 = [r, c] := rfl
  have g0 : iget [d, r, c, t] 0 = d := rfl
  have g3 : iget [d, r, c, t] 3 = t := rfl
  have q0 : iget [r, c] 0 = r := rfl
  have q1 : iget [r, c] 1 = c := rfl
  simp only [spec_DoStep_p, spec_DoStep_c, impl_DoStep_p, impl_DoStep_c, spec_l5Do_p, spec_l5Do_c, impl_Board_isStep_p, impl_Board_isStep_c, impl_Board_behind_p, impl_Board_behind_c, spec_l2Board_eq F b hb hF, impl_IsBoard_eq F b hb hF, Option.isSome_some, Option.getD_some, cond_true, spec_l2Side_v, impl_isDirection_v, l1In_eq, in_eq, s1, g0, g3, spec_l2Cell_v, impl_isCell_v, cond_and, q0, q1]
  cases hB : okB b with
  | false => exact ⟨_, rfl, rfl⟩
  | true =>
    cases hd : inB d 0 3 with
    | false => exact ⟨_, rfl, rfl⟩
    | true =>
      cases hr : inB r 0 3 with
      | false => exact ⟨_, rfl, rfl⟩
      | true =>
        cases hc : inB c 0 3 with
        | false => exact ⟨_, rfl, rfl⟩
        | true =>
          obtain ⟨n, rfl, hn⟩ : ∃ n : Nat, d = n ∧ n < 4 := by
            simp [inB] at hd
            exact ⟨d.toNat, by omega, by omega⟩
          obtain ⟨m, hm⟩ := impl_slide hb hB F hF hn
          have hat : ∀ x : List Int, spec_l2At_p x [r, c] = some (iget x (plc [r, c])) := fun x => by
            simp only [spec_l2At_p, spec_l2At_c, q0, q1, inR4 hr, inR4 hc, cond_true, plc]
          have hput : ∀ (x : List Int), spec_l2Put_p x [r, c] t = some (iset x (plc [r, c]) t) := fun x => by
            simp only [spec_l2Put_p, spec_l2Put_c, q0, q1, inR4 hr, inR4 hc, cond_true, plc]
          have hia : ∀ x : List Int, impl_Board_at_p [r, c] x = some (plc [r, c]) := fun x => by
            simp only [impl_Board_at_p, impl_Board_at_c, q0, q1, inR4 hr, inR4 hc, cond_true, plc]
          have hl := stepsB_len b n
          simp only [spec_slide hb hB F hF hn, hm, hat, hput, hia, impl_steps hb hB F hF hn, subn_self, contains_step F _ _ (show (stepsB b n).length ≤ 1000 by omega) hF, stepsB_any b n r c t hr hc, Option.isSome_some, Option.getD_some, cond_true, Bool.not_true, cond_false, Bool.and_self, isStepB]
          generalize slideB b n = w
          obtain ⟨w1, w2⟩ := w
          simp only
          cases w1 == b with
          | true =>
            cases inB t 1 2 <;> exact ⟨_, rfl, rfl⟩
          | false =>
            cases inB t 1 2 with
            | false => cases iget w1 (plc [r, c]) == 0 <;> exact ⟨_, rfl, rfl⟩
            | true => cases iget w1 (plc [r, c]) == 0 <;> exact ⟨_, rfl, rfl⟩

theorem law_DoStep (F : Nat) (b : List Int) (hb : b.length = 16) (_ : ∀ x ∈ b, Rng x) (s : List Int) (hs : s.length = 4) (_ : ∀ x ∈ s, Rng x) (hF : 1000 < F) : laws_FnExactDoStep_p F b s = some true := by
  obtain ⟨d, r, c, t, rfl⟩ := list4 hs
  obtain ⟨v, h1, h2⟩ := doStep_same F b hb d r c t hF
  simp only [laws_FnExactDoStep_p, laws_FnExactDoStep_c, toBoard_eq hb, toStep_eq hs, h1, h2, Option.isSome_some, Option.getD_some, cond_true, eqBoard_refl F _ hF, beq_self_eq_true, Bool.not_true, cond_false]
end Go.Lv.P
