/-
FnExactPlaySteps: both say the same.
-/
import Derived.Test.YtgpadaadcepgaaaTHP0
import Derived.Test.YtgpadaadcepgaaaTHP1
import Derived.Test.YtgpadaadcepgaaaTHP3
import Derived.Test.YtgpadaadcepgaaaTHP7
import Derived.Test.YtgpadaadcepgaaaTHPIsStep
import Derived.Test.YtgpadaadcepgaaaTHPEq
import Derived.Test.YtgpadaadcepgaaaTHPPut
import Derived.Test.YtgpadaadcepgaaaTHPMkStepS
import Derived.Test.YtgpadaadcepgaaaTHPTail
import Derived.Test.YtgpadaadcepgaaaTHPToBoard
namespace Go.Lv.P
open Go Go.Lv
set_option linter.unusedVariables false
set_option linter.unusedSimpArgs false
set_option linter.unusedSectionVars false

theorem inR4 {x : Int} (h : inB x 0 3 = true) : inR x 4 = true := by
  simp [inB] at h
  exact inR_true h.1 (by omega)
theorem toStep_eq {s : List Int} (h : s.length = 4) : laws_toStep_v s = s := by
  obtain ⟨d, r, c, t, rfl⟩ := list4 h; rfl
theorem loop_two {S X : Type} {s1 s2 : (Q : Type) → S → (S → Option Q) → (X → Option Q) → Option Q} {I : Nat → S → Prop} {n : Nat}
    (hs : ∀ i a, i < n → I i a → (∃ x, (∀ Q kn kx, s1 Q a kn kx = kx x) ∧ ∀ Q kn kx, s2 Q a kn kx = kx x) ∨ ∃ a', I (i + 1) a' ∧ (∀ Q kn kx, s1 Q a kn kx = kn a') ∧ ∀ Q kn kx, s2 Q a kn kx = kn a')
    (he : ∀ a, I n a → ∃ x, (∀ Q kn kx, s1 Q a kn kx = kx x) ∧ ∀ Q kn kx, s2 Q a kn kx = kx x) :
    ∀ (m i F : Nat) (a : S), i + m = n → m < F → I i a → ∃ x, loopC s1 F a some = some x ∧ loopC s2 F a some = some x
  | 0, i, F, a, hi, hF, hI => by
    obtain ⟨G, rfl⟩ : ∃ G, F = G + 1 := ⟨F - 1, by omega⟩
    obtain rfl : i = n := by omega
    obtain ⟨x, h1, h2⟩ := he a hI
    exact ⟨x, by rw [loopC, h1], by rw [loopC, h2]⟩
  | m + 1, i, F, a, hi, hF, hI => by
    obtain ⟨G, rfl⟩ : ∃ G, F = G + 1 := ⟨F - 1, by omega⟩
    rcases hs i a (by omega) hI with ⟨x, h1, h2⟩ | ⟨a', hI', h1, h2⟩
    · exact ⟨x, by rw [loopC, h1], by rw [loopC, h2]⟩
    · obtain ⟨x, g1, g2⟩ := loop_two hs he m (i + 1) G a' (by omega) (by omega) hI'
      exact ⟨x, by rw [loopC, h1, g1], by rw [loopC, h2, g2]⟩
theorem do_same (F : Nat) {b : List Int} (hb : b.length = 16) (hB : okB b = true) {s : List Int} (hs : s.length = 4) (hF : 1000 < F) :
    ∃ (nb : List Int) (sc : Int) (o : Bool), spec_l5Do_p F b s = some (nb, sc, o) ∧ impl_Board_isStep_p F b s = some o ∧ (o = true → impl_Board_behind_p F b s = some (nb, sc) ∧ nb.length = 16 ∧ okB nb = true) := by
  obtain ⟨d, r, c, t, rfl⟩ := list4 hs
  have s1 : sub [d, r, c, t] 1 2 = [r, c] := rfl
  have g0 : iget [d, r, c, t] 0 = d := rfl
  have g3 : iget [d, r, c, t] 3 = t := rfl
  have q0 : iget [r, c] 0 = r := rfl
  have q1 : iget [r, c] 1 = c := rfl
  simp only [spec_l5Do_p, spec_l5Do_c, impl_Board_isStep_p, impl_Board_isStep_c, impl_Board_behind_p, impl_Board_behind_c, Option.isSome_some, Option.getD_some, cond_true, spec_l2Side_v, impl_isDirection_v, l1In_eq, in_eq, s1, g0, g3, spec_l2Cell_v, impl_isCell_v, cond_and, q0, q1]
  cases hd : inB d 0 3 with
  | false => exact ⟨_, _, false, rfl, rfl, fun h => by cases h⟩
  | true =>
    cases hr : inB r 0 3 with
    | false => exact ⟨_, _, false, rfl, rfl, fun h => by cases h⟩
    | true =>
      cases hc : inB c 0 3 with
      | false => exact ⟨_, _, false, rfl, rfl, fun h => by cases h⟩
      | true =>
        obtain ⟨n, rfl, hn⟩ : ∃ n : Nat, d = n ∧ n < 4 := by
          simp [inB] at hd
          exact ⟨d.toNat, by omega, by omega⟩
        obtain ⟨m, hm⟩ := impl_slide hb hB F hF hn
        have hat : ∀ x : List Int, spec_l2At_p x [r, c] = some (iget x (plc [r, c])) := fun x => by
          simp only [spec_l2At_p, spec_l2At_c, q0, q1, inR4 hr, inR4 hc, cond_true, plc]
        have hput : ∀ (x : List Int), spec_l2Put_p x [r, c] t = some (iset x (plc [r, c]) t) := fun x => by
          simp only [spec_l2Put_p, spec_l2Put_c, q0, q1, inR4 hr, inR4 hc, cond_true, plc]
        have hia : ∀ x : List Int, impl_Board_at_p [r, c] x = some (plc [r, c]) := fun x => by
          simp only [impl_Board_at_p, impl_Board_at_c, q0, q1, inR4 hr, inR4 hc, cond_true, plc]
        have hl := stepsB_len b n
        have hok := slide_ok hb hB hn
        simp only [spec_slide hb hB F hF hn, hm, hat, hput, hia, impl_steps hb hB F hF hn, subn_self, contains_step F _ _ (show (stepsB b n).length ≤ 1000 by omega) hF, stepsB_any b n r c t hr hc, Option.isSome_some, Option.getD_some, cond_true, Bool.not_true, cond_false, Bool.and_self, isStepB]
        generalize slideB b n = w at *
        obtain ⟨w1, w2⟩ := w
        simp only at hok ⊢
        cases w1 == b with
        | true =>
          cases inB t 1 2 <;> exact ⟨_, _, false, rfl, rfl, fun h => by cases h⟩
        | false =>
          cases ht : inB t 1 2 with
          | false => cases iget w1 (plc [r, c]) == 0 <;> exact ⟨_, _, false, rfl, rfl, fun h => by cases h⟩
          | true =>
            cases iget w1 (plc [r, c]) == 0 with
            | false => exact ⟨_, _, false, rfl, rfl, fun h => by cases h⟩
            | true =>
              have hp := putP_ok (p := [r, c, t]) hok.1 hok.2 ht
              exact ⟨iset w1 (plc [r, c]) t, w2, true, rfl, rfl, fun _ => ⟨rfl, hp⟩⟩

theorem play_same (F : Nat) (b : List Int) (hb : b.length = 16) (l : LL) (h4 : ∀ x ∈ l, x.length = 4) (hl : l.length ≤ 1048576) (hF : 2000000 < F) : ∃ v, spec_PlaySteps_p F b l = some v ∧ impl_PlaySteps_p F b l = some v := by
  have hF' : 1000 < F := by omega
  cases hB : okB b with
  | false =>
    simp only [spec_PlaySteps_p, spec_PlaySteps_c, impl_PlaySteps_p, impl_PlaySteps_c, spec_l2Board_eq F b hb hF', impl_IsBoard_eq F b hb hF', hB, Option.isSome_some, Option.getD_some, cond_true, Bool.not_false]
    exact ⟨_, rfl, rfl⟩
  | true =>
    obtain ⟨x, g1, g2⟩ := loop_two (s1 := spec_PlaySteps_s5 F l) (s2 := impl_PlaySteps_s5 F l l ((l.length : Nat) : Int)) (I := fun i a => a.2.1 = (i : Int) ∧ a.2.2.length = 16 ∧ okB a.2.2 = true) (n := l.length)
      (fun i a hi hI => by
        obtain ⟨sum, j, c⟩ := a
        obtain ⟨rfl, hc, hok⟩ := hI
        have hc : c.length = 16 := hc
        have hok : okB c = true := hok
        obtain ⟨nb, sc, o, k1, k2, k3⟩ := do_same F hc hok (h4 _ (rget_mem hi)) hF'
        cases o with
        | false =>
          refine .inl ⟨(true, sum, (i : Int), c, default, default), fun Q kn kx => ?_, fun Q kn kx => ?_⟩
          · simp only [spec_PlaySteps_s5, Int.ofNat_lt, inR_cast, hi, Int.toNat_natCast, decide_true, cond_true, k1, Option.isSome_some, Option.getD_some, Bool.not_false]
          · simp only [impl_PlaySteps_s5, Int.ofNat_lt, inR_cast, hi, Int.toNat_natCast, decide_true, cond_true, k2, Option.isSome_some, Option.getD_some, Bool.not_false]
        | true =>
          obtain ⟨k4, k5, k6⟩ := k3 rfl
          refine .inr ⟨(IntKind.wrap .i64 (sum + sc), IntKind.wrap .i64 ((i : Int) + 1), nb), ⟨?_, k5, k6⟩, fun Q kn kx => ?_, fun Q kn kx => ?_⟩
          · show IntKind.wrap .i64 ((i : Int) + 1) = ((i + 1 : Nat) : Int)
            rw [wrap_of (by omega) (by omega)]; omega
          · simp only [spec_PlaySteps_s5, Int.ofNat_lt, inR_cast, hi, Int.toNat_natCast, decide_true, cond_true, k1, Option.isSome_some, Option.getD_some, Bool.not_true, cond_false]
          · simp only [impl_PlaySteps_s5, Int.ofNat_lt, inR_cast, hi, Int.toNat_natCast, decide_true, cond_true, k2, k4, Option.isSome_some, Option.getD_some, Bool.not_true, cond_false])
      (fun a hI => by
        obtain ⟨sum, j, c⟩ := a
        obtain ⟨rfl, hc, hok⟩ := hI
        refine ⟨(false, default, default, default, sum, c), fun Q kn kx => ?_, fun Q kn kx => ?_⟩
        · simp [spec_PlaySteps_s5]
        · simp [impl_PlaySteps_s5]) l.length 0 F (0, 0, b) (by omega) (by omega) ⟨rfl, hb, hB⟩
    have h1 : spec_PlaySteps_l5 F l 0 0 b = some x := g1
    have h2 : impl_PlaySteps_l5 F l l ((l.length : Nat) : Int) 0 0 b = some x := g2
    simp only [spec_PlaySteps_p, spec_PlaySteps_c, impl_PlaySteps_p, impl_PlaySteps_c, spec_l2Board_eq F b hb hF', impl_IsBoard_eq F b hb hF', hB, h1, h2, Option.isSome_some, Option.getD_some, cond_true, Bool.not_true, cond_false]
    cases x.1 <;> exact ⟨_, rfl, rfl⟩
theorem toStepS_eq (F : Nat) (l : LL) (h4 : ∀ x ∈ l, x.length = 4) (hl : l.length ≤ 1048576) (hF : 2000000 < F) : laws_toStepS_p F l = some (l.length, l) := by
  have h := loop_fold (step := laws_toStepS_s3 F l l.length) (fun i (o : LL) => (i, o)) l.length (fun i o => o.set i (rget l i)) (fun o => o) (fun i o => o.length = l.length ∧ o.take i = l.take i) (F := F) (by omega) (by omega) (a := List.replicate l.length [0, 0, 0, 0]) ⟨by simp, by simp⟩
    (fun i o hi hI => by
      refine ⟨⟨by rw [List.length_set]; exact hI.1, ?_⟩, fun Q kn kx => ?_⟩
      · have hg : rget l i = l[i] := by rw [rgetL, List.getElem?_eq_getElem hi]; rfl
        rw [List.take_add_one, List.take_add_one, List.take_set_of_le (Nat.le_refl i), hI.2, hg, List.getElem?_set_self (by omega), List.getElem?_eq_getElem hi]
      · simp only [laws_toStepS_s3, Int.ofNat_lt, inR_cast, hi, Int.toNat_natCast, decide_true, cond_true, toStep_eq (h4 _ (rget_mem hi)), Nat.zero_add, rsetL]) (fun o _ Q kn kx => by simp [laws_toStepS_s3])
  have h1 : laws_toStepS_l3 F l l.length 0 (List.replicate l.length [0, 0, 0, 0]) = some l := by
    have e := h.1
    obtain ⟨k1, k2⟩ := h.2
    generalize fld (fun i (o : LL) => o.set i (rget l i)) 0 l.length (List.replicate l.length [0, 0, 0, 0]) = r at *
    have : r = l := by rw [← List.take_length (l := l), ← k2, ← k1, List.take_length]
    rw [this] at e
    exact e
  have h2 : decide ((0 : Int) ≤ ((l.length : Nat) : Int)) = true := decide_eq_true (by omega)
  have h3 : fits l.length 32 = true := fits_of (by omega) (by omega)
  simp only [laws_toStepS_p, laws_toStepS_c, h1, h2, h3, Option.isSome_some, Option.getD_some, cond_true, Bool.and_self]
theorem law_PlaySteps (F : Nat) (b : List Int) (hb : b.length = 16) (_ : ∀ x ∈ b, Rng x) (l : LL) (h4 : ∀ x ∈ l, x.length = 4 ∧ ∀ y ∈ x, Rng y) (hm : l.length ≤ 2 ^ 63 - 1) (hF : 2000000 < F) : laws_FnExactPlaySteps_p F b l = some true := by
  have e1 : IntKind.wrap .i64 ((1048576 : Int) - ((l.length : Nat) : Int)) = 1048576 - ((l.length : Nat) : Int) := wrap_of (by omega) (by omega)
  rcases Nat.lt_or_ge 1048576 l.length with h | h
  · have hd : decide ((1048576 : Int) - ((l.length : Nat) : Int) < 0) = true := decide_eq_true (by omega)
    have hs : laws_szStepS_v l 1048576 = -1 := by
      unfold laws_szStepS_v
      simp only [e1, hd, cond_true]
    have hn : decide ((-1 : Int) < 0) = true := rfl
    simp only [laws_FnExactPlaySteps_p, laws_FnExactPlaySteps_c, hs, hn, cond_true]
  · have hd : decide ((1048576 : Int) - ((l.length : Nat) : Int) < 0) = false := decide_eq_false (by omega)
    have hs : decide (laws_szStepS_v l 1048576 < 0) = false := by
      unfold laws_szStepS_v
      simp only [e1, hd, cond_false]
    obtain ⟨v, h1, h2⟩ := play_same F b hb l (fun x hx => (h4 x hx).1) h hF
    have h3 := toStepS_eq F l (fun x hx => (h4 x hx).1) h hF
    simp only [laws_FnExactPlaySteps_p, laws_FnExactPlaySteps_c, hs, toBoard_eq hb, h3, subn_self, h1, h2, eqBoard_refl F _ (show 1000 < F by omega), eqStepS_refl F l (by omega) (show 1000 < F by omega) (by omega), Option.isSome_some, Option.getD_some, cond_true, beq_self_eq_true, Bool.not_true, cond_false]
end Go.Lv.P
