/-
FnSureScores: true for every input.
-/
import Derived.Test.YtgdokdkcbgkekaeGeP0
import Derived.Test.YtgdokdkcbgkekaeGeP4
import Derived.Test.YtgdokdkcbgkekaeGeP5
import Derived.Test.YtgdokdkcbgkekaeGePDrawT
import Derived.Test.YtgdokdkcbgkekaeGePDrawS
import Derived.Test.YtgdokdkcbgkekaeGePDrawC
import Derived.Test.YtgdokdkcbgkekaeGePSureV
import Derived.Test.YtgdokdkcbgkekaeGePEmptyS
namespace Go.Lv.P
open Go Go.Lv
set_option linter.unusedVariables false
set_option linter.unusedSimpArgs false
set_option linter.unusedSectionVars false

section
variable {c : List Int} (hc : Byt c) (F : Nat) (hF : 1000 < F)
include hc hF
theorem draw_sure : ∃ (b : List Int) (n : Int), spec_DrawSureScore_p F c = some (b, n) ∧ b.length = 16 := by
  obtain ⟨v1, a1, s1, e1, _, c1⟩ := among_ok hc (n := 0) (by omega) (l := [2, 1, 3, 0, 2, 4, -1]) (by decide) (by decide) (a := 0) (s := 0) ⟨by omega, by omega⟩
  obtain ⟨b, a2, s2, e2, l2, _⟩ := tight_ok hc F hF (by omega) c1 (s := s1)
  exact ⟨b, v1, by simp only [spec_DrawSureScore_p, spec_DrawSureScore_c, spec_DrawLasts_p, spec_DrawLasts_c, e1, e2, Option.isSome_some, Option.getD_some, cond_true], l2⟩
theorem draw_reply : ∃ (b : List Int) (d n : Int), spec_DrawWorstReply_p F c = some (b, d, n) ∧ b.length = 16 := by
  obtain ⟨v1, a1, s1, e1, _, c1⟩ := among_ok hc (n := 0) (by omega) (l := [1, 0, 1, 2, -1]) (by decide) (by decide) (a := 0) (s := 0) ⟨by omega, by omega⟩
  obtain ⟨v2, a2, s2, e2, c2⟩ := side_ok hc (by omega) c1 (s := s1)
  obtain ⟨b, a3, s3, e3, l3, _⟩ := tight_ok hc F hF (by omega) c2 (s := s2)
  exact ⟨b, v2, v1, by simp only [spec_DrawWorstReply_p, spec_DrawWorstReply_c, e1, e2, e3, Option.isSome_some, Option.getD_some, cond_true], l3⟩
theorem draw_place : ∃ (b p : List Int), spec_DrawPlaceTile_p F c = some (b, p) ∧ b.length = 16 := by
  obtain ⟨v1, a1, s1, e1, _, c1⟩ := among_ok hc (n := 0) (by omega) (l := [1, 2, 1, 2, 0, 3, -1]) (by decide) (by decide) (a := 0) (s := 0) ⟨by omega, by omega⟩
  obtain ⟨b, a2, s2, e2, l2, c2⟩ := tight_ok hc F hF (by omega) c1 (s := s1)
  obtain ⟨v3, a3, s3, e3, l3, c3⟩ := cell_ok hc (by omega) c2 (s := s2)
  obtain ⟨v4, a4, s4, e4, c4⟩ := one_ok hc (by omega) (q := 4) (by decide) (by decide) c3 (s := s3)
  have q4 : ((4 : Nat) : Int) = 4 := rfl
  rw [q4] at e4
  simp only [spec_DrawPlaceTile_p, spec_DrawPlaceTile_c, e1, e2, e3, e4, spec_empty_eq F b hF, Option.isSome_some, Option.getD_some, cond_true]
  have hl := em_len b
  by_cases h0 : 0 < (em b).length
  · have hp : decide ((0 : Int) < (((em b).length : Nat) : Int)) = true := decide_eq_true (by omega)
    obtain ⟨v5, a5, s5, e5, g5, c5⟩ := pick_ok hc (by omega) (q := (em b).length) (by omega) (by omega) c4 (s := s4)
    simp only [hp, e5, inR_cast, g5, decide_true, cond_true, Option.isSome_some, Option.getD_some]
    cases v4 <;> exact ⟨_, _, rfl, l2⟩
  · have hp : decide ((0 : Int) < (((em b).length : Nat) : Int)) = false := decide_eq_false (by omega)
    simp only [hp, cond_false]
    exact ⟨_, _, rfl, l2⟩
end
theorem own_loop (F : Nat) (hF : 1000 < F) (code : List Int) (n su be : Int) (on : Bool) (d m le : Int) (tw : Bool) (b cc re : List Int) (all : LL) (hl : all.length ≤ 900) : laws_FnSureScores_l22 F code n su be on d m le tw b cc re all all 0 = some false := by
  have h : ∀ (m i : Nat), fnd (fun _ => false) (fun _ => true) false i m = false := fun m => by
    induction m with
    | zero => intro i; rfl
    | succ m ih => intro i; simp only [fnd, cond_false]; exact ih (i + 1)
  rw [← h all.length 0]
  refine loop_find (fun i => i) all.length _ _ _ (by omega) (by omega) (fun i hi Q kn kx => ?_) fun Q kn kx => ?_
  · simp [laws_FnSureScores_s22, inR_cast, hi]
  · simp [laws_FnSureScores_s22]
theorem law_FnSureScores (F : Nat) (code : List Int) (hc : Byt code) (hF : 1000 < F) : laws_FnSureScores_p F code = some true := by
  obtain ⟨b, n, d1, hb⟩ := draw_sure hc F hF
  obtain ⟨x, d, m, d2, hx⟩ := draw_reply hc F hF
  obtain ⟨e, p, d3, he⟩ := draw_place hc F hF
  obtain ⟨s1, s2⟩ := sure_val F b hb n hF
  obtain ⟨b1, b2⟩ := best_val F b hb n hF
  obtain ⟨r1, r2⟩ := reply_val F x hx d m hF
  obtain ⟨p1, p2⟩ := places_val F x hx hF
  obtain ⟨v, q1, q2⟩ := place_same F e p he hF
  have hpl : ∃ al : Bool × LL, (bif okB x then (true, plm x) else (false, [])) = al ∧ al.2.length ≤ 900 := ⟨_, rfl, by
    cases okB x with
    | true => have := plm_len x; have := em_len x; show (plm x).length ≤ 900; omega
    | false => simp⟩
  obtain ⟨al, hal, hal9⟩ := hpl
  rw [hal] at p1 p2
  have two : (replyV x d m).2.2 = true → ∃ next score, impl_SlideBoard_p F x d = some (next, score, true) ∧ ∃ worst, impl_PlaceTile_p F next (replyV x d m).1 = some (worst, true) ∧ impl_SureScore_p F worst m = some ((replyV x d m).2.1, true) := fun h => by
    unfold replyV at h ⊢
    cases hq : (okB x && inB d 0 3 && inB m 0 1 && !((slideB x d.toNat).1 == x)) with
    | false => rw [hq] at h; cases h
    | true =>
      rw [cond_true]
      simp only [Bool.and_eq_true, Bool.not_eq_true'] at hq
      obtain ⟨⟨⟨h1, h2⟩, h3⟩, h4⟩ := hq
      simp [inB] at h2 h3
      obtain ⟨k, rfl⟩ := Int.eq_ofNat_of_zero_le h2.1
      have hk : k < 4 := by omega
      simp only [Int.toNat_natCast] at h4 ⊢
      obtain ⟨l, o⟩ := slide_ok hx h1 hk
      have hV : Vrng (sureN m.toNat) := sure_rng _ (by omega)
      obtain ⟨g1, g2, g3⟩ := least_rng l o hV (plm_pos hx h1 hk h4)
      obtain ⟨w1, w2⟩ := putP_ok l o (plm_in _ _ g3).2.2
      refine ⟨_, _, slide_val F hx h1 hk hF, _, place_plm F hF l o g3, ?_⟩
      rw [(sure_val F _ w1 m hF).2, least_is]
      have hin : inB m 0 2 = true := by simp [inB]; omega
      simp only [sureV, w2, hin, Bool.and_self, cond_true]
  have one : (bestV b n).2 = true → ∃ next score, impl_SlideBoard_p F b (bestV b n).1 = some (next, score, true) ∧ ∃ re rest, impl_WorstReply_p F b (bestV b n).1 (IntKind.wrap .i64 (n - 1)) = some (re, rest, true) ∧ (IntKind.wrap .i64 (score + rest) == (sureV b n).1) = true := fun h => by
    unfold bestV at h ⊢
    cases hq : (okB b && inB n 1 2) with
    | false => rw [hq] at h; cases h
    | true =>
      rw [hq, cond_true] at h
      rw [cond_true]
      cases ht : decide (0 ≤ (bestM (sureN (n - 1).toNat) b).2) with
      | false => rw [ht] at h; cases h
      | true =>
        rw [cond_true]
        have ht := of_decide_eq_true ht
        simp only [Bool.and_eq_true] at hq
        obtain ⟨h1, h2⟩ := hq
        have h2' := h2
        simp [inB] at h2
        rcases best_is (sureN (n - 1).toNat) b with hlt | ⟨k, hk, hk2, hk3, hk4⟩
        · omega
        · have hV : Vrng (sureN (n - 1).toNat) := sure_rng _ (by omega)
          have hr := val_rng hb h1 hV hk hk3
          have hw : IntKind.wrap .i64 (n - 1) = n - 1 := wrap_of (by omega) (by omega)
          simp only [hk2, hw]
          refine ⟨_, _, slide_val F hb h1 hk hF, ?_⟩
          have hrv : replyV b k (n - 1) = ((leastM (sureN (n - 1).toNat) (slideB b k).1).2, (leastM (sureN (n - 1).toNat) (slideB b k).1).1, true) := by
            have i1 : inB (k : Int) 0 3 = true := by simp [inB]; omega
            have i2 : inB (n - 1) 0 1 = true := by simp [inB]; omega
            simp only [replyV, h1, i1, i2, Int.toNat_natCast, hk3, Bool.not_false, Bool.and_self, cond_true]
          refine ⟨_, _, by rw [(reply_val F b hb k (n - 1) hF).2, hrv], ?_⟩
          have hin : inB n 0 2 = true := by simp [inB]; omega
          have hv : IntKind.wrap .i64 ((slideB b k).2 + (leastM (sureN (n - 1).toNat) (slideB b k).1).1) = valM (sureN (n - 1).toNat) b k := by
            unfold valM at hr ⊢
            exact wrap_of (by omega) (by omega)
          simp only [hv, sureV, h1, hin, Bool.and_self, cond_true, sure_pred h2', hk4, beq_self_eq_true]
  generalize hR : replyV x d m = R at *
  generalize hB : bestV b n = B at *
  generalize hS : sureV b n = S at *
  simp only [laws_FnSureScores_p, laws_FnSureScores_c, laws_rBig_v, d1, d2, d3, s1, s2, b1, b2, r1, r2, p1, p2, q1, q2, own_loop F hF _ _ _ _ _ _ _ _ _ _ _ _ al.2 hal9, Option.isSome_some, Option.getD_some, cond_true, cond_false, beq_self_eq_true, beq_selfL, Bool.not_true, Bool.and_self]
  cases decide ((65536 : Int) < ((code.length : Nat) : Int)) with
  | true => rfl
  | false =>
    simp only [cond_false]
    cases h2 : R.2.2 with
    | false =>
      cases h1 : B.2 with
      | false => rfl
      | true =>
        obtain ⟨nx, sc, t1, re, rest, t2, t3⟩ := one h1
        simp only [t1, t2, t3, Option.isSome_some, Option.getD_some, cond_true, cond_false, Bool.not_true]
    | true =>
      obtain ⟨nx', sc', u1, wo, u2, u3⟩ := two h2
      cases h1 : B.2 with
      | false => simp only [u1, u2, u3, Option.isSome_some, Option.getD_some, cond_true, cond_false, Bool.not_true, Bool.not_false, beq_self_eq_true]
      | true =>
        obtain ⟨nx, sc, t1, re, rest, t2, t3⟩ := one h1
        simp only [u1, u2, u3, t1, t2, t3, Option.isSome_some, Option.getD_some, cond_true, cond_false, Bool.not_true, beq_self_eq_true]
end Go.Lv.P
