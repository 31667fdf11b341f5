/-
FnBetween: true for every input.
-/
import Derived.Test.YtabfliifleonaaeQeP1
import Derived.Test.YtabfliifleonaaeQeP2
import Derived.Test.YtabfliifleonaaeQeP3
import Derived.Test.YtabfliifleonaaeQeP4
import Derived.Test.YtabfliifleonaaeQeP5
import Derived.Test.YtabfliifleonaaeQePG4
import Derived.Test.YtabfliifleonaaeQePG1
import Derived.Test.YtabfliifleonaaeQePG2
import Derived.Test.YtabfliifleonaaeQePG3
namespace Go.Lv.P
open Go Go.Lv
set_option linter.unusedVariables false
set_option linter.unusedSimpArgs false
set_option linter.unusedSectionVars false

theorem slide_valB (F : Nat) {b : List Int} (hb : b.length = 16) (ok : okB b = true) {d : Nat} (hd : d < 4) (hF : 1000 < F) : impl_SlideBoard_p F b d = some ((slideB b d).1, (slideB b d).2, true) := by
  obtain ⟨m, e⟩ := impl_slide hb ok F hF hd
  have h : inB (d : Int) 0 3 = true := by simp [inB]; omega
  simp only [impl_SlideBoard_p, impl_SlideBoard_c, impl_IsBoard_eq F b hb hF, ok, impl_isDirection_v, in_eq, h, e, Option.isSome_some, Option.getD_some, cond_true, cond_false, Bool.not_true]
theorem draw_score {c : List Int} (hc : Byt c) (F : Nat) (hF : 1000 < F) : ∃ (a b : List Int) (t : Int), spec_DrawScoreBetween_p F c = some (a, b, t) ∧ a.length = 16 ∧ b.length = 16 := by
  obtain ⟨a, b, e1, l1, l2⟩ := draw_mb hc F hF
  obtain ⟨v2, a2, s2, e2, g2, c2⟩ := pick_ok hc (n := 0) (by omega) (q := 24) (by decide) (by decide) (a := 0) (s := 0) ⟨by omega, by omega⟩
  have q24 : ((24 : Nat) : Int) = 24 := rfl
  rw [q24] at e2
  have key : ∃ m : Nat, IntKind.wrap .i64 ((4 : Int) + (IntKind.wrap .i64 (Int.tdiv ((v2 : Nat) : Int) (11 : Int)))) = (m : Int) ∧ m ≤ 6 ∧ 4 ≤ m := by
    have h1 : Int.tdiv ((v2 : Nat) : Int) 11 = ((v2 / 11 : Nat) : Int) := by rw [Int.tdiv_eq_ediv_of_nonneg (by omega)]; rfl
    have h2 : v2 / 11 ≤ 2 := by omega
    refine ⟨4 + v2 / 11, ?_, by omega, by omega⟩
    rw [h1, wrap_of (n := ((v2 / 11 : Nat) : Int)) (by omega) (by omega), wrap_of (by omega) (by omega)]; omega
  obtain ⟨m, m1, m2, m3⟩ := key
  have hl : (subn 6 [(0 : Int), (1 : Int), (2 : Int), (0 : Int), (-1 : Int), (1099511627776 : Int)] 0 (m - 0)).length = m := by
    obtain rfl | rfl | rfl : m = 4 ∨ m = 5 ∨ m = 6 := by omega
    all_goals rfl
  obtain ⟨v3, a3, s3, e3, _, c3⟩ := among_ok hc (by omega) (l := subn 6 [(0 : Int), (1 : Int), (2 : Int), (0 : Int), (-1 : Int), (1099511627776 : Int)] 0 (m - 0)) (by omega) (by omega) c2 (s := s2)
  exact ⟨a, b, v3, by simp only [spec_DrawScoreBetween_p, spec_DrawScoreBetween_c, e1, e2, m1, inLe_cast, m2, Int.toNat_natCast, e3, decide_true, Option.isSome_some, Option.getD_some, cond_true], l1, l2⟩
theorem draw_packed {c : List Int} (hc : Byt c) (F : Nat) (hF : 1000 < F) : ∃ (b : List Int), spec_DrawIsPackedBoard_p F c = some b ∧ b.length = 16 := by
  obtain ⟨b, a1, s1, e1, l1, c1⟩ := board_ok hc F hF (n := 0) (by omega) (a := 0) (s := 0) ⟨by omega, by omega⟩
  obtain ⟨f2, a2, s2, e2, c2⟩ := one_ok hc (by omega) (q := 2) (by decide) (by decide) c1 (s := s1)
  obtain ⟨v3, a3, s3, e3, c3⟩ := sum7_ok hc (by omega) c2 (s := s2)
  obtain ⟨pb, po, e4, l4⟩ := packed_spec F v3 hF
  have q2 : ((2 : Nat) : Int) = 2 := rfl
  rw [q2] at e2
  simp only [spec_DrawIsPackedBoard_p, spec_DrawIsPackedBoard_c, e1, e2, e3, e4, Option.isSome_some, Option.getD_some, cond_true]
  cases f2 with
  | true => exact ⟨_, rfl, l4⟩
  | false => exact ⟨_, rfl, l1⟩
theorem fnd_fb {X : Type} (f : Nat → X) (e : X) : ∀ (m i : Nat), fnd (fun _ => false) f e i m = e
  | 0, _ => rfl
  | m + 1, i => by simp only [fnd, cond_false]; exact fnd_fb f e m (i + 1)
theorem packed_loop (F : Nat) (hF : 1000 < F) {u : List Int} (hu : u.length = 16) (ok : okB u = true) (hd : Dis u) (l m : Int) (o : Bool) (t s : Int) (fi : Bool) (a b x y : List Int) :
    laws_FnBetween_l19 F l m o t s fi true a b x y u 0 = some false := by
  rw [← fnd_fb (fun _ => true) false 4 0]
  refine loop_find (step := laws_FnBetween_s19 F l m o t s fi true a b x y u) (fun i => i) 4 _ _ _ (by omega) (by omega) (fun i hi Q kn kx => ?_) fun Q kn kx => ?_
  · have hi' : (i : Int) < 4 := by omega
    have h0 : (slideB u i).2 = 0 := by rw [kslide_score hu ok hi, dis_slide hu hd hi]; rfl
    simp only [laws_FnBetween_s19, hi', decide_true, cond_true, slide_valB F hu ok hi hF, h0, Option.isSome_some, Option.getD_some, Bool.not_true, cond_false, beq_self_eq_true]
  · simp [laws_FnBetween_s19]
theorem law_FnBetween (F : Nat) (code : List Int) (hc : Byt code) (hF : 1000 < F) : laws_FnBetween_p F code = some true := by
  by_cases hbig : (65536 : Int) < ((code.length : Nat) : Int)
  · simp only [laws_FnBetween_p, laws_FnBetween_c, laws_vBig_v, hbig, decide_true, cond_true]
  obtain ⟨cut1, q1, hcut1⟩ := cut_ok hc (by omega) (n := 1) (by omega)
  obtain ⟨cut2, q2, hcut2⟩ := cut_ok hc (by omega) (n := 2) (by omega)
  have q1 : laws_vCut_p code 1 = some cut1 := q1
  have q2 : laws_vCut_p code 2 = some cut2 := q2
  obtain ⟨a, b, d1, ha, hb⟩ := draw_mb hc F hF
  obtain ⟨x, y, t, d2, hx, hy⟩ := draw_score hcut1 F hF
  obtain ⟨u, d3, hu⟩ := draw_packed hcut2 F hF
  obtain ⟨l, m, o, v1, v2, v3⟩ := between_val F a b ha hb hF
  obtain ⟨s1, s2⟩ := score_val F x y hx hy t hF
  obtain ⟨p1, p2⟩ := packed_val F u hu hF
  have s3 := (score_val F y x hy hx 0 hF).2
  have p3 := pairs_val F hF hu
  have hbet : o = true → ∃ sa sb, impl_SumOf_p F a = some (sa, true) ∧ impl_SumOf_p F b = some (sb, true) ∧ decide (l ≤ m) = true ∧ (IntKind.wrap .i64 ((2 : Int) * m) == IntKind.wrap .i64 (sb - sa)) = true ∧ decide (IntKind.wrap .i64 (sb - sa) ≤ IntKind.wrap .i64 ((4 : Int) * l)) = true ∧ decide (IntKind.wrap .i64 ((4 : Int) * l) < IntKind.wrap .i64 (IntKind.wrap .i64 (sb - sa) + 4)) = true := fun h => by
    obtain ⟨k1, k2, k3, k4, k5, k6, k7⟩ := v3 h
    have fa := sumB_facts k1
    have fb := sumB_facts k2
    rw [ha] at fa
    rw [hb] at fb
    refine ⟨sumB a, sumB b, sum_val F hF ha k1, sum_val F hF hb k2, decide_eq_true k7, ?_, ?_, ?_⟩
    · rw [wrap_of (by omega) (by omega), wrap_of (by omega) (by omega)]; exact beq_iff_eq.2 k4
    · rw [wrap_of (by omega) (by omega), wrap_of (by omega) (by omega)]; exact decide_eq_true k5
    · rw [wrap_of (n := sumB b - sumB a) (by omega) (by omega), wrap_of (by omega) (by omega), wrap_of (by omega) (by omega)]; exact decide_eq_true k6
  have hsc : (scoreV x y t).2 = true → (scoreV y x 0).2 = true ∧ (IntKind.wrap .i64 ((scoreV x y t).1 + (scoreV y x 0).1) == IntKind.wrap .i64 ((-4 : Int) * t)) = true := fun h => by
    unfold scoreV at h ⊢
    cases hq : (okB x && okB y && inB t 0 2097152) with
    | false => rw [hq] at h; cases h
    | true =>
      simp only [Bool.and_eq_true] at hq
      obtain ⟨⟨kx, ky⟩, kt⟩ := hq
      simp [inB] at kt
      obtain ⟨_, x1, x2⟩ := potB_fs hx kx
      obtain ⟨_, y1, y2⟩ := potB_fs hy ky
      have h0 : inB 0 0 2097152 = true := by decide
      have w0 : IntKind.wrap .i64 ((4 : Int) * 0) = 0 := by decide
      simp only [kx, ky, h0, Bool.and_self, cond_true, w0]
      refine ⟨trivial, ?_⟩
      rw [wrap_of (n := potB y - potB x) (by omega) (by omega), wrap_of (n := 4 * t) (by omega) (by omega), wrap_of (n := potB x - potB y) (by omega) (by omega), wrap_of (n := potB y - potB x - 4 * t) (by omega) (by omega), wrap_of (n := potB x - potB y - 0) (by omega) (by omega), wrap_of (by omega) (by omega), wrap_of (by omega) (by omega)]
      exact beq_iff_eq.2 (by omega)
  have hpk : (packedV u).2 = true → ∃ n, impl_EqualPairs_p F u = some (n, true) ∧ ((packedV u).1 = true → (n == 0) = true) ∧ ∀ (l m : Int) (o : Bool) (t s : Int) (fi : Bool) (a b x y : List Int), laws_FnBetween_l19 F l m o t s fi (packedV u).1 a b x y u 0 = some false := fun h => by
    cases hB : okB u with
    | false => unfold packedV at h; rw [hB] at h; cases h
    | true =>
      rw [hB, cond_true] at p3
      refine ⟨pairsB u, p3, fun h1 => ?_, fun l m o t s fi a b x y => ?_⟩
      · obtain ⟨_, hd⟩ := packed_dis hu h1
        rw [pairs_dis hd]; rfl
      · cases h1 : (packedV u).1 with
        | true => exact packed_loop F hF hu hB (packed_dis hu h1).2 l m o t s fi a b x y
        | false =>
          obtain ⟨G, rfl⟩ : ∃ G, F = G + 1 := ⟨F - 1, by omega⟩
          simp only [laws_FnBetween_l19, loopC, laws_FnBetween_s19, cond_false]
  have hp0 : (packedV u).2 = false → (packedV u).1 = false := fun h => by
    unfold packedV at h ⊢
    cases hB : okB u with
    | false => rfl
    | true => rw [hB] at h; cases h
  clear v3 p3
  generalize hP : packedV u = P at *
  generalize hS : scoreV x y t = S at *
  generalize hT : scoreV y x 0 = T at *
  obtain ⟨P1, P2⟩ := P
  obtain ⟨S1, S2⟩ := S
  obtain ⟨T1, T2⟩ := T
  simp only at hbet hsc hpk hp0
  simp only [laws_FnBetween_p, laws_FnBetween_c, laws_vBig_v, hbig, decide_false, cond_false, d1, d2, d3, q1, q2, subn_self, v1, v2, s1, s2, s3, p1, p2, Option.isSome_some, Option.getD_some, cond_true, beq_self_eq_true, Bool.not_true]
  clear v1 v2 s1 s2 s3 p1 p2 d1 d2 d3 q1 q2 hP hS hT
  cases hP2 : P2
  · have := hp0 hP2
    subst this
    cases hS2 : S2
    · cases ho : o
      · simp only [cond_true, cond_false, Bool.not_false]
      · obtain ⟨sa, sb, b1, b2, b3, b4, b5, b6⟩ := hbet ho
        simp only [b1, b2, b3, b4, b5, b6, Option.isSome_some, Option.getD_some, cond_true, cond_false, Bool.not_true, Bool.not_false]
    · obtain ⟨c1, c2⟩ := hsc hS2
      cases ho : o
      · simp only [c1, c2, cond_true, cond_false, Bool.not_false, Bool.not_true]
      · obtain ⟨sa, sb, b1, b2, b3, b4, b5, b6⟩ := hbet ho
        simp only [c1, c2, b1, b2, b3, b4, b5, b6, Option.isSome_some, Option.getD_some, cond_true, cond_false, Bool.not_true, Bool.not_false]
  · obtain ⟨n, e1, e2, e4⟩ := hpk hP2
    cases hP1 : P1
    all_goals rw [hP1] at e4
    · cases hS2 : S2
      · cases ho : o
        · simp only [e1, e4, Option.isSome_some, Option.getD_some, cond_true, cond_false, Bool.not_false, Bool.not_true]
        · obtain ⟨sa, sb, b1, b2, b3, b4, b5, b6⟩ := hbet ho
          simp only [e1, e4, b1, b2, b3, b4, b5, b6, Option.isSome_some, Option.getD_some, cond_true, cond_false, Bool.not_true, Bool.not_false]
      · obtain ⟨c1, c2⟩ := hsc hS2
        cases ho : o
        · simp only [e1, e4, c1, c2, Option.isSome_some, Option.getD_some, cond_true, cond_false, Bool.not_false, Bool.not_true]
        · obtain ⟨sa, sb, b1, b2, b3, b4, b5, b6⟩ := hbet ho
          simp only [e1, e4, c1, c2, b1, b2, b3, b4, b5, b6, Option.isSome_some, Option.getD_some, cond_true, cond_false, Bool.not_true, Bool.not_false]
    · have e3 := e2 hP1
      cases hS2 : S2
      · cases ho : o
        · simp only [e1, e3, e4, Option.isSome_some, Option.getD_some, cond_true, cond_false, Bool.not_false, Bool.not_true]
        · obtain ⟨sa, sb, b1, b2, b3, b4, b5, b6⟩ := hbet ho
          simp only [e1, e3, e4, b1, b2, b3, b4, b5, b6, Option.isSome_some, Option.getD_some, cond_true, cond_false, Bool.not_true, Bool.not_false]
      · obtain ⟨c1, c2⟩ := hsc hS2
        cases ho : o
        · simp only [e1, e3, e4, c1, c2, Option.isSome_some, Option.getD_some, cond_true, cond_false, Bool.not_false, Bool.not_true]
        · obtain ⟨sa, sb, b1, b2, b3, b4, b5, b6⟩ := hbet ho
          simp only [e1, e3, e4, c1, c2, b1, b2, b3, b4, b5, b6, Option.isSome_some, Option.getD_some, cond_true, cond_false, Bool.not_true, Bool.not_false]
end Go.Lv.P
