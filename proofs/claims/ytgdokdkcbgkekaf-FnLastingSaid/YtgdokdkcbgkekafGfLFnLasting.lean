/-
FnLasting: true for every input.
-/
import Derived.Test.YtgdokdkcbgkekafGfP0
import Derived.Test.YtgdokdkcbgkekafGfP6
import Derived.Test.YtgdokdkcbgkekafGfP7
import Derived.Test.YtgdokdkcbgkekafGfPG2
import Derived.Test.YtgdokdkcbgkekafGfPG1
import Derived.Test.YtgdokdkcbgkekafGfPG3
import Derived.Test.YtgdokdkcbgkekafGfPG4
namespace Go.Lv.P
open Go Go.Lv
set_option linter.unusedVariables false
set_option linter.unusedSimpArgs false
set_option linter.unusedSectionVars false

theorem slide_val2 (F : Nat) {b : List Int} (hb : b.length = 16) (ok : okB b = true) {d : Nat} (hd : d < 4) (hF : 1000 < F) : impl_SlideBoard_p F b d = some ((slideB b d).1, (slideB b d).2, true) := by
  obtain ⟨m, e⟩ := impl_slide hb ok F hF hd
  have h : inB (d : Int) 0 3 = true := by simp [inB]; omega
  simp only [impl_SlideBoard_p, impl_SlideBoard_c, impl_IsBoard_eq F b hb hF, ok, impl_isDirection_v, in_eq, h, e, Option.isSome_some, Option.getD_some, cond_true, cond_false, Bool.not_true]
theorem draw_lasts {c : List Int} (hc : Byt c) (F : Nat) (hF : 1000 < F) : ∃ (b : List Int) (n : Int), spec_DrawLasts_p F c = some (b, n) ∧ b.length = 16 := by
  obtain ⟨v1, a1, s1, e1, _, c1⟩ := among_ok hc (n := 0) (by omega) (l := [2, 1, 3, 0, 2, 4, -1]) (by decide) (by decide) (a := 0) (s := 0) ⟨by omega, by omega⟩
  obtain ⟨b, a2, s2, e2, l2, _⟩ := tight_ok hc F hF (by omega) c1 (s := s1)
  exact ⟨b, v1, by simp only [spec_DrawLasts_p, spec_DrawLasts_c, e1, e2, Option.isSome_some, Option.getD_some, cond_true], l2⟩
theorem draw_refute {c : List Int} (hc : Byt c) (F : Nat) (hF : 1000 < F) : ∃ (b : List Int) (d n : Int), spec_DrawRefuteMove_p F c = some (b, d, n) ∧ b.length = 16 := by
  obtain ⟨b, n, e, l⟩ := draw_lasts hc F hF
  obtain ⟨v2, a2, s2, e2, c2⟩ := side_ok hc (n := 0) (by omega) (a := 0) (s := 0) ⟨by omega, by omega⟩
  exact ⟨b, v2, n, by simp only [spec_DrawRefuteMove_p, spec_DrawRefuteMove_c, e, e2, Option.isSome_some, Option.getD_some, cond_true], l⟩
theorem fnd_f {X : Type} (f : Nat → X) (e : X) : ∀ (m i : Nat), fnd (fun _ => false) f e i m = e
  | 0, _ => rfl
  | m + 1, i => by simp only [fnd, cond_false]; exact fnd_f f e m (i + 1)
theorem rInts_refl (F : Nat) (a : List Int) (ha : a.length ≤ 900) (hF : 1000 < F) : laws_rInts_p F a a = some true := by
  have h : laws_rInts_l4 F a a 0 = some (fnd (fun _ => false) (fun _ => true) false 0 a.length) := by
    refine loop_find (fun i => i) a.length _ _ _ (by omega) (by omega) (fun i hi Q kn kx => ?_) fun Q kn kx => ?_
    · simp [laws_rInts_s4, inR_cast, hi]
    · simp [laws_rInts_s4]
  simp only [laws_rInts_p, laws_rInts_c, h, fnd_f, Option.isSome_some, Option.getD_some, cond_true, cond_false, beq_self_eq_true, Bool.not_true]
theorem rHas_eq (F : Nat) (a : List Int) (x : Int) (ha : a.length ≤ 900) (hF : 1000 < F) : laws_rHas_p F a x = some (a.contains x) := by
  have h : laws_rHas_l2 F a x 0 = some (fnd (fun i => iget a i == x) (fun _ => true) false 0 a.length) := by
    refine loop_find (fun i => i) a.length (fun i => iget a i == x) _ _ (by omega) (by omega) (fun i hi Q kn kx => ?_) fun Q kn kx => ?_
    · simp only [laws_rHas_s2, Int.ofNat_lt, hi, decide_true, cond_true, inR_cast, Int.toNat_natCast]
    · simp [laws_rHas_s2]
  rw [fnd_any, any_iget a (fun y => y == x)] at h
  have e : (a.any fun y => y == x) = a.contains x := by
    rw [List.contains_eq_any_beq]
    congr 1
    funext y
    rw [Bool.eq_iff_iff, beq_iff_eq, beq_iff_eq]; exact eq_comm
  simp only [laws_rHas_p, laws_rHas_c, h, e, Option.isSome_some, Option.getD_some, cond_true]
  cases a.contains x <;> rfl
theorem dead_loop (F : Nat) (hF : 1000 < F) {b : List Int} (hb : b.length = 16) (ok : okB b = true) (n : Int) (sf : Nat) (tw : Bool) (d m : Int) (th : Bool) (sl c p : List Int) {q : Nat} {dd v : LL} (hv : dd.take q = v) (hl : v.length = q) (hq : q ≤ dd.length) (h40 : q ≤ 40) (hw : v = (plm b).filter (deadP b)) :
    laws_FnLasting_l26 F n sf tw d m th q b sl c p dd v 0 = some false := by
  rw [← fnd_f (fun _ => true) false q 0]
  refine loop_find (step := laws_FnLasting_s26 F n sf tw d m th q b sl c p dd v) (fun i => i) q _ _ _ (by omega) (by omega) (fun i hi Q kn kx => ?_) fun Q kn kx => ?_
  · have e : rget dd i = rget v i := by rw [rgetL, rgetL, ← hv, List.getElem?_take, if_pos hi]
    have hm : rget v i ∈ (plm b).filter (deadP b) := by rw [← hw, rgetL, List.getElem?_eq_getElem (by omega)]; exact List.getElem_mem _
    obtain ⟨m1, m2⟩ := List.mem_filter.1 hm
    obtain ⟨w1, w2⟩ := putP_ok hb ok (plm_in _ _ m1).2.2
    have ho : impl_IsOver_p F (putP b (rget v i)) = some (true, true) := by
      have m2 : ((((movesB (putP b (rget v i))).length : Nat) : Int) == 0) = true := m2
      simp only [impl_IsOver_p, impl_IsOver_c, impl_IsBoard_eq F _ w1 hF, w2, impl_Board_isOver_p, impl_Board_isOver_c, impl_moves w1 w2 F hF, m2, Option.isSome_some, Option.getD_some, cond_true, cond_false, Bool.not_true]
    have hi2 : i < v.length := by omega
    simp only [laws_FnLasting_s26, Int.ofNat_lt, hi, hi2, decide_true, cond_true, cond_false, inR_cast, Int.toNat_natCast, Nat.zero_add, e, beq_self_eq_true, Bool.not_true, place_plm F hF hb ok m1, ho, Option.isSome_some, Option.getD_some]
  · simp [laws_FnLasting_s26]
theorem moves_loop (F : Nat) (hF : 1000 < F) {b : List Int} (hb : b.length = 16) (ok : okB b = true) {n : Int} (hn : inB n 1 3 = true) {k : Nat} {m v : List Int} (hv : m.take k = v) (hl : v.length = k) (h40 : k ≤ 40) (hw : v = (movesB b).filter fun x => !(refM (lastN (n - 1).toNat) (slideB b x.toNat).1).2) :
    laws_FnLasting_l50 F n k b m (movesB b) 0 = some false := by
  have hml := movesB_len b
  rw [← fnd_f (fun _ => true) false (movesB b).length 0]
  refine loop_find (step := laws_FnLasting_s50 F n k b m (movesB b)) (fun i => i) (movesB b).length _ _ _ (by omega) (by omega) (fun i hi Q kn kx => ?_) fun Q kn kx => ?_
  · have hmem : iget (movesB b) i ∈ movesB b := by rw [igetL, List.getElem?_eq_getElem hi]; exact List.getElem_mem hi
    obtain ⟨d, hx, hd, hs⟩ := movesB_mem hmem
    have hr := (ref_val F b hb (iget (movesB b) i) n hF).2
    have i1 : inB (d : Int) 0 3 = true := by simp [inB]; omega
    have e : refV b (iget (movesB b) i) n = refM (lastN (n - 1).toNat) (slideB b d).1 := by
      rw [hx]
      simp only [refV, ok, i1, hn, Int.toNat_natCast, hs, Bool.not_false, Bool.and_self, cond_true]
    rw [e] at hr
    have hh := rHas_eq F v (iget (movesB b) i) (by omega) hF
    have hc : v.contains (iget (movesB b) i) = !(refM (lastN (n - 1).toNat) (slideB b d).1).2 := by
      rw [Bool.eq_iff_iff, List.contains_iff_mem, hw, List.mem_filter]
      have e2 : (refM (lastN (n - 1).toNat) (slideB b (iget (movesB b) i).toNat).1).2 = (refM (lastN (n - 1).toNat) (slideB b d).1).2 := by rw [hx, Int.toNat_natCast]
      rw [e2]
      exact ⟨fun h => h.2, fun h => ⟨hmem, h⟩⟩
    rw [hc] at hh
    generalize refM (lastN (n - 1).toNat) (slideB b d).1 = rm at *
    simp only [laws_FnLasting_s50, Int.ofNat_lt, hi, decide_true, cond_true, inR_cast, Int.toNat_natCast, Nat.zero_add, hr, subn_take0, hv, hh, Option.isSome_some, Option.getD_some]
    cases rm.2 <;> rfl
  · simp [laws_FnLasting_s50]
theorem last_succ (k : Nat) (b : List Int) : lastN (k + 1) b = lastM (lastN k) b := rfl
theorem safe_last {b : List Int} {n : Int} {k : Nat} {v : List Int} (so : (okB b && inB n 1 3) = true) (sl : v.length = k) (sw : v = (movesB b).filter fun x => !(refM (lastN (n - 1).toNat) (slideB b x.toNat).1).2) : (lastsV b n).1 = decide ((0 : Int) < ((k : Nat) : Int)) := by
  simp only [Bool.and_eq_true] at so
  obtain ⟨g1, g2⟩ := so
  have g3 : inB n 0 3 = true := by simp [inB] at g2 ⊢; omega
  have hN : n.toNat = (n - 1).toNat + 1 := by simp [inB] at g2; omega
  have e : (lastsV b n).1 = lastN n.toNat b := by simp only [lastsV, g1, g3, Bool.and_self, cond_true]
  rw [e, hN, last_succ, lastM_moves]
  rw [Bool.eq_iff_iff, List.any_eq_true, decide_eq_true_iff]
  have h2 : (0 : Int) < ((k : Nat) : Int) ↔ 0 < v.length := by omega
  rw [h2, List.length_pos_iff_exists_mem, sw]
  constructor
  · rintro ⟨x, h1, h2⟩; exact ⟨x, List.mem_filter.2 ⟨h1, h2⟩⟩
  · rintro ⟨x, h⟩; obtain ⟨h1, h2⟩ := List.mem_filter.1 h; exact ⟨x, h1, h2⟩
theorem law_FnLasting (F : Nat) (code : List Int) (hc : Byt code) (hF : 1000 < F) : laws_FnLasting_p F code = some true := by
  obtain ⟨b, n, d1, hb⟩ := draw_lasts hc F hF
  obtain ⟨c, d, m, d2, hcl⟩ := draw_refute hc F hF
  obtain ⟨l1, l2⟩ := lasts_val F b hb n hF
  obtain ⟨w1, w2⟩ := how_val F b hb hF
  obtain ⟨k, ms, v, o, s1, s2, sv, sl, sn, s40, so, sw⟩ := safe_val F b hb n hF
  obtain ⟨r1, r2⟩ := ref_val F c hcl d m hF
  obtain ⟨q, dm, dv, dO, t1, t2, tv, tl, tn, t40, t3, to, tw⟩ := dead_val F b hb hF
  obtain ⟨y, y1, y2, y3⟩ := worstT_val F b hb hF
  have e0 := rInts_refl F v (by omega) hF
  have hhow : dO = (howV b).2 := by rw [to]; unfold howV; cases okB b <;> simp only [cond_true, cond_false]
  have hsame : (lastsV b n).2 = true → ((lastsV b n).1 == decide (n ≤ (howV b).1)) = true := fun h => how_same h
  have hsafe : o = true → ((lastsV b n).1 == decide ((0 : Int) < ((k : Nat) : Int))) = true := fun h => by
    rw [h] at so
    have so := so.symm
    rw [so, cond_true] at sw
    rw [safe_last so sl sw]; exact beq_self_eq_true _
  have hfew : y.2.2 = true → ((y.2.1 == 0) == decide ((0 : Int) < ((q : Nat) : Int))) = true := fun h => by
    obtain ⟨g1, g2⟩ := y3 h
    rw [g2, few_dead]
    rw [g1, cond_true] at tw
    have : decide ((0 : Int) < ((q : Nat) : Int)) = decide (0 < ((plm b).filter (deadP b)).length) := by
      rw [← tw, tl]
      by_cases hq : 0 < q
      · rw [decide_eq_true hq, decide_eq_true (by omega)]
      · rw [decide_eq_false hq, decide_eq_false (by omega)]
    rw [this]; exact beq_self_eq_true _
  have hdead : laws_FnLasting_l26 F n k o d m (refV c d m).2 q b ms c (refV c d m).1 dm dv 0 = some false := by
    cases hB : okB b with
    | true =>
      rw [hB, cond_true] at tw
      exact dead_loop F hF hb hB n k o d m _ ms c _ tv tl tn t40 tw
    | false =>
      rw [hB, cond_false] at tw
      have hq0 : q = 0 := by rw [← tl, tw]; rfl
      subst hq0
      obtain ⟨G, rfl⟩ : ∃ G, F = G + 1 := ⟨F - 1, by omega⟩
      rfl
  have hthree : (refV c d m).2 = true → ∃ nx sc pu, impl_SlideBoard_p F c d = some (nx, sc, true) ∧ impl_PlaceTile_p F nx (refV c d m).1 = some (pu, true) ∧ impl_Lasts_p F pu (IntKind.wrap .i64 (m - 1)) = some (false, true) := fun h => by
    unfold refV at h ⊢
    cases hq : (okB c && inB d 0 3 && inB m 1 3 && !((slideB c d.toNat).1 == c)) with
    | false => rw [hq] at h; cases h
    | true =>
      rw [hq, cond_true] at h
      rw [cond_true]
      simp only [Bool.and_eq_true, Bool.not_eq_true'] at hq
      obtain ⟨⟨⟨h1, h2⟩, h3⟩, h4⟩ := hq
      simp [inB] at h2 h3
      obtain ⟨j, rfl⟩ := Int.eq_ofNat_of_zero_le h2.1
      have hj : j < 4 := by omega
      simp only [Int.toNat_natCast] at h4 h ⊢
      obtain ⟨l, ok⟩ := slide_ok hcl h1 hj
      obtain ⟨g1, g2⟩ := refM_is _ _ h
      obtain ⟨p1, p2⟩ := putP_ok l ok (plm_in _ _ g1).2.2
      refine ⟨_, _, _, slide_val2 F hcl h1 hj hF, place_plm F hF l ok g1, ?_⟩
      have hw : IntKind.wrap .i64 (m - 1) = m - 1 := wrap_of (by omega) (by omega)
      have hin : inB (m - 1) 0 3 = true := by simp [inB]; omega
      rw [hw, (lasts_val F _ p1 (m - 1) hF).2]
      simp only [lastsV, p2, hin, Bool.and_self, cond_true, g2]
  have htwo : o = true → impl_MovesOf_p F b = some (true, movesB b) ∧ laws_FnLasting_l50 F n k b ms (movesB b) 0 = some false := fun h => by
    rw [h] at so
    have so := so.symm
    rw [so, cond_true] at sw
    simp only [Bool.and_eq_true] at so
    obtain ⟨g1, g2⟩ := so
    exact ⟨by simp only [impl_MovesOf_p, impl_MovesOf_c, impl_IsBoard_eq F b hb hF, g1, impl_moves hb g1 F hF, Option.isSome_some, Option.getD_some, cond_true, cond_false, Bool.not_true], moves_loop F hF hb g1 g2 sv sl s40 sw⟩
  clear so sw to tw y3
  generalize hL : lastsV b n = L at *
  generalize hH : howV b = Hw at *
  generalize hR : refV c d m = R at *
  have hql : (((q : Nat) : Int) == ((dv.length : Nat) : Int)) = true := by rw [tl]; exact beq_self_eq_true _
  simp only [laws_FnLasting_p, laws_FnLasting_c, laws_rBig_v, d1, d2, l1, l2, w1, w2, s1, s2, r1, r2, t1, t2, y1, y2, hdead, hhow, hql, subn_take0, sv, List.take_length, e0, Option.isSome_some, Option.getD_some, cond_true, cond_false, beq_self_eq_true, beq_selfL, Bool.not_true, Bool.and_self]
  cases decide ((65536 : Int) < ((code.length : Nat) : Int)) with
  | true => rfl
  | false =>
    simp only [cond_false]
    clear hdead hhow hql d1 d2 l1 l2 w1 w2 s1 s2 r1 r2 t1 t2 y1 y2 e0 hL hH hR sv sl sn s40 tv tl tn t40 t3 hb hcl hc hF
    cases hl2 : L.2 <;> cases ho : o <;> cases hy : y.2.2 <;> cases hr : R.2
    all_goals
      (try have q1 := hsame hl2)
      (try have q2 := hsafe ho)
      (try have q3 := hfew hy)
      (try (have q4 := hthree hr; obtain ⟨nx, sc, pu, u1, u2, u3⟩ := q4))
      (try (have q5 := htwo ho; obtain ⟨v1, v2⟩ := q5))
      clear hsame hsafe hfew hthree htwo
      subst ho
      simp only [*, Option.isSome_some, Option.getD_some, cond_true, cond_false, Bool.not_true, Bool.not_false, beq_selfL, Bool.and_self]
end Go.Lv.P
