/-
FnSteps: true for every input.
-/
import Derived.Test.YtabfliifleonaafQfP0
import Derived.Test.YtabfliifleonaafQfP1
import Derived.Test.YtabfliifleonaafQfP3
import Derived.Test.YtabfliifleonaafQfP4
import Derived.Test.YtabfliifleonaafQfP5
import Derived.Test.YtabfliifleonaafQfPG1
import Derived.Test.YtabfliifleonaafQfPG3
import Derived.Test.YtabfliifleonaafQfPG2
import Derived.Test.YtabfliifleonaafQfPG4
namespace Go.Lv.P
open Go Go.Lv
set_option linter.unusedVariables false
set_option linter.unusedSimpArgs false
set_option linter.unusedSectionVars false

theorem slide_valT (F : Nat) {b : List Int} (hb : b.length = 16) (ok : okB b = true) {d : Nat} (hd : d < 4) (hF : 1000 < F) : impl_SlideBoard_p F b d = some ((slideB b d).1, (slideB b d).2, true) := by
  obtain ⟨m, e⟩ := impl_slide hb ok F hF hd
  have h : inB (d : Int) 0 3 = true := by simp [inB]; omega
  simp only [impl_SlideBoard_p, impl_SlideBoard_c, impl_IsBoard_eq F b hb hF, ok, impl_isDirection_v, in_eq, h, e, Option.isSome_some, Option.getD_some, cond_true, cond_false, Bool.not_true]
theorem draw_steps {c : List Int} (hc : Byt c) (F : Nat) (hF : 1000 < F) : ∃ (b : List Int) (d : Int), spec_DrawStepsOf_p F c = some (b, d) ∧ b.length = 16 := by
  obtain ⟨b, a1, s1, e1, l1, c1⟩ := tight5_ok hc F hF (n := 0) (by omega) (a := 0) (s := 0) ⟨by omega, by omega⟩
  obtain ⟨v2, a2, s2, e2, c2⟩ := side_ok hc (by omega) c1 (s := s1)
  exact ⟨b, v2, by simp only [spec_DrawStepsOf_p, spec_DrawStepsOf_c, e1, e2, Option.isSome_some, Option.getD_some, cond_true], l1⟩
theorem draw_do {c : List Int} (hc : Byt c) (F : Nat) (hF : 1000 < F) : ∃ (b s : List Int), spec_DrawDoStep_p F c = some (b, s) ∧ b.length = 16 ∧ s.length = 4 := by
  obtain ⟨b, a1, s1, e1, l1, c1⟩ := tight5_ok hc F hF (n := 0) (by omega) (a := 0) (s := 0) ⟨by omega, by omega⟩
  obtain ⟨v2, a2, s2, e2, l2, c2⟩ := step5_ok hc F hF l1 (by omega) c1 (s := s1)
  exact ⟨b, v2, by simp only [spec_DrawDoStep_p, spec_DrawDoStep_c, e1, e2, Option.isSome_some, Option.getD_some, cond_true], l1, l2⟩
theorem draw_betw {c : List Int} (hc : Byt c) (F : Nat) (hF : 1000 < F) : ∃ (a b : List Int), spec_DrawStepBetween_p F c = some (a, b) ∧ a.length = 16 ∧ b.length = 16 := by
  obtain ⟨b, a1, s1, e1, l1, c1⟩ := tight5_ok hc F hF (n := 0) (by omega) (a := 0) (s := 0) ⟨by omega, by omega⟩
  obtain ⟨f2, a2, s2, e2, c2⟩ := one_ok hc (by omega) (q := 6) (by decide) (by decide) c1 (s := s1)
  obtain ⟨v3, a3, s3, e3, l3, c3⟩ := step5_ok hc F hF l1 (by omega) c2 (s := s2)
  obtain ⟨b4, a4, s4, e4, l4, c4⟩ := board_ok hc F hF (by omega) c3 (s := s3)
  obtain ⟨b5, a5, s5, e5, l5, c5⟩ := board_ok hc F hF (by omega) c2 (s := s2)
  obtain ⟨b6, a6, s6, e6, l6, c6⟩ := board_ok hc F hF (by omega) c1 (s := s1)
  have q6 : ((6 : Nat) : Int) = 6 := rfl
  rw [q6] at e2
  simp only [spec_DrawStepBetween_p, spec_DrawStepBetween_c, e1, e2, e3, e4, e5, e6, spec_l2Board_eq F b l1 hF, Option.isSome_some, Option.getD_some, cond_true]
  cases hB : okB b with
  | false => exact ⟨_, _, rfl, l1, l6⟩
  | true =>
    cases f2 with
    | true => exact ⟨_, _, rfl, l1, l5⟩
    | false =>
      obtain ⟨nb, sc, o, e7, l7⟩ := do_tot F l1 hB l3 hF
      simp only [e7, Option.isSome_some, Option.getD_some, cond_true, Bool.not_false]
      cases o with
      | true => exact ⟨_, _, rfl, l1, l7⟩
      | false => exact ⟨_, _, rfl, l1, l4⟩
theorem fnd_ft {X : Type} (f : Nat → X) (e : X) : ∀ (m i : Nat), fnd (fun _ => false) f e i m = e
  | 0, _ => rfl
  | m + 1, i => by simp only [fnd, cond_false]; exact fnd_ft f e m (i + 1)
theorem vSteps_refl (F : Nat) (a : LL) (ha : a.length ≤ 900) (hF : 1000 < F) : laws_vSteps_p F a a = some true := by
  have h : laws_vSteps_l4 F a a 0 = some (fnd (fun _ => false) (fun _ => true) false 0 a.length) := by
    refine loop_find (fun i => i) a.length _ _ _ (by omega) (by omega) (fun i hi Q kn kx => ?_) fun Q kn kx => ?_
    · simp [laws_vSteps_s4, inR_cast, hi]
    · simp [laws_vSteps_s4]
  simp only [laws_vSteps_p, laws_vSteps_c, h, fnd_ft, Option.isSome_some, Option.getD_some, cond_true, cond_false, beq_self_eq_true, Bool.not_true]
theorem plc_lt {r c : Int} (hr : inB r 0 3 = true) (hc : inB c 0 3 = true) : plc [r, c] < 16 := by
  simp [inB] at hr hc
  show 0 + r.toNat * 4 + c.toNat * 1 < 16
  omega
theorem iset_back (l : List Int) (p : Nat) (x : Int) (h : iget l p = 0) (hp : p < l.length) : iset (iset l p x) p 0 = l := by
  rw [isetL, isetL, List.set_set]
  rw [igetL, List.getElem?_eq_getElem hp] at h
  have h : l[p] = 0 := h
  rw [← h]; exact List.set_getElem_self hp
/-- what is true of a step that is done -/
theorem step_facts (F : Nat) (hF : 1000 < F) {b : List Int} (hb : b.length = 16) {s : List Int} (hs : s.length = 4) : ∃ (nb : List Int) (sc : Int) (o : Bool), spec_DoStep_p F b s = some (nb, sc, o) ∧ impl_DoStep_p F b s = some (nb, sc, o) ∧
    (o = true → ∃ (x y : Int) (w : List Int), impl_SumOf_p F b = some (x, true) ∧ impl_SumOf_p F nb = some (y, true) ∧ impl_SlideBoard_p F b (iget s 0) = some (w, sc, true) ∧ impl_TakeTile_p F nb (sub s 1 2) = some (w, iget s 3, true) ∧ (IntKind.wrap .i64 (y - x) == IntKind.wrap .i64 ((2 : Int) * iget s 3)) = true ∧ (w == b) = false) := by
  obtain ⟨d, r, c, t, rfl⟩ := list4 hs
  obtain ⟨nb, sc, o, h1, h2, h3⟩ := do_val F b hb d r c t hF
  refine ⟨nb, sc, o, h1, h2, fun h => ?_⟩
  obtain ⟨ok, n, hn, rfl, hr, hc, ht, hq, hz, rfl, rfl⟩ := h3 h
  obtain ⟨l, o2⟩ := slide_ok hb ok hn
  have hp := plc_lt hr hc
  have ht2 : 1 ≤ t ∧ t ≤ 2 := by simpa [inB] using ht
  have hl2 : (iset (slideB b n).1 (plc [r, c]) t).length = 16 := by rw [iset_len, l]
  have ho2 : okB (iset (slideB b n).1 (plc [r, c]) t) = true := (okB_iff _).2 (iset_all ((okB_iff _).1 o2) _ (by simp [tileOK, inB]; omega))
  have hsum : sumB (iset (slideB b n).1 (plc [r, c]) t) = sumB b + 2 * t := by
    rw [sumB_fs, fs_iset W _ _ _ (by omega), hz, ← sumB_fs, slide_sum hb ok hn]
    rcases (by omega : t = 1 ∨ t = 2) with rfl | rfl
    · have : W 1 = 2 := by decide
      have : W 0 = 0 := by decide
      omega
    · have : W 2 = 4 := by decide
      have : W 0 = 0 := by decide
      omega
  have f1 := sumB_facts ok
  rw [hb] at f1
  have hg : iget (iset (slideB b n).1 (plc [r, c]) t) (plc [r, c]) = t := by rw [iget_iset _ _ _ _ (by omega), if_pos rfl]
  have ht0 : (t == 0) = false := by rw [beq_eq_false_iff_ne]; omega
  have q0 : iget [r, c] 0 = r := rfl
  have q1 : iget [r, c] 1 = c := rfl
  have hia : ∀ x : List Int, impl_Board_at_p [r, c] x = some (plc [r, c]) := fun x => by
    simp only [impl_Board_at_p, impl_Board_at_c, q0, q1, inR4v hr, inR4v hc, cond_true, plc]
  refine ⟨sumB b, _, (slideB b n).1, sum_val F hF hb ok, sum_val F hF hl2 ho2, slide_valT F hb ok hn hF, ?_, ?_, hq⟩
  · show impl_TakeTile_p F (iset (slideB b n).1 (plc [r, c]) t) [r, c] = some ((slideB b n).1, t, true)
    simp only [impl_TakeTile_p, impl_TakeTile_c, impl_IsBoard_eq F _ hl2 hF, ho2, impl_isCell_v, in_eq, q0, q1, hr, hc, hia, hg, ht0, iset_back _ _ t hz (by omega), Option.isSome_some, Option.getD_some, cond_true, cond_false, Bool.not_true]
  · show (IntKind.wrap .i64 (_ - _) == IntKind.wrap .i64 ((2 : Int) * t)) = true
    rw [hsum, wrap_of (by omega) (by omega), wrap_of (by omega) (by omega)]
    exact beq_iff_eq.2 (by omega)
theorem betw_loop (F : Nat) (hF : 1000 < F) {x y : List Int} (hx : x.length = 16) (ok : okB x = true) (d : Int) (o : Bool) (many : Int) (b : List Int) (l M : LL) {k : Nat} {v : LL} (hv : M.take k = v) (hl : v.length = k) (hk : k ≤ M.length) (h128 : k ≤ 128) (hw : v = (allB x).filter fun s => nxt x s == y) :
    laws_FnSteps_l24 F d o k true many b l x y M 0 = some false := by
  rw [← fnd_ft (fun _ => true) false k 0]
  refine loop_find (step := laws_FnSteps_s24 F d o k true many b l x y M) (fun i => i) k _ _ _ (by omega) (by omega) (fun i hi Q kn kx => ?_) fun Q kn kx => ?_
  · have e : rget M i = rget v i := by rw [rgetL, rgetL, ← hv, List.getElem?_take, if_pos hi]
    have hm : rget v i ∈ (allB x).filter fun s => nxt x s == y := by rw [← hw, rgetL, List.getElem?_eq_getElem (by omega)]; exact List.getElem_mem _
    obtain ⟨m1, m2⟩ := List.mem_filter.1 hm
    have m3 := eq_of_beq m2
    obtain ⟨w, hsp⟩ := spec_nxt hx ok F hF m1
    obtain ⟨sd, sr, sc, st, hs4⟩ := list4 (allB_rows x _ m1)
    rw [hs4] at hsp m3
    obtain ⟨nb, sco, oo, h1, h2, _⟩ := do_val F x hx sd sr sc st hF
    have h3 : spec_DoStep_p F x [sd, sr, sc, st] = some (nxt x [sd, sr, sc, st], w, true) := by
      simp only [spec_DoStep_p, spec_DoStep_c, spec_l2Board_eq F x hx hF, ok, hsp, Option.isSome_some, Option.getD_some, cond_true, cond_false, Bool.not_true]
    rw [h3] at h1
    rw [← h1] at h2
    simp only [laws_FnSteps_s24, Int.ofNat_lt, hi, decide_true, cond_true, inR_cast, Int.toNat_natCast, Nat.zero_add, e, hs4, h2, m3, beq_self_eq_true, Option.isSome_some, Option.getD_some, Bool.not_true, cond_false]
  · simp [laws_FnSteps_s24]
theorem law_FnSteps (F : Nat) (code : List Int) (hc : Byt code) (hF : 1000 < F) : laws_FnSteps_p F code = some true := by
  by_cases hbig : (65536 : Int) < ((code.length : Nat) : Int)
  · simp only [laws_FnSteps_p, laws_FnSteps_c, laws_vBig_v, hbig, decide_true, cond_true]
  obtain ⟨cut1, q1, hcut1⟩ := cut_ok hc (by omega) (n := 1) (by omega)
  obtain ⟨cut2, q2, hcut2⟩ := cut_ok hc (by omega) (n := 2) (by omega)
  have q1 : laws_vCut_p code 1 = some cut1 := q1
  have q2 : laws_vCut_p code 2 = some cut2 := q2
  obtain ⟨b, d, d1, hb⟩ := draw_steps hc F hF
  obtain ⟨u, s, d2, hu, hs⟩ := draw_do hcut1 F hF
  obtain ⟨x, y, d3, hx, hy⟩ := draw_betw hcut2 F hF
  obtain ⟨⟨ok, list⟩, a1, a2, a3, a4, a5⟩ := stepsOf_val F b hb d hF
  obtain ⟨nb, sc, fine, b1, b2, b3⟩ := step_facts F hF hu hs
  obtain ⟨there, v, ⟨k, M⟩, c1, c2, c3, c4, c5, c6, c7, c8, c9⟩ := betw_val F x y hx hy hF
  obtain ⟨n1, n2⟩ := next_val F b hb hF
  simp only at a1 a2 a3 a4 a5 c1 c2 c3 c4 c5 c6 c7
  have r1 := vSteps_refl F list (by omega) hF
  have r2 := vSteps_refl F v (by omega) hF
  have hloop : ∀ (o : Bool) (many : Int) (l : LL), laws_FnSteps_l24 F d o k there many b l x y M 0 = some false := fun o many l => by
    cases ht : there with
    | true =>
      obtain ⟨kx, hw⟩ := c9 ht
      exact betw_loop F hF hx kx d o many b l M c4 (by omega) (by omega) (by omega) hw
    | false =>
      obtain ⟨G, rfl⟩ : ∃ G, F = G + 1 := ⟨F - 1, by omega⟩
      simp only [laws_FnSteps_l24, loopC, laws_FnSteps_s24, cond_false]
  have hok : ok = true → okB b = true ∧ ∃ (w : List Int) (sl : Int) (E : Nat) (m : LL), impl_SlideBoard_p F b d = some (w, sl, true) ∧ impl_EmptyCells_p F w = some (E, true, m) ∧ decide ((((nextK b).length : Nat) : Int) < ((list.length : Nat) : Int)) = false ∧
      ((w == b) = true → (((list.length : Nat) : Int) == 0) = true) ∧ ((w == b) = false → (((list.length : Nat) : Int) == IntKind.wrap .i64 ((2 : Int) * ((E : Nat) : Int))) = true) := fun h => by
    obtain ⟨kb, n, hn, rfl, hlist⟩ := a5 h
    obtain ⟨l, o2⟩ := slide_ok hb kb hn
    obtain ⟨r, e1, e2⟩ := impl_empty_eq F (slideB b n).1 hF
    have hr : r.1 = (em (slideB b n).1).length := by rw [e2.1, em_not]
    have hle := em_len (slideB b n).1
    have hmost := next_most b hn l
    refine ⟨kb, (slideB b n).1, (slideB b n).2, (em (slideB b n).1).length, r.2, slide_valT F hb kb hn hF, ?_, ?_, fun hq => ?_, fun hq => ?_⟩
    · show impl_EmptyCells_p F (slideB b n).1 = some ((em (slideB b n).1).length, true, r.2)
      simp only [impl_EmptyCells_p, impl_EmptyCells_c, impl_IsBoard_eq F _ l hF, o2, e1, hr, Option.isSome_some, Option.getD_some, cond_true, cond_false, Bool.not_true]
    · rw [hlist]; exact decide_eq_false (by omega)
    · rw [hlist, stepsB, hq]; rfl
    · rw [hlist, stepsB, hq, cond_false, stepsOn_len, wrap_of (by omega) (by omega)]
      exact beq_iff_eq.2 (by omega)
  simp only [laws_FnSteps_p, laws_FnSteps_c, laws_vBig_v, hbig, decide_false, cond_false, d1, d2, d3, q1, q2, subn_self, a1, a2, b1, b2, c1, c2, n1, n2, subn_take0, List.take_length, c4, r1, r2, hloop, beq_selfL, Bool.and_self, Option.isSome_some, Option.getD_some, cond_true, beq_self_eq_true, Bool.not_true]
  clear a1 a2 b1 b2 c1 c2 n1 n2 d1 d2 d3 q1 q2 r1 r2 hloop c4 c9 a5 a4 c8
  cases ho : ok
  · cases hf : fine
    · simp only [cond_true, cond_false, Bool.not_false]
    · have b4 := b3 hf
      obtain ⟨X, Y, w, f1, f2, f3, f4, f5, f6⟩ := b4
      simp only [f1, f2, f3, f4, f5, f6, beq_self_eq_true, Option.isSome_some, Option.getD_some, cond_true, cond_false, Bool.not_true, Bool.not_false]
  · have g0 := hok ho
    obtain ⟨kb, w2, sl2, E, m, g1, g2, g3, g4, g5⟩ := g0
    rw [kb]
    cases hf : fine
    · cases hq : w2 == b
      · have g6 := g5 hq
        simp only [g1, g2, g3, g6, hq, Option.isSome_some, Option.getD_some, cond_true, cond_false, Bool.not_true, Bool.not_false]
      · have g6 := g4 hq
        simp only [g1, g2, g3, g6, hq, Option.isSome_some, Option.getD_some, cond_true, cond_false, Bool.not_true, Bool.not_false]
    · have b4 := b3 hf
      obtain ⟨X, Y, w, f1, f2, f3, f4, f5, f6⟩ := b4
      cases hq : w2 == b
      · have g6 := g5 hq
        simp only [f1, f2, f3, f4, f5, f6, g1, g2, g3, g6, hq, beq_self_eq_true, Option.isSome_some, Option.getD_some, cond_true, cond_false, Bool.not_true, Bool.not_false]
      · have g6 := g4 hq
        simp only [f1, f2, f3, f4, f5, f6, g1, g2, g3, g6, hq, beq_self_eq_true, Option.isSome_some, Option.getD_some, cond_true, cond_false, Bool.not_true, Bool.not_false]
end Go.Lv.P
