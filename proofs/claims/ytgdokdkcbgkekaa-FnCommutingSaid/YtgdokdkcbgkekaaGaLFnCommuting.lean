/-
FnCommuting: true for every input.
-/
import Derived.Test.YtgdokdkcbgkekaaGaP0
import Derived.Test.YtgdokdkcbgkekaaGaP2
import Derived.Test.YtgdokdkcbgkekaaGaP3
import Derived.Test.YtgdokdkcbgkekaaGaP4
import Derived.Test.YtgdokdkcbgkekaaGaPDrawF
import Derived.Test.YtgdokdkcbgkekaaGaPDrawS
import Derived.Test.YtgdokdkcbgkekaaGaPCut
import Derived.Test.YtgdokdkcbgkekaaGaPCommute
import Derived.Test.YtgdokdkcbgkekaaGaPTrans
namespace Go.Lv.P
open Go Go.Lv
set_option linter.unusedVariables false
set_option linter.unusedSimpArgs false
set_option linter.unusedSectionVars false

theorem draw_commute {c : List Int} (hc : Byt c) (F : Nat) (hF : 1000 < F) : ∃ (b : List Int) (d e : Int), spec_DrawDoCommute_p F c = some (b, d, e) ∧ b.length = 16 := by
  obtain ⟨b, a1, s1, e1, l1, c1⟩ := formed_ok hc F hF (n := 0) (by omega) (a := 0) (s := 0) ⟨by omega, by omega⟩
  obtain ⟨v2, a2, s2, e2, c2⟩ := side_ok hc (by omega) c1 (s := s1)
  obtain ⟨v3, a3, s3, e3, c3⟩ := side_ok hc (by omega) c2 (s := s2)
  exact ⟨b, v2, v3, by simp only [spec_DrawDoCommute_p, spec_DrawDoCommute_c, e1, e2, e3, Option.isSome_some, Option.getD_some, cond_true], l1⟩
theorem draw_pairs {c : List Int} (hc : Byt c) (F : Nat) (hF : 1000 < F) : ∃ (b : List Int), spec_DrawCommutingPairs_p F c = some b ∧ b.length = 16 := by
  obtain ⟨b, a1, s1, e1, l1, c1⟩ := formed_ok hc F hF (n := 0) (by omega) (a := 0) (s := 0) ⟨by omega, by omega⟩
  exact ⟨b, by simp only [spec_DrawCommutingPairs_p, spec_DrawCommutingPairs_c, spec_DrawFirstForm_p, spec_DrawFirstForm_c, e1, Option.isSome_some, Option.getD_some, cond_true], l1⟩
theorem fnd_ff {X : Type} (f : Nat → X) (e : X) : ∀ (m i : Nat), fnd (fun _ => false) f e i m = e
  | 0, _ => rfl
  | m + 1, i => by simp only [fnd, cond_false]; exact fnd_ff f e m (i + 1)
theorem vPairs_refl (F : Nat) (a : LL) (ha : a.length ≤ 900) (hF : 1000 < F) : laws_vPairs_p F a a = some true := by
  have h : laws_vPairs_l4 F a a 0 = some (fnd (fun _ => false) (fun _ => true) false 0 a.length) := by
    refine loop_find (fun i => i) a.length _ _ _ (by omega) (by omega) (fun i hi Q kn kx => ?_) fun Q kn kx => ?_
    · simp [laws_vPairs_s4, inR_cast, hi]
    · simp [laws_vPairs_s4]
  simp only [laws_vPairs_p, laws_vPairs_c, h, fnd_ff, Option.isSome_some, Option.getD_some, cond_true, cond_false, beq_self_eq_true, Bool.not_true]
theorem form5 (F : Nat) {b : List Int} (hb : b.length = 16) (ok : okB b = true) (hF : 1000 < F) : impl_FormBoard_p F b 5 = some (trB b, true) := by
  have h1 := impl_IsBoard_eq F b hb hF
  rw [ok] at h1
  have hf : impl_isForm_v 5 = true := rfl
  obtain ⟨G, rfl⟩ : ∃ G, F = G + 1001 := ⟨F - 1001, by omega⟩
  have h2 : impl_Board_form_p (G + 1001) b 5 = some (trB b) := by
    clear h1 ok
    obtain ⟨x0, x1, x2, x3, x4, x5, x6, x7, x8, x9, xa, xb, xc, xd, xe, xf, rfl⟩ := list16 hb
    kernel_rfl
  simp only [impl_FormBoard_p, impl_FormBoard_c, h1, hf, h2, Option.isSome_some, Option.getD_some, cond_true, cond_false, Bool.not_true]
theorem do_slides (F : Nat) {b : List Int} (hb : b.length = 16) (ok : okB b = true) (hF : 1000 < F) {d e : Nat} (hd : d < 4) (he : e < 4) : ∃ s, impl_DoSlides_p F b [(d : Int), (e : Int)] = some ((slideB (slideB b d).1 e).1, s, true) := by
  have h1 := impl_IsBoard_eq F b hb hF
  rw [ok] at h1
  obtain ⟨m, hm⟩ := impl_slide hb ok F hF hd
  obtain ⟨l, o⟩ := slide_ok hb ok hd
  obtain ⟨m2, hm2⟩ := impl_slide l o F hF he
  obtain ⟨G, rfl⟩ : ∃ G, F = G + 3 := ⟨F - 3, by omega⟩
  have g0 : iget [(d : Int), (e : Int)] (Int.toNat 0) = d := rfl
  have g1 : iget [(d : Int), (e : Int)] (Int.toNat 1) = e := rfl
  have w0 : IntKind.wrap .i64 ((0 : Int) + 1) = 1 := by decide
  have w1 : IntKind.wrap .i64 ((1 : Int) + 1) = 2 := by decide
  have i0 : inR 0 2 = true := by decide
  have i1 : inR 1 2 = true := by decide
  have d0 : decide ((0 : Int) < 2) = true := by decide
  have d1 : decide ((1 : Int) < 2) = true := by decide
  have d2 : decide ((2 : Int) < 2) = false := by decide
  have hl : [(d : Int), (e : Int)].length = 2 := rfl
  have e' : (([(d : Int), (e : Int)].length : Nat) : Int) = 2 := rfl
  have v0 : impl_areDirections_f1_v (d : Int) = false := by
    have : inB (d : Int) 0 3 = true := by simp [inB]; omega
    simp only [impl_areDirections_f1_v, impl_isDirection_v, in_eq, this, Bool.not_true]
  have v1 : impl_areDirections_f1_v (e : Int) = false := by
    have : inB (e : Int) 0 3 = true := by simp [inB]; omega
    simp only [impl_areDirections_f1_v, impl_isDirection_v, in_eq, this, Bool.not_true]
  have ha : slices_IndexFunc_intint_impl_areDirections_f1_l2 (G + 3) [(d : Int), (e : Int)] 2 0 = some (false, default) := by
    simp only [slices_IndexFunc_intint_impl_areDirections_f1_l2, loopC, slices_IndexFunc_intint_impl_areDirections_f1_s2, hl, g0, g1, w0, w1, i0, i1, d0, d1, d2, v0, v1, cond_true, cond_false]
  have hm1 : decide ((0 : Int) ≤ -1) = false := by decide
  have har : impl_areDirections_p (G + 3) [(d : Int), (e : Int)] = some true := by
    simp only [impl_areDirections_p, impl_areDirections_c, slices_ContainsFunc_intint_impl_areDirections_f1_p, slices_ContainsFunc_intint_impl_areDirections_f1_c, slices_IndexFunc_intint_impl_areDirections_f1_p, slices_IndexFunc_intint_impl_areDirections_f1_c, e', ha, hm1, Option.isSome_some, Option.getD_some, cond_true, cond_false, Bool.not_false]
  have h : ∃ s, impl_DoSlides_l5 (G + 3) [(d : Int), (e : Int)] 2 0 0 b = some (s, (slideB (slideB b d).1 e).1) := by
    refine ⟨IntKind.wrap .i64 (IntKind.wrap .i64 (0 + (slideB b d).2) + (slideB (slideB b d).1 e).2), ?_⟩
    simp only [impl_DoSlides_l5, loopC, impl_DoSlides_s5, hl, g0, g1, w0, w1, i0, i1, d0, d1, d2, hm, hm2, Option.isSome_some, Option.getD_some, cond_true, cond_false]
  obtain ⟨s, h⟩ := h
  exact ⟨s, by simp only [impl_DoSlides_p, impl_DoSlides_c, h1, e', har, h, Option.isSome_some, Option.getD_some, cond_true, cond_false, Bool.not_true]⟩
theorem tr_comm {b : List Int} (hb : b.length = 16) (ok : okB b = true) {d e : Nat} (hd : d < 4) (he : e < 4) : commV (trB b) d e = commV b (sgD d) (sgD e) := by
  have sd := sg_lt hd
  have se := sg_lt he
  obtain ⟨l1, o1⟩ := slide_ok hb ok sd
  obtain ⟨l2, o2⟩ := slide_ok hb ok se
  unfold commV
  rw [tr_slide hb ok hd, tr_slide hb ok he, tr_slide l1 o1 he, tr_slide l2 o2 hd, tr_inj (slide_ok l1 o1 se).1 (slide_ok l2 o2 sd).1]
theorem tr_pairs {b : List Int} (hb : b.length = 16) (ok : okB b = true) : (pairsV (commV (trB b))).length = (pairsV (commV b)).length := by
  rw [pairs_len, pairs_len, tr_comm hb ok (by decide) (by decide), tr_comm hb ok (by decide) (by decide), tr_comm hb ok (by decide) (by decide), tr_comm hb ok (by decide) (by decide), tr_comm hb ok (by decide) (by decide), tr_comm hb ok (by decide) (by decide)]
  show (commV b 1 0).toNat + (commV b 1 3).toNat + (commV b 1 2).toNat + (commV b 0 3).toNat + (commV b 0 2).toNat + (commV b 3 2).toNat = _
  rw [comm_symm b 1 0, comm_symm b 3 2]; omega
theorem pairs_loop (F : Nat) (hF : 1000 < F) {u : List Int} (hu : u.length = 16) (ok : okB u = true) : laws_FnCommuting_l24 F u (pairsV (commV u)) 0 = some false := by
  have hl := pairs_le (commV u)
  rw [← fnd_ff (fun _ => true) false (pairsV (commV u)).length 0]
  refine loop_find (step := laws_FnCommuting_s24 F u (pairsV (commV u))) (fun i => i) (pairsV (commV u)).length _ _ _ (by omega) (by omega) (fun i hi Q kn kx => ?_) fun Q kn kx => ?_
  · have hm : rget (pairsV (commV u)) i ∈ pairsV (commV u) := by rw [rgetL, List.getElem?_eq_getElem hi]; exact List.getElem_mem hi
    obtain ⟨d, e, h1, h2, h3, h4⟩ := pairs_mem _ _ hm
    have g0 : iget [(d : Int), (e : Int)] 0 = d := rfl
    have g1 : iget [(d : Int), (e : Int)] 1 = e := rfl
    have i1 : inB (d : Int) 0 3 = true := by simp [inB]; omega
    have i2 : inB (e : Int) 0 3 = true := by simp [inB]; omega
    have hv := (do_val F u hu d e hF).2
    have hdo : doV u d e = (true, true) := by simp only [doV, ok, i1, i2, Bool.and_self, cond_true, Int.toNat_natCast, h3]
    rw [hdo] at hv
    have hle : decide (((e : Nat) : Int) ≤ ((d : Nat) : Int)) = false := decide_eq_false (by omega)
    simp only [laws_FnCommuting_s24, Int.ofNat_lt, hi, decide_true, cond_true, inR_cast, Int.toNat_natCast, Nat.zero_add, h4, g0, g1, hv, hle, Option.isSome_some, Option.getD_some, Bool.not_true, cond_false]
  · simp [laws_FnCommuting_s24]
theorem law_FnCommuting (F : Nat) (code : List Int) (hc : Byt code) (hF : 1000 < F) : laws_FnCommuting_p F code = some true := by
  by_cases hbig : (65536 : Int) < ((code.length : Nat) : Int)
  · simp only [laws_FnCommuting_p, laws_FnCommuting_c, laws_vBig_v, hbig, decide_true, cond_true]
  obtain ⟨cut, q1, hcut⟩ := cut_ok hc (by omega) (n := 1) (by omega)
  have q1 : laws_vCut_p code 1 = some cut := q1
  obtain ⟨b, d, e, d1, hb⟩ := draw_commute hc F hF
  obtain ⟨u, d2, hu⟩ := draw_pairs hcut F hF
  obtain ⟨v1, v2⟩ := do_val F b hb d e hF
  obtain ⟨_, v3⟩ := do_val F b hb e d hF
  have one : (doV b d e).2 = true → ∃ x s y t, impl_DoSlides_p F b [d, e] = some (x, s, true) ∧ impl_DoSlides_p F b [e, d] = some (y, t, true) ∧ (doV b e d).2 = true ∧ ((doV b d e).1 == (x == y)) = true ∧ ((doV b e d).1 == (doV b d e).1) = true ∧ ((d == e) = true → (doV b d e).1 = true) := fun h => by
    unfold doV at h ⊢
    cases hq : (okB b && inB d 0 3 && inB e 0 3) with
    | false => rw [hq] at h; cases h
    | true =>
      simp only [Bool.and_eq_true] at hq
      obtain ⟨⟨h1, h2⟩, h3⟩ := hq
      rw [h1, h2, h3]
      simp only [Bool.and_self, cond_true]
      simp [inB] at h2 h3
      obtain ⟨k, rfl⟩ := Int.eq_ofNat_of_zero_le h2.1
      obtain ⟨l, rfl⟩ := Int.eq_ofNat_of_zero_le h3.1
      obtain ⟨s, t1⟩ := do_slides F hb h1 hF (d := k) (e := l) (by omega) (by omega)
      obtain ⟨t, t2⟩ := do_slides F hb h1 hF (d := l) (e := k) (by omega) (by omega)
      simp only [Int.toNat_natCast]
      refine ⟨_, s, _, t, t1, t2, trivial, beq_self_eq_true _, ?_, fun h => ?_⟩
      · rw [comm_symm b l k]; exact beq_self_eq_true _
      · have h' : (k : Int) = (l : Int) := by simpa using h
        have : k = l := by omega
        subst this
        exact beq_self_eq_true _
  have pv : ∃ P : Bool × LL, spec_CommutingPairs_p F u = some P ∧ impl_CommutingPairs_p F u = some P ∧ P.2.length ≤ 6 ∧ (P.1 = true → impl_FormBoard_p F u 5 = some (trB u, true) ∧ ∃ o : LL, impl_CommutingPairs_p F (trB u) = some (true, o) ∧ o.length = P.2.length ∧ laws_FnCommuting_l24 F u P.2 0 = some false) := by
    cases hB : okB u with
    | false =>
      refine ⟨(false, []), ?_, ?_, by simp, fun h => by cases h⟩
      · simp only [spec_CommutingPairs_p, spec_CommutingPairs_c, spec_l2Board_eq F u hu hF, hB, Option.isSome_some, Option.getD_some, cond_true, Bool.not_false]
      · simp only [impl_CommutingPairs_p, impl_CommutingPairs_c, impl_IsBoard_eq F u hu hF, hB, Option.isSome_some, Option.getD_some, cond_true, Bool.not_false]
    | true =>
      have a1 := spec_pairs hu hB F hF
      have a2 := impl_pairs hu hB F hF
      have a3 := pairs_le (commV u)
      have a4 := impl_pairs (tr_len u) (tr_ok hu hB) F hF
      have a5 := tr_pairs hu hB
      have a6 := pairs_loop F hF hu hB
      have a7 := form5 F hu hB hF
      revert a1 a2 a3 a4 a5 a6 a7
      generalize pairsV (commV u) = L
      generalize pairsV (commV (trB u)) = o
      intro a1 a2 a3 a4 a5 a6 a7
      exact ⟨(true, L), a1, a2, a3, fun _ => ⟨a7, o, a4, a5, a6⟩⟩
  obtain ⟨P, p1, p2, p6, p3⟩ := pv
  have e0 := vPairs_refl F P.2 (by omega) hF
  have hsix : decide ((6 : Int) < ((P.2.length : Nat) : Int)) = false := decide_eq_false (by omega)
  generalize hA : doV b d e = A at *
  generalize hB : doV b e d = B at *
  simp only [laws_FnCommuting_p, laws_FnCommuting_c, laws_vBig_v, hbig, decide_false, cond_false, d1, q1, subn_self, d2, v1, v2, v3, p1, p2, e0, hsix, Option.isSome_some, Option.getD_some, cond_true, beq_self_eq_true, Bool.not_true]
  clear v1 v2 v3 p1 p2 e0 d1 d2 q1 hA hB
  cases hp : P.1
  · cases ha : A.2
    · simp only [cond_true, cond_false, Bool.not_false]
    · obtain ⟨x, s, y, t, t1, t2, t3, t4, t5, t6⟩ := one ha
      clear one p3
      cases hde : d == e
      · simp only [t1, t2, t3, t4, t5, Option.isSome_some, Option.getD_some, cond_true, cond_false, Bool.not_true, Bool.not_false]
      · have t7 := t6 hde
        rw [t7] at t4 t5
        simp only [t1, t2, t3, t4, t5, t7, Option.isSome_some, Option.getD_some, cond_true, cond_false, Bool.not_true, Bool.not_false]
  · obtain ⟨f1, o, f2, f3, f4⟩ := p3 hp
    have hlen : ((((o.length : Nat) : Int)) == ((P.2.length : Nat) : Int)) = true := by rw [f3]; exact beq_self_eq_true _
    clear p3
    cases ha : A.2
    · simp only [f1, f2, f4, hlen, hsix, beq_selfL, Bool.and_self, Option.isSome_some, Option.getD_some, cond_true, cond_false, Bool.not_true, Bool.not_false]
    · obtain ⟨x, s, y, t, t1, t2, t3, t4, t5, t6⟩ := one ha
      clear one
      cases hde : d == e
      · simp only [t1, t2, t3, t4, t5, f1, f2, f4, hlen, hsix, beq_selfL, Bool.and_self, Option.isSome_some, Option.getD_some, cond_true, cond_false, Bool.not_true, Bool.not_false]
      · have t7 := t6 hde
        rw [t7] at t4 t5
        simp only [t1, t2, t3, t4, t5, t7, f1, f2, f4, hlen, hsix, beq_selfL, Bool.and_self, Option.isSome_some, Option.getD_some, cond_true, cond_false, Bool.not_true, Bool.not_false]
end Go.Lv.P
