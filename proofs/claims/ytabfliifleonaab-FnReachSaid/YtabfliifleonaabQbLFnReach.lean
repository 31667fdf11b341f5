/-
FnReach: true for every input.
-/
import Derived.Test.YtabfliifleonaabQbP4
import Derived.Test.YtabfliifleonaabQbP5
import Derived.Test.YtabfliifleonaabQbPG4
import Derived.Test.YtabfliifleonaabQbPG2
import Derived.Test.YtabfliifleonaabQbPG5
import Derived.Test.YtabfliifleonaabQbPG3
namespace Go.Lv.P
open Go Go.Lv
set_option linter.unusedVariables false
set_option linter.unusedSimpArgs false
set_option linter.unusedSectionVars false

theorem fnd_fr {X : Type} (f : Nat → X) (e : X) : ∀ (m i : Nat), fnd (fun _ => false) f e i m = e
  | 0, _ => rfl
  | m + 1, i => by simp only [fnd, cond_false]; exact fnd_fr f e m (i + 1)
theorem vBoards_refl (F : Nat) (a : LL) (ha : a.length ≤ 20000) (hF : 2000000 < F) : laws_vBoards_p F a a = some true := by
  have h : laws_vBoards_l4 F a a 0 = some (fnd (fun _ => false) (fun _ => true) false 0 a.length) := by
    refine loop_find (fun i => i) a.length _ _ _ (by omega) (by omega) (fun i hi Q kn kx => ?_) fun Q kn kx => ?_
    · simp [laws_vBoards_s4, inR_cast, hi]
    · simp [laws_vBoards_s4]
  simp only [laws_vBoards_p, laws_vBoards_c, h, fnd_fr, Option.isSome_some, Option.getD_some, cond_true, cond_false, beq_self_eq_true, Bool.not_true]
theorem vInts_refl (F : Nat) (a : List Int) (ha : a.length ≤ 20000) (hF : 2000000 < F) : laws_vInts_p F a a = some true := by
  have h : laws_vInts_l4 F a a 0 = some (fnd (fun _ => false) (fun _ => true) false 0 a.length) := by
    refine loop_find (fun i => i) a.length _ _ _ (by omega) (by omega) (fun i hi Q kn kx => ?_) fun Q kn kx => ?_
    · simp [laws_vInts_s4, inR_cast, hi]
    · simp [laws_vInts_s4]
  simp only [laws_vInts_p, laws_vInts_c, h, fnd_fr, Option.isSome_some, Option.getD_some, cond_true, cond_false, beq_self_eq_true, Bool.not_true]
theorem stp_run : ∀ (w : List Nat) (b : List Int), stp w b = runW sl b w
  | [], b => rfl
  | d :: w, b => by rw [stp_cons, stp_run w]; rfl
theorem nw_nat (w : List Nat) : (nw w).map Int.toNat = w := by
  unfold nw
  rw [List.map_map]
  conv => rhs; rw [← List.map_id w]
  exact List.map_congr_left fun x _ => Int.toNat_natCast x
theorem nw_sides {w : List Nat} (h : ∀ d ∈ w, d < 4) : sidesL (nw w) = true := by
  simp only [sidesL, List.all_eq_true, nw, List.mem_map]
  rintro x ⟨d, hd, rfl⟩
  have := h d hd
  simp [inB]; omega
theorem asc_get : ∀ {l : LL}, Asc l → ∀ i j, i < j → j < l.length → ltL (rget l i) (rget l j) = true
  | [], _, i, j, _, h => by simp at h
  | a :: l, ⟨h1, h2⟩, 0, j + 1, _, h => by
    have hj : j < l.length := by simpa using h
    show ltL a (rget l j) = true
    refine h1 _ ?_
    rw [rgetL, List.getElem?_eq_getElem hj]; exact List.getElem_mem _
  | a :: l, ⟨h1, h2⟩, i + 1, j + 1, hij, h => asc_get h2 i j (by omega) (by simpa using h)
theorem rbs_ok (F : Nat) {b : List Int} (g : GoodB b) {n : Nat} (hn : n ≤ 6) (hF : 2000000 < F) : ∃ (k : Nat) (m : LL), impl_ReachBySlides_p F b n = some (k, true, m) ∧ m.take k = reachL b n ∧ k = (reachL b n).length ∧ k ≤ m.length := by
  obtain ⟨r, h1, h2, h3, h4⟩ := impl_rbs F g.1 g.2 hn hF
  exact ⟨r.1, r.2, h1, h3, h2, h4⟩
theorem within_loop (F : Nat) (hF : 2000000 < F) (n : Int) (a : Nat) (o : Bool) (few : Int) (kn0 : Bool) {k : Nat} (told : Bool) (b : List Int) (all : LL) (x y first en : List Int) {m : LL} (hk : k ≤ m.length) (h20 : k ≤ 20000) :
    laws_FnReach_l18 F n a o few kn0 k told b all x y first en m false 0 = some ((m.take k).contains y) := by
  have h := loop_fold (step := laws_FnReach_s18 F n a o few kn0 k told b all x y first en m) (fun i (s : Bool) => (s, i)) k (fun i s => s || (rget m i == y)) (fun s => s) (fun _ _ => True) (F := F) (by omega) (by omega) (a := false) trivial
    (fun i s hi _ => ⟨trivial, fun Q kn kx => by
      simp only [laws_FnReach_s18, Int.ofNat_lt, hi, decide_true, cond_true, inR_cast, Int.toNat_natCast, Nat.zero_add]
      cases s <;> rfl⟩) (fun s _ Q kn kx => by simp [laws_FnReach_s18])
  have e : ∀ (q i : Nat) (s : Bool), i + q = k → fld (fun i s => s || (rget m i == y)) i q s = (s || ((m.take k).drop i).contains y) := by
    intro q
    induction q with
    | zero =>
      intro i s hi
      rw [List.drop_eq_nil_of_le (by rw [List.length_take]; omega)]
      simp [fld]
    | succ q ih =>
      intro i s hi
      have hil : i < (m.take k).length := by rw [List.length_take]; omega
      rw [fld, ih (i + 1) _ (by omega), List.drop_eq_getElem_cons hil, List.contains_cons, Bool.or_assoc]
      have e1 : (m.take k)[i] = rget m i := by rw [rgetL, List.getElem_take, List.getElem?_eq_getElem (by omega)]; rfl
      have e2 : (rget m i == y) = (y == rget m i) := by rw [Bool.eq_iff_iff, beq_iff_eq, beq_iff_eq]; exact eq_comm
      rw [e1, e2]
  have h1 : laws_FnReach_l18 F n a o few kn0 k told b all x y first en m false 0 = some (fld (fun i s => s || (rget m i == y)) 0 k false) := h.1
  rw [h1, e k 0 false (by omega), List.drop_zero, Bool.false_or]
theorem less_loop (F : Nat) (hF : 2000000 < F) (n : Int) (a : Nat) (o : Bool) {k : Nat} (b : List Int) (all : LL) (y : List Int) {m : LL} (hk : k ≤ m.length) (h20 : k ≤ 20000) (hc : (m.take k).contains y = false) :
    laws_FnReach_l28 F n a o k b all y m 0 = some false := by
  rw [← fnd_fr (fun _ => true) false k 0]
  refine loop_find (step := laws_FnReach_s28 F n a o k b all y m) (fun i => i) k _ _ _ (by omega) (by omega) (fun i hi Q kn kx => ?_) fun Q kn kx => ?_
  · have e : (rget m i == y) = false := by
      cases hq : rget m i == y with
      | false => rfl
      | true =>
        have : (m.take k).contains y = true := by
          rw [List.contains_iff_mem, ← eq_of_beq hq, rgetL, List.getElem?_eq_getElem (by omega)]
          have hil : i < (m.take k).length := by rw [List.length_take]; omega
          have e1 : (m.take k)[i] = m[i] := List.getElem_take
          rw [Option.getD_some, ← e1]; exact List.getElem_mem _
        rw [hc] at this; cases this
    simp only [laws_FnReach_s28, Int.ofNat_lt, hi, decide_true, cond_true, inR_cast, Int.toNat_natCast, Nat.zero_add, e, cond_false]
  · simp [laws_FnReach_s28]
theorem all_loop (F : Nat) (hF : 2000000 < F) {b : List Int} (g : GoodB b) {n k : Nat} {m : LL} (hv : m.take k = reachL b n) (hl : (reachL b n).length = k) (hk : k ≤ m.length) (h20 : k ≤ 20000) :
    laws_FnReach_l38 F k (sumB b) m 0 = some false := by
  have ho := reachL_ok g n
  have hget : ∀ i, i < k → rget m i = rget (reachL b n) i := fun i hi => by rw [rgetL, rgetL, ← hv, List.getElem?_take, if_pos hi]
  have hmem : ∀ i, i < k → rget (reachL b n) i ∈ reachL b n := fun i hi => by rw [rgetL, List.getElem?_eq_getElem (by omega)]; exact List.getElem_mem _
  rw [← fnd_fr (fun _ => true) false k 0]
  refine loop_find (step := laws_FnReach_s38 F k (sumB b) m) (fun i => i) k _ _ _ (by omega) (by omega) (fun i hi Q kn kx => ?_) fun Q kn kx => ?_
  · have gi := ho.1 _ (hmem i hi)
    obtain ⟨w, w1, w2, w3⟩ := (reachL_mem n _).1 (hmem i hi)
    have hs : sumB (rget (reachL b n) i) = sumB b := by rw [← w3]; exact run_sum g w2
    have hsum := sum_val F (by omega) gi.1 gi.2
    rw [hs] at hsum
    by_cases h0 : 0 < i
    · have hp : IntKind.wrap .i64 ((i : Int) - 1) = ((i - 1 : Nat) : Int) := by rw [wrap_of (by omega) (by omega)]; omega
      have hi1 : i - 1 < k := by omega
      have gp := ho.1 _ (hmem (i - 1) hi1)
      have hlt := asc_get ho.2 (i - 1) i (by omega) (by omega)
      have hless : impl_LessBoard_p F (rget (reachL b n) (i - 1)) (rget (reachL b n) i) = some (true, true) := by
        have hc : cmpL (rget (reachL b n) (i - 1)) (rget (reachL b n) i) = -1 := by unfold cmpL; rw [hlt]; rfl
        simp only [impl_LessBoard_p, impl_LessBoard_c, impl_IsBoard_eq F _ gp.1 (show 1000 < F by omega), impl_IsBoard_eq F _ gi.1 (show 1000 < F by omega), gp.2, gi.2, impl_Board_order_cmp F (by omega) gp.1 gi.1, hc, Option.isSome_some, Option.getD_some, cond_true, cond_false, Bool.not_true]
        rfl
      have hd : decide ((0 : Int) < (i : Int)) = true := decide_eq_true (by omega)
      simp only [laws_FnReach_s38, Int.ofNat_lt, hi, decide_true, cond_true, inR_cast, Int.toNat_natCast, Nat.zero_add, hget i hi, hsum, hp, hi1, hget (i - 1) hi1, hless, hd, beq_self_eq_true, Option.isSome_some, Option.getD_some, Bool.not_true, cond_false]
    · have hd : decide ((0 : Int) < (i : Int)) = false := decide_eq_false (by omega)
      simp only [laws_FnReach_s38, Int.ofNat_lt, hi, decide_true, cond_true, inR_cast, Int.toNat_natCast, Nat.zero_add, hget i hi, hsum, hd, beq_self_eq_true, Option.isSome_some, Option.getD_some, Bool.not_true, cond_false]
  · simp [laws_FnReach_s38]
/-- what the fewest slides are -/
theorem few_facts (F : Nat) (hF : 2000000 < F) {x y : List Int} (hx : x.length = 16) (hy : y.length = 16) : ∃ (few : Int) (fine : Bool) (first : List Int), spec_FewestSlides_p F x y = some (few, fine) ∧ impl_FewestSlides_p F x y = some (few, fine) ∧ spec_FirstSlides_p F x y = some (fine, first) ∧ impl_FirstSlides_p F x y = some (fine, first) ∧ first.length ≤ 6 ∧
    (fine = true → ∃ (S : Int) (k : Nat) (m : LL), impl_DoSlides_p F x first = some (y, S, true) ∧ impl_ReachBySlides_p F x few = some (k, true, m) ∧ (((first.length : Nat) : Int) == few) = true ∧ k ≤ m.length ∧ k ≤ 20000 ∧ (m.take k).contains y = true ∧
      (decide ((0 : Int) < few) = true → ∃ (k2 : Nat) (m2 : LL), impl_ReachBySlides_p F x (IntKind.wrap .i64 (few - 1)) = some (k2, true, m2) ∧ k2 ≤ m2.length ∧ k2 ≤ 20000 ∧ (m2.take k2).contains y = false)) := by
  have a1 := spec_fewest F hx hy (show 1000000 < F by omega)
  have a2 := impl_fewest F hx hy hF
  have a3 := spec_first F hx hy hF
  have a4 := impl_first F hx hy hF
  cases hk : (okB x && okB y) with
  | false =>
    rw [hk] at a1 a2 a3 a4
    exact ⟨_, false, _, a1, a2, a3, a4, by simp, fun h => by cases h⟩
  | true =>
    rw [hk, cond_true] at a1 a2 a3 a4
    simp only [Bool.and_eq_true] at hk
    have g : GoodB x := ⟨hx, hk.1⟩
    rcases road x y 7 with ⟨h1, h2⟩ | ⟨n, w, h0, h1, h2, h3, h4⟩
    · rw [h1] at a1 a2 a3 a4
      exact ⟨_, false, _, a1, a2, a3, a4, by simp, fun h => by cases h⟩
    · rw [h1] at a1 a2 a3 a4
      obtain ⟨w1, w2, w3⟩ := find_len h2
      have e1 : fewR (some (nw w)) = ((n : Int), true) := by simp only [fewR, nw_len, w1]
      rw [e1] at a1 a2
      obtain ⟨k, m, r1, r2, r3, r4⟩ := rbs_ok F g (show n ≤ 6 by omega) hF
      have hs := reachL_small x (n := n) (by omega)
      refine ⟨_, true, nw w, a1, a2, a3, a4, by rw [nw_len]; omega, fun _ => ⟨(doS x (nw w)).2, k, m, ?_, r1, ?_, r4, by omega, by rw [r2]; exact h3, fun hpos => ?_⟩⟩
      · rw [doSl_val F hx (nw w) (by rw [nw_len]; omega) (by omega), hk.1, nw_sides w2, doS_fst, nw_nat, stp_run, w3]; rfl
      · rw [nw_len, w1]; exact beq_self_eq_true _
      · have hp := of_decide_eq_true hpos
        have hw : IntKind.wrap .i64 ((n : Int) - 1) = ((n - 1 : Nat) : Int) := by rw [wrap_of (by omega) (by omega)]; omega
        obtain ⟨k2, m2, q1, q2, q3, q4⟩ := rbs_ok F g (show n - 1 ≤ 6 by omega) hF
        have hs2 := reachL_small x (n := n - 1) (by omega)
        rw [hw]
        exact ⟨k2, m2, q1, q4, by omega, by rw [q2]; exact h4 (n - 1) (by omega)⟩
theorem law_FnReach (F : Nat) (code : List Int) (hc : Byt code) (hF : 2000000 < F) : laws_FnReach_p F code = some true := by
  have hF' : 1000 < F := by omega
  by_cases hbig : (65536 : Int) < ((code.length : Nat) : Int)
  · simp only [laws_FnReach_p, laws_FnReach_c, laws_vBig_v, hbig, decide_true, cond_true]
  obtain ⟨cut1, q1, hcut1⟩ := cut_ok hc (by omega) (n := 1) (by omega)
  have q1 : laws_vCut_p code 1 = some cut1 := q1
  obtain ⟨b, n, d1, hb⟩ := draw_rbs hc F hF'
  obtain ⟨x, y, d2, hx, hy⟩ := draw_few hcut1 F hF'
  obtain ⟨k, m, v, ok, a1, a2, a3, a4, a5, a6, a7⟩ := rbs_val F b hb n hF
  obtain ⟨few, fine, first, b1, b2, b3, b4, b5, b6⟩ := few_facts F hF hx hy
  have r1 := vBoards_refl F v (by omega) hF
  have r2 := vInts_refl F first (by omega) hF
  have hok : ok = true → impl_SumOf_p F b = some (sumB b, true) ∧ decide (((k : Nat) : Int) < 1) = false ∧ ((n == 0) = true → (((k : Nat) : Int) == 1) = true) ∧ laws_FnReach_l38 F k (sumB b) m 0 = some false := fun h => by
    obtain ⟨kb, j, rfl, hj, hv⟩ := a7 h
    have g : GoodB b := ⟨hb, kb⟩
    have hmem : b ∈ reachL b j := (reachL_mem j b).2 ⟨[], by simp, by simp, rfl⟩
    have hpos := List.length_pos_of_mem hmem
    rw [← hv, a4] at hpos
    refine ⟨sum_val F hF' hb kb, decide_eq_false (by omega), fun h0 => ?_, all_loop F hF g (by rw [a3, hv]) (by rw [← hv, a4]) a5 a6⟩
    have h0 : j = 0 := by have := eq_of_beq h0; omega
    subst h0
    rw [← a4, hv]; rfl
  simp only [laws_FnReach_p, laws_FnReach_c, laws_vBig_v, hbig, decide_false, cond_false, d1, d2, q1, subn_self, a1, a2, b1, b2, b3, b4, subn_take0, List.take_length, a3, r1, r2, beq_selfL, Bool.and_self, Bool.true_and, Option.isSome_some, Option.getD_some, cond_true, beq_self_eq_true, Bool.not_true]
  clear a1 a2 b1 b2 b3 b4 d1 d2 q1 r1 r2 a3 a4 a7
  cases ho : ok
  · cases hf : fine
    · simp only [cond_true, cond_false, Bool.not_false]
    · have b7 := b6 hf
      obtain ⟨S, k1, m1, c1, c2, c3, c4, c5, c6, c7⟩ := b7
      have c8 := fun n a o kn0 told b all first en => within_loop F hF n a o few kn0 told b all x y first en c4 c5
      rw [c6] at c8
      cases hp : decide ((0 : Int) < few)
      · simp only [c1, c2, c3, c8, beq_self_eq_true, Option.isSome_some, Option.getD_some, cond_true, cond_false, Bool.not_true, Bool.not_false]
      · have c9 := c7 hp
        obtain ⟨k2, m2, e1, e2, e3, e4⟩ := c9
        have e5 := fun n a o b all => less_loop F hF n a o b all y e2 e3 e4
        simp only [c1, c2, c3, c8, e1, e5, beq_self_eq_true, Option.isSome_some, Option.getD_some, cond_true, cond_false, Bool.not_true, Bool.not_false]
  · have g0 := hok ho
    obtain ⟨g1, g2, g3, g4⟩ := g0
    have fin : (bif n == 0 then (bif !(((k : Nat) : Int) == 1) then some false else some true) else some true) = some true := by
      cases hn : n == 0 with
      | false => rfl
      | true => rw [g3 hn]; rfl
    cases hf : fine
    · cases hn : n == 0
      · simp only [g1, g2, g4, hn, Option.isSome_some, Option.getD_some, cond_true, cond_false, Bool.not_true, Bool.not_false]
      · have g5 := g3 hn
        simp only [g1, g2, g4, hn, g5, Option.isSome_some, Option.getD_some, cond_true, cond_false, Bool.not_true, Bool.not_false]
    · have b7 := b6 hf
      obtain ⟨S, k1, m1, c1, c2, c3, c4, c5, c6, c7⟩ := b7
      have c8 := fun n a o kn0 told b all first en => within_loop F hF n a o few kn0 told b all x y first en c4 c5
      rw [c6] at c8
      cases hp : decide ((0 : Int) < few)
      · cases hn : n == 0
        · simp only [c1, c2, c3, c8, g1, g2, g4, hn, beq_self_eq_true, Option.isSome_some, Option.getD_some, cond_true, cond_false, Bool.not_true, Bool.not_false]
        · have g5 := g3 hn
          simp only [c1, c2, c3, c8, g1, g2, g4, hn, g5, beq_self_eq_true, Option.isSome_some, Option.getD_some, cond_true, cond_false, Bool.not_true, Bool.not_false]
      · have c9 := c7 hp
        obtain ⟨k2, m2, e1, e2, e3, e4⟩ := c9
        have e5 := fun n a o b all => less_loop F hF n a o b all y e2 e3 e4
        cases hn : n == 0
        · simp only [c1, c2, c3, c8, e1, e5, g1, g2, g4, hn, beq_self_eq_true, Option.isSome_some, Option.getD_some, cond_true, cond_false, Bool.not_true, Bool.not_false]
        · have g5 := g3 hn
          simp only [c1, c2, c3, c8, e1, e5, g1, g2, g4, hn, g5, beq_self_eq_true, Option.isSome_some, Option.getD_some, cond_true, cond_false, Bool.not_true, Bool.not_false]
end Go.Lv.P
