/-
FnBack: true for every input.
-/
import Derived.Test.YtabfliifleonaakGreatQkP0
import Derived.Test.YtabfliifleonaakGreatQkP1
import Derived.Test.YtabfliifleonaakGreatQkP6
import Derived.Test.YtabfliifleonaakGreatQkP7
import Derived.Test.YtabfliifleonaakGreatQkPG8
import Derived.Test.YtabfliifleonaakGreatQkPG6
import Derived.Test.YtabfliifleonaakGreatQkPG7
import Derived.Test.YtabfliifleonaakGreatQkPG2
import Derived.Test.YtabfliifleonaakGreatQkPG3
namespace Go.Lv.P
open Go Go.Lv
set_option linter.unusedVariables false
set_option linter.unusedSimpArgs false
set_option linter.unusedSectionVars false
theorem rCells_refl (F : Nat) (a : LL) (ha : a.length ≤ 900) (hF : 1000 < F) : k111_p F a a = some true := by
  have h : k111_l4 F a a 0 = some false := by
    refine (u036 (step := k111_s4 F a a) (fun i (_ : Unit) => i) a.length (fun _ a => a) (fun _ => false) (fun _ _ => True) (F := F) (by omega) (by omega) (a := ()) trivial (fun i _ hi _ => ⟨trivial, fun Q kn kx => ?_⟩) (fun _ _ Q kn kx => by simp [k111_s4])).1
    have hi' : (i : Int) < a.length := by omega
    simp only [k111_s4, hi', u021, hi, Int.toNat_natCast, decide_true, cond_true, beq_self_eq_true, Bool.not_true, cond_false]
  simp only [k111_p, k111_c, h, beq_self_eq_true, Bool.not_true, cond_false, Option.isSome_some, Option.getD_some, cond_true]
theorem rInts_refl (F : Nat) (a : List Int) (ha : a.length ≤ 900) (hF : 1000 < F) : k122_p F a a = some true := by
  have h : k122_l4 F a a 0 = some false := by
    refine (u036 (step := k122_s4 F a a) (fun i (_ : Unit) => i) a.length (fun _ a => a) (fun _ => false) (fun _ _ => True) (F := F) (by omega) (by omega) (a := ()) trivial (fun i _ hi _ => ⟨trivial, fun Q kn kx => ?_⟩) (fun _ _ Q kn kx => by simp [k122_s4])).1
    have hi' : (i : Int) < a.length := by omega
    simp only [k122_s4, hi', u021, hi, Int.toNat_natCast, decide_true, cond_true, beq_self_eq_true, Bool.not_true, cond_false]
  simp only [k122_p, k122_c, h, beq_self_eq_true, Bool.not_true, cond_false, Option.isSome_some, Option.getD_some, cond_true]
theorem fnd_has (l : List Int) (x : Int) : ∀ (m i : Nat), i + m = l.length → fnd (fun i => iget l i == x) (fun _ => true) false i m = (l.drop i).contains x
  | 0, i, h => by rw [List.drop_eq_nil_of_le (by omega)]; rfl
  | m + 1, i, h => by
    have hi : i < l.length := by omega
    have hg : iget l i = l[i] := by rw [igetL, List.getElem?_eq_getElem hi]; rfl
    rw [fnd, fnd_has l x m (i + 1) (by omega), List.drop_eq_getElem_cons hi, List.contains_cons, hg]
    by_cases e : l[i] = x
    · have e1 : (l[i] == x) = true := beq_iff_eq.2 e
      have e2 : (x == l[i]) = true := beq_iff_eq.2 e.symm
      rw [e1, e2]; rfl
    · have e1 : (l[i] == x) = false := beq_eq_false_iff_ne.2 e
      have e2 : (x == l[i]) = false := beq_eq_false_iff_ne.2 (Ne.symm e)
      rw [e1, e2]; rfl
theorem rHas_eq (F : Nat) (l : List Int) (x : Int) (hl : l.length ≤ 900) (hF : 1000 < F) : k129_p F l x = some (l.contains x) := by
  have h : k129_l2 F l x 0 = some (fnd (fun i => iget l i == x) (fun _ => true) false 0 l.length) := by
    refine u061 (step := k129_s2 F l x) (fun i => i) l.length _ _ _ (by omega) (by omega) (fun i hi Q kn kx => ?_) fun Q kn kx => ?_
    · simp only [k129_s2, u021, hi, Int.toNat_natCast, decide_true, cond_true, Int.ofNat_lt]
    · simp [k129_s2]
  rw [fnd_has l x l.length 0 (by omega), List.drop_zero] at h
  simp only [k129_p, k129_c, h, Option.isSome_some, Option.getD_some, cond_true]
  cases l.contains x <;> rfl
section
variable {c : List Int} (hc : Byt c) (F : Nat) (hF : 1000 < F)
include hc hF
theorem draw_bb : ∃ (b : List Int) (d : Int), k24_p F c = some (b, d) ∧ b.length = 16 := by
  obtain ⟨b, d, a1, s1, e1, hb⟩ := made_ok hc F hF (n := 0) (by omega) (a := 0) (s := 0) ⟨by omega, by omega⟩
  exact ⟨b, d, by simp only [k24_p, k24_c, k28_p, k28_c, e1, Option.isSome_some, Option.getD_some, cond_true], hb⟩
theorem draw_bk : ∃ (b : List Int) (d k : Int), k45_p F c = some (b, d, k) ∧ b.length = 16 := by
  obtain ⟨k, a0, s0, e0, _, c0⟩ := u250 hc (n := 0) (by omega) (l := [0, 1, 2, 5, -1, 20, 300]) (by decide) (by decide) (a := 0) (s := 0) ⟨by omega, by omega⟩
  obtain ⟨b, d, a1, s1, e1, hb⟩ := made_ok hc F hF (by omega) c0 (s := s0)
  exact ⟨b, d, k, by simp only [k45_p, k45_c, e0, e1, Option.isSome_some, Option.getD_some, cond_true], hb⟩
theorem draw_ar : ∃ (b : List Int), k44_p F c = some b ∧ b.length = 16 := by
  obtain ⟨b, d, a1, s1, e1, hb, c1⟩ := made_cur hc F hF (n := 0) (by omega) (a := 0) (s := 0) ⟨by omega, by omega⟩
  have eb := k99_eq F b hb hF
  simp only [k44_p, k44_c, e1, eb, spec_empty_eq F b hF, Option.isSome_some, Option.getD_some, cond_true]
  cases hB : okB b with
  | false => exact ⟨b, rfl, hb⟩
  | true =>
    have hl := em_len b
    by_cases h0 : 0 < (em b).length
    · have hp : decide ((0 : Int) < (((em b).length : Nat) : Int)) = true := decide_eq_true (by omega)
      obtain ⟨v5, a5, s5, e5, g5, c5⟩ := pick_ok hc (by omega) (q := (em b).length) (by omega) (by omega) c1 (s := s1)
      obtain ⟨v6, a6, s6, e6, g6, c6⟩ := pick_ok hc (by omega) (q := 2) (by decide) (by decide) c5 (s := s5)
      have q2 : ((2 : Nat) : Int) = 2 := rfl
      rw [q2] at e6
      have hm : rget (em b) (0 + v5) ∈ cells16 := em_mem b _ (by rw [Nat.zero_add, rgetL, List.getElem?_eq_getElem g5]; exact List.getElem_mem _)
      have hput : ∀ x ∈ cells16, ∀ t : Int, k124_p b x t = some (iset b (plc x) t) := u220 fun r c hr hc t => by
        simp only [k124_p, k124_c, show iget [(r : Int), (c : Int)] 0 = r from rfl, show iget [(r : Int), (c : Int)] 1 = c from rfl, u021, hr, hc, decide_true, cond_true, plc]
      have e7 := hput _ hm (IntKind.wrap .i64 ((1 : Int) + (v6 : Int)))
      simp only [hp, e5, e6, u021, g5, Int.toNat_natCast, e7, decide_true, cond_true, Option.isSome_some, Option.getD_some]
      exact ⟨_, rfl, by rw [u104, hb]⟩
    · have hp : decide ((0 : Int) < (((em b).length : Nat) : Int)) = false := decide_eq_false (by omega)
      simp only [hp, cond_true, cond_false]
      exact ⟨b, rfl, hb⟩
end
theorem slide_valK (F : Nat) {b : List Int} (hb : b.length = 16) (ok : okB b = true) {d : Nat} (hd : d < 4) (hF : 1000 < F) : k58_p F b d = some ((u070 b d).1, (u070 b d).2, true) := by
  obtain ⟨m, e⟩ := impl_slide hb ok F hF hd
  have h : inB (d : Int) 0 3 = true := by simp [inB]; omega
  simp only [k58_p, k58_c, k96_eq F b hb hF, ok, k50_v, in_eq, h, e, Option.isSome_some, Option.getD_some, cond_true, cond_false, Bool.not_true]
theorem fnd_no (f : Nat → Bool) : ∀ (m i : Nat), fnd (fun _ => false) f false i m = false
  | 0, i => rfl
  | m + 1, i => by simp only [fnd, cond_false]; exact fnd_no f m (i + 1)
theorem list_loop (F : Nat) (hF : 1000 < F) {b : List Int} {d : Nat} (hd : d < 4) {m v : LL} {n : Nat} (hv : m.take n = v) (hl : v.length = n) (h1000 : n ≤ 1000) (hf : ∀ x ∈ v, x.length = 16 ∧ okB x = true ∧ (u070 x d).1 = b ∧ x ≠ b) (ha : Asc v) :
    k110_l46 F d n b m v 0 = some false := by
  have hget : ∀ i, i < n → rget m i = rget v i := fun i hi => by rw [rgetL, rgetL, ← hv, List.getElem?_take, if_pos hi]
  have hmem : ∀ i, i < n → rget v i ∈ v := fun i hi => by rw [rgetL, List.getElem?_eq_getElem (by omega)]; exact List.getElem_mem _
  obtain ⟨G, rfl⟩ : ∃ G, F = G + 1001 := ⟨F - 1001, by omega⟩
  refine (u036 (step := k110_s46 (G + 1001) d n b m v) (fun i (_ : Unit) => i) n (fun _ a => a) (fun _ => false) (fun _ _ => True) (F := G + 1001) (by omega) (by omega) (a := ()) trivial (fun i _ hi _ => ⟨trivial, fun Q kn kx => ?_⟩) (fun _ _ Q kn kx => by simp [k110_s46])).1
  obtain ⟨g1, g2, g3, g4⟩ := hf _ (hmem i hi)
  have hs := slide_valK (G + 1001) g1 g2 hd hF
  rw [g3] at hs
  have hne : (rget v i == b) = false := beq_eq_false_iff_ne.2 g4
  by_cases h0 : 0 < i
  · have hp : IntKind.wrap .i64 ((i : Int) - 1) = ((i - 1 : Nat) : Int) := by rw [u044 (by omega) (by omega)]; omega
    have hi1 : i - 1 < n := by omega
    obtain ⟨p1, p2, _, _⟩ := hf _ (hmem (i - 1) hi1)
    have hlt := asc_step ha (i - 1) (by omega)
    rw [show i - 1 + 1 = i by omega] at hlt
    have hless : k70_p (G + 1001) (rget v (i - 1)) (rget v i) = some (true, true) := by
      have hc : cmpL (rget v (i - 1)) (rget v i) = -1 := by unfold cmpL; rw [hlt]; rfl
      simp only [k70_p, k70_c, k96_eq (G + 1001) _ p1 hF, k96_eq (G + 1001) _ g1 hF, p2, g2, k47_cmp (G + 1001) hF p1 g1, hc, Option.isSome_some, Option.getD_some, cond_true, cond_false, Bool.not_true]
      rfl
    have hd0 : decide ((0 : Int) < (i : Int)) = true := decide_eq_true (by omega)
    simp only [k110_s46, Int.ofNat_lt, hi, hl, decide_true, cond_true, u021, Int.toNat_natCast, Nat.zero_add, hget i hi, hs, hne, hp, hi1, hget (i - 1) hi1, hless, hd0, beq_self_eq_true, Option.isSome_some, Option.getD_some, Bool.not_true, cond_false]
  · have hd0 : decide ((0 : Int) < (i : Int)) = false := decide_eq_false (by omega)
    simp only [k110_s46, Int.ofNat_lt, hi, hl, decide_true, cond_true, u021, Int.toNat_natCast, Nat.zero_add, hget i hi, hs, hne, hd0, beq_self_eq_true, Option.isSome_some, Option.getD_some, Bool.not_true, cond_false]
theorem cells_loop (F : Nat) (hF : 1000 < F) (d : Int) (n : Nat) (b : List Int) (m w : LL) {c : List Int} (hc : c.length = 16) {mc v : LL} {k : Nat} (hv : mc.take k = v) (hl : v.length = k) (h40 : k ≤ 40) (hw : v = bif okB c then cells16.filter (fun x => arB c (plc x)) else []) :
    k110_l39 F d n k b m w c mc 0 = some false := by
  obtain ⟨G, rfl⟩ : ∃ G, F = G + 1001 := ⟨F - 1001, by omega⟩
  refine (u036 (step := k110_s39 (G + 1001) d n k b m w c mc) (fun i (_ : Unit) => i) k (fun _ a => a) (fun _ => false) (fun _ _ => True) (F := G + 1001) (by omega) (by omega) (a := ()) trivial (fun i _ hi _ => ⟨trivial, fun Q kn kx => ?_⟩) (fun _ _ Q kn kx => by simp [k110_s39])).1
  have hget : rget mc (0 + i) = rget v i := by rw [Nat.zero_add, rgetL, rgetL, ← hv, List.getElem?_take, if_pos hi]
  have hmem : rget v i ∈ v := by rw [rgetL, List.getElem?_eq_getElem (by omega)]; exact List.getElem_mem _
  cases hB : okB c with
  | false =>
    rw [hw, hB] at hmem
    cases hmem
  | true =>
    rw [hB, cond_true] at hw
    have hmem2 := hmem
    rw [hw] at hmem2
    rw [← hw] at hmem2
    have hm3 : rget v i ∈ cells16.filter (fun x => arB c (plc x)) := by rw [← hw]; exact hmem
    obtain ⟨m1, m2⟩ := List.mem_filter.1 hm3
    generalize rget v i = x at *
    unfold arB at m2
    simp only [Bool.and_eq_true] at m2
    obtain ⟨t1, t2⟩ := m2
    have z := zero_ok hc hB (plc x)
    have htake : ∀ x ∈ cells16, inB (iget c (plc x)) 1 2 = true → k80_p (G + 1001) c x = some (iset c (plc x) 0, iget c (plc x), true) := u220 fun r q hr hq t => by
      have hia : k78_p [(r : Int), (q : Int)] c = some (plc [(r : Int), (q : Int)]) := by
        simp only [k78_p, k78_c, show iget [(r : Int), (q : Int)] 0 = r from rfl, show iget [(r : Int), (q : Int)] 1 = q from rfl, u021, hr, hq, decide_true, cond_true, plc]
      have hir : inB (r : Int) 0 3 = true := by simp [inB]; omega
      have hiq : inB (q : Int) 0 3 = true := by simp [inB]; omega
      have hnz : (iget c (plc [(r : Int), (q : Int)]) == 0) = false := by
        rw [beq_eq_false_iff_ne]
        intro e
        rw [e] at t; cases t
      simp only [k80_p, k80_c, k96_eq (G + 1001) c hc hF, hB, k109_v, in_eq, show iget [(r : Int), (q : Int)] 0 = r from rfl, show iget [(r : Int), (q : Int)] 1 = q from rfl, hir, hiq, hia, hnz, Option.isSome_some, Option.getD_some, cond_true, cond_false, Bool.not_true, Bool.and_self]
    have hmade := impl_made z.1 (G + 1001) hF
    rw [z.2, cond_true, t2] at hmade
    have ht2 : decide ((2 : Int) < iget c (plc x)) = false := by
      simp [inB] at t1
      exact decide_eq_false (by omega)
    simp only [k110_s39, Int.ofNat_lt, hi, decide_true, cond_true, u021, Int.toNat_natCast, hget, htake x m1 t1, hmade, ht2, Option.isSome_some, Option.getD_some, Bool.not_true, cond_false]
theorem pairS (o : Bool) (S : List Int) : (bif o then (true, S) else (false, [])) = (o, bif o then S else []) := by cases o <;> rfl
theorem pairM (o : Bool) (S : List Int) : (bif o then (decide ((0 : Int) < ((S.length : Nat) : Int)), true) else (false, false)) = (decide ((0 : Int) < (((bif o then S else [] : List Int).length : Nat) : Int)), o) := by cases o <;> rfl
attribute [local irreducible] u101 okB cntB
theorem ways_ok (b : List Int) : (waysV b).2 = okB b := by
  unfold waysV
  generalize okB b = o
  cases o <;> rfl
theorem into_len (b : List Int) : (bif okB b then u101 b else [] : List Int).length ≤ 4 := by
  have := sides_len b
  generalize okB b = o
  cases o with
  | false => exact Nat.zero_le _
  | true => exact this
theorem none_n (F : Nat) (hF1 : 1000 < F) {b : List Int} (hb : b.length = 16) {d : Int} {n : Nat} {m : LL} (b2 : k34_p F b d = some (n, false, m)) (ho : false = (okB b && (inB d 0 3 && decide (cntB b d.toNat ≤ 300)))) : n = 0 := by
  have key : ∀ {m' : LL}, some ((0 : Nat), false, m') = some (n, false, m) → n = 0 := fun h => by
    injection h with h
    injection h with h _
    exact h.symm
  simp only [k34_p, k34_c, k96_eq F b hb hF1, k50_v, in_eq, Option.isSome_some, Option.getD_some, cond_true] at b2
  cases hB : okB b with
  | false =>
    rw [hB] at b2
    simp only [Bool.not_false, cond_true] at b2
    exact key b2
  | true =>
    rw [hB] at b2
    cases hd : inB d 0 3 with
    | false =>
      rw [hd] at b2
      simp only [Bool.not_false, Bool.not_true, cond_true, cond_false] at b2
      exact key b2
    | true =>
      obtain ⟨i, rfl, hi⟩ : ∃ i : Nat, d = i ∧ i < 4 := by
        simp [inB] at hd
        exact ⟨d.toNat, by omega, by omega⟩
      rw [hB, hd, Int.toNat_natCast] at ho
      have hgt : ¬ cntB b i ≤ 300 := fun h => by rw [decide_eq_true h] at ho; cases ho
      have hgt : decide ((300 : Int) < cntB b i) = true := decide_eq_true (by omega)
      rw [hd] at b2
      simp only [u088 hb hB F hF1 hi, hgt, Option.isSome_some, Option.getD_some, Bool.not_true, cond_false, cond_true] at b2
      exact key b2
theorem list_any (F : Nat) (hF1 : 1000 < F) {b : List Int} (hb : b.length = 16) {d : Int} {n : Nat} {m v : LL} {o : Bool} (b2 : k34_p F b d = some (n, o, m)) (hv : m.take n = v) (hl : v.length = n) (h1000 : n ≤ 1000) (ho : o = (okB b && (inB d 0 3 && decide (cntB b d.toNat ≤ 300)))) (hvv : o = true → v = u105 ((bbfL b d.toNat).filter fun x => !(x == b))) : k110_l46 F d n b m v 0 = some false := by
  cases hoo : o with
  | false =>
    rw [hoo] at b2 ho
    have hz := none_n F hF1 hb b2 ho
    subst hz
    obtain ⟨G, rfl⟩ : ∃ G, F = G + 1 := ⟨F - 1, by omega⟩
    simp [k110_l46, loopC, k110_s46]
  | true =>
    rw [hoo] at ho
    have ho2 := ho.symm
    simp only [Bool.and_eq_true] at ho2
    obtain ⟨hB, hd, _⟩ := ho2
    obtain ⟨i, rfl, hi⟩ : ∃ i : Nat, d = i ∧ i < 4 := by
      simp [inB] at hd
      exact ⟨d.toNat, by omega, by omega⟩
    have hv2 := hvv hoo
    rw [Int.toNat_natCast] at hv2
    obtain ⟨f1, f2, f3⟩ := bb_facts hb hB hi hv2
    exact list_loop F hF1 hi hv hl h1000 f1 f2
theorem one_facts {b : List Int} (hb : b.length = 16) {d : Int} {n : Nat} {v : LL} {o : Bool} (hl : v.length = n) (ho : o = (okB b && (inB d 0 3 && decide (cntB b d.toNat ≤ 300)))) (hvv : o = true → v = u105 ((bbfL b d.toNat).filter fun x => !(x == b))) (h : (cntV b d).2 = true) :
    (o == decide ((cntV b d).1 ≤ 300)) = true ∧ (o = true → (((n : Nat) : Int) == (cntV b d).1) = true) ∧ (((bif okB b then u101 b else []) : List Int).contains d == decide ((0 : Int) < (cntV b d).1)) = true ∧ inR d 4 = true ∧ (iget (waysV b).1 (0 + Int.toNat d * 1) == (cntV b d).1) = true := by
  unfold cntV at h ⊢
  cases hB : okB b with
  | false => rw [hB] at h; cases h
  | true =>
    cases hd : inB d 0 3 with
    | false => rw [hB, hd] at h; cases h
    | true =>
      obtain ⟨i, rfl, hi⟩ : ∃ i : Nat, d = i ∧ i < 4 := by
        simp [inB] at hd
        exact ⟨d.toNat, by omega, by omega⟩
      rw [hB, hd] at ho
      simp only [Bool.true_and, Bool.and_self, cond_true, Int.toNat_natCast] at ho ⊢
      refine ⟨by rw [ho]; exact beq_self_eq_true _, fun hoo => ?_, by rw [sides_has b hi]; exact beq_self_eq_true _, by rw [u021]; exact decide_eq_true hi, ?_⟩
      · have hv2 := hvv hoo
        rw [Int.toNat_natCast] at hv2
        have := (bb_facts hb hB hi hv2).2.2
        rw [hl] at this
        exact beq_iff_eq.2 this
      · unfold waysV
        rw [hB, cond_true]
        obtain rfl | rfl | rfl | rfl : i = 0 ∨ i = 1 ∨ i = 2 ∨ i = 3 := by omega
        · exact beq_self_eq_true (cntB b 0)
        · exact beq_self_eq_true (cntB b 1)
        · exact beq_self_eq_true (cntB b 2)
        · exact beq_self_eq_true (cntB b 3)
theorem none_o {b : List Int} {d : Int} {o : Bool} (ho : o = (okB b && (inB d 0 3 && decide (cntB b d.toNat ≤ 300)))) (h : (cntV b d).2 = false) : o = false := by
  unfold cntV at h
  rw [ho]
  cases hB : okB b with
  | false => rfl
  | true =>
    cases hd : inB d 0 3 with
    | false => rfl
    | true => rw [hB, hd] at h; cases h
section
variable {F : Nat} {code b c e x S W : List Int} {d f k cn sc : Int} {n kc : Nat} {m v mc vc : LL} {o oc ob : Bool} (hbig : ¬ (65536 : Int) < ((code.length : Nat) : Int))
  (d1 : k24_p F code = some (b, d)) (d2 : k44_p F code = some c) (d3 : k45_p F code = some (e, f, k))
  (b1 : k43_p F b d = some (o, v)) (b2 : k34_p F b d = some (n, o, m)) (hv : m.take n = v) (hl : v.length = n)
  (s1 : k72_p F b = some (ob, S)) (s2 : k71_p F b = some (ob, S))
  (m1 : k112_p F b = some (decide ((0 : Int) < ((S.length : Nat) : Int)), ob)) (m2 : k108_p F b = some (decide ((0 : Int) < ((S.length : Nat) : Int)), ob))
  (w1 : k91_p F b = some (W, ob)) (w2 : k81_p F b = some (W, ob))
  (a1 : k89_p F c = some (oc, vc)) (a2 : k76_p F c = some (kc, oc, mc)) (hvc : mc.take kc = vc)
  (r1 : k122_p F S S = some true) (r2 : k129_p F S d = some (S.contains d)) (r3 : k111_p F vc vc = some true)
  (l39 : k110_l39 F d n kc b m v c mc 0 = some false) (l46 : k110_l46 F d n b m v 0 = some false)
include hbig d1 d2 d3 b1 b2 hv hl s1 s2 m1 m2 w1 w2 a1 a2 hvc r1 r2 r3 l39 l46
theorem case_TT (c1 : k51_p F b d = some (cn, true)) (c2 : k49_p F b d = some (cn, true)) (k1 : k90_p F e f k = some (x, true)) (k2 : k77_p F e f k = some (x, true)) (x1 : k58_p F x f = some (e, sc, true)) (x2 : (x == e) = false) (t1 : (o == decide (cn ≤ 300)) = true) (t2 : o = true → (((n : Nat) : Int) == cn) = true) (t3 : (S.contains d == decide ((0 : Int) < cn)) = true) (t4 : inR d 4 = true) (t5 : (iget W (0 + Int.toNat d * 1) == cn) = true) : k88_p F code = some true := by
  simp only [k88_p, k88_c, k128_v, hbig, decide_false, cond_false, cond_true, d1, d2, d3, b1, b2, c1, c2, s1, s2, m1, m2, w1, w2, a1, a2, k1, k2, u072, u033, hv, hvc, List.take_length, hl, r1, r2, r3, l39, l46, beq_self_eq_true, u037, Bool.and_self, Bool.true_and, Option.isSome_some, Option.getD_some, Bool.not_true, Bool.not_false, x1, x2, t1, t3, t4, t5]
  cases o with
  | true => simp only [t2 rfl, cond_true, cond_false, Bool.not_true]
  | false => simp only [cond_true, cond_false, Bool.not_true]
theorem case_TF (c1 : k51_p F b d = some (cn, true)) (c2 : k49_p F b d = some (cn, true)) (k1 : k90_p F e f k = some (x, false)) (k2 : k77_p F e f k = some (x, false)) (t1 : (o == decide (cn ≤ 300)) = true) (t2 : o = true → (((n : Nat) : Int) == cn) = true) (t3 : (S.contains d == decide ((0 : Int) < cn)) = true) (t4 : inR d 4 = true) (t5 : (iget W (0 + Int.toNat d * 1) == cn) = true) : k87_p F code = some true := by
  simp only [k87_p, k87_c, k128_v, hbig, decide_false, cond_false, cond_true, d1, d2, d3, b1, b2, c1, c2, s1, s2, m1, m2, w1, w2, a1, a2, k1, k2, u072, u033, hv, hvc, List.take_length, hl, r1, r2, r3, l39, l46, beq_self_eq_true, u037, Bool.and_self, Bool.true_and, Option.isSome_some, Option.getD_some, Bool.not_true, Bool.not_false, t1, t3, t4, t5]
  cases o with
  | true => simp only [t2 rfl, cond_true, cond_false, Bool.not_true]
  | false => simp only [cond_true, cond_false, Bool.not_true]
theorem case_FT (c1 : k51_p F b d = some (cn, false)) (c2 : k49_p F b d = some (cn, false)) (k1 : k90_p F e f k = some (x, true)) (k2 : k77_p F e f k = some (x, true)) (x1 : k58_p F x f = some (e, sc, true)) (x2 : (x == e) = false) (t1 : o = false) : k86_p F code = some true := by
  subst t1
  simp only [k86_p, k86_c, k128_v, hbig, decide_false, cond_false, cond_true, d1, d2, d3, b1, b2, c1, c2, s1, s2, m1, m2, w1, w2, a1, a2, k1, k2, u072, u033, hv, hvc, List.take_length, hl, r1, r2, r3, l39, l46, beq_self_eq_true, u037, Bool.and_self, Bool.true_and, Option.isSome_some, Option.getD_some, Bool.not_true, Bool.not_false, x1, x2]
theorem case_FF (c1 : k51_p F b d = some (cn, false)) (c2 : k49_p F b d = some (cn, false)) (k1 : k90_p F e f k = some (x, false)) (k2 : k77_p F e f k = some (x, false)) (t1 : o = false) : k85_p F code = some true := by
  subst t1
  simp only [k85_p, k85_c, k128_v, hbig, decide_false, cond_false, cond_true, d1, d2, d3, b1, b2, c1, c2, s1, s2, m1, m2, w1, w2, a1, a2, k1, k2, u072, u033, hv, hvc, List.take_length, hl, r1, r2, r3, l39, l46, beq_self_eq_true, u037, Bool.and_self, Bool.true_and, Option.isSome_some, Option.getD_some, Bool.not_true, Bool.not_false]
end
theorem law_FnBack (F : Nat) (code : List Int) (hc : Byt code) (hF : 1000000000000 < F) : k110_p F code = some true := by
  have hF1 : 1000 < F := by omega
  have hF2 : 10000000000 < F := by omega
  by_cases hbig : (65536 : Int) < ((code.length : Nat) : Int)
  · unfold k110_p
    cases k110_q1 F code <;> cases k110_q2 F code
    all_goals simp only [cond_true, cond_false, k88_p, k88_c, k87_p, k87_c, k86_p, k86_c, k85_p, k85_c, k128_v, hbig, decide_true]
  obtain ⟨b, d, d1, hb⟩ := draw_bb hc F hF1
  obtain ⟨c, d2, hcl⟩ := draw_ar hc F hF1
  obtain ⟨e, f, k, d3, he⟩ := draw_bk hc F hF1
  obtain ⟨n, m, v, o, b1, b2, hv, hl, hn, h1000, ho, hvv⟩ := boards_val F b hb d hF2
  obtain ⟨c1, c2⟩ := cnt_val F b hb d hF1
  have s1 : k72_p F b = some (okB b, bif okB b then u101 b else []) := by rw [k72_eq hb F hF1, pairS]
  have s2 : k71_p F b = some (okB b, bif okB b then u101 b else []) := by rw [k71_eq hb F hF1, pairS]
  have m1 : k112_p F b = some (decide ((0 : Int) < (((bif okB b then u101 b else [] : List Int).length : Nat) : Int)), okB b) := by rw [spec_made hb F hF1, pairM]
  have m2 : k108_p F b = some (decide ((0 : Int) < (((bif okB b then u101 b else [] : List Int).length : Nat) : Int)), okB b) := by rw [impl_made hb F hF1, pairM]
  have hS4 := into_len b
  obtain ⟨w1, w2⟩ := ways_val F b hb hF1
  have hw2 := ways_ok b
  obtain ⟨kc, mc, vc, oc, a1, a2, hvc, hlc, hnc, h40, _, hwc⟩ := arises_val F c hcl hF1
  obtain ⟨x, six, k1, k2, k3⟩ := back_val F e he f k hF2
  have r1 := rInts_refl F (bif okB b then u101 b else []) (by omega) hF1
  have r2 := rHas_eq F (bif okB b then u101 b else []) d (by omega) hF1
  have r3 := rCells_refl F vc (by omega) hF1
  have l39 := cells_loop F hF1 d n b m v hcl hvc hlc h40 hwc
  have l46 := list_any F hF1 hb b2 hv hl h1000 ho hvv
  have hT := fun h => one_facts hb hl ho hvv h
  have hN := fun h => none_o (b := b) (d := d) ho h
  have hsix : six = true → ∃ sc : Int, k58_p F x f = some (e, sc, true) ∧ (x == e) = false := fun h => by
    obtain ⟨hB, i, rfl, hi, x1, x2, x3, x4⟩ := k3 h
    have hs := slide_valK F x1 x2 hi hF1
    rw [x3] at hs
    exact ⟨_, hs, beq_eq_false_iff_ne.2 x4⟩
  clear ho hvv hwc k3 hS4
  generalize (bif okB b then u101 b else [] : List Int) = S at *
  generalize okB b = ob at *
  generalize waysV b = W at *
  obtain ⟨W, wo⟩ := W
  simp only at hw2 hT
  subst hw2
  generalize cntV b d = cn at *
  obtain ⟨cn, one⟩ := cn
  simp only at hT hN
  have q1 : k110_q1 F code = one := by simp only [k110_q1, d1, c2, Option.getD_some]
  have q2 : k110_q2 F code = six := by simp only [k110_q2, d3, k2, Option.getD_some]
  unfold k110_p
  rw [q1, q2]
  clear q1 q2
  cases one with
  | true =>
    obtain ⟨t1, t2, t3, t4, t5⟩ := hT rfl
    cases six with
    | true =>
      obtain ⟨sc, x1, x2⟩ := hsix rfl
      exact case_TT hbig d1 d2 d3 b1 b2 hv hl s1 s2 m1 m2 w1 w2 a1 a2 hvc r1 r2 r3 l39 l46 c1 c2 k1 k2 x1 x2 t1 t2 t3 t4 t5
    | false => exact case_TF hbig d1 d2 d3 b1 b2 hv hl s1 s2 m1 m2 w1 w2 a1 a2 hvc r1 r2 r3 l39 l46 c1 c2 k1 k2 t1 t2 t3 t4 t5
  | false =>
    cases six with
    | true =>
      obtain ⟨sc, x1, x2⟩ := hsix rfl
      exact case_FT hbig d1 d2 d3 b1 b2 hv hl s1 s2 m1 m2 w1 w2 a1 a2 hvc r1 r2 r3 l39 l46 c1 c2 k1 k2 x1 x2 (hN rfl)
    | false => exact case_FF hbig d1 d2 d3 b1 b2 hv hl s1 s2 m1 m2 w1 w2 a1 a2 hvc r1 r2 r3 l39 l46 c1 c2 k1 k2 (hN rfl)
end Go.Lv.P
