/-
FnSnakes: true for every input.
-/
import Derived.Test.YtabfliifleonaaiQiP0
import Derived.Test.YtabfliifleonaaiQiP1
import Derived.Test.YtabfliifleonaaiQiP2
import Derived.Test.YtabfliifleonaaiQiP3
import Derived.Test.YtabfliifleonaaiQiPDrawB
import Derived.Test.YtabfliifleonaaiQiPCut
import Derived.Test.YtabfliifleonaaiQiPSnk
import Derived.Test.YtabfliifleonaaiQiPSnb
import Derived.Test.YtabfliifleonaaiQiPCount
namespace Go.Lv.P
open Go Go.Lv
set_option linter.unusedVariables false
set_option linter.unusedSimpArgs false
set_option linter.unusedSectionVars false

theorem form3_tot {c : List Int} (hc : Byt c) {n : Nat} (hn : n ≤ 800000000) {a s : Int} (h : Cur n a) : ∃ (v a' s' : Int), spec_l1Cur_form3_p c a s = some (v, a', s') := by
  obtain ⟨f1, a1, s1, e1, c1⟩ := one_ok hc (by omega) (q := 40) (by decide) (by decide) h (s := s)
  obtain ⟨v2, a2, s2, e2, _, c2⟩ := among_ok hc (by omega) (l := [-1, 8, 4611686018427387904]) (by decide) (by decide) c1 (s := s1)
  obtain ⟨v3, a3, s3, e3, _, c3⟩ := pick_ok hc (by omega) (q := 8) (by decide) (by decide) c1 (s := s1)
  have q40 : ((40 : Nat) : Int) = 40 := rfl
  have q8 : ((8 : Nat) : Int) = 8 := rfl
  rw [q40] at e1
  rw [q8] at e3
  simp only [spec_l1Cur_form3_p, spec_l1Cur_form3_c, e1, e2, e3, Option.isSome_some, Option.getD_some, cond_true]
  cases f1 with
  | true => exact ⟨_, _, _, rfl⟩
  | false => exact ⟨_, _, _, rfl⟩
theorem draw_path {c : List Int} (hc : Byt c) : ∃ k : Int, spec_DrawSnakePath_p c = some k := by
  obtain ⟨v, a, s, e⟩ := form3_tot hc (n := 0) (by omega) (a := 0) (s := 0) ⟨by omega, by omega⟩
  exact ⟨v, by simp only [spec_DrawSnakePath_p, spec_DrawSnakePath_c, e, Option.isSome_some, Option.getD_some, cond_true]⟩
theorem draw_snb {c : List Int} (hc : Byt c) (F : Nat) (hF : 1000 < F) : ∃ (b : List Int) (k : Int), spec_DrawSnakeBoard_p F c = some (b, k) ∧ b.length = 16 := by
  obtain ⟨b, a1, s1, e1, l1, c1⟩ := board_ok hc F hF (n := 0) (by omega) (a := 0) (s := 0) ⟨by omega, by omega⟩
  obtain ⟨v2, a2, s2, e2⟩ := form3_tot hc (by omega) c1 (s := s1)
  exact ⟨b, v2, by simp only [spec_DrawSnakeBoard_p, spec_DrawSnakeBoard_c, e1, e2, Option.isSome_some, Option.getD_some, cond_true], l1⟩
theorem draw_snk {c : List Int} (hc : Byt c) (F : Nat) (hF : 1000 < F) : ∃ (b : List Int), spec_DrawSnakesOf_p F c = some b ∧ b.length = 16 := by
  obtain ⟨b, a1, s1, e1, l1, c1⟩ := board_ok hc F hF (n := 0) (by omega) (a := 0) (s := 0) ⟨by omega, by omega⟩
  obtain ⟨v2, a2, s2, e2, g2, c2⟩ := pick_ok hc (by omega) (q := 8) (by decide) (by decide) c1 (s := s1)
  have e3 := (snb_val F b l1 (v2 : Int) hF).1
  obtain ⟨f4, a4, s4, e4, c4⟩ := one_ok hc (by omega) (q := 3) (by decide) (by decide) c2 (s := s2)
  obtain ⟨f5, a5, s5, e5, c5⟩ := one_ok hc (by omega) (q := 3) (by decide) (by decide) c4 (s := s4)
  obtain ⟨v6, a6, s6, e6, g6, c6⟩ := pick_ok hc (by omega) (q := 4) (by decide) (by decide) c5 (s := s5)
  obtain ⟨v7, a7, s7, e7, g7, c7⟩ := pick_ok hc (by omega) (q := 4) (by decide) (by decide) c6 (s := s6)
  obtain ⟨v8, a8, s8, e8, g8, c8⟩ := pick_ok hc (by omega) (q := 3) (by decide) (by decide) c7 (s := s7)
  have q8 : ((8 : Nat) : Int) = 8 := rfl
  have q4 : ((4 : Nat) : Int) = 4 := rfl
  have q3 : ((3 : Nat) : Int) = 3 := rfl
  rw [q8] at e2
  rw [q3] at e4 e5 e8
  rw [q4] at e6 e7
  have g0 : iget [(v6 : Int), (v7 : Int)] 0 = v6 := rfl
  have g1 : iget [(v6 : Int), (v7 : Int)] 1 = v7 := rfl
  have e9 : ∀ w : List Int, spec_l2Put_p w [(v6 : Int), (v7 : Int)] (v8 : Int) = some (iset w (0 + (v6 : Int).toNat * 4 + (v7 : Int).toNat * 1) v8) := fun w => by
    simp only [spec_l2Put_p, spec_l2Put_c, g0, g1, inR_cast, g6, g7, decide_true, cond_true]
  have hin : inB (v2 : Int) 0 7 = true := by simp [inB]; omega
  rw [hin] at e3
  have l3 := sb_len l1 g2
  rw [Int.toNat_natCast] at e3
  cases hB : okB b with
  | false =>
    rw [hB] at e3
    exact ⟨b, by simp only [spec_DrawSnakesOf_p, spec_DrawSnakesOf_c, e1, e2, e3, Bool.false_and, cond_false, Option.isSome_some, Option.getD_some, cond_true], l1⟩
  | true =>
    rw [hB] at e3
    cases f4 with
    | true => exact ⟨b, by simp only [spec_DrawSnakesOf_p, spec_DrawSnakesOf_c, e1, e2, e3, e4, Bool.and_self, Bool.not_true, cond_false, Option.isSome_some, Option.getD_some, cond_true], l1⟩
    | false =>
      cases f5 with
      | false => exact ⟨_, by simp only [spec_DrawSnakesOf_p, spec_DrawSnakesOf_c, e1, e2, e3, e4, e5, Bool.and_self, Bool.not_false, cond_false, Option.isSome_some, Option.getD_some, cond_true], l3⟩
      | true => exact ⟨iset (sbB b v2) (0 + (v6 : Int).toNat * 4 + (v7 : Int).toNat * 1) v8, by simp only [spec_DrawSnakesOf_p, spec_DrawSnakesOf_c, e1, e2, e3, e4, e5, e6, e7, e8, e9, Bool.and_self, Bool.not_false, cond_false, Option.isSome_some, Option.getD_some, cond_true], iset_len16 l3 _ _⟩
theorem fnd_fk {X : Type} (f : Nat → X) (e : X) : ∀ (m i : Nat), fnd (fun _ => false) f e i m = e
  | 0, _ => rfl
  | m + 1, i => by simp only [fnd, cond_false]; exact fnd_fk f e m (i + 1)
theorem vInts_reflK (F : Nat) (a : List Int) (ha : a.length ≤ 900) (hF : 1000 < F) : laws_vInts_p F a a = some true := by
  have h : laws_vInts_l4 F a a 0 = some (fnd (fun _ => false) (fun _ => true) false 0 a.length) := by
    refine loop_find (fun i => i) a.length _ _ _ (by omega) (by omega) (fun i hi Q kn kx => ?_) fun Q kn kx => ?_
    · simp [laws_vInts_s4, inR_cast, hi]
    · simp [laws_vInts_s4]
  simp only [laws_vInts_p, laws_vInts_c, h, fnd_fk, Option.isSome_some, Option.getD_some, cond_true, cond_false, beq_self_eq_true, Bool.not_true]
theorem vHas_eq (F : Nat) (a : List Int) (x : Int) (ha : a.length ≤ 900) (hF : 1000 < F) : laws_vHas_p F a x = some (a.contains x) := by
  have h : laws_vHas_l2 F a x 0 = some (fnd (fun i => iget a i == x) (fun _ => true) false 0 a.length) := by
    refine loop_find (fun i => i) a.length (fun i => iget a i == x) _ _ (by omega) (by omega) (fun i hi Q kn kx => ?_) fun Q kn kx => ?_
    · simp only [laws_vHas_s2, Int.ofNat_lt, hi, decide_true, cond_true, inR_cast, Int.toNat_natCast]
    · simp [laws_vHas_s2]
  rw [fnd_any, any_iget a (fun y => y == x)] at h
  have e : (a.any fun y => y == x) = a.contains x := by
    rw [List.contains_eq_any_beq]
    congr 1
    funext y
    rw [Bool.eq_iff_iff, beq_iff_eq, beq_iff_eq]; exact eq_comm
  simp only [laws_vHas_p, laws_vHas_c, h, e, Option.isSome_some, Option.getD_some, cond_true]
  cases a.contains x <;> rfl
theorem pth_way {k : Nat} (hk : k < 8) : pth k = wayS k := by
  obtain rfl | rfl | rfl | rfl | rfl | rfl | rfl | rfl := k8' hk
  all_goals rfl
theorem way_len {k : Nat} (hk : k < 8) : (wayS k).length = 16 := by
  obtain rfl | rfl | rfl | rfl | rfl | rfl | rfl | rfl := k8' hk
  all_goals rfl
theorem pv_vw (b : List Int) {k i : Nat} (hk : k < 8) (hi : i < 16) : (vw b k)[i]? = some (pv b k i) := by
  have hl := way_len hk
  rw [vw, List.getElem?_map, pv, pth_way hk, List.getElem?_eq_getElem (by omega)]; rfl
/-- in order: no later one is higher -/
theorem ord_iff (b : List Int) {k : Nat} (hk : k < 8) : ordB b k = true ↔ (vw b k).Pairwise fun x y => y ≤ x := by
  have hl : (vw b k).length = 16 := by rw [vw, List.length_map, way_len hk]
  have e : ∀ i (hi : i < 16), (vw b k)[i] = pv b k i := fun i hi => by
    have := pv_vw b hk hi
    rw [List.getElem?_eq_getElem (by omega)] at this
    exact Option.some.inj this
  have hs : ordB b k = true ↔ ∀ i, i < 15 → pv b k (i + 1) ≤ pv b k i := by
    unfold ordB
    rw [Bool.not_eq_true', List.any_eq_false]
    constructor
    · intro h i hi
      have := h i (by rw [List.mem_range'_1]; omega)
      simp at this; omega
    · intro h i hi
      rw [List.mem_range'_1] at hi
      have := h i (by omega)
      simp; omega
  rw [hs, List.pairwise_iff_getElem]
  constructor
  · intro h i j hi hj hij
    rw [e i (by omega), e j (by omega)]
    have key : ∀ m i, i + m < 16 → pv b k (i + m) ≤ pv b k i := by
      intro m
      induction m with
      | zero => intro i _; exact Int.le_refl _
      | succ m ih =>
        intro i hi
        have h1 := ih i (by omega)
        have h2 := h (i + m) (by omega)
        rw [← Nat.add_assoc]; omega
    have := key (j - i) i (by omega)
    rw [show i + (j - i) = j by omega] at this
    exact this
  · intro h i hi
    have := h i (i + 1) (by omega) (by omega) (by omega)
    rw [e i (by omega), e (i + 1) (by omega)] at this
    exact this
theorem fs_perm (f : Int → Int) {a b : List Int} (h : a.Perm b) : fs f a = fs f b := by
  induction h with
  | nil => rfl
  | cons x _ ih => simp only [fs, ih]
  | swap x y l => simp only [fs]; omega
  | trans _ _ h1 h2 => rw [h1, h2]
theorem counts_perm {a b : List Int} (ha : a.length = 16) (hb : b.length = 16) (oa : okB a = true) (ob : okB b = true) (h : a.Perm b) : a.foldl bump zero18 = b.foldl bump zero18 := by
  refine List.ext_getElem (by rw [bumps_len, bumps_len]) fun i h1 h2 => ?_
  rw [bumps_len] at h1
  have h18 : i < 18 := h1
  have e1 := count_get ha ((okB_iff _).1 oa) i h18
  have e2 := count_get hb ((okB_iff _).1 ob) i h18
  rw [fs_perm _ h, ← e2, igetL, igetL, List.getElem?_eq_getElem (by rw [bumps_len]; exact h18), List.getElem?_eq_getElem (by rw [bumps_len]; exact h18)] at e1
  exact e1
theorem path_loop (G : Nat) : ∀ k : Nat, k < 8 → laws_FnSnakes_l31 (G + 1001) (wayC k) 0 [false, false, false, false, false, false, false, false, false, false, false, false, false, false, false, false] = some false := by
  intro k hk
  obtain rfl | rfl | rfl | rfl | rfl | rfl | rfl | rfl := k8' hk
  all_goals kernel_rfl
theorem ord_loop (F : Nat) (hF : 1000 < F) {b : List Int} (hb : b.length = 16) (kb : okB b = true) (o : Bool) (p : List Int) (hl : (snk b).length ≤ 8) : laws_FnSnakes_l22 F o (snk b).length true p b (snk b) 0 = some false := by
  rw [← fnd_fk (fun _ => true) false (snk b).length 0]
  refine loop_find (step := laws_FnSnakes_s22 F o (snk b).length true p b (snk b)) (fun i => i) (snk b).length _ _ _ (by omega) (by omega) (fun i hi Q kn kx => ?_) fun Q kn kx => ?_
  · have hm : iget (snk b) i ∈ snk b := by rw [igetL, List.getElem?_eq_getElem hi]; exact List.getElem_mem _
    obtain ⟨k, hk, ho, e⟩ := (snk_mem b _).1 hm
    have h1 := (snb_val F b hb (k : Int) hF).2
    have hin : inB (k : Int) 0 7 = true := by simp [inB]; omega
    rw [kb, hin, Int.toNat_natCast, sb_self hb hk ((ord_iff b hk).1 ho)] at h1
    simp only [laws_FnSnakes_s22, Int.ofNat_lt, hi, decide_true, cond_true, inR_cast, Int.toNat_natCast, Nat.zero_add, e, h1, Bool.and_self, beq_self_eq_true, Option.isSome_some, Option.getD_some, Bool.not_true, cond_false]
  · simp [laws_FnSnakes_s22]
theorem law_FnSnakes (F : Nat) (code : List Int) (hc : Byt code) (hF : 1000 < F) : laws_FnSnakes_p F code = some true := by
  by_cases hbig : (65536 : Int) < ((code.length : Nat) : Int)
  · simp only [laws_FnSnakes_p, laws_FnSnakes_c, laws_vBig_v, hbig, decide_true, cond_true]
  obtain ⟨cut1, q1, hcut1⟩ := cut_ok hc (by omega) (n := 1) (by omega)
  obtain ⟨cut2, q2, hcut2⟩ := cut_ok hc (by omega) (n := 2) (by omega)
  have q1 : laws_vCut_p code 1 = some cut1 := q1
  have q2 : laws_vCut_p code 2 = some cut2 := q2
  obtain ⟨k, d1⟩ := draw_path hc
  obtain ⟨b, d2, hb⟩ := draw_snk hcut1 F hF
  obtain ⟨u, m, d3, hu⟩ := draw_snb hcut2 F hF
  -- the path
  have hpath : ∃ (path : List Int) (ok : Bool), impl_SnakePath_p F k = some (path, ok) ∧ spec_SnakePath_p F k = some (path, ok) ∧ (ok = true → laws_FnSnakes_l31 F path 0 [false, false, false, false, false, false, false, false, false, false, false, false, false, false, false, false] = some false) := by
    obtain ⟨G, rfl⟩ : ∃ G, F = G + 1001 := ⟨F - 1001, by omega⟩
    simp only [impl_SnakePath_p, impl_SnakePath_c, spec_SnakePath_p, spec_SnakePath_c, impl_isForm_v, spec_l3Form_v, l1In_eq, in_eq]
    cases hk : inB k 0 7 with
    | false => exact ⟨_, false, rfl, rfl, fun h => by cases h⟩
    | true =>
      simp [inB] at hk
      obtain ⟨n, rfl⟩ := Int.eq_ofNat_of_zero_le hk.1
      have hn : n < 8 := by omega
      simp only [way_spec G n hn, way_impl G n hn, Option.isSome_some, Option.getD_some, cond_true, cond_false, Bool.not_true]
      exact ⟨_, true, rfl, rfl, fun _ => path_loop G n hn⟩
  obtain ⟨path, ok, a1, a2, a3⟩ := hpath
  obtain ⟨v, b1, b2, b3, b4⟩ := snakes_val F b hb hF
  obtain ⟨c1, c2⟩ := snb_val F u hu m hF
  have r1 := vInts_reflK F v (by omega) hF
  have hloop : ∀ (o : Bool) (p : List Int), laws_FnSnakes_l22 F o v.length (okB b) p b v 0 = some false := fun o p => by
    cases kb : okB b with
    | true =>
      have e := b4 kb
      subst e
      exact ord_loop F hF hb kb o p b3
    | false =>
      obtain ⟨G, rfl⟩ : ∃ G, F = G + 1 := ⟨F - 1, by omega⟩
      simp only [laws_FnSnakes_l22, loopC, laws_FnSnakes_s22, cond_false]
  have hmade : (okB u && inB m 0 7) = true → ∃ (C v2 : List Int), impl_CountTiles_p F u = some (C, true) ∧ impl_CountTiles_p F (sbB u m.toNat) = some (C, true) ∧ impl_SnakesOf_p F (sbB u m.toNat) = some (v2.length, true, v2) ∧ impl_SnakeBoard_p F (sbB u m.toNat) m = some (sbB u m.toNat, true) ∧ laws_vHas_p F v2 m = some true := fun h => by
    simp only [Bool.and_eq_true] at h
    obtain ⟨ku, km⟩ := h
    have km2 : 0 ≤ m ∧ m ≤ 7 := by simpa [inB] using km
    obtain ⟨n, rfl⟩ := Int.eq_ofNat_of_zero_le km2.1
    have hn : n < 8 := by omega
    rw [Int.toNat_natCast]
    have hl := sb_len hu hn
    have hp := sb_perm hu hn
    have ho : okB (sbB u n) = true := (okB_iff _).2 fun x hx => (okB_iff _).1 ku x (hp.mem_iff.1 hx)
    have hct := impl_Count_eq F u hu hF
    rw [ku, cond_true] at hct
    have hct2 := impl_Count_eq F (sbB u n) hl hF
    rw [ho, cond_true, counts_perm hl hu ho ku hp] at hct2
    obtain ⟨v2, _, w2, w3, w4⟩ := snakes_val F (sbB u n) hl hF
    rw [ho] at w2
    have w4 := w4 ho
    have hdesc : (vw (sbB u n) n).Pairwise fun x y => y ≤ x := by rw [sb_vw hu hn]; exact sort_desc u
    have hs := (snb_val F (sbB u n) hl (n : Int) hF).2
    rw [ho, km, Int.toNat_natCast, sb_self hl hn hdesc] at hs
    refine ⟨_, v2, hct, hct2, w2, hs, ?_⟩
    rw [vHas_eq F v2 (n : Int) (by omega) hF]
    congr 1
    rw [List.contains_iff_mem, w4]
    exact (snk_mem _ _).2 ⟨n, hn, (ord_iff _ hn).2 hdesc, rfl⟩
  simp only [laws_FnSnakes_p, laws_FnSnakes_c, laws_vBig_v, hbig, decide_false, cond_false, d1, d2, d3, q1, q2, subn_self, a1, a2, b1, b2, c1, c2, r1, hloop, Option.isSome_some, Option.getD_some, cond_true, beq_self_eq_true, Bool.not_true]
  clear a1 a2 b1 b2 c1 c2 d1 d2 d3 q1 q2 r1 hloop
  cases hok : ok
  · cases hq : (okB u && inB m 0 7)
    · simp only [cond_true, cond_false, Bool.not_false, Bool.not_true]
    · obtain ⟨C, v2, e1, e2, e3, e4, e5⟩ := hmade hq
      simp only [e1, e2, e3, e4, e5, subn_self, Option.isSome_some, Option.getD_some, cond_true, cond_false, Bool.not_true, Bool.not_false, beq_self_eq_true]
  · have a4 := a3 hok
    cases hq : (okB u && inB m 0 7)
    · simp only [a4, Option.isSome_some, Option.getD_some, cond_true, cond_false, Bool.not_false, Bool.not_true]
    · obtain ⟨C, v2, e1, e2, e3, e4, e5⟩ := hmade hq
      simp only [a4, e1, e2, e3, e4, e5, subn_self, Option.isSome_some, Option.getD_some, cond_true, cond_false, Bool.not_true, Bool.not_false, beq_self_eq_true]
end Go.Lv.P
