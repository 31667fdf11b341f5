/-
FnSums: true for every input.
-/
import Derived.Test.YtabfliifleonaaaQaP0
import Derived.Test.YtabfliifleonaaaQaP1
import Derived.Test.YtabfliifleonaaaQaP2
import Derived.Test.YtabfliifleonaaaQaP3
import Derived.Test.YtabfliifleonaaaQaP4
import Derived.Test.YtabfliifleonaaaQaPG1
import Derived.Test.YtabfliifleonaaaQaPG2
import Derived.Test.YtabfliifleonaaaQaPG4
import Derived.Test.YtabfliifleonaaaQaPG3
namespace Go.Lv.P
open Go Go.Lv
set_option linter.unusedVariables false
set_option linter.unusedSimpArgs false
set_option linter.unusedSectionVars false

theorem draw_sum {c : List Int} (hc : Byt c) : ∃ s : Int, spec_DrawLeastTiles_p c = some s := by
  obtain ⟨v, a, s, e, _⟩ := sum7_ok hc (n := 0) (by omega) (a := 0) (s := 0) ⟨by omega, by omega⟩
  exact ⟨v, by simp only [spec_DrawLeastTiles_p, spec_DrawLeastTiles_c, e, Option.isSome_some, Option.getD_some, cond_true]⟩
theorem draw_poss {c : List Int} (hc : Byt c) : ∃ n m : Int, spec_DrawIsPossible_p c = some (n, m) := by
  obtain ⟨v, a, s, e, c1⟩ := sum7_ok hc (n := 0) (by omega) (a := 0) (s := 0) ⟨by omega, by omega⟩
  obtain ⟨v2, a2, s2, e2, g2, c2⟩ := pick_ok hc (by omega) (q := 24) (by decide) (by decide) c1 (s := s)
  have q24 : ((24 : Nat) : Int) = 24 := rfl
  rw [q24] at e2
  have key : ∃ m : Nat, IntKind.wrap .i64 ((8 : Int) + (IntKind.wrap .i64 (Int.tdiv ((v2 : Nat) : Int) (11 : Int)))) = (m : Int) ∧ m ≤ 10 ∧ 8 ≤ m := by
    have h1 : Int.tdiv ((v2 : Nat) : Int) 11 = ((v2 / 11 : Nat) : Int) := by rw [Int.tdiv_eq_ediv_of_nonneg (by omega)]; rfl
    have h2 : v2 / 11 ≤ 2 := by omega
    refine ⟨8 + v2 / 11, ?_, by omega, by omega⟩
    rw [h1, wrap_of (n := ((v2 / 11 : Nat) : Int)) (by omega) (by omega), wrap_of (by omega) (by omega)]; omega
  obtain ⟨m, m1, m2, m3⟩ := key
  have hl : (subn 10 [(3 : Int), (1 : Int), (2 : Int), (5 : Int), (8 : Int), (16 : Int), (0 : Int), (4 : Int), (17 : Int), (-1 : Int)] 0 (m - 0)).length = m := by
    obtain rfl | rfl | rfl : m = 8 ∨ m = 9 ∨ m = 10 := by omega
    all_goals rfl
  obtain ⟨v3, a3, s3, e3, _, c3⟩ := among_ok hc (by omega) (l := subn 10 [(3 : Int), (1 : Int), (2 : Int), (5 : Int), (8 : Int), (16 : Int), (0 : Int), (4 : Int), (17 : Int), (-1 : Int)] 0 (m - 0)) (by omega) (by omega) c2 (s := s2)
  exact ⟨v, v3, by simp only [spec_DrawIsPossible_p, spec_DrawIsPossible_c, e, e2, m1, inLe_cast, m2, Int.toNat_natCast, e3, decide_true, Option.isSome_some, Option.getD_some, cond_true]⟩
theorem draw_left {c : List Int} (hc : Byt c) (F : Nat) (hF : 1000 < F) : ∃ (b : List Int), spec_DrawMergersLeft_p F c = some b ∧ b.length = 16 := by
  obtain ⟨b, a1, s1, e1, l1, c1⟩ := board_ok hc F hF (n := 0) (by omega) (a := 0) (s := 0) ⟨by omega, by omega⟩
  exact ⟨b, by simp only [spec_DrawMergersLeft_p, spec_DrawMergersLeft_c, spec_DrawPotentialOf_p, spec_DrawPotentialOf_c, e1, Option.isSome_some, Option.getD_some, cond_true], l1⟩
theorem fnd_none {X : Type} {q : Nat → Bool} {f : Nat → X} {e : X} : ∀ (m i : Nat), (∀ j, i ≤ j → j < i + m → q j = false) → fnd q f e i m = e
  | 0, _, _ => rfl
  | m + 1, i, h => by
    rw [fnd, h i (Nat.le_refl _) (by omega), cond_false]
    exact fnd_none m (i + 1) fun j h1 h2 => h j (by omega) (by omega)
theorem cnt_loop (F : Nat) (hF : 1000 < F) (n m : Int) (may one : Bool) (l : Int) (two : Bool) (p : Int) (b C : List Int) (h : ∀ t : Nat, 1 ≤ t → t < 17 → iget C t ≤ 1) : laws_FnSums_l32 F n m may one l two p b C 1 = some false := by
  have e : laws_FnSums_l32 F n m may one l two p b C ((1 : Nat) : Int) = some (fnd (fun i => decide ((1 : Int) < iget C (0 + i * 1))) (fun _ => true) false 1 16) := by
    refine loop_find_gen (step := laws_FnSums_s32 F n m may one l two p b C) (mk := fun i => i) (n := 17) (by omega) (fun i hi Q kn kx => ?_) (fun Q kn kx => ?_) 16 1 F rfl (by omega) some
    · have hi' : (i : Int) < 17 := by omega
      have h18 : i < 18 := by omega
      simp only [laws_FnSums_s32, hi', inR_cast, h18, Int.toNat_natCast, decide_true, cond_true]
    · simp [laws_FnSums_s32]
  rw [fnd_none 16 1 fun j h1 h2 => decide_eq_false (by have := h j h1 (by omega); rw [show 0 + j * 1 = j by omega]; omega)] at e
  exact e
theorem left_loop (F : Nat) (hF : 1000 < F) {b : List Int} (g : Gd b) (p : Int) (known : Bool) (E : Nat) (told : Bool) (own : Int) (said : Bool) (m : List (List Int)) : laws_FnSums_l46 F (leftB b) p known E told own said b m 0 = some false := by
  rw [← fnd_none (q := fun _ => false) (f := fun _ => true) (e := false) 4 0 fun _ _ _ => rfl]
  refine loop_find (step := laws_FnSums_s46 F (leftB b) p known E told own said b m) (fun i => i) 4 _ _ _ (by omega) (by omega) (fun i hi Q kn kx => ?_) fun Q kn kx => ?_
  · have hi' : (i : Int) < 4 := by omega
    have hle := left_most g hi
    have hd : decide (leftB b < (((boardM b i).length : Nat) : Int)) = false := decide_eq_false (by omega)
    simp only [laws_FnSums_s46, hi', decide_true, cond_true, merg_val F g hi hF, hd, Option.isSome_some, Option.getD_some, Bool.not_true, cond_false]
  · simp [laws_FnSums_s46]
theorem sums_packed (F : Nat) (hF : 1000 < F) (s : Int) : ∃ (P : List Int) (L H : Int) (ok : Bool), impl_PackedBoard_p F s = some (P, ok) ∧ spec_PackedBoard_p F s = some (P, ok) ∧ impl_LeastTiles_v s = (L, ok) ∧ spec_LeastTiles_p F s = some (L, ok) ∧ impl_HighestFor_p s = some (H, ok) ∧ spec_HighestFor_p F s = some (H, ok) ∧
    (ok = true → ∃ (C c : List Int), impl_SumOf_p F P = some (s, true) ∧ impl_CountTiles_p F P = some (C, true) ∧ impl_HighestTile_p F P = some (H, c, decide ((0 : Int) < s)) ∧ impl_IsPossible_v s L = (true, true) ∧ (IntKind.wrap .i64 ((16 : Int) - iget C 0) == L) = true ∧
      (decide ((0 : Int) < L) = true → impl_IsPossible_v s (IntKind.wrap .i64 (L - 1)) = (false, true)) ∧ ∀ (n m : Int) (may one : Bool) (l : Int) (two : Bool) (p : Int) (b : List Int), laws_FnSums_l32 F n m may one l two p b C 1 = some false) := by
  obtain ⟨l1, l2⟩ := least_val F s hF
  obtain ⟨h1, h2⟩ := hi_val F s hF
  have p1 := packed_spec_val F s hF
  have p2 := packed_both F s hF
  unfold leastV at l1 l2
  unfold hiV at h1 h2
  cases hs : sumV s with
  | false =>
    rw [hs] at l1 l2 h1 h2 p1 p2
    exact ⟨_, _, _, false, p2, p1, l2, l1, h2, h1, fun h => by cases h⟩
  | true =>
    rw [hs, cond_true] at l1 l2 h1 h2 p1 p2
    obtain ⟨n, rfl, hn, he, hc⟩ := sumV_nat hs
    rw [Int.toNat_natCast] at l1 l2 h1 h2 p1 p2
    rw [pkB_eq hc] at p1 p2
    have hl := pk_len hc
    have ho := pk_ok hc
    have hct := impl_Count_eq F (pkB n) hl hF
    rw [ho, cond_true] at hct
    obtain ⟨c, hh⟩ := pk_high F hF hc he
    have hhalf : cntT 17 n ≤ n / 2 := by
      rcases least_half hc with h | h
      · exact h
      · omega
    have hin : inB (n : Int) 0 2097152 = true := by simp [inB]; omega
    have hev : (Int.tmod (n : Int) 2 == 0) = true := by
      rw [Int.tmod_eq_emod_of_nonneg (by omega), beq_iff_eq]; omega
    have htd : Int.tdiv (n : Int) 2 = ((n / 2 : Nat) : Int) := by rw [Int.tdiv_eq_ediv_of_nonneg (by omega)]; rfl
    refine ⟨pkB n, _, _, true, p2, p1, l2, l1, h2, h1, fun _ => ⟨_, c, ?_, hct, hh, ?_, ?_, fun hpos => ?_, fun n m may one l two p b => cnt_loop F hF n m may one l two p b _ fun t t1 t2 => pk_count hc t t1 t2⟩⟩
    · have := sum_val F hF hl ho
      rw [pk_sum hc he] at this; exact this
    · rw [(poss_val F _ _ hF).2, possV, hin, show inB ((cntT 17 n : Nat) : Int) 0 16 = true by simp [inB]; omega, hev, htd, Int.toNat_natCast, decide_eq_true (Int.le_refl _), decide_eq_true (by omega)]; rfl
    · rw [pk_zero hc, wrap_of (by omega) (by omega)]; exact beq_iff_eq.2 (by omega)
    · have hpos := of_decide_eq_true hpos
      rw [(poss_val F _ _ hF).2, possV, wrap_of (by omega) (by omega), hin, show inB (((cntT 17 n : Nat) : Int) - 1) 0 16 = true by simp [inB]; omega, hev, Int.toNat_natCast, decide_eq_false (p := ((cntT 17 n : Nat) : Int) ≤ ((cntT 17 n : Nat) : Int) - 1) (by omega)]; rfl
theorem sums_poss (F : Nat) (hF : 1000 < F) (n m : Int) : ∃ may one : Bool, impl_IsPossible_v n m = (may, one) ∧ spec_IsPossible_p F n m = some (may, one) ∧ (one = true → may = true → (impl_LeastTiles_v n).2 = true ∧ decide (m < (impl_LeastTiles_v n).1) = false ∧ (Int.tmod n 2 == 0) = true) := by
  obtain ⟨h1, h2⟩ := poss_val F n m hF
  refine ⟨(possV n m).1, (possV n m).2, h2, h1, fun g1 g2 => ?_⟩
  unfold possV at g1 g2
  cases hq : (inB n 0 2097152 && inB m 0 16) with
  | false => rw [hq] at g1; cases g1
  | true =>
    rw [hq, cond_true] at g2
    simp only [Bool.and_eq_true, decide_eq_true_eq] at hq g2
    obtain ⟨k1, k2⟩ := hq
    obtain ⟨k3, k4, k5⟩ := g2
    have k6 : 0 ≤ m ∧ m ≤ 16 := by simpa [inB] using k2
    have hs : sumV n = true := by
      unfold sumV
      rw [k1, k3, decide_eq_true (by omega)]; rfl
    rw [(least_val F n hF).2, leastV, hs, cond_true]
    exact ⟨rfl, decide_eq_false (by omega), k3⟩
theorem sums_left (F : Nat) (hF : 1000 < F) {b : List Int} (hb : b.length = 16) : ∃ (l p : Int) (two : Bool), impl_MergersLeft_p F b = some (l, two) ∧ spec_MergersLeft_p F b = some (l, two) ∧ impl_PotentialOf_p F b = some (p, two) ∧ spec_PotentialOf_p F b = some (p, two) ∧
    (two = true → ∃ (T : Int) (E : Nat) (m : List (List Int)), impl_SumOf_p F b = some (T, true) ∧ impl_EmptyCells_p F b = some (E, true, m) ∧ (impl_LeastTiles_v T).2 = true ∧ (l == IntKind.wrap .i64 (IntKind.wrap .i64 ((16 : Int) - ((E : Nat) : Int)) - (impl_LeastTiles_v T).1)) = true ∧ decide ((0 : Int) ≤ l) = true ∧ decide ((0 : Int) ≤ p) = true ∧
      ∀ (known : Bool) (told : Bool) (own : Int) (said : Bool), laws_FnSums_l46 F l p known E told own said b m 0 = some false) := by
  obtain ⟨l1, l2⟩ := left_val F hb hF
  have q1 : spec_PotentialOf_p F b = some (bif okB b then (potB b, true) else (0, false)) ∧ impl_PotentialOf_p F b = some (bif okB b then (potB b, true) else (0, false)) := by
    simp only [spec_PotentialOf_p, spec_PotentialOf_c, impl_PotentialOf_p, impl_PotentialOf_c, spec_l2Board_eq F b hb hF, impl_IsBoard_eq F b hb hF, Option.isSome_some, Option.getD_some, cond_true]
    cases hB : okB b with
    | false => exact ⟨rfl, rfl⟩
    | true =>
      simp only [spec_pot hb hB F hF, impl_pot hb hB F hF, Option.isSome_some, Option.getD_some, cond_true, Bool.not_true, cond_false]
      exact ⟨trivial, trivial⟩
  obtain ⟨q1, q2⟩ := q1
  cases hB : okB b with
  | false =>
    rw [hB] at l1 l2 q1 q2
    exact ⟨_, _, false, l2, l1, q2, q1, fun h => by cases h⟩
  | true =>
    rw [hB, cond_true] at l1 l2 q1 q2
    have g : Gd b := ⟨hb, hB⟩
    obtain ⟨mm, em1⟩ := empty_val F g hF
    obtain ⟨m, m1, m2, m3⟩ := tiles_sum g
    have ht := em_tiles hb
    have hle := em_len b
    have hsv : sumV (sumB b) = true := by
      unfold sumV
      have h1 : inB (sumB b) 0 2097152 = true := by simp [inB]; omega
      have h2 : (Int.tmod (sumB b) 2 == 0) = true := by rw [Int.tmod_eq_emod_of_nonneg (by omega), beq_iff_eq]; omega
      rw [h1, h2, decide_eq_true (by omega)]; rfl
    refine ⟨_, _, true, l2, l1, q2, q1, fun _ => ⟨sumB b, _, mm, sum_val F hF hb hB, em1, ?_, ?_, ?_, ?_, fun known told own said => left_loop F hF g _ known _ told own said mm⟩⟩
    · rw [(least_val F _ hF).2, leastV, hsv]; rfl
    · rw [(least_val F _ hF).2, leastV, hsv, cond_true, wrap_of (n := (16 : Int) - _) (by omega) (by omega), leftB, wrap_of (by omega) (by omega)]
      exact beq_iff_eq.2 (by omega)
    · exact decide_eq_true (by unfold leftB; omega)
    · exact decide_eq_true (potB_fs hb hB).2.1
theorem law_FnSums (F : Nat) (code : List Int) (hc : Byt code) (hF : 1000 < F) : laws_FnSums_p F code = some true := by
  by_cases hbig : (65536 : Int) < ((code.length : Nat) : Int)
  · simp only [laws_FnSums_p, laws_FnSums_c, laws_vBig_v, hbig, decide_true, cond_true]
  obtain ⟨cut1, q1, hcut1⟩ := cut_ok hc (by omega) (n := 1) (by omega)
  obtain ⟨cut2, q2, hcut2⟩ := cut_ok hc (by omega) (n := 2) (by omega)
  have q1 : laws_vCut_p code 1 = some cut1 := q1
  have q2 : laws_vCut_p code 2 = some cut2 := q2
  obtain ⟨s, d1⟩ := draw_sum hc
  obtain ⟨n, m, d2⟩ := draw_poss hcut1
  obtain ⟨b, d3, hb⟩ := draw_left hcut2 F hF
  obtain ⟨P, L, H, ok, a1, a2, a3, a4, a5, a6, a7⟩ := sums_packed F hF s
  obtain ⟨may, one, b1, b2, b3⟩ := sums_poss F hF n m
  obtain ⟨l, p, two, c1, c2, c3, c4, c5⟩ := sums_left F hF hb
  simp only [laws_FnSums_p, laws_FnSums_c, laws_vBig_v, hbig, decide_false, cond_false, d1, d2, d3, q1, q2, subn_self, a1, a2, a3, a4, a5, a6, b1, b2, c1, c2, c3, c4, Option.isSome_some, Option.getD_some, cond_true, beq_self_eq_true, Bool.not_true]
  clear a1 a2 a3 a4 a5 a6 b1 b2 c1 c2 c3 c4 d1 d2 d3 q1 q2
  cases hok : ok
  all_goals
    cases hone : one
    all_goals
      cases hmay : may
      all_goals
        cases htwo : two
        all_goals
          (try (have a8 := a7 hok; obtain ⟨C, c, e1, e2, e3, e4, e5, e6, e7⟩ := a8))
          (try (have b4 := b3 hone hmay; obtain ⟨f1, f2, f3⟩ := b4))
          (try (have c6 := c5 htwo; obtain ⟨T, E, mm, g1, g2, g3, g4, g5, g6, g7⟩ := c6))
          clear a7 b3 c5
          subst hok hone hmay htwo
          first
          | (cases hL : decide ((0 : Int) < L) with
             | true =>
               have e8 := e6 hL
               simp only [*, Option.isSome_some, Option.getD_some, cond_true, cond_false, Bool.not_true, Bool.not_false, beq_self_eq_true]
             | false =>
               simp only [*, Option.isSome_some, Option.getD_some, cond_true, cond_false, Bool.not_true, Bool.not_false, beq_self_eq_true])
          | simp only [*, Option.isSome_some, Option.getD_some, cond_true, cond_false, Bool.not_true, Bool.not_false, beq_self_eq_true]
end Go.Lv.P
