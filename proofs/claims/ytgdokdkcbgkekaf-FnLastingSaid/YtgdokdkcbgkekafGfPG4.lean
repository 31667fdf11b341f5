/-
Plain facts of the pure functions, part 4; without conditions.
-/
import Derived.Test.YtgdokdkcbgkekafGfP7
import Derived.Test.YtgdokdkcbgkekafGfPG3
import Derived.Test.YtgdokdkcbgkekafGfPG2
import Derived.Test.YtgdokdkcbgkekafGfPG1
import Derived.Test.YtgdokdkcbgkekafGfP5
set_option linter.unusedVariables false
set_option linter.unusedSimpArgs false
set_option linter.unusedSectionVars false
namespace Go.Lv.P
open Go Go.Lv
/-- the worst of some placements: its number of moves, and itself -/
def wstep (b : List Int) (i : Nat) (s : Int × List Int) : Int × List Int :=
  bif decide (((movesB (putP b (rget (plm b) i))).length : Int) < s.1) then (((movesB (putP b (rget (plm b) i))).length : Int), rget (plm b) i) else s
theorem worstT_val (F : Nat) (b : List Int) (hb : b.length = 16) (hF : 1000 < F) : ∃ v : List Int × Int × Bool, spec_WorstTile_p F b = some v ∧ impl_WorstTile_p F b = some v ∧ (v.2.2 = true → okB b = true ∧ v.2.1 = (fld (wstep b) 0 (plm b).length (5, [0, 0, 0])).1) := by
  obtain ⟨r, g1, g2⟩ := impl_empty_eq F b hF
  have hr : r.1 = (em b).length := by rw [g2.1, em_not]
  simp only [spec_WorstTile_p, spec_WorstTile_c, impl_WorstTile_p, impl_WorstTile_c, spec_empty_eq F b hF, g1, hr, spec_places_eq F b hF, spec_l2Board_eq F b hb hF, impl_IsBoard_eq F b hb hF, Option.isSome_some, Option.getD_some, cond_true, beq_selfL, Bool.true_and]
  cases hB : okB b with
  | false => exact ⟨_, rfl, rfl, fun h => by cases h⟩
  | true =>
    cases h0 : (((em b).length : Nat) : Int) == 0 with
    | true => exact ⟨_, rfl, rfl, fun h => by cases h⟩
    | false =>
      have hpos : 0 < (plm b).length := by
        rw [plm_len]
        have : (((em b).length : Nat) : Int) ≠ 0 := by simpa using h0
        omega
      have hlen : (plm b).length ≤ 32 := by have := em_len b; rw [plm_len]; omega
      have hq : ∀ i, i < (plm b).length → (spec_l8Put_p b (rget (plm b) i) = some (putP b (rget (plm b) i)) ∧ impl_Board_placed_p b (rget (plm b) i) = some (putP b (rget (plm b) i))) ∧ (putP b (rget (plm b) i)).length = 16 ∧ okB (putP b (rget (plm b) i)) = true := fun i hi => by
        obtain ⟨p0, p1, p2⟩ := plm_in b _ (rget_mem hi)
        exact ⟨⟨spec_put p0 p1, impl_put p0 p1⟩, putP_ok hb hB p2⟩
      have hs := loop_fold (step := spec_WorstTile_s6 F b (plm b)) (fun i (s : Int × List Int) => (s.1, i, s.2)) (plm b).length (wstep b) (fun s => s) (fun _ _ => True) (F := F) (by omega) (by omega) (a := (5, [0, 0, 0])) trivial
        (fun i s hi _ => ⟨trivial, fun Q kn kx => by
          obtain ⟨⟨q1, q2⟩, q3, q4⟩ := hq i hi
          have hm := (spec_moves q3 q4 F hF).1
          simp only [spec_WorstTile_s6, Int.ofNat_lt, hi, inR_cast, Int.toNat_natCast, decide_true, cond_true, Nat.zero_add, q1, hm, Option.isSome_some, Option.getD_some, wstep]
          cases decide (((movesB (putP b (rget (plm b) i))).length : Int) < s.1) <;> rfl⟩) (fun s _ Q kn kx => by simp [spec_WorstTile_s6])
      have hi := loop_fold (step := impl_Board_worst_impl_WorstTile_f1_s3 F ((plm b).length : Int) b (plm b)) (fun i (s : Int × List Int) => (s.1, i, s.2)) (plm b).length (fun i s => bif decide (s.1 < 0) then (((movesB (putP b (rget (plm b) i))).length : Int), rget (plm b) i) else wstep b i s) (fun s => s) (fun _ _ => True) (F := F) (by omega) (by omega) (a := (-1, [0, 0, 0])) trivial
        (fun i s hi _ => ⟨trivial, fun Q kn kx => by
          obtain ⟨⟨q1, q2⟩, q3, q4⟩ := hq i hi
          have hm := impl_moves q3 q4 F hF
          simp only [impl_Board_worst_impl_WorstTile_f1_s3, impl_WorstTile_f1_p, impl_WorstTile_f1_c, Int.ofNat_lt, hi, inR_cast, Int.toNat_natCast, decide_true, cond_true, Nat.zero_add, q2, hm, Option.isSome_some, Option.getD_some, wstep]
          cases decide (s.1 < 0)
          · cases decide (((movesB (putP b (rget (plm b) i))).length : Int) < s.1) <;> rfl
          · rfl⟩) (fun s _ Q kn kx => by simp [impl_Board_worst_impl_WorstTile_f1_s3])
      have same : ∀ (m i : Nat) (s : Int × List Int), 0 ≤ s.1 → fld (fun i s => bif decide (s.1 < 0) then (((movesB (putP b (rget (plm b) i))).length : Int), rget (plm b) i) else wstep b i s) i m s = fld (wstep b) i m s := by
        intro m
        induction m with
        | zero => intro i s _; rfl
        | succ m ih =>
          intro i s h
          have hn : decide (s.1 < 0) = false := decide_eq_false (by omega)
          simp only [fld, hn, cond_false]
          refine ih _ _ ?_
          unfold wstep
          cases decide (((movesB (putP b (rget (plm b) i))).length : Int) < s.1)
          · exact h
          · exact Int.natCast_nonneg _
      have e : fld (fun i s => bif decide (s.1 < 0) then (((movesB (putP b (rget (plm b) i))).length : Int), rget (plm b) i) else wstep b i s) 0 (plm b).length (-1, [0, 0, 0]) = fld (wstep b) 0 (plm b).length (5, [0, 0, 0]) := by
        obtain ⟨m, hm⟩ : ∃ m, (plm b).length = m + 1 := ⟨(plm b).length - 1, by omega⟩
        rw [hm]
        have h4 := (spec_moves (hq 0 hpos).2.1 (hq 0 hpos).2.2 F hF).2
        have w : wstep b 0 (5, [0, 0, 0]) = (((movesB (putP b (rget (plm b) 0))).length : Int), rget (plm b) 0) := by
          unfold wstep
          rw [decide_eq_true (show (((movesB (putP b (rget (plm b) 0))).length : Int) < 5) by omega)]
          rfl
        simp only [fld, w]
        exact same _ _ _ (Int.natCast_nonneg _)
      have e1 : spec_WorstTile_l6 F b (plm b) 5 0 [0, 0, 0] = some (fld (wstep b) 0 (plm b).length (5, [0, 0, 0])) := hs.1
      have e2 : impl_Board_worst_impl_WorstTile_f1_l3 F ((plm b).length : Int) b (plm b) (-1) 0 [0, 0, 0] = some (fld (wstep b) 0 (plm b).length (5, [0, 0, 0])) := hi.1.trans (congrArg some e)
      simp only [impl_Board_worst_impl_WorstTile_f1_p, impl_Board_worst_impl_WorstTile_f1_c, impl_places_eq F b hF, e1, e2, Option.isSome_some, Option.getD_some, cond_true, beq_selfL, Bool.and_self, Bool.not_true, cond_false]
      exact ⟨_, rfl, rfl, fun _ => ⟨by first | trivial | exact hB, rfl⟩⟩
theorem few_zero (b : List Int) : ∀ (m i : Nat) (s : Int × List Int), 0 ≤ s.1 → ((fld (wstep b) i m s).1 = 0 ↔ s.1 = 0 ∨ ∃ j, i ≤ j ∧ j < i + m ∧ (movesB (putP b (rget (plm b) j))).length = 0)
  | 0, i, s, h => by
    constructor
    · intro h; exact .inl h
    · rintro (h | ⟨j, h1, h2, _⟩)
      · exact h
      · omega
  | m + 1, i, s, h => by
    have hw : 0 ≤ (wstep b i s).1 ∧ ((wstep b i s).1 = 0 ↔ s.1 = 0 ∨ (movesB (putP b (rget (plm b) i))).length = 0) := by
      unfold wstep
      by_cases hc : (((movesB (putP b (rget (plm b) i))).length : Nat) : Int) < s.1
      · rw [decide_eq_true hc, cond_true]
        simp only
        constructor
        · omega
        · constructor
          · intro h; exact .inr (by omega)
          · rintro (h | h) <;> omega
      · rw [decide_eq_false hc, cond_false]
        refine ⟨h, fun h => .inl h, ?_⟩
        rintro (h | h) <;> omega
    rw [fld, few_zero b m (i + 1) _ hw.1, hw.2]
    constructor
    · rintro ((h | h) | ⟨j, h1, h2, h3⟩)
      · exact .inl h
      · exact .inr ⟨i, Nat.le_refl _, by omega, h⟩
      · exact .inr ⟨j, by omega, by omega, h3⟩
    · rintro (h | ⟨j, h1, h2, h3⟩)
      · exact .inl (.inl h)
      · by_cases hj : j = i
        · subst hj; exact .inl (.inr h3)
        · exact .inr ⟨j, by omega, by omega, h3⟩
theorem few_dead (b : List Int) : ((fld (wstep b) 0 (plm b).length (5, [0, 0, 0])).1 == 0) = decide (0 < ((plm b).filter (deadP b)).length) := by
  have h := few_zero b (plm b).length 0 (5, [0, 0, 0]) (by decide)
  rw [Bool.eq_iff_iff, beq_iff_eq, decide_eq_true_iff, h, List.length_pos_iff_exists_mem]
  constructor
  · rintro (h | ⟨j, _, h2, h3⟩)
    · exact absurd h (by decide)
    · have hj : j < (plm b).length := by omega
      exact ⟨rget (plm b) j, List.mem_filter.2 ⟨rget_mem hj, by simp [deadP, h3]⟩⟩
  · rintro ⟨p, hp⟩
    obtain ⟨h1, h2⟩ := List.mem_filter.1 hp
    obtain ⟨j, hj, rfl⟩ := List.getElem_of_mem h1
    refine .inr ⟨j, Nat.zero_le _, by omega, ?_⟩
    have hg : rget (plm b) j = (plm b)[j] := by rw [rgetL, List.getElem?_eq_getElem hj]; rfl
    rw [hg]
    simpa [deadP] using h2
end Go.Lv.P

namespace Go.Lv.P
open Go Go.Lv
theorem DeleteFunc_safe (F : Nat) (s : List Int) (b m : List Int) (q : Int → Bool) (hs : s.length ≤ 1000) (hF : 1000 < F) (hq : ∀ x ∈ s, impl_SafeMoves_f1_p F x b m = some (q x)) :
    ∃ r, slices_DeleteFunc_intint_impl_SafeMoves_f1_p F s b m = some r ∧ DeletedI s q r := by
  have hg : ∀ i, i < s.length → impl_SafeMoves_f1_p F (iget s i) b m = some (q (iget s i)) := fun i hi => by
    refine hq _ ?_
    rw [igetL, List.getElem?_eq_getElem hi]
    exact List.getElem_mem hi
  have h1 : slices_IndexFunc_intint_impl_SafeMoves_f1_l2 F s s.length b m 0 = some (fnd (fun i => q (iget s i)) (fun i => (true, (i : Int))) (false, default) 0 s.length) := by
    refine loop_find (fun i => i) s.length _ _ _ (by omega) (by omega) (fun i hi Q kn kx => ?_) fun Q kn kx => ?_
    · simp only [slices_IndexFunc_intint_impl_SafeMoves_f1_s2, inR_cast, hi, hg i hi, Int.toNat_natCast, decide_true, cond_true, Int.ofNat_lt, Option.isSome_some, Option.getD_some]
    · simp [slices_IndexFunc_intint_impl_SafeMoves_f1_s2]
  simp only [slices_DeleteFunc_intint_impl_SafeMoves_f1_p, slices_DeleteFunc_intint_impl_SafeMoves_f1_c, slices_IndexFunc_intint_impl_SafeMoves_f1_p, slices_IndexFunc_intint_impl_SafeMoves_f1_c, subn_self, h1, Option.isSome_some, Option.getD_some, cond_true]
  rcases fnd_splitI s q s.length 0 (by omega) (by simp) with ⟨h2, h3⟩ | ⟨j, hj, h2, h3, h4⟩
  · rw [h2]
    refine ⟨(s.length, s), rfl, ?_⟩
    have e := filter_allI (q := q) h3
    exact ⟨by rw [e], by rw [e]; exact List.take_length, rfl⟩
  · rw [h2]
    have hgj : iget s j = s[j] := by rw [igetL, List.getElem?_eq_getElem hj]; rfl
    obtain ⟨s', l1, l2, l3⟩ := delete_loopI (step := slices_DeleteFunc_intint_impl_SafeMoves_f1_s5 F s.length b m) q (fun x => impl_SafeMoves_f1_p F x b m = some (q x)) s.length (by omega)
      (fun i j s'' hij hjn hl hp Q kn kx => by
        have hin : i < s.length := by omega
        simp only [slices_DeleteFunc_intint_impl_SafeMoves_f1_s5, Int.ofNat_lt, hjn, inR_cast, hin, Int.toNat_natCast, decide_true, cond_true, hp, Option.isSome_some, Option.getD_some]
        cases q (iget s'' (0 + j)) <;> rfl)
      (fun i s'' Q kn kx => by simp [slices_DeleteFunc_intint_impl_SafeMoves_f1_s5]) (s.length - (j + 1)) j (j + 1) F s (by omega) (by omega) (by omega) rfl (fun x hx => hq x (List.mem_of_mem_drop hx))
    have e : s.filter (fun x => !q x) = s.take j ++ (s.drop (j + 1)).filter (fun x => !q x) := by
      have e1 : s = s.take j ++ s[j] :: s.drop (j + 1) := by rw [← List.drop_eq_getElem_cons hj, List.take_append_drop]
      conv => lhs; rw [e1]
      rw [List.filter_append, List.filter_cons, ← hgj, h3]
      simp only [Bool.not_true, Bool.false_eq_true, if_false]
      rw [filter_allI]
      exact h4
    have el : j + ((s.drop (j + 1)).filter fun x => !q x).length = (s.filter fun x => !q x).length := by
      rw [e, List.length_append, List.length_take, Nat.min_eq_left (Nat.le_of_lt hj)]
    rw [el] at l1 l3
    rw [← e] at l3
    have ll : (s.filter fun x => !q x).length ≤ s.length := List.length_filter_le _ _
    have l1' : slices_DeleteFunc_intint_impl_SafeMoves_f1_l5 F s.length b m (j : Int) (IntKind.wrap .i64 ((j : Int) + 1)) s = some ((((s.filter fun x => !q x).length : Nat) : Int), s') := by
      rw [wrap_succ (n := s.length) hj (by omega)]
      exact l1
    have hne : ((j : Int) == -1) = false := by
      rw [beq_eq_false_iff_ne]; omega
    simp only [cond_true, Option.getD_some, l1', hne, cond_false, Option.isSome_some, inLe_cast, ll, decide_true, Int.toNat_natCast, Nat.sub_zero]
    refine ⟨_, rfl, rfl, ?_, ?_⟩
    · show (splice s' (0 + _) _ _).take _ = _
      rw [splice_takeI _ _ _ _ (by omega) (by simp), l3]
    · rw [← l2]
      show (splice s' (0 + _) _ _).length = _
      exact splice_lenI _ _ _ (by omega) (by simp)
section
variable {b : List Int} (hb : b.length = 16) (ok : okB b = true)
include hb ok
theorem impl_safe (F : Nat) (hF : 1000 < F) {n : Int} (hn : inB n 1 3 = true) {d : Nat} (hd : d < 4) : impl_Board_isSafe_p F b d n = some (!(refM (lastN (n - 1).toNat) (slideB b d).1).2) := by
  simp [inB] at hn
  obtain ⟨l, o⟩ := slide_ok hb ok hd
  obtain rfl | rfl | rfl : n = 1 ∨ n = 2 ∨ n = 3 := by omega
  · have e : (1 - 1 : Int).toNat = 0 := rfl
    rw [e, refM_0]
    simp only [impl_Board_isSafe_p, impl_Board_isSafe_c, impl_Board_isSafe_n1_p, impl_Board_isSafe_n1_c, impl_slides1 hb ok F hF hd, impl_ref_0 l o F hF, Option.isSome_some, Option.getD_some, cond_true]; rfl
  · simp only [impl_Board_isSafe_p, impl_Board_isSafe_c, impl_safe_2 hb ok F hF hd, Option.isSome_some, Option.getD_some, cond_true]; rfl
  · simp only [impl_Board_isSafe_p, impl_Board_isSafe_c, impl_safe_3 hb ok F hF hd, Option.isSome_some, Option.getD_some, cond_true]; rfl
theorem spec_safe (F : Nat) (hF : 1000 < F) {n : Int} (hn : inB n 1 3 = true) {d : Nat} (hd : d < 4) : spec_l8Safe_p F b d n = some (safeM (lastN (n - 1).toNat) b d) := by
  simp [inB] at hn
  obtain rfl | rfl | rfl : n = 1 ∨ n = 2 ∨ n = 3 := by omega
  · simp only [spec_l8Safe_p, spec_l8Safe_c, spec_safe_1 hb ok F hF hd, Option.isSome_some, Option.getD_some, cond_true]; rfl
  · simp only [spec_l8Safe_p, spec_l8Safe_c, spec_safe_2 hb ok F hF hd, Option.isSome_some, Option.getD_some, cond_true]; rfl
  · simp only [spec_l8Safe_p, spec_l8Safe_c, spec_safe_3 hb ok F hF hd, Option.isSome_some, Option.getD_some, cond_true]; rfl
end
/-- the safe directions -/
theorem fld_safe (p : Nat → Bool) : fld (fun d (out : List Int) => bif p d then out ++ [(d : Int)] else out) 0 4 [] = ((List.range 4).filter p).map fun d : Nat => (d : Int) := by
  have e : List.range 4 = [0, 1, 2, 3] := rfl
  rw [e]
  simp only [fld, List.filter]
  cases p 0 <;> cases p (0 + 1) <;> cases p (0 + 1 + 1) <;> cases p (0 + 1 + 1 + 1) <;> rfl
theorem safe_val (F : Nat) (b : List Int) (hb : b.length = 16) (n : Int) (hF : 1000 < F) : ∃ (k : Nat) (m v : List Int) (o : Bool), spec_SafeMoves_p F b n = some (o, v) ∧ impl_SafeMoves_p F b n = some (k, o, m) ∧ m.take k = v ∧ v.length = k ∧ k ≤ m.length ∧ k ≤ 40 ∧ o = (okB b && inB n 1 3) ∧ v = (bif okB b && inB n 1 3 then (movesB b).filter (fun x => !(refM (lastN (n - 1).toNat) (slideB b x.toNat).1).2) else []) := by
  simp only [spec_SafeMoves_p, spec_SafeMoves_c, impl_SafeMoves_p, impl_SafeMoves_c, spec_l2Board_eq F b hb hF, impl_IsBoard_eq F b hb hF, Option.isSome_some, Option.getD_some, cond_true, beq_selfL, Bool.true_and, l1In_eq, in_eq]
  cases hB : okB b with
  | false => exact ⟨0, [], [], false, rfl, rfl, rfl, rfl, by simp, by simp, rfl, rfl⟩
  | true =>
    cases hn : inB n 1 3 with
    | false => exact ⟨0, [], [], false, rfl, rfl, rfl, rfl, by simp, by simp, rfl, rfl⟩
    | true =>
      have hl := movesB_len b
      have hs := loop_fold (step := spec_SafeMoves_s5 F n b) (fun d a => (d, a)) 4 (fun d (out : List Int) => bif safeM (lastN (n - 1).toNat) b d then out ++ [(d : Int)] else out) (fun a => a) (fun d a => a.length ≤ d) (F := F) (by omega) (by omega) (a := []) (Nat.le_refl 0)
        (fun d out hd h => ⟨moves_step h, fun Q kn kx => by
          have hd' : (d : Int) < 4 := by omega
          have hf : fits (out ++ [(d : Int)]).length 8 = true := fits_of (by simp; omega) (by simp; omega)
          simp only [spec_SafeMoves_s5, hd', decide_true, cond_true, spec_safe hb hB F hF hn hd, Option.isSome_some, Option.getD_some, subn_self, hf]
          cases safeM (lastN (n - 1).toNat) b d <;> rfl⟩) (fun a _ Q kn kx => by simp [spec_SafeMoves_s5])
      have hs1 : spec_SafeMoves_l5 F n b 0 [] = some ((movesB b).filter fun x => !(refM (lastN (n - 1).toNat) (slideB b x.toNat).1).2) := by
        rw [← safe_filter, ← fld_safe]; exact hs.1
      obtain ⟨r, hr, hd⟩ := DeleteFunc_safe F (movesB b) b [n] (fun x => (refM (lastN (n - 1).toNat) (slideB b x.toNat).1).2) (by omega) hF (fun x hx => by
        obtain ⟨d, rfl, hd, _⟩ := movesB_mem hx
        have e : iget [n] 0 = n := rfl
        simp only [impl_SafeMoves_f1_p, impl_SafeMoves_f1_c, e, impl_safe hb hB F hF hn hd, Option.isSome_some, Option.getD_some, cond_true, Int.toNat_natCast, Bool.not_not])
      obtain ⟨d1, d2, d3⟩ := hd
      simp only at d1 d2 d3
      have dl : ((movesB b).filter fun x => !(refM (lastN (n - 1).toNat) (slideB b x.toNat).1).2).length ≤ (movesB b).length := List.length_filter_le _ _
      simp only [hs1, impl_moves hb hB F hF, hr, Option.isSome_some, Option.getD_some, cond_true, Bool.not_true, cond_false, beq_selfL, Bool.and_self]
      exact ⟨r.1, r.2, _, true, rfl, rfl, d2, d1.symm, by omega, by omega, rfl, rfl⟩
end Go.Lv.P
