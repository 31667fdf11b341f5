/-
FnExactSafeMoves: both say the same.
-/
import Derived.Test.YtidmlibanopfhaaTGP7
import Derived.Test.YtidmlibanopfhaaTGLRefuteMove
import Derived.Test.YtidmlibanopfhaaTGPMkS
import Derived.Test.YtidmlibanopfhaaTGPTail
namespace Go.Lv.P
open Go Go.Lv
set_option linter.unusedVariables false
set_option linter.unusedSimpArgs false
theorem DeleteFunc_safe (F : Nat) (s : List Int) (b m : List Int) (q : Int → Bool) (hs : s.length ≤ 1000) (hF : 1000 < F) (hq : ∀ x ∈ s, impl_SafeMoves_f1_p F x b m = some (q x)) :
    ∃ r, slices_DeleteFunc_intint_impl_SafeMoves_f1_p F s b m = some r ∧ DeletedI s q r := by
  have hg : ∀ i, i < s.length → impl_SafeMoves_f1_p F (iget s i) b m = some (q (iget s i)) := fun i hi => by
    refine hq _ ?_
    rw [igetL, List.getElem?_eq_getElem hi]
    exact List.getElem_mem hi
  have h1 : slices_IndexFunc_intint_impl_SafeMoves_f1_l2 F s s.length b m 0 = some (fnd (fun i => q (iget s i)) (fun i => (true, (i : Int))) (false, default) 0 s.length) := by
    refine loop_find (fun i => i) s.length _ _ _ (by omega) (by omega) (fun i hi Q kn kx => ?_) fun Q kn kx => ?_
    · simp only [slices_IndexFunc_intint_impl_SafeMoves_f1_s2, inR_cast, hi, hg i hi, Int.toNat_natCast, decide_true, cond_true, Int.ofNat_lt, Option.isSome_some, Option.getD_some]
    · simp [slices_IndexFunc_intint_impl_SafeMoves_f1_s2]
  simp only [slices_DeleteFunc_intint_impl_SafeMoves_f1_p, slices_DeleteFunc_intint_impl_SafeMoves_f1_c, slices_IndexFunc_intint_impl_SafeMoves_f1_p, slices_IndexFunc_intint_impl_SafeMoves_f1_c, subn_self, h1, Option.isSome_some, Option.getD_some, cond_true]
  rcases fnd_splitI s q s.length 0 (by omega) (by simp) with ⟨h2, h3⟩ | ⟨j, hj, h2, h3, h4⟩
  · rw [h2]
    refine ⟨(s.length, s), rfl, ?_⟩
    have e := filter_allI (q := q) h3
    exact ⟨by rw [e], by rw [e]; exact List.take_length, rfl⟩
  · rw [h2]
    have hgj : iget s j = s[j] := by rw [igetL, List.getElem?_eq_getElem hj]; rfl
    obtain ⟨s', l1, l2, l3⟩ := delete_loopI (step := slices_DeleteFunc_intint_impl_SafeMoves_f1_s5 F s.length b m) q (fun x => impl_SafeMoves_f1_p F x b m = some (q x)) s.length (by omega)
      (fun i j s'' hij hjn hl hp Q kn kx => by
        have hin : i < s.length := by omega
        simp only [slices_DeleteFunc_intint_impl_SafeMoves_f1_s5, Int.ofNat_lt, hjn, inR_cast, hin, Int.toNat_natCast, decide_true, cond_true, hp, Option.isSome_some, Option.getD_some]
        cases q (iget s'' (0 + j)) <;> rfl)
      (fun i s'' Q kn kx => by simp [slices_DeleteFunc_intint_impl_SafeMoves_f1_s5]) (s.length - (j + 1)) j (j + 1) F s (by omega) (by omega) (by omega) rfl (fun x hx => hq x (List.mem_of_mem_drop hx))
    have e : s.filter (fun x => !q x) = s.take j ++ (s.drop (j + 1)).filter (fun x => !q x) := by
      have e1 : s = s.take j ++ s[j] :: s.drop (j + 1) := by rw [← List.drop_eq_getElem_cons hj, List.take_append_drop]
      conv => lhs; rw [e1]
      rw [List.filter_append, List.filter_cons, ← hgj, h3]
      simp only [Bool.not_true, Bool.false_eq_true, if_false]
      rw [filter_allI]
      exact h4
    have el : j + ((s.drop (j + 1)).filter fun x => !q x).length = (s.filter fun x => !q x).length := by
      rw [e, List.length_append, List.length_take, Nat.min_eq_left (Nat.le_of_lt hj)]
    rw [el] at l1 l3
    rw [← e] at l3
    have ll : (s.filter fun x => !q x).length ≤ s.length := List.length_filter_le _ _
    have l1' : slices_DeleteFunc_intint_impl_SafeMoves_f1_l5 F s.length b m (j : Int) (IntKind.wrap .i64 ((j : Int) + 1)) s = some ((((s.filter fun x => !q x).length : Nat) : Int), s') := by
      rw [wrap_succ (n := s.length) hj (by omega)]
      exact l1
    have hne : ((j : Int) == -1) = false := by
      rw [beq_eq_false_iff_ne]; omega
    simp only [cond_true, Option.getD_some, l1', hne, cond_false, Option.isSome_some, inLe_cast, ll, decide_true, Int.toNat_natCast, Nat.sub_zero]
    refine ⟨_, rfl, rfl, ?_, ?_⟩
    · show (splice s' (0 + _) _ _).take _ = _
      rw [splice_takeI _ _ _ _ (by omega) (by simp), l3]
    · rw [← l2]
      show (splice s' (0 + _) _ _).length = _
      exact splice_lenI _ _ _ (by omega) (by simp)


section
variable {b : List Int} (hb : b.length = 16) (ok : okB b = true)
include hb ok
theorem impl_safe (F : Nat) (hF : 1000 < F) {n : Int} (hn : inB n 1 3 = true) {d : Nat} (hd : d < 4) : impl_Board_isSafe_p F b d n = some (!(refM (lastN (n - 1).toNat) (slideB b d).1).2) := by
  simp [inB] at hn
  obtain ⟨l, o⟩ := slide_ok hb ok hd
  obtain rfl | rfl | rfl : n = 1 ∨ n = 2 ∨ n = 3 := by omega
  · have e : (1 - 1 : Int).toNat = 0 := rfl
    rw [e, refM_0]
    simp only [impl_Board_isSafe_p, impl_Board_isSafe_c, impl_Board_isSafe_n1_p, impl_Board_isSafe_n1_c, impl_slides1 hb ok F hF hd, impl_ref_0 l o F hF, Option.isSome_some, Option.getD_some, cond_true]; rfl
  · simp only [impl_Board_isSafe_p, impl_Board_isSafe_c, impl_safe_2 hb ok F hF hd, Option.isSome_some, Option.getD_some, cond_true]; rfl
  · simp only [impl_Board_isSafe_p, impl_Board_isSafe_c, impl_safe_3 hb ok F hF hd, Option.isSome_some, Option.getD_some, cond_true]; rfl
theorem spec_safe (F : Nat) (hF : 1000 < F) {n : Int} (hn : inB n 1 3 = true) {d : Nat} (hd : d < 4) : spec_l8Safe_p F b d n = some (safeM (lastN (n - 1).toNat) b d) := by
  simp [inB] at hn
  obtain rfl | rfl | rfl : n = 1 ∨ n = 2 ∨ n = 3 := by omega
  · simp only [spec_l8Safe_p, spec_l8Safe_c, spec_safe_1 hb ok F hF hd, Option.isSome_some, Option.getD_some, cond_true]; rfl
  · simp only [spec_l8Safe_p, spec_l8Safe_c, spec_safe_2 hb ok F hF hd, Option.isSome_some, Option.getD_some, cond_true]; rfl
  · simp only [spec_l8Safe_p, spec_l8Safe_c, spec_safe_3 hb ok F hF hd, Option.isSome_some, Option.getD_some, cond_true]; rfl
end

/-- the safe directions -/
theorem fld_safe (p : Nat → Bool) : fld (fun d (out : List Int) => bif p d then out ++ [(d : Int)] else out) 0 4 [] = ((List.range 4).filter p).map fun d : Nat => (d : Int) := by
  have e : List.range 4 = [0, 1, 2, 3] := rfl
  rw [e]
  simp only [fld, List.filter]
  cases p 0 <;> cases p (0 + 1) <;> cases p (0 + 1 + 1) <;> cases p (0 + 1 + 1 + 1) <;> rfl

theorem safe_same (F : Nat) (b : List Int) (hb : b.length = 16) (n : Int) (hF : 1000 < F) : ∃ (k : Nat) (m v : List Int) (o : Bool), spec_SafeMoves_p F b n = some (o, v) ∧ impl_SafeMoves_p F b n = some (k, o, m) ∧ m.take k = v ∧ v.length = k ∧ k ≤ m.length ∧ k ≤ 40 := by
  simp only [spec_SafeMoves_p, spec_SafeMoves_c, impl_SafeMoves_p, impl_SafeMoves_c, spec_l2Board_eq F b hb hF, impl_IsBoard_eq F b hb hF, Option.isSome_some, Option.getD_some, cond_true, beq_selfL, Bool.true_and, l1In_eq, in_eq]
  cases hB : okB b with
  | false => exact ⟨0, [], [], false, rfl, rfl, rfl, rfl, by simp, by simp⟩
  | true =>
    cases hn : inB n 1 3 with
    | false => exact ⟨0, [], [], false, rfl, rfl, rfl, rfl, by simp, by simp⟩
    | true =>
      have hl := movesB_len b
      have hs := loop_fold (step := spec_SafeMoves_s5 F n b) (fun d a => (d, a)) 4 (fun d (out : List Int) => bif safeM (lastN (n - 1).toNat) b d then out ++ [(d : Int)] else out) (fun a => a) (fun d a => a.length ≤ d) (F := F) (by omega) (by omega) (a := []) (Nat.le_refl 0)
        (fun d out hd h => ⟨moves_step h, fun Q kn kx => by
          have hd' : (d : Int) < 4 := by omega
          have hf : fits (out ++ [(d : Int)]).length 8 = true := fits_of (by simp; omega) (by simp; omega)
          simp only [spec_SafeMoves_s5, hd', decide_true, cond_true, spec_safe hb hB F hF hn hd, Option.isSome_some, Option.getD_some, subn_self, hf]
          cases safeM (lastN (n - 1).toNat) b d <;> rfl⟩) (fun a _ Q kn kx => by simp [spec_SafeMoves_s5])
      have hs1 : spec_SafeMoves_l5 F n b 0 [] = some ((movesB b).filter fun x => !(refM (lastN (n - 1).toNat) (slideB b x.toNat).1).2) := by
        rw [← safe_filter, ← fld_safe]; exact hs.1
      obtain ⟨r, hr, hd⟩ := DeleteFunc_safe F (movesB b) b [n] (fun x => (refM (lastN (n - 1).toNat) (slideB b x.toNat).1).2) (by omega) hF (fun x hx => by
        obtain ⟨d, rfl, hd, _⟩ := movesB_mem hx
        have e : iget [n] 0 = n := rfl
        simp only [impl_SafeMoves_f1_p, impl_SafeMoves_f1_c, e, impl_safe hb hB F hF hn hd, Option.isSome_some, Option.getD_some, cond_true, Int.toNat_natCast, Bool.not_not])
      obtain ⟨d1, d2, d3⟩ := hd
      simp only at d1 d2 d3
      have dl : ((movesB b).filter fun x => !(refM (lastN (n - 1).toNat) (slideB b x.toNat).1).2).length ≤ (movesB b).length := List.length_filter_le _ _
      simp only [hs1, impl_moves hb hB F hF, hr, Option.isSome_some, Option.getD_some, cond_true, Bool.not_true, cond_false, beq_selfL, Bool.and_self]
      exact ⟨r.1, r.2, _, true, rfl, rfl, d2, d1.symm, by omega, by omega⟩

theorem law_SafeMoves (F : Nat) (b : List Int) (hb : b.length = 16) (_ : ∀ x ∈ b, Rng x) (n : Int) (_ : Rng n) (hF : 1000 < F) : laws_FnExactSafeMoves_p F b n = some true := by
  obtain ⟨k, m, v, o, h1, h2, hv, hl, hn, h40⟩ := safe_same F b hb n hF
  obtain ⟨m', e1, e1l, e1t⟩ := markIntS_eq F k m hn (by omega) hF (by omega)
  have e2 := heldIntS_eq F k (by omega) hF (by omega)
  have e0 := eqIntS_refl F v (by omega) hF (by omega)
  have hp : decide ((1 : Int) + (k : Int) < 0) = false := by simp; omega
  simp only [laws_FnExactSafeMoves_p, laws_FnExactSafeMoves_c, toBoard_eq hb, h1, h2, Option.isSome_some, Option.getD_some, cond_true, subn_take0, hv, List.take_length, e0, beq_self_eq_true, Bool.not_true, cond_false, e1, e1t, e2, hp]
end Go.Lv.P
