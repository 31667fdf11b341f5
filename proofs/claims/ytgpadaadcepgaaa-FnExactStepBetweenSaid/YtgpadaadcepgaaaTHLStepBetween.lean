/-
FnExactStepBetween: both say the same.
-/
import Derived.Test.YtgpadaadcepgaaaTHP6
import Derived.Test.YtgpadaadcepgaaaTHP7
import Derived.Test.YtgpadaadcepgaaaTHPAll
import Derived.Test.YtgpadaadcepgaaaTHPMkStepS
import Derived.Test.YtgpadaadcepgaaaTHPTail
import Derived.Test.YtgpadaadcepgaaaTHPToBoard
import Derived.Test.YtgpadaadcepgaaaTHPDelete
namespace Go.Lv.P
open Go Go.Lv
set_option linter.unusedVariables false
set_option linter.unusedSimpArgs false
set_option linter.unusedSectionVars false
theorem Delete_between (F : Nat) (s : LL) (a b : List Int) (q : List Int → Bool) (hs : s.length ≤ 1000) (hF : 1000 < F) (hq : ∀ x ∈ s, impl_StepBetween_f1_p F x a b = some (q x)) :
    ∃ r, slices_DeleteFunc_implStepimplStep_impl_StepBetween_f1_p F s a b = some r ∧ Deleted s q r := by
  have hg : ∀ i, i < s.length → impl_StepBetween_f1_p F (rget s i) a b = some (q (rget s i)) := fun i hi => by
    refine hq _ ?_
    rw [rgetL, List.getElem?_eq_getElem hi]
    exact List.getElem_mem hi
  have h1 : slices_IndexFunc_implStepimplStep_impl_StepBetween_f1_l2 F s s.length a b 0 = some (fnd (fun i => q (rget s i)) (fun i => (true, (i : Int))) (false, default) 0 s.length) := by
    refine loop_find (fun i => i) s.length _ _ _ (by omega) (by omega) (fun i hi Q kn kx => ?_) fun Q kn kx => ?_
    · simp only [slices_IndexFunc_implStepimplStep_impl_StepBetween_f1_s2, inR_cast, hi, hg i hi, Int.toNat_natCast, decide_true, cond_true, Int.ofNat_lt, Option.isSome_some, Option.getD_some]
    · simp [slices_IndexFunc_implStepimplStep_impl_StepBetween_f1_s2]
  simp only [slices_DeleteFunc_implStepimplStep_impl_StepBetween_f1_p, slices_DeleteFunc_implStepimplStep_impl_StepBetween_f1_c, slices_IndexFunc_implStepimplStep_impl_StepBetween_f1_p, slices_IndexFunc_implStepimplStep_impl_StepBetween_f1_c, subn_self, h1, Option.isSome_some, Option.getD_some, cond_true]
  rcases fnd_split s q s.length 0 (by omega) (by simp) with ⟨h2, h3⟩ | ⟨j, hj, h2, h3, h4⟩
  · rw [h2]
    refine ⟨(s.length, s), rfl, ?_⟩
    have e := filter_all (q := q) h3
    exact ⟨by rw [e], by rw [e]; exact List.take_length, rfl⟩
  · rw [h2]
    have hgj : rget s j = s[j] := by rw [rgetL, List.getElem?_eq_getElem hj]; rfl
    obtain ⟨s', l1, l2, l3⟩ := delete_loop (step := slices_DeleteFunc_implStepimplStep_impl_StepBetween_f1_s5 F s.length a b) q (fun x => impl_StepBetween_f1_p F x a b = some (q x)) s.length (by omega)
      (fun i j s'' hij hjn hl hp Q kn kx => by
        have hin : i < s.length := by omega
        simp only [slices_DeleteFunc_implStepimplStep_impl_StepBetween_f1_s5, Int.ofNat_lt, hjn, inR_cast, hin, Int.toNat_natCast, decide_true, cond_true, hp, Option.isSome_some, Option.getD_some]
        cases q (rget s'' (0 + j)) <;> rfl)
      (fun i s'' Q kn kx => by simp [slices_DeleteFunc_implStepimplStep_impl_StepBetween_f1_s5]) (s.length - (j + 1)) j (j + 1) F s (by omega) (by omega) (by omega) rfl (fun x hx => hq x (List.mem_of_mem_drop hx))
    have e : s.filter (fun x => !q x) = s.take j ++ (s.drop (j + 1)).filter (fun x => !q x) := by
      have e1 : s = s.take j ++ s[j] :: s.drop (j + 1) := by rw [← List.drop_eq_getElem_cons hj, List.take_append_drop]
      conv => lhs; rw [e1]
      rw [List.filter_append, List.filter_cons, ← hgj, h3]
      simp only [Bool.not_true, Bool.false_eq_true, if_false]
      rw [filter_all]
      exact h4
    have el : j + ((s.drop (j + 1)).filter fun x => !q x).length = (s.filter fun x => !q x).length := by
      rw [e, List.length_append, List.length_take, Nat.min_eq_left (Nat.le_of_lt hj)]
    rw [el] at l1 l3
    rw [← e] at l3
    have ll : (s.filter fun x => !q x).length ≤ s.length := List.length_filter_le _ _
    have l1' : slices_DeleteFunc_implStepimplStep_impl_StepBetween_f1_l5 F s.length a b (j : Int) (IntKind.wrap .i64 ((j : Int) + 1)) s = some ((((s.filter fun x => !q x).length : Nat) : Int), s') := by
      rw [wrap_succ (n := s.length) hj (by omega)]
      exact l1
    have hne : ((j : Int) == -1) = false := by
      rw [beq_eq_false_iff_ne]; omega
    simp only [cond_true, Option.getD_some, l1', hne, cond_false, Option.isSome_some, inLe_cast, ll, decide_true, Int.toNat_natCast, Nat.sub_zero]
    refine ⟨_, rfl, rfl, ?_, ?_⟩
    · show (splice s' (0 + _) _ _).take _ = _
      rw [splice_take _ _ _ _ (by omega) (by simp), l3]
    · rw [← l2]
      show (splice s' (0 + _) _ _).length = _
      exact splice_len' _ _ _ (by omega) (by simp)


theorem between_same (F : Nat) (a b : List Int) (ha : a.length = 16) (hb : b.length = 16) (hF : 1000 < F) : ∃ (o : Bool) (l : LL) (r : Nat × LL), spec_StepBetween_p F a b = some (o, l) ∧ impl_StepBetween_p F a b = some (r.1, o, r.2) ∧ r.1 = l.length ∧ r.2.take r.1 = l ∧ l.length ≤ r.2.length ∧ l.length ≤ 128 ∧ r.2.length ≤ 1000 ∧ ∀ x ∈ l, x.length = 4 := by
  have triv : ∃ (o : Bool) (l : LL) (r : Nat × LL), some (false, ([] : LL)) = some (o, l) ∧ some ((0 : Nat), false, ([] : LL)) = some (r.1, o, r.2) ∧ r.1 = l.length ∧ r.2.take r.1 = l ∧ l.length ≤ r.2.length ∧ l.length ≤ 128 ∧ r.2.length ≤ 1000 ∧ ∀ x ∈ l, x.length = 4 := ⟨false, [], (0, []), rfl, rfl, rfl, rfl, by simp, by simp, by simp, by simp⟩
  rcases hA : okB a with _ | _
  · simp only [spec_StepBetween_p, spec_StepBetween_c, impl_StepBetween_p, impl_StepBetween_c, spec_l2Board_eq F a ha hF, impl_IsBoard_eq F a ha hF, hA, Option.isSome_some, Option.getD_some, cond_true, Bool.not_false]
    exact triv
  · rcases hB : okB b with _ | _
    · simp only [spec_StepBetween_p, spec_StepBetween_c, impl_StepBetween_p, impl_StepBetween_c, spec_l2Board_eq F a ha hF, impl_IsBoard_eq F a ha hF, hA, spec_l2Board_eq F b hb hF, impl_IsBoard_eq F b hb hF, hB, Option.isSome_some, Option.getD_some, cond_true, Bool.not_false, Bool.not_true, cond_false]
      exact triv
    · have hl := allB_len a
      obtain ⟨r, d1, d2⟩ := Delete_between F (allB a) a b (fun s => !(nxt a s == b)) (by omega) hF (fun x hx => by
        obtain ⟨w, hw⟩ := impl_nxt ha hA F hF hx
        simp only [impl_StepBetween_f1_p, impl_StepBetween_f1_c, hw, Option.isSome_some, Option.getD_some, cond_true])
      have d2 : Deleted (allB a) (fun s => !(nxt a s == b)) r := d2
      have e : ((allB a).filter fun x => !!(nxt a x == b)) = (allB a).filter fun x => nxt a x == b := by simp only [Bool.not_not]
      have hs := loop_fold (step := spec_StepBetween_s6 F a b (allB a)) (fun i (o : LL) => (i, o)) (allB a).length (fun i out => bif nxt a (rget (allB a) i) == b then out ++ [rget (allB a) i] else out) (fun o => o) (fun i out => out.length ≤ i) (F := F) (by omega) (by omega) (a := []) (by simp)
        (fun i out hi hI => by
          refine ⟨by cases nxt a (rget (allB a) i) == b <;> simp <;> omega, fun Q kn kx => ?_⟩
          obtain ⟨w, hw⟩ := spec_nxt ha hA F hF (rget_mem hi)
          have hf : ∀ x : List Int, fits (out ++ [x]).length 32 = true := fun x => fits_of (by simp; omega) (by simp; omega)
          simp only [spec_StepBetween_s6, Int.ofNat_lt, inR_cast, hi, Int.toNat_natCast, decide_true, cond_true, Nat.zero_add, hw, Option.isSome_some, Option.getD_some, subn_self, hf]
          cases nxt a (rget (allB a) i) == b <;> rfl) (fun o _ Q kn kx => by simp [spec_StepBetween_s6])
      have h1 : spec_StepBetween_l6 F a b (allB a) 0 [] = some ((allB a).filter fun x => nxt a x == b) := by
        rw [← fld_filter]; exact hs.1
      have lf : ((allB a).filter fun x => nxt a x == b).length ≤ (allB a).length := List.length_filter_le _ _
      refine ⟨true, (allB a).filter fun x => nxt a x == b, r, ?_, ?_, ?_, ?_, ?_, ?_, ?_, ?_⟩
      · simp only [spec_StepBetween_p, spec_StepBetween_c, spec_l2Board_eq F a ha hF, spec_l2Board_eq F b hb hF, hA, hB, spec_all ha hA F hF, h1, Option.isSome_some, Option.getD_some, cond_true, Bool.not_true, cond_false, beq_selfL, Bool.and_self]
      · simp only [impl_StepBetween_p, impl_StepBetween_c, impl_IsBoard_eq F a ha hF, impl_IsBoard_eq F b hb hF, hA, hB, impl_all ha hA F hF, d1, Option.isSome_some, Option.getD_some, cond_true, Bool.not_true, cond_false, beq_selfL, Bool.and_self]
      · rw [d2.1, e]
      · rw [d2.2.1, e]
      · rw [d2.2.2]; exact lf
      · omega
      · rw [d2.2.2]; omega
      · intro x hx
        exact allB_rows a x (List.mem_filter.1 hx).1
theorem law_StepBetween (F : Nat) (a : List Int) (ha : a.length = 16) (_ : ∀ x ∈ a, Rng x) (b : List Int) (hb : b.length = 16) (_ : ∀ x ∈ b, Rng x) (hF : 1000 < F) : laws_FnExactStepBetween_p F a b = some true := by
  obtain ⟨o, l, r, h1, h2, hr1, hr2, hle, hl, hlr, h4⟩ := between_same F a b ha hb hF
  obtain ⟨m', e1, e1l, e1t⟩ := markStepS_eq F r.1 r.2 (fun x hx => h4 x (hr2 ▸ hx)) (by omega) (by omega) hF (by omega)
  have e2 := heldStepS_eq F r.1 (by omega) hF (by omega)
  have hp : decide ((1 : Int) + 4 * (r.1 : Int) < 0) = false := by simp; omega
  simp only [laws_FnExactStepBetween_p, laws_FnExactStepBetween_c, toBoard_eq ha, toBoard_eq hb, h1, h2, Option.isSome_some, Option.getD_some, cond_true, subn_take0, hr2, List.take_length, eqStepS_refl F l (by omega) hF (by omega), beq_self_eq_true, Bool.not_true, cond_false, beq_selfL, Bool.and_self, e1, e1t, e2, hp]
end Go.Lv.P
