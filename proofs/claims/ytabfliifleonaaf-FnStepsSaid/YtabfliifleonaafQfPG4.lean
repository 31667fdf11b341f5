/-
Plain facts of the pure functions, part 4; without conditions.
-/
import Derived.Test.YtabfliifleonaafQfP2
import Derived.Test.YtabfliifleonaafQfP3
import Derived.Test.YtabfliifleonaafQfPG3
import Derived.Test.YtabfliifleonaafQfPG2
import Derived.Test.YtabfliifleonaafQfP4
import Derived.Test.YtabfliifleonaafQfP0
import Derived.Test.YtabfliifleonaafQfP1
import Derived.Test.YtabfliifleonaafQfPG1
set_option linter.unusedVariables false
set_option linter.unusedSimpArgs false
set_option linter.unusedSectionVars false
namespace Go.Lv.P
open Go Go.Lv
theorem stepsOf_val (F : Nat) (b : List Int) (hb : b.length = 16) (d : Int) (hF : 1000 < F) : ∃ v : Bool × LL, spec_StepsOf_p F b d = some v ∧ impl_StepsOf_p F b d = some v ∧ v.2.length ≤ 32 ∧ (∀ x ∈ v.2, x.length = 4) ∧ (v.1 = true → okB b = true ∧ ∃ n : Nat, n < 4 ∧ d = (n : Int) ∧ v.2 = stepsB b n) := by
  simp only [spec_StepsOf_p, spec_StepsOf_c, impl_StepsOf_p, impl_StepsOf_c, spec_l2Board_eq F b hb hF, impl_IsBoard_eq F b hb hF, Option.isSome_some, Option.getD_some, cond_true, spec_l2Side_v, impl_isDirection_v, l1In_eq, in_eq]
  cases hB : okB b with
  | false => exact ⟨_, rfl, rfl, by simp, by simp, fun h => by cases h⟩
  | true =>
    cases hd : inB d 0 3 with
    | false => exact ⟨_, rfl, rfl, by simp, by simp, fun h => by cases h⟩
    | true =>
      obtain ⟨n, rfl, hn⟩ : ∃ n : Nat, d = n ∧ n < 4 := by
        simp [inB] at hd
        exact ⟨d.toNat, by omega, by omega⟩
      simp only [spec_steps hb hB F hF hn, impl_steps hb hB F hF hn, Option.isSome_some, Option.getD_some, cond_true, Bool.not_true, cond_false]
      have l1 := stepsB_len b n
      have l2 := stepsB_rows b n
      generalize hw : stepsB b n = w at l1 l2 ⊢
      exact ⟨(true, w), rfl, rfl, l1, l2, fun _ => ⟨by first | rfl | trivial, n, hn, rfl, hw.symm⟩⟩
end Go.Lv.P

namespace Go.Lv.P
open Go Go.Lv
theorem concat_steps (s0 s1 s2 s3 : LL) (h0 : s0.length ≤ 32) (h1 : s1.length ≤ 32) (h2 : s2.length ≤ 32) (h3 : s3.length ≤ 32) : slices_Concat_implStepimplStep_p s0 s1 s2 s3 = some (s0 ++ s1 ++ s2 ++ s3) := by
  have e0 : IntKind.wrap .i64 ((0 : Int) + (s0.length : Int)) = ((s0.length : Nat) : Int) := by rw [Int.zero_add, wrap_of (by omega) (by omega)]
  have e1 : IntKind.wrap .i64 (((s0.length : Nat) : Int) + (s1.length : Int)) = ((s0.length + s1.length : Nat) : Int) := by rw [wrap_of (by omega) (by omega)]; omega
  have e2 : IntKind.wrap .i64 (((s0.length + s1.length : Nat) : Int) + (s2.length : Int)) = ((s0.length + s1.length + s2.length : Nat) : Int) := by rw [wrap_of (by omega) (by omega)]; omega
  have e3 : IntKind.wrap .i64 (((s0.length + s1.length + s2.length : Nat) : Int) + (s3.length : Int)) = ((s0.length + s1.length + s2.length + s3.length : Nat) : Int) := by rw [wrap_of (by omega) (by omega)]; omega
  have hneg : ∀ n : Nat, decide ((n : Int) < 0) = false := fun n => decide_eq_false (by omega)
  obtain ⟨g, hg⟩ : ∃ g, slices_Grow_implStepimplStep_p ((s0.length + s1.length + s2.length + s3.length : Nat) : Int) = some g := by
    generalize hn : s0.length + s1.length + s2.length + s3.length = n
    have e : IntKind.wrap .i64 ((n : Int) - 0) = (n : Int) := by rw [Int.sub_zero, wrap_of (by omega) (by omega)]
    simp only [slices_Grow_implStepimplStep_p, slices_Grow_implStepimplStep_c, e, hneg, cond_false, Int.toNat_natCast]
    cases hp : decide ((0 : Int) < (n : Int)) with
    | false => exact ⟨_, rfl⟩
    | true =>
      simp at hp
      have hf : fits n 32 = true := fits_of (by omega) (by omega)
      have h1 : decide ((1 : Int) ≤ (n : Int)) = true := decide_eq_true (by omega)
      have h2 : inLe (0 : Int) n = true := inLe_cast 0 n ▸ decide_eq_true (Nat.zero_le _)
      rw [cond_true, h1, hf, h2]; exact ⟨_, rfl⟩
  have f : ∀ n : Nat, n ≤ 128 → fits n 32 = true := fun n h => fits_of (by omega) (by omega)
  simp only [slices_Concat_implStepimplStep_p, slices_Concat_implStepimplStep_c, e0, e1, e2, e3, hneg, hg, cond_false, cond_true, Option.isSome_some, Option.getD_some, subn_00, subn_self, List.nil_append]
  rw [f _ (by omega), cond_true, f _ (by rw [List.length_append]; omega), cond_true, f _ (by simp only [List.length_append]; omega), cond_true, f _ (by simp only [List.length_append]; omega), cond_true]
section
variable {b : List Int} (hb : b.length = 16) (ok : okB b = true)
include hb ok
theorem impl_all (F : Nat) (hF : 1000 < F) : impl_Board_allSteps_p F b = some (allB b) := by
  have s0 := impl_steps hb ok F hF (d := 0) (by omega)
  have s1 := impl_steps hb ok F hF (d := 1) (by omega)
  have s2 := impl_steps hb ok F hF (d := 2) (by omega)
  have s3 := impl_steps hb ok F hF (d := 3) (by omega)
  have hc := concat_steps (stepsB b 0) (stepsB b 1) (stepsB b 2) (stepsB b 3) (stepsB_len b 0) (stepsB_len b 1) (stepsB_len b 2) (stepsB_len b 3)
  have s0 : impl_Board_steps_p F b 0 = _ := s0
  have s1 : impl_Board_steps_p F b 1 = _ := s1
  have s2 : impl_Board_steps_p F b 2 = _ := s2
  have s3 : impl_Board_steps_p F b 3 = _ := s3
  simp only [impl_Board_allSteps_p, impl_Board_allSteps_c, s0, s1, s2, s3, Option.isSome_some, Option.getD_some, cond_true, subn_self, hc]
  rfl
theorem steps_plm {d : Nat} {s : List Int} (hs : s ∈ stepsB b d) : ((slideB b d).1 == b) = false ∧ ∃ p ∈ plm (slideB b d).1, s = (d : Int) :: p := by
  unfold stepsB at hs
  cases hq : (slideB b d).1 == b with
  | true => rw [hq] at hs; cases hs
  | false =>
    rw [hq, cond_false, stepsOn_list] at hs
    obtain ⟨p, hp, rfl⟩ := List.mem_map.1 hs
    exact ⟨rfl, p, hp, rfl⟩
theorem all_is {s : List Int} (hs : s ∈ allB b) : ∃ d : Nat, d < 4 ∧ ((slideB b d).1 == b) = false ∧ ∃ p ∈ plm (slideB b d).1, s = (d : Int) :: p := by
  simp only [allB, List.mem_append] at hs
  rcases hs with ((h | h) | h) | h
  · exact ⟨0, by omega, steps_plm hb ok h⟩
  · exact ⟨1, by omega, steps_plm hb ok h⟩
  · exact ⟨2, by omega, steps_plm hb ok h⟩
  · exact ⟨3, by omega, steps_plm hb ok h⟩
end
/-- the board behind a step -/
def nxt (b s : List Int) : List Int := putP (slideB b (iget s 0).toNat).1 s.tail
section
variable {b : List Int} (hb : b.length = 16) (ok : okB b = true)
include hb ok
theorem nxt_ok {s : List Int} (hs : s ∈ allB b) : (nxt b s).length = 16 ∧ okB (nxt b s) = true := by
  obtain ⟨d, hd, hq, p, hp, rfl⟩ := all_is hb ok hs
  obtain ⟨l, o⟩ := slide_ok hb ok hd
  exact (put_all l o hp).2
theorem spec_nxt (F : Nat) (hF : 1000 < F) {s : List Int} (hs : s ∈ allB b) : ∃ w, spec_l5Do_p F b s = some (nxt b s, w, true) := by
  obtain ⟨d, hd, hq, p, hp, rfl⟩ := all_is hb ok hs
  exact ⟨_, do_eq hb ok F hF hd hq hp⟩
theorem impl_nxt (F : Nat) (hF : 1000 < F) {s : List Int} (hs : s ∈ allB b) : ∃ w, impl_Board_behind_p F b s = some (nxt b s, w) := by
  obtain ⟨d, hd, hq, p, hp, rfl⟩ := all_is hb ok hs
  obtain ⟨r, c, t, rfl, hr, hc, ht, hz⟩ := plm_is hp
  obtain ⟨m, hm⟩ := impl_slide hb ok F hF hd
  have s1 : sub [(d : Int), (r : Int), (c : Int), t] 1 2 = [(r : Int), (c : Int)] := rfl
  have g0 : iget [(d : Int), (r : Int), (c : Int), t] 0 = d := rfl
  have g3 : iget [(d : Int), (r : Int), (c : Int), t] 3 = t := rfl
  have q0 : iget [(r : Int), (c : Int)] 0 = r := rfl
  have q1 : iget [(r : Int), (c : Int)] 1 = c := rfl
  refine ⟨(slideB b d).2, ?_⟩
  simp only [impl_Board_behind_p, impl_Board_behind_c, g0, g3, s1, hm, impl_Board_at_p, impl_Board_at_c, q0, q1, inR_cast, hr, hc, decide_true, Option.isSome_some, Option.getD_some, cond_true]
  rfl
end
end Go.Lv.P

namespace Go.Lv.P
open Go Go.Lv
theorem inR4v {x : Int} (h : inB x 0 3 = true) : inR x 4 = true := by
  simp [inB] at h
  exact inR_true h.1 (by omega)
theorem do_val (F : Nat) (b : List Int) (hb : b.length = 16) (d r c t : Int) (hF : 1000 < F) : ∃ (nb : List Int) (sc : Int) (o : Bool), spec_DoStep_p F b [d, r, c, t] = some (nb, sc, o) ∧ impl_DoStep_p F b [d, r, c, t] = some (nb, sc, o) ∧ (o = true → okB b = true ∧ ∃ n : Nat, n < 4 ∧ d = (n : Int) ∧ inB r 0 3 = true ∧ inB c 0 3 = true ∧ inB t 1 2 = true ∧ ((slideB b n).1 == b) = false ∧ iget (slideB b n).1 (plc [r, c]) = 0 ∧ nb = iset (slideB b n).1 (plc [r, c]) t ∧ sc = (slideB b n).2) := by
  have s1 : sub [d, r, c, t] 1 2 = [r, c] := rfl
  have g0 : iget [d, r, c, t] 0 = d := rfl
  have g3 : iget [d, r, c, t] 3 = t := rfl
  have q0 : iget [r, c] 0 = r := rfl
  have q1 : iget [r, c] 1 = c := rfl
  simp only [spec_DoStep_p, spec_DoStep_c, impl_DoStep_p, impl_DoStep_c, spec_l5Do_p, spec_l5Do_c, impl_Board_isStep_p, impl_Board_isStep_c, impl_Board_behind_p, impl_Board_behind_c, spec_l2Board_eq F b hb hF, impl_IsBoard_eq F b hb hF, Option.isSome_some, Option.getD_some, cond_true, spec_l2Side_v, impl_isDirection_v, l1In_eq, in_eq, s1, g0, g3, spec_l2Cell_v, impl_isCell_v, cond_and, q0, q1]
  cases hB : okB b with
  | false => exact ⟨_, _, false, rfl, rfl, fun h => by cases h⟩
  | true =>
    cases hd : inB d 0 3 with
    | false => exact ⟨_, _, false, rfl, rfl, fun h => by cases h⟩
    | true =>
      cases hr : inB r 0 3 with
      | false => exact ⟨_, _, false, rfl, rfl, fun h => by cases h⟩
      | true =>
        cases hc : inB c 0 3 with
        | false => exact ⟨_, _, false, rfl, rfl, fun h => by cases h⟩
        | true =>
          obtain ⟨n, rfl, hn⟩ : ∃ n : Nat, d = n ∧ n < 4 := by
            simp [inB] at hd
            exact ⟨d.toNat, by omega, by omega⟩
          obtain ⟨m, hm⟩ := impl_slide hb hB F hF hn
          have hat : ∀ x : List Int, spec_l2At_p x [r, c] = some (iget x (plc [r, c])) := fun x => by
            simp only [spec_l2At_p, spec_l2At_c, q0, q1, inR4v hr, inR4v hc, cond_true, plc]
          have hput : ∀ (x : List Int), spec_l2Put_p x [r, c] t = some (iset x (plc [r, c]) t) := fun x => by
            simp only [spec_l2Put_p, spec_l2Put_c, q0, q1, inR4v hr, inR4v hc, cond_true, plc]
          have hia : ∀ x : List Int, impl_Board_at_p [r, c] x = some (plc [r, c]) := fun x => by
            simp only [impl_Board_at_p, impl_Board_at_c, q0, q1, inR4v hr, inR4v hc, cond_true, plc]
          have hl := stepsB_len b n
          simp only [spec_slide hb hB F hF hn, hm, hat, hput, hia, impl_steps hb hB F hF hn, subn_self, contains_step F _ _ (show (stepsB b n).length ≤ 1000 by omega) hF, stepsB_any b n r c t hr hc, Option.isSome_some, Option.getD_some, cond_true, Bool.not_true, cond_false, Bool.and_self, isStepB]
          cases hq : (slideB b n).1 == b with
          | true =>
            cases inB t 1 2 <;> exact ⟨_, _, false, rfl, rfl, fun h => by cases h⟩
          | false =>
            cases ht : inB t 1 2 with
            | false => cases iget (slideB b n).1 (plc [r, c]) == 0 <;> exact ⟨_, _, false, rfl, rfl, fun h => by cases h⟩
            | true =>
              cases hz : iget (slideB b n).1 (plc [r, c]) == 0 with
              | false => exact ⟨_, _, false, rfl, rfl, fun h => by cases h⟩
              | true => exact ⟨iset (slideB b n).1 (plc [r, c]) t, (slideB b n).2, true, rfl, rfl, fun _ => ⟨by first | rfl | trivial, n, hn, rfl, by first | rfl | trivial, by first | rfl | trivial, by first | rfl | trivial, by first | rfl | exact hq, eq_of_beq hz, rfl, rfl⟩⟩
end Go.Lv.P

namespace Go.Lv.P
open Go Go.Lv
theorem Delete_between (F : Nat) (s : LL) (a b : List Int) (q : List Int → Bool) (hs : s.length ≤ 1000) (hF : 1000 < F) (hq : ∀ x ∈ s, impl_StepBetween_f1_p F x a b = some (q x)) :
    ∃ r, slices_DeleteFunc_implStepimplStep_impl_StepBetween_f1_p F s a b = some r ∧ Deleted s q r := by
  have hg : ∀ i, i < s.length → impl_StepBetween_f1_p F (rget s i) a b = some (q (rget s i)) := fun i hi => by
    refine hq _ ?_
    rw [rgetL, List.getElem?_eq_getElem hi]
    exact List.getElem_mem hi
  have h1 : slices_IndexFunc_implStepimplStep_impl_StepBetween_f1_l2 F s s.length a b 0 = some (fnd (fun i => q (rget s i)) (fun i => (true, (i : Int))) (false, default) 0 s.length) := by
    refine loop_find (fun i => i) s.length _ _ _ (by omega) (by omega) (fun i hi Q kn kx => ?_) fun Q kn kx => ?_
    · simp only [slices_IndexFunc_implStepimplStep_impl_StepBetween_f1_s2, inR_cast, hi, hg i hi, Int.toNat_natCast, decide_true, cond_true, Int.ofNat_lt, Option.isSome_some, Option.getD_some]
    · simp [slices_IndexFunc_implStepimplStep_impl_StepBetween_f1_s2]
  simp only [slices_DeleteFunc_implStepimplStep_impl_StepBetween_f1_p, slices_DeleteFunc_implStepimplStep_impl_StepBetween_f1_c, slices_IndexFunc_implStepimplStep_impl_StepBetween_f1_p, slices_IndexFunc_implStepimplStep_impl_StepBetween_f1_c, subn_self, h1, Option.isSome_some, Option.getD_some, cond_true]
  rcases fnd_split s q s.length 0 (by omega) (by simp) with ⟨h2, h3⟩ | ⟨j, hj, h2, h3, h4⟩
  · rw [h2]
    refine ⟨(s.length, s), rfl, ?_⟩
    have e := filter_all (q := q) h3
    exact ⟨by rw [e], by rw [e]; exact List.take_length, rfl⟩
  · rw [h2]
    have hgj : rget s j = s[j] := by rw [rgetL, List.getElem?_eq_getElem hj]; rfl
    obtain ⟨s', l1, l2, l3⟩ := delete_loop (step := slices_DeleteFunc_implStepimplStep_impl_StepBetween_f1_s5 F s.length a b) q (fun x => impl_StepBetween_f1_p F x a b = some (q x)) s.length (by omega)
      (fun i j s'' hij hjn hl hp Q kn kx => by
        have hin : i < s.length := by omega
        simp only [slices_DeleteFunc_implStepimplStep_impl_StepBetween_f1_s5, Int.ofNat_lt, hjn, inR_cast, hin, Int.toNat_natCast, decide_true, cond_true, hp, Option.isSome_some, Option.getD_some]
        cases q (rget s'' (0 + j)) <;> rfl)
      (fun i s'' Q kn kx => by simp [slices_DeleteFunc_implStepimplStep_impl_StepBetween_f1_s5]) (s.length - (j + 1)) j (j + 1) F s (by omega) (by omega) (by omega) rfl (fun x hx => hq x (List.mem_of_mem_drop hx))
    have e : s.filter (fun x => !q x) = s.take j ++ (s.drop (j + 1)).filter (fun x => !q x) := by
      have e1 : s = s.take j ++ s[j] :: s.drop (j + 1) := by rw [← List.drop_eq_getElem_cons hj, List.take_append_drop]
      conv => lhs; rw [e1]
      rw [List.filter_append, List.filter_cons, ← hgj, h3]
      simp only [Bool.not_true, Bool.false_eq_true, if_false]
      rw [filter_all]
      exact h4
    have el : j + ((s.drop (j + 1)).filter fun x => !q x).length = (s.filter fun x => !q x).length := by
      rw [e, List.length_append, List.length_take, Nat.min_eq_left (Nat.le_of_lt hj)]
    rw [el] at l1 l3
    rw [← e] at l3
    have ll : (s.filter fun x => !q x).length ≤ s.length := List.length_filter_le _ _
    have l1' : slices_DeleteFunc_implStepimplStep_impl_StepBetween_f1_l5 F s.length a b (j : Int) (IntKind.wrap .i64 ((j : Int) + 1)) s = some ((((s.filter fun x => !q x).length : Nat) : Int), s') := by
      rw [wrap_succ (n := s.length) hj (by omega)]
      exact l1
    have hne : ((j : Int) == -1) = false := by
      rw [beq_eq_false_iff_ne]; omega
    simp only [cond_true, Option.getD_some, l1', hne, cond_false, Option.isSome_some, inLe_cast, ll, decide_true, Int.toNat_natCast, Nat.sub_zero]
    refine ⟨_, rfl, rfl, ?_, ?_⟩
    · show (splice s' (0 + _) _ _).take _ = _
      rw [splice_take _ _ _ _ (by omega) (by simp), l3]
    · rw [← l2]
      show (splice s' (0 + _) _ _).length = _
      exact splice_len' _ _ _ (by omega) (by simp)
theorem betw_val (F : Nat) (a b : List Int) (ha : a.length = 16) (hb : b.length = 16) (hF : 1000 < F) : ∃ (o : Bool) (l : LL) (r : Nat × LL), spec_StepBetween_p F a b = some (o, l) ∧ impl_StepBetween_p F a b = some (r.1, o, r.2) ∧ r.1 = l.length ∧ r.2.take r.1 = l ∧ l.length ≤ r.2.length ∧ l.length ≤ 128 ∧ r.2.length ≤ 1000 ∧ (∀ x ∈ l, x.length = 4) ∧ (o = true → okB a = true ∧ l = (allB a).filter fun x => nxt a x == b) := by
  have triv : ∀ p : LL → Prop, ∃ (o : Bool) (l : LL) (r : Nat × LL), some (false, ([] : LL)) = some (o, l) ∧ some ((0 : Nat), false, ([] : LL)) = some (r.1, o, r.2) ∧ r.1 = l.length ∧ r.2.take r.1 = l ∧ l.length ≤ r.2.length ∧ l.length ≤ 128 ∧ r.2.length ≤ 1000 ∧ (∀ x ∈ l, x.length = 4) ∧ (o = true → p l) := fun p => ⟨false, [], (0, []), rfl, rfl, rfl, rfl, by simp, by simp, by simp, by simp, fun h => by cases h⟩
  rcases hA : okB a with _ | _
  · simp only [spec_StepBetween_p, spec_StepBetween_c, impl_StepBetween_p, impl_StepBetween_c, spec_l2Board_eq F a ha hF, impl_IsBoard_eq F a ha hF, hA, Option.isSome_some, Option.getD_some, cond_true, Bool.not_false]
    exact triv _
  · rcases hB : okB b with _ | _
    · simp only [spec_StepBetween_p, spec_StepBetween_c, impl_StepBetween_p, impl_StepBetween_c, spec_l2Board_eq F a ha hF, impl_IsBoard_eq F a ha hF, hA, spec_l2Board_eq F b hb hF, impl_IsBoard_eq F b hb hF, hB, Option.isSome_some, Option.getD_some, cond_true, Bool.not_false, Bool.not_true, cond_false]
      exact triv _
    · have hl := allB_len a
      obtain ⟨r, d1, d2⟩ := Delete_between F (allB a) a b (fun s => !(nxt a s == b)) (by omega) hF (fun x hx => by
        obtain ⟨w, hw⟩ := impl_nxt ha hA F hF hx
        simp only [impl_StepBetween_f1_p, impl_StepBetween_f1_c, hw, Option.isSome_some, Option.getD_some, cond_true])
      have d2 : Deleted (allB a) (fun s => !(nxt a s == b)) r := d2
      have e : ((allB a).filter fun x => !!(nxt a x == b)) = (allB a).filter fun x => nxt a x == b := by simp only [Bool.not_not]
      have hs := loop_fold (step := spec_StepBetween_s6 F a b (allB a)) (fun i (o : LL) => (i, o)) (allB a).length (fun i out => bif nxt a (rget (allB a) i) == b then out ++ [rget (allB a) i] else out) (fun o => o) (fun i out => out.length ≤ i) (F := F) (by omega) (by omega) (a := []) (by simp)
        (fun i out hi hI => by
          refine ⟨by cases nxt a (rget (allB a) i) == b <;> simp <;> omega, fun Q kn kx => ?_⟩
          obtain ⟨w, hw⟩ := spec_nxt ha hA F hF (rget_mem hi)
          have hf : ∀ x : List Int, fits (out ++ [x]).length 32 = true := fun x => fits_of (by simp; omega) (by simp; omega)
          simp only [spec_StepBetween_s6, Int.ofNat_lt, inR_cast, hi, Int.toNat_natCast, decide_true, cond_true, Nat.zero_add, hw, Option.isSome_some, Option.getD_some, subn_self, hf]
          cases nxt a (rget (allB a) i) == b <;> rfl) (fun o _ Q kn kx => by simp [spec_StepBetween_s6])
      have h1 : spec_StepBetween_l6 F a b (allB a) 0 [] = some ((allB a).filter fun x => nxt a x == b) := by
        rw [← fld_filter]; exact hs.1
      have lf : ((allB a).filter fun x => nxt a x == b).length ≤ (allB a).length := List.length_filter_le _ _
      refine ⟨true, (allB a).filter fun x => nxt a x == b, r, ?_, ?_, ?_, ?_, ?_, ?_, ?_, ?_, fun _ => ⟨by first | rfl | exact hA, rfl⟩⟩
      · simp only [spec_StepBetween_p, spec_StepBetween_c, spec_l2Board_eq F a ha hF, spec_l2Board_eq F b hb hF, hA, hB, spec_all ha hA F hF, h1, Option.isSome_some, Option.getD_some, cond_true, Bool.not_true, cond_false, beq_selfL, Bool.and_self]
      · simp only [impl_StepBetween_p, impl_StepBetween_c, impl_IsBoard_eq F a ha hF, impl_IsBoard_eq F b hb hF, hA, hB, impl_all ha hA F hF, d1, Option.isSome_some, Option.getD_some, cond_true, Bool.not_true, cond_false, beq_selfL, Bool.and_self]
      · rw [d2.1, e]
      · rw [d2.2.1, e]
      · rw [d2.2.2]; exact lf
      · omega
      · rw [d2.2.2]; omega
      · intro x hx
        exact allB_rows a x (List.mem_filter.1 hx).1
end Go.Lv.P

namespace Go.Lv.P
open Go Go.Lv
abbrev KM := List (List Int × Bool)
theorem mput_len (k : List Int) (v : Bool) : ∀ l : KM, (mput k v l).length = bif (l.map Prod.fst).contains k then l.length else l.length + 1
  | [] => rfl
  | (x, u) :: r => by
    simp only [mput, List.map_cons, List.contains_cons]
    cases h : k == x with
    | true => rfl
    | false =>
      rw [cond_false, Bool.false_or, List.length_cons, mput_len k v r]
      cases (r.map Prod.fst).contains k <;> rfl
theorem mput_keys (k : List Int) (v : Bool) (x : List Int) : ∀ l : KM, x ∈ (mput k v l).map Prod.fst ↔ x = k ∨ x ∈ l.map Prod.fst
  | [] => by simp [mput]
  | (y, u) :: r => by
    simp only [mput]
    cases h : k == y with
    | true =>
      have e := eq_of_beq h
      subst e
      simp
    | false =>
      rw [cond_false, List.map_cons, List.mem_cons, mput_keys k v x r, List.map_cons, List.mem_cons]
      constructor
      · rintro (h | h | h)
        · exact .inr (.inl h)
        · exact .inl h
        · exact .inr (.inr h)
      · rintro (h | h | h)
        · exact .inr (.inl h)
        · exact .inl h
        · exact .inr (.inr h)
/-- the two tell as many -/
theorem fold_same (g : List Int → List Int) : ∀ (all : LL) (s : LL) (m : KM), (∀ x ∈ all, (g x).length = 16) → (∀ x ∈ s, x.length = 16) → Asc s → (∀ x, x ∈ s ↔ x ∈ m.map Prod.fst) → s.length = m.length →
    (all.foldl (fun s x => insB (g x) s) s).length = (all.foldl (fun m x => mput (g x) true m) m).length
  | [], s, m, _, _, _, _, h => h
  | a :: r, s, m, h16, hs, ha, hk, hl => by
    have hg := h16 a List.mem_cons_self
    have h2 : ∀ x ∈ s, x.length = (g a).length := fun x hx => by rw [hs x hx, hg]
    refine fold_same g r _ _ (fun x hx => h16 x (List.mem_cons_of_mem _ hx)) (fun x hx => ?_) (insB_asc ha h2) (fun x => ?_) ?_
    · rcases insB_mem.1 hx with rfl | hx
      · exact hg
      · exact hs x hx
    · rw [insB_mem, mput_keys, hk]
    · rw [insB_len ha h2, mput_len, hl]
      have : s.contains (g a) = (m.map Prod.fst).contains (g a) := by
        rw [Bool.eq_iff_iff, List.contains_iff_mem, List.contains_iff_mem]; exact hk _
      rw [this]
/-- the boards behind steps -/
def nextK (b : List Int) : KM := (allB b).foldl (fun m x => mput (nxt b x) true m) []
theorem next_val (F : Nat) (b : List Int) (hb : b.length = 16) (hF : 1000 < F) : spec_CountNext_p F b = some (bif okB b then ((((nextK b).length : Nat) : Int), true) else (0, false)) ∧ impl_CountNext_p F b = some (bif okB b then ((((nextK b).length : Nat) : Int), true) else (0, false)) := by
  unfold nextK
  cases hB : okB b with
  | false =>
    simp only [spec_CountNext_p, spec_CountNext_c, impl_CountNext_p, impl_CountNext_c, spec_l2Board_eq F b hb hF, impl_IsBoard_eq F b hb hF, hB, Option.isSome_some, Option.getD_some, cond_true, Bool.not_false]
    exact ⟨rfl, rfl⟩
  | true =>
    have hl := allB_len b
    have hs := loop_fold (step := spec_CountNext_s5 F (allB b) b) (fun i (s : LL) => (s, i)) (allB b).length (fun i s => insB (nxt b (rget (allB b) i)) s) (fun s => s) (fun i s => s.length ≤ i ∧ ∀ x ∈ s, x.length = 16) (F := F) (by omega) (by omega) (a := []) ⟨by simp, fun x hx => (by cases hx)⟩
      (fun i s hi hI => by
        obtain ⟨w, hw⟩ := spec_nxt hb hB F hF (rget_mem hi)
        have hn := (nxt_ok hb hB (rget_mem hi)).1
        have hlen : (insB (nxt b (rget (allB b) i)) s).length ≤ s.length + 1 := by
          have : ∀ l : LL, (insB (nxt b (rget (allB b) i)) l).length ≤ l.length + 1 := by
            intro l
            induction l with
            | nil => simp [insB]
            | cons a r ih =>
              simp only [insB]
              cases ltL a (nxt b (rget (allB b) i))
              · cases a == nxt b (rget (allB b) i) <;> simp
              · simp only [cond_true, List.length_cons]; omega
          exact this s
        refine ⟨⟨by omega, fun x hx => ?_⟩, fun Q kn kx => ?_⟩
        · rcases insB_mem.1 hx with rfl | hx
          · exact hn
          · exact hI.2 x hx
        · simp only [spec_CountNext_s5, Int.ofNat_lt, inR_cast, hi, Int.toNat_natCast, decide_true, cond_true, hw, add_eq F hF hn hI.2 (by omega) (by omega), Option.isSome_some, Option.getD_some]) (fun s _ Q kn kx => by simp [spec_CountNext_s5])
    have hi := loop_fold (step := impl_CountNext_s5 F (((allB b).length : Nat) : Int) b (allB b)) (fun i (m : KM) => (i, m)) (allB b).length (fun i m => mput (nxt b (rget (allB b) i)) true m) (fun m => m) (fun _ _ => True) (F := F) (by omega) (by omega) (a := []) trivial
      (fun i m hi _ => ⟨trivial, fun Q kn kx => by
        obtain ⟨w, hw⟩ := impl_nxt hb hB F hF (rget_mem hi)
        simp only [impl_CountNext_s5, Int.ofNat_lt, inR_cast, hi, Int.toNat_natCast, decide_true, cond_true, Nat.zero_add, hw, Option.isSome_some, Option.getD_some]⟩) (fun m _ Q kn kx => by simp [impl_CountNext_s5])
    have h1 := hs.1
    have h2 := hi.1
    rw [fld_rget (allB b) (fun x (s : LL) => insB (nxt b x) s)] at h1
    rw [fld_rget (allB b) (fun x (m : KM) => mput (nxt b x) true m)] at h2
    have hsame := fold_same (nxt b) (allB b) [] [] (fun x hx => (nxt_ok hb hB hx).1) (fun x hx => (by cases hx)) trivial (fun x => by simp) rfl
    have h1 : spec_CountNext_l5 F (allB b) b [] 0 = _ := h1
    have h2 : impl_CountNext_l5 F (((allB b).length : Nat) : Int) b (allB b) 0 [] = _ := h2
    refine ⟨?_, ?_⟩
    · simp only [spec_CountNext_p, spec_CountNext_c, spec_l2Board_eq F b hb hF, hB, spec_all hb hB F hF, subn_self, h1, hsame, Option.isSome_some, Option.getD_some, cond_true, Bool.not_true, cond_false]
    · simp only [impl_CountNext_p, impl_CountNext_c, impl_IsBoard_eq F b hb hF, hB, impl_all hb hB F hF, h2, Option.isSome_some, Option.getD_some, cond_true, Bool.not_true, cond_false, beq_selfL, Bool.and_self]
theorem mputs_keys (g : List Int → List Int) (x : List Int) : ∀ (l : LL) (m : KM), x ∈ (l.foldl (fun m y => mput (g y) true m) m).map Prod.fst ↔ x ∈ m.map Prod.fst ∨ ∃ y ∈ l, g y = x
  | [], m => by simp
  | y :: l, m => by
    rw [List.foldl_cons, mputs_keys g x l, mput_keys]
    constructor
    · rintro ((h | h) | ⟨z, hz, h⟩)
      · exact .inr ⟨y, List.mem_cons_self, h.symm⟩
      · exact .inl h
      · exact .inr ⟨z, List.mem_cons_of_mem _ hz, h⟩
    · rintro (h | ⟨z, hz, h⟩)
      · exact .inl (.inr h)
      · rcases List.mem_cons.1 hz with rfl | hz
        · exact .inl (.inl h.symm)
        · exact .inr ⟨z, hz, h⟩
theorem nodup_le : ∀ {l m : LL}, l.Nodup → (∀ x ∈ l, x ∈ m) → l.length ≤ m.length
  | [], m, _, _ => Nat.zero_le _
  | a :: l, m, hn, hs => by
    rw [List.nodup_cons] at hn
    have ha := hs a List.mem_cons_self
    have h := nodup_le (l := l) (m := m.erase a) hn.2 fun x hx => (List.mem_erase_of_ne (fun e => hn.1 (by rw [← e]; exact hx))).2 (hs x (List.mem_cons_of_mem _ hx))
    rw [List.length_erase_of_mem ha] at h
    have := List.length_pos_of_mem ha
    simp only [List.length_cons]; omega
theorem cells_dis : cells16.Pairwise fun a b => plc a ≠ plc b := by decide
theorem nxt_nodup (b : List Int) {d : Nat} (hl : (slideB b d).1.length = 16) : ((stepsB b d).map (nxt b)).Nodup := by
  unfold stepsB
  cases (slideB b d).1 == b with
  | true => exact List.nodup_nil
  | false =>
    rw [cond_false, stepsOn_list, List.map_map, plm_list, List.map_flatMap]
    have e : ∀ c : List Int, ([[iget c 0, iget c 1, (1 : Int)], [iget c 0, iget c 1, 2]].map (nxt b ∘ fun p => (d : Int) :: p)) = [iset (slideB b d).1 (plc c) 1, iset (slideB b d).1 (plc c) 2] := fun c => by
      have hd : ((d : Nat) : Int).toNat = d := Int.toNat_natCast d
      simp only [List.map_cons, List.map_nil, Function.comp, nxt, iget, hd, List.tail_cons]
      rfl
    simp only [e]
    rw [List.Nodup, List.pairwise_flatMap]
    have hlt : ∀ c ∈ cells16, plc c < 16 := cells_all fun r c hr hc => by
      show 0 + (r : Int).toNat * 4 + (c : Int).toNat * 1 < 16
      simp only [Int.toNat_natCast]; omega
    have at_ : ∀ (p q : Nat) (x : Int), p < 16 → iget (iset (slideB b d).1 p x) q = if p = q then x else iget (slideB b d).1 q := fun p q x hp => iget_iset _ _ _ _ (by omega)
    refine ⟨fun c hc => ?_, ?_⟩
    · have hp := hlt c (em_mem _ c hc)
      rw [List.pairwise_cons]
      refine ⟨fun y hy => ?_, List.pairwise_singleton _ _⟩
      simp only [List.mem_cons, List.not_mem_nil, or_false] at hy
      subst hy
      intro h
      have := congrArg (fun l => iget l (plc c)) h
      simp only [at_ _ _ _ hp, if_true] at this
      omega
    · refine List.Pairwise.imp_of_mem (fun {c1 c2} h1 h2 h => ?_) (List.Pairwise.filter _ cells_dis)
      have z1 : iget (slideB b d).1 (plc c1) = 0 := by simpa using (List.mem_filter.1 h1).2
      have p1 := hlt c1 (em_mem _ c1 h1)
      have p2 := hlt c2 (em_mem _ c2 h2)
      intro x hx y hy e
      have ex : iget x (plc c1) ≠ 0 := by
        simp only [List.mem_cons, List.not_mem_nil, or_false] at hx
        rcases hx with rfl | rfl
        · rw [at_ _ _ _ p1, if_pos rfl]; omega
        · rw [at_ _ _ _ p1, if_pos rfl]; omega
      have ey : iget y (plc c1) = 0 := by
        simp only [List.mem_cons, List.not_mem_nil, or_false] at hy
        rcases hy with rfl | rfl
        · rw [at_ _ _ _ p2, if_neg (Ne.symm h), z1]
        · rw [at_ _ _ _ p2, if_neg (Ne.symm h), z1]
      exact ex (e ▸ ey)
theorem next_most (b : List Int) {d : Nat} (hd : d < 4) (hl : (slideB b d).1.length = 16) : (stepsB b d).length ≤ (nextK b).length := by
  have h := nodup_le (nxt_nodup b hl) (m := (nextK b).map Prod.fst) fun x hx => by
    obtain ⟨s, hs, rfl⟩ := List.mem_map.1 hx
    unfold nextK
    rw [mputs_keys]
    refine .inr ⟨s, ?_, rfl⟩
    simp only [allB, List.mem_append]
    obtain rfl | rfl | rfl | rfl : d = 0 ∨ d = 1 ∨ d = 2 ∨ d = 3 := by omega
    · exact .inl (.inl (.inl hs))
    · exact .inl (.inl (.inr hs))
    · exact .inl (.inr hs)
    · exact .inr hs
  rw [List.length_map, List.length_map] at h
  exact h
end Go.Lv.P
