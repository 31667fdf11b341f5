/-
FnExactMergeChance: both say the same.
-/
import Derived.Test.YtgpadaadcepgaaaTHP4
import Derived.Test.YtgpadaadcepgaaaTHPChance
import Derived.Test.YtgpadaadcepgaaaTHPToBoard
import Derived.Test.YtgpadaadcepgaaaTHPEqA2
import Derived.Test.YtgpadaadcepgaaaTHPScores
namespace Go.Lv.P
open Go Go.Lv
set_option linter.unusedVariables false
set_option linter.unusedSimpArgs false
set_option linter.unusedSectionVars false

theorem mean_impl_Board_mean_impl_Board_chance_f1_3 {nx : List Int} (hn : nx.length = 16) (okn : okB nx = true) (F : Nat) (hF : 1000 < F) (T : List Int → Bool) (hc : ∀ o : List Int, o.length = 16 → okB o = true → impl_Board_chance_f1_3_p F o = some (impl_flag_v (T o))) (hroom : 0 < (em nx).length) : impl_Board_mean_impl_Board_chance_f1_3_p F nx = some (chanceF T nx) := by
  have hl := plm_len40 nx
  have hem := em_len nx
  have h := loop_fold (step := impl_Board_mean_impl_Board_chance_f1_3_s3 F ((plm nx).length : Int) nx (plm nx)) (fun i (s : Nat) => (i, [(s : Int), 1])) (plm nx).length (fun i s => s + wgt (rget (plm nx) i) * one (T (putP nx (rget (plm nx) i)))) (fun s => [(s : Int), 1]) (fun i s => s ≤ 9 * i) (F := F) (by omega) (by omega) (a := 0) (by simp)
    (fun i s hi hI => by
      obtain ⟨⟨p0, p1⟩, q3, q4⟩ := put_all hn okn (rget_mem hi)
      have h9 := wgt_9 (rget (plm nx) i)
      have ho := hc _ q3 q4
      generalize hto : T (putP nx (rget (plm nx) i)) = t at ho
      have h1 : wgt (rget (plm nx) i) * one t ≤ 9 := by
        cases t
        · show wgt (rget (plm nx) i) * 0 ≤ 9; omega
        · show wgt (rget (plm nx) i) * 1 ≤ 9; omega
      refine ⟨by omega, fun Q kn kx => ?_⟩
      have f0 : iget (impl_flag_v t) 0 = ((one t : Nat) : Int) := by rw [flag_eq]; rfl
      have f1 : iget (impl_flag_v t) 1 = 1 := by rw [flag_eq]; rfl
      simp only [impl_Board_mean_impl_Board_chance_f1_3_s3, Int.ofNat_lt, hi, inR_cast, Int.toNat_natCast, decide_true, cond_true, Nat.zero_add, impl_put p0 p1, ho, Option.isSome_some, Option.getD_some, f0, f1]
      cases h2 : iget (rget (plm nx) i) 2 == 2 with
      | true =>
        have hw : wgt (rget (plm nx) i) = 1 := by rw [wgt, h2]; rfl
        rw [hw] at h1 ⊢
        have e : IntKind.wrap .i64 (1 * ((one t : Nat) : Int)) = ((1 * one t : Nat) : Int) := by rw [← wi' (1 * one t) (by omega)]; rfl
        simp only [e, frac_whole F hF (1 * one t) (by omega), plus_whole F hF s (1 * one t) (by omega) (by omega), Option.isSome_some, Option.getD_some, cond_true]
      | false =>
        have hw : wgt (rget (plm nx) i) = 9 := by rw [wgt, h2]; rfl
        rw [hw] at h1 ⊢
        have e : IntKind.wrap .i64 (9 * ((one t : Nat) : Int)) = ((9 * one t : Nat) : Int) := by rw [← wi' (9 * one t) (by omega)]; rfl
        simp only [e, frac_whole F hF (9 * one t) (by omega), plus_whole F hF s (9 * one t) (by omega) (by omega), Option.isSome_some, Option.getD_some, cond_true, cond_false]) (fun s _ Q kn kx => by simp [impl_Board_mean_impl_Board_chance_f1_3_s3])
  have e : fld (fun i s => s + wgt (rget (plm nx) i) * one (T (putP nx (rget (plm nx) i)))) 0 (plm nx).length 0 = tsum T nx := by
    rw [fld_rget (plm nx) (fun p (s : Nat) => s + wgt p * one (T (putP nx p)))]; rfl
  have h1 : impl_Board_mean_impl_Board_chance_f1_3_l3 F ((plm nx).length : Int) nx (plm nx) 0 [0, 1] = some [((tsum T nx : Nat) : Int), 1] := by
    have := h.1; rw [e] at this; exact this
  obtain ⟨r, g1, g2⟩ := impl_empty_eq F nx hF
  have hr : r.1 = (em nx).length := by rw [g2.1, em_not]
  have ht := tsum_le T nx
  have hcf := fraction_eq F (tsum T nx) (10 * (em nx).length) (by omega) (by omega) (by omega) (by omega)
  have i0 : iget [((tsum T nx : Nat) : Int), 1] 0 = ((tsum T nx : Nat) : Int) := rfl
  have i1 : iget [((tsum T nx : Nat) : Int), 1] 1 = 1 := rfl
  have e10 : IntKind.wrap .i64 (IntKind.wrap .i64 (1 * 10) * (((em nx).length : Nat) : Int)) = ((10 * (em nx).length : Nat) : Int) := by
    rw [show IntKind.wrap .i64 (1 * 10) = ((10 : Nat) : Int) from rfl, ← Int.natCast_mul, wi' _ (by omega)]
  simp only [impl_Board_mean_impl_Board_chance_f1_3_p, impl_Board_mean_impl_Board_chance_f1_3_c, impl_places_eq F nx hF, h1, g1, hr, i0, i1, e10, hcf, Option.isSome_some, Option.getD_some, cond_true, beq_selfL, Bool.and_self, chanceF]

theorem nums_MergeChance (F : Nat) (hF : 1000 < F) (steps bs : LL) (hs : bs.length ≤ 40) (T : List Int → Bool) (hT : ∀ o ∈ bs, ∀ Q kn kx, ∀ (i : Nat) (out : List Int), i < bs.length → rget bs i = o → out.length = i → spec_MergeChance_s6 F steps bs Q ((i : Int), out) kn kx = kn (IntKind.wrap .i64 ((i : Int) + 1), out ++ [((one (T o) : Nat) : Int)])) :
    spec_MergeChance_l6 F steps bs 0 [] = some (bs.map fun o => ((one (T o) : Nat) : Int)) := by
  have h := loop_fold (step := spec_MergeChance_s6 F steps bs) (fun i (s : List Int) => (i, s)) bs.length (fun i out => out ++ [((one (T (rget bs i)) : Nat) : Int)]) (fun s => s) (fun i out => out.length = i) (F := F) (by omega) (by omega) (a := []) rfl
    (fun i out hi hI => ⟨by simp [hI], fun Q kn kx => hT _ (rget_mem hi) Q kn kx i out hi rfl hI⟩) (fun s _ Q kn kx => by simp [spec_MergeChance_s6])
  have e : ∀ (m i : Nat) (out : List Int), i + m = bs.length → fld (fun i (out : List Int) => out ++ [((one (T (rget bs i)) : Nat) : Int)]) i m out = out ++ (bs.drop i).map fun o => ((one (T o) : Nat) : Int) := by
    intro m
    induction m with
    | zero => intro i out h; rw [List.drop_eq_nil_of_le (by omega)]; simp [fld]
    | succ m ih =>
      intro i out h
      have hi : i < bs.length := by omega
      have hg : rget bs i = bs[i] := by rw [rgetL, List.getElem?_eq_getElem hi]; rfl
      simp only [fld]
      rw [ih (i + 1) _ (by omega), List.drop_eq_getElem_cons hi, List.map_cons, hg, List.append_assoc]; rfl
  have h1 : spec_MergeChance_l6 F steps bs 0 [] = some _ := h.1
  rw [h1, e bs.length 0 [] (by omega), List.nil_append, List.drop_zero]

theorem one9 (t : Bool) : spec_l9One_v t = ((one t : Nat) : Int) := by cases t <;> rfl

theorem spec_scores {b : List Int} (hb : b.length = 16) (ok : okB b = true) (F : Nat) (hF : 1000 < F) : spec_l9Scores_p F b = some (tScore b) := by
  have h := loop_find (step := spec_l9Scores_s2 F b) (fun i => i) 4 (fun d => decide (0 < (slideB b d).2)) (fun _ => true) false (F := F) (by omega) (by omega) (fun i hi Q kn kx => by
    have hi' : (i : Int) < 4 := by omega
    simp only [spec_l9Scores_s2, hi', spec_slide hb ok F hF hi, Option.isSome_some, Option.getD_some, decide_true, cond_true]) (fun Q kn kx => by simp [spec_l9Scores_s2])
  have h1 : spec_l9Scores_l2 F b 0 = some (tScore b) := h
  simp only [spec_l9Scores_p, spec_l9Scores_c, h1, Option.isSome_some, Option.getD_some, cond_true]
  cases tScore b <;> rfl
theorem impl_scores {b : List Int} (hb : b.length = 16) (ok : okB b = true) (F : Nat) (hF : 1000 < F) : impl_Board_scores_p F b = some (tScore b) := by
  have h := loop_find (step := impl_Board_scores_s2 F b) (fun i => i) 2 (fun d => decide (0 < (slideB b d).2)) (fun _ => true) false (F := F) (by omega) (by omega) (fun i hi Q kn kx => by
    have hi' : (i : Int) < 2 := by omega
    obtain ⟨m, hm⟩ := impl_slide hb ok F hF (d := i) (by omega)
    simp only [impl_Board_scores_s2, hi', hm, Option.isSome_some, Option.getD_some, decide_true, cond_true]) (fun Q kn kx => by simp [impl_Board_scores_s2])
  have h1 : impl_Board_scores_l2 F b 0 = some (tScore b) := by rw [← tScore2 hb ok]; exact h
  simp only [impl_Board_scores_p, impl_Board_scores_c, h1, Option.isSome_some, Option.getD_some, cond_true]
  cases tScore b <;> rfl
theorem one_score (o : List Int) : spec_l9One_v (tScore o) = ((one (tScore o) : Nat) : Int) := one9 _

theorem law_MergeChance (F : Nat) (b : List Int) (hb : b.length = 16) (_ : ∀ x ∈ b, Rng x) (d : Int) (_ : Rng d) (hF : 1000 < F) : laws_FnExactMergeChance_p F b d = some true := by
  have h : ∃ v, spec_MergeChance_p F b d = some v ∧ impl_MergeChance_p F b d = some v := by
    rcases hB : okB b with _ | _
    · have s1 : spec_l9Move_p F b d = some false := by simp only [spec_l9Move_p, spec_l9Move_c, spec_l2Board_eq F b hb hF, hB, Option.isSome_some, Option.getD_some, cond_true, cond_false]
      have s2 : impl_Board_isMove_p F b d = some false := by simp only [impl_Board_isMove_p, impl_Board_isMove_c, impl_IsBoard_eq F b hb hF, hB, Option.isSome_some, Option.getD_some, cond_true, cond_false]
      exact ⟨([0, 0], false), by simp only [spec_MergeChance_p, spec_MergeChance_c, s1, Option.isSome_some, Option.getD_some, cond_true, cond_false, Bool.not_false, Bool.not_true], by simp only [impl_MergeChance_p, impl_MergeChance_c, impl_Board_chance_impl_Board_scores_p, impl_Board_chance_impl_Board_scores_c, s2, Option.isSome_some, Option.getD_some, cond_true, cond_false, Bool.not_false, Bool.not_true]⟩
    · rcases hd : inB d 0 3 with _ | _
      · have s1 : spec_l9Move_p F b d = some false := by simp only [spec_l9Move_p, spec_l9Move_c, spec_l2Board_eq F b hb hF, hB, spec_l2Side_v, l1In_eq, hd, Option.isSome_some, Option.getD_some, cond_true, cond_false]
        have s2 : impl_Board_isMove_p F b d = some false := by simp only [impl_Board_isMove_p, impl_Board_isMove_c, impl_IsBoard_eq F b hb hF, hB, impl_isDirection_v, in_eq, hd, Option.isSome_some, Option.getD_some, cond_true, cond_false]
        exact ⟨([0, 0], false), by simp only [spec_MergeChance_p, spec_MergeChance_c, s1, Option.isSome_some, Option.getD_some, cond_true, cond_false, Bool.not_false, Bool.not_true], by simp only [impl_MergeChance_p, impl_MergeChance_c, impl_Board_chance_impl_Board_scores_p, impl_Board_chance_impl_Board_scores_c, s2, Option.isSome_some, Option.getD_some, cond_true, cond_false, Bool.not_false, Bool.not_true]⟩
      · obtain ⟨d, rfl, hd4⟩ : ∃ k : Nat, d = k ∧ k < 4 := by
          simp [inB] at hd
          exact ⟨d.toNat, by omega, by omega⟩
        have s1 := spec_move hb hB hd4 F hF
        have s2 := impl_move hb hB hd4 F hF
        rcases hq : (slideB b d).1 == b with _ | _
        · rw [hq] at s1 s2
          obtain ⟨l, o⟩ := slide_ok hb hB hd4
          have hroom := slide_room hb hB hd4 hq
          have hl40 := plm_len40 (slideB b d).1
          have hbs := spec_boards hb hB hd4 F hF hq
          have hst := spec_steps hb hB F hF hd4
          have hsl := impl_slides1 hb hB F hF hd4
          have hvalid : ∀ x ∈ (plm (slideB b d).1).map (putP (slideB b d).1), x.length = 16 ∧ okB x = true := fun x hx => by
            obtain ⟨p, hp, rfl⟩ := List.mem_map.1 hx
            exact (put_all l o hp).2
          have hn := nums_MergeChance F hF (stepsB b d) ((plm (slideB b d).1).map (putP (slideB b d).1)) (by rw [List.length_map]; exact hl40) (tScore) (fun x hx Q kn kx i out hi hr ho => by
            obtain ⟨x1, x2⟩ := hvalid x hx
            have hi40 : i < 40 := by rw [List.length_map] at hi; omega
            have hf : ∀ x : Int, fits (out ++ [x]).length 8 = true := fun x => fits_of (by simp; omega) (by simp; omega)
            simp only [spec_MergeChance_s6, Int.ofNat_lt, hi, inR_cast, Int.toNat_natCast, Nat.zero_add, decide_true, cond_true, hr, spec_scores x1 x2 F hF, Option.isSome_some, Option.getD_some, subn_self, hf, one_score])
          have hm := spec_mean hb hB hd4 F hF hq (tScore)
          have hi := mean_impl_Board_mean_impl_Board_chance_f1_3 l o F hF (tScore) (fun x x1 x2 => by simp only [impl_Board_chance_f1_3_p, impl_Board_chance_f1_3_c, impl_scores x1 x2 F hF, Option.isSome_some, Option.getD_some, cond_true]) hroom
          generalize chanceF (tScore) (slideB b d).1 = ch at hm hi
          refine ⟨(ch, true), ?_, ?_⟩
          · simp only [spec_MergeChance_p, spec_MergeChance_c, s1, hst, subn_self, hbs, hn, hm, Option.isSome_some, Option.getD_some, cond_true, cond_false, Bool.not_false, Bool.not_true, beq_selfL, Bool.and_self]
          · simp only [impl_MergeChance_p, impl_MergeChance_c, impl_Board_chance_impl_Board_scores_p, impl_Board_chance_impl_Board_scores_c, s2, hsl, hi, Option.isSome_some, Option.getD_some, cond_true, cond_false, Bool.not_false, Bool.not_true]
        · rw [hq] at s1 s2
          exact ⟨([0, 0], false), by simp only [spec_MergeChance_p, spec_MergeChance_c, s1, Option.isSome_some, Option.getD_some, cond_true, cond_false, Bool.not_false, Bool.not_true], by simp only [impl_MergeChance_p, impl_MergeChance_c, impl_Board_chance_impl_Board_scores_p, impl_Board_chance_impl_Board_scores_c, s2, Option.isSome_some, Option.getD_some, cond_true, cond_false, Bool.not_false, Bool.not_true]⟩

  obtain ⟨v, h1, h2⟩ := h
  simp only [laws_FnExactMergeChance_p, laws_FnExactMergeChance_c, toBoard_eq hb, h1, h2, Option.isSome_some, Option.getD_some, cond_true, beq_self_eq_true, Bool.not_true, cond_false, eqIntA2_refl F _ hF]
end Go.Lv.P
