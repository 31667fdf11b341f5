/-
FnExactWorstTile: both say the same.
-/
import Derived.Test.YtplclbkelohajaaTFP1
import Derived.Test.YtplclbkelohajaaTFP2
import Derived.Test.YtplclbkelohajaaTFP3
import Derived.Test.YtplclbkelohajaaTFPMoves
import Derived.Test.YtplclbkelohajaaTFPPlace
import Derived.Test.YtplclbkelohajaaTFPEq
namespace Go.Lv.P
open Go Go.Lv
set_option linter.unusedVariables false
set_option linter.unusedSimpArgs false

theorem eqIntA3_refl (F : Nat) (a : List Int) (hF : 1000 < F) : laws_eqIntA3_p F a a = some true := by
  have h : laws_eqIntA3_l2 F a a 0 = some false := by
    refine (loop_fold (step := laws_eqIntA3_s2 F a a) (fun i (_ : Unit) => i) 3 (fun _ a => a) (fun _ => false) (fun _ _ => True) (F := F) (by omega) (by omega) (a := ()) trivial (fun i _ hi _ => ⟨trivial, fun Q kn kx => ?_⟩) (fun _ _ Q kn kx => by simp [laws_eqIntA3_s2])).1
    have hi' : (i : Int) < 3 := by omega
    simp only [laws_eqIntA3_s2, hi', inR_cast, hi, decide_true, cond_true, beq_self_eq_true, Bool.not_true, cond_false]
  simp only [laws_eqIntA3_p, laws_eqIntA3_c, h, Option.isSome_some, Option.getD_some, cond_true, cond_false]

/-- the worst of some placements: its number of moves, and itself -/
def wstep (b : List Int) (i : Nat) (s : Int × List Int) : Int × List Int :=
  bif decide (((movesB (putP b (rget (plm b) i))).length : Int) < s.1) then (((movesB (putP b (rget (plm b) i))).length : Int), rget (plm b) i) else s

theorem worst_same (F : Nat) (b : List Int) (hb : b.length = 16) (hF : 1000 < F) : ∃ v, spec_WorstTile_p F b = some v ∧ impl_WorstTile_p F b = some v := by
  obtain ⟨r, g1, g2⟩ := impl_empty_eq F b hF
  have hr : r.1 = (em b).length := by rw [g2.1, em_not]
  simp only [spec_WorstTile_p, spec_WorstTile_c, impl_WorstTile_p, impl_WorstTile_c, spec_empty_eq F b hF, g1, hr, spec_places_eq F b hF, spec_l2Board_eq F b hb hF, impl_IsBoard_eq F b hb hF, Option.isSome_some, Option.getD_some, cond_true, beq_selfL, Bool.true_and]
  cases hB : okB b with
  | false => exact ⟨_, rfl, rfl⟩
  | true =>
    cases h0 : (((em b).length : Nat) : Int) == 0 with
    | true => exact ⟨_, rfl, rfl⟩
    | false =>
      have hpos : 0 < (plm b).length := by
        rw [plm_len]
        have : (((em b).length : Nat) : Int) ≠ 0 := by simpa using h0
        omega
      have hlen : (plm b).length ≤ 32 := by have := em_len b; rw [plm_len]; omega
      have hq : ∀ i, i < (plm b).length → (spec_l8Put_p b (rget (plm b) i) = some (putP b (rget (plm b) i)) ∧ impl_Board_placed_p b (rget (plm b) i) = some (putP b (rget (plm b) i))) ∧ (putP b (rget (plm b) i)).length = 16 ∧ okB (putP b (rget (plm b) i)) = true := fun i hi => by
        obtain ⟨p0, p1, p2⟩ := plm_in b _ (rget_mem hi)
        exact ⟨⟨spec_put p0 p1, impl_put p0 p1⟩, putP_ok hb hB p2⟩
      have hs := loop_fold (step := spec_WorstTile_s6 F b (plm b)) (fun i (s : Int × List Int) => (s.1, i, s.2)) (plm b).length (wstep b) (fun s => s) (fun _ _ => True) (F := F) (by omega) (by omega) (a := (5, [0, 0, 0])) trivial
        (fun i s hi _ => ⟨trivial, fun Q kn kx => by
          obtain ⟨⟨q1, q2⟩, q3, q4⟩ := hq i hi
          have hm := (spec_moves q3 q4 F hF).1
          simp only [spec_WorstTile_s6, Int.ofNat_lt, hi, inR_cast, Int.toNat_natCast, decide_true, cond_true, Nat.zero_add, q1, hm, Option.isSome_some, Option.getD_some, wstep]
          cases decide (((movesB (putP b (rget (plm b) i))).length : Int) < s.1) <;> rfl⟩) (fun s _ Q kn kx => by simp [spec_WorstTile_s6])
      have hi := loop_fold (step := impl_Board_worst_impl_WorstTile_f1_s3 F ((plm b).length : Int) b (plm b)) (fun i (s : Int × List Int) => (s.1, i, s.2)) (plm b).length (fun i s => bif decide (s.1 < 0) then (((movesB (putP b (rget (plm b) i))).length : Int), rget (plm b) i) else wstep b i s) (fun s => s) (fun _ _ => True) (F := F) (by omega) (by omega) (a := (-1, [0, 0, 0])) trivial
        (fun i s hi _ => ⟨trivial, fun Q kn kx => by
          obtain ⟨⟨q1, q2⟩, q3, q4⟩ := hq i hi
          have hm := impl_moves q3 q4 F hF
          simp only [impl_Board_worst_impl_WorstTile_f1_s3, impl_WorstTile_f1_p, impl_WorstTile_f1_c, Int.ofNat_lt, hi, inR_cast, Int.toNat_natCast, decide_true, cond_true, Nat.zero_add, q2, hm, Option.isSome_some, Option.getD_some, wstep]
          cases decide (s.1 < 0)
          · cases decide (((movesB (putP b (rget (plm b) i))).length : Int) < s.1) <;> rfl
          · rfl⟩) (fun s _ Q kn kx => by simp [impl_Board_worst_impl_WorstTile_f1_s3])
      have same : ∀ (m i : Nat) (s : Int × List Int), 0 ≤ s.1 → fld (fun i s => bif decide (s.1 < 0) then (((movesB (putP b (rget (plm b) i))).length : Int), rget (plm b) i) else wstep b i s) i m s = fld (wstep b) i m s := by
        intro m
        induction m with
        | zero => intro i s _; rfl
        | succ m ih =>
          intro i s h
          have hn : decide (s.1 < 0) = false := decide_eq_false (by omega)
          simp only [fld, hn, cond_false]
          refine ih _ _ ?_
          unfold wstep
          cases decide (((movesB (putP b (rget (plm b) i))).length : Int) < s.1)
          · exact h
          · exact Int.natCast_nonneg _
      have e : fld (fun i s => bif decide (s.1 < 0) then (((movesB (putP b (rget (plm b) i))).length : Int), rget (plm b) i) else wstep b i s) 0 (plm b).length (-1, [0, 0, 0]) = fld (wstep b) 0 (plm b).length (5, [0, 0, 0]) := by
        obtain ⟨m, hm⟩ : ∃ m, (plm b).length = m + 1 := ⟨(plm b).length - 1, by omega⟩
        rw [hm]
        have h4 := (spec_moves (hq 0 hpos).2.1 (hq 0 hpos).2.2 F hF).2
        have w : wstep b 0 (5, [0, 0, 0]) = (((movesB (putP b (rget (plm b) 0))).length : Int), rget (plm b) 0) := by
          unfold wstep
          rw [decide_eq_true (show (((movesB (putP b (rget (plm b) 0))).length : Int) < 5) by omega)]
          rfl
        simp only [fld, w]
        exact same _ _ _ (Int.natCast_nonneg _)
      have e1 : spec_WorstTile_l6 F b (plm b) 5 0 [0, 0, 0] = some (fld (wstep b) 0 (plm b).length (5, [0, 0, 0])) := hs.1
      have e2 : impl_Board_worst_impl_WorstTile_f1_l3 F ((plm b).length : Int) b (plm b) (-1) 0 [0, 0, 0] = some (fld (wstep b) 0 (plm b).length (5, [0, 0, 0])) := hi.1.trans (congrArg some e)
      simp only [impl_Board_worst_impl_WorstTile_f1_p, impl_Board_worst_impl_WorstTile_f1_c, impl_places_eq F b hF, e1, e2, Option.isSome_some, Option.getD_some, cond_true, beq_selfL, Bool.and_self, Bool.not_true, cond_false]
      exact ⟨_, rfl, rfl⟩

theorem law_WorstTile (F : Nat) (b : List Int) (hb : b.length = 16) (_ : ∀ x ∈ b, Rng x) (hF : 1000 < F) : laws_FnExactWorstTile_p F b = some true := by
  obtain ⟨v, h1, h2⟩ := worst_same F b hb hF
  simp only [laws_FnExactWorstTile_p, laws_FnExactWorstTile_c, toBoard_eq hb, h1, h2, Option.isSome_some, Option.getD_some, cond_true, eqIntA3_refl F _ hF, beq_self_eq_true, Bool.not_true, cond_false]
end Go.Lv.P
