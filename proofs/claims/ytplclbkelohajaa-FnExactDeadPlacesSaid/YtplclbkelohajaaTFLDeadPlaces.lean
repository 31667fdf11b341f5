/-
FnExactDeadPlaces: both say the same.
-/
import Derived.Test.YtplclbkelohajaaTFP4
import Derived.Test.YtplclbkelohajaaTFP5
import Derived.Test.YtplclbkelohajaaTFPMoves
import Derived.Test.YtplclbkelohajaaTFPPlace
import Derived.Test.YtplclbkelohajaaTFPEq
import Derived.Test.YtplclbkelohajaaTFPDead
import Derived.Test.YtplclbkelohajaaTFPMkA3S
import Derived.Test.YtplclbkelohajaaTFPTail
namespace Go.Lv.P
open Go Go.Lv
set_option linter.unusedVariables false
set_option linter.unusedSimpArgs false

/-- is a board over behind a placement -/
def deadP (b p : List Int) : Bool := (((movesB (putP b p)).length : Nat) : Int) == 0

theorem dead_same (F : Nat) (b : List Int) (hb : b.length = 16) (hF : 1000 < F) : ∃ (n : Nat) (m v : LL) (o : Bool), spec_DeadPlaces_p F b = some (o, v) ∧ impl_DeadPlaces_p F b = some (n, o, m) ∧ m.take n = v ∧ v.length = n ∧ n ≤ m.length ∧ n ≤ 40 ∧ (∀ x ∈ v, x.length = 3) := by
  simp only [spec_DeadPlaces_p, spec_DeadPlaces_c, impl_DeadPlaces_p, impl_DeadPlaces_c, spec_places_eq F b hF, impl_places_eq F b hF, spec_l2Board_eq F b hb hF, impl_IsBoard_eq F b hb hF, Option.isSome_some, Option.getD_some, cond_true, beq_selfL, Bool.true_and]
  cases hB : okB b with
  | false => exact ⟨0, [], [], false, rfl, rfl, rfl, rfl, by simp, by simp, by simp⟩
  | true =>
    have hlen : (plm b).length ≤ 32 := by have := em_len b; rw [plm_len]; omega
    have hq : ∀ p ∈ plm b, (spec_l8Put_p b p = some (putP b p) ∧ impl_Board_placed_p b p = some (putP b p)) ∧ (putP b p).length = 16 ∧ okB (putP b p) = true := fun p hp => by
      obtain ⟨p0, p1, p2⟩ := plm_in b _ hp
      exact ⟨⟨spec_put p0 p1, impl_put p0 p1⟩, putP_ok hb hB p2⟩
    have hs := loop_fold (step := spec_DeadPlaces_s6 F b (plm b)) (fun i (s : LL) => (i, s)) (plm b).length (fun i out => bif deadP b (rget (plm b) i) then out ++ [rget (plm b) i] else out) (fun s => s) (fun i out => out.length ≤ i) (F := F) (by omega) (by omega) (a := []) (Nat.le_refl 0)
      (fun i out hi hI => ⟨by
          cases deadP b (rget (plm b) i)
          · simp; omega
          · simp; omega, fun Q kn kx => by
        obtain ⟨⟨q1, q2⟩, q3, q4⟩ := hq _ (rget_mem hi)
        have hm := (spec_moves q3 q4 F hF).1
        have hf : ∀ x : List Int, fits (out ++ [x]).length 24 = true := fun x => fits_of (by simp; omega) (by simp; omega)
        simp only [spec_DeadPlaces_s6, Int.ofNat_lt, hi, inR_cast, Int.toNat_natCast, decide_true, cond_true, Nat.zero_add, q1, hm, Option.isSome_some, Option.getD_some, subn_self, hf, deadP]
        cases ((((movesB (putP b (rget (plm b) i))).length : Nat) : Int) == 0) <;> rfl⟩) (fun s _ Q kn kx => by simp [spec_DeadPlaces_s6])
    have hs1 : spec_DeadPlaces_l6 F b (plm b) 0 [] = some ((plm b).filter (deadP b)) := by
      rw [← fld_filter]; exact hs.1
    obtain ⟨r, hr, hd⟩ := DeleteFunc_dead F (plm b) b (fun p => !deadP b p) (by omega) hF (fun p hp => by
      obtain ⟨⟨q1, q2⟩, q3, q4⟩ := hq p hp
      simp only [impl_DeadPlaces_f1_p, impl_DeadPlaces_f1_c, q2, impl_Board_isOver_p, impl_Board_isOver_c, impl_moves q3 q4 F hF, Option.isSome_some, Option.getD_some, cond_true, deadP])
    obtain ⟨d1, d2, d3⟩ := hd
    have e : ((plm b).filter fun x => !(!deadP b x)) = (plm b).filter (deadP b) := by simp only [Bool.not_not]
    rw [e] at d1 d2
    have dl : ((plm b).filter (deadP b)).length ≤ (plm b).length := List.length_filter_le _ _
    simp only [hs1, hr, Option.isSome_some, Option.getD_some, cond_true, Bool.not_true, cond_false]
    refine ⟨r.1, r.2, _, true, rfl, rfl, d2, d1.symm, by omega, by omega, ?_⟩
    exact fun x hx => plm_mem b x ((List.mem_filter.1 hx).1)

theorem law_DeadPlaces (F : Nat) (b : List Int) (hb : b.length = 16) (_ : ∀ x ∈ b, Rng x) (hF : 1000 < F) : laws_FnExactDeadPlaces_p F b = some true := by
  obtain ⟨n, m, v, o, h1, h2, hv, hl, hn, h40, h3⟩ := dead_same F b hb hF
  obtain ⟨m', e1, e1l, e1t⟩ := markIntA3S_eq F n m (hv ▸ h3) hn (by omega) hF (by omega)
  have e2 := heldIntA3S_eq F n (by omega) hF (by omega)
  have e0 := eqIntA3S_refl F v (by omega) hF (by omega)
  have sv : subn v.length v 0 v.length = v := subn_self v
  have hp : decide ((1 : Int) + 3 * (n : Int) < 0) = false := by simp; omega
  simp only [laws_FnExactDeadPlaces_p, laws_FnExactDeadPlaces_c, toBoard_eq hb, h1, h2, Option.isSome_some, Option.getD_some, cond_true, subn_take0, hv, List.take_length, e0, beq_self_eq_true, Bool.not_true, cond_false, e1, e1t, e2, hp]
end Go.Lv.P
