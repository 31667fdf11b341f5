/-
The best sure score's move: both say this.
-/
import Derived.Test.YtgdokdkcbgkekaeGeP4
import Derived.Test.YtgdokdkcbgkekaeGePSureS
import Derived.Test.YtgdokdkcbgkekaeGePSureI
import Derived.Test.YtgdokdkcbgkekaeGePBoard
namespace Go.Lv.P
open Go Go.Lv
set_option linter.unusedVariables false
set_option linter.unusedSimpArgs false
set_option linter.unusedSectionVars false

theorem impl_sureOf {b : List Int} (hb : b.length = 16) (ok : okB b = true) (F : Nat) (hF : 1000 < F) {n : Int} (hn : inB n 1 2 = true) {d : Nat} (hd : d < 4) (hq : ((slideB b d).1 == b) = false) : impl_Board_sureOf_p F b d n = some (valM (sureN (n - 1).toNat) b d) := by
  simp [inB] at hn
  obtain rfl | rfl : n = 1 ∨ n = 2 := by omega
  · simp only [impl_Board_sureOf_p, impl_Board_sureOf_c, impl_sureOf_1 hb ok F hF hd, Option.isSome_some, Option.getD_some, cond_true]; rfl
  · simp only [impl_Board_sureOf_p, impl_Board_sureOf_c, impl_sureOf_2 hb ok F hF hd hq, Option.isSome_some, Option.getD_some, cond_true]; rfl
theorem sure_pred {n : Int} (hn : inB n 1 2 = true) (b : List Int) : sureN n.toNat b = (bestM (sureN (n - 1).toNat) b).1 := by
  simp [inB] at hn
  obtain rfl | rfl : n = 1 ∨ n = 2 := by omega
  · rfl
  · rfl

def bestV (b : List Int) (n : Int) : Int × Bool := bif okB b && inB n 1 2 then (bif decide (0 ≤ (bestM (sureN (n - 1).toNat) b).2) then ((bestM (sureN (n - 1).toNat) b).2, true) else (0, false)) else (0, false)
theorem best_val (F : Nat) (b : List Int) (hb : b.length = 16) (n : Int) (hF : 1000 < F) : spec_BestSure_p F b n = some (bestV b n) ∧ impl_BestSure_p F b n = some (bestV b n) := by
  unfold bestV
  simp only [spec_BestSure_p, spec_BestSure_c, impl_BestSure_p, impl_BestSure_c, spec_l2Board_eq F b hb hF, impl_IsBoard_eq F b hb hF, Option.isSome_some, Option.getD_some, cond_true, l1In_eq, in_eq]
  cases hB : okB b with
  | false => exact ⟨rfl, rfl⟩
  | true =>
    cases hn : inB n 1 2 with
    | false => exact ⟨rfl, rfl⟩
    | true =>
      have hn1 : 1 ≤ n ∧ n ≤ 2 := by simpa [inB] using hn
      have hn' : inB n 0 2 = true := by simp [inB]; omega
      have h0 : (n == 0) = false := by rw [beq_eq_false_iff_ne]; omega
      have hl := movesB_len b
      have hV : Vrng (sureN (n - 1).toNat) := sure_rng _ (by omega)
      have hm : ∀ i, i < (movesB b).length → impl_Board_sureOf_p F b (iget (movesB b) i) n = some (valM (sureN (n - 1).toNat) b (iget (movesB b) i).toNat) := fun i hi => by
        obtain ⟨d, hx, hd, hq⟩ := movesB_mem (b := b) (x := iget (movesB b) i) (by rw [igetL, List.getElem?_eq_getElem hi]; exact List.getElem_mem hi)
        rw [hx]
        simp only [impl_sureOf hb hB F hF hn hd hq, Int.toNat_natCast]
      have h5 : impl_BestSure_l5 F n (bestM (sureN (n - 1).toNat) b).1 ((movesB b).length : Int) b (movesB b) 0 = some (bif decide (0 ≤ (bestM (sureN (n - 1).toNat) b).2) then (true, (bestM (sureN (n - 1).toNat) b).2) else (false, default)) := by
        rw [← (best_moves (b := b) (valM (sureN (n - 1).toNat) b) (fun d hd hq => (val_rng hb hB hV hd hq).1) (bestM_eq (sureN (n - 1).toNat) b).symm).2]
        refine loop_find (step := impl_BestSure_s5 F n (bestM (sureN (n - 1).toNat) b).1 ((movesB b).length : Int) b (movesB b)) (fun i => i) (movesB b).length (fun i => valM (sureN (n - 1).toNat) b (iget (movesB b) i).toNat == (bestM (sureN (n - 1).toNat) b).1) (fun i => (true, iget (movesB b) i)) (false, default) (by omega) (by omega) (fun i hi Q kn kx => ?_) fun Q kn kx => ?_
        · simp only [impl_BestSure_s5, Int.ofNat_lt, hi, inR_cast, Int.toNat_natCast, decide_true, cond_true, Nat.zero_add, hm i hi, Option.isSome_some, Option.getD_some]
        · simp [impl_BestSure_s5]
      simp only [spec_sure hb hB F hF hn', impl_sure hb hB F hF hn', impl_moves hb hB F hF, Option.isSome_some, Option.getD_some, cond_true, Bool.not_true, cond_false, beq_selfL, Bool.and_self, h0]
      rw [sure_pred hn, h5]
      generalize (bestM (sureN (n - 1).toNat) b).2 = t
      simp only [Option.isSome_some, Option.getD_some, cond_true]
      rcases Int.lt_or_le t 0 with ht | ht
      · have e : spec_l1Most_v t 0 = 0 := by unfold spec_l1Most_v; rw [decide_eq_false (by omega)]; rfl
        rw [e, decide_eq_false (by omega : ¬ 0 ≤ t)]
        exact ⟨rfl, rfl⟩
      · have e : spec_l1Most_v t 0 = t := by
          unfold spec_l1Most_v
          rcases Int.lt_or_eq_of_le ht with h | h
          · rw [decide_eq_true h]; rfl
          · subst h; rfl
        rw [e, decide_eq_true ht]
        exact ⟨rfl, rfl⟩
end Go.Lv.P
