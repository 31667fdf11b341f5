/-
The worst reply: both say this.
-/
import Derived.Test.YtgdokdkcbgkekaeGeP5
import Derived.Test.YtgdokdkcbgkekaeGePSureS
import Derived.Test.YtgdokdkcbgkekaeGePSureI
import Derived.Test.YtgdokdkcbgkekaeGePBoard
import Derived.Test.YtgdokdkcbgkekaeGePSlides1
namespace Go.Lv.P
open Go Go.Lv
set_option linter.unusedVariables false
set_option linter.unusedSimpArgs false
set_option linter.unusedSectionVars false

section
variable {b : List Int} (hb : b.length = 16) (ok : okB b = true)
include hb ok
theorem impl_worst_reply (F : Nat) (hF : 1000 < F) (m : List Int) (V : List Int → Int) (hV : Vrng V) (hc : ∀ o : List Int, o.length = 16 → okB o = true → impl_WorstReply_f1_p F o m = some (V o)) (hp : 0 < (plm b).length) : impl_Board_worst_impl_WorstReply_f1_p F b m = some ((leastM V b).2, (leastM V b).1) := by
  have hl := plm_len40 b
  have h := loop_fold (step := impl_Board_worst_impl_WorstReply_f1_s3 F ((plm b).length : Int) m b (plm b)) (fun i (s : Int × List Int) => (s.1, i, s.2)) (plm b).length (fun i s => bif decide (s.1 < 0) then (V (putP b (rget (plm b) i)), rget (plm b) i) else lstep V b i s) (fun s => s) (fun _ _ => True) (F := F) (by omega) (by omega) (a := (-1, [0, 0, 0])) trivial
    (fun i s hi _ => ⟨trivial, fun Q kn kx => by
      obtain ⟨⟨p0, p1⟩, q3, q4⟩ := put_all hb ok (rget_mem hi)
      simp only [impl_Board_worst_impl_WorstReply_f1_s3, Int.ofNat_lt, hi, inR_cast, Int.toNat_natCast, decide_true, cond_true, Nat.zero_add, impl_put p0 p1, hc _ q3 q4, Option.isSome_some, Option.getD_some, lstep]
      cases decide (s.1 < 0)
      · cases decide (V (putP b (rget (plm b) i)) < s.1) <;> rfl
      · rfl⟩) (fun s _ Q kn kx => by simp [impl_Board_worst_impl_WorstReply_f1_s3])
  have h1 : impl_Board_worst_impl_WorstReply_f1_l3 F ((plm b).length : Int) m b (plm b) (-1) 0 [0, 0, 0] = some (leastM V b) := by rw [← least_impl hb ok hV hp]; exact h.1
  simp only [impl_Board_worst_impl_WorstReply_f1_p, impl_Board_worst_impl_WorstReply_f1_c, impl_places_eq F b hF, h1, Option.isSome_some, Option.getD_some, cond_true, beq_selfL, Bool.and_self]
theorem spec_least (F : Nat) (hF : 1000 < F) {n : Int} (hn : inB n 0 1 = true) (hp : 0 < (plm b).length) : spec_l8Least_p F b n = some ((leastM (sureN n.toNat) b).2, (leastM (sureN n.toNat) b).1) := by
  simp [inB] at hn
  obtain rfl | rfl : n = 0 ∨ n = 1 := by omega
  · have e : leastM (sureN (0 : Int).toNat) b = (0, rget (plm b) 0) := least_zero b
    rw [e]
    simp only [spec_l8Least_p, spec_l8Least_c, spec_least_0 hb ok F hF hp, Option.isSome_some, Option.getD_some, cond_true]; rfl
  · simp only [spec_l8Least_p, spec_l8Least_c, spec_least_1 hb ok F hF hp, Option.isSome_some, Option.getD_some, cond_true]; rfl
end

def replyV (b : List Int) (d n : Int) : List Int × Int × Bool := bif okB b && inB d 0 3 && inB n 0 1 && !((slideB b d.toNat).1 == b) then ((leastM (sureN n.toNat) (slideB b d.toNat).1).2, (leastM (sureN n.toNat) (slideB b d.toNat).1).1, true) else ([0, 0, 0], 0, false)
theorem reply_val (F : Nat) (b : List Int) (hb : b.length = 16) (d n : Int) (hF : 1000 < F) : spec_WorstReply_p F b d n = some (replyV b d n) ∧ impl_WorstReply_p F b d n = some (replyV b d n) := by
  unfold replyV
  simp only [spec_WorstReply_p, spec_WorstReply_c, impl_WorstReply_p, impl_WorstReply_c, impl_Board_isMove_p, impl_Board_isMove_c, spec_l2Board_eq F b hb hF, impl_IsBoard_eq F b hb hF, Option.isSome_some, Option.getD_some, cond_true, spec_l2Side_v, impl_isDirection_v, l1In_eq, in_eq]
  cases hB : okB b with
  | false => exact ⟨rfl, rfl⟩
  | true =>
    cases hd : inB d 0 3 with
    | false => exact ⟨rfl, rfl⟩
    | true =>
      obtain ⟨d, rfl, hd4⟩ : ∃ k : Nat, d = k ∧ k < 4 := by
        simp [inB] at hd
        exact ⟨d.toNat, by omega, by omega⟩
      obtain ⟨l, o⟩ := slide_ok hb hB hd4
      simp only [Int.toNat_natCast]
      simp only [spec_slide hb hB F hF hd4, impl_slides1 hb hB F hF hd4, Option.isSome_some, Option.getD_some, cond_true, Bool.not_true, cond_false]
      cases hn : inB n 0 1 with
      | false => cases (slideB b d).1 == b <;> exact ⟨rfl, rfl⟩
      | true =>
        cases hq : (slideB b d).1 == b with
        | true => exact ⟨rfl, rfl⟩
        | false =>
          have hn1 : 0 ≤ n ∧ n ≤ 1 := by simpa [inB] using hn
          have hp := plm_pos hb hB hd4 hq
          have hw := impl_worst_reply l o F hF [n] (sureN n.toNat) (sure_rng _ (by omega)) (fun q h1 h2 => by
            have e : iget [n] 0 = n := rfl
            simp only [impl_WorstReply_f1_p, impl_WorstReply_f1_c, e, impl_sure h1 h2 F hF (n := n) (by simp [inB]; omega), Option.isSome_some, Option.getD_some, cond_true]) hp
          simp only [spec_least l o F hF hn hp, hw, Option.isSome_some, Option.getD_some, cond_true, Bool.not_true, cond_false, Bool.not_false]
          exact ⟨rfl, rfl⟩
/-- the least is what its placement gives -/
theorem least_is (V : List Int → Int) (nx : List Int) : (leastM V nx).1 = V (putP nx (leastM V nx).2) := by
  unfold leastM
  refine fld_inv (lstep V nx) (fun s => s.1 = V (putP nx s.2)) _ _ _ (fun j s _ _ hs => ?_) rfl
  unfold lstep
  cases decide (V (putP nx (rget (plm nx) j)) < s.1) with
  | true => rfl
  | false => exact hs
/-- the best is what its move gives -/
theorem best_is (V : List Int → Int) (b : List Int) : (bestM V b).2 < 0 ∨ ∃ d : Nat, d < 4 ∧ (bestM V b).2 = d ∧ ((slideB b d).1 == b) = false ∧ (bestM V b).1 = valM V b d := by
  unfold bestM
  refine fld_inv (bstep V b) (fun s => s.2 < 0 ∨ ∃ d : Nat, d < 4 ∧ s.2 = d ∧ ((slideB b d).1 == b) = false ∧ s.1 = valM V b d) _ _ _ (fun j s _ hj hs => ?_) (.inl (by decide))
  unfold bstep
  cases hq : (slideB b j).1 == b with
  | true => exact hs
  | false =>
    have hj4 : j < 4 := by omega
    cases decide (s.2 < 0) with
    | true => exact .inr ⟨j, hj4, rfl, hq, rfl⟩
    | false =>
      cases decide (s.1 < valM V b j) with
      | true => exact .inr ⟨j, hj4, rfl, hq, rfl⟩
      | false => exact hs
end Go.Lv.P
