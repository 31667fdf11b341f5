/-
FnExactWorstReply: both say the same.
-/
import Derived.Test.YtidmlibanopfhaaTGP6
import Derived.Test.YtidmlibanopfhaaTGPSureS
import Derived.Test.YtidmlibanopfhaaTGPSureI
import Derived.Test.YtidmlibanopfhaaTGPToBoard
import Derived.Test.YtidmlibanopfhaaTGPBoard
import Derived.Test.YtidmlibanopfhaaTGPEqA3
import Derived.Test.YtidmlibanopfhaaTGPSlides1
namespace Go.Lv.P
open Go Go.Lv
set_option linter.unusedVariables false
set_option linter.unusedSimpArgs false
set_option linter.unusedSectionVars false

section
variable {b : List Int} (hb : b.length = 16) (ok : okB b = true)
include hb ok
theorem impl_worst_reply (F : Nat) (hF : 1000 < F) (m : List Int) (V : List Int → Int) (hV : Vrng V) (hc : ∀ o : List Int, o.length = 16 → okB o = true → impl_WorstReply_f1_p F o m = some (V o)) (hp : 0 < (plm b).length) : impl_Board_worst_impl_WorstReply_f1_p F b m = some ((leastM V b).2, (leastM V b).1) := by
  have hl := plm_len40 b
  have h := loop_fold (step := impl_Board_worst_impl_WorstReply_f1_s3 F ((plm b).length : Int) m b (plm b)) (fun i (s : Int × List Int) => (s.1, i, s.2)) (plm b).length (fun i s => bif decide (s.1 < 0) then (V (putP b (rget (plm b) i)), rget (plm b) i) else lstep V b i s) (fun s => s) (fun _ _ => True) (F := F) (by omega) (by omega) (a := (-1, [0, 0, 0])) trivial
    (fun i s hi _ => ⟨trivial, fun Q kn kx => by
      obtain ⟨⟨p0, p1⟩, q3, q4⟩ := put_all hb ok (rget_mem hi)
      simp only [impl_Board_worst_impl_WorstReply_f1_s3, Int.ofNat_lt, hi, inR_cast, Int.toNat_natCast, decide_true, cond_true, Nat.zero_add, impl_put p0 p1, hc _ q3 q4, Option.isSome_some, Option.getD_some, lstep]
      cases decide (s.1 < 0)
      · cases decide (V (putP b (rget (plm b) i)) < s.1) <;> rfl
      · rfl⟩) (fun s _ Q kn kx => by simp [impl_Board_worst_impl_WorstReply_f1_s3])
  have h1 : impl_Board_worst_impl_WorstReply_f1_l3 F ((plm b).length : Int) m b (plm b) (-1) 0 [0, 0, 0] = some (leastM V b) := by rw [← least_impl hb ok hV hp]; exact h.1
  simp only [impl_Board_worst_impl_WorstReply_f1_p, impl_Board_worst_impl_WorstReply_f1_c, impl_places_eq F b hF, h1, Option.isSome_some, Option.getD_some, cond_true, beq_selfL, Bool.and_self]
theorem spec_least (F : Nat) (hF : 1000 < F) {n : Int} (hn : inB n 0 1 = true) (hp : 0 < (plm b).length) : spec_l8Least_p F b n = some ((leastM (sureN n.toNat) b).2, (leastM (sureN n.toNat) b).1) := by
  simp [inB] at hn
  obtain rfl | rfl : n = 0 ∨ n = 1 := by omega
  · have e : leastM (sureN (0 : Int).toNat) b = (0, rget (plm b) 0) := least_zero b
    rw [e]
    simp only [spec_l8Least_p, spec_l8Least_c, spec_least_0 hb ok F hF hp, Option.isSome_some, Option.getD_some, cond_true]; rfl
  · simp only [spec_l8Least_p, spec_l8Least_c, spec_least_1 hb ok F hF hp, Option.isSome_some, Option.getD_some, cond_true]; rfl
end

theorem law_WorstReply (F : Nat) (b : List Int) (hb : b.length = 16) (_ : ∀ x ∈ b, Rng x) (d : Int) (_ : Rng d) (n : Int) (_ : Rng n) (hF : 1000 < F) : laws_FnExactWorstReply_p F b d n = some true := by
  have h : ∃ v, spec_WorstReply_p F b d n = some v ∧ impl_WorstReply_p F b d n = some v := by
    simp only [spec_WorstReply_p, spec_WorstReply_c, impl_WorstReply_p, impl_WorstReply_c, impl_Board_isMove_p, impl_Board_isMove_c, spec_l2Board_eq F b hb hF, impl_IsBoard_eq F b hb hF, Option.isSome_some, Option.getD_some, cond_true, spec_l2Side_v, impl_isDirection_v, l1In_eq, in_eq]
    cases hB : okB b with
    | false => exact ⟨_, rfl, rfl⟩
    | true =>
      cases hd : inB d 0 3 with
      | false => exact ⟨_, rfl, rfl⟩
      | true =>
        obtain ⟨d, rfl, hd4⟩ : ∃ k : Nat, d = k ∧ k < 4 := by
          simp [inB] at hd
          exact ⟨d.toNat, by omega, by omega⟩
        obtain ⟨l, o⟩ := slide_ok hb hB hd4
        simp only [spec_slide hb hB F hF hd4, impl_slides1 hb hB F hF hd4, Option.isSome_some, Option.getD_some, cond_true, Bool.not_true, cond_false]
        cases hn : inB n 0 1 with
        | false => cases (slideB b d).1 == b <;> exact ⟨_, rfl, rfl⟩
        | true =>
          cases hq : (slideB b d).1 == b with
          | true => exact ⟨_, rfl, rfl⟩
          | false =>
            have hn1 : 0 ≤ n ∧ n ≤ 1 := by simpa [inB] using hn
            have hp := plm_pos hb hB hd4 hq
            have hw := impl_worst_reply l o F hF [n] (sureN n.toNat) (sure_rng _ (by omega)) (fun q h1 h2 => by
              have e : iget [n] 0 = n := rfl
              simp only [impl_WorstReply_f1_p, impl_WorstReply_f1_c, e, impl_sure h1 h2 F hF (n := n) (by simp [inB]; omega), Option.isSome_some, Option.getD_some, cond_true]) hp
            simp only [spec_least l o F hF hn hp, hw, Option.isSome_some, Option.getD_some, cond_true, Bool.not_true, cond_false, Bool.not_false]
            exact ⟨_, rfl, rfl⟩
  obtain ⟨v, h1, h2⟩ := h
  simp only [laws_FnExactWorstReply_p, laws_FnExactWorstReply_c, toBoard_eq hb, h1, h2, Option.isSome_some, Option.getD_some, cond_true, beq_self_eq_true, Bool.not_true, cond_false, eqIntA3_refl F _ hF]
end Go.Lv.P
