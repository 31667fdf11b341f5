/-
FnExactReachBySlides: both say the same.
-/
import Derived.Test.YtgmnclpjbhmioaaTRP1
import Derived.Test.YtgmnclpjbhmioaaTRP2
import Derived.Test.YtgmnclpjbhmioaaTRP3
import Derived.Test.YtgmnclpjbhmioaaTRPReachB
import Derived.Test.YtgmnclpjbhmioaaTRPCompact16
import Derived.Test.YtgmnclpjbhmioaaTRPAscE
import Derived.Test.YtgmnclpjbhmioaaTRPBoardS
import Derived.Test.YtgmnclpjbhmioaaTRPTail
import Derived.Test.YtgmnclpjbhmioaaTRPToBoard
namespace Go.Lv.P
open Go Go.Lv
set_option linter.unusedVariables false
set_option linter.unusedSimpArgs false
set_option linter.unusedSectionVars false

/-- a list of boards, put into order -/
theorem ordered_eq (F : Nat) {l l' : LL} (hl : ∀ x ∈ l, x.length = 16) (ha : Asc l') (hm : ∀ x, x ∈ l ↔ x ∈ l') (hn : l.length ≤ 900000) (hF : 1000000 < F) : ∃ r : Nat × LL, impl_ordered_p F l = some r ∧ r.1 = l'.length ∧ r.2.take r.1 = l' ∧ r.1 ≤ r.2.length := by
  have hs := sorted_eq (m := 16) hl ha hm
  obtain ⟨r, c1, c2, c3, c4, c5⟩ := compact16 F (sortL l) (by rw [sort_len]; omega) (by rw [sort_len]; omega)
  rw [sort_len] at c1 c5
  have hb1 : Nat.blt 1000 F = true := Nat.blt_eq.mpr (by omega)
  have hb2 : Nat.ble l.length 1000000000 = true := Nat.ble_eq.mpr (by omega)
  refine ⟨r, ?_, by rw [c2, hs], by rw [c3, hs], c4⟩
  simp only [impl_ordered_p, impl_ordered_c, sortP_all, ble_selfL, c1, hb1, hb2, beq_selfL, Bool.and_self, cond_true, Option.isSome_some, Option.getD_some]
theorem TW_good {b : List Int} (hb : GoodB b) (k : Nat) (hk : k ≤ 7) : ((keysE (TW sl b k)).length ≤ 114688) := by
  rw [keysE_len]
  have h := TW_len sl b k
  have h1 : k * 4 ^ k ≤ 7 * 4 ^ 7 := Nat.mul_le_mul hk (Nat.pow_le_pow_right (by omega) hk)
  have h2 : 7 * 4 ^ 7 = 114688 := by decide
  omega
theorem reach_ord (F : Nat) {b : List Int} (hb : GoodB b) {n : Nat} (hn : n ≤ 6) (hF : 2000000 < F) {K : LL} (hK : keysE (TW sl b (n + 1)) = K) : ∃ r : Nat × LL, impl_ordered_p F K = some r ∧ r.1 = (reachL b n).length ∧ r.2.take r.1 = reachL b n ∧ r.1 ≤ r.2.length := by
  have hg := reachL_ok hb n
  have hl := TW_good hb (n + 1) (by omega)
  rw [hK] at hl
  refine ordered_eq F (fun x hx => ?_) hg.2 (fun x => by rw [← hK]; exact keys_reach b n x) (by omega) (by omega)
  exact (hg.1 x ((keys_reach b n x).1 (hK ▸ hx))).1
theorem impl_rbs (F : Nat) {b : List Int} (hb : b.length = 16) (kb : okB b = true) {n : Nat} (hn : n ≤ 6) (hF : 2000000 < F) : ∃ r : Nat × LL, impl_ReachBySlides_p F b n = some (r.1, true, r.2) ∧ r.1 = (reachL b n).length ∧ r.2.take r.1 = reachL b n ∧ r.1 ≤ r.2.length := by
  have e := reach_eq F (b := b) ⟨hb, kb⟩ hn hF
  obtain ⟨r, h1, h2⟩ := reach_ord F (b := b) ⟨hb, kb⟩ hn hF rfl
  refine ⟨r, ?_, h2⟩
  revert e h1
  generalize keysE (TW sl b (n + 1)) = K
  generalize TW sl b (n + 1) = E
  intro e h1
  have hin : inB (n : Int) 0 6 = true := by simp [inB]; omega
  simp only [impl_ReachBySlides_p, impl_ReachBySlides_c, impl_IsBoard_eq F b hb (by omega), kb, in_eq, hin, e, h1, beq_selfL, Option.isSome_some, Option.getD_some, cond_true, cond_false, Bool.not_true, Bool.and_self]
theorem rbs_same (F : Nat) (b : List Int) (hb : b.length = 16) (n : Int) (hF : 2000000 < F) : ∃ (k : Nat) (m v : LL) (o : Bool), spec_ReachBySlides_p F b n = some (v, o) ∧ impl_ReachBySlides_p F b n = some (k, o, m) ∧ m.take k = v ∧ v.length = k ∧ k ≤ m.length ∧ k ≤ 20000 := by
  cases hB : okB b with
  | false =>
    refine ⟨0, [], [], false, ?_, ?_, rfl, rfl, by simp, by simp⟩
    · simp only [spec_ReachBySlides_p, spec_ReachBySlides_c, spec_l2Board_eq F b hb (by omega), hB, Option.isSome_some, Option.getD_some, cond_true, Bool.not_false]
    · simp only [impl_ReachBySlides_p, impl_ReachBySlides_c, impl_IsBoard_eq F b hb (by omega), hB, Option.isSome_some, Option.getD_some, cond_true, Bool.not_false]
  | true =>
    cases hn : inB n 0 6 with
    | false =>
      refine ⟨0, [], [], false, ?_, ?_, rfl, rfl, by simp, by simp⟩
      · simp only [spec_ReachBySlides_p, spec_ReachBySlides_c, spec_l2Board_eq F b hb (by omega), hB, l1In_eq, hn, Option.isSome_some, Option.getD_some, cond_true, cond_false, Bool.not_true, Bool.not_false]
      · simp only [impl_ReachBySlides_p, impl_ReachBySlides_c, impl_IsBoard_eq F b hb (by omega), hB, in_eq, hn, Option.isSome_some, Option.getD_some, cond_true, cond_false, Bool.not_true, Bool.not_false]
    | true =>
      have h2 := hn
      simp [inB] at h2
      obtain ⟨k, rfl⟩ := Int.eq_ofNat_of_zero_le h2.1
      have hk : k ≤ 6 := by omega
      obtain ⟨r, e, r1, r2, r3⟩ := impl_rbs F hb hB hk hF
      have hs := reachL_small b (n := k) hk
      have e2 := spec_reach F (b := b) ⟨hb, hB⟩ hk (by omega)
      refine ⟨r.1, r.2, reachL b k, true, ?_, e, r2, r1.symm, r3, by omega⟩
      simp only [spec_ReachBySlides_p, spec_ReachBySlides_c, spec_l2Board_eq F b hb (by omega), hB, l1In_eq, hn, e2, Option.isSome_some, Option.getD_some, cond_true, cond_false, Bool.not_true]
theorem law_ReachBySlides (F : Nat) (b : List Int) (hb : b.length = 16) (_ : ∀ x ∈ b, Rng x) (n : Int) (_ : Rng n) (hF : 2000000 < F) : laws_FnExactReachBySlides_p F b n = some true := by
  obtain ⟨k, m, v, o, h1, h2, hv, hl, hn, h40⟩ := rbs_same F b hb n hF
  have e1 := markBoardS_some F k m (by omega) (by omega)
  have e2 := heldBoardS_some F v (by omega) (by omega)
  have e0 := eqBoardS_refl F v (by omega) (by omega) (by omega)
  simp only [laws_FnExactReachBySlides_p, laws_FnExactReachBySlides_c, toBoard_eq hb, h1, h2, Option.isSome_some, Option.getD_some, cond_true, subn_take0, hv, List.take_length, e0, beq_self_eq_true, Bool.not_true, cond_false, e1, e2]
end Go.Lv.P
