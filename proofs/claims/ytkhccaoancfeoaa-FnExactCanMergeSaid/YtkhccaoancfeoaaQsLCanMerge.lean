/-
FnExactCanMerge: both say the same.
-/
import Derived.Test.YtkhccaoancfeoaaQsP0
import Derived.Test.YtkhccaoancfeoaaQsP1
import Derived.Test.YtkhccaoancfeoaaQsP2
import Derived.Test.YtkhccaoancfeoaaQsP5
import Derived.Test.YtkhccaoancfeoaaQsP6
import Derived.Test.YtkhccaoancfeoaaQsPG6
import Derived.Test.YtkhccaoancfeoaaQsPG1
import Derived.Test.YtkhccaoancfeoaaQsPG2
namespace Go.Lv.P
open Go Go.Lv
set_option linter.unusedVariables false
set_option linter.unusedSimpArgs false
set_option linter.unusedSectionVars false

theorem canM_same (F : Nat) (b : List Int) (hb : b.length = 16) (d : Int) (hF : 1000 < F) : ∃ (n : Nat) (m v : LL) (o : Bool), spec_CanMerge_p F b d = some (o, v) ∧ impl_CanMerge_p F b d = some (n, o, m) ∧ m.take n = v ∧ v.length = n ∧ n ≤ m.length ∧ n ≤ 40 ∧ (∀ x ∈ v, x.length = 2) := by
  cases hB : okB b with
  | false =>
    refine ⟨0, [], [], false, ?_, ?_, rfl, rfl, by simp, by simp, by simp⟩
    · simp only [spec_CanMerge_p, spec_CanMerge_c, spec_l2Board_eq F b hb hF, hB, Option.isSome_some, Option.getD_some, cond_true, Bool.not_false]
    · simp only [impl_CanMerge_p, impl_CanMerge_c, impl_Board_merged_p, impl_Board_merged_c, impl_IsBoard_eq F b hb hF, hB, Option.isSome_some, Option.getD_some, cond_true, Bool.not_false]
  | true =>
    cases hd : inB d 0 3 with
    | false =>
      refine ⟨0, [], [], false, ?_, ?_, rfl, rfl, by simp, by simp, by simp⟩
      · simp only [spec_CanMerge_p, spec_CanMerge_c, spec_l2Board_eq F b hb hF, hB, spec_l2Side_v, l1In_eq, hd, Option.isSome_some, Option.getD_some, cond_true, cond_false, Bool.not_false, Bool.not_true]
      · simp only [impl_CanMerge_p, impl_CanMerge_c, impl_Board_merged_p, impl_Board_merged_c, impl_IsBoard_eq F b hb hF, hB, impl_isDirection_v, in_eq, hd, Option.isSome_some, Option.getD_some, cond_true, cond_false, Bool.not_false, Bool.not_true]
    | true =>
      obtain ⟨k, rfl, hk⟩ : ∃ n : Nat, d = n ∧ n < 4 := by
        simp [inB] at hd
        exact ⟨d.toNat, by omega, by omega⟩
      obtain ⟨m, e1, e2⟩ := impl_mgd hb hB hk F hF false
      have e0 := spec_mgd hb hB hk F hF true
      have ec := spec_count hb hB F hF hk
      cases hc : cntB b k == 0 with
      | true =>
        refine ⟨0, [], [], false, ?_, ?_, rfl, rfl, by simp, by simp, by simp⟩
        · simp only [spec_CanMerge_p, spec_CanMerge_c, spec_l2Board_eq F b hb hF, hB, spec_l2Side_v, l1In_eq, hd, ec, hc, Option.isSome_some, Option.getD_some, cond_true, cond_false, Bool.not_false, Bool.not_true]
        · rw [hc, cond_true] at e1
          simp only [impl_CanMerge_p, impl_CanMerge_c, e1, Option.isSome_some, Option.getD_some, cond_true]
      | false =>
        obtain ⟨e3, e4⟩ := e2 hc
        have hl := mgd_len b k true
        rw [hc, cond_false] at e1
        refine ⟨(mgd b k true).length, m, mgd b k true, true, ?_, ?_, e3, rfl, by rw [e4]; exact hl, by omega, mgd_two b k true⟩
        · simp only [spec_CanMerge_p, spec_CanMerge_c, spec_l2Board_eq F b hb hF, hB, spec_l2Side_v, l1In_eq, hd, ec, hc, e0, Option.isSome_some, Option.getD_some, cond_true, cond_false, Bool.not_false, Bool.not_true]
        · simp only [impl_CanMerge_p, impl_CanMerge_c, e1, Option.isSome_some, Option.getD_some, cond_true, Bool.not_true, Bool.not_false]
theorem law_CanMerge (F : Nat) (b : List Int) (hb : b.length = 16) (_ : ∀ x ∈ b, Rng x) (d : Int) (_ : Rng d) (hF : 1000 < F) : laws_FnExactCanMerge_p F b d = some true := by
  obtain ⟨n, m, v, o, h1, h2, hv, hl, hn, h40, h3⟩ := canM_same F b hb d hF
  obtain ⟨m', e1, e1l, e1t⟩ := markIntA2S_eq F n m (hv ▸ h3) hn (by omega) hF (by omega)
  have e2 := heldIntA2S_eq F n (by omega) hF (by omega)
  have e0 := eqIntA2S_refl F v (by omega) hF (by omega)
  have sv : subn v.length v 0 v.length = v := subn_self v
  have hp : decide ((1 : Int) + 2 * (n : Int) < 0) = false := by simp; omega
  simp only [laws_FnExactCanMerge_p, laws_FnExactCanMerge_c, toBoard_eq hb, h1, h2, Option.isSome_some, Option.getD_some, cond_true, subn_take0, hv, List.take_length, e0, beq_self_eq_true, Bool.not_true, cond_false, e1, e1t, e2, hp]
end Go.Lv.P
