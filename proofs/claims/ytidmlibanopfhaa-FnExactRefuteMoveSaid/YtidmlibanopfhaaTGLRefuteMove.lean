/-
FnExactRefuteMove: both say the same.
-/
import Derived.Test.YtidmlibanopfhaaTGP6
import Derived.Test.YtidmlibanopfhaaTGPLastS
import Derived.Test.YtidmlibanopfhaaTGPLastI
import Derived.Test.YtidmlibanopfhaaTGPToBoard
import Derived.Test.YtidmlibanopfhaaTGPBoard
import Derived.Test.YtidmlibanopfhaaTGPEqA3
namespace Go.Lv.P
open Go Go.Lv
set_option linter.unusedVariables false
set_option linter.unusedSimpArgs false

section
variable {b : List Int} (hb : b.length = 16) (ok : okB b = true)
include hb ok
theorem impl_ref_0 (F : Nat) (hF : 1000 < F) : impl_Board_refuted_n0_p F b = some () := by
  have hl := plm_len40 b
  have h : impl_Board_refuted_n0_l2 F ((plm b).length : Int) b (plm b) 0 = some (fnd (fun _ => false) (fun _ => default) default 0 (plm b).length) := by
    refine loop_find (step := impl_Board_refuted_n0_s2 F ((plm b).length : Int) b (plm b)) (fun i => i) (plm b).length _ _ _ (by omega) (by omega) (fun i hi Q kn kx => ?_) fun Q kn kx => ?_
    · obtain ⟨⟨p0, p1⟩, q3, q4⟩ := put_all hb ok (rget_mem hi)
      simp only [impl_Board_refuted_n0_s2, Int.ofNat_lt, hi, inR_cast, Int.toNat_natCast, decide_true, cond_true, cond_false, Nat.zero_add, impl_put p0 p1, Option.isSome_some, Option.getD_some]
    · simp [impl_Board_refuted_n0_s2]
  simp only [impl_Board_refuted_n0_p, impl_Board_refuted_n0_c, impl_places_eq F b hF, h, Option.isSome_some, Option.getD_some, cond_true, beq_selfL, Bool.and_self]
theorem spec_ref (F : Nat) (hF : 1000 < F) {n : Int} (hn : inB n 1 3 = true) : spec_l8Refuted_p F b n = some (refM (lastN (n - 1).toNat) b) := by
  simp [inB] at hn
  obtain rfl | rfl | rfl : n = 1 ∨ n = 2 ∨ n = 3 := by omega
  · have e : (1 - 1 : Int).toNat = 0 := rfl
    rw [e, refM_0]; rfl
  · simp only [spec_l8Refuted_p, spec_l8Refuted_c, spec_ref_2 hb ok F hF, Option.isSome_some, Option.getD_some, cond_true]; rfl
  · simp only [spec_l8Refuted_p, spec_l8Refuted_c, spec_ref_3 hb ok F hF, Option.isSome_some, Option.getD_some, cond_true]; rfl
theorem impl_ref (F : Nat) (hF : 1000 < F) {n : Int} (hn : inB n 1 3 = true) : impl_Board_refuted_p F b (IntKind.wrap .i64 (n - 1)) = some (refM (lastN (n - 1).toNat) b) := by
  simp [inB] at hn
  rw [wrap_of (by omega) (by omega)]
  obtain rfl | rfl | rfl : n = 1 ∨ n = 2 ∨ n = 3 := by omega
  · have e : (1 - 1 : Int).toNat = 0 := rfl
    rw [e, refM_0]
    simp only [impl_Board_refuted_p, impl_Board_refuted_c, impl_ref_0 hb ok F hF, Option.isSome_some, Option.getD_some, cond_true]; rfl
  · simp only [impl_Board_refuted_p, impl_Board_refuted_c, impl_ref_1 hb ok F hF, Option.isSome_some, Option.getD_some, cond_true]; rfl
  · simp only [impl_Board_refuted_p, impl_Board_refuted_c, impl_ref_2 hb ok F hF, Option.isSome_some, Option.getD_some, cond_true]; rfl
end

theorem law_RefuteMove (F : Nat) (b : List Int) (hb : b.length = 16) (_ : ∀ x ∈ b, Rng x) (d : Int) (_ : Rng d) (n : Int) (_ : Rng n) (hF : 1000 < F) : laws_FnExactRefuteMove_p F b d n = some true := by
  have h : ∃ v, spec_RefuteMove_p F b d n = some v ∧ impl_RefuteMove_p F b d n = some v := by
    simp only [spec_RefuteMove_p, spec_RefuteMove_c, impl_RefuteMove_p, impl_RefuteMove_c, impl_Board_isMove_p, impl_Board_isMove_c, spec_l2Board_eq F b hb hF, impl_IsBoard_eq F b hb hF, Option.isSome_some, Option.getD_some, cond_true, spec_l2Side_v, impl_isDirection_v, l1In_eq, in_eq]
    cases hB : okB b with
    | false => exact ⟨_, rfl, rfl⟩
    | true =>
      cases hd : inB d 0 3 with
      | false => exact ⟨_, rfl, rfl⟩
      | true =>
        obtain ⟨d, rfl, hd4⟩ : ∃ k : Nat, d = k ∧ k < 4 := by
          simp [inB] at hd
          exact ⟨d.toNat, by omega, by omega⟩
        obtain ⟨l, o⟩ := slide_ok hb hB hd4
        simp only [spec_slide hb hB F hF hd4, impl_slides1 hb hB F hF hd4, Option.isSome_some, Option.getD_some, cond_true, Bool.not_true, cond_false]
        cases hn : inB n 1 3 with
        | false => cases (slideB b d).1 == b <;> exact ⟨_, rfl, rfl⟩
        | true =>
          simp only [spec_ref l o F hF hn, impl_ref l o F hF hn, Option.isSome_some, Option.getD_some, cond_true, Bool.not_true, cond_false]
          cases (slideB b d).1 == b <;> exact ⟨_, rfl, rfl⟩
  obtain ⟨v, h1, h2⟩ := h
  simp only [laws_FnExactRefuteMove_p, laws_FnExactRefuteMove_c, toBoard_eq hb, h1, h2, Option.isSome_some, Option.getD_some, cond_true, beq_self_eq_true, Bool.not_true, cond_false, eqIntA3_refl F _ hF]
end Go.Lv.P
