/-
Lasting, by the reference.
-/
import Derived.Test.YtidmlibanopfhaaTGP0
import Derived.Test.YtidmlibanopfhaaTGP3
import Derived.Test.YtidmlibanopfhaaTGP4
import Derived.Test.YtidmlibanopfhaaTGPLastB
namespace Go.Lv.P
open Go Go.Lv
set_option linter.unusedVariables false
set_option linter.unusedSimpArgs false

section
variable {b : List Int} (hb : b.length = 16) (ok : okB b = true)
include hb ok
theorem spec_safe_1 (F : Nat) (hF : 1000 < F) {d : Nat} (hd : d < 4) : spec_l8Safe_n1_p F b d = some (safeM (lastN 0) b d) := by
  simp only [spec_l8Safe_n1_p, spec_l8Safe_n1_c, spec_slide hb ok F hF hd, Option.isSome_some, Option.getD_some, cond_true, safeM, refM_0, Bool.not_false]
  cases (slideB b d).1 == b <;> rfl
theorem spec_lasts_1 (F : Nat) (hF : 1000 < F) : spec_l8Lasts_n1_p F b = some (lastN 1 b) := by
  have h : spec_l8Lasts_n1_l4 F b 0 = some (fnd (fun d => safeM (lastN 0) b d) (fun _ => true) false 0 4) := by
    refine loop_find (step := spec_l8Lasts_n1_s4 F b) (fun i => i) 4 _ _ _ (by omega) (by omega) (fun i hi Q kn kx => ?_) fun Q kn kx => ?_
    · have hi' : (i : Int) < 4 := by omega
      simp only [spec_l8Lasts_n1_s4, hi', decide_true, cond_true, spec_safe_1 hb ok F hF hi, Option.isSome_some, Option.getD_some]
    · simp [spec_l8Lasts_n1_s4]
  simp only [spec_l8Lasts_n1_p, spec_l8Lasts_n1_c, h, Option.isSome_some, Option.getD_some, cond_true]
  show _ = some (fnd (fun d => safeM (lastN 0) b d) (fun _ => true) false 0 4)
  cases fnd (fun d => safeM (lastN 0) b d) (fun _ => true) false 0 4 <;> rfl
theorem spec_ref_2 (F : Nat) (hF : 1000 < F) : spec_l8Refuted_n2_p F b = some (refM (lastN 1) b) := by
  have hl := plm_len40 b
  have h : spec_l8Refuted_n2_l5 F b (plm b) 0 = some (refF (lastN 1) b) := by
    refine loop_find (step := spec_l8Refuted_n2_s5 F b (plm b)) (fun i => i) (plm b).length (fun i => !lastN 1 (putP b (rget (plm b) i))) (fun i => (true, rget (plm b) i)) (false, default) (by omega) (by omega) (fun i hi Q kn kx => ?_) fun Q kn kx => ?_
    · obtain ⟨⟨p0, p1⟩, q3, q4⟩ := put_all hb ok (rget_mem hi)
      simp only [spec_l8Refuted_n2_s5, Int.ofNat_lt, hi, inR_cast, Int.toNat_natCast, decide_true, cond_true, Nat.zero_add, spec_put p0 p1, spec_lasts_1 q3 q4 F hF, Option.isSome_some, Option.getD_some]
    · simp [spec_l8Refuted_n2_s5]
  simp only [spec_l8Refuted_n2_p, spec_l8Refuted_n2_c, spec_places_eq F b hF, h, Option.isSome_some, Option.getD_some, cond_true, beq_selfL, Bool.and_self, refM]
  cases (refF (lastN 1) b).1 <;> rfl
theorem spec_safe_2 (F : Nat) (hF : 1000 < F) {d : Nat} (hd : d < 4) : spec_l8Safe_n2_p F b d = some (safeM (lastN 1) b d) := by
  obtain ⟨l, o⟩ := slide_ok hb ok hd
  simp only [spec_l8Safe_n2_p, spec_l8Safe_n2_c, spec_slide hb ok F hF hd, spec_ref_2 l o F hF, Option.isSome_some, Option.getD_some, cond_true, safeM]
  generalize (refM (lastN 1) (slideB b d).1).2 = u
  cases (slideB b d).1 == b
  · simp only [cond_false]
  · simp only [cond_true]
theorem spec_lasts_2 (F : Nat) (hF : 1000 < F) : spec_l8Lasts_n2_p F b = some (lastN 2 b) := by
  have h : spec_l8Lasts_n2_l4 F b 0 = some (fnd (fun d => safeM (lastN 1) b d) (fun _ => true) false 0 4) := by
    refine loop_find (step := spec_l8Lasts_n2_s4 F b) (fun i => i) 4 _ _ _ (by omega) (by omega) (fun i hi Q kn kx => ?_) fun Q kn kx => ?_
    · have hi' : (i : Int) < 4 := by omega
      simp only [spec_l8Lasts_n2_s4, hi', decide_true, cond_true, spec_safe_2 hb ok F hF hi, Option.isSome_some, Option.getD_some]
    · simp [spec_l8Lasts_n2_s4]
  simp only [spec_l8Lasts_n2_p, spec_l8Lasts_n2_c, h, Option.isSome_some, Option.getD_some, cond_true]
  show _ = some (fnd (fun d => safeM (lastN 1) b d) (fun _ => true) false 0 4)
  cases fnd (fun d => safeM (lastN 1) b d) (fun _ => true) false 0 4 <;> rfl
theorem spec_ref_3 (F : Nat) (hF : 1000 < F) : spec_l8Refuted_n3_p F b = some (refM (lastN 2) b) := by
  have hl := plm_len40 b
  have h : spec_l8Refuted_n3_l5 F b (plm b) 0 = some (refF (lastN 2) b) := by
    refine loop_find (step := spec_l8Refuted_n3_s5 F b (plm b)) (fun i => i) (plm b).length (fun i => !lastN 2 (putP b (rget (plm b) i))) (fun i => (true, rget (plm b) i)) (false, default) (by omega) (by omega) (fun i hi Q kn kx => ?_) fun Q kn kx => ?_
    · obtain ⟨⟨p0, p1⟩, q3, q4⟩ := put_all hb ok (rget_mem hi)
      simp only [spec_l8Refuted_n3_s5, Int.ofNat_lt, hi, inR_cast, Int.toNat_natCast, decide_true, cond_true, Nat.zero_add, spec_put p0 p1, spec_lasts_2 q3 q4 F hF, Option.isSome_some, Option.getD_some]
    · simp [spec_l8Refuted_n3_s5]
  simp only [spec_l8Refuted_n3_p, spec_l8Refuted_n3_c, spec_places_eq F b hF, h, Option.isSome_some, Option.getD_some, cond_true, beq_selfL, Bool.and_self, refM]
  cases (refF (lastN 2) b).1 <;> rfl
theorem spec_safe_3 (F : Nat) (hF : 1000 < F) {d : Nat} (hd : d < 4) : spec_l8Safe_n3_p F b d = some (safeM (lastN 2) b d) := by
  obtain ⟨l, o⟩ := slide_ok hb ok hd
  simp only [spec_l8Safe_n3_p, spec_l8Safe_n3_c, spec_slide hb ok F hF hd, spec_ref_3 l o F hF, Option.isSome_some, Option.getD_some, cond_true, safeM]
  generalize (refM (lastN 2) (slideB b d).1).2 = u
  cases (slideB b d).1 == b
  · simp only [cond_false]
  · simp only [cond_true]
theorem spec_lasts_3 (F : Nat) (hF : 1000 < F) : spec_l8Lasts_n3_p F b = some (lastN 3 b) := by
  have h : spec_l8Lasts_n3_l4 F b 0 = some (fnd (fun d => safeM (lastN 2) b d) (fun _ => true) false 0 4) := by
    refine loop_find (step := spec_l8Lasts_n3_s4 F b) (fun i => i) 4 _ _ _ (by omega) (by omega) (fun i hi Q kn kx => ?_) fun Q kn kx => ?_
    · have hi' : (i : Int) < 4 := by omega
      simp only [spec_l8Lasts_n3_s4, hi', decide_true, cond_true, spec_safe_3 hb ok F hF hi, Option.isSome_some, Option.getD_some]
    · simp [spec_l8Lasts_n3_s4]
  simp only [spec_l8Lasts_n3_p, spec_l8Lasts_n3_c, h, Option.isSome_some, Option.getD_some, cond_true]
  show _ = some (fnd (fun d => safeM (lastN 2) b d) (fun _ => true) false 0 4)
  cases fnd (fun d => safeM (lastN 2) b d) (fun _ => true) false 0 4 <;> rfl
theorem spec_lasts (F : Nat) (hF : 1000 < F) {n : Int} (hn : inB n 0 3 = true) : spec_l8Lasts_p F b n = some (lastN n.toNat b) := by
  simp [inB] at hn
  obtain rfl | rfl | rfl | rfl : n = 0 ∨ n = 1 ∨ n = 2 ∨ n = 3 := by omega
  · rfl
  · simp only [spec_l8Lasts_p, spec_l8Lasts_c, spec_lasts_1 hb ok F hF, Option.isSome_some, Option.getD_some, cond_true]; rfl
  · simp only [spec_l8Lasts_p, spec_l8Lasts_c, spec_lasts_2 hb ok F hF, Option.isSome_some, Option.getD_some, cond_true]; rfl
  · simp only [spec_l8Lasts_p, spec_l8Lasts_c, spec_lasts_3 hb ok F hF, Option.isSome_some, Option.getD_some, cond_true]; rfl
end
end Go.Lv.P
