/-
Lasting, by the program.
-/
import Derived.Test.YtidmlibanopfhaaTGP3
import Derived.Test.YtidmlibanopfhaaTGP4
import Derived.Test.YtidmlibanopfhaaTGP5
import Derived.Test.YtidmlibanopfhaaTGPLastB
import Derived.Test.YtidmlibanopfhaaTGPMovesI
import Derived.Test.YtidmlibanopfhaaTGPSlides1
import Derived.Test.YtidmlibanopfhaaTGPDeleteI
namespace Go.Lv.P
open Go Go.Lv
set_option linter.unusedVariables false
set_option linter.unusedSimpArgs false

section
variable {b : List Int} (hb : b.length = 16) (ok : okB b = true)
include hb ok
theorem impl_isOver (F : Nat) (hF : 1000 < F) : impl_Board_isOver_p F b = some ((((movesB b).length : Nat) : Int) == 0) := by
  simp only [impl_Board_isOver_p, impl_Board_isOver_c, impl_moves hb ok F hF, Option.isSome_some, Option.getD_some, cond_true]
theorem impl_lasts_1 (F : Nat) (hF : 1000 < F) : impl_Board_lasts_n1_p F b = some (lastN 1 b) := by
  simp only [impl_Board_lasts_n1_p, impl_Board_lasts_n1_c, impl_isOver hb ok F hF, Option.isSome_some, Option.getD_some, cond_true, last1_moves]
theorem impl_ref_1 (F : Nat) (hF : 1000 < F) : impl_Board_refuted_n1_p F b = some (refM (lastN 1) b) := by
  have hl := plm_len40 b
  have h : impl_Board_refuted_n1_l2 F ((plm b).length : Int) b (plm b) 0 = some (refF (lastN 1) b) := by
    refine loop_find (step := impl_Board_refuted_n1_s2 F ((plm b).length : Int) b (plm b)) (fun i => i) (plm b).length _ _ _ (by omega) (by omega) (fun i hi Q kn kx => ?_) fun Q kn kx => ?_
    · obtain ⟨⟨p0, p1⟩, q3, q4⟩ := put_all hb ok (rget_mem hi)
      simp only [impl_Board_refuted_n1_s2, Int.ofNat_lt, hi, inR_cast, Int.toNat_natCast, decide_true, cond_true, Nat.zero_add, impl_put p0 p1, impl_lasts_1 q3 q4 F hF, Option.isSome_some, Option.getD_some]
    · simp [impl_Board_refuted_n1_s2]
  simp only [impl_Board_refuted_n1_p, impl_Board_refuted_n1_c, impl_places_eq F b hF, h, Option.isSome_some, Option.getD_some, cond_true, beq_selfL, Bool.and_self, refM]
  cases (refF (lastN 1) b).1 <;> rfl
theorem impl_safe_2 (F : Nat) (hF : 1000 < F) {d : Nat} (hd : d < 4) : impl_Board_isSafe_n2_p F b d = some (!(refM (lastN 1) (slideB b d).1).2) := by
  obtain ⟨l, o⟩ := slide_ok hb ok hd
  simp only [impl_Board_isSafe_n2_p, impl_Board_isSafe_n2_c, impl_slides1 hb ok F hF hd, impl_ref_1 l o F hF, Option.isSome_some, Option.getD_some, cond_true]
theorem impl_lasts_2 (F : Nat) (hF : 1000 < F) : impl_Board_lasts_n2_p F b = some (lastN 2 b) := by
  have hl := movesB_len b
  have hq : ∀ x ∈ movesB b, impl_Board_lasts_f1_n2_p F x b = some (!(refM (lastN 1) (slideB b x.toNat).1).2) := fun x hx => by
    obtain ⟨d, rfl, hd, _⟩ := movesB_mem hx
    simp only [impl_Board_lasts_f1_n2_p, impl_Board_lasts_f1_n2_c, impl_safe_2 hb ok F hF hd, Option.isSome_some, Option.getD_some, cond_true, Int.toNat_natCast]
  have hg : ∀ i, i < (movesB b).length → impl_Board_lasts_f1_n2_p F (iget (movesB b) i) b = some (!(refM (lastN 1) (slideB b (iget (movesB b) i).toNat).1).2) := fun i hi => by
    refine hq _ ?_
    rw [igetL, List.getElem?_eq_getElem hi]
    exact List.getElem_mem hi
  have h1 : slices_IndexFunc_intint_impl_Board_lasts_f1_n2_l2 F (movesB b) ((movesB b).length : Int) b 0 = some (fnd (fun i => !(refM (lastN 1) (slideB b (iget (movesB b) i).toNat).1).2) (fun i => (true, (i : Int))) (false, default) 0 (movesB b).length) := by
    refine loop_find (fun i => i) (movesB b).length _ _ _ (by omega) (by omega) (fun i hi Q kn kx => ?_) fun Q kn kx => ?_
    · simp only [slices_IndexFunc_intint_impl_Board_lasts_f1_n2_s2, inR_cast, hi, hg i hi, Int.toNat_natCast, decide_true, cond_true, Int.ofNat_lt, Option.isSome_some, Option.getD_some]
    · simp [slices_IndexFunc_intint_impl_Board_lasts_f1_n2_s2]
  have h2 := fnd_place (fun i => !(refM (lastN 1) (slideB b (iget (movesB b) i).toNat).1).2) (movesB b).length
  rw [any_iget (movesB b) fun x => !(refM (lastN 1) (slideB b x.toNat).1).2, ← lastM_moves] at h2
  generalize fnd (fun i => !(refM (lastN 1) (slideB b (iget (movesB b) i).toNat).1).2) (fun i => (true, (i : Int))) (false, default) 0 (movesB b).length = z at h1 h2
  simp only [impl_Board_lasts_n2_p, impl_Board_lasts_n2_c, impl_moves hb ok F hF, Option.isSome_some, Option.getD_some, cond_true, subn_self,
    slices_ContainsFunc_intint_impl_Board_lasts_f1_n2_p, slices_ContainsFunc_intint_impl_Board_lasts_f1_n2_c, slices_IndexFunc_intint_impl_Board_lasts_f1_n2_p, slices_IndexFunc_intint_impl_Board_lasts_f1_n2_c, h1]
  have h3 : lastN 2 b = lastM (lastN 1) b := rfl
  rw [h3, ← h2]
  cases z.1 <;> rfl
theorem impl_ref_2 (F : Nat) (hF : 1000 < F) : impl_Board_refuted_n2_p F b = some (refM (lastN 2) b) := by
  have hl := plm_len40 b
  have h : impl_Board_refuted_n2_l2 F ((plm b).length : Int) b (plm b) 0 = some (refF (lastN 2) b) := by
    refine loop_find (step := impl_Board_refuted_n2_s2 F ((plm b).length : Int) b (plm b)) (fun i => i) (plm b).length _ _ _ (by omega) (by omega) (fun i hi Q kn kx => ?_) fun Q kn kx => ?_
    · obtain ⟨⟨p0, p1⟩, q3, q4⟩ := put_all hb ok (rget_mem hi)
      simp only [impl_Board_refuted_n2_s2, Int.ofNat_lt, hi, inR_cast, Int.toNat_natCast, decide_true, cond_true, Nat.zero_add, impl_put p0 p1, impl_lasts_2 q3 q4 F hF, Option.isSome_some, Option.getD_some]
    · simp [impl_Board_refuted_n2_s2]
  simp only [impl_Board_refuted_n2_p, impl_Board_refuted_n2_c, impl_places_eq F b hF, h, Option.isSome_some, Option.getD_some, cond_true, beq_selfL, Bool.and_self, refM]
  cases (refF (lastN 2) b).1 <;> rfl
theorem impl_safe_3 (F : Nat) (hF : 1000 < F) {d : Nat} (hd : d < 4) : impl_Board_isSafe_n3_p F b d = some (!(refM (lastN 2) (slideB b d).1).2) := by
  obtain ⟨l, o⟩ := slide_ok hb ok hd
  simp only [impl_Board_isSafe_n3_p, impl_Board_isSafe_n3_c, impl_slides1 hb ok F hF hd, impl_ref_2 l o F hF, Option.isSome_some, Option.getD_some, cond_true]
theorem impl_lasts_3 (F : Nat) (hF : 1000 < F) : impl_Board_lasts_n3_p F b = some (lastN 3 b) := by
  have hl := movesB_len b
  have hq : ∀ x ∈ movesB b, impl_Board_lasts_f1_n3_p F x b = some (!(refM (lastN 2) (slideB b x.toNat).1).2) := fun x hx => by
    obtain ⟨d, rfl, hd, _⟩ := movesB_mem hx
    simp only [impl_Board_lasts_f1_n3_p, impl_Board_lasts_f1_n3_c, impl_safe_3 hb ok F hF hd, Option.isSome_some, Option.getD_some, cond_true, Int.toNat_natCast]
  have hg : ∀ i, i < (movesB b).length → impl_Board_lasts_f1_n3_p F (iget (movesB b) i) b = some (!(refM (lastN 2) (slideB b (iget (movesB b) i).toNat).1).2) := fun i hi => by
    refine hq _ ?_
    rw [igetL, List.getElem?_eq_getElem hi]
    exact List.getElem_mem hi
  have h1 : slices_IndexFunc_intint_impl_Board_lasts_f1_n3_l2 F (movesB b) ((movesB b).length : Int) b 0 = some (fnd (fun i => !(refM (lastN 2) (slideB b (iget (movesB b) i).toNat).1).2) (fun i => (true, (i : Int))) (false, default) 0 (movesB b).length) := by
    refine loop_find (fun i => i) (movesB b).length _ _ _ (by omega) (by omega) (fun i hi Q kn kx => ?_) fun Q kn kx => ?_
    · simp only [slices_IndexFunc_intint_impl_Board_lasts_f1_n3_s2, inR_cast, hi, hg i hi, Int.toNat_natCast, decide_true, cond_true, Int.ofNat_lt, Option.isSome_some, Option.getD_some]
    · simp [slices_IndexFunc_intint_impl_Board_lasts_f1_n3_s2]
  have h2 := fnd_place (fun i => !(refM (lastN 2) (slideB b (iget (movesB b) i).toNat).1).2) (movesB b).length
  rw [any_iget (movesB b) fun x => !(refM (lastN 2) (slideB b x.toNat).1).2, ← lastM_moves] at h2
  generalize fnd (fun i => !(refM (lastN 2) (slideB b (iget (movesB b) i).toNat).1).2) (fun i => (true, (i : Int))) (false, default) 0 (movesB b).length = z at h1 h2
  simp only [impl_Board_lasts_n3_p, impl_Board_lasts_n3_c, impl_moves hb ok F hF, Option.isSome_some, Option.getD_some, cond_true, subn_self,
    slices_ContainsFunc_intint_impl_Board_lasts_f1_n3_p, slices_ContainsFunc_intint_impl_Board_lasts_f1_n3_c, slices_IndexFunc_intint_impl_Board_lasts_f1_n3_p, slices_IndexFunc_intint_impl_Board_lasts_f1_n3_c, h1]
  have h3 : lastN 3 b = lastM (lastN 2) b := rfl
  rw [h3, ← h2]
  cases z.1 <;> rfl
theorem impl_lasts (F : Nat) (hF : 1000 < F) {n : Int} (hn : inB n 0 3 = true) : impl_Board_lasts_p F b n = some (lastN n.toNat b) := by
  simp [inB] at hn
  obtain rfl | rfl | rfl | rfl : n = 0 ∨ n = 1 ∨ n = 2 ∨ n = 3 := by omega
  · rfl
  · simp only [impl_Board_lasts_p, impl_Board_lasts_c, impl_lasts_1 hb ok F hF, Option.isSome_some, Option.getD_some, cond_true]; rfl
  · simp only [impl_Board_lasts_p, impl_Board_lasts_c, impl_lasts_2 hb ok F hF, Option.isSome_some, Option.getD_some, cond_true]; rfl
  · simp only [impl_Board_lasts_p, impl_Board_lasts_c, impl_lasts_3 hb ok F hF, Option.isSome_some, Option.getD_some, cond_true]; rfl
end
end Go.Lv.P
