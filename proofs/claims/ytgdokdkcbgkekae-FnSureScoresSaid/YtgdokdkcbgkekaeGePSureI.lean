/-
Sure scores, by the program.
-/
import Derived.Test.YtgdokdkcbgkekaeGeP2
import Derived.Test.YtgdokdkcbgkekaeGeP3
import Derived.Test.YtgdokdkcbgkekaeGePPutI
import Derived.Test.YtgdokdkcbgkekaeGePPlacesI
import Derived.Test.YtgdokdkcbgkekaeGePSureB
import Derived.Test.YtgdokdkcbgkekaeGePMovesI
namespace Go.Lv.P
open Go Go.Lv
set_option linter.unusedVariables false
set_option linter.unusedSimpArgs false
set_option linter.unusedSectionVars false

section
variable {b : List Int} (hb : b.length = 16) (ok : okB b = true)
include hb ok
theorem impl_sureOf_1 (F : Nat) (hF : 1000 < F) {d : Nat} (hd : d < 4) : impl_Board_sureOf_n1_p F b d = some (valM (sureN 0) b d) := by
  obtain ⟨m, hm⟩ := impl_slide hb ok F hF hd
  have e : valM (sureN 0) b d = (slideB b d).2 := by
    show (slideB b d).2 + (leastM (fun _ => 0) (slideB b d).1).1 = _
    rw [least_zero]; simp
  simp only [impl_Board_sureOf_n1_p, impl_Board_sureOf_n1_c, hm, Option.isSome_some, Option.getD_some, cond_true, e]
theorem impl_sure_1 (F : Nat) (hF : 1000 < F) : impl_Board_sure_n1_p F b = some (sureN 1 b) := by
  have hl := movesB_len b
  have hm : ∀ i, i < (movesB b).length → impl_Board_sureOf_n1_p F b (iget (movesB b) i) = some (valM (sureN 0) b (iget (movesB b) i).toNat) := fun i hi => by
    obtain ⟨d, hx, hd, hq⟩ := movesB_mem (b := b) (x := iget (movesB b) i) (by rw [igetL, List.getElem?_eq_getElem hi]; exact List.getElem_mem hi)
    rw [hx]
    simp only [impl_sureOf_1 hb ok F hF hd, Int.toNat_natCast]
  have h := loop_fold (step := impl_Board_sure_n1_s4 F ((movesB b).length : Int) b (movesB b)) (fun i (s : Int) => (s, i)) (movesB b).length (fun i (s : Int) => if valM (sureN 0) b (iget (movesB b) i).toNat > s then valM (sureN 0) b (iget (movesB b) i).toNat else s) (fun s => s) (fun _ _ => True) (F := F) (by omega) (by omega) (a := 0) trivial
    (fun i s hi _ => ⟨trivial, fun Q kn kx => by
      simp only [impl_Board_sure_n1_s4, Int.ofNat_lt, hi, inR_cast, Int.toNat_natCast, decide_true, cond_true, Nat.zero_add, hm i hi, Option.isSome_some, Option.getD_some]⟩) (fun s _ Q kn kx => by simp [impl_Board_sure_n1_s4])
  have h1 : impl_Board_sure_n1_l4 F ((movesB b).length : Int) b (movesB b) 0 0 = some (sureN 1 b) := by
    have := (best_moves (b := b) (valM (sureN 0) b) (fun d hd hq => (val_rng hb ok (sure_rng 0 (by omega)) hd hq).1) (bestM_eq (sureN 0) b).symm).1
    show _ = some (bestM (sureN 0) b).1
    rw [← this]; exact h.1
  simp only [impl_Board_sure_n1_p, impl_Board_sure_n1_c, impl_moves hb ok F hF, h1, Option.isSome_some, Option.getD_some, cond_true, beq_selfL, Bool.and_self]
theorem impl_worst_sureOf (F : Nat) (hF : 1000 < F) (V : List Int → Int) (hV : Vrng V) (hc : ∀ o : List Int, o.length = 16 → okB o = true → impl_Board_sureOf_f1_n2_p F o = some (V o)) (hp : 0 < (plm b).length) : impl_Board_worst_impl_Board_sureOf_f1_n2_p F b = some ((leastM V b).2, (leastM V b).1) := by
  have hl := plm_len40 b
  have h := loop_fold (step := impl_Board_worst_impl_Board_sureOf_f1_n2_s3 F ((plm b).length : Int) b (plm b)) (fun i (s : Int × List Int) => (s.1, i, s.2)) (plm b).length (fun i s => bif decide (s.1 < 0) then (V (putP b (rget (plm b) i)), rget (plm b) i) else lstep V b i s) (fun s => s) (fun _ _ => True) (F := F) (by omega) (by omega) (a := (-1, [0, 0, 0])) trivial
    (fun i s hi _ => ⟨trivial, fun Q kn kx => by
      obtain ⟨⟨p0, p1⟩, q3, q4⟩ := put_all hb ok (rget_mem hi)
      simp only [impl_Board_worst_impl_Board_sureOf_f1_n2_s3, Int.ofNat_lt, hi, inR_cast, Int.toNat_natCast, decide_true, cond_true, Nat.zero_add, impl_put p0 p1, hc _ q3 q4, Option.isSome_some, Option.getD_some, lstep]
      cases decide (s.1 < 0)
      · cases decide (V (putP b (rget (plm b) i)) < s.1) <;> rfl
      · rfl⟩) (fun s _ Q kn kx => by simp [impl_Board_worst_impl_Board_sureOf_f1_n2_s3])
  have h1 : impl_Board_worst_impl_Board_sureOf_f1_n2_l3 F ((plm b).length : Int) b (plm b) (-1) 0 [0, 0, 0] = some (leastM V b) := by rw [← least_impl hb ok hV hp]; exact h.1
  simp only [impl_Board_worst_impl_Board_sureOf_f1_n2_p, impl_Board_worst_impl_Board_sureOf_f1_n2_c, impl_places_eq F b hF, h1, Option.isSome_some, Option.getD_some, cond_true, beq_selfL, Bool.and_self]
theorem impl_sureOf_2 (F : Nat) (hF : 1000 < F) {d : Nat} (hd : d < 4) (hq : ((slideB b d).1 == b) = false) : impl_Board_sureOf_n2_p F b d = some (valM (sureN 1) b d) := by
  obtain ⟨m, hm⟩ := impl_slide hb ok F hF hd
  obtain ⟨l, o⟩ := slide_ok hb ok hd
  have hp := plm_pos hb ok hd hq
  have hr := val_rng hb ok (sure_rng 1 (by omega)) hd hq
  have hw := impl_worst_sureOf l o F hF (sureN 1) (sure_rng 1 (by omega)) (fun o h1 h2 => by
    simp only [impl_Board_sureOf_f1_n2_p, impl_Board_sureOf_f1_n2_c, impl_sure_1 h1 h2 F hF, Option.isSome_some, Option.getD_some, cond_true]) hp
  simp only [impl_Board_sureOf_n2_p, impl_Board_sureOf_n2_c, hm, hw, Option.isSome_some, Option.getD_some, cond_true]
  rw [valM] at hr ⊢
  rw [wrap_of (by omega) (by omega)]
theorem impl_sure_2 (F : Nat) (hF : 1000 < F) : impl_Board_sure_n2_p F b = some (sureN 2 b) := by
  have hl := movesB_len b
  have hm : ∀ i, i < (movesB b).length → impl_Board_sureOf_n2_p F b (iget (movesB b) i) = some (valM (sureN 1) b (iget (movesB b) i).toNat) := fun i hi => by
    obtain ⟨d, hx, hd, hq⟩ := movesB_mem (b := b) (x := iget (movesB b) i) (by rw [igetL, List.getElem?_eq_getElem hi]; exact List.getElem_mem hi)
    rw [hx]
    simp only [impl_sureOf_2 hb ok F hF hd hq, Int.toNat_natCast]
  have h := loop_fold (step := impl_Board_sure_n2_s4 F ((movesB b).length : Int) b (movesB b)) (fun i (s : Int) => (s, i)) (movesB b).length (fun i (s : Int) => if valM (sureN 1) b (iget (movesB b) i).toNat > s then valM (sureN 1) b (iget (movesB b) i).toNat else s) (fun s => s) (fun _ _ => True) (F := F) (by omega) (by omega) (a := 0) trivial
    (fun i s hi _ => ⟨trivial, fun Q kn kx => by
      simp only [impl_Board_sure_n2_s4, Int.ofNat_lt, hi, inR_cast, Int.toNat_natCast, decide_true, cond_true, Nat.zero_add, hm i hi, Option.isSome_some, Option.getD_some]⟩) (fun s _ Q kn kx => by simp [impl_Board_sure_n2_s4])
  have h1 : impl_Board_sure_n2_l4 F ((movesB b).length : Int) b (movesB b) 0 0 = some (sureN 2 b) := by
    have := (best_moves (b := b) (valM (sureN 1) b) (fun d hd hq => (val_rng hb ok (sure_rng 1 (by omega)) hd hq).1) (bestM_eq (sureN 1) b).symm).1
    show _ = some (bestM (sureN 1) b).1
    rw [← this]; exact h.1
  simp only [impl_Board_sure_n2_p, impl_Board_sure_n2_c, impl_moves hb ok F hF, h1, Option.isSome_some, Option.getD_some, cond_true, beq_selfL, Bool.and_self]
theorem impl_sure (F : Nat) (hF : 1000 < F) {n : Int} (hn : inB n 0 2 = true) : impl_Board_sure_p F b n = some (sureN n.toNat b) := by
  simp [inB] at hn
  obtain rfl | rfl | rfl : n = 0 ∨ n = 1 ∨ n = 2 := by omega
  · rfl
  · simp only [impl_Board_sure_p, impl_Board_sure_c, impl_sure_1 hb ok F hF, Option.isSome_some, Option.getD_some, cond_true]; rfl
  · simp only [impl_Board_sure_p, impl_Board_sure_c, impl_sure_2 hb ok F hF, Option.isSome_some, Option.getD_some, cond_true]; rfl
end
end Go.Lv.P
