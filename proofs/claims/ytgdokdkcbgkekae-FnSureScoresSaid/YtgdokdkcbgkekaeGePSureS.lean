/-
Sure scores, by the reference.
-/
import Derived.Test.YtgdokdkcbgkekaeGeP4
import Derived.Test.YtgdokdkcbgkekaeGePPutS
import Derived.Test.YtgdokdkcbgkekaeGePPlacesS
import Derived.Test.YtgdokdkcbgkekaeGePSureB
namespace Go.Lv.P
open Go Go.Lv
set_option linter.unusedVariables false
set_option linter.unusedSimpArgs false
set_option linter.unusedSectionVars false

section
variable {b : List Int} (hb : b.length = 16) (ok : okB b = true)
include hb ok
theorem spec_least_0 (F : Nat) (hF : 1000 < F) (hp : 0 < (plm b).length) : spec_l8Least_n0_p F b = some (rget (plm b) 0) := by
  have hl := plm_len40 b
  have h := loop_fold (step := spec_l8Least_n0_s4 F b (plm b)) (fun i (s : List Int) => (i, s)) (plm b).length (fun i s => bif ((i : Int) == 0) then rget (plm b) i else s) (fun s => s) (fun i s => s = rget (plm b) 0) (F := F) (by omega) (by omega) (a := rget (plm b) 0) rfl
    (fun i s hi hI => ⟨by
        cases hc : ((i : Int) == 0) with
        | false => exact hI
        | true => have : i = 0 := by simpa using hc
                  subst this; rfl, fun Q kn kx => by
      obtain ⟨⟨p0, p1⟩, q3, q4⟩ := put_all hb ok (rget_mem hi)
      simp only [spec_l8Least_n0_s4, Int.ofNat_lt, hi, inR_cast, Int.toNat_natCast, decide_true, cond_true, Nat.zero_add, spec_put p0 p1, Option.isSome_some]
      cases ((i : Int) == 0) <;> rfl⟩) (fun s _ Q kn kx => by simp [spec_l8Least_n0_s4])
  have h0 : inR (0 : Int) (plm b).length = true := inR_true (by omega) (by omega)
  have h1 : spec_l8Least_n0_l4 F b (plm b) 0 (rget (plm b) 0) = some (rget (plm b) 0) := h.1.trans (congrArg some h.2)
  simp only [spec_l8Least_n0_p, spec_l8Least_n0_c, spec_places_eq F b hF, h1, h0, Option.isSome_some, Option.getD_some, cond_true, beq_selfL, Bool.and_self]
theorem spec_sure_1 (F : Nat) (hF : 1000 < F) : spec_l8Sure_n1_p F b = some (bestM (sureN 0) b) := by
  have hv : ∀ d, d < 4 → ((slideB b d).1 == b) = false → spec_l8Least_n0_p F (slideB b d).1 = some (rget (plm (slideB b d).1) 0) ∧ IntKind.wrap .i64 ((slideB b d).2 + 0) = valM (sureN 0) b d := fun d hd hq => by
    obtain ⟨l, o⟩ := slide_ok hb ok hd
    have hp := plm_pos hb ok hd hq
    have hr := val_rng hb ok (sure_rng 0 (by omega)) hd hq
    refine ⟨spec_least_0 l o F hF hp, ?_⟩
    have e : valM (sureN 0) b d = (slideB b d).2 + 0 := by
      show (slideB b d).2 + (leastM (fun _ => 0) (slideB b d).1).1 = _
      rw [least_zero]
    rw [e] at hr ⊢
    exact wrap_of (by omega) (by omega)
  have h := loop_fold (step := spec_l8Sure_n1_s3 F b) (fun i (s : Int × Int) => (s.1, s.2, i)) 4 (bstep (sureN 0) b) (fun s => s) (fun _ _ => True) (F := F) (by omega) (by omega) (a := (0, -1)) trivial
    (fun d s hd _ => ⟨trivial, fun Q kn kx => by
      have hd' : (d : Int) < 4 := by omega
      simp only [spec_l8Sure_n1_s3, hd', decide_true, cond_true, spec_slide hb ok F hF hd, Option.isSome_some, Option.getD_some, bstep]
      cases hq : (slideB b d).1 == b with
      | true => rfl
      | false =>
        obtain ⟨v1, v2⟩ := hv d hd hq
        simp only [cond_false, v1, Option.isSome_some, Option.getD_some, cond_true, v2]
        cases decide (s.2 < 0)
        · cases decide (s.1 < valM (sureN 0) b d) <;> rfl
        · rfl⟩) (fun s _ Q kn kx => by simp [spec_l8Sure_n1_s3])
  have h1 : spec_l8Sure_n1_l3 F b 0 (-1) 0 = some (bestM (sureN 0) b) := h.1
  simp only [spec_l8Sure_n1_p, spec_l8Sure_n1_c, h1, Option.isSome_some, Option.getD_some, cond_true]
theorem spec_least_1 (F : Nat) (hF : 1000 < F) (hp : 0 < (plm b).length) : spec_l8Least_n1_p F b = some ((leastM (sureN 1) b).2, (leastM (sureN 1) b).1) := by
  have hl := plm_len40 b
  have h := loop_fold (step := spec_l8Least_n1_s4 F b (plm b)) (fun i (s : Int × List Int) => (s.1, i, s.2)) (plm b).length (fun i s => bif ((i : Int) == 0) then (sureN 1 (putP b (rget (plm b) i)), rget (plm b) i) else lstep (sureN 1) b i s) (fun s => s) (fun _ _ => True) (F := F) (by omega) (by omega) (a := (0, rget (plm b) 0)) trivial
    (fun i s hi _ => ⟨trivial, fun Q kn kx => by
      obtain ⟨⟨p0, p1⟩, q3, q4⟩ := put_all hb ok (rget_mem hi)
      simp only [spec_l8Least_n1_s4, Int.ofNat_lt, hi, inR_cast, Int.toNat_natCast, decide_true, cond_true, Nat.zero_add, spec_put p0 p1, spec_sure_1 q3 q4 F hF, Option.isSome_some, Option.getD_some, lstep, show sureN 1 (putP b (rget (plm b) i)) = (bestM (sureN 0) (putP b (rget (plm b) i))).1 from rfl]
      generalize (bestM (sureN 0) (putP b (rget (plm b) i))).1 = v
      cases ((i : Int) == 0)
      · simp only [cond_false]
        cases decide (v < s.1)
        · simp only [cond_false]
        · simp only [cond_true]
      · simp only [cond_true]⟩) (fun s _ Q kn kx => by simp [spec_l8Least_n1_s4])
  have h0 : inR (0 : Int) (plm b).length = true := inR_true (by omega) (by omega)
  have h1 : spec_l8Least_n1_l4 F b (plm b) 0 0 (rget (plm b) 0) = some (leastM (sureN 1) b) := by rw [← least_spec hb ok (sure_rng 1 (by omega)) hp]; exact h.1
  simp only [spec_l8Least_n1_p, spec_l8Least_n1_c, spec_places_eq F b hF, h1, h0, Option.isSome_some, Option.getD_some, cond_true, beq_selfL, Bool.and_self]
theorem spec_sure_2 (F : Nat) (hF : 1000 < F) : spec_l8Sure_n2_p F b = some (bestM (sureN 1) b) := by
  have hv : ∀ d, d < 4 → ((slideB b d).1 == b) = false → spec_l8Least_n1_p F (slideB b d).1 = some ((leastM (sureN 1) (slideB b d).1).2, (leastM (sureN 1) (slideB b d).1).1) ∧ IntKind.wrap .i64 ((slideB b d).2 + (leastM (sureN 1) (slideB b d).1).1) = valM (sureN 1) b d := fun d hd hq => by
    obtain ⟨l, o⟩ := slide_ok hb ok hd
    have hp := plm_pos hb ok hd hq
    have hr := val_rng hb ok (sure_rng 1 (by omega)) hd hq
    exact ⟨spec_least_1 l o F hF hp, wrap_of (by rw [valM] at hr; omega) (by rw [valM] at hr; omega)⟩
  have h := loop_fold (step := spec_l8Sure_n2_s3 F b) (fun i (s : Int × Int) => (s.1, s.2, i)) 4 (bstep (sureN 1) b) (fun s => s) (fun _ _ => True) (F := F) (by omega) (by omega) (a := (0, -1)) trivial
    (fun d s hd _ => ⟨trivial, fun Q kn kx => by
      have hd' : (d : Int) < 4 := by omega
      simp only [spec_l8Sure_n2_s3, hd', decide_true, cond_true, spec_slide hb ok F hF hd, Option.isSome_some, Option.getD_some, bstep]
      cases hq : (slideB b d).1 == b with
      | true => rfl
      | false =>
        obtain ⟨v1, v2⟩ := hv d hd hq
        simp only [cond_false, v1, Option.isSome_some, Option.getD_some, cond_true, v2]
        cases decide (s.2 < 0)
        · cases decide (s.1 < valM (sureN 1) b d) <;> rfl
        · rfl⟩) (fun s _ Q kn kx => by simp [spec_l8Sure_n2_s3])
  have h1 : spec_l8Sure_n2_l3 F b 0 (-1) 0 = some (bestM (sureN 1) b) := h.1
  simp only [spec_l8Sure_n2_p, spec_l8Sure_n2_c, h1, Option.isSome_some, Option.getD_some, cond_true]
theorem spec_sure (F : Nat) (hF : 1000 < F) {n : Int} (hn : inB n 0 2 = true) : spec_l8Sure_p F b n = some (sureN n.toNat b, bif n == 0 then -1 else (bestM (sureN (n - 1).toNat) b).2) := by
  simp [inB] at hn
  obtain rfl | rfl | rfl : n = 0 ∨ n = 1 ∨ n = 2 := by omega
  · rfl
  · simp only [spec_l8Sure_p, spec_l8Sure_c, spec_sure_1 hb ok F hF, Option.isSome_some, Option.getD_some, cond_true]; rfl
  · simp only [spec_l8Sure_p, spec_l8Sure_c, spec_sure_2 hb ok F hF, Option.isSome_some, Option.getD_some, cond_true]; rfl
end
end Go.Lv.P
