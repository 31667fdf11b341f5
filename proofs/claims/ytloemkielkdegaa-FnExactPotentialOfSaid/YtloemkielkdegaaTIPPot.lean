/-
The potential of a board.
-/
import Derived.Test.YtloemkielkdegaaTIP7
import Derived.Test.YtloemkielkdegaaTIPBoard
import Derived.Test.YtloemkielkdegaaTIPSlide
import Derived.Test.YtloemkielkdegaaTIPWorth
import Derived.Test.YtloemkielkdegaaTIPTail
namespace Go.Lv.P
open Go Go.Lv
set_option linter.unusedVariables false
set_option linter.unusedSimpArgs false
set_option linter.unusedSectionVars false
theorem subn_00 {α : Type} (l : List α) : subn l.length l 0 0 = [] := by rw [subn_take0, List.take_zero]
theorem concat_ints (s0 s1 s2 s3 : List Int) (h0 : s0.length ≤ 32) (h1 : s1.length ≤ 32) (h2 : s2.length ≤ 32) (h3 : s3.length ≤ 32) : slices_Concat_intint_p s0 s1 s2 s3 = some (s0 ++ s1 ++ s2 ++ s3) := by
  have e0 : IntKind.wrap .i64 ((0 : Int) + (s0.length : Int)) = ((s0.length : Nat) : Int) := by rw [Int.zero_add, wrap_of (by omega) (by omega)]
  have e1 : IntKind.wrap .i64 (((s0.length : Nat) : Int) + (s1.length : Int)) = ((s0.length + s1.length : Nat) : Int) := by rw [wrap_of (by omega) (by omega)]; omega
  have e2 : IntKind.wrap .i64 (((s0.length + s1.length : Nat) : Int) + (s2.length : Int)) = ((s0.length + s1.length + s2.length : Nat) : Int) := by rw [wrap_of (by omega) (by omega)]; omega
  have e3 : IntKind.wrap .i64 (((s0.length + s1.length + s2.length : Nat) : Int) + (s3.length : Int)) = ((s0.length + s1.length + s2.length + s3.length : Nat) : Int) := by rw [wrap_of (by omega) (by omega)]; omega
  have hneg : ∀ n : Nat, decide ((n : Int) < 0) = false := fun n => decide_eq_false (by omega)
  obtain ⟨g, hg⟩ : ∃ g, slices_Grow_intint_p ((s0.length + s1.length + s2.length + s3.length : Nat) : Int) = some g := by
    generalize hn : s0.length + s1.length + s2.length + s3.length = n
    have e : IntKind.wrap .i64 ((n : Int) - 0) = (n : Int) := by rw [Int.sub_zero, wrap_of (by omega) (by omega)]
    simp only [slices_Grow_intint_p, slices_Grow_intint_c, e, hneg, cond_false, Int.toNat_natCast]
    cases hp : decide ((0 : Int) < (n : Int)) with
    | false => exact ⟨_, rfl⟩
    | true =>
      simp at hp
      have hf : fits n 8 = true := fits_of (by omega) (by omega)
      have h1 : decide ((1 : Int) ≤ (n : Int)) = true := decide_eq_true (by omega)
      have h2 : inLe (0 : Int) n = true := inLe_cast 0 n ▸ decide_eq_true (Nat.zero_le _)
      rw [cond_true, h1, hf, h2]; exact ⟨_, rfl⟩
  have f : ∀ n : Nat, n ≤ 128 → fits n 8 = true := fun n h => fits_of (by omega) (by omega)
  simp only [slices_Concat_intint_p, slices_Concat_intint_c, e0, e1, e2, e3, hneg, hg, cond_false, cond_true, Option.isSome_some, Option.getD_some, subn_00, subn_self, List.nil_append]
  rw [f _ (by omega), cond_true, f _ (by rw [List.length_append]; omega), cond_true, f _ (by simp only [List.length_append]; omega), cond_true, f _ (by simp only [List.length_append]; omega), cond_true]

theorem flat_eq {b : List Int} (hb : b.length = 16) : impl_Board_flat_p b = some b := by
  have hs : ∀ o, (sub b o 4).length ≤ 32 := fun o => by unfold sub; exact Nat.le_trans (List.length_take_le _ _) (by omega)
  have hc := concat_ints (sub b 0 4) (sub b 4 4) (sub b 8 4) (sub b 12 4) (hs _) (hs _) (hs _) (hs _)
  have e : sub b 0 4 ++ sub b 4 4 ++ sub b 8 4 ++ sub b 12 4 = b := by
    obtain ⟨x0, x1, x2, x3, x4, x5, x6, x7, x8, x9, xa, xb, xc, xd, xe, xf, rfl⟩ := list16 hb
    rfl
  rw [e] at hc
  simp only [impl_Board_flat_p, impl_Board_flat_c, hc, Option.isSome_some, Option.getD_some, cond_true]
def pst (x s : Int) : Int := bif decide ((0 : Int) < x) then IntKind.wrap .i64 (s + IntKind.wrap .i64 (IntKind.wrap .i64 (x - 1) * W x)) else s
def potB (b : List Int) : Int := fld (fun i s => pst (iget b (0 + i)) s) 0 16 0
theorem fld44 (g : Int → Int → Int) (b : List Int) : fld (fun r s => fld (fun c s => g (iget b (0 + r * 4 + c * 1)) s) 0 4 s) 0 4 0 = fld (fun i s => g (iget b (0 + i)) s) 0 16 0 := rfl
section
variable {b : List Int} (hb : b.length = 16) (ok : okB b = true)
include hb ok
theorem worthI (i : Nat) (hi : i < 16) (h0 : decide ((0 : Int) < iget b i) = true) : impl_worth_p (iget b i) = some (W (iget b i)) ∧ spec_l2Worth_p (iget b i) = some (W (iget b i)) := by
  have ht := iget_ok ((okB_iff b).1 ok) (by omega : i < b.length)
  simp at h0
  exact ⟨worth_eq ht, l2Worth_eq ht h0⟩
theorem impl_pot (F : Nat) (hF : 1000 < F) : impl_Board_potential_p F b = some (potB b) := by
  have h := loop_fold (step := impl_Board_potential_s3 F ((16 : Nat) : Int) b) (fun i (s : Int) => (s, i)) 16 (fun i s => pst (iget b (0 + i)) s) (fun s => s) (fun _ _ => True) (F := F) (by omega) (by omega) (a := 0) trivial
    (fun i s hi _ => ⟨trivial, fun Q kn kx => by
      have hi' : i < b.length := by omega
      have hin : inR (i : Int) b.length = true := by rw [inR_cast]; exact decide_eq_true hi'
      simp only [impl_Board_potential_s3, Int.ofNat_lt, hi, decide_true, hin, cond_true, Int.toNat_natCast, pst]
      cases h0 : decide ((0 : Int) < iget b (0 + i)) with
      | false => rfl
      | true =>
        rw [Nat.zero_add] at h0 ⊢
        rw [(worthI hb ok i hi h0).1]; rfl⟩) (fun s _ Q kn kx => by simp [impl_Board_potential_s3])
  have h1 : impl_Board_potential_l3 F ((16 : Nat) : Int) b 0 0 = some (potB b) := h.1
  simp only [impl_Board_potential_p, impl_Board_potential_c, flat_eq hb, hb, h1, Option.isSome_some, Option.getD_some, cond_true, beq_selfL, Bool.and_self]
theorem spec_pot (F : Nat) (hF : 1000 < F) : spec_l7Potential_p F b = some (potB b) := by
  have hin : ∀ (r : Nat) (s : Int), r < 4 → spec_l7Potential_l6 F r b s 0 = some (fld (fun c s => pst (iget b (0 + r * 4 + c * 1)) s) 0 4 s) := fun r s hr =>
    (loop_fold (step := spec_l7Potential_s6 F r b) (fun i (s : Int) => (s, i)) 4 (fun c s => pst (iget b (0 + r * 4 + c * 1)) s) (fun s => s) (fun _ _ => True) (F := F) (by omega) (by omega) (a := s) trivial
    (fun i s hi _ => ⟨trivial, fun Q kn kx => by
      have hi' : (i : Int) < 4 := by omega
      simp only [spec_l7Potential_s6, hi', inR_cast, hr, hi, decide_true, cond_true, Int.toNat_natCast, pst]
      cases h0 : decide ((0 : Int) < iget b (0 + r * 4 + i * 1)) with
      | false => rfl
      | true =>
        rw [(worthI hb ok (0 + r * 4 + i * 1) (by omega) h0).2]; rfl⟩) (fun s _ Q kn kx => by simp [spec_l7Potential_s6])).1
  have h := loop_fold (step := spec_l7Potential_s3 F b) (fun i (s : Int) => (s, i)) 4 (fun r s => fld (fun c s => pst (iget b (0 + r * 4 + c * 1)) s) 0 4 s) (fun s => s) (fun _ _ => True) (F := F) (by omega) (by omega) (a := 0) trivial
    (fun i s hi _ => ⟨trivial, fun Q kn kx => by
      have hi' : (i : Int) < 4 := by omega
      simp only [spec_l7Potential_s3, hi', decide_true, cond_true, hin i s hi, Option.isSome_some, Option.getD_some]⟩) (fun s _ Q kn kx => by simp [spec_l7Potential_s3])
  have h1 : spec_l7Potential_l3 F b 0 0 = some (potB b) := by
    have hh := h.1
    rw [fld44] at hh
    exact hh
  simp only [spec_l7Potential_p, spec_l7Potential_c, h1, Option.isSome_some, Option.getD_some, cond_true]
end
end Go.Lv.P
