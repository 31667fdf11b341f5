/-
The numbers of a board, in order.
-/
import Derived.Test.YtabfliifleonaaiQiP2
import Derived.Test.YtabfliifleonaaiLv3
import Derived.Test.YtabfliifleonaaiQiPTail
namespace Go.Lv.P
open Go Go.Lv
set_option linter.unusedVariables false
set_option linter.unusedSimpArgs false
set_option linter.unusedSectionVars false
theorem concat_ints (s0 s1 s2 s3 : List Int) (h0 : s0.length ≤ 32) (h1 : s1.length ≤ 32) (h2 : s2.length ≤ 32) (h3 : s3.length ≤ 32) : slices_Concat_intint_p s0 s1 s2 s3 = some (s0 ++ s1 ++ s2 ++ s3) := by
  have e0 : IntKind.wrap .i64 ((0 : Int) + (s0.length : Int)) = ((s0.length : Nat) : Int) := by rw [Int.zero_add, wrap_of (by omega) (by omega)]
  have e1 : IntKind.wrap .i64 (((s0.length : Nat) : Int) + (s1.length : Int)) = ((s0.length + s1.length : Nat) : Int) := by rw [wrap_of (by omega) (by omega)]; omega
  have e2 : IntKind.wrap .i64 (((s0.length + s1.length : Nat) : Int) + (s2.length : Int)) = ((s0.length + s1.length + s2.length : Nat) : Int) := by rw [wrap_of (by omega) (by omega)]; omega
  have e3 : IntKind.wrap .i64 (((s0.length + s1.length + s2.length : Nat) : Int) + (s3.length : Int)) = ((s0.length + s1.length + s2.length + s3.length : Nat) : Int) := by rw [wrap_of (by omega) (by omega)]; omega
  have hneg : ∀ n : Nat, decide ((n : Int) < 0) = false := fun n => decide_eq_false (by omega)
  obtain ⟨g, hg⟩ : ∃ g, slices_Grow_intint_p ((s0.length + s1.length + s2.length + s3.length : Nat) : Int) = some g := by
    generalize hn : s0.length + s1.length + s2.length + s3.length = n
    have e : IntKind.wrap .i64 ((n : Int) - 0) = (n : Int) := by rw [Int.sub_zero, wrap_of (by omega) (by omega)]
    simp only [slices_Grow_intint_p, slices_Grow_intint_c, e, hneg, cond_false, Int.toNat_natCast]
    cases hp : decide ((0 : Int) < (n : Int)) with
    | false => exact ⟨_, rfl⟩
    | true =>
      simp at hp
      have hf : fits n 8 = true := fits_of (by omega) (by omega)
      have h1 : decide ((1 : Int) ≤ (n : Int)) = true := decide_eq_true (by omega)
      have h2 : inLe (0 : Int) n = true := inLe_cast 0 n ▸ decide_eq_true (Nat.zero_le _)
      rw [cond_true, h1, hf, h2]; exact ⟨_, rfl⟩
  have f : ∀ n : Nat, n ≤ 128 → fits n 8 = true := fun n h => fits_of (by omega) (by omega)
  simp only [slices_Concat_intint_p, slices_Concat_intint_c, e0, e1, e2, e3, hneg, hg, cond_false, cond_true, Option.isSome_some, Option.getD_some, subn_00, subn_self, List.nil_append]
  rw [f _ (by omega), cond_true, f _ (by rw [List.length_append]; omega), cond_true, f _ (by simp only [List.length_append]; omega), cond_true, f _ (by simp only [List.length_append]; omega), cond_true]

theorem flat_eq {b : List Int} (hb : b.length = 16) : impl_Board_flat_p b = some b := by
  have hs : ∀ o, (sub b o 4).length ≤ 32 := fun o => by unfold sub; exact Nat.le_trans (List.length_take_le _ _) (by omega)
  have hc := concat_ints (sub b 0 4) (sub b 4 4) (sub b 8 4) (sub b 12 4) (hs _) (hs _) (hs _) (hs _)
  have e : sub b 0 4 ++ sub b 4 4 ++ sub b 8 4 ++ sub b 12 4 = b := by
    obtain ⟨x0, x1, x2, x3, x4, x5, x6, x7, x8, x9, xa, xb, xc, xd, xe, xf, rfl⟩ := list16 hb
    rfl
  rw [e] at hc
  simp only [impl_Board_flat_p, impl_Board_flat_c, hc, Option.isSome_some, Option.getD_some, cond_true]
end Go.Lv.P
