/-
The placements by the reference.
-/
import Derived.Test.YtgdokdkcbgkekaeGeP4
import Derived.Test.YtgdokdkcbgkekaeGePEmptyS
namespace Go.Lv.P
open Go Go.Lv
set_option linter.unusedVariables false
set_option linter.unusedSimpArgs false

theorem spec_places_eq (F : Nat) (b : List Int) (hF : 1000 < F) : spec_l8Places_p F b = some (plm b) := by
  have hl := em_len b
  have h : spec_l8Places_l3 F (em b) 0 [] = some (plm b) := by
    refine (loop_fold (step := spec_l8Places_s3 F (em b)) (fun i a => (i, a)) (em b).length _ (fun a => a) (fun i a => a.length ≤ 2 * i) (F := F) (by omega) (by omega) (a := []) (by simp) (fun i a hi hI => ⟨?_, fun Q kn kx => ?_⟩) (fun a _ Q kn kx => by simp [spec_l8Places_s3])).1
    · simp; omega
    · have hf : ∀ x y : List Int, fits (a ++ [x, y]).length 24 = true := fun x y => fits_of (by simp; omega) (by simp; omega)
      simp only [spec_l8Places_s3, Int.ofNat_lt, inR_cast, hi, Int.toNat_natCast, decide_true, cond_true, subn_self, hf, Nat.zero_add]
  simp only [spec_l8Places_p, spec_l8Places_c, spec_empty_eq F b hF, h, Option.isSome_some, Option.getD_some, cond_true, beq_selfL, Bool.and_self]
end Go.Lv.P
