/-
Steps by the reference.
-/
import Derived.Test.YtkclnchkemacgaaTJP3
import Derived.Test.YtkclnchkemacgaaTJPStepsB
import Derived.Test.YtkclnchkemacgaaTJPEmptyS
namespace Go.Lv.P
open Go Go.Lv
set_option linter.unusedVariables false
set_option linter.unusedSimpArgs false

section
variable {b : List Int} (hb : b.length = 16) (ok : okB b = true)
include hb ok
theorem spec_steps (F : Nat) (hF : 1000 < F) {d : Nat} (hd : d < 4) : spec_l5Steps_p F b d = some (stepsB b d) := by
  have hl := em_len (slideB b d).1
  have h : spec_l5Steps_l7 F d (em (slideB b d).1) 0 [] = some (stepsOn (slideB b d).1 d) := by
    refine (loop_fold (step := spec_l5Steps_s7 F d (em (slideB b d).1)) (fun i a => (i, a)) (em (slideB b d).1).length _ (fun a => a) (fun i a => a.length ≤ 2 * i) (F := F) (by omega) (by omega) (a := []) (by simp) (fun i a hi hI => ⟨?_, fun Q kn kx => ?_⟩) (fun a _ Q kn kx => by simp [spec_l5Steps_s7])).1
    · simp; omega
    · have hf : ∀ x y : List Int, fits (a ++ [x, y]).length 32 = true := fun x y => fits_of (by simp; omega) (by simp; omega)
      simp only [spec_l5Steps_s7, Int.ofNat_lt, inR_cast, hi, Int.toNat_natCast, decide_true, cond_true, subn_self, hf, Nat.zero_add, step1, step2]
  simp only [spec_l5Steps_p, spec_l5Steps_c, spec_slide hb ok F hF hd, spec_empty_eq F _ hF, h, Option.isSome_some, Option.getD_some, cond_true, beq_selfL, Bool.and_self, stepsB]
  generalize (slideB b d).1 = n
  cases n == b
  · simp only [cond_false]
  · simp only [cond_true]

end
end Go.Lv.P
