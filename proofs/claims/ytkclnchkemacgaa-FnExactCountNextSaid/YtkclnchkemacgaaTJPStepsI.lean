/-
Steps by the program.
-/
import Derived.Test.YtkclnchkemacgaaTJP4
import Derived.Test.YtkclnchkemacgaaTJPStepsB
import Derived.Test.YtkclnchkemacgaaTJPSlides1
import Derived.Test.YtkclnchkemacgaaTJPEmptyI
namespace Go.Lv.P
open Go Go.Lv
set_option linter.unusedVariables false
set_option linter.unusedSimpArgs false

section
variable {b : List Int} (hb : b.length = 16) (ok : okB b = true)
include hb ok
theorem impl_steps (F : Nat) (hF : 1000 < F) {d : Nat} (hd : d < 4) : impl_Board_steps_p F b d = some (stepsB b d) := by
  have hl := em_len (slideB b d).1
  obtain ⟨r, h1, h2⟩ := impl_empty_eq F (slideB b d).1 hF
  have hr : r.1 = (em (slideB b d).1).length := by rw [h2.1, em_not]
  have hg : ∀ i, i < (em (slideB b d).1).length → rget r.2 (0 + i) = rget (em (slideB b d).1) i := fun i hi => by
    rw [h2.get (hr ▸ hi), em_not]
  have h : impl_Board_steps_l5 F d r.1 r.1 r.2 0 [] = some (stepsOn (slideB b d).1 d) := by
    rw [hr]
    refine (loop_fold (step := impl_Board_steps_s5 F d (em (slideB b d).1).length (em (slideB b d).1).length r.2) (fun i a => (i, a)) (em (slideB b d).1).length _ (fun a => a) (fun i a => a.length ≤ 2 * i) (F := F) (by omega) (by omega) (a := []) (by simp) (fun i a hi hI => ⟨?_, fun Q kn kx => ?_⟩) (fun a _ Q kn kx => by simp [impl_Board_steps_s5])).1
    · simp; omega
    · have hf : ∀ x y : List Int, fits (a ++ [x, y]).length 32 = true := fun x y => fits_of (by simp; omega) (by simp; omega)
      simp only [impl_Board_steps_s5, Int.ofNat_lt, inR_cast, hi, Int.toNat_natCast, decide_true, cond_true, subn_self, hf, hg i hi, step1, step2]
  simp only [impl_Board_steps_p, impl_Board_steps_c, impl_slides1 hb ok F hF hd, h1, h, Option.isSome_some, Option.getD_some, cond_true, stepsB]
  generalize (slideB b d).1 = n
  cases n == b
  · simp only [cond_false]
  · simp only [cond_true]
end
end Go.Lv.P
