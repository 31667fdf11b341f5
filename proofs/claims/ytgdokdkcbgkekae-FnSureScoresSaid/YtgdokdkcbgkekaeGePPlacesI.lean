/-
The placements by the program.
-/
import Derived.Test.YtgdokdkcbgkekaeGeP2
import Derived.Test.YtgdokdkcbgkekaeGePEmptyI
namespace Go.Lv.P
open Go Go.Lv
set_option linter.unusedVariables false
set_option linter.unusedSimpArgs false

theorem impl_places_eq (F : Nat) (b : List Int) (hF : 1000 < F) : impl_Board_placements_p F b = some (plm b) := by
  have hl := em_len b
  obtain ⟨r, h1, h2⟩ := impl_empty_eq F b hF
  have hr : r.1 = (em b).length := by rw [h2.1, em_not]
  have hg : ∀ i, i < (em b).length → rget r.2 (0 + i) = rget (em b) i := fun i hi => by
    rw [h2.get (hr ▸ hi), em_not]
  have h : impl_Board_placements_l3 F r.1 r.1 r.2 0 [] = some (plm b) := by
    rw [hr]
    refine (loop_fold (step := impl_Board_placements_s3 F (em b).length (em b).length r.2) (fun i a => (i, a)) (em b).length _ (fun a => a) (fun i a => a.length ≤ 2 * i) (F := F) (by omega) (by omega) (a := []) (by simp) (fun i a hi hI => ⟨?_, fun Q kn kx => ?_⟩) (fun a _ Q kn kx => by simp [impl_Board_placements_s3])).1
    · simp; omega
    · have hf : ∀ x y : List Int, fits (a ++ [x, y]).length 24 = true := fun x y => fits_of (by simp; omega) (by simp; omega)
      simp only [impl_Board_placements_s3, Int.ofNat_lt, inR_cast, hi, Int.toNat_natCast, decide_true, cond_true, subn_self, hf, hg i hi]
  simp only [impl_Board_placements_p, impl_Board_placements_c, h1, h, Option.isSome_some, Option.getD_some, cond_true]
end Go.Lv.P
