/-
The moves of a board, by the reference.
-/
import Derived.Test.YtloemkielkdegaaTIP0
import Derived.Test.YtloemkielkdegaaTIPSlide
import Derived.Test.YtloemkielkdegaaTIPMovesB
namespace Go.Lv.P
open Go Go.Lv
set_option linter.unusedVariables false
set_option linter.unusedSimpArgs false
section
variable {b : List Int} (hb : b.length = 16) (ok : okB b = true)
include hb ok

theorem spec_moves (F : Nat) (hF : 1000 < F) : spec_l2Moves_p F b = some (movesB b) ∧ (movesB b).length ≤ 4 := by
  have h := loop_fold (step := spec_l2Moves_s3 F b) (fun d a => (d, a)) 4 (fun d out => bif (!((slideB b d).1 == b)) then out ++ [(d : Int)] else out) (fun a => a) (fun d a => a.length ≤ d) (F := F) (by omega) (by omega) (a := []) (Nat.le_refl 0)
    (fun d out hd h => ⟨moves_step h, fun Q kn kx => by
      have hd' : (d : Int) < 4 := by omega
      have hf : fits (out ++ [(d : Int)]).length 8 = true := fits_of (by simp; omega) (by simp; omega)
      simp only [spec_l2Moves_s3, hd', decide_true, cond_true, spec_slide hb ok F hF hd, Option.isSome_some, Option.getD_some, subn_self, hf]
      cases (!((slideB b d).1 == b)) <;> rfl⟩) (fun a _ Q kn kx => by simp [spec_l2Moves_s3])
  refine ⟨?_, h.2⟩
  simp only [spec_l2Moves_p, spec_l2Moves_c, spec_l2Moves_l3, h.1, Option.isSome_some, Option.getD_some, cond_true]
  rfl

end
end Go.Lv.P
