/-
The moves of a board, by the program.
-/
import Derived.Test.YtgdokdkcbgkekaeGeP2
import Derived.Test.YtgdokdkcbgkekaeGePSlide
import Derived.Test.YtgdokdkcbgkekaeGePMovesB
namespace Go.Lv.P
open Go Go.Lv
set_option linter.unusedVariables false
set_option linter.unusedSimpArgs false
section
variable {b : List Int} (hb : b.length = 16) (ok : okB b = true)
include hb ok

theorem impl_moves (F : Nat) (hF : 1000 < F) : impl_Board_moves_p F b = some (movesB b) := by
  have h := loop_fold (step := impl_Board_moves_s3 F b) (fun d a => (d, a)) 4 (fun d out => bif (!((slideB b d).1 == b)) then out ++ [(d : Int)] else out) (fun a => a) (fun d a => a.length ≤ d) (F := F) (by omega) (by omega) (a := []) (Nat.le_refl 0)
    (fun d out hd h => ⟨moves_step h, fun Q kn kx => by
      have hd' : (d : Int) < 4 := by omega
      have hf : fits (out ++ [(d : Int)]).length 8 = true := fits_of (by simp; omega) (by simp; omega)
      obtain ⟨m, hm⟩ := impl_slide hb ok F hF hd
      simp only [impl_Board_moves_s3, hd', decide_true, cond_true, hm, Option.isSome_some, Option.getD_some, subn_self, hf]
      cases (!((slideB b d).1 == b)) <;> rfl⟩) (fun a _ Q kn kx => by simp [impl_Board_moves_s3])
  simp only [impl_Board_moves_p, impl_Board_moves_c, impl_Board_moves_l3, h.1, Option.isSome_some, Option.getD_some, cond_true]
  rfl
end
end Go.Lv.P
