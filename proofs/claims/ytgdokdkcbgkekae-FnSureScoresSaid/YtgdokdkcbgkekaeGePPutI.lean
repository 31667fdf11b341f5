/-
Placements made by the program.
-/
import Derived.Test.YtgdokdkcbgkekaeGeP2
import Derived.Test.YtgdokdkcbgkekaeGePPut
namespace Go.Lv.P
open Go Go.Lv
set_option linter.unusedVariables false
set_option linter.unusedSimpArgs false

theorem impl_put {b p : List Int} (h0 : inR (iget p 0) 4 = true) (h1 : inR (iget p 1) 4 = true) : impl_Board_placed_p b p = some (putP b p) := by
  simp only [impl_Board_placed_p, impl_Board_placed_c, h0, h1, cond_true, putP]
end Go.Lv.P
