/-
Placements made by the reference.
-/
import Derived.Test.YtgdokdkcbgkekaeGeP3
import Derived.Test.YtgdokdkcbgkekaeGeP4
import Derived.Test.YtgdokdkcbgkekaeGePPut
namespace Go.Lv.P
open Go Go.Lv
set_option linter.unusedVariables false
set_option linter.unusedSimpArgs false

theorem spec_put {b p : List Int} (h0 : inR (iget p 0) 4 = true) (h1 : inR (iget p 1) 4 = true) : spec_l8Put_p b p = some (putP b p) := by
  have e0 : iget [iget p 0, iget p 1] 0 = iget p 0 := rfl
  have e1 : iget [iget p 0, iget p 1] 1 = iget p 1 := rfl
  simp only [spec_l8Put_p, spec_l8Put_c, spec_l2Put_p, spec_l2Put_c, e0, e1, h0, h1, cond_true, Option.isSome_some, Option.getD_some, putP]
end Go.Lv.P
