/-
What the laws' own words say of boards that came in.
-/
import Derived.Test.YtgpadaadcepgaaaTHPToBoard
import Derived.Test.YtgpadaadcepgaaaTHPBoard
import Derived.Test.YtgpadaadcepgaaaTHPEqB
namespace Go.Lv.P
open Go Go.Lv
set_option linter.unusedVariables false
set_option linter.unusedSimpArgs false


end Go.Lv.P
