/-
The steps of a board, told plainly.
-/
import Derived.Test.YtgpadaadcepgaaaTHPStepsS
import Derived.Test.YtgpadaadcepgaaaTHPStepsI
import Derived.Test.YtgpadaadcepgaaaTHPSlides1
namespace Go.Lv.P
end Go.Lv.P
