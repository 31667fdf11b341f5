/-
The steps of a board, told plainly.
-/
import Derived.Test.YtkclnchkemacgaaTJPStepsS
import Derived.Test.YtkclnchkemacgaaTJPStepsI
import Derived.Test.YtkclnchkemacgaaTJPSlides1
namespace Go.Lv.P
end Go.Lv.P
