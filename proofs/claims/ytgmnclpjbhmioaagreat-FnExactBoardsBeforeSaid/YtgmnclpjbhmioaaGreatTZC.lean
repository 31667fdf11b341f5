/-
Pure functions and what the code of them does, by program; without conditions.
-/
import Derived.Test.YtgmnclpjbhmioaaGreatProg
import Derived.Ground.NamesProg
import Derived.Ground.SlsfProg
import Derived.Shelf.Lay
import Derived.Shelf.SlSortCmp.NoneTotal
namespace Go.Proofs
set_option linter.unusedVariables false
open Go.Shelf
shelf_lay_g SlLaysF0.n6 Slsf 6 at Tryz 45 as Tryz.sort45
open Go.Shelf
shelf_lay_g SlLaysF0.n6 Slsf 6 at Tryz 62 as Tryz.sort62
end Go.Proofs
