/-
Pure functions and what the code of them does, by program; without conditions.
-/
import Derived.Test.YtabfliifleonaakGreatProg
import Derived.Ground.NamesProg
import Derived.Ground.SlsfProg
import Derived.Shelf.Lay
import Derived.Shelf.SlSortCmp.NoneTotal
namespace Go.Proofs
set_option linter.unusedVariables false
open Go.Shelf
shelf_lay_g SlLaysF0.n6 Slsf 6 at Tryz 65 as Tryz.sort65
open Go.Shelf
shelf_lay_g SlLaysF0.n6 Slsf 6 at Tryz 87 as Tryz.sort87
end Go.Proofs
