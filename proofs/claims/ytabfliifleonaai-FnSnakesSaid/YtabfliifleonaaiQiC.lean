/-
Pure functions and what the code of them does, by program; without conditions.
-/
import Derived.Test.YtabfliifleonaaiProg
import Derived.Ground.SlgmProg
import Derived.Shelf.Lay
import Derived.Shelf.SortM.Plain
import Derived.Shelf.SortM.SortNone
namespace Go.Proofs
set_option linter.unusedVariables false
open Go.Shelf
shelf_lay_g SlLaysM.n5 Slgm 5 at Try 33 as Try.sort33
end Go.Proofs
