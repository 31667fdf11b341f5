/-
Boards in order: the program's comparison.
-/
import Derived.Test.YtgmnclpjbhmioaaGreatTZP5
import Derived.Test.YtgmnclpjbhmioaaGreatTZPCmpL
import Derived.Test.YtgmnclpjbhmioaaGreatTZPFlat
namespace Go.Lv.P
open Go Go.Lv
set_option linter.unusedVariables false
set_option linter.unusedSimpArgs false
theorem impl_Board_order_cmp (F : Nat) (hF : 1000 < F) {a b : List Int} (ha : a.length = 16) (hb : b.length = 16) : impl_Board_order_p F a b = some (cmpL a b) := by
  simp only [impl_Board_order_p, impl_Board_order_c, flat_eq ha, flat_eq hb, Option.isSome_some, Option.getD_some, cond_true, subn_self, compare_eq F hF (show a.length = b.length by omega) (by omega)]
end Go.Lv.P
