/-
Rows in order: the program's comparison.
-/
import Derived.Test.YtgmnclpjbhmioaaGreatTZP3
import Derived.Test.YtgmnclpjbhmioaaGreatTZPCmpL
namespace Go.Lv.P
open Go Go.Lv
set_option linter.unusedVariables false
set_option linter.unusedSimpArgs false
theorem impl_rowsBefore_f1_cmp (F : Nat) (hF : 1000 < F) {a b : List Int} (ha : a.length = 4) (hb : b.length = 4) : impl_rowsBefore_f1_p F a b = some (cmpL a b) := by
  have ea : sub a 0 4 = a := by obtain ⟨_, _, _, _, rfl⟩ := list4 ha; rfl
  have eb : sub b 0 4 = b := by obtain ⟨_, _, _, _, rfl⟩ := list4 hb; rfl
  simp only [impl_rowsBefore_f1_p, impl_rowsBefore_f1_c, ea, eb, compare_eq F hF (show a.length = b.length by omega) (by omega), Option.isSome_some, Option.getD_some, cond_true]
end Go.Lv.P
