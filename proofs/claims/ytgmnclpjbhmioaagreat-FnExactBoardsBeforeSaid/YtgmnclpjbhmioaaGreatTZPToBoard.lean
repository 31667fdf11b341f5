/-
Boards that came in, as the laws' words turn them.
-/
import Derived.Test.YtgmnclpjbhmioaaGreatTZP0
import Derived.Test.YtgmnclpjbhmioaaGreatLv3
namespace Go.Lv.P
open Go Go.Lv
set_option linter.unusedVariables false
set_option linter.unusedSimpArgs false

theorem toIntA4_eq {a : List Int} (h : a.length = 4) : laws_toIntA4_v a = a := by
  obtain ⟨a, b, c, d, rfl⟩ := list4 h; rfl
theorem toBoard_eq {a : List Int} (h : a.length = 16) : laws_toBoard_v a = a := by
  obtain ⟨x0, x1, x2, x3, x4, x5, x6, x7, x8, x9, x10, x11, x12, x13, x14, x15, rfl⟩ := list16 h; rfl
end Go.Lv.P
