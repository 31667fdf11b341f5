/-
Is a board made by a slide.
-/
import Derived.Test.YtgmnclpjbhmioaaTKP4
import Derived.Test.YtgmnclpjbhmioaaTKPSides
namespace Go.Lv.P
open Go Go.Lv
set_option linter.unusedVariables false
set_option linter.unusedSimpArgs false
theorem impl_made {b : List Int} (hb : b.length = 16) (F : Nat) (hF : 1000 < F) : impl_IsMade_p F b = some (bif okB b then (decide ((0 : Int) < (((sidesB b).length : Nat) : Int)), true) else (false, false)) := by
  simp only [impl_IsMade_p, impl_IsMade_c, impl_SidesInto_eq hb F hF, Option.isSome_some, Option.getD_some, cond_true]
  generalize sidesB b = s
  cases okB b <;> rfl
theorem spec_made {b : List Int} (hb : b.length = 16) (F : Nat) (hF : 1000 < F) : spec_IsMade_p F b = some (bif okB b then (decide ((0 : Int) < (((sidesB b).length : Nat) : Int)), true) else (false, false)) := by
  simp only [spec_IsMade_p, spec_IsMade_c, spec_l2Board_eq F b hb hF, Option.isSome_some, Option.getD_some, cond_true]
  cases ok : okB b with
  | false => rfl
  | true => simp only [spec_sides hb ok F hF, Option.isSome_some, Option.getD_some, cond_true, cond_false, Bool.not_true]
end Go.Lv.P
