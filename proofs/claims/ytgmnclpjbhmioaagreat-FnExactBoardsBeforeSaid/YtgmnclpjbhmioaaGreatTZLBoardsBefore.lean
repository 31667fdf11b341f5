/-
FnExactBoardsBefore: both say the same.
-/
import Derived.Test.YtgmnclpjbhmioaaGreatTZP6
import Derived.Test.YtgmnclpjbhmioaaGreatTZPBoardsC
import Derived.Test.YtgmnclpjbhmioaaGreatTZPBoardS
import Derived.Test.YtgmnclpjbhmioaaGreatTZPToBoard
namespace Go.Lv.P
open Go Go.Lv
set_option linter.unusedVariables false
set_option linter.unusedSimpArgs false
theorem law_BoardsBefore (F : Nat) (b : List Int) (hb : b.length = 16) (_ : ∀ x ∈ b, Rng x) (d : Int) (_ : Rng d) (hF : 10000000000 < F) : laws_FnExactBoardsBefore_p F b d = some true := by
  obtain ⟨k, m, v, o, h1, h2, hv, hl, hn, h40⟩ := boards_same F b hb d hF
  have e1 := markBoardS_some F k m (by omega) (by omega)
  have e2 := heldBoardS_some F v (by omega) (by omega)
  have e0 := eqBoardS_refl F v (by omega) (by omega) (by omega)
  simp only [laws_FnExactBoardsBefore_p, laws_FnExactBoardsBefore_c, toBoard_eq hb, h1, h2, Option.isSome_some, Option.getD_some, cond_true, subn_take0, hv, List.take_length, e0, beq_self_eq_true, Bool.not_true, cond_false, e1, e2]
end Go.Lv.P
