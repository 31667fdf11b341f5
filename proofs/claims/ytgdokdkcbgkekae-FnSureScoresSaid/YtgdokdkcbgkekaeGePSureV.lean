/-
Sure scores, slides and placements: what both say.
-/
import Derived.Test.YtgdokdkcbgkekaeGeP3
import Derived.Test.YtgdokdkcbgkekaeGeP4
import Derived.Test.YtgdokdkcbgkekaeGeP5
import Derived.Test.YtgdokdkcbgkekaeGePBestSure
import Derived.Test.YtgdokdkcbgkekaeGePWorst
import Derived.Test.YtgdokdkcbgkekaeGePPlaceT
import Derived.Test.YtgdokdkcbgkekaeGePPlacesS
import Derived.Test.YtgdokdkcbgkekaeGePPlacesI
namespace Go.Lv.P
open Go Go.Lv
set_option linter.unusedVariables false
set_option linter.unusedSimpArgs false
set_option linter.unusedSectionVars false

def sureV (b : List Int) (n : Int) : Int × Bool := bif okB b && inB n 0 2 then (sureN n.toNat b, true) else (0, false)
theorem sure_val (F : Nat) (b : List Int) (hb : b.length = 16) (n : Int) (hF : 1000 < F) : spec_SureScore_p F b n = some (sureV b n) ∧ impl_SureScore_p F b n = some (sureV b n) := by
  unfold sureV
  simp only [spec_SureScore_p, spec_SureScore_c, impl_SureScore_p, impl_SureScore_c, spec_l2Board_eq F b hb hF, impl_IsBoard_eq F b hb hF, Option.isSome_some, Option.getD_some, cond_true, l1In_eq, in_eq]
  cases hB : okB b with
  | false => exact ⟨rfl, rfl⟩
  | true =>
    cases hn : inB n 0 2 with
    | false => exact ⟨rfl, rfl⟩
    | true =>
      simp only [spec_sure hb hB F hF hn, impl_sure hb hB F hF hn, Option.isSome_some, Option.getD_some, cond_true, Bool.not_true, cond_false]
      exact ⟨rfl, rfl⟩
theorem places_val (F : Nat) (b : List Int) (hb : b.length = 16) (hF : 1000 < F) : spec_PlacementsOf_p F b = some (bif okB b then (true, plm b) else (false, [])) ∧ impl_PlacementsOf_p F b = some (bif okB b then (true, plm b) else (false, [])) := by
  simp only [spec_PlacementsOf_p, spec_PlacementsOf_c, impl_PlacementsOf_p, impl_PlacementsOf_c, spec_places_eq F b hF, impl_places_eq F b hF, spec_l2Board_eq F b hb hF, impl_IsBoard_eq F b hb hF, Option.isSome_some, Option.getD_some, cond_true]
  cases okB b <;> exact ⟨rfl, rfl⟩
theorem slide_val (F : Nat) {b : List Int} (hb : b.length = 16) (ok : okB b = true) {d : Nat} (hd : d < 4) (hF : 1000 < F) : impl_SlideBoard_p F b d = some ((slideB b d).1, (slideB b d).2, true) := by
  obtain ⟨m, e⟩ := impl_slide hb ok F hF hd
  have h : inB (d : Int) 0 3 = true := by simp [inB]; omega
  simp only [impl_SlideBoard_p, impl_SlideBoard_c, impl_IsBoard_eq F b hb hF, ok, impl_isDirection_v, in_eq, h, e, Option.isSome_some, Option.getD_some, cond_true, cond_false, Bool.not_true]
end Go.Lv.P
