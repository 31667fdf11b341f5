/-
FnExactSidesInto: both say the same.
-/
import Derived.Test.YtgmnclpjbhmioaaTKP5
import Derived.Test.YtgmnclpjbhmioaaTKPSides
import Derived.Test.YtgmnclpjbhmioaaTKPMkS
import Derived.Test.YtgmnclpjbhmioaaTKPTail
import Derived.Test.YtgmnclpjbhmioaaTKPToBoard
namespace Go.Lv.P
open Go Go.Lv
set_option linter.unusedVariables false
set_option linter.unusedSimpArgs false
theorem law_SidesInto (F : Nat) (b : List Int) (hb : b.length = 16) (_ : ∀ x ∈ b, Rng x) (hF : 1000 < F) : laws_FnExactSidesInto_p F b = some true := by
  have h1 := spec_SidesInto_eq hb F hF
  have h2 := impl_SidesInto_eq hb F hF
  have hv : ∃ v : Bool × List Int, (bif okB b then (true, sidesB b) else (false, [])) = v ∧ v.2.length ≤ 4 := by
    refine ⟨_, rfl, ?_⟩
    have := sides_len b
    generalize sidesB b = s at *
    cases okB b with
    | false => simp
    | true => exact this
  obtain ⟨v, hv, h4⟩ := hv
  rw [hv] at h1 h2
  obtain ⟨m', e1, e1l, e1t⟩ := markIntS_eq F v.2.length v.2 (Nat.le_refl _) (by omega) hF (by omega)
  have e2 := heldIntS_eq F v.2.length (by omega) hF (by omega)
  have e0 := eqIntS_refl F v.2 (by omega) hF (by omega)
  have hp : decide ((1 : Int) + (v.2.length : Int) < 0) = false := by simp; omega
  simp only [laws_FnExactSidesInto_p, laws_FnExactSidesInto_c, toBoard_eq hb, h1, h2, Option.isSome_some, Option.getD_some, cond_true, subn_take0, List.take_length, e0, beq_self_eq_true, Bool.not_true, cond_false, e1, e1t, e2, hp]
end Go.Lv.P
