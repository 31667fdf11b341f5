/-
FnExactPlacementsOf: both say the same.
-/
import Derived.Test.YtmdicfifhppjaaaTAP4
import Derived.Test.YtmdicfifhppjaaaPEmpty
import Derived.Test.YtmdicfifhppjaaaPEq
import Derived.Test.YtmdicfifhppjaaaPMkA3S
namespace Go.Lv.P
open Go Go.Lv
set_option linter.unusedVariables false
set_option linter.unusedSimpArgs false

theorem placements_same (F : Nat) (b : List Int) (hb : b.length = 16) (hF : 1000 < F) : spec_PlacementsOf_p F b = some (bif okB b then (true, plm b) else (false, [])) ∧ impl_PlacementsOf_p F b = some (bif okB b then (true, plm b) else (false, [])) := by
  simp only [spec_PlacementsOf_p, spec_PlacementsOf_c, impl_PlacementsOf_p, impl_PlacementsOf_c, spec_places_eq F b hF, impl_places_eq F b hF, spec_l2Board_eq F b hb hF, impl_IsBoard_eq F b hb hF, Option.isSome_some, Option.getD_some, cond_true]
  cases okB b <;> exact ⟨rfl, rfl⟩

theorem law_PlacementsOf (F : Nat) (b : List Int) (hb : b.length = 16) (_ : ∀ x ∈ b, Rng x) (hF : 1000 < F) : laws_FnExactPlacementsOf_p F b = some true := by
  obtain ⟨h1, h2⟩ := placements_same F b hb hF
  have hv : ∃ v : Bool × LL, (bif okB b then (true, plm b) else (false, [])) = v ∧ v.2.length ≤ 40 ∧ ∀ x ∈ v.2, x.length = 3 := by
    refine ⟨_, rfl, ?_⟩
    cases okB b with
    | false => exact ⟨by simp, by simp⟩
    | true => exact ⟨by have := plm_len b; have := em_len b; simp; omega, plm_mem b⟩
  obtain ⟨v, hv, hl, h3⟩ := hv
  rw [hv] at h1 h2
  have ml : (mkIntA3S 1 v.2.length).length = v.2.length := by simp [mkIntA3S]
  have e1 := markIntA3S_eq F 1 v.2 h3 (by omega) (by omega) (by omega) hF
  have e2 := heldIntA3S_eq F 1 v.2.length (by omega) (by omega) (by omega) hF
  have e3 : subn (mkIntA3S 1 v.2.length).length (mkIntA3S 1 v.2.length) 0 v.2.length = mkIntA3S 1 v.2.length := by
    conv => lhs; rw [← ml]
    rw [ml, ml]
    conv => lhs; arg 4; rw [← ml]
    conv => lhs; arg 1; rw [← ml]
    exact subn_self _
  have hp : decide ((1 : Int) + 3 * (v.2.length : Int) < 0) = false := by simp; omega
  simp only [laws_FnExactPlacementsOf_p, laws_FnExactPlacementsOf_c, toBoard_eq hb, h1, h2, Option.isSome_some, Option.getD_some, cond_true, subn_self, eqIntA3S_refl F v.2 (by omega) hF, beq_self_eq_true, Bool.not_true, cond_false, beq_selfL, Bool.and_self, e1, e2, e3, hp]
end Go.Lv.P
