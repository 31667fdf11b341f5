/-
FnExactFewestSlides: both say the same.
-/
import Derived.Test.YtkclnchkemacgaaTJP2
import Derived.Test.YtkclnchkemacgaaTJPRoad
import Derived.Test.YtkclnchkemacgaaTJPToBoard
namespace Go.Lv.P
open Go Go.Lv
set_option linter.unusedVariables false
set_option linter.unusedSimpArgs false
set_option linter.unusedSectionVars false

theorem impl_fewest (F : Nat) {a c : List Int} (ha : a.length = 16) (hc : c.length = 16) (hF : 2000000 < F) : impl_FewestSlides_p F a c = some (bif okB a && okB c then fewR (mlook c (TW sl a 7)) else (0, false)) := by
  have h := impl_road F ha hc hF
  revert h
  generalize mlook c (TW sl a 7) = r
  intro h
  simp only [impl_FewestSlides_p, impl_FewestSlides_c, h, Option.isSome_some, Option.getD_some, cond_true]
  cases okB a && okB c with
  | false => rfl
  | true => cases r <;> rfl
theorem law_FewestSlides (F : Nat) (a : List Int) (ha : a.length = 16) (_ : ∀ x ∈ a, Rng x) (c : List Int) (hc : c.length = 16) (_ : ∀ x ∈ c, Rng x) (hF : 2000000 < F) : laws_FnExactFewestSlides_p F a c = some true := by
  have h1 := spec_fewest F ha hc (by omega)
  have h2 := impl_fewest F ha hc hF
  revert h1 h2
  generalize (bif okB a && okB c then fewR (mlook c (TW sl a 7)) else (0, false)) = r
  intro h1 h2
  simp only [laws_FnExactFewestSlides_p, laws_FnExactFewestSlides_c, toBoard_eq ha, toBoard_eq hc, h1, h2, Option.isSome_some, Option.getD_some, cond_true, beq_self_eq_true, Bool.not_true, cond_false]
end Go.Lv.P
