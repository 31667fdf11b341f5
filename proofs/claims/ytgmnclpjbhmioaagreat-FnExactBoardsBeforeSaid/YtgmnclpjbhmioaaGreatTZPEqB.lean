/-
Boards that the laws' words call equal.
-/
import Derived.Test.YtgmnclpjbhmioaaGreatTZP5
import Derived.Test.YtgmnclpjbhmioaaGreatTZP6
import Derived.Test.YtgmnclpjbhmioaaGreatLv3
namespace Go.Lv.P
open Go Go.Lv
set_option linter.unusedVariables false
set_option linter.unusedSimpArgs false

theorem fnd_false {X : Type} (f : Nat → X) (e : X) : ∀ (m i : Nat), fnd (fun _ => false) f e i m = e
  | 0, _ => rfl
  | m + 1, i => by simp only [fnd, cond_false]; exact fnd_false f e m (i + 1)

theorem eqIntA4_refl (F : Nat) (a : List Int) (hF : 1000 < F) : laws_eqIntA4_p F a a = some true := by
  have h : laws_eqIntA4_l2 F a a 0 = some (fnd (fun _ => false) (fun _ => true) false 0 4) := by
    refine loop_find (fun i => i) 4 _ _ _ (by omega) (by omega) (fun i hi Q kn kx => ?_) fun Q kn kx => ?_
    · have hi' : (i : Int) < 4 := by omega
      simp [laws_eqIntA4_s2, inR_cast, hi, hi']
    · simp [laws_eqIntA4_s2]
  simp only [laws_eqIntA4_p, laws_eqIntA4_c, h, fnd_false, Option.isSome_some, Option.getD_some, cond_true, cond_false]

theorem eqIntA4A4_refl (F : Nat) (a : List Int) (hF : 1000 < F) : laws_eqIntA4A4_p F a a = some true := by
  have h : laws_eqIntA4A4_l2 F a a 0 = some (fnd (fun _ => false) (fun _ => true) false 0 4) := by
    refine loop_find (fun i => i) 4 _ _ _ (by omega) (by omega) (fun i hi Q kn kx => ?_) fun Q kn kx => ?_
    · have hi' : (i : Int) < 4 := by omega
      simp [laws_eqIntA4A4_s2, inR_cast, hi, hi', eqIntA4_refl F _ hF]
    · simp [laws_eqIntA4A4_s2]
  simp only [laws_eqIntA4A4_p, laws_eqIntA4A4_c, h, fnd_false, Option.isSome_some, Option.getD_some, cond_true, cond_false]

theorem eqBoard_refl (F : Nat) (a : List Int) (hF : 1000 < F) : laws_eqBoard_p F a a = some true := by
  simp only [laws_eqBoard_p, laws_eqBoard_c, eqIntA4A4_refl F a hF, Option.isSome_some, Option.getD_some, cond_true, Bool.not_true, cond_false]
end Go.Lv.P
