/-
Equal pairs.
-/
import Derived.Test.YtloemkielkdegaaTIP4
import Derived.Test.YtloemkielkdegaaLv3
namespace Go.Lv.P
open Go Go.Lv
set_option linter.unusedVariables false
set_option linter.unusedSimpArgs false
theorem eqIntA2_refl (F : Nat) (a : List Int) (hF : 1000 < F) : laws_eqIntA2_p F a a = some true := by
  have h : laws_eqIntA2_l2 F a a 0 = some false := by
    refine (loop_fold (step := laws_eqIntA2_s2 F a a) (fun i (_ : Unit) => i) 2 (fun _ a => a) (fun _ => false) (fun _ _ => True) (F := F) (by omega) (by omega) (a := ()) trivial (fun i _ hi _ => ⟨trivial, fun Q kn kx => ?_⟩) (fun _ _ Q kn kx => by simp [laws_eqIntA2_s2])).1
    have hi' : (i : Int) < 2 := by omega
    simp only [laws_eqIntA2_s2, hi', inR_cast, hi, decide_true, cond_true, beq_self_eq_true, Bool.not_true, cond_false]
  simp only [laws_eqIntA2_p, laws_eqIntA2_c, h, Option.isSome_some, Option.getD_some, cond_true, cond_false]

end Go.Lv.P
