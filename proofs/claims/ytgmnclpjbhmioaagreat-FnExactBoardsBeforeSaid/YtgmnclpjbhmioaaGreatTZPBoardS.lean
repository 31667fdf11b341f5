/-
What the laws' own words say of slices of boards.
-/
import Derived.Test.YtgmnclpjbhmioaaGreatTZP6
import Derived.Test.YtgmnclpjbhmioaaGreatTZPEqB
import Derived.Test.YtgmnclpjbhmioaaGreatTZPMark
namespace Go.Lv.P
open Go Go.Lv
set_option linter.unusedVariables false
set_option linter.unusedSimpArgs false
set_option linter.unusedSectionVars false

theorem fnd_false2 {X : Type} (f : Nat → X) (e : X) : ∀ (m i : Nat), fnd (fun _ => false) f e i m = e
  | 0, _ => rfl
  | m + 1, i => by simp only [fnd, cond_false]; exact fnd_false2 f e m (i + 1)
theorem eqBoardS_refl (F : Nat) (a : LL) (ha : a.length ≤ 900000) (hF : 1000 < F) (hF' : a.length < F) : laws_eqBoardS_p F a a = some true := by
  have h : laws_eqBoardS_l4 F a a 0 = some (fnd (fun _ => false) (fun _ => true) false 0 a.length) := by
    refine loop_find (fun i => i) a.length _ _ _ (by omega) (by omega) (fun i hi Q kn kx => ?_) fun Q kn kx => ?_
    · simp [laws_eqBoardS_s4, inR_cast, hi, eqBoard_refl F _ hF]
    · simp [laws_eqBoardS_s4]
  simp only [laws_eqBoardS_p, laws_eqBoardS_c, h, fnd_false2, Option.isSome_some, Option.getD_some, cond_true, cond_false, beq_self_eq_true, Bool.not_true]
theorem markBoardS_some (F n : Nat) (m : LL) (hn : n ≤ 900000) (hF' : n < F) : laws_markBoardS_p F n 1 m = some () := by
  have h : laws_markBoardS_l2 F n 1 m 0 = some () := by
    have h := loop_fold (step := laws_markBoardS_s2 F n 1 m) (fun i (_ : Unit) => i) n (fun _ u => u) (fun u => u) (fun _ _ => True) (F := F) hF' (by omega) (a := ()) trivial
      (fun i _ hi _ => ⟨trivial, fun Q kn kx => by simp only [laws_markBoardS_s2, Int.ofNat_lt, hi, decide_true, cond_true]⟩) (fun _ _ Q kn kx => by simp [laws_markBoardS_s2])
    exact h.1
  simp only [laws_markBoardS_p, laws_markBoardS_c, h, Option.isSome_some, cond_true]
theorem heldBoardS_some (F : Nat) (a : LL) (hn : a.length ≤ 900000) (hF' : a.length < F) : laws_heldBoardS_p F a 1 = some () := by
  have h : laws_heldBoardS_l2 F a 1 0 = some () := by
    have h := loop_fold (step := laws_heldBoardS_s2 F a 1) (fun i (_ : Unit) => i) a.length (fun _ u => u) (fun u => u) (fun _ _ => True) (F := F) hF' (by omega) (a := ()) trivial
      (fun i _ hi _ => ⟨trivial, fun Q kn kx => by simp only [laws_heldBoardS_s2, Int.ofNat_lt, hi, decide_true, cond_true]⟩) (fun _ _ Q kn kx => by simp [laws_heldBoardS_s2])
    exact h.1
  simp only [laws_heldBoardS_p, laws_heldBoardS_c, h, Option.isSome_some, cond_true]
end Go.Lv.P
