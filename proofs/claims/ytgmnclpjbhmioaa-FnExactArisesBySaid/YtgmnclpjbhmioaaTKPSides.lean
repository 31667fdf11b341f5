/-
The sides that lead to a board.
-/
import Derived.Test.YtgmnclpjbhmioaaTKP4
import Derived.Test.YtgmnclpjbhmioaaTKP5
import Derived.Test.YtgmnclpjbhmioaaTKPLinesB
import Derived.Test.YtgmnclpjbhmioaaTKPMovesB
namespace Go.Lv.P
open Go Go.Lv
set_option linter.unusedVariables false
set_option linter.unusedSimpArgs false
set_option linter.unusedSectionVars false

def sidesB (b : List Int) : List Int := fld (fun d (out : List Int) => bif decide ((0 : Int) < cntB b d) then out ++ [(d : Int)] else out) 0 4 []
theorem sides_len (b : List Int) : (sidesB b).length ≤ 4 := by
  have h : ∀ (p : Nat → Bool), (fld (fun d (out : List Int) => bif p d then out ++ [(d : Int)] else out) 0 4 []).length ≤ 4 := fun p => by
    simp only [fld]
    cases p 0 <;> cases p (0 + 1) <;> cases p (0 + 1 + 1) <;> cases p (0 + 1 + 1 + 1) <;> simp
  exact h _
theorem spec_sides {b : List Int} (hb : b.length = 16) (ok : okB b = true) (F : Nat) (hF : 1000 < F) : spec_l6Sides_p F b = some (sidesB b) := by
  have hs := loop_fold (step := spec_l6Sides_s3 F b) (fun d a => (d, a)) 4 (fun d (out : List Int) => bif decide ((0 : Int) < cntB b d) then out ++ [(d : Int)] else out) (fun a => a) (fun d a => a.length ≤ d) (F := F) (by omega) (by omega) (a := []) (Nat.le_refl 0)
    (fun d out hd h => ⟨moves_step h, fun Q kn kx => by
      have hd' : (d : Int) < 4 := by omega
      have hf : fits (out ++ [(d : Int)]).length 8 = true := fits_of (by simp; omega) (by simp; omega)
      simp only [spec_l6Sides_s3, hd', decide_true, cond_true, spec_count hb ok F hF hd, Option.isSome_some, Option.getD_some, subn_self, hf]
      cases decide ((0 : Int) < cntB b d) <;> rfl⟩) (fun a _ Q kn kx => by simp [spec_l6Sides_s3])
  have h1 : spec_l6Sides_l3 F b 0 [] = some (sidesB b) := hs.1
  simp only [spec_l6Sides_p, spec_l6Sides_c, h1, Option.isSome_some, Option.getD_some, cond_true]
theorem impl_SidesInto_eq {b : List Int} (hb : b.length = 16) (F : Nat) (hF : 1000 < F) : impl_SidesInto_p F b = some (bif okB b then (true, sidesB b) else (false, [])) := by
  simp only [impl_SidesInto_p, impl_SidesInto_c, impl_IsBoard_eq F b hb hF, Option.isSome_some, Option.getD_some, cond_true]
  cases ok : okB b with
  | false => rfl
  | true =>
    have hs := loop_fold (step := impl_SidesInto_s5 F b) (fun d a => (d, a)) 4 (fun d (out : List Int) => bif decide ((0 : Int) < cntB b d) then out ++ [(d : Int)] else out) (fun a => a) (fun d a => a.length ≤ d) (F := F) (by omega) (by omega) (a := []) (Nat.le_refl 0)
      (fun d out hd h => ⟨moves_step h, fun Q kn kx => by
        have hd' : (d : Int) < 4 := by omega
        have hf : fits (out ++ [(d : Int)]).length 8 = true := fits_of (by simp; omega) (by simp; omega)
        simp only [impl_SidesInto_s5, hd', decide_true, cond_true, impl_count hb ok F hF hd, Option.isSome_some, Option.getD_some, subn_self, hf]
        cases decide ((0 : Int) < cntB b d) <;> rfl⟩) (fun a _ Q kn kx => by simp [impl_SidesInto_s5])
    have h1 : impl_SidesInto_l5 F b 0 [] = some (sidesB b) := hs.1
    simp only [h1, Option.isSome_some, Option.getD_some, cond_true, cond_false, Bool.not_true]
theorem spec_SidesInto_eq {b : List Int} (hb : b.length = 16) (F : Nat) (hF : 1000 < F) : spec_SidesInto_p F b = some (bif okB b then (true, sidesB b) else (false, [])) := by
  simp only [spec_SidesInto_p, spec_SidesInto_c, spec_l2Board_eq F b hb hF, Option.isSome_some, Option.getD_some, cond_true]
  cases ok : okB b with
  | false => rfl
  | true => simp only [spec_sides hb ok F hF, Option.isSome_some, Option.getD_some, cond_true, cond_false, Bool.not_true]
end Go.Lv.P
