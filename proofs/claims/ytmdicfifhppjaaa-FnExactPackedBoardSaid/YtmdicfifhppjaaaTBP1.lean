/-
Pure functions and what the code of them does, by program; without conditions.
-/
import Derived.Test.YtmdicfifhppjaaaTBP0
namespace Go.Lv.P
open Go Go.Lv
set_option linter.unusedVariables false
set_option linter.unusedSimpArgs false
set_option maxRecDepth 100000
/-- loop.example/g01194/laws.FnExactPackedBoard -/
def laws_FnExactPackedBoard_c (Q : Type) (F : Nat) (aSum0 : Int) (k : (Bool) → Option Q) : Option Q :=
    let z_1 := (spec_PackedBoard_p F aSum0)
    let z_2 := (impl_PackedBoard_p F aSum0)
    let z_3 := (Option.getD z_2 default)
    let z_4 := (Option.getD z_1 default)
    let z_5 := (laws_eqBoard_p F z_3.1 z_4.1)
    bif (Option.isSome z_1) then
    bif (Option.isSome z_2) then
    bif (Option.isSome z_5) then
    bif (!(Option.getD z_5 default)) then
    k false
    else bif (!(z_3.2 == z_4.2)) then
    k false
    else k true
    else none
    else none
    else none
def laws_FnExactPackedBoard_p (F : Nat) (aSum0 : Int) : Option (Bool) := laws_FnExactPackedBoard_c _ F aSum0 some
theorem laws_FnExactPackedBoard_cp (Q : Type) (F : Nat) (aSum0 : Int) (k : (Bool) → Option Q) : laws_FnExactPackedBoard_c Q F aSum0 k = (laws_FnExactPackedBoard_p F aSum0).bind k := by
  simp only [laws_FnExactPackedBoard_p, laws_FnExactPackedBoard_c, cond_bindL, none_bindL, some_bindL]
end Go.Lv.P
