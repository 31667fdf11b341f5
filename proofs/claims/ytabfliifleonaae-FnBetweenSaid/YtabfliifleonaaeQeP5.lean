/-
Pure functions and what the code of them does, by program; without conditions.
-/
import Derived.Test.YtabfliifleonaaeQeP4
namespace Go.Lv.P
open Go Go.Lv
set_option linter.unusedVariables false
set_option linter.unusedSimpArgs false
set_option maxRecDepth 100000
/-- loop 19 of loop.example/g01194/laws.FnBetween -/
def laws_FnBetween_s19 (F : Nat) (least6 : Int) (most7 : Int) (ok8 : Bool) (twos15 : Int) (score16 : Int) (fine17 : Bool) (is21 : Bool) (a23 : List Int) (b24 : List Int) (x25 : List Int) (y26 : List Int) (u27 : List Int) (Q : Type) : (Int) → ((Int) → Option Q) → ((Bool) → Option Q) → Option Q
  | d22, kn, kx =>
    let z_1 := (impl_SlideBoard_p F u27 d22)
    let z_2 := (Option.getD z_1 default)
    bif is21 then
    bif (decide (d22 < (4 : Int))) then
    bif (Option.isSome z_1) then
    bif (!z_2.2.2) then
    kx true
    else bif (!(z_2.2.1 == (0 : Int))) then
    kx true
    else kn (IntKind.wrap .i64 (d22 + (1 : Int)))
    else none
    else kx false
    else kx false
def laws_FnBetween_l19 (F : Nat) (least6 : Int) (most7 : Int) (ok8 : Bool) (twos15 : Int) (score16 : Int) (fine17 : Bool) (is21 : Bool) (a23 : List Int) (b24 : List Int) (x25 : List Int) (y26 : List Int) (u27 : List Int) (d22 : Int) : Option (Bool) := loopC (laws_FnBetween_s19 F least6 most7 ok8 twos15 score16 fine17 is21 a23 b24 x25 y26 u27) F d22 some
theorem laws_FnBetween_s19_nat (F : Nat) (least6 : Int) (most7 : Int) (ok8 : Bool) (twos15 : Int) (score16 : Int) (fine17 : Bool) (is21 : Bool) (a23 : List Int) (b24 : List Int) (x25 : List Int) (y26 : List Int) (u27 : List Int) : Natural (laws_FnBetween_s19 F least6 most7 ok8 twos15 score16 fine17 is21 a23 b24 x25 y26 u27) := by
  intro Q Q' s kn kx h
  simp only [laws_FnBetween_s19, cond_bindL, none_bindL]
/-- loop.example/g01194/laws.FnBetween -/
def laws_FnBetween_c (Q : Type) (F : Nat) (code0 : List Int) (k : (Bool) → Option Q) : Option Q :=
    let z_1 := (spec_DrawMovesBetween_p F code0)
    let z_2 := (Option.getD z_1 default)
    let z_3 := (impl_MovesBetween_p F z_2.1 z_2.2)
    let z_4 := (spec_MovesBetween_p F z_2.1 z_2.2)
    let z_5 : Nat := (List.length (Option.getD (laws_vCut_p code0 (1 : Int)) default))
    let z_6 := (spec_DrawScoreBetween_p F (subn z_5 (Option.getD (laws_vCut_p code0 (1 : Int)) default) 0 z_5))
    let z_7 := (Option.getD z_6 default)
    let z_8 := (impl_ScoreBetween_p F z_7.1 z_7.2.1 z_7.2.2)
    let z_9 := (spec_ScoreBetween_p F z_7.1 z_7.2.1 z_7.2.2)
    let z_10 : Nat := (List.length (Option.getD (laws_vCut_p code0 (2 : Int)) default))
    let z_11 := (spec_DrawIsPackedBoard_p F (subn z_10 (Option.getD (laws_vCut_p code0 (2 : Int)) default) 0 z_10))
    let z_12 := (impl_IsPackedBoard_p F (Option.getD z_11 default))
    let z_13 := (spec_IsPackedBoard_p F (Option.getD z_11 default))
    let z_14 := (Option.getD z_3 default)
    let z_15 := (Option.getD z_4 default)
    let z_16 := (Option.getD z_8 default)
    let z_17 := (Option.getD z_9 default)
    let z_18 := (Option.getD z_12 default)
    let z_19 := (Option.getD z_13 default)
    let z_20 := (impl_EqualPairs_p F (Option.getD z_11 default))
    let z_21 := (Option.getD z_20 default)
    let z_22 := (laws_FnBetween_l19 F z_14.1 z_14.2.1 z_14.2.2 z_7.2.2 z_16.1 z_16.2 z_18.1 z_2.1 z_2.2 z_7.1 z_7.2.1 (Option.getD z_11 default) (0 : Int))
    let z_23 : Bool := (Option.isSome z_22)
    let z_24 := (impl_ScoreBetween_p F z_7.2.1 z_7.1 (0 : Int))
    let z_25 : Bool := (Option.isSome z_24)
    let z_26 := (Option.getD z_24 default)
    let z_27 : Bool := (!z_26.2)
    let z_28 : Bool := (!((IntKind.wrap .i64 (z_16.1 + z_26.1)) == (IntKind.wrap .i64 ((-4 : Int) * z_7.2.2))))
    let z_29 : Bool := (!z_14.2.2)
    let z_30 := (impl_SumOf_p F z_2.1)
    let z_31 : Bool := (Option.isSome z_30)
    let z_32 := (impl_SumOf_p F z_2.2)
    let z_33 : Bool := (Option.isSome z_32)
    let z_34 := (Option.getD z_30 default)
    let z_35 := (Option.getD z_32 default)
    let z_36 : Bool := (decide (z_14.1 ≤ z_14.2.1))
    let z_37 : Int := (IntKind.wrap .i64 (z_35.1 - z_34.1))
    let z_38 : Bool := ((IntKind.wrap .i64 ((2 : Int) * z_14.2.1)) == z_37)
    let z_39 : Int := (IntKind.wrap .i64 ((4 : Int) * z_14.1))
    let z_40 : Bool := (decide (z_37 ≤ z_39))
    let z_41 : Bool := (decide (z_39 < (IntKind.wrap .i64 (z_37 + (4 : Int)))))
    bif (laws_vBig_v code0) then
    k true
    else bif (Option.isSome z_1) then
    bif (Option.isSome z_3) then
    bif (Option.isSome z_4) then
    bif (Option.isSome (laws_vCut_p code0 (1 : Int))) then
    bif (Option.isSome z_6) then
    bif (Option.isSome z_8) then
    bif (Option.isSome z_9) then
    bif (Option.isSome (laws_vCut_p code0 (2 : Int))) then
    bif (Option.isSome z_11) then
    bif (Option.isSome z_12) then
    bif (Option.isSome z_13) then
    bif (!(z_14.1 == z_15.1)) then
    k false
    else bif (!(z_14.2.1 == z_15.2.1)) then
    k false
    else bif (!(z_14.2.2 == z_15.2.2)) then
    k false
    else bif (!(z_16.1 == z_17.1)) then
    k false
    else bif (!(z_16.2 == z_17.2)) then
    k false
    else bif (!(z_18.1 == z_19.1)) then
    k false
    else bif (!(z_18.2 == z_19.2)) then
    k false
    else bif z_18.2 then
    bif (Option.isSome z_20) then
    bif (!z_21.2) then
    k false
    else bif z_18.1 then
    bif (!(z_21.1 == (0 : Int))) then
    k false
    else bif z_23 then
    bif (Option.getD z_22 default) then
    k false
    else bif z_16.2 then
    bif z_25 then
    bif z_27 then
    k false
    else bif z_28 then
    k false
    else bif z_29 then
    k true
    else bif z_31 then
    bif z_33 then
    bif z_34.2 then
    bif z_35.2 then
    bif z_36 then
    bif z_38 then
    bif z_40 then
    k z_41
    else k false
    else k false
    else k false
    else k false
    else k false
    else none
    else none
    else none
    else bif z_29 then
    k true
    else bif z_31 then
    bif z_33 then
    bif z_34.2 then
    bif z_35.2 then
    bif z_36 then
    bif z_38 then
    bif z_40 then
    k z_41
    else k false
    else k false
    else k false
    else k false
    else k false
    else none
    else none
    else none
    else bif z_23 then
    bif (Option.getD z_22 default) then
    k false
    else bif z_16.2 then
    bif z_25 then
    bif z_27 then
    k false
    else bif z_28 then
    k false
    else bif z_29 then
    k true
    else bif z_31 then
    bif z_33 then
    bif z_34.2 then
    bif z_35.2 then
    bif z_36 then
    bif z_38 then
    bif z_40 then
    k z_41
    else k false
    else k false
    else k false
    else k false
    else k false
    else none
    else none
    else none
    else bif z_29 then
    k true
    else bif z_31 then
    bif z_33 then
    bif z_34.2 then
    bif z_35.2 then
    bif z_36 then
    bif z_38 then
    bif z_40 then
    k z_41
    else k false
    else k false
    else k false
    else k false
    else k false
    else none
    else none
    else none
    else none
    else bif z_16.2 then
    bif z_25 then
    bif z_27 then
    k false
    else bif z_28 then
    k false
    else bif z_29 then
    k true
    else bif z_31 then
    bif z_33 then
    bif z_34.2 then
    bif z_35.2 then
    bif z_36 then
    bif z_38 then
    bif z_40 then
    k z_41
    else k false
    else k false
    else k false
    else k false
    else k false
    else none
    else none
    else none
    else bif z_29 then
    k true
    else bif z_31 then
    bif z_33 then
    bif z_34.2 then
    bif z_35.2 then
    bif z_36 then
    bif z_38 then
    bif z_40 then
    k z_41
    else k false
    else k false
    else k false
    else k false
    else k false
    else none
    else none
    else none
    else none
    else none
    else none
    else none
    else none
    else none
    else none
    else none
    else none
    else none
def laws_FnBetween_p (F : Nat) (code0 : List Int) : Option (Bool) := laws_FnBetween_c _ F code0 some
theorem laws_FnBetween_cp (Q : Type) (F : Nat) (code0 : List Int) (k : (Bool) → Option Q) : laws_FnBetween_c Q F code0 k = (laws_FnBetween_p F code0).bind k := by
  simp only [laws_FnBetween_p, laws_FnBetween_c, cond_bindL, none_bindL, some_bindL]
end Go.Lv.P
