/-
Pure functions and what the code of them does, by program; without conditions.
-/
import Derived.Test.YtgdokdkcbgkekaaGaP3
namespace Go.Lv.P
open Go Go.Lv
set_option linter.unusedVariables false
set_option linter.unusedSimpArgs false
set_option maxRecDepth 100000
/-- loop 24 of loop.example/g01194/laws.FnCommuting -/
def laws_FnCommuting_s24 (F : Nat) (u6 : List Int) (pairs7 : List (List Int)) (Q : Type) : (Int) → ((Int) → Option Q) → ((Bool) → Option Q) → Option Q
  | i5, kn, kx =>
    let z_1 : Bool := (inR i5 (List.length pairs7))
    let z_2 : List Int := (rget pairs7 ((0 : Nat) + (Int.toNat i5)))
    let z_3 : Int := (iget z_2 0)
    let z_4 : Int := (iget z_2 1)
    let z_5 := (impl_DoCommute_p F u6 z_3 z_4)
    let z_6 := (Option.getD z_5 default)
    bif (decide (i5 < (((List.length pairs7) : Nat) : Int))) then
    bif z_1 then
    bif z_1 then
    bif (Option.isSome z_5) then
    bif (!z_6.2) then
    kx true
    else bif (!z_6.1) then
    kx true
    else bif z_1 then
    bif z_1 then
    bif (decide (z_4 ≤ z_3)) then
    kx true
    else kn (IntKind.wrap .i64 (i5 + (1 : Int)))
    else none
    else none
    else none
    else none
    else none
    else kx false
def laws_FnCommuting_l24 (F : Nat) (u6 : List Int) (pairs7 : List (List Int)) (i5 : Int) : Option (Bool) := loopC (laws_FnCommuting_s24 F u6 pairs7) F i5 some
theorem laws_FnCommuting_s24_nat (F : Nat) (u6 : List Int) (pairs7 : List (List Int)) : Natural (laws_FnCommuting_s24 F u6 pairs7) := by
  intro Q Q' s kn kx h
  simp only [laws_FnCommuting_s24, cond_bindL, none_bindL]
/-- loop.example/g01194/laws.FnCommuting -/
def laws_FnCommuting_c (Q : Type) (F : Nat) (code0 : List Int) (k : (Bool) → Option Q) : Option Q :=
    let z_1 := (spec_DrawDoCommute_p F code0)
    let z_2 := (Option.getD z_1 default)
    let z_3 := (impl_DoCommute_p F z_2.1 z_2.2.1 z_2.2.2)
    let z_4 := (spec_DoCommute_p F z_2.1 z_2.2.1 z_2.2.2)
    let z_5 : Nat := (List.length (Option.getD (laws_vCut_p code0 (1 : Int)) default))
    let z_6 := (spec_DrawCommutingPairs_p F (subn z_5 (Option.getD (laws_vCut_p code0 (1 : Int)) default) 0 z_5))
    let z_7 := (impl_CommutingPairs_p F (Option.getD z_6 default))
    let z_8 := (spec_CommutingPairs_p F (Option.getD z_6 default))
    let z_9 := (Option.getD z_3 default)
    let z_10 := (Option.getD z_4 default)
    let z_11 := (Option.getD z_7 default)
    let z_12 := (Option.getD z_8 default)
    let z_13 : Nat := (List.length z_11.2)
    let z_14 : Nat := (List.length z_12.2)
    let z_15 := (laws_vPairs_p F (subn z_13 z_11.2 0 z_13) (subn z_14 z_12.2 0 z_14))
    let z_16 := (impl_DoSlides_p F z_2.1 [z_2.2.1, z_2.2.2])
    let z_17 := (impl_DoSlides_p F z_2.1 [z_2.2.2, z_2.2.1])
    let z_18 := (impl_DoCommute_p F z_2.1 z_2.2.2 z_2.2.1)
    let z_19 := (Option.getD z_16 default)
    let z_20 := (Option.getD z_17 default)
    let z_21 := (Option.getD z_18 default)
    let z_22 : Bool := (!z_11.1)
    let z_23 := (impl_FormBoard_p F (Option.getD z_6 default) (5 : Int))
    let z_24 : Bool := (Option.isSome z_23)
    let z_25 := (Option.getD z_23 default)
    let z_26 := (impl_CommutingPairs_p F z_25.1)
    let z_27 : Bool := (Option.isSome z_26)
    let z_28 : Bool := (!z_25.2)
    let z_29 := (Option.getD z_26 default)
    let z_30 : Bool := (!z_29.1)
    let z_31 : Int := ((z_13 : Nat) : Int)
    let z_32 : Bool := (!((((List.length z_29.2) : Nat) : Int) == z_31))
    let z_33 : Bool := (decide ((6 : Int) < z_31))
    let z_34 := (laws_FnCommuting_l24 F (Option.getD z_6 default) z_11.2 (0 : Int))
    let z_35 : Bool := ((Nat.beq z_13 z_13) && (Option.isSome z_34))
    bif (laws_vBig_v code0) then
    k true
    else bif (Option.isSome z_1) then
    bif (Option.isSome z_3) then
    bif (Option.isSome z_4) then
    bif (Option.isSome (laws_vCut_p code0 (1 : Int))) then
    bif (Option.isSome z_6) then
    bif (Option.isSome z_7) then
    bif (Option.isSome z_8) then
    bif (!(z_9.1 == z_10.1)) then
    k false
    else bif (!(z_9.2 == z_10.2)) then
    k false
    else bif (!(z_11.1 == z_12.1)) then
    k false
    else bif (Option.isSome z_15) then
    bif (!(Option.getD z_15 default)) then
    k false
    else bif z_9.2 then
    bif (Option.isSome z_16) then
    bif (Option.isSome z_17) then
    bif (Option.isSome z_18) then
    bif (!z_19.2.2) then
    k false
    else bif (!z_20.2.2) then
    k false
    else bif (!z_21.2) then
    k false
    else bif (!(z_9.1 == (z_19.1 == z_20.1))) then
    k false
    else bif (!(z_21.1 == z_9.1)) then
    k false
    else bif (z_2.2.1 == z_2.2.2) then
    bif (!z_9.1) then
    k false
    else bif z_22 then
    k true
    else bif z_24 then
    bif z_27 then
    bif z_28 then
    k false
    else bif z_30 then
    k false
    else bif z_32 then
    k false
    else bif z_33 then
    k false
    else bif z_35 then
    bif (Option.getD z_34 default) then
    k false
    else k true
    else none
    else none
    else none
    else bif z_22 then
    k true
    else bif z_24 then
    bif z_27 then
    bif z_28 then
    k false
    else bif z_30 then
    k false
    else bif z_32 then
    k false
    else bif z_33 then
    k false
    else bif z_35 then
    bif (Option.getD z_34 default) then
    k false
    else k true
    else none
    else none
    else none
    else none
    else none
    else none
    else bif z_22 then
    k true
    else bif z_24 then
    bif z_27 then
    bif z_28 then
    k false
    else bif z_30 then
    k false
    else bif z_32 then
    k false
    else bif z_33 then
    k false
    else bif z_35 then
    bif (Option.getD z_34 default) then
    k false
    else k true
    else none
    else none
    else none
    else none
    else none
    else none
    else none
    else none
    else none
    else none
    else none
def laws_FnCommuting_p (F : Nat) (code0 : List Int) : Option (Bool) := laws_FnCommuting_c _ F code0 some
theorem laws_FnCommuting_cp (Q : Type) (F : Nat) (code0 : List Int) (k : (Bool) → Option Q) : laws_FnCommuting_c Q F code0 k = (laws_FnCommuting_p F code0).bind k := by
  simp only [laws_FnCommuting_p, laws_FnCommuting_c, cond_bindL, none_bindL, some_bindL]
end Go.Lv.P
