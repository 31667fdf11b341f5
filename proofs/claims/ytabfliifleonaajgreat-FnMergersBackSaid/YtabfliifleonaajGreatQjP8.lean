/-
Pure functions and what the code of them does, by program; without conditions.
-/
import Derived.Test.YtabfliifleonaajGreatQjP7
namespace Go.Lv.P
open Go Go.Lv
set_option linter.unusedVariables false
set_option linter.unusedSimpArgs false
set_option maxRecDepth 100000
def k37_s36 (F : Nat) (vd : Nat) (je : Nat) (i4 : Int) (jq : List (List Int)) (gq : List (List Int)) (Q : Type) : (Bool × Int) → ((Bool × Int) → Option Q) → ((Bool) → Option Q) → Option Q
  | (in5, k6), kn, kx =>
    let z_1 : Int := (IntKind.wrap .i64 (k6 + (1 : Int)))
    bif (decide (k6 < ((je : Nat) : Int))) then
    bif in5 then
    kn (true, z_1)
    else bif (inR k6 je) then
    bif (inR i4 vd) then
    kn (((rget gq ((0 : Nat) + (Int.toNat k6))) == (rget jq ((0 : Nat) + (Int.toNat i4)))), z_1)
    else none
    else none
    else kx in5
def k37_l36 (F : Nat) (vd : Nat) (je : Nat) (i4 : Int) (jq : List (List Int)) (gq : List (List Int)) (in5 : Bool) (k6 : Int) : Option (Bool) := loopC (k37_s36 F vd je i4 jq gq) F (in5, k6) some
theorem k37_s36_nat (F : Nat) (vd : Nat) (je : Nat) (i4 : Int) (jq : List (List Int)) (gq : List (List Int)) : Natural (k37_s36 F vd je i4 jq gq) := by
  intro Q Q' s kn kx h
  obtain ⟨in5, k6⟩ := s
  simp only [k37_s36, cond_bindL, none_bindL]
def k37_s32 (F : Nat) (vd : Nat) (je : Nat) (y36 : List (List Int)) (j36 : List (List Int)) (Q : Type) : (Int) → ((Int) → Option Q) → ((Bool) → Option Q) → Option Q
  | i4, kn, kx =>
    let z_1 := (k37_l36 F vd je i4 y36 j36 false (0 : Int))
    bif (decide (i4 < ((vd : Nat) : Int))) then
    bif (Option.isSome z_1) then
    bif (!(Option.getD z_1 default)) then
    kx true
    else kn (IntKind.wrap .i64 (i4 + (1 : Int)))
    else none
    else kx false
def k37_l32 (F : Nat) (vd : Nat) (je : Nat) (y36 : List (List Int)) (j36 : List (List Int)) (i4 : Int) : Option (Bool) := loopC (k37_s32 F vd je y36 j36) F i4 some
theorem k37_s32_nat (F : Nat) (vd : Nat) (je : Nat) (y36 : List (List Int)) (j36 : List (List Int)) : Natural (k37_s32 F vd je y36 j36) := by
  intro Q Q' s kn kx h
  simp only [k37_s32, cond_bindL, none_bindL]
def k37_c (Q : Type) (F : Nat) (j9 : List Int) (k : (Bool) → Option Q) : Option Q :=
    let z_1 := (k38_p F j9)
    let z_2 := (Option.getD z_1 default)
    let z_3 := (k73_p F z_2.1 z_2.2)
    let z_4 := (k74_p F z_2.1 z_2.2)
    let z_5 := (Option.getD z_3 default)
    let z_6 := (Option.getD z_4 default)
    let z_7 : Nat := (List.length z_6.2)
    let z_8 := (k98_p F (subn (List.length z_5.2.2) z_5.2.2 0 z_5.1) (subn z_7 z_6.2 0 z_7))
    let z_9 := (k80_p F z_2.1 z_2.2)
    let z_10 := (k85_p F z_2.1 z_2.2)
    let z_11 := (Option.getD z_9 default)
    let z_12 := (Option.getD z_10 default)
    let z_13 : Nat := (List.length z_12.2)
    let z_14 := (k98_p F (subn (List.length z_11.2.2) z_11.2.2 0 z_11.1) (subn z_13 z_12.2 0 z_13))
    let z_15 := (k59_p F z_2.1 z_2.2)
    let z_16 := (k67_p F z_2.1 z_2.2)
    let z_17 := (Option.getD z_15 default)
    let z_18 := (Option.getD z_16 default)
    let z_19 := (k35_p F j9)
    let z_20 := (Option.getD z_19 default)
    let z_21 := (k60_p F z_20.1 z_20.2)
    let z_22 := (Option.getD z_21 default)
    let z_23 := (k51_p F z_22.1 z_20.2)
    let z_24 := (Option.getD z_23 default)
    let z_25 := (k59_p F z_22.1 z_20.2)
    let z_26 := (k57_p F z_20.1)
    let z_27 := (Option.getD z_25 default)
    let z_28 := (Option.getD z_26 default)
    let z_29 : Bool := (!z_5.2.1)
    let z_30 := (k57_p F z_2.1)
    let z_31 : Bool := (Option.isSome z_30)
    let z_32 := (Option.getD z_30 default)
    let z_33 : Bool := (!z_32.2.1)
    let z_34 : Int := (IntKind.wrap .i64 ((16 : Int) - ((z_32.1 : Nat) : Int)))
    let z_35 : Bool := (decide (z_17.1 < z_34))
    let z_36 : Bool := (decide ((IntKind.wrap .i64 (z_34 + ((z_11.1 : Nat) : Int))) < z_17.1))
    let z_37 : Bool := (decide (z_17.1 < (IntKind.wrap .i64 (z_34 + ((z_5.1 : Nat) : Int)))))
    let z_38 := (k37_l32 F z_5.1 z_11.1 z_5.2.2 z_11.2.2 (0 : Int))
    let z_39 : Bool := (Option.isSome z_38)
    bif (k114_v j9) then
    k true
    else bif (Option.isSome z_1) then
    bif (Option.isSome z_3) then
    bif (Option.isSome z_4) then
    bif (!(z_5.2.1 == z_6.1)) then
    k false
    else bif (Option.isSome z_8) then
    bif (!(Option.getD z_8 default)) then
    k false
    else bif (Option.isSome z_9) then
    bif (Option.isSome z_10) then
    bif (!(z_11.2.1 == z_12.1)) then
    k false
    else bif (!(z_11.2.1 == z_5.2.1)) then
    k false
    else bif (Option.isSome z_14) then
    bif (!(Option.getD z_14 default)) then
    k false
    else bif (Option.isSome z_15) then
    bif (Option.isSome z_16) then
    bif (!(z_17.1 == z_18.1)) then
    k false
    else bif (!(z_17.2 == z_18.2)) then
    k false
    else bif (!(z_17.2 == z_5.2.1)) then
    k false
    else bif (Option.isSome z_19) then
    bif (Option.isSome z_21) then
    bif z_22.2.2 then
    bif (!(z_22.1 == z_20.1)) then
    bif (Option.isSome z_23) then
    bif (!z_24.2) then
    k false
    else bif (decide (z_24.1 < (1 : Int))) then
    k false
    else bif (Option.isSome z_25) then
    bif (Option.isSome z_26) then
    bif (!z_27.2) then
    k false
    else bif (!z_28.2.1) then
    k false
    else bif (decide (z_27.1 < (IntKind.wrap .i64 ((16 : Int) - ((z_28.1 : Nat) : Int))))) then
    k false
    else bif z_29 then
    k true
    else bif z_31 then
    bif z_33 then
    k false
    else bif z_35 then
    k false
    else bif z_36 then
    k false
    else bif z_37 then
    k false
    else bif z_39 then
    bif (Option.getD z_38 default) then
    k false
    else k true
    else none
    else none
    else none
    else none
    else none
    else bif z_29 then
    k true
    else bif z_31 then
    bif z_33 then
    k false
    else bif z_35 then
    k false
    else bif z_36 then
    k false
    else bif z_37 then
    k false
    else bif z_39 then
    bif (Option.getD z_38 default) then
    k false
    else k true
    else none
    else none
    else bif z_29 then
    k true
    else bif z_31 then
    bif z_33 then
    k false
    else bif z_35 then
    k false
    else bif z_36 then
    k false
    else bif z_37 then
    k false
    else bif z_39 then
    bif (Option.getD z_38 default) then
    k false
    else k true
    else none
    else none
    else none
    else none
    else none
    else none
    else none
    else none
    else none
    else none
    else none
    else none
    else none
def k37_p (F : Nat) (j9 : List Int) : Option (Bool) := k37_c _ F j9 some
theorem k37_cp (Q : Type) (F : Nat) (j9 : List Int) (k : (Bool) → Option Q) : k37_c Q F j9 k = (k37_p F j9).bind k := by
  simp only [k37_p, k37_c, cond_bindL, none_bindL, some_bindL]
end Go.Lv.P
