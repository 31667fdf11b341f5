/-
Pure functions and what the code of them does, by program; without conditions.
-/
import Derived.Test.YtgmnclpjbhmioaaGreatTZP5
namespace Go.Lv.P
open Go Go.Lv
set_option linter.unusedVariables false
set_option linter.unusedSimpArgs false
set_option maxRecDepth 100000
/-- loop 2 of loop.example/g01194/laws.eqIntA4A4 -/
def laws_eqIntA4A4_s2 (F : Nat) (a7 : List Int) (b8 : List Int) (Q : Type) : (Int) → ((Int) → Option Q) → ((Bool) → Option Q) → Option Q
  | i6, kn, kx =>
    let z_1 : Nat := ((0 : Nat) + ((Int.toNat i6) * (4 : Nat)))
    let z_2 := (laws_eqIntA4_p F (subn 16 a7 z_1 4) (subn 16 b8 z_1 4))
    bif (decide (i6 < (4 : Int))) then
    bif (inR i6 4) then
    bif (inR i6 4) then
    bif (Option.isSome z_2) then
    bif (!(Option.getD z_2 default)) then
    kx true
    else kn (IntKind.wrap .i64 (i6 + (1 : Int)))
    else none
    else none
    else none
    else kx false
def laws_eqIntA4A4_l2 (F : Nat) (a7 : List Int) (b8 : List Int) (i6 : Int) : Option (Bool) := loopC (laws_eqIntA4A4_s2 F a7 b8) F i6 some
theorem laws_eqIntA4A4_s2_nat (F : Nat) (a7 : List Int) (b8 : List Int) : Natural (laws_eqIntA4A4_s2 F a7 b8) := by
  intro Q Q' s kn kx h
  simp only [laws_eqIntA4A4_s2, cond_bindL, none_bindL]
/-- loop.example/g01194/laws.eqIntA4A4 -/
def laws_eqIntA4A4_c (Q : Type) (F : Nat) (a0 : List Int) (b1 : List Int) (k : (Bool) → Option Q) : Option Q :=
    let z_1 := (laws_eqIntA4A4_l2 F a0 b1 (0 : Int))
    bif (Option.isSome z_1) then
    bif (Option.getD z_1 default) then
    k false
    else k true
    else none
def laws_eqIntA4A4_p (F : Nat) (a0 : List Int) (b1 : List Int) : Option (Bool) := laws_eqIntA4A4_c _ F a0 b1 some
theorem laws_eqIntA4A4_cp (Q : Type) (F : Nat) (a0 : List Int) (b1 : List Int) (k : (Bool) → Option Q) : laws_eqIntA4A4_c Q F a0 b1 k = (laws_eqIntA4A4_p F a0 b1).bind k := by
  simp only [laws_eqIntA4A4_p, laws_eqIntA4A4_c, cond_bindL, none_bindL, some_bindL]

/-- loop.example/g01194/laws.eqBoard -/
def laws_eqBoard_c (Q : Type) (F : Nat) (a0 : List Int) (b1 : List Int) (k : (Bool) → Option Q) : Option Q :=
    let z_1 := (laws_eqIntA4A4_p F a0 b1)
    bif (Option.isSome z_1) then
    bif (!(Option.getD z_1 default)) then
    k false
    else k true
    else none
def laws_eqBoard_p (F : Nat) (a0 : List Int) (b1 : List Int) : Option (Bool) := laws_eqBoard_c _ F a0 b1 some
theorem laws_eqBoard_cp (Q : Type) (F : Nat) (a0 : List Int) (b1 : List Int) (k : (Bool) → Option Q) : laws_eqBoard_c Q F a0 b1 k = (laws_eqBoard_p F a0 b1).bind k := by
  simp only [laws_eqBoard_p, laws_eqBoard_c, cond_bindL, none_bindL, some_bindL]

/-- loop.example/g01194/laws.FnExactBackStep -/
def laws_FnExactBackStep_c (Q : Type) (F : Nat) (aB0 : List Int) (aDirection1 : Int) (aK2 : Int) (k : (Bool) → Option Q) : Option Q :=
    let z_1 := (spec_BackStep_p F (laws_toBoard_v aB0) aDirection1 aK2)
    let z_2 := (impl_BackStep_p F (laws_toBoard_v aB0) aDirection1 aK2)
    let z_3 := (Option.getD z_2 default)
    let z_4 := (Option.getD z_1 default)
    let z_5 := (laws_eqBoard_p F z_3.1 z_4.1)
    bif (Option.isSome z_1) then
    bif (Option.isSome z_2) then
    bif (Option.isSome z_5) then
    bif (!(Option.getD z_5 default)) then
    k false
    else bif (!(z_3.2 == z_4.2)) then
    k false
    else k true
    else none
    else none
    else none
def laws_FnExactBackStep_p (F : Nat) (aB0 : List Int) (aDirection1 : Int) (aK2 : Int) : Option (Bool) := laws_FnExactBackStep_c _ F aB0 aDirection1 aK2 some
theorem laws_FnExactBackStep_cp (Q : Type) (F : Nat) (aB0 : List Int) (aDirection1 : Int) (aK2 : Int) (k : (Bool) → Option Q) : laws_FnExactBackStep_c Q F aB0 aDirection1 aK2 k = (laws_FnExactBackStep_p F aB0 aDirection1 aK2).bind k := by
  simp only [laws_FnExactBackStep_p, laws_FnExactBackStep_c, cond_bindL, none_bindL, some_bindL]

/-- loop 4 of loop.example/g01194/laws.eqBoardS -/
def laws_eqBoardS_s4 (F : Nat) (a0 : List (List Int)) (b1 : List (List Int)) (Q : Type) : (Int) → ((Int) → Option Q) → ((Bool) → Option Q) → Option Q
  | i2, kn, kx =>
    let z_1 := (laws_eqBoard_p F (rget a0 (Int.toNat i2)) (rget b1 (Int.toNat i2)))
    bif (decide (i2 < (((List.length a0) : Nat) : Int))) then
    bif (inR i2 (List.length a0)) then
    bif (inR i2 (List.length b1)) then
    bif (Option.isSome z_1) then
    bif (!(Option.getD z_1 default)) then
    kx true
    else kn (IntKind.wrap .i64 (i2 + (1 : Int)))
    else none
    else none
    else none
    else kx false
def laws_eqBoardS_l4 (F : Nat) (a0 : List (List Int)) (b1 : List (List Int)) (i2 : Int) : Option (Bool) := loopC (laws_eqBoardS_s4 F a0 b1) F i2 some
theorem laws_eqBoardS_s4_nat (F : Nat) (a0 : List (List Int)) (b1 : List (List Int)) : Natural (laws_eqBoardS_s4 F a0 b1) := by
  intro Q Q' s kn kx h
  simp only [laws_eqBoardS_s4, cond_bindL, none_bindL]
/-- loop.example/g01194/laws.eqBoardS -/
def laws_eqBoardS_c (Q : Type) (F : Nat) (a0 : List (List Int)) (b1 : List (List Int)) (k : (Bool) → Option Q) : Option Q :=
    let z_1 := (laws_eqBoardS_l4 F a0 b1 (0 : Int))
    bif (!((((List.length a0) : Nat) : Int) == (((List.length b1) : Nat) : Int))) then
    k false
    else bif (Option.isSome z_1) then
    bif (Option.getD z_1 default) then
    k false
    else k true
    else none
def laws_eqBoardS_p (F : Nat) (a0 : List (List Int)) (b1 : List (List Int)) : Option (Bool) := laws_eqBoardS_c _ F a0 b1 some
theorem laws_eqBoardS_cp (Q : Type) (F : Nat) (a0 : List (List Int)) (b1 : List (List Int)) (k : (Bool) → Option Q) : laws_eqBoardS_c Q F a0 b1 k = (laws_eqBoardS_p F a0 b1).bind k := by
  simp only [laws_eqBoardS_p, laws_eqBoardS_c, cond_bindL, none_bindL, some_bindL]

/-- loop 2 of loop.example/g01194/laws.markBoardS -/
def laws_markBoardS_s2 (F : Nat) (a1 : Nat) (k2 : Int) (a4 : List (List Int)) (Q : Type) : (Int) → ((Int) → Option Q) → ((Unit) → Option Q) → Option Q
  | i3, kn, kx =>
    bif (decide (i3 < ((a1 : Nat) : Int))) then
    kn (IntKind.wrap .i64 (i3 + (1 : Int)))
    else kx ()
def laws_markBoardS_l2 (F : Nat) (a1 : Nat) (k2 : Int) (a4 : List (List Int)) (i3 : Int) : Option (Unit) := loopC (laws_markBoardS_s2 F a1 k2 a4) F i3 some
theorem laws_markBoardS_s2_nat (F : Nat) (a1 : Nat) (k2 : Int) (a4 : List (List Int)) : Natural (laws_markBoardS_s2 F a1 k2 a4) := by
  intro Q Q' s kn kx h
  simp only [laws_markBoardS_s2, cond_bindL, none_bindL]
/-- loop.example/g01194/laws.markBoardS -/
def laws_markBoardS_c (Q : Type) (F : Nat) (a1 : Nat) (k2 : Int) (a3 : List (List Int)) (k : (Unit) → Option Q) : Option Q :=
    bif (Option.isSome (laws_markBoardS_l2 F a1 k2 a3 (0 : Int))) then
    k ()
    else none
def laws_markBoardS_p (F : Nat) (a1 : Nat) (k2 : Int) (a3 : List (List Int)) : Option (Unit) := laws_markBoardS_c _ F a1 k2 a3 some
theorem laws_markBoardS_cp (Q : Type) (F : Nat) (a1 : Nat) (k2 : Int) (a3 : List (List Int)) (k : (Unit) → Option Q) : laws_markBoardS_c Q F a1 k2 a3 k = (laws_markBoardS_p F a1 k2 a3).bind k := by
  simp only [laws_markBoardS_p, laws_markBoardS_c, cond_bindL, none_bindL, some_bindL]

/-- loop 2 of loop.example/g01194/laws.heldBoardS -/
def laws_heldBoardS_s2 (F : Nat) (a0 : List (List Int)) (k1 : Int) (Q : Type) : (Int) → ((Int) → Option Q) → ((Unit) → Option Q) → Option Q
  | i2, kn, kx =>
    bif (decide (i2 < (((List.length a0) : Nat) : Int))) then
    kn (IntKind.wrap .i64 (i2 + (1 : Int)))
    else kx ()
def laws_heldBoardS_l2 (F : Nat) (a0 : List (List Int)) (k1 : Int) (i2 : Int) : Option (Unit) := loopC (laws_heldBoardS_s2 F a0 k1) F i2 some
theorem laws_heldBoardS_s2_nat (F : Nat) (a0 : List (List Int)) (k1 : Int) : Natural (laws_heldBoardS_s2 F a0 k1) := by
  intro Q Q' s kn kx h
  simp only [laws_heldBoardS_s2, cond_bindL, none_bindL]
/-- loop.example/g01194/laws.heldBoardS -/
def laws_heldBoardS_c (Q : Type) (F : Nat) (a0 : List (List Int)) (k1 : Int) (k : (Unit) → Option Q) : Option Q :=
    bif (Option.isSome (laws_heldBoardS_l2 F a0 k1 (0 : Int))) then
    k ()
    else none
def laws_heldBoardS_p (F : Nat) (a0 : List (List Int)) (k1 : Int) : Option (Unit) := laws_heldBoardS_c _ F a0 k1 some
theorem laws_heldBoardS_cp (Q : Type) (F : Nat) (a0 : List (List Int)) (k1 : Int) (k : (Unit) → Option Q) : laws_heldBoardS_c Q F a0 k1 k = (laws_heldBoardS_p F a0 k1).bind k := by
  simp only [laws_heldBoardS_p, laws_heldBoardS_c, cond_bindL, none_bindL, some_bindL]

/-- loop.example/g01194/laws.FnExactBoardsBefore -/
def laws_FnExactBoardsBefore_c (Q : Type) (F : Nat) (aB0 : List Int) (aDirection1 : Int) (k : (Bool) → Option Q) : Option Q :=
    let z_1 := (spec_BoardsBefore_p F (laws_toBoard_v aB0) aDirection1)
    let z_2 := (impl_BoardsBefore_p F (laws_toBoard_v aB0) aDirection1)
    let z_3 : Bool := (Option.isSome z_2)
    let z_4 := (Option.getD z_2 default)
    let z_5 : List (List Int) := (subn (List.length z_4.2.2) z_4.2.2 0 z_4.1)
    let z_6 := (Option.getD z_1 default)
    let z_7 : Nat := (List.length z_6.2)
    let z_8 := (laws_eqBoardS_p F z_5 (subn z_7 z_6.2 0 z_7))
    let z_9 : Bool := (Option.isSome z_8)
    let z_10 : Bool := (!(Option.getD z_8 default))
    let z_11 : Bool := (!(z_4.2.1 == z_6.1))
    let z_12 : Bool := (Option.isSome (laws_heldBoardS_p F z_5 (1 : Int)))
    bif (Option.isSome z_1) then
    bif z_3 then
    bif z_9 then
    bif z_10 then
    k false
    else bif z_11 then
    k false
    else bif (Option.isSome (laws_markBoardS_p F z_4.1 (1 : Int) z_4.2.2)) then
    bif z_12 then
    bif z_3 then
    bif z_9 then
    bif z_10 then
    k false
    else bif z_11 then
    k false
    else bif z_12 then
    k true
    else none
    else none
    else none
    else none
    else none
    else none
    else none
    else none
def laws_FnExactBoardsBefore_p (F : Nat) (aB0 : List Int) (aDirection1 : Int) : Option (Bool) := laws_FnExactBoardsBefore_c _ F aB0 aDirection1 some
theorem laws_FnExactBoardsBefore_cp (Q : Type) (F : Nat) (aB0 : List Int) (aDirection1 : Int) (k : (Bool) → Option Q) : laws_FnExactBoardsBefore_c Q F aB0 aDirection1 k = (laws_FnExactBoardsBefore_p F aB0 aDirection1).bind k := by
  simp only [laws_FnExactBoardsBefore_p, laws_FnExactBoardsBefore_c, cond_bindL, none_bindL, some_bindL]
end Go.Lv.P
