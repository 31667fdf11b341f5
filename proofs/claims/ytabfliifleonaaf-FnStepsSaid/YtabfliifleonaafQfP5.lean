/-
Pure functions and what the code of them does, by program; without conditions.
-/
import Derived.Test.YtabfliifleonaafQfP4
namespace Go.Lv.P
open Go Go.Lv
set_option linter.unusedVariables false
set_option linter.unusedSimpArgs false
set_option maxRecDepth 100000
/-- loop 4 of loop.example/g01194/laws.vSteps -/
def laws_vSteps_s4 (F : Nat) (a0 : List (List Int)) (b1 : List (List Int)) (Q : Type) : (Int) → ((Int) → Option Q) → ((Bool) → Option Q) → Option Q
  | i2, kn, kx =>
    bif (decide (i2 < (((List.length a0) : Nat) : Int))) then
    bif (inR i2 (List.length a0)) then
    bif (inR i2 (List.length b1)) then
    bif (!((rget a0 (Int.toNat i2)) == (rget b1 (Int.toNat i2)))) then
    kx true
    else kn (IntKind.wrap .i64 (i2 + (1 : Int)))
    else none
    else none
    else kx false
def laws_vSteps_l4 (F : Nat) (a0 : List (List Int)) (b1 : List (List Int)) (i2 : Int) : Option (Bool) := loopC (laws_vSteps_s4 F a0 b1) F i2 some
theorem laws_vSteps_s4_nat (F : Nat) (a0 : List (List Int)) (b1 : List (List Int)) : Natural (laws_vSteps_s4 F a0 b1) := by
  intro Q Q' s kn kx h
  simp only [laws_vSteps_s4, cond_bindL, none_bindL]
/-- loop.example/g01194/laws.vSteps -/
def laws_vSteps_c (Q : Type) (F : Nat) (a0 : List (List Int)) (b1 : List (List Int)) (k : (Bool) → Option Q) : Option Q :=
    let z_1 := (laws_vSteps_l4 F a0 b1 (0 : Int))
    bif (!((((List.length a0) : Nat) : Int) == (((List.length b1) : Nat) : Int))) then
    k false
    else bif (Option.isSome z_1) then
    bif (Option.getD z_1 default) then
    k false
    else k true
    else none
def laws_vSteps_p (F : Nat) (a0 : List (List Int)) (b1 : List (List Int)) : Option (Bool) := laws_vSteps_c _ F a0 b1 some
theorem laws_vSteps_cp (Q : Type) (F : Nat) (a0 : List (List Int)) (b1 : List (List Int)) (k : (Bool) → Option Q) : laws_vSteps_c Q F a0 b1 k = (laws_vSteps_p F a0 b1).bind k := by
  simp only [laws_vSteps_p, laws_vSteps_c, cond_bindL, none_bindL, some_bindL]

/-- (loop.example/g01194/impl.Board).sum -/
def impl_Board_sum_c (Q : Type) (b0 : List Int) (k : (Int) → Option Q) : Option Q :=
    let z_1 := (impl_Board_at_p [(0 : Int), (0 : Int)] b0)
    let z_2 := (impl_Board_at_p [(0 : Int), (1 : Int)] b0)
    let z_3 := (impl_Board_at_p [(0 : Int), (2 : Int)] b0)
    let z_4 := (impl_Board_at_p [(0 : Int), (3 : Int)] b0)
    let z_5 := (impl_Board_at_p [(1 : Int), (0 : Int)] b0)
    let z_6 := (impl_Board_at_p [(1 : Int), (1 : Int)] b0)
    let z_7 := (impl_Board_at_p [(1 : Int), (2 : Int)] b0)
    let z_8 := (impl_Board_at_p [(1 : Int), (3 : Int)] b0)
    let z_9 := (impl_Board_at_p [(2 : Int), (0 : Int)] b0)
    let z_10 := (impl_Board_at_p [(2 : Int), (1 : Int)] b0)
    let z_11 := (impl_Board_at_p [(2 : Int), (2 : Int)] b0)
    let z_12 := (impl_Board_at_p [(2 : Int), (3 : Int)] b0)
    let z_13 := (impl_Board_at_p [(3 : Int), (0 : Int)] b0)
    let z_14 := (impl_Board_at_p [(3 : Int), (1 : Int)] b0)
    let z_15 := (impl_Board_at_p [(3 : Int), (2 : Int)] b0)
    let z_16 := (impl_Board_at_p [(3 : Int), (3 : Int)] b0)
    bif (Option.isSome z_1) then
    bif (Option.isSome (impl_worth_p (iget b0 (Option.getD z_1 default)))) then
    bif (Option.isSome z_2) then
    bif (Option.isSome (impl_worth_p (iget b0 (Option.getD z_2 default)))) then
    bif (Option.isSome z_3) then
    bif (Option.isSome (impl_worth_p (iget b0 (Option.getD z_3 default)))) then
    bif (Option.isSome z_4) then
    bif (Option.isSome (impl_worth_p (iget b0 (Option.getD z_4 default)))) then
    bif (Option.isSome z_5) then
    bif (Option.isSome (impl_worth_p (iget b0 (Option.getD z_5 default)))) then
    bif (Option.isSome z_6) then
    bif (Option.isSome (impl_worth_p (iget b0 (Option.getD z_6 default)))) then
    bif (Option.isSome z_7) then
    bif (Option.isSome (impl_worth_p (iget b0 (Option.getD z_7 default)))) then
    bif (Option.isSome z_8) then
    bif (Option.isSome (impl_worth_p (iget b0 (Option.getD z_8 default)))) then
    bif (Option.isSome z_9) then
    bif (Option.isSome (impl_worth_p (iget b0 (Option.getD z_9 default)))) then
    bif (Option.isSome z_10) then
    bif (Option.isSome (impl_worth_p (iget b0 (Option.getD z_10 default)))) then
    bif (Option.isSome z_11) then
    bif (Option.isSome (impl_worth_p (iget b0 (Option.getD z_11 default)))) then
    bif (Option.isSome z_12) then
    bif (Option.isSome (impl_worth_p (iget b0 (Option.getD z_12 default)))) then
    bif (Option.isSome z_13) then
    bif (Option.isSome (impl_worth_p (iget b0 (Option.getD z_13 default)))) then
    bif (Option.isSome z_14) then
    bif (Option.isSome (impl_worth_p (iget b0 (Option.getD z_14 default)))) then
    bif (Option.isSome z_15) then
    bif (Option.isSome (impl_worth_p (iget b0 (Option.getD z_15 default)))) then
    bif (Option.isSome z_16) then
    bif (Option.isSome (impl_worth_p (iget b0 (Option.getD z_16 default)))) then
    k (IntKind.wrap .i64 ((IntKind.wrap .i64 ((IntKind.wrap .i64 ((IntKind.wrap .i64 ((IntKind.wrap .i64 ((IntKind.wrap .i64 ((IntKind.wrap .i64 ((IntKind.wrap .i64 ((IntKind.wrap .i64 ((IntKind.wrap .i64 ((IntKind.wrap .i64 ((IntKind.wrap .i64 ((IntKind.wrap .i64 ((IntKind.wrap .i64 ((IntKind.wrap .i64 ((IntKind.wrap .i64 ((0 : Int) + (Option.getD (impl_worth_p (iget b0 (Option.getD z_1 default))) default))) + (Option.getD (impl_worth_p (iget b0 (Option.getD z_2 default))) default))) + (Option.getD (impl_worth_p (iget b0 (Option.getD z_3 default))) default))) + (Option.getD (impl_worth_p (iget b0 (Option.getD z_4 default))) default))) + (Option.getD (impl_worth_p (iget b0 (Option.getD z_5 default))) default))) + (Option.getD (impl_worth_p (iget b0 (Option.getD z_6 default))) default))) + (Option.getD (impl_worth_p (iget b0 (Option.getD z_7 default))) default))) + (Option.getD (impl_worth_p (iget b0 (Option.getD z_8 default))) default))) + (Option.getD (impl_worth_p (iget b0 (Option.getD z_9 default))) default))) + (Option.getD (impl_worth_p (iget b0 (Option.getD z_10 default))) default))) + (Option.getD (impl_worth_p (iget b0 (Option.getD z_11 default))) default))) + (Option.getD (impl_worth_p (iget b0 (Option.getD z_12 default))) default))) + (Option.getD (impl_worth_p (iget b0 (Option.getD z_13 default))) default))) + (Option.getD (impl_worth_p (iget b0 (Option.getD z_14 default))) default))) + (Option.getD (impl_worth_p (iget b0 (Option.getD z_15 default))) default))) + (Option.getD (impl_worth_p (iget b0 (Option.getD z_16 default))) default)))
    else none
    else none
    else none
    else none
    else none
    else none
    else none
    else none
    else none
    else none
    else none
    else none
    else none
    else none
    else none
    else none
    else none
    else none
    else none
    else none
    else none
    else none
    else none
    else none
    else none
    else none
    else none
    else none
    else none
    else none
    else none
    else none
def impl_Board_sum_p (b0 : List Int) : Option (Int) := impl_Board_sum_c _ b0 some
theorem impl_Board_sum_cp (Q : Type) (b0 : List Int) (k : (Int) → Option Q) : impl_Board_sum_c Q b0 k = (impl_Board_sum_p b0).bind k := by
  simp only [impl_Board_sum_p, impl_Board_sum_c, cond_bindL, none_bindL, some_bindL]

/-- loop.example/g01194/impl.SumOf -/
def impl_SumOf_c (Q : Type) (F : Nat) (b0 : List Int) (k : (Int × Bool) → Option Q) : Option Q :=
    let z_1 := (impl_IsBoard_p F b0)
    bif (Option.isSome z_1) then
    bif (!(Option.getD z_1 default)) then
    k ((0 : Int), false)
    else bif (Option.isSome (impl_Board_sum_p b0)) then
    k ((Option.getD (impl_Board_sum_p b0) default), true)
    else none
    else none
def impl_SumOf_p (F : Nat) (b0 : List Int) : Option (Int × Bool) := impl_SumOf_c _ F b0 some
theorem impl_SumOf_cp (Q : Type) (F : Nat) (b0 : List Int) (k : (Int × Bool) → Option Q) : impl_SumOf_c Q F b0 k = (impl_SumOf_p F b0).bind k := by
  simp only [impl_SumOf_p, impl_SumOf_c, cond_bindL, none_bindL, some_bindL]

/-- loop.example/g01194/impl.SlideBoard -/
def impl_SlideBoard_c (Q : Type) (F : Nat) (b0 : List Int) (direction1 : Int) (k : (List Int × Int × Bool) → Option Q) : Option Q :=
    let z_1 := (impl_IsBoard_p F b0)
    let z_2 : List Int := [(0 : Int), (0 : Int), (0 : Int), (0 : Int), (0 : Int), (0 : Int), (0 : Int), (0 : Int), (0 : Int), (0 : Int), (0 : Int), (0 : Int), (0 : Int), (0 : Int), (0 : Int), (0 : Int)]
    let z_3 := (impl_Board_slide_p F b0 direction1)
    let z_4 := (Option.getD z_3 default)
    bif (Option.isSome z_1) then
    bif (!(Option.getD z_1 default)) then
    k (z_2, (0 : Int), false)
    else bif (!(impl_isDirection_v direction1)) then
    k (z_2, (0 : Int), false)
    else bif (Option.isSome z_3) then
    k (z_4.1, z_4.2.1, true)
    else none
    else none
def impl_SlideBoard_p (F : Nat) (b0 : List Int) (direction1 : Int) : Option (List Int × Int × Bool) := impl_SlideBoard_c _ F b0 direction1 some
theorem impl_SlideBoard_cp (Q : Type) (F : Nat) (b0 : List Int) (direction1 : Int) (k : (List Int × Int × Bool) → Option Q) : impl_SlideBoard_c Q F b0 direction1 k = (impl_SlideBoard_p F b0 direction1).bind k := by
  simp only [impl_SlideBoard_p, impl_SlideBoard_c, cond_bindL, none_bindL, some_bindL]

/-- loop.example/g01194/impl.TakeTile -/
def impl_TakeTile_c (Q : Type) (F : Nat) (b0 : List Int) (cell1 : List Int) (k : (List Int × Int × Bool) → Option Q) : Option Q :=
    let z_1 := (impl_IsBoard_p F b0)
    let z_2 : List Int := [(0 : Int), (0 : Int), (0 : Int), (0 : Int), (0 : Int), (0 : Int), (0 : Int), (0 : Int), (0 : Int), (0 : Int), (0 : Int), (0 : Int), (0 : Int), (0 : Int), (0 : Int), (0 : Int)]
    let z_3 := (impl_Board_at_p cell1 b0)
    let z_4 : Bool := (Option.isSome z_3)
    let z_5 : Int := (iget b0 (Option.getD z_3 default))
    bif (Option.isSome z_1) then
    bif (!(Option.getD z_1 default)) then
    k (z_2, (0 : Int), false)
    else bif (!(impl_isCell_v cell1)) then
    k (z_2, (0 : Int), false)
    else bif z_4 then
    bif (z_5 == (0 : Int)) then
    k (z_2, (0 : Int), false)
    else bif z_4 then
    bif z_4 then
    k ((iset b0 (Option.getD z_3 default) (0 : Int)), z_5, true)
    else none
    else none
    else none
    else none
def impl_TakeTile_p (F : Nat) (b0 : List Int) (cell1 : List Int) : Option (List Int × Int × Bool) := impl_TakeTile_c _ F b0 cell1 some
theorem impl_TakeTile_cp (Q : Type) (F : Nat) (b0 : List Int) (cell1 : List Int) (k : (List Int × Int × Bool) → Option Q) : impl_TakeTile_c Q F b0 cell1 k = (impl_TakeTile_p F b0 cell1).bind k := by
  simp only [impl_TakeTile_p, impl_TakeTile_c, cond_bindL, none_bindL, some_bindL]

/-- loop.example/g01194/impl.EmptyCells -/
def impl_EmptyCells_c (Q : Type) (F : Nat) (b0 : List Int) (k : (Nat × Bool × List (List Int)) → Option Q) : Option Q :=
    let z_1 := (impl_IsBoard_p F b0)
    let z_2 := (impl_Board_empty_p F b0)
    let z_3 := (Option.getD z_2 default)
    bif (Option.isSome z_1) then
    bif (!(Option.getD z_1 default)) then
    k ((0 : Nat), false, ([] : List (List Int)))
    else bif (Option.isSome z_2) then
    k (z_3.1, true, z_3.2)
    else none
    else none
def impl_EmptyCells_p (F : Nat) (b0 : List Int) : Option (Nat × Bool × List (List Int)) := impl_EmptyCells_c _ F b0 some
theorem impl_EmptyCells_cp (Q : Type) (F : Nat) (b0 : List Int) (k : (Nat × Bool × List (List Int)) → Option Q) : impl_EmptyCells_c Q F b0 k = (impl_EmptyCells_p F b0).bind k := by
  simp only [impl_EmptyCells_p, impl_EmptyCells_c, cond_bindL, none_bindL, some_bindL]

/-- loop 24 of loop.example/g01194/laws.FnSteps -/
def laws_FnSteps_s24 (F : Nat) (d3 : Int) (ok6 : Bool) (between14 : Nat) (there15 : Bool) (many16 : Int) (b18 : List Int) (list19 : List (List Int)) (x20 : List Int) (y21 : List Int) (between22 : List (List Int)) (Q : Type) : (Int) → ((Int) → Option Q) → ((Bool) → Option Q) → Option Q
  | i17, kn, kx =>
    let z_1 := (impl_DoStep_p F x20 (rget between22 ((0 : Nat) + (Int.toNat i17))))
    let z_2 := (Option.getD z_1 default)
    bif there15 then
    bif (decide (i17 < ((between14 : Nat) : Int))) then
    bif (inR i17 between14) then
    bif (Option.isSome z_1) then
    bif (!z_2.2.2) then
    kx true
    else bif (!(z_2.1 == y21)) then
    kx true
    else kn (IntKind.wrap .i64 (i17 + (1 : Int)))
    else none
    else none
    else kx false
    else kx false
def laws_FnSteps_l24 (F : Nat) (d3 : Int) (ok6 : Bool) (between14 : Nat) (there15 : Bool) (many16 : Int) (b18 : List Int) (list19 : List (List Int)) (x20 : List Int) (y21 : List Int) (between22 : List (List Int)) (i17 : Int) : Option (Bool) := loopC (laws_FnSteps_s24 F d3 ok6 between14 there15 many16 b18 list19 x20 y21 between22) F i17 some
theorem laws_FnSteps_s24_nat (F : Nat) (d3 : Int) (ok6 : Bool) (between14 : Nat) (there15 : Bool) (many16 : Int) (b18 : List Int) (list19 : List (List Int)) (x20 : List Int) (y21 : List Int) (between22 : List (List Int)) : Natural (laws_FnSteps_s24 F d3 ok6 between14 there15 many16 b18 list19 x20 y21 between22) := by
  intro Q Q' s kn kx h
  simp only [laws_FnSteps_s24, cond_bindL, none_bindL]
/-- loop.example/g01194/laws.FnSteps -/
def laws_FnSteps_c (Q : Type) (F : Nat) (code0 : List Int) (k : (Bool) → Option Q) : Option Q :=
    let z_1 := (spec_DrawStepsOf_p F code0)
    let z_2 := (Option.getD z_1 default)
    let z_3 := (impl_StepsOf_p F z_2.1 z_2.2)
    let z_4 := (spec_StepsOf_p F z_2.1 z_2.2)
    let z_5 : Nat := (List.length (Option.getD (laws_vCut_p code0 (1 : Int)) default))
    let z_6 := (spec_DrawDoStep_p F (subn z_5 (Option.getD (laws_vCut_p code0 (1 : Int)) default) 0 z_5))
    let z_7 := (Option.getD z_6 default)
    let z_8 := (impl_DoStep_p F z_7.1 z_7.2)
    let z_9 := (spec_DoStep_p F z_7.1 z_7.2)
    let z_10 : Nat := (List.length (Option.getD (laws_vCut_p code0 (2 : Int)) default))
    let z_11 := (spec_DrawStepBetween_p F (subn z_10 (Option.getD (laws_vCut_p code0 (2 : Int)) default) 0 z_10))
    let z_12 := (Option.getD z_11 default)
    let z_13 := (impl_StepBetween_p F z_12.1 z_12.2)
    let z_14 := (spec_StepBetween_p F z_12.1 z_12.2)
    let z_15 := (impl_CountNext_p F z_2.1)
    let z_16 := (spec_CountNext_p F z_2.1)
    let z_17 := (Option.getD z_3 default)
    let z_18 := (Option.getD z_4 default)
    let z_19 : Nat := (List.length z_17.2)
    let z_20 : Nat := (List.length z_18.2)
    let z_21 := (laws_vSteps_p F (subn z_19 z_17.2 0 z_19) (subn z_20 z_18.2 0 z_20))
    let z_22 := (Option.getD z_8 default)
    let z_23 := (Option.getD z_9 default)
    let z_24 := (Option.getD z_13 default)
    let z_25 := (Option.getD z_14 default)
    let z_26 : Nat := (List.length z_25.2)
    let z_27 := (laws_vSteps_p F (subn (List.length z_24.2.2) z_24.2.2 0 z_24.1) (subn z_26 z_25.2 0 z_26))
    let z_28 := (Option.getD z_15 default)
    let z_29 := (Option.getD z_16 default)
    let z_30 := (impl_SumOf_p F z_7.1)
    let z_31 : Bool := (Option.isSome z_30)
    let z_32 := (impl_SumOf_p F z_22.1)
    let z_33 : Bool := (Option.isSome z_32)
    let z_34 := (impl_SlideBoard_p F z_7.1 (iget z_7.2 0))
    let z_35 : Bool := (Option.isSome z_34)
    let z_36 := (impl_TakeTile_p F z_22.1 (sub z_7.2 1 2))
    let z_37 : Bool := (Option.isSome z_36)
    let z_38 := (Option.getD z_30 default)
    let z_39 : Bool := (!z_38.2)
    let z_40 := (Option.getD z_32 default)
    let z_41 : Bool := (!z_40.2)
    let z_42 := (Option.getD z_34 default)
    let z_43 : Bool := (!z_42.2.2)
    let z_44 := (Option.getD z_36 default)
    let z_45 : Bool := (!z_44.2.2)
    let z_46 : Int := (iget z_7.2 3)
    let z_47 : Bool := (!((IntKind.wrap .i64 (z_40.1 - z_38.1)) == (IntKind.wrap .i64 ((2 : Int) * z_46))))
    let z_48 : Bool := (!(z_42.2.1 == z_22.2.1))
    let z_49 : Bool := (!(z_44.1 == z_42.1))
    let z_50 : Bool := (!(z_44.2.1 == z_46))
    let z_51 : Bool := (z_42.1 == z_7.1)
    let z_52 := (laws_FnSteps_l24 F z_2.2 z_17.1 z_24.1 z_24.2.1 z_28.1 z_2.1 z_17.2 z_12.1 z_12.2 z_24.2.2 (0 : Int))
    let z_53 : Bool := ((Nat.beq z_19 z_19) && (Option.isSome z_52))
    let z_54 : Bool := (!z_17.1)
    let z_55 := (impl_SlideBoard_p F z_2.1 z_2.2)
    let z_56 : Bool := (Option.isSome z_55)
    let z_57 := (Option.getD z_55 default)
    let z_58 := (impl_EmptyCells_p F z_57.1)
    let z_59 : Bool := (Option.isSome z_58)
    let z_60 : Bool := (!z_57.2.2)
    let z_61 := (Option.getD z_58 default)
    let z_62 : Bool := (!z_61.2.1)
    let z_63 : Bool := (z_57.1 == z_2.1)
    let z_64 : Int := ((z_19 : Nat) : Int)
    let z_65 : Bool := (!(z_64 == (0 : Int)))
    let z_66 : Bool := (!z_63)
    let z_67 : Bool := (!(z_64 == (IntKind.wrap .i64 ((2 : Int) * ((z_61.1 : Nat) : Int)))))
    let z_68 : Bool := (decide (z_28.1 < z_64))
    bif (laws_vBig_v code0) then
    k true
    else bif (Option.isSome z_1) then
    bif (Option.isSome z_3) then
    bif (Option.isSome z_4) then
    bif (Option.isSome (laws_vCut_p code0 (1 : Int))) then
    bif (Option.isSome z_6) then
    bif (Option.isSome z_8) then
    bif (Option.isSome z_9) then
    bif (Option.isSome (laws_vCut_p code0 (2 : Int))) then
    bif (Option.isSome z_11) then
    bif (Option.isSome z_13) then
    bif (Option.isSome z_14) then
    bif (Option.isSome z_15) then
    bif (Option.isSome z_16) then
    bif (!(z_17.1 == z_18.1)) then
    k false
    else bif (Option.isSome z_21) then
    bif (!(Option.getD z_21 default)) then
    k false
    else bif (!(z_22.1 == z_23.1)) then
    k false
    else bif (!(z_22.2.1 == z_23.2.1)) then
    k false
    else bif (!(z_22.2.2 == z_23.2.2)) then
    k false
    else bif (!(z_24.2.1 == z_25.1)) then
    k false
    else bif (Option.isSome z_27) then
    bif (!(Option.getD z_27 default)) then
    k false
    else bif (!(z_28.1 == z_29.1)) then
    k false
    else bif (!(z_28.2 == z_29.2)) then
    k false
    else bif z_17.1 then
    bif (!z_28.2) then
    k false
    else bif z_22.2.2 then
    bif z_31 then
    bif z_33 then
    bif z_35 then
    bif z_37 then
    bif z_39 then
    k false
    else bif z_41 then
    k false
    else bif z_43 then
    k false
    else bif z_45 then
    k false
    else bif z_47 then
    k false
    else bif z_48 then
    k false
    else bif z_49 then
    k false
    else bif z_50 then
    k false
    else bif z_51 then
    k false
    else bif z_53 then
    bif (Option.getD z_52 default) then
    k false
    else bif z_54 then
    k true
    else bif z_56 then
    bif z_59 then
    bif z_60 then
    k false
    else bif z_62 then
    k false
    else bif z_63 then
    bif z_65 then
    k false
    else bif z_66 then
    bif z_67 then
    k false
    else bif z_68 then
    k false
    else k true
    else bif z_68 then
    k false
    else k true
    else bif z_66 then
    bif z_67 then
    k false
    else bif z_68 then
    k false
    else k true
    else bif z_68 then
    k false
    else k true
    else none
    else none
    else none
    else none
    else none
    else none
    else none
    else bif z_53 then
    bif (Option.getD z_52 default) then
    k false
    else bif z_54 then
    k true
    else bif z_56 then
    bif z_59 then
    bif z_60 then
    k false
    else bif z_62 then
    k false
    else bif z_63 then
    bif z_65 then
    k false
    else bif z_66 then
    bif z_67 then
    k false
    else bif z_68 then
    k false
    else k true
    else bif z_68 then
    k false
    else k true
    else bif z_66 then
    bif z_67 then
    k false
    else bif z_68 then
    k false
    else k true
    else bif z_68 then
    k false
    else k true
    else none
    else none
    else none
    else bif z_22.2.2 then
    bif z_31 then
    bif z_33 then
    bif z_35 then
    bif z_37 then
    bif z_39 then
    k false
    else bif z_41 then
    k false
    else bif z_43 then
    k false
    else bif z_45 then
    k false
    else bif z_47 then
    k false
    else bif z_48 then
    k false
    else bif z_49 then
    k false
    else bif z_50 then
    k false
    else bif z_51 then
    k false
    else bif z_53 then
    bif (Option.getD z_52 default) then
    k false
    else bif z_54 then
    k true
    else bif z_56 then
    bif z_59 then
    bif z_60 then
    k false
    else bif z_62 then
    k false
    else bif z_63 then
    bif z_65 then
    k false
    else bif z_66 then
    bif z_67 then
    k false
    else bif z_68 then
    k false
    else k true
    else bif z_68 then
    k false
    else k true
    else bif z_66 then
    bif z_67 then
    k false
    else bif z_68 then
    k false
    else k true
    else bif z_68 then
    k false
    else k true
    else none
    else none
    else none
    else none
    else none
    else none
    else none
    else bif z_53 then
    bif (Option.getD z_52 default) then
    k false
    else bif z_54 then
    k true
    else bif z_56 then
    bif z_59 then
    bif z_60 then
    k false
    else bif z_62 then
    k false
    else bif z_63 then
    bif z_65 then
    k false
    else bif z_66 then
    bif z_67 then
    k false
    else bif z_68 then
    k false
    else k true
    else bif z_68 then
    k false
    else k true
    else bif z_66 then
    bif z_67 then
    k false
    else bif z_68 then
    k false
    else k true
    else bif z_68 then
    k false
    else k true
    else none
    else none
    else none
    else none
    else none
    else none
    else none
    else none
    else none
    else none
    else none
    else none
    else none
    else none
    else none
    else none
    else none
    else none
def laws_FnSteps_p (F : Nat) (code0 : List Int) : Option (Bool) := laws_FnSteps_c _ F code0 some
theorem laws_FnSteps_cp (Q : Type) (F : Nat) (code0 : List Int) (k : (Bool) → Option Q) : laws_FnSteps_c Q F code0 k = (laws_FnSteps_p F code0).bind k := by
  simp only [laws_FnSteps_p, laws_FnSteps_c, cond_bindL, none_bindL, some_bindL]
end Go.Lv.P
