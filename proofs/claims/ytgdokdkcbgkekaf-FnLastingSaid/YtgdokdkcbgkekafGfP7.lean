/-
Pure functions and what the code of them does, by program; without conditions.
-/
import Derived.Test.YtgdokdkcbgkekafGfP6
namespace Go.Lv.P
open Go Go.Lv
set_option linter.unusedVariables false
set_option linter.unusedSimpArgs false
set_option maxRecDepth 100000
/-- loop.example/g01194/impl.IsOver -/
def impl_IsOver_c (Q : Type) (F : Nat) (b0 : List Int) (k : (Bool × Bool) → Option Q) : Option Q :=
    let z_1 := (impl_IsBoard_p F b0)
    let z_2 := (impl_Board_isOver_p F b0)
    bif (Option.isSome z_1) then
    bif (!(Option.getD z_1 default)) then
    k (false, false)
    else bif (Option.isSome z_2) then
    k ((Option.getD z_2 default), true)
    else none
    else none
def impl_IsOver_p (F : Nat) (b0 : List Int) : Option (Bool × Bool) := impl_IsOver_c _ F b0 some
theorem impl_IsOver_cp (Q : Type) (F : Nat) (b0 : List Int) (k : (Bool × Bool) → Option Q) : impl_IsOver_c Q F b0 k = (impl_IsOver_p F b0).bind k := by
  simp only [impl_IsOver_p, impl_IsOver_c, cond_bindL, none_bindL, some_bindL]

/-- loop.example/g01194/impl.WorstTile$1 -/
def impl_WorstTile_f1_c (Q : Type) (F : Nat) (own0 : List Int) (k : (Int) → Option Q) : Option Q :=
    let z_1 := (impl_Board_moves_p F own0)
    bif (Option.isSome z_1) then
    k (((List.length (Option.getD z_1 default)) : Nat) : Int)
    else none
def impl_WorstTile_f1_p (F : Nat) (own0 : List Int) : Option (Int) := impl_WorstTile_f1_c _ F own0 some
theorem impl_WorstTile_f1_cp (Q : Type) (F : Nat) (own0 : List Int) (k : (Int) → Option Q) : impl_WorstTile_f1_c Q F own0 k = (impl_WorstTile_f1_p F own0).bind k := by
  simp only [impl_WorstTile_f1_p, impl_WorstTile_f1_c, cond_bindL, none_bindL, some_bindL]

/-- loop 3 of (loop.example/g01194/impl.Board).worst -/
def impl_Board_worst_impl_WorstTile_f1_s3 (F : Nat) (t1412 : Int) (b14 : List Int) (t1317 : List (List Int)) (Q : Type) : (Int × Int × List Int) → ((Int × Int × List Int) → Option Q) → ((Int × List Int) → Option Q) → Option Q
  | (least9, t1513, out16), kn, kx =>
    let z_1 : List Int := (rget t1317 ((0 : Nat) + (Int.toNat t1513)))
    let z_2 := (impl_Board_placed_p b14 z_1)
    let z_3 := (impl_WorstTile_f1_p F (Option.getD z_2 default))
    let z_4 : Int := (IntKind.wrap .i64 (t1513 + (1 : Int)))
    bif (decide (t1513 < t1412)) then
    bif (inR t1513 (List.length t1317)) then
    bif (Option.isSome z_2) then
    bif (Option.isSome z_3) then
    bif (decide (least9 < (0 : Int))) then
    kn ((Option.getD z_3 default), z_4, z_1)
    else bif (decide ((Option.getD z_3 default) < least9)) then
    kn ((Option.getD z_3 default), z_4, z_1)
    else kn (least9, z_4, out16)
    else none
    else none
    else none
    else kx (least9, out16)
def impl_Board_worst_impl_WorstTile_f1_l3 (F : Nat) (t1412 : Int) (b14 : List Int) (t1317 : List (List Int)) (least9 : Int) (t1513 : Int) (out16 : List Int) : Option (Int × List Int) := loopC (impl_Board_worst_impl_WorstTile_f1_s3 F t1412 b14 t1317) F (least9, t1513, out16) some
theorem impl_Board_worst_impl_WorstTile_f1_s3_nat (F : Nat) (t1412 : Int) (b14 : List Int) (t1317 : List (List Int)) : Natural (impl_Board_worst_impl_WorstTile_f1_s3 F t1412 b14 t1317) := by
  intro Q Q' s kn kx h
  obtain ⟨least9, t1513, out16⟩ := s
  simp only [impl_Board_worst_impl_WorstTile_f1_s3, cond_bindL, none_bindL]
/-- (loop.example/g01194/impl.Board).worst -/
def impl_Board_worst_impl_WorstTile_f1_c (Q : Type) (F : Nat) (b0 : List Int) (k : (List Int × Int) → Option Q) : Option Q :=
    let z_1 := (impl_Board_placements_p F b0)
    let z_2 : Nat := (List.length (Option.getD z_1 default))
    let z_3 := (impl_Board_worst_impl_WorstTile_f1_l3 F ((z_2 : Nat) : Int) b0 (Option.getD z_1 default) (-1 : Int) (0 : Int) [(0 : Int), (0 : Int), (0 : Int)])
    let z_4 := (Option.getD z_3 default)
    bif (Option.isSome z_1) then
    bif ((Nat.beq z_2 z_2) && (Option.isSome z_3)) then
    k (z_4.2, z_4.1)
    else none
    else none
def impl_Board_worst_impl_WorstTile_f1_p (F : Nat) (b0 : List Int) : Option (List Int × Int) := impl_Board_worst_impl_WorstTile_f1_c _ F b0 some
theorem impl_Board_worst_impl_WorstTile_f1_cp (Q : Type) (F : Nat) (b0 : List Int) (k : (List Int × Int) → Option Q) : impl_Board_worst_impl_WorstTile_f1_c Q F b0 k = (impl_Board_worst_impl_WorstTile_f1_p F b0).bind k := by
  simp only [impl_Board_worst_impl_WorstTile_f1_p, impl_Board_worst_impl_WorstTile_f1_c, cond_bindL, none_bindL, some_bindL]

/-- loop.example/g01194/impl.WorstTile -/
def impl_WorstTile_c (Q : Type) (F : Nat) (b0 : List Int) (k : (List Int × Int × Bool) → Option Q) : Option Q :=
    let z_1 := (impl_IsBoard_p F b0)
    let z_2 := (impl_Board_empty_p F b0)
    let z_3 := (impl_Board_worst_impl_WorstTile_f1_p F b0)
    let z_4 := (Option.getD z_3 default)
    bif (Option.isSome z_1) then
    bif (!(Option.getD z_1 default)) then
    k ([(0 : Int), (0 : Int), (0 : Int)], (0 : Int), false)
    else bif (Option.isSome z_2) then
    bif ((((Option.getD z_2 default).1 : Nat) : Int) == (0 : Int)) then
    k ([(0 : Int), (0 : Int), (0 : Int)], (0 : Int), false)
    else bif (Option.isSome z_3) then
    k (z_4.1, z_4.2, true)
    else none
    else none
    else none
def impl_WorstTile_p (F : Nat) (b0 : List Int) : Option (List Int × Int × Bool) := impl_WorstTile_c _ F b0 some
theorem impl_WorstTile_cp (Q : Type) (F : Nat) (b0 : List Int) (k : (List Int × Int × Bool) → Option Q) : impl_WorstTile_c Q F b0 k = (impl_WorstTile_p F b0).bind k := by
  simp only [impl_WorstTile_p, impl_WorstTile_c, cond_bindL, none_bindL, some_bindL]

/-- loop 6 of loop.example/g01194/spec.WorstTile -/
def spec_WorstTile_s6 (F : Nat) (b13 : List Int) (all15 : List (List Int)) (Q : Type) : (Int × Int × List Int) → ((Int × Int × List Int) → Option Q) → ((Int × List Int) → Option Q) → Option Q
  | (best8, i12, first16), kn, kx =>
    let z_1 : Bool := (inR i12 (List.length all15))
    let z_2 : List Int := (rget all15 ((0 : Nat) + (Int.toNat i12)))
    let z_3 := (spec_l8Put_p b13 z_2)
    let z_4 := (spec_l2Moves_p F (Option.getD z_3 default))
    let z_5 : Int := (((List.length (Option.getD z_4 default)) : Nat) : Int)
    let z_6 : Int := (IntKind.wrap .i64 (i12 + (1 : Int)))
    bif (decide (i12 < (((List.length all15) : Nat) : Int))) then
    bif z_1 then
    bif (Option.isSome z_3) then
    bif (Option.isSome z_4) then
    bif (decide (z_5 < best8)) then
    bif z_1 then
    kn (z_5, z_6, z_2)
    else none
    else kn (best8, z_6, first16)
    else none
    else none
    else none
    else kx (best8, first16)
def spec_WorstTile_l6 (F : Nat) (b13 : List Int) (all15 : List (List Int)) (best8 : Int) (i12 : Int) (first16 : List Int) : Option (Int × List Int) := loopC (spec_WorstTile_s6 F b13 all15) F (best8, i12, first16) some
theorem spec_WorstTile_s6_nat (F : Nat) (b13 : List Int) (all15 : List (List Int)) : Natural (spec_WorstTile_s6 F b13 all15) := by
  intro Q Q' s kn kx h
  obtain ⟨best8, i12, first16⟩ := s
  simp only [spec_WorstTile_s6, cond_bindL, none_bindL]
/-- loop.example/g01194/spec.WorstTile -/
def spec_WorstTile_c (Q : Type) (F : Nat) (b0 : List Int) (k : (List Int × Int × Bool) → Option Q) : Option Q :=
    let z_1 := (spec_l2Board_p F b0)
    let z_2 := (spec_l2Empty_p F b0)
    let z_3 := (spec_l8Places_p F b0)
    let z_4 : Nat := (List.length (Option.getD z_3 default))
    let z_5 := (spec_WorstTile_l6 F b0 (Option.getD z_3 default) (5 : Int) (0 : Int) [(0 : Int), (0 : Int), (0 : Int)])
    let z_6 := (Option.getD z_5 default)
    bif (Option.isSome z_1) then
    bif (!(Option.getD z_1 default)) then
    k ([(0 : Int), (0 : Int), (0 : Int)], (0 : Int), false)
    else bif (Option.isSome z_2) then
    bif ((((List.length (Option.getD z_2 default)) : Nat) : Int) == (0 : Int)) then
    k ([(0 : Int), (0 : Int), (0 : Int)], (0 : Int), false)
    else bif (Option.isSome z_3) then
    bif ((Nat.beq z_4 z_4) && (Option.isSome z_5)) then
    k (z_6.2, z_6.1, true)
    else none
    else none
    else none
    else none
def spec_WorstTile_p (F : Nat) (b0 : List Int) : Option (List Int × Int × Bool) := spec_WorstTile_c _ F b0 some
theorem spec_WorstTile_cp (Q : Type) (F : Nat) (b0 : List Int) (k : (List Int × Int × Bool) → Option Q) : spec_WorstTile_c Q F b0 k = (spec_WorstTile_p F b0).bind k := by
  simp only [spec_WorstTile_p, spec_WorstTile_c, cond_bindL, none_bindL, some_bindL]

/-- loop.example/g01194/impl.SlideBoard -/
def impl_SlideBoard_c (Q : Type) (F : Nat) (b0 : List Int) (direction1 : Int) (k : (List Int × Int × Bool) → Option Q) : Option Q :=
    let z_1 := (impl_IsBoard_p F b0)
    let z_2 : List Int := [(0 : Int), (0 : Int), (0 : Int), (0 : Int), (0 : Int), (0 : Int), (0 : Int), (0 : Int), (0 : Int), (0 : Int), (0 : Int), (0 : Int), (0 : Int), (0 : Int), (0 : Int), (0 : Int)]
    let z_3 := (impl_Board_slide_p F b0 direction1)
    let z_4 := (Option.getD z_3 default)
    bif (Option.isSome z_1) then
    bif (!(Option.getD z_1 default)) then
    k (z_2, (0 : Int), false)
    else bif (!(impl_isDirection_v direction1)) then
    k (z_2, (0 : Int), false)
    else bif (Option.isSome z_3) then
    k (z_4.1, z_4.2.1, true)
    else none
    else none
def impl_SlideBoard_p (F : Nat) (b0 : List Int) (direction1 : Int) : Option (List Int × Int × Bool) := impl_SlideBoard_c _ F b0 direction1 some
theorem impl_SlideBoard_cp (Q : Type) (F : Nat) (b0 : List Int) (direction1 : Int) (k : (List Int × Int × Bool) → Option Q) : impl_SlideBoard_c Q F b0 direction1 k = (impl_SlideBoard_p F b0 direction1).bind k := by
  simp only [impl_SlideBoard_p, impl_SlideBoard_c, cond_bindL, none_bindL, some_bindL]

/-- loop.example/g01194/impl.MovesOf -/
def impl_MovesOf_c (Q : Type) (F : Nat) (b0 : List Int) (k : (Bool × List Int) → Option Q) : Option Q :=
    let z_1 := (impl_IsBoard_p F b0)
    let z_2 := (impl_Board_moves_p F b0)
    bif (Option.isSome z_1) then
    bif (!(Option.getD z_1 default)) then
    k (false, ([] : List Int))
    else bif (Option.isSome z_2) then
    k (true, (Option.getD z_2 default))
    else none
    else none
def impl_MovesOf_p (F : Nat) (b0 : List Int) : Option (Bool × List Int) := impl_MovesOf_c _ F b0 some
theorem impl_MovesOf_cp (Q : Type) (F : Nat) (b0 : List Int) (k : (Bool × List Int) → Option Q) : impl_MovesOf_c Q F b0 k = (impl_MovesOf_p F b0).bind k := by
  simp only [impl_MovesOf_p, impl_MovesOf_c, cond_bindL, none_bindL, some_bindL]

/-- loop 2 of loop.example/g01194/laws.rHas -/
def laws_rHas_s2 (F : Nat) (list0 : List Int) (x1 : Int) (Q : Type) : (Int) → ((Int) → Option Q) → ((Bool) → Option Q) → Option Q
  | i2, kn, kx =>
    bif (decide (i2 < (((List.length list0) : Nat) : Int))) then
    bif (inR i2 (List.length list0)) then
    bif ((iget list0 (Int.toNat i2)) == x1) then
    kx true
    else kn (IntKind.wrap .i64 (i2 + (1 : Int)))
    else none
    else kx false
def laws_rHas_l2 (F : Nat) (list0 : List Int) (x1 : Int) (i2 : Int) : Option (Bool) := loopC (laws_rHas_s2 F list0 x1) F i2 some
theorem laws_rHas_s2_nat (F : Nat) (list0 : List Int) (x1 : Int) : Natural (laws_rHas_s2 F list0 x1) := by
  intro Q Q' s kn kx h
  simp only [laws_rHas_s2, cond_bindL, none_bindL]
/-- loop.example/g01194/laws.rHas -/
def laws_rHas_c (Q : Type) (F : Nat) (list0 : List Int) (x1 : Int) (k : (Bool) → Option Q) : Option Q :=
    let z_1 := (laws_rHas_l2 F list0 x1 (0 : Int))
    bif (Option.isSome z_1) then
    bif (Option.getD z_1 default) then
    k true
    else k false
    else none
def laws_rHas_p (F : Nat) (list0 : List Int) (x1 : Int) : Option (Bool) := laws_rHas_c _ F list0 x1 some
theorem laws_rHas_cp (Q : Type) (F : Nat) (list0 : List Int) (x1 : Int) (k : (Bool) → Option Q) : laws_rHas_c Q F list0 x1 k = (laws_rHas_p F list0 x1).bind k := by
  simp only [laws_rHas_p, laws_rHas_c, cond_bindL, none_bindL, some_bindL]

/-- loop 26 of loop.example/g01194/laws.FnLasting -/
def laws_FnLasting_s26 (F : Nat) (n3 : Int) (safe5 : Nat) (two6 : Bool) (d10 : Int) (m11 : Int) (three15 : Bool) (dead17 : Nat) (b21 : List Int) (safe22 : List Int) (c23 : List Int) (p24 : List Int) (dead25 : List (List Int)) (want26 : List (List Int)) (Q : Type) : (Int) → ((Int) → Option Q) → ((Bool) → Option Q) → Option Q
  | i20, kn, kx =>
    let z_1 : List Int := (rget dead25 ((0 : Nat) + (Int.toNat i20)))
    let z_2 := (impl_PlaceTile_p F b21 z_1)
    let z_3 := (Option.getD z_2 default)
    let z_4 := (impl_IsOver_p F z_3.1)
    let z_5 := (Option.getD z_4 default)
    bif (decide (i20 < ((dead17 : Nat) : Int))) then
    bif (inR i20 dead17) then
    bif (inR i20 (List.length want26)) then
    bif (!(z_1 == (rget want26 ((0 : Nat) + (Int.toNat i20))))) then
    kx true
    else bif (inR i20 dead17) then
    bif (Option.isSome z_2) then
    bif (Option.isSome z_4) then
    bif (!z_3.2) then
    kx true
    else bif (!z_5.2) then
    kx true
    else bif (!z_5.1) then
    kx true
    else kn (IntKind.wrap .i64 (i20 + (1 : Int)))
    else none
    else none
    else none
    else none
    else none
    else kx false
def laws_FnLasting_l26 (F : Nat) (n3 : Int) (safe5 : Nat) (two6 : Bool) (d10 : Int) (m11 : Int) (three15 : Bool) (dead17 : Nat) (b21 : List Int) (safe22 : List Int) (c23 : List Int) (p24 : List Int) (dead25 : List (List Int)) (want26 : List (List Int)) (i20 : Int) : Option (Bool) := loopC (laws_FnLasting_s26 F n3 safe5 two6 d10 m11 three15 dead17 b21 safe22 c23 p24 dead25 want26) F i20 some
theorem laws_FnLasting_s26_nat (F : Nat) (n3 : Int) (safe5 : Nat) (two6 : Bool) (d10 : Int) (m11 : Int) (three15 : Bool) (dead17 : Nat) (b21 : List Int) (safe22 : List Int) (c23 : List Int) (p24 : List Int) (dead25 : List (List Int)) (want26 : List (List Int)) : Natural (laws_FnLasting_s26 F n3 safe5 two6 d10 m11 three15 dead17 b21 safe22 c23 p24 dead25 want26) := by
  intro Q Q' s kn kx h
  simp only [laws_FnLasting_s26, cond_bindL, none_bindL]
/-- loop 50 of loop.example/g01194/laws.FnLasting -/
def laws_FnLasting_s50 (F : Nat) (n3 : Int) (safe5 : Nat) (b9 : List Int) (safe10 : List Int) (moves11 : List Int) (Q : Type) : (Int) → ((Int) → Option Q) → ((Bool) → Option Q) → Option Q
  | i8, kn, kx =>
    let z_1 : Bool := (inR i8 (List.length moves11))
    let z_2 : Int := (iget moves11 ((0 : Nat) + (Int.toNat i8)))
    let z_3 := (impl_RefuteMove_p F b9 z_2 n3)
    let z_4 := (laws_rHas_p F (subn (List.length safe10) safe10 0 safe5) z_2)
    bif (decide (i8 < (((List.length moves11) : Nat) : Int))) then
    bif z_1 then
    bif (Option.isSome z_3) then
    bif z_1 then
    bif (Option.isSome z_4) then
    bif ((Option.getD z_3 default).2 == (Option.getD z_4 default)) then
    kx true
    else kn (IntKind.wrap .i64 (i8 + (1 : Int)))
    else none
    else none
    else none
    else none
    else kx false
def laws_FnLasting_l50 (F : Nat) (n3 : Int) (safe5 : Nat) (b9 : List Int) (safe10 : List Int) (moves11 : List Int) (i8 : Int) : Option (Bool) := loopC (laws_FnLasting_s50 F n3 safe5 b9 safe10 moves11) F i8 some
theorem laws_FnLasting_s50_nat (F : Nat) (n3 : Int) (safe5 : Nat) (b9 : List Int) (safe10 : List Int) (moves11 : List Int) : Natural (laws_FnLasting_s50 F n3 safe5 b9 safe10 moves11) := by
  intro Q Q' s kn kx h
  simp only [laws_FnLasting_s50, cond_bindL, none_bindL]
/-- loop.example/g01194/laws.FnLasting -/
def laws_FnLasting_c (Q : Type) (F : Nat) (code0 : List Int) (k : (Bool) → Option Q) : Option Q :=
    let z_1 := (spec_DrawLasts_p F code0)
    let z_2 := (Option.getD z_1 default)
    let z_3 := (impl_Lasts_p F z_2.1 z_2.2)
    let z_4 := (spec_Lasts_p F z_2.1 z_2.2)
    let z_5 := (Option.getD z_3 default)
    let z_6 := (Option.getD z_4 default)
    let z_7 := (impl_LastsHow_p F z_2.1)
    let z_8 := (spec_LastsHow_p F z_2.1)
    let z_9 := (Option.getD z_7 default)
    let z_10 := (Option.getD z_8 default)
    let z_11 := (impl_SafeMoves_p F z_2.1 z_2.2)
    let z_12 : Bool := (Option.isSome z_11)
    let z_13 := (spec_SafeMoves_p F z_2.1 z_2.2)
    let z_14 : Bool := (Option.isSome z_13)
    let z_15 := (Option.getD z_11 default)
    let z_16 := (Option.getD z_13 default)
    let z_17 : Bool := (!(z_15.2.1 == z_16.1))
    let z_18 : Nat := (List.length z_16.2)
    let z_19 := (laws_rInts_p F (subn (List.length z_15.2.2) z_15.2.2 0 z_15.1) (subn z_18 z_16.2 0 z_18))
    let z_20 : Bool := (Option.isSome z_19)
    let z_21 : Bool := (!(Option.getD z_19 default))
    let z_22 : Bool := (!(z_5.1 == (decide ((0 : Int) < ((z_15.1 : Nat) : Int)))))
    let z_23 := (spec_DrawRefuteMove_p F code0)
    let z_24 : Bool := (Option.isSome z_23)
    let z_25 := (Option.getD z_23 default)
    let z_26 := (impl_RefuteMove_p F z_25.1 z_25.2.1 z_25.2.2)
    let z_27 : Bool := (Option.isSome z_26)
    let z_28 := (spec_RefuteMove_p F z_25.1 z_25.2.1 z_25.2.2)
    let z_29 : Bool := (Option.isSome z_28)
    let z_30 := (Option.getD z_26 default)
    let z_31 := (Option.getD z_28 default)
    let z_32 : Bool := (!(z_30.1 == z_31.1))
    let z_33 : Bool := (!(z_30.2 == z_31.2))
    let z_34 := (impl_DeadPlaces_p F z_2.1)
    let z_35 : Bool := (Option.isSome z_34)
    let z_36 := (spec_DeadPlaces_p F z_2.1)
    let z_37 : Bool := (Option.isSome z_36)
    let z_38 := (Option.getD z_34 default)
    let z_39 := (Option.getD z_36 default)
    let z_40 : Bool := (!(z_38.2.1 == z_39.1))
    let z_41 : Bool := (!(z_38.2.1 == z_9.2))
    let z_42 : Int := ((z_38.1 : Nat) : Int)
    let z_43 : Nat := (List.length z_39.2)
    let z_44 : Bool := (!(z_42 == ((z_43 : Nat) : Int)))
    let z_45 := (laws_FnLasting_l26 F z_2.2 z_15.1 z_15.2.1 z_25.2.1 z_25.2.2 z_30.2 z_38.1 z_2.1 z_15.2.2 z_25.1 z_30.1 z_38.2.2 z_39.2 (0 : Int))
    let z_46 : Bool := ((Nat.beq z_43 z_43) && (Option.isSome z_45))
    let z_47 := (impl_WorstTile_p F z_2.1)
    let z_48 : Bool := (Option.isSome z_47)
    let z_49 := (spec_WorstTile_p F z_2.1)
    let z_50 : Bool := (Option.isSome z_49)
    let z_51 := (Option.getD z_47 default)
    let z_52 := (Option.getD z_49 default)
    let z_53 : Bool := (!(z_51.1 == z_52.1))
    let z_54 : Bool := (!(z_51.2.1 == z_52.2.1))
    let z_55 : Bool := (!(z_51.2.2 == z_52.2.2))
    let z_56 : Bool := (!((z_51.2.1 == (0 : Int)) == (decide ((0 : Int) < z_42))))
    let z_57 := (impl_SlideBoard_p F z_25.1 z_25.2.1)
    let z_58 : Bool := (Option.isSome z_57)
    let z_59 := (Option.getD z_57 default)
    let z_60 := (impl_PlaceTile_p F z_59.1 z_30.1)
    let z_61 : Bool := (Option.isSome z_60)
    let z_62 := (Option.getD z_60 default)
    let z_63 := (impl_Lasts_p F z_62.1 (IntKind.wrap .i64 (z_25.2.2 - (1 : Int))))
    let z_64 : Bool := (Option.isSome z_63)
    let z_65 : Bool := (!z_59.2.2)
    let z_66 : Bool := (!z_62.2)
    let z_67 := (Option.getD z_63 default)
    let z_68 : Bool := (!z_67.2)
    let z_69 : Bool := (!z_15.2.1)
    let z_70 := (impl_MovesOf_p F z_2.1)
    let z_71 : Bool := (Option.isSome z_70)
    let z_72 := (Option.getD z_70 default)
    let z_73 : Bool := (!z_72.1)
    let z_74 : Nat := (List.length z_72.2)
    let z_75 := (laws_FnLasting_l50 F z_2.2 z_15.1 z_2.1 z_15.2.2 z_72.2 (0 : Int))
    let z_76 : Bool := ((Nat.beq z_74 z_74) && (Option.isSome z_75))
    bif (laws_rBig_v code0) then
    k true
    else bif (Option.isSome z_1) then
    bif (Option.isSome z_3) then
    bif (Option.isSome z_4) then
    bif (!(z_5.1 == z_6.1)) then
    k false
    else bif (!(z_5.2 == z_6.2)) then
    k false
    else bif (Option.isSome z_7) then
    bif (Option.isSome z_8) then
    bif (!(z_9.1 == z_10.1)) then
    k false
    else bif (!(z_9.2 == z_10.2)) then
    k false
    else bif z_5.2 then
    bif (!(z_5.1 == (decide (z_2.2 ≤ z_9.1)))) then
    k false
    else bif z_12 then
    bif z_14 then
    bif z_17 then
    k false
    else bif z_20 then
    bif z_21 then
    k false
    else bif z_15.2.1 then
    bif z_22 then
    k false
    else bif z_24 then
    bif z_27 then
    bif z_29 then
    bif z_32 then
    k false
    else bif z_33 then
    k false
    else bif z_35 then
    bif z_37 then
    bif z_40 then
    k false
    else bif z_41 then
    k false
    else bif z_44 then
    k false
    else bif z_46 then
    bif (Option.getD z_45 default) then
    k false
    else bif z_48 then
    bif z_50 then
    bif z_53 then
    k false
    else bif z_54 then
    k false
    else bif z_55 then
    k false
    else bif z_51.2.2 then
    bif z_56 then
    k false
    else bif z_30.2 then
    bif z_58 then
    bif z_61 then
    bif z_64 then
    bif z_65 then
    k false
    else bif z_66 then
    k false
    else bif z_68 then
    k false
    else bif z_67.1 then
    k false
    else bif z_69 then
    k true
    else bif z_71 then
    bif z_73 then
    k false
    else bif z_76 then
    bif (Option.getD z_75 default) then
    k false
    else k true
    else none
    else none
    else none
    else none
    else none
    else bif z_69 then
    k true
    else bif z_71 then
    bif z_73 then
    k false
    else bif z_76 then
    bif (Option.getD z_75 default) then
    k false
    else k true
    else none
    else none
    else bif z_30.2 then
    bif z_58 then
    bif z_61 then
    bif z_64 then
    bif z_65 then
    k false
    else bif z_66 then
    k false
    else bif z_68 then
    k false
    else bif z_67.1 then
    k false
    else bif z_69 then
    k true
    else bif z_71 then
    bif z_73 then
    k false
    else bif z_76 then
    bif (Option.getD z_75 default) then
    k false
    else k true
    else none
    else none
    else none
    else none
    else none
    else bif z_69 then
    k true
    else bif z_71 then
    bif z_73 then
    k false
    else bif z_76 then
    bif (Option.getD z_75 default) then
    k false
    else k true
    else none
    else none
    else none
    else none
    else none
    else none
    else none
    else none
    else none
    else none
    else bif z_24 then
    bif z_27 then
    bif z_29 then
    bif z_32 then
    k false
    else bif z_33 then
    k false
    else bif z_35 then
    bif z_37 then
    bif z_40 then
    k false
    else bif z_41 then
    k false
    else bif z_44 then
    k false
    else bif z_46 then
    bif (Option.getD z_45 default) then
    k false
    else bif z_48 then
    bif z_50 then
    bif z_53 then
    k false
    else bif z_54 then
    k false
    else bif z_55 then
    k false
    else bif z_51.2.2 then
    bif z_56 then
    k false
    else bif z_30.2 then
    bif z_58 then
    bif z_61 then
    bif z_64 then
    bif z_65 then
    k false
    else bif z_66 then
    k false
    else bif z_68 then
    k false
    else bif z_67.1 then
    k false
    else bif z_69 then
    k true
    else bif z_71 then
    bif z_73 then
    k false
    else bif z_76 then
    bif (Option.getD z_75 default) then
    k false
    else k true
    else none
    else none
    else none
    else none
    else none
    else bif z_69 then
    k true
    else bif z_71 then
    bif z_73 then
    k false
    else bif z_76 then
    bif (Option.getD z_75 default) then
    k false
    else k true
    else none
    else none
    else bif z_30.2 then
    bif z_58 then
    bif z_61 then
    bif z_64 then
    bif z_65 then
    k false
    else bif z_66 then
    k false
    else bif z_68 then
    k false
    else bif z_67.1 then
    k false
    else bif z_69 then
    k true
    else bif z_71 then
    bif z_73 then
    k false
    else bif z_76 then
    bif (Option.getD z_75 default) then
    k false
    else k true
    else none
    else none
    else none
    else none
    else none
    else bif z_69 then
    k true
    else bif z_71 then
    bif z_73 then
    k false
    else bif z_76 then
    bif (Option.getD z_75 default) then
    k false
    else k true
    else none
    else none
    else none
    else none
    else none
    else none
    else none
    else none
    else none
    else none
    else none
    else none
    else none
    else bif z_12 then
    bif z_14 then
    bif z_17 then
    k false
    else bif z_20 then
    bif z_21 then
    k false
    else bif z_15.2.1 then
    bif z_22 then
    k false
    else bif z_24 then
    bif z_27 then
    bif z_29 then
    bif z_32 then
    k false
    else bif z_33 then
    k false
    else bif z_35 then
    bif z_37 then
    bif z_40 then
    k false
    else bif z_41 then
    k false
    else bif z_44 then
    k false
    else bif z_46 then
    bif (Option.getD z_45 default) then
    k false
    else bif z_48 then
    bif z_50 then
    bif z_53 then
    k false
    else bif z_54 then
    k false
    else bif z_55 then
    k false
    else bif z_51.2.2 then
    bif z_56 then
    k false
    else bif z_30.2 then
    bif z_58 then
    bif z_61 then
    bif z_64 then
    bif z_65 then
    k false
    else bif z_66 then
    k false
    else bif z_68 then
    k false
    else bif z_67.1 then
    k false
    else bif z_69 then
    k true
    else bif z_71 then
    bif z_73 then
    k false
    else bif z_76 then
    bif (Option.getD z_75 default) then
    k false
    else k true
    else none
    else none
    else none
    else none
    else none
    else bif z_69 then
    k true
    else bif z_71 then
    bif z_73 then
    k false
    else bif z_76 then
    bif (Option.getD z_75 default) then
    k false
    else k true
    else none
    else none
    else bif z_30.2 then
    bif z_58 then
    bif z_61 then
    bif z_64 then
    bif z_65 then
    k false
    else bif z_66 then
    k false
    else bif z_68 then
    k false
    else bif z_67.1 then
    k false
    else bif z_69 then
    k true
    else bif z_71 then
    bif z_73 then
    k false
    else bif z_76 then
    bif (Option.getD z_75 default) then
    k false
    else k true
    else none
    else none
    else none
    else none
    else none
    else bif z_69 then
    k true
    else bif z_71 then
    bif z_73 then
    k false
    else bif z_76 then
    bif (Option.getD z_75 default) then
    k false
    else k true
    else none
    else none
    else none
    else none
    else none
    else none
    else none
    else none
    else none
    else none
    else bif z_24 then
    bif z_27 then
    bif z_29 then
    bif z_32 then
    k false
    else bif z_33 then
    k false
    else bif z_35 then
    bif z_37 then
    bif z_40 then
    k false
    else bif z_41 then
    k false
    else bif z_44 then
    k false
    else bif z_46 then
    bif (Option.getD z_45 default) then
    k false
    else bif z_48 then
    bif z_50 then
    bif z_53 then
    k false
    else bif z_54 then
    k false
    else bif z_55 then
    k false
    else bif z_51.2.2 then
    bif z_56 then
    k false
    else bif z_30.2 then
    bif z_58 then
    bif z_61 then
    bif z_64 then
    bif z_65 then
    k false
    else bif z_66 then
    k false
    else bif z_68 then
    k false
    else bif z_67.1 then
    k false
    else bif z_69 then
    k true
    else bif z_71 then
    bif z_73 then
    k false
    else bif z_76 then
    bif (Option.getD z_75 default) then
    k false
    else k true
    else none
    else none
    else none
    else none
    else none
    else bif z_69 then
    k true
    else bif z_71 then
    bif z_73 then
    k false
    else bif z_76 then
    bif (Option.getD z_75 default) then
    k false
    else k true
    else none
    else none
    else bif z_30.2 then
    bif z_58 then
    bif z_61 then
    bif z_64 then
    bif z_65 then
    k false
    else bif z_66 then
    k false
    else bif z_68 then
    k false
    else bif z_67.1 then
    k false
    else bif z_69 then
    k true
    else bif z_71 then
    bif z_73 then
    k false
    else bif z_76 then
    bif (Option.getD z_75 default) then
    k false
    else k true
    else none
    else none
    else none
    else none
    else none
    else bif z_69 then
    k true
    else bif z_71 then
    bif z_73 then
    k false
    else bif z_76 then
    bif (Option.getD z_75 default) then
    k false
    else k true
    else none
    else none
    else none
    else none
    else none
    else none
    else none
    else none
    else none
    else none
    else none
    else none
    else none
    else none
    else none
    else none
    else none
    else none
def laws_FnLasting_p (F : Nat) (code0 : List Int) : Option (Bool) := laws_FnLasting_c _ F code0 some
theorem laws_FnLasting_cp (Q : Type) (F : Nat) (code0 : List Int) (k : (Bool) → Option Q) : laws_FnLasting_c Q F code0 k = (laws_FnLasting_p F code0).bind k := by
  simp only [laws_FnLasting_p, laws_FnLasting_c, cond_bindL, none_bindL, some_bindL]
end Go.Lv.P
