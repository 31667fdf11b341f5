/-
Pure functions and what the code of them does, by program; without conditions.
-/
import Derived.Test.YtabfliifleonaaaQaP3
namespace Go.Lv.P
open Go Go.Lv
set_option linter.unusedVariables false
set_option linter.unusedSimpArgs false
set_option maxRecDepth 100000
/-- (loop.example/g01194/impl.Board).withLine -/
def impl_Board_withLine_c (Q : Type) (b0 : List Int) (direction1 : Int) (i2 : Int) (row3 : List Int) (k : (List Int) → Option Q) : Option Q :=
    let z_1 := (impl_Board_at_p (impl_lineCell_v direction1 i2 (0 : Int)) b0)
    let z_2 : List Int := (iset b0 (Option.getD z_1 default) (iget row3 0))
    let z_3 := (impl_Board_at_p (impl_lineCell_v direction1 i2 (1 : Int)) z_2)
    let z_4 : List Int := (iset z_2 (Option.getD z_3 default) (iget row3 1))
    let z_5 := (impl_Board_at_p (impl_lineCell_v direction1 i2 (2 : Int)) z_4)
    let z_6 : List Int := (iset z_4 (Option.getD z_5 default) (iget row3 2))
    let z_7 := (impl_Board_at_p (impl_lineCell_v direction1 i2 (3 : Int)) z_6)
    bif (Option.isSome z_1) then
    bif (Option.isSome z_3) then
    bif (Option.isSome z_5) then
    bif (Option.isSome z_7) then
    k (iset z_6 (Option.getD z_7 default) (iget row3 3))
    else none
    else none
    else none
    else none
def impl_Board_withLine_p (b0 : List Int) (direction1 : Int) (i2 : Int) (row3 : List Int) : Option (List Int) := impl_Board_withLine_c _ b0 direction1 i2 row3 some
theorem impl_Board_withLine_cp (Q : Type) (b0 : List Int) (direction1 : Int) (i2 : Int) (row3 : List Int) (k : (List Int) → Option Q) : impl_Board_withLine_c Q b0 direction1 i2 row3 k = (impl_Board_withLine_p b0 direction1 i2 row3).bind k := by
  simp only [impl_Board_withLine_p, impl_Board_withLine_c, cond_bindL, none_bindL, some_bindL]

/-- loop 8 of (loop.example/g01194/impl.Board).slide -/
def impl_Board_slide_s8 (F : Nat) (direction0 : Int) (score10 : Int) (t1712 : Int) (t3713 : List Bool) (b15 : List Int) (out17 : List Int) (Q : Type) : (Int × Int) → ((Int × Int) → Option Q) → ((Int) → Option Q) → Option Q
  | (mergers11, t3814), kn, kx =>
    let z_1 : Int := (IntKind.wrap .i64 (t3814 + (1 : Int)))
    bif (decide (t3814 < (4 : Int))) then
    bif (inR t3814 4) then
    bif (bget t3713 ((Int.toNat t3814) * (1 : Nat))) then
    kn ((IntKind.wrap .i64 (mergers11 + (1 : Int))), z_1)
    else kn (mergers11, z_1)
    else none
    else kx mergers11
def impl_Board_slide_l8 (F : Nat) (direction0 : Int) (score10 : Int) (t1712 : Int) (t3713 : List Bool) (b15 : List Int) (out17 : List Int) (mergers11 : Int) (t3814 : Int) : Option (Int) := loopC (impl_Board_slide_s8 F direction0 score10 t1712 t3713 b15 out17) F (mergers11, t3814) some
theorem impl_Board_slide_s8_nat (F : Nat) (direction0 : Int) (score10 : Int) (t1712 : Int) (t3713 : List Bool) (b15 : List Int) (out17 : List Int) : Natural (impl_Board_slide_s8 F direction0 score10 t1712 t3713 b15 out17) := by
  intro Q Q' s kn kx h
  obtain ⟨mergers11, t3814⟩ := s
  simp only [impl_Board_slide_s8, cond_bindL, none_bindL]
/-- loop 3 of (loop.example/g01194/impl.Board).slide -/
def impl_Board_slide_s3 (F : Nat) (direction0 : Int) (b13 : List Int) (Q : Type) : (Int × Int × Int × List Int) → ((Int × Int × Int × List Int) → Option Q) → ((Int × Int × List Int) → Option Q) → Option Q
  | (score10, mergers11, t1712, out15), kn, kx =>
    let z_1 := (impl_Board_line_p b13 direction0 t1712)
    let z_2 := (impl_slideRow_p F (Option.getD z_1 default))
    let z_3 := (Option.getD z_2 default)
    let z_4 := (impl_Board_withLine_p out15 direction0 t1712 z_3.1)
    let z_5 : Int := (IntKind.wrap .i64 (score10 + z_3.2.1))
    let z_6 := (impl_Board_slide_l8 F direction0 z_5 t1712 z_3.2.2 b13 (Option.getD z_4 default) mergers11 (0 : Int))
    bif (decide (t1712 < (4 : Int))) then
    bif (Option.isSome z_1) then
    bif (Option.isSome z_2) then
    bif (Option.isSome z_4) then
    bif (Option.isSome z_6) then
    kn (z_5, (Option.getD z_6 default), (IntKind.wrap .i64 (t1712 + (1 : Int))), (Option.getD z_4 default))
    else none
    else none
    else none
    else none
    else kx (score10, mergers11, out15)
def impl_Board_slide_l3 (F : Nat) (direction0 : Int) (b13 : List Int) (score10 : Int) (mergers11 : Int) (t1712 : Int) (out15 : List Int) : Option (Int × Int × List Int) := loopC (impl_Board_slide_s3 F direction0 b13) F (score10, mergers11, t1712, out15) some
theorem impl_Board_slide_s3_nat (F : Nat) (direction0 : Int) (b13 : List Int) : Natural (impl_Board_slide_s3 F direction0 b13) := by
  intro Q Q' s kn kx h
  obtain ⟨score10, mergers11, t1712, out15⟩ := s
  simp only [impl_Board_slide_s3, cond_bindL, none_bindL]
/-- (loop.example/g01194/impl.Board).slide -/
def impl_Board_slide_c (Q : Type) (F : Nat) (b0 : List Int) (direction1 : Int) (k : (List Int × Int × Int) → Option Q) : Option Q :=
    let z_1 := (impl_Board_slide_l3 F direction1 b0 (0 : Int) (0 : Int) (0 : Int) b0)
    let z_2 := (Option.getD z_1 default)
    bif (Option.isSome z_1) then
    k (z_2.2.2, z_2.1, z_2.2.1)
    else none
def impl_Board_slide_p (F : Nat) (b0 : List Int) (direction1 : Int) : Option (List Int × Int × Int) := impl_Board_slide_c _ F b0 direction1 some
theorem impl_Board_slide_cp (Q : Type) (F : Nat) (b0 : List Int) (direction1 : Int) (k : (List Int × Int × Int) → Option Q) : impl_Board_slide_c Q F b0 direction1 k = (impl_Board_slide_p F b0 direction1).bind k := by
  simp only [impl_Board_slide_p, impl_Board_slide_c, cond_bindL, none_bindL, some_bindL]

/-- loop.example/g01194/impl.MergersOf -/
def impl_MergersOf_c (Q : Type) (F : Nat) (b0 : List Int) (direction1 : Int) (k : (Int × Bool) → Option Q) : Option Q :=
    let z_1 := (impl_IsBoard_p F b0)
    let z_2 := (impl_Board_slide_p F b0 direction1)
    bif (Option.isSome z_1) then
    bif (!(Option.getD z_1 default)) then
    k ((0 : Int), false)
    else bif (!(impl_isDirection_v direction1)) then
    k ((0 : Int), false)
    else bif (Option.isSome z_2) then
    k ((Option.getD z_2 default).2.2, true)
    else none
    else none
def impl_MergersOf_p (F : Nat) (b0 : List Int) (direction1 : Int) : Option (Int × Bool) := impl_MergersOf_c _ F b0 direction1 some
theorem impl_MergersOf_cp (Q : Type) (F : Nat) (b0 : List Int) (direction1 : Int) (k : (Int × Bool) → Option Q) : impl_MergersOf_c Q F b0 direction1 k = (impl_MergersOf_p F b0 direction1).bind k := by
  simp only [impl_MergersOf_p, impl_MergersOf_c, cond_bindL, none_bindL, some_bindL]

/-- loop 32 of loop.example/g01194/laws.FnSums -/
def laws_FnSums_s32 (F : Nat) (n0 : Int) (many1 : Int) (may2 : Bool) (one3 : Bool) (left7 : Int) (two8 : Bool) (p9 : Int) (b14 : List Int) (counts15 : List Int) (Q : Type) : (Int) → ((Int) → Option Q) → ((Bool) → Option Q) → Option Q
  | t13, kn, kx =>
    bif (decide (t13 < (17 : Int))) then
    bif (inR t13 18) then
    bif (decide ((1 : Int) < (iget counts15 ((0 : Nat) + ((Int.toNat t13) * (1 : Nat)))))) then
    kx true
    else kn (IntKind.wrap .i64 (t13 + (1 : Int)))
    else none
    else kx false
def laws_FnSums_l32 (F : Nat) (n0 : Int) (many1 : Int) (may2 : Bool) (one3 : Bool) (left7 : Int) (two8 : Bool) (p9 : Int) (b14 : List Int) (counts15 : List Int) (t13 : Int) : Option (Bool) := loopC (laws_FnSums_s32 F n0 many1 may2 one3 left7 two8 p9 b14 counts15) F t13 some
theorem laws_FnSums_s32_nat (F : Nat) (n0 : Int) (many1 : Int) (may2 : Bool) (one3 : Bool) (left7 : Int) (two8 : Bool) (p9 : Int) (b14 : List Int) (counts15 : List Int) : Natural (laws_FnSums_s32 F n0 many1 may2 one3 left7 two8 p9 b14 counts15) := by
  intro Q Q' s kn kx h
  simp only [laws_FnSums_s32, cond_bindL, none_bindL]
/-- loop 46 of loop.example/g01194/laws.FnSums -/
def laws_FnSums_s46 (F : Nat) (left3 : Int) (p4 : Int) (known5 : Bool) (empty7 : Nat) (told8 : Bool) (own9 : Int) (said10 : Bool) (b12 : List Int) (empty13 : List (List Int)) (Q : Type) : (Int) → ((Int) → Option Q) → ((Bool) → Option Q) → Option Q
  | d11, kn, kx =>
    let z_1 := (impl_MergersOf_p F b12 d11)
    let z_2 := (Option.getD z_1 default)
    bif (decide (d11 < (4 : Int))) then
    bif (Option.isSome z_1) then
    bif (!z_2.2) then
    kx true
    else bif (decide (left3 < z_2.1)) then
    kx true
    else kn (IntKind.wrap .i64 (d11 + (1 : Int)))
    else none
    else kx false
def laws_FnSums_l46 (F : Nat) (left3 : Int) (p4 : Int) (known5 : Bool) (empty7 : Nat) (told8 : Bool) (own9 : Int) (said10 : Bool) (b12 : List Int) (empty13 : List (List Int)) (d11 : Int) : Option (Bool) := loopC (laws_FnSums_s46 F left3 p4 known5 empty7 told8 own9 said10 b12 empty13) F d11 some
theorem laws_FnSums_s46_nat (F : Nat) (left3 : Int) (p4 : Int) (known5 : Bool) (empty7 : Nat) (told8 : Bool) (own9 : Int) (said10 : Bool) (b12 : List Int) (empty13 : List (List Int)) : Natural (laws_FnSums_s46 F left3 p4 known5 empty7 told8 own9 said10 b12 empty13) := by
  intro Q Q' s kn kx h
  simp only [laws_FnSums_s46, cond_bindL, none_bindL]
/-- loop.example/g01194/laws.FnSums -/
def laws_FnSums_c (Q : Type) (F : Nat) (code0 : List Int) (k : (Bool) → Option Q) : Option Q :=
    let z_1 := (spec_LeastTiles_p F (Option.getD (spec_DrawLeastTiles_p code0) default))
    let z_2 := (impl_PackedBoard_p F (Option.getD (spec_DrawLeastTiles_p code0) default))
    let z_3 := (spec_PackedBoard_p F (Option.getD (spec_DrawLeastTiles_p code0) default))
    let z_4 := (spec_HighestFor_p F (Option.getD (spec_DrawLeastTiles_p code0) default))
    let z_5 : Nat := (List.length (Option.getD (laws_vCut_p code0 (1 : Int)) default))
    let z_6 := (spec_IsPossible_p F (Option.getD (spec_DrawIsPossible_p (subn z_5 (Option.getD (laws_vCut_p code0 (1 : Int)) default) 0 z_5)) default).1 (Option.getD (spec_DrawIsPossible_p (subn z_5 (Option.getD (laws_vCut_p code0 (1 : Int)) default) 0 z_5)) default).2)
    let z_7 : Nat := (List.length (Option.getD (laws_vCut_p code0 (2 : Int)) default))
    let z_8 := (spec_DrawMergersLeft_p F (subn z_7 (Option.getD (laws_vCut_p code0 (2 : Int)) default) 0 z_7))
    let z_9 := (impl_MergersLeft_p F (Option.getD z_8 default))
    let z_10 := (spec_MergersLeft_p F (Option.getD z_8 default))
    let z_11 := (impl_PotentialOf_p F (Option.getD z_8 default))
    let z_12 := (spec_PotentialOf_p F (Option.getD z_8 default))
    let z_13 := (Option.getD z_1 default)
    let z_14 := (Option.getD z_2 default)
    let z_15 := (Option.getD z_3 default)
    let z_16 := (Option.getD z_4 default)
    let z_17 := (impl_IsPossible_v (Option.getD (spec_DrawIsPossible_p (subn z_5 (Option.getD (laws_vCut_p code0 (1 : Int)) default) 0 z_5)) default).1 (Option.getD (spec_DrawIsPossible_p (subn z_5 (Option.getD (laws_vCut_p code0 (1 : Int)) default) 0 z_5)) default).2)
    let z_18 := (Option.getD z_6 default)
    let z_19 := (Option.getD z_9 default)
    let z_20 := (Option.getD z_10 default)
    let z_21 := (Option.getD z_11 default)
    let z_22 := (Option.getD z_12 default)
    let z_23 := (impl_SumOf_p F z_14.1)
    let z_24 := (impl_CountTiles_p F z_14.1)
    let z_25 := (impl_HighestTile_p F z_14.1)
    let z_26 := (Option.getD z_23 default)
    let z_27 := (Option.getD z_24 default)
    let z_28 := (impl_IsPossible_v (Option.getD (spec_DrawLeastTiles_p code0) default) (impl_LeastTiles_v (Option.getD (spec_DrawLeastTiles_p code0) default)).1)
    let z_29 := (Option.getD z_25 default)
    let z_30 := (impl_IsPossible_v (Option.getD (spec_DrawLeastTiles_p code0) default) (IntKind.wrap .i64 ((impl_LeastTiles_v (Option.getD (spec_DrawLeastTiles_p code0) default)).1 - (1 : Int))))
    let z_31 := (laws_FnSums_l32 F (Option.getD (spec_DrawIsPossible_p (subn z_5 (Option.getD (laws_vCut_p code0 (1 : Int)) default) 0 z_5)) default).1 (Option.getD (spec_DrawIsPossible_p (subn z_5 (Option.getD (laws_vCut_p code0 (1 : Int)) default) 0 z_5)) default).2 z_17.1 z_17.2 z_19.1 z_19.2 z_21.1 (Option.getD z_8 default) z_27.1 (1 : Int))
    let z_32 : Bool := (Option.isSome z_31)
    let z_33 : Bool := (!(impl_LeastTiles_v (Option.getD (spec_DrawIsPossible_p (subn z_5 (Option.getD (laws_vCut_p code0 (1 : Int)) default) 0 z_5)) default).1).2)
    let z_34 : Bool := (decide ((Option.getD (spec_DrawIsPossible_p (subn z_5 (Option.getD (laws_vCut_p code0 (1 : Int)) default) 0 z_5)) default).2 < (impl_LeastTiles_v (Option.getD (spec_DrawIsPossible_p (subn z_5 (Option.getD (laws_vCut_p code0 (1 : Int)) default) 0 z_5)) default).1).1))
    let z_35 : Bool := (!((Int.tmod (Option.getD (spec_DrawIsPossible_p (subn z_5 (Option.getD (laws_vCut_p code0 (1 : Int)) default) 0 z_5)) default).1 (2 : Int)) == (0 : Int)))
    let z_36 : Bool := (!z_19.2)
    let z_37 := (impl_SumOf_p F (Option.getD z_8 default))
    let z_38 : Bool := (Option.isSome z_37)
    let z_39 := (impl_EmptyCells_p F (Option.getD z_8 default))
    let z_40 : Bool := (Option.isSome z_39)
    let z_41 := (Option.getD z_37 default)
    let z_42 := (Option.getD z_39 default)
    let z_43 := (laws_FnSums_l46 F z_19.1 z_21.1 z_41.2 z_42.1 z_42.2.1 (impl_LeastTiles_v z_41.1).1 (impl_LeastTiles_v z_41.1).2 (Option.getD z_8 default) z_42.2.2 (0 : Int))
    let z_44 : Bool := (Option.isSome z_43)
    let z_45 : Bool := (z_19.1 == (IntKind.wrap .i64 ((IntKind.wrap .i64 ((16 : Int) - ((z_42.1 : Nat) : Int))) - (impl_LeastTiles_v z_41.1).1)))
    let z_46 : Bool := (decide ((0 : Int) ≤ z_19.1))
    let z_47 : Bool := (decide ((0 : Int) ≤ z_21.1))
    bif (laws_vBig_v code0) then
    k true
    else bif (Option.isSome (spec_DrawLeastTiles_p code0)) then
    bif (Option.isSome z_1) then
    bif (Option.isSome z_2) then
    bif (Option.isSome z_3) then
    bif (Option.isSome (impl_HighestFor_p (Option.getD (spec_DrawLeastTiles_p code0) default))) then
    bif (Option.isSome z_4) then
    bif (Option.isSome (laws_vCut_p code0 (1 : Int))) then
    bif (Option.isSome (spec_DrawIsPossible_p (subn z_5 (Option.getD (laws_vCut_p code0 (1 : Int)) default) 0 z_5))) then
    bif (Option.isSome z_6) then
    bif (Option.isSome (laws_vCut_p code0 (2 : Int))) then
    bif (Option.isSome z_8) then
    bif (Option.isSome z_9) then
    bif (Option.isSome z_10) then
    bif (Option.isSome z_11) then
    bif (Option.isSome z_12) then
    bif (!((impl_LeastTiles_v (Option.getD (spec_DrawLeastTiles_p code0) default)).1 == z_13.1)) then
    k false
    else bif (!((impl_LeastTiles_v (Option.getD (spec_DrawLeastTiles_p code0) default)).2 == z_13.2)) then
    k false
    else bif (!(z_14.1 == z_15.1)) then
    k false
    else bif (!(z_14.2 == z_15.2)) then
    k false
    else bif (!((Option.getD (impl_HighestFor_p (Option.getD (spec_DrawLeastTiles_p code0) default)) default).1 == z_16.1)) then
    k false
    else bif (!((Option.getD (impl_HighestFor_p (Option.getD (spec_DrawLeastTiles_p code0) default)) default).2 == z_16.2)) then
    k false
    else bif (!(z_17.1 == z_18.1)) then
    k false
    else bif (!(z_17.2 == z_18.2)) then
    k false
    else bif (!(z_19.1 == z_20.1)) then
    k false
    else bif (!(z_19.2 == z_20.2)) then
    k false
    else bif (!(z_21.1 == z_22.1)) then
    k false
    else bif (!(z_21.2 == z_22.2)) then
    k false
    else bif (!((impl_LeastTiles_v (Option.getD (spec_DrawLeastTiles_p code0) default)).2 == z_14.2)) then
    k false
    else bif (!((impl_LeastTiles_v (Option.getD (spec_DrawLeastTiles_p code0) default)).2 == (Option.getD (impl_HighestFor_p (Option.getD (spec_DrawLeastTiles_p code0) default)) default).2)) then
    k false
    else bif (!(z_19.2 == z_21.2)) then
    k false
    else bif (impl_LeastTiles_v (Option.getD (spec_DrawLeastTiles_p code0) default)).2 then
    bif (Option.isSome z_23) then
    bif (Option.isSome z_24) then
    bif (Option.isSome z_25) then
    bif (!z_26.2) then
    k false
    else bif (!z_27.2) then
    k false
    else bif (!z_28.2) then
    k false
    else bif (!(z_26.1 == (Option.getD (spec_DrawLeastTiles_p code0) default))) then
    k false
    else bif (!((IntKind.wrap .i64 ((16 : Int) - (iget z_27.1 0))) == (impl_LeastTiles_v (Option.getD (spec_DrawLeastTiles_p code0) default)).1)) then
    k false
    else bif (!z_28.1) then
    k false
    else bif (!(z_29.2.2 == (decide ((0 : Int) < (Option.getD (spec_DrawLeastTiles_p code0) default))))) then
    k false
    else bif (!(z_29.1 == (Option.getD (impl_HighestFor_p (Option.getD (spec_DrawLeastTiles_p code0) default)) default).1)) then
    k false
    else bif (decide ((0 : Int) < (impl_LeastTiles_v (Option.getD (spec_DrawLeastTiles_p code0) default)).1)) then
    bif (!z_30.2) then
    k false
    else bif z_30.1 then
    k false
    else bif z_32 then
    bif (Option.getD z_31 default) then
    k false
    else bif z_17.2 then
    bif z_17.1 then
    bif z_33 then
    k false
    else bif z_34 then
    k false
    else bif z_35 then
    k false
    else bif z_36 then
    k true
    else bif z_38 then
    bif z_40 then
    bif z_44 then
    bif (Option.getD z_43 default) then
    k false
    else bif z_41.2 then
    bif z_42.2.1 then
    bif (impl_LeastTiles_v z_41.1).2 then
    bif z_45 then
    bif z_46 then
    k z_47
    else k false
    else k false
    else k false
    else k false
    else k false
    else none
    else none
    else none
    else bif z_36 then
    k true
    else bif z_38 then
    bif z_40 then
    bif z_44 then
    bif (Option.getD z_43 default) then
    k false
    else bif z_41.2 then
    bif z_42.2.1 then
    bif (impl_LeastTiles_v z_41.1).2 then
    bif z_45 then
    bif z_46 then
    k z_47
    else k false
    else k false
    else k false
    else k false
    else k false
    else none
    else none
    else none
    else bif z_36 then
    k true
    else bif z_38 then
    bif z_40 then
    bif z_44 then
    bif (Option.getD z_43 default) then
    k false
    else bif z_41.2 then
    bif z_42.2.1 then
    bif (impl_LeastTiles_v z_41.1).2 then
    bif z_45 then
    bif z_46 then
    k z_47
    else k false
    else k false
    else k false
    else k false
    else k false
    else none
    else none
    else none
    else none
    else bif z_32 then
    bif (Option.getD z_31 default) then
    k false
    else bif z_17.2 then
    bif z_17.1 then
    bif z_33 then
    k false
    else bif z_34 then
    k false
    else bif z_35 then
    k false
    else bif z_36 then
    k true
    else bif z_38 then
    bif z_40 then
    bif z_44 then
    bif (Option.getD z_43 default) then
    k false
    else bif z_41.2 then
    bif z_42.2.1 then
    bif (impl_LeastTiles_v z_41.1).2 then
    bif z_45 then
    bif z_46 then
    k z_47
    else k false
    else k false
    else k false
    else k false
    else k false
    else none
    else none
    else none
    else bif z_36 then
    k true
    else bif z_38 then
    bif z_40 then
    bif z_44 then
    bif (Option.getD z_43 default) then
    k false
    else bif z_41.2 then
    bif z_42.2.1 then
    bif (impl_LeastTiles_v z_41.1).2 then
    bif z_45 then
    bif z_46 then
    k z_47
    else k false
    else k false
    else k false
    else k false
    else k false
    else none
    else none
    else none
    else bif z_36 then
    k true
    else bif z_38 then
    bif z_40 then
    bif z_44 then
    bif (Option.getD z_43 default) then
    k false
    else bif z_41.2 then
    bif z_42.2.1 then
    bif (impl_LeastTiles_v z_41.1).2 then
    bif z_45 then
    bif z_46 then
    k z_47
    else k false
    else k false
    else k false
    else k false
    else k false
    else none
    else none
    else none
    else none
    else none
    else none
    else none
    else bif z_17.2 then
    bif z_17.1 then
    bif z_33 then
    k false
    else bif z_34 then
    k false
    else bif z_35 then
    k false
    else bif z_36 then
    k true
    else bif z_38 then
    bif z_40 then
    bif z_44 then
    bif (Option.getD z_43 default) then
    k false
    else bif z_41.2 then
    bif z_42.2.1 then
    bif (impl_LeastTiles_v z_41.1).2 then
    bif z_45 then
    bif z_46 then
    k z_47
    else k false
    else k false
    else k false
    else k false
    else k false
    else none
    else none
    else none
    else bif z_36 then
    k true
    else bif z_38 then
    bif z_40 then
    bif z_44 then
    bif (Option.getD z_43 default) then
    k false
    else bif z_41.2 then
    bif z_42.2.1 then
    bif (impl_LeastTiles_v z_41.1).2 then
    bif z_45 then
    bif z_46 then
    k z_47
    else k false
    else k false
    else k false
    else k false
    else k false
    else none
    else none
    else none
    else bif z_36 then
    k true
    else bif z_38 then
    bif z_40 then
    bif z_44 then
    bif (Option.getD z_43 default) then
    k false
    else bif z_41.2 then
    bif z_42.2.1 then
    bif (impl_LeastTiles_v z_41.1).2 then
    bif z_45 then
    bif z_46 then
    k z_47
    else k false
    else k false
    else k false
    else k false
    else k false
    else none
    else none
    else none
    else none
    else none
    else none
    else none
    else none
    else none
    else none
    else none
    else none
    else none
    else none
    else none
    else none
    else none
    else none
def laws_FnSums_p (F : Nat) (code0 : List Int) : Option (Bool) := laws_FnSums_c _ F code0 some
theorem laws_FnSums_cp (Q : Type) (F : Nat) (code0 : List Int) (k : (Bool) → Option Q) : laws_FnSums_c Q F code0 k = (laws_FnSums_p F code0).bind k := by
  simp only [laws_FnSums_p, laws_FnSums_c, cond_bindL, none_bindL, some_bindL]
end Go.Lv.P
