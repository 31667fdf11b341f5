/-
Pure functions and what the code of them does, by program; without conditions.
-/
import Derived.Test.YtkclnchkemacgaaTJP1
namespace Go.Lv.P
open Go Go.Lv
set_option linter.unusedVariables false
set_option linter.unusedSimpArgs false
set_option maxRecDepth 100000
/-- loop.example/g01194/impl.tiles -/
def impl_tiles_c (Q : Type) (F : Nat) (row0 : List Int) (k : (Nat × List Int) → Option Q) : Option Q :=
    let z_1 : Nat := (List.length (sub row0 0 4))
    let z_2 := (slices_DeleteFunc_intint_impl_tiles_f1_p F (sub row0 0 4))
    let z_3 := (Option.getD z_2 default)
    bif (fits z_1 8) then
    bif ((Nat.beq z_1 z_1) && (Option.isSome z_2)) then
    k (z_3.1, z_3.2)
    else none
    else none
def impl_tiles_p (F : Nat) (row0 : List Int) : Option (Nat × List Int) := impl_tiles_c _ F row0 some
theorem impl_tiles_cp (Q : Type) (F : Nat) (row0 : List Int) (k : (Nat × List Int) → Option Q) : impl_tiles_c Q F row0 k = (impl_tiles_p F row0).bind k := by
  simp only [impl_tiles_p, impl_tiles_c, cond_bindL, none_bindL, some_bindL]

/-- loop 3 of loop.example/g01194/impl.slideRow -/
def impl_slideRow_s3 (F : Nat) (t1415 : Nat) (t1516 : Int) (t1422 : List Int) (Q : Type) : (Int × Int × Int × List Int × List Bool) → ((Int × Int × Int × List Int × List Bool) → Option Q) → ((Int × List Int × List Bool) → Option Q) → Option Q
  | (score12, many13, t1617, out20, merged21), kn, kx =>
    let z_1 : Int := (IntKind.wrap .i64 (many13 - (1 : Int)))
    let z_2 : Bool := (inR z_1 4)
    let z_3 : Nat := ((0 : Nat) + ((Int.toNat z_1) * (1 : Nat)))
    let z_4 : Int := (iget t1422 ((0 : Nat) + (Int.toNat t1617)))
    let z_5 : Int := (IntKind.wrap .i64 (z_4 + (1 : Int)))
    let z_6 : Int := (IntKind.wrap .i64 (t1617 + (1 : Int)))
    let z_7 : Int := (IntKind.wrap .i64 (many13 + (1 : Int)))
    let z_8 : List Int := (iset out20 ((0 : Nat) + ((Int.toNat many13) * (1 : Nat))) z_4)
    bif (decide (t1617 < t1516)) then
    bif (inR t1617 t1415) then
    bif (decide ((0 : Int) < many13)) then
    bif z_2 then
    bif ((iget out20 z_3) == z_4) then
    bif (decide (z_4 < (17 : Int))) then
    bif z_2 then
    bif (!(bget merged21 z_3)) then
    bif (Option.isSome (impl_worth_p z_5)) then
    bif z_2 then
    bif z_2 then
    kn ((IntKind.wrap .i64 (score12 + (Option.getD (impl_worth_p z_5) default))), many13, z_6, (iset out20 z_3 z_5), (bset merged21 z_3 true))
    else none
    else none
    else none
    else bif (inR many13 4) then
    kn (score12, z_7, z_6, z_8, merged21)
    else none
    else none
    else bif (inR many13 4) then
    kn (score12, z_7, z_6, z_8, merged21)
    else none
    else bif (inR many13 4) then
    kn (score12, z_7, z_6, z_8, merged21)
    else none
    else none
    else bif (inR many13 4) then
    kn (score12, z_7, z_6, z_8, merged21)
    else none
    else none
    else kx (score12, out20, merged21)
def impl_slideRow_l3 (F : Nat) (t1415 : Nat) (t1516 : Int) (t1422 : List Int) (score12 : Int) (many13 : Int) (t1617 : Int) (out20 : List Int) (merged21 : List Bool) : Option (Int × List Int × List Bool) := loopC (impl_slideRow_s3 F t1415 t1516 t1422) F (score12, many13, t1617, out20, merged21) some
theorem impl_slideRow_s3_nat (F : Nat) (t1415 : Nat) (t1516 : Int) (t1422 : List Int) : Natural (impl_slideRow_s3 F t1415 t1516 t1422) := by
  intro Q Q' s kn kx h
  obtain ⟨score12, many13, t1617, out20, merged21⟩ := s
  simp only [impl_slideRow_s3, cond_bindL, none_bindL]
/-- loop.example/g01194/impl.slideRow -/
def impl_slideRow_c (Q : Type) (F : Nat) (row0 : List Int) (k : (List Int × Int × List Bool) → Option Q) : Option Q :=
    let z_1 := (impl_tiles_p F row0)
    let z_2 := (Option.getD z_1 default)
    let z_3 := (impl_slideRow_l3 F z_2.1 ((z_2.1 : Nat) : Int) z_2.2 (0 : Int) (0 : Int) (0 : Int) [(0 : Int), (0 : Int), (0 : Int), (0 : Int)] [false, false, false, false])
    let z_4 := (Option.getD z_3 default)
    bif (Option.isSome z_1) then
    bif (Option.isSome z_3) then
    k (z_4.2.1, z_4.1, z_4.2.2)
    else none
    else none
def impl_slideRow_p (F : Nat) (row0 : List Int) : Option (List Int × Int × List Bool) := impl_slideRow_c _ F row0 some
theorem impl_slideRow_cp (Q : Type) (F : Nat) (row0 : List Int) (k : (List Int × Int × List Bool) → Option Q) : impl_slideRow_c Q F row0 k = (impl_slideRow_p F row0).bind k := by
  simp only [impl_slideRow_p, impl_slideRow_c, cond_bindL, none_bindL, some_bindL]

/-- (loop.example/g01194/impl.Board).withLine -/
def impl_Board_withLine_c (Q : Type) (b0 : List Int) (direction1 : Int) (i2 : Int) (row3 : List Int) (k : (List Int) → Option Q) : Option Q :=
    let z_1 := (impl_Board_at_p (impl_lineCell_v direction1 i2 (0 : Int)) b0)
    let z_2 : List Int := (iset b0 (Option.getD z_1 default) (iget row3 0))
    let z_3 := (impl_Board_at_p (impl_lineCell_v direction1 i2 (1 : Int)) z_2)
    let z_4 : List Int := (iset z_2 (Option.getD z_3 default) (iget row3 1))
    let z_5 := (impl_Board_at_p (impl_lineCell_v direction1 i2 (2 : Int)) z_4)
    let z_6 : List Int := (iset z_4 (Option.getD z_5 default) (iget row3 2))
    let z_7 := (impl_Board_at_p (impl_lineCell_v direction1 i2 (3 : Int)) z_6)
    bif (Option.isSome z_1) then
    bif (Option.isSome z_3) then
    bif (Option.isSome z_5) then
    bif (Option.isSome z_7) then
    k (iset z_6 (Option.getD z_7 default) (iget row3 3))
    else none
    else none
    else none
    else none
def impl_Board_withLine_p (b0 : List Int) (direction1 : Int) (i2 : Int) (row3 : List Int) : Option (List Int) := impl_Board_withLine_c _ b0 direction1 i2 row3 some
theorem impl_Board_withLine_cp (Q : Type) (b0 : List Int) (direction1 : Int) (i2 : Int) (row3 : List Int) (k : (List Int) → Option Q) : impl_Board_withLine_c Q b0 direction1 i2 row3 k = (impl_Board_withLine_p b0 direction1 i2 row3).bind k := by
  simp only [impl_Board_withLine_p, impl_Board_withLine_c, cond_bindL, none_bindL, some_bindL]

/-- loop 8 of (loop.example/g01194/impl.Board).slide -/
def impl_Board_slide_s8 (F : Nat) (direction0 : Int) (score10 : Int) (t1712 : Int) (t3713 : List Bool) (b15 : List Int) (out17 : List Int) (Q : Type) : (Int × Int) → ((Int × Int) → Option Q) → ((Int) → Option Q) → Option Q
  | (mergers11, t3814), kn, kx =>
    let z_1 : Int := (IntKind.wrap .i64 (t3814 + (1 : Int)))
    bif (decide (t3814 < (4 : Int))) then
    bif (inR t3814 4) then
    bif (bget t3713 ((Int.toNat t3814) * (1 : Nat))) then
    kn ((IntKind.wrap .i64 (mergers11 + (1 : Int))), z_1)
    else kn (mergers11, z_1)
    else none
    else kx mergers11
def impl_Board_slide_l8 (F : Nat) (direction0 : Int) (score10 : Int) (t1712 : Int) (t3713 : List Bool) (b15 : List Int) (out17 : List Int) (mergers11 : Int) (t3814 : Int) : Option (Int) := loopC (impl_Board_slide_s8 F direction0 score10 t1712 t3713 b15 out17) F (mergers11, t3814) some
theorem impl_Board_slide_s8_nat (F : Nat) (direction0 : Int) (score10 : Int) (t1712 : Int) (t3713 : List Bool) (b15 : List Int) (out17 : List Int) : Natural (impl_Board_slide_s8 F direction0 score10 t1712 t3713 b15 out17) := by
  intro Q Q' s kn kx h
  obtain ⟨mergers11, t3814⟩ := s
  simp only [impl_Board_slide_s8, cond_bindL, none_bindL]
/-- loop 3 of (loop.example/g01194/impl.Board).slide -/
def impl_Board_slide_s3 (F : Nat) (direction0 : Int) (b13 : List Int) (Q : Type) : (Int × Int × Int × List Int) → ((Int × Int × Int × List Int) → Option Q) → ((Int × Int × List Int) → Option Q) → Option Q
  | (score10, mergers11, t1712, out15), kn, kx =>
    let z_1 := (impl_Board_line_p b13 direction0 t1712)
    let z_2 := (impl_slideRow_p F (Option.getD z_1 default))
    let z_3 := (Option.getD z_2 default)
    let z_4 := (impl_Board_withLine_p out15 direction0 t1712 z_3.1)
    let z_5 : Int := (IntKind.wrap .i64 (score10 + z_3.2.1))
    let z_6 := (impl_Board_slide_l8 F direction0 z_5 t1712 z_3.2.2 b13 (Option.getD z_4 default) mergers11 (0 : Int))
    bif (decide (t1712 < (4 : Int))) then
    bif (Option.isSome z_1) then
    bif (Option.isSome z_2) then
    bif (Option.isSome z_4) then
    bif (Option.isSome z_6) then
    kn (z_5, (Option.getD z_6 default), (IntKind.wrap .i64 (t1712 + (1 : Int))), (Option.getD z_4 default))
    else none
    else none
    else none
    else none
    else kx (score10, mergers11, out15)
def impl_Board_slide_l3 (F : Nat) (direction0 : Int) (b13 : List Int) (score10 : Int) (mergers11 : Int) (t1712 : Int) (out15 : List Int) : Option (Int × Int × List Int) := loopC (impl_Board_slide_s3 F direction0 b13) F (score10, mergers11, t1712, out15) some
theorem impl_Board_slide_s3_nat (F : Nat) (direction0 : Int) (b13 : List Int) : Natural (impl_Board_slide_s3 F direction0 b13) := by
  intro Q Q' s kn kx h
  obtain ⟨score10, mergers11, t1712, out15⟩ := s
  simp only [impl_Board_slide_s3, cond_bindL, none_bindL]
/-- (loop.example/g01194/impl.Board).slide -/
def impl_Board_slide_c (Q : Type) (F : Nat) (b0 : List Int) (direction1 : Int) (k : (List Int × Int × Int) → Option Q) : Option Q :=
    let z_1 := (impl_Board_slide_l3 F direction1 b0 (0 : Int) (0 : Int) (0 : Int) b0)
    let z_2 := (Option.getD z_1 default)
    bif (Option.isSome z_1) then
    k (z_2.2.2, z_2.1, z_2.2.1)
    else none
def impl_Board_slide_p (F : Nat) (b0 : List Int) (direction1 : Int) : Option (List Int × Int × Int) := impl_Board_slide_c _ F b0 direction1 some
theorem impl_Board_slide_cp (Q : Type) (F : Nat) (b0 : List Int) (direction1 : Int) (k : (List Int × Int × Int) → Option Q) : impl_Board_slide_c Q F b0 direction1 k = (impl_Board_slide_p F b0 direction1).bind k := by
  simp only [impl_Board_slide_p, impl_Board_slide_c, cond_bindL, none_bindL, some_bindL]

/-- loop 2 of (loop.example/g01194/impl.Board).slides -/
def impl_Board_slides_s2 (F : Nat) (t76 : List Int) (t87 : Int) (Q : Type) : (Int × List Int) → ((Int × List Int) → Option Q) → ((List Int) → Option Q) → Option Q
  | (t98, b9), kn, kx =>
    let z_1 := (impl_Board_slide_p F b9 (iget t76 (Int.toNat t98)))
    bif (decide (t98 < t87)) then
    bif (inR t98 (List.length t76)) then
    bif (Option.isSome z_1) then
    kn ((IntKind.wrap .i64 (t98 + (1 : Int))), (Option.getD z_1 default).1)
    else none
    else none
    else kx b9
def impl_Board_slides_l2 (F : Nat) (t76 : List Int) (t87 : Int) (t98 : Int) (b9 : List Int) : Option (List Int) := loopC (impl_Board_slides_s2 F t76 t87) F (t98, b9) some
theorem impl_Board_slides_s2_nat (F : Nat) (t76 : List Int) (t87 : Int) : Natural (impl_Board_slides_s2 F t76 t87) := by
  intro Q Q' s kn kx h
  obtain ⟨t98, b9⟩ := s
  simp only [impl_Board_slides_s2, cond_bindL, none_bindL]
/-- (loop.example/g01194/impl.Board).slides -/
def impl_Board_slides_c (Q : Type) (F : Nat) (b0 : List Int) (list1 : List Int) (k : (List Int) → Option Q) : Option Q :=
    let z_1 := (impl_Board_slides_l2 F list1 (((List.length list1) : Nat) : Int) (0 : Int) b0)
    bif (Option.isSome z_1) then
    k (Option.getD z_1 default)
    else none
def impl_Board_slides_p (F : Nat) (b0 : List Int) (list1 : List Int) : Option (List Int) := impl_Board_slides_c _ F b0 list1 some
theorem impl_Board_slides_cp (Q : Type) (F : Nat) (b0 : List Int) (list1 : List Int) (k : (List Int) → Option Q) : impl_Board_slides_c Q F b0 list1 k = (impl_Board_slides_p F b0 list1).bind k := by
  simp only [impl_Board_slides_p, impl_Board_slides_c, cond_bindL, none_bindL, some_bindL]

/-- loop 8 of (loop.example/g01194/impl.Board).reach -/
def impl_Board_reach_s8 (F : Nat) (n0 : Int) (from3 : Int) (own10 : List Int) (Q : Type) : (Int × List (List Int × List Int) × List (List Int)) → ((Int × List (List Int × List Int) × List (List Int)) → Option Q) → ((List (List Int × List Int) × List (List Int)) → Option Q) → Option Q
  | (t367, lists8, order9), kn, kx =>
    let z_1 := (impl_Board_slides_p F own10 [t367])
    let z_2 : List Int := (Option.getD (mlook own10 lists8) [])
    let z_3 : Nat := (List.length z_2)
    let z_4 : List Int := ((subn z_3 z_2 0 z_3) ++ [t367])
    let z_5 : Nat := (List.length z_4)
    let z_6 : List (List Int) := ((subn (List.length order9) order9 0 (List.length order9)) ++ [(Option.getD z_1 default)])
    let z_7 : Int := (IntKind.wrap .i64 (t367 + (1 : Int)))
    bif (decide (t367 < (4 : Int))) then
    bif (Option.isSome z_1) then
    bif (!(Option.isSome (mlook (Option.getD z_1 default) lists8))) then
    bif (fits z_3 8) then
    bif (fits z_5 8) then
    bif (fits (List.length z_6) 128) then
    kn (z_7, (mput (Option.getD z_1 default) (subn z_5 z_4 0 z_5) lists8), z_6)
    else none
    else none
    else none
    else kn (z_7, lists8, order9)
    else none
    else kx (lists8, order9)
def impl_Board_reach_l8 (F : Nat) (n0 : Int) (from3 : Int) (own10 : List Int) (t367 : Int) (lists8 : List (List Int × List Int)) (order9 : List (List Int)) : Option (List (List Int × List Int) × List (List Int)) := loopC (impl_Board_reach_s8 F n0 from3 own10) F (t367, lists8, order9) some
theorem impl_Board_reach_s8_nat (F : Nat) (n0 : Int) (from3 : Int) (own10 : List Int) : Natural (impl_Board_reach_s8 F n0 from3 own10) := by
  intro Q Q' s kn kx h
  obtain ⟨t367, lists8, order9⟩ := s
  simp only [impl_Board_reach_s8, cond_bindL, none_bindL]
/-- loop 3 of (loop.example/g01194/impl.Board).reach -/
def impl_Board_reach_s3 (F : Nat) (n0 : Int) (Q : Type) : (Int × List (List Int × List Int) × List (List Int)) → ((Int × List (List Int × List Int) × List (List Int)) → Option Q) → ((List (List Int × List Int) × List (List Int)) → Option Q) → Option Q
  | (from3, lists4, order5), kn, kx =>
    let z_1 : List Int := (rget order5 ((0 : Nat) + (Int.toNat from3)))
    let z_2 := (impl_Board_reach_l8 F n0 from3 z_1 (0 : Int) lists4 order5)
    let z_3 := (Option.getD z_2 default)
    bif (decide (from3 < (((List.length order5) : Nat) : Int))) then
    bif (inR from3 (List.length order5)) then
    bif ((((List.length (Option.getD (mlook z_1 lists4) [])) : Nat) : Int) == n0) then
    kx (lists4, order5)
    else bif ((Nat.beq (List.length order5) (List.length order5)) && (Option.isSome z_2)) then
    kn ((IntKind.wrap .i64 (from3 + (1 : Int))), z_3.1, z_3.2)
    else none
    else none
    else kx (lists4, order5)
def impl_Board_reach_l3 (F : Nat) (n0 : Int) (from3 : Int) (lists4 : List (List Int × List Int)) (order5 : List (List Int)) : Option (List (List Int × List Int) × List (List Int)) := loopC (impl_Board_reach_s3 F n0) F (from3, lists4, order5) some
theorem impl_Board_reach_s3_nat (F : Nat) (n0 : Int) : Natural (impl_Board_reach_s3 F n0) := by
  intro Q Q' s kn kx h
  obtain ⟨from3, lists4, order5⟩ := s
  simp only [impl_Board_reach_s3, cond_bindL, none_bindL]
/-- (loop.example/g01194/impl.Board).reach -/
def impl_Board_reach_c (Q : Type) (F : Nat) (b0 : List Int) (n1 : Int) (k : (List (List Int × List Int) × List (List Int)) → Option Q) : Option Q :=
    let z_1 := (impl_Board_reach_l3 F n1 (0 : Int) (mput b0 ([] : List Int) ([] : List (List Int × List Int))) [b0])
    let z_2 := (Option.getD z_1 default)
    bif (Option.isSome z_1) then
    k (z_2.1, z_2.2)
    else none
def impl_Board_reach_p (F : Nat) (b0 : List Int) (n1 : Int) : Option (List (List Int × List Int) × List (List Int)) := impl_Board_reach_c _ F b0 n1 some
theorem impl_Board_reach_cp (Q : Type) (F : Nat) (b0 : List Int) (n1 : Int) (k : (List (List Int × List Int) × List (List Int)) → Option Q) : impl_Board_reach_c Q F b0 n1 k = (impl_Board_reach_p F b0 n1).bind k := by
  simp only [impl_Board_reach_p, impl_Board_reach_c, cond_bindL, none_bindL, some_bindL]

/-- (loop.example/g01194/impl.Board).roadTo -/
def impl_Board_roadTo_c (Q : Type) (F : Nat) (b0 : List Int) (c1 : List Int) (k : (List Int × Bool) → Option Q) : Option Q :=
    let z_1 := (impl_IsBoard_p F b0)
    let z_2 := (impl_IsBoard_p F c1)
    let z_3 := (impl_Board_reach_p F b0 (6 : Int))
    bif (Option.isSome z_1) then
    bif (!(Option.getD z_1 default)) then
    k (([] : List Int), false)
    else bif (Option.isSome z_2) then
    bif (!(Option.getD z_2 default)) then
    k (([] : List Int), false)
    else bif (Option.isSome (impl_Board_sum_p b0)) then
    bif (Option.isSome (impl_Board_sum_p c1)) then
    bif (!((Option.getD (impl_Board_sum_p b0) default) == (Option.getD (impl_Board_sum_p c1) default))) then
    k (([] : List Int), false)
    else bif (Option.isSome z_3) then
    k ((Option.getD (mlook c1 (Option.getD z_3 default).1) []), (Option.isSome (mlook c1 (Option.getD z_3 default).1)))
    else none
    else none
    else none
    else none
    else none
def impl_Board_roadTo_p (F : Nat) (b0 : List Int) (c1 : List Int) : Option (List Int × Bool) := impl_Board_roadTo_c _ F b0 c1 some
theorem impl_Board_roadTo_cp (Q : Type) (F : Nat) (b0 : List Int) (c1 : List Int) (k : (List Int × Bool) → Option Q) : impl_Board_roadTo_c Q F b0 c1 k = (impl_Board_roadTo_p F b0 c1).bind k := by
  simp only [impl_Board_roadTo_p, impl_Board_roadTo_c, cond_bindL, none_bindL, some_bindL]

/-- loop.example/g01194/impl.FewestSlides -/
def impl_FewestSlides_c (Q : Type) (F : Nat) (a0 : List Int) (b1 : List Int) (k : (Int × Bool) → Option Q) : Option Q :=
    let z_1 := (impl_Board_roadTo_p F a0 b1)
    let z_2 := (Option.getD z_1 default)
    bif (Option.isSome z_1) then
    k ((((List.length z_2.1) : Nat) : Int), z_2.2)
    else none
def impl_FewestSlides_p (F : Nat) (a0 : List Int) (b1 : List Int) : Option (Int × Bool) := impl_FewestSlides_c _ F a0 b1 some
theorem impl_FewestSlides_cp (Q : Type) (F : Nat) (a0 : List Int) (b1 : List Int) (k : (Int × Bool) → Option Q) : impl_FewestSlides_c Q F a0 b1 k = (impl_FewestSlides_p F a0 b1).bind k := by
  simp only [impl_FewestSlides_p, impl_FewestSlides_c, cond_bindL, none_bindL, some_bindL]

/-- loop.example/g01194/laws.FnExactFewestSlides -/
def laws_FnExactFewestSlides_c (Q : Type) (F : Nat) (aA0 : List Int) (aB1 : List Int) (k : (Bool) → Option Q) : Option Q :=
    let z_1 := (spec_FewestSlides_p F (laws_toBoard_v aA0) (laws_toBoard_v aB1))
    let z_2 := (impl_FewestSlides_p F (laws_toBoard_v aA0) (laws_toBoard_v aB1))
    let z_3 := (Option.getD z_2 default)
    let z_4 := (Option.getD z_1 default)
    bif (Option.isSome z_1) then
    bif (Option.isSome z_2) then
    bif (!(z_3.1 == z_4.1)) then
    k false
    else bif (!(z_3.2 == z_4.2)) then
    k false
    else k true
    else none
    else none
def laws_FnExactFewestSlides_p (F : Nat) (aA0 : List Int) (aB1 : List Int) : Option (Bool) := laws_FnExactFewestSlides_c _ F aA0 aB1 some
theorem laws_FnExactFewestSlides_cp (Q : Type) (F : Nat) (aA0 : List Int) (aB1 : List Int) (k : (Bool) → Option Q) : laws_FnExactFewestSlides_c Q F aA0 aB1 k = (laws_FnExactFewestSlides_p F aA0 aB1).bind k := by
  simp only [laws_FnExactFewestSlides_p, laws_FnExactFewestSlides_c, cond_bindL, none_bindL, some_bindL]

/-- loop 3 of loop.example/g01194/spec.l5Reach -/
def spec_l5Reach_s3 (F : Nat) (n0 : Int) (Q : Type) : (List (List Int) × Int) → ((List (List Int) × Int) → Option Q) → ((List (List Int)) → Option Q) → Option Q
  | (all1, i2), kn, kx =>
    let z_1 := (spec_l5Next_p F all1)
    bif (decide (i2 < n0)) then
    bif (Option.isSome z_1) then
    kn ((Option.getD z_1 default), (IntKind.wrap .i64 (i2 + (1 : Int))))
    else none
    else kx all1
def spec_l5Reach_l3 (F : Nat) (n0 : Int) (all1 : List (List Int)) (i2 : Int) : Option (List (List Int)) := loopC (spec_l5Reach_s3 F n0) F (all1, i2) some
theorem spec_l5Reach_s3_nat (F : Nat) (n0 : Int) : Natural (spec_l5Reach_s3 F n0) := by
  intro Q Q' s kn kx h
  obtain ⟨all1, i2⟩ := s
  simp only [spec_l5Reach_s3, cond_bindL, none_bindL]
/-- loop.example/g01194/spec.l5Reach -/
def spec_l5Reach_c (Q : Type) (F : Nat) (b0 : List Int) (n1 : Int) (k : (List (List Int)) → Option Q) : Option Q :=
    let z_1 := (spec_l5Reach_l3 F n1 [b0] (0 : Int))
    bif (Option.isSome z_1) then
    k (Option.getD z_1 default)
    else none
def spec_l5Reach_p (F : Nat) (b0 : List Int) (n1 : Int) : Option (List (List Int)) := spec_l5Reach_c _ F b0 n1 some
theorem spec_l5Reach_cp (Q : Type) (F : Nat) (b0 : List Int) (n1 : Int) (k : (List (List Int)) → Option Q) : spec_l5Reach_c Q F b0 n1 k = (spec_l5Reach_p F b0 n1).bind k := by
  simp only [spec_l5Reach_p, spec_l5Reach_c, cond_bindL, none_bindL, some_bindL]

/-- loop 8 of loop.example/g01194/spec.HighestTile -/
def spec_HighestTile_s8 (F : Nat) (r10 : Int) (b12 : List Int) (Q : Type) : (Int × Int × List Int) → ((Int × Int × List Int) → Option Q) → ((Int × List Int) → Option Q) → Option Q
  | (best6, c11, cell14), kn, kx =>
    let z_1 : Int := (iget b12 (((0 : Nat) + ((Int.toNat r10) * (4 : Nat))) + ((Int.toNat c11) * (1 : Nat))))
    let z_2 : Int := (IntKind.wrap .i64 (c11 + (1 : Int)))
    bif (decide (c11 < (4 : Int))) then
    bif (inR r10 4) then
    bif (inR c11 4) then
    bif (decide (best6 < z_1)) then
    bif (inR r10 4) then
    bif (inR c11 4) then
    kn (z_1, z_2, [r10, c11])
    else none
    else none
    else kn (best6, z_2, cell14)
    else none
    else none
    else kx (best6, cell14)
def spec_HighestTile_l8 (F : Nat) (r10 : Int) (b12 : List Int) (best6 : Int) (c11 : Int) (cell14 : List Int) : Option (Int × List Int) := loopC (spec_HighestTile_s8 F r10 b12) F (best6, c11, cell14) some
theorem spec_HighestTile_s8_nat (F : Nat) (r10 : Int) (b12 : List Int) : Natural (spec_HighestTile_s8 F r10 b12) := by
  intro Q Q' s kn kx h
  obtain ⟨best6, c11, cell14⟩ := s
  simp only [spec_HighestTile_s8, cond_bindL, none_bindL]
/-- loop 5 of loop.example/g01194/spec.HighestTile -/
def spec_HighestTile_s5 (F : Nat) (b11 : List Int) (Q : Type) : (Int × Int × List Int) → ((Int × Int × List Int) → Option Q) → ((Int × List Int) → Option Q) → Option Q
  | (best6, r10, cell13), kn, kx =>
    let z_1 := (spec_HighestTile_l8 F r10 b11 best6 (0 : Int) cell13)
    let z_2 := (Option.getD z_1 default)
    bif (decide (r10 < (4 : Int))) then
    bif (Option.isSome z_1) then
    kn (z_2.1, (IntKind.wrap .i64 (r10 + (1 : Int))), z_2.2)
    else none
    else kx (best6, cell13)
def spec_HighestTile_l5 (F : Nat) (b11 : List Int) (best6 : Int) (r10 : Int) (cell13 : List Int) : Option (Int × List Int) := loopC (spec_HighestTile_s5 F b11) F (best6, r10, cell13) some
theorem spec_HighestTile_s5_nat (F : Nat) (b11 : List Int) : Natural (spec_HighestTile_s5 F b11) := by
  intro Q Q' s kn kx h
  obtain ⟨best6, r10, cell13⟩ := s
  simp only [spec_HighestTile_s5, cond_bindL, none_bindL]
/-- loop.example/g01194/spec.HighestTile -/
def spec_HighestTile_c (Q : Type) (F : Nat) (b0 : List Int) (k : (Int × List Int × Bool) → Option Q) : Option Q :=
    let z_1 := (spec_l2Board_p F b0)
    let z_2 := (spec_HighestTile_l5 F b0 (0 : Int) (0 : Int) [(0 : Int), (0 : Int)])
    let z_3 := (Option.getD z_2 default)
    bif (Option.isSome z_1) then
    bif (!(Option.getD z_1 default)) then
    k ((0 : Int), [(0 : Int), (0 : Int)], false)
    else bif (Option.isSome z_2) then
    k (z_3.1, z_3.2, (decide ((0 : Int) < z_3.1)))
    else none
    else none
def spec_HighestTile_p (F : Nat) (b0 : List Int) : Option (Int × List Int × Bool) := spec_HighestTile_c _ F b0 some
theorem spec_HighestTile_cp (Q : Type) (F : Nat) (b0 : List Int) (k : (Int × List Int × Bool) → Option Q) : spec_HighestTile_c Q F b0 k = (spec_HighestTile_p F b0).bind k := by
  simp only [spec_HighestTile_p, spec_HighestTile_c, cond_bindL, none_bindL, some_bindL]

/-- loop.example/g01194/spec.l5Highest -/
def spec_l5Highest_c (Q : Type) (F : Nat) (b0 : List Int) (k : (Int) → Option Q) : Option Q :=
    let z_1 := (spec_HighestTile_p F b0)
    bif (Option.isSome z_1) then
    k (Option.getD z_1 default).1
    else none
def spec_l5Highest_p (F : Nat) (b0 : List Int) : Option (Int) := spec_l5Highest_c _ F b0 some
theorem spec_l5Highest_cp (Q : Type) (F : Nat) (b0 : List Int) (k : (Int) → Option Q) : spec_l5Highest_c Q F b0 k = (spec_l5Highest_p F b0).bind k := by
  simp only [spec_l5Highest_p, spec_l5Highest_c, cond_bindL, none_bindL, some_bindL]
end Go.Lv.P
