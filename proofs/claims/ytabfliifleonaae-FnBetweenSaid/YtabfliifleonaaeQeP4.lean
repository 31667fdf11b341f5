/-
Pure functions and what the code of them does, by program; without conditions.
-/
import Derived.Test.YtabfliifleonaaeQeP3
namespace Go.Lv.P
open Go Go.Lv
set_option linter.unusedVariables false
set_option linter.unusedSimpArgs false
set_option maxRecDepth 100000
/-- loop 12 of loop.example/g01194/impl.EqualPairs -/
def impl_EqualPairs_s12 (F : Nat) (d4 : Int) (t128 : Int) (t159 : Int) (b11 : List Int) (row12 : List Int) (Q : Type) : (Int × Int) → ((Int × Int) → Option Q) → ((Int) → Option Q) → Option Q
  | (count3, t2210), kn, kx =>
    let z_1 : Int := (IntKind.wrap .i64 (t2210 + (1 : Int)))
    let z_2 : Int := (iget row12 ((0 : Nat) + ((Int.toNat t2210) * (1 : Nat))))
    bif (decide (t2210 < (3 : Int))) then
    bif (inR t2210 4) then
    bif (inR z_1 4) then
    bif (z_2 == (iget row12 ((0 : Nat) + ((Int.toNat z_1) * (1 : Nat))))) then
    bif (inR t2210 4) then
    bif (impl_in_v z_2 (1 : Int) (16 : Int)) then
    kn ((IntKind.wrap .i64 (count3 + (1 : Int))), z_1)
    else kn (count3, z_1)
    else none
    else kn (count3, z_1)
    else none
    else none
    else kx count3
def impl_EqualPairs_l12 (F : Nat) (d4 : Int) (t128 : Int) (t159 : Int) (b11 : List Int) (row12 : List Int) (count3 : Int) (t2210 : Int) : Option (Int) := loopC (impl_EqualPairs_s12 F d4 t128 t159 b11 row12) F (count3, t2210) some
theorem impl_EqualPairs_s12_nat (F : Nat) (d4 : Int) (t128 : Int) (t159 : Int) (b11 : List Int) (row12 : List Int) : Natural (impl_EqualPairs_s12 F d4 t128 t159 b11 row12) := by
  intro Q Q' s kn kx h
  obtain ⟨count3, t2210⟩ := s
  simp only [impl_EqualPairs_s12, cond_bindL, none_bindL]
/-- loop 8 of loop.example/g01194/impl.EqualPairs -/
def impl_EqualPairs_s8 (F : Nat) (d4 : Int) (t125 : Int) (b7 : List Int) (Q : Type) : (Int × Int) → ((Int × Int) → Option Q) → ((Int) → Option Q) → Option Q
  | (count3, t156), kn, kx =>
    let z_1 := (impl_Board_line_p b7 d4 t156)
    let z_2 := (impl_EqualPairs_l12 F d4 t125 t156 b7 (Option.getD z_1 default) count3 (0 : Int))
    bif (decide (t156 < (4 : Int))) then
    bif (Option.isSome z_1) then
    bif (Option.isSome z_2) then
    kn ((Option.getD z_2 default), (IntKind.wrap .i64 (t156 + (1 : Int))))
    else none
    else none
    else kx count3
def impl_EqualPairs_l8 (F : Nat) (d4 : Int) (t125 : Int) (b7 : List Int) (count3 : Int) (t156 : Int) : Option (Int) := loopC (impl_EqualPairs_s8 F d4 t125 b7) F (count3, t156) some
theorem impl_EqualPairs_s8_nat (F : Nat) (d4 : Int) (t125 : Int) (b7 : List Int) : Natural (impl_EqualPairs_s8 F d4 t125 b7) := by
  intro Q Q' s kn kx h
  obtain ⟨count3, t156⟩ := s
  simp only [impl_EqualPairs_s8, cond_bindL, none_bindL]
/-- loop 5 of loop.example/g01194/impl.EqualPairs -/
def impl_EqualPairs_s5 (F : Nat) (b5 : List Int) (Q : Type) : (Int × Int) → ((Int × Int) → Option Q) → ((Int) → Option Q) → Option Q
  | (count3, t124), kn, kx =>
    let z_1 := (impl_EqualPairs_l8 F t124 t124 b5 count3 (0 : Int))
    bif (decide (t124 < (2 : Int))) then
    bif (Option.isSome z_1) then
    kn ((Option.getD z_1 default), (IntKind.wrap .i64 (t124 + (1 : Int))))
    else none
    else kx count3
def impl_EqualPairs_l5 (F : Nat) (b5 : List Int) (count3 : Int) (t124 : Int) : Option (Int) := loopC (impl_EqualPairs_s5 F b5) F (count3, t124) some
theorem impl_EqualPairs_s5_nat (F : Nat) (b5 : List Int) : Natural (impl_EqualPairs_s5 F b5) := by
  intro Q Q' s kn kx h
  obtain ⟨count3, t124⟩ := s
  simp only [impl_EqualPairs_s5, cond_bindL, none_bindL]
/-- loop.example/g01194/impl.EqualPairs -/
def impl_EqualPairs_c (Q : Type) (F : Nat) (b0 : List Int) (k : (Int × Bool) → Option Q) : Option Q :=
    let z_1 := (impl_IsBoard_p F b0)
    let z_2 := (impl_EqualPairs_l5 F b0 (0 : Int) (0 : Int))
    bif (Option.isSome z_1) then
    bif (!(Option.getD z_1 default)) then
    k ((0 : Int), false)
    else bif (Option.isSome z_2) then
    k ((Option.getD z_2 default), true)
    else none
    else none
def impl_EqualPairs_p (F : Nat) (b0 : List Int) : Option (Int × Bool) := impl_EqualPairs_c _ F b0 some
theorem impl_EqualPairs_cp (Q : Type) (F : Nat) (b0 : List Int) (k : (Int × Bool) → Option Q) : impl_EqualPairs_c Q F b0 k = (impl_EqualPairs_p F b0).bind k := by
  simp only [impl_EqualPairs_p, impl_EqualPairs_c, cond_bindL, none_bindL, some_bindL]

/-- loop.example/g01194/impl.isDirection -/
def impl_isDirection_c (Q : Type) (d0 : Int) (k : (Bool) → Option Q) : Option Q :=
    k (impl_in_v d0 (0 : Int) (3 : Int))
def impl_isDirection_v (d0 : Int) : Bool :=
    (impl_in_v d0 (0 : Int) (3 : Int))
theorem impl_isDirection_cv (Q : Type) (d0 : Int) (k : (Bool) → Option Q) : impl_isDirection_c Q d0 k = k (impl_isDirection_v d0) := by
  simp only [impl_isDirection_c, impl_isDirection_v, app_condL k]


/-- loop.example/g01194/impl.tiles$1 -/
def impl_tiles_f1_c (Q : Type) (n0 : Int) (k : (Bool) → Option Q) : Option Q :=
    k (n0 == (0 : Int))
def impl_tiles_f1_v (n0 : Int) : Bool :=
    (n0 == (0 : Int))
theorem impl_tiles_f1_cv (Q : Type) (n0 : Int) (k : (Bool) → Option Q) : impl_tiles_f1_c Q n0 k = k (impl_tiles_f1_v n0) := by
  simp only [impl_tiles_f1_c, impl_tiles_f1_v, app_condL k]

/-- loop 2 of slices.IndexFunc[[]int,int] -/
def slices_IndexFunc_intint_impl_tiles_f1_s2 (F : Nat) (s0 : List Int) (t71 : Int) (Q : Type) : (Int) → ((Int) → Option Q) → ((Bool × Int) → Option Q) → Option Q
  | t82, kn, kx =>
    bif (decide (t82 < t71)) then
    bif (inR t82 (List.length s0)) then
    bif (impl_tiles_f1_v (iget s0 (Int.toNat t82))) then
    kx (true, t82)
    else kn (IntKind.wrap .i64 (t82 + (1 : Int)))
    else none
    else kx (false, default)
def slices_IndexFunc_intint_impl_tiles_f1_l2 (F : Nat) (s0 : List Int) (t71 : Int) (t82 : Int) : Option (Bool × Int) := loopC (slices_IndexFunc_intint_impl_tiles_f1_s2 F s0 t71) F t82 some
theorem slices_IndexFunc_intint_impl_tiles_f1_s2_nat (F : Nat) (s0 : List Int) (t71 : Int) : Natural (slices_IndexFunc_intint_impl_tiles_f1_s2 F s0 t71) := by
  intro Q Q' s kn kx h
  simp only [slices_IndexFunc_intint_impl_tiles_f1_s2, cond_bindL, none_bindL]
/-- slices.IndexFunc[[]int,int] -/
def slices_IndexFunc_intint_impl_tiles_f1_c (Q : Type) (F : Nat) (s0 : List Int) (k : (Int) → Option Q) : Option Q :=
    let z_1 := (slices_IndexFunc_intint_impl_tiles_f1_l2 F s0 (((List.length s0) : Nat) : Int) (0 : Int))
    let z_2 := (Option.getD z_1 default)
    bif (Option.isSome z_1) then
    bif z_2.1 then
    k z_2.2
    else k (-1 : Int)
    else none
def slices_IndexFunc_intint_impl_tiles_f1_p (F : Nat) (s0 : List Int) : Option (Int) := slices_IndexFunc_intint_impl_tiles_f1_c _ F s0 some
theorem slices_IndexFunc_intint_impl_tiles_f1_cp (Q : Type) (F : Nat) (s0 : List Int) (k : (Int) → Option Q) : slices_IndexFunc_intint_impl_tiles_f1_c Q F s0 k = (slices_IndexFunc_intint_impl_tiles_f1_p F s0).bind k := by
  simp only [slices_IndexFunc_intint_impl_tiles_f1_p, slices_IndexFunc_intint_impl_tiles_f1_c, cond_bindL, none_bindL, some_bindL]

/-- loop 5 of slices.DeleteFunc[[]int,int] -/
def slices_DeleteFunc_intint_impl_tiles_f1_s5 (F : Nat) (s1 : Nat) (Q : Type) : (Int × Int × List Int) → ((Int × Int × List Int) → Option Q) → ((Int × List Int) → Option Q) → Option Q
  | (i2, j3, s4), kn, kx =>
    let z_1 : Int := (iget s4 ((0 : Nat) + (Int.toNat j3)))
    let z_2 : Int := (IntKind.wrap .i64 (j3 + (1 : Int)))
    bif (decide (j3 < ((s1 : Nat) : Int))) then
    bif (inR j3 s1) then
    bif (!(impl_tiles_f1_v z_1)) then
    bif (inR i2 s1) then
    kn ((IntKind.wrap .i64 (i2 + (1 : Int))), z_2, (iset s4 ((0 : Nat) + (Int.toNat i2)) z_1))
    else none
    else kn (i2, z_2, s4)
    else none
    else kx (i2, s4)
def slices_DeleteFunc_intint_impl_tiles_f1_l5 (F : Nat) (s1 : Nat) (i2 : Int) (j3 : Int) (s4 : List Int) : Option (Int × List Int) := loopC (slices_DeleteFunc_intint_impl_tiles_f1_s5 F s1) F (i2, j3, s4) some
theorem slices_DeleteFunc_intint_impl_tiles_f1_s5_nat (F : Nat) (s1 : Nat) : Natural (slices_DeleteFunc_intint_impl_tiles_f1_s5 F s1) := by
  intro Q Q' s kn kx h
  obtain ⟨i2, j3, s4⟩ := s
  simp only [slices_DeleteFunc_intint_impl_tiles_f1_s5, cond_bindL, none_bindL]
/-- slices.DeleteFunc[[]int,int] -/
def slices_DeleteFunc_intint_impl_tiles_f1_c (Q : Type) (F : Nat) (s2 : List Int) (k : (Nat × List Int) → Option Q) : Option Q :=
    let z_1 := (slices_IndexFunc_intint_impl_tiles_f1_p F (subn (List.length s2) s2 0 (List.length s2)))
    let z_2 := (slices_DeleteFunc_intint_impl_tiles_f1_l5 F (List.length s2) (Option.getD z_1 default) (IntKind.wrap .i64 ((Option.getD z_1 default) + (1 : Int))) s2)
    let z_3 := (Option.getD z_2 default)
    let z_4 : Bool := (inLe z_3.1 (List.length s2))
    let z_5 : Nat := (Int.toNat z_3.1)
    let z_6 : Nat := ((List.length s2) - z_5)
    bif (Option.isSome z_1) then
    bif ((Option.getD z_1 default) == (-1 : Int)) then
    k ((List.length s2), s2)
    else bif (Option.isSome z_2) then
    bif z_4 then
    bif z_4 then
    k ((z_5 - (0 : Nat)), (splice z_3.2 ((0 : Nat) + z_5) (List.replicate z_6 (0 : Int)) z_6))
    else none
    else none
    else none
    else none
def slices_DeleteFunc_intint_impl_tiles_f1_p (F : Nat) (s2 : List Int) : Option (Nat × List Int) := slices_DeleteFunc_intint_impl_tiles_f1_c _ F s2 some
theorem slices_DeleteFunc_intint_impl_tiles_f1_cp (Q : Type) (F : Nat) (s2 : List Int) (k : (Nat × List Int) → Option Q) : slices_DeleteFunc_intint_impl_tiles_f1_c Q F s2 k = (slices_DeleteFunc_intint_impl_tiles_f1_p F s2).bind k := by
  simp only [slices_DeleteFunc_intint_impl_tiles_f1_p, slices_DeleteFunc_intint_impl_tiles_f1_c, cond_bindL, none_bindL, some_bindL]

/-- loop.example/g01194/impl.tiles -/
def impl_tiles_c (Q : Type) (F : Nat) (row0 : List Int) (k : (Nat × List Int) → Option Q) : Option Q :=
    let z_1 : Nat := (List.length (sub row0 0 4))
    let z_2 := (slices_DeleteFunc_intint_impl_tiles_f1_p F (sub row0 0 4))
    let z_3 := (Option.getD z_2 default)
    bif (fits z_1 8) then
    bif ((Nat.beq z_1 z_1) && (Option.isSome z_2)) then
    k (z_3.1, z_3.2)
    else none
    else none
def impl_tiles_p (F : Nat) (row0 : List Int) : Option (Nat × List Int) := impl_tiles_c _ F row0 some
theorem impl_tiles_cp (Q : Type) (F : Nat) (row0 : List Int) (k : (Nat × List Int) → Option Q) : impl_tiles_c Q F row0 k = (impl_tiles_p F row0).bind k := by
  simp only [impl_tiles_p, impl_tiles_c, cond_bindL, none_bindL, some_bindL]

/-- loop 3 of loop.example/g01194/impl.slideRow -/
def impl_slideRow_s3 (F : Nat) (t1415 : Nat) (t1516 : Int) (t1422 : List Int) (Q : Type) : (Int × Int × Int × List Int × List Bool) → ((Int × Int × Int × List Int × List Bool) → Option Q) → ((Int × List Int × List Bool) → Option Q) → Option Q
  | (score12, many13, t1617, out20, merged21), kn, kx =>
    let z_1 : Int := (IntKind.wrap .i64 (many13 - (1 : Int)))
    let z_2 : Bool := (inR z_1 4)
    let z_3 : Nat := ((0 : Nat) + ((Int.toNat z_1) * (1 : Nat)))
    let z_4 : Int := (iget t1422 ((0 : Nat) + (Int.toNat t1617)))
    let z_5 : Int := (IntKind.wrap .i64 (z_4 + (1 : Int)))
    let z_6 : Int := (IntKind.wrap .i64 (t1617 + (1 : Int)))
    let z_7 : Int := (IntKind.wrap .i64 (many13 + (1 : Int)))
    let z_8 : List Int := (iset out20 ((0 : Nat) + ((Int.toNat many13) * (1 : Nat))) z_4)
    bif (decide (t1617 < t1516)) then
    bif (inR t1617 t1415) then
    bif (decide ((0 : Int) < many13)) then
    bif z_2 then
    bif ((iget out20 z_3) == z_4) then
    bif (decide (z_4 < (17 : Int))) then
    bif z_2 then
    bif (!(bget merged21 z_3)) then
    bif (Option.isSome (impl_worth_p z_5)) then
    bif z_2 then
    bif z_2 then
    kn ((IntKind.wrap .i64 (score12 + (Option.getD (impl_worth_p z_5) default))), many13, z_6, (iset out20 z_3 z_5), (bset merged21 z_3 true))
    else none
    else none
    else none
    else bif (inR many13 4) then
    kn (score12, z_7, z_6, z_8, merged21)
    else none
    else none
    else bif (inR many13 4) then
    kn (score12, z_7, z_6, z_8, merged21)
    else none
    else bif (inR many13 4) then
    kn (score12, z_7, z_6, z_8, merged21)
    else none
    else none
    else bif (inR many13 4) then
    kn (score12, z_7, z_6, z_8, merged21)
    else none
    else none
    else kx (score12, out20, merged21)
def impl_slideRow_l3 (F : Nat) (t1415 : Nat) (t1516 : Int) (t1422 : List Int) (score12 : Int) (many13 : Int) (t1617 : Int) (out20 : List Int) (merged21 : List Bool) : Option (Int × List Int × List Bool) := loopC (impl_slideRow_s3 F t1415 t1516 t1422) F (score12, many13, t1617, out20, merged21) some
theorem impl_slideRow_s3_nat (F : Nat) (t1415 : Nat) (t1516 : Int) (t1422 : List Int) : Natural (impl_slideRow_s3 F t1415 t1516 t1422) := by
  intro Q Q' s kn kx h
  obtain ⟨score12, many13, t1617, out20, merged21⟩ := s
  simp only [impl_slideRow_s3, cond_bindL, none_bindL]
/-- loop.example/g01194/impl.slideRow -/
def impl_slideRow_c (Q : Type) (F : Nat) (row0 : List Int) (k : (List Int × Int × List Bool) → Option Q) : Option Q :=
    let z_1 := (impl_tiles_p F row0)
    let z_2 := (Option.getD z_1 default)
    let z_3 := (impl_slideRow_l3 F z_2.1 ((z_2.1 : Nat) : Int) z_2.2 (0 : Int) (0 : Int) (0 : Int) [(0 : Int), (0 : Int), (0 : Int), (0 : Int)] [false, false, false, false])
    let z_4 := (Option.getD z_3 default)
    bif (Option.isSome z_1) then
    bif (Option.isSome z_3) then
    k (z_4.2.1, z_4.1, z_4.2.2)
    else none
    else none
def impl_slideRow_p (F : Nat) (row0 : List Int) : Option (List Int × Int × List Bool) := impl_slideRow_c _ F row0 some
theorem impl_slideRow_cp (Q : Type) (F : Nat) (row0 : List Int) (k : (List Int × Int × List Bool) → Option Q) : impl_slideRow_c Q F row0 k = (impl_slideRow_p F row0).bind k := by
  simp only [impl_slideRow_p, impl_slideRow_c, cond_bindL, none_bindL, some_bindL]

/-- (loop.example/g01194/impl.Board).withLine -/
def impl_Board_withLine_c (Q : Type) (b0 : List Int) (direction1 : Int) (i2 : Int) (row3 : List Int) (k : (List Int) → Option Q) : Option Q :=
    let z_1 := (impl_Board_at_p (impl_lineCell_v direction1 i2 (0 : Int)) b0)
    let z_2 : List Int := (iset b0 (Option.getD z_1 default) (iget row3 0))
    let z_3 := (impl_Board_at_p (impl_lineCell_v direction1 i2 (1 : Int)) z_2)
    let z_4 : List Int := (iset z_2 (Option.getD z_3 default) (iget row3 1))
    let z_5 := (impl_Board_at_p (impl_lineCell_v direction1 i2 (2 : Int)) z_4)
    let z_6 : List Int := (iset z_4 (Option.getD z_5 default) (iget row3 2))
    let z_7 := (impl_Board_at_p (impl_lineCell_v direction1 i2 (3 : Int)) z_6)
    bif (Option.isSome z_1) then
    bif (Option.isSome z_3) then
    bif (Option.isSome z_5) then
    bif (Option.isSome z_7) then
    k (iset z_6 (Option.getD z_7 default) (iget row3 3))
    else none
    else none
    else none
    else none
def impl_Board_withLine_p (b0 : List Int) (direction1 : Int) (i2 : Int) (row3 : List Int) : Option (List Int) := impl_Board_withLine_c _ b0 direction1 i2 row3 some
theorem impl_Board_withLine_cp (Q : Type) (b0 : List Int) (direction1 : Int) (i2 : Int) (row3 : List Int) (k : (List Int) → Option Q) : impl_Board_withLine_c Q b0 direction1 i2 row3 k = (impl_Board_withLine_p b0 direction1 i2 row3).bind k := by
  simp only [impl_Board_withLine_p, impl_Board_withLine_c, cond_bindL, none_bindL, some_bindL]

/-- loop 8 of (loop.example/g01194/impl.Board).slide -/
def impl_Board_slide_s8 (F : Nat) (direction0 : Int) (score10 : Int) (t1712 : Int) (t3713 : List Bool) (b15 : List Int) (out17 : List Int) (Q : Type) : (Int × Int) → ((Int × Int) → Option Q) → ((Int) → Option Q) → Option Q
  | (mergers11, t3814), kn, kx =>
    let z_1 : Int := (IntKind.wrap .i64 (t3814 + (1 : Int)))
    bif (decide (t3814 < (4 : Int))) then
    bif (inR t3814 4) then
    bif (bget t3713 ((Int.toNat t3814) * (1 : Nat))) then
    kn ((IntKind.wrap .i64 (mergers11 + (1 : Int))), z_1)
    else kn (mergers11, z_1)
    else none
    else kx mergers11
def impl_Board_slide_l8 (F : Nat) (direction0 : Int) (score10 : Int) (t1712 : Int) (t3713 : List Bool) (b15 : List Int) (out17 : List Int) (mergers11 : Int) (t3814 : Int) : Option (Int) := loopC (impl_Board_slide_s8 F direction0 score10 t1712 t3713 b15 out17) F (mergers11, t3814) some
theorem impl_Board_slide_s8_nat (F : Nat) (direction0 : Int) (score10 : Int) (t1712 : Int) (t3713 : List Bool) (b15 : List Int) (out17 : List Int) : Natural (impl_Board_slide_s8 F direction0 score10 t1712 t3713 b15 out17) := by
  intro Q Q' s kn kx h
  obtain ⟨mergers11, t3814⟩ := s
  simp only [impl_Board_slide_s8, cond_bindL, none_bindL]
/-- loop 3 of (loop.example/g01194/impl.Board).slide -/
def impl_Board_slide_s3 (F : Nat) (direction0 : Int) (b13 : List Int) (Q : Type) : (Int × Int × Int × List Int) → ((Int × Int × Int × List Int) → Option Q) → ((Int × Int × List Int) → Option Q) → Option Q
  | (score10, mergers11, t1712, out15), kn, kx =>
    let z_1 := (impl_Board_line_p b13 direction0 t1712)
    let z_2 := (impl_slideRow_p F (Option.getD z_1 default))
    let z_3 := (Option.getD z_2 default)
    let z_4 := (impl_Board_withLine_p out15 direction0 t1712 z_3.1)
    let z_5 : Int := (IntKind.wrap .i64 (score10 + z_3.2.1))
    let z_6 := (impl_Board_slide_l8 F direction0 z_5 t1712 z_3.2.2 b13 (Option.getD z_4 default) mergers11 (0 : Int))
    bif (decide (t1712 < (4 : Int))) then
    bif (Option.isSome z_1) then
    bif (Option.isSome z_2) then
    bif (Option.isSome z_4) then
    bif (Option.isSome z_6) then
    kn (z_5, (Option.getD z_6 default), (IntKind.wrap .i64 (t1712 + (1 : Int))), (Option.getD z_4 default))
    else none
    else none
    else none
    else none
    else kx (score10, mergers11, out15)
def impl_Board_slide_l3 (F : Nat) (direction0 : Int) (b13 : List Int) (score10 : Int) (mergers11 : Int) (t1712 : Int) (out15 : List Int) : Option (Int × Int × List Int) := loopC (impl_Board_slide_s3 F direction0 b13) F (score10, mergers11, t1712, out15) some
theorem impl_Board_slide_s3_nat (F : Nat) (direction0 : Int) (b13 : List Int) : Natural (impl_Board_slide_s3 F direction0 b13) := by
  intro Q Q' s kn kx h
  obtain ⟨score10, mergers11, t1712, out15⟩ := s
  simp only [impl_Board_slide_s3, cond_bindL, none_bindL]
/-- (loop.example/g01194/impl.Board).slide -/
def impl_Board_slide_c (Q : Type) (F : Nat) (b0 : List Int) (direction1 : Int) (k : (List Int × Int × Int) → Option Q) : Option Q :=
    let z_1 := (impl_Board_slide_l3 F direction1 b0 (0 : Int) (0 : Int) (0 : Int) b0)
    let z_2 := (Option.getD z_1 default)
    bif (Option.isSome z_1) then
    k (z_2.2.2, z_2.1, z_2.2.1)
    else none
def impl_Board_slide_p (F : Nat) (b0 : List Int) (direction1 : Int) : Option (List Int × Int × Int) := impl_Board_slide_c _ F b0 direction1 some
theorem impl_Board_slide_cp (Q : Type) (F : Nat) (b0 : List Int) (direction1 : Int) (k : (List Int × Int × Int) → Option Q) : impl_Board_slide_c Q F b0 direction1 k = (impl_Board_slide_p F b0 direction1).bind k := by
  simp only [impl_Board_slide_p, impl_Board_slide_c, cond_bindL, none_bindL, some_bindL]

/-- loop.example/g01194/impl.SlideBoard -/
def impl_SlideBoard_c (Q : Type) (F : Nat) (b0 : List Int) (direction1 : Int) (k : (List Int × Int × Bool) → Option Q) : Option Q :=
    let z_1 := (impl_IsBoard_p F b0)
    let z_2 : List Int := [(0 : Int), (0 : Int), (0 : Int), (0 : Int), (0 : Int), (0 : Int), (0 : Int), (0 : Int), (0 : Int), (0 : Int), (0 : Int), (0 : Int), (0 : Int), (0 : Int), (0 : Int), (0 : Int)]
    let z_3 := (impl_Board_slide_p F b0 direction1)
    let z_4 := (Option.getD z_3 default)
    bif (Option.isSome z_1) then
    bif (!(Option.getD z_1 default)) then
    k (z_2, (0 : Int), false)
    else bif (!(impl_isDirection_v direction1)) then
    k (z_2, (0 : Int), false)
    else bif (Option.isSome z_3) then
    k (z_4.1, z_4.2.1, true)
    else none
    else none
def impl_SlideBoard_p (F : Nat) (b0 : List Int) (direction1 : Int) : Option (List Int × Int × Bool) := impl_SlideBoard_c _ F b0 direction1 some
theorem impl_SlideBoard_cp (Q : Type) (F : Nat) (b0 : List Int) (direction1 : Int) (k : (List Int × Int × Bool) → Option Q) : impl_SlideBoard_c Q F b0 direction1 k = (impl_SlideBoard_p F b0 direction1).bind k := by
  simp only [impl_SlideBoard_p, impl_SlideBoard_c, cond_bindL, none_bindL, some_bindL]

/-- loop.example/g01194/impl.SumOf -/
def impl_SumOf_c (Q : Type) (F : Nat) (b0 : List Int) (k : (Int × Bool) → Option Q) : Option Q :=
    let z_1 := (impl_IsBoard_p F b0)
    bif (Option.isSome z_1) then
    bif (!(Option.getD z_1 default)) then
    k ((0 : Int), false)
    else bif (Option.isSome (impl_Board_sum_p b0)) then
    k ((Option.getD (impl_Board_sum_p b0) default), true)
    else none
    else none
def impl_SumOf_p (F : Nat) (b0 : List Int) : Option (Int × Bool) := impl_SumOf_c _ F b0 some
theorem impl_SumOf_cp (Q : Type) (F : Nat) (b0 : List Int) (k : (Int × Bool) → Option Q) : impl_SumOf_c Q F b0 k = (impl_SumOf_p F b0).bind k := by
  simp only [impl_SumOf_p, impl_SumOf_c, cond_bindL, none_bindL, some_bindL]
end Go.Lv.P
