/-
Pure functions and what the code of them does, by program; without conditions.
-/
import Derived.Test.YtabfliifleonaahQhP3
namespace Go.Lv.P
open Go Go.Lv
set_option linter.unusedVariables false
set_option linter.unusedSimpArgs false
set_option maxRecDepth 100000
/-- loop 3 of (loop.example/g01194/impl.Board).highest -/
def impl_Board_highest_s3 (F : Nat) (b14 : List Int) (Q : Type) : (Int × Int × List Int) → ((Int × Int × List Int) → Option Q) → ((Int × List Int) → Option Q) → Option Q
  | (most6, t1213, at16), kn, kx =>
    let z_1 : List Int := (rget [[(0 : Int), (0 : Int)], [(0 : Int), (1 : Int)], [(0 : Int), (2 : Int)], [(0 : Int), (3 : Int)], [(1 : Int), (0 : Int)], [(1 : Int), (1 : Int)], [(1 : Int), (2 : Int)], [(1 : Int), (3 : Int)], [(2 : Int), (0 : Int)], [(2 : Int), (1 : Int)], [(2 : Int), (2 : Int)], [(2 : Int), (3 : Int)], [(3 : Int), (0 : Int)], [(3 : Int), (1 : Int)], [(3 : Int), (2 : Int)], [(3 : Int), (3 : Int)]] ((0 : Nat) + (Int.toNat t1213)))
    let z_2 := (impl_Board_at_p z_1 b14)
    let z_3 : Int := (iget b14 (Option.getD z_2 default))
    let z_4 : Int := (IntKind.wrap .i64 (t1213 + (1 : Int)))
    bif (decide (t1213 < (16 : Int))) then
    bif (inR t1213 16) then
    bif (Option.isSome z_2) then
    bif (decide (most6 < z_3)) then
    kn (z_3, z_4, z_1)
    else kn (most6, z_4, at16)
    else none
    else none
    else kx (most6, at16)
def impl_Board_highest_l3 (F : Nat) (b14 : List Int) (most6 : Int) (t1213 : Int) (at16 : List Int) : Option (Int × List Int) := loopC (impl_Board_highest_s3 F b14) F (most6, t1213, at16) some
theorem impl_Board_highest_s3_nat (F : Nat) (b14 : List Int) : Natural (impl_Board_highest_s3 F b14) := by
  intro Q Q' s kn kx h
  obtain ⟨most6, t1213, at16⟩ := s
  simp only [impl_Board_highest_s3, cond_bindL, none_bindL]
/-- (loop.example/g01194/impl.Board).highest -/
def impl_Board_highest_c (Q : Type) (F : Nat) (b0 : List Int) (k : (Int × List Int) → Option Q) : Option Q :=
    let z_1 := (impl_Board_highest_l3 F b0 (0 : Int) (0 : Int) [(0 : Int), (0 : Int)])
    let z_2 := (Option.getD z_1 default)
    bif (Option.isSome z_1) then
    k (z_2.1, z_2.2)
    else none
def impl_Board_highest_p (F : Nat) (b0 : List Int) : Option (Int × List Int) := impl_Board_highest_c _ F b0 some
theorem impl_Board_highest_cp (Q : Type) (F : Nat) (b0 : List Int) (k : (Int × List Int) → Option Q) : impl_Board_highest_c Q F b0 k = (impl_Board_highest_p F b0).bind k := by
  simp only [impl_Board_highest_p, impl_Board_highest_c, cond_bindL, none_bindL, some_bindL]

/-- loop 6 of loop.example/g01194/impl.HighestBySlides -/
def impl_HighestBySlides_s6 (F : Nat) (t203 : Int) (t195 : List (List Int)) (Q : Type) : (Int × Int) → ((Int × Int) → Option Q) → ((Int) → Option Q) → Option Q
  | (most0, t214), kn, kx =>
    let z_1 := (impl_Board_highest_p F (rget t195 ((0 : Nat) + (Int.toNat t214))))
    bif (decide (t214 < t203)) then
    bif (inR t214 (List.length t195)) then
    bif (Option.isSome z_1) then
    kn ((if (Option.getD z_1 default).1 > most0 then (Option.getD z_1 default).1 else most0), (IntKind.wrap .i64 (t214 + (1 : Int))))
    else none
    else none
    else kx most0
def impl_HighestBySlides_l6 (F : Nat) (t203 : Int) (t195 : List (List Int)) (most0 : Int) (t214 : Int) : Option (Int) := loopC (impl_HighestBySlides_s6 F t203 t195) F (most0, t214) some
theorem impl_HighestBySlides_s6_nat (F : Nat) (t203 : Int) (t195 : List (List Int)) : Natural (impl_HighestBySlides_s6 F t203 t195) := by
  intro Q Q' s kn kx h
  obtain ⟨most0, t214⟩ := s
  simp only [impl_HighestBySlides_s6, cond_bindL, none_bindL]
/-- loop.example/g01194/impl.HighestBySlides -/
def impl_HighestBySlides_c (Q : Type) (F : Nat) (b0 : List Int) (k : (Int × Bool) → Option Q) : Option Q :=
    let z_1 := (impl_IsBoard_p F b0)
    let z_2 := (impl_Board_reach_p F b0 (6 : Int))
    let z_3 : Nat := (List.length (Option.getD z_2 default).2)
    let z_4 := (impl_HighestBySlides_l6 F ((z_3 : Nat) : Int) (Option.getD z_2 default).2 (0 : Int) (0 : Int))
    bif (Option.isSome z_1) then
    bif (!(Option.getD z_1 default)) then
    k ((0 : Int), false)
    else bif (Option.isSome z_2) then
    bif ((Nat.beq z_3 z_3) && (Option.isSome z_4)) then
    k ((Option.getD z_4 default), true)
    else none
    else none
    else none
def impl_HighestBySlides_p (F : Nat) (b0 : List Int) : Option (Int × Bool) := impl_HighestBySlides_c _ F b0 some
theorem impl_HighestBySlides_cp (Q : Type) (F : Nat) (b0 : List Int) (k : (Int × Bool) → Option Q) : impl_HighestBySlides_c Q F b0 k = (impl_HighestBySlides_p F b0).bind k := by
  simp only [impl_HighestBySlides_p, impl_HighestBySlides_c, cond_bindL, none_bindL, some_bindL]

/-- loop 5 of loop.example/g01194/spec.l2Before -/
def spec_l2Before_s5 (F : Nat) (r6 : Int) (a8 : List Int) (b9 : List Int) (Q : Type) : (Int) → ((Int) → Option Q) → ((Bool × Bool) → Option Q) → Option Q
  | c7, kn, kx =>
    let z_1 : Nat := (((0 : Nat) + ((Int.toNat r6) * (4 : Nat))) + ((Int.toNat c7) * (1 : Nat)))
    let z_2 : Int := (iget a8 z_1)
    let z_3 : Int := (iget b9 z_1)
    bif (decide (c7 < (4 : Int))) then
    bif (inR r6 4) then
    bif (inR c7 4) then
    bif (inR r6 4) then
    bif (inR c7 4) then
    bif (!(z_2 == z_3)) then
    bif (inR r6 4) then
    bif (inR c7 4) then
    bif (inR r6 4) then
    bif (inR c7 4) then
    kx (true, (decide (z_2 < z_3)))
    else none
    else none
    else none
    else none
    else kn (IntKind.wrap .i64 (c7 + (1 : Int)))
    else none
    else none
    else none
    else none
    else kx (false, default)
def spec_l2Before_l5 (F : Nat) (r6 : Int) (a8 : List Int) (b9 : List Int) (c7 : Int) : Option (Bool × Bool) := loopC (spec_l2Before_s5 F r6 a8 b9) F c7 some
theorem spec_l2Before_s5_nat (F : Nat) (r6 : Int) (a8 : List Int) (b9 : List Int) : Natural (spec_l2Before_s5 F r6 a8 b9) := by
  intro Q Q' s kn kx h
  simp only [spec_l2Before_s5, cond_bindL, none_bindL]
/-- loop 2 of loop.example/g01194/spec.l2Before -/
def spec_l2Before_s2 (F : Nat) (a7 : List Int) (b8 : List Int) (Q : Type) : (Int) → ((Int) → Option Q) → ((Bool × Bool) → Option Q) → Option Q
  | r6, kn, kx =>
    let z_1 := (spec_l2Before_l5 F r6 a7 b8 (0 : Int))
    let z_2 := (Option.getD z_1 default)
    bif (decide (r6 < (4 : Int))) then
    bif (Option.isSome z_1) then
    bif z_2.1 then
    kx (true, z_2.2)
    else kn (IntKind.wrap .i64 (r6 + (1 : Int)))
    else none
    else kx (false, default)
def spec_l2Before_l2 (F : Nat) (a7 : List Int) (b8 : List Int) (r6 : Int) : Option (Bool × Bool) := loopC (spec_l2Before_s2 F a7 b8) F r6 some
theorem spec_l2Before_s2_nat (F : Nat) (a7 : List Int) (b8 : List Int) : Natural (spec_l2Before_s2 F a7 b8) := by
  intro Q Q' s kn kx h
  simp only [spec_l2Before_s2, cond_bindL, none_bindL]
/-- loop.example/g01194/spec.l2Before -/
def spec_l2Before_c (Q : Type) (F : Nat) (a0 : List Int) (b1 : List Int) (k : (Bool) → Option Q) : Option Q :=
    let z_1 := (spec_l2Before_l2 F a0 b1 (0 : Int))
    let z_2 := (Option.getD z_1 default)
    bif (Option.isSome z_1) then
    bif z_2.1 then
    k z_2.2
    else k false
    else none
def spec_l2Before_p (F : Nat) (a0 : List Int) (b1 : List Int) : Option (Bool) := spec_l2Before_c _ F a0 b1 some
theorem spec_l2Before_cp (Q : Type) (F : Nat) (a0 : List Int) (b1 : List Int) (k : (Bool) → Option Q) : spec_l2Before_c Q F a0 b1 k = (spec_l2Before_p F a0 b1).bind k := by
  simp only [spec_l2Before_p, spec_l2Before_c, cond_bindL, none_bindL, some_bindL]

/-- loop 2 of loop.example/g01194/spec.l3Add -/
def spec_l3Add_s2 (F : Nat) (all0 : List (List Int)) (b5 : List Int) (Q : Type) : (Int) → ((Int) → Option Q) → ((Int) → Option Q) → Option Q
  | n4, kn, kx =>
    let z_1 := (spec_l2Before_p F (rget all0 (Int.toNat n4)) b5)
    bif (decide (n4 < (((List.length all0) : Nat) : Int))) then
    bif (inR n4 (List.length all0)) then
    bif (Option.isSome z_1) then
    bif (Option.getD z_1 default) then
    kn (IntKind.wrap .i64 (n4 + (1 : Int)))
    else kx n4
    else none
    else none
    else kx n4
def spec_l3Add_l2 (F : Nat) (all0 : List (List Int)) (b5 : List Int) (n4 : Int) : Option (Int) := loopC (spec_l3Add_s2 F all0 b5) F n4 some
theorem spec_l3Add_s2_nat (F : Nat) (all0 : List (List Int)) (b5 : List Int) : Natural (spec_l3Add_s2 F all0 b5) := by
  intro Q Q' s kn kx h
  simp only [spec_l3Add_s2, cond_bindL, none_bindL]
/-- loop.example/g01194/spec.l3Add -/
def spec_l3Add_c (Q : Type) (F : Nat) (all0 : List (List Int)) (b1 : List Int) (k : (List (List Int)) → Option Q) : Option Q :=
    let z_1 := (spec_l3Add_l2 F all0 b1 (0 : Int))
    let z_2 : Nat := (Int.toNat (Option.getD z_1 default))
    let z_3 : Bool := (inLe (Option.getD z_1 default) (List.length all0))
    let z_4 : List (List Int) := (subn (List.length all0) all0 0 (z_2 - (0 : Nat)))
    let z_5 : Nat := (List.length z_4)
    let z_6 : Bool := (fits z_5 128)
    let z_7 : List (List Int) := ((subn z_5 z_4 0 z_5) ++ [b1])
    let z_8 : Nat := (List.length z_7)
    let z_9 : Bool := (fits z_8 128)
    let z_10 : List (List Int) := ((subn z_8 z_7 0 z_8) ++ (subn (List.length all0) all0 z_2 ((List.length all0) - z_2)))
    let z_11 : Nat := (List.length z_10)
    let z_12 : Bool := (fits z_11 128)
    let z_13 : List (List Int) := (subn z_11 z_10 0 z_11)
    bif (Option.isSome z_1) then
    bif (decide ((Option.getD z_1 default) < (((List.length all0) : Nat) : Int))) then
    bif (inR (Option.getD z_1 default) (List.length all0)) then
    bif ((rget all0 z_2) == b1) then
    k all0
    else bif z_3 then
    bif z_6 then
    bif z_9 then
    bif z_3 then
    bif z_12 then
    k z_13
    else none
    else none
    else none
    else none
    else none
    else none
    else bif z_3 then
    bif z_6 then
    bif z_9 then
    bif z_3 then
    bif z_12 then
    k z_13
    else none
    else none
    else none
    else none
    else none
    else none
def spec_l3Add_p (F : Nat) (all0 : List (List Int)) (b1 : List Int) : Option (List (List Int)) := spec_l3Add_c _ F all0 b1 some
theorem spec_l3Add_cp (Q : Type) (F : Nat) (all0 : List (List Int)) (b1 : List Int) (k : (List (List Int)) → Option Q) : spec_l3Add_c Q F all0 b1 k = (spec_l3Add_p F all0 b1).bind k := by
  simp only [spec_l3Add_p, spec_l3Add_c, cond_bindL, none_bindL, some_bindL]

/-- loop 6 of loop.example/g01194/spec.l5Next -/
def spec_l5Next_s6 (F : Nat) (all0 : List (List Int)) (i2 : Int) (Q : Type) : (List (List Int) × Int) → ((List (List Int) × Int) → Option Q) → ((List (List Int)) → Option Q) → Option Q
  | (out1, d3), kn, kx =>
    let z_1 := (spec_l2Slide_p F (rget all0 (Int.toNat i2)) d3)
    let z_2 := (spec_l3Add_p F out1 (Option.getD z_1 default).1)
    bif (decide (d3 < (4 : Int))) then
    bif (inR i2 (List.length all0)) then
    bif (Option.isSome z_1) then
    bif (Option.isSome z_2) then
    kn ((Option.getD z_2 default), (IntKind.wrap .i64 (d3 + (1 : Int))))
    else none
    else none
    else none
    else kx out1
def spec_l5Next_l6 (F : Nat) (all0 : List (List Int)) (i2 : Int) (out1 : List (List Int)) (d3 : Int) : Option (List (List Int)) := loopC (spec_l5Next_s6 F all0 i2) F (out1, d3) some
theorem spec_l5Next_s6_nat (F : Nat) (all0 : List (List Int)) (i2 : Int) : Natural (spec_l5Next_s6 F all0 i2) := by
  intro Q Q' s kn kx h
  obtain ⟨out1, d3⟩ := s
  simp only [spec_l5Next_s6, cond_bindL, none_bindL]
/-- loop 3 of loop.example/g01194/spec.l5Next -/
def spec_l5Next_s3 (F : Nat) (all0 : List (List Int)) (Q : Type) : (List (List Int) × Int) → ((List (List Int) × Int) → Option Q) → ((List (List Int)) → Option Q) → Option Q
  | (out1, i2), kn, kx =>
    let z_1 := (spec_l5Next_l6 F all0 i2 out1 (0 : Int))
    bif (decide (i2 < (((List.length all0) : Nat) : Int))) then
    bif (Option.isSome z_1) then
    kn ((Option.getD z_1 default), (IntKind.wrap .i64 (i2 + (1 : Int))))
    else none
    else kx out1
def spec_l5Next_l3 (F : Nat) (all0 : List (List Int)) (out1 : List (List Int)) (i2 : Int) : Option (List (List Int)) := loopC (spec_l5Next_s3 F all0) F (out1, i2) some
theorem spec_l5Next_s3_nat (F : Nat) (all0 : List (List Int)) : Natural (spec_l5Next_s3 F all0) := by
  intro Q Q' s kn kx h
  obtain ⟨out1, i2⟩ := s
  simp only [spec_l5Next_s3, cond_bindL, none_bindL]
/-- loop.example/g01194/spec.l5Next -/
def spec_l5Next_c (Q : Type) (F : Nat) (all0 : List (List Int)) (k : (List (List Int)) → Option Q) : Option Q :=
    let z_1 := (spec_l5Next_l3 F all0 all0 (0 : Int))
    bif (Option.isSome z_1) then
    k (Option.getD z_1 default)
    else none
def spec_l5Next_p (F : Nat) (all0 : List (List Int)) : Option (List (List Int)) := spec_l5Next_c _ F all0 some
theorem spec_l5Next_cp (Q : Type) (F : Nat) (all0 : List (List Int)) (k : (List (List Int)) → Option Q) : spec_l5Next_c Q F all0 k = (spec_l5Next_p F all0).bind k := by
  simp only [spec_l5Next_p, spec_l5Next_c, cond_bindL, none_bindL, some_bindL]

/-- loop 3 of loop.example/g01194/spec.l5Reach -/
def spec_l5Reach_s3 (F : Nat) (n0 : Int) (Q : Type) : (List (List Int) × Int) → ((List (List Int) × Int) → Option Q) → ((List (List Int)) → Option Q) → Option Q
  | (all1, i2), kn, kx =>
    let z_1 := (spec_l5Next_p F all1)
    bif (decide (i2 < n0)) then
    bif (Option.isSome z_1) then
    kn ((Option.getD z_1 default), (IntKind.wrap .i64 (i2 + (1 : Int))))
    else none
    else kx all1
def spec_l5Reach_l3 (F : Nat) (n0 : Int) (all1 : List (List Int)) (i2 : Int) : Option (List (List Int)) := loopC (spec_l5Reach_s3 F n0) F (all1, i2) some
theorem spec_l5Reach_s3_nat (F : Nat) (n0 : Int) : Natural (spec_l5Reach_s3 F n0) := by
  intro Q Q' s kn kx h
  obtain ⟨all1, i2⟩ := s
  simp only [spec_l5Reach_s3, cond_bindL, none_bindL]
/-- loop.example/g01194/spec.l5Reach -/
def spec_l5Reach_c (Q : Type) (F : Nat) (b0 : List Int) (n1 : Int) (k : (List (List Int)) → Option Q) : Option Q :=
    let z_1 := (spec_l5Reach_l3 F n1 [b0] (0 : Int))
    bif (Option.isSome z_1) then
    k (Option.getD z_1 default)
    else none
def spec_l5Reach_p (F : Nat) (b0 : List Int) (n1 : Int) : Option (List (List Int)) := spec_l5Reach_c _ F b0 n1 some
theorem spec_l5Reach_cp (Q : Type) (F : Nat) (b0 : List Int) (n1 : Int) (k : (List (List Int)) → Option Q) : spec_l5Reach_c Q F b0 n1 k = (spec_l5Reach_p F b0 n1).bind k := by
  simp only [spec_l5Reach_p, spec_l5Reach_c, cond_bindL, none_bindL, some_bindL]

/-- loop 8 of loop.example/g01194/spec.HighestTile -/
def spec_HighestTile_s8 (F : Nat) (r10 : Int) (b12 : List Int) (Q : Type) : (Int × Int × List Int) → ((Int × Int × List Int) → Option Q) → ((Int × List Int) → Option Q) → Option Q
  | (best6, c11, cell14), kn, kx =>
    let z_1 : Int := (iget b12 (((0 : Nat) + ((Int.toNat r10) * (4 : Nat))) + ((Int.toNat c11) * (1 : Nat))))
    let z_2 : Int := (IntKind.wrap .i64 (c11 + (1 : Int)))
    bif (decide (c11 < (4 : Int))) then
    bif (inR r10 4) then
    bif (inR c11 4) then
    bif (decide (best6 < z_1)) then
    bif (inR r10 4) then
    bif (inR c11 4) then
    kn (z_1, z_2, [r10, c11])
    else none
    else none
    else kn (best6, z_2, cell14)
    else none
    else none
    else kx (best6, cell14)
def spec_HighestTile_l8 (F : Nat) (r10 : Int) (b12 : List Int) (best6 : Int) (c11 : Int) (cell14 : List Int) : Option (Int × List Int) := loopC (spec_HighestTile_s8 F r10 b12) F (best6, c11, cell14) some
theorem spec_HighestTile_s8_nat (F : Nat) (r10 : Int) (b12 : List Int) : Natural (spec_HighestTile_s8 F r10 b12) := by
  intro Q Q' s kn kx h
  obtain ⟨best6, c11, cell14⟩ := s
  simp only [spec_HighestTile_s8, cond_bindL, none_bindL]
/-- loop 5 of loop.example/g01194/spec.HighestTile -/
def spec_HighestTile_s5 (F : Nat) (b11 : List Int) (Q : Type) : (Int × Int × List Int) → ((Int × Int × List Int) → Option Q) → ((Int × List Int) → Option Q) → Option Q
  | (best6, r10, cell13), kn, kx =>
    let z_1 := (spec_HighestTile_l8 F r10 b11 best6 (0 : Int) cell13)
    let z_2 := (Option.getD z_1 default)
    bif (decide (r10 < (4 : Int))) then
    bif (Option.isSome z_1) then
    kn (z_2.1, (IntKind.wrap .i64 (r10 + (1 : Int))), z_2.2)
    else none
    else kx (best6, cell13)
def spec_HighestTile_l5 (F : Nat) (b11 : List Int) (best6 : Int) (r10 : Int) (cell13 : List Int) : Option (Int × List Int) := loopC (spec_HighestTile_s5 F b11) F (best6, r10, cell13) some
theorem spec_HighestTile_s5_nat (F : Nat) (b11 : List Int) : Natural (spec_HighestTile_s5 F b11) := by
  intro Q Q' s kn kx h
  obtain ⟨best6, r10, cell13⟩ := s
  simp only [spec_HighestTile_s5, cond_bindL, none_bindL]
/-- loop.example/g01194/spec.HighestTile -/
def spec_HighestTile_c (Q : Type) (F : Nat) (b0 : List Int) (k : (Int × List Int × Bool) → Option Q) : Option Q :=
    let z_1 := (spec_l2Board_p F b0)
    let z_2 := (spec_HighestTile_l5 F b0 (0 : Int) (0 : Int) [(0 : Int), (0 : Int)])
    let z_3 := (Option.getD z_2 default)
    bif (Option.isSome z_1) then
    bif (!(Option.getD z_1 default)) then
    k ((0 : Int), [(0 : Int), (0 : Int)], false)
    else bif (Option.isSome z_2) then
    k (z_3.1, z_3.2, (decide ((0 : Int) < z_3.1)))
    else none
    else none
def spec_HighestTile_p (F : Nat) (b0 : List Int) : Option (Int × List Int × Bool) := spec_HighestTile_c _ F b0 some
theorem spec_HighestTile_cp (Q : Type) (F : Nat) (b0 : List Int) (k : (Int × List Int × Bool) → Option Q) : spec_HighestTile_c Q F b0 k = (spec_HighestTile_p F b0).bind k := by
  simp only [spec_HighestTile_p, spec_HighestTile_c, cond_bindL, none_bindL, some_bindL]

/-- loop.example/g01194/spec.l5Highest -/
def spec_l5Highest_c (Q : Type) (F : Nat) (b0 : List Int) (k : (Int) → Option Q) : Option Q :=
    let z_1 := (spec_HighestTile_p F b0)
    bif (Option.isSome z_1) then
    k (Option.getD z_1 default).1
    else none
def spec_l5Highest_p (F : Nat) (b0 : List Int) : Option (Int) := spec_l5Highest_c _ F b0 some
theorem spec_l5Highest_cp (Q : Type) (F : Nat) (b0 : List Int) (k : (Int) → Option Q) : spec_l5Highest_c Q F b0 k = (spec_l5Highest_p F b0).bind k := by
  simp only [spec_l5Highest_p, spec_l5Highest_c, cond_bindL, none_bindL, some_bindL]

/-- loop.example/g01194/spec.l1Most -/
def spec_l1Most_c (Q : Type) (a0 : Int) (b1 : Int) (k : (Int) → Option Q) : Option Q :=
    bif (decide (b1 < a0)) then
    k a0
    else k b1
def spec_l1Most_v (a0 : Int) (b1 : Int) : Int :=
    bif (decide (b1 < a0)) then
    a0
    else b1
theorem spec_l1Most_cv (Q : Type) (a0 : Int) (b1 : Int) (k : (Int) → Option Q) : spec_l1Most_c Q a0 b1 k = k (spec_l1Most_v a0 b1) := by
  simp only [spec_l1Most_c, spec_l1Most_v, app_condL k]

/-- loop 5 of loop.example/g01194/spec.HighestBySlides -/
def spec_HighestBySlides_s5 (F : Nat) (all1 : List (List Int)) (Q : Type) : (Int × Int) → ((Int × Int) → Option Q) → ((Int) → Option Q) → Option Q
  | (best0, i2), kn, kx =>
    let z_1 := (spec_l5Highest_p F (rget all1 (Int.toNat i2)))
    bif (decide (i2 < (((List.length all1) : Nat) : Int))) then
    bif (inR i2 (List.length all1)) then
    bif (Option.isSome z_1) then
    kn ((spec_l1Most_v best0 (Option.getD z_1 default)), (IntKind.wrap .i64 (i2 + (1 : Int))))
    else none
    else none
    else kx best0
def spec_HighestBySlides_l5 (F : Nat) (all1 : List (List Int)) (best0 : Int) (i2 : Int) : Option (Int) := loopC (spec_HighestBySlides_s5 F all1) F (best0, i2) some
theorem spec_HighestBySlides_s5_nat (F : Nat) (all1 : List (List Int)) : Natural (spec_HighestBySlides_s5 F all1) := by
  intro Q Q' s kn kx h
  obtain ⟨best0, i2⟩ := s
  simp only [spec_HighestBySlides_s5, cond_bindL, none_bindL]
/-- loop.example/g01194/spec.HighestBySlides -/
def spec_HighestBySlides_c (Q : Type) (F : Nat) (b0 : List Int) (k : (Int × Bool) → Option Q) : Option Q :=
    let z_1 := (spec_l2Board_p F b0)
    let z_2 := (spec_l5Reach_p F b0 (6 : Int))
    let z_3 := (spec_HighestBySlides_l5 F (Option.getD z_2 default) (0 : Int) (0 : Int))
    bif (Option.isSome z_1) then
    bif (!(Option.getD z_1 default)) then
    k ((0 : Int), false)
    else bif (Option.isSome z_2) then
    bif (Option.isSome z_3) then
    k ((Option.getD z_3 default), true)
    else none
    else none
    else none
def spec_HighestBySlides_p (F : Nat) (b0 : List Int) : Option (Int × Bool) := spec_HighestBySlides_c _ F b0 some
theorem spec_HighestBySlides_cp (Q : Type) (F : Nat) (b0 : List Int) (k : (Int × Bool) → Option Q) : spec_HighestBySlides_c Q F b0 k = (spec_HighestBySlides_p F b0).bind k := by
  simp only [spec_HighestBySlides_p, spec_HighestBySlides_c, cond_bindL, none_bindL, some_bindL]

/-- loop.example/g01194/impl.SlideBoard -/
def impl_SlideBoard_c (Q : Type) (F : Nat) (b0 : List Int) (direction1 : Int) (k : (List Int × Int × Bool) → Option Q) : Option Q :=
    let z_1 := (impl_IsBoard_p F b0)
    let z_2 : List Int := [(0 : Int), (0 : Int), (0 : Int), (0 : Int), (0 : Int), (0 : Int), (0 : Int), (0 : Int), (0 : Int), (0 : Int), (0 : Int), (0 : Int), (0 : Int), (0 : Int), (0 : Int), (0 : Int)]
    let z_3 := (impl_Board_slide_p F b0 direction1)
    let z_4 := (Option.getD z_3 default)
    bif (Option.isSome z_1) then
    bif (!(Option.getD z_1 default)) then
    k (z_2, (0 : Int), false)
    else bif (!(impl_isDirection_v direction1)) then
    k (z_2, (0 : Int), false)
    else bif (Option.isSome z_3) then
    k (z_4.1, z_4.2.1, true)
    else none
    else none
def impl_SlideBoard_p (F : Nat) (b0 : List Int) (direction1 : Int) : Option (List Int × Int × Bool) := impl_SlideBoard_c _ F b0 direction1 some
theorem impl_SlideBoard_cp (Q : Type) (F : Nat) (b0 : List Int) (direction1 : Int) (k : (List Int × Int × Bool) → Option Q) : impl_SlideBoard_c Q F b0 direction1 k = (impl_SlideBoard_p F b0 direction1).bind k := by
  simp only [impl_SlideBoard_p, impl_SlideBoard_c, cond_bindL, none_bindL, some_bindL]

/-- slices.Grow[[]int,int] -/
def slices_Grow_intint_c (Q : Type) (n0 : Int) (k : (List Int) → Option Q) : Option Q :=
    let z_1 : Int := (IntKind.wrap .i64 (n0 - (0 : Int)))
    let z_2 : Nat := (Int.toNat z_1)
    bif (decide (n0 < (0 : Int))) then
    none
    else bif (decide ((0 : Int) < z_1)) then
    bif ((decide ((1 : Int) ≤ z_1)) && (fits z_2 8)) then
    bif (inLe (0 : Int) z_2) then
    k (List.replicate z_2 (0 : Int))
    else none
    else none
    else k ([] : List Int)
def slices_Grow_intint_p (n0 : Int) : Option (List Int) := slices_Grow_intint_c _ n0 some
theorem slices_Grow_intint_cp (Q : Type) (n0 : Int) (k : (List Int) → Option Q) : slices_Grow_intint_c Q n0 k = (slices_Grow_intint_p n0).bind k := by
  simp only [slices_Grow_intint_p, slices_Grow_intint_c, cond_bindL, none_bindL, some_bindL]

/-- slices.Concat[[]int,int] -/
def slices_Concat_intint_c (Q : Type) (slices0 : List Int) (slices1 : List Int) (slices2 : List Int) (slices3 : List Int) (k : (List Int) → Option Q) : Option Q :=
    let z_1 : Int := (IntKind.wrap .i64 ((0 : Int) + (((List.length slices0) : Nat) : Int)))
    let z_2 : Int := (IntKind.wrap .i64 (z_1 + (((List.length slices1) : Nat) : Int)))
    let z_3 : Int := (IntKind.wrap .i64 (z_2 + (((List.length slices2) : Nat) : Int)))
    let z_4 : Int := (IntKind.wrap .i64 (z_3 + (((List.length slices3) : Nat) : Int)))
    let z_5 : List Int := ((subn (List.length (Option.getD (slices_Grow_intint_p z_4) default)) (Option.getD (slices_Grow_intint_p z_4) default) 0 0) ++ slices0)
    let z_6 : Nat := (List.length z_5)
    let z_7 : List Int := ((subn z_6 z_5 0 z_6) ++ slices1)
    let z_8 : Nat := (List.length z_7)
    let z_9 : List Int := ((subn z_8 z_7 0 z_8) ++ slices2)
    let z_10 : Nat := (List.length z_9)
    let z_11 : List Int := ((subn z_10 z_9 0 z_10) ++ slices3)
    bif (decide (z_1 < (0 : Int))) then
    none
    else bif (decide (z_2 < (0 : Int))) then
    none
    else bif (decide (z_3 < (0 : Int))) then
    none
    else bif (decide (z_4 < (0 : Int))) then
    none
    else bif (Option.isSome (slices_Grow_intint_p z_4)) then
    bif (fits z_6 8) then
    bif (fits z_8 8) then
    bif (fits z_10 8) then
    bif (fits (List.length z_11) 8) then
    k z_11
    else none
    else none
    else none
    else none
    else none
def slices_Concat_intint_p (slices0 : List Int) (slices1 : List Int) (slices2 : List Int) (slices3 : List Int) : Option (List Int) := slices_Concat_intint_c _ slices0 slices1 slices2 slices3 some
theorem slices_Concat_intint_cp (Q : Type) (slices0 : List Int) (slices1 : List Int) (slices2 : List Int) (slices3 : List Int) (k : (List Int) → Option Q) : slices_Concat_intint_c Q slices0 slices1 slices2 slices3 k = (slices_Concat_intint_p slices0 slices1 slices2 slices3).bind k := by
  simp only [slices_Concat_intint_p, slices_Concat_intint_c, cond_bindL, none_bindL, some_bindL]
end Go.Lv.P
