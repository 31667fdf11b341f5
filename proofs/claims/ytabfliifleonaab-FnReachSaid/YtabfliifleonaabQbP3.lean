/-
Pure functions and what the code of them does, by program; without conditions.
-/
import Derived.Test.YtabfliifleonaabQbP2
namespace Go.Lv.P
open Go Go.Lv
set_option linter.unusedVariables false
set_option linter.unusedSimpArgs false
set_option maxRecDepth 100000
/-- loop 3 of loop.example/g01194/spec.l2Slide -/
def spec_l2Slide_s3 (F : Nat) (d0 : Int) (b12 : List Int) (Q : Type) : (Int × Int × List Int) → ((Int × Int × List Int) → Option Q) → ((Int × List Int) → Option Q) → Option Q
  | (sum10, i11, out14), kn, kx =>
    let z_1 := (spec_l2Numbers_p F b12 d0 i11)
    let z_2 := (spec_l2Row_p F (Option.getD z_1 default))
    let z_3 := (spec_l2Line_p F d0 i11)
    let z_4 := (Option.getD z_2 default)
    let z_5 := (spec_l2Put_p out14 (sub (Option.getD z_3 default) 0 2) (iget z_4.1 0))
    let z_6 := (spec_l2Put_p (Option.getD z_5 default) (sub (Option.getD z_3 default) 2 2) (iget z_4.1 1))
    let z_7 := (spec_l2Put_p (Option.getD z_6 default) (sub (Option.getD z_3 default) 4 2) (iget z_4.1 2))
    let z_8 := (spec_l2Put_p (Option.getD z_7 default) (sub (Option.getD z_3 default) 6 2) (iget z_4.1 3))
    bif (decide (i11 < (4 : Int))) then
    bif (Option.isSome z_1) then
    bif (Option.isSome z_2) then
    bif (Option.isSome z_3) then
    bif (Option.isSome z_5) then
    bif (Option.isSome z_6) then
    bif (Option.isSome z_7) then
    bif (Option.isSome z_8) then
    kn ((IntKind.wrap .i64 (sum10 + z_4.2)), (IntKind.wrap .i64 (i11 + (1 : Int))), (Option.getD z_8 default))
    else none
    else none
    else none
    else none
    else none
    else none
    else none
    else kx (sum10, out14)
def spec_l2Slide_l3 (F : Nat) (d0 : Int) (b12 : List Int) (sum10 : Int) (i11 : Int) (out14 : List Int) : Option (Int × List Int) := loopC (spec_l2Slide_s3 F d0 b12) F (sum10, i11, out14) some
theorem spec_l2Slide_s3_nat (F : Nat) (d0 : Int) (b12 : List Int) : Natural (spec_l2Slide_s3 F d0 b12) := by
  intro Q Q' s kn kx h
  obtain ⟨sum10, i11, out14⟩ := s
  simp only [spec_l2Slide_s3, cond_bindL, none_bindL]
/-- loop.example/g01194/spec.l2Slide -/
def spec_l2Slide_c (Q : Type) (F : Nat) (b0 : List Int) (d1 : Int) (k : (List Int × Int) → Option Q) : Option Q :=
    let z_1 := (spec_l2Slide_l3 F d1 b0 (0 : Int) (0 : Int) b0)
    let z_2 := (Option.getD z_1 default)
    bif (Option.isSome z_1) then
    k (z_2.2, z_2.1)
    else none
def spec_l2Slide_p (F : Nat) (b0 : List Int) (d1 : Int) : Option (List Int × Int) := spec_l2Slide_c _ F b0 d1 some
theorem spec_l2Slide_cp (Q : Type) (F : Nat) (b0 : List Int) (d1 : Int) (k : (List Int × Int) → Option Q) : spec_l2Slide_c Q F b0 d1 k = (spec_l2Slide_p F b0 d1).bind k := by
  simp only [spec_l2Slide_p, spec_l2Slide_c, cond_bindL, none_bindL, some_bindL]

/-- loop 5 of loop.example/g01194/spec.l2Before -/
def spec_l2Before_s5 (F : Nat) (r6 : Int) (a8 : List Int) (b9 : List Int) (Q : Type) : (Int) → ((Int) → Option Q) → ((Bool × Bool) → Option Q) → Option Q
  | c7, kn, kx =>
    let z_1 : Nat := (((0 : Nat) + ((Int.toNat r6) * (4 : Nat))) + ((Int.toNat c7) * (1 : Nat)))
    let z_2 : Int := (iget a8 z_1)
    let z_3 : Int := (iget b9 z_1)
    bif (decide (c7 < (4 : Int))) then
    bif (inR r6 4) then
    bif (inR c7 4) then
    bif (inR r6 4) then
    bif (inR c7 4) then
    bif (!(z_2 == z_3)) then
    bif (inR r6 4) then
    bif (inR c7 4) then
    bif (inR r6 4) then
    bif (inR c7 4) then
    kx (true, (decide (z_2 < z_3)))
    else none
    else none
    else none
    else none
    else kn (IntKind.wrap .i64 (c7 + (1 : Int)))
    else none
    else none
    else none
    else none
    else kx (false, default)
def spec_l2Before_l5 (F : Nat) (r6 : Int) (a8 : List Int) (b9 : List Int) (c7 : Int) : Option (Bool × Bool) := loopC (spec_l2Before_s5 F r6 a8 b9) F c7 some
theorem spec_l2Before_s5_nat (F : Nat) (r6 : Int) (a8 : List Int) (b9 : List Int) : Natural (spec_l2Before_s5 F r6 a8 b9) := by
  intro Q Q' s kn kx h
  simp only [spec_l2Before_s5, cond_bindL, none_bindL]
/-- loop 2 of loop.example/g01194/spec.l2Before -/
def spec_l2Before_s2 (F : Nat) (a7 : List Int) (b8 : List Int) (Q : Type) : (Int) → ((Int) → Option Q) → ((Bool × Bool) → Option Q) → Option Q
  | r6, kn, kx =>
    let z_1 := (spec_l2Before_l5 F r6 a7 b8 (0 : Int))
    let z_2 := (Option.getD z_1 default)
    bif (decide (r6 < (4 : Int))) then
    bif (Option.isSome z_1) then
    bif z_2.1 then
    kx (true, z_2.2)
    else kn (IntKind.wrap .i64 (r6 + (1 : Int)))
    else none
    else kx (false, default)
def spec_l2Before_l2 (F : Nat) (a7 : List Int) (b8 : List Int) (r6 : Int) : Option (Bool × Bool) := loopC (spec_l2Before_s2 F a7 b8) F r6 some
theorem spec_l2Before_s2_nat (F : Nat) (a7 : List Int) (b8 : List Int) : Natural (spec_l2Before_s2 F a7 b8) := by
  intro Q Q' s kn kx h
  simp only [spec_l2Before_s2, cond_bindL, none_bindL]
/-- loop.example/g01194/spec.l2Before -/
def spec_l2Before_c (Q : Type) (F : Nat) (a0 : List Int) (b1 : List Int) (k : (Bool) → Option Q) : Option Q :=
    let z_1 := (spec_l2Before_l2 F a0 b1 (0 : Int))
    let z_2 := (Option.getD z_1 default)
    bif (Option.isSome z_1) then
    bif z_2.1 then
    k z_2.2
    else k false
    else none
def spec_l2Before_p (F : Nat) (a0 : List Int) (b1 : List Int) : Option (Bool) := spec_l2Before_c _ F a0 b1 some
theorem spec_l2Before_cp (Q : Type) (F : Nat) (a0 : List Int) (b1 : List Int) (k : (Bool) → Option Q) : spec_l2Before_c Q F a0 b1 k = (spec_l2Before_p F a0 b1).bind k := by
  simp only [spec_l2Before_p, spec_l2Before_c, cond_bindL, none_bindL, some_bindL]

/-- loop 2 of loop.example/g01194/spec.l3Add -/
def spec_l3Add_s2 (F : Nat) (all0 : List (List Int)) (b5 : List Int) (Q : Type) : (Int) → ((Int) → Option Q) → ((Int) → Option Q) → Option Q
  | n4, kn, kx =>
    let z_1 := (spec_l2Before_p F (rget all0 (Int.toNat n4)) b5)
    bif (decide (n4 < (((List.length all0) : Nat) : Int))) then
    bif (inR n4 (List.length all0)) then
    bif (Option.isSome z_1) then
    bif (Option.getD z_1 default) then
    kn (IntKind.wrap .i64 (n4 + (1 : Int)))
    else kx n4
    else none
    else none
    else kx n4
def spec_l3Add_l2 (F : Nat) (all0 : List (List Int)) (b5 : List Int) (n4 : Int) : Option (Int) := loopC (spec_l3Add_s2 F all0 b5) F n4 some
theorem spec_l3Add_s2_nat (F : Nat) (all0 : List (List Int)) (b5 : List Int) : Natural (spec_l3Add_s2 F all0 b5) := by
  intro Q Q' s kn kx h
  simp only [spec_l3Add_s2, cond_bindL, none_bindL]
/-- loop.example/g01194/spec.l3Add -/
def spec_l3Add_c (Q : Type) (F : Nat) (all0 : List (List Int)) (b1 : List Int) (k : (List (List Int)) → Option Q) : Option Q :=
    let z_1 := (spec_l3Add_l2 F all0 b1 (0 : Int))
    let z_2 : Nat := (Int.toNat (Option.getD z_1 default))
    let z_3 : Bool := (inLe (Option.getD z_1 default) (List.length all0))
    let z_4 : List (List Int) := (subn (List.length all0) all0 0 (z_2 - (0 : Nat)))
    let z_5 : Nat := (List.length z_4)
    let z_6 : Bool := (fits z_5 128)
    let z_7 : List (List Int) := ((subn z_5 z_4 0 z_5) ++ [b1])
    let z_8 : Nat := (List.length z_7)
    let z_9 : Bool := (fits z_8 128)
    let z_10 : List (List Int) := ((subn z_8 z_7 0 z_8) ++ (subn (List.length all0) all0 z_2 ((List.length all0) - z_2)))
    let z_11 : Nat := (List.length z_10)
    let z_12 : Bool := (fits z_11 128)
    let z_13 : List (List Int) := (subn z_11 z_10 0 z_11)
    bif (Option.isSome z_1) then
    bif (decide ((Option.getD z_1 default) < (((List.length all0) : Nat) : Int))) then
    bif (inR (Option.getD z_1 default) (List.length all0)) then
    bif ((rget all0 z_2) == b1) then
    k all0
    else bif z_3 then
    bif z_6 then
    bif z_9 then
    bif z_3 then
    bif z_12 then
    k z_13
    else none
    else none
    else none
    else none
    else none
    else none
    else bif z_3 then
    bif z_6 then
    bif z_9 then
    bif z_3 then
    bif z_12 then
    k z_13
    else none
    else none
    else none
    else none
    else none
    else none
def spec_l3Add_p (F : Nat) (all0 : List (List Int)) (b1 : List Int) : Option (List (List Int)) := spec_l3Add_c _ F all0 b1 some
theorem spec_l3Add_cp (Q : Type) (F : Nat) (all0 : List (List Int)) (b1 : List Int) (k : (List (List Int)) → Option Q) : spec_l3Add_c Q F all0 b1 k = (spec_l3Add_p F all0 b1).bind k := by
  simp only [spec_l3Add_p, spec_l3Add_c, cond_bindL, none_bindL, some_bindL]

/-- loop 6 of loop.example/g01194/spec.l5Next -/
def spec_l5Next_s6 (F : Nat) (all0 : List (List Int)) (i2 : Int) (Q : Type) : (List (List Int) × Int) → ((List (List Int) × Int) → Option Q) → ((List (List Int)) → Option Q) → Option Q
  | (out1, d3), kn, kx =>
    let z_1 := (spec_l2Slide_p F (rget all0 (Int.toNat i2)) d3)
    let z_2 := (spec_l3Add_p F out1 (Option.getD z_1 default).1)
    bif (decide (d3 < (4 : Int))) then
    bif (inR i2 (List.length all0)) then
    bif (Option.isSome z_1) then
    bif (Option.isSome z_2) then
    kn ((Option.getD z_2 default), (IntKind.wrap .i64 (d3 + (1 : Int))))
    else none
    else none
    else none
    else kx out1
def spec_l5Next_l6 (F : Nat) (all0 : List (List Int)) (i2 : Int) (out1 : List (List Int)) (d3 : Int) : Option (List (List Int)) := loopC (spec_l5Next_s6 F all0 i2) F (out1, d3) some
theorem spec_l5Next_s6_nat (F : Nat) (all0 : List (List Int)) (i2 : Int) : Natural (spec_l5Next_s6 F all0 i2) := by
  intro Q Q' s kn kx h
  obtain ⟨out1, d3⟩ := s
  simp only [spec_l5Next_s6, cond_bindL, none_bindL]
/-- loop 3 of loop.example/g01194/spec.l5Next -/
def spec_l5Next_s3 (F : Nat) (all0 : List (List Int)) (Q : Type) : (List (List Int) × Int) → ((List (List Int) × Int) → Option Q) → ((List (List Int)) → Option Q) → Option Q
  | (out1, i2), kn, kx =>
    let z_1 := (spec_l5Next_l6 F all0 i2 out1 (0 : Int))
    bif (decide (i2 < (((List.length all0) : Nat) : Int))) then
    bif (Option.isSome z_1) then
    kn ((Option.getD z_1 default), (IntKind.wrap .i64 (i2 + (1 : Int))))
    else none
    else kx out1
def spec_l5Next_l3 (F : Nat) (all0 : List (List Int)) (out1 : List (List Int)) (i2 : Int) : Option (List (List Int)) := loopC (spec_l5Next_s3 F all0) F (out1, i2) some
theorem spec_l5Next_s3_nat (F : Nat) (all0 : List (List Int)) : Natural (spec_l5Next_s3 F all0) := by
  intro Q Q' s kn kx h
  obtain ⟨out1, i2⟩ := s
  simp only [spec_l5Next_s3, cond_bindL, none_bindL]
/-- loop.example/g01194/spec.l5Next -/
def spec_l5Next_c (Q : Type) (F : Nat) (all0 : List (List Int)) (k : (List (List Int)) → Option Q) : Option Q :=
    let z_1 := (spec_l5Next_l3 F all0 all0 (0 : Int))
    bif (Option.isSome z_1) then
    k (Option.getD z_1 default)
    else none
def spec_l5Next_p (F : Nat) (all0 : List (List Int)) : Option (List (List Int)) := spec_l5Next_c _ F all0 some
theorem spec_l5Next_cp (Q : Type) (F : Nat) (all0 : List (List Int)) (k : (List (List Int)) → Option Q) : spec_l5Next_c Q F all0 k = (spec_l5Next_p F all0).bind k := by
  simp only [spec_l5Next_p, spec_l5Next_c, cond_bindL, none_bindL, some_bindL]

/-- loop 3 of loop.example/g01194/spec.l5Reach -/
def spec_l5Reach_s3 (F : Nat) (n0 : Int) (Q : Type) : (List (List Int) × Int) → ((List (List Int) × Int) → Option Q) → ((List (List Int)) → Option Q) → Option Q
  | (all1, i2), kn, kx =>
    let z_1 := (spec_l5Next_p F all1)
    bif (decide (i2 < n0)) then
    bif (Option.isSome z_1) then
    kn ((Option.getD z_1 default), (IntKind.wrap .i64 (i2 + (1 : Int))))
    else none
    else kx all1
def spec_l5Reach_l3 (F : Nat) (n0 : Int) (all1 : List (List Int)) (i2 : Int) : Option (List (List Int)) := loopC (spec_l5Reach_s3 F n0) F (all1, i2) some
theorem spec_l5Reach_s3_nat (F : Nat) (n0 : Int) : Natural (spec_l5Reach_s3 F n0) := by
  intro Q Q' s kn kx h
  obtain ⟨all1, i2⟩ := s
  simp only [spec_l5Reach_s3, cond_bindL, none_bindL]
/-- loop.example/g01194/spec.l5Reach -/
def spec_l5Reach_c (Q : Type) (F : Nat) (b0 : List Int) (n1 : Int) (k : (List (List Int)) → Option Q) : Option Q :=
    let z_1 := (spec_l5Reach_l3 F n1 [b0] (0 : Int))
    bif (Option.isSome z_1) then
    k (Option.getD z_1 default)
    else none
def spec_l5Reach_p (F : Nat) (b0 : List Int) (n1 : Int) : Option (List (List Int)) := spec_l5Reach_c _ F b0 n1 some
theorem spec_l5Reach_cp (Q : Type) (F : Nat) (b0 : List Int) (n1 : Int) (k : (List (List Int)) → Option Q) : spec_l5Reach_c Q F b0 n1 k = (spec_l5Reach_p F b0 n1).bind k := by
  simp only [spec_l5Reach_p, spec_l5Reach_c, cond_bindL, none_bindL, some_bindL]

/-- loop.example/g01194/spec.ReachBySlides -/
def spec_ReachBySlides_c (Q : Type) (F : Nat) (b0 : List Int) (n1 : Int) (k : (List (List Int) × Bool) → Option Q) : Option Q :=
    let z_1 := (spec_l2Board_p F b0)
    let z_2 := (spec_l5Reach_p F b0 n1)
    bif (Option.isSome z_1) then
    bif (!(Option.getD z_1 default)) then
    k (([] : List (List Int)), false)
    else bif (!(spec_l1In_v n1 (0 : Int) (6 : Int))) then
    k (([] : List (List Int)), false)
    else bif (Option.isSome z_2) then
    k ((Option.getD z_2 default), true)
    else none
    else none
def spec_ReachBySlides_p (F : Nat) (b0 : List Int) (n1 : Int) : Option (List (List Int) × Bool) := spec_ReachBySlides_c _ F b0 n1 some
theorem spec_ReachBySlides_cp (Q : Type) (F : Nat) (b0 : List Int) (n1 : Int) (k : (List (List Int) × Bool) → Option Q) : spec_ReachBySlides_c Q F b0 n1 k = (spec_ReachBySlides_p F b0 n1).bind k := by
  simp only [spec_ReachBySlides_p, spec_ReachBySlides_c, cond_bindL, none_bindL, some_bindL]

/-- loop.example/g01194/laws.vCut -/
def laws_vCut_c (Q : Type) (code0 : List Int) (n1 : Int) (k : (List Int) → Option Q) : Option Q :=
    let z_1 : List Int := (subn (List.length code0) code0 (List.length code0) ((List.length code0) - (List.length code0)))
    let z_2 : Nat := (List.length z_1)
    let z_3 : List Int := ((subn z_2 z_1 0 z_2) ++ [(IntKind.wrap .u8 (((List.length code0) : Nat) : Int))])
    let z_4 : List Int := (subn (List.length code0) code0 (Int.toNat n1) ((List.length code0) - (Int.toNat n1)))
    let z_5 : Nat := (List.length z_4)
    let z_6 : List Int := ((subn z_5 z_4 0 z_5) ++ [(IntKind.wrap .u8 n1)])
    bif (decide ((((List.length code0) : Nat) : Int) < n1)) then
    bif (inLe (((List.length code0) : Nat) : Int) (List.length code0)) then
    bif (fits z_2 1) then
    bif (fits (List.length z_3) 1) then
    k z_3
    else none
    else none
    else none
    else bif (inLe n1 (List.length code0)) then
    bif (fits z_5 1) then
    bif (fits (List.length z_6) 1) then
    k z_6
    else none
    else none
    else none
def laws_vCut_p (code0 : List Int) (n1 : Int) : Option (List Int) := laws_vCut_c _ code0 n1 some
theorem laws_vCut_cp (Q : Type) (code0 : List Int) (n1 : Int) (k : (List Int) → Option Q) : laws_vCut_c Q code0 n1 k = (laws_vCut_p code0 n1).bind k := by
  simp only [laws_vCut_p, laws_vCut_c, cond_bindL, none_bindL, some_bindL]

/-- loop 5 of loop.example/g01194/spec.DrawFewestSlides -/
def spec_DrawFewestSlides_s5 (F : Nat) (c18 : List Int) (a21 : List Int) (Q : Type) : (Int × Int × Int × List Int) → ((Int × Int × Int × List Int) → Option Q) → ((Int × Int × List Int) → Option Q) → Option Q
  | (n15, c19, c20, b22), kn, kx =>
    let z_1 := (spec_l2Board_p F a21)
    let z_2 := (spec_l1Cur_pick_p (4 : Int) c18 c19 c20)
    let z_3 := (Option.getD z_2 default)
    let z_4 := (spec_l2Slide_p F b22 z_3.1)
    bif (decide ((0 : Int) < n15)) then
    bif (Option.isSome z_1) then
    bif (Option.getD z_1 default) then
    bif (Option.isSome z_2) then
    bif (Option.isSome z_4) then
    kn ((IntKind.wrap .i64 (n15 - (1 : Int))), z_3.2.1, z_3.2.2, (Option.getD z_4 default).1)
    else none
    else none
    else kx (c19, c20, b22)
    else none
    else kx (c19, c20, b22)
def spec_DrawFewestSlides_l5 (F : Nat) (c18 : List Int) (a21 : List Int) (n15 : Int) (c19 : Int) (c20 : Int) (b22 : List Int) : Option (Int × Int × List Int) := loopC (spec_DrawFewestSlides_s5 F c18 a21) F (n15, c19, c20, b22) some
theorem spec_DrawFewestSlides_s5_nat (F : Nat) (c18 : List Int) (a21 : List Int) : Natural (spec_DrawFewestSlides_s5 F c18 a21) := by
  intro Q Q' s kn kx h
  obtain ⟨n15, c19, c20, b22⟩ := s
  simp only [spec_DrawFewestSlides_s5, cond_bindL, none_bindL]
/-- loop.example/g01194/spec.DrawFewestSlides -/
def spec_DrawFewestSlides_c (Q : Type) (F : Nat) (code0 : List Int) (k : (List Int × List Int) → Option Q) : Option Q :=
    let z_1 := (spec_l1Cur_board_p F code0 (0 : Int) (0 : Int))
    let z_2 := (Option.getD z_1 default)
    let z_3 := (spec_l1Cur_pick_p (5 : Int) code0 z_2.2.1 z_2.2.2)
    let z_4 := (Option.getD z_3 default)
    let z_5 := (spec_DrawFewestSlides_l5 F code0 z_2.1 z_4.1 z_4.2.1 z_4.2.2 z_2.1)
    let z_6 := (Option.getD z_5 default)
    let z_7 := (spec_l1Cur_one_p (8 : Int) code0 z_6.1 z_6.2.1)
    let z_8 := (Option.getD z_7 default)
    let z_9 := (spec_l1Cur_board_p F code0 z_8.2.1 z_8.2.2)
    bif (Option.isSome z_1) then
    bif (Option.isSome z_3) then
    bif (Option.isSome z_5) then
    bif (Option.isSome z_7) then
    bif z_8.1 then
    bif (Option.isSome z_9) then
    k (z_2.1, (Option.getD z_9 default).1)
    else none
    else k (z_2.1, z_6.2.2)
    else none
    else none
    else none
    else none
def spec_DrawFewestSlides_p (F : Nat) (code0 : List Int) : Option (List Int × List Int) := spec_DrawFewestSlides_c _ F code0 some
theorem spec_DrawFewestSlides_cp (Q : Type) (F : Nat) (code0 : List Int) (k : (List Int × List Int) → Option Q) : spec_DrawFewestSlides_c Q F code0 k = (spec_DrawFewestSlides_p F code0).bind k := by
  simp only [spec_DrawFewestSlides_p, spec_DrawFewestSlides_c, cond_bindL, none_bindL, some_bindL]

/-- loop.example/g01194/impl.cells -/
def impl_cells_c (Q : Type) (k : (Unit) → Option Q) : Option Q :=
    k ()
def impl_cells_v : Unit :=
    ()
theorem impl_cells_cv (Q : Type) (k : (Unit) → Option Q) : impl_cells_c Q k = k (impl_cells_v) := by
  simp only [impl_cells_c, impl_cells_v, app_condL k]

/-- (loop.example/g01194/impl.Board).sum -/
def impl_Board_sum_c (Q : Type) (b0 : List Int) (k : (Int) → Option Q) : Option Q :=
    let z_1 := (impl_Board_at_p [(0 : Int), (0 : Int)] b0)
    let z_2 := (impl_Board_at_p [(0 : Int), (1 : Int)] b0)
    let z_3 := (impl_Board_at_p [(0 : Int), (2 : Int)] b0)
    let z_4 := (impl_Board_at_p [(0 : Int), (3 : Int)] b0)
    let z_5 := (impl_Board_at_p [(1 : Int), (0 : Int)] b0)
    let z_6 := (impl_Board_at_p [(1 : Int), (1 : Int)] b0)
    let z_7 := (impl_Board_at_p [(1 : Int), (2 : Int)] b0)
    let z_8 := (impl_Board_at_p [(1 : Int), (3 : Int)] b0)
    let z_9 := (impl_Board_at_p [(2 : Int), (0 : Int)] b0)
    let z_10 := (impl_Board_at_p [(2 : Int), (1 : Int)] b0)
    let z_11 := (impl_Board_at_p [(2 : Int), (2 : Int)] b0)
    let z_12 := (impl_Board_at_p [(2 : Int), (3 : Int)] b0)
    let z_13 := (impl_Board_at_p [(3 : Int), (0 : Int)] b0)
    let z_14 := (impl_Board_at_p [(3 : Int), (1 : Int)] b0)
    let z_15 := (impl_Board_at_p [(3 : Int), (2 : Int)] b0)
    let z_16 := (impl_Board_at_p [(3 : Int), (3 : Int)] b0)
    bif (Option.isSome z_1) then
    bif (Option.isSome (impl_worth_p (iget b0 (Option.getD z_1 default)))) then
    bif (Option.isSome z_2) then
    bif (Option.isSome (impl_worth_p (iget b0 (Option.getD z_2 default)))) then
    bif (Option.isSome z_3) then
    bif (Option.isSome (impl_worth_p (iget b0 (Option.getD z_3 default)))) then
    bif (Option.isSome z_4) then
    bif (Option.isSome (impl_worth_p (iget b0 (Option.getD z_4 default)))) then
    bif (Option.isSome z_5) then
    bif (Option.isSome (impl_worth_p (iget b0 (Option.getD z_5 default)))) then
    bif (Option.isSome z_6) then
    bif (Option.isSome (impl_worth_p (iget b0 (Option.getD z_6 default)))) then
    bif (Option.isSome z_7) then
    bif (Option.isSome (impl_worth_p (iget b0 (Option.getD z_7 default)))) then
    bif (Option.isSome z_8) then
    bif (Option.isSome (impl_worth_p (iget b0 (Option.getD z_8 default)))) then
    bif (Option.isSome z_9) then
    bif (Option.isSome (impl_worth_p (iget b0 (Option.getD z_9 default)))) then
    bif (Option.isSome z_10) then
    bif (Option.isSome (impl_worth_p (iget b0 (Option.getD z_10 default)))) then
    bif (Option.isSome z_11) then
    bif (Option.isSome (impl_worth_p (iget b0 (Option.getD z_11 default)))) then
    bif (Option.isSome z_12) then
    bif (Option.isSome (impl_worth_p (iget b0 (Option.getD z_12 default)))) then
    bif (Option.isSome z_13) then
    bif (Option.isSome (impl_worth_p (iget b0 (Option.getD z_13 default)))) then
    bif (Option.isSome z_14) then
    bif (Option.isSome (impl_worth_p (iget b0 (Option.getD z_14 default)))) then
    bif (Option.isSome z_15) then
    bif (Option.isSome (impl_worth_p (iget b0 (Option.getD z_15 default)))) then
    bif (Option.isSome z_16) then
    bif (Option.isSome (impl_worth_p (iget b0 (Option.getD z_16 default)))) then
    k (IntKind.wrap .i64 ((IntKind.wrap .i64 ((IntKind.wrap .i64 ((IntKind.wrap .i64 ((IntKind.wrap .i64 ((IntKind.wrap .i64 ((IntKind.wrap .i64 ((IntKind.wrap .i64 ((IntKind.wrap .i64 ((IntKind.wrap .i64 ((IntKind.wrap .i64 ((IntKind.wrap .i64 ((IntKind.wrap .i64 ((IntKind.wrap .i64 ((IntKind.wrap .i64 ((IntKind.wrap .i64 ((0 : Int) + (Option.getD (impl_worth_p (iget b0 (Option.getD z_1 default))) default))) + (Option.getD (impl_worth_p (iget b0 (Option.getD z_2 default))) default))) + (Option.getD (impl_worth_p (iget b0 (Option.getD z_3 default))) default))) + (Option.getD (impl_worth_p (iget b0 (Option.getD z_4 default))) default))) + (Option.getD (impl_worth_p (iget b0 (Option.getD z_5 default))) default))) + (Option.getD (impl_worth_p (iget b0 (Option.getD z_6 default))) default))) + (Option.getD (impl_worth_p (iget b0 (Option.getD z_7 default))) default))) + (Option.getD (impl_worth_p (iget b0 (Option.getD z_8 default))) default))) + (Option.getD (impl_worth_p (iget b0 (Option.getD z_9 default))) default))) + (Option.getD (impl_worth_p (iget b0 (Option.getD z_10 default))) default))) + (Option.getD (impl_worth_p (iget b0 (Option.getD z_11 default))) default))) + (Option.getD (impl_worth_p (iget b0 (Option.getD z_12 default))) default))) + (Option.getD (impl_worth_p (iget b0 (Option.getD z_13 default))) default))) + (Option.getD (impl_worth_p (iget b0 (Option.getD z_14 default))) default))) + (Option.getD (impl_worth_p (iget b0 (Option.getD z_15 default))) default))) + (Option.getD (impl_worth_p (iget b0 (Option.getD z_16 default))) default)))
    else none
    else none
    else none
    else none
    else none
    else none
    else none
    else none
    else none
    else none
    else none
    else none
    else none
    else none
    else none
    else none
    else none
    else none
    else none
    else none
    else none
    else none
    else none
    else none
    else none
    else none
    else none
    else none
    else none
    else none
    else none
    else none
def impl_Board_sum_p (b0 : List Int) : Option (Int) := impl_Board_sum_c _ b0 some
theorem impl_Board_sum_cp (Q : Type) (b0 : List Int) (k : (Int) → Option Q) : impl_Board_sum_c Q b0 k = (impl_Board_sum_p b0).bind k := by
  simp only [impl_Board_sum_p, impl_Board_sum_c, cond_bindL, none_bindL, some_bindL]

/-- (loop.example/g01194/impl.Board).roadTo -/
def impl_Board_roadTo_c (Q : Type) (F : Nat) (b0 : List Int) (c1 : List Int) (k : (List Int × Bool) → Option Q) : Option Q :=
    let z_1 := (impl_IsBoard_p F b0)
    let z_2 := (impl_IsBoard_p F c1)
    let z_3 := (impl_Board_reach_p F b0 (6 : Int))
    bif (Option.isSome z_1) then
    bif (!(Option.getD z_1 default)) then
    k (([] : List Int), false)
    else bif (Option.isSome z_2) then
    bif (!(Option.getD z_2 default)) then
    k (([] : List Int), false)
    else bif (Option.isSome (impl_Board_sum_p b0)) then
    bif (Option.isSome (impl_Board_sum_p c1)) then
    bif (!((Option.getD (impl_Board_sum_p b0) default) == (Option.getD (impl_Board_sum_p c1) default))) then
    k (([] : List Int), false)
    else bif (Option.isSome z_3) then
    k ((Option.getD (mlook c1 (Option.getD z_3 default).1) []), (Option.isSome (mlook c1 (Option.getD z_3 default).1)))
    else none
    else none
    else none
    else none
    else none
def impl_Board_roadTo_p (F : Nat) (b0 : List Int) (c1 : List Int) : Option (List Int × Bool) := impl_Board_roadTo_c _ F b0 c1 some
theorem impl_Board_roadTo_cp (Q : Type) (F : Nat) (b0 : List Int) (c1 : List Int) (k : (List Int × Bool) → Option Q) : impl_Board_roadTo_c Q F b0 c1 k = (impl_Board_roadTo_p F b0 c1).bind k := by
  simp only [impl_Board_roadTo_p, impl_Board_roadTo_c, cond_bindL, none_bindL, some_bindL]

/-- loop.example/g01194/impl.FewestSlides -/
def impl_FewestSlides_c (Q : Type) (F : Nat) (a0 : List Int) (b1 : List Int) (k : (Int × Bool) → Option Q) : Option Q :=
    let z_1 := (impl_Board_roadTo_p F a0 b1)
    let z_2 := (Option.getD z_1 default)
    bif (Option.isSome z_1) then
    k ((((List.length z_2.1) : Nat) : Int), z_2.2)
    else none
def impl_FewestSlides_p (F : Nat) (a0 : List Int) (b1 : List Int) : Option (Int × Bool) := impl_FewestSlides_c _ F a0 b1 some
theorem impl_FewestSlides_cp (Q : Type) (F : Nat) (a0 : List Int) (b1 : List Int) (k : (Int × Bool) → Option Q) : impl_FewestSlides_c Q F a0 b1 k = (impl_FewestSlides_p F a0 b1).bind k := by
  simp only [impl_FewestSlides_p, impl_FewestSlides_c, cond_bindL, none_bindL, some_bindL]

/-- loop 2 of loop.example/g01194/spec.l5Has -/
def spec_l5Has_s2 (F : Nat) (all0 : List (List Int)) (b5 : List Int) (Q : Type) : (Int) → ((Int) → Option Q) → ((Bool) → Option Q) → Option Q
  | i4, kn, kx =>
    bif (decide (i4 < (((List.length all0) : Nat) : Int))) then
    bif (inR i4 (List.length all0)) then
    bif ((rget all0 (Int.toNat i4)) == b5) then
    kx true
    else kn (IntKind.wrap .i64 (i4 + (1 : Int)))
    else none
    else kx false
def spec_l5Has_l2 (F : Nat) (all0 : List (List Int)) (b5 : List Int) (i4 : Int) : Option (Bool) := loopC (spec_l5Has_s2 F all0 b5) F i4 some
theorem spec_l5Has_s2_nat (F : Nat) (all0 : List (List Int)) (b5 : List Int) : Natural (spec_l5Has_s2 F all0 b5) := by
  intro Q Q' s kn kx h
  simp only [spec_l5Has_s2, cond_bindL, none_bindL]
/-- loop.example/g01194/spec.l5Has -/
def spec_l5Has_c (Q : Type) (F : Nat) (all0 : List (List Int)) (b1 : List Int) (k : (Bool) → Option Q) : Option Q :=
    let z_1 := (spec_l5Has_l2 F all0 b1 (0 : Int))
    bif (Option.isSome z_1) then
    bif (Option.getD z_1 default) then
    k true
    else k false
    else none
def spec_l5Has_p (F : Nat) (all0 : List (List Int)) (b1 : List Int) : Option (Bool) := spec_l5Has_c _ F all0 b1 some
theorem spec_l5Has_cp (Q : Type) (F : Nat) (all0 : List (List Int)) (b1 : List Int) (k : (Bool) → Option Q) : spec_l5Has_c Q F all0 b1 k = (spec_l5Has_p F all0 b1).bind k := by
  simp only [spec_l5Has_p, spec_l5Has_c, cond_bindL, none_bindL, some_bindL]

/-- loop 3 of loop.example/g01194/spec.l5Fewest -/
def spec_l5Fewest_s3 (F : Nat) (most0 : Int) (b6 : List Int) (Q : Type) : (List (List Int) × Int) → ((List (List Int) × Int) → Option Q) → ((Bool × Int) → Option Q) → Option Q
  | (all4, n5), kn, kx =>
    let z_1 := (spec_l5Has_p F all4 b6)
    let z_2 := (spec_l5Next_p F all4)
    bif (decide (n5 ≤ most0)) then
    bif (Option.isSome z_1) then
    bif (Option.getD z_1 default) then
    kx (true, n5)
    else bif (Option.isSome z_2) then
    kn ((Option.getD z_2 default), (IntKind.wrap .i64 (n5 + (1 : Int))))
    else none
    else none
    else kx (false, default)
def spec_l5Fewest_l3 (F : Nat) (most0 : Int) (b6 : List Int) (all4 : List (List Int)) (n5 : Int) : Option (Bool × Int) := loopC (spec_l5Fewest_s3 F most0 b6) F (all4, n5) some
theorem spec_l5Fewest_s3_nat (F : Nat) (most0 : Int) (b6 : List Int) : Natural (spec_l5Fewest_s3 F most0 b6) := by
  intro Q Q' s kn kx h
  obtain ⟨all4, n5⟩ := s
  simp only [spec_l5Fewest_s3, cond_bindL, none_bindL]
/-- loop.example/g01194/spec.l5Fewest -/
def spec_l5Fewest_c (Q : Type) (F : Nat) (a0 : List Int) (b1 : List Int) (most2 : Int) (k : (Int) → Option Q) : Option Q :=
    let z_1 := (spec_l5Fewest_l3 F most2 b1 [a0] (0 : Int))
    let z_2 := (Option.getD z_1 default)
    bif (Option.isSome z_1) then
    bif z_2.1 then
    k z_2.2
    else k (-1 : Int)
    else none
def spec_l5Fewest_p (F : Nat) (a0 : List Int) (b1 : List Int) (most2 : Int) : Option (Int) := spec_l5Fewest_c _ F a0 b1 most2 some
theorem spec_l5Fewest_cp (Q : Type) (F : Nat) (a0 : List Int) (b1 : List Int) (most2 : Int) (k : (Int) → Option Q) : spec_l5Fewest_c Q F a0 b1 most2 k = (spec_l5Fewest_p F a0 b1 most2).bind k := by
  simp only [spec_l5Fewest_p, spec_l5Fewest_c, cond_bindL, none_bindL, some_bindL]

/-- loop.example/g01194/spec.l1Most -/
def spec_l1Most_c (Q : Type) (a0 : Int) (b1 : Int) (k : (Int) → Option Q) : Option Q :=
    bif (decide (b1 < a0)) then
    k a0
    else k b1
def spec_l1Most_v (a0 : Int) (b1 : Int) : Int :=
    bif (decide (b1 < a0)) then
    a0
    else b1
theorem spec_l1Most_cv (Q : Type) (a0 : Int) (b1 : Int) (k : (Int) → Option Q) : spec_l1Most_c Q a0 b1 k = k (spec_l1Most_v a0 b1) := by
  simp only [spec_l1Most_c, spec_l1Most_v, app_condL k]
end Go.Lv.P
