/-
Pure functions and what the code of them does, by program; without conditions.
-/
import Derived.Test.YtgmnclpjbhmioaaTKP3
namespace Go.Lv.P
open Go Go.Lv
set_option linter.unusedVariables false
set_option linter.unusedSimpArgs false
set_option maxRecDepth 100000
/-- loop 2 of (loop.example/g01194/impl.Board).slides -/
def impl_Board_slides_s2 (F : Nat) (t76 : List Int) (t87 : Int) (Q : Type) : (Int × List Int) → ((Int × List Int) → Option Q) → ((List Int) → Option Q) → Option Q
  | (t98, b9), kn, kx =>
    let z_1 := (impl_Board_slide_p F b9 (iget t76 (Int.toNat t98)))
    bif (decide (t98 < t87)) then
    bif (inR t98 (List.length t76)) then
    bif (Option.isSome z_1) then
    kn ((IntKind.wrap .i64 (t98 + (1 : Int))), (Option.getD z_1 default).1)
    else none
    else none
    else kx b9
def impl_Board_slides_l2 (F : Nat) (t76 : List Int) (t87 : Int) (t98 : Int) (b9 : List Int) : Option (List Int) := loopC (impl_Board_slides_s2 F t76 t87) F (t98, b9) some
theorem impl_Board_slides_s2_nat (F : Nat) (t76 : List Int) (t87 : Int) : Natural (impl_Board_slides_s2 F t76 t87) := by
  intro Q Q' s kn kx h
  obtain ⟨t98, b9⟩ := s
  simp only [impl_Board_slides_s2, cond_bindL, none_bindL]
/-- (loop.example/g01194/impl.Board).slides -/
def impl_Board_slides_c (Q : Type) (F : Nat) (b0 : List Int) (list1 : List Int) (k : (List Int) → Option Q) : Option Q :=
    let z_1 := (impl_Board_slides_l2 F list1 (((List.length list1) : Nat) : Int) (0 : Int) b0)
    bif (Option.isSome z_1) then
    k (Option.getD z_1 default)
    else none
def impl_Board_slides_p (F : Nat) (b0 : List Int) (list1 : List Int) : Option (List Int) := impl_Board_slides_c _ F b0 list1 some
theorem impl_Board_slides_cp (Q : Type) (F : Nat) (b0 : List Int) (list1 : List Int) (k : (List Int) → Option Q) : impl_Board_slides_c Q F b0 list1 k = (impl_Board_slides_p F b0 list1).bind k := by
  simp only [impl_Board_slides_p, impl_Board_slides_c, cond_bindL, none_bindL, some_bindL]

/-- (loop.example/g01194/impl.Board).countBefore -/
def impl_Board_countBefore_c (Q : Type) (F : Nat) (b0 : List Int) (direction1 : Int) (k : (Int) → Option Q) : Option Q :=
    let z_1 := (impl_Board_linesBefore_p F b0 direction1)
    let z_2 := (impl_Board_slides_p F b0 [direction1])
    let z_3 := (Option.getD z_1 default)
    let z_4 : Int := (IntKind.wrap .i64 ((IntKind.wrap .i64 ((IntKind.wrap .i64 ((IntKind.wrap .i64 ((1 : Int) * (((List.length z_3.1) : Nat) : Int))) * (((List.length z_3.2.1) : Nat) : Int))) * (((List.length z_3.2.2.1) : Nat) : Int))) * (((List.length z_3.2.2.2) : Nat) : Int)))
    bif (Option.isSome z_1) then
    bif (Option.isSome z_2) then
    bif ((Option.getD z_2 default) == b0) then
    k (IntKind.wrap .i64 (z_4 - (1 : Int)))
    else k z_4
    else none
    else none
def impl_Board_countBefore_p (F : Nat) (b0 : List Int) (direction1 : Int) : Option (Int) := impl_Board_countBefore_c _ F b0 direction1 some
theorem impl_Board_countBefore_cp (Q : Type) (F : Nat) (b0 : List Int) (direction1 : Int) (k : (Int) → Option Q) : impl_Board_countBefore_c Q F b0 direction1 k = (impl_Board_countBefore_p F b0 direction1).bind k := by
  simp only [impl_Board_countBefore_p, impl_Board_countBefore_c, cond_bindL, none_bindL, some_bindL]

/-- loop.example/g01194/impl.CountBefore -/
def impl_CountBefore_c (Q : Type) (F : Nat) (b0 : List Int) (direction1 : Int) (k : (Int × Bool) → Option Q) : Option Q :=
    let z_1 := (impl_IsBoard_p F b0)
    let z_2 := (impl_Board_countBefore_p F b0 direction1)
    bif (Option.isSome z_1) then
    bif (!(Option.getD z_1 default)) then
    k ((0 : Int), false)
    else bif (!(impl_isDirection_v direction1)) then
    k ((0 : Int), false)
    else bif (Option.isSome z_2) then
    k ((Option.getD z_2 default), true)
    else none
    else none
def impl_CountBefore_p (F : Nat) (b0 : List Int) (direction1 : Int) : Option (Int × Bool) := impl_CountBefore_c _ F b0 direction1 some
theorem impl_CountBefore_cp (Q : Type) (F : Nat) (b0 : List Int) (direction1 : Int) (k : (Int × Bool) → Option Q) : impl_CountBefore_c Q F b0 direction1 k = (impl_CountBefore_p F b0 direction1).bind k := by
  simp only [impl_CountBefore_p, impl_CountBefore_c, cond_bindL, none_bindL, some_bindL]

/-- loop.example/g01194/laws.FnExactCountBefore -/
def laws_FnExactCountBefore_c (Q : Type) (F : Nat) (aB0 : List Int) (aDirection1 : Int) (k : (Bool) → Option Q) : Option Q :=
    let z_1 := (spec_CountBefore_p F (laws_toBoard_v aB0) aDirection1)
    let z_2 := (impl_CountBefore_p F (laws_toBoard_v aB0) aDirection1)
    let z_3 := (Option.getD z_2 default)
    let z_4 := (Option.getD z_1 default)
    bif (Option.isSome z_1) then
    bif (Option.isSome z_2) then
    bif (!(z_3.1 == z_4.1)) then
    k false
    else bif (!(z_3.2 == z_4.2)) then
    k false
    else k true
    else none
    else none
def laws_FnExactCountBefore_p (F : Nat) (aB0 : List Int) (aDirection1 : Int) : Option (Bool) := laws_FnExactCountBefore_c _ F aB0 aDirection1 some
theorem laws_FnExactCountBefore_cp (Q : Type) (F : Nat) (aB0 : List Int) (aDirection1 : Int) (k : (Bool) → Option Q) : laws_FnExactCountBefore_c Q F aB0 aDirection1 k = (laws_FnExactCountBefore_p F aB0 aDirection1).bind k := by
  simp only [laws_FnExactCountBefore_p, laws_FnExactCountBefore_c, cond_bindL, none_bindL, some_bindL]

/-- loop.example/g01194/spec.WaysInto -/
def spec_WaysInto_c (Q : Type) (F : Nat) (b0 : List Int) (k : (List Int × Bool) → Option Q) : Option Q :=
    let z_1 := (spec_l2Board_p F b0)
    let z_2 := (spec_l6Count_p F b0 (0 : Int))
    let z_3 := (spec_l6Count_p F b0 (1 : Int))
    let z_4 := (spec_l6Count_p F b0 (2 : Int))
    let z_5 := (spec_l6Count_p F b0 (3 : Int))
    bif (Option.isSome z_1) then
    bif (!(Option.getD z_1 default)) then
    k ([(0 : Int), (0 : Int), (0 : Int), (0 : Int)], false)
    else bif (Option.isSome z_2) then
    bif (Option.isSome z_3) then
    bif (Option.isSome z_4) then
    bif (Option.isSome z_5) then
    k ([(Option.getD z_2 default), (Option.getD z_3 default), (Option.getD z_4 default), (Option.getD z_5 default)], true)
    else none
    else none
    else none
    else none
    else none
def spec_WaysInto_p (F : Nat) (b0 : List Int) : Option (List Int × Bool) := spec_WaysInto_c _ F b0 some
theorem spec_WaysInto_cp (Q : Type) (F : Nat) (b0 : List Int) (k : (List Int × Bool) → Option Q) : spec_WaysInto_c Q F b0 k = (spec_WaysInto_p F b0).bind k := by
  simp only [spec_WaysInto_p, spec_WaysInto_c, cond_bindL, none_bindL, some_bindL]

/-- loop.example/g01194/impl.WaysInto -/
def impl_WaysInto_c (Q : Type) (F : Nat) (b0 : List Int) (k : (List Int × Bool) → Option Q) : Option Q :=
    let z_1 := (impl_IsBoard_p F b0)
    let z_2 := (impl_Board_countBefore_p F b0 (0 : Int))
    let z_3 := (impl_Board_countBefore_p F b0 (1 : Int))
    let z_4 := (impl_Board_countBefore_p F b0 (2 : Int))
    let z_5 := (impl_Board_countBefore_p F b0 (3 : Int))
    bif (Option.isSome z_1) then
    bif (!(Option.getD z_1 default)) then
    k ([(0 : Int), (0 : Int), (0 : Int), (0 : Int)], false)
    else bif (Option.isSome z_2) then
    bif (Option.isSome z_3) then
    bif (Option.isSome z_4) then
    bif (Option.isSome z_5) then
    k ([(Option.getD z_2 default), (Option.getD z_3 default), (Option.getD z_4 default), (Option.getD z_5 default)], true)
    else none
    else none
    else none
    else none
    else none
def impl_WaysInto_p (F : Nat) (b0 : List Int) : Option (List Int × Bool) := impl_WaysInto_c _ F b0 some
theorem impl_WaysInto_cp (Q : Type) (F : Nat) (b0 : List Int) (k : (List Int × Bool) → Option Q) : impl_WaysInto_c Q F b0 k = (impl_WaysInto_p F b0).bind k := by
  simp only [impl_WaysInto_p, impl_WaysInto_c, cond_bindL, none_bindL, some_bindL]

/-- loop 2 of loop.example/g01194/laws.eqIntA4 -/
def laws_eqIntA4_s2 (F : Nat) (a7 : List Int) (b8 : List Int) (Q : Type) : (Int) → ((Int) → Option Q) → ((Bool) → Option Q) → Option Q
  | i6, kn, kx =>
    let z_1 : Nat := ((0 : Nat) + ((Int.toNat i6) * (1 : Nat)))
    bif (decide (i6 < (4 : Int))) then
    bif (inR i6 4) then
    bif (inR i6 4) then
    bif (!((iget a7 z_1) == (iget b8 z_1))) then
    kx true
    else kn (IntKind.wrap .i64 (i6 + (1 : Int)))
    else none
    else none
    else kx false
def laws_eqIntA4_l2 (F : Nat) (a7 : List Int) (b8 : List Int) (i6 : Int) : Option (Bool) := loopC (laws_eqIntA4_s2 F a7 b8) F i6 some
theorem laws_eqIntA4_s2_nat (F : Nat) (a7 : List Int) (b8 : List Int) : Natural (laws_eqIntA4_s2 F a7 b8) := by
  intro Q Q' s kn kx h
  simp only [laws_eqIntA4_s2, cond_bindL, none_bindL]
/-- loop.example/g01194/laws.eqIntA4 -/
def laws_eqIntA4_c (Q : Type) (F : Nat) (a0 : List Int) (b1 : List Int) (k : (Bool) → Option Q) : Option Q :=
    let z_1 := (laws_eqIntA4_l2 F a0 b1 (0 : Int))
    bif (Option.isSome z_1) then
    bif (Option.getD z_1 default) then
    k false
    else k true
    else none
def laws_eqIntA4_p (F : Nat) (a0 : List Int) (b1 : List Int) : Option (Bool) := laws_eqIntA4_c _ F a0 b1 some
theorem laws_eqIntA4_cp (Q : Type) (F : Nat) (a0 : List Int) (b1 : List Int) (k : (Bool) → Option Q) : laws_eqIntA4_c Q F a0 b1 k = (laws_eqIntA4_p F a0 b1).bind k := by
  simp only [laws_eqIntA4_p, laws_eqIntA4_c, cond_bindL, none_bindL, some_bindL]

/-- loop.example/g01194/laws.FnExactWaysInto -/
def laws_FnExactWaysInto_c (Q : Type) (F : Nat) (aB0 : List Int) (k : (Bool) → Option Q) : Option Q :=
    let z_1 := (spec_WaysInto_p F (laws_toBoard_v aB0))
    let z_2 := (impl_WaysInto_p F (laws_toBoard_v aB0))
    let z_3 := (Option.getD z_2 default)
    let z_4 := (Option.getD z_1 default)
    let z_5 := (laws_eqIntA4_p F z_3.1 z_4.1)
    bif (Option.isSome z_1) then
    bif (Option.isSome z_2) then
    bif (Option.isSome z_5) then
    bif (!(Option.getD z_5 default)) then
    k false
    else bif (!(z_3.2 == z_4.2)) then
    k false
    else k true
    else none
    else none
    else none
def laws_FnExactWaysInto_p (F : Nat) (aB0 : List Int) : Option (Bool) := laws_FnExactWaysInto_c _ F aB0 some
theorem laws_FnExactWaysInto_cp (Q : Type) (F : Nat) (aB0 : List Int) (k : (Bool) → Option Q) : laws_FnExactWaysInto_c Q F aB0 k = (laws_FnExactWaysInto_p F aB0).bind k := by
  simp only [laws_FnExactWaysInto_p, laws_FnExactWaysInto_c, cond_bindL, none_bindL, some_bindL]

/-- loop 3 of loop.example/g01194/spec.l6Sides -/
def spec_l6Sides_s3 (F : Nat) (b6 : List Int) (Q : Type) : (Int × List Int) → ((Int × List Int) → Option Q) → ((List Int) → Option Q) → Option Q
  | (d5, out7), kn, kx =>
    let z_1 := (spec_l6Count_p F b6 d5)
    let z_2 : List Int := ((subn (List.length out7) out7 0 (List.length out7)) ++ [d5])
    let z_3 : Int := (IntKind.wrap .i64 (d5 + (1 : Int)))
    bif (decide (d5 < (4 : Int))) then
    bif (Option.isSome z_1) then
    bif (decide ((0 : Int) < (Option.getD z_1 default))) then
    bif (fits (List.length z_2) 8) then
    kn (z_3, z_2)
    else none
    else kn (z_3, out7)
    else none
    else kx out7
def spec_l6Sides_l3 (F : Nat) (b6 : List Int) (d5 : Int) (out7 : List Int) : Option (List Int) := loopC (spec_l6Sides_s3 F b6) F (d5, out7) some
theorem spec_l6Sides_s3_nat (F : Nat) (b6 : List Int) : Natural (spec_l6Sides_s3 F b6) := by
  intro Q Q' s kn kx h
  obtain ⟨d5, out7⟩ := s
  simp only [spec_l6Sides_s3, cond_bindL, none_bindL]
/-- loop.example/g01194/spec.l6Sides -/
def spec_l6Sides_c (Q : Type) (F : Nat) (b0 : List Int) (k : (List Int) → Option Q) : Option Q :=
    let z_1 := (spec_l6Sides_l3 F b0 (0 : Int) ([] : List Int))
    bif (Option.isSome z_1) then
    k (Option.getD z_1 default)
    else none
def spec_l6Sides_p (F : Nat) (b0 : List Int) : Option (List Int) := spec_l6Sides_c _ F b0 some
theorem spec_l6Sides_cp (Q : Type) (F : Nat) (b0 : List Int) (k : (List Int) → Option Q) : spec_l6Sides_c Q F b0 k = (spec_l6Sides_p F b0).bind k := by
  simp only [spec_l6Sides_p, spec_l6Sides_c, cond_bindL, none_bindL, some_bindL]

/-- loop.example/g01194/spec.IsMade -/
def spec_IsMade_c (Q : Type) (F : Nat) (b0 : List Int) (k : (Bool × Bool) → Option Q) : Option Q :=
    let z_1 := (spec_l2Board_p F b0)
    let z_2 := (spec_l6Sides_p F b0)
    bif (Option.isSome z_1) then
    bif (!(Option.getD z_1 default)) then
    k (false, false)
    else bif (Option.isSome z_2) then
    k ((decide ((0 : Int) < (((List.length (Option.getD z_2 default)) : Nat) : Int))), true)
    else none
    else none
def spec_IsMade_p (F : Nat) (b0 : List Int) : Option (Bool × Bool) := spec_IsMade_c _ F b0 some
theorem spec_IsMade_cp (Q : Type) (F : Nat) (b0 : List Int) (k : (Bool × Bool) → Option Q) : spec_IsMade_c Q F b0 k = (spec_IsMade_p F b0).bind k := by
  simp only [spec_IsMade_p, spec_IsMade_c, cond_bindL, none_bindL, some_bindL]

/-- loop 5 of loop.example/g01194/impl.SidesInto -/
def impl_SidesInto_s5 (F : Nat) (b6 : List Int) (Q : Type) : (Int × List Int) → ((Int × List Int) → Option Q) → ((List Int) → Option Q) → Option Q
  | (t105, out7), kn, kx =>
    let z_1 := (impl_Board_countBefore_p F b6 t105)
    let z_2 : List Int := ((subn (List.length out7) out7 0 (List.length out7)) ++ [t105])
    let z_3 : Int := (IntKind.wrap .i64 (t105 + (1 : Int)))
    bif (decide (t105 < (4 : Int))) then
    bif (Option.isSome z_1) then
    bif (decide ((0 : Int) < (Option.getD z_1 default))) then
    bif (fits (List.length z_2) 8) then
    kn (z_3, z_2)
    else none
    else kn (z_3, out7)
    else none
    else kx out7
def impl_SidesInto_l5 (F : Nat) (b6 : List Int) (t105 : Int) (out7 : List Int) : Option (List Int) := loopC (impl_SidesInto_s5 F b6) F (t105, out7) some
theorem impl_SidesInto_s5_nat (F : Nat) (b6 : List Int) : Natural (impl_SidesInto_s5 F b6) := by
  intro Q Q' s kn kx h
  obtain ⟨t105, out7⟩ := s
  simp only [impl_SidesInto_s5, cond_bindL, none_bindL]
/-- loop.example/g01194/impl.SidesInto -/
def impl_SidesInto_c (Q : Type) (F : Nat) (b0 : List Int) (k : (Bool × List Int) → Option Q) : Option Q :=
    let z_1 := (impl_IsBoard_p F b0)
    let z_2 := (impl_SidesInto_l5 F b0 (0 : Int) ([] : List Int))
    bif (Option.isSome z_1) then
    bif (!(Option.getD z_1 default)) then
    k (false, ([] : List Int))
    else bif (Option.isSome z_2) then
    k (true, (Option.getD z_2 default))
    else none
    else none
def impl_SidesInto_p (F : Nat) (b0 : List Int) : Option (Bool × List Int) := impl_SidesInto_c _ F b0 some
theorem impl_SidesInto_cp (Q : Type) (F : Nat) (b0 : List Int) (k : (Bool × List Int) → Option Q) : impl_SidesInto_c Q F b0 k = (impl_SidesInto_p F b0).bind k := by
  simp only [impl_SidesInto_p, impl_SidesInto_c, cond_bindL, none_bindL, some_bindL]

/-- loop.example/g01194/impl.IsMade -/
def impl_IsMade_c (Q : Type) (F : Nat) (b0 : List Int) (k : (Bool × Bool) → Option Q) : Option Q :=
    let z_1 := (impl_SidesInto_p F b0)
    let z_2 := (Option.getD z_1 default)
    bif (Option.isSome z_1) then
    k ((decide ((0 : Int) < (((List.length z_2.2) : Nat) : Int))), z_2.1)
    else none
def impl_IsMade_p (F : Nat) (b0 : List Int) : Option (Bool × Bool) := impl_IsMade_c _ F b0 some
theorem impl_IsMade_cp (Q : Type) (F : Nat) (b0 : List Int) (k : (Bool × Bool) → Option Q) : impl_IsMade_c Q F b0 k = (impl_IsMade_p F b0).bind k := by
  simp only [impl_IsMade_p, impl_IsMade_c, cond_bindL, none_bindL, some_bindL]

/-- loop.example/g01194/laws.FnExactIsMade -/
def laws_FnExactIsMade_c (Q : Type) (F : Nat) (aB0 : List Int) (k : (Bool) → Option Q) : Option Q :=
    let z_1 := (spec_IsMade_p F (laws_toBoard_v aB0))
    let z_2 := (impl_IsMade_p F (laws_toBoard_v aB0))
    let z_3 := (Option.getD z_2 default)
    let z_4 := (Option.getD z_1 default)
    bif (Option.isSome z_1) then
    bif (Option.isSome z_2) then
    bif (!(z_3.1 == z_4.1)) then
    k false
    else bif (!(z_3.2 == z_4.2)) then
    k false
    else k true
    else none
    else none
def laws_FnExactIsMade_p (F : Nat) (aB0 : List Int) : Option (Bool) := laws_FnExactIsMade_c _ F aB0 some
theorem laws_FnExactIsMade_cp (Q : Type) (F : Nat) (aB0 : List Int) (k : (Bool) → Option Q) : laws_FnExactIsMade_c Q F aB0 k = (laws_FnExactIsMade_p F aB0).bind k := by
  simp only [laws_FnExactIsMade_p, laws_FnExactIsMade_c, cond_bindL, none_bindL, some_bindL]

/-- loop 3 of loop.example/g01194/spec.l4Many -/
def spec_l4Many_s3 (F : Nat) (row5 : List Int) (Q : Type) : (Int × Int) → ((Int × Int) → Option Q) → ((Int) → Option Q) → Option Q
  | (many3, k4), kn, kx =>
    let z_1 : Int := (IntKind.wrap .i64 (k4 + (1 : Int)))
    bif (decide (k4 < (4 : Int))) then
    bif (inR k4 4) then
    bif (decide ((0 : Int) < (iget row5 ((0 : Nat) + ((Int.toNat k4) * (1 : Nat)))))) then
    kn ((IntKind.wrap .i64 (many3 + (1 : Int))), z_1)
    else kn (many3, z_1)
    else none
    else kx many3
def spec_l4Many_l3 (F : Nat) (row5 : List Int) (many3 : Int) (k4 : Int) : Option (Int) := loopC (spec_l4Many_s3 F row5) F (many3, k4) some
theorem spec_l4Many_s3_nat (F : Nat) (row5 : List Int) : Natural (spec_l4Many_s3 F row5) := by
  intro Q Q' s kn kx h
  obtain ⟨many3, k4⟩ := s
  simp only [spec_l4Many_s3, cond_bindL, none_bindL]
/-- loop.example/g01194/spec.l4Many -/
def spec_l4Many_c (Q : Type) (F : Nat) (row0 : List Int) (k : (Int) → Option Q) : Option Q :=
    let z_1 := (spec_l4Many_l3 F row0 (0 : Int) (0 : Int))
    bif (Option.isSome z_1) then
    k (Option.getD z_1 default)
    else none
def spec_l4Many_p (F : Nat) (row0 : List Int) : Option (Int) := spec_l4Many_c _ F row0 some
theorem spec_l4Many_cp (Q : Type) (F : Nat) (row0 : List Int) (k : (Int) → Option Q) : spec_l4Many_c Q F row0 k = (spec_l4Many_p F row0).bind k := by
  simp only [spec_l4Many_p, spec_l4Many_c, cond_bindL, none_bindL, some_bindL]

/-- loop.example/g01194/spec.l1Most -/
def spec_l1Most_c (Q : Type) (a0 : Int) (b1 : Int) (k : (Int) → Option Q) : Option Q :=
    bif (decide (b1 < a0)) then
    k a0
    else k b1
def spec_l1Most_v (a0 : Int) (b1 : Int) : Int :=
    bif (decide (b1 < a0)) then
    a0
    else b1
theorem spec_l1Most_cv (Q : Type) (a0 : Int) (b1 : Int) (k : (Int) → Option Q) : spec_l1Most_c Q a0 b1 k = k (spec_l1Most_v a0 b1) := by
  simp only [spec_l1Most_c, spec_l1Most_v, app_condL k]

/-- loop 9 of loop.example/g01194/spec.MostBefore -/
def spec_MostBefore_s9 (F : Nat) (sum0 : Int) (i4 : Int) (lists7 : List (List Int)) (lists8 : List (List Int)) (lists9 : List (List Int)) (lists10 : List (List Int)) (Q : Type) : (Int × Int) → ((Int × Int) → Option Q) → ((Int) → Option Q) → Option Q
  | (most5, k6), kn, kx =>
    let z_1 : List (List Int) := (llget [lists7, lists8, lists9, lists10] ((0 : Nat) + ((Int.toNat i4) * (1 : Nat))))
    let z_2 : Nat := (List.length z_1)
    let z_3 := (spec_l4Many_p F (rget z_1 (Int.toNat k6)))
    bif (inR i4 4) then
    bif (decide (k6 < ((z_2 : Nat) : Int))) then
    bif (inR i4 4) then
    bif (inR k6 z_2) then
    bif (Option.isSome z_3) then
    kn ((spec_l1Most_v most5 (Option.getD z_3 default)), (IntKind.wrap .i64 (k6 + (1 : Int))))
    else none
    else none
    else none
    else kx most5
    else none
def spec_MostBefore_l9 (F : Nat) (sum0 : Int) (i4 : Int) (lists7 : List (List Int)) (lists8 : List (List Int)) (lists9 : List (List Int)) (lists10 : List (List Int)) (most5 : Int) (k6 : Int) : Option (Int) := loopC (spec_MostBefore_s9 F sum0 i4 lists7 lists8 lists9 lists10) F (most5, k6) some
theorem spec_MostBefore_s9_nat (F : Nat) (sum0 : Int) (i4 : Int) (lists7 : List (List Int)) (lists8 : List (List Int)) (lists9 : List (List Int)) (lists10 : List (List Int)) : Natural (spec_MostBefore_s9 F sum0 i4 lists7 lists8 lists9 lists10) := by
  intro Q Q' s kn kx h
  obtain ⟨most5, k6⟩ := s
  simp only [spec_MostBefore_s9, cond_bindL, none_bindL]
/-- loop 5 of loop.example/g01194/spec.MostBefore -/
def spec_MostBefore_s5 (F : Nat) (lists5 : List (List Int)) (lists6 : List (List Int)) (lists7 : List (List Int)) (lists8 : List (List Int)) (Q : Type) : (Int × Int) → ((Int × Int) → Option Q) → ((Int) → Option Q) → Option Q
  | (sum0, i4), kn, kx =>
    let z_1 := (spec_MostBefore_l9 F sum0 i4 lists5 lists6 lists7 lists8 (0 : Int) (0 : Int))
    bif (decide (i4 < (4 : Int))) then
    bif (Option.isSome z_1) then
    kn ((IntKind.wrap .i64 (sum0 + (Option.getD z_1 default))), (IntKind.wrap .i64 (i4 + (1 : Int))))
    else none
    else kx sum0
def spec_MostBefore_l5 (F : Nat) (lists5 : List (List Int)) (lists6 : List (List Int)) (lists7 : List (List Int)) (lists8 : List (List Int)) (sum0 : Int) (i4 : Int) : Option (Int) := loopC (spec_MostBefore_s5 F lists5 lists6 lists7 lists8) F (sum0, i4) some
theorem spec_MostBefore_s5_nat (F : Nat) (lists5 : List (List Int)) (lists6 : List (List Int)) (lists7 : List (List Int)) (lists8 : List (List Int)) : Natural (spec_MostBefore_s5 F lists5 lists6 lists7 lists8) := by
  intro Q Q' s kn kx h
  obtain ⟨sum0, i4⟩ := s
  simp only [spec_MostBefore_s5, cond_bindL, none_bindL]
/-- loop.example/g01194/spec.MostBefore -/
def spec_MostBefore_c (Q : Type) (F : Nat) (b0 : List Int) (direction1 : Int) (k : (Int × Bool) → Option Q) : Option Q :=
    let z_1 := (spec_l2Board_p F b0)
    let z_2 := (spec_l6Count_p F b0 direction1)
    let z_3 := (spec_l6Lists_p F b0 direction1)
    let z_4 := (Option.getD z_3 default)
    let z_5 := (spec_MostBefore_l5 F z_4.1 z_4.2.1 z_4.2.2.1 z_4.2.2.2 (0 : Int) (0 : Int))
    bif (Option.isSome z_1) then
    bif (!(Option.getD z_1 default)) then
    k ((0 : Int), false)
    else bif (!(spec_l2Side_v direction1)) then
    k ((0 : Int), false)
    else bif (Option.isSome z_2) then
    bif ((Option.getD z_2 default) == (0 : Int)) then
    k ((0 : Int), false)
    else bif (Option.isSome z_3) then
    bif (Option.isSome z_5) then
    k ((Option.getD z_5 default), true)
    else none
    else none
    else none
    else none
def spec_MostBefore_p (F : Nat) (b0 : List Int) (direction1 : Int) : Option (Int × Bool) := spec_MostBefore_c _ F b0 direction1 some
theorem spec_MostBefore_cp (Q : Type) (F : Nat) (b0 : List Int) (direction1 : Int) (k : (Int × Bool) → Option Q) : spec_MostBefore_c Q F b0 direction1 k = (spec_MostBefore_p F b0 direction1).bind k := by
  simp only [spec_MostBefore_p, spec_MostBefore_c, cond_bindL, none_bindL, some_bindL]
end Go.Lv.P
