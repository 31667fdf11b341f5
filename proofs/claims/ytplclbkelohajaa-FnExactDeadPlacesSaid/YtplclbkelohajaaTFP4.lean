/-
Pure functions and what the code of them does, by program; without conditions.
-/
import Derived.Test.YtplclbkelohajaaTFP3
namespace Go.Lv.P
open Go Go.Lv
set_option linter.unusedVariables false
set_option linter.unusedSimpArgs false
set_option maxRecDepth 100000
/-- loop 7 of loop.example/g01194/spec.l5Steps -/
def spec_l5Steps_s7 (F : Nat) (d0 : Int) (empty7 : List (List Int)) (Q : Type) : (Int × List (List Int)) → ((Int × List (List Int)) → Option Q) → ((List (List Int)) → Option Q) → Option Q
  | (i5, out6), kn, kx =>
    let z_1 : Bool := (inR i5 (List.length empty7))
    let z_2 : List Int := (splice [d0, (0 : Int), (0 : Int), (0 : Int)] 1 (rget empty7 ((0 : Nat) + (Int.toNat i5))) 2)
    let z_3 : List (List Int) := ((subn (List.length out6) out6 0 (List.length out6)) ++ [(iset z_2 3 (1 : Int)), (iset z_2 3 (2 : Int))])
    bif (decide (i5 < (((List.length empty7) : Nat) : Int))) then
    bif z_1 then
    bif z_1 then
    bif (fits (List.length z_3) 32) then
    kn ((IntKind.wrap .i64 (i5 + (1 : Int))), z_3)
    else none
    else none
    else none
    else kx out6
def spec_l5Steps_l7 (F : Nat) (d0 : Int) (empty7 : List (List Int)) (i5 : Int) (out6 : List (List Int)) : Option (List (List Int)) := loopC (spec_l5Steps_s7 F d0 empty7) F (i5, out6) some
theorem spec_l5Steps_s7_nat (F : Nat) (d0 : Int) (empty7 : List (List Int)) : Natural (spec_l5Steps_s7 F d0 empty7) := by
  intro Q Q' s kn kx h
  obtain ⟨i5, out6⟩ := s
  simp only [spec_l5Steps_s7, cond_bindL, none_bindL]
/-- loop.example/g01194/spec.l5Steps -/
def spec_l5Steps_c (Q : Type) (F : Nat) (b0 : List Int) (d1 : Int) (k : (List (List Int)) → Option Q) : Option Q :=
    let z_1 := (spec_l2Slide_p F b0 d1)
    let z_2 := (spec_l2Empty_p F (Option.getD z_1 default).1)
    let z_3 : Nat := (List.length (Option.getD z_2 default))
    let z_4 := (spec_l5Steps_l7 F d1 (Option.getD z_2 default) (0 : Int) ([] : List (List Int)))
    bif (Option.isSome z_1) then
    bif ((Option.getD z_1 default).1 == b0) then
    k ([] : List (List Int))
    else bif (Option.isSome z_2) then
    bif ((Nat.beq z_3 z_3) && (Option.isSome z_4)) then
    k (Option.getD z_4 default)
    else none
    else none
    else none
def spec_l5Steps_p (F : Nat) (b0 : List Int) (d1 : Int) : Option (List (List Int)) := spec_l5Steps_c _ F b0 d1 some
theorem spec_l5Steps_cp (Q : Type) (F : Nat) (b0 : List Int) (d1 : Int) (k : (List (List Int)) → Option Q) : spec_l5Steps_c Q F b0 d1 k = (spec_l5Steps_p F b0 d1).bind k := by
  simp only [spec_l5Steps_p, spec_l5Steps_c, cond_bindL, none_bindL, some_bindL]

/-- loop.example/g01194/spec.StepsOf -/
def spec_StepsOf_c (Q : Type) (F : Nat) (b0 : List Int) (direction1 : Int) (k : (Bool × List (List Int)) → Option Q) : Option Q :=
    let z_1 := (spec_l2Board_p F b0)
    let z_2 := (spec_l5Steps_p F b0 direction1)
    bif (Option.isSome z_1) then
    bif (!(Option.getD z_1 default)) then
    k (false, ([] : List (List Int)))
    else bif (!(spec_l2Side_v direction1)) then
    k (false, ([] : List (List Int)))
    else bif (Option.isSome z_2) then
    k (true, (Option.getD z_2 default))
    else none
    else none
def spec_StepsOf_p (F : Nat) (b0 : List Int) (direction1 : Int) : Option (Bool × List (List Int)) := spec_StepsOf_c _ F b0 direction1 some
theorem spec_StepsOf_cp (Q : Type) (F : Nat) (b0 : List Int) (direction1 : Int) (k : (Bool × List (List Int)) → Option Q) : spec_StepsOf_c Q F b0 direction1 k = (spec_StepsOf_p F b0 direction1).bind k := by
  simp only [spec_StepsOf_p, spec_StepsOf_c, cond_bindL, none_bindL, some_bindL]

/-- loop.example/g01194/impl.StepsOf -/
def impl_StepsOf_c (Q : Type) (F : Nat) (b0 : List Int) (direction1 : Int) (k : (Bool × List (List Int)) → Option Q) : Option Q :=
    let z_1 := (impl_IsBoard_p F b0)
    let z_2 := (impl_Board_steps_p F b0 direction1)
    bif (Option.isSome z_1) then
    bif (!(Option.getD z_1 default)) then
    k (false, ([] : List (List Int)))
    else bif (!(impl_isDirection_v direction1)) then
    k (false, ([] : List (List Int)))
    else bif (Option.isSome z_2) then
    k (true, (Option.getD z_2 default))
    else none
    else none
def impl_StepsOf_p (F : Nat) (b0 : List Int) (direction1 : Int) : Option (Bool × List (List Int)) := impl_StepsOf_c _ F b0 direction1 some
theorem impl_StepsOf_cp (Q : Type) (F : Nat) (b0 : List Int) (direction1 : Int) (k : (Bool × List (List Int)) → Option Q) : impl_StepsOf_c Q F b0 direction1 k = (impl_StepsOf_p F b0 direction1).bind k := by
  simp only [impl_StepsOf_p, impl_StepsOf_c, cond_bindL, none_bindL, some_bindL]

/-- loop 2 of loop.example/g01194/laws.eqIntA2 -/
def laws_eqIntA2_s2 (F : Nat) (a7 : List Int) (b8 : List Int) (Q : Type) : (Int) → ((Int) → Option Q) → ((Bool) → Option Q) → Option Q
  | i6, kn, kx =>
    let z_1 : Nat := ((0 : Nat) + ((Int.toNat i6) * (1 : Nat)))
    bif (decide (i6 < (2 : Int))) then
    bif (inR i6 2) then
    bif (inR i6 2) then
    bif (!((iget a7 z_1) == (iget b8 z_1))) then
    kx true
    else kn (IntKind.wrap .i64 (i6 + (1 : Int)))
    else none
    else none
    else kx false
def laws_eqIntA2_l2 (F : Nat) (a7 : List Int) (b8 : List Int) (i6 : Int) : Option (Bool) := loopC (laws_eqIntA2_s2 F a7 b8) F i6 some
theorem laws_eqIntA2_s2_nat (F : Nat) (a7 : List Int) (b8 : List Int) : Natural (laws_eqIntA2_s2 F a7 b8) := by
  intro Q Q' s kn kx h
  simp only [laws_eqIntA2_s2, cond_bindL, none_bindL]
/-- loop.example/g01194/laws.eqIntA2 -/
def laws_eqIntA2_c (Q : Type) (F : Nat) (a0 : List Int) (b1 : List Int) (k : (Bool) → Option Q) : Option Q :=
    let z_1 := (laws_eqIntA2_l2 F a0 b1 (0 : Int))
    bif (Option.isSome z_1) then
    bif (Option.getD z_1 default) then
    k false
    else k true
    else none
def laws_eqIntA2_p (F : Nat) (a0 : List Int) (b1 : List Int) : Option (Bool) := laws_eqIntA2_c _ F a0 b1 some
theorem laws_eqIntA2_cp (Q : Type) (F : Nat) (a0 : List Int) (b1 : List Int) (k : (Bool) → Option Q) : laws_eqIntA2_c Q F a0 b1 k = (laws_eqIntA2_p F a0 b1).bind k := by
  simp only [laws_eqIntA2_p, laws_eqIntA2_c, cond_bindL, none_bindL, some_bindL]

/-- loop.example/g01194/laws.eqStep -/
def laws_eqStep_c (Q : Type) (F : Nat) (a0 : List Int) (b1 : List Int) (k : (Bool) → Option Q) : Option Q :=
    let z_1 := (laws_eqIntA2_p F (sub a0 1 2) (sub b1 1 2))
    bif (!((iget a0 0) == (iget b1 0))) then
    k false
    else bif (Option.isSome z_1) then
    bif (!(Option.getD z_1 default)) then
    k false
    else bif (!((iget a0 3) == (iget b1 3))) then
    k false
    else k true
    else none
def laws_eqStep_p (F : Nat) (a0 : List Int) (b1 : List Int) : Option (Bool) := laws_eqStep_c _ F a0 b1 some
theorem laws_eqStep_cp (Q : Type) (F : Nat) (a0 : List Int) (b1 : List Int) (k : (Bool) → Option Q) : laws_eqStep_c Q F a0 b1 k = (laws_eqStep_p F a0 b1).bind k := by
  simp only [laws_eqStep_p, laws_eqStep_c, cond_bindL, none_bindL, some_bindL]

/-- loop 4 of loop.example/g01194/laws.eqStepS -/
def laws_eqStepS_s4 (F : Nat) (a0 : List (List Int)) (b1 : List (List Int)) (Q : Type) : (Int) → ((Int) → Option Q) → ((Bool) → Option Q) → Option Q
  | i2, kn, kx =>
    let z_1 := (laws_eqStep_p F (rget a0 (Int.toNat i2)) (rget b1 (Int.toNat i2)))
    bif (decide (i2 < (((List.length a0) : Nat) : Int))) then
    bif (inR i2 (List.length a0)) then
    bif (inR i2 (List.length b1)) then
    bif (Option.isSome z_1) then
    bif (!(Option.getD z_1 default)) then
    kx true
    else kn (IntKind.wrap .i64 (i2 + (1 : Int)))
    else none
    else none
    else none
    else kx false
def laws_eqStepS_l4 (F : Nat) (a0 : List (List Int)) (b1 : List (List Int)) (i2 : Int) : Option (Bool) := loopC (laws_eqStepS_s4 F a0 b1) F i2 some
theorem laws_eqStepS_s4_nat (F : Nat) (a0 : List (List Int)) (b1 : List (List Int)) : Natural (laws_eqStepS_s4 F a0 b1) := by
  intro Q Q' s kn kx h
  simp only [laws_eqStepS_s4, cond_bindL, none_bindL]
/-- loop.example/g01194/laws.eqStepS -/
def laws_eqStepS_c (Q : Type) (F : Nat) (a0 : List (List Int)) (b1 : List (List Int)) (k : (Bool) → Option Q) : Option Q :=
    let z_1 := (laws_eqStepS_l4 F a0 b1 (0 : Int))
    bif (!((((List.length a0) : Nat) : Int) == (((List.length b1) : Nat) : Int))) then
    k false
    else bif (Option.isSome z_1) then
    bif (Option.getD z_1 default) then
    k false
    else k true
    else none
def laws_eqStepS_p (F : Nat) (a0 : List (List Int)) (b1 : List (List Int)) : Option (Bool) := laws_eqStepS_c _ F a0 b1 some
theorem laws_eqStepS_cp (Q : Type) (F : Nat) (a0 : List (List Int)) (b1 : List (List Int)) (k : (Bool) → Option Q) : laws_eqStepS_c Q F a0 b1 k = (laws_eqStepS_p F a0 b1).bind k := by
  simp only [laws_eqStepS_p, laws_eqStepS_c, cond_bindL, none_bindL, some_bindL]

/-- loop 7 of loop.example/g01194/laws.markStepS -/
def laws_markStepS_s7 (F : Nat) (a1 : Nat) (i3 : Int) (Q : Type) : (Int × Int × List (List Int)) → ((Int × Int × List (List Int)) → Option Q) → ((Int × List (List Int)) → Option Q) → Option Q
  | (k2, j4, a5), kn, kx =>
    bif (decide (j4 < (2 : Int))) then
    bif (inR i3 a1) then
    bif (inR j4 2) then
    kn ((IntKind.wrap .i64 (k2 + (1 : Int))), (IntKind.wrap .i64 (j4 + (1 : Int))), (rset a5 ((0 : Nat) + (Int.toNat i3)) (iset (rget a5 ((0 : Nat) + (Int.toNat i3))) ((1 : Nat) + ((Int.toNat j4) * (1 : Nat))) k2)))
    else none
    else none
    else kx (k2, a5)
def laws_markStepS_l7 (F : Nat) (a1 : Nat) (i3 : Int) (k2 : Int) (j4 : Int) (a5 : List (List Int)) : Option (Int × List (List Int)) := loopC (laws_markStepS_s7 F a1 i3) F (k2, j4, a5) some
theorem laws_markStepS_s7_nat (F : Nat) (a1 : Nat) (i3 : Int) : Natural (laws_markStepS_s7 F a1 i3) := by
  intro Q Q' s kn kx h
  obtain ⟨k2, j4, a5⟩ := s
  simp only [laws_markStepS_s7, cond_bindL, none_bindL]
/-- loop 2 of loop.example/g01194/laws.markStepS -/
def laws_markStepS_s2 (F : Nat) (a1 : Nat) (Q : Type) : (Int × Int × List (List Int)) → ((Int × Int × List (List Int)) → Option Q) → ((Int × List (List Int)) → Option Q) → Option Q
  | (k2, i3, a4), kn, kx =>
    let z_1 := (laws_markStepS_l7 F a1 i3 (IntKind.wrap .i64 (k2 + (1 : Int))) (0 : Int) (rset a4 ((0 : Nat) + (Int.toNat i3)) (iset (rget a4 ((0 : Nat) + (Int.toNat i3))) 0 k2)))
    let z_2 := (Option.getD z_1 default)
    bif (decide (i3 < ((a1 : Nat) : Int))) then
    bif (inR i3 a1) then
    bif (Option.isSome z_1) then
    bif (inR i3 a1) then
    kn ((IntKind.wrap .i64 (z_2.1 + (1 : Int))), (IntKind.wrap .i64 (i3 + (1 : Int))), (rset z_2.2 ((0 : Nat) + (Int.toNat i3)) (iset (rget z_2.2 ((0 : Nat) + (Int.toNat i3))) 3 z_2.1)))
    else none
    else none
    else none
    else kx (k2, a4)
def laws_markStepS_l2 (F : Nat) (a1 : Nat) (k2 : Int) (i3 : Int) (a4 : List (List Int)) : Option (Int × List (List Int)) := loopC (laws_markStepS_s2 F a1) F (k2, i3, a4) some
theorem laws_markStepS_s2_nat (F : Nat) (a1 : Nat) : Natural (laws_markStepS_s2 F a1) := by
  intro Q Q' s kn kx h
  obtain ⟨k2, i3, a4⟩ := s
  simp only [laws_markStepS_s2, cond_bindL, none_bindL]
/-- loop.example/g01194/laws.markStepS -/
def laws_markStepS_c (Q : Type) (F : Nat) (a1 : Nat) (k2 : Int) (a3 : List (List Int)) (k : (Int × List (List Int)) → Option Q) : Option Q :=
    let z_1 := (laws_markStepS_l2 F a1 k2 (0 : Int) a3)
    let z_2 := (Option.getD z_1 default)
    bif (Option.isSome z_1) then
    k (z_2.1, z_2.2)
    else none
def laws_markStepS_p (F : Nat) (a1 : Nat) (k2 : Int) (a3 : List (List Int)) : Option (Int × List (List Int)) := laws_markStepS_c _ F a1 k2 a3 some
theorem laws_markStepS_cp (Q : Type) (F : Nat) (a1 : Nat) (k2 : Int) (a3 : List (List Int)) (k : (Int × List (List Int)) → Option Q) : laws_markStepS_c Q F a1 k2 a3 k = (laws_markStepS_p F a1 k2 a3).bind k := by
  simp only [laws_markStepS_p, laws_markStepS_c, cond_bindL, none_bindL, some_bindL]

/-- loop 8 of loop.example/g01194/laws.heldStepS -/
def laws_heldStepS_s8 (F : Nat) (a0 : List (List Int)) (i2 : Int) (Q : Type) : (Int × Int) → ((Int × Int) → Option Q) → ((Bool × Int) → Option Q) → Option Q
  | (k1, j3), kn, kx =>
    bif (decide (j3 < (2 : Int))) then
    bif (inR i2 (List.length a0)) then
    bif (inR j3 2) then
    bif (!((iget (rget a0 (Int.toNat i2)) ((1 : Nat) + ((Int.toNat j3) * (1 : Nat)))) == k1)) then
    kx (true, default)
    else kn ((IntKind.wrap .i64 (k1 + (1 : Int))), (IntKind.wrap .i64 (j3 + (1 : Int))))
    else none
    else none
    else kx (false, k1)
def laws_heldStepS_l8 (F : Nat) (a0 : List (List Int)) (i2 : Int) (k1 : Int) (j3 : Int) : Option (Bool × Int) := loopC (laws_heldStepS_s8 F a0 i2) F (k1, j3) some
theorem laws_heldStepS_s8_nat (F : Nat) (a0 : List (List Int)) (i2 : Int) : Natural (laws_heldStepS_s8 F a0 i2) := by
  intro Q Q' s kn kx h
  obtain ⟨k1, j3⟩ := s
  simp only [laws_heldStepS_s8, cond_bindL, none_bindL]
/-- loop 2 of loop.example/g01194/laws.heldStepS -/
def laws_heldStepS_s2 (F : Nat) (a0 : List (List Int)) (Q : Type) : (Int × Int) → ((Int × Int) → Option Q) → ((Bool × Int) → Option Q) → Option Q
  | (k1, i2), kn, kx =>
    let z_1 : Bool := (inR i2 (List.length a0))
    let z_2 : List Int := (rget a0 (Int.toNat i2))
    let z_3 := (laws_heldStepS_l8 F a0 i2 (IntKind.wrap .i64 (k1 + (1 : Int))) (0 : Int))
    let z_4 := (Option.getD z_3 default)
    bif (decide (i2 < (((List.length a0) : Nat) : Int))) then
    bif z_1 then
    bif (!((iget z_2 0) == k1)) then
    kx (true, default)
    else bif (Option.isSome z_3) then
    bif z_4.1 then
    kx (true, default)
    else bif z_1 then
    bif (!((iget z_2 3) == z_4.2)) then
    kx (true, default)
    else kn ((IntKind.wrap .i64 (z_4.2 + (1 : Int))), (IntKind.wrap .i64 (i2 + (1 : Int))))
    else none
    else none
    else none
    else kx (false, k1)
def laws_heldStepS_l2 (F : Nat) (a0 : List (List Int)) (k1 : Int) (i2 : Int) : Option (Bool × Int) := loopC (laws_heldStepS_s2 F a0) F (k1, i2) some
theorem laws_heldStepS_s2_nat (F : Nat) (a0 : List (List Int)) : Natural (laws_heldStepS_s2 F a0) := by
  intro Q Q' s kn kx h
  obtain ⟨k1, i2⟩ := s
  simp only [laws_heldStepS_s2, cond_bindL, none_bindL]
/-- loop.example/g01194/laws.heldStepS -/
def laws_heldStepS_c (Q : Type) (F : Nat) (a0 : List (List Int)) (k1 : Int) (k : (Int) → Option Q) : Option Q :=
    let z_1 := (laws_heldStepS_l2 F a0 k1 (0 : Int))
    let z_2 := (Option.getD z_1 default)
    bif (Option.isSome z_1) then
    bif z_2.1 then
    k (-1 : Int)
    else k z_2.2
    else none
def laws_heldStepS_p (F : Nat) (a0 : List (List Int)) (k1 : Int) : Option (Int) := laws_heldStepS_c _ F a0 k1 some
theorem laws_heldStepS_cp (Q : Type) (F : Nat) (a0 : List (List Int)) (k1 : Int) (k : (Int) → Option Q) : laws_heldStepS_c Q F a0 k1 k = (laws_heldStepS_p F a0 k1).bind k := by
  simp only [laws_heldStepS_p, laws_heldStepS_c, cond_bindL, none_bindL, some_bindL]

/-- loop.example/g01194/laws.FnExactStepsOf -/
def laws_FnExactStepsOf_c (Q : Type) (F : Nat) (aB0 : List Int) (aDirection1 : Int) (k : (Bool) → Option Q) : Option Q :=
    let z_1 := (spec_StepsOf_p F (laws_toBoard_v aB0) aDirection1)
    let z_2 := (impl_StepsOf_p F (laws_toBoard_v aB0) aDirection1)
    let z_3 : Bool := (Option.isSome z_2)
    let z_4 := (Option.getD z_2 default)
    let z_5 : Nat := (List.length z_4.2)
    let z_6 := (Option.getD z_1 default)
    let z_7 : Nat := (List.length z_6.2)
    let z_8 := (laws_eqStepS_p F (subn z_5 z_4.2 0 z_5) (subn z_7 z_6.2 0 z_7))
    let z_9 : Bool := (Option.isSome z_8)
    let z_10 : Bool := (!(Option.getD z_8 default))
    let z_11 : Bool := (!(z_4.1 == z_6.1))
    let z_12 := (laws_markStepS_p F z_5 (1 : Int) z_4.2)
    let z_13 := (Option.getD z_12 default)
    let z_14 := (laws_heldStepS_p F (subn (List.length z_13.2) z_13.2 0 z_5) (1 : Int))
    let z_15 : Bool := (Option.isSome z_14)
    let z_16 : Bool := (decide ((Option.getD z_14 default) < (0 : Int)))
    let z_17 : Bool := (!((Option.getD z_14 default) == z_13.1))
    bif (Option.isSome z_1) then
    bif z_3 then
    bif z_9 then
    bif z_10 then
    k false
    else bif z_11 then
    k false
    else bif (Option.isSome z_12) then
    bif z_15 then
    bif z_16 then
    k false
    else bif z_17 then
    k false
    else bif z_3 then
    bif z_9 then
    bif z_10 then
    k false
    else bif z_11 then
    k false
    else bif z_15 then
    bif z_16 then
    k false
    else bif z_17 then
    k false
    else k true
    else none
    else none
    else none
    else none
    else none
    else none
    else none
    else none
def laws_FnExactStepsOf_p (F : Nat) (aB0 : List Int) (aDirection1 : Int) : Option (Bool) := laws_FnExactStepsOf_c _ F aB0 aDirection1 some
theorem laws_FnExactStepsOf_cp (Q : Type) (F : Nat) (aB0 : List Int) (aDirection1 : Int) (k : (Bool) → Option Q) : laws_FnExactStepsOf_c Q F aB0 aDirection1 k = (laws_FnExactStepsOf_p F aB0 aDirection1).bind k := by
  simp only [laws_FnExactStepsOf_p, laws_FnExactStepsOf_c, cond_bindL, none_bindL, some_bindL]

/-- loop 6 of loop.example/g01194/spec.DeadPlaces -/
def spec_DeadPlaces_s6 (F : Nat) (b8 : List Int) (all10 : List (List Int)) (Q : Type) : (Int × List (List Int)) → ((Int × List (List Int)) → Option Q) → ((List (List Int)) → Option Q) → Option Q
  | (i7, out9), kn, kx =>
    let z_1 : Bool := (inR i7 (List.length all10))
    let z_2 : List Int := (rget all10 ((0 : Nat) + (Int.toNat i7)))
    let z_3 := (spec_l8Put_p b8 z_2)
    let z_4 := (spec_l2Moves_p F (Option.getD z_3 default))
    let z_5 : List (List Int) := ((subn (List.length out9) out9 0 (List.length out9)) ++ [z_2])
    let z_6 : Int := (IntKind.wrap .i64 (i7 + (1 : Int)))
    bif (decide (i7 < (((List.length all10) : Nat) : Int))) then
    bif z_1 then
    bif (Option.isSome z_3) then
    bif (Option.isSome z_4) then
    bif ((((List.length (Option.getD z_4 default)) : Nat) : Int) == (0 : Int)) then
    bif z_1 then
    bif (fits (List.length z_5) 24) then
    kn (z_6, z_5)
    else none
    else none
    else kn (z_6, out9)
    else none
    else none
    else none
    else kx out9
def spec_DeadPlaces_l6 (F : Nat) (b8 : List Int) (all10 : List (List Int)) (i7 : Int) (out9 : List (List Int)) : Option (List (List Int)) := loopC (spec_DeadPlaces_s6 F b8 all10) F (i7, out9) some
theorem spec_DeadPlaces_s6_nat (F : Nat) (b8 : List Int) (all10 : List (List Int)) : Natural (spec_DeadPlaces_s6 F b8 all10) := by
  intro Q Q' s kn kx h
  obtain ⟨i7, out9⟩ := s
  simp only [spec_DeadPlaces_s6, cond_bindL, none_bindL]
/-- loop.example/g01194/spec.DeadPlaces -/
def spec_DeadPlaces_c (Q : Type) (F : Nat) (b0 : List Int) (k : (Bool × List (List Int)) → Option Q) : Option Q :=
    let z_1 := (spec_l2Board_p F b0)
    let z_2 := (spec_l8Places_p F b0)
    let z_3 : Nat := (List.length (Option.getD z_2 default))
    let z_4 := (spec_DeadPlaces_l6 F b0 (Option.getD z_2 default) (0 : Int) ([] : List (List Int)))
    bif (Option.isSome z_1) then
    bif (!(Option.getD z_1 default)) then
    k (false, ([] : List (List Int)))
    else bif (Option.isSome z_2) then
    bif ((Nat.beq z_3 z_3) && (Option.isSome z_4)) then
    k (true, (Option.getD z_4 default))
    else none
    else none
    else none
def spec_DeadPlaces_p (F : Nat) (b0 : List Int) : Option (Bool × List (List Int)) := spec_DeadPlaces_c _ F b0 some
theorem spec_DeadPlaces_cp (Q : Type) (F : Nat) (b0 : List Int) (k : (Bool × List (List Int)) → Option Q) : spec_DeadPlaces_c Q F b0 k = (spec_DeadPlaces_p F b0).bind k := by
  simp only [spec_DeadPlaces_p, spec_DeadPlaces_c, cond_bindL, none_bindL, some_bindL]

/-- (loop.example/g01194/impl.Board).isOver -/
def impl_Board_isOver_c (Q : Type) (F : Nat) (b0 : List Int) (k : (Bool) → Option Q) : Option Q :=
    let z_1 := (impl_Board_moves_p F b0)
    bif (Option.isSome z_1) then
    k ((((List.length (Option.getD z_1 default)) : Nat) : Int) == (0 : Int))
    else none
def impl_Board_isOver_p (F : Nat) (b0 : List Int) : Option (Bool) := impl_Board_isOver_c _ F b0 some
theorem impl_Board_isOver_cp (Q : Type) (F : Nat) (b0 : List Int) (k : (Bool) → Option Q) : impl_Board_isOver_c Q F b0 k = (impl_Board_isOver_p F b0).bind k := by
  simp only [impl_Board_isOver_p, impl_Board_isOver_c, cond_bindL, none_bindL, some_bindL]

/-- loop.example/g01194/impl.DeadPlaces$1 -/
def impl_DeadPlaces_f1_c (Q : Type) (F : Nat) (p0 : List Int) (a14 : List Int) (k : (Bool) → Option Q) : Option Q :=
    let z_1 := (impl_Board_placed_p a14 p0)
    let z_2 := (impl_Board_isOver_p F (Option.getD z_1 default))
    bif (Option.isSome z_1) then
    bif (Option.isSome z_2) then
    k (!(Option.getD z_2 default))
    else none
    else none
def impl_DeadPlaces_f1_p (F : Nat) (p0 : List Int) (a14 : List Int) : Option (Bool) := impl_DeadPlaces_f1_c _ F p0 a14 some
theorem impl_DeadPlaces_f1_cp (Q : Type) (F : Nat) (p0 : List Int) (a14 : List Int) (k : (Bool) → Option Q) : impl_DeadPlaces_f1_c Q F p0 a14 k = (impl_DeadPlaces_f1_p F p0 a14).bind k := by
  simp only [impl_DeadPlaces_f1_p, impl_DeadPlaces_f1_c, cond_bindL, none_bindL, some_bindL]

/-- loop 2 of slices.IndexFunc[[][3]int,[3]int] -/
def slices_IndexFunc_3int3int_impl_DeadPlaces_f1_s2 (F : Nat) (s0 : List (List Int)) (t74 : Int) (f6 : List Int) (Q : Type) : (Int) → ((Int) → Option Q) → ((Bool × Int) → Option Q) → Option Q
  | t85, kn, kx =>
    let z_1 := (impl_DeadPlaces_f1_p F (rget s0 (Int.toNat t85)) f6)
    bif (decide (t85 < t74)) then
    bif (inR t85 (List.length s0)) then
    bif (Option.isSome z_1) then
    bif (Option.getD z_1 default) then
    kx (true, t85)
    else kn (IntKind.wrap .i64 (t85 + (1 : Int)))
    else none
    else none
    else kx (false, default)
def slices_IndexFunc_3int3int_impl_DeadPlaces_f1_l2 (F : Nat) (s0 : List (List Int)) (t74 : Int) (f6 : List Int) (t85 : Int) : Option (Bool × Int) := loopC (slices_IndexFunc_3int3int_impl_DeadPlaces_f1_s2 F s0 t74 f6) F t85 some
theorem slices_IndexFunc_3int3int_impl_DeadPlaces_f1_s2_nat (F : Nat) (s0 : List (List Int)) (t74 : Int) (f6 : List Int) : Natural (slices_IndexFunc_3int3int_impl_DeadPlaces_f1_s2 F s0 t74 f6) := by
  intro Q Q' s kn kx h
  simp only [slices_IndexFunc_3int3int_impl_DeadPlaces_f1_s2, cond_bindL, none_bindL]
/-- slices.IndexFunc[[][3]int,[3]int] -/
def slices_IndexFunc_3int3int_impl_DeadPlaces_f1_c (Q : Type) (F : Nat) (s0 : List (List Int)) (f4 : List Int) (k : (Int) → Option Q) : Option Q :=
    let z_1 := (slices_IndexFunc_3int3int_impl_DeadPlaces_f1_l2 F s0 (((List.length s0) : Nat) : Int) f4 (0 : Int))
    let z_2 := (Option.getD z_1 default)
    bif (Option.isSome z_1) then
    bif z_2.1 then
    k z_2.2
    else k (-1 : Int)
    else none
def slices_IndexFunc_3int3int_impl_DeadPlaces_f1_p (F : Nat) (s0 : List (List Int)) (f4 : List Int) : Option (Int) := slices_IndexFunc_3int3int_impl_DeadPlaces_f1_c _ F s0 f4 some
theorem slices_IndexFunc_3int3int_impl_DeadPlaces_f1_cp (Q : Type) (F : Nat) (s0 : List (List Int)) (f4 : List Int) (k : (Int) → Option Q) : slices_IndexFunc_3int3int_impl_DeadPlaces_f1_c Q F s0 f4 k = (slices_IndexFunc_3int3int_impl_DeadPlaces_f1_p F s0 f4).bind k := by
  simp only [slices_IndexFunc_3int3int_impl_DeadPlaces_f1_p, slices_IndexFunc_3int3int_impl_DeadPlaces_f1_c, cond_bindL, none_bindL, some_bindL]
end Go.Lv.P
