/-
Pure functions and what the code of them does, by program; without conditions.
-/
import Derived.Test.YtgdokdkcbgkekaeGeP3
namespace Go.Lv.P
open Go Go.Lv
set_option linter.unusedVariables false
set_option linter.unusedSimpArgs false
set_option maxRecDepth 100000
/-- loop 6 of loop.example/g01194/spec.l2Empty -/
def spec_l2Empty_s6 (F : Nat) (r5 : Int) (b7 : List Int) (Q : Type) : (Int × List (List Int)) → ((Int × List (List Int)) → Option Q) → ((List (List Int)) → Option Q) → Option Q
  | (c6, out8), kn, kx =>
    let z_1 : List (List Int) := ((subn (List.length out8) out8 0 (List.length out8)) ++ [[r5, c6]])
    let z_2 : Int := (IntKind.wrap .i64 (c6 + (1 : Int)))
    bif (decide (c6 < (4 : Int))) then
    bif (inR r5 4) then
    bif (inR c6 4) then
    bif ((iget b7 (((0 : Nat) + ((Int.toNat r5) * (4 : Nat))) + ((Int.toNat c6) * (1 : Nat)))) == (0 : Int)) then
    bif (fits (List.length z_1) 16) then
    kn (z_2, z_1)
    else none
    else kn (z_2, out8)
    else none
    else none
    else kx out8
def spec_l2Empty_l6 (F : Nat) (r5 : Int) (b7 : List Int) (c6 : Int) (out8 : List (List Int)) : Option (List (List Int)) := loopC (spec_l2Empty_s6 F r5 b7) F (c6, out8) some
theorem spec_l2Empty_s6_nat (F : Nat) (r5 : Int) (b7 : List Int) : Natural (spec_l2Empty_s6 F r5 b7) := by
  intro Q Q' s kn kx h
  obtain ⟨c6, out8⟩ := s
  simp only [spec_l2Empty_s6, cond_bindL, none_bindL]
/-- loop 3 of loop.example/g01194/spec.l2Empty -/
def spec_l2Empty_s3 (F : Nat) (b6 : List Int) (Q : Type) : (Int × List (List Int)) → ((Int × List (List Int)) → Option Q) → ((List (List Int)) → Option Q) → Option Q
  | (r5, out7), kn, kx =>
    let z_1 := (spec_l2Empty_l6 F r5 b6 (0 : Int) out7)
    bif (decide (r5 < (4 : Int))) then
    bif ((Nat.beq (List.length out7) (List.length out7)) && (Option.isSome z_1)) then
    kn ((IntKind.wrap .i64 (r5 + (1 : Int))), (Option.getD z_1 default))
    else none
    else kx out7
def spec_l2Empty_l3 (F : Nat) (b6 : List Int) (r5 : Int) (out7 : List (List Int)) : Option (List (List Int)) := loopC (spec_l2Empty_s3 F b6) F (r5, out7) some
theorem spec_l2Empty_s3_nat (F : Nat) (b6 : List Int) : Natural (spec_l2Empty_s3 F b6) := by
  intro Q Q' s kn kx h
  obtain ⟨r5, out7⟩ := s
  simp only [spec_l2Empty_s3, cond_bindL, none_bindL]
/-- loop.example/g01194/spec.l2Empty -/
def spec_l2Empty_c (Q : Type) (F : Nat) (b0 : List Int) (k : (List (List Int)) → Option Q) : Option Q :=
    let z_1 := (spec_l2Empty_l3 F b0 (0 : Int) ([] : List (List Int)))
    bif (Option.isSome z_1) then
    k (Option.getD z_1 default)
    else none
def spec_l2Empty_p (F : Nat) (b0 : List Int) : Option (List (List Int)) := spec_l2Empty_c _ F b0 some
theorem spec_l2Empty_cp (Q : Type) (F : Nat) (b0 : List Int) (k : (List (List Int)) → Option Q) : spec_l2Empty_c Q F b0 k = (spec_l2Empty_p F b0).bind k := by
  simp only [spec_l2Empty_p, spec_l2Empty_c, cond_bindL, none_bindL, some_bindL]

/-- loop 3 of loop.example/g01194/spec.l8Places -/
def spec_l8Places_s3 (F : Nat) (empty6 : List (List Int)) (Q : Type) : (Int × List (List Int)) → ((Int × List (List Int)) → Option Q) → ((List (List Int)) → Option Q) → Option Q
  | (i4, out5), kn, kx =>
    let z_1 : Bool := (inR i4 (List.length empty6))
    let z_2 : List Int := (rget empty6 ((0 : Nat) + (Int.toNat i4)))
    let z_3 : Int := (iget z_2 0)
    let z_4 : Int := (iget z_2 1)
    let z_5 : List (List Int) := ((subn (List.length out5) out5 0 (List.length out5)) ++ [[z_3, z_4, (1 : Int)], [z_3, z_4, (2 : Int)]])
    bif (decide (i4 < (((List.length empty6) : Nat) : Int))) then
    bif z_1 then
    bif z_1 then
    bif z_1 then
    bif z_1 then
    bif (fits (List.length z_5) 24) then
    kn ((IntKind.wrap .i64 (i4 + (1 : Int))), z_5)
    else none
    else none
    else none
    else none
    else none
    else kx out5
def spec_l8Places_l3 (F : Nat) (empty6 : List (List Int)) (i4 : Int) (out5 : List (List Int)) : Option (List (List Int)) := loopC (spec_l8Places_s3 F empty6) F (i4, out5) some
theorem spec_l8Places_s3_nat (F : Nat) (empty6 : List (List Int)) : Natural (spec_l8Places_s3 F empty6) := by
  intro Q Q' s kn kx h
  obtain ⟨i4, out5⟩ := s
  simp only [spec_l8Places_s3, cond_bindL, none_bindL]
/-- loop.example/g01194/spec.l8Places -/
def spec_l8Places_c (Q : Type) (F : Nat) (b0 : List Int) (k : (List (List Int)) → Option Q) : Option Q :=
    let z_1 := (spec_l2Empty_p F b0)
    let z_2 : Nat := (List.length (Option.getD z_1 default))
    let z_3 := (spec_l8Places_l3 F (Option.getD z_1 default) (0 : Int) ([] : List (List Int)))
    bif (Option.isSome z_1) then
    bif ((Nat.beq z_2 z_2) && (Option.isSome z_3)) then
    k (Option.getD z_3 default)
    else none
    else none
def spec_l8Places_p (F : Nat) (b0 : List Int) : Option (List (List Int)) := spec_l8Places_c _ F b0 some
theorem spec_l8Places_cp (Q : Type) (F : Nat) (b0 : List Int) (k : (List (List Int)) → Option Q) : spec_l8Places_c Q F b0 k = (spec_l8Places_p F b0).bind k := by
  simp only [spec_l8Places_p, spec_l8Places_c, cond_bindL, none_bindL, some_bindL]

/-- loop.example/g01194/spec.l8Put -/
def spec_l8Put_c (Q : Type) (b0 : List Int) (p1 : List Int) (k : (List Int) → Option Q) : Option Q :=
    let z_1 := (spec_l2Put_p b0 [(iget p1 0), (iget p1 1)] (iget p1 2))
    bif (Option.isSome z_1) then
    k (Option.getD z_1 default)
    else none
def spec_l8Put_p (b0 : List Int) (p1 : List Int) : Option (List Int) := spec_l8Put_c _ b0 p1 some
theorem spec_l8Put_cp (Q : Type) (b0 : List Int) (p1 : List Int) (k : (List Int) → Option Q) : spec_l8Put_c Q b0 p1 k = (spec_l8Put_p b0 p1).bind k := by
  simp only [spec_l8Put_p, spec_l8Put_c, cond_bindL, none_bindL, some_bindL]

/-- loop 4 of loop.example/g01194/spec.l8Least -/
def spec_l8Least_n0_s4 (F : Nat) (next14 : List Int) (all16 : List (List Int)) (Q : Type) : (Int × List Int) → ((Int × List Int) → Option Q) → ((List Int) → Option Q) → Option Q
  | (i13, first17), kn, kx =>
    let z_1 : Bool := (inR i13 (List.length all16))
    let z_2 : List Int := (rget all16 ((0 : Nat) + (Int.toNat i13)))
    let z_3 : Int := (IntKind.wrap .i64 (i13 + (1 : Int)))
    bif (decide (i13 < (((List.length all16) : Nat) : Int))) then
    bif z_1 then
    bif (Option.isSome (spec_l8Put_p next14 z_2)) then
    bif (i13 == (0 : Int)) then
    bif z_1 then
    kn (z_3, z_2)
    else none
    else kn (z_3, first17)
    else none
    else none
    else kx first17
def spec_l8Least_n0_l4 (F : Nat) (next14 : List Int) (all16 : List (List Int)) (i13 : Int) (first17 : List Int) : Option (List Int) := loopC (spec_l8Least_n0_s4 F next14 all16) F (i13, first17) some
theorem spec_l8Least_n0_s4_nat (F : Nat) (next14 : List Int) (all16 : List (List Int)) : Natural (spec_l8Least_n0_s4 F next14 all16) := by
  intro Q Q' s kn kx h
  obtain ⟨i13, first17⟩ := s
  simp only [spec_l8Least_n0_s4, cond_bindL, none_bindL]
/-- loop.example/g01194/spec.l8Least -/
def spec_l8Least_n0_c (Q : Type) (F : Nat) (next0 : List Int) (k : (List Int) → Option Q) : Option Q :=
    let z_1 := (spec_l8Places_p F next0)
    let z_2 : Nat := (List.length (Option.getD z_1 default))
    let z_3 := (spec_l8Least_n0_l4 F next0 (Option.getD z_1 default) (0 : Int) (rget (Option.getD z_1 default) 0))
    bif (Option.isSome z_1) then
    bif (inR (0 : Int) z_2) then
    bif ((Nat.beq z_2 z_2) && (Option.isSome z_3)) then
    k (Option.getD z_3 default)
    else none
    else none
    else none
def spec_l8Least_n0_p (F : Nat) (next0 : List Int) : Option (List Int) := spec_l8Least_n0_c _ F next0 some
theorem spec_l8Least_n0_cp (Q : Type) (F : Nat) (next0 : List Int) (k : (List Int) → Option Q) : spec_l8Least_n0_c Q F next0 k = (spec_l8Least_n0_p F next0).bind k := by
  simp only [spec_l8Least_n0_p, spec_l8Least_n0_c, cond_bindL, none_bindL, some_bindL]

/-- loop 3 of loop.example/g01194/spec.l8Sure -/
def spec_l8Sure_n1_s3 (F : Nat) (b7 : List Int) (Q : Type) : (Int × Int × Int) → ((Int × Int × Int) → Option Q) → ((Int × Int) → Option Q) → Option Q
  | (best4, first5, d6), kn, kx =>
    let z_1 := (spec_l2Slide_p F b7 d6)
    let z_2 := (Option.getD z_1 default)
    let z_3 : Int := (IntKind.wrap .i64 (d6 + (1 : Int)))
    let z_4 : Int := (IntKind.wrap .i64 (z_2.2 + (0 : Int)))
    bif (decide (d6 < (4 : Int))) then
    bif (Option.isSome z_1) then
    bif (z_2.1 == b7) then
    kn (best4, first5, z_3)
    else bif (Option.isSome (spec_l8Least_n0_p F z_2.1)) then
    bif (decide (first5 < (0 : Int))) then
    kn (z_4, d6, z_3)
    else bif (decide (best4 < z_4)) then
    kn (z_4, d6, z_3)
    else kn (best4, first5, z_3)
    else none
    else none
    else kx (best4, first5)
def spec_l8Sure_n1_l3 (F : Nat) (b7 : List Int) (best4 : Int) (first5 : Int) (d6 : Int) : Option (Int × Int) := loopC (spec_l8Sure_n1_s3 F b7) F (best4, first5, d6) some
theorem spec_l8Sure_n1_s3_nat (F : Nat) (b7 : List Int) : Natural (spec_l8Sure_n1_s3 F b7) := by
  intro Q Q' s kn kx h
  obtain ⟨best4, first5, d6⟩ := s
  simp only [spec_l8Sure_n1_s3, cond_bindL, none_bindL]
/-- loop.example/g01194/spec.l8Sure -/
def spec_l8Sure_n1_c (Q : Type) (F : Nat) (b0 : List Int) (k : (Int × Int) → Option Q) : Option Q :=
    let z_1 := (spec_l8Sure_n1_l3 F b0 (0 : Int) (-1 : Int) (0 : Int))
    let z_2 := (Option.getD z_1 default)
    bif (Option.isSome z_1) then
    k (z_2.1, z_2.2)
    else none
def spec_l8Sure_n1_p (F : Nat) (b0 : List Int) : Option (Int × Int) := spec_l8Sure_n1_c _ F b0 some
theorem spec_l8Sure_n1_cp (Q : Type) (F : Nat) (b0 : List Int) (k : (Int × Int) → Option Q) : spec_l8Sure_n1_c Q F b0 k = (spec_l8Sure_n1_p F b0).bind k := by
  simp only [spec_l8Sure_n1_p, spec_l8Sure_n1_c, cond_bindL, none_bindL, some_bindL]

/-- loop 4 of loop.example/g01194/spec.l8Least -/
def spec_l8Least_n1_s4 (F : Nat) (next14 : List Int) (all16 : List (List Int)) (Q : Type) : (Int × Int × List Int) → ((Int × Int × List Int) → Option Q) → ((Int × List Int) → Option Q) → Option Q
  | (least9, i13, first17), kn, kx =>
    let z_1 : Bool := (inR i13 (List.length all16))
    let z_2 : List Int := (rget all16 ((0 : Nat) + (Int.toNat i13)))
    let z_3 := (spec_l8Put_p next14 z_2)
    let z_4 := (spec_l8Sure_n1_p F (Option.getD z_3 default))
    let z_5 : Int := (IntKind.wrap .i64 (i13 + (1 : Int)))
    bif (decide (i13 < (((List.length all16) : Nat) : Int))) then
    bif z_1 then
    bif (Option.isSome z_3) then
    bif (Option.isSome z_4) then
    bif (i13 == (0 : Int)) then
    bif z_1 then
    kn ((Option.getD z_4 default).1, z_5, z_2)
    else none
    else bif (decide ((Option.getD z_4 default).1 < least9)) then
    bif z_1 then
    kn ((Option.getD z_4 default).1, z_5, z_2)
    else none
    else kn (least9, z_5, first17)
    else none
    else none
    else none
    else kx (least9, first17)
def spec_l8Least_n1_l4 (F : Nat) (next14 : List Int) (all16 : List (List Int)) (least9 : Int) (i13 : Int) (first17 : List Int) : Option (Int × List Int) := loopC (spec_l8Least_n1_s4 F next14 all16) F (least9, i13, first17) some
theorem spec_l8Least_n1_s4_nat (F : Nat) (next14 : List Int) (all16 : List (List Int)) : Natural (spec_l8Least_n1_s4 F next14 all16) := by
  intro Q Q' s kn kx h
  obtain ⟨least9, i13, first17⟩ := s
  simp only [spec_l8Least_n1_s4, cond_bindL, none_bindL]
/-- loop.example/g01194/spec.l8Least -/
def spec_l8Least_n1_c (Q : Type) (F : Nat) (next0 : List Int) (k : (List Int × Int) → Option Q) : Option Q :=
    let z_1 := (spec_l8Places_p F next0)
    let z_2 : Nat := (List.length (Option.getD z_1 default))
    let z_3 := (spec_l8Least_n1_l4 F next0 (Option.getD z_1 default) (0 : Int) (0 : Int) (rget (Option.getD z_1 default) 0))
    let z_4 := (Option.getD z_3 default)
    bif (Option.isSome z_1) then
    bif (inR (0 : Int) z_2) then
    bif ((Nat.beq z_2 z_2) && (Option.isSome z_3)) then
    k (z_4.2, z_4.1)
    else none
    else none
    else none
def spec_l8Least_n1_p (F : Nat) (next0 : List Int) : Option (List Int × Int) := spec_l8Least_n1_c _ F next0 some
theorem spec_l8Least_n1_cp (Q : Type) (F : Nat) (next0 : List Int) (k : (List Int × Int) → Option Q) : spec_l8Least_n1_c Q F next0 k = (spec_l8Least_n1_p F next0).bind k := by
  simp only [spec_l8Least_n1_p, spec_l8Least_n1_c, cond_bindL, none_bindL, some_bindL]

/-- loop 3 of loop.example/g01194/spec.l8Sure -/
def spec_l8Sure_n2_s3 (F : Nat) (b7 : List Int) (Q : Type) : (Int × Int × Int) → ((Int × Int × Int) → Option Q) → ((Int × Int) → Option Q) → Option Q
  | (best4, first5, d6), kn, kx =>
    let z_1 := (spec_l2Slide_p F b7 d6)
    let z_2 := (Option.getD z_1 default)
    let z_3 : Int := (IntKind.wrap .i64 (d6 + (1 : Int)))
    let z_4 := (spec_l8Least_n1_p F z_2.1)
    let z_5 : Int := (IntKind.wrap .i64 (z_2.2 + (Option.getD z_4 default).2))
    bif (decide (d6 < (4 : Int))) then
    bif (Option.isSome z_1) then
    bif (z_2.1 == b7) then
    kn (best4, first5, z_3)
    else bif (Option.isSome z_4) then
    bif (decide (first5 < (0 : Int))) then
    kn (z_5, d6, z_3)
    else bif (decide (best4 < z_5)) then
    kn (z_5, d6, z_3)
    else kn (best4, first5, z_3)
    else none
    else none
    else kx (best4, first5)
def spec_l8Sure_n2_l3 (F : Nat) (b7 : List Int) (best4 : Int) (first5 : Int) (d6 : Int) : Option (Int × Int) := loopC (spec_l8Sure_n2_s3 F b7) F (best4, first5, d6) some
theorem spec_l8Sure_n2_s3_nat (F : Nat) (b7 : List Int) : Natural (spec_l8Sure_n2_s3 F b7) := by
  intro Q Q' s kn kx h
  obtain ⟨best4, first5, d6⟩ := s
  simp only [spec_l8Sure_n2_s3, cond_bindL, none_bindL]
/-- loop.example/g01194/spec.l8Sure -/
def spec_l8Sure_n2_c (Q : Type) (F : Nat) (b0 : List Int) (k : (Int × Int) → Option Q) : Option Q :=
    let z_1 := (spec_l8Sure_n2_l3 F b0 (0 : Int) (-1 : Int) (0 : Int))
    let z_2 := (Option.getD z_1 default)
    bif (Option.isSome z_1) then
    k (z_2.1, z_2.2)
    else none
def spec_l8Sure_n2_p (F : Nat) (b0 : List Int) : Option (Int × Int) := spec_l8Sure_n2_c _ F b0 some
theorem spec_l8Sure_n2_cp (Q : Type) (F : Nat) (b0 : List Int) (k : (Int × Int) → Option Q) : spec_l8Sure_n2_c Q F b0 k = (spec_l8Sure_n2_p F b0).bind k := by
  simp only [spec_l8Sure_n2_p, spec_l8Sure_n2_c, cond_bindL, none_bindL, some_bindL]

/-- loop.example/g01194/spec.l8Sure -/
def spec_l8Sure_c (Q : Type) (F : Nat) (b0 : List Int) (n1 : Int) (k : (Int × Int) → Option Q) : Option Q :=
    let z_1 := (spec_l8Sure_n1_p F b0)
    let z_2 := (Option.getD z_1 default)
    let z_3 := (spec_l8Sure_n2_p F b0)
    let z_4 := (Option.getD z_3 default)
    bif (n1 == (0 : Int)) then
    k ((0 : Int), (-1 : Int))
    else bif (n1 == (1 : Int)) then
    bif (Option.isSome z_1) then
    k (z_2.1, z_2.2)
    else none
    else bif (n1 == (2 : Int)) then
    bif (Option.isSome z_3) then
    k (z_4.1, z_4.2)
    else none
    else none
def spec_l8Sure_p (F : Nat) (b0 : List Int) (n1 : Int) : Option (Int × Int) := spec_l8Sure_c _ F b0 n1 some
theorem spec_l8Sure_cp (Q : Type) (F : Nat) (b0 : List Int) (n1 : Int) (k : (Int × Int) → Option Q) : spec_l8Sure_c Q F b0 n1 k = (spec_l8Sure_p F b0 n1).bind k := by
  simp only [spec_l8Sure_p, spec_l8Sure_c, cond_bindL, none_bindL, some_bindL]

/-- loop.example/g01194/spec.SureScore -/
def spec_SureScore_c (Q : Type) (F : Nat) (b0 : List Int) (n1 : Int) (k : (Int × Bool) → Option Q) : Option Q :=
    let z_1 := (spec_l2Board_p F b0)
    let z_2 := (spec_l8Sure_p F b0 n1)
    bif (Option.isSome z_1) then
    bif (!(Option.getD z_1 default)) then
    k ((0 : Int), false)
    else bif (!(spec_l1In_v n1 (0 : Int) (2 : Int))) then
    k ((0 : Int), false)
    else bif (Option.isSome z_2) then
    k ((Option.getD z_2 default).1, true)
    else none
    else none
def spec_SureScore_p (F : Nat) (b0 : List Int) (n1 : Int) : Option (Int × Bool) := spec_SureScore_c _ F b0 n1 some
theorem spec_SureScore_cp (Q : Type) (F : Nat) (b0 : List Int) (n1 : Int) (k : (Int × Bool) → Option Q) : spec_SureScore_c Q F b0 n1 k = (spec_SureScore_p F b0 n1).bind k := by
  simp only [spec_SureScore_p, spec_SureScore_c, cond_bindL, none_bindL, some_bindL]

/-- (loop.example/g01194/impl.Board).sureOf -/
def impl_Board_sureOf_c (Q : Type) (F : Nat) (b0 : List Int) (direction1 : Int) (n2 : Int) (k : (Int) → Option Q) : Option Q :=
    let z_1 := (impl_Board_sureOf_n1_p F b0 direction1)
    let z_2 := (impl_Board_sureOf_n2_p F b0 direction1)
    bif (n2 == (1 : Int)) then
    bif (Option.isSome z_1) then
    k (Option.getD z_1 default)
    else none
    else bif (n2 == (2 : Int)) then
    bif (Option.isSome z_2) then
    k (Option.getD z_2 default)
    else none
    else none
def impl_Board_sureOf_p (F : Nat) (b0 : List Int) (direction1 : Int) (n2 : Int) : Option (Int) := impl_Board_sureOf_c _ F b0 direction1 n2 some
theorem impl_Board_sureOf_cp (Q : Type) (F : Nat) (b0 : List Int) (direction1 : Int) (n2 : Int) (k : (Int) → Option Q) : impl_Board_sureOf_c Q F b0 direction1 n2 k = (impl_Board_sureOf_p F b0 direction1 n2).bind k := by
  simp only [impl_Board_sureOf_p, impl_Board_sureOf_c, cond_bindL, none_bindL, some_bindL]

/-- loop 5 of loop.example/g01194/impl.BestSure -/
def impl_BestSure_s5 (F : Nat) (n0 : Int) (sure4 : Int) (t227 : Int) (b9 : List Int) (t2110 : List Int) (Q : Type) : (Int) → ((Int) → Option Q) → ((Bool × Int) → Option Q) → Option Q
  | t238, kn, kx =>
    let z_1 : Int := (iget t2110 ((0 : Nat) + (Int.toNat t238)))
    let z_2 := (impl_Board_sureOf_p F b9 z_1 n0)
    bif (decide (t238 < t227)) then
    bif (inR t238 (List.length t2110)) then
    bif (Option.isSome z_2) then
    bif ((Option.getD z_2 default) == sure4) then
    kx (true, z_1)
    else kn (IntKind.wrap .i64 (t238 + (1 : Int)))
    else none
    else none
    else kx (false, default)
def impl_BestSure_l5 (F : Nat) (n0 : Int) (sure4 : Int) (t227 : Int) (b9 : List Int) (t2110 : List Int) (t238 : Int) : Option (Bool × Int) := loopC (impl_BestSure_s5 F n0 sure4 t227 b9 t2110) F t238 some
theorem impl_BestSure_s5_nat (F : Nat) (n0 : Int) (sure4 : Int) (t227 : Int) (b9 : List Int) (t2110 : List Int) : Natural (impl_BestSure_s5 F n0 sure4 t227 b9 t2110) := by
  intro Q Q' s kn kx h
  simp only [impl_BestSure_s5, cond_bindL, none_bindL]
/-- loop.example/g01194/impl.BestSure -/
def impl_BestSure_c (Q : Type) (F : Nat) (b0 : List Int) (n1 : Int) (k : (Int × Bool) → Option Q) : Option Q :=
    let z_1 := (impl_IsBoard_p F b0)
    let z_2 := (impl_Board_sure_p F b0 n1)
    let z_3 := (impl_Board_moves_p F b0)
    let z_4 : Nat := (List.length (Option.getD z_3 default))
    let z_5 := (impl_BestSure_l5 F n1 (Option.getD z_2 default) ((z_4 : Nat) : Int) b0 (Option.getD z_3 default) (0 : Int))
    let z_6 := (Option.getD z_5 default)
    bif (Option.isSome z_1) then
    bif (!(Option.getD z_1 default)) then
    k ((0 : Int), false)
    else bif (!(impl_in_v n1 (1 : Int) (2 : Int))) then
    k ((0 : Int), false)
    else bif (Option.isSome z_2) then
    bif (Option.isSome z_3) then
    bif ((Nat.beq z_4 z_4) && (Option.isSome z_5)) then
    bif z_6.1 then
    k (z_6.2, true)
    else k ((0 : Int), false)
    else none
    else none
    else none
    else none
def impl_BestSure_p (F : Nat) (b0 : List Int) (n1 : Int) : Option (Int × Bool) := impl_BestSure_c _ F b0 n1 some
theorem impl_BestSure_cp (Q : Type) (F : Nat) (b0 : List Int) (n1 : Int) (k : (Int × Bool) → Option Q) : impl_BestSure_c Q F b0 n1 k = (impl_BestSure_p F b0 n1).bind k := by
  simp only [impl_BestSure_p, impl_BestSure_c, cond_bindL, none_bindL, some_bindL]

/-- loop.example/g01194/spec.l1Most -/
def spec_l1Most_c (Q : Type) (a0 : Int) (b1 : Int) (k : (Int) → Option Q) : Option Q :=
    bif (decide (b1 < a0)) then
    k a0
    else k b1
def spec_l1Most_v (a0 : Int) (b1 : Int) : Int :=
    bif (decide (b1 < a0)) then
    a0
    else b1
theorem spec_l1Most_cv (Q : Type) (a0 : Int) (b1 : Int) (k : (Int) → Option Q) : spec_l1Most_c Q a0 b1 k = k (spec_l1Most_v a0 b1) := by
  simp only [spec_l1Most_c, spec_l1Most_v, app_condL k]

/-- loop.example/g01194/spec.BestSure -/
def spec_BestSure_c (Q : Type) (F : Nat) (b0 : List Int) (n1 : Int) (k : (Int × Bool) → Option Q) : Option Q :=
    let z_1 := (spec_l2Board_p F b0)
    let z_2 := (spec_l8Sure_p F b0 n1)
    bif (Option.isSome z_1) then
    bif (!(Option.getD z_1 default)) then
    k ((0 : Int), false)
    else bif (!(spec_l1In_v n1 (1 : Int) (2 : Int))) then
    k ((0 : Int), false)
    else bif (Option.isSome z_2) then
    k ((spec_l1Most_v (Option.getD z_2 default).2 (0 : Int)), (decide ((0 : Int) ≤ (Option.getD z_2 default).2)))
    else none
    else none
def spec_BestSure_p (F : Nat) (b0 : List Int) (n1 : Int) : Option (Int × Bool) := spec_BestSure_c _ F b0 n1 some
theorem spec_BestSure_cp (Q : Type) (F : Nat) (b0 : List Int) (n1 : Int) (k : (Int × Bool) → Option Q) : spec_BestSure_c Q F b0 n1 k = (spec_BestSure_p F b0 n1).bind k := by
  simp only [spec_BestSure_p, spec_BestSure_c, cond_bindL, none_bindL, some_bindL]

/-- (*loop.example/g01194/spec.l1Cur).side -/
def spec_l1Cur_side_c (Q : Type) (c3 : List Int) (c4 : Int) (c5 : Int) (k : (Int × Int × Int) → Option Q) : Option Q :=
    let z_1 := (spec_l1Cur_one_p (40 : Int) c3 c4 c5)
    let z_2 := (Option.getD z_1 default)
    let z_3 := (spec_l1Cur_among_p [(-1 : Int), (4 : Int), (4611686018427387904 : Int)] c3 z_2.2.1 z_2.2.2)
    let z_4 := (Option.getD z_3 default)
    let z_5 := (spec_l1Cur_pick_p (4 : Int) c3 z_2.2.1 z_2.2.2)
    let z_6 := (Option.getD z_5 default)
    bif (Option.isSome z_1) then
    bif z_2.1 then
    bif (Option.isSome z_3) then
    k (z_4.1, z_4.2.1, z_4.2.2)
    else none
    else bif (Option.isSome z_5) then
    k (z_6.1, z_6.2.1, z_6.2.2)
    else none
    else none
def spec_l1Cur_side_p (c3 : List Int) (c4 : Int) (c5 : Int) : Option (Int × Int × Int) := spec_l1Cur_side_c _ c3 c4 c5 some
theorem spec_l1Cur_side_cp (Q : Type) (c3 : List Int) (c4 : Int) (c5 : Int) (k : (Int × Int × Int) → Option Q) : spec_l1Cur_side_c Q c3 c4 c5 k = (spec_l1Cur_side_p c3 c4 c5).bind k := by
  simp only [spec_l1Cur_side_p, spec_l1Cur_side_c, cond_bindL, none_bindL, some_bindL]

/-- loop.example/g01194/spec.DrawWorstReply -/
def spec_DrawWorstReply_c (Q : Type) (F : Nat) (code0 : List Int) (k : (List Int × Int × Int) → Option Q) : Option Q :=
    let z_1 := (spec_l1Cur_among_p [(1 : Int), (0 : Int), (1 : Int), (2 : Int), (-1 : Int)] code0 (0 : Int) (0 : Int))
    let z_2 := (Option.getD z_1 default)
    let z_3 := (spec_l1Cur_side_p code0 z_2.2.1 z_2.2.2)
    let z_4 := (Option.getD z_3 default)
    let z_5 := (spec_l1Cur_tight_p F code0 z_4.2.1 z_4.2.2)
    bif (Option.isSome z_1) then
    bif (Option.isSome z_3) then
    bif (Option.isSome z_5) then
    k ((Option.getD z_5 default).1, z_4.1, z_2.1)
    else none
    else none
    else none
def spec_DrawWorstReply_p (F : Nat) (code0 : List Int) : Option (List Int × Int × Int) := spec_DrawWorstReply_c _ F code0 some
theorem spec_DrawWorstReply_cp (Q : Type) (F : Nat) (code0 : List Int) (k : (List Int × Int × Int) → Option Q) : spec_DrawWorstReply_c Q F code0 k = (spec_DrawWorstReply_p F code0).bind k := by
  simp only [spec_DrawWorstReply_p, spec_DrawWorstReply_c, cond_bindL, none_bindL, some_bindL]
end Go.Lv.P
