/-
Pure functions and what the code of them does, by program; without conditions.
-/
import Derived.Test.YtkclnchkemacgaaTJP2
namespace Go.Lv.P
open Go Go.Lv
set_option linter.unusedVariables false
set_option linter.unusedSimpArgs false
set_option maxRecDepth 100000
/-- loop 5 of loop.example/g01194/spec.HighestBySlides -/
def spec_HighestBySlides_s5 (F : Nat) (all1 : List (List Int)) (Q : Type) : (Int × Int) → ((Int × Int) → Option Q) → ((Int) → Option Q) → Option Q
  | (best0, i2), kn, kx =>
    let z_1 := (spec_l5Highest_p F (rget all1 (Int.toNat i2)))
    bif (decide (i2 < (((List.length all1) : Nat) : Int))) then
    bif (inR i2 (List.length all1)) then
    bif (Option.isSome z_1) then
    kn ((spec_l1Most_v best0 (Option.getD z_1 default)), (IntKind.wrap .i64 (i2 + (1 : Int))))
    else none
    else none
    else kx best0
def spec_HighestBySlides_l5 (F : Nat) (all1 : List (List Int)) (best0 : Int) (i2 : Int) : Option (Int) := loopC (spec_HighestBySlides_s5 F all1) F (best0, i2) some
theorem spec_HighestBySlides_s5_nat (F : Nat) (all1 : List (List Int)) : Natural (spec_HighestBySlides_s5 F all1) := by
  intro Q Q' s kn kx h
  obtain ⟨best0, i2⟩ := s
  simp only [spec_HighestBySlides_s5, cond_bindL, none_bindL]
/-- loop.example/g01194/spec.HighestBySlides -/
def spec_HighestBySlides_c (Q : Type) (F : Nat) (b0 : List Int) (k : (Int × Bool) → Option Q) : Option Q :=
    let z_1 := (spec_l2Board_p F b0)
    let z_2 := (spec_l5Reach_p F b0 (6 : Int))
    let z_3 := (spec_HighestBySlides_l5 F (Option.getD z_2 default) (0 : Int) (0 : Int))
    bif (Option.isSome z_1) then
    bif (!(Option.getD z_1 default)) then
    k ((0 : Int), false)
    else bif (Option.isSome z_2) then
    bif (Option.isSome z_3) then
    k ((Option.getD z_3 default), true)
    else none
    else none
    else none
def spec_HighestBySlides_p (F : Nat) (b0 : List Int) : Option (Int × Bool) := spec_HighestBySlides_c _ F b0 some
theorem spec_HighestBySlides_cp (Q : Type) (F : Nat) (b0 : List Int) (k : (Int × Bool) → Option Q) : spec_HighestBySlides_c Q F b0 k = (spec_HighestBySlides_p F b0).bind k := by
  simp only [spec_HighestBySlides_p, spec_HighestBySlides_c, cond_bindL, none_bindL, some_bindL]

/-- loop 3 of (loop.example/g01194/impl.Board).highest -/
def impl_Board_highest_s3 (F : Nat) (b14 : List Int) (Q : Type) : (Int × Int × List Int) → ((Int × Int × List Int) → Option Q) → ((Int × List Int) → Option Q) → Option Q
  | (most6, t1213, at16), kn, kx =>
    let z_1 : List Int := (rget [[(0 : Int), (0 : Int)], [(0 : Int), (1 : Int)], [(0 : Int), (2 : Int)], [(0 : Int), (3 : Int)], [(1 : Int), (0 : Int)], [(1 : Int), (1 : Int)], [(1 : Int), (2 : Int)], [(1 : Int), (3 : Int)], [(2 : Int), (0 : Int)], [(2 : Int), (1 : Int)], [(2 : Int), (2 : Int)], [(2 : Int), (3 : Int)], [(3 : Int), (0 : Int)], [(3 : Int), (1 : Int)], [(3 : Int), (2 : Int)], [(3 : Int), (3 : Int)]] ((0 : Nat) + (Int.toNat t1213)))
    let z_2 := (impl_Board_at_p z_1 b14)
    let z_3 : Int := (iget b14 (Option.getD z_2 default))
    let z_4 : Int := (IntKind.wrap .i64 (t1213 + (1 : Int)))
    bif (decide (t1213 < (16 : Int))) then
    bif (inR t1213 16) then
    bif (Option.isSome z_2) then
    bif (decide (most6 < z_3)) then
    kn (z_3, z_4, z_1)
    else kn (most6, z_4, at16)
    else none
    else none
    else kx (most6, at16)
def impl_Board_highest_l3 (F : Nat) (b14 : List Int) (most6 : Int) (t1213 : Int) (at16 : List Int) : Option (Int × List Int) := loopC (impl_Board_highest_s3 F b14) F (most6, t1213, at16) some
theorem impl_Board_highest_s3_nat (F : Nat) (b14 : List Int) : Natural (impl_Board_highest_s3 F b14) := by
  intro Q Q' s kn kx h
  obtain ⟨most6, t1213, at16⟩ := s
  simp only [impl_Board_highest_s3, cond_bindL, none_bindL]
/-- (loop.example/g01194/impl.Board).highest -/
def impl_Board_highest_c (Q : Type) (F : Nat) (b0 : List Int) (k : (Int × List Int) → Option Q) : Option Q :=
    let z_1 := (impl_Board_highest_l3 F b0 (0 : Int) (0 : Int) [(0 : Int), (0 : Int)])
    let z_2 := (Option.getD z_1 default)
    bif (Option.isSome z_1) then
    k (z_2.1, z_2.2)
    else none
def impl_Board_highest_p (F : Nat) (b0 : List Int) : Option (Int × List Int) := impl_Board_highest_c _ F b0 some
theorem impl_Board_highest_cp (Q : Type) (F : Nat) (b0 : List Int) (k : (Int × List Int) → Option Q) : impl_Board_highest_c Q F b0 k = (impl_Board_highest_p F b0).bind k := by
  simp only [impl_Board_highest_p, impl_Board_highest_c, cond_bindL, none_bindL, some_bindL]

/-- loop 6 of loop.example/g01194/impl.HighestBySlides -/
def impl_HighestBySlides_s6 (F : Nat) (t203 : Int) (t195 : List (List Int)) (Q : Type) : (Int × Int) → ((Int × Int) → Option Q) → ((Int) → Option Q) → Option Q
  | (most0, t214), kn, kx =>
    let z_1 := (impl_Board_highest_p F (rget t195 ((0 : Nat) + (Int.toNat t214))))
    bif (decide (t214 < t203)) then
    bif (inR t214 (List.length t195)) then
    bif (Option.isSome z_1) then
    kn ((if (Option.getD z_1 default).1 > most0 then (Option.getD z_1 default).1 else most0), (IntKind.wrap .i64 (t214 + (1 : Int))))
    else none
    else none
    else kx most0
def impl_HighestBySlides_l6 (F : Nat) (t203 : Int) (t195 : List (List Int)) (most0 : Int) (t214 : Int) : Option (Int) := loopC (impl_HighestBySlides_s6 F t203 t195) F (most0, t214) some
theorem impl_HighestBySlides_s6_nat (F : Nat) (t203 : Int) (t195 : List (List Int)) : Natural (impl_HighestBySlides_s6 F t203 t195) := by
  intro Q Q' s kn kx h
  obtain ⟨most0, t214⟩ := s
  simp only [impl_HighestBySlides_s6, cond_bindL, none_bindL]
/-- loop.example/g01194/impl.HighestBySlides -/
def impl_HighestBySlides_c (Q : Type) (F : Nat) (b0 : List Int) (k : (Int × Bool) → Option Q) : Option Q :=
    let z_1 := (impl_IsBoard_p F b0)
    let z_2 := (impl_Board_reach_p F b0 (6 : Int))
    let z_3 : Nat := (List.length (Option.getD z_2 default).2)
    let z_4 := (impl_HighestBySlides_l6 F ((z_3 : Nat) : Int) (Option.getD z_2 default).2 (0 : Int) (0 : Int))
    bif (Option.isSome z_1) then
    bif (!(Option.getD z_1 default)) then
    k ((0 : Int), false)
    else bif (Option.isSome z_2) then
    bif ((Nat.beq z_3 z_3) && (Option.isSome z_4)) then
    k ((Option.getD z_4 default), true)
    else none
    else none
    else none
def impl_HighestBySlides_p (F : Nat) (b0 : List Int) : Option (Int × Bool) := impl_HighestBySlides_c _ F b0 some
theorem impl_HighestBySlides_cp (Q : Type) (F : Nat) (b0 : List Int) (k : (Int × Bool) → Option Q) : impl_HighestBySlides_c Q F b0 k = (impl_HighestBySlides_p F b0).bind k := by
  simp only [impl_HighestBySlides_p, impl_HighestBySlides_c, cond_bindL, none_bindL, some_bindL]

/-- loop.example/g01194/laws.FnExactHighestBySlides -/
def laws_FnExactHighestBySlides_c (Q : Type) (F : Nat) (aB0 : List Int) (k : (Bool) → Option Q) : Option Q :=
    let z_1 := (spec_HighestBySlides_p F (laws_toBoard_v aB0))
    let z_2 := (impl_HighestBySlides_p F (laws_toBoard_v aB0))
    let z_3 := (Option.getD z_2 default)
    let z_4 := (Option.getD z_1 default)
    bif (Option.isSome z_1) then
    bif (Option.isSome z_2) then
    bif (!(z_3.1 == z_4.1)) then
    k false
    else bif (!(z_3.2 == z_4.2)) then
    k false
    else k true
    else none
    else none
def laws_FnExactHighestBySlides_p (F : Nat) (aB0 : List Int) : Option (Bool) := laws_FnExactHighestBySlides_c _ F aB0 some
theorem laws_FnExactHighestBySlides_cp (Q : Type) (F : Nat) (aB0 : List Int) (k : (Bool) → Option Q) : laws_FnExactHighestBySlides_c Q F aB0 k = (laws_FnExactHighestBySlides_p F aB0).bind k := by
  simp only [laws_FnExactHighestBySlides_p, laws_FnExactHighestBySlides_c, cond_bindL, none_bindL, some_bindL]

/-- loop 8 of loop.example/g01194/spec.FirstSlides -/
def spec_FirstSlides_s8 (F : Nat) (n8 : Int) (a10 : List Int) (b11 : List Int) (out12 : List Int) (Q : Type) : (Int) → ((Int) → Option Q) → ((List Int × List Int) → Option Q) → Option Q
  | d9, kn, kx =>
    let z_1 := (spec_l2Slide_p F a10 d9)
    let z_2 : Int := (IntKind.wrap .i64 (n8 - (1 : Int)))
    let z_3 := (spec_l5Fewest_p F (Option.getD z_1 default).1 b11 z_2)
    let z_4 : List Int := ((subn (List.length out12) out12 0 (List.length out12)) ++ [d9])
    bif (decide (d9 < (4 : Int))) then
    bif (Option.isSome z_1) then
    bif (Option.isSome z_3) then
    bif ((Option.getD z_3 default) == z_2) then
    bif (fits (List.length z_4) 8) then
    kx ((Option.getD z_1 default).1, z_4)
    else none
    else kn (IntKind.wrap .i64 (d9 + (1 : Int)))
    else none
    else none
    else kx (a10, out12)
def spec_FirstSlides_l8 (F : Nat) (n8 : Int) (a10 : List Int) (b11 : List Int) (out12 : List Int) (d9 : Int) : Option (List Int × List Int) := loopC (spec_FirstSlides_s8 F n8 a10 b11 out12) F d9 some
theorem spec_FirstSlides_s8_nat (F : Nat) (n8 : Int) (a10 : List Int) (b11 : List Int) (out12 : List Int) : Natural (spec_FirstSlides_s8 F n8 a10 b11 out12) := by
  intro Q Q' s kn kx h
  simp only [spec_FirstSlides_s8, cond_bindL, none_bindL]
/-- loop 5 of loop.example/g01194/spec.FirstSlides -/
def spec_FirstSlides_s5 (F : Nat) (b10 : List Int) (Q : Type) : (Int × List Int × List Int) → ((Int × List Int × List Int) → Option Q) → ((List Int) → Option Q) → Option Q
  | (n8, a9, out11), kn, kx =>
    let z_1 := (spec_FirstSlides_l8 F n8 a9 b10 out11 (0 : Int))
    let z_2 := (Option.getD z_1 default)
    bif (decide ((0 : Int) < n8)) then
    bif ((Nat.beq (List.length out11) (List.length out11)) && (Option.isSome z_1)) then
    kn ((IntKind.wrap .i64 (n8 - (1 : Int))), z_2.1, z_2.2)
    else none
    else kx out11
def spec_FirstSlides_l5 (F : Nat) (b10 : List Int) (n8 : Int) (a9 : List Int) (out11 : List Int) : Option (List Int) := loopC (spec_FirstSlides_s5 F b10) F (n8, a9, out11) some
theorem spec_FirstSlides_s5_nat (F : Nat) (b10 : List Int) : Natural (spec_FirstSlides_s5 F b10) := by
  intro Q Q' s kn kx h
  obtain ⟨n8, a9, out11⟩ := s
  simp only [spec_FirstSlides_s5, cond_bindL, none_bindL]
/-- loop.example/g01194/spec.FirstSlides -/
def spec_FirstSlides_c (Q : Type) (F : Nat) (a0 : List Int) (b1 : List Int) (k : (Bool × List Int) → Option Q) : Option Q :=
    let z_1 := (spec_FewestSlides_p F a0 b1)
    let z_2 := (Option.getD z_1 default)
    let z_3 := (spec_FirstSlides_l5 F b1 z_2.1 a0 ([] : List Int))
    bif (Option.isSome z_1) then
    bif (!z_2.2) then
    k (false, ([] : List Int))
    else bif (Option.isSome z_3) then
    k (true, (Option.getD z_3 default))
    else none
    else none
def spec_FirstSlides_p (F : Nat) (a0 : List Int) (b1 : List Int) : Option (Bool × List Int) := spec_FirstSlides_c _ F a0 b1 some
theorem spec_FirstSlides_cp (Q : Type) (F : Nat) (a0 : List Int) (b1 : List Int) (k : (Bool × List Int) → Option Q) : spec_FirstSlides_c Q F a0 b1 k = (spec_FirstSlides_p F a0 b1).bind k := by
  simp only [spec_FirstSlides_p, spec_FirstSlides_c, cond_bindL, none_bindL, some_bindL]

/-- loop.example/g01194/impl.FirstSlides -/
def impl_FirstSlides_c (Q : Type) (F : Nat) (a0 : List Int) (b1 : List Int) (k : (Bool × List Int) → Option Q) : Option Q :=
    let z_1 := (impl_Board_roadTo_p F a0 b1)
    let z_2 := (Option.getD z_1 default)
    bif (Option.isSome z_1) then
    bif (fits (List.length z_2.1) 8) then
    k (z_2.2, z_2.1)
    else none
    else none
def impl_FirstSlides_p (F : Nat) (a0 : List Int) (b1 : List Int) : Option (Bool × List Int) := impl_FirstSlides_c _ F a0 b1 some
theorem impl_FirstSlides_cp (Q : Type) (F : Nat) (a0 : List Int) (b1 : List Int) (k : (Bool × List Int) → Option Q) : impl_FirstSlides_c Q F a0 b1 k = (impl_FirstSlides_p F a0 b1).bind k := by
  simp only [impl_FirstSlides_p, impl_FirstSlides_c, cond_bindL, none_bindL, some_bindL]

/-- loop 4 of loop.example/g01194/laws.eqIntS -/
def laws_eqIntS_s4 (F : Nat) (a0 : List Int) (b1 : List Int) (Q : Type) : (Int) → ((Int) → Option Q) → ((Bool) → Option Q) → Option Q
  | i2, kn, kx =>
    bif (decide (i2 < (((List.length a0) : Nat) : Int))) then
    bif (inR i2 (List.length a0)) then
    bif (inR i2 (List.length b1)) then
    bif (!((iget a0 (Int.toNat i2)) == (iget b1 (Int.toNat i2)))) then
    kx true
    else kn (IntKind.wrap .i64 (i2 + (1 : Int)))
    else none
    else none
    else kx false
def laws_eqIntS_l4 (F : Nat) (a0 : List Int) (b1 : List Int) (i2 : Int) : Option (Bool) := loopC (laws_eqIntS_s4 F a0 b1) F i2 some
theorem laws_eqIntS_s4_nat (F : Nat) (a0 : List Int) (b1 : List Int) : Natural (laws_eqIntS_s4 F a0 b1) := by
  intro Q Q' s kn kx h
  simp only [laws_eqIntS_s4, cond_bindL, none_bindL]
/-- loop.example/g01194/laws.eqIntS -/
def laws_eqIntS_c (Q : Type) (F : Nat) (a0 : List Int) (b1 : List Int) (k : (Bool) → Option Q) : Option Q :=
    let z_1 := (laws_eqIntS_l4 F a0 b1 (0 : Int))
    bif (!((((List.length a0) : Nat) : Int) == (((List.length b1) : Nat) : Int))) then
    k false
    else bif (Option.isSome z_1) then
    bif (Option.getD z_1 default) then
    k false
    else k true
    else none
def laws_eqIntS_p (F : Nat) (a0 : List Int) (b1 : List Int) : Option (Bool) := laws_eqIntS_c _ F a0 b1 some
theorem laws_eqIntS_cp (Q : Type) (F : Nat) (a0 : List Int) (b1 : List Int) (k : (Bool) → Option Q) : laws_eqIntS_c Q F a0 b1 k = (laws_eqIntS_p F a0 b1).bind k := by
  simp only [laws_eqIntS_p, laws_eqIntS_c, cond_bindL, none_bindL, some_bindL]

/-- loop 2 of loop.example/g01194/laws.markIntS -/
def laws_markIntS_s2 (F : Nat) (a1 : Nat) (Q : Type) : (Int × Int × List Int) → ((Int × Int × List Int) → Option Q) → ((Int × List Int) → Option Q) → Option Q
  | (k2, i3, a4), kn, kx =>
    bif (decide (i3 < ((a1 : Nat) : Int))) then
    bif (inR i3 a1) then
    kn ((IntKind.wrap .i64 (k2 + (1 : Int))), (IntKind.wrap .i64 (i3 + (1 : Int))), (iset a4 ((0 : Nat) + (Int.toNat i3)) k2))
    else none
    else kx (k2, a4)
def laws_markIntS_l2 (F : Nat) (a1 : Nat) (k2 : Int) (i3 : Int) (a4 : List Int) : Option (Int × List Int) := loopC (laws_markIntS_s2 F a1) F (k2, i3, a4) some
theorem laws_markIntS_s2_nat (F : Nat) (a1 : Nat) : Natural (laws_markIntS_s2 F a1) := by
  intro Q Q' s kn kx h
  obtain ⟨k2, i3, a4⟩ := s
  simp only [laws_markIntS_s2, cond_bindL, none_bindL]
/-- loop.example/g01194/laws.markIntS -/
def laws_markIntS_c (Q : Type) (F : Nat) (a1 : Nat) (k2 : Int) (a3 : List Int) (k : (Int × List Int) → Option Q) : Option Q :=
    let z_1 := (laws_markIntS_l2 F a1 k2 (0 : Int) a3)
    let z_2 := (Option.getD z_1 default)
    bif (Option.isSome z_1) then
    k (z_2.1, z_2.2)
    else none
def laws_markIntS_p (F : Nat) (a1 : Nat) (k2 : Int) (a3 : List Int) : Option (Int × List Int) := laws_markIntS_c _ F a1 k2 a3 some
theorem laws_markIntS_cp (Q : Type) (F : Nat) (a1 : Nat) (k2 : Int) (a3 : List Int) (k : (Int × List Int) → Option Q) : laws_markIntS_c Q F a1 k2 a3 k = (laws_markIntS_p F a1 k2 a3).bind k := by
  simp only [laws_markIntS_p, laws_markIntS_c, cond_bindL, none_bindL, some_bindL]

/-- loop 2 of loop.example/g01194/laws.heldIntS -/
def laws_heldIntS_s2 (F : Nat) (a0 : List Int) (Q : Type) : (Int × Int) → ((Int × Int) → Option Q) → ((Bool × Int) → Option Q) → Option Q
  | (k1, i2), kn, kx =>
    bif (decide (i2 < (((List.length a0) : Nat) : Int))) then
    bif (inR i2 (List.length a0)) then
    bif (!((iget a0 (Int.toNat i2)) == k1)) then
    kx (true, default)
    else kn ((IntKind.wrap .i64 (k1 + (1 : Int))), (IntKind.wrap .i64 (i2 + (1 : Int))))
    else none
    else kx (false, k1)
def laws_heldIntS_l2 (F : Nat) (a0 : List Int) (k1 : Int) (i2 : Int) : Option (Bool × Int) := loopC (laws_heldIntS_s2 F a0) F (k1, i2) some
theorem laws_heldIntS_s2_nat (F : Nat) (a0 : List Int) : Natural (laws_heldIntS_s2 F a0) := by
  intro Q Q' s kn kx h
  obtain ⟨k1, i2⟩ := s
  simp only [laws_heldIntS_s2, cond_bindL, none_bindL]
/-- loop.example/g01194/laws.heldIntS -/
def laws_heldIntS_c (Q : Type) (F : Nat) (a0 : List Int) (k1 : Int) (k : (Int) → Option Q) : Option Q :=
    let z_1 := (laws_heldIntS_l2 F a0 k1 (0 : Int))
    let z_2 := (Option.getD z_1 default)
    bif (Option.isSome z_1) then
    bif z_2.1 then
    k (-1 : Int)
    else k z_2.2
    else none
def laws_heldIntS_p (F : Nat) (a0 : List Int) (k1 : Int) : Option (Int) := laws_heldIntS_c _ F a0 k1 some
theorem laws_heldIntS_cp (Q : Type) (F : Nat) (a0 : List Int) (k1 : Int) (k : (Int) → Option Q) : laws_heldIntS_c Q F a0 k1 k = (laws_heldIntS_p F a0 k1).bind k := by
  simp only [laws_heldIntS_p, laws_heldIntS_c, cond_bindL, none_bindL, some_bindL]

/-- loop.example/g01194/laws.FnExactFirstSlides -/
def laws_FnExactFirstSlides_c (Q : Type) (F : Nat) (aA0 : List Int) (aB1 : List Int) (k : (Bool) → Option Q) : Option Q :=
    let z_1 := (spec_FirstSlides_p F (laws_toBoard_v aA0) (laws_toBoard_v aB1))
    let z_2 := (impl_FirstSlides_p F (laws_toBoard_v aA0) (laws_toBoard_v aB1))
    let z_3 : Bool := (Option.isSome z_2)
    let z_4 := (Option.getD z_2 default)
    let z_5 : Nat := (List.length z_4.2)
    let z_6 := (Option.getD z_1 default)
    let z_7 : Nat := (List.length z_6.2)
    let z_8 := (laws_eqIntS_p F (subn z_5 z_4.2 0 z_5) (subn z_7 z_6.2 0 z_7))
    let z_9 : Bool := (Option.isSome z_8)
    let z_10 : Bool := (!(Option.getD z_8 default))
    let z_11 : Bool := (!(z_4.1 == z_6.1))
    let z_12 := (laws_markIntS_p F z_5 (1 : Int) z_4.2)
    let z_13 := (Option.getD z_12 default)
    let z_14 := (laws_heldIntS_p F (subn (List.length z_13.2) z_13.2 0 z_5) (1 : Int))
    let z_15 : Bool := (Option.isSome z_14)
    let z_16 : Bool := (decide ((Option.getD z_14 default) < (0 : Int)))
    let z_17 : Bool := (!((Option.getD z_14 default) == z_13.1))
    bif (Option.isSome z_1) then
    bif z_3 then
    bif z_9 then
    bif z_10 then
    k false
    else bif z_11 then
    k false
    else bif (Option.isSome z_12) then
    bif z_15 then
    bif z_16 then
    k false
    else bif z_17 then
    k false
    else bif z_3 then
    bif z_9 then
    bif z_10 then
    k false
    else bif z_11 then
    k false
    else bif z_15 then
    bif z_16 then
    k false
    else bif z_17 then
    k false
    else k true
    else none
    else none
    else none
    else none
    else none
    else none
    else none
    else none
def laws_FnExactFirstSlides_p (F : Nat) (aA0 : List Int) (aB1 : List Int) : Option (Bool) := laws_FnExactFirstSlides_c _ F aA0 aB1 some
theorem laws_FnExactFirstSlides_cp (Q : Type) (F : Nat) (aA0 : List Int) (aB1 : List Int) (k : (Bool) → Option Q) : laws_FnExactFirstSlides_c Q F aA0 aB1 k = (laws_FnExactFirstSlides_p F aA0 aB1).bind k := by
  simp only [laws_FnExactFirstSlides_p, laws_FnExactFirstSlides_c, cond_bindL, none_bindL, some_bindL]

/-- loop 6 of loop.example/g01194/spec.l2Empty -/
def spec_l2Empty_s6 (F : Nat) (r5 : Int) (b7 : List Int) (Q : Type) : (Int × List (List Int)) → ((Int × List (List Int)) → Option Q) → ((List (List Int)) → Option Q) → Option Q
  | (c6, out8), kn, kx =>
    let z_1 : List (List Int) := ((subn (List.length out8) out8 0 (List.length out8)) ++ [[r5, c6]])
    let z_2 : Int := (IntKind.wrap .i64 (c6 + (1 : Int)))
    bif (decide (c6 < (4 : Int))) then
    bif (inR r5 4) then
    bif (inR c6 4) then
    bif ((iget b7 (((0 : Nat) + ((Int.toNat r5) * (4 : Nat))) + ((Int.toNat c6) * (1 : Nat)))) == (0 : Int)) then
    bif (fits (List.length z_1) 16) then
    kn (z_2, z_1)
    else none
    else kn (z_2, out8)
    else none
    else none
    else kx out8
def spec_l2Empty_l6 (F : Nat) (r5 : Int) (b7 : List Int) (c6 : Int) (out8 : List (List Int)) : Option (List (List Int)) := loopC (spec_l2Empty_s6 F r5 b7) F (c6, out8) some
theorem spec_l2Empty_s6_nat (F : Nat) (r5 : Int) (b7 : List Int) : Natural (spec_l2Empty_s6 F r5 b7) := by
  intro Q Q' s kn kx h
  obtain ⟨c6, out8⟩ := s
  simp only [spec_l2Empty_s6, cond_bindL, none_bindL]
/-- loop 3 of loop.example/g01194/spec.l2Empty -/
def spec_l2Empty_s3 (F : Nat) (b6 : List Int) (Q : Type) : (Int × List (List Int)) → ((Int × List (List Int)) → Option Q) → ((List (List Int)) → Option Q) → Option Q
  | (r5, out7), kn, kx =>
    let z_1 := (spec_l2Empty_l6 F r5 b6 (0 : Int) out7)
    bif (decide (r5 < (4 : Int))) then
    bif ((Nat.beq (List.length out7) (List.length out7)) && (Option.isSome z_1)) then
    kn ((IntKind.wrap .i64 (r5 + (1 : Int))), (Option.getD z_1 default))
    else none
    else kx out7
def spec_l2Empty_l3 (F : Nat) (b6 : List Int) (r5 : Int) (out7 : List (List Int)) : Option (List (List Int)) := loopC (spec_l2Empty_s3 F b6) F (r5, out7) some
theorem spec_l2Empty_s3_nat (F : Nat) (b6 : List Int) : Natural (spec_l2Empty_s3 F b6) := by
  intro Q Q' s kn kx h
  obtain ⟨r5, out7⟩ := s
  simp only [spec_l2Empty_s3, cond_bindL, none_bindL]
/-- loop.example/g01194/spec.l2Empty -/
def spec_l2Empty_c (Q : Type) (F : Nat) (b0 : List Int) (k : (List (List Int)) → Option Q) : Option Q :=
    let z_1 := (spec_l2Empty_l3 F b0 (0 : Int) ([] : List (List Int)))
    bif (Option.isSome z_1) then
    k (Option.getD z_1 default)
    else none
def spec_l2Empty_p (F : Nat) (b0 : List Int) : Option (List (List Int)) := spec_l2Empty_c _ F b0 some
theorem spec_l2Empty_cp (Q : Type) (F : Nat) (b0 : List Int) (k : (List (List Int)) → Option Q) : spec_l2Empty_c Q F b0 k = (spec_l2Empty_p F b0).bind k := by
  simp only [spec_l2Empty_p, spec_l2Empty_c, cond_bindL, none_bindL, some_bindL]

/-- loop 7 of loop.example/g01194/spec.l5Steps -/
def spec_l5Steps_s7 (F : Nat) (d0 : Int) (empty7 : List (List Int)) (Q : Type) : (Int × List (List Int)) → ((Int × List (List Int)) → Option Q) → ((List (List Int)) → Option Q) → Option Q
  | (i5, out6), kn, kx =>
    let z_1 : Bool := (inR i5 (List.length empty7))
    let z_2 : List Int := (splice [d0, (0 : Int), (0 : Int), (0 : Int)] 1 (rget empty7 ((0 : Nat) + (Int.toNat i5))) 2)
    let z_3 : List (List Int) := ((subn (List.length out6) out6 0 (List.length out6)) ++ [(iset z_2 3 (1 : Int)), (iset z_2 3 (2 : Int))])
    bif (decide (i5 < (((List.length empty7) : Nat) : Int))) then
    bif z_1 then
    bif z_1 then
    bif (fits (List.length z_3) 32) then
    kn ((IntKind.wrap .i64 (i5 + (1 : Int))), z_3)
    else none
    else none
    else none
    else kx out6
def spec_l5Steps_l7 (F : Nat) (d0 : Int) (empty7 : List (List Int)) (i5 : Int) (out6 : List (List Int)) : Option (List (List Int)) := loopC (spec_l5Steps_s7 F d0 empty7) F (i5, out6) some
theorem spec_l5Steps_s7_nat (F : Nat) (d0 : Int) (empty7 : List (List Int)) : Natural (spec_l5Steps_s7 F d0 empty7) := by
  intro Q Q' s kn kx h
  obtain ⟨i5, out6⟩ := s
  simp only [spec_l5Steps_s7, cond_bindL, none_bindL]
/-- loop.example/g01194/spec.l5Steps -/
def spec_l5Steps_c (Q : Type) (F : Nat) (b0 : List Int) (d1 : Int) (k : (List (List Int)) → Option Q) : Option Q :=
    let z_1 := (spec_l2Slide_p F b0 d1)
    let z_2 := (spec_l2Empty_p F (Option.getD z_1 default).1)
    let z_3 : Nat := (List.length (Option.getD z_2 default))
    let z_4 := (spec_l5Steps_l7 F d1 (Option.getD z_2 default) (0 : Int) ([] : List (List Int)))
    bif (Option.isSome z_1) then
    bif ((Option.getD z_1 default).1 == b0) then
    k ([] : List (List Int))
    else bif (Option.isSome z_2) then
    bif ((Nat.beq z_3 z_3) && (Option.isSome z_4)) then
    k (Option.getD z_4 default)
    else none
    else none
    else none
def spec_l5Steps_p (F : Nat) (b0 : List Int) (d1 : Int) : Option (List (List Int)) := spec_l5Steps_c _ F b0 d1 some
theorem spec_l5Steps_cp (Q : Type) (F : Nat) (b0 : List Int) (d1 : Int) (k : (List (List Int)) → Option Q) : spec_l5Steps_c Q F b0 d1 k = (spec_l5Steps_p F b0 d1).bind k := by
  simp only [spec_l5Steps_p, spec_l5Steps_c, cond_bindL, none_bindL, some_bindL]
end Go.Lv.P
