/-
Pure functions and what the code of them does, by program; without conditions.
-/
import Derived.Test.YtplclbkelohajaaTFP4
namespace Go.Lv.P
open Go Go.Lv
set_option linter.unusedVariables false
set_option linter.unusedSimpArgs false
set_option maxRecDepth 100000
/-- loop 5 of slices.DeleteFunc[[][3]int,[3]int] -/
def slices_DeleteFunc_3int3int_impl_DeadPlaces_f1_s5 (F : Nat) (s1 : Nat) (del8 : List Int) (Q : Type) : (Int × Int × List (List Int)) → ((Int × Int × List (List Int)) → Option Q) → ((Int × List (List Int)) → Option Q) → Option Q
  | (i5, j6, s7), kn, kx =>
    let z_1 : List Int := (rget s7 ((0 : Nat) + (Int.toNat j6)))
    let z_2 := (impl_DeadPlaces_f1_p F z_1 del8)
    let z_3 : Int := (IntKind.wrap .i64 (j6 + (1 : Int)))
    bif (decide (j6 < ((s1 : Nat) : Int))) then
    bif (inR j6 s1) then
    bif (Option.isSome z_2) then
    bif (!(Option.getD z_2 default)) then
    bif (inR i5 s1) then
    kn ((IntKind.wrap .i64 (i5 + (1 : Int))), z_3, (rset s7 ((0 : Nat) + (Int.toNat i5)) z_1))
    else none
    else kn (i5, z_3, s7)
    else none
    else none
    else kx (i5, s7)
def slices_DeleteFunc_3int3int_impl_DeadPlaces_f1_l5 (F : Nat) (s1 : Nat) (del8 : List Int) (i5 : Int) (j6 : Int) (s7 : List (List Int)) : Option (Int × List (List Int)) := loopC (slices_DeleteFunc_3int3int_impl_DeadPlaces_f1_s5 F s1 del8) F (i5, j6, s7) some
theorem slices_DeleteFunc_3int3int_impl_DeadPlaces_f1_s5_nat (F : Nat) (s1 : Nat) (del8 : List Int) : Natural (slices_DeleteFunc_3int3int_impl_DeadPlaces_f1_s5 F s1 del8) := by
  intro Q Q' s kn kx h
  obtain ⟨i5, j6, s7⟩ := s
  simp only [slices_DeleteFunc_3int3int_impl_DeadPlaces_f1_s5, cond_bindL, none_bindL]
/-- slices.DeleteFunc[[][3]int,[3]int] -/
def slices_DeleteFunc_3int3int_impl_DeadPlaces_f1_c (Q : Type) (F : Nat) (s5 : List (List Int)) (del6 : List Int) (k : (Nat × List (List Int)) → Option Q) : Option Q :=
    let z_1 := (slices_IndexFunc_3int3int_impl_DeadPlaces_f1_p F (subn (List.length s5) s5 0 (List.length s5)) del6)
    let z_2 := (slices_DeleteFunc_3int3int_impl_DeadPlaces_f1_l5 F (List.length s5) del6 (Option.getD z_1 default) (IntKind.wrap .i64 ((Option.getD z_1 default) + (1 : Int))) s5)
    let z_3 := (Option.getD z_2 default)
    let z_4 : Bool := (inLe z_3.1 (List.length s5))
    let z_5 : Nat := (Int.toNat z_3.1)
    let z_6 : Nat := ((List.length s5) - z_5)
    bif (Option.isSome z_1) then
    bif ((Option.getD z_1 default) == (-1 : Int)) then
    k ((List.length s5), s5)
    else bif (Option.isSome z_2) then
    bif z_4 then
    bif z_4 then
    k ((z_5 - (0 : Nat)), (splice z_3.2 ((0 : Nat) + z_5) (List.replicate z_6 [(0 : Int), (0 : Int), (0 : Int)]) z_6))
    else none
    else none
    else none
    else none
def slices_DeleteFunc_3int3int_impl_DeadPlaces_f1_p (F : Nat) (s5 : List (List Int)) (del6 : List Int) : Option (Nat × List (List Int)) := slices_DeleteFunc_3int3int_impl_DeadPlaces_f1_c _ F s5 del6 some
theorem slices_DeleteFunc_3int3int_impl_DeadPlaces_f1_cp (Q : Type) (F : Nat) (s5 : List (List Int)) (del6 : List Int) (k : (Nat × List (List Int)) → Option Q) : slices_DeleteFunc_3int3int_impl_DeadPlaces_f1_c Q F s5 del6 k = (slices_DeleteFunc_3int3int_impl_DeadPlaces_f1_p F s5 del6).bind k := by
  simp only [slices_DeleteFunc_3int3int_impl_DeadPlaces_f1_p, slices_DeleteFunc_3int3int_impl_DeadPlaces_f1_c, cond_bindL, none_bindL, some_bindL]

/-- loop.example/g01194/impl.DeadPlaces -/
def impl_DeadPlaces_c (Q : Type) (F : Nat) (b0 : List Int) (k : (Nat × Bool × List (List Int)) → Option Q) : Option Q :=
    let z_1 := (impl_IsBoard_p F b0)
    let z_2 := (impl_Board_placements_p F b0)
    let z_3 : Nat := (List.length (Option.getD z_2 default))
    let z_4 := (slices_DeleteFunc_3int3int_impl_DeadPlaces_f1_p F (Option.getD z_2 default) b0)
    let z_5 := (Option.getD z_4 default)
    bif (Option.isSome z_1) then
    bif (!(Option.getD z_1 default)) then
    k ((0 : Nat), false, ([] : List (List Int)))
    else bif (Option.isSome z_2) then
    bif ((Nat.beq z_3 z_3) && (Option.isSome z_4)) then
    k (z_5.1, true, z_5.2)
    else none
    else none
    else none
def impl_DeadPlaces_p (F : Nat) (b0 : List Int) : Option (Nat × Bool × List (List Int)) := impl_DeadPlaces_c _ F b0 some
theorem impl_DeadPlaces_cp (Q : Type) (F : Nat) (b0 : List Int) (k : (Nat × Bool × List (List Int)) → Option Q) : impl_DeadPlaces_c Q F b0 k = (impl_DeadPlaces_p F b0).bind k := by
  simp only [impl_DeadPlaces_p, impl_DeadPlaces_c, cond_bindL, none_bindL, some_bindL]

/-- loop 4 of loop.example/g01194/laws.eqIntA3S -/
def laws_eqIntA3S_s4 (F : Nat) (a0 : List (List Int)) (b1 : List (List Int)) (Q : Type) : (Int) → ((Int) → Option Q) → ((Bool) → Option Q) → Option Q
  | i2, kn, kx =>
    let z_1 := (laws_eqIntA3_p F (rget a0 (Int.toNat i2)) (rget b1 (Int.toNat i2)))
    bif (decide (i2 < (((List.length a0) : Nat) : Int))) then
    bif (inR i2 (List.length a0)) then
    bif (inR i2 (List.length b1)) then
    bif (Option.isSome z_1) then
    bif (!(Option.getD z_1 default)) then
    kx true
    else kn (IntKind.wrap .i64 (i2 + (1 : Int)))
    else none
    else none
    else none
    else kx false
def laws_eqIntA3S_l4 (F : Nat) (a0 : List (List Int)) (b1 : List (List Int)) (i2 : Int) : Option (Bool) := loopC (laws_eqIntA3S_s4 F a0 b1) F i2 some
theorem laws_eqIntA3S_s4_nat (F : Nat) (a0 : List (List Int)) (b1 : List (List Int)) : Natural (laws_eqIntA3S_s4 F a0 b1) := by
  intro Q Q' s kn kx h
  simp only [laws_eqIntA3S_s4, cond_bindL, none_bindL]
/-- loop.example/g01194/laws.eqIntA3S -/
def laws_eqIntA3S_c (Q : Type) (F : Nat) (a0 : List (List Int)) (b1 : List (List Int)) (k : (Bool) → Option Q) : Option Q :=
    let z_1 := (laws_eqIntA3S_l4 F a0 b1 (0 : Int))
    bif (!((((List.length a0) : Nat) : Int) == (((List.length b1) : Nat) : Int))) then
    k false
    else bif (Option.isSome z_1) then
    bif (Option.getD z_1 default) then
    k false
    else k true
    else none
def laws_eqIntA3S_p (F : Nat) (a0 : List (List Int)) (b1 : List (List Int)) : Option (Bool) := laws_eqIntA3S_c _ F a0 b1 some
theorem laws_eqIntA3S_cp (Q : Type) (F : Nat) (a0 : List (List Int)) (b1 : List (List Int)) (k : (Bool) → Option Q) : laws_eqIntA3S_c Q F a0 b1 k = (laws_eqIntA3S_p F a0 b1).bind k := by
  simp only [laws_eqIntA3S_p, laws_eqIntA3S_c, cond_bindL, none_bindL, some_bindL]

/-- loop 5 of loop.example/g01194/laws.markIntA3S -/
def laws_markIntA3S_s5 (F : Nat) (a1 : Nat) (i3 : Int) (Q : Type) : (Int × Int × List (List Int)) → ((Int × Int × List (List Int)) → Option Q) → ((Int × List (List Int)) → Option Q) → Option Q
  | (k2, j4, a5), kn, kx =>
    bif (decide (j4 < (3 : Int))) then
    bif (inR i3 a1) then
    bif (inR j4 3) then
    kn ((IntKind.wrap .i64 (k2 + (1 : Int))), (IntKind.wrap .i64 (j4 + (1 : Int))), (rset a5 ((0 : Nat) + (Int.toNat i3)) (iset (rget a5 ((0 : Nat) + (Int.toNat i3))) ((0 : Nat) + ((Int.toNat j4) * (1 : Nat))) k2)))
    else none
    else none
    else kx (k2, a5)
def laws_markIntA3S_l5 (F : Nat) (a1 : Nat) (i3 : Int) (k2 : Int) (j4 : Int) (a5 : List (List Int)) : Option (Int × List (List Int)) := loopC (laws_markIntA3S_s5 F a1 i3) F (k2, j4, a5) some
theorem laws_markIntA3S_s5_nat (F : Nat) (a1 : Nat) (i3 : Int) : Natural (laws_markIntA3S_s5 F a1 i3) := by
  intro Q Q' s kn kx h
  obtain ⟨k2, j4, a5⟩ := s
  simp only [laws_markIntA3S_s5, cond_bindL, none_bindL]
/-- loop 2 of loop.example/g01194/laws.markIntA3S -/
def laws_markIntA3S_s2 (F : Nat) (a1 : Nat) (Q : Type) : (Int × Int × List (List Int)) → ((Int × Int × List (List Int)) → Option Q) → ((Int × List (List Int)) → Option Q) → Option Q
  | (k2, i3, a4), kn, kx =>
    let z_1 := (laws_markIntA3S_l5 F a1 i3 k2 (0 : Int) a4)
    let z_2 := (Option.getD z_1 default)
    bif (decide (i3 < ((a1 : Nat) : Int))) then
    bif (Option.isSome z_1) then
    kn (z_2.1, (IntKind.wrap .i64 (i3 + (1 : Int))), z_2.2)
    else none
    else kx (k2, a4)
def laws_markIntA3S_l2 (F : Nat) (a1 : Nat) (k2 : Int) (i3 : Int) (a4 : List (List Int)) : Option (Int × List (List Int)) := loopC (laws_markIntA3S_s2 F a1) F (k2, i3, a4) some
theorem laws_markIntA3S_s2_nat (F : Nat) (a1 : Nat) : Natural (laws_markIntA3S_s2 F a1) := by
  intro Q Q' s kn kx h
  obtain ⟨k2, i3, a4⟩ := s
  simp only [laws_markIntA3S_s2, cond_bindL, none_bindL]
/-- loop.example/g01194/laws.markIntA3S -/
def laws_markIntA3S_c (Q : Type) (F : Nat) (a1 : Nat) (k2 : Int) (a3 : List (List Int)) (k : (Int × List (List Int)) → Option Q) : Option Q :=
    let z_1 := (laws_markIntA3S_l2 F a1 k2 (0 : Int) a3)
    let z_2 := (Option.getD z_1 default)
    bif (Option.isSome z_1) then
    k (z_2.1, z_2.2)
    else none
def laws_markIntA3S_p (F : Nat) (a1 : Nat) (k2 : Int) (a3 : List (List Int)) : Option (Int × List (List Int)) := laws_markIntA3S_c _ F a1 k2 a3 some
theorem laws_markIntA3S_cp (Q : Type) (F : Nat) (a1 : Nat) (k2 : Int) (a3 : List (List Int)) (k : (Int × List (List Int)) → Option Q) : laws_markIntA3S_c Q F a1 k2 a3 k = (laws_markIntA3S_p F a1 k2 a3).bind k := by
  simp only [laws_markIntA3S_p, laws_markIntA3S_c, cond_bindL, none_bindL, some_bindL]

/-- loop 5 of loop.example/g01194/laws.heldIntA3S -/
def laws_heldIntA3S_s5 (F : Nat) (a0 : List (List Int)) (i2 : Int) (Q : Type) : (Int × Int) → ((Int × Int) → Option Q) → ((Bool × Int) → Option Q) → Option Q
  | (k1, j3), kn, kx =>
    bif (decide (j3 < (3 : Int))) then
    bif (inR i2 (List.length a0)) then
    bif (inR j3 3) then
    bif (!((iget (rget a0 (Int.toNat i2)) ((0 : Nat) + ((Int.toNat j3) * (1 : Nat)))) == k1)) then
    kx (true, default)
    else kn ((IntKind.wrap .i64 (k1 + (1 : Int))), (IntKind.wrap .i64 (j3 + (1 : Int))))
    else none
    else none
    else kx (false, k1)
def laws_heldIntA3S_l5 (F : Nat) (a0 : List (List Int)) (i2 : Int) (k1 : Int) (j3 : Int) : Option (Bool × Int) := loopC (laws_heldIntA3S_s5 F a0 i2) F (k1, j3) some
theorem laws_heldIntA3S_s5_nat (F : Nat) (a0 : List (List Int)) (i2 : Int) : Natural (laws_heldIntA3S_s5 F a0 i2) := by
  intro Q Q' s kn kx h
  obtain ⟨k1, j3⟩ := s
  simp only [laws_heldIntA3S_s5, cond_bindL, none_bindL]
/-- loop 2 of loop.example/g01194/laws.heldIntA3S -/
def laws_heldIntA3S_s2 (F : Nat) (a0 : List (List Int)) (Q : Type) : (Int × Int) → ((Int × Int) → Option Q) → ((Bool × Int) → Option Q) → Option Q
  | (k1, i2), kn, kx =>
    let z_1 := (laws_heldIntA3S_l5 F a0 i2 k1 (0 : Int))
    let z_2 := (Option.getD z_1 default)
    bif (decide (i2 < (((List.length a0) : Nat) : Int))) then
    bif (Option.isSome z_1) then
    bif z_2.1 then
    kx (true, default)
    else kn (z_2.2, (IntKind.wrap .i64 (i2 + (1 : Int))))
    else none
    else kx (false, k1)
def laws_heldIntA3S_l2 (F : Nat) (a0 : List (List Int)) (k1 : Int) (i2 : Int) : Option (Bool × Int) := loopC (laws_heldIntA3S_s2 F a0) F (k1, i2) some
theorem laws_heldIntA3S_s2_nat (F : Nat) (a0 : List (List Int)) : Natural (laws_heldIntA3S_s2 F a0) := by
  intro Q Q' s kn kx h
  obtain ⟨k1, i2⟩ := s
  simp only [laws_heldIntA3S_s2, cond_bindL, none_bindL]
/-- loop.example/g01194/laws.heldIntA3S -/
def laws_heldIntA3S_c (Q : Type) (F : Nat) (a0 : List (List Int)) (k1 : Int) (k : (Int) → Option Q) : Option Q :=
    let z_1 := (laws_heldIntA3S_l2 F a0 k1 (0 : Int))
    let z_2 := (Option.getD z_1 default)
    bif (Option.isSome z_1) then
    bif z_2.1 then
    k (-1 : Int)
    else k z_2.2
    else none
def laws_heldIntA3S_p (F : Nat) (a0 : List (List Int)) (k1 : Int) : Option (Int) := laws_heldIntA3S_c _ F a0 k1 some
theorem laws_heldIntA3S_cp (Q : Type) (F : Nat) (a0 : List (List Int)) (k1 : Int) (k : (Int) → Option Q) : laws_heldIntA3S_c Q F a0 k1 k = (laws_heldIntA3S_p F a0 k1).bind k := by
  simp only [laws_heldIntA3S_p, laws_heldIntA3S_c, cond_bindL, none_bindL, some_bindL]

/-- loop.example/g01194/laws.FnExactDeadPlaces -/
def laws_FnExactDeadPlaces_c (Q : Type) (F : Nat) (aB0 : List Int) (k : (Bool) → Option Q) : Option Q :=
    let z_1 := (spec_DeadPlaces_p F (laws_toBoard_v aB0))
    let z_2 := (impl_DeadPlaces_p F (laws_toBoard_v aB0))
    let z_3 : Bool := (Option.isSome z_2)
    let z_4 := (Option.getD z_2 default)
    let z_5 := (Option.getD z_1 default)
    let z_6 : Nat := (List.length z_5.2)
    let z_7 := (laws_eqIntA3S_p F (subn (List.length z_4.2.2) z_4.2.2 0 z_4.1) (subn z_6 z_5.2 0 z_6))
    let z_8 : Bool := (Option.isSome z_7)
    let z_9 : Bool := (!(Option.getD z_7 default))
    let z_10 : Bool := (!(z_4.2.1 == z_5.1))
    let z_11 := (laws_markIntA3S_p F z_4.1 (1 : Int) z_4.2.2)
    let z_12 := (Option.getD z_11 default)
    let z_13 := (laws_heldIntA3S_p F (subn (List.length z_12.2) z_12.2 0 z_4.1) (1 : Int))
    let z_14 : Bool := (Option.isSome z_13)
    let z_15 : Bool := (decide ((Option.getD z_13 default) < (0 : Int)))
    let z_16 : Bool := (!((Option.getD z_13 default) == z_12.1))
    bif (Option.isSome z_1) then
    bif z_3 then
    bif z_8 then
    bif z_9 then
    k false
    else bif z_10 then
    k false
    else bif (Option.isSome z_11) then
    bif z_14 then
    bif z_15 then
    k false
    else bif z_16 then
    k false
    else bif z_3 then
    bif z_8 then
    bif z_9 then
    k false
    else bif z_10 then
    k false
    else bif z_14 then
    bif z_15 then
    k false
    else bif z_16 then
    k false
    else k true
    else none
    else none
    else none
    else none
    else none
    else none
    else none
    else none
def laws_FnExactDeadPlaces_p (F : Nat) (aB0 : List Int) : Option (Bool) := laws_FnExactDeadPlaces_c _ F aB0 some
theorem laws_FnExactDeadPlaces_cp (Q : Type) (F : Nat) (aB0 : List Int) (k : (Bool) → Option Q) : laws_FnExactDeadPlaces_c Q F aB0 k = (laws_FnExactDeadPlaces_p F aB0).bind k := by
  simp only [laws_FnExactDeadPlaces_p, laws_FnExactDeadPlaces_c, cond_bindL, none_bindL, some_bindL]
end Go.Lv.P
