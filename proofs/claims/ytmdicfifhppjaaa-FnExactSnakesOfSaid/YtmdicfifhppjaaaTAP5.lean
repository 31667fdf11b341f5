/-
Pure functions and what the code of them does, by program; without conditions.
-/
import Derived.Test.YtmdicfifhppjaaaTAP4
namespace Go.Lv.P
open Go Go.Lv
set_option linter.unusedVariables false
set_option linter.unusedSimpArgs false
set_option maxRecDepth 100000
/-- loop 2 of slices.IsSorted[[]int,int] -/
def slices_IsSorted_intint_s2 (F : Nat) (x0 : List Int) (Q : Type) : (Int) → ((Int) → Option Q) → ((Bool) → Option Q) → Option Q
  | i1, kn, kx =>
    let z_1 : Int := (IntKind.wrap .i64 (i1 - (1 : Int)))
    bif (decide ((0 : Int) < i1)) then
    bif (inR i1 (List.length x0)) then
    bif (inR z_1 (List.length x0)) then
    bif (cmp_Less_int_v (iget x0 (Int.toNat i1)) (iget x0 (Int.toNat z_1))) then
    kx true
    else kn z_1
    else none
    else none
    else kx false
def slices_IsSorted_intint_l2 (F : Nat) (x0 : List Int) (i1 : Int) : Option (Bool) := loopC (slices_IsSorted_intint_s2 F x0) F i1 some
theorem slices_IsSorted_intint_s2_nat (F : Nat) (x0 : List Int) : Natural (slices_IsSorted_intint_s2 F x0) := by
  intro Q Q' s kn kx h
  simp only [slices_IsSorted_intint_s2, cond_bindL, none_bindL]
/-- slices.IsSorted[[]int,int] -/
def slices_IsSorted_intint_c (Q : Type) (F : Nat) (x0 : List Int) (k : (Bool) → Option Q) : Option Q :=
    let z_1 := (slices_IsSorted_intint_l2 F x0 (IntKind.wrap .i64 ((((List.length x0) : Nat) : Int) - (1 : Int))))
    bif (Option.isSome z_1) then
    bif (Option.getD z_1 default) then
    k false
    else k true
    else none
def slices_IsSorted_intint_p (F : Nat) (x0 : List Int) : Option (Bool) := slices_IsSorted_intint_c _ F x0 some
theorem slices_IsSorted_intint_cp (Q : Type) (F : Nat) (x0 : List Int) (k : (Bool) → Option Q) : slices_IsSorted_intint_c Q F x0 k = (slices_IsSorted_intint_p F x0).bind k := by
  simp only [slices_IsSorted_intint_p, slices_IsSorted_intint_c, cond_bindL, none_bindL, some_bindL]

/-- loop 5 of loop.example/g01194/impl.SnakesOf -/
def impl_SnakesOf_s5 (F : Nat) (b6 : List Int) (Q : Type) : (Int × List Int) → ((Int × List Int) → Option Q) → ((List Int) → Option Q) → Option Q
  | (t135, out7), kn, kx =>
    let z_1 := (impl_snake_p F t135)
    let z_2 := (impl_Board_at_p (sub (Option.getD z_1 default) 0 2) b6)
    let z_3 := (impl_Board_at_p (sub (Option.getD z_1 default) 2 2) b6)
    let z_4 := (impl_Board_at_p (sub (Option.getD z_1 default) 4 2) b6)
    let z_5 := (impl_Board_at_p (sub (Option.getD z_1 default) 6 2) b6)
    let z_6 := (impl_Board_at_p (sub (Option.getD z_1 default) 8 2) b6)
    let z_7 := (impl_Board_at_p (sub (Option.getD z_1 default) 10 2) b6)
    let z_8 := (impl_Board_at_p (sub (Option.getD z_1 default) 12 2) b6)
    let z_9 := (impl_Board_at_p (sub (Option.getD z_1 default) 14 2) b6)
    let z_10 := (impl_Board_at_p (sub (Option.getD z_1 default) 16 2) b6)
    let z_11 := (impl_Board_at_p (sub (Option.getD z_1 default) 18 2) b6)
    let z_12 := (impl_Board_at_p (sub (Option.getD z_1 default) 20 2) b6)
    let z_13 := (impl_Board_at_p (sub (Option.getD z_1 default) 22 2) b6)
    let z_14 := (impl_Board_at_p (sub (Option.getD z_1 default) 24 2) b6)
    let z_15 := (impl_Board_at_p (sub (Option.getD z_1 default) 26 2) b6)
    let z_16 := (impl_Board_at_p (sub (Option.getD z_1 default) 28 2) b6)
    let z_17 := (impl_Board_at_p (sub (Option.getD z_1 default) 30 2) b6)
    let z_18 := (slices_IsSorted_intint_p F [(IntKind.wrap .i64 ((0 : Int) - (iget b6 (Option.getD z_2 default)))), (IntKind.wrap .i64 ((0 : Int) - (iget b6 (Option.getD z_3 default)))), (IntKind.wrap .i64 ((0 : Int) - (iget b6 (Option.getD z_4 default)))), (IntKind.wrap .i64 ((0 : Int) - (iget b6 (Option.getD z_5 default)))), (IntKind.wrap .i64 ((0 : Int) - (iget b6 (Option.getD z_6 default)))), (IntKind.wrap .i64 ((0 : Int) - (iget b6 (Option.getD z_7 default)))), (IntKind.wrap .i64 ((0 : Int) - (iget b6 (Option.getD z_8 default)))), (IntKind.wrap .i64 ((0 : Int) - (iget b6 (Option.getD z_9 default)))), (IntKind.wrap .i64 ((0 : Int) - (iget b6 (Option.getD z_10 default)))), (IntKind.wrap .i64 ((0 : Int) - (iget b6 (Option.getD z_11 default)))), (IntKind.wrap .i64 ((0 : Int) - (iget b6 (Option.getD z_12 default)))), (IntKind.wrap .i64 ((0 : Int) - (iget b6 (Option.getD z_13 default)))), (IntKind.wrap .i64 ((0 : Int) - (iget b6 (Option.getD z_14 default)))), (IntKind.wrap .i64 ((0 : Int) - (iget b6 (Option.getD z_15 default)))), (IntKind.wrap .i64 ((0 : Int) - (iget b6 (Option.getD z_16 default)))), (IntKind.wrap .i64 ((0 : Int) - (iget b6 (Option.getD z_17 default))))])
    let z_19 : List Int := ((subn (List.length out7) out7 0 (List.length out7)) ++ [t135])
    let z_20 : Int := (IntKind.wrap .i64 (t135 + (1 : Int)))
    bif (decide (t135 < (8 : Int))) then
    bif (Option.isSome z_1) then
    bif (Option.isSome z_2) then
    bif (Option.isSome z_3) then
    bif (Option.isSome z_4) then
    bif (Option.isSome z_5) then
    bif (Option.isSome z_6) then
    bif (Option.isSome z_7) then
    bif (Option.isSome z_8) then
    bif (Option.isSome z_9) then
    bif (Option.isSome z_10) then
    bif (Option.isSome z_11) then
    bif (Option.isSome z_12) then
    bif (Option.isSome z_13) then
    bif (Option.isSome z_14) then
    bif (Option.isSome z_15) then
    bif (Option.isSome z_16) then
    bif (Option.isSome z_17) then
    bif (Option.isSome z_18) then
    bif (Option.getD z_18 default) then
    bif (fits (List.length z_19) 8) then
    kn (z_20, z_19)
    else none
    else kn (z_20, out7)
    else none
    else none
    else none
    else none
    else none
    else none
    else none
    else none
    else none
    else none
    else none
    else none
    else none
    else none
    else none
    else none
    else none
    else none
    else kx out7
def impl_SnakesOf_l5 (F : Nat) (b6 : List Int) (t135 : Int) (out7 : List Int) : Option (List Int) := loopC (impl_SnakesOf_s5 F b6) F (t135, out7) some
theorem impl_SnakesOf_s5_nat (F : Nat) (b6 : List Int) : Natural (impl_SnakesOf_s5 F b6) := by
  intro Q Q' s kn kx h
  obtain ⟨t135, out7⟩ := s
  simp only [impl_SnakesOf_s5, cond_bindL, none_bindL]
/-- loop.example/g01194/impl.SnakesOf -/
def impl_SnakesOf_c (Q : Type) (F : Nat) (b0 : List Int) (k : (Bool × List Int) → Option Q) : Option Q :=
    let z_1 := (impl_IsBoard_p F b0)
    let z_2 := (impl_SnakesOf_l5 F b0 (0 : Int) ([] : List Int))
    bif (Option.isSome z_1) then
    bif (!(Option.getD z_1 default)) then
    k (false, ([] : List Int))
    else bif (Option.isSome z_2) then
    k (true, (Option.getD z_2 default))
    else none
    else none
def impl_SnakesOf_p (F : Nat) (b0 : List Int) : Option (Bool × List Int) := impl_SnakesOf_c _ F b0 some
theorem impl_SnakesOf_cp (Q : Type) (F : Nat) (b0 : List Int) (k : (Bool × List Int) → Option Q) : impl_SnakesOf_c Q F b0 k = (impl_SnakesOf_p F b0).bind k := by
  simp only [impl_SnakesOf_p, impl_SnakesOf_c, cond_bindL, none_bindL, some_bindL]

/-- loop 4 of loop.example/g01194/laws.eqIntS -/
def laws_eqIntS_s4 (F : Nat) (a0 : List Int) (b1 : List Int) (Q : Type) : (Int) → ((Int) → Option Q) → ((Bool) → Option Q) → Option Q
  | i2, kn, kx =>
    bif (decide (i2 < (((List.length a0) : Nat) : Int))) then
    bif (inR i2 (List.length a0)) then
    bif (inR i2 (List.length b1)) then
    bif (!((iget a0 (Int.toNat i2)) == (iget b1 (Int.toNat i2)))) then
    kx true
    else kn (IntKind.wrap .i64 (i2 + (1 : Int)))
    else none
    else none
    else kx false
def laws_eqIntS_l4 (F : Nat) (a0 : List Int) (b1 : List Int) (i2 : Int) : Option (Bool) := loopC (laws_eqIntS_s4 F a0 b1) F i2 some
theorem laws_eqIntS_s4_nat (F : Nat) (a0 : List Int) (b1 : List Int) : Natural (laws_eqIntS_s4 F a0 b1) := by
  intro Q Q' s kn kx h
  simp only [laws_eqIntS_s4, cond_bindL, none_bindL]
/-- loop.example/g01194/laws.eqIntS -/
def laws_eqIntS_c (Q : Type) (F : Nat) (a0 : List Int) (b1 : List Int) (k : (Bool) → Option Q) : Option Q :=
    let z_1 := (laws_eqIntS_l4 F a0 b1 (0 : Int))
    bif (!((((List.length a0) : Nat) : Int) == (((List.length b1) : Nat) : Int))) then
    k false
    else bif (Option.isSome z_1) then
    bif (Option.getD z_1 default) then
    k false
    else k true
    else none
def laws_eqIntS_p (F : Nat) (a0 : List Int) (b1 : List Int) : Option (Bool) := laws_eqIntS_c _ F a0 b1 some
theorem laws_eqIntS_cp (Q : Type) (F : Nat) (a0 : List Int) (b1 : List Int) (k : (Bool) → Option Q) : laws_eqIntS_c Q F a0 b1 k = (laws_eqIntS_p F a0 b1).bind k := by
  simp only [laws_eqIntS_p, laws_eqIntS_c, cond_bindL, none_bindL, some_bindL]

/-- loop 2 of loop.example/g01194/laws.markIntS -/
def laws_markIntS_s2 (F : Nat) (a1 : Nat) (Q : Type) : (Int × Int × List Int) → ((Int × Int × List Int) → Option Q) → ((Int × List Int) → Option Q) → Option Q
  | (k2, i3, a4), kn, kx =>
    bif (decide (i3 < ((a1 : Nat) : Int))) then
    bif (inR i3 a1) then
    kn ((IntKind.wrap .i64 (k2 + (1 : Int))), (IntKind.wrap .i64 (i3 + (1 : Int))), (iset a4 ((0 : Nat) + (Int.toNat i3)) k2))
    else none
    else kx (k2, a4)
def laws_markIntS_l2 (F : Nat) (a1 : Nat) (k2 : Int) (i3 : Int) (a4 : List Int) : Option (Int × List Int) := loopC (laws_markIntS_s2 F a1) F (k2, i3, a4) some
theorem laws_markIntS_s2_nat (F : Nat) (a1 : Nat) : Natural (laws_markIntS_s2 F a1) := by
  intro Q Q' s kn kx h
  obtain ⟨k2, i3, a4⟩ := s
  simp only [laws_markIntS_s2, cond_bindL, none_bindL]
/-- loop.example/g01194/laws.markIntS -/
def laws_markIntS_c (Q : Type) (F : Nat) (k2 : Int) (a3 : List Int) (k : (Int × List Int) → Option Q) : Option Q :=
    let z_1 := (laws_markIntS_l2 F (List.length a3) k2 (0 : Int) a3)
    let z_2 := (Option.getD z_1 default)
    bif (Option.isSome z_1) then
    k (z_2.1, z_2.2)
    else none
def laws_markIntS_p (F : Nat) (k2 : Int) (a3 : List Int) : Option (Int × List Int) := laws_markIntS_c _ F k2 a3 some
theorem laws_markIntS_cp (Q : Type) (F : Nat) (k2 : Int) (a3 : List Int) (k : (Int × List Int) → Option Q) : laws_markIntS_c Q F k2 a3 k = (laws_markIntS_p F k2 a3).bind k := by
  simp only [laws_markIntS_p, laws_markIntS_c, cond_bindL, none_bindL, some_bindL]

/-- loop 2 of loop.example/g01194/laws.heldIntS -/
def laws_heldIntS_s2 (F : Nat) (a0 : List Int) (Q : Type) : (Int × Int) → ((Int × Int) → Option Q) → ((Bool × Int) → Option Q) → Option Q
  | (k1, i2), kn, kx =>
    bif (decide (i2 < (((List.length a0) : Nat) : Int))) then
    bif (inR i2 (List.length a0)) then
    bif (!((iget a0 (Int.toNat i2)) == k1)) then
    kx (true, default)
    else kn ((IntKind.wrap .i64 (k1 + (1 : Int))), (IntKind.wrap .i64 (i2 + (1 : Int))))
    else none
    else kx (false, k1)
def laws_heldIntS_l2 (F : Nat) (a0 : List Int) (k1 : Int) (i2 : Int) : Option (Bool × Int) := loopC (laws_heldIntS_s2 F a0) F (k1, i2) some
theorem laws_heldIntS_s2_nat (F : Nat) (a0 : List Int) : Natural (laws_heldIntS_s2 F a0) := by
  intro Q Q' s kn kx h
  obtain ⟨k1, i2⟩ := s
  simp only [laws_heldIntS_s2, cond_bindL, none_bindL]
/-- loop.example/g01194/laws.heldIntS -/
def laws_heldIntS_c (Q : Type) (F : Nat) (a0 : List Int) (k1 : Int) (k : (Int) → Option Q) : Option Q :=
    let z_1 := (laws_heldIntS_l2 F a0 k1 (0 : Int))
    let z_2 := (Option.getD z_1 default)
    bif (Option.isSome z_1) then
    bif z_2.1 then
    k (-1 : Int)
    else k z_2.2
    else none
def laws_heldIntS_p (F : Nat) (a0 : List Int) (k1 : Int) : Option (Int) := laws_heldIntS_c _ F a0 k1 some
theorem laws_heldIntS_cp (Q : Type) (F : Nat) (a0 : List Int) (k1 : Int) (k : (Int) → Option Q) : laws_heldIntS_c Q F a0 k1 k = (laws_heldIntS_p F a0 k1).bind k := by
  simp only [laws_heldIntS_p, laws_heldIntS_c, cond_bindL, none_bindL, some_bindL]

/-- loop.example/g01194/laws.FnExactSnakesOf -/
def laws_FnExactSnakesOf_c (Q : Type) (F : Nat) (aB0 : List Int) (k : (Bool) → Option Q) : Option Q :=
    let z_1 := (spec_SnakesOf_p F (laws_toBoard_v aB0))
    let z_2 := (impl_SnakesOf_p F (laws_toBoard_v aB0))
    let z_3 : Bool := (Option.isSome z_2)
    let z_4 := (Option.getD z_2 default)
    let z_5 : Nat := (List.length z_4.2)
    let z_6 := (Option.getD z_1 default)
    let z_7 : Nat := (List.length z_6.2)
    let z_8 := (laws_eqIntS_p F (subn z_5 z_4.2 0 z_5) (subn z_7 z_6.2 0 z_7))
    let z_9 : Bool := (Option.isSome z_8)
    let z_10 : Bool := (!(Option.getD z_8 default))
    let z_11 : Bool := (!(z_4.1 == z_6.1))
    let z_12 := (laws_markIntS_p F (1 : Int) z_4.2)
    let z_13 := (Option.getD z_12 default)
    let z_14 := (laws_heldIntS_p F (subn (List.length z_13.2) z_13.2 0 z_5) (1 : Int))
    let z_15 : Bool := (Option.isSome z_14)
    let z_16 : Bool := (decide ((Option.getD z_14 default) < (0 : Int)))
    let z_17 : Bool := (!((Option.getD z_14 default) == z_13.1))
    bif (Option.isSome z_1) then
    bif z_3 then
    bif z_9 then
    bif z_10 then
    k false
    else bif z_11 then
    k false
    else bif ((Nat.beq z_5 z_5) && (Option.isSome z_12)) then
    bif z_15 then
    bif z_16 then
    k false
    else bif z_17 then
    k false
    else bif z_3 then
    bif z_9 then
    bif z_10 then
    k false
    else bif z_11 then
    k false
    else bif z_15 then
    bif z_16 then
    k false
    else bif z_17 then
    k false
    else k true
    else none
    else none
    else none
    else none
    else none
    else none
    else none
    else none
def laws_FnExactSnakesOf_p (F : Nat) (aB0 : List Int) : Option (Bool) := laws_FnExactSnakesOf_c _ F aB0 some
theorem laws_FnExactSnakesOf_cp (Q : Type) (F : Nat) (aB0 : List Int) (k : (Bool) → Option Q) : laws_FnExactSnakesOf_c Q F aB0 k = (laws_FnExactSnakesOf_p F aB0).bind k := by
  simp only [laws_FnExactSnakesOf_p, laws_FnExactSnakesOf_c, cond_bindL, none_bindL, some_bindL]
end Go.Lv.P
