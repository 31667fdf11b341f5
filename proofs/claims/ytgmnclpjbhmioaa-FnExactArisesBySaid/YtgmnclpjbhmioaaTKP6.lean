/-
Pure functions and what the code of them does, by program; without conditions.
-/
import Derived.Test.YtgmnclpjbhmioaaTKP5
namespace Go.Lv.P
open Go Go.Lv
set_option linter.unusedVariables false
set_option linter.unusedSimpArgs false
set_option maxRecDepth 100000
/-- loop 2 of loop.example/g01194/laws.eqIntA2 -/
def laws_eqIntA2_s2 (F : Nat) (a7 : List Int) (b8 : List Int) (Q : Type) : (Int) → ((Int) → Option Q) → ((Bool) → Option Q) → Option Q
  | i6, kn, kx =>
    let z_1 : Nat := ((0 : Nat) + ((Int.toNat i6) * (1 : Nat)))
    bif (decide (i6 < (2 : Int))) then
    bif (inR i6 2) then
    bif (inR i6 2) then
    bif (!((iget a7 z_1) == (iget b8 z_1))) then
    kx true
    else kn (IntKind.wrap .i64 (i6 + (1 : Int)))
    else none
    else none
    else kx false
def laws_eqIntA2_l2 (F : Nat) (a7 : List Int) (b8 : List Int) (i6 : Int) : Option (Bool) := loopC (laws_eqIntA2_s2 F a7 b8) F i6 some
theorem laws_eqIntA2_s2_nat (F : Nat) (a7 : List Int) (b8 : List Int) : Natural (laws_eqIntA2_s2 F a7 b8) := by
  intro Q Q' s kn kx h
  simp only [laws_eqIntA2_s2, cond_bindL, none_bindL]
/-- loop.example/g01194/laws.eqIntA2 -/
def laws_eqIntA2_c (Q : Type) (F : Nat) (a0 : List Int) (b1 : List Int) (k : (Bool) → Option Q) : Option Q :=
    let z_1 := (laws_eqIntA2_l2 F a0 b1 (0 : Int))
    bif (Option.isSome z_1) then
    bif (Option.getD z_1 default) then
    k false
    else k true
    else none
def laws_eqIntA2_p (F : Nat) (a0 : List Int) (b1 : List Int) : Option (Bool) := laws_eqIntA2_c _ F a0 b1 some
theorem laws_eqIntA2_cp (Q : Type) (F : Nat) (a0 : List Int) (b1 : List Int) (k : (Bool) → Option Q) : laws_eqIntA2_c Q F a0 b1 k = (laws_eqIntA2_p F a0 b1).bind k := by
  simp only [laws_eqIntA2_p, laws_eqIntA2_c, cond_bindL, none_bindL, some_bindL]

/-- loop 4 of loop.example/g01194/laws.eqIntA2S -/
def laws_eqIntA2S_s4 (F : Nat) (a0 : List (List Int)) (b1 : List (List Int)) (Q : Type) : (Int) → ((Int) → Option Q) → ((Bool) → Option Q) → Option Q
  | i2, kn, kx =>
    let z_1 := (laws_eqIntA2_p F (rget a0 (Int.toNat i2)) (rget b1 (Int.toNat i2)))
    bif (decide (i2 < (((List.length a0) : Nat) : Int))) then
    bif (inR i2 (List.length a0)) then
    bif (inR i2 (List.length b1)) then
    bif (Option.isSome z_1) then
    bif (!(Option.getD z_1 default)) then
    kx true
    else kn (IntKind.wrap .i64 (i2 + (1 : Int)))
    else none
    else none
    else none
    else kx false
def laws_eqIntA2S_l4 (F : Nat) (a0 : List (List Int)) (b1 : List (List Int)) (i2 : Int) : Option (Bool) := loopC (laws_eqIntA2S_s4 F a0 b1) F i2 some
theorem laws_eqIntA2S_s4_nat (F : Nat) (a0 : List (List Int)) (b1 : List (List Int)) : Natural (laws_eqIntA2S_s4 F a0 b1) := by
  intro Q Q' s kn kx h
  simp only [laws_eqIntA2S_s4, cond_bindL, none_bindL]
/-- loop.example/g01194/laws.eqIntA2S -/
def laws_eqIntA2S_c (Q : Type) (F : Nat) (a0 : List (List Int)) (b1 : List (List Int)) (k : (Bool) → Option Q) : Option Q :=
    let z_1 := (laws_eqIntA2S_l4 F a0 b1 (0 : Int))
    bif (!((((List.length a0) : Nat) : Int) == (((List.length b1) : Nat) : Int))) then
    k false
    else bif (Option.isSome z_1) then
    bif (Option.getD z_1 default) then
    k false
    else k true
    else none
def laws_eqIntA2S_p (F : Nat) (a0 : List (List Int)) (b1 : List (List Int)) : Option (Bool) := laws_eqIntA2S_c _ F a0 b1 some
theorem laws_eqIntA2S_cp (Q : Type) (F : Nat) (a0 : List (List Int)) (b1 : List (List Int)) (k : (Bool) → Option Q) : laws_eqIntA2S_c Q F a0 b1 k = (laws_eqIntA2S_p F a0 b1).bind k := by
  simp only [laws_eqIntA2S_p, laws_eqIntA2S_c, cond_bindL, none_bindL, some_bindL]

/-- loop 5 of loop.example/g01194/laws.markIntA2S -/
def laws_markIntA2S_s5 (F : Nat) (a1 : Nat) (i3 : Int) (Q : Type) : (Int × Int × List (List Int)) → ((Int × Int × List (List Int)) → Option Q) → ((Int × List (List Int)) → Option Q) → Option Q
  | (k2, j4, a5), kn, kx =>
    bif (decide (j4 < (2 : Int))) then
    bif (inR i3 a1) then
    bif (inR j4 2) then
    kn ((IntKind.wrap .i64 (k2 + (1 : Int))), (IntKind.wrap .i64 (j4 + (1 : Int))), (rset a5 ((0 : Nat) + (Int.toNat i3)) (iset (rget a5 ((0 : Nat) + (Int.toNat i3))) ((0 : Nat) + ((Int.toNat j4) * (1 : Nat))) k2)))
    else none
    else none
    else kx (k2, a5)
def laws_markIntA2S_l5 (F : Nat) (a1 : Nat) (i3 : Int) (k2 : Int) (j4 : Int) (a5 : List (List Int)) : Option (Int × List (List Int)) := loopC (laws_markIntA2S_s5 F a1 i3) F (k2, j4, a5) some
theorem laws_markIntA2S_s5_nat (F : Nat) (a1 : Nat) (i3 : Int) : Natural (laws_markIntA2S_s5 F a1 i3) := by
  intro Q Q' s kn kx h
  obtain ⟨k2, j4, a5⟩ := s
  simp only [laws_markIntA2S_s5, cond_bindL, none_bindL]
/-- loop 2 of loop.example/g01194/laws.markIntA2S -/
def laws_markIntA2S_s2 (F : Nat) (a1 : Nat) (Q : Type) : (Int × Int × List (List Int)) → ((Int × Int × List (List Int)) → Option Q) → ((Int × List (List Int)) → Option Q) → Option Q
  | (k2, i3, a4), kn, kx =>
    let z_1 := (laws_markIntA2S_l5 F a1 i3 k2 (0 : Int) a4)
    let z_2 := (Option.getD z_1 default)
    bif (decide (i3 < ((a1 : Nat) : Int))) then
    bif (Option.isSome z_1) then
    kn (z_2.1, (IntKind.wrap .i64 (i3 + (1 : Int))), z_2.2)
    else none
    else kx (k2, a4)
def laws_markIntA2S_l2 (F : Nat) (a1 : Nat) (k2 : Int) (i3 : Int) (a4 : List (List Int)) : Option (Int × List (List Int)) := loopC (laws_markIntA2S_s2 F a1) F (k2, i3, a4) some
theorem laws_markIntA2S_s2_nat (F : Nat) (a1 : Nat) : Natural (laws_markIntA2S_s2 F a1) := by
  intro Q Q' s kn kx h
  obtain ⟨k2, i3, a4⟩ := s
  simp only [laws_markIntA2S_s2, cond_bindL, none_bindL]
/-- loop.example/g01194/laws.markIntA2S -/
def laws_markIntA2S_c (Q : Type) (F : Nat) (a1 : Nat) (k2 : Int) (a3 : List (List Int)) (k : (Int × List (List Int)) → Option Q) : Option Q :=
    let z_1 := (laws_markIntA2S_l2 F a1 k2 (0 : Int) a3)
    let z_2 := (Option.getD z_1 default)
    bif (Option.isSome z_1) then
    k (z_2.1, z_2.2)
    else none
def laws_markIntA2S_p (F : Nat) (a1 : Nat) (k2 : Int) (a3 : List (List Int)) : Option (Int × List (List Int)) := laws_markIntA2S_c _ F a1 k2 a3 some
theorem laws_markIntA2S_cp (Q : Type) (F : Nat) (a1 : Nat) (k2 : Int) (a3 : List (List Int)) (k : (Int × List (List Int)) → Option Q) : laws_markIntA2S_c Q F a1 k2 a3 k = (laws_markIntA2S_p F a1 k2 a3).bind k := by
  simp only [laws_markIntA2S_p, laws_markIntA2S_c, cond_bindL, none_bindL, some_bindL]

/-- loop 5 of loop.example/g01194/laws.heldIntA2S -/
def laws_heldIntA2S_s5 (F : Nat) (a0 : List (List Int)) (i2 : Int) (Q : Type) : (Int × Int) → ((Int × Int) → Option Q) → ((Bool × Int) → Option Q) → Option Q
  | (k1, j3), kn, kx =>
    bif (decide (j3 < (2 : Int))) then
    bif (inR i2 (List.length a0)) then
    bif (inR j3 2) then
    bif (!((iget (rget a0 (Int.toNat i2)) ((0 : Nat) + ((Int.toNat j3) * (1 : Nat)))) == k1)) then
    kx (true, default)
    else kn ((IntKind.wrap .i64 (k1 + (1 : Int))), (IntKind.wrap .i64 (j3 + (1 : Int))))
    else none
    else none
    else kx (false, k1)
def laws_heldIntA2S_l5 (F : Nat) (a0 : List (List Int)) (i2 : Int) (k1 : Int) (j3 : Int) : Option (Bool × Int) := loopC (laws_heldIntA2S_s5 F a0 i2) F (k1, j3) some
theorem laws_heldIntA2S_s5_nat (F : Nat) (a0 : List (List Int)) (i2 : Int) : Natural (laws_heldIntA2S_s5 F a0 i2) := by
  intro Q Q' s kn kx h
  obtain ⟨k1, j3⟩ := s
  simp only [laws_heldIntA2S_s5, cond_bindL, none_bindL]
/-- loop 2 of loop.example/g01194/laws.heldIntA2S -/
def laws_heldIntA2S_s2 (F : Nat) (a0 : List (List Int)) (Q : Type) : (Int × Int) → ((Int × Int) → Option Q) → ((Bool × Int) → Option Q) → Option Q
  | (k1, i2), kn, kx =>
    let z_1 := (laws_heldIntA2S_l5 F a0 i2 k1 (0 : Int))
    let z_2 := (Option.getD z_1 default)
    bif (decide (i2 < (((List.length a0) : Nat) : Int))) then
    bif (Option.isSome z_1) then
    bif z_2.1 then
    kx (true, default)
    else kn (z_2.2, (IntKind.wrap .i64 (i2 + (1 : Int))))
    else none
    else kx (false, k1)
def laws_heldIntA2S_l2 (F : Nat) (a0 : List (List Int)) (k1 : Int) (i2 : Int) : Option (Bool × Int) := loopC (laws_heldIntA2S_s2 F a0) F (k1, i2) some
theorem laws_heldIntA2S_s2_nat (F : Nat) (a0 : List (List Int)) : Natural (laws_heldIntA2S_s2 F a0) := by
  intro Q Q' s kn kx h
  obtain ⟨k1, i2⟩ := s
  simp only [laws_heldIntA2S_s2, cond_bindL, none_bindL]
/-- loop.example/g01194/laws.heldIntA2S -/
def laws_heldIntA2S_c (Q : Type) (F : Nat) (a0 : List (List Int)) (k1 : Int) (k : (Int) → Option Q) : Option Q :=
    let z_1 := (laws_heldIntA2S_l2 F a0 k1 (0 : Int))
    let z_2 := (Option.getD z_1 default)
    bif (Option.isSome z_1) then
    bif z_2.1 then
    k (-1 : Int)
    else k z_2.2
    else none
def laws_heldIntA2S_p (F : Nat) (a0 : List (List Int)) (k1 : Int) : Option (Int) := laws_heldIntA2S_c _ F a0 k1 some
theorem laws_heldIntA2S_cp (Q : Type) (F : Nat) (a0 : List (List Int)) (k1 : Int) (k : (Int) → Option Q) : laws_heldIntA2S_c Q F a0 k1 k = (laws_heldIntA2S_p F a0 k1).bind k := by
  simp only [laws_heldIntA2S_p, laws_heldIntA2S_c, cond_bindL, none_bindL, some_bindL]

/-- loop.example/g01194/laws.FnExactArisesBy -/
def laws_FnExactArisesBy_c (Q : Type) (F : Nat) (aB0 : List Int) (k : (Bool) → Option Q) : Option Q :=
    let z_1 := (spec_ArisesBy_p F (laws_toBoard_v aB0))
    let z_2 := (impl_ArisesBy_p F (laws_toBoard_v aB0))
    let z_3 : Bool := (Option.isSome z_2)
    let z_4 := (Option.getD z_2 default)
    let z_5 := (Option.getD z_1 default)
    let z_6 : Nat := (List.length z_5.2)
    let z_7 := (laws_eqIntA2S_p F (subn (List.length z_4.2.2) z_4.2.2 0 z_4.1) (subn z_6 z_5.2 0 z_6))
    let z_8 : Bool := (Option.isSome z_7)
    let z_9 : Bool := (!(Option.getD z_7 default))
    let z_10 : Bool := (!(z_4.2.1 == z_5.1))
    let z_11 := (laws_markIntA2S_p F z_4.1 (1 : Int) z_4.2.2)
    let z_12 := (Option.getD z_11 default)
    let z_13 := (laws_heldIntA2S_p F (subn (List.length z_12.2) z_12.2 0 z_4.1) (1 : Int))
    let z_14 : Bool := (Option.isSome z_13)
    let z_15 : Bool := (decide ((Option.getD z_13 default) < (0 : Int)))
    let z_16 : Bool := (!((Option.getD z_13 default) == z_12.1))
    bif (Option.isSome z_1) then
    bif z_3 then
    bif z_8 then
    bif z_9 then
    k false
    else bif z_10 then
    k false
    else bif (Option.isSome z_11) then
    bif z_14 then
    bif z_15 then
    k false
    else bif z_16 then
    k false
    else bif z_3 then
    bif z_8 then
    bif z_9 then
    k false
    else bif z_10 then
    k false
    else bif z_14 then
    bif z_15 then
    k false
    else bif z_16 then
    k false
    else k true
    else none
    else none
    else none
    else none
    else none
    else none
    else none
    else none
def laws_FnExactArisesBy_p (F : Nat) (aB0 : List Int) : Option (Bool) := laws_FnExactArisesBy_c _ F aB0 some
theorem laws_FnExactArisesBy_cp (Q : Type) (F : Nat) (aB0 : List Int) (k : (Bool) → Option Q) : laws_FnExactArisesBy_c Q F aB0 k = (laws_FnExactArisesBy_p F aB0).bind k := by
  simp only [laws_FnExactArisesBy_p, laws_FnExactArisesBy_c, cond_bindL, none_bindL, some_bindL]

/-- loop 3 of loop.example/g01194/spec.l6Merged -/
def spec_l6Merged_s3 (F : Nat) (row12 : List Int) (Q : Type) : (Int × Int × Int × List Bool) → ((Int × Int × Int × List Bool) → Option Q) → ((List Bool) → Option Q) → Option Q
  | (n9, last10, k11, out14), kn, kx =>
    let z_1 : Int := (iget row12 ((0 : Nat) + ((Int.toNat k11) * (1 : Nat))))
    let z_2 : Int := (IntKind.wrap .i64 (k11 + (1 : Int)))
    let z_3 : Int := (IntKind.wrap .i64 (n9 - (1 : Int)))
    let z_4 : Bool := (inR z_3 4)
    let z_5 : Nat := ((0 : Nat) + ((Int.toNat z_3) * (1 : Nat)))
    let z_6 : Int := (IntKind.wrap .i64 (n9 + (1 : Int)))
    bif (decide (k11 < (4 : Int))) then
    bif (inR k11 4) then
    bif (z_1 == (0 : Int)) then
    kn (n9, last10, z_2, out14)
    else bif (decide ((0 : Int) < n9)) then
    bif (inR k11 4) then
    bif (last10 == z_1) then
    bif (inR k11 4) then
    bif (decide (z_1 < (17 : Int))) then
    bif z_4 then
    bif (!(bget out14 z_5)) then
    bif z_4 then
    kn (n9, (0 : Int), z_2, (bset out14 z_5 true))
    else none
    else bif (inR k11 4) then
    kn (z_6, z_1, z_2, out14)
    else none
    else none
    else bif (inR k11 4) then
    kn (z_6, z_1, z_2, out14)
    else none
    else none
    else bif (inR k11 4) then
    kn (z_6, z_1, z_2, out14)
    else none
    else none
    else bif (inR k11 4) then
    kn (z_6, z_1, z_2, out14)
    else none
    else none
    else kx out14
def spec_l6Merged_l3 (F : Nat) (row12 : List Int) (n9 : Int) (last10 : Int) (k11 : Int) (out14 : List Bool) : Option (List Bool) := loopC (spec_l6Merged_s3 F row12) F (n9, last10, k11, out14) some
theorem spec_l6Merged_s3_nat (F : Nat) (row12 : List Int) : Natural (spec_l6Merged_s3 F row12) := by
  intro Q Q' s kn kx h
  obtain ⟨n9, last10, k11, out14⟩ := s
  simp only [spec_l6Merged_s3, cond_bindL, none_bindL]
/-- loop.example/g01194/spec.l6Merged -/
def spec_l6Merged_c (Q : Type) (F : Nat) (row0 : List Int) (k : (List Bool) → Option Q) : Option Q :=
    let z_1 := (spec_l6Merged_l3 F row0 (0 : Int) (0 : Int) (0 : Int) [false, false, false, false])
    bif (Option.isSome z_1) then
    k (Option.getD z_1 default)
    else none
def spec_l6Merged_p (F : Nat) (row0 : List Int) : Option (List Bool) := spec_l6Merged_c _ F row0 some
theorem spec_l6Merged_cp (Q : Type) (F : Nat) (row0 : List Int) (k : (List Bool) → Option Q) : spec_l6Merged_c Q F row0 k = (spec_l6Merged_p F row0).bind k := by
  simp only [spec_l6Merged_p, spec_l6Merged_c, cond_bindL, none_bindL, some_bindL]

/-- loop 12 of loop.example/g01194/spec.l6Mergers -/
def spec_l6Mergers_s12 (F : Nat) (d0 : Int) (some1 : Bool) (still5 : Bool) (i9 : Int) (k13 : Int) (lists16 : List (List Int)) (lists17 : List (List Int)) (lists18 : List (List Int)) (lists19 : List (List Int)) (marks20 : List Int) (line21 : List Int) (Q : Type) : (Int × Int) → ((Int × Int) → Option Q) → ((Int) → Option Q) → Option Q
  | (yes14, n15), kn, kx =>
    let z_1 : List (List Int) := (llget [lists16, lists17, lists18, lists19] ((0 : Nat) + ((Int.toNat i9) * (1 : Nat))))
    let z_2 : Nat := (List.length z_1)
    let z_3 := (spec_l6Merged_p F (rget z_1 (Int.toNat n15)))
    let z_4 : Int := (IntKind.wrap .i64 (n15 + (1 : Int)))
    bif (inR i9 4) then
    bif (decide (n15 < ((z_2 : Nat) : Int))) then
    bif (inR i9 4) then
    bif (inR n15 z_2) then
    bif (Option.isSome z_3) then
    bif (inR k13 4) then
    bif (bget (Option.getD z_3 default) ((Int.toNat k13) * (1 : Nat))) then
    kn ((IntKind.wrap .i64 (yes14 + (1 : Int))), z_4)
    else kn (yes14, z_4)
    else none
    else none
    else none
    else none
    else kx yes14
    else none
def spec_l6Mergers_l12 (F : Nat) (d0 : Int) (some1 : Bool) (still5 : Bool) (i9 : Int) (k13 : Int) (lists16 : List (List Int)) (lists17 : List (List Int)) (lists18 : List (List Int)) (lists19 : List (List Int)) (marks20 : List Int) (line21 : List Int) (yes14 : Int) (n15 : Int) : Option (Int) := loopC (spec_l6Mergers_s12 F d0 some1 still5 i9 k13 lists16 lists17 lists18 lists19 marks20 line21) F (yes14, n15) some
theorem spec_l6Mergers_s12_nat (F : Nat) (d0 : Int) (some1 : Bool) (still5 : Bool) (i9 : Int) (k13 : Int) (lists16 : List (List Int)) (lists17 : List (List Int)) (lists18 : List (List Int)) (lists19 : List (List Int)) (marks20 : List Int) (line21 : List Int) : Natural (spec_l6Mergers_s12 F d0 some1 still5 i9 k13 lists16 lists17 lists18 lists19 marks20 line21) := by
  intro Q Q' s kn kx h
  obtain ⟨yes14, n15⟩ := s
  simp only [spec_l6Mergers_s12, cond_bindL, none_bindL]
/-- loop 8 of loop.example/g01194/spec.l6Mergers -/
def spec_l6Mergers_s8 (F : Nat) (d0 : Int) (some1 : Bool) (still5 : Bool) (i9 : Int) (lists14 : List (List Int)) (lists15 : List (List Int)) (lists16 : List (List Int)) (lists17 : List (List Int)) (line19 : List Int) (Q : Type) : (Int × List Int) → ((Int × List Int) → Option Q) → ((List Int) → Option Q) → Option Q
  | (k13, marks18), kn, kx =>
    let z_1 := (spec_l6Mergers_l12 F d0 some1 still5 i9 k13 lists14 lists15 lists16 lists17 marks18 line19 (0 : Int) (0 : Int))
    let z_2 : Nat := ((0 : Nat) + ((Int.toNat k13) * (2 : Nat)))
    let z_3 : Int := (iget line19 z_2)
    let z_4 : Bool := (inR z_3 4)
    let z_5 : Int := (iget line19 (z_2 + (1 : Nat)))
    let z_6 : Bool := (inR z_5 4)
    let z_7 : Int := (IntKind.wrap .i64 (k13 + (1 : Int)))
    let z_8 : List Int := (iset marks18 (((0 : Nat) + ((Int.toNat z_3) * (4 : Nat))) + ((Int.toNat z_5) * (1 : Nat))) (1 : Int))
    let z_9 : Bool := ((Option.getD z_1 default) == (((List.length (llget [lists14, lists15, lists16, lists17] ((0 : Nat) + ((Int.toNat i9) * (1 : Nat))))) : Nat) : Int))
    bif (decide (k13 < (4 : Int))) then
    bif (Option.isSome z_1) then
    bif some1 then
    bif (decide ((0 : Int) < (Option.getD z_1 default))) then
    bif (inR k13 4) then
    bif (inR k13 4) then
    bif z_4 then
    bif z_6 then
    kn (z_7, z_8)
    else none
    else none
    else none
    else none
    else bif (!some1) then
    bif (inR i9 4) then
    bif z_9 then
    bif (!still5) then
    bif (inR k13 4) then
    bif (inR k13 4) then
    bif z_4 then
    bif z_6 then
    kn (z_7, z_8)
    else none
    else none
    else none
    else none
    else kn (z_7, marks18)
    else kn (z_7, marks18)
    else none
    else kn (z_7, marks18)
    else bif (!some1) then
    bif (inR i9 4) then
    bif z_9 then
    bif (!still5) then
    bif (inR k13 4) then
    bif (inR k13 4) then
    bif z_4 then
    bif z_6 then
    kn (z_7, z_8)
    else none
    else none
    else none
    else none
    else kn (z_7, marks18)
    else kn (z_7, marks18)
    else none
    else kn (z_7, marks18)
    else none
    else kx marks18
def spec_l6Mergers_l8 (F : Nat) (d0 : Int) (some1 : Bool) (still5 : Bool) (i9 : Int) (lists14 : List (List Int)) (lists15 : List (List Int)) (lists16 : List (List Int)) (lists17 : List (List Int)) (line19 : List Int) (k13 : Int) (marks18 : List Int) : Option (List Int) := loopC (spec_l6Mergers_s8 F d0 some1 still5 i9 lists14 lists15 lists16 lists17 line19) F (k13, marks18) some
theorem spec_l6Mergers_s8_nat (F : Nat) (d0 : Int) (some1 : Bool) (still5 : Bool) (i9 : Int) (lists14 : List (List Int)) (lists15 : List (List Int)) (lists16 : List (List Int)) (lists17 : List (List Int)) (line19 : List Int) : Natural (spec_l6Mergers_s8 F d0 some1 still5 i9 lists14 lists15 lists16 lists17 line19) := by
  intro Q Q' s kn kx h
  obtain ⟨k13, marks18⟩ := s
  simp only [spec_l6Mergers_s8, cond_bindL, none_bindL]
/-- loop 4 of loop.example/g01194/spec.l6Mergers -/
def spec_l6Mergers_s4 (F : Nat) (d0 : Int) (some1 : Bool) (still5 : Bool) (lists10 : List (List Int)) (lists11 : List (List Int)) (lists12 : List (List Int)) (lists13 : List (List Int)) (Q : Type) : (Int × List Int) → ((Int × List Int) → Option Q) → ((List Int) → Option Q) → Option Q
  | (i9, marks14), kn, kx =>
    let z_1 := (spec_l2Line_p F d0 i9)
    let z_2 := (spec_l6Mergers_l8 F d0 some1 still5 i9 lists10 lists11 lists12 lists13 (Option.getD z_1 default) (0 : Int) marks14)
    bif (decide (i9 < (4 : Int))) then
    bif (Option.isSome z_1) then
    bif (Option.isSome z_2) then
    kn ((IntKind.wrap .i64 (i9 + (1 : Int))), (Option.getD z_2 default))
    else none
    else none
    else kx marks14
def spec_l6Mergers_l4 (F : Nat) (d0 : Int) (some1 : Bool) (still5 : Bool) (lists10 : List (List Int)) (lists11 : List (List Int)) (lists12 : List (List Int)) (lists13 : List (List Int)) (i9 : Int) (marks14 : List Int) : Option (List Int) := loopC (spec_l6Mergers_s4 F d0 some1 still5 lists10 lists11 lists12 lists13) F (i9, marks14) some
theorem spec_l6Mergers_s4_nat (F : Nat) (d0 : Int) (some1 : Bool) (still5 : Bool) (lists10 : List (List Int)) (lists11 : List (List Int)) (lists12 : List (List Int)) (lists13 : List (List Int)) : Natural (spec_l6Mergers_s4 F d0 some1 still5 lists10 lists11 lists12 lists13) := by
  intro Q Q' s kn kx h
  obtain ⟨i9, marks14⟩ := s
  simp only [spec_l6Mergers_s4, cond_bindL, none_bindL]
/-- loop 23 of loop.example/g01194/spec.l6Mergers -/
def spec_l6Mergers_s23 (F : Nat) (r5 : Int) (marks7 : List Int) (Q : Type) : (Int × List (List Int)) → ((Int × List (List Int)) → Option Q) → ((List (List Int)) → Option Q) → Option Q
  | (c6, out8), kn, kx =>
    let z_1 : List (List Int) := ((subn (List.length out8) out8 0 (List.length out8)) ++ [[r5, c6]])
    let z_2 : Int := (IntKind.wrap .i64 (c6 + (1 : Int)))
    bif (decide (c6 < (4 : Int))) then
    bif (inR r5 4) then
    bif (inR c6 4) then
    bif ((iget marks7 (((0 : Nat) + ((Int.toNat r5) * (4 : Nat))) + ((Int.toNat c6) * (1 : Nat)))) == (1 : Int)) then
    bif (fits (List.length z_1) 16) then
    kn (z_2, z_1)
    else none
    else kn (z_2, out8)
    else none
    else none
    else kx out8
def spec_l6Mergers_l23 (F : Nat) (r5 : Int) (marks7 : List Int) (c6 : Int) (out8 : List (List Int)) : Option (List (List Int)) := loopC (spec_l6Mergers_s23 F r5 marks7) F (c6, out8) some
theorem spec_l6Mergers_s23_nat (F : Nat) (r5 : Int) (marks7 : List Int) : Natural (spec_l6Mergers_s23 F r5 marks7) := by
  intro Q Q' s kn kx h
  obtain ⟨c6, out8⟩ := s
  simp only [spec_l6Mergers_s23, cond_bindL, none_bindL]
/-- loop 20 of loop.example/g01194/spec.l6Mergers -/
def spec_l6Mergers_s20 (F : Nat) (marks6 : List Int) (Q : Type) : (Int × List (List Int)) → ((Int × List (List Int)) → Option Q) → ((List (List Int)) → Option Q) → Option Q
  | (r5, out7), kn, kx =>
    let z_1 := (spec_l6Mergers_l23 F r5 marks6 (0 : Int) out7)
    bif (decide (r5 < (4 : Int))) then
    bif ((Nat.beq (List.length out7) (List.length out7)) && (Option.isSome z_1)) then
    kn ((IntKind.wrap .i64 (r5 + (1 : Int))), (Option.getD z_1 default))
    else none
    else kx out7
def spec_l6Mergers_l20 (F : Nat) (marks6 : List Int) (r5 : Int) (out7 : List (List Int)) : Option (List (List Int)) := loopC (spec_l6Mergers_s20 F marks6) F (r5, out7) some
theorem spec_l6Mergers_s20_nat (F : Nat) (marks6 : List Int) : Natural (spec_l6Mergers_s20 F marks6) := by
  intro Q Q' s kn kx h
  obtain ⟨r5, out7⟩ := s
  simp only [spec_l6Mergers_s20, cond_bindL, none_bindL]
/-- loop.example/g01194/spec.l6Mergers -/
def spec_l6Mergers_c (Q : Type) (F : Nat) (b0 : List Int) (d1 : Int) (some2 : Bool) (k : (List (List Int)) → Option Q) : Option Q :=
    let z_1 := (spec_l6Lists_p F b0 d1)
    let z_2 := (spec_l6Still_p F b0 d1)
    let z_3 := (Option.getD z_1 default)
    let z_4 := (spec_l6Mergers_l4 F d1 some2 (Option.getD z_2 default) z_3.1 z_3.2.1 z_3.2.2.1 z_3.2.2.2 (0 : Int) [(0 : Int), (0 : Int), (0 : Int), (0 : Int), (0 : Int), (0 : Int), (0 : Int), (0 : Int), (0 : Int), (0 : Int), (0 : Int), (0 : Int), (0 : Int), (0 : Int), (0 : Int), (0 : Int)])
    let z_5 := (spec_l6Mergers_l20 F (Option.getD z_4 default) (0 : Int) ([] : List (List Int)))
    bif (Option.isSome z_1) then
    bif (Option.isSome z_2) then
    bif (Option.isSome z_4) then
    bif (Option.isSome z_5) then
    k (Option.getD z_5 default)
    else none
    else none
    else none
    else none
def spec_l6Mergers_p (F : Nat) (b0 : List Int) (d1 : Int) (some2 : Bool) : Option (List (List Int)) := spec_l6Mergers_c _ F b0 d1 some2 some
theorem spec_l6Mergers_cp (Q : Type) (F : Nat) (b0 : List Int) (d1 : Int) (some2 : Bool) (k : (List (List Int)) → Option Q) : spec_l6Mergers_c Q F b0 d1 some2 k = (spec_l6Mergers_p F b0 d1 some2).bind k := by
  simp only [spec_l6Mergers_p, spec_l6Mergers_c, cond_bindL, none_bindL, some_bindL]

/-- loop.example/g01194/spec.CanMerge -/
def spec_CanMerge_c (Q : Type) (F : Nat) (b0 : List Int) (direction1 : Int) (k : (Bool × List (List Int)) → Option Q) : Option Q :=
    let z_1 := (spec_l2Board_p F b0)
    let z_2 := (spec_l6Count_p F b0 direction1)
    let z_3 := (spec_l6Mergers_p F b0 direction1 true)
    bif (Option.isSome z_1) then
    bif (!(Option.getD z_1 default)) then
    k (false, ([] : List (List Int)))
    else bif (!(spec_l2Side_v direction1)) then
    k (false, ([] : List (List Int)))
    else bif (Option.isSome z_2) then
    bif ((Option.getD z_2 default) == (0 : Int)) then
    k (false, ([] : List (List Int)))
    else bif (Option.isSome z_3) then
    k (true, (Option.getD z_3 default))
    else none
    else none
    else none
def spec_CanMerge_p (F : Nat) (b0 : List Int) (direction1 : Int) : Option (Bool × List (List Int)) := spec_CanMerge_c _ F b0 direction1 some
theorem spec_CanMerge_cp (Q : Type) (F : Nat) (b0 : List Int) (direction1 : Int) (k : (Bool × List (List Int)) → Option Q) : spec_CanMerge_c Q F b0 direction1 k = (spec_CanMerge_p F b0 direction1).bind k := by
  simp only [spec_CanMerge_p, spec_CanMerge_c, cond_bindL, none_bindL, some_bindL]
end Go.Lv.P
