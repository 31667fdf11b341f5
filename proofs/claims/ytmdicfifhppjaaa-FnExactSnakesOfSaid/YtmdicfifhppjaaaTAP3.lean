/-
Pure functions and what the code of them does, by program; without conditions.
-/
import Derived.Test.YtmdicfifhppjaaaTAP2
namespace Go.Lv.P
open Go Go.Lv
set_option linter.unusedVariables false
set_option linter.unusedSimpArgs false
set_option maxRecDepth 100000
/-- loop.example/g01194/impl.MeanSum -/
def impl_MeanSum_c (Q : Type) (F : Nat) (b0 : List Int) (n1 : Int) (k : (List Int × Bool) → Option Q) : Option Q :=
    let z_1 := (impl_IsBoard_p F b0)
    let z_2 := (impl_fraction_p F (IntKind.wrap .i64 ((IntKind.wrap .i64 ((5 : Int) * (Option.getD (impl_Board_sum_p b0) default))) + (IntKind.wrap .i64 ((11 : Int) * n1)))) (5 : Int))
    bif (Option.isSome z_1) then
    bif (!(Option.getD z_1 default)) then
    k ([(0 : Int), (0 : Int)], false)
    else bif (!(impl_in_v n1 (0 : Int) (1000 : Int))) then
    k ([(0 : Int), (0 : Int)], false)
    else bif (Option.isSome (impl_Board_sum_p b0)) then
    bif (Option.isSome z_2) then
    k ((Option.getD z_2 default), true)
    else none
    else none
    else none
def impl_MeanSum_p (F : Nat) (b0 : List Int) (n1 : Int) : Option (List Int × Bool) := impl_MeanSum_c _ F b0 n1 some
theorem impl_MeanSum_cp (Q : Type) (F : Nat) (b0 : List Int) (n1 : Int) (k : (List Int × Bool) → Option Q) : impl_MeanSum_c Q F b0 n1 k = (impl_MeanSum_p F b0 n1).bind k := by
  simp only [impl_MeanSum_p, impl_MeanSum_c, cond_bindL, none_bindL, some_bindL]

/-- loop 2 of loop.example/g01194/laws.eqIntA2 -/
def laws_eqIntA2_s2 (F : Nat) (a7 : List Int) (b8 : List Int) (Q : Type) : (Int) → ((Int) → Option Q) → ((Bool) → Option Q) → Option Q
  | i6, kn, kx =>
    let z_1 : Nat := ((0 : Nat) + ((Int.toNat i6) * (1 : Nat)))
    bif (decide (i6 < (2 : Int))) then
    bif (inR i6 2) then
    bif (inR i6 2) then
    bif (!((iget a7 z_1) == (iget b8 z_1))) then
    kx true
    else kn (IntKind.wrap .i64 (i6 + (1 : Int)))
    else none
    else none
    else kx false
def laws_eqIntA2_l2 (F : Nat) (a7 : List Int) (b8 : List Int) (i6 : Int) : Option (Bool) := loopC (laws_eqIntA2_s2 F a7 b8) F i6 some
theorem laws_eqIntA2_s2_nat (F : Nat) (a7 : List Int) (b8 : List Int) : Natural (laws_eqIntA2_s2 F a7 b8) := by
  intro Q Q' s kn kx h
  simp only [laws_eqIntA2_s2, cond_bindL, none_bindL]
/-- loop.example/g01194/laws.eqIntA2 -/
def laws_eqIntA2_c (Q : Type) (F : Nat) (a0 : List Int) (b1 : List Int) (k : (Bool) → Option Q) : Option Q :=
    let z_1 := (laws_eqIntA2_l2 F a0 b1 (0 : Int))
    bif (Option.isSome z_1) then
    bif (Option.getD z_1 default) then
    k false
    else k true
    else none
def laws_eqIntA2_p (F : Nat) (a0 : List Int) (b1 : List Int) : Option (Bool) := laws_eqIntA2_c _ F a0 b1 some
theorem laws_eqIntA2_cp (Q : Type) (F : Nat) (a0 : List Int) (b1 : List Int) (k : (Bool) → Option Q) : laws_eqIntA2_c Q F a0 b1 k = (laws_eqIntA2_p F a0 b1).bind k := by
  simp only [laws_eqIntA2_p, laws_eqIntA2_c, cond_bindL, none_bindL, some_bindL]

/-- loop.example/g01194/laws.FnExactMeanSum -/
def laws_FnExactMeanSum_c (Q : Type) (F : Nat) (aB0 : List Int) (aN1 : Int) (k : (Bool) → Option Q) : Option Q :=
    let z_1 := (spec_MeanSum_p F (laws_toBoard_v aB0) aN1)
    let z_2 := (impl_MeanSum_p F (laws_toBoard_v aB0) aN1)
    let z_3 := (Option.getD z_2 default)
    let z_4 := (Option.getD z_1 default)
    let z_5 := (laws_eqIntA2_p F z_3.1 z_4.1)
    bif (Option.isSome z_1) then
    bif (Option.isSome z_2) then
    bif (Option.isSome z_5) then
    bif (!(Option.getD z_5 default)) then
    k false
    else bif (!(z_3.2 == z_4.2)) then
    k false
    else k true
    else none
    else none
    else none
def laws_FnExactMeanSum_p (F : Nat) (aB0 : List Int) (aN1 : Int) : Option (Bool) := laws_FnExactMeanSum_c _ F aB0 aN1 some
theorem laws_FnExactMeanSum_cp (Q : Type) (F : Nat) (aB0 : List Int) (aN1 : Int) (k : (Bool) → Option Q) : laws_FnExactMeanSum_c Q F aB0 aN1 k = (laws_FnExactMeanSum_p F aB0 aN1).bind k := by
  simp only [laws_FnExactMeanSum_p, laws_FnExactMeanSum_c, cond_bindL, none_bindL, some_bindL]

/-- loop 6 of loop.example/g01194/spec.l2Empty -/
def spec_l2Empty_s6 (F : Nat) (r5 : Int) (b7 : List Int) (Q : Type) : (Int × List (List Int)) → ((Int × List (List Int)) → Option Q) → ((List (List Int)) → Option Q) → Option Q
  | (c6, out8), kn, kx =>
    let z_1 : List (List Int) := ((subn (List.length out8) out8 0 (List.length out8)) ++ [[r5, c6]])
    let z_2 : Int := (IntKind.wrap .i64 (c6 + (1 : Int)))
    bif (decide (c6 < (4 : Int))) then
    bif (inR r5 4) then
    bif (inR c6 4) then
    bif ((iget b7 (((0 : Nat) + ((Int.toNat r5) * (4 : Nat))) + ((Int.toNat c6) * (1 : Nat)))) == (0 : Int)) then
    bif (fits (List.length z_1) 16) then
    kn (z_2, z_1)
    else none
    else kn (z_2, out8)
    else none
    else none
    else kx out8
def spec_l2Empty_l6 (F : Nat) (r5 : Int) (b7 : List Int) (c6 : Int) (out8 : List (List Int)) : Option (List (List Int)) := loopC (spec_l2Empty_s6 F r5 b7) F (c6, out8) some
theorem spec_l2Empty_s6_nat (F : Nat) (r5 : Int) (b7 : List Int) : Natural (spec_l2Empty_s6 F r5 b7) := by
  intro Q Q' s kn kx h
  obtain ⟨c6, out8⟩ := s
  simp only [spec_l2Empty_s6, cond_bindL, none_bindL]
/-- loop 3 of loop.example/g01194/spec.l2Empty -/
def spec_l2Empty_s3 (F : Nat) (b6 : List Int) (Q : Type) : (Int × List (List Int)) → ((Int × List (List Int)) → Option Q) → ((List (List Int)) → Option Q) → Option Q
  | (r5, out7), kn, kx =>
    let z_1 := (spec_l2Empty_l6 F r5 b6 (0 : Int) out7)
    bif (decide (r5 < (4 : Int))) then
    bif ((Nat.beq (List.length out7) (List.length out7)) && (Option.isSome z_1)) then
    kn ((IntKind.wrap .i64 (r5 + (1 : Int))), (Option.getD z_1 default))
    else none
    else kx out7
def spec_l2Empty_l3 (F : Nat) (b6 : List Int) (r5 : Int) (out7 : List (List Int)) : Option (List (List Int)) := loopC (spec_l2Empty_s3 F b6) F (r5, out7) some
theorem spec_l2Empty_s3_nat (F : Nat) (b6 : List Int) : Natural (spec_l2Empty_s3 F b6) := by
  intro Q Q' s kn kx h
  obtain ⟨r5, out7⟩ := s
  simp only [spec_l2Empty_s3, cond_bindL, none_bindL]
/-- loop.example/g01194/spec.l2Empty -/
def spec_l2Empty_c (Q : Type) (F : Nat) (b0 : List Int) (k : (List (List Int)) → Option Q) : Option Q :=
    let z_1 := (spec_l2Empty_l3 F b0 (0 : Int) ([] : List (List Int)))
    bif (Option.isSome z_1) then
    k (Option.getD z_1 default)
    else none
def spec_l2Empty_p (F : Nat) (b0 : List Int) : Option (List (List Int)) := spec_l2Empty_c _ F b0 some
theorem spec_l2Empty_cp (Q : Type) (F : Nat) (b0 : List Int) (k : (List (List Int)) → Option Q) : spec_l2Empty_c Q F b0 k = (spec_l2Empty_p F b0).bind k := by
  simp only [spec_l2Empty_p, spec_l2Empty_c, cond_bindL, none_bindL, some_bindL]

/-- loop 3 of loop.example/g01194/spec.l8Places -/
def spec_l8Places_s3 (F : Nat) (empty6 : List (List Int)) (Q : Type) : (Int × List (List Int)) → ((Int × List (List Int)) → Option Q) → ((List (List Int)) → Option Q) → Option Q
  | (i4, out5), kn, kx =>
    let z_1 : Bool := (inR i4 (List.length empty6))
    let z_2 : List Int := (rget empty6 ((0 : Nat) + (Int.toNat i4)))
    let z_3 : Int := (iget z_2 0)
    let z_4 : Int := (iget z_2 1)
    let z_5 : List (List Int) := ((subn (List.length out5) out5 0 (List.length out5)) ++ [[z_3, z_4, (1 : Int)], [z_3, z_4, (2 : Int)]])
    bif (decide (i4 < (((List.length empty6) : Nat) : Int))) then
    bif z_1 then
    bif z_1 then
    bif z_1 then
    bif z_1 then
    bif (fits (List.length z_5) 24) then
    kn ((IntKind.wrap .i64 (i4 + (1 : Int))), z_5)
    else none
    else none
    else none
    else none
    else none
    else kx out5
def spec_l8Places_l3 (F : Nat) (empty6 : List (List Int)) (i4 : Int) (out5 : List (List Int)) : Option (List (List Int)) := loopC (spec_l8Places_s3 F empty6) F (i4, out5) some
theorem spec_l8Places_s3_nat (F : Nat) (empty6 : List (List Int)) : Natural (spec_l8Places_s3 F empty6) := by
  intro Q Q' s kn kx h
  obtain ⟨i4, out5⟩ := s
  simp only [spec_l8Places_s3, cond_bindL, none_bindL]
/-- loop.example/g01194/spec.l8Places -/
def spec_l8Places_c (Q : Type) (F : Nat) (b0 : List Int) (k : (List (List Int)) → Option Q) : Option Q :=
    let z_1 := (spec_l2Empty_p F b0)
    let z_2 : Nat := (List.length (Option.getD z_1 default))
    let z_3 := (spec_l8Places_l3 F (Option.getD z_1 default) (0 : Int) ([] : List (List Int)))
    bif (Option.isSome z_1) then
    bif ((Nat.beq z_2 z_2) && (Option.isSome z_3)) then
    k (Option.getD z_3 default)
    else none
    else none
def spec_l8Places_p (F : Nat) (b0 : List Int) : Option (List (List Int)) := spec_l8Places_c _ F b0 some
theorem spec_l8Places_cp (Q : Type) (F : Nat) (b0 : List Int) (k : (List (List Int)) → Option Q) : spec_l8Places_c Q F b0 k = (spec_l8Places_p F b0).bind k := by
  simp only [spec_l8Places_p, spec_l8Places_c, cond_bindL, none_bindL, some_bindL]

/-- loop.example/g01194/spec.PlacementsOf -/
def spec_PlacementsOf_c (Q : Type) (F : Nat) (b0 : List Int) (k : (Bool × List (List Int)) → Option Q) : Option Q :=
    let z_1 := (spec_l2Board_p F b0)
    let z_2 := (spec_l8Places_p F b0)
    bif (Option.isSome z_1) then
    bif (!(Option.getD z_1 default)) then
    k (false, ([] : List (List Int)))
    else bif (Option.isSome z_2) then
    k (true, (Option.getD z_2 default))
    else none
    else none
def spec_PlacementsOf_p (F : Nat) (b0 : List Int) : Option (Bool × List (List Int)) := spec_PlacementsOf_c _ F b0 some
theorem spec_PlacementsOf_cp (Q : Type) (F : Nat) (b0 : List Int) (k : (Bool × List (List Int)) → Option Q) : spec_PlacementsOf_c Q F b0 k = (spec_PlacementsOf_p F b0).bind k := by
  simp only [spec_PlacementsOf_p, spec_PlacementsOf_c, cond_bindL, none_bindL, some_bindL]

/-- (loop.example/g01194/impl.Board).empty$1 -/
def impl_Board_empty_f1_c (Q : Type) (cell0 : List Int) (a14 : List Int) (k : (Bool) → Option Q) : Option Q :=
    let z_1 := (impl_Board_at_p cell0 a14)
    bif (Option.isSome z_1) then
    k (!((iget a14 (Option.getD z_1 default)) == (0 : Int)))
    else none
def impl_Board_empty_f1_p (cell0 : List Int) (a14 : List Int) : Option (Bool) := impl_Board_empty_f1_c _ cell0 a14 some
theorem impl_Board_empty_f1_cp (Q : Type) (cell0 : List Int) (a14 : List Int) (k : (Bool) → Option Q) : impl_Board_empty_f1_c Q cell0 a14 k = (impl_Board_empty_f1_p cell0 a14).bind k := by
  simp only [impl_Board_empty_f1_p, impl_Board_empty_f1_c, cond_bindL, none_bindL, some_bindL]

/-- loop 2 of slices.IndexFunc[[][2]int,[2]int] -/
def slices_IndexFunc_2int2int_impl_Board_empty_f1_s2 (F : Nat) (s0 : List (List Int)) (t74 : Int) (f6 : List Int) (Q : Type) : (Int) → ((Int) → Option Q) → ((Bool × Int) → Option Q) → Option Q
  | t85, kn, kx =>
    let z_1 := (impl_Board_empty_f1_p (rget s0 (Int.toNat t85)) f6)
    bif (decide (t85 < t74)) then
    bif (inR t85 (List.length s0)) then
    bif (Option.isSome z_1) then
    bif (Option.getD z_1 default) then
    kx (true, t85)
    else kn (IntKind.wrap .i64 (t85 + (1 : Int)))
    else none
    else none
    else kx (false, default)
def slices_IndexFunc_2int2int_impl_Board_empty_f1_l2 (F : Nat) (s0 : List (List Int)) (t74 : Int) (f6 : List Int) (t85 : Int) : Option (Bool × Int) := loopC (slices_IndexFunc_2int2int_impl_Board_empty_f1_s2 F s0 t74 f6) F t85 some
theorem slices_IndexFunc_2int2int_impl_Board_empty_f1_s2_nat (F : Nat) (s0 : List (List Int)) (t74 : Int) (f6 : List Int) : Natural (slices_IndexFunc_2int2int_impl_Board_empty_f1_s2 F s0 t74 f6) := by
  intro Q Q' s kn kx h
  simp only [slices_IndexFunc_2int2int_impl_Board_empty_f1_s2, cond_bindL, none_bindL]
/-- slices.IndexFunc[[][2]int,[2]int] -/
def slices_IndexFunc_2int2int_impl_Board_empty_f1_c (Q : Type) (F : Nat) (s0 : List (List Int)) (f4 : List Int) (k : (Int) → Option Q) : Option Q :=
    let z_1 := (slices_IndexFunc_2int2int_impl_Board_empty_f1_l2 F s0 (((List.length s0) : Nat) : Int) f4 (0 : Int))
    let z_2 := (Option.getD z_1 default)
    bif (Option.isSome z_1) then
    bif z_2.1 then
    k z_2.2
    else k (-1 : Int)
    else none
def slices_IndexFunc_2int2int_impl_Board_empty_f1_p (F : Nat) (s0 : List (List Int)) (f4 : List Int) : Option (Int) := slices_IndexFunc_2int2int_impl_Board_empty_f1_c _ F s0 f4 some
theorem slices_IndexFunc_2int2int_impl_Board_empty_f1_cp (Q : Type) (F : Nat) (s0 : List (List Int)) (f4 : List Int) (k : (Int) → Option Q) : slices_IndexFunc_2int2int_impl_Board_empty_f1_c Q F s0 f4 k = (slices_IndexFunc_2int2int_impl_Board_empty_f1_p F s0 f4).bind k := by
  simp only [slices_IndexFunc_2int2int_impl_Board_empty_f1_p, slices_IndexFunc_2int2int_impl_Board_empty_f1_c, cond_bindL, none_bindL, some_bindL]

/-- loop 5 of slices.DeleteFunc[[][2]int,[2]int] -/
def slices_DeleteFunc_2int2int_impl_Board_empty_f1_s5 (F : Nat) (s1 : Nat) (del8 : List Int) (Q : Type) : (Int × Int × List (List Int)) → ((Int × Int × List (List Int)) → Option Q) → ((Int × List (List Int)) → Option Q) → Option Q
  | (i5, j6, s7), kn, kx =>
    let z_1 : List Int := (rget s7 ((0 : Nat) + (Int.toNat j6)))
    let z_2 := (impl_Board_empty_f1_p z_1 del8)
    let z_3 : Int := (IntKind.wrap .i64 (j6 + (1 : Int)))
    bif (decide (j6 < ((s1 : Nat) : Int))) then
    bif (inR j6 s1) then
    bif (Option.isSome z_2) then
    bif (!(Option.getD z_2 default)) then
    bif (inR i5 s1) then
    kn ((IntKind.wrap .i64 (i5 + (1 : Int))), z_3, (rset s7 ((0 : Nat) + (Int.toNat i5)) z_1))
    else none
    else kn (i5, z_3, s7)
    else none
    else none
    else kx (i5, s7)
def slices_DeleteFunc_2int2int_impl_Board_empty_f1_l5 (F : Nat) (s1 : Nat) (del8 : List Int) (i5 : Int) (j6 : Int) (s7 : List (List Int)) : Option (Int × List (List Int)) := loopC (slices_DeleteFunc_2int2int_impl_Board_empty_f1_s5 F s1 del8) F (i5, j6, s7) some
theorem slices_DeleteFunc_2int2int_impl_Board_empty_f1_s5_nat (F : Nat) (s1 : Nat) (del8 : List Int) : Natural (slices_DeleteFunc_2int2int_impl_Board_empty_f1_s5 F s1 del8) := by
  intro Q Q' s kn kx h
  obtain ⟨i5, j6, s7⟩ := s
  simp only [slices_DeleteFunc_2int2int_impl_Board_empty_f1_s5, cond_bindL, none_bindL]
/-- slices.DeleteFunc[[][2]int,[2]int] -/
def slices_DeleteFunc_2int2int_impl_Board_empty_f1_c (Q : Type) (F : Nat) (s5 : List (List Int)) (del6 : List Int) (k : (Nat × List (List Int)) → Option Q) : Option Q :=
    let z_1 := (slices_IndexFunc_2int2int_impl_Board_empty_f1_p F (subn (List.length s5) s5 0 (List.length s5)) del6)
    let z_2 := (slices_DeleteFunc_2int2int_impl_Board_empty_f1_l5 F (List.length s5) del6 (Option.getD z_1 default) (IntKind.wrap .i64 ((Option.getD z_1 default) + (1 : Int))) s5)
    let z_3 := (Option.getD z_2 default)
    let z_4 : Bool := (inLe z_3.1 (List.length s5))
    let z_5 : Nat := (Int.toNat z_3.1)
    let z_6 : Nat := ((List.length s5) - z_5)
    bif (Option.isSome z_1) then
    bif ((Option.getD z_1 default) == (-1 : Int)) then
    k ((List.length s5), s5)
    else bif (Option.isSome z_2) then
    bif z_4 then
    bif z_4 then
    k ((z_5 - (0 : Nat)), (splice z_3.2 ((0 : Nat) + z_5) (List.replicate z_6 [(0 : Int), (0 : Int)]) z_6))
    else none
    else none
    else none
    else none
def slices_DeleteFunc_2int2int_impl_Board_empty_f1_p (F : Nat) (s5 : List (List Int)) (del6 : List Int) : Option (Nat × List (List Int)) := slices_DeleteFunc_2int2int_impl_Board_empty_f1_c _ F s5 del6 some
theorem slices_DeleteFunc_2int2int_impl_Board_empty_f1_cp (Q : Type) (F : Nat) (s5 : List (List Int)) (del6 : List Int) (k : (Nat × List (List Int)) → Option Q) : slices_DeleteFunc_2int2int_impl_Board_empty_f1_c Q F s5 del6 k = (slices_DeleteFunc_2int2int_impl_Board_empty_f1_p F s5 del6).bind k := by
  simp only [slices_DeleteFunc_2int2int_impl_Board_empty_f1_p, slices_DeleteFunc_2int2int_impl_Board_empty_f1_c, cond_bindL, none_bindL, some_bindL]

/-- (loop.example/g01194/impl.Board).empty -/
def impl_Board_empty_c (Q : Type) (F : Nat) (b0 : List Int) (k : (Nat × List (List Int)) → Option Q) : Option Q :=
    let z_1 := (slices_DeleteFunc_2int2int_impl_Board_empty_f1_p F [[(0 : Int), (0 : Int)], [(0 : Int), (1 : Int)], [(0 : Int), (2 : Int)], [(0 : Int), (3 : Int)], [(1 : Int), (0 : Int)], [(1 : Int), (1 : Int)], [(1 : Int), (2 : Int)], [(1 : Int), (3 : Int)], [(2 : Int), (0 : Int)], [(2 : Int), (1 : Int)], [(2 : Int), (2 : Int)], [(2 : Int), (3 : Int)], [(3 : Int), (0 : Int)], [(3 : Int), (1 : Int)], [(3 : Int), (2 : Int)], [(3 : Int), (3 : Int)]] b0)
    let z_2 := (Option.getD z_1 default)
    bif (Option.isSome z_1) then
    k (z_2.1, z_2.2)
    else none
def impl_Board_empty_p (F : Nat) (b0 : List Int) : Option (Nat × List (List Int)) := impl_Board_empty_c _ F b0 some
theorem impl_Board_empty_cp (Q : Type) (F : Nat) (b0 : List Int) (k : (Nat × List (List Int)) → Option Q) : impl_Board_empty_c Q F b0 k = (impl_Board_empty_p F b0).bind k := by
  simp only [impl_Board_empty_p, impl_Board_empty_c, cond_bindL, none_bindL, some_bindL]

/-- loop 3 of (loop.example/g01194/impl.Board).placements -/
def impl_Board_placements_s3 (F : Nat) (t83 : Nat) (t94 : Int) (t87 : List (List Int)) (Q : Type) : (Int × List (List Int)) → ((Int × List (List Int)) → Option Q) → ((List (List Int)) → Option Q) → Option Q
  | (t105, out6), kn, kx =>
    let z_1 : List Int := (rget t87 ((0 : Nat) + (Int.toNat t105)))
    let z_2 : Int := (iget z_1 0)
    let z_3 : Int := (iget z_1 1)
    let z_4 : List (List Int) := ((subn (List.length out6) out6 0 (List.length out6)) ++ [[z_2, z_3, (1 : Int)], [z_2, z_3, (2 : Int)]])
    bif (decide (t105 < t94)) then
    bif (inR t105 t83) then
    bif (fits (List.length z_4) 24) then
    kn ((IntKind.wrap .i64 (t105 + (1 : Int))), z_4)
    else none
    else none
    else kx out6
def impl_Board_placements_l3 (F : Nat) (t83 : Nat) (t94 : Int) (t87 : List (List Int)) (t105 : Int) (out6 : List (List Int)) : Option (List (List Int)) := loopC (impl_Board_placements_s3 F t83 t94 t87) F (t105, out6) some
theorem impl_Board_placements_s3_nat (F : Nat) (t83 : Nat) (t94 : Int) (t87 : List (List Int)) : Natural (impl_Board_placements_s3 F t83 t94 t87) := by
  intro Q Q' s kn kx h
  obtain ⟨t105, out6⟩ := s
  simp only [impl_Board_placements_s3, cond_bindL, none_bindL]
/-- (loop.example/g01194/impl.Board).placements -/
def impl_Board_placements_c (Q : Type) (F : Nat) (b0 : List Int) (k : (List (List Int)) → Option Q) : Option Q :=
    let z_1 := (impl_Board_empty_p F b0)
    let z_2 := (Option.getD z_1 default)
    let z_3 := (impl_Board_placements_l3 F z_2.1 ((z_2.1 : Nat) : Int) z_2.2 (0 : Int) ([] : List (List Int)))
    bif (Option.isSome z_1) then
    bif (Option.isSome z_3) then
    k (Option.getD z_3 default)
    else none
    else none
def impl_Board_placements_p (F : Nat) (b0 : List Int) : Option (List (List Int)) := impl_Board_placements_c _ F b0 some
theorem impl_Board_placements_cp (Q : Type) (F : Nat) (b0 : List Int) (k : (List (List Int)) → Option Q) : impl_Board_placements_c Q F b0 k = (impl_Board_placements_p F b0).bind k := by
  simp only [impl_Board_placements_p, impl_Board_placements_c, cond_bindL, none_bindL, some_bindL]

/-- loop.example/g01194/impl.PlacementsOf -/
def impl_PlacementsOf_c (Q : Type) (F : Nat) (b0 : List Int) (k : (Bool × List (List Int)) → Option Q) : Option Q :=
    let z_1 := (impl_IsBoard_p F b0)
    let z_2 := (impl_Board_placements_p F b0)
    bif (Option.isSome z_1) then
    bif (!(Option.getD z_1 default)) then
    k (false, ([] : List (List Int)))
    else bif (Option.isSome z_2) then
    k (true, (Option.getD z_2 default))
    else none
    else none
def impl_PlacementsOf_p (F : Nat) (b0 : List Int) : Option (Bool × List (List Int)) := impl_PlacementsOf_c _ F b0 some
theorem impl_PlacementsOf_cp (Q : Type) (F : Nat) (b0 : List Int) (k : (Bool × List (List Int)) → Option Q) : impl_PlacementsOf_c Q F b0 k = (impl_PlacementsOf_p F b0).bind k := by
  simp only [impl_PlacementsOf_p, impl_PlacementsOf_c, cond_bindL, none_bindL, some_bindL]

/-- loop 2 of loop.example/g01194/laws.eqIntA3 -/
def laws_eqIntA3_s2 (F : Nat) (a7 : List Int) (b8 : List Int) (Q : Type) : (Int) → ((Int) → Option Q) → ((Bool) → Option Q) → Option Q
  | i6, kn, kx =>
    let z_1 : Nat := ((0 : Nat) + ((Int.toNat i6) * (1 : Nat)))
    bif (decide (i6 < (3 : Int))) then
    bif (inR i6 3) then
    bif (inR i6 3) then
    bif (!((iget a7 z_1) == (iget b8 z_1))) then
    kx true
    else kn (IntKind.wrap .i64 (i6 + (1 : Int)))
    else none
    else none
    else kx false
def laws_eqIntA3_l2 (F : Nat) (a7 : List Int) (b8 : List Int) (i6 : Int) : Option (Bool) := loopC (laws_eqIntA3_s2 F a7 b8) F i6 some
theorem laws_eqIntA3_s2_nat (F : Nat) (a7 : List Int) (b8 : List Int) : Natural (laws_eqIntA3_s2 F a7 b8) := by
  intro Q Q' s kn kx h
  simp only [laws_eqIntA3_s2, cond_bindL, none_bindL]
/-- loop.example/g01194/laws.eqIntA3 -/
def laws_eqIntA3_c (Q : Type) (F : Nat) (a0 : List Int) (b1 : List Int) (k : (Bool) → Option Q) : Option Q :=
    let z_1 := (laws_eqIntA3_l2 F a0 b1 (0 : Int))
    bif (Option.isSome z_1) then
    bif (Option.getD z_1 default) then
    k false
    else k true
    else none
def laws_eqIntA3_p (F : Nat) (a0 : List Int) (b1 : List Int) : Option (Bool) := laws_eqIntA3_c _ F a0 b1 some
theorem laws_eqIntA3_cp (Q : Type) (F : Nat) (a0 : List Int) (b1 : List Int) (k : (Bool) → Option Q) : laws_eqIntA3_c Q F a0 b1 k = (laws_eqIntA3_p F a0 b1).bind k := by
  simp only [laws_eqIntA3_p, laws_eqIntA3_c, cond_bindL, none_bindL, some_bindL]

/-- loop 4 of loop.example/g01194/laws.eqIntA3S -/
def laws_eqIntA3S_s4 (F : Nat) (a0 : List (List Int)) (b1 : List (List Int)) (Q : Type) : (Int) → ((Int) → Option Q) → ((Bool) → Option Q) → Option Q
  | i2, kn, kx =>
    let z_1 := (laws_eqIntA3_p F (rget a0 (Int.toNat i2)) (rget b1 (Int.toNat i2)))
    bif (decide (i2 < (((List.length a0) : Nat) : Int))) then
    bif (inR i2 (List.length a0)) then
    bif (inR i2 (List.length b1)) then
    bif (Option.isSome z_1) then
    bif (!(Option.getD z_1 default)) then
    kx true
    else kn (IntKind.wrap .i64 (i2 + (1 : Int)))
    else none
    else none
    else none
    else kx false
def laws_eqIntA3S_l4 (F : Nat) (a0 : List (List Int)) (b1 : List (List Int)) (i2 : Int) : Option (Bool) := loopC (laws_eqIntA3S_s4 F a0 b1) F i2 some
theorem laws_eqIntA3S_s4_nat (F : Nat) (a0 : List (List Int)) (b1 : List (List Int)) : Natural (laws_eqIntA3S_s4 F a0 b1) := by
  intro Q Q' s kn kx h
  simp only [laws_eqIntA3S_s4, cond_bindL, none_bindL]
/-- loop.example/g01194/laws.eqIntA3S -/
def laws_eqIntA3S_c (Q : Type) (F : Nat) (a0 : List (List Int)) (b1 : List (List Int)) (k : (Bool) → Option Q) : Option Q :=
    let z_1 := (laws_eqIntA3S_l4 F a0 b1 (0 : Int))
    bif (!((((List.length a0) : Nat) : Int) == (((List.length b1) : Nat) : Int))) then
    k false
    else bif (Option.isSome z_1) then
    bif (Option.getD z_1 default) then
    k false
    else k true
    else none
def laws_eqIntA3S_p (F : Nat) (a0 : List (List Int)) (b1 : List (List Int)) : Option (Bool) := laws_eqIntA3S_c _ F a0 b1 some
theorem laws_eqIntA3S_cp (Q : Type) (F : Nat) (a0 : List (List Int)) (b1 : List (List Int)) (k : (Bool) → Option Q) : laws_eqIntA3S_c Q F a0 b1 k = (laws_eqIntA3S_p F a0 b1).bind k := by
  simp only [laws_eqIntA3S_p, laws_eqIntA3S_c, cond_bindL, none_bindL, some_bindL]
end Go.Lv.P
