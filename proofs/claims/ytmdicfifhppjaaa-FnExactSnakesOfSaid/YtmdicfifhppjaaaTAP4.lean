/-
Pure functions and what the code of them does, by program; without conditions.
-/
import Derived.Test.YtmdicfifhppjaaaTAP3
namespace Go.Lv.P
open Go Go.Lv
set_option linter.unusedVariables false
set_option linter.unusedSimpArgs false
set_option maxRecDepth 100000
/-- loop 5 of loop.example/g01194/laws.markIntA3S -/
def laws_markIntA3S_s5 (F : Nat) (a1 : Nat) (i3 : Int) (Q : Type) : (Int × Int × List (List Int)) → ((Int × Int × List (List Int)) → Option Q) → ((Int × List (List Int)) → Option Q) → Option Q
  | (k2, j4, a5), kn, kx =>
    bif (decide (j4 < (3 : Int))) then
    bif (inR i3 a1) then
    bif (inR j4 3) then
    kn ((IntKind.wrap .i64 (k2 + (1 : Int))), (IntKind.wrap .i64 (j4 + (1 : Int))), (rset a5 ((0 : Nat) + (Int.toNat i3)) (iset (rget a5 ((0 : Nat) + (Int.toNat i3))) ((0 : Nat) + ((Int.toNat j4) * (1 : Nat))) k2)))
    else none
    else none
    else kx (k2, a5)
def laws_markIntA3S_l5 (F : Nat) (a1 : Nat) (i3 : Int) (k2 : Int) (j4 : Int) (a5 : List (List Int)) : Option (Int × List (List Int)) := loopC (laws_markIntA3S_s5 F a1 i3) F (k2, j4, a5) some
theorem laws_markIntA3S_s5_nat (F : Nat) (a1 : Nat) (i3 : Int) : Natural (laws_markIntA3S_s5 F a1 i3) := by
  intro Q Q' s kn kx h
  obtain ⟨k2, j4, a5⟩ := s
  simp only [laws_markIntA3S_s5, cond_bindL, none_bindL]
/-- loop 2 of loop.example/g01194/laws.markIntA3S -/
def laws_markIntA3S_s2 (F : Nat) (a1 : Nat) (Q : Type) : (Int × Int × List (List Int)) → ((Int × Int × List (List Int)) → Option Q) → ((Int × List (List Int)) → Option Q) → Option Q
  | (k2, i3, a4), kn, kx =>
    let z_1 := (laws_markIntA3S_l5 F a1 i3 k2 (0 : Int) a4)
    let z_2 := (Option.getD z_1 default)
    bif (decide (i3 < ((a1 : Nat) : Int))) then
    bif (Option.isSome z_1) then
    kn (z_2.1, (IntKind.wrap .i64 (i3 + (1 : Int))), z_2.2)
    else none
    else kx (k2, a4)
def laws_markIntA3S_l2 (F : Nat) (a1 : Nat) (k2 : Int) (i3 : Int) (a4 : List (List Int)) : Option (Int × List (List Int)) := loopC (laws_markIntA3S_s2 F a1) F (k2, i3, a4) some
theorem laws_markIntA3S_s2_nat (F : Nat) (a1 : Nat) : Natural (laws_markIntA3S_s2 F a1) := by
  intro Q Q' s kn kx h
  obtain ⟨k2, i3, a4⟩ := s
  simp only [laws_markIntA3S_s2, cond_bindL, none_bindL]
/-- loop.example/g01194/laws.markIntA3S -/
def laws_markIntA3S_c (Q : Type) (F : Nat) (k2 : Int) (a3 : List (List Int)) (k : (Int × List (List Int)) → Option Q) : Option Q :=
    let z_1 := (laws_markIntA3S_l2 F (List.length a3) k2 (0 : Int) a3)
    let z_2 := (Option.getD z_1 default)
    bif (Option.isSome z_1) then
    k (z_2.1, z_2.2)
    else none
def laws_markIntA3S_p (F : Nat) (k2 : Int) (a3 : List (List Int)) : Option (Int × List (List Int)) := laws_markIntA3S_c _ F k2 a3 some
theorem laws_markIntA3S_cp (Q : Type) (F : Nat) (k2 : Int) (a3 : List (List Int)) (k : (Int × List (List Int)) → Option Q) : laws_markIntA3S_c Q F k2 a3 k = (laws_markIntA3S_p F k2 a3).bind k := by
  simp only [laws_markIntA3S_p, laws_markIntA3S_c, cond_bindL, none_bindL, some_bindL]

/-- loop 5 of loop.example/g01194/laws.heldIntA3S -/
def laws_heldIntA3S_s5 (F : Nat) (a0 : List (List Int)) (i2 : Int) (Q : Type) : (Int × Int) → ((Int × Int) → Option Q) → ((Bool × Int) → Option Q) → Option Q
  | (k1, j3), kn, kx =>
    bif (decide (j3 < (3 : Int))) then
    bif (inR i2 (List.length a0)) then
    bif (inR j3 3) then
    bif (!((iget (rget a0 (Int.toNat i2)) ((0 : Nat) + ((Int.toNat j3) * (1 : Nat)))) == k1)) then
    kx (true, default)
    else kn ((IntKind.wrap .i64 (k1 + (1 : Int))), (IntKind.wrap .i64 (j3 + (1 : Int))))
    else none
    else none
    else kx (false, k1)
def laws_heldIntA3S_l5 (F : Nat) (a0 : List (List Int)) (i2 : Int) (k1 : Int) (j3 : Int) : Option (Bool × Int) := loopC (laws_heldIntA3S_s5 F a0 i2) F (k1, j3) some
theorem laws_heldIntA3S_s5_nat (F : Nat) (a0 : List (List Int)) (i2 : Int) : Natural (laws_heldIntA3S_s5 F a0 i2) := by
  intro Q Q' s kn kx h
  obtain ⟨k1, j3⟩ := s
  simp only [laws_heldIntA3S_s5, cond_bindL, none_bindL]
/-- loop 2 of loop.example/g01194/laws.heldIntA3S -/
def laws_heldIntA3S_s2 (F : Nat) (a0 : List (List Int)) (Q : Type) : (Int × Int) → ((Int × Int) → Option Q) → ((Bool × Int) → Option Q) → Option Q
  | (k1, i2), kn, kx =>
    let z_1 := (laws_heldIntA3S_l5 F a0 i2 k1 (0 : Int))
    let z_2 := (Option.getD z_1 default)
    bif (decide (i2 < (((List.length a0) : Nat) : Int))) then
    bif (Option.isSome z_1) then
    bif z_2.1 then
    kx (true, default)
    else kn (z_2.2, (IntKind.wrap .i64 (i2 + (1 : Int))))
    else none
    else kx (false, k1)
def laws_heldIntA3S_l2 (F : Nat) (a0 : List (List Int)) (k1 : Int) (i2 : Int) : Option (Bool × Int) := loopC (laws_heldIntA3S_s2 F a0) F (k1, i2) some
theorem laws_heldIntA3S_s2_nat (F : Nat) (a0 : List (List Int)) : Natural (laws_heldIntA3S_s2 F a0) := by
  intro Q Q' s kn kx h
  obtain ⟨k1, i2⟩ := s
  simp only [laws_heldIntA3S_s2, cond_bindL, none_bindL]
/-- loop.example/g01194/laws.heldIntA3S -/
def laws_heldIntA3S_c (Q : Type) (F : Nat) (a0 : List (List Int)) (k1 : Int) (k : (Int) → Option Q) : Option Q :=
    let z_1 := (laws_heldIntA3S_l2 F a0 k1 (0 : Int))
    let z_2 := (Option.getD z_1 default)
    bif (Option.isSome z_1) then
    bif z_2.1 then
    k (-1 : Int)
    else k z_2.2
    else none
def laws_heldIntA3S_p (F : Nat) (a0 : List (List Int)) (k1 : Int) : Option (Int) := laws_heldIntA3S_c _ F a0 k1 some
theorem laws_heldIntA3S_cp (Q : Type) (F : Nat) (a0 : List (List Int)) (k1 : Int) (k : (Int) → Option Q) : laws_heldIntA3S_c Q F a0 k1 k = (laws_heldIntA3S_p F a0 k1).bind k := by
  simp only [laws_heldIntA3S_p, laws_heldIntA3S_c, cond_bindL, none_bindL, some_bindL]

/-- loop.example/g01194/laws.FnExactPlacementsOf -/
def laws_FnExactPlacementsOf_c (Q : Type) (F : Nat) (aB0 : List Int) (k : (Bool) → Option Q) : Option Q :=
    let z_1 := (spec_PlacementsOf_p F (laws_toBoard_v aB0))
    let z_2 := (impl_PlacementsOf_p F (laws_toBoard_v aB0))
    let z_3 : Bool := (Option.isSome z_2)
    let z_4 := (Option.getD z_2 default)
    let z_5 : Nat := (List.length z_4.2)
    let z_6 := (Option.getD z_1 default)
    let z_7 : Nat := (List.length z_6.2)
    let z_8 := (laws_eqIntA3S_p F (subn z_5 z_4.2 0 z_5) (subn z_7 z_6.2 0 z_7))
    let z_9 : Bool := (Option.isSome z_8)
    let z_10 : Bool := (!(Option.getD z_8 default))
    let z_11 : Bool := (!(z_4.1 == z_6.1))
    let z_12 := (laws_markIntA3S_p F (1 : Int) z_4.2)
    let z_13 := (Option.getD z_12 default)
    let z_14 := (laws_heldIntA3S_p F (subn (List.length z_13.2) z_13.2 0 z_5) (1 : Int))
    let z_15 : Bool := (Option.isSome z_14)
    let z_16 : Bool := (decide ((Option.getD z_14 default) < (0 : Int)))
    let z_17 : Bool := (!((Option.getD z_14 default) == z_13.1))
    bif (Option.isSome z_1) then
    bif z_3 then
    bif z_9 then
    bif z_10 then
    k false
    else bif z_11 then
    k false
    else bif ((Nat.beq z_5 z_5) && (Option.isSome z_12)) then
    bif z_15 then
    bif z_16 then
    k false
    else bif z_17 then
    k false
    else bif z_3 then
    bif z_9 then
    bif z_10 then
    k false
    else bif z_11 then
    k false
    else bif z_15 then
    bif z_16 then
    k false
    else bif z_17 then
    k false
    else k true
    else none
    else none
    else none
    else none
    else none
    else none
    else none
    else none
def laws_FnExactPlacementsOf_p (F : Nat) (aB0 : List Int) : Option (Bool) := laws_FnExactPlacementsOf_c _ F aB0 some
theorem laws_FnExactPlacementsOf_cp (Q : Type) (F : Nat) (aB0 : List Int) (k : (Bool) → Option Q) : laws_FnExactPlacementsOf_c Q F aB0 k = (laws_FnExactPlacementsOf_p F aB0).bind k := by
  simp only [laws_FnExactPlacementsOf_p, laws_FnExactPlacementsOf_c, cond_bindL, none_bindL, some_bindL]

/-- loop 5 of loop.example/g01194/spec.PackedBoard -/
def spec_PackedBoard_s5 (F : Nat) (list11 : List Int) (Q : Type) : (Int × List Int) → ((Int × List Int) → Option Q) → ((List Int) → Option Q) → Option Q
  | (i8, b10), kn, kx =>
    let z_1 := (spec_l2Put_p b10 [(IntKind.wrap .i64 (Int.tdiv i8 (4 : Int))), (Int.tmod i8 (4 : Int))] (iget list11 ((0 : Nat) + (Int.toNat i8))))
    bif (decide (i8 < (((List.length list11) : Nat) : Int))) then
    bif (inR i8 (List.length list11)) then
    bif (Option.isSome z_1) then
    kn ((IntKind.wrap .i64 (i8 + (1 : Int))), (Option.getD z_1 default))
    else none
    else none
    else kx b10
def spec_PackedBoard_l5 (F : Nat) (list11 : List Int) (i8 : Int) (b10 : List Int) : Option (List Int) := loopC (spec_PackedBoard_s5 F list11) F (i8, b10) some
theorem spec_PackedBoard_s5_nat (F : Nat) (list11 : List Int) : Natural (spec_PackedBoard_s5 F list11) := by
  intro Q Q' s kn kx h
  obtain ⟨i8, b10⟩ := s
  simp only [spec_PackedBoard_s5, cond_bindL, none_bindL]
/-- loop.example/g01194/spec.PackedBoard -/
def spec_PackedBoard_c (Q : Type) (F : Nat) (sum0 : Int) (k : (List Int × Bool) → Option Q) : Option Q :=
    let z_1 := (spec_l7Sum_p F sum0)
    let z_2 : List Int := [(0 : Int), (0 : Int), (0 : Int), (0 : Int), (0 : Int), (0 : Int), (0 : Int), (0 : Int), (0 : Int), (0 : Int), (0 : Int), (0 : Int), (0 : Int), (0 : Int), (0 : Int), (0 : Int)]
    let z_3 := (spec_l7Least_p F sum0)
    let z_4 : Nat := (List.length (Option.getD z_3 default))
    let z_5 := (spec_PackedBoard_l5 F (Option.getD z_3 default) (0 : Int) z_2)
    bif (Option.isSome z_1) then
    bif (!(Option.getD z_1 default)) then
    k (z_2, false)
    else bif (Option.isSome z_3) then
    bif ((Nat.beq z_4 z_4) && (Option.isSome z_5)) then
    k ((Option.getD z_5 default), true)
    else none
    else none
    else none
def spec_PackedBoard_p (F : Nat) (sum0 : Int) : Option (List Int × Bool) := spec_PackedBoard_c _ F sum0 some
theorem spec_PackedBoard_cp (Q : Type) (F : Nat) (sum0 : Int) (k : (List Int × Bool) → Option Q) : spec_PackedBoard_c Q F sum0 k = (spec_PackedBoard_p F sum0).bind k := by
  simp only [spec_PackedBoard_p, spec_PackedBoard_c, cond_bindL, none_bindL, some_bindL]

/-- loop.example/g01194/spec.l2Many -/
def spec_l2Many_c (Q : Type) (F : Nat) (b0 : List Int) (k : (Int) → Option Q) : Option Q :=
    let z_1 := (spec_l2Empty_p F b0)
    bif (Option.isSome z_1) then
    k (IntKind.wrap .i64 ((16 : Int) - (((List.length (Option.getD z_1 default)) : Nat) : Int)))
    else none
def spec_l2Many_p (F : Nat) (b0 : List Int) : Option (Int) := spec_l2Many_c _ F b0 some
theorem spec_l2Many_cp (Q : Type) (F : Nat) (b0 : List Int) (k : (Int) → Option Q) : spec_l2Many_c Q F b0 k = (spec_l2Many_p F b0).bind k := by
  simp only [spec_l2Many_p, spec_l2Many_c, cond_bindL, none_bindL, some_bindL]

/-- loop.example/g01194/spec.MergersLeft -/
def spec_MergersLeft_c (Q : Type) (F : Nat) (b0 : List Int) (k : (Int × Bool) → Option Q) : Option Q :=
    let z_1 := (spec_l2Board_p F b0)
    let z_2 := (spec_l2Many_p F b0)
    let z_3 := (spec_l2Sum_p F b0)
    let z_4 := (spec_l7Least_p F (Option.getD z_3 default))
    bif (Option.isSome z_1) then
    bif (!(Option.getD z_1 default)) then
    k ((0 : Int), false)
    else bif (Option.isSome z_2) then
    bif (Option.isSome z_3) then
    bif (Option.isSome z_4) then
    k ((IntKind.wrap .i64 ((Option.getD z_2 default) - (((List.length (Option.getD z_4 default)) : Nat) : Int))), true)
    else none
    else none
    else none
    else none
def spec_MergersLeft_p (F : Nat) (b0 : List Int) : Option (Int × Bool) := spec_MergersLeft_c _ F b0 some
theorem spec_MergersLeft_cp (Q : Type) (F : Nat) (b0 : List Int) (k : (Int × Bool) → Option Q) : spec_MergersLeft_c Q F b0 k = (spec_MergersLeft_p F b0).bind k := by
  simp only [spec_MergersLeft_p, spec_MergersLeft_c, cond_bindL, none_bindL, some_bindL]

/-- loop.example/g01194/impl.MergersLeft -/
def impl_MergersLeft_c (Q : Type) (F : Nat) (b0 : List Int) (k : (Int × Bool) → Option Q) : Option Q :=
    let z_1 := (impl_IsBoard_p F b0)
    let z_2 := (impl_Board_empty_p F b0)
    bif (Option.isSome z_1) then
    bif (!(Option.getD z_1 default)) then
    k ((0 : Int), false)
    else bif (Option.isSome z_2) then
    bif (Option.isSome (impl_Board_sum_p b0)) then
    k ((IntKind.wrap .i64 ((IntKind.wrap .i64 ((16 : Int) - (((Option.getD z_2 default).1 : Nat) : Int))) - (impl_leastTiles_v (Option.getD (impl_Board_sum_p b0) default)))), true)
    else none
    else none
    else none
def impl_MergersLeft_p (F : Nat) (b0 : List Int) : Option (Int × Bool) := impl_MergersLeft_c _ F b0 some
theorem impl_MergersLeft_cp (Q : Type) (F : Nat) (b0 : List Int) (k : (Int × Bool) → Option Q) : impl_MergersLeft_c Q F b0 k = (impl_MergersLeft_p F b0).bind k := by
  simp only [impl_MergersLeft_p, impl_MergersLeft_c, cond_bindL, none_bindL, some_bindL]

/-- loop.example/g01194/laws.FnExactMergersLeft -/
def laws_FnExactMergersLeft_c (Q : Type) (F : Nat) (aB0 : List Int) (k : (Bool) → Option Q) : Option Q :=
    let z_1 := (spec_MergersLeft_p F (laws_toBoard_v aB0))
    let z_2 := (impl_MergersLeft_p F (laws_toBoard_v aB0))
    let z_3 := (Option.getD z_2 default)
    let z_4 := (Option.getD z_1 default)
    bif (Option.isSome z_1) then
    bif (Option.isSome z_2) then
    bif (!(z_3.1 == z_4.1)) then
    k false
    else bif (!(z_3.2 == z_4.2)) then
    k false
    else k true
    else none
    else none
def laws_FnExactMergersLeft_p (F : Nat) (aB0 : List Int) : Option (Bool) := laws_FnExactMergersLeft_c _ F aB0 some
theorem laws_FnExactMergersLeft_cp (Q : Type) (F : Nat) (aB0 : List Int) (k : (Bool) → Option Q) : laws_FnExactMergersLeft_c Q F aB0 k = (laws_FnExactMergersLeft_p F aB0).bind k := by
  simp only [laws_FnExactMergersLeft_p, laws_FnExactMergersLeft_c, cond_bindL, none_bindL, some_bindL]

/-- loop.example/g01194/spec.l3Quarter -/
def spec_l3Quarter_c (Q : Type) (b0 : List Int) (k : (List Int) → Option Q) : Option Q :=
    k [(iget b0 12), (iget b0 8), (iget b0 4), (iget b0 0), (iget b0 13), (iget b0 9), (iget b0 5), (iget b0 1), (iget b0 14), (iget b0 10), (iget b0 6), (iget b0 2), (iget b0 15), (iget b0 11), (iget b0 7), (iget b0 3)]
def spec_l3Quarter_v (b0 : List Int) : List Int :=
    [(iget b0 12), (iget b0 8), (iget b0 4), (iget b0 0), (iget b0 13), (iget b0 9), (iget b0 5), (iget b0 1), (iget b0 14), (iget b0 10), (iget b0 6), (iget b0 2), (iget b0 15), (iget b0 11), (iget b0 7), (iget b0 3)]
theorem spec_l3Quarter_cv (Q : Type) (b0 : List Int) (k : (List Int) → Option Q) : spec_l3Quarter_c Q b0 k = k (spec_l3Quarter_v b0) := by
  simp only [spec_l3Quarter_c, spec_l3Quarter_v, app_condL k]

/-- loop.example/g01194/spec.l3Mirror -/
def spec_l3Mirror_c (Q : Type) (b0 : List Int) (k : (List Int) → Option Q) : Option Q :=
    k [(iget b0 3), (iget b0 2), (iget b0 1), (iget b0 0), (iget b0 7), (iget b0 6), (iget b0 5), (iget b0 4), (iget b0 11), (iget b0 10), (iget b0 9), (iget b0 8), (iget b0 15), (iget b0 14), (iget b0 13), (iget b0 12)]
def spec_l3Mirror_v (b0 : List Int) : List Int :=
    [(iget b0 3), (iget b0 2), (iget b0 1), (iget b0 0), (iget b0 7), (iget b0 6), (iget b0 5), (iget b0 4), (iget b0 11), (iget b0 10), (iget b0 9), (iget b0 8), (iget b0 15), (iget b0 14), (iget b0 13), (iget b0 12)]
theorem spec_l3Mirror_cv (Q : Type) (b0 : List Int) (k : (List Int) → Option Q) : spec_l3Mirror_c Q b0 k = k (spec_l3Mirror_v b0) := by
  simp only [spec_l3Mirror_c, spec_l3Mirror_v, app_condL k]

/-- loop 2 of loop.example/g01194/spec.l3Made -/
def spec_l3Made_s2 (F : Nat) (k0 : Int) (Q : Type) : (Int × List Int) → ((Int × List Int) → Option Q) → ((List Int) → Option Q) → Option Q
  | (i7, b8), kn, kx =>
    bif (decide (i7 < (Int.tmod k0 (4 : Int)))) then
    kn ((IntKind.wrap .i64 (i7 + (1 : Int))), (spec_l3Quarter_v b8))
    else kx b8
def spec_l3Made_l2 (F : Nat) (k0 : Int) (i7 : Int) (b8 : List Int) : Option (List Int) := loopC (spec_l3Made_s2 F k0) F (i7, b8) some
theorem spec_l3Made_s2_nat (F : Nat) (k0 : Int) : Natural (spec_l3Made_s2 F k0) := by
  intro Q Q' s kn kx h
  obtain ⟨i7, b8⟩ := s
  simp only [spec_l3Made_s2, cond_bindL, none_bindL]
/-- loop.example/g01194/spec.l3Made -/
def spec_l3Made_c (Q : Type) (F : Nat) (b0 : List Int) (k1 : Int) (k : (List Int) → Option Q) : Option Q :=
    let z_1 := (spec_l3Made_l2 F k1 (0 : Int) b0)
    bif (Option.isSome z_1) then
    bif (decide ((4 : Int) ≤ k1)) then
    k (spec_l3Mirror_v (Option.getD z_1 default))
    else k (Option.getD z_1 default)
    else none
def spec_l3Made_p (F : Nat) (b0 : List Int) (k1 : Int) : Option (List Int) := spec_l3Made_c _ F b0 k1 some
theorem spec_l3Made_cp (Q : Type) (F : Nat) (b0 : List Int) (k1 : Int) (k : (List Int) → Option Q) : spec_l3Made_c Q F b0 k1 k = (spec_l3Made_p F b0 k1).bind k := by
  simp only [spec_l3Made_p, spec_l3Made_c, cond_bindL, none_bindL, some_bindL]

/-- loop.example/g01194/spec.l7Snake -/
def spec_l7Snake_c (Q : Type) (F : Nat) (k0 : Int) (k : (List Int) → Option Q) : Option Q :=
    let z_1 := (spec_l3Made_p F [(0 : Int), (1 : Int), (2 : Int), (3 : Int), (7 : Int), (6 : Int), (5 : Int), (4 : Int), (8 : Int), (9 : Int), (10 : Int), (11 : Int), (15 : Int), (14 : Int), (13 : Int), (12 : Int)] k0)
    let z_2 : Int := (iget (Option.getD z_1 default) 0)
    let z_3 : Int := (iget (Option.getD z_1 default) 1)
    let z_4 : Int := (iget (Option.getD z_1 default) 2)
    let z_5 : Int := (iget (Option.getD z_1 default) 3)
    let z_6 : Int := (iget (Option.getD z_1 default) 4)
    let z_7 : Int := (iget (Option.getD z_1 default) 5)
    let z_8 : Int := (iget (Option.getD z_1 default) 6)
    let z_9 : Int := (iget (Option.getD z_1 default) 7)
    let z_10 : Int := (iget (Option.getD z_1 default) 8)
    let z_11 : Int := (iget (Option.getD z_1 default) 9)
    let z_12 : Int := (iget (Option.getD z_1 default) 10)
    let z_13 : Int := (iget (Option.getD z_1 default) 11)
    let z_14 : Int := (iget (Option.getD z_1 default) 12)
    let z_15 : Int := (iget (Option.getD z_1 default) 13)
    let z_16 : Int := (iget (Option.getD z_1 default) 14)
    let z_17 : Int := (iget (Option.getD z_1 default) 15)
    bif (Option.isSome z_1) then
    bif (inR z_2 16) then
    bif (inR z_3 16) then
    bif (inR z_4 16) then
    bif (inR z_5 16) then
    bif (inR z_6 16) then
    bif (inR z_7 16) then
    bif (inR z_8 16) then
    bif (inR z_9 16) then
    bif (inR z_10 16) then
    bif (inR z_11 16) then
    bif (inR z_12 16) then
    bif (inR z_13 16) then
    bif (inR z_14 16) then
    bif (inR z_15 16) then
    bif (inR z_16 16) then
    bif (inR z_17 16) then
    k (splicen 32 (splicen 32 (splicen 32 (splicen 32 (splicen 32 (splicen 32 (splicen 32 (splicen 32 (splicen 32 (splicen 32 (splicen 32 (splicen 32 (splicen 32 (splicen 32 (splicen 32 (splicen 32 [(0 : Int), (0 : Int), (0 : Int), (0 : Int), (0 : Int), (0 : Int), (0 : Int), (0 : Int), (0 : Int), (0 : Int), (0 : Int), (0 : Int), (0 : Int), (0 : Int), (0 : Int), (0 : Int), (0 : Int), (0 : Int), (0 : Int), (0 : Int), (0 : Int), (0 : Int), (0 : Int), (0 : Int), (0 : Int), (0 : Int), (0 : Int), (0 : Int), (0 : Int), (0 : Int), (0 : Int), (0 : Int)] ((0 : Nat) + ((Int.toNat z_2) * (2 : Nat))) [(0 : Int), (0 : Int)] 2) ((0 : Nat) + ((Int.toNat z_3) * (2 : Nat))) [(0 : Int), (1 : Int)] 2) ((0 : Nat) + ((Int.toNat z_4) * (2 : Nat))) [(0 : Int), (2 : Int)] 2) ((0 : Nat) + ((Int.toNat z_5) * (2 : Nat))) [(0 : Int), (3 : Int)] 2) ((0 : Nat) + ((Int.toNat z_6) * (2 : Nat))) [(1 : Int), (0 : Int)] 2) ((0 : Nat) + ((Int.toNat z_7) * (2 : Nat))) [(1 : Int), (1 : Int)] 2) ((0 : Nat) + ((Int.toNat z_8) * (2 : Nat))) [(1 : Int), (2 : Int)] 2) ((0 : Nat) + ((Int.toNat z_9) * (2 : Nat))) [(1 : Int), (3 : Int)] 2) ((0 : Nat) + ((Int.toNat z_10) * (2 : Nat))) [(2 : Int), (0 : Int)] 2) ((0 : Nat) + ((Int.toNat z_11) * (2 : Nat))) [(2 : Int), (1 : Int)] 2) ((0 : Nat) + ((Int.toNat z_12) * (2 : Nat))) [(2 : Int), (2 : Int)] 2) ((0 : Nat) + ((Int.toNat z_13) * (2 : Nat))) [(2 : Int), (3 : Int)] 2) ((0 : Nat) + ((Int.toNat z_14) * (2 : Nat))) [(3 : Int), (0 : Int)] 2) ((0 : Nat) + ((Int.toNat z_15) * (2 : Nat))) [(3 : Int), (1 : Int)] 2) ((0 : Nat) + ((Int.toNat z_16) * (2 : Nat))) [(3 : Int), (2 : Int)] 2) ((0 : Nat) + ((Int.toNat z_17) * (2 : Nat))) [(3 : Int), (3 : Int)] 2)
    else none
    else none
    else none
    else none
    else none
    else none
    else none
    else none
    else none
    else none
    else none
    else none
    else none
    else none
    else none
    else none
    else none
def spec_l7Snake_p (F : Nat) (k0 : Int) : Option (List Int) := spec_l7Snake_c _ F k0 some
theorem spec_l7Snake_cp (Q : Type) (F : Nat) (k0 : Int) (k : (List Int) → Option Q) : spec_l7Snake_c Q F k0 k = (spec_l7Snake_p F k0).bind k := by
  simp only [spec_l7Snake_p, spec_l7Snake_c, cond_bindL, none_bindL, some_bindL]

/-- loop 3 of loop.example/g01194/spec.l7Ordered -/
def spec_l7Ordered_s3 (F : Nat) (b7 : List Int) (path8 : List Int) (Q : Type) : (Int) → ((Int) → Option Q) → ((Bool) → Option Q) → Option Q
  | i6, kn, kx =>
    let z_1 := (spec_l2At_p b7 (subn 32 path8 ((0 : Nat) + ((Int.toNat i6) * (2 : Nat))) 2))
    let z_2 : Int := (IntKind.wrap .i64 (i6 - (1 : Int)))
    let z_3 := (spec_l2At_p b7 (subn 32 path8 ((0 : Nat) + ((Int.toNat z_2) * (2 : Nat))) 2))
    bif (decide (i6 < (16 : Int))) then
    bif (inR i6 16) then
    bif (Option.isSome z_1) then
    bif (inR z_2 16) then
    bif (Option.isSome z_3) then
    bif (decide ((Option.getD z_3 default) < (Option.getD z_1 default))) then
    kx true
    else kn (IntKind.wrap .i64 (i6 + (1 : Int)))
    else none
    else none
    else none
    else none
    else kx false
def spec_l7Ordered_l3 (F : Nat) (b7 : List Int) (path8 : List Int) (i6 : Int) : Option (Bool) := loopC (spec_l7Ordered_s3 F b7 path8) F i6 some
theorem spec_l7Ordered_s3_nat (F : Nat) (b7 : List Int) (path8 : List Int) : Natural (spec_l7Ordered_s3 F b7 path8) := by
  intro Q Q' s kn kx h
  simp only [spec_l7Ordered_s3, cond_bindL, none_bindL]
/-- loop.example/g01194/spec.l7Ordered -/
def spec_l7Ordered_c (Q : Type) (F : Nat) (b0 : List Int) (k1 : Int) (k : (Bool) → Option Q) : Option Q :=
    let z_1 := (spec_l7Snake_p F k1)
    let z_2 := (spec_l7Ordered_l3 F b0 (Option.getD z_1 default) (1 : Int))
    bif (Option.isSome z_1) then
    bif (Option.isSome z_2) then
    bif (Option.getD z_2 default) then
    k false
    else k true
    else none
    else none
def spec_l7Ordered_p (F : Nat) (b0 : List Int) (k1 : Int) : Option (Bool) := spec_l7Ordered_c _ F b0 k1 some
theorem spec_l7Ordered_cp (Q : Type) (F : Nat) (b0 : List Int) (k1 : Int) (k : (Bool) → Option Q) : spec_l7Ordered_c Q F b0 k1 k = (spec_l7Ordered_p F b0 k1).bind k := by
  simp only [spec_l7Ordered_p, spec_l7Ordered_c, cond_bindL, none_bindL, some_bindL]

/-- loop 5 of loop.example/g01194/spec.SnakesOf -/
def spec_SnakesOf_s5 (F : Nat) (b6 : List Int) (Q : Type) : (Int × List Int) → ((Int × List Int) → Option Q) → ((List Int) → Option Q) → Option Q
  | (k5, out7), kn, kx =>
    let z_1 := (spec_l7Ordered_p F b6 k5)
    let z_2 : List Int := ((subn (List.length out7) out7 0 (List.length out7)) ++ [k5])
    let z_3 : Int := (IntKind.wrap .i64 (k5 + (1 : Int)))
    bif (decide (k5 < (8 : Int))) then
    bif (Option.isSome z_1) then
    bif (Option.getD z_1 default) then
    bif (fits (List.length z_2) 8) then
    kn (z_3, z_2)
    else none
    else kn (z_3, out7)
    else none
    else kx out7
def spec_SnakesOf_l5 (F : Nat) (b6 : List Int) (k5 : Int) (out7 : List Int) : Option (List Int) := loopC (spec_SnakesOf_s5 F b6) F (k5, out7) some
theorem spec_SnakesOf_s5_nat (F : Nat) (b6 : List Int) : Natural (spec_SnakesOf_s5 F b6) := by
  intro Q Q' s kn kx h
  obtain ⟨k5, out7⟩ := s
  simp only [spec_SnakesOf_s5, cond_bindL, none_bindL]
/-- loop.example/g01194/spec.SnakesOf -/
def spec_SnakesOf_c (Q : Type) (F : Nat) (b0 : List Int) (k : (Bool × List Int) → Option Q) : Option Q :=
    let z_1 := (spec_l2Board_p F b0)
    let z_2 := (spec_SnakesOf_l5 F b0 (0 : Int) ([] : List Int))
    bif (Option.isSome z_1) then
    bif (!(Option.getD z_1 default)) then
    k (false, ([] : List Int))
    else bif (Option.isSome z_2) then
    k (true, (Option.getD z_2 default))
    else none
    else none
def spec_SnakesOf_p (F : Nat) (b0 : List Int) : Option (Bool × List Int) := spec_SnakesOf_c _ F b0 some
theorem spec_SnakesOf_cp (Q : Type) (F : Nat) (b0 : List Int) (k : (Bool × List Int) → Option Q) : spec_SnakesOf_c Q F b0 k = (spec_SnakesOf_p F b0).bind k := by
  simp only [spec_SnakesOf_p, spec_SnakesOf_c, cond_bindL, none_bindL, some_bindL]

/-- loop 2 of loop.example/g01194/impl.moved -/
def impl_moved_s2 (F : Nat) (k0 : Int) (t67 : Int) (Q : Type) : (Int × List Int) → ((Int × List Int) → Option Q) → ((List Int) → Option Q) → Option Q
  | (t78, cell9), kn, kx =>
    bif (decide (t78 < t67)) then
    kn ((IntKind.wrap .i64 (t78 + (1 : Int))), [(iget cell9 1), (IntKind.wrap .i64 ((3 : Int) - (iget cell9 0)))])
    else kx cell9
def impl_moved_l2 (F : Nat) (k0 : Int) (t67 : Int) (t78 : Int) (cell9 : List Int) : Option (List Int) := loopC (impl_moved_s2 F k0 t67) F (t78, cell9) some
theorem impl_moved_s2_nat (F : Nat) (k0 : Int) (t67 : Int) : Natural (impl_moved_s2 F k0 t67) := by
  intro Q Q' s kn kx h
  obtain ⟨t78, cell9⟩ := s
  simp only [impl_moved_s2, cond_bindL, none_bindL]
/-- loop.example/g01194/impl.moved -/
def impl_moved_c (Q : Type) (F : Nat) (k0 : Int) (cell1 : List Int) (k : (List Int) → Option Q) : Option Q :=
    let z_1 := (impl_moved_l2 F k0 (Int.tmod k0 (4 : Int)) (0 : Int) cell1)
    bif (Option.isSome z_1) then
    bif (decide ((4 : Int) ≤ k0)) then
    k (iset (Option.getD z_1 default) 1 (IntKind.wrap .i64 ((3 : Int) - (iget (Option.getD z_1 default) 1))))
    else k (Option.getD z_1 default)
    else none
def impl_moved_p (F : Nat) (k0 : Int) (cell1 : List Int) : Option (List Int) := impl_moved_c _ F k0 cell1 some
theorem impl_moved_cp (Q : Type) (F : Nat) (k0 : Int) (cell1 : List Int) (k : (List Int) → Option Q) : impl_moved_c Q F k0 cell1 k = (impl_moved_p F k0 cell1).bind k := by
  simp only [impl_moved_p, impl_moved_c, cond_bindL, none_bindL, some_bindL]

/-- loop.example/g01194/impl.snake -/
def impl_snake_c (Q : Type) (F : Nat) (k0 : Int) (k : (List Int) → Option Q) : Option Q :=
    let z_1 := (impl_moved_p F k0 [(0 : Int), (0 : Int)])
    let z_2 := (impl_moved_p F k0 [(0 : Int), (1 : Int)])
    let z_3 := (impl_moved_p F k0 [(0 : Int), (2 : Int)])
    let z_4 := (impl_moved_p F k0 [(0 : Int), (3 : Int)])
    let z_5 := (impl_moved_p F k0 [(1 : Int), (3 : Int)])
    let z_6 := (impl_moved_p F k0 [(1 : Int), (2 : Int)])
    let z_7 := (impl_moved_p F k0 [(1 : Int), (1 : Int)])
    let z_8 := (impl_moved_p F k0 [(1 : Int), (0 : Int)])
    let z_9 := (impl_moved_p F k0 [(2 : Int), (0 : Int)])
    let z_10 := (impl_moved_p F k0 [(2 : Int), (1 : Int)])
    let z_11 := (impl_moved_p F k0 [(2 : Int), (2 : Int)])
    let z_12 := (impl_moved_p F k0 [(2 : Int), (3 : Int)])
    let z_13 := (impl_moved_p F k0 [(3 : Int), (3 : Int)])
    let z_14 := (impl_moved_p F k0 [(3 : Int), (2 : Int)])
    let z_15 := (impl_moved_p F k0 [(3 : Int), (1 : Int)])
    let z_16 := (impl_moved_p F k0 [(3 : Int), (0 : Int)])
    bif (Option.isSome z_1) then
    bif (Option.isSome z_2) then
    bif (Option.isSome z_3) then
    bif (Option.isSome z_4) then
    bif (Option.isSome z_5) then
    bif (Option.isSome z_6) then
    bif (Option.isSome z_7) then
    bif (Option.isSome z_8) then
    bif (Option.isSome z_9) then
    bif (Option.isSome z_10) then
    bif (Option.isSome z_11) then
    bif (Option.isSome z_12) then
    bif (Option.isSome z_13) then
    bif (Option.isSome z_14) then
    bif (Option.isSome z_15) then
    bif (Option.isSome z_16) then
    k (splice (splice (splice (splice (splice (splice (splice (splice (splice (splice (splice (splice (splice (splice (splice (splice [(0 : Int), (0 : Int), (0 : Int), (0 : Int), (0 : Int), (0 : Int), (0 : Int), (0 : Int), (0 : Int), (0 : Int), (0 : Int), (0 : Int), (0 : Int), (0 : Int), (0 : Int), (0 : Int), (0 : Int), (0 : Int), (0 : Int), (0 : Int), (0 : Int), (0 : Int), (0 : Int), (0 : Int), (0 : Int), (0 : Int), (0 : Int), (0 : Int), (0 : Int), (0 : Int), (0 : Int), (0 : Int)] 0 (Option.getD z_1 default) 2) 2 (Option.getD z_2 default) 2) 4 (Option.getD z_3 default) 2) 6 (Option.getD z_4 default) 2) 8 (Option.getD z_5 default) 2) 10 (Option.getD z_6 default) 2) 12 (Option.getD z_7 default) 2) 14 (Option.getD z_8 default) 2) 16 (Option.getD z_9 default) 2) 18 (Option.getD z_10 default) 2) 20 (Option.getD z_11 default) 2) 22 (Option.getD z_12 default) 2) 24 (Option.getD z_13 default) 2) 26 (Option.getD z_14 default) 2) 28 (Option.getD z_15 default) 2) 30 (Option.getD z_16 default) 2)
    else none
    else none
    else none
    else none
    else none
    else none
    else none
    else none
    else none
    else none
    else none
    else none
    else none
    else none
    else none
    else none
def impl_snake_p (F : Nat) (k0 : Int) : Option (List Int) := impl_snake_c _ F k0 some
theorem impl_snake_cp (Q : Type) (F : Nat) (k0 : Int) (k : (List Int) → Option Q) : impl_snake_c Q F k0 k = (impl_snake_p F k0).bind k := by
  simp only [impl_snake_p, impl_snake_c, cond_bindL, none_bindL, some_bindL]

/-- cmp.isNaN[int] -/
def cmp_isNaN_int_c (Q : Type) (x0 : Int) (k : (Bool) → Option Q) : Option Q :=
    k (!(x0 == x0))
def cmp_isNaN_int_v (x0 : Int) : Bool :=
    (!(x0 == x0))
theorem cmp_isNaN_int_cv (Q : Type) (x0 : Int) (k : (Bool) → Option Q) : cmp_isNaN_int_c Q x0 k = k (cmp_isNaN_int_v x0) := by
  simp only [cmp_isNaN_int_c, cmp_isNaN_int_v, app_condL k]

/-- cmp.Less[int] -/
def cmp_Less_int_c (Q : Type) (x0 : Int) (y1 : Int) (k : (Bool) → Option Q) : Option Q :=
    bif (cmp_isNaN_int_v x0) then
    bif (!(cmp_isNaN_int_v y1)) then
    k true
    else k (decide (x0 < y1))
    else k (decide (x0 < y1))
def cmp_Less_int_v (x0 : Int) (y1 : Int) : Bool :=
    bif (cmp_isNaN_int_v x0) then
    bif (!(cmp_isNaN_int_v y1)) then
    true
    else (decide (x0 < y1))
    else (decide (x0 < y1))
theorem cmp_Less_int_cv (Q : Type) (x0 : Int) (y1 : Int) (k : (Bool) → Option Q) : cmp_Less_int_c Q x0 y1 k = k (cmp_Less_int_v x0 y1) := by
  simp only [cmp_Less_int_c, cmp_Less_int_v, app_condL k]
end Go.Lv.P
