/-
Pure functions and what the code of them does, by program; without conditions.
-/
import Derived.Test.YtmdicfifhppjaaaTAP1
namespace Go.Lv.P
open Go Go.Lv
set_option linter.unusedVariables false
set_option linter.unusedSimpArgs false
set_option maxRecDepth 100000
/-- loop.example/g01194/impl.MovesBetween -/
def impl_MovesBetween_c (Q : Type) (F : Nat) (a0 : List Int) (b1 : List Int) (k : (Int × Int × Bool) → Option Q) : Option Q :=
    let z_1 := (impl_IsBoard_p F a0)
    let z_2 := (impl_IsBoard_p F b1)
    let z_3 : Int := (IntKind.wrap .i64 ((Option.getD (impl_Board_sum_p b1) default) - (Option.getD (impl_Board_sum_p a0) default)))
    bif (Option.isSome z_1) then
    bif (!(Option.getD z_1 default)) then
    k ((0 : Int), (0 : Int), false)
    else bif (Option.isSome z_2) then
    bif (!(Option.getD z_2 default)) then
    k ((0 : Int), (0 : Int), false)
    else bif (Option.isSome (impl_Board_sum_p b1)) then
    bif (Option.isSome (impl_Board_sum_p a0)) then
    bif (decide ((Option.getD (impl_Board_sum_p b1) default) < (Option.getD (impl_Board_sum_p a0) default))) then
    k ((0 : Int), (0 : Int), false)
    else bif (Option.isSome (impl_Board_sum_p b1)) then
    bif (Option.isSome (impl_Board_sum_p a0)) then
    k ((IntKind.wrap .i64 (Int.tdiv (IntKind.wrap .i64 (z_3 + (3 : Int))) (4 : Int))), (IntKind.wrap .i64 (Int.tdiv z_3 (2 : Int))), true)
    else none
    else none
    else none
    else none
    else none
    else none
def impl_MovesBetween_p (F : Nat) (a0 : List Int) (b1 : List Int) : Option (Int × Int × Bool) := impl_MovesBetween_c _ F a0 b1 some
theorem impl_MovesBetween_cp (Q : Type) (F : Nat) (a0 : List Int) (b1 : List Int) (k : (Int × Int × Bool) → Option Q) : impl_MovesBetween_c Q F a0 b1 k = (impl_MovesBetween_p F a0 b1).bind k := by
  simp only [impl_MovesBetween_p, impl_MovesBetween_c, cond_bindL, none_bindL, some_bindL]

/-- loop.example/g01194/laws.FnExactMovesBetween -/
def laws_FnExactMovesBetween_c (Q : Type) (F : Nat) (aA0 : List Int) (aB1 : List Int) (k : (Bool) → Option Q) : Option Q :=
    let z_1 := (spec_MovesBetween_p F (laws_toBoard_v aA0) (laws_toBoard_v aB1))
    let z_2 := (impl_MovesBetween_p F (laws_toBoard_v aA0) (laws_toBoard_v aB1))
    let z_3 := (Option.getD z_2 default)
    let z_4 := (Option.getD z_1 default)
    bif (Option.isSome z_1) then
    bif (Option.isSome z_2) then
    bif (!(z_3.1 == z_4.1)) then
    k false
    else bif (!(z_3.2.1 == z_4.2.1)) then
    k false
    else bif (!(z_3.2.2 == z_4.2.2)) then
    k false
    else k true
    else none
    else none
def laws_FnExactMovesBetween_p (F : Nat) (aA0 : List Int) (aB1 : List Int) : Option (Bool) := laws_FnExactMovesBetween_c _ F aA0 aB1 some
theorem laws_FnExactMovesBetween_cp (Q : Type) (F : Nat) (aA0 : List Int) (aB1 : List Int) (k : (Bool) → Option Q) : laws_FnExactMovesBetween_c Q F aA0 aB1 k = (laws_FnExactMovesBetween_p F aA0 aB1).bind k := by
  simp only [laws_FnExactMovesBetween_p, laws_FnExactMovesBetween_c, cond_bindL, none_bindL, some_bindL]

/-- loop.example/g01194/spec.HighestFor -/
def spec_HighestFor_c (Q : Type) (F : Nat) (sum0 : Int) (k : (Int × Bool) → Option Q) : Option Q :=
    let z_1 := (spec_l7Sum_p F sum0)
    let z_2 := (spec_l7Least_p F sum0)
    let z_3 : Nat := (List.length (Option.getD z_2 default))
    bif (Option.isSome z_1) then
    bif (!(Option.getD z_1 default)) then
    k ((0 : Int), false)
    else bif (Option.isSome z_2) then
    bif (decide ((0 : Int) < ((z_3 : Nat) : Int))) then
    bif (inR (0 : Int) z_3) then
    k ((iget (Option.getD z_2 default) 0), true)
    else none
    else k ((0 : Int), true)
    else none
    else none
def spec_HighestFor_p (F : Nat) (sum0 : Int) : Option (Int × Bool) := spec_HighestFor_c _ F sum0 some
theorem spec_HighestFor_cp (Q : Type) (F : Nat) (sum0 : Int) (k : (Int × Bool) → Option Q) : spec_HighestFor_c Q F sum0 k = (spec_HighestFor_p F sum0).bind k := by
  simp only [spec_HighestFor_p, spec_HighestFor_c, cond_bindL, none_bindL, some_bindL]

/-- loop.example/g01194/laws.toIntA3 -/
def laws_toIntA3_c (Q : Type) (a0 : List Int) (k : (List Int) → Option Q) : Option Q :=
    k [(iget a0 0), (iget a0 1), (iget a0 2)]
def laws_toIntA3_v (a0 : List Int) : List Int :=
    [(iget a0 0), (iget a0 1), (iget a0 2)]
theorem laws_toIntA3_cv (Q : Type) (a0 : List Int) (k : (List Int) → Option Q) : laws_toIntA3_c Q a0 k = k (laws_toIntA3_v a0) := by
  simp only [laws_toIntA3_c, laws_toIntA3_v, app_condL k]

/-- loop.example/g01194/spec.l2Cell -/
def spec_l2Cell_c (Q : Type) (cell0 : List Int) (k : (Bool) → Option Q) : Option Q :=
    bif (spec_l1In_v (iget cell0 0) (0 : Int) (3 : Int)) then
    k (spec_l1In_v (iget cell0 1) (0 : Int) (3 : Int))
    else k false
def spec_l2Cell_v (cell0 : List Int) : Bool :=
    bif (spec_l1In_v (iget cell0 0) (0 : Int) (3 : Int)) then
    (spec_l1In_v (iget cell0 1) (0 : Int) (3 : Int))
    else false
theorem spec_l2Cell_cv (Q : Type) (cell0 : List Int) (k : (Bool) → Option Q) : spec_l2Cell_c Q cell0 k = k (spec_l2Cell_v cell0) := by
  simp only [spec_l2Cell_c, spec_l2Cell_v, app_condL k]

/-- loop.example/g01194/spec.l2At -/
def spec_l2At_c (Q : Type) (b0 : List Int) (cell1 : List Int) (k : (Int) → Option Q) : Option Q :=
    bif (inR (iget cell1 0) 4) then
    bif (inR (iget cell1 1) 4) then
    k (iget b0 (((0 : Nat) + ((Int.toNat (iget cell1 0)) * (4 : Nat))) + ((Int.toNat (iget cell1 1)) * (1 : Nat))))
    else none
    else none
def spec_l2At_p (b0 : List Int) (cell1 : List Int) : Option (Int) := spec_l2At_c _ b0 cell1 some
theorem spec_l2At_cp (Q : Type) (b0 : List Int) (cell1 : List Int) (k : (Int) → Option Q) : spec_l2At_c Q b0 cell1 k = (spec_l2At_p b0 cell1).bind k := by
  simp only [spec_l2At_p, spec_l2At_c, cond_bindL, none_bindL, some_bindL]

/-- loop.example/g01194/spec.l8Can -/
def spec_l8Can_c (Q : Type) (b0 : List Int) (p1 : List Int) (k : (Bool) → Option Q) : Option Q :=
    let z_1 : List Int := [(iget p1 0), (iget p1 1)]
    let z_2 := (spec_l2At_p b0 z_1)
    bif (spec_l2Cell_v z_1) then
    bif (spec_l1In_v (iget p1 2) (1 : Int) (2 : Int)) then
    bif (Option.isSome z_2) then
    k ((Option.getD z_2 default) == (0 : Int))
    else none
    else k false
    else k false
def spec_l8Can_p (b0 : List Int) (p1 : List Int) : Option (Bool) := spec_l8Can_c _ b0 p1 some
theorem spec_l8Can_cp (Q : Type) (b0 : List Int) (p1 : List Int) (k : (Bool) → Option Q) : spec_l8Can_c Q b0 p1 k = (spec_l8Can_p b0 p1).bind k := by
  simp only [spec_l8Can_p, spec_l8Can_c, cond_bindL, none_bindL, some_bindL]

/-- loop.example/g01194/spec.l2Put -/
def spec_l2Put_c (Q : Type) (b0 : List Int) (cell1 : List Int) (t2 : Int) (k : (List Int) → Option Q) : Option Q :=
    bif (inR (iget cell1 0) 4) then
    bif (inR (iget cell1 1) 4) then
    k (iset b0 (((0 : Nat) + ((Int.toNat (iget cell1 0)) * (4 : Nat))) + ((Int.toNat (iget cell1 1)) * (1 : Nat))) t2)
    else none
    else none
def spec_l2Put_p (b0 : List Int) (cell1 : List Int) (t2 : Int) : Option (List Int) := spec_l2Put_c _ b0 cell1 t2 some
theorem spec_l2Put_cp (Q : Type) (b0 : List Int) (cell1 : List Int) (t2 : Int) (k : (List Int) → Option Q) : spec_l2Put_c Q b0 cell1 t2 k = (spec_l2Put_p b0 cell1 t2).bind k := by
  simp only [spec_l2Put_p, spec_l2Put_c, cond_bindL, none_bindL, some_bindL]

/-- loop.example/g01194/spec.l8Put -/
def spec_l8Put_c (Q : Type) (b0 : List Int) (p1 : List Int) (k : (List Int) → Option Q) : Option Q :=
    let z_1 := (spec_l2Put_p b0 [(iget p1 0), (iget p1 1)] (iget p1 2))
    bif (Option.isSome z_1) then
    k (Option.getD z_1 default)
    else none
def spec_l8Put_p (b0 : List Int) (p1 : List Int) : Option (List Int) := spec_l8Put_c _ b0 p1 some
theorem spec_l8Put_cp (Q : Type) (b0 : List Int) (p1 : List Int) (k : (List Int) → Option Q) : spec_l8Put_c Q b0 p1 k = (spec_l8Put_p b0 p1).bind k := by
  simp only [spec_l8Put_p, spec_l8Put_c, cond_bindL, none_bindL, some_bindL]

/-- loop.example/g01194/spec.PlaceTile -/
def spec_PlaceTile_c (Q : Type) (F : Nat) (b0 : List Int) (p1 : List Int) (k : (List Int × Bool) → Option Q) : Option Q :=
    let z_1 := (spec_l2Board_p F b0)
    let z_2 : List Int := [(0 : Int), (0 : Int), (0 : Int), (0 : Int), (0 : Int), (0 : Int), (0 : Int), (0 : Int), (0 : Int), (0 : Int), (0 : Int), (0 : Int), (0 : Int), (0 : Int), (0 : Int), (0 : Int)]
    let z_3 := (spec_l8Can_p b0 p1)
    let z_4 := (spec_l8Put_p b0 p1)
    bif (Option.isSome z_1) then
    bif (!(Option.getD z_1 default)) then
    k (z_2, false)
    else bif (Option.isSome z_3) then
    bif (!(Option.getD z_3 default)) then
    k (z_2, false)
    else bif (Option.isSome z_4) then
    k ((Option.getD z_4 default), true)
    else none
    else none
    else none
def spec_PlaceTile_p (F : Nat) (b0 : List Int) (p1 : List Int) : Option (List Int × Bool) := spec_PlaceTile_c _ F b0 p1 some
theorem spec_PlaceTile_cp (Q : Type) (F : Nat) (b0 : List Int) (p1 : List Int) (k : (List Int × Bool) → Option Q) : spec_PlaceTile_c Q F b0 p1 k = (spec_PlaceTile_p F b0 p1).bind k := by
  simp only [spec_PlaceTile_p, spec_PlaceTile_c, cond_bindL, none_bindL, some_bindL]

/-- loop.example/g01194/impl.isCell -/
def impl_isCell_c (Q : Type) (cell0 : List Int) (k : (Bool) → Option Q) : Option Q :=
    bif (impl_in_v (iget cell0 0) (0 : Int) (3 : Int)) then
    k (impl_in_v (iget cell0 1) (0 : Int) (3 : Int))
    else k false
def impl_isCell_v (cell0 : List Int) : Bool :=
    bif (impl_in_v (iget cell0 0) (0 : Int) (3 : Int)) then
    (impl_in_v (iget cell0 1) (0 : Int) (3 : Int))
    else false
theorem impl_isCell_cv (Q : Type) (cell0 : List Int) (k : (Bool) → Option Q) : impl_isCell_c Q cell0 k = k (impl_isCell_v cell0) := by
  simp only [impl_isCell_c, impl_isCell_v, app_condL k]

/-- loop.example/g01194/impl.PutTile -/
def impl_PutTile_c (Q : Type) (F : Nat) (b0 : List Int) (cell1 : List Int) (t2 : Int) (k : (List Int × Bool) → Option Q) : Option Q :=
    let z_1 := (impl_IsBoard_p F b0)
    let z_2 : List Int := [(0 : Int), (0 : Int), (0 : Int), (0 : Int), (0 : Int), (0 : Int), (0 : Int), (0 : Int), (0 : Int), (0 : Int), (0 : Int), (0 : Int), (0 : Int), (0 : Int), (0 : Int), (0 : Int)]
    let z_3 := (impl_Board_at_p cell1 b0)
    let z_4 : Bool := (Option.isSome z_3)
    bif (Option.isSome z_1) then
    bif (!(Option.getD z_1 default)) then
    k (z_2, false)
    else bif (!(impl_isCell_v cell1)) then
    k (z_2, false)
    else bif (!(impl_in_v t2 (1 : Int) (17 : Int))) then
    k (z_2, false)
    else bif z_4 then
    bif (!((iget b0 (Option.getD z_3 default)) == (0 : Int))) then
    k (z_2, false)
    else bif z_4 then
    k ((iset b0 (Option.getD z_3 default) t2), true)
    else none
    else none
    else none
def impl_PutTile_p (F : Nat) (b0 : List Int) (cell1 : List Int) (t2 : Int) : Option (List Int × Bool) := impl_PutTile_c _ F b0 cell1 t2 some
theorem impl_PutTile_cp (Q : Type) (F : Nat) (b0 : List Int) (cell1 : List Int) (t2 : Int) (k : (List Int × Bool) → Option Q) : impl_PutTile_c Q F b0 cell1 t2 k = (impl_PutTile_p F b0 cell1 t2).bind k := by
  simp only [impl_PutTile_p, impl_PutTile_c, cond_bindL, none_bindL, some_bindL]

/-- loop.example/g01194/impl.PlaceTile -/
def impl_PlaceTile_c (Q : Type) (F : Nat) (b0 : List Int) (p1 : List Int) (k : (List Int × Bool) → Option Q) : Option Q :=
    let z_1 := (impl_PutTile_p F b0 [(iget p1 0), (iget p1 1)] (iget p1 2))
    let z_2 := (Option.getD z_1 default)
    bif (!(impl_in_v (iget p1 2) (1 : Int) (2 : Int))) then
    k ([(0 : Int), (0 : Int), (0 : Int), (0 : Int), (0 : Int), (0 : Int), (0 : Int), (0 : Int), (0 : Int), (0 : Int), (0 : Int), (0 : Int), (0 : Int), (0 : Int), (0 : Int), (0 : Int)], false)
    else bif (Option.isSome z_1) then
    k (z_2.1, z_2.2)
    else none
def impl_PlaceTile_p (F : Nat) (b0 : List Int) (p1 : List Int) : Option (List Int × Bool) := impl_PlaceTile_c _ F b0 p1 some
theorem impl_PlaceTile_cp (Q : Type) (F : Nat) (b0 : List Int) (p1 : List Int) (k : (List Int × Bool) → Option Q) : impl_PlaceTile_c Q F b0 p1 k = (impl_PlaceTile_p F b0 p1).bind k := by
  simp only [impl_PlaceTile_p, impl_PlaceTile_c, cond_bindL, none_bindL, some_bindL]

/-- loop 2 of loop.example/g01194/laws.eqIntA4 -/
def laws_eqIntA4_s2 (F : Nat) (a7 : List Int) (b8 : List Int) (Q : Type) : (Int) → ((Int) → Option Q) → ((Bool) → Option Q) → Option Q
  | i6, kn, kx =>
    let z_1 : Nat := ((0 : Nat) + ((Int.toNat i6) * (1 : Nat)))
    bif (decide (i6 < (4 : Int))) then
    bif (inR i6 4) then
    bif (inR i6 4) then
    bif (!((iget a7 z_1) == (iget b8 z_1))) then
    kx true
    else kn (IntKind.wrap .i64 (i6 + (1 : Int)))
    else none
    else none
    else kx false
def laws_eqIntA4_l2 (F : Nat) (a7 : List Int) (b8 : List Int) (i6 : Int) : Option (Bool) := loopC (laws_eqIntA4_s2 F a7 b8) F i6 some
theorem laws_eqIntA4_s2_nat (F : Nat) (a7 : List Int) (b8 : List Int) : Natural (laws_eqIntA4_s2 F a7 b8) := by
  intro Q Q' s kn kx h
  simp only [laws_eqIntA4_s2, cond_bindL, none_bindL]
/-- loop.example/g01194/laws.eqIntA4 -/
def laws_eqIntA4_c (Q : Type) (F : Nat) (a0 : List Int) (b1 : List Int) (k : (Bool) → Option Q) : Option Q :=
    let z_1 := (laws_eqIntA4_l2 F a0 b1 (0 : Int))
    bif (Option.isSome z_1) then
    bif (Option.getD z_1 default) then
    k false
    else k true
    else none
def laws_eqIntA4_p (F : Nat) (a0 : List Int) (b1 : List Int) : Option (Bool) := laws_eqIntA4_c _ F a0 b1 some
theorem laws_eqIntA4_cp (Q : Type) (F : Nat) (a0 : List Int) (b1 : List Int) (k : (Bool) → Option Q) : laws_eqIntA4_c Q F a0 b1 k = (laws_eqIntA4_p F a0 b1).bind k := by
  simp only [laws_eqIntA4_p, laws_eqIntA4_c, cond_bindL, none_bindL, some_bindL]

/-- loop 2 of loop.example/g01194/laws.eqIntA4A4 -/
def laws_eqIntA4A4_s2 (F : Nat) (a7 : List Int) (b8 : List Int) (Q : Type) : (Int) → ((Int) → Option Q) → ((Bool) → Option Q) → Option Q
  | i6, kn, kx =>
    let z_1 : Nat := ((0 : Nat) + ((Int.toNat i6) * (4 : Nat)))
    let z_2 := (laws_eqIntA4_p F (subn 16 a7 z_1 4) (subn 16 b8 z_1 4))
    bif (decide (i6 < (4 : Int))) then
    bif (inR i6 4) then
    bif (inR i6 4) then
    bif (Option.isSome z_2) then
    bif (!(Option.getD z_2 default)) then
    kx true
    else kn (IntKind.wrap .i64 (i6 + (1 : Int)))
    else none
    else none
    else none
    else kx false
def laws_eqIntA4A4_l2 (F : Nat) (a7 : List Int) (b8 : List Int) (i6 : Int) : Option (Bool) := loopC (laws_eqIntA4A4_s2 F a7 b8) F i6 some
theorem laws_eqIntA4A4_s2_nat (F : Nat) (a7 : List Int) (b8 : List Int) : Natural (laws_eqIntA4A4_s2 F a7 b8) := by
  intro Q Q' s kn kx h
  simp only [laws_eqIntA4A4_s2, cond_bindL, none_bindL]
/-- loop.example/g01194/laws.eqIntA4A4 -/
def laws_eqIntA4A4_c (Q : Type) (F : Nat) (a0 : List Int) (b1 : List Int) (k : (Bool) → Option Q) : Option Q :=
    let z_1 := (laws_eqIntA4A4_l2 F a0 b1 (0 : Int))
    bif (Option.isSome z_1) then
    bif (Option.getD z_1 default) then
    k false
    else k true
    else none
def laws_eqIntA4A4_p (F : Nat) (a0 : List Int) (b1 : List Int) : Option (Bool) := laws_eqIntA4A4_c _ F a0 b1 some
theorem laws_eqIntA4A4_cp (Q : Type) (F : Nat) (a0 : List Int) (b1 : List Int) (k : (Bool) → Option Q) : laws_eqIntA4A4_c Q F a0 b1 k = (laws_eqIntA4A4_p F a0 b1).bind k := by
  simp only [laws_eqIntA4A4_p, laws_eqIntA4A4_c, cond_bindL, none_bindL, some_bindL]

/-- loop.example/g01194/laws.eqBoard -/
def laws_eqBoard_c (Q : Type) (F : Nat) (a0 : List Int) (b1 : List Int) (k : (Bool) → Option Q) : Option Q :=
    let z_1 := (laws_eqIntA4A4_p F a0 b1)
    bif (Option.isSome z_1) then
    bif (!(Option.getD z_1 default)) then
    k false
    else k true
    else none
def laws_eqBoard_p (F : Nat) (a0 : List Int) (b1 : List Int) : Option (Bool) := laws_eqBoard_c _ F a0 b1 some
theorem laws_eqBoard_cp (Q : Type) (F : Nat) (a0 : List Int) (b1 : List Int) (k : (Bool) → Option Q) : laws_eqBoard_c Q F a0 b1 k = (laws_eqBoard_p F a0 b1).bind k := by
  simp only [laws_eqBoard_p, laws_eqBoard_c, cond_bindL, none_bindL, some_bindL]

/-- loop.example/g01194/laws.FnExactPlaceTile -/
def laws_FnExactPlaceTile_c (Q : Type) (F : Nat) (aB0 : List Int) (aP1 : List Int) (k : (Bool) → Option Q) : Option Q :=
    let z_1 := (spec_PlaceTile_p F (laws_toBoard_v aB0) (laws_toIntA3_v aP1))
    let z_2 := (impl_PlaceTile_p F (laws_toBoard_v aB0) (laws_toIntA3_v aP1))
    let z_3 := (Option.getD z_2 default)
    let z_4 := (Option.getD z_1 default)
    let z_5 := (laws_eqBoard_p F z_3.1 z_4.1)
    bif (Option.isSome z_1) then
    bif (Option.isSome z_2) then
    bif (Option.isSome z_5) then
    bif (!(Option.getD z_5 default)) then
    k false
    else bif (!(z_3.2 == z_4.2)) then
    k false
    else k true
    else none
    else none
    else none
def laws_FnExactPlaceTile_p (F : Nat) (aB0 : List Int) (aP1 : List Int) : Option (Bool) := laws_FnExactPlaceTile_c _ F aB0 aP1 some
theorem laws_FnExactPlaceTile_cp (Q : Type) (F : Nat) (aB0 : List Int) (aP1 : List Int) (k : (Bool) → Option Q) : laws_FnExactPlaceTile_c Q F aB0 aP1 k = (laws_FnExactPlaceTile_p F aB0 aP1).bind k := by
  simp only [laws_FnExactPlaceTile_p, laws_FnExactPlaceTile_c, cond_bindL, none_bindL, some_bindL]

/-- loop 6 of loop.example/g01194/spec.l7Potential -/
def spec_l7Potential_s6 (F : Nat) (r4 : Int) (b6 : List Int) (Q : Type) : (Int × Int) → ((Int × Int) → Option Q) → ((Int) → Option Q) → Option Q
  | (sum3, c5), kn, kx =>
    let z_1 : Int := (iget b6 (((0 : Nat) + ((Int.toNat r4) * (4 : Nat))) + ((Int.toNat c5) * (1 : Nat))))
    let z_2 : Int := (IntKind.wrap .i64 (c5 + (1 : Int)))
    bif (decide (c5 < (4 : Int))) then
    bif (inR r4 4) then
    bif (inR c5 4) then
    bif (decide ((0 : Int) < z_1)) then
    bif (Option.isSome (spec_l2Worth_p z_1)) then
    kn ((IntKind.wrap .i64 (sum3 + (IntKind.wrap .i64 ((IntKind.wrap .i64 (z_1 - (1 : Int))) * (Option.getD (spec_l2Worth_p z_1) default))))), z_2)
    else none
    else kn (sum3, z_2)
    else none
    else none
    else kx sum3
def spec_l7Potential_l6 (F : Nat) (r4 : Int) (b6 : List Int) (sum3 : Int) (c5 : Int) : Option (Int) := loopC (spec_l7Potential_s6 F r4 b6) F (sum3, c5) some
theorem spec_l7Potential_s6_nat (F : Nat) (r4 : Int) (b6 : List Int) : Natural (spec_l7Potential_s6 F r4 b6) := by
  intro Q Q' s kn kx h
  obtain ⟨sum3, c5⟩ := s
  simp only [spec_l7Potential_s6, cond_bindL, none_bindL]
/-- loop 3 of loop.example/g01194/spec.l7Potential -/
def spec_l7Potential_s3 (F : Nat) (b5 : List Int) (Q : Type) : (Int × Int) → ((Int × Int) → Option Q) → ((Int) → Option Q) → Option Q
  | (sum3, r4), kn, kx =>
    let z_1 := (spec_l7Potential_l6 F r4 b5 sum3 (0 : Int))
    bif (decide (r4 < (4 : Int))) then
    bif (Option.isSome z_1) then
    kn ((Option.getD z_1 default), (IntKind.wrap .i64 (r4 + (1 : Int))))
    else none
    else kx sum3
def spec_l7Potential_l3 (F : Nat) (b5 : List Int) (sum3 : Int) (r4 : Int) : Option (Int) := loopC (spec_l7Potential_s3 F b5) F (sum3, r4) some
theorem spec_l7Potential_s3_nat (F : Nat) (b5 : List Int) : Natural (spec_l7Potential_s3 F b5) := by
  intro Q Q' s kn kx h
  obtain ⟨sum3, r4⟩ := s
  simp only [spec_l7Potential_s3, cond_bindL, none_bindL]
/-- loop.example/g01194/spec.l7Potential -/
def spec_l7Potential_c (Q : Type) (F : Nat) (b0 : List Int) (k : (Int) → Option Q) : Option Q :=
    let z_1 := (spec_l7Potential_l3 F b0 (0 : Int) (0 : Int))
    bif (Option.isSome z_1) then
    k (Option.getD z_1 default)
    else none
def spec_l7Potential_p (F : Nat) (b0 : List Int) : Option (Int) := spec_l7Potential_c _ F b0 some
theorem spec_l7Potential_cp (Q : Type) (F : Nat) (b0 : List Int) (k : (Int) → Option Q) : spec_l7Potential_c Q F b0 k = (spec_l7Potential_p F b0).bind k := by
  simp only [spec_l7Potential_p, spec_l7Potential_c, cond_bindL, none_bindL, some_bindL]

/-- loop.example/g01194/spec.PotentialOf -/
def spec_PotentialOf_c (Q : Type) (F : Nat) (b0 : List Int) (k : (Int × Bool) → Option Q) : Option Q :=
    let z_1 := (spec_l2Board_p F b0)
    let z_2 := (spec_l7Potential_p F b0)
    bif (Option.isSome z_1) then
    bif (!(Option.getD z_1 default)) then
    k ((0 : Int), false)
    else bif (Option.isSome z_2) then
    k ((Option.getD z_2 default), true)
    else none
    else none
def spec_PotentialOf_p (F : Nat) (b0 : List Int) : Option (Int × Bool) := spec_PotentialOf_c _ F b0 some
theorem spec_PotentialOf_cp (Q : Type) (F : Nat) (b0 : List Int) (k : (Int × Bool) → Option Q) : spec_PotentialOf_c Q F b0 k = (spec_PotentialOf_p F b0).bind k := by
  simp only [spec_PotentialOf_p, spec_PotentialOf_c, cond_bindL, none_bindL, some_bindL]

/-- loop.example/g01194/spec.ScoreBetween -/
def spec_ScoreBetween_c (Q : Type) (F : Nat) (a0 : List Int) (b1 : List Int) (twos2 : Int) (k : (Int × Bool) → Option Q) : Option Q :=
    let z_1 := (spec_l2Board_p F a0)
    let z_2 := (spec_l2Board_p F b1)
    let z_3 := (spec_l7Potential_p F b1)
    let z_4 := (spec_l7Potential_p F a0)
    bif (Option.isSome z_1) then
    bif (!(Option.getD z_1 default)) then
    k ((0 : Int), false)
    else bif (Option.isSome z_2) then
    bif (!(Option.getD z_2 default)) then
    k ((0 : Int), false)
    else bif (!(spec_l1In_v twos2 (0 : Int) (2097152 : Int))) then
    k ((0 : Int), false)
    else bif (Option.isSome z_3) then
    bif (Option.isSome z_4) then
    k ((IntKind.wrap .i64 ((IntKind.wrap .i64 ((Option.getD z_3 default) - (Option.getD z_4 default))) - (IntKind.wrap .i64 ((4 : Int) * twos2)))), true)
    else none
    else none
    else none
    else none
def spec_ScoreBetween_p (F : Nat) (a0 : List Int) (b1 : List Int) (twos2 : Int) : Option (Int × Bool) := spec_ScoreBetween_c _ F a0 b1 twos2 some
theorem spec_ScoreBetween_cp (Q : Type) (F : Nat) (a0 : List Int) (b1 : List Int) (twos2 : Int) (k : (Int × Bool) → Option Q) : spec_ScoreBetween_c Q F a0 b1 twos2 k = (spec_ScoreBetween_p F a0 b1 twos2).bind k := by
  simp only [spec_ScoreBetween_p, spec_ScoreBetween_c, cond_bindL, none_bindL, some_bindL]

/-- loop.example/g01194/spec.l1Most -/
def spec_l1Most_c (Q : Type) (a0 : Int) (b1 : Int) (k : (Int) → Option Q) : Option Q :=
    bif (decide (b1 < a0)) then
    k a0
    else k b1
def spec_l1Most_v (a0 : Int) (b1 : Int) : Int :=
    bif (decide (b1 < a0)) then
    a0
    else b1
theorem spec_l1Most_cv (Q : Type) (a0 : Int) (b1 : Int) (k : (Int) → Option Q) : spec_l1Most_c Q a0 b1 k = k (spec_l1Most_v a0 b1) := by
  simp only [spec_l1Most_c, spec_l1Most_v, app_condL k]

/-- loop 2 of loop.example/g01194/spec.l9Cut -/
def spec_l9Cut_s2 (F : Nat) (a0 : Int) (b1 : Int) (Q : Type) : (Int × Int) → ((Int × Int) → Option Q) → ((Int) → Option Q) → Option Q
  | (x5, y6), kn, kx =>
    bif (decide ((0 : Int) < y6)) then
    bif (y6 == (0 : Int)) then
    none
    else kn (y6, (Int.tmod x5 y6))
    else kx x5
def spec_l9Cut_l2 (F : Nat) (a0 : Int) (b1 : Int) (x5 : Int) (y6 : Int) : Option (Int) := loopC (spec_l9Cut_s2 F a0 b1) F (x5, y6) some
theorem spec_l9Cut_s2_nat (F : Nat) (a0 : Int) (b1 : Int) : Natural (spec_l9Cut_s2 F a0 b1) := by
  intro Q Q' s kn kx h
  obtain ⟨x5, y6⟩ := s
  simp only [spec_l9Cut_s2, cond_bindL, none_bindL]
/-- loop.example/g01194/spec.l9Cut -/
def spec_l9Cut_c (Q : Type) (F : Nat) (a0 : Int) (b1 : Int) (k : (List Int) → Option Q) : Option Q :=
    let z_1 := (spec_l9Cut_l2 F a0 b1 a0 b1)
    let z_2 : Bool := ((spec_l1Most_v (Option.getD z_1 default) (1 : Int)) == (0 : Int))
    bif (Option.isSome z_1) then
    bif z_2 then
    none
    else bif z_2 then
    none
    else k [(IntKind.wrap .i64 (Int.tdiv a0 (spec_l1Most_v (Option.getD z_1 default) (1 : Int)))), (IntKind.wrap .i64 (Int.tdiv b1 (spec_l1Most_v (Option.getD z_1 default) (1 : Int))))]
    else none
def spec_l9Cut_p (F : Nat) (a0 : Int) (b1 : Int) : Option (List Int) := spec_l9Cut_c _ F a0 b1 some
theorem spec_l9Cut_cp (Q : Type) (F : Nat) (a0 : Int) (b1 : Int) (k : (List Int) → Option Q) : spec_l9Cut_c Q F a0 b1 k = (spec_l9Cut_p F a0 b1).bind k := by
  simp only [spec_l9Cut_p, spec_l9Cut_c, cond_bindL, none_bindL, some_bindL]

/-- loop.example/g01194/spec.l9Plus -/
def spec_l9Plus_c (Q : Type) (F : Nat) (a0 : List Int) (b1 : List Int) (k : (List Int) → Option Q) : Option Q :=
    let z_1 := (spec_l9Cut_p F (IntKind.wrap .i64 ((IntKind.wrap .i64 ((iget a0 0) * (iget b1 1))) + (IntKind.wrap .i64 ((iget b1 0) * (iget a0 1))))) (IntKind.wrap .i64 ((iget a0 1) * (iget b1 1))))
    bif (Option.isSome z_1) then
    k (Option.getD z_1 default)
    else none
def spec_l9Plus_p (F : Nat) (a0 : List Int) (b1 : List Int) : Option (List Int) := spec_l9Plus_c _ F a0 b1 some
theorem spec_l9Plus_cp (Q : Type) (F : Nat) (a0 : List Int) (b1 : List Int) (k : (List Int) → Option Q) : spec_l9Plus_c Q F a0 b1 k = (spec_l9Plus_p F a0 b1).bind k := by
  simp only [spec_l9Plus_p, spec_l9Plus_c, cond_bindL, none_bindL, some_bindL]

/-- loop.example/g01194/spec.MeanSum -/
def spec_MeanSum_c (Q : Type) (F : Nat) (b0 : List Int) (n1 : Int) (k : (List Int × Bool) → Option Q) : Option Q :=
    let z_1 := (spec_l2Board_p F b0)
    let z_2 := (spec_l2Sum_p F b0)
    let z_3 := (spec_l9Cut_p F (IntKind.wrap .i64 ((11 : Int) * n1)) (5 : Int))
    let z_4 := (spec_l9Plus_p F [(Option.getD z_2 default), (1 : Int)] (Option.getD z_3 default))
    bif (Option.isSome z_1) then
    bif (!(Option.getD z_1 default)) then
    k ([(0 : Int), (0 : Int)], false)
    else bif (!(spec_l1In_v n1 (0 : Int) (1000 : Int))) then
    k ([(0 : Int), (0 : Int)], false)
    else bif (Option.isSome z_2) then
    bif (Option.isSome z_3) then
    bif (Option.isSome z_4) then
    k ((Option.getD z_4 default), true)
    else none
    else none
    else none
    else none
def spec_MeanSum_p (F : Nat) (b0 : List Int) (n1 : Int) : Option (List Int × Bool) := spec_MeanSum_c _ F b0 n1 some
theorem spec_MeanSum_cp (Q : Type) (F : Nat) (b0 : List Int) (n1 : Int) (k : (List Int × Bool) → Option Q) : spec_MeanSum_c Q F b0 n1 k = (spec_MeanSum_p F b0 n1).bind k := by
  simp only [spec_MeanSum_p, spec_MeanSum_c, cond_bindL, none_bindL, some_bindL]

/-- loop 2 of loop.example/g01194/impl.fraction -/
def impl_fraction_s2 (F : Nat) (num0 : Int) (den1 : Int) (Q : Type) : (Int × Int) → ((Int × Int) → Option Q) → ((Int) → Option Q) → Option Q
  | (a5, b6), kn, kx =>
    bif (!(b6 == (0 : Int))) then
    bif (b6 == (0 : Int)) then
    none
    else kn (b6, (Int.tmod a5 b6))
    else kx a5
def impl_fraction_l2 (F : Nat) (num0 : Int) (den1 : Int) (a5 : Int) (b6 : Int) : Option (Int) := loopC (impl_fraction_s2 F num0 den1) F (a5, b6) some
theorem impl_fraction_s2_nat (F : Nat) (num0 : Int) (den1 : Int) : Natural (impl_fraction_s2 F num0 den1) := by
  intro Q Q' s kn kx h
  obtain ⟨a5, b6⟩ := s
  simp only [impl_fraction_s2, cond_bindL, none_bindL]
/-- loop.example/g01194/impl.fraction -/
def impl_fraction_c (Q : Type) (F : Nat) (num0 : Int) (den1 : Int) (k : (List Int) → Option Q) : Option Q :=
    let z_1 := (impl_fraction_l2 F num0 den1 num0 den1)
    let z_2 : Bool := ((Option.getD z_1 default) == (0 : Int))
    bif (Option.isSome z_1) then
    bif z_2 then
    none
    else bif z_2 then
    none
    else k [(IntKind.wrap .i64 (Int.tdiv num0 (Option.getD z_1 default))), (IntKind.wrap .i64 (Int.tdiv den1 (Option.getD z_1 default)))]
    else none
def impl_fraction_p (F : Nat) (num0 : Int) (den1 : Int) : Option (List Int) := impl_fraction_c _ F num0 den1 some
theorem impl_fraction_cp (Q : Type) (F : Nat) (num0 : Int) (den1 : Int) (k : (List Int) → Option Q) : impl_fraction_c Q F num0 den1 k = (impl_fraction_p F num0 den1).bind k := by
  simp only [impl_fraction_p, impl_fraction_c, cond_bindL, none_bindL, some_bindL]
end Go.Lv.P
