/-
Pure functions and what the code of them does, by program; without conditions.
-/
import Derived.Test.YtabfliifleonaaaQaP2
namespace Go.Lv.P
open Go Go.Lv
set_option linter.unusedVariables false
set_option linter.unusedSimpArgs false
set_option maxRecDepth 100000
/-- loop 6 of loop.example/g01194/spec.l7Potential -/
def spec_l7Potential_s6 (F : Nat) (r4 : Int) (b6 : List Int) (Q : Type) : (Int × Int) → ((Int × Int) → Option Q) → ((Int) → Option Q) → Option Q
  | (sum3, c5), kn, kx =>
    let z_1 : Int := (iget b6 (((0 : Nat) + ((Int.toNat r4) * (4 : Nat))) + ((Int.toNat c5) * (1 : Nat))))
    let z_2 : Int := (IntKind.wrap .i64 (c5 + (1 : Int)))
    bif (decide (c5 < (4 : Int))) then
    bif (inR r4 4) then
    bif (inR c5 4) then
    bif (decide ((0 : Int) < z_1)) then
    bif (Option.isSome (spec_l2Worth_p z_1)) then
    kn ((IntKind.wrap .i64 (sum3 + (IntKind.wrap .i64 ((IntKind.wrap .i64 (z_1 - (1 : Int))) * (Option.getD (spec_l2Worth_p z_1) default))))), z_2)
    else none
    else kn (sum3, z_2)
    else none
    else none
    else kx sum3
def spec_l7Potential_l6 (F : Nat) (r4 : Int) (b6 : List Int) (sum3 : Int) (c5 : Int) : Option (Int) := loopC (spec_l7Potential_s6 F r4 b6) F (sum3, c5) some
theorem spec_l7Potential_s6_nat (F : Nat) (r4 : Int) (b6 : List Int) : Natural (spec_l7Potential_s6 F r4 b6) := by
  intro Q Q' s kn kx h
  obtain ⟨sum3, c5⟩ := s
  simp only [spec_l7Potential_s6, cond_bindL, none_bindL]
/-- loop 3 of loop.example/g01194/spec.l7Potential -/
def spec_l7Potential_s3 (F : Nat) (b5 : List Int) (Q : Type) : (Int × Int) → ((Int × Int) → Option Q) → ((Int) → Option Q) → Option Q
  | (sum3, r4), kn, kx =>
    let z_1 := (spec_l7Potential_l6 F r4 b5 sum3 (0 : Int))
    bif (decide (r4 < (4 : Int))) then
    bif (Option.isSome z_1) then
    kn ((Option.getD z_1 default), (IntKind.wrap .i64 (r4 + (1 : Int))))
    else none
    else kx sum3
def spec_l7Potential_l3 (F : Nat) (b5 : List Int) (sum3 : Int) (r4 : Int) : Option (Int) := loopC (spec_l7Potential_s3 F b5) F (sum3, r4) some
theorem spec_l7Potential_s3_nat (F : Nat) (b5 : List Int) : Natural (spec_l7Potential_s3 F b5) := by
  intro Q Q' s kn kx h
  obtain ⟨sum3, r4⟩ := s
  simp only [spec_l7Potential_s3, cond_bindL, none_bindL]
/-- loop.example/g01194/spec.l7Potential -/
def spec_l7Potential_c (Q : Type) (F : Nat) (b0 : List Int) (k : (Int) → Option Q) : Option Q :=
    let z_1 := (spec_l7Potential_l3 F b0 (0 : Int) (0 : Int))
    bif (Option.isSome z_1) then
    k (Option.getD z_1 default)
    else none
def spec_l7Potential_p (F : Nat) (b0 : List Int) : Option (Int) := spec_l7Potential_c _ F b0 some
theorem spec_l7Potential_cp (Q : Type) (F : Nat) (b0 : List Int) (k : (Int) → Option Q) : spec_l7Potential_c Q F b0 k = (spec_l7Potential_p F b0).bind k := by
  simp only [spec_l7Potential_p, spec_l7Potential_c, cond_bindL, none_bindL, some_bindL]

/-- loop.example/g01194/spec.PotentialOf -/
def spec_PotentialOf_c (Q : Type) (F : Nat) (b0 : List Int) (k : (Int × Bool) → Option Q) : Option Q :=
    let z_1 := (spec_l2Board_p F b0)
    let z_2 := (spec_l7Potential_p F b0)
    bif (Option.isSome z_1) then
    bif (!(Option.getD z_1 default)) then
    k ((0 : Int), false)
    else bif (Option.isSome z_2) then
    k ((Option.getD z_2 default), true)
    else none
    else none
def spec_PotentialOf_p (F : Nat) (b0 : List Int) : Option (Int × Bool) := spec_PotentialOf_c _ F b0 some
theorem spec_PotentialOf_cp (Q : Type) (F : Nat) (b0 : List Int) (k : (Int × Bool) → Option Q) : spec_PotentialOf_c Q F b0 k = (spec_PotentialOf_p F b0).bind k := by
  simp only [spec_PotentialOf_p, spec_PotentialOf_c, cond_bindL, none_bindL, some_bindL]

/-- loop.example/g01194/impl.SumOf -/
def impl_SumOf_c (Q : Type) (F : Nat) (b0 : List Int) (k : (Int × Bool) → Option Q) : Option Q :=
    let z_1 := (impl_IsBoard_p F b0)
    bif (Option.isSome z_1) then
    bif (!(Option.getD z_1 default)) then
    k ((0 : Int), false)
    else bif (Option.isSome (impl_Board_sum_p b0)) then
    k ((Option.getD (impl_Board_sum_p b0) default), true)
    else none
    else none
def impl_SumOf_p (F : Nat) (b0 : List Int) : Option (Int × Bool) := impl_SumOf_c _ F b0 some
theorem impl_SumOf_cp (Q : Type) (F : Nat) (b0 : List Int) (k : (Int × Bool) → Option Q) : impl_SumOf_c Q F b0 k = (impl_SumOf_p F b0).bind k := by
  simp only [impl_SumOf_p, impl_SumOf_c, cond_bindL, none_bindL, some_bindL]

/-- loop 5 of loop.example/g01194/impl.CountTiles -/
def impl_CountTiles_s5 (F : Nat) (b13 : List Int) (Q : Type) : (Int × List Int) → ((Int × List Int) → Option Q) → ((List Int) → Option Q) → Option Q
  | (t1412, out15), kn, kx =>
    let z_1 := (impl_Board_at_p (rget [[(0 : Int), (0 : Int)], [(0 : Int), (1 : Int)], [(0 : Int), (2 : Int)], [(0 : Int), (3 : Int)], [(1 : Int), (0 : Int)], [(1 : Int), (1 : Int)], [(1 : Int), (2 : Int)], [(1 : Int), (3 : Int)], [(2 : Int), (0 : Int)], [(2 : Int), (1 : Int)], [(2 : Int), (2 : Int)], [(2 : Int), (3 : Int)], [(3 : Int), (0 : Int)], [(3 : Int), (1 : Int)], [(3 : Int), (2 : Int)], [(3 : Int), (3 : Int)]] ((0 : Nat) + (Int.toNat t1412))) b13)
    let z_2 : Int := (iget b13 (Option.getD z_1 default))
    let z_3 : Bool := (inR z_2 18)
    let z_4 : Nat := ((0 : Nat) + ((Int.toNat z_2) * (1 : Nat)))
    bif (decide (t1412 < (16 : Int))) then
    bif (inR t1412 16) then
    bif (Option.isSome z_1) then
    bif z_3 then
    bif z_3 then
    kn ((IntKind.wrap .i64 (t1412 + (1 : Int))), (iset out15 z_4 (IntKind.wrap .i64 ((iget out15 z_4) + (1 : Int)))))
    else none
    else none
    else none
    else none
    else kx out15
def impl_CountTiles_l5 (F : Nat) (b13 : List Int) (t1412 : Int) (out15 : List Int) : Option (List Int) := loopC (impl_CountTiles_s5 F b13) F (t1412, out15) some
theorem impl_CountTiles_s5_nat (F : Nat) (b13 : List Int) : Natural (impl_CountTiles_s5 F b13) := by
  intro Q Q' s kn kx h
  obtain ⟨t1412, out15⟩ := s
  simp only [impl_CountTiles_s5, cond_bindL, none_bindL]
/-- loop.example/g01194/impl.CountTiles -/
def impl_CountTiles_c (Q : Type) (F : Nat) (b0 : List Int) (k : (List Int × Bool) → Option Q) : Option Q :=
    let z_1 := (impl_IsBoard_p F b0)
    let z_2 : List Int := [(0 : Int), (0 : Int), (0 : Int), (0 : Int), (0 : Int), (0 : Int), (0 : Int), (0 : Int), (0 : Int), (0 : Int), (0 : Int), (0 : Int), (0 : Int), (0 : Int), (0 : Int), (0 : Int), (0 : Int), (0 : Int)]
    let z_3 := (impl_CountTiles_l5 F b0 (0 : Int) z_2)
    bif (Option.isSome z_1) then
    bif (!(Option.getD z_1 default)) then
    k (z_2, false)
    else bif (Option.isSome z_3) then
    k ((Option.getD z_3 default), true)
    else none
    else none
def impl_CountTiles_p (F : Nat) (b0 : List Int) : Option (List Int × Bool) := impl_CountTiles_c _ F b0 some
theorem impl_CountTiles_cp (Q : Type) (F : Nat) (b0 : List Int) (k : (List Int × Bool) → Option Q) : impl_CountTiles_c Q F b0 k = (impl_CountTiles_p F b0).bind k := by
  simp only [impl_CountTiles_p, impl_CountTiles_c, cond_bindL, none_bindL, some_bindL]

/-- loop 3 of (loop.example/g01194/impl.Board).highest -/
def impl_Board_highest_s3 (F : Nat) (b14 : List Int) (Q : Type) : (Int × Int × List Int) → ((Int × Int × List Int) → Option Q) → ((Int × List Int) → Option Q) → Option Q
  | (most6, t1213, at16), kn, kx =>
    let z_1 : List Int := (rget [[(0 : Int), (0 : Int)], [(0 : Int), (1 : Int)], [(0 : Int), (2 : Int)], [(0 : Int), (3 : Int)], [(1 : Int), (0 : Int)], [(1 : Int), (1 : Int)], [(1 : Int), (2 : Int)], [(1 : Int), (3 : Int)], [(2 : Int), (0 : Int)], [(2 : Int), (1 : Int)], [(2 : Int), (2 : Int)], [(2 : Int), (3 : Int)], [(3 : Int), (0 : Int)], [(3 : Int), (1 : Int)], [(3 : Int), (2 : Int)], [(3 : Int), (3 : Int)]] ((0 : Nat) + (Int.toNat t1213)))
    let z_2 := (impl_Board_at_p z_1 b14)
    let z_3 : Int := (iget b14 (Option.getD z_2 default))
    let z_4 : Int := (IntKind.wrap .i64 (t1213 + (1 : Int)))
    bif (decide (t1213 < (16 : Int))) then
    bif (inR t1213 16) then
    bif (Option.isSome z_2) then
    bif (decide (most6 < z_3)) then
    kn (z_3, z_4, z_1)
    else kn (most6, z_4, at16)
    else none
    else none
    else kx (most6, at16)
def impl_Board_highest_l3 (F : Nat) (b14 : List Int) (most6 : Int) (t1213 : Int) (at16 : List Int) : Option (Int × List Int) := loopC (impl_Board_highest_s3 F b14) F (most6, t1213, at16) some
theorem impl_Board_highest_s3_nat (F : Nat) (b14 : List Int) : Natural (impl_Board_highest_s3 F b14) := by
  intro Q Q' s kn kx h
  obtain ⟨most6, t1213, at16⟩ := s
  simp only [impl_Board_highest_s3, cond_bindL, none_bindL]
/-- (loop.example/g01194/impl.Board).highest -/
def impl_Board_highest_c (Q : Type) (F : Nat) (b0 : List Int) (k : (Int × List Int) → Option Q) : Option Q :=
    let z_1 := (impl_Board_highest_l3 F b0 (0 : Int) (0 : Int) [(0 : Int), (0 : Int)])
    let z_2 := (Option.getD z_1 default)
    bif (Option.isSome z_1) then
    k (z_2.1, z_2.2)
    else none
def impl_Board_highest_p (F : Nat) (b0 : List Int) : Option (Int × List Int) := impl_Board_highest_c _ F b0 some
theorem impl_Board_highest_cp (Q : Type) (F : Nat) (b0 : List Int) (k : (Int × List Int) → Option Q) : impl_Board_highest_c Q F b0 k = (impl_Board_highest_p F b0).bind k := by
  simp only [impl_Board_highest_p, impl_Board_highest_c, cond_bindL, none_bindL, some_bindL]

/-- loop.example/g01194/impl.HighestTile -/
def impl_HighestTile_c (Q : Type) (F : Nat) (b0 : List Int) (k : (Int × List Int × Bool) → Option Q) : Option Q :=
    let z_1 := (impl_IsBoard_p F b0)
    let z_2 := (impl_Board_highest_p F b0)
    let z_3 := (Option.getD z_2 default)
    bif (Option.isSome z_1) then
    bif (!(Option.getD z_1 default)) then
    k ((0 : Int), [(0 : Int), (0 : Int)], false)
    else bif (b0 == ([(0 : Int), (0 : Int), (0 : Int), (0 : Int), (0 : Int), (0 : Int), (0 : Int), (0 : Int), (0 : Int), (0 : Int), (0 : Int), (0 : Int), (0 : Int), (0 : Int), (0 : Int), (0 : Int)] : List Int)) then
    k ((0 : Int), [(0 : Int), (0 : Int)], false)
    else bif (Option.isSome z_2) then
    k (z_3.1, z_3.2, true)
    else none
    else none
def impl_HighestTile_p (F : Nat) (b0 : List Int) : Option (Int × List Int × Bool) := impl_HighestTile_c _ F b0 some
theorem impl_HighestTile_cp (Q : Type) (F : Nat) (b0 : List Int) (k : (Int × List Int × Bool) → Option Q) : impl_HighestTile_c Q F b0 k = (impl_HighestTile_p F b0).bind k := by
  simp only [impl_HighestTile_p, impl_HighestTile_c, cond_bindL, none_bindL, some_bindL]

/-- loop.example/g01194/impl.EmptyCells -/
def impl_EmptyCells_c (Q : Type) (F : Nat) (b0 : List Int) (k : (Nat × Bool × List (List Int)) → Option Q) : Option Q :=
    let z_1 := (impl_IsBoard_p F b0)
    let z_2 := (impl_Board_empty_p F b0)
    let z_3 := (Option.getD z_2 default)
    bif (Option.isSome z_1) then
    bif (!(Option.getD z_1 default)) then
    k ((0 : Nat), false, ([] : List (List Int)))
    else bif (Option.isSome z_2) then
    k (z_3.1, true, z_3.2)
    else none
    else none
def impl_EmptyCells_p (F : Nat) (b0 : List Int) : Option (Nat × Bool × List (List Int)) := impl_EmptyCells_c _ F b0 some
theorem impl_EmptyCells_cp (Q : Type) (F : Nat) (b0 : List Int) (k : (Nat × Bool × List (List Int)) → Option Q) : impl_EmptyCells_c Q F b0 k = (impl_EmptyCells_p F b0).bind k := by
  simp only [impl_EmptyCells_p, impl_EmptyCells_c, cond_bindL, none_bindL, some_bindL]

/-- loop.example/g01194/impl.isDirection -/
def impl_isDirection_c (Q : Type) (d0 : Int) (k : (Bool) → Option Q) : Option Q :=
    k (impl_in_v d0 (0 : Int) (3 : Int))
def impl_isDirection_v (d0 : Int) : Bool :=
    (impl_in_v d0 (0 : Int) (3 : Int))
theorem impl_isDirection_cv (Q : Type) (d0 : Int) (k : (Bool) → Option Q) : impl_isDirection_c Q d0 k = k (impl_isDirection_v d0) := by
  simp only [impl_isDirection_c, impl_isDirection_v, app_condL k]

/-- loop.example/g01194/impl.lineCell -/
def impl_lineCell_c (Q : Type) (direction0 : Int) (i1 : Int) (k2 : Int) (k : (List Int) → Option Q) : Option Q :=
    let z_1 : Int := (IntKind.wrap .i64 ((3 : Int) - k2))
    bif (direction0 == (0 : Int)) then
    k [i1, k2]
    else bif (direction0 == (1 : Int)) then
    k [k2, i1]
    else bif (direction0 == (2 : Int)) then
    k [i1, z_1]
    else k [z_1, i1]
def impl_lineCell_v (direction0 : Int) (i1 : Int) (k2 : Int) : List Int :=
    let z_1 : Int := (IntKind.wrap .i64 ((3 : Int) - k2))
    bif (direction0 == (0 : Int)) then
    [i1, k2]
    else bif (direction0 == (1 : Int)) then
    [k2, i1]
    else bif (direction0 == (2 : Int)) then
    [i1, z_1]
    else [z_1, i1]
theorem impl_lineCell_cv (Q : Type) (direction0 : Int) (i1 : Int) (k2 : Int) (k : (List Int) → Option Q) : impl_lineCell_c Q direction0 i1 k2 k = k (impl_lineCell_v direction0 i1 k2) := by
  simp only [impl_lineCell_c, impl_lineCell_v, app_condL k]

/-- (loop.example/g01194/impl.Board).line -/
def impl_Board_line_c (Q : Type) (b0 : List Int) (direction1 : Int) (i2 : Int) (k : (List Int) → Option Q) : Option Q :=
    let z_1 := (impl_Board_at_p (impl_lineCell_v direction1 i2 (0 : Int)) b0)
    let z_2 := (impl_Board_at_p (impl_lineCell_v direction1 i2 (1 : Int)) b0)
    let z_3 := (impl_Board_at_p (impl_lineCell_v direction1 i2 (2 : Int)) b0)
    let z_4 := (impl_Board_at_p (impl_lineCell_v direction1 i2 (3 : Int)) b0)
    bif (Option.isSome z_1) then
    bif (Option.isSome z_2) then
    bif (Option.isSome z_3) then
    bif (Option.isSome z_4) then
    k [(iget b0 (Option.getD z_1 default)), (iget b0 (Option.getD z_2 default)), (iget b0 (Option.getD z_3 default)), (iget b0 (Option.getD z_4 default))]
    else none
    else none
    else none
    else none
def impl_Board_line_p (b0 : List Int) (direction1 : Int) (i2 : Int) : Option (List Int) := impl_Board_line_c _ b0 direction1 i2 some
theorem impl_Board_line_cp (Q : Type) (b0 : List Int) (direction1 : Int) (i2 : Int) (k : (List Int) → Option Q) : impl_Board_line_c Q b0 direction1 i2 k = (impl_Board_line_p b0 direction1 i2).bind k := by
  simp only [impl_Board_line_p, impl_Board_line_c, cond_bindL, none_bindL, some_bindL]


/-- loop.example/g01194/impl.tiles$1 -/
def impl_tiles_f1_c (Q : Type) (n0 : Int) (k : (Bool) → Option Q) : Option Q :=
    k (n0 == (0 : Int))
def impl_tiles_f1_v (n0 : Int) : Bool :=
    (n0 == (0 : Int))
theorem impl_tiles_f1_cv (Q : Type) (n0 : Int) (k : (Bool) → Option Q) : impl_tiles_f1_c Q n0 k = k (impl_tiles_f1_v n0) := by
  simp only [impl_tiles_f1_c, impl_tiles_f1_v, app_condL k]

/-- loop 2 of slices.IndexFunc[[]int,int] -/
def slices_IndexFunc_intint_impl_tiles_f1_s2 (F : Nat) (s0 : List Int) (t71 : Int) (Q : Type) : (Int) → ((Int) → Option Q) → ((Bool × Int) → Option Q) → Option Q
  | t82, kn, kx =>
    bif (decide (t82 < t71)) then
    bif (inR t82 (List.length s0)) then
    bif (impl_tiles_f1_v (iget s0 (Int.toNat t82))) then
    kx (true, t82)
    else kn (IntKind.wrap .i64 (t82 + (1 : Int)))
    else none
    else kx (false, default)
def slices_IndexFunc_intint_impl_tiles_f1_l2 (F : Nat) (s0 : List Int) (t71 : Int) (t82 : Int) : Option (Bool × Int) := loopC (slices_IndexFunc_intint_impl_tiles_f1_s2 F s0 t71) F t82 some
theorem slices_IndexFunc_intint_impl_tiles_f1_s2_nat (F : Nat) (s0 : List Int) (t71 : Int) : Natural (slices_IndexFunc_intint_impl_tiles_f1_s2 F s0 t71) := by
  intro Q Q' s kn kx h
  simp only [slices_IndexFunc_intint_impl_tiles_f1_s2, cond_bindL, none_bindL]
/-- slices.IndexFunc[[]int,int] -/
def slices_IndexFunc_intint_impl_tiles_f1_c (Q : Type) (F : Nat) (s0 : List Int) (k : (Int) → Option Q) : Option Q :=
    let z_1 := (slices_IndexFunc_intint_impl_tiles_f1_l2 F s0 (((List.length s0) : Nat) : Int) (0 : Int))
    let z_2 := (Option.getD z_1 default)
    bif (Option.isSome z_1) then
    bif z_2.1 then
    k z_2.2
    else k (-1 : Int)
    else none
def slices_IndexFunc_intint_impl_tiles_f1_p (F : Nat) (s0 : List Int) : Option (Int) := slices_IndexFunc_intint_impl_tiles_f1_c _ F s0 some
theorem slices_IndexFunc_intint_impl_tiles_f1_cp (Q : Type) (F : Nat) (s0 : List Int) (k : (Int) → Option Q) : slices_IndexFunc_intint_impl_tiles_f1_c Q F s0 k = (slices_IndexFunc_intint_impl_tiles_f1_p F s0).bind k := by
  simp only [slices_IndexFunc_intint_impl_tiles_f1_p, slices_IndexFunc_intint_impl_tiles_f1_c, cond_bindL, none_bindL, some_bindL]

/-- loop 5 of slices.DeleteFunc[[]int,int] -/
def slices_DeleteFunc_intint_impl_tiles_f1_s5 (F : Nat) (s1 : Nat) (Q : Type) : (Int × Int × List Int) → ((Int × Int × List Int) → Option Q) → ((Int × List Int) → Option Q) → Option Q
  | (i2, j3, s4), kn, kx =>
    let z_1 : Int := (iget s4 ((0 : Nat) + (Int.toNat j3)))
    let z_2 : Int := (IntKind.wrap .i64 (j3 + (1 : Int)))
    bif (decide (j3 < ((s1 : Nat) : Int))) then
    bif (inR j3 s1) then
    bif (!(impl_tiles_f1_v z_1)) then
    bif (inR i2 s1) then
    kn ((IntKind.wrap .i64 (i2 + (1 : Int))), z_2, (iset s4 ((0 : Nat) + (Int.toNat i2)) z_1))
    else none
    else kn (i2, z_2, s4)
    else none
    else kx (i2, s4)
def slices_DeleteFunc_intint_impl_tiles_f1_l5 (F : Nat) (s1 : Nat) (i2 : Int) (j3 : Int) (s4 : List Int) : Option (Int × List Int) := loopC (slices_DeleteFunc_intint_impl_tiles_f1_s5 F s1) F (i2, j3, s4) some
theorem slices_DeleteFunc_intint_impl_tiles_f1_s5_nat (F : Nat) (s1 : Nat) : Natural (slices_DeleteFunc_intint_impl_tiles_f1_s5 F s1) := by
  intro Q Q' s kn kx h
  obtain ⟨i2, j3, s4⟩ := s
  simp only [slices_DeleteFunc_intint_impl_tiles_f1_s5, cond_bindL, none_bindL]
/-- slices.DeleteFunc[[]int,int] -/
def slices_DeleteFunc_intint_impl_tiles_f1_c (Q : Type) (F : Nat) (s2 : List Int) (k : (Nat × List Int) → Option Q) : Option Q :=
    let z_1 := (slices_IndexFunc_intint_impl_tiles_f1_p F (subn (List.length s2) s2 0 (List.length s2)))
    let z_2 := (slices_DeleteFunc_intint_impl_tiles_f1_l5 F (List.length s2) (Option.getD z_1 default) (IntKind.wrap .i64 ((Option.getD z_1 default) + (1 : Int))) s2)
    let z_3 := (Option.getD z_2 default)
    let z_4 : Bool := (inLe z_3.1 (List.length s2))
    let z_5 : Nat := (Int.toNat z_3.1)
    let z_6 : Nat := ((List.length s2) - z_5)
    bif (Option.isSome z_1) then
    bif ((Option.getD z_1 default) == (-1 : Int)) then
    k ((List.length s2), s2)
    else bif (Option.isSome z_2) then
    bif z_4 then
    bif z_4 then
    k ((z_5 - (0 : Nat)), (splice z_3.2 ((0 : Nat) + z_5) (List.replicate z_6 (0 : Int)) z_6))
    else none
    else none
    else none
    else none
def slices_DeleteFunc_intint_impl_tiles_f1_p (F : Nat) (s2 : List Int) : Option (Nat × List Int) := slices_DeleteFunc_intint_impl_tiles_f1_c _ F s2 some
theorem slices_DeleteFunc_intint_impl_tiles_f1_cp (Q : Type) (F : Nat) (s2 : List Int) (k : (Nat × List Int) → Option Q) : slices_DeleteFunc_intint_impl_tiles_f1_c Q F s2 k = (slices_DeleteFunc_intint_impl_tiles_f1_p F s2).bind k := by
  simp only [slices_DeleteFunc_intint_impl_tiles_f1_p, slices_DeleteFunc_intint_impl_tiles_f1_c, cond_bindL, none_bindL, some_bindL]

/-- loop.example/g01194/impl.tiles -/
def impl_tiles_c (Q : Type) (F : Nat) (row0 : List Int) (k : (Nat × List Int) → Option Q) : Option Q :=
    let z_1 : Nat := (List.length (sub row0 0 4))
    let z_2 := (slices_DeleteFunc_intint_impl_tiles_f1_p F (sub row0 0 4))
    let z_3 := (Option.getD z_2 default)
    bif (fits z_1 8) then
    bif ((Nat.beq z_1 z_1) && (Option.isSome z_2)) then
    k (z_3.1, z_3.2)
    else none
    else none
def impl_tiles_p (F : Nat) (row0 : List Int) : Option (Nat × List Int) := impl_tiles_c _ F row0 some
theorem impl_tiles_cp (Q : Type) (F : Nat) (row0 : List Int) (k : (Nat × List Int) → Option Q) : impl_tiles_c Q F row0 k = (impl_tiles_p F row0).bind k := by
  simp only [impl_tiles_p, impl_tiles_c, cond_bindL, none_bindL, some_bindL]

/-- loop 3 of loop.example/g01194/impl.slideRow -/
def impl_slideRow_s3 (F : Nat) (t1415 : Nat) (t1516 : Int) (t1422 : List Int) (Q : Type) : (Int × Int × Int × List Int × List Bool) → ((Int × Int × Int × List Int × List Bool) → Option Q) → ((Int × List Int × List Bool) → Option Q) → Option Q
  | (score12, many13, t1617, out20, merged21), kn, kx =>
    let z_1 : Int := (IntKind.wrap .i64 (many13 - (1 : Int)))
    let z_2 : Bool := (inR z_1 4)
    let z_3 : Nat := ((0 : Nat) + ((Int.toNat z_1) * (1 : Nat)))
    let z_4 : Int := (iget t1422 ((0 : Nat) + (Int.toNat t1617)))
    let z_5 : Int := (IntKind.wrap .i64 (z_4 + (1 : Int)))
    let z_6 : Int := (IntKind.wrap .i64 (t1617 + (1 : Int)))
    let z_7 : Int := (IntKind.wrap .i64 (many13 + (1 : Int)))
    let z_8 : List Int := (iset out20 ((0 : Nat) + ((Int.toNat many13) * (1 : Nat))) z_4)
    bif (decide (t1617 < t1516)) then
    bif (inR t1617 t1415) then
    bif (decide ((0 : Int) < many13)) then
    bif z_2 then
    bif ((iget out20 z_3) == z_4) then
    bif (decide (z_4 < (17 : Int))) then
    bif z_2 then
    bif (!(bget merged21 z_3)) then
    bif (Option.isSome (impl_worth_p z_5)) then
    bif z_2 then
    bif z_2 then
    kn ((IntKind.wrap .i64 (score12 + (Option.getD (impl_worth_p z_5) default))), many13, z_6, (iset out20 z_3 z_5), (bset merged21 z_3 true))
    else none
    else none
    else none
    else bif (inR many13 4) then
    kn (score12, z_7, z_6, z_8, merged21)
    else none
    else none
    else bif (inR many13 4) then
    kn (score12, z_7, z_6, z_8, merged21)
    else none
    else bif (inR many13 4) then
    kn (score12, z_7, z_6, z_8, merged21)
    else none
    else none
    else bif (inR many13 4) then
    kn (score12, z_7, z_6, z_8, merged21)
    else none
    else none
    else kx (score12, out20, merged21)
def impl_slideRow_l3 (F : Nat) (t1415 : Nat) (t1516 : Int) (t1422 : List Int) (score12 : Int) (many13 : Int) (t1617 : Int) (out20 : List Int) (merged21 : List Bool) : Option (Int × List Int × List Bool) := loopC (impl_slideRow_s3 F t1415 t1516 t1422) F (score12, many13, t1617, out20, merged21) some
theorem impl_slideRow_s3_nat (F : Nat) (t1415 : Nat) (t1516 : Int) (t1422 : List Int) : Natural (impl_slideRow_s3 F t1415 t1516 t1422) := by
  intro Q Q' s kn kx h
  obtain ⟨score12, many13, t1617, out20, merged21⟩ := s
  simp only [impl_slideRow_s3, cond_bindL, none_bindL]
/-- loop.example/g01194/impl.slideRow -/
def impl_slideRow_c (Q : Type) (F : Nat) (row0 : List Int) (k : (List Int × Int × List Bool) → Option Q) : Option Q :=
    let z_1 := (impl_tiles_p F row0)
    let z_2 := (Option.getD z_1 default)
    let z_3 := (impl_slideRow_l3 F z_2.1 ((z_2.1 : Nat) : Int) z_2.2 (0 : Int) (0 : Int) (0 : Int) [(0 : Int), (0 : Int), (0 : Int), (0 : Int)] [false, false, false, false])
    let z_4 := (Option.getD z_3 default)
    bif (Option.isSome z_1) then
    bif (Option.isSome z_3) then
    k (z_4.2.1, z_4.1, z_4.2.2)
    else none
    else none
def impl_slideRow_p (F : Nat) (row0 : List Int) : Option (List Int × Int × List Bool) := impl_slideRow_c _ F row0 some
theorem impl_slideRow_cp (Q : Type) (F : Nat) (row0 : List Int) (k : (List Int × Int × List Bool) → Option Q) : impl_slideRow_c Q F row0 k = (impl_slideRow_p F row0).bind k := by
  simp only [impl_slideRow_p, impl_slideRow_c, cond_bindL, none_bindL, some_bindL]
end Go.Lv.P
