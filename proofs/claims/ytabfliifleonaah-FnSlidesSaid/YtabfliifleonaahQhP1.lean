/-
Pure functions and what the code of them does, by program; without conditions.
-/
import Derived.Test.YtabfliifleonaahQhP0
namespace Go.Lv.P
open Go Go.Lv
set_option linter.unusedVariables false
set_option linter.unusedSimpArgs false
set_option maxRecDepth 100000
/-- loop 2 of slices.IndexFunc[[][4]int,[4]int] -/
def slices_IndexFunc_4int4int_impl_IsBoard_f1_s2 (F : Nat) (s0 : List (List Int)) (t71 : Int) (Q : Type) : (Int) → ((Int) → Option Q) → ((Bool × Int) → Option Q) → Option Q
  | t82, kn, kx =>
    let z_1 := (impl_IsBoard_f1_p F (rget s0 (Int.toNat t82)))
    bif (decide (t82 < t71)) then
    bif (inR t82 (List.length s0)) then
    bif (Option.isSome z_1) then
    bif (Option.getD z_1 default) then
    kx (true, t82)
    else kn (IntKind.wrap .i64 (t82 + (1 : Int)))
    else none
    else none
    else kx (false, default)
def slices_IndexFunc_4int4int_impl_IsBoard_f1_l2 (F : Nat) (s0 : List (List Int)) (t71 : Int) (t82 : Int) : Option (Bool × Int) := loopC (slices_IndexFunc_4int4int_impl_IsBoard_f1_s2 F s0 t71) F t82 some
theorem slices_IndexFunc_4int4int_impl_IsBoard_f1_s2_nat (F : Nat) (s0 : List (List Int)) (t71 : Int) : Natural (slices_IndexFunc_4int4int_impl_IsBoard_f1_s2 F s0 t71) := by
  intro Q Q' s kn kx h
  simp only [slices_IndexFunc_4int4int_impl_IsBoard_f1_s2, cond_bindL, none_bindL]
/-- slices.IndexFunc[[][4]int,[4]int] -/
def slices_IndexFunc_4int4int_impl_IsBoard_f1_c (Q : Type) (F : Nat) (s0 : List (List Int)) (k : (Int) → Option Q) : Option Q :=
    let z_1 := (slices_IndexFunc_4int4int_impl_IsBoard_f1_l2 F s0 (((List.length s0) : Nat) : Int) (0 : Int))
    let z_2 := (Option.getD z_1 default)
    bif (Option.isSome z_1) then
    bif z_2.1 then
    k z_2.2
    else k (-1 : Int)
    else none
def slices_IndexFunc_4int4int_impl_IsBoard_f1_p (F : Nat) (s0 : List (List Int)) : Option (Int) := slices_IndexFunc_4int4int_impl_IsBoard_f1_c _ F s0 some
theorem slices_IndexFunc_4int4int_impl_IsBoard_f1_cp (Q : Type) (F : Nat) (s0 : List (List Int)) (k : (Int) → Option Q) : slices_IndexFunc_4int4int_impl_IsBoard_f1_c Q F s0 k = (slices_IndexFunc_4int4int_impl_IsBoard_f1_p F s0).bind k := by
  simp only [slices_IndexFunc_4int4int_impl_IsBoard_f1_p, slices_IndexFunc_4int4int_impl_IsBoard_f1_c, cond_bindL, none_bindL, some_bindL]

/-- slices.ContainsFunc[[][4]int,[4]int] -/
def slices_ContainsFunc_4int4int_impl_IsBoard_f1_c (Q : Type) (F : Nat) (s0 : List (List Int)) (k : (Bool) → Option Q) : Option Q :=
    let z_1 := (slices_IndexFunc_4int4int_impl_IsBoard_f1_p F s0)
    bif (Option.isSome z_1) then
    k (decide ((0 : Int) ≤ (Option.getD z_1 default)))
    else none
def slices_ContainsFunc_4int4int_impl_IsBoard_f1_p (F : Nat) (s0 : List (List Int)) : Option (Bool) := slices_ContainsFunc_4int4int_impl_IsBoard_f1_c _ F s0 some
theorem slices_ContainsFunc_4int4int_impl_IsBoard_f1_cp (Q : Type) (F : Nat) (s0 : List (List Int)) (k : (Bool) → Option Q) : slices_ContainsFunc_4int4int_impl_IsBoard_f1_c Q F s0 k = (slices_ContainsFunc_4int4int_impl_IsBoard_f1_p F s0).bind k := by
  simp only [slices_ContainsFunc_4int4int_impl_IsBoard_f1_p, slices_ContainsFunc_4int4int_impl_IsBoard_f1_c, cond_bindL, none_bindL, some_bindL]

/-- loop.example/g01194/impl.IsBoard -/
def impl_IsBoard_c (Q : Type) (F : Nat) (b0 : List Int) (k : (Bool) → Option Q) : Option Q :=
    let z_1 := (slices_ContainsFunc_4int4int_impl_IsBoard_f1_p F [(sub b0 0 4), (sub b0 4 4), (sub b0 8 4), (sub b0 12 4)])
    bif (Option.isSome z_1) then
    k (!(Option.getD z_1 default))
    else none
def impl_IsBoard_p (F : Nat) (b0 : List Int) : Option (Bool) := impl_IsBoard_c _ F b0 some
theorem impl_IsBoard_cp (Q : Type) (F : Nat) (b0 : List Int) (k : (Bool) → Option Q) : impl_IsBoard_c Q F b0 k = (impl_IsBoard_p F b0).bind k := by
  simp only [impl_IsBoard_p, impl_IsBoard_c, cond_bindL, none_bindL, some_bindL]

/-- loop.example/g01194/impl.isDirection -/
def impl_isDirection_c (Q : Type) (d0 : Int) (k : (Bool) → Option Q) : Option Q :=
    k (impl_in_v d0 (0 : Int) (3 : Int))
def impl_isDirection_v (d0 : Int) : Bool :=
    (impl_in_v d0 (0 : Int) (3 : Int))
theorem impl_isDirection_cv (Q : Type) (d0 : Int) (k : (Bool) → Option Q) : impl_isDirection_c Q d0 k = k (impl_isDirection_v d0) := by
  simp only [impl_isDirection_c, impl_isDirection_v, app_condL k]

/-- loop.example/g01194/impl.areDirections$1 -/
def impl_areDirections_f1_c (Q : Type) (d0 : Int) (k : (Bool) → Option Q) : Option Q :=
    k (!(impl_isDirection_v d0))
def impl_areDirections_f1_v (d0 : Int) : Bool :=
    (!(impl_isDirection_v d0))
theorem impl_areDirections_f1_cv (Q : Type) (d0 : Int) (k : (Bool) → Option Q) : impl_areDirections_f1_c Q d0 k = k (impl_areDirections_f1_v d0) := by
  simp only [impl_areDirections_f1_c, impl_areDirections_f1_v, app_condL k]

/-- loop 2 of slices.IndexFunc[[]int,int] -/
def slices_IndexFunc_intint_impl_areDirections_f1_s2 (F : Nat) (s0 : List Int) (t71 : Int) (Q : Type) : (Int) → ((Int) → Option Q) → ((Bool × Int) → Option Q) → Option Q
  | t82, kn, kx =>
    bif (decide (t82 < t71)) then
    bif (inR t82 (List.length s0)) then
    bif (impl_areDirections_f1_v (iget s0 (Int.toNat t82))) then
    kx (true, t82)
    else kn (IntKind.wrap .i64 (t82 + (1 : Int)))
    else none
    else kx (false, default)
def slices_IndexFunc_intint_impl_areDirections_f1_l2 (F : Nat) (s0 : List Int) (t71 : Int) (t82 : Int) : Option (Bool × Int) := loopC (slices_IndexFunc_intint_impl_areDirections_f1_s2 F s0 t71) F t82 some
theorem slices_IndexFunc_intint_impl_areDirections_f1_s2_nat (F : Nat) (s0 : List Int) (t71 : Int) : Natural (slices_IndexFunc_intint_impl_areDirections_f1_s2 F s0 t71) := by
  intro Q Q' s kn kx h
  simp only [slices_IndexFunc_intint_impl_areDirections_f1_s2, cond_bindL, none_bindL]
/-- slices.IndexFunc[[]int,int] -/
def slices_IndexFunc_intint_impl_areDirections_f1_c (Q : Type) (F : Nat) (s0 : List Int) (k : (Int) → Option Q) : Option Q :=
    let z_1 := (slices_IndexFunc_intint_impl_areDirections_f1_l2 F s0 (((List.length s0) : Nat) : Int) (0 : Int))
    let z_2 := (Option.getD z_1 default)
    bif (Option.isSome z_1) then
    bif z_2.1 then
    k z_2.2
    else k (-1 : Int)
    else none
def slices_IndexFunc_intint_impl_areDirections_f1_p (F : Nat) (s0 : List Int) : Option (Int) := slices_IndexFunc_intint_impl_areDirections_f1_c _ F s0 some
theorem slices_IndexFunc_intint_impl_areDirections_f1_cp (Q : Type) (F : Nat) (s0 : List Int) (k : (Int) → Option Q) : slices_IndexFunc_intint_impl_areDirections_f1_c Q F s0 k = (slices_IndexFunc_intint_impl_areDirections_f1_p F s0).bind k := by
  simp only [slices_IndexFunc_intint_impl_areDirections_f1_p, slices_IndexFunc_intint_impl_areDirections_f1_c, cond_bindL, none_bindL, some_bindL]

/-- slices.ContainsFunc[[]int,int] -/
def slices_ContainsFunc_intint_impl_areDirections_f1_c (Q : Type) (F : Nat) (s0 : List Int) (k : (Bool) → Option Q) : Option Q :=
    let z_1 := (slices_IndexFunc_intint_impl_areDirections_f1_p F s0)
    bif (Option.isSome z_1) then
    k (decide ((0 : Int) ≤ (Option.getD z_1 default)))
    else none
def slices_ContainsFunc_intint_impl_areDirections_f1_p (F : Nat) (s0 : List Int) : Option (Bool) := slices_ContainsFunc_intint_impl_areDirections_f1_c _ F s0 some
theorem slices_ContainsFunc_intint_impl_areDirections_f1_cp (Q : Type) (F : Nat) (s0 : List Int) (k : (Bool) → Option Q) : slices_ContainsFunc_intint_impl_areDirections_f1_c Q F s0 k = (slices_ContainsFunc_intint_impl_areDirections_f1_p F s0).bind k := by
  simp only [slices_ContainsFunc_intint_impl_areDirections_f1_p, slices_ContainsFunc_intint_impl_areDirections_f1_c, cond_bindL, none_bindL, some_bindL]

/-- loop.example/g01194/impl.areDirections -/
def impl_areDirections_c (Q : Type) (F : Nat) (list0 : List Int) (k : (Bool) → Option Q) : Option Q :=
    let z_1 := (slices_ContainsFunc_intint_impl_areDirections_f1_p F list0)
    bif (Option.isSome z_1) then
    k (!(Option.getD z_1 default))
    else none
def impl_areDirections_p (F : Nat) (list0 : List Int) : Option (Bool) := impl_areDirections_c _ F list0 some
theorem impl_areDirections_cp (Q : Type) (F : Nat) (list0 : List Int) (k : (Bool) → Option Q) : impl_areDirections_c Q F list0 k = (impl_areDirections_p F list0).bind k := by
  simp only [impl_areDirections_p, impl_areDirections_c, cond_bindL, none_bindL, some_bindL]

/-- loop.example/g01194/impl.lineCell -/
def impl_lineCell_c (Q : Type) (direction0 : Int) (i1 : Int) (k2 : Int) (k : (List Int) → Option Q) : Option Q :=
    let z_1 : Int := (IntKind.wrap .i64 ((3 : Int) - k2))
    bif (direction0 == (0 : Int)) then
    k [i1, k2]
    else bif (direction0 == (1 : Int)) then
    k [k2, i1]
    else bif (direction0 == (2 : Int)) then
    k [i1, z_1]
    else k [z_1, i1]
def impl_lineCell_v (direction0 : Int) (i1 : Int) (k2 : Int) : List Int :=
    let z_1 : Int := (IntKind.wrap .i64 ((3 : Int) - k2))
    bif (direction0 == (0 : Int)) then
    [i1, k2]
    else bif (direction0 == (1 : Int)) then
    [k2, i1]
    else bif (direction0 == (2 : Int)) then
    [i1, z_1]
    else [z_1, i1]
theorem impl_lineCell_cv (Q : Type) (direction0 : Int) (i1 : Int) (k2 : Int) (k : (List Int) → Option Q) : impl_lineCell_c Q direction0 i1 k2 k = k (impl_lineCell_v direction0 i1 k2) := by
  simp only [impl_lineCell_c, impl_lineCell_v, app_condL k]

/-- (*loop.example/g01194/impl.Board).at -/
def impl_Board_at_c (Q : Type) (cell3 : List Int) (b4 : List Int) (k : (Nat) → Option Q) : Option Q :=
    bif (inR (iget cell3 0) 4) then
    bif (inR (iget cell3 1) 4) then
    k (((0 : Nat) + ((Int.toNat (iget cell3 0)) * (4 : Nat))) + ((Int.toNat (iget cell3 1)) * (1 : Nat)))
    else none
    else none
def impl_Board_at_p (cell3 : List Int) (b4 : List Int) : Option (Nat) := impl_Board_at_c _ cell3 b4 some
theorem impl_Board_at_cp (Q : Type) (cell3 : List Int) (b4 : List Int) (k : (Nat) → Option Q) : impl_Board_at_c Q cell3 b4 k = (impl_Board_at_p cell3 b4).bind k := by
  simp only [impl_Board_at_p, impl_Board_at_c, cond_bindL, none_bindL, some_bindL]

/-- (loop.example/g01194/impl.Board).line -/
def impl_Board_line_c (Q : Type) (b0 : List Int) (direction1 : Int) (i2 : Int) (k : (List Int) → Option Q) : Option Q :=
    let z_1 := (impl_Board_at_p (impl_lineCell_v direction1 i2 (0 : Int)) b0)
    let z_2 := (impl_Board_at_p (impl_lineCell_v direction1 i2 (1 : Int)) b0)
    let z_3 := (impl_Board_at_p (impl_lineCell_v direction1 i2 (2 : Int)) b0)
    let z_4 := (impl_Board_at_p (impl_lineCell_v direction1 i2 (3 : Int)) b0)
    bif (Option.isSome z_1) then
    bif (Option.isSome z_2) then
    bif (Option.isSome z_3) then
    bif (Option.isSome z_4) then
    k [(iget b0 (Option.getD z_1 default)), (iget b0 (Option.getD z_2 default)), (iget b0 (Option.getD z_3 default)), (iget b0 (Option.getD z_4 default))]
    else none
    else none
    else none
    else none
def impl_Board_line_p (b0 : List Int) (direction1 : Int) (i2 : Int) : Option (List Int) := impl_Board_line_c _ b0 direction1 i2 some
theorem impl_Board_line_cp (Q : Type) (b0 : List Int) (direction1 : Int) (i2 : Int) (k : (List Int) → Option Q) : impl_Board_line_c Q b0 direction1 i2 k = (impl_Board_line_p b0 direction1 i2).bind k := by
  simp only [impl_Board_line_p, impl_Board_line_c, cond_bindL, none_bindL, some_bindL]


/-- loop.example/g01194/impl.tiles$1 -/
def impl_tiles_f1_c (Q : Type) (n0 : Int) (k : (Bool) → Option Q) : Option Q :=
    k (n0 == (0 : Int))
def impl_tiles_f1_v (n0 : Int) : Bool :=
    (n0 == (0 : Int))
theorem impl_tiles_f1_cv (Q : Type) (n0 : Int) (k : (Bool) → Option Q) : impl_tiles_f1_c Q n0 k = k (impl_tiles_f1_v n0) := by
  simp only [impl_tiles_f1_c, impl_tiles_f1_v, app_condL k]

/-- loop 2 of slices.IndexFunc[[]int,int] -/
def slices_IndexFunc_intint_impl_tiles_f1_s2 (F : Nat) (s0 : List Int) (t71 : Int) (Q : Type) : (Int) → ((Int) → Option Q) → ((Bool × Int) → Option Q) → Option Q
  | t82, kn, kx =>
    bif (decide (t82 < t71)) then
    bif (inR t82 (List.length s0)) then
    bif (impl_tiles_f1_v (iget s0 (Int.toNat t82))) then
    kx (true, t82)
    else kn (IntKind.wrap .i64 (t82 + (1 : Int)))
    else none
    else kx (false, default)
def slices_IndexFunc_intint_impl_tiles_f1_l2 (F : Nat) (s0 : List Int) (t71 : Int) (t82 : Int) : Option (Bool × Int) := loopC (slices_IndexFunc_intint_impl_tiles_f1_s2 F s0 t71) F t82 some
theorem slices_IndexFunc_intint_impl_tiles_f1_s2_nat (F : Nat) (s0 : List Int) (t71 : Int) : Natural (slices_IndexFunc_intint_impl_tiles_f1_s2 F s0 t71) := by
  intro Q Q' s kn kx h
  simp only [slices_IndexFunc_intint_impl_tiles_f1_s2, cond_bindL, none_bindL]
/-- slices.IndexFunc[[]int,int] -/
def slices_IndexFunc_intint_impl_tiles_f1_c (Q : Type) (F : Nat) (s0 : List Int) (k : (Int) → Option Q) : Option Q :=
    let z_1 := (slices_IndexFunc_intint_impl_tiles_f1_l2 F s0 (((List.length s0) : Nat) : Int) (0 : Int))
    let z_2 := (Option.getD z_1 default)
    bif (Option.isSome z_1) then
    bif z_2.1 then
    k z_2.2
    else k (-1 : Int)
    else none
def slices_IndexFunc_intint_impl_tiles_f1_p (F : Nat) (s0 : List Int) : Option (Int) := slices_IndexFunc_intint_impl_tiles_f1_c _ F s0 some
theorem slices_IndexFunc_intint_impl_tiles_f1_cp (Q : Type) (F : Nat) (s0 : List Int) (k : (Int) → Option Q) : slices_IndexFunc_intint_impl_tiles_f1_c Q F s0 k = (slices_IndexFunc_intint_impl_tiles_f1_p F s0).bind k := by
  simp only [slices_IndexFunc_intint_impl_tiles_f1_p, slices_IndexFunc_intint_impl_tiles_f1_c, cond_bindL, none_bindL, some_bindL]

/-- loop 5 of slices.DeleteFunc[[]int,int] -/
def slices_DeleteFunc_intint_impl_tiles_f1_s5 (F : Nat) (s1 : Nat) (Q : Type) : (Int × Int × List Int) → ((Int × Int × List Int) → Option Q) → ((Int × List Int) → Option Q) → Option Q
  | (i2, j3, s4), kn, kx =>
    let z_1 : Int := (iget s4 ((0 : Nat) + (Int.toNat j3)))
    let z_2 : Int := (IntKind.wrap .i64 (j3 + (1 : Int)))
    bif (decide (j3 < ((s1 : Nat) : Int))) then
    bif (inR j3 s1) then
    bif (!(impl_tiles_f1_v z_1)) then
    bif (inR i2 s1) then
    kn ((IntKind.wrap .i64 (i2 + (1 : Int))), z_2, (iset s4 ((0 : Nat) + (Int.toNat i2)) z_1))
    else none
    else kn (i2, z_2, s4)
    else none
    else kx (i2, s4)
def slices_DeleteFunc_intint_impl_tiles_f1_l5 (F : Nat) (s1 : Nat) (i2 : Int) (j3 : Int) (s4 : List Int) : Option (Int × List Int) := loopC (slices_DeleteFunc_intint_impl_tiles_f1_s5 F s1) F (i2, j3, s4) some
theorem slices_DeleteFunc_intint_impl_tiles_f1_s5_nat (F : Nat) (s1 : Nat) : Natural (slices_DeleteFunc_intint_impl_tiles_f1_s5 F s1) := by
  intro Q Q' s kn kx h
  obtain ⟨i2, j3, s4⟩ := s
  simp only [slices_DeleteFunc_intint_impl_tiles_f1_s5, cond_bindL, none_bindL]
/-- slices.DeleteFunc[[]int,int] -/
def slices_DeleteFunc_intint_impl_tiles_f1_c (Q : Type) (F : Nat) (s2 : List Int) (k : (Nat × List Int) → Option Q) : Option Q :=
    let z_1 := (slices_IndexFunc_intint_impl_tiles_f1_p F (subn (List.length s2) s2 0 (List.length s2)))
    let z_2 := (slices_DeleteFunc_intint_impl_tiles_f1_l5 F (List.length s2) (Option.getD z_1 default) (IntKind.wrap .i64 ((Option.getD z_1 default) + (1 : Int))) s2)
    let z_3 := (Option.getD z_2 default)
    let z_4 : Bool := (inLe z_3.1 (List.length s2))
    let z_5 : Nat := (Int.toNat z_3.1)
    let z_6 : Nat := ((List.length s2) - z_5)
    bif (Option.isSome z_1) then
    bif ((Option.getD z_1 default) == (-1 : Int)) then
    k ((List.length s2), s2)
    else bif (Option.isSome z_2) then
    bif z_4 then
    bif z_4 then
    k ((z_5 - (0 : Nat)), (splice z_3.2 ((0 : Nat) + z_5) (List.replicate z_6 (0 : Int)) z_6))
    else none
    else none
    else none
    else none
def slices_DeleteFunc_intint_impl_tiles_f1_p (F : Nat) (s2 : List Int) : Option (Nat × List Int) := slices_DeleteFunc_intint_impl_tiles_f1_c _ F s2 some
theorem slices_DeleteFunc_intint_impl_tiles_f1_cp (Q : Type) (F : Nat) (s2 : List Int) (k : (Nat × List Int) → Option Q) : slices_DeleteFunc_intint_impl_tiles_f1_c Q F s2 k = (slices_DeleteFunc_intint_impl_tiles_f1_p F s2).bind k := by
  simp only [slices_DeleteFunc_intint_impl_tiles_f1_p, slices_DeleteFunc_intint_impl_tiles_f1_c, cond_bindL, none_bindL, some_bindL]

/-- loop.example/g01194/impl.tiles -/
def impl_tiles_c (Q : Type) (F : Nat) (row0 : List Int) (k : (Nat × List Int) → Option Q) : Option Q :=
    let z_1 : Nat := (List.length (sub row0 0 4))
    let z_2 := (slices_DeleteFunc_intint_impl_tiles_f1_p F (sub row0 0 4))
    let z_3 := (Option.getD z_2 default)
    bif (fits z_1 8) then
    bif ((Nat.beq z_1 z_1) && (Option.isSome z_2)) then
    k (z_3.1, z_3.2)
    else none
    else none
def impl_tiles_p (F : Nat) (row0 : List Int) : Option (Nat × List Int) := impl_tiles_c _ F row0 some
theorem impl_tiles_cp (Q : Type) (F : Nat) (row0 : List Int) (k : (Nat × List Int) → Option Q) : impl_tiles_c Q F row0 k = (impl_tiles_p F row0).bind k := by
  simp only [impl_tiles_p, impl_tiles_c, cond_bindL, none_bindL, some_bindL]

/-- loop.example/g01194/impl.worth -/
def impl_worth_c (Q : Type) (t0 : Int) (k : (Int) → Option Q) : Option Q :=
    bif (t0 == (0 : Int)) then
    k (0 : Int)
    else bif (decide (t0 < (0 : Int))) then
    none
    else k (IntKind.wrap .i64 ((1 : Int) * (2 ^ (min (Int.toNat t0) (IntKind.bits .i64)) : Int)))
def impl_worth_p (t0 : Int) : Option (Int) := impl_worth_c _ t0 some
theorem impl_worth_cp (Q : Type) (t0 : Int) (k : (Int) → Option Q) : impl_worth_c Q t0 k = (impl_worth_p t0).bind k := by
  simp only [impl_worth_p, impl_worth_c, cond_bindL, none_bindL, some_bindL]

/-- loop 3 of loop.example/g01194/impl.slideRow -/
def impl_slideRow_s3 (F : Nat) (t1415 : Nat) (t1516 : Int) (t1422 : List Int) (Q : Type) : (Int × Int × Int × List Int × List Bool) → ((Int × Int × Int × List Int × List Bool) → Option Q) → ((Int × List Int × List Bool) → Option Q) → Option Q
  | (score12, many13, t1617, out20, merged21), kn, kx =>
    let z_1 : Int := (IntKind.wrap .i64 (many13 - (1 : Int)))
    let z_2 : Bool := (inR z_1 4)
    let z_3 : Nat := ((0 : Nat) + ((Int.toNat z_1) * (1 : Nat)))
    let z_4 : Int := (iget t1422 ((0 : Nat) + (Int.toNat t1617)))
    let z_5 : Int := (IntKind.wrap .i64 (z_4 + (1 : Int)))
    let z_6 : Int := (IntKind.wrap .i64 (t1617 + (1 : Int)))
    let z_7 : Int := (IntKind.wrap .i64 (many13 + (1 : Int)))
    let z_8 : List Int := (iset out20 ((0 : Nat) + ((Int.toNat many13) * (1 : Nat))) z_4)
    bif (decide (t1617 < t1516)) then
    bif (inR t1617 t1415) then
    bif (decide ((0 : Int) < many13)) then
    bif z_2 then
    bif ((iget out20 z_3) == z_4) then
    bif (decide (z_4 < (17 : Int))) then
    bif z_2 then
    bif (!(bget merged21 z_3)) then
    bif (Option.isSome (impl_worth_p z_5)) then
    bif z_2 then
    bif z_2 then
    kn ((IntKind.wrap .i64 (score12 + (Option.getD (impl_worth_p z_5) default))), many13, z_6, (iset out20 z_3 z_5), (bset merged21 z_3 true))
    else none
    else none
    else none
    else bif (inR many13 4) then
    kn (score12, z_7, z_6, z_8, merged21)
    else none
    else none
    else bif (inR many13 4) then
    kn (score12, z_7, z_6, z_8, merged21)
    else none
    else bif (inR many13 4) then
    kn (score12, z_7, z_6, z_8, merged21)
    else none
    else none
    else bif (inR many13 4) then
    kn (score12, z_7, z_6, z_8, merged21)
    else none
    else none
    else kx (score12, out20, merged21)
def impl_slideRow_l3 (F : Nat) (t1415 : Nat) (t1516 : Int) (t1422 : List Int) (score12 : Int) (many13 : Int) (t1617 : Int) (out20 : List Int) (merged21 : List Bool) : Option (Int × List Int × List Bool) := loopC (impl_slideRow_s3 F t1415 t1516 t1422) F (score12, many13, t1617, out20, merged21) some
theorem impl_slideRow_s3_nat (F : Nat) (t1415 : Nat) (t1516 : Int) (t1422 : List Int) : Natural (impl_slideRow_s3 F t1415 t1516 t1422) := by
  intro Q Q' s kn kx h
  obtain ⟨score12, many13, t1617, out20, merged21⟩ := s
  simp only [impl_slideRow_s3, cond_bindL, none_bindL]
/-- loop.example/g01194/impl.slideRow -/
def impl_slideRow_c (Q : Type) (F : Nat) (row0 : List Int) (k : (List Int × Int × List Bool) → Option Q) : Option Q :=
    let z_1 := (impl_tiles_p F row0)
    let z_2 := (Option.getD z_1 default)
    let z_3 := (impl_slideRow_l3 F z_2.1 ((z_2.1 : Nat) : Int) z_2.2 (0 : Int) (0 : Int) (0 : Int) [(0 : Int), (0 : Int), (0 : Int), (0 : Int)] [false, false, false, false])
    let z_4 := (Option.getD z_3 default)
    bif (Option.isSome z_1) then
    bif (Option.isSome z_3) then
    k (z_4.2.1, z_4.1, z_4.2.2)
    else none
    else none
def impl_slideRow_p (F : Nat) (row0 : List Int) : Option (List Int × Int × List Bool) := impl_slideRow_c _ F row0 some
theorem impl_slideRow_cp (Q : Type) (F : Nat) (row0 : List Int) (k : (List Int × Int × List Bool) → Option Q) : impl_slideRow_c Q F row0 k = (impl_slideRow_p F row0).bind k := by
  simp only [impl_slideRow_p, impl_slideRow_c, cond_bindL, none_bindL, some_bindL]

/-- (loop.example/g01194/impl.Board).withLine -/
def impl_Board_withLine_c (Q : Type) (b0 : List Int) (direction1 : Int) (i2 : Int) (row3 : List Int) (k : (List Int) → Option Q) : Option Q :=
    let z_1 := (impl_Board_at_p (impl_lineCell_v direction1 i2 (0 : Int)) b0)
    let z_2 : List Int := (iset b0 (Option.getD z_1 default) (iget row3 0))
    let z_3 := (impl_Board_at_p (impl_lineCell_v direction1 i2 (1 : Int)) z_2)
    let z_4 : List Int := (iset z_2 (Option.getD z_3 default) (iget row3 1))
    let z_5 := (impl_Board_at_p (impl_lineCell_v direction1 i2 (2 : Int)) z_4)
    let z_6 : List Int := (iset z_4 (Option.getD z_5 default) (iget row3 2))
    let z_7 := (impl_Board_at_p (impl_lineCell_v direction1 i2 (3 : Int)) z_6)
    bif (Option.isSome z_1) then
    bif (Option.isSome z_3) then
    bif (Option.isSome z_5) then
    bif (Option.isSome z_7) then
    k (iset z_6 (Option.getD z_7 default) (iget row3 3))
    else none
    else none
    else none
    else none
def impl_Board_withLine_p (b0 : List Int) (direction1 : Int) (i2 : Int) (row3 : List Int) : Option (List Int) := impl_Board_withLine_c _ b0 direction1 i2 row3 some
theorem impl_Board_withLine_cp (Q : Type) (b0 : List Int) (direction1 : Int) (i2 : Int) (row3 : List Int) (k : (List Int) → Option Q) : impl_Board_withLine_c Q b0 direction1 i2 row3 k = (impl_Board_withLine_p b0 direction1 i2 row3).bind k := by
  simp only [impl_Board_withLine_p, impl_Board_withLine_c, cond_bindL, none_bindL, some_bindL]
end Go.Lv.P
