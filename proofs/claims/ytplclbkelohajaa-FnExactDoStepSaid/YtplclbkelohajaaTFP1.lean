/-
Pure functions and what the code of them does, by program; without conditions.
-/
import Derived.Test.YtplclbkelohajaaTFP0
namespace Go.Lv.P
open Go Go.Lv
set_option linter.unusedVariables false
set_option linter.unusedSimpArgs false
set_option maxRecDepth 100000
/-- loop 6 of loop.example/g01194/spec.WorstTile -/
def spec_WorstTile_s6 (F : Nat) (b13 : List Int) (all15 : List (List Int)) (Q : Type) : (Int × Int × List Int) → ((Int × Int × List Int) → Option Q) → ((Int × List Int) → Option Q) → Option Q
  | (best8, i12, first16), kn, kx =>
    let z_1 : Bool := (inR i12 (List.length all15))
    let z_2 : List Int := (rget all15 ((0 : Nat) + (Int.toNat i12)))
    let z_3 := (spec_l8Put_p b13 z_2)
    let z_4 := (spec_l2Moves_p F (Option.getD z_3 default))
    let z_5 : Int := (((List.length (Option.getD z_4 default)) : Nat) : Int)
    let z_6 : Int := (IntKind.wrap .i64 (i12 + (1 : Int)))
    bif (decide (i12 < (((List.length all15) : Nat) : Int))) then
    bif z_1 then
    bif (Option.isSome z_3) then
    bif (Option.isSome z_4) then
    bif (decide (z_5 < best8)) then
    bif z_1 then
    kn (z_5, z_6, z_2)
    else none
    else kn (best8, z_6, first16)
    else none
    else none
    else none
    else kx (best8, first16)
def spec_WorstTile_l6 (F : Nat) (b13 : List Int) (all15 : List (List Int)) (best8 : Int) (i12 : Int) (first16 : List Int) : Option (Int × List Int) := loopC (spec_WorstTile_s6 F b13 all15) F (best8, i12, first16) some
theorem spec_WorstTile_s6_nat (F : Nat) (b13 : List Int) (all15 : List (List Int)) : Natural (spec_WorstTile_s6 F b13 all15) := by
  intro Q Q' s kn kx h
  obtain ⟨best8, i12, first16⟩ := s
  simp only [spec_WorstTile_s6, cond_bindL, none_bindL]
/-- loop.example/g01194/spec.WorstTile -/
def spec_WorstTile_c (Q : Type) (F : Nat) (b0 : List Int) (k : (List Int × Int × Bool) → Option Q) : Option Q :=
    let z_1 := (spec_l2Board_p F b0)
    let z_2 := (spec_l2Empty_p F b0)
    let z_3 := (spec_l8Places_p F b0)
    let z_4 : Nat := (List.length (Option.getD z_3 default))
    let z_5 := (spec_WorstTile_l6 F b0 (Option.getD z_3 default) (5 : Int) (0 : Int) [(0 : Int), (0 : Int), (0 : Int)])
    let z_6 := (Option.getD z_5 default)
    bif (Option.isSome z_1) then
    bif (!(Option.getD z_1 default)) then
    k ([(0 : Int), (0 : Int), (0 : Int)], (0 : Int), false)
    else bif (Option.isSome z_2) then
    bif ((((List.length (Option.getD z_2 default)) : Nat) : Int) == (0 : Int)) then
    k ([(0 : Int), (0 : Int), (0 : Int)], (0 : Int), false)
    else bif (Option.isSome z_3) then
    bif ((Nat.beq z_4 z_4) && (Option.isSome z_5)) then
    k (z_6.2, z_6.1, true)
    else none
    else none
    else none
    else none
def spec_WorstTile_p (F : Nat) (b0 : List Int) : Option (List Int × Int × Bool) := spec_WorstTile_c _ F b0 some
theorem spec_WorstTile_cp (Q : Type) (F : Nat) (b0 : List Int) (k : (List Int × Int × Bool) → Option Q) : spec_WorstTile_c Q F b0 k = (spec_WorstTile_p F b0).bind k := by
  simp only [spec_WorstTile_p, spec_WorstTile_c, cond_bindL, none_bindL, some_bindL]

/-- loop.example/g01194/impl.in -/
def impl_in_c (Q : Type) (n0 : Int) (low1 : Int) (high2 : Int) (k : (Bool) → Option Q) : Option Q :=
    bif (decide (low1 ≤ n0)) then
    k (decide (n0 ≤ high2))
    else k false
def impl_in_v (n0 : Int) (low1 : Int) (high2 : Int) : Bool :=
    bif (decide (low1 ≤ n0)) then
    (decide (n0 ≤ high2))
    else false
theorem impl_in_cv (Q : Type) (n0 : Int) (low1 : Int) (high2 : Int) (k : (Bool) → Option Q) : impl_in_c Q n0 low1 high2 k = k (impl_in_v n0 low1 high2) := by
  simp only [impl_in_c, impl_in_v, app_condL k]

/-- loop.example/g01194/impl.IsRow$1 -/
def impl_IsRow_f1_c (Q : Type) (n0 : Int) (k : (Bool) → Option Q) : Option Q :=
    k (!(impl_in_v n0 (0 : Int) (17 : Int)))
def impl_IsRow_f1_v (n0 : Int) : Bool :=
    (!(impl_in_v n0 (0 : Int) (17 : Int)))
theorem impl_IsRow_f1_cv (Q : Type) (n0 : Int) (k : (Bool) → Option Q) : impl_IsRow_f1_c Q n0 k = k (impl_IsRow_f1_v n0) := by
  simp only [impl_IsRow_f1_c, impl_IsRow_f1_v, app_condL k]

/-- loop 2 of slices.IndexFunc[[]int,int] -/
def slices_IndexFunc_intint_impl_IsRow_f1_s2 (F : Nat) (s0 : List Int) (t71 : Int) (Q : Type) : (Int) → ((Int) → Option Q) → ((Bool × Int) → Option Q) → Option Q
  | t82, kn, kx =>
    bif (decide (t82 < t71)) then
    bif (inR t82 (List.length s0)) then
    bif (impl_IsRow_f1_v (iget s0 (Int.toNat t82))) then
    kx (true, t82)
    else kn (IntKind.wrap .i64 (t82 + (1 : Int)))
    else none
    else kx (false, default)
def slices_IndexFunc_intint_impl_IsRow_f1_l2 (F : Nat) (s0 : List Int) (t71 : Int) (t82 : Int) : Option (Bool × Int) := loopC (slices_IndexFunc_intint_impl_IsRow_f1_s2 F s0 t71) F t82 some
theorem slices_IndexFunc_intint_impl_IsRow_f1_s2_nat (F : Nat) (s0 : List Int) (t71 : Int) : Natural (slices_IndexFunc_intint_impl_IsRow_f1_s2 F s0 t71) := by
  intro Q Q' s kn kx h
  simp only [slices_IndexFunc_intint_impl_IsRow_f1_s2, cond_bindL, none_bindL]
/-- slices.IndexFunc[[]int,int] -/
def slices_IndexFunc_intint_impl_IsRow_f1_c (Q : Type) (F : Nat) (s0 : List Int) (k : (Int) → Option Q) : Option Q :=
    let z_1 := (slices_IndexFunc_intint_impl_IsRow_f1_l2 F s0 (((List.length s0) : Nat) : Int) (0 : Int))
    let z_2 := (Option.getD z_1 default)
    bif (Option.isSome z_1) then
    bif z_2.1 then
    k z_2.2
    else k (-1 : Int)
    else none
def slices_IndexFunc_intint_impl_IsRow_f1_p (F : Nat) (s0 : List Int) : Option (Int) := slices_IndexFunc_intint_impl_IsRow_f1_c _ F s0 some
theorem slices_IndexFunc_intint_impl_IsRow_f1_cp (Q : Type) (F : Nat) (s0 : List Int) (k : (Int) → Option Q) : slices_IndexFunc_intint_impl_IsRow_f1_c Q F s0 k = (slices_IndexFunc_intint_impl_IsRow_f1_p F s0).bind k := by
  simp only [slices_IndexFunc_intint_impl_IsRow_f1_p, slices_IndexFunc_intint_impl_IsRow_f1_c, cond_bindL, none_bindL, some_bindL]

/-- slices.ContainsFunc[[]int,int] -/
def slices_ContainsFunc_intint_impl_IsRow_f1_c (Q : Type) (F : Nat) (s0 : List Int) (k : (Bool) → Option Q) : Option Q :=
    let z_1 := (slices_IndexFunc_intint_impl_IsRow_f1_p F s0)
    bif (Option.isSome z_1) then
    k (decide ((0 : Int) ≤ (Option.getD z_1 default)))
    else none
def slices_ContainsFunc_intint_impl_IsRow_f1_p (F : Nat) (s0 : List Int) : Option (Bool) := slices_ContainsFunc_intint_impl_IsRow_f1_c _ F s0 some
theorem slices_ContainsFunc_intint_impl_IsRow_f1_cp (Q : Type) (F : Nat) (s0 : List Int) (k : (Bool) → Option Q) : slices_ContainsFunc_intint_impl_IsRow_f1_c Q F s0 k = (slices_ContainsFunc_intint_impl_IsRow_f1_p F s0).bind k := by
  simp only [slices_ContainsFunc_intint_impl_IsRow_f1_p, slices_ContainsFunc_intint_impl_IsRow_f1_c, cond_bindL, none_bindL, some_bindL]

/-- loop.example/g01194/impl.IsRow -/
def impl_IsRow_c (Q : Type) (F : Nat) (row0 : List Int) (k : (Bool) → Option Q) : Option Q :=
    let z_1 := (slices_ContainsFunc_intint_impl_IsRow_f1_p F (sub row0 0 4))
    bif (Option.isSome z_1) then
    k (!(Option.getD z_1 default))
    else none
def impl_IsRow_p (F : Nat) (row0 : List Int) : Option (Bool) := impl_IsRow_c _ F row0 some
theorem impl_IsRow_cp (Q : Type) (F : Nat) (row0 : List Int) (k : (Bool) → Option Q) : impl_IsRow_c Q F row0 k = (impl_IsRow_p F row0).bind k := by
  simp only [impl_IsRow_p, impl_IsRow_c, cond_bindL, none_bindL, some_bindL]

/-- loop.example/g01194/impl.IsBoard$1 -/
def impl_IsBoard_f1_c (Q : Type) (F : Nat) (row0 : List Int) (k : (Bool) → Option Q) : Option Q :=
    let z_1 := (impl_IsRow_p F row0)
    bif (Option.isSome z_1) then
    k (!(Option.getD z_1 default))
    else none
def impl_IsBoard_f1_p (F : Nat) (row0 : List Int) : Option (Bool) := impl_IsBoard_f1_c _ F row0 some
theorem impl_IsBoard_f1_cp (Q : Type) (F : Nat) (row0 : List Int) (k : (Bool) → Option Q) : impl_IsBoard_f1_c Q F row0 k = (impl_IsBoard_f1_p F row0).bind k := by
  simp only [impl_IsBoard_f1_p, impl_IsBoard_f1_c, cond_bindL, none_bindL, some_bindL]

/-- loop 2 of slices.IndexFunc[[][4]int,[4]int] -/
def slices_IndexFunc_4int4int_impl_IsBoard_f1_s2 (F : Nat) (s0 : List (List Int)) (t71 : Int) (Q : Type) : (Int) → ((Int) → Option Q) → ((Bool × Int) → Option Q) → Option Q
  | t82, kn, kx =>
    let z_1 := (impl_IsBoard_f1_p F (rget s0 (Int.toNat t82)))
    bif (decide (t82 < t71)) then
    bif (inR t82 (List.length s0)) then
    bif (Option.isSome z_1) then
    bif (Option.getD z_1 default) then
    kx (true, t82)
    else kn (IntKind.wrap .i64 (t82 + (1 : Int)))
    else none
    else none
    else kx (false, default)
def slices_IndexFunc_4int4int_impl_IsBoard_f1_l2 (F : Nat) (s0 : List (List Int)) (t71 : Int) (t82 : Int) : Option (Bool × Int) := loopC (slices_IndexFunc_4int4int_impl_IsBoard_f1_s2 F s0 t71) F t82 some
theorem slices_IndexFunc_4int4int_impl_IsBoard_f1_s2_nat (F : Nat) (s0 : List (List Int)) (t71 : Int) : Natural (slices_IndexFunc_4int4int_impl_IsBoard_f1_s2 F s0 t71) := by
  intro Q Q' s kn kx h
  simp only [slices_IndexFunc_4int4int_impl_IsBoard_f1_s2, cond_bindL, none_bindL]
/-- slices.IndexFunc[[][4]int,[4]int] -/
def slices_IndexFunc_4int4int_impl_IsBoard_f1_c (Q : Type) (F : Nat) (s0 : List (List Int)) (k : (Int) → Option Q) : Option Q :=
    let z_1 := (slices_IndexFunc_4int4int_impl_IsBoard_f1_l2 F s0 (((List.length s0) : Nat) : Int) (0 : Int))
    let z_2 := (Option.getD z_1 default)
    bif (Option.isSome z_1) then
    bif z_2.1 then
    k z_2.2
    else k (-1 : Int)
    else none
def slices_IndexFunc_4int4int_impl_IsBoard_f1_p (F : Nat) (s0 : List (List Int)) : Option (Int) := slices_IndexFunc_4int4int_impl_IsBoard_f1_c _ F s0 some
theorem slices_IndexFunc_4int4int_impl_IsBoard_f1_cp (Q : Type) (F : Nat) (s0 : List (List Int)) (k : (Int) → Option Q) : slices_IndexFunc_4int4int_impl_IsBoard_f1_c Q F s0 k = (slices_IndexFunc_4int4int_impl_IsBoard_f1_p F s0).bind k := by
  simp only [slices_IndexFunc_4int4int_impl_IsBoard_f1_p, slices_IndexFunc_4int4int_impl_IsBoard_f1_c, cond_bindL, none_bindL, some_bindL]

/-- slices.ContainsFunc[[][4]int,[4]int] -/
def slices_ContainsFunc_4int4int_impl_IsBoard_f1_c (Q : Type) (F : Nat) (s0 : List (List Int)) (k : (Bool) → Option Q) : Option Q :=
    let z_1 := (slices_IndexFunc_4int4int_impl_IsBoard_f1_p F s0)
    bif (Option.isSome z_1) then
    k (decide ((0 : Int) ≤ (Option.getD z_1 default)))
    else none
def slices_ContainsFunc_4int4int_impl_IsBoard_f1_p (F : Nat) (s0 : List (List Int)) : Option (Bool) := slices_ContainsFunc_4int4int_impl_IsBoard_f1_c _ F s0 some
theorem slices_ContainsFunc_4int4int_impl_IsBoard_f1_cp (Q : Type) (F : Nat) (s0 : List (List Int)) (k : (Bool) → Option Q) : slices_ContainsFunc_4int4int_impl_IsBoard_f1_c Q F s0 k = (slices_ContainsFunc_4int4int_impl_IsBoard_f1_p F s0).bind k := by
  simp only [slices_ContainsFunc_4int4int_impl_IsBoard_f1_p, slices_ContainsFunc_4int4int_impl_IsBoard_f1_c, cond_bindL, none_bindL, some_bindL]

/-- loop.example/g01194/impl.IsBoard -/
def impl_IsBoard_c (Q : Type) (F : Nat) (b0 : List Int) (k : (Bool) → Option Q) : Option Q :=
    let z_1 := (slices_ContainsFunc_4int4int_impl_IsBoard_f1_p F [(sub b0 0 4), (sub b0 4 4), (sub b0 8 4), (sub b0 12 4)])
    bif (Option.isSome z_1) then
    k (!(Option.getD z_1 default))
    else none
def impl_IsBoard_p (F : Nat) (b0 : List Int) : Option (Bool) := impl_IsBoard_c _ F b0 some
theorem impl_IsBoard_cp (Q : Type) (F : Nat) (b0 : List Int) (k : (Bool) → Option Q) : impl_IsBoard_c Q F b0 k = (impl_IsBoard_p F b0).bind k := by
  simp only [impl_IsBoard_p, impl_IsBoard_c, cond_bindL, none_bindL, some_bindL]

/-- loop.example/g01194/impl.cells -/
def impl_cells_c (Q : Type) (k : (Unit) → Option Q) : Option Q :=
    k ()
def impl_cells_v : Unit :=
    ()
theorem impl_cells_cv (Q : Type) (k : (Unit) → Option Q) : impl_cells_c Q k = k (impl_cells_v) := by
  simp only [impl_cells_c, impl_cells_v, app_condL k]

/-- (*loop.example/g01194/impl.Board).at -/
def impl_Board_at_c (Q : Type) (cell3 : List Int) (b4 : List Int) (k : (Nat) → Option Q) : Option Q :=
    bif (inR (iget cell3 0) 4) then
    bif (inR (iget cell3 1) 4) then
    k (((0 : Nat) + ((Int.toNat (iget cell3 0)) * (4 : Nat))) + ((Int.toNat (iget cell3 1)) * (1 : Nat)))
    else none
    else none
def impl_Board_at_p (cell3 : List Int) (b4 : List Int) : Option (Nat) := impl_Board_at_c _ cell3 b4 some
theorem impl_Board_at_cp (Q : Type) (cell3 : List Int) (b4 : List Int) (k : (Nat) → Option Q) : impl_Board_at_c Q cell3 b4 k = (impl_Board_at_p cell3 b4).bind k := by
  simp only [impl_Board_at_p, impl_Board_at_c, cond_bindL, none_bindL, some_bindL]

/-- (loop.example/g01194/impl.Board).empty$1 -/
def impl_Board_empty_f1_c (Q : Type) (cell0 : List Int) (a14 : List Int) (k : (Bool) → Option Q) : Option Q :=
    let z_1 := (impl_Board_at_p cell0 a14)
    bif (Option.isSome z_1) then
    k (!((iget a14 (Option.getD z_1 default)) == (0 : Int)))
    else none
def impl_Board_empty_f1_p (cell0 : List Int) (a14 : List Int) : Option (Bool) := impl_Board_empty_f1_c _ cell0 a14 some
theorem impl_Board_empty_f1_cp (Q : Type) (cell0 : List Int) (a14 : List Int) (k : (Bool) → Option Q) : impl_Board_empty_f1_c Q cell0 a14 k = (impl_Board_empty_f1_p cell0 a14).bind k := by
  simp only [impl_Board_empty_f1_p, impl_Board_empty_f1_c, cond_bindL, none_bindL, some_bindL]

/-- loop 2 of slices.IndexFunc[[][2]int,[2]int] -/
def slices_IndexFunc_2int2int_impl_Board_empty_f1_s2 (F : Nat) (s0 : List (List Int)) (t74 : Int) (f6 : List Int) (Q : Type) : (Int) → ((Int) → Option Q) → ((Bool × Int) → Option Q) → Option Q
  | t85, kn, kx =>
    let z_1 := (impl_Board_empty_f1_p (rget s0 (Int.toNat t85)) f6)
    bif (decide (t85 < t74)) then
    bif (inR t85 (List.length s0)) then
    bif (Option.isSome z_1) then
    bif (Option.getD z_1 default) then
    kx (true, t85)
    else kn (IntKind.wrap .i64 (t85 + (1 : Int)))
    else none
    else none
    else kx (false, default)
def slices_IndexFunc_2int2int_impl_Board_empty_f1_l2 (F : Nat) (s0 : List (List Int)) (t74 : Int) (f6 : List Int) (t85 : Int) : Option (Bool × Int) := loopC (slices_IndexFunc_2int2int_impl_Board_empty_f1_s2 F s0 t74 f6) F t85 some
theorem slices_IndexFunc_2int2int_impl_Board_empty_f1_s2_nat (F : Nat) (s0 : List (List Int)) (t74 : Int) (f6 : List Int) : Natural (slices_IndexFunc_2int2int_impl_Board_empty_f1_s2 F s0 t74 f6) := by
  intro Q Q' s kn kx h
  simp only [slices_IndexFunc_2int2int_impl_Board_empty_f1_s2, cond_bindL, none_bindL]
/-- slices.IndexFunc[[][2]int,[2]int] -/
def slices_IndexFunc_2int2int_impl_Board_empty_f1_c (Q : Type) (F : Nat) (s0 : List (List Int)) (f4 : List Int) (k : (Int) → Option Q) : Option Q :=
    let z_1 := (slices_IndexFunc_2int2int_impl_Board_empty_f1_l2 F s0 (((List.length s0) : Nat) : Int) f4 (0 : Int))
    let z_2 := (Option.getD z_1 default)
    bif (Option.isSome z_1) then
    bif z_2.1 then
    k z_2.2
    else k (-1 : Int)
    else none
def slices_IndexFunc_2int2int_impl_Board_empty_f1_p (F : Nat) (s0 : List (List Int)) (f4 : List Int) : Option (Int) := slices_IndexFunc_2int2int_impl_Board_empty_f1_c _ F s0 f4 some
theorem slices_IndexFunc_2int2int_impl_Board_empty_f1_cp (Q : Type) (F : Nat) (s0 : List (List Int)) (f4 : List Int) (k : (Int) → Option Q) : slices_IndexFunc_2int2int_impl_Board_empty_f1_c Q F s0 f4 k = (slices_IndexFunc_2int2int_impl_Board_empty_f1_p F s0 f4).bind k := by
  simp only [slices_IndexFunc_2int2int_impl_Board_empty_f1_p, slices_IndexFunc_2int2int_impl_Board_empty_f1_c, cond_bindL, none_bindL, some_bindL]

/-- loop 5 of slices.DeleteFunc[[][2]int,[2]int] -/
def slices_DeleteFunc_2int2int_impl_Board_empty_f1_s5 (F : Nat) (s1 : Nat) (del8 : List Int) (Q : Type) : (Int × Int × List (List Int)) → ((Int × Int × List (List Int)) → Option Q) → ((Int × List (List Int)) → Option Q) → Option Q
  | (i5, j6, s7), kn, kx =>
    let z_1 : List Int := (rget s7 ((0 : Nat) + (Int.toNat j6)))
    let z_2 := (impl_Board_empty_f1_p z_1 del8)
    let z_3 : Int := (IntKind.wrap .i64 (j6 + (1 : Int)))
    bif (decide (j6 < ((s1 : Nat) : Int))) then
    bif (inR j6 s1) then
    bif (Option.isSome z_2) then
    bif (!(Option.getD z_2 default)) then
    bif (inR i5 s1) then
    kn ((IntKind.wrap .i64 (i5 + (1 : Int))), z_3, (rset s7 ((0 : Nat) + (Int.toNat i5)) z_1))
    else none
    else kn (i5, z_3, s7)
    else none
    else none
    else kx (i5, s7)
def slices_DeleteFunc_2int2int_impl_Board_empty_f1_l5 (F : Nat) (s1 : Nat) (del8 : List Int) (i5 : Int) (j6 : Int) (s7 : List (List Int)) : Option (Int × List (List Int)) := loopC (slices_DeleteFunc_2int2int_impl_Board_empty_f1_s5 F s1 del8) F (i5, j6, s7) some
theorem slices_DeleteFunc_2int2int_impl_Board_empty_f1_s5_nat (F : Nat) (s1 : Nat) (del8 : List Int) : Natural (slices_DeleteFunc_2int2int_impl_Board_empty_f1_s5 F s1 del8) := by
  intro Q Q' s kn kx h
  obtain ⟨i5, j6, s7⟩ := s
  simp only [slices_DeleteFunc_2int2int_impl_Board_empty_f1_s5, cond_bindL, none_bindL]
/-- slices.DeleteFunc[[][2]int,[2]int] -/
def slices_DeleteFunc_2int2int_impl_Board_empty_f1_c (Q : Type) (F : Nat) (s5 : List (List Int)) (del6 : List Int) (k : (Nat × List (List Int)) → Option Q) : Option Q :=
    let z_1 := (slices_IndexFunc_2int2int_impl_Board_empty_f1_p F (subn (List.length s5) s5 0 (List.length s5)) del6)
    let z_2 := (slices_DeleteFunc_2int2int_impl_Board_empty_f1_l5 F (List.length s5) del6 (Option.getD z_1 default) (IntKind.wrap .i64 ((Option.getD z_1 default) + (1 : Int))) s5)
    let z_3 := (Option.getD z_2 default)
    let z_4 : Bool := (inLe z_3.1 (List.length s5))
    let z_5 : Nat := (Int.toNat z_3.1)
    let z_6 : Nat := ((List.length s5) - z_5)
    bif (Option.isSome z_1) then
    bif ((Option.getD z_1 default) == (-1 : Int)) then
    k ((List.length s5), s5)
    else bif (Option.isSome z_2) then
    bif z_4 then
    bif z_4 then
    k ((z_5 - (0 : Nat)), (splice z_3.2 ((0 : Nat) + z_5) (List.replicate z_6 [(0 : Int), (0 : Int)]) z_6))
    else none
    else none
    else none
    else none
def slices_DeleteFunc_2int2int_impl_Board_empty_f1_p (F : Nat) (s5 : List (List Int)) (del6 : List Int) : Option (Nat × List (List Int)) := slices_DeleteFunc_2int2int_impl_Board_empty_f1_c _ F s5 del6 some
theorem slices_DeleteFunc_2int2int_impl_Board_empty_f1_cp (Q : Type) (F : Nat) (s5 : List (List Int)) (del6 : List Int) (k : (Nat × List (List Int)) → Option Q) : slices_DeleteFunc_2int2int_impl_Board_empty_f1_c Q F s5 del6 k = (slices_DeleteFunc_2int2int_impl_Board_empty_f1_p F s5 del6).bind k := by
  simp only [slices_DeleteFunc_2int2int_impl_Board_empty_f1_p, slices_DeleteFunc_2int2int_impl_Board_empty_f1_c, cond_bindL, none_bindL, some_bindL]

/-- (loop.example/g01194/impl.Board).empty -/
def impl_Board_empty_c (Q : Type) (F : Nat) (b0 : List Int) (k : (Nat × List (List Int)) → Option Q) : Option Q :=
    let z_1 := (slices_DeleteFunc_2int2int_impl_Board_empty_f1_p F [[(0 : Int), (0 : Int)], [(0 : Int), (1 : Int)], [(0 : Int), (2 : Int)], [(0 : Int), (3 : Int)], [(1 : Int), (0 : Int)], [(1 : Int), (1 : Int)], [(1 : Int), (2 : Int)], [(1 : Int), (3 : Int)], [(2 : Int), (0 : Int)], [(2 : Int), (1 : Int)], [(2 : Int), (2 : Int)], [(2 : Int), (3 : Int)], [(3 : Int), (0 : Int)], [(3 : Int), (1 : Int)], [(3 : Int), (2 : Int)], [(3 : Int), (3 : Int)]] b0)
    let z_2 := (Option.getD z_1 default)
    bif (Option.isSome z_1) then
    k (z_2.1, z_2.2)
    else none
def impl_Board_empty_p (F : Nat) (b0 : List Int) : Option (Nat × List (List Int)) := impl_Board_empty_c _ F b0 some
theorem impl_Board_empty_cp (Q : Type) (F : Nat) (b0 : List Int) (k : (Nat × List (List Int)) → Option Q) : impl_Board_empty_c Q F b0 k = (impl_Board_empty_p F b0).bind k := by
  simp only [impl_Board_empty_p, impl_Board_empty_c, cond_bindL, none_bindL, some_bindL]

/-- loop 3 of (loop.example/g01194/impl.Board).placements -/
def impl_Board_placements_s3 (F : Nat) (t83 : Nat) (t94 : Int) (t87 : List (List Int)) (Q : Type) : (Int × List (List Int)) → ((Int × List (List Int)) → Option Q) → ((List (List Int)) → Option Q) → Option Q
  | (t105, out6), kn, kx =>
    let z_1 : List Int := (rget t87 ((0 : Nat) + (Int.toNat t105)))
    let z_2 : Int := (iget z_1 0)
    let z_3 : Int := (iget z_1 1)
    let z_4 : List (List Int) := ((subn (List.length out6) out6 0 (List.length out6)) ++ [[z_2, z_3, (1 : Int)], [z_2, z_3, (2 : Int)]])
    bif (decide (t105 < t94)) then
    bif (inR t105 t83) then
    bif (fits (List.length z_4) 24) then
    kn ((IntKind.wrap .i64 (t105 + (1 : Int))), z_4)
    else none
    else none
    else kx out6
def impl_Board_placements_l3 (F : Nat) (t83 : Nat) (t94 : Int) (t87 : List (List Int)) (t105 : Int) (out6 : List (List Int)) : Option (List (List Int)) := loopC (impl_Board_placements_s3 F t83 t94 t87) F (t105, out6) some
theorem impl_Board_placements_s3_nat (F : Nat) (t83 : Nat) (t94 : Int) (t87 : List (List Int)) : Natural (impl_Board_placements_s3 F t83 t94 t87) := by
  intro Q Q' s kn kx h
  obtain ⟨t105, out6⟩ := s
  simp only [impl_Board_placements_s3, cond_bindL, none_bindL]
/-- (loop.example/g01194/impl.Board).placements -/
def impl_Board_placements_c (Q : Type) (F : Nat) (b0 : List Int) (k : (List (List Int)) → Option Q) : Option Q :=
    let z_1 := (impl_Board_empty_p F b0)
    let z_2 := (Option.getD z_1 default)
    let z_3 := (impl_Board_placements_l3 F z_2.1 ((z_2.1 : Nat) : Int) z_2.2 (0 : Int) ([] : List (List Int)))
    bif (Option.isSome z_1) then
    bif (Option.isSome z_3) then
    k (Option.getD z_3 default)
    else none
    else none
def impl_Board_placements_p (F : Nat) (b0 : List Int) : Option (List (List Int)) := impl_Board_placements_c _ F b0 some
theorem impl_Board_placements_cp (Q : Type) (F : Nat) (b0 : List Int) (k : (List (List Int)) → Option Q) : impl_Board_placements_c Q F b0 k = (impl_Board_placements_p F b0).bind k := by
  simp only [impl_Board_placements_p, impl_Board_placements_c, cond_bindL, none_bindL, some_bindL]

/-- (loop.example/g01194/impl.Board).placed -/
def impl_Board_placed_c (Q : Type) (b0 : List Int) (p1 : List Int) (k : (List Int) → Option Q) : Option Q :=
    bif (inR (iget p1 0) 4) then
    bif (inR (iget p1 1) 4) then
    k (iset b0 (((0 : Nat) + ((Int.toNat (iget p1 0)) * (4 : Nat))) + ((Int.toNat (iget p1 1)) * (1 : Nat))) (iget p1 2))
    else none
    else none
def impl_Board_placed_p (b0 : List Int) (p1 : List Int) : Option (List Int) := impl_Board_placed_c _ b0 p1 some
theorem impl_Board_placed_cp (Q : Type) (b0 : List Int) (p1 : List Int) (k : (List Int) → Option Q) : impl_Board_placed_c Q b0 p1 k = (impl_Board_placed_p b0 p1).bind k := by
  simp only [impl_Board_placed_p, impl_Board_placed_c, cond_bindL, none_bindL, some_bindL]
end Go.Lv.P
