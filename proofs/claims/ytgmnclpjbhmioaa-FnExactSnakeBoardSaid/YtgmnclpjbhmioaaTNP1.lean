/-
Pure functions and what the code of them does, by program; without conditions.
-/
import Derived.Test.YtgmnclpjbhmioaaTNP0
namespace Go.Lv.P
open Go Go.Lv
set_option linter.unusedVariables false
set_option linter.unusedSimpArgs false
set_option maxRecDepth 100000
/-- loop 2 of slices.IndexFunc[[][4]int,[4]int] -/
def slices_IndexFunc_4int4int_impl_IsBoard_f1_s2 (F : Nat) (s0 : List (List Int)) (t71 : Int) (Q : Type) : (Int) → ((Int) → Option Q) → ((Bool × Int) → Option Q) → Option Q
  | t82, kn, kx =>
    let z_1 := (impl_IsBoard_f1_p F (rget s0 (Int.toNat t82)))
    bif (decide (t82 < t71)) then
    bif (inR t82 (List.length s0)) then
    bif (Option.isSome z_1) then
    bif (Option.getD z_1 default) then
    kx (true, t82)
    else kn (IntKind.wrap .i64 (t82 + (1 : Int)))
    else none
    else none
    else kx (false, default)
def slices_IndexFunc_4int4int_impl_IsBoard_f1_l2 (F : Nat) (s0 : List (List Int)) (t71 : Int) (t82 : Int) : Option (Bool × Int) := loopC (slices_IndexFunc_4int4int_impl_IsBoard_f1_s2 F s0 t71) F t82 some
theorem slices_IndexFunc_4int4int_impl_IsBoard_f1_s2_nat (F : Nat) (s0 : List (List Int)) (t71 : Int) : Natural (slices_IndexFunc_4int4int_impl_IsBoard_f1_s2 F s0 t71) := by
  intro Q Q' s kn kx h
  simp only [slices_IndexFunc_4int4int_impl_IsBoard_f1_s2, cond_bindL, none_bindL]
/-- slices.IndexFunc[[][4]int,[4]int] -/
def slices_IndexFunc_4int4int_impl_IsBoard_f1_c (Q : Type) (F : Nat) (s0 : List (List Int)) (k : (Int) → Option Q) : Option Q :=
    let z_1 := (slices_IndexFunc_4int4int_impl_IsBoard_f1_l2 F s0 (((List.length s0) : Nat) : Int) (0 : Int))
    let z_2 := (Option.getD z_1 default)
    bif (Option.isSome z_1) then
    bif z_2.1 then
    k z_2.2
    else k (-1 : Int)
    else none
def slices_IndexFunc_4int4int_impl_IsBoard_f1_p (F : Nat) (s0 : List (List Int)) : Option (Int) := slices_IndexFunc_4int4int_impl_IsBoard_f1_c _ F s0 some
theorem slices_IndexFunc_4int4int_impl_IsBoard_f1_cp (Q : Type) (F : Nat) (s0 : List (List Int)) (k : (Int) → Option Q) : slices_IndexFunc_4int4int_impl_IsBoard_f1_c Q F s0 k = (slices_IndexFunc_4int4int_impl_IsBoard_f1_p F s0).bind k := by
  simp only [slices_IndexFunc_4int4int_impl_IsBoard_f1_p, slices_IndexFunc_4int4int_impl_IsBoard_f1_c, cond_bindL, none_bindL, some_bindL]

/-- slices.ContainsFunc[[][4]int,[4]int] -/
def slices_ContainsFunc_4int4int_impl_IsBoard_f1_c (Q : Type) (F : Nat) (s0 : List (List Int)) (k : (Bool) → Option Q) : Option Q :=
    let z_1 := (slices_IndexFunc_4int4int_impl_IsBoard_f1_p F s0)
    bif (Option.isSome z_1) then
    k (decide ((0 : Int) ≤ (Option.getD z_1 default)))
    else none
def slices_ContainsFunc_4int4int_impl_IsBoard_f1_p (F : Nat) (s0 : List (List Int)) : Option (Bool) := slices_ContainsFunc_4int4int_impl_IsBoard_f1_c _ F s0 some
theorem slices_ContainsFunc_4int4int_impl_IsBoard_f1_cp (Q : Type) (F : Nat) (s0 : List (List Int)) (k : (Bool) → Option Q) : slices_ContainsFunc_4int4int_impl_IsBoard_f1_c Q F s0 k = (slices_ContainsFunc_4int4int_impl_IsBoard_f1_p F s0).bind k := by
  simp only [slices_ContainsFunc_4int4int_impl_IsBoard_f1_p, slices_ContainsFunc_4int4int_impl_IsBoard_f1_c, cond_bindL, none_bindL, some_bindL]

/-- loop.example/g01194/impl.IsBoard -/
def impl_IsBoard_c (Q : Type) (F : Nat) (b0 : List Int) (k : (Bool) → Option Q) : Option Q :=
    let z_1 := (slices_ContainsFunc_4int4int_impl_IsBoard_f1_p F [(sub b0 0 4), (sub b0 4 4), (sub b0 8 4), (sub b0 12 4)])
    bif (Option.isSome z_1) then
    k (!(Option.getD z_1 default))
    else none
def impl_IsBoard_p (F : Nat) (b0 : List Int) : Option (Bool) := impl_IsBoard_c _ F b0 some
theorem impl_IsBoard_cp (Q : Type) (F : Nat) (b0 : List Int) (k : (Bool) → Option Q) : impl_IsBoard_c Q F b0 k = (impl_IsBoard_p F b0).bind k := by
  simp only [impl_IsBoard_p, impl_IsBoard_c, cond_bindL, none_bindL, some_bindL]

/-- loop.example/g01194/impl.isForm -/
def impl_isForm_c (Q : Type) (k0 : Int) (k : (Bool) → Option Q) : Option Q :=
    k (impl_in_v k0 (0 : Int) (7 : Int))
def impl_isForm_v (k0 : Int) : Bool :=
    (impl_in_v k0 (0 : Int) (7 : Int))
theorem impl_isForm_cv (Q : Type) (k0 : Int) (k : (Bool) → Option Q) : impl_isForm_c Q k0 k = k (impl_isForm_v k0) := by
  simp only [impl_isForm_c, impl_isForm_v, app_condL k]

/-- slices.Grow[[]int,int] -/
def slices_Grow_intint_c (Q : Type) (n0 : Int) (k : (List Int) → Option Q) : Option Q :=
    let z_1 : Int := (IntKind.wrap .i64 (n0 - (0 : Int)))
    let z_2 : Nat := (Int.toNat z_1)
    bif (decide (n0 < (0 : Int))) then
    none
    else bif (decide ((0 : Int) < z_1)) then
    bif ((decide ((1 : Int) ≤ z_1)) && (fits z_2 8)) then
    bif (inLe (0 : Int) z_2) then
    k (List.replicate z_2 (0 : Int))
    else none
    else none
    else k ([] : List Int)
def slices_Grow_intint_p (n0 : Int) : Option (List Int) := slices_Grow_intint_c _ n0 some
theorem slices_Grow_intint_cp (Q : Type) (n0 : Int) (k : (List Int) → Option Q) : slices_Grow_intint_c Q n0 k = (slices_Grow_intint_p n0).bind k := by
  simp only [slices_Grow_intint_p, slices_Grow_intint_c, cond_bindL, none_bindL, some_bindL]

/-- slices.Concat[[]int,int] -/
def slices_Concat_intint_c (Q : Type) (slices0 : List Int) (slices1 : List Int) (slices2 : List Int) (slices3 : List Int) (k : (List Int) → Option Q) : Option Q :=
    let z_1 : Int := (IntKind.wrap .i64 ((0 : Int) + (((List.length slices0) : Nat) : Int)))
    let z_2 : Int := (IntKind.wrap .i64 (z_1 + (((List.length slices1) : Nat) : Int)))
    let z_3 : Int := (IntKind.wrap .i64 (z_2 + (((List.length slices2) : Nat) : Int)))
    let z_4 : Int := (IntKind.wrap .i64 (z_3 + (((List.length slices3) : Nat) : Int)))
    let z_5 : List Int := ((subn (List.length (Option.getD (slices_Grow_intint_p z_4) default)) (Option.getD (slices_Grow_intint_p z_4) default) 0 0) ++ slices0)
    let z_6 : Nat := (List.length z_5)
    let z_7 : List Int := ((subn z_6 z_5 0 z_6) ++ slices1)
    let z_8 : Nat := (List.length z_7)
    let z_9 : List Int := ((subn z_8 z_7 0 z_8) ++ slices2)
    let z_10 : Nat := (List.length z_9)
    let z_11 : List Int := ((subn z_10 z_9 0 z_10) ++ slices3)
    bif (decide (z_1 < (0 : Int))) then
    none
    else bif (decide (z_2 < (0 : Int))) then
    none
    else bif (decide (z_3 < (0 : Int))) then
    none
    else bif (decide (z_4 < (0 : Int))) then
    none
    else bif (Option.isSome (slices_Grow_intint_p z_4)) then
    bif (fits z_6 8) then
    bif (fits z_8 8) then
    bif (fits z_10 8) then
    bif (fits (List.length z_11) 8) then
    k z_11
    else none
    else none
    else none
    else none
    else none
def slices_Concat_intint_p (slices0 : List Int) (slices1 : List Int) (slices2 : List Int) (slices3 : List Int) : Option (List Int) := slices_Concat_intint_c _ slices0 slices1 slices2 slices3 some
theorem slices_Concat_intint_cp (Q : Type) (slices0 : List Int) (slices1 : List Int) (slices2 : List Int) (slices3 : List Int) (k : (List Int) → Option Q) : slices_Concat_intint_c Q slices0 slices1 slices2 slices3 k = (slices_Concat_intint_p slices0 slices1 slices2 slices3).bind k := by
  simp only [slices_Concat_intint_p, slices_Concat_intint_c, cond_bindL, none_bindL, some_bindL]

/-- (loop.example/g01194/impl.Board).flat -/
def impl_Board_flat_c (Q : Type) (b0 : List Int) (k : (List Int) → Option Q) : Option Q :=
    let z_1 := (slices_Concat_intint_p (sub b0 0 4) (sub b0 4 4) (sub b0 8 4) (sub b0 12 4))
    bif (Option.isSome z_1) then
    k (Option.getD z_1 default)
    else none
def impl_Board_flat_p (b0 : List Int) : Option (List Int) := impl_Board_flat_c _ b0 some
theorem impl_Board_flat_cp (Q : Type) (b0 : List Int) (k : (List Int) → Option Q) : impl_Board_flat_c Q b0 k = (impl_Board_flat_p b0).bind k := by
  simp only [impl_Board_flat_p, impl_Board_flat_c, cond_bindL, none_bindL, some_bindL]


/-- loop.example/g01194/impl.cells -/
def impl_cells_c (Q : Type) (k : (Unit) → Option Q) : Option Q :=
    k ()
def impl_cells_v : Unit :=
    ()
theorem impl_cells_cv (Q : Type) (k : (Unit) → Option Q) : impl_cells_c Q k = k (impl_cells_v) := by
  simp only [impl_cells_c, impl_cells_v, app_condL k]

/-- loop 2 of loop.example/g01194/impl.moved -/
def impl_moved_s2 (F : Nat) (k0 : Int) (t67 : Int) (Q : Type) : (Int × List Int) → ((Int × List Int) → Option Q) → ((List Int) → Option Q) → Option Q
  | (t78, cell9), kn, kx =>
    bif (decide (t78 < t67)) then
    kn ((IntKind.wrap .i64 (t78 + (1 : Int))), [(iget cell9 1), (IntKind.wrap .i64 ((3 : Int) - (iget cell9 0)))])
    else kx cell9
def impl_moved_l2 (F : Nat) (k0 : Int) (t67 : Int) (t78 : Int) (cell9 : List Int) : Option (List Int) := loopC (impl_moved_s2 F k0 t67) F (t78, cell9) some
theorem impl_moved_s2_nat (F : Nat) (k0 : Int) (t67 : Int) : Natural (impl_moved_s2 F k0 t67) := by
  intro Q Q' s kn kx h
  obtain ⟨t78, cell9⟩ := s
  simp only [impl_moved_s2, cond_bindL, none_bindL]
/-- loop.example/g01194/impl.moved -/
def impl_moved_c (Q : Type) (F : Nat) (k0 : Int) (cell1 : List Int) (k : (List Int) → Option Q) : Option Q :=
    let z_1 := (impl_moved_l2 F k0 (Int.tmod k0 (4 : Int)) (0 : Int) cell1)
    bif (Option.isSome z_1) then
    bif (decide ((4 : Int) ≤ k0)) then
    k (iset (Option.getD z_1 default) 1 (IntKind.wrap .i64 ((3 : Int) - (iget (Option.getD z_1 default) 1))))
    else k (Option.getD z_1 default)
    else none
def impl_moved_p (F : Nat) (k0 : Int) (cell1 : List Int) : Option (List Int) := impl_moved_c _ F k0 cell1 some
theorem impl_moved_cp (Q : Type) (F : Nat) (k0 : Int) (cell1 : List Int) (k : (List Int) → Option Q) : impl_moved_c Q F k0 cell1 k = (impl_moved_p F k0 cell1).bind k := by
  simp only [impl_moved_p, impl_moved_c, cond_bindL, none_bindL, some_bindL]

/-- loop.example/g01194/impl.snake -/
def impl_snake_c (Q : Type) (F : Nat) (k0 : Int) (k : (List Int) → Option Q) : Option Q :=
    let z_1 := (impl_moved_p F k0 [(0 : Int), (0 : Int)])
    let z_2 := (impl_moved_p F k0 [(0 : Int), (1 : Int)])
    let z_3 := (impl_moved_p F k0 [(0 : Int), (2 : Int)])
    let z_4 := (impl_moved_p F k0 [(0 : Int), (3 : Int)])
    let z_5 := (impl_moved_p F k0 [(1 : Int), (3 : Int)])
    let z_6 := (impl_moved_p F k0 [(1 : Int), (2 : Int)])
    let z_7 := (impl_moved_p F k0 [(1 : Int), (1 : Int)])
    let z_8 := (impl_moved_p F k0 [(1 : Int), (0 : Int)])
    let z_9 := (impl_moved_p F k0 [(2 : Int), (0 : Int)])
    let z_10 := (impl_moved_p F k0 [(2 : Int), (1 : Int)])
    let z_11 := (impl_moved_p F k0 [(2 : Int), (2 : Int)])
    let z_12 := (impl_moved_p F k0 [(2 : Int), (3 : Int)])
    let z_13 := (impl_moved_p F k0 [(3 : Int), (3 : Int)])
    let z_14 := (impl_moved_p F k0 [(3 : Int), (2 : Int)])
    let z_15 := (impl_moved_p F k0 [(3 : Int), (1 : Int)])
    let z_16 := (impl_moved_p F k0 [(3 : Int), (0 : Int)])
    bif (Option.isSome z_1) then
    bif (Option.isSome z_2) then
    bif (Option.isSome z_3) then
    bif (Option.isSome z_4) then
    bif (Option.isSome z_5) then
    bif (Option.isSome z_6) then
    bif (Option.isSome z_7) then
    bif (Option.isSome z_8) then
    bif (Option.isSome z_9) then
    bif (Option.isSome z_10) then
    bif (Option.isSome z_11) then
    bif (Option.isSome z_12) then
    bif (Option.isSome z_13) then
    bif (Option.isSome z_14) then
    bif (Option.isSome z_15) then
    bif (Option.isSome z_16) then
    k (splice (splice (splice (splice (splice (splice (splice (splice (splice (splice (splice (splice (splice (splice (splice (splice [(0 : Int), (0 : Int), (0 : Int), (0 : Int), (0 : Int), (0 : Int), (0 : Int), (0 : Int), (0 : Int), (0 : Int), (0 : Int), (0 : Int), (0 : Int), (0 : Int), (0 : Int), (0 : Int), (0 : Int), (0 : Int), (0 : Int), (0 : Int), (0 : Int), (0 : Int), (0 : Int), (0 : Int), (0 : Int), (0 : Int), (0 : Int), (0 : Int), (0 : Int), (0 : Int), (0 : Int), (0 : Int)] 0 (Option.getD z_1 default) 2) 2 (Option.getD z_2 default) 2) 4 (Option.getD z_3 default) 2) 6 (Option.getD z_4 default) 2) 8 (Option.getD z_5 default) 2) 10 (Option.getD z_6 default) 2) 12 (Option.getD z_7 default) 2) 14 (Option.getD z_8 default) 2) 16 (Option.getD z_9 default) 2) 18 (Option.getD z_10 default) 2) 20 (Option.getD z_11 default) 2) 22 (Option.getD z_12 default) 2) 24 (Option.getD z_13 default) 2) 26 (Option.getD z_14 default) 2) 28 (Option.getD z_15 default) 2) 30 (Option.getD z_16 default) 2)
    else none
    else none
    else none
    else none
    else none
    else none
    else none
    else none
    else none
    else none
    else none
    else none
    else none
    else none
    else none
    else none
def impl_snake_p (F : Nat) (k0 : Int) : Option (List Int) := impl_snake_c _ F k0 some
theorem impl_snake_cp (Q : Type) (F : Nat) (k0 : Int) (k : (List Int) → Option Q) : impl_snake_c Q F k0 k = (impl_snake_p F k0).bind k := by
  simp only [impl_snake_p, impl_snake_c, cond_bindL, none_bindL, some_bindL]

/-- (*loop.example/g01194/impl.Board).at -/
def impl_Board_at_c (Q : Type) (cell3 : List Int) (b4 : List Int) (k : (Nat) → Option Q) : Option Q :=
    bif (inR (iget cell3 0) 4) then
    bif (inR (iget cell3 1) 4) then
    k (((0 : Nat) + ((Int.toNat (iget cell3 0)) * (4 : Nat))) + ((Int.toNat (iget cell3 1)) * (1 : Nat)))
    else none
    else none
def impl_Board_at_p (cell3 : List Int) (b4 : List Int) : Option (Nat) := impl_Board_at_c _ cell3 b4 some
theorem impl_Board_at_cp (Q : Type) (cell3 : List Int) (b4 : List Int) (k : (Nat) → Option Q) : impl_Board_at_c Q cell3 b4 k = (impl_Board_at_p cell3 b4).bind k := by
  simp only [impl_Board_at_p, impl_Board_at_c, cond_bindL, none_bindL, some_bindL]

/-- loop 7 of loop.example/g01194/impl.SnakeBoard -/
def impl_SnakeBoard_s7 (F : Nat) (list4 : Nat) (t258 : List Int) (list11 : List Int) (Q : Type) : (Int × List Int) → ((Int × List Int) → Option Q) → ((List Int) → Option Q) → Option Q
  | (t269, out12), kn, kx =>
    let z_1 := (impl_Board_at_p (subn 32 t258 ((Int.toNat t269) * (2 : Nat)) 2) out12)
    let z_2 : Int := (IntKind.wrap .i64 ((15 : Int) - t269))
    bif (decide (t269 < (16 : Int))) then
    bif (inR t269 16) then
    bif (Option.isSome z_1) then
    bif (inR z_2 list4) then
    kn ((IntKind.wrap .i64 (t269 + (1 : Int))), (iset out12 (Option.getD z_1 default) (iget list11 ((0 : Nat) + (Int.toNat z_2)))))
    else none
    else none
    else none
    else kx out12
def impl_SnakeBoard_l7 (F : Nat) (list4 : Nat) (t258 : List Int) (list11 : List Int) (t269 : Int) (out12 : List Int) : Option (List Int) := loopC (impl_SnakeBoard_s7 F list4 t258 list11) F (t269, out12) some
theorem impl_SnakeBoard_s7_nat (F : Nat) (list4 : Nat) (t258 : List Int) (list11 : List Int) : Natural (impl_SnakeBoard_s7 F list4 t258 list11) := by
  intro Q Q' s kn kx h
  obtain ⟨t269, out12⟩ := s
  simp only [impl_SnakeBoard_s7, cond_bindL, none_bindL]
/-- loop.example/g01194/impl.SnakeBoard -/
def impl_SnakeBoard_c (Q : Type) (F : Nat) (b0 : List Int) (k1 : Int) (k : (List Int × Bool) → Option Q) : Option Q :=
    let z_1 := (impl_IsBoard_p F b0)
    let z_2 : List Int := [(0 : Int), (0 : Int), (0 : Int), (0 : Int), (0 : Int), (0 : Int), (0 : Int), (0 : Int), (0 : Int), (0 : Int), (0 : Int), (0 : Int), (0 : Int), (0 : Int), (0 : Int), (0 : Int)]
    let z_3 : Nat := (List.length (Option.getD (impl_Board_flat_p b0) default))
    let z_4 := (impl_snake_p F k1)
    let z_5 := (impl_SnakeBoard_l7 F z_3 (Option.getD z_4 default) (sortI (Option.getD (impl_Board_flat_p b0) default)) (0 : Int) z_2)
    bif (Option.isSome z_1) then
    bif (!(Option.getD z_1 default)) then
    k (z_2, false)
    else bif (!(impl_isForm_v k1)) then
    k (z_2, false)
    else bif (Option.isSome (impl_Board_flat_p b0)) then
    bif ((Nat.beq z_3 z_3) && (Nat.ble z_3 1000000000)) then
    bif (Option.isSome z_4) then
    bif (Option.isSome z_5) then
    k ((Option.getD z_5 default), true)
    else none
    else none
    else none
    else none
    else none
def impl_SnakeBoard_p (F : Nat) (b0 : List Int) (k1 : Int) : Option (List Int × Bool) := impl_SnakeBoard_c _ F b0 k1 some
theorem impl_SnakeBoard_cp (Q : Type) (F : Nat) (b0 : List Int) (k1 : Int) (k : (List Int × Bool) → Option Q) : impl_SnakeBoard_c Q F b0 k1 k = (impl_SnakeBoard_p F b0 k1).bind k := by
  simp only [impl_SnakeBoard_p, impl_SnakeBoard_c, cond_bindL, none_bindL, some_bindL]

/-- loop 2 of loop.example/g01194/laws.eqIntA4 -/
def laws_eqIntA4_s2 (F : Nat) (a7 : List Int) (b8 : List Int) (Q : Type) : (Int) → ((Int) → Option Q) → ((Bool) → Option Q) → Option Q
  | i6, kn, kx =>
    let z_1 : Nat := ((0 : Nat) + ((Int.toNat i6) * (1 : Nat)))
    bif (decide (i6 < (4 : Int))) then
    bif (inR i6 4) then
    bif (inR i6 4) then
    bif (!((iget a7 z_1) == (iget b8 z_1))) then
    kx true
    else kn (IntKind.wrap .i64 (i6 + (1 : Int)))
    else none
    else none
    else kx false
def laws_eqIntA4_l2 (F : Nat) (a7 : List Int) (b8 : List Int) (i6 : Int) : Option (Bool) := loopC (laws_eqIntA4_s2 F a7 b8) F i6 some
theorem laws_eqIntA4_s2_nat (F : Nat) (a7 : List Int) (b8 : List Int) : Natural (laws_eqIntA4_s2 F a7 b8) := by
  intro Q Q' s kn kx h
  simp only [laws_eqIntA4_s2, cond_bindL, none_bindL]
/-- loop.example/g01194/laws.eqIntA4 -/
def laws_eqIntA4_c (Q : Type) (F : Nat) (a0 : List Int) (b1 : List Int) (k : (Bool) → Option Q) : Option Q :=
    let z_1 := (laws_eqIntA4_l2 F a0 b1 (0 : Int))
    bif (Option.isSome z_1) then
    bif (Option.getD z_1 default) then
    k false
    else k true
    else none
def laws_eqIntA4_p (F : Nat) (a0 : List Int) (b1 : List Int) : Option (Bool) := laws_eqIntA4_c _ F a0 b1 some
theorem laws_eqIntA4_cp (Q : Type) (F : Nat) (a0 : List Int) (b1 : List Int) (k : (Bool) → Option Q) : laws_eqIntA4_c Q F a0 b1 k = (laws_eqIntA4_p F a0 b1).bind k := by
  simp only [laws_eqIntA4_p, laws_eqIntA4_c, cond_bindL, none_bindL, some_bindL]

/-- loop 2 of loop.example/g01194/laws.eqIntA4A4 -/
def laws_eqIntA4A4_s2 (F : Nat) (a7 : List Int) (b8 : List Int) (Q : Type) : (Int) → ((Int) → Option Q) → ((Bool) → Option Q) → Option Q
  | i6, kn, kx =>
    let z_1 : Nat := ((0 : Nat) + ((Int.toNat i6) * (4 : Nat)))
    let z_2 := (laws_eqIntA4_p F (subn 16 a7 z_1 4) (subn 16 b8 z_1 4))
    bif (decide (i6 < (4 : Int))) then
    bif (inR i6 4) then
    bif (inR i6 4) then
    bif (Option.isSome z_2) then
    bif (!(Option.getD z_2 default)) then
    kx true
    else kn (IntKind.wrap .i64 (i6 + (1 : Int)))
    else none
    else none
    else none
    else kx false
def laws_eqIntA4A4_l2 (F : Nat) (a7 : List Int) (b8 : List Int) (i6 : Int) : Option (Bool) := loopC (laws_eqIntA4A4_s2 F a7 b8) F i6 some
theorem laws_eqIntA4A4_s2_nat (F : Nat) (a7 : List Int) (b8 : List Int) : Natural (laws_eqIntA4A4_s2 F a7 b8) := by
  intro Q Q' s kn kx h
  simp only [laws_eqIntA4A4_s2, cond_bindL, none_bindL]
/-- loop.example/g01194/laws.eqIntA4A4 -/
def laws_eqIntA4A4_c (Q : Type) (F : Nat) (a0 : List Int) (b1 : List Int) (k : (Bool) → Option Q) : Option Q :=
    let z_1 := (laws_eqIntA4A4_l2 F a0 b1 (0 : Int))
    bif (Option.isSome z_1) then
    bif (Option.getD z_1 default) then
    k false
    else k true
    else none
def laws_eqIntA4A4_p (F : Nat) (a0 : List Int) (b1 : List Int) : Option (Bool) := laws_eqIntA4A4_c _ F a0 b1 some
theorem laws_eqIntA4A4_cp (Q : Type) (F : Nat) (a0 : List Int) (b1 : List Int) (k : (Bool) → Option Q) : laws_eqIntA4A4_c Q F a0 b1 k = (laws_eqIntA4A4_p F a0 b1).bind k := by
  simp only [laws_eqIntA4A4_p, laws_eqIntA4A4_c, cond_bindL, none_bindL, some_bindL]

/-- loop.example/g01194/laws.eqBoard -/
def laws_eqBoard_c (Q : Type) (F : Nat) (a0 : List Int) (b1 : List Int) (k : (Bool) → Option Q) : Option Q :=
    let z_1 := (laws_eqIntA4A4_p F a0 b1)
    bif (Option.isSome z_1) then
    bif (!(Option.getD z_1 default)) then
    k false
    else k true
    else none
def laws_eqBoard_p (F : Nat) (a0 : List Int) (b1 : List Int) : Option (Bool) := laws_eqBoard_c _ F a0 b1 some
theorem laws_eqBoard_cp (Q : Type) (F : Nat) (a0 : List Int) (b1 : List Int) (k : (Bool) → Option Q) : laws_eqBoard_c Q F a0 b1 k = (laws_eqBoard_p F a0 b1).bind k := by
  simp only [laws_eqBoard_p, laws_eqBoard_c, cond_bindL, none_bindL, some_bindL]

/-- loop.example/g01194/laws.FnExactSnakeBoard -/
def laws_FnExactSnakeBoard_c (Q : Type) (F : Nat) (aB0 : List Int) (aK1 : Int) (k : (Bool) → Option Q) : Option Q :=
    let z_1 := (spec_SnakeBoard_p F (laws_toBoard_v aB0) aK1)
    let z_2 := (impl_SnakeBoard_p F (laws_toBoard_v aB0) aK1)
    let z_3 := (Option.getD z_2 default)
    let z_4 := (Option.getD z_1 default)
    let z_5 := (laws_eqBoard_p F z_3.1 z_4.1)
    bif (Option.isSome z_1) then
    bif (Option.isSome z_2) then
    bif (Option.isSome z_5) then
    bif (!(Option.getD z_5 default)) then
    k false
    else bif (!(z_3.2 == z_4.2)) then
    k false
    else k true
    else none
    else none
    else none
def laws_FnExactSnakeBoard_p (F : Nat) (aB0 : List Int) (aK1 : Int) : Option (Bool) := laws_FnExactSnakeBoard_c _ F aB0 aK1 some
theorem laws_FnExactSnakeBoard_cp (Q : Type) (F : Nat) (aB0 : List Int) (aK1 : Int) (k : (Bool) → Option Q) : laws_FnExactSnakeBoard_c Q F aB0 aK1 k = (laws_FnExactSnakeBoard_p F aB0 aK1).bind k := by
  simp only [laws_FnExactSnakeBoard_p, laws_FnExactSnakeBoard_c, cond_bindL, none_bindL, some_bindL]
end Go.Lv.P
