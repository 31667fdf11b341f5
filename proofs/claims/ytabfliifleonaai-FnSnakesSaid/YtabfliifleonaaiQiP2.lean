/-
Pure functions and what the code of them does, by program; without conditions.
-/
import Derived.Test.YtabfliifleonaaiQiP1
namespace Go.Lv.P
open Go Go.Lv
set_option linter.unusedVariables false
set_option linter.unusedSimpArgs false
set_option maxRecDepth 100000
/-- loop.example/g01194/impl.IsBoard$1 -/
def impl_IsBoard_f1_c (Q : Type) (F : Nat) (row0 : List Int) (k : (Bool) → Option Q) : Option Q :=
    let z_1 := (impl_IsRow_p F row0)
    bif (Option.isSome z_1) then
    k (!(Option.getD z_1 default))
    else none
def impl_IsBoard_f1_p (F : Nat) (row0 : List Int) : Option (Bool) := impl_IsBoard_f1_c _ F row0 some
theorem impl_IsBoard_f1_cp (Q : Type) (F : Nat) (row0 : List Int) (k : (Bool) → Option Q) : impl_IsBoard_f1_c Q F row0 k = (impl_IsBoard_f1_p F row0).bind k := by
  simp only [impl_IsBoard_f1_p, impl_IsBoard_f1_c, cond_bindL, none_bindL, some_bindL]

/-- loop 2 of slices.IndexFunc[[][4]int,[4]int] -/
def slices_IndexFunc_4int4int_impl_IsBoard_f1_s2 (F : Nat) (s0 : List (List Int)) (t71 : Int) (Q : Type) : (Int) → ((Int) → Option Q) → ((Bool × Int) → Option Q) → Option Q
  | t82, kn, kx =>
    let z_1 := (impl_IsBoard_f1_p F (rget s0 (Int.toNat t82)))
    bif (decide (t82 < t71)) then
    bif (inR t82 (List.length s0)) then
    bif (Option.isSome z_1) then
    bif (Option.getD z_1 default) then
    kx (true, t82)
    else kn (IntKind.wrap .i64 (t82 + (1 : Int)))
    else none
    else none
    else kx (false, default)
def slices_IndexFunc_4int4int_impl_IsBoard_f1_l2 (F : Nat) (s0 : List (List Int)) (t71 : Int) (t82 : Int) : Option (Bool × Int) := loopC (slices_IndexFunc_4int4int_impl_IsBoard_f1_s2 F s0 t71) F t82 some
theorem slices_IndexFunc_4int4int_impl_IsBoard_f1_s2_nat (F : Nat) (s0 : List (List Int)) (t71 : Int) : Natural (slices_IndexFunc_4int4int_impl_IsBoard_f1_s2 F s0 t71) := by
  intro Q Q' s kn kx h
  simp only [slices_IndexFunc_4int4int_impl_IsBoard_f1_s2, cond_bindL, none_bindL]
/-- slices.IndexFunc[[][4]int,[4]int] -/
def slices_IndexFunc_4int4int_impl_IsBoard_f1_c (Q : Type) (F : Nat) (s0 : List (List Int)) (k : (Int) → Option Q) : Option Q :=
    let z_1 := (slices_IndexFunc_4int4int_impl_IsBoard_f1_l2 F s0 (((List.length s0) : Nat) : Int) (0 : Int))
    let z_2 := (Option.getD z_1 default)
    bif (Option.isSome z_1) then
    bif z_2.1 then
    k z_2.2
    else k (-1 : Int)
    else none
def slices_IndexFunc_4int4int_impl_IsBoard_f1_p (F : Nat) (s0 : List (List Int)) : Option (Int) := slices_IndexFunc_4int4int_impl_IsBoard_f1_c _ F s0 some
theorem slices_IndexFunc_4int4int_impl_IsBoard_f1_cp (Q : Type) (F : Nat) (s0 : List (List Int)) (k : (Int) → Option Q) : slices_IndexFunc_4int4int_impl_IsBoard_f1_c Q F s0 k = (slices_IndexFunc_4int4int_impl_IsBoard_f1_p F s0).bind k := by
  simp only [slices_IndexFunc_4int4int_impl_IsBoard_f1_p, slices_IndexFunc_4int4int_impl_IsBoard_f1_c, cond_bindL, none_bindL, some_bindL]

/-- slices.ContainsFunc[[][4]int,[4]int] -/
def slices_ContainsFunc_4int4int_impl_IsBoard_f1_c (Q : Type) (F : Nat) (s0 : List (List Int)) (k : (Bool) → Option Q) : Option Q :=
    let z_1 := (slices_IndexFunc_4int4int_impl_IsBoard_f1_p F s0)
    bif (Option.isSome z_1) then
    k (decide ((0 : Int) ≤ (Option.getD z_1 default)))
    else none
def slices_ContainsFunc_4int4int_impl_IsBoard_f1_p (F : Nat) (s0 : List (List Int)) : Option (Bool) := slices_ContainsFunc_4int4int_impl_IsBoard_f1_c _ F s0 some
theorem slices_ContainsFunc_4int4int_impl_IsBoard_f1_cp (Q : Type) (F : Nat) (s0 : List (List Int)) (k : (Bool) → Option Q) : slices_ContainsFunc_4int4int_impl_IsBoard_f1_c Q F s0 k = (slices_ContainsFunc_4int4int_impl_IsBoard_f1_p F s0).bind k := by
  simp only [slices_ContainsFunc_4int4int_impl_IsBoard_f1_p, slices_ContainsFunc_4int4int_impl_IsBoard_f1_c, cond_bindL, none_bindL, some_bindL]

/-- loop.example/g01194/impl.IsBoard -/
def impl_IsBoard_c (Q : Type) (F : Nat) (b0 : List Int) (k : (Bool) → Option Q) : Option Q :=
    let z_1 := (slices_ContainsFunc_4int4int_impl_IsBoard_f1_p F [(sub b0 0 4), (sub b0 4 4), (sub b0 8 4), (sub b0 12 4)])
    bif (Option.isSome z_1) then
    k (!(Option.getD z_1 default))
    else none
def impl_IsBoard_p (F : Nat) (b0 : List Int) : Option (Bool) := impl_IsBoard_c _ F b0 some
theorem impl_IsBoard_cp (Q : Type) (F : Nat) (b0 : List Int) (k : (Bool) → Option Q) : impl_IsBoard_c Q F b0 k = (impl_IsBoard_p F b0).bind k := by
  simp only [impl_IsBoard_p, impl_IsBoard_c, cond_bindL, none_bindL, some_bindL]

/-- (*loop.example/g01194/impl.Board).at -/
def impl_Board_at_c (Q : Type) (cell3 : List Int) (b4 : List Int) (k : (Nat) → Option Q) : Option Q :=
    bif (inR (iget cell3 0) 4) then
    bif (inR (iget cell3 1) 4) then
    k (((0 : Nat) + ((Int.toNat (iget cell3 0)) * (4 : Nat))) + ((Int.toNat (iget cell3 1)) * (1 : Nat)))
    else none
    else none
def impl_Board_at_p (cell3 : List Int) (b4 : List Int) : Option (Nat) := impl_Board_at_c _ cell3 b4 some
theorem impl_Board_at_cp (Q : Type) (cell3 : List Int) (b4 : List Int) (k : (Nat) → Option Q) : impl_Board_at_c Q cell3 b4 k = (impl_Board_at_p cell3 b4).bind k := by
  simp only [impl_Board_at_p, impl_Board_at_c, cond_bindL, none_bindL, some_bindL]

/-- cmp.isNaN[int] -/
def cmp_isNaN_int_c (Q : Type) (x0 : Int) (k : (Bool) → Option Q) : Option Q :=
    k (!(x0 == x0))
def cmp_isNaN_int_v (x0 : Int) : Bool :=
    (!(x0 == x0))
theorem cmp_isNaN_int_cv (Q : Type) (x0 : Int) (k : (Bool) → Option Q) : cmp_isNaN_int_c Q x0 k = k (cmp_isNaN_int_v x0) := by
  simp only [cmp_isNaN_int_c, cmp_isNaN_int_v, app_condL k]

/-- cmp.Less[int] -/
def cmp_Less_int_c (Q : Type) (x0 : Int) (y1 : Int) (k : (Bool) → Option Q) : Option Q :=
    bif (cmp_isNaN_int_v x0) then
    bif (!(cmp_isNaN_int_v y1)) then
    k true
    else k (decide (x0 < y1))
    else k (decide (x0 < y1))
def cmp_Less_int_v (x0 : Int) (y1 : Int) : Bool :=
    bif (cmp_isNaN_int_v x0) then
    bif (!(cmp_isNaN_int_v y1)) then
    true
    else (decide (x0 < y1))
    else (decide (x0 < y1))
theorem cmp_Less_int_cv (Q : Type) (x0 : Int) (y1 : Int) (k : (Bool) → Option Q) : cmp_Less_int_c Q x0 y1 k = k (cmp_Less_int_v x0 y1) := by
  simp only [cmp_Less_int_c, cmp_Less_int_v, app_condL k]

/-- loop 2 of slices.IsSorted[[]int,int] -/
def slices_IsSorted_intint_s2 (F : Nat) (x0 : List Int) (Q : Type) : (Int) → ((Int) → Option Q) → ((Bool) → Option Q) → Option Q
  | i1, kn, kx =>
    let z_1 : Int := (IntKind.wrap .i64 (i1 - (1 : Int)))
    bif (decide ((0 : Int) < i1)) then
    bif (inR i1 (List.length x0)) then
    bif (inR z_1 (List.length x0)) then
    bif (cmp_Less_int_v (iget x0 (Int.toNat i1)) (iget x0 (Int.toNat z_1))) then
    kx true
    else kn z_1
    else none
    else none
    else kx false
def slices_IsSorted_intint_l2 (F : Nat) (x0 : List Int) (i1 : Int) : Option (Bool) := loopC (slices_IsSorted_intint_s2 F x0) F i1 some
theorem slices_IsSorted_intint_s2_nat (F : Nat) (x0 : List Int) : Natural (slices_IsSorted_intint_s2 F x0) := by
  intro Q Q' s kn kx h
  simp only [slices_IsSorted_intint_s2, cond_bindL, none_bindL]
/-- slices.IsSorted[[]int,int] -/
def slices_IsSorted_intint_c (Q : Type) (F : Nat) (x0 : List Int) (k : (Bool) → Option Q) : Option Q :=
    let z_1 := (slices_IsSorted_intint_l2 F x0 (IntKind.wrap .i64 ((((List.length x0) : Nat) : Int) - (1 : Int))))
    bif (Option.isSome z_1) then
    bif (Option.getD z_1 default) then
    k false
    else k true
    else none
def slices_IsSorted_intint_p (F : Nat) (x0 : List Int) : Option (Bool) := slices_IsSorted_intint_c _ F x0 some
theorem slices_IsSorted_intint_cp (Q : Type) (F : Nat) (x0 : List Int) (k : (Bool) → Option Q) : slices_IsSorted_intint_c Q F x0 k = (slices_IsSorted_intint_p F x0).bind k := by
  simp only [slices_IsSorted_intint_p, slices_IsSorted_intint_c, cond_bindL, none_bindL, some_bindL]

/-- loop 9 of loop.example/g01194/impl.SnakesOf -/
def impl_SnakesOf_s9 (F : Nat) (out4 : Nat) (k5 : Int) (t138 : Int) (t189 : List Int) (b11 : List Int) (out12 : List Int) (Q : Type) : (Int × List Int) → ((Int × List Int) → Option Q) → ((List Int) → Option Q) → Option Q
  | (t1910, list13), kn, kx =>
    let z_1 := (impl_Board_at_p (subn 32 t189 ((Int.toNat t1910) * (2 : Nat)) 2) b11)
    let z_2 : List Int := ((subn (List.length list13) list13 0 (List.length list13)) ++ [(IntKind.wrap .i64 ((0 : Int) - (iget b11 (Option.getD z_1 default))))])
    bif (decide (t1910 < (16 : Int))) then
    bif (inR t1910 16) then
    bif (Option.isSome z_1) then
    bif (fits (List.length z_2) 8) then
    kn ((IntKind.wrap .i64 (t1910 + (1 : Int))), z_2)
    else none
    else none
    else none
    else kx list13
def impl_SnakesOf_l9 (F : Nat) (out4 : Nat) (k5 : Int) (t138 : Int) (t189 : List Int) (b11 : List Int) (out12 : List Int) (t1910 : Int) (list13 : List Int) : Option (List Int) := loopC (impl_SnakesOf_s9 F out4 k5 t138 t189 b11 out12) F (t1910, list13) some
theorem impl_SnakesOf_s9_nat (F : Nat) (out4 : Nat) (k5 : Int) (t138 : Int) (t189 : List Int) (b11 : List Int) (out12 : List Int) : Natural (impl_SnakesOf_s9 F out4 k5 t138 t189 b11 out12) := by
  intro Q Q' s kn kx h
  obtain ⟨t1910, list13⟩ := s
  simp only [impl_SnakesOf_s9, cond_bindL, none_bindL]
/-- loop 5 of loop.example/g01194/impl.SnakesOf -/
def impl_SnakesOf_s5 (F : Nat) (b6 : List Int) (Q : Type) : (Nat × Int × List Int) → ((Nat × Int × List Int) → Option Q) → ((Nat × List Int) → Option Q) → Option Q
  | (out4, t135, out7), kn, kx =>
    let z_1 := (impl_snake_p F t135)
    let z_2 := (impl_SnakesOf_l9 F out4 t135 t135 (Option.getD z_1 default) b6 out7 (0 : Int) ([] : List Int))
    let z_3 : Nat := (List.length (Option.getD z_2 default))
    let z_4 := (slices_IsSorted_intint_p F (subn z_3 (Option.getD z_2 default) 0 z_3))
    let z_5 : List Int := ((subn (List.length out7) out7 0 out4) ++ [t135])
    let z_6 : Nat := (List.length z_5)
    let z_7 : Int := (IntKind.wrap .i64 (t135 + (1 : Int)))
    bif (decide (t135 < (8 : Int))) then
    bif (Option.isSome z_1) then
    bif (Option.isSome z_2) then
    bif (Option.isSome z_4) then
    bif (Option.getD z_4 default) then
    bif (fits z_6 8) then
    kn (z_6, z_7, z_5)
    else none
    else kn (out4, z_7, out7)
    else none
    else none
    else none
    else kx (out4, out7)
def impl_SnakesOf_l5 (F : Nat) (b6 : List Int) (out4 : Nat) (t135 : Int) (out7 : List Int) : Option (Nat × List Int) := loopC (impl_SnakesOf_s5 F b6) F (out4, t135, out7) some
theorem impl_SnakesOf_s5_nat (F : Nat) (b6 : List Int) : Natural (impl_SnakesOf_s5 F b6) := by
  intro Q Q' s kn kx h
  obtain ⟨out4, t135, out7⟩ := s
  simp only [impl_SnakesOf_s5, cond_bindL, none_bindL]
/-- loop.example/g01194/impl.SnakesOf -/
def impl_SnakesOf_c (Q : Type) (F : Nat) (b0 : List Int) (k : (Nat × Bool × List Int) → Option Q) : Option Q :=
    let z_1 := (impl_IsBoard_p F b0)
    let z_2 := (impl_SnakesOf_l5 F b0 (0 : Nat) (0 : Int) ([] : List Int))
    let z_3 := (Option.getD z_2 default)
    bif (Option.isSome z_1) then
    bif (!(Option.getD z_1 default)) then
    k ((0 : Nat), false, ([] : List Int))
    else bif (Option.isSome z_2) then
    k (z_3.1, true, z_3.2)
    else none
    else none
def impl_SnakesOf_p (F : Nat) (b0 : List Int) : Option (Nat × Bool × List Int) := impl_SnakesOf_c _ F b0 some
theorem impl_SnakesOf_cp (Q : Type) (F : Nat) (b0 : List Int) (k : (Nat × Bool × List Int) → Option Q) : impl_SnakesOf_c Q F b0 k = (impl_SnakesOf_p F b0).bind k := by
  simp only [impl_SnakesOf_p, impl_SnakesOf_c, cond_bindL, none_bindL, some_bindL]

/-- loop.example/g01194/spec.l2At -/
def spec_l2At_c (Q : Type) (b0 : List Int) (cell1 : List Int) (k : (Int) → Option Q) : Option Q :=
    bif (inR (iget cell1 0) 4) then
    bif (inR (iget cell1 1) 4) then
    k (iget b0 (((0 : Nat) + ((Int.toNat (iget cell1 0)) * (4 : Nat))) + ((Int.toNat (iget cell1 1)) * (1 : Nat))))
    else none
    else none
def spec_l2At_p (b0 : List Int) (cell1 : List Int) : Option (Int) := spec_l2At_c _ b0 cell1 some
theorem spec_l2At_cp (Q : Type) (b0 : List Int) (cell1 : List Int) (k : (Int) → Option Q) : spec_l2At_c Q b0 cell1 k = (spec_l2At_p b0 cell1).bind k := by
  simp only [spec_l2At_p, spec_l2At_c, cond_bindL, none_bindL, some_bindL]

/-- loop 3 of loop.example/g01194/spec.l7Ordered -/
def spec_l7Ordered_s3 (F : Nat) (b7 : List Int) (path8 : List Int) (Q : Type) : (Int) → ((Int) → Option Q) → ((Bool) → Option Q) → Option Q
  | i6, kn, kx =>
    let z_1 := (spec_l2At_p b7 (subn 32 path8 ((0 : Nat) + ((Int.toNat i6) * (2 : Nat))) 2))
    let z_2 : Int := (IntKind.wrap .i64 (i6 - (1 : Int)))
    let z_3 := (spec_l2At_p b7 (subn 32 path8 ((0 : Nat) + ((Int.toNat z_2) * (2 : Nat))) 2))
    bif (decide (i6 < (16 : Int))) then
    bif (inR i6 16) then
    bif (Option.isSome z_1) then
    bif (inR z_2 16) then
    bif (Option.isSome z_3) then
    bif (decide ((Option.getD z_3 default) < (Option.getD z_1 default))) then
    kx true
    else kn (IntKind.wrap .i64 (i6 + (1 : Int)))
    else none
    else none
    else none
    else none
    else kx false
def spec_l7Ordered_l3 (F : Nat) (b7 : List Int) (path8 : List Int) (i6 : Int) : Option (Bool) := loopC (spec_l7Ordered_s3 F b7 path8) F i6 some
theorem spec_l7Ordered_s3_nat (F : Nat) (b7 : List Int) (path8 : List Int) : Natural (spec_l7Ordered_s3 F b7 path8) := by
  intro Q Q' s kn kx h
  simp only [spec_l7Ordered_s3, cond_bindL, none_bindL]
/-- loop.example/g01194/spec.l7Ordered -/
def spec_l7Ordered_c (Q : Type) (F : Nat) (b0 : List Int) (k1 : Int) (k : (Bool) → Option Q) : Option Q :=
    let z_1 := (spec_l7Snake_p F k1)
    let z_2 := (spec_l7Ordered_l3 F b0 (Option.getD z_1 default) (1 : Int))
    bif (Option.isSome z_1) then
    bif (Option.isSome z_2) then
    bif (Option.getD z_2 default) then
    k false
    else k true
    else none
    else none
def spec_l7Ordered_p (F : Nat) (b0 : List Int) (k1 : Int) : Option (Bool) := spec_l7Ordered_c _ F b0 k1 some
theorem spec_l7Ordered_cp (Q : Type) (F : Nat) (b0 : List Int) (k1 : Int) (k : (Bool) → Option Q) : spec_l7Ordered_c Q F b0 k1 k = (spec_l7Ordered_p F b0 k1).bind k := by
  simp only [spec_l7Ordered_p, spec_l7Ordered_c, cond_bindL, none_bindL, some_bindL]

/-- loop 5 of loop.example/g01194/spec.SnakesOf -/
def spec_SnakesOf_s5 (F : Nat) (b6 : List Int) (Q : Type) : (Int × List Int) → ((Int × List Int) → Option Q) → ((List Int) → Option Q) → Option Q
  | (k5, out7), kn, kx =>
    let z_1 := (spec_l7Ordered_p F b6 k5)
    let z_2 : List Int := ((subn (List.length out7) out7 0 (List.length out7)) ++ [k5])
    let z_3 : Int := (IntKind.wrap .i64 (k5 + (1 : Int)))
    bif (decide (k5 < (8 : Int))) then
    bif (Option.isSome z_1) then
    bif (Option.getD z_1 default) then
    bif (fits (List.length z_2) 8) then
    kn (z_3, z_2)
    else none
    else kn (z_3, out7)
    else none
    else kx out7
def spec_SnakesOf_l5 (F : Nat) (b6 : List Int) (k5 : Int) (out7 : List Int) : Option (List Int) := loopC (spec_SnakesOf_s5 F b6) F (k5, out7) some
theorem spec_SnakesOf_s5_nat (F : Nat) (b6 : List Int) : Natural (spec_SnakesOf_s5 F b6) := by
  intro Q Q' s kn kx h
  obtain ⟨k5, out7⟩ := s
  simp only [spec_SnakesOf_s5, cond_bindL, none_bindL]
/-- loop.example/g01194/spec.SnakesOf -/
def spec_SnakesOf_c (Q : Type) (F : Nat) (b0 : List Int) (k : (Bool × List Int) → Option Q) : Option Q :=
    let z_1 := (spec_l2Board_p F b0)
    let z_2 := (spec_SnakesOf_l5 F b0 (0 : Int) ([] : List Int))
    bif (Option.isSome z_1) then
    bif (!(Option.getD z_1 default)) then
    k (false, ([] : List Int))
    else bif (Option.isSome z_2) then
    k (true, (Option.getD z_2 default))
    else none
    else none
def spec_SnakesOf_p (F : Nat) (b0 : List Int) : Option (Bool × List Int) := spec_SnakesOf_c _ F b0 some
theorem spec_SnakesOf_cp (Q : Type) (F : Nat) (b0 : List Int) (k : (Bool × List Int) → Option Q) : spec_SnakesOf_c Q F b0 k = (spec_SnakesOf_p F b0).bind k := by
  simp only [spec_SnakesOf_p, spec_SnakesOf_c, cond_bindL, none_bindL, some_bindL]

/-- loop.example/g01194/spec.DrawSnakeBoard -/
def spec_DrawSnakeBoard_c (Q : Type) (F : Nat) (code0 : List Int) (k : (List Int × Int) → Option Q) : Option Q :=
    let z_1 := (spec_l1Cur_board_p F code0 (0 : Int) (0 : Int))
    let z_2 := (Option.getD z_1 default)
    let z_3 := (spec_l1Cur_form3_p code0 z_2.2.1 z_2.2.2)
    bif (Option.isSome z_1) then
    bif (Option.isSome z_3) then
    k (z_2.1, (Option.getD z_3 default).1)
    else none
    else none
def spec_DrawSnakeBoard_p (F : Nat) (code0 : List Int) : Option (List Int × Int) := spec_DrawSnakeBoard_c _ F code0 some
theorem spec_DrawSnakeBoard_cp (Q : Type) (F : Nat) (code0 : List Int) (k : (List Int × Int) → Option Q) : spec_DrawSnakeBoard_c Q F code0 k = (spec_DrawSnakeBoard_p F code0).bind k := by
  simp only [spec_DrawSnakeBoard_p, spec_DrawSnakeBoard_c, cond_bindL, none_bindL, some_bindL]

/-- slices.Grow[[]int,int] -/
def slices_Grow_intint_c (Q : Type) (n0 : Int) (k : (List Int) → Option Q) : Option Q :=
    let z_1 : Int := (IntKind.wrap .i64 (n0 - (0 : Int)))
    let z_2 : Nat := (Int.toNat z_1)
    bif (decide (n0 < (0 : Int))) then
    none
    else bif (decide ((0 : Int) < z_1)) then
    bif ((decide ((1 : Int) ≤ z_1)) && (fits z_2 8)) then
    bif (inLe (0 : Int) z_2) then
    k (List.replicate z_2 (0 : Int))
    else none
    else none
    else k ([] : List Int)
def slices_Grow_intint_p (n0 : Int) : Option (List Int) := slices_Grow_intint_c _ n0 some
theorem slices_Grow_intint_cp (Q : Type) (n0 : Int) (k : (List Int) → Option Q) : slices_Grow_intint_c Q n0 k = (slices_Grow_intint_p n0).bind k := by
  simp only [slices_Grow_intint_p, slices_Grow_intint_c, cond_bindL, none_bindL, some_bindL]

/-- slices.Concat[[]int,int] -/
def slices_Concat_intint_c (Q : Type) (slices0 : List Int) (slices1 : List Int) (slices2 : List Int) (slices3 : List Int) (k : (List Int) → Option Q) : Option Q :=
    let z_1 : Int := (IntKind.wrap .i64 ((0 : Int) + (((List.length slices0) : Nat) : Int)))
    let z_2 : Int := (IntKind.wrap .i64 (z_1 + (((List.length slices1) : Nat) : Int)))
    let z_3 : Int := (IntKind.wrap .i64 (z_2 + (((List.length slices2) : Nat) : Int)))
    let z_4 : Int := (IntKind.wrap .i64 (z_3 + (((List.length slices3) : Nat) : Int)))
    let z_5 : List Int := ((subn (List.length (Option.getD (slices_Grow_intint_p z_4) default)) (Option.getD (slices_Grow_intint_p z_4) default) 0 0) ++ slices0)
    let z_6 : Nat := (List.length z_5)
    let z_7 : List Int := ((subn z_6 z_5 0 z_6) ++ slices1)
    let z_8 : Nat := (List.length z_7)
    let z_9 : List Int := ((subn z_8 z_7 0 z_8) ++ slices2)
    let z_10 : Nat := (List.length z_9)
    let z_11 : List Int := ((subn z_10 z_9 0 z_10) ++ slices3)
    bif (decide (z_1 < (0 : Int))) then
    none
    else bif (decide (z_2 < (0 : Int))) then
    none
    else bif (decide (z_3 < (0 : Int))) then
    none
    else bif (decide (z_4 < (0 : Int))) then
    none
    else bif (Option.isSome (slices_Grow_intint_p z_4)) then
    bif (fits z_6 8) then
    bif (fits z_8 8) then
    bif (fits z_10 8) then
    bif (fits (List.length z_11) 8) then
    k z_11
    else none
    else none
    else none
    else none
    else none
def slices_Concat_intint_p (slices0 : List Int) (slices1 : List Int) (slices2 : List Int) (slices3 : List Int) : Option (List Int) := slices_Concat_intint_c _ slices0 slices1 slices2 slices3 some
theorem slices_Concat_intint_cp (Q : Type) (slices0 : List Int) (slices1 : List Int) (slices2 : List Int) (slices3 : List Int) (k : (List Int) → Option Q) : slices_Concat_intint_c Q slices0 slices1 slices2 slices3 k = (slices_Concat_intint_p slices0 slices1 slices2 slices3).bind k := by
  simp only [slices_Concat_intint_p, slices_Concat_intint_c, cond_bindL, none_bindL, some_bindL]

/-- (loop.example/g01194/impl.Board).flat -/
def impl_Board_flat_c (Q : Type) (b0 : List Int) (k : (List Int) → Option Q) : Option Q :=
    let z_1 := (slices_Concat_intint_p (sub b0 0 4) (sub b0 4 4) (sub b0 8 4) (sub b0 12 4))
    bif (Option.isSome z_1) then
    k (Option.getD z_1 default)
    else none
def impl_Board_flat_p (b0 : List Int) : Option (List Int) := impl_Board_flat_c _ b0 some
theorem impl_Board_flat_cp (Q : Type) (b0 : List Int) (k : (List Int) → Option Q) : impl_Board_flat_c Q b0 k = (impl_Board_flat_p b0).bind k := by
  simp only [impl_Board_flat_p, impl_Board_flat_c, cond_bindL, none_bindL, some_bindL]


/-- loop 7 of loop.example/g01194/impl.SnakeBoard -/
def impl_SnakeBoard_s7 (F : Nat) (list4 : Nat) (t258 : List Int) (list11 : List Int) (Q : Type) : (Int × List Int) → ((Int × List Int) → Option Q) → ((List Int) → Option Q) → Option Q
  | (t269, out12), kn, kx =>
    let z_1 := (impl_Board_at_p (subn 32 t258 ((Int.toNat t269) * (2 : Nat)) 2) out12)
    let z_2 : Int := (IntKind.wrap .i64 ((15 : Int) - t269))
    bif (decide (t269 < (16 : Int))) then
    bif (inR t269 16) then
    bif (Option.isSome z_1) then
    bif (inR z_2 list4) then
    kn ((IntKind.wrap .i64 (t269 + (1 : Int))), (iset out12 (Option.getD z_1 default) (iget list11 ((0 : Nat) + (Int.toNat z_2)))))
    else none
    else none
    else none
    else kx out12
def impl_SnakeBoard_l7 (F : Nat) (list4 : Nat) (t258 : List Int) (list11 : List Int) (t269 : Int) (out12 : List Int) : Option (List Int) := loopC (impl_SnakeBoard_s7 F list4 t258 list11) F (t269, out12) some
theorem impl_SnakeBoard_s7_nat (F : Nat) (list4 : Nat) (t258 : List Int) (list11 : List Int) : Natural (impl_SnakeBoard_s7 F list4 t258 list11) := by
  intro Q Q' s kn kx h
  obtain ⟨t269, out12⟩ := s
  simp only [impl_SnakeBoard_s7, cond_bindL, none_bindL]
/-- loop.example/g01194/impl.SnakeBoard -/
def impl_SnakeBoard_c (Q : Type) (F : Nat) (b0 : List Int) (k1 : Int) (k : (List Int × Bool) → Option Q) : Option Q :=
    let z_1 := (impl_IsBoard_p F b0)
    let z_2 : List Int := [(0 : Int), (0 : Int), (0 : Int), (0 : Int), (0 : Int), (0 : Int), (0 : Int), (0 : Int), (0 : Int), (0 : Int), (0 : Int), (0 : Int), (0 : Int), (0 : Int), (0 : Int), (0 : Int)]
    let z_3 : Nat := (List.length (Option.getD (impl_Board_flat_p b0) default))
    let z_4 := (impl_snake_p F k1)
    let z_5 := (impl_SnakeBoard_l7 F z_3 (Option.getD z_4 default) (sortI (Option.getD (impl_Board_flat_p b0) default)) (0 : Int) z_2)
    bif (Option.isSome z_1) then
    bif (!(Option.getD z_1 default)) then
    k (z_2, false)
    else bif (!(impl_isForm_v k1)) then
    k (z_2, false)
    else bif (Option.isSome (impl_Board_flat_p b0)) then
    bif ((Nat.beq z_3 z_3) && (Nat.ble z_3 1000000000)) then
    bif (Option.isSome z_4) then
    bif (Option.isSome z_5) then
    k ((Option.getD z_5 default), true)
    else none
    else none
    else none
    else none
    else none
def impl_SnakeBoard_p (F : Nat) (b0 : List Int) (k1 : Int) : Option (List Int × Bool) := impl_SnakeBoard_c _ F b0 k1 some
theorem impl_SnakeBoard_cp (Q : Type) (F : Nat) (b0 : List Int) (k1 : Int) (k : (List Int × Bool) → Option Q) : impl_SnakeBoard_c Q F b0 k1 k = (impl_SnakeBoard_p F b0 k1).bind k := by
  simp only [impl_SnakeBoard_p, impl_SnakeBoard_c, cond_bindL, none_bindL, some_bindL]

/-- loop 4 of loop.example/g01194/laws.vInts -/
def laws_vInts_s4 (F : Nat) (a0 : List Int) (b1 : List Int) (Q : Type) : (Int) → ((Int) → Option Q) → ((Bool) → Option Q) → Option Q
  | i2, kn, kx =>
    bif (decide (i2 < (((List.length a0) : Nat) : Int))) then
    bif (inR i2 (List.length a0)) then
    bif (inR i2 (List.length b1)) then
    bif (!((iget a0 (Int.toNat i2)) == (iget b1 (Int.toNat i2)))) then
    kx true
    else kn (IntKind.wrap .i64 (i2 + (1 : Int)))
    else none
    else none
    else kx false
def laws_vInts_l4 (F : Nat) (a0 : List Int) (b1 : List Int) (i2 : Int) : Option (Bool) := loopC (laws_vInts_s4 F a0 b1) F i2 some
theorem laws_vInts_s4_nat (F : Nat) (a0 : List Int) (b1 : List Int) : Natural (laws_vInts_s4 F a0 b1) := by
  intro Q Q' s kn kx h
  simp only [laws_vInts_s4, cond_bindL, none_bindL]
/-- loop.example/g01194/laws.vInts -/
def laws_vInts_c (Q : Type) (F : Nat) (a0 : List Int) (b1 : List Int) (k : (Bool) → Option Q) : Option Q :=
    let z_1 := (laws_vInts_l4 F a0 b1 (0 : Int))
    bif (!((((List.length a0) : Nat) : Int) == (((List.length b1) : Nat) : Int))) then
    k false
    else bif (Option.isSome z_1) then
    bif (Option.getD z_1 default) then
    k false
    else k true
    else none
def laws_vInts_p (F : Nat) (a0 : List Int) (b1 : List Int) : Option (Bool) := laws_vInts_c _ F a0 b1 some
theorem laws_vInts_cp (Q : Type) (F : Nat) (a0 : List Int) (b1 : List Int) (k : (Bool) → Option Q) : laws_vInts_c Q F a0 b1 k = (laws_vInts_p F a0 b1).bind k := by
  simp only [laws_vInts_p, laws_vInts_c, cond_bindL, none_bindL, some_bindL]
end Go.Lv.P
