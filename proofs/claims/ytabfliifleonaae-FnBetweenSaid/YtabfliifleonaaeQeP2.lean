/-
Pure functions and what the code of them does, by program; without conditions.
-/
import Derived.Test.YtabfliifleonaaeQeP1
namespace Go.Lv.P
open Go Go.Lv
set_option linter.unusedVariables false
set_option linter.unusedSimpArgs false
set_option maxRecDepth 100000
/-- loop 2 of slices.IndexFunc[[][4]int,[4]int] -/
def slices_IndexFunc_4int4int_impl_IsBoard_f1_s2 (F : Nat) (s0 : List (List Int)) (t71 : Int) (Q : Type) : (Int) → ((Int) → Option Q) → ((Bool × Int) → Option Q) → Option Q
  | t82, kn, kx =>
    let z_1 := (impl_IsBoard_f1_p F (rget s0 (Int.toNat t82)))
    bif (decide (t82 < t71)) then
    bif (inR t82 (List.length s0)) then
    bif (Option.isSome z_1) then
    bif (Option.getD z_1 default) then
    kx (true, t82)
    else kn (IntKind.wrap .i64 (t82 + (1 : Int)))
    else none
    else none
    else kx (false, default)
def slices_IndexFunc_4int4int_impl_IsBoard_f1_l2 (F : Nat) (s0 : List (List Int)) (t71 : Int) (t82 : Int) : Option (Bool × Int) := loopC (slices_IndexFunc_4int4int_impl_IsBoard_f1_s2 F s0 t71) F t82 some
theorem slices_IndexFunc_4int4int_impl_IsBoard_f1_s2_nat (F : Nat) (s0 : List (List Int)) (t71 : Int) : Natural (slices_IndexFunc_4int4int_impl_IsBoard_f1_s2 F s0 t71) := by
  intro Q Q' s kn kx h
  simp only [slices_IndexFunc_4int4int_impl_IsBoard_f1_s2, cond_bindL, none_bindL]
/-- slices.IndexFunc[[][4]int,[4]int] -/
def slices_IndexFunc_4int4int_impl_IsBoard_f1_c (Q : Type) (F : Nat) (s0 : List (List Int)) (k : (Int) → Option Q) : Option Q :=
    let z_1 := (slices_IndexFunc_4int4int_impl_IsBoard_f1_l2 F s0 (((List.length s0) : Nat) : Int) (0 : Int))
    let z_2 := (Option.getD z_1 default)
    bif (Option.isSome z_1) then
    bif z_2.1 then
    k z_2.2
    else k (-1 : Int)
    else none
def slices_IndexFunc_4int4int_impl_IsBoard_f1_p (F : Nat) (s0 : List (List Int)) : Option (Int) := slices_IndexFunc_4int4int_impl_IsBoard_f1_c _ F s0 some
theorem slices_IndexFunc_4int4int_impl_IsBoard_f1_cp (Q : Type) (F : Nat) (s0 : List (List Int)) (k : (Int) → Option Q) : slices_IndexFunc_4int4int_impl_IsBoard_f1_c Q F s0 k = (slices_IndexFunc_4int4int_impl_IsBoard_f1_p F s0).bind k := by
  simp only [slices_IndexFunc_4int4int_impl_IsBoard_f1_p, slices_IndexFunc_4int4int_impl_IsBoard_f1_c, cond_bindL, none_bindL, some_bindL]

/-- slices.ContainsFunc[[][4]int,[4]int] -/
def slices_ContainsFunc_4int4int_impl_IsBoard_f1_c (Q : Type) (F : Nat) (s0 : List (List Int)) (k : (Bool) → Option Q) : Option Q :=
    let z_1 := (slices_IndexFunc_4int4int_impl_IsBoard_f1_p F s0)
    bif (Option.isSome z_1) then
    k (decide ((0 : Int) ≤ (Option.getD z_1 default)))
    else none
def slices_ContainsFunc_4int4int_impl_IsBoard_f1_p (F : Nat) (s0 : List (List Int)) : Option (Bool) := slices_ContainsFunc_4int4int_impl_IsBoard_f1_c _ F s0 some
theorem slices_ContainsFunc_4int4int_impl_IsBoard_f1_cp (Q : Type) (F : Nat) (s0 : List (List Int)) (k : (Bool) → Option Q) : slices_ContainsFunc_4int4int_impl_IsBoard_f1_c Q F s0 k = (slices_ContainsFunc_4int4int_impl_IsBoard_f1_p F s0).bind k := by
  simp only [slices_ContainsFunc_4int4int_impl_IsBoard_f1_p, slices_ContainsFunc_4int4int_impl_IsBoard_f1_c, cond_bindL, none_bindL, some_bindL]

/-- loop.example/g01194/impl.IsBoard -/
def impl_IsBoard_c (Q : Type) (F : Nat) (b0 : List Int) (k : (Bool) → Option Q) : Option Q :=
    let z_1 := (slices_ContainsFunc_4int4int_impl_IsBoard_f1_p F [(sub b0 0 4), (sub b0 4 4), (sub b0 8 4), (sub b0 12 4)])
    bif (Option.isSome z_1) then
    k (!(Option.getD z_1 default))
    else none
def impl_IsBoard_p (F : Nat) (b0 : List Int) : Option (Bool) := impl_IsBoard_c _ F b0 some
theorem impl_IsBoard_cp (Q : Type) (F : Nat) (b0 : List Int) (k : (Bool) → Option Q) : impl_IsBoard_c Q F b0 k = (impl_IsBoard_p F b0).bind k := by
  simp only [impl_IsBoard_p, impl_IsBoard_c, cond_bindL, none_bindL, some_bindL]

/-- loop.example/g01194/impl.cells -/
def impl_cells_c (Q : Type) (k : (Unit) → Option Q) : Option Q :=
    k ()
def impl_cells_v : Unit :=
    ()
theorem impl_cells_cv (Q : Type) (k : (Unit) → Option Q) : impl_cells_c Q k = k (impl_cells_v) := by
  simp only [impl_cells_c, impl_cells_v, app_condL k]

/-- (*loop.example/g01194/impl.Board).at -/
def impl_Board_at_c (Q : Type) (cell3 : List Int) (b4 : List Int) (k : (Nat) → Option Q) : Option Q :=
    bif (inR (iget cell3 0) 4) then
    bif (inR (iget cell3 1) 4) then
    k (((0 : Nat) + ((Int.toNat (iget cell3 0)) * (4 : Nat))) + ((Int.toNat (iget cell3 1)) * (1 : Nat)))
    else none
    else none
def impl_Board_at_p (cell3 : List Int) (b4 : List Int) : Option (Nat) := impl_Board_at_c _ cell3 b4 some
theorem impl_Board_at_cp (Q : Type) (cell3 : List Int) (b4 : List Int) (k : (Nat) → Option Q) : impl_Board_at_c Q cell3 b4 k = (impl_Board_at_p cell3 b4).bind k := by
  simp only [impl_Board_at_p, impl_Board_at_c, cond_bindL, none_bindL, some_bindL]

/-- loop.example/g01194/impl.worth -/
def impl_worth_c (Q : Type) (t0 : Int) (k : (Int) → Option Q) : Option Q :=
    bif (t0 == (0 : Int)) then
    k (0 : Int)
    else bif (decide (t0 < (0 : Int))) then
    none
    else k (IntKind.wrap .i64 ((1 : Int) * (2 ^ (min (Int.toNat t0) (IntKind.bits .i64)) : Int)))
def impl_worth_p (t0 : Int) : Option (Int) := impl_worth_c _ t0 some
theorem impl_worth_cp (Q : Type) (t0 : Int) (k : (Int) → Option Q) : impl_worth_c Q t0 k = (impl_worth_p t0).bind k := by
  simp only [impl_worth_p, impl_worth_c, cond_bindL, none_bindL, some_bindL]

/-- (loop.example/g01194/impl.Board).sum -/
def impl_Board_sum_c (Q : Type) (b0 : List Int) (k : (Int) → Option Q) : Option Q :=
    let z_1 := (impl_Board_at_p [(0 : Int), (0 : Int)] b0)
    let z_2 := (impl_Board_at_p [(0 : Int), (1 : Int)] b0)
    let z_3 := (impl_Board_at_p [(0 : Int), (2 : Int)] b0)
    let z_4 := (impl_Board_at_p [(0 : Int), (3 : Int)] b0)
    let z_5 := (impl_Board_at_p [(1 : Int), (0 : Int)] b0)
    let z_6 := (impl_Board_at_p [(1 : Int), (1 : Int)] b0)
    let z_7 := (impl_Board_at_p [(1 : Int), (2 : Int)] b0)
    let z_8 := (impl_Board_at_p [(1 : Int), (3 : Int)] b0)
    let z_9 := (impl_Board_at_p [(2 : Int), (0 : Int)] b0)
    let z_10 := (impl_Board_at_p [(2 : Int), (1 : Int)] b0)
    let z_11 := (impl_Board_at_p [(2 : Int), (2 : Int)] b0)
    let z_12 := (impl_Board_at_p [(2 : Int), (3 : Int)] b0)
    let z_13 := (impl_Board_at_p [(3 : Int), (0 : Int)] b0)
    let z_14 := (impl_Board_at_p [(3 : Int), (1 : Int)] b0)
    let z_15 := (impl_Board_at_p [(3 : Int), (2 : Int)] b0)
    let z_16 := (impl_Board_at_p [(3 : Int), (3 : Int)] b0)
    bif (Option.isSome z_1) then
    bif (Option.isSome (impl_worth_p (iget b0 (Option.getD z_1 default)))) then
    bif (Option.isSome z_2) then
    bif (Option.isSome (impl_worth_p (iget b0 (Option.getD z_2 default)))) then
    bif (Option.isSome z_3) then
    bif (Option.isSome (impl_worth_p (iget b0 (Option.getD z_3 default)))) then
    bif (Option.isSome z_4) then
    bif (Option.isSome (impl_worth_p (iget b0 (Option.getD z_4 default)))) then
    bif (Option.isSome z_5) then
    bif (Option.isSome (impl_worth_p (iget b0 (Option.getD z_5 default)))) then
    bif (Option.isSome z_6) then
    bif (Option.isSome (impl_worth_p (iget b0 (Option.getD z_6 default)))) then
    bif (Option.isSome z_7) then
    bif (Option.isSome (impl_worth_p (iget b0 (Option.getD z_7 default)))) then
    bif (Option.isSome z_8) then
    bif (Option.isSome (impl_worth_p (iget b0 (Option.getD z_8 default)))) then
    bif (Option.isSome z_9) then
    bif (Option.isSome (impl_worth_p (iget b0 (Option.getD z_9 default)))) then
    bif (Option.isSome z_10) then
    bif (Option.isSome (impl_worth_p (iget b0 (Option.getD z_10 default)))) then
    bif (Option.isSome z_11) then
    bif (Option.isSome (impl_worth_p (iget b0 (Option.getD z_11 default)))) then
    bif (Option.isSome z_12) then
    bif (Option.isSome (impl_worth_p (iget b0 (Option.getD z_12 default)))) then
    bif (Option.isSome z_13) then
    bif (Option.isSome (impl_worth_p (iget b0 (Option.getD z_13 default)))) then
    bif (Option.isSome z_14) then
    bif (Option.isSome (impl_worth_p (iget b0 (Option.getD z_14 default)))) then
    bif (Option.isSome z_15) then
    bif (Option.isSome (impl_worth_p (iget b0 (Option.getD z_15 default)))) then
    bif (Option.isSome z_16) then
    bif (Option.isSome (impl_worth_p (iget b0 (Option.getD z_16 default)))) then
    k (IntKind.wrap .i64 ((IntKind.wrap .i64 ((IntKind.wrap .i64 ((IntKind.wrap .i64 ((IntKind.wrap .i64 ((IntKind.wrap .i64 ((IntKind.wrap .i64 ((IntKind.wrap .i64 ((IntKind.wrap .i64 ((IntKind.wrap .i64 ((IntKind.wrap .i64 ((IntKind.wrap .i64 ((IntKind.wrap .i64 ((IntKind.wrap .i64 ((IntKind.wrap .i64 ((IntKind.wrap .i64 ((0 : Int) + (Option.getD (impl_worth_p (iget b0 (Option.getD z_1 default))) default))) + (Option.getD (impl_worth_p (iget b0 (Option.getD z_2 default))) default))) + (Option.getD (impl_worth_p (iget b0 (Option.getD z_3 default))) default))) + (Option.getD (impl_worth_p (iget b0 (Option.getD z_4 default))) default))) + (Option.getD (impl_worth_p (iget b0 (Option.getD z_5 default))) default))) + (Option.getD (impl_worth_p (iget b0 (Option.getD z_6 default))) default))) + (Option.getD (impl_worth_p (iget b0 (Option.getD z_7 default))) default))) + (Option.getD (impl_worth_p (iget b0 (Option.getD z_8 default))) default))) + (Option.getD (impl_worth_p (iget b0 (Option.getD z_9 default))) default))) + (Option.getD (impl_worth_p (iget b0 (Option.getD z_10 default))) default))) + (Option.getD (impl_worth_p (iget b0 (Option.getD z_11 default))) default))) + (Option.getD (impl_worth_p (iget b0 (Option.getD z_12 default))) default))) + (Option.getD (impl_worth_p (iget b0 (Option.getD z_13 default))) default))) + (Option.getD (impl_worth_p (iget b0 (Option.getD z_14 default))) default))) + (Option.getD (impl_worth_p (iget b0 (Option.getD z_15 default))) default))) + (Option.getD (impl_worth_p (iget b0 (Option.getD z_16 default))) default)))
    else none
    else none
    else none
    else none
    else none
    else none
    else none
    else none
    else none
    else none
    else none
    else none
    else none
    else none
    else none
    else none
    else none
    else none
    else none
    else none
    else none
    else none
    else none
    else none
    else none
    else none
    else none
    else none
    else none
    else none
    else none
    else none
def impl_Board_sum_p (b0 : List Int) : Option (Int) := impl_Board_sum_c _ b0 some
theorem impl_Board_sum_cp (Q : Type) (b0 : List Int) (k : (Int) → Option Q) : impl_Board_sum_c Q b0 k = (impl_Board_sum_p b0).bind k := by
  simp only [impl_Board_sum_p, impl_Board_sum_c, cond_bindL, none_bindL, some_bindL]

/-- loop.example/g01194/impl.MovesBetween -/
def impl_MovesBetween_c (Q : Type) (F : Nat) (a0 : List Int) (b1 : List Int) (k : (Int × Int × Bool) → Option Q) : Option Q :=
    let z_1 := (impl_IsBoard_p F a0)
    let z_2 := (impl_IsBoard_p F b1)
    let z_3 : Int := (IntKind.wrap .i64 ((Option.getD (impl_Board_sum_p b1) default) - (Option.getD (impl_Board_sum_p a0) default)))
    bif (Option.isSome z_1) then
    bif (!(Option.getD z_1 default)) then
    k ((0 : Int), (0 : Int), false)
    else bif (Option.isSome z_2) then
    bif (!(Option.getD z_2 default)) then
    k ((0 : Int), (0 : Int), false)
    else bif (Option.isSome (impl_Board_sum_p b1)) then
    bif (Option.isSome (impl_Board_sum_p a0)) then
    bif (decide ((Option.getD (impl_Board_sum_p b1) default) < (Option.getD (impl_Board_sum_p a0) default))) then
    k ((0 : Int), (0 : Int), false)
    else bif (Option.isSome (impl_Board_sum_p b1)) then
    bif (Option.isSome (impl_Board_sum_p a0)) then
    k ((IntKind.wrap .i64 (Int.tdiv (IntKind.wrap .i64 (z_3 + (3 : Int))) (4 : Int))), (IntKind.wrap .i64 (Int.tdiv z_3 (2 : Int))), true)
    else none
    else none
    else none
    else none
    else none
    else none
def impl_MovesBetween_p (F : Nat) (a0 : List Int) (b1 : List Int) : Option (Int × Int × Bool) := impl_MovesBetween_c _ F a0 b1 some
theorem impl_MovesBetween_cp (Q : Type) (F : Nat) (a0 : List Int) (b1 : List Int) (k : (Int × Int × Bool) → Option Q) : impl_MovesBetween_c Q F a0 b1 k = (impl_MovesBetween_p F a0 b1).bind k := by
  simp only [impl_MovesBetween_p, impl_MovesBetween_c, cond_bindL, none_bindL, some_bindL]

/-- loop 6 of loop.example/g01194/spec.l2Sum -/
def spec_l2Sum_s6 (F : Nat) (r4 : Int) (b6 : List Int) (Q : Type) : (Int × Int) → ((Int × Int) → Option Q) → ((Int) → Option Q) → Option Q
  | (sum3, c5), kn, kx =>
    let z_1 : Int := (iget b6 (((0 : Nat) + ((Int.toNat r4) * (4 : Nat))) + ((Int.toNat c5) * (1 : Nat))))
    let z_2 : Int := (IntKind.wrap .i64 (c5 + (1 : Int)))
    bif (decide (c5 < (4 : Int))) then
    bif (inR r4 4) then
    bif (inR c5 4) then
    bif (decide ((0 : Int) < z_1)) then
    bif (Option.isSome (spec_l2Worth_p z_1)) then
    kn ((IntKind.wrap .i64 (sum3 + (Option.getD (spec_l2Worth_p z_1) default))), z_2)
    else none
    else kn (sum3, z_2)
    else none
    else none
    else kx sum3
def spec_l2Sum_l6 (F : Nat) (r4 : Int) (b6 : List Int) (sum3 : Int) (c5 : Int) : Option (Int) := loopC (spec_l2Sum_s6 F r4 b6) F (sum3, c5) some
theorem spec_l2Sum_s6_nat (F : Nat) (r4 : Int) (b6 : List Int) : Natural (spec_l2Sum_s6 F r4 b6) := by
  intro Q Q' s kn kx h
  obtain ⟨sum3, c5⟩ := s
  simp only [spec_l2Sum_s6, cond_bindL, none_bindL]
/-- loop 3 of loop.example/g01194/spec.l2Sum -/
def spec_l2Sum_s3 (F : Nat) (b5 : List Int) (Q : Type) : (Int × Int) → ((Int × Int) → Option Q) → ((Int) → Option Q) → Option Q
  | (sum3, r4), kn, kx =>
    let z_1 := (spec_l2Sum_l6 F r4 b5 sum3 (0 : Int))
    bif (decide (r4 < (4 : Int))) then
    bif (Option.isSome z_1) then
    kn ((Option.getD z_1 default), (IntKind.wrap .i64 (r4 + (1 : Int))))
    else none
    else kx sum3
def spec_l2Sum_l3 (F : Nat) (b5 : List Int) (sum3 : Int) (r4 : Int) : Option (Int) := loopC (spec_l2Sum_s3 F b5) F (sum3, r4) some
theorem spec_l2Sum_s3_nat (F : Nat) (b5 : List Int) : Natural (spec_l2Sum_s3 F b5) := by
  intro Q Q' s kn kx h
  obtain ⟨sum3, r4⟩ := s
  simp only [spec_l2Sum_s3, cond_bindL, none_bindL]
/-- loop.example/g01194/spec.l2Sum -/
def spec_l2Sum_c (Q : Type) (F : Nat) (b0 : List Int) (k : (Int) → Option Q) : Option Q :=
    let z_1 := (spec_l2Sum_l3 F b0 (0 : Int) (0 : Int))
    bif (Option.isSome z_1) then
    k (Option.getD z_1 default)
    else none
def spec_l2Sum_p (F : Nat) (b0 : List Int) : Option (Int) := spec_l2Sum_c _ F b0 some
theorem spec_l2Sum_cp (Q : Type) (F : Nat) (b0 : List Int) (k : (Int) → Option Q) : spec_l2Sum_c Q F b0 k = (spec_l2Sum_p F b0).bind k := by
  simp only [spec_l2Sum_p, spec_l2Sum_c, cond_bindL, none_bindL, some_bindL]

/-- loop.example/g01194/spec.MovesBetween -/
def spec_MovesBetween_c (Q : Type) (F : Nat) (a0 : List Int) (b1 : List Int) (k : (Int × Int × Bool) → Option Q) : Option Q :=
    let z_1 := (spec_l2Board_p F a0)
    let z_2 := (spec_l2Board_p F b1)
    let z_3 := (spec_l2Sum_p F b1)
    let z_4 : Bool := (Option.isSome z_3)
    let z_5 := (spec_l2Sum_p F a0)
    let z_6 : Bool := (Option.isSome z_5)
    let z_7 : Int := (IntKind.wrap .i64 ((Option.getD z_3 default) - (Option.getD z_5 default)))
    bif (Option.isSome z_1) then
    bif (!(Option.getD z_1 default)) then
    k ((0 : Int), (0 : Int), false)
    else bif (Option.isSome z_2) then
    bif (!(Option.getD z_2 default)) then
    k ((0 : Int), (0 : Int), false)
    else bif z_4 then
    bif z_6 then
    bif (decide ((Option.getD z_3 default) < (Option.getD z_5 default))) then
    k ((0 : Int), (0 : Int), false)
    else bif z_4 then
    bif z_6 then
    k ((IntKind.wrap .i64 (Int.tdiv (IntKind.wrap .i64 (z_7 + (2 : Int))) (4 : Int))), (IntKind.wrap .i64 (Int.tdiv z_7 (2 : Int))), true)
    else none
    else none
    else none
    else none
    else none
    else none
def spec_MovesBetween_p (F : Nat) (a0 : List Int) (b1 : List Int) : Option (Int × Int × Bool) := spec_MovesBetween_c _ F a0 b1 some
theorem spec_MovesBetween_cp (Q : Type) (F : Nat) (a0 : List Int) (b1 : List Int) (k : (Int × Int × Bool) → Option Q) : spec_MovesBetween_c Q F a0 b1 k = (spec_MovesBetween_p F a0 b1).bind k := by
  simp only [spec_MovesBetween_p, spec_MovesBetween_c, cond_bindL, none_bindL, some_bindL]

/-- loop.example/g01194/laws.vCut -/
def laws_vCut_c (Q : Type) (code0 : List Int) (n1 : Int) (k : (List Int) → Option Q) : Option Q :=
    let z_1 : List Int := (subn (List.length code0) code0 (List.length code0) ((List.length code0) - (List.length code0)))
    let z_2 : Nat := (List.length z_1)
    let z_3 : List Int := ((subn z_2 z_1 0 z_2) ++ [(IntKind.wrap .u8 (((List.length code0) : Nat) : Int))])
    let z_4 : List Int := (subn (List.length code0) code0 (Int.toNat n1) ((List.length code0) - (Int.toNat n1)))
    let z_5 : Nat := (List.length z_4)
    let z_6 : List Int := ((subn z_5 z_4 0 z_5) ++ [(IntKind.wrap .u8 n1)])
    bif (decide ((((List.length code0) : Nat) : Int) < n1)) then
    bif (inLe (((List.length code0) : Nat) : Int) (List.length code0)) then
    bif (fits z_2 1) then
    bif (fits (List.length z_3) 1) then
    k z_3
    else none
    else none
    else none
    else bif (inLe n1 (List.length code0)) then
    bif (fits z_5 1) then
    bif (fits (List.length z_6) 1) then
    k z_6
    else none
    else none
    else none
def laws_vCut_p (code0 : List Int) (n1 : Int) : Option (List Int) := laws_vCut_c _ code0 n1 some
theorem laws_vCut_cp (Q : Type) (code0 : List Int) (n1 : Int) (k : (List Int) → Option Q) : laws_vCut_c Q code0 n1 k = (laws_vCut_p code0 n1).bind k := by
  simp only [laws_vCut_p, laws_vCut_c, cond_bindL, none_bindL, some_bindL]

/-- loop.example/g01194/spec.DrawScoreBetween -/
def spec_DrawScoreBetween_c (Q : Type) (F : Nat) (code0 : List Int) (k : (List Int × List Int × Int) → Option Q) : Option Q :=
    let z_1 := (spec_DrawMovesBetween_p F code0)
    let z_2 := (spec_l1Cur_pick_p (24 : Int) code0 (0 : Int) (0 : Int))
    let z_3 := (Option.getD z_2 default)
    let z_4 : Int := (IntKind.wrap .i64 ((4 : Int) + (IntKind.wrap .i64 (Int.tdiv z_3.1 (11 : Int)))))
    let z_5 := (spec_l1Cur_among_p (subn 6 [(0 : Int), (1 : Int), (2 : Int), (0 : Int), (-1 : Int), (1099511627776 : Int)] 0 ((Int.toNat z_4) - (0 : Nat))) code0 z_3.2.1 z_3.2.2)
    let z_6 := (Option.getD z_1 default)
    bif (Option.isSome z_1) then
    bif (Option.isSome z_2) then
    bif (inLe z_4 6) then
    bif (Option.isSome z_5) then
    k (z_6.1, z_6.2, (Option.getD z_5 default).1)
    else none
    else none
    else none
    else none
def spec_DrawScoreBetween_p (F : Nat) (code0 : List Int) : Option (List Int × List Int × Int) := spec_DrawScoreBetween_c _ F code0 some
theorem spec_DrawScoreBetween_cp (Q : Type) (F : Nat) (code0 : List Int) (k : (List Int × List Int × Int) → Option Q) : spec_DrawScoreBetween_c Q F code0 k = (spec_DrawScoreBetween_p F code0).bind k := by
  simp only [spec_DrawScoreBetween_p, spec_DrawScoreBetween_c, cond_bindL, none_bindL, some_bindL]

/-- loop.example/g01194/impl.isSum -/
def impl_isSum_c (Q : Type) (sum0 : Int) (k : (Bool) → Option Q) : Option Q :=
    k (impl_in_v sum0 (0 : Int) (2097152 : Int))
def impl_isSum_v (sum0 : Int) : Bool :=
    (impl_in_v sum0 (0 : Int) (2097152 : Int))
theorem impl_isSum_cv (Q : Type) (sum0 : Int) (k : (Bool) → Option Q) : impl_isSum_c Q sum0 k = k (impl_isSum_v sum0) := by
  simp only [impl_isSum_c, impl_isSum_v, app_condL k]

/-- slices.Grow[[]int,int] -/
def slices_Grow_intint_c (Q : Type) (n0 : Int) (k : (List Int) → Option Q) : Option Q :=
    let z_1 : Int := (IntKind.wrap .i64 (n0 - (0 : Int)))
    let z_2 : Nat := (Int.toNat z_1)
    bif (decide (n0 < (0 : Int))) then
    none
    else bif (decide ((0 : Int) < z_1)) then
    bif ((decide ((1 : Int) ≤ z_1)) && (fits z_2 8)) then
    bif (inLe (0 : Int) z_2) then
    k (List.replicate z_2 (0 : Int))
    else none
    else none
    else k ([] : List Int)
def slices_Grow_intint_p (n0 : Int) : Option (List Int) := slices_Grow_intint_c _ n0 some
theorem slices_Grow_intint_cp (Q : Type) (n0 : Int) (k : (List Int) → Option Q) : slices_Grow_intint_c Q n0 k = (slices_Grow_intint_p n0).bind k := by
  simp only [slices_Grow_intint_p, slices_Grow_intint_c, cond_bindL, none_bindL, some_bindL]

/-- slices.Concat[[]int,int] -/
def slices_Concat_intint_c (Q : Type) (slices0 : List Int) (slices1 : List Int) (slices2 : List Int) (slices3 : List Int) (k : (List Int) → Option Q) : Option Q :=
    let z_1 : Int := (IntKind.wrap .i64 ((0 : Int) + (((List.length slices0) : Nat) : Int)))
    let z_2 : Int := (IntKind.wrap .i64 (z_1 + (((List.length slices1) : Nat) : Int)))
    let z_3 : Int := (IntKind.wrap .i64 (z_2 + (((List.length slices2) : Nat) : Int)))
    let z_4 : Int := (IntKind.wrap .i64 (z_3 + (((List.length slices3) : Nat) : Int)))
    let z_5 : List Int := ((subn (List.length (Option.getD (slices_Grow_intint_p z_4) default)) (Option.getD (slices_Grow_intint_p z_4) default) 0 0) ++ slices0)
    let z_6 : Nat := (List.length z_5)
    let z_7 : List Int := ((subn z_6 z_5 0 z_6) ++ slices1)
    let z_8 : Nat := (List.length z_7)
    let z_9 : List Int := ((subn z_8 z_7 0 z_8) ++ slices2)
    let z_10 : Nat := (List.length z_9)
    let z_11 : List Int := ((subn z_10 z_9 0 z_10) ++ slices3)
    bif (decide (z_1 < (0 : Int))) then
    none
    else bif (decide (z_2 < (0 : Int))) then
    none
    else bif (decide (z_3 < (0 : Int))) then
    none
    else bif (decide (z_4 < (0 : Int))) then
    none
    else bif (Option.isSome (slices_Grow_intint_p z_4)) then
    bif (fits z_6 8) then
    bif (fits z_8 8) then
    bif (fits z_10 8) then
    bif (fits (List.length z_11) 8) then
    k z_11
    else none
    else none
    else none
    else none
    else none
def slices_Concat_intint_p (slices0 : List Int) (slices1 : List Int) (slices2 : List Int) (slices3 : List Int) : Option (List Int) := slices_Concat_intint_c _ slices0 slices1 slices2 slices3 some
theorem slices_Concat_intint_cp (Q : Type) (slices0 : List Int) (slices1 : List Int) (slices2 : List Int) (slices3 : List Int) (k : (List Int) → Option Q) : slices_Concat_intint_c Q slices0 slices1 slices2 slices3 k = (slices_Concat_intint_p slices0 slices1 slices2 slices3).bind k := by
  simp only [slices_Concat_intint_p, slices_Concat_intint_c, cond_bindL, none_bindL, some_bindL]

/-- (loop.example/g01194/impl.Board).flat -/
def impl_Board_flat_c (Q : Type) (b0 : List Int) (k : (List Int) → Option Q) : Option Q :=
    let z_1 := (slices_Concat_intint_p (sub b0 0 4) (sub b0 4 4) (sub b0 8 4) (sub b0 12 4))
    bif (Option.isSome z_1) then
    k (Option.getD z_1 default)
    else none
def impl_Board_flat_p (b0 : List Int) : Option (List Int) := impl_Board_flat_c _ b0 some
theorem impl_Board_flat_cp (Q : Type) (b0 : List Int) (k : (List Int) → Option Q) : impl_Board_flat_c Q b0 k = (impl_Board_flat_p b0).bind k := by
  simp only [impl_Board_flat_p, impl_Board_flat_c, cond_bindL, none_bindL, some_bindL]

/-- loop 3 of (loop.example/g01194/impl.Board).potential -/
def impl_Board_potential_s3 (F : Nat) (t83 : Int) (t75 : List Int) (Q : Type) : (Int × Int) → ((Int × Int) → Option Q) → ((Int) → Option Q) → Option Q
  | (sum0, t94), kn, kx =>
    let z_1 : Int := (iget t75 ((0 : Nat) + (Int.toNat t94)))
    let z_2 : Int := (IntKind.wrap .i64 (t94 + (1 : Int)))
    bif (decide (t94 < t83)) then
    bif (inR t94 (List.length t75)) then
    bif (decide ((0 : Int) < z_1)) then
    bif (Option.isSome (impl_worth_p z_1)) then
    kn ((IntKind.wrap .i64 (sum0 + (IntKind.wrap .i64 ((IntKind.wrap .i64 (z_1 - (1 : Int))) * (Option.getD (impl_worth_p z_1) default))))), z_2)
    else none
    else kn (sum0, z_2)
    else none
    else kx sum0
def impl_Board_potential_l3 (F : Nat) (t83 : Int) (t75 : List Int) (sum0 : Int) (t94 : Int) : Option (Int) := loopC (impl_Board_potential_s3 F t83 t75) F (sum0, t94) some
theorem impl_Board_potential_s3_nat (F : Nat) (t83 : Int) (t75 : List Int) : Natural (impl_Board_potential_s3 F t83 t75) := by
  intro Q Q' s kn kx h
  obtain ⟨sum0, t94⟩ := s
  simp only [impl_Board_potential_s3, cond_bindL, none_bindL]
/-- (loop.example/g01194/impl.Board).potential -/
def impl_Board_potential_c (Q : Type) (F : Nat) (b0 : List Int) (k : (Int) → Option Q) : Option Q :=
    let z_1 : Nat := (List.length (Option.getD (impl_Board_flat_p b0) default))
    let z_2 := (impl_Board_potential_l3 F ((z_1 : Nat) : Int) (Option.getD (impl_Board_flat_p b0) default) (0 : Int) (0 : Int))
    bif (Option.isSome (impl_Board_flat_p b0)) then
    bif ((Nat.beq z_1 z_1) && (Option.isSome z_2)) then
    k (Option.getD z_2 default)
    else none
    else none
def impl_Board_potential_p (F : Nat) (b0 : List Int) : Option (Int) := impl_Board_potential_c _ F b0 some
theorem impl_Board_potential_cp (Q : Type) (F : Nat) (b0 : List Int) (k : (Int) → Option Q) : impl_Board_potential_c Q F b0 k = (impl_Board_potential_p F b0).bind k := by
  simp only [impl_Board_potential_p, impl_Board_potential_c, cond_bindL, none_bindL, some_bindL]

/-- loop.example/g01194/impl.ScoreBetween -/
def impl_ScoreBetween_c (Q : Type) (F : Nat) (a0 : List Int) (b1 : List Int) (twos2 : Int) (k : (Int × Bool) → Option Q) : Option Q :=
    let z_1 := (impl_IsBoard_p F a0)
    let z_2 := (impl_IsBoard_p F b1)
    let z_3 := (impl_Board_potential_p F b1)
    let z_4 := (impl_Board_potential_p F a0)
    bif (Option.isSome z_1) then
    bif (!(Option.getD z_1 default)) then
    k ((0 : Int), false)
    else bif (Option.isSome z_2) then
    bif (!(Option.getD z_2 default)) then
    k ((0 : Int), false)
    else bif (!(impl_isSum_v twos2)) then
    k ((0 : Int), false)
    else bif (Option.isSome z_3) then
    bif (Option.isSome z_4) then
    k ((IntKind.wrap .i64 ((IntKind.wrap .i64 ((Option.getD z_3 default) - (Option.getD z_4 default))) - (IntKind.wrap .i64 ((4 : Int) * twos2)))), true)
    else none
    else none
    else none
    else none
def impl_ScoreBetween_p (F : Nat) (a0 : List Int) (b1 : List Int) (twos2 : Int) : Option (Int × Bool) := impl_ScoreBetween_c _ F a0 b1 twos2 some
theorem impl_ScoreBetween_cp (Q : Type) (F : Nat) (a0 : List Int) (b1 : List Int) (twos2 : Int) (k : (Int × Bool) → Option Q) : impl_ScoreBetween_c Q F a0 b1 twos2 k = (impl_ScoreBetween_p F a0 b1 twos2).bind k := by
  simp only [impl_ScoreBetween_p, impl_ScoreBetween_c, cond_bindL, none_bindL, some_bindL]

/-- loop 6 of loop.example/g01194/spec.l7Potential -/
def spec_l7Potential_s6 (F : Nat) (r4 : Int) (b6 : List Int) (Q : Type) : (Int × Int) → ((Int × Int) → Option Q) → ((Int) → Option Q) → Option Q
  | (sum3, c5), kn, kx =>
    let z_1 : Int := (iget b6 (((0 : Nat) + ((Int.toNat r4) * (4 : Nat))) + ((Int.toNat c5) * (1 : Nat))))
    let z_2 : Int := (IntKind.wrap .i64 (c5 + (1 : Int)))
    bif (decide (c5 < (4 : Int))) then
    bif (inR r4 4) then
    bif (inR c5 4) then
    bif (decide ((0 : Int) < z_1)) then
    bif (Option.isSome (spec_l2Worth_p z_1)) then
    kn ((IntKind.wrap .i64 (sum3 + (IntKind.wrap .i64 ((IntKind.wrap .i64 (z_1 - (1 : Int))) * (Option.getD (spec_l2Worth_p z_1) default))))), z_2)
    else none
    else kn (sum3, z_2)
    else none
    else none
    else kx sum3
def spec_l7Potential_l6 (F : Nat) (r4 : Int) (b6 : List Int) (sum3 : Int) (c5 : Int) : Option (Int) := loopC (spec_l7Potential_s6 F r4 b6) F (sum3, c5) some
theorem spec_l7Potential_s6_nat (F : Nat) (r4 : Int) (b6 : List Int) : Natural (spec_l7Potential_s6 F r4 b6) := by
  intro Q Q' s kn kx h
  obtain ⟨sum3, c5⟩ := s
  simp only [spec_l7Potential_s6, cond_bindL, none_bindL]
/-- loop 3 of loop.example/g01194/spec.l7Potential -/
def spec_l7Potential_s3 (F : Nat) (b5 : List Int) (Q : Type) : (Int × Int) → ((Int × Int) → Option Q) → ((Int) → Option Q) → Option Q
  | (sum3, r4), kn, kx =>
    let z_1 := (spec_l7Potential_l6 F r4 b5 sum3 (0 : Int))
    bif (decide (r4 < (4 : Int))) then
    bif (Option.isSome z_1) then
    kn ((Option.getD z_1 default), (IntKind.wrap .i64 (r4 + (1 : Int))))
    else none
    else kx sum3
def spec_l7Potential_l3 (F : Nat) (b5 : List Int) (sum3 : Int) (r4 : Int) : Option (Int) := loopC (spec_l7Potential_s3 F b5) F (sum3, r4) some
theorem spec_l7Potential_s3_nat (F : Nat) (b5 : List Int) : Natural (spec_l7Potential_s3 F b5) := by
  intro Q Q' s kn kx h
  obtain ⟨sum3, r4⟩ := s
  simp only [spec_l7Potential_s3, cond_bindL, none_bindL]
/-- loop.example/g01194/spec.l7Potential -/
def spec_l7Potential_c (Q : Type) (F : Nat) (b0 : List Int) (k : (Int) → Option Q) : Option Q :=
    let z_1 := (spec_l7Potential_l3 F b0 (0 : Int) (0 : Int))
    bif (Option.isSome z_1) then
    k (Option.getD z_1 default)
    else none
def spec_l7Potential_p (F : Nat) (b0 : List Int) : Option (Int) := spec_l7Potential_c _ F b0 some
theorem spec_l7Potential_cp (Q : Type) (F : Nat) (b0 : List Int) (k : (Int) → Option Q) : spec_l7Potential_c Q F b0 k = (spec_l7Potential_p F b0).bind k := by
  simp only [spec_l7Potential_p, spec_l7Potential_c, cond_bindL, none_bindL, some_bindL]

/-- loop.example/g01194/spec.ScoreBetween -/
def spec_ScoreBetween_c (Q : Type) (F : Nat) (a0 : List Int) (b1 : List Int) (twos2 : Int) (k : (Int × Bool) → Option Q) : Option Q :=
    let z_1 := (spec_l2Board_p F a0)
    let z_2 := (spec_l2Board_p F b1)
    let z_3 := (spec_l7Potential_p F b1)
    let z_4 := (spec_l7Potential_p F a0)
    bif (Option.isSome z_1) then
    bif (!(Option.getD z_1 default)) then
    k ((0 : Int), false)
    else bif (Option.isSome z_2) then
    bif (!(Option.getD z_2 default)) then
    k ((0 : Int), false)
    else bif (!(spec_l1In_v twos2 (0 : Int) (2097152 : Int))) then
    k ((0 : Int), false)
    else bif (Option.isSome z_3) then
    bif (Option.isSome z_4) then
    k ((IntKind.wrap .i64 ((IntKind.wrap .i64 ((Option.getD z_3 default) - (Option.getD z_4 default))) - (IntKind.wrap .i64 ((4 : Int) * twos2)))), true)
    else none
    else none
    else none
    else none
def spec_ScoreBetween_p (F : Nat) (a0 : List Int) (b1 : List Int) (twos2 : Int) : Option (Int × Bool) := spec_ScoreBetween_c _ F a0 b1 twos2 some
theorem spec_ScoreBetween_cp (Q : Type) (F : Nat) (a0 : List Int) (b1 : List Int) (twos2 : Int) (k : (Int × Bool) → Option Q) : spec_ScoreBetween_c Q F a0 b1 twos2 k = (spec_ScoreBetween_p F a0 b1 twos2).bind k := by
  simp only [spec_ScoreBetween_p, spec_ScoreBetween_c, cond_bindL, none_bindL, some_bindL]

/-- (*loop.example/g01194/spec.l1Cur).sum7 -/
def spec_l1Cur_sum7_c (Q : Type) (c3 : List Int) (c4 : Int) (c5 : Int) (k : (Int × Int × Int) → Option Q) : Option Q :=
    let z_1 := (spec_l1Cur_one_p (16 : Int) c3 c4 c5)
    let z_2 := (Option.getD z_1 default)
    let z_3 := (spec_l1Cur_among_p [(-2 : Int), (3 : Int), (2097152 : Int), (2097154 : Int), (4611686018427387904 : Int), (2097150 : Int)] c3 z_2.2.1 z_2.2.2)
    let z_4 := (Option.getD z_3 default)
    let z_5 := (spec_l1Cur_among_p [(2 : Int), (4 : Int), (6 : Int), (14 : Int), (20 : Int), (30 : Int), (62 : Int), (100 : Int), (126 : Int), (254 : Int), (1022 : Int), (2048 : Int), (131072 : Int), (262144 : Int), (0 : Int), (65534 : Int), (393214 : Int), (1048574 : Int)] c3 z_2.2.1 z_2.2.2)
    let z_6 := (Option.getD z_5 default)
    bif (Option.isSome z_1) then
    bif z_2.1 then
    bif (Option.isSome z_3) then
    k (z_4.1, z_4.2.1, z_4.2.2)
    else none
    else bif (Option.isSome z_5) then
    k (z_6.1, z_6.2.1, z_6.2.2)
    else none
    else none
def spec_l1Cur_sum7_p (c3 : List Int) (c4 : Int) (c5 : Int) : Option (Int × Int × Int) := spec_l1Cur_sum7_c _ c3 c4 c5 some
theorem spec_l1Cur_sum7_cp (Q : Type) (c3 : List Int) (c4 : Int) (c5 : Int) (k : (Int × Int × Int) → Option Q) : spec_l1Cur_sum7_c Q c3 c4 c5 k = (spec_l1Cur_sum7_p c3 c4 c5).bind k := by
  simp only [spec_l1Cur_sum7_p, spec_l1Cur_sum7_c, cond_bindL, none_bindL, some_bindL]
end Go.Lv.P
