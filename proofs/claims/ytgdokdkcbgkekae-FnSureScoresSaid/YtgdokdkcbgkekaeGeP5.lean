/-
Pure functions and what the code of them does, by program; without conditions.
-/
import Derived.Test.YtgdokdkcbgkekaeGeP4
namespace Go.Lv.P
open Go Go.Lv
set_option linter.unusedVariables false
set_option linter.unusedSimpArgs false
set_option maxRecDepth 100000
/-- loop.example/g01194/impl.isDirection -/
def impl_isDirection_c (Q : Type) (d0 : Int) (k : (Bool) → Option Q) : Option Q :=
    k (impl_in_v d0 (0 : Int) (3 : Int))
def impl_isDirection_v (d0 : Int) : Bool :=
    (impl_in_v d0 (0 : Int) (3 : Int))
theorem impl_isDirection_cv (Q : Type) (d0 : Int) (k : (Bool) → Option Q) : impl_isDirection_c Q d0 k = k (impl_isDirection_v d0) := by
  simp only [impl_isDirection_c, impl_isDirection_v, app_condL k]

/-- loop 2 of (loop.example/g01194/impl.Board).slides -/
def impl_Board_slides_s2 (F : Nat) (t76 : List Int) (t87 : Int) (Q : Type) : (Int × List Int) → ((Int × List Int) → Option Q) → ((List Int) → Option Q) → Option Q
  | (t98, b9), kn, kx =>
    let z_1 := (impl_Board_slide_p F b9 (iget t76 (Int.toNat t98)))
    bif (decide (t98 < t87)) then
    bif (inR t98 (List.length t76)) then
    bif (Option.isSome z_1) then
    kn ((IntKind.wrap .i64 (t98 + (1 : Int))), (Option.getD z_1 default).1)
    else none
    else none
    else kx b9
def impl_Board_slides_l2 (F : Nat) (t76 : List Int) (t87 : Int) (t98 : Int) (b9 : List Int) : Option (List Int) := loopC (impl_Board_slides_s2 F t76 t87) F (t98, b9) some
theorem impl_Board_slides_s2_nat (F : Nat) (t76 : List Int) (t87 : Int) : Natural (impl_Board_slides_s2 F t76 t87) := by
  intro Q Q' s kn kx h
  obtain ⟨t98, b9⟩ := s
  simp only [impl_Board_slides_s2, cond_bindL, none_bindL]
/-- (loop.example/g01194/impl.Board).slides -/
def impl_Board_slides_c (Q : Type) (F : Nat) (b0 : List Int) (list1 : List Int) (k : (List Int) → Option Q) : Option Q :=
    let z_1 := (impl_Board_slides_l2 F list1 (((List.length list1) : Nat) : Int) (0 : Int) b0)
    bif (Option.isSome z_1) then
    k (Option.getD z_1 default)
    else none
def impl_Board_slides_p (F : Nat) (b0 : List Int) (list1 : List Int) : Option (List Int) := impl_Board_slides_c _ F b0 list1 some
theorem impl_Board_slides_cp (Q : Type) (F : Nat) (b0 : List Int) (list1 : List Int) (k : (List Int) → Option Q) : impl_Board_slides_c Q F b0 list1 k = (impl_Board_slides_p F b0 list1).bind k := by
  simp only [impl_Board_slides_p, impl_Board_slides_c, cond_bindL, none_bindL, some_bindL]

/-- (loop.example/g01194/impl.Board).isMove -/
def impl_Board_isMove_c (Q : Type) (F : Nat) (b0 : List Int) (direction1 : Int) (k : (Bool) → Option Q) : Option Q :=
    let z_1 := (impl_IsBoard_p F b0)
    let z_2 := (impl_Board_slides_p F b0 [direction1])
    bif (Option.isSome z_1) then
    bif (Option.getD z_1 default) then
    bif (impl_isDirection_v direction1) then
    bif (Option.isSome z_2) then
    k (!((Option.getD z_2 default) == b0))
    else none
    else k false
    else k false
    else none
def impl_Board_isMove_p (F : Nat) (b0 : List Int) (direction1 : Int) : Option (Bool) := impl_Board_isMove_c _ F b0 direction1 some
theorem impl_Board_isMove_cp (Q : Type) (F : Nat) (b0 : List Int) (direction1 : Int) (k : (Bool) → Option Q) : impl_Board_isMove_c Q F b0 direction1 k = (impl_Board_isMove_p F b0 direction1).bind k := by
  simp only [impl_Board_isMove_p, impl_Board_isMove_c, cond_bindL, none_bindL, some_bindL]

/-- loop.example/g01194/impl.WorstReply$1 -/
def impl_WorstReply_f1_c (Q : Type) (F : Nat) (own0 : List Int) (a14 : List Int) (k : (Int) → Option Q) : Option Q :=
    let z_1 := (impl_Board_sure_p F own0 (iget a14 0))
    bif (Option.isSome z_1) then
    k (Option.getD z_1 default)
    else none
def impl_WorstReply_f1_p (F : Nat) (own0 : List Int) (a14 : List Int) : Option (Int) := impl_WorstReply_f1_c _ F own0 a14 some
theorem impl_WorstReply_f1_cp (Q : Type) (F : Nat) (own0 : List Int) (a14 : List Int) (k : (Int) → Option Q) : impl_WorstReply_f1_c Q F own0 a14 k = (impl_WorstReply_f1_p F own0 a14).bind k := by
  simp only [impl_WorstReply_f1_p, impl_WorstReply_f1_c, cond_bindL, none_bindL, some_bindL]

/-- loop 3 of (loop.example/g01194/impl.Board).worst -/
def impl_Board_worst_impl_WorstReply_f1_s3 (F : Nat) (t1415 : Int) (of17 : List Int) (b18 : List Int) (t1321 : List (List Int)) (Q : Type) : (Int × Int × List Int) → ((Int × Int × List Int) → Option Q) → ((Int × List Int) → Option Q) → Option Q
  | (least12, t1516, out20), kn, kx =>
    let z_1 : List Int := (rget t1321 ((0 : Nat) + (Int.toNat t1516)))
    let z_2 := (impl_Board_placed_p b18 z_1)
    let z_3 := (impl_WorstReply_f1_p F (Option.getD z_2 default) of17)
    let z_4 : Int := (IntKind.wrap .i64 (t1516 + (1 : Int)))
    bif (decide (t1516 < t1415)) then
    bif (inR t1516 (List.length t1321)) then
    bif (Option.isSome z_2) then
    bif (Option.isSome z_3) then
    bif (decide (least12 < (0 : Int))) then
    kn ((Option.getD z_3 default), z_4, z_1)
    else bif (decide ((Option.getD z_3 default) < least12)) then
    kn ((Option.getD z_3 default), z_4, z_1)
    else kn (least12, z_4, out20)
    else none
    else none
    else none
    else kx (least12, out20)
def impl_Board_worst_impl_WorstReply_f1_l3 (F : Nat) (t1415 : Int) (of17 : List Int) (b18 : List Int) (t1321 : List (List Int)) (least12 : Int) (t1516 : Int) (out20 : List Int) : Option (Int × List Int) := loopC (impl_Board_worst_impl_WorstReply_f1_s3 F t1415 of17 b18 t1321) F (least12, t1516, out20) some
theorem impl_Board_worst_impl_WorstReply_f1_s3_nat (F : Nat) (t1415 : Int) (of17 : List Int) (b18 : List Int) (t1321 : List (List Int)) : Natural (impl_Board_worst_impl_WorstReply_f1_s3 F t1415 of17 b18 t1321) := by
  intro Q Q' s kn kx h
  obtain ⟨least12, t1516, out20⟩ := s
  simp only [impl_Board_worst_impl_WorstReply_f1_s3, cond_bindL, none_bindL]
/-- (loop.example/g01194/impl.Board).worst -/
def impl_Board_worst_impl_WorstReply_f1_c (Q : Type) (F : Nat) (b0 : List Int) (of4 : List Int) (k : (List Int × Int) → Option Q) : Option Q :=
    let z_1 := (impl_Board_placements_p F b0)
    let z_2 : Nat := (List.length (Option.getD z_1 default))
    let z_3 := (impl_Board_worst_impl_WorstReply_f1_l3 F ((z_2 : Nat) : Int) of4 b0 (Option.getD z_1 default) (-1 : Int) (0 : Int) [(0 : Int), (0 : Int), (0 : Int)])
    let z_4 := (Option.getD z_3 default)
    bif (Option.isSome z_1) then
    bif ((Nat.beq z_2 z_2) && (Option.isSome z_3)) then
    k (z_4.2, z_4.1)
    else none
    else none
def impl_Board_worst_impl_WorstReply_f1_p (F : Nat) (b0 : List Int) (of4 : List Int) : Option (List Int × Int) := impl_Board_worst_impl_WorstReply_f1_c _ F b0 of4 some
theorem impl_Board_worst_impl_WorstReply_f1_cp (Q : Type) (F : Nat) (b0 : List Int) (of4 : List Int) (k : (List Int × Int) → Option Q) : impl_Board_worst_impl_WorstReply_f1_c Q F b0 of4 k = (impl_Board_worst_impl_WorstReply_f1_p F b0 of4).bind k := by
  simp only [impl_Board_worst_impl_WorstReply_f1_p, impl_Board_worst_impl_WorstReply_f1_c, cond_bindL, none_bindL, some_bindL]

/-- loop.example/g01194/impl.WorstReply -/
def impl_WorstReply_c (Q : Type) (F : Nat) (b0 : List Int) (direction1 : Int) (n2 : Int) (k : (List Int × Int × Bool) → Option Q) : Option Q :=
    let z_1 := (impl_Board_isMove_p F b0 direction1)
    let z_2 := (impl_Board_slides_p F b0 [direction1])
    let z_3 := (impl_Board_worst_impl_WorstReply_f1_p F (Option.getD z_2 default) [n2])
    let z_4 := (Option.getD z_3 default)
    bif (Option.isSome z_1) then
    bif (!(Option.getD z_1 default)) then
    k ([(0 : Int), (0 : Int), (0 : Int)], (0 : Int), false)
    else bif (!(impl_in_v n2 (0 : Int) (1 : Int))) then
    k ([(0 : Int), (0 : Int), (0 : Int)], (0 : Int), false)
    else bif (Option.isSome z_2) then
    bif (Option.isSome z_3) then
    k (z_4.1, z_4.2, true)
    else none
    else none
    else none
def impl_WorstReply_p (F : Nat) (b0 : List Int) (direction1 : Int) (n2 : Int) : Option (List Int × Int × Bool) := impl_WorstReply_c _ F b0 direction1 n2 some
theorem impl_WorstReply_cp (Q : Type) (F : Nat) (b0 : List Int) (direction1 : Int) (n2 : Int) (k : (List Int × Int × Bool) → Option Q) : impl_WorstReply_c Q F b0 direction1 n2 k = (impl_WorstReply_p F b0 direction1 n2).bind k := by
  simp only [impl_WorstReply_p, impl_WorstReply_c, cond_bindL, none_bindL, some_bindL]

/-- loop.example/g01194/spec.l2Side -/
def spec_l2Side_c (Q : Type) (d0 : Int) (k : (Bool) → Option Q) : Option Q :=
    k (spec_l1In_v d0 (0 : Int) (3 : Int))
def spec_l2Side_v (d0 : Int) : Bool :=
    (spec_l1In_v d0 (0 : Int) (3 : Int))
theorem spec_l2Side_cv (Q : Type) (d0 : Int) (k : (Bool) → Option Q) : spec_l2Side_c Q d0 k = k (spec_l2Side_v d0) := by
  simp only [spec_l2Side_c, spec_l2Side_v, app_condL k]

/-- loop.example/g01194/spec.l8Least -/
def spec_l8Least_c (Q : Type) (F : Nat) (next0 : List Int) (n1 : Int) (k : (List Int × Int) → Option Q) : Option Q :=
    let z_1 := (spec_l8Least_n0_p F next0)
    let z_2 := (spec_l8Least_n1_p F next0)
    let z_3 := (Option.getD z_2 default)
    bif (n1 == (0 : Int)) then
    bif (Option.isSome z_1) then
    k ((Option.getD z_1 default), (0 : Int))
    else none
    else bif (n1 == (1 : Int)) then
    bif (Option.isSome z_2) then
    k (z_3.1, z_3.2)
    else none
    else none
def spec_l8Least_p (F : Nat) (next0 : List Int) (n1 : Int) : Option (List Int × Int) := spec_l8Least_c _ F next0 n1 some
theorem spec_l8Least_cp (Q : Type) (F : Nat) (next0 : List Int) (n1 : Int) (k : (List Int × Int) → Option Q) : spec_l8Least_c Q F next0 n1 k = (spec_l8Least_p F next0 n1).bind k := by
  simp only [spec_l8Least_p, spec_l8Least_c, cond_bindL, none_bindL, some_bindL]

/-- loop.example/g01194/spec.WorstReply -/
def spec_WorstReply_c (Q : Type) (F : Nat) (b0 : List Int) (direction1 : Int) (n2 : Int) (k : (List Int × Int × Bool) → Option Q) : Option Q :=
    let z_1 := (spec_l2Board_p F b0)
    let z_2 := (spec_l2Slide_p F b0 direction1)
    let z_3 := (spec_l8Least_p F (Option.getD z_2 default).1 n2)
    let z_4 := (Option.getD z_3 default)
    bif (Option.isSome z_1) then
    bif (!(Option.getD z_1 default)) then
    k ([(0 : Int), (0 : Int), (0 : Int)], (0 : Int), false)
    else bif (!(spec_l2Side_v direction1)) then
    k ([(0 : Int), (0 : Int), (0 : Int)], (0 : Int), false)
    else bif (!(spec_l1In_v n2 (0 : Int) (1 : Int))) then
    k ([(0 : Int), (0 : Int), (0 : Int)], (0 : Int), false)
    else bif (Option.isSome z_2) then
    bif ((Option.getD z_2 default).1 == b0) then
    k ([(0 : Int), (0 : Int), (0 : Int)], (0 : Int), false)
    else bif (Option.isSome z_3) then
    k (z_4.1, z_4.2, true)
    else none
    else none
    else none
def spec_WorstReply_p (F : Nat) (b0 : List Int) (direction1 : Int) (n2 : Int) : Option (List Int × Int × Bool) := spec_WorstReply_c _ F b0 direction1 n2 some
theorem spec_WorstReply_cp (Q : Type) (F : Nat) (b0 : List Int) (direction1 : Int) (n2 : Int) (k : (List Int × Int × Bool) → Option Q) : spec_WorstReply_c Q F b0 direction1 n2 k = (spec_WorstReply_p F b0 direction1 n2).bind k := by
  simp only [spec_WorstReply_p, spec_WorstReply_c, cond_bindL, none_bindL, some_bindL]

/-- loop.example/g01194/impl.PlacementsOf -/
def impl_PlacementsOf_c (Q : Type) (F : Nat) (b0 : List Int) (k : (Bool × List (List Int)) → Option Q) : Option Q :=
    let z_1 := (impl_IsBoard_p F b0)
    let z_2 := (impl_Board_placements_p F b0)
    bif (Option.isSome z_1) then
    bif (!(Option.getD z_1 default)) then
    k (false, ([] : List (List Int)))
    else bif (Option.isSome z_2) then
    k (true, (Option.getD z_2 default))
    else none
    else none
def impl_PlacementsOf_p (F : Nat) (b0 : List Int) : Option (Bool × List (List Int)) := impl_PlacementsOf_c _ F b0 some
theorem impl_PlacementsOf_cp (Q : Type) (F : Nat) (b0 : List Int) (k : (Bool × List (List Int)) → Option Q) : impl_PlacementsOf_c Q F b0 k = (impl_PlacementsOf_p F b0).bind k := by
  simp only [impl_PlacementsOf_p, impl_PlacementsOf_c, cond_bindL, none_bindL, some_bindL]

/-- loop.example/g01194/spec.PlacementsOf -/
def spec_PlacementsOf_c (Q : Type) (F : Nat) (b0 : List Int) (k : (Bool × List (List Int)) → Option Q) : Option Q :=
    let z_1 := (spec_l2Board_p F b0)
    let z_2 := (spec_l8Places_p F b0)
    bif (Option.isSome z_1) then
    bif (!(Option.getD z_1 default)) then
    k (false, ([] : List (List Int)))
    else bif (Option.isSome z_2) then
    k (true, (Option.getD z_2 default))
    else none
    else none
def spec_PlacementsOf_p (F : Nat) (b0 : List Int) : Option (Bool × List (List Int)) := spec_PlacementsOf_c _ F b0 some
theorem spec_PlacementsOf_cp (Q : Type) (F : Nat) (b0 : List Int) (k : (Bool × List (List Int)) → Option Q) : spec_PlacementsOf_c Q F b0 k = (spec_PlacementsOf_p F b0).bind k := by
  simp only [spec_PlacementsOf_p, spec_PlacementsOf_c, cond_bindL, none_bindL, some_bindL]

/-- (*loop.example/g01194/spec.l1Cur).cell -/
def spec_l1Cur_cell_c (Q : Type) (c3 : List Int) (c4 : Int) (c5 : Int) (k : (List Int × Int × Int) → Option Q) : Option Q :=
    let z_1 := (spec_l1Cur_one_p (40 : Int) c3 c4 c5)
    let z_2 := (Option.getD z_1 default)
    let z_3 := (spec_l1Cur_among_p [(-1 : Int), (4 : Int), (0 : Int)] c3 z_2.2.1 z_2.2.2)
    let z_4 := (Option.getD z_3 default)
    let z_5 := (spec_l1Cur_among_p [(4 : Int), (-1 : Int), (4611686018427387904 : Int)] c3 z_4.2.1 z_4.2.2)
    let z_6 := (Option.getD z_5 default)
    let z_7 := (spec_l1Cur_pick_p (4 : Int) c3 z_2.2.1 z_2.2.2)
    let z_8 := (Option.getD z_7 default)
    let z_9 := (spec_l1Cur_pick_p (4 : Int) c3 z_8.2.1 z_8.2.2)
    let z_10 := (Option.getD z_9 default)
    bif (Option.isSome z_1) then
    bif z_2.1 then
    bif (Option.isSome z_3) then
    bif (Option.isSome z_5) then
    k ([z_4.1, z_6.1], z_6.2.1, z_6.2.2)
    else none
    else none
    else bif (Option.isSome z_7) then
    bif (Option.isSome z_9) then
    k ([z_8.1, z_10.1], z_10.2.1, z_10.2.2)
    else none
    else none
    else none
def spec_l1Cur_cell_p (c3 : List Int) (c4 : Int) (c5 : Int) : Option (List Int × Int × Int) := spec_l1Cur_cell_c _ c3 c4 c5 some
theorem spec_l1Cur_cell_cp (Q : Type) (c3 : List Int) (c4 : Int) (c5 : Int) (k : (List Int × Int × Int) → Option Q) : spec_l1Cur_cell_c Q c3 c4 c5 k = (spec_l1Cur_cell_p c3 c4 c5).bind k := by
  simp only [spec_l1Cur_cell_p, spec_l1Cur_cell_c, cond_bindL, none_bindL, some_bindL]

/-- loop.example/g01194/spec.DrawPlaceTile -/
def spec_DrawPlaceTile_c (Q : Type) (F : Nat) (code0 : List Int) (k : (List Int × List Int) → Option Q) : Option Q :=
    let z_1 := (spec_l1Cur_among_p [(1 : Int), (2 : Int), (1 : Int), (2 : Int), (0 : Int), (3 : Int), (-1 : Int)] code0 (0 : Int) (0 : Int))
    let z_2 := (Option.getD z_1 default)
    let z_3 := (spec_l1Cur_tight_p F code0 z_2.2.1 z_2.2.2)
    let z_4 := (Option.getD z_3 default)
    let z_5 := (spec_l1Cur_cell_p code0 z_4.2.1 z_4.2.2)
    let z_6 := (spec_l2Empty_p F z_4.1)
    let z_7 : Nat := (List.length (Option.getD z_6 default))
    let z_8 : Int := ((z_7 : Nat) : Int)
    let z_9 := (Option.getD z_5 default)
    let z_10 := (spec_l1Cur_one_p (4 : Int) code0 z_9.2.1 z_9.2.2)
    let z_11 := (Option.getD z_10 default)
    let z_12 := (spec_l1Cur_pick_p z_8 code0 z_11.2.1 z_11.2.2)
    let z_13 : List Int := (rget (Option.getD z_6 default) ((0 : Nat) + (Int.toNat (Option.getD z_12 default).1)))
    let z_14 : List Int := [(iget z_9.1 0), (iget z_9.1 1), z_2.1]
    bif (Option.isSome z_1) then
    bif (Option.isSome z_3) then
    bif (Option.isSome z_5) then
    bif (Option.isSome z_6) then
    bif (decide ((0 : Int) < z_8)) then
    bif (Option.isSome z_10) then
    bif (!z_11.1) then
    bif (Option.isSome z_12) then
    bif (inR (Option.getD z_12 default).1 z_7) then
    k (z_4.1, [(iget z_13 0), (iget z_13 1), z_2.1])
    else none
    else none
    else k (z_4.1, z_14)
    else none
    else k (z_4.1, z_14)
    else none
    else none
    else none
    else none
def spec_DrawPlaceTile_p (F : Nat) (code0 : List Int) : Option (List Int × List Int) := spec_DrawPlaceTile_c _ F code0 some
theorem spec_DrawPlaceTile_cp (Q : Type) (F : Nat) (code0 : List Int) (k : (List Int × List Int) → Option Q) : spec_DrawPlaceTile_c Q F code0 k = (spec_DrawPlaceTile_p F code0).bind k := by
  simp only [spec_DrawPlaceTile_p, spec_DrawPlaceTile_c, cond_bindL, none_bindL, some_bindL]

/-- loop.example/g01194/impl.isCell -/
def impl_isCell_c (Q : Type) (cell0 : List Int) (k : (Bool) → Option Q) : Option Q :=
    bif (impl_in_v (iget cell0 0) (0 : Int) (3 : Int)) then
    k (impl_in_v (iget cell0 1) (0 : Int) (3 : Int))
    else k false
def impl_isCell_v (cell0 : List Int) : Bool :=
    bif (impl_in_v (iget cell0 0) (0 : Int) (3 : Int)) then
    (impl_in_v (iget cell0 1) (0 : Int) (3 : Int))
    else false
theorem impl_isCell_cv (Q : Type) (cell0 : List Int) (k : (Bool) → Option Q) : impl_isCell_c Q cell0 k = k (impl_isCell_v cell0) := by
  simp only [impl_isCell_c, impl_isCell_v, app_condL k]

/-- loop.example/g01194/impl.PutTile -/
def impl_PutTile_c (Q : Type) (F : Nat) (b0 : List Int) (cell1 : List Int) (t2 : Int) (k : (List Int × Bool) → Option Q) : Option Q :=
    let z_1 := (impl_IsBoard_p F b0)
    let z_2 : List Int := [(0 : Int), (0 : Int), (0 : Int), (0 : Int), (0 : Int), (0 : Int), (0 : Int), (0 : Int), (0 : Int), (0 : Int), (0 : Int), (0 : Int), (0 : Int), (0 : Int), (0 : Int), (0 : Int)]
    let z_3 := (impl_Board_at_p cell1 b0)
    let z_4 : Bool := (Option.isSome z_3)
    bif (Option.isSome z_1) then
    bif (!(Option.getD z_1 default)) then
    k (z_2, false)
    else bif (!(impl_isCell_v cell1)) then
    k (z_2, false)
    else bif (!(impl_in_v t2 (1 : Int) (17 : Int))) then
    k (z_2, false)
    else bif z_4 then
    bif (!((iget b0 (Option.getD z_3 default)) == (0 : Int))) then
    k (z_2, false)
    else bif z_4 then
    k ((iset b0 (Option.getD z_3 default) t2), true)
    else none
    else none
    else none
def impl_PutTile_p (F : Nat) (b0 : List Int) (cell1 : List Int) (t2 : Int) : Option (List Int × Bool) := impl_PutTile_c _ F b0 cell1 t2 some
theorem impl_PutTile_cp (Q : Type) (F : Nat) (b0 : List Int) (cell1 : List Int) (t2 : Int) (k : (List Int × Bool) → Option Q) : impl_PutTile_c Q F b0 cell1 t2 k = (impl_PutTile_p F b0 cell1 t2).bind k := by
  simp only [impl_PutTile_p, impl_PutTile_c, cond_bindL, none_bindL, some_bindL]

/-- loop.example/g01194/impl.PlaceTile -/
def impl_PlaceTile_c (Q : Type) (F : Nat) (b0 : List Int) (p1 : List Int) (k : (List Int × Bool) → Option Q) : Option Q :=
    let z_1 := (impl_PutTile_p F b0 [(iget p1 0), (iget p1 1)] (iget p1 2))
    let z_2 := (Option.getD z_1 default)
    bif (!(impl_in_v (iget p1 2) (1 : Int) (2 : Int))) then
    k ([(0 : Int), (0 : Int), (0 : Int), (0 : Int), (0 : Int), (0 : Int), (0 : Int), (0 : Int), (0 : Int), (0 : Int), (0 : Int), (0 : Int), (0 : Int), (0 : Int), (0 : Int), (0 : Int)], false)
    else bif (Option.isSome z_1) then
    k (z_2.1, z_2.2)
    else none
def impl_PlaceTile_p (F : Nat) (b0 : List Int) (p1 : List Int) : Option (List Int × Bool) := impl_PlaceTile_c _ F b0 p1 some
theorem impl_PlaceTile_cp (Q : Type) (F : Nat) (b0 : List Int) (p1 : List Int) (k : (List Int × Bool) → Option Q) : impl_PlaceTile_c Q F b0 p1 k = (impl_PlaceTile_p F b0 p1).bind k := by
  simp only [impl_PlaceTile_p, impl_PlaceTile_c, cond_bindL, none_bindL, some_bindL]

/-- loop.example/g01194/spec.l2Cell -/
def spec_l2Cell_c (Q : Type) (cell0 : List Int) (k : (Bool) → Option Q) : Option Q :=
    bif (spec_l1In_v (iget cell0 0) (0 : Int) (3 : Int)) then
    k (spec_l1In_v (iget cell0 1) (0 : Int) (3 : Int))
    else k false
def spec_l2Cell_v (cell0 : List Int) : Bool :=
    bif (spec_l1In_v (iget cell0 0) (0 : Int) (3 : Int)) then
    (spec_l1In_v (iget cell0 1) (0 : Int) (3 : Int))
    else false
theorem spec_l2Cell_cv (Q : Type) (cell0 : List Int) (k : (Bool) → Option Q) : spec_l2Cell_c Q cell0 k = k (spec_l2Cell_v cell0) := by
  simp only [spec_l2Cell_c, spec_l2Cell_v, app_condL k]

/-- loop.example/g01194/spec.l8Can -/
def spec_l8Can_c (Q : Type) (b0 : List Int) (p1 : List Int) (k : (Bool) → Option Q) : Option Q :=
    let z_1 : List Int := [(iget p1 0), (iget p1 1)]
    let z_2 := (spec_l2At_p b0 z_1)
    bif (spec_l2Cell_v z_1) then
    bif (spec_l1In_v (iget p1 2) (1 : Int) (2 : Int)) then
    bif (Option.isSome z_2) then
    k ((Option.getD z_2 default) == (0 : Int))
    else none
    else k false
    else k false
def spec_l8Can_p (b0 : List Int) (p1 : List Int) : Option (Bool) := spec_l8Can_c _ b0 p1 some
theorem spec_l8Can_cp (Q : Type) (b0 : List Int) (p1 : List Int) (k : (Bool) → Option Q) : spec_l8Can_c Q b0 p1 k = (spec_l8Can_p b0 p1).bind k := by
  simp only [spec_l8Can_p, spec_l8Can_c, cond_bindL, none_bindL, some_bindL]

/-- loop.example/g01194/spec.PlaceTile -/
def spec_PlaceTile_c (Q : Type) (F : Nat) (b0 : List Int) (p1 : List Int) (k : (List Int × Bool) → Option Q) : Option Q :=
    let z_1 := (spec_l2Board_p F b0)
    let z_2 : List Int := [(0 : Int), (0 : Int), (0 : Int), (0 : Int), (0 : Int), (0 : Int), (0 : Int), (0 : Int), (0 : Int), (0 : Int), (0 : Int), (0 : Int), (0 : Int), (0 : Int), (0 : Int), (0 : Int)]
    let z_3 := (spec_l8Can_p b0 p1)
    let z_4 := (spec_l8Put_p b0 p1)
    bif (Option.isSome z_1) then
    bif (!(Option.getD z_1 default)) then
    k (z_2, false)
    else bif (Option.isSome z_3) then
    bif (!(Option.getD z_3 default)) then
    k (z_2, false)
    else bif (Option.isSome z_4) then
    k ((Option.getD z_4 default), true)
    else none
    else none
    else none
def spec_PlaceTile_p (F : Nat) (b0 : List Int) (p1 : List Int) : Option (List Int × Bool) := spec_PlaceTile_c _ F b0 p1 some
theorem spec_PlaceTile_cp (Q : Type) (F : Nat) (b0 : List Int) (p1 : List Int) (k : (List Int × Bool) → Option Q) : spec_PlaceTile_c Q F b0 p1 k = (spec_PlaceTile_p F b0 p1).bind k := by
  simp only [spec_PlaceTile_p, spec_PlaceTile_c, cond_bindL, none_bindL, some_bindL]

/-- loop.example/g01194/impl.SlideBoard -/
def impl_SlideBoard_c (Q : Type) (F : Nat) (b0 : List Int) (direction1 : Int) (k : (List Int × Int × Bool) → Option Q) : Option Q :=
    let z_1 := (impl_IsBoard_p F b0)
    let z_2 : List Int := [(0 : Int), (0 : Int), (0 : Int), (0 : Int), (0 : Int), (0 : Int), (0 : Int), (0 : Int), (0 : Int), (0 : Int), (0 : Int), (0 : Int), (0 : Int), (0 : Int), (0 : Int), (0 : Int)]
    let z_3 := (impl_Board_slide_p F b0 direction1)
    let z_4 := (Option.getD z_3 default)
    bif (Option.isSome z_1) then
    bif (!(Option.getD z_1 default)) then
    k (z_2, (0 : Int), false)
    else bif (!(impl_isDirection_v direction1)) then
    k (z_2, (0 : Int), false)
    else bif (Option.isSome z_3) then
    k (z_4.1, z_4.2.1, true)
    else none
    else none
def impl_SlideBoard_p (F : Nat) (b0 : List Int) (direction1 : Int) : Option (List Int × Int × Bool) := impl_SlideBoard_c _ F b0 direction1 some
theorem impl_SlideBoard_cp (Q : Type) (F : Nat) (b0 : List Int) (direction1 : Int) (k : (List Int × Int × Bool) → Option Q) : impl_SlideBoard_c Q F b0 direction1 k = (impl_SlideBoard_p F b0 direction1).bind k := by
  simp only [impl_SlideBoard_p, impl_SlideBoard_c, cond_bindL, none_bindL, some_bindL]

/-- loop 22 of loop.example/g01194/laws.FnSureScores -/
def laws_FnSureScores_s22 (F : Nat) (code0 : List Int) (n4 : Int) (sure5 : Int) (best6 : Int) (one7 : Bool) (d11 : Int) (m12 : Int) (least16 : Int) (two17 : Bool) (b23 : List Int) (c24 : List Int) (reply25 : List Int) (all26 : List (List Int)) (want27 : List (List Int)) (Q : Type) : (Int) → ((Int) → Option Q) → ((Bool) → Option Q) → Option Q
  | i22, kn, kx =>
    bif (decide (i22 < (((List.length all26) : Nat) : Int))) then
    bif (inR i22 (List.length all26)) then
    bif (inR i22 (List.length want27)) then
    bif (!((rget all26 ((0 : Nat) + (Int.toNat i22))) == (rget want27 ((0 : Nat) + (Int.toNat i22))))) then
    kx true
    else kn (IntKind.wrap .i64 (i22 + (1 : Int)))
    else none
    else none
    else kx false
def laws_FnSureScores_l22 (F : Nat) (code0 : List Int) (n4 : Int) (sure5 : Int) (best6 : Int) (one7 : Bool) (d11 : Int) (m12 : Int) (least16 : Int) (two17 : Bool) (b23 : List Int) (c24 : List Int) (reply25 : List Int) (all26 : List (List Int)) (want27 : List (List Int)) (i22 : Int) : Option (Bool) := loopC (laws_FnSureScores_s22 F code0 n4 sure5 best6 one7 d11 m12 least16 two17 b23 c24 reply25 all26 want27) F i22 some
theorem laws_FnSureScores_s22_nat (F : Nat) (code0 : List Int) (n4 : Int) (sure5 : Int) (best6 : Int) (one7 : Bool) (d11 : Int) (m12 : Int) (least16 : Int) (two17 : Bool) (b23 : List Int) (c24 : List Int) (reply25 : List Int) (all26 : List (List Int)) (want27 : List (List Int)) : Natural (laws_FnSureScores_s22 F code0 n4 sure5 best6 one7 d11 m12 least16 two17 b23 c24 reply25 all26 want27) := by
  intro Q Q' s kn kx h
  simp only [laws_FnSureScores_s22, cond_bindL, none_bindL]
/-- loop.example/g01194/laws.FnSureScores -/
def laws_FnSureScores_c (Q : Type) (F : Nat) (code0 : List Int) (k : (Bool) → Option Q) : Option Q :=
    let z_1 := (spec_DrawSureScore_p F code0)
    let z_2 := (Option.getD z_1 default)
    let z_3 := (impl_SureScore_p F z_2.1 z_2.2)
    let z_4 := (spec_SureScore_p F z_2.1 z_2.2)
    let z_5 := (Option.getD z_3 default)
    let z_6 := (Option.getD z_4 default)
    let z_7 := (impl_BestSure_p F z_2.1 z_2.2)
    let z_8 := (spec_BestSure_p F z_2.1 z_2.2)
    let z_9 := (Option.getD z_7 default)
    let z_10 := (Option.getD z_8 default)
    let z_11 := (spec_DrawWorstReply_p F code0)
    let z_12 := (Option.getD z_11 default)
    let z_13 := (impl_WorstReply_p F z_12.1 z_12.2.1 z_12.2.2)
    let z_14 := (spec_WorstReply_p F z_12.1 z_12.2.1 z_12.2.2)
    let z_15 := (Option.getD z_13 default)
    let z_16 := (Option.getD z_14 default)
    let z_17 := (impl_PlacementsOf_p F z_12.1)
    let z_18 := (spec_PlacementsOf_p F z_12.1)
    let z_19 := (Option.getD z_17 default)
    let z_20 := (Option.getD z_18 default)
    let z_21 : Nat := (List.length z_19.2)
    let z_22 : Nat := (List.length z_20.2)
    let z_23 := (laws_FnSureScores_l22 F code0 z_2.2 z_5.1 z_9.1 z_9.2 z_12.2.1 z_12.2.2 z_15.2.1 z_15.2.2 z_2.1 z_12.1 z_15.1 z_19.2 z_20.2 (0 : Int))
    let z_24 := (spec_DrawPlaceTile_p F code0)
    let z_25 := (Option.getD z_24 default)
    let z_26 := (impl_PlaceTile_p F z_25.1 z_25.2)
    let z_27 := (spec_PlaceTile_p F z_25.1 z_25.2)
    let z_28 := (Option.getD z_26 default)
    let z_29 := (Option.getD z_27 default)
    let z_30 := (impl_SlideBoard_p F z_12.1 z_12.2.1)
    let z_31 := (Option.getD z_30 default)
    let z_32 := (impl_PlaceTile_p F z_31.1 z_15.1)
    let z_33 := (Option.getD z_32 default)
    let z_34 := (impl_SureScore_p F z_33.1 z_12.2.2)
    let z_35 := (Option.getD z_34 default)
    let z_36 : Bool := (!z_9.2)
    let z_37 := (impl_SlideBoard_p F z_2.1 z_9.1)
    let z_38 : Bool := (Option.isSome z_37)
    let z_39 := (impl_WorstReply_p F z_2.1 z_9.1 (IntKind.wrap .i64 (z_2.2 - (1 : Int))))
    let z_40 : Bool := (Option.isSome z_39)
    let z_41 := (Option.getD z_37 default)
    let z_42 := (Option.getD z_39 default)
    let z_43 : Bool := ((IntKind.wrap .i64 (z_41.2.1 + z_42.2.1)) == z_5.1)
    bif (laws_rBig_v code0) then
    k true
    else bif (Option.isSome z_1) then
    bif (Option.isSome z_3) then
    bif (Option.isSome z_4) then
    bif (!(z_5.1 == z_6.1)) then
    k false
    else bif (!(z_5.2 == z_6.2)) then
    k false
    else bif (Option.isSome z_7) then
    bif (Option.isSome z_8) then
    bif (!(z_9.1 == z_10.1)) then
    k false
    else bif (!(z_9.2 == z_10.2)) then
    k false
    else bif (Option.isSome z_11) then
    bif (Option.isSome z_13) then
    bif (Option.isSome z_14) then
    bif (!(z_15.1 == z_16.1)) then
    k false
    else bif (!(z_15.2.1 == z_16.2.1)) then
    k false
    else bif (!(z_15.2.2 == z_16.2.2)) then
    k false
    else bif (Option.isSome z_17) then
    bif (Option.isSome z_18) then
    bif (!(z_19.1 == z_20.1)) then
    k false
    else bif (!(((z_21 : Nat) : Int) == ((z_22 : Nat) : Int))) then
    k false
    else bif ((Nat.beq z_21 z_21) && ((Nat.beq z_22 z_22) && (Option.isSome z_23))) then
    bif (Option.getD z_23 default) then
    k false
    else bif (Option.isSome z_24) then
    bif (Option.isSome z_26) then
    bif (Option.isSome z_27) then
    bif (!(z_28.1 == z_29.1)) then
    k false
    else bif (!(z_28.2 == z_29.2)) then
    k false
    else bif z_15.2.2 then
    bif (Option.isSome z_30) then
    bif (Option.isSome z_32) then
    bif (Option.isSome z_34) then
    bif (!z_31.2.2) then
    k false
    else bif (!z_33.2) then
    k false
    else bif (!z_35.2) then
    k false
    else bif (!(z_35.1 == z_15.2.1)) then
    k false
    else bif z_36 then
    k true
    else bif z_38 then
    bif z_40 then
    bif z_41.2.2 then
    bif z_42.2.2 then
    k z_43
    else k false
    else k false
    else none
    else none
    else none
    else none
    else none
    else bif z_36 then
    k true
    else bif z_38 then
    bif z_40 then
    bif z_41.2.2 then
    bif z_42.2.2 then
    k z_43
    else k false
    else k false
    else none
    else none
    else none
    else none
    else none
    else none
    else none
    else none
    else none
    else none
    else none
    else none
    else none
    else none
    else none
    else none
def laws_FnSureScores_p (F : Nat) (code0 : List Int) : Option (Bool) := laws_FnSureScores_c _ F code0 some
theorem laws_FnSureScores_cp (Q : Type) (F : Nat) (code0 : List Int) (k : (Bool) → Option Q) : laws_FnSureScores_c Q F code0 k = (laws_FnSureScores_p F code0).bind k := by
  simp only [laws_FnSureScores_p, laws_FnSureScores_c, cond_bindL, none_bindL, some_bindL]
end Go.Lv.P
