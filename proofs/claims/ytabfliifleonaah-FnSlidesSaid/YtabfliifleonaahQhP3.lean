/-
Pure functions and what the code of them does, by program; without conditions.
-/
import Derived.Test.YtabfliifleonaahQhP2
namespace Go.Lv.P
open Go Go.Lv
set_option linter.unusedVariables false
set_option linter.unusedSimpArgs false
set_option maxRecDepth 100000
/-- loop 3 of loop.example/g01194/spec.l5Made -/
def spec_l5Made_s3 (F : Nat) (list0 : List Int) (Q : Type) : (Int × Int × List Int) → ((Int × Int × List Int) → Option Q) → ((Int × List Int) → Option Q) → Option Q
  | (sum7, i8, b9), kn, kx =>
    let z_1 := (spec_l2Slide_p F b9 (iget list0 (Int.toNat i8)))
    let z_2 := (Option.getD z_1 default)
    bif (decide (i8 < (((List.length list0) : Nat) : Int))) then
    bif (inR i8 (List.length list0)) then
    bif (Option.isSome z_1) then
    kn ((IntKind.wrap .i64 (sum7 + z_2.2)), (IntKind.wrap .i64 (i8 + (1 : Int))), z_2.1)
    else none
    else none
    else kx (sum7, b9)
def spec_l5Made_l3 (F : Nat) (list0 : List Int) (sum7 : Int) (i8 : Int) (b9 : List Int) : Option (Int × List Int) := loopC (spec_l5Made_s3 F list0) F (sum7, i8, b9) some
theorem spec_l5Made_s3_nat (F : Nat) (list0 : List Int) : Natural (spec_l5Made_s3 F list0) := by
  intro Q Q' s kn kx h
  obtain ⟨sum7, i8, b9⟩ := s
  simp only [spec_l5Made_s3, cond_bindL, none_bindL]
/-- loop.example/g01194/spec.l5Made -/
def spec_l5Made_c (Q : Type) (F : Nat) (b0 : List Int) (list1 : List Int) (k : (List Int × Int) → Option Q) : Option Q :=
    let z_1 := (spec_l5Made_l3 F list1 (0 : Int) (0 : Int) b0)
    let z_2 := (Option.getD z_1 default)
    bif (Option.isSome z_1) then
    k (z_2.2, z_2.1)
    else none
def spec_l5Made_p (F : Nat) (b0 : List Int) (list1 : List Int) : Option (List Int × Int) := spec_l5Made_c _ F b0 list1 some
theorem spec_l5Made_cp (Q : Type) (F : Nat) (b0 : List Int) (list1 : List Int) (k : (List Int × Int) → Option Q) : spec_l5Made_c Q F b0 list1 k = (spec_l5Made_p F b0 list1).bind k := by
  simp only [spec_l5Made_p, spec_l5Made_c, cond_bindL, none_bindL, some_bindL]

/-- loop.example/g01194/spec.DoSlides -/
def spec_DoSlides_c (Q : Type) (F : Nat) (b0 : List Int) (list1 : List Int) (k : (List Int × Int × Bool) → Option Q) : Option Q :=
    let z_1 := (spec_l2Board_p F b0)
    let z_2 : List Int := [(0 : Int), (0 : Int), (0 : Int), (0 : Int), (0 : Int), (0 : Int), (0 : Int), (0 : Int), (0 : Int), (0 : Int), (0 : Int), (0 : Int), (0 : Int), (0 : Int), (0 : Int), (0 : Int)]
    let z_3 := (spec_l5Sides_p F list1)
    let z_4 := (spec_l5Made_p F b0 list1)
    let z_5 := (Option.getD z_4 default)
    bif (Option.isSome z_1) then
    bif (!(Option.getD z_1 default)) then
    k (z_2, (0 : Int), false)
    else bif (Option.isSome z_3) then
    bif (!(Option.getD z_3 default)) then
    k (z_2, (0 : Int), false)
    else bif (Option.isSome z_4) then
    k (z_5.1, z_5.2, true)
    else none
    else none
    else none
def spec_DoSlides_p (F : Nat) (b0 : List Int) (list1 : List Int) : Option (List Int × Int × Bool) := spec_DoSlides_c _ F b0 list1 some
theorem spec_DoSlides_cp (Q : Type) (F : Nat) (b0 : List Int) (list1 : List Int) (k : (List Int × Int × Bool) → Option Q) : spec_DoSlides_c Q F b0 list1 k = (spec_DoSlides_p F b0 list1).bind k := by
  simp only [spec_DoSlides_p, spec_DoSlides_c, cond_bindL, none_bindL, some_bindL]

/-- loop.example/g01194/laws.vCut -/
def laws_vCut_c (Q : Type) (code0 : List Int) (n1 : Int) (k : (List Int) → Option Q) : Option Q :=
    let z_1 : List Int := (subn (List.length code0) code0 (List.length code0) ((List.length code0) - (List.length code0)))
    let z_2 : Nat := (List.length z_1)
    let z_3 : List Int := ((subn z_2 z_1 0 z_2) ++ [(IntKind.wrap .u8 (((List.length code0) : Nat) : Int))])
    let z_4 : List Int := (subn (List.length code0) code0 (Int.toNat n1) ((List.length code0) - (Int.toNat n1)))
    let z_5 : Nat := (List.length z_4)
    let z_6 : List Int := ((subn z_5 z_4 0 z_5) ++ [(IntKind.wrap .u8 n1)])
    bif (decide ((((List.length code0) : Nat) : Int) < n1)) then
    bif (inLe (((List.length code0) : Nat) : Int) (List.length code0)) then
    bif (fits z_2 1) then
    bif (fits (List.length z_3) 1) then
    k z_3
    else none
    else none
    else none
    else bif (inLe n1 (List.length code0)) then
    bif (fits z_5 1) then
    bif (fits (List.length z_6) 1) then
    k z_6
    else none
    else none
    else none
def laws_vCut_p (code0 : List Int) (n1 : Int) : Option (List Int) := laws_vCut_c _ code0 n1 some
theorem laws_vCut_cp (Q : Type) (code0 : List Int) (n1 : Int) (k : (List Int) → Option Q) : laws_vCut_c Q code0 n1 k = (laws_vCut_p code0 n1).bind k := by
  simp only [laws_vCut_p, laws_vCut_c, cond_bindL, none_bindL, some_bindL]

/-- loop 4 of loop.example/g01194/spec.DrawSlideCycle -/
def spec_DrawSlideCycle_s4 (F : Nat) (c10 : List Int) (Q : Type) : (Int × Int × Int × List Int) → ((Int × Int × Int × List Int) → Option Q) → ((Int × Int × List Int) → Option Q) → Option Q
  | (n8, c11, c12, list13), kn, kx =>
    let z_1 := (spec_l1Cur_side_p c10 c11 c12)
    let z_2 := (Option.getD z_1 default)
    let z_3 : List Int := ((subn (List.length list13) list13 0 (List.length list13)) ++ [z_2.1])
    bif (decide ((0 : Int) < n8)) then
    bif (Option.isSome z_1) then
    bif (fits (List.length z_3) 8) then
    kn ((IntKind.wrap .i64 (n8 - (1 : Int))), z_2.2.1, z_2.2.2, z_3)
    else none
    else none
    else kx (c11, c12, list13)
def spec_DrawSlideCycle_l4 (F : Nat) (c10 : List Int) (n8 : Int) (c11 : Int) (c12 : Int) (list13 : List Int) : Option (Int × Int × List Int) := loopC (spec_DrawSlideCycle_s4 F c10) F (n8, c11, c12, list13) some
theorem spec_DrawSlideCycle_s4_nat (F : Nat) (c10 : List Int) : Natural (spec_DrawSlideCycle_s4 F c10) := by
  intro Q Q' s kn kx h
  obtain ⟨n8, c11, c12, list13⟩ := s
  simp only [spec_DrawSlideCycle_s4, cond_bindL, none_bindL]
/-- loop.example/g01194/spec.DrawSlideCycle -/
def spec_DrawSlideCycle_c (Q : Type) (F : Nat) (code0 : List Int) (k : (List Int × List Int) → Option Q) : Option Q :=
    let z_1 := (spec_l1Cur_among_p [(2 : Int), (4 : Int), (1 : Int), (3 : Int), (2 : Int), (4 : Int), (0 : Int), (5 : Int)] code0 (0 : Int) (0 : Int))
    let z_2 := (Option.getD z_1 default)
    let z_3 := (spec_DrawSlideCycle_l4 F code0 z_2.1 z_2.2.1 z_2.2.2 ([] : List Int))
    let z_4 := (Option.getD z_3 default)
    let z_5 := (spec_l1Cur_board_p F code0 z_4.1 z_4.2.1)
    bif (Option.isSome z_1) then
    bif (Option.isSome z_3) then
    bif (Option.isSome z_5) then
    k ((Option.getD z_5 default).1, z_4.2.2)
    else none
    else none
    else none
def spec_DrawSlideCycle_p (F : Nat) (code0 : List Int) : Option (List Int × List Int) := spec_DrawSlideCycle_c _ F code0 some
theorem spec_DrawSlideCycle_cp (Q : Type) (F : Nat) (code0 : List Int) (k : (List Int × List Int) → Option Q) : spec_DrawSlideCycle_c Q F code0 k = (spec_DrawSlideCycle_p F code0).bind k := by
  simp only [spec_DrawSlideCycle_p, spec_DrawSlideCycle_c, cond_bindL, none_bindL, some_bindL]

/-- loop 2 of slices.Index[[]loop.example/g01194/impl.Board,loop.example/g01194/impl.Board] -/
def slices_Index_implBoardimplBoard_s2 (F : Nat) (s0 : List (List Int)) (t74 : Int) (v6 : List Int) (Q : Type) : (Int) → ((Int) → Option Q) → ((Bool × Int) → Option Q) → Option Q
  | t85, kn, kx =>
    bif (decide (t85 < t74)) then
    bif (inR t85 (List.length s0)) then
    bif (v6 == (rget s0 (Int.toNat t85))) then
    kx (true, t85)
    else kn (IntKind.wrap .i64 (t85 + (1 : Int)))
    else none
    else kx (false, default)
def slices_Index_implBoardimplBoard_l2 (F : Nat) (s0 : List (List Int)) (t74 : Int) (v6 : List Int) (t85 : Int) : Option (Bool × Int) := loopC (slices_Index_implBoardimplBoard_s2 F s0 t74 v6) F t85 some
theorem slices_Index_implBoardimplBoard_s2_nat (F : Nat) (s0 : List (List Int)) (t74 : Int) (v6 : List Int) : Natural (slices_Index_implBoardimplBoard_s2 F s0 t74 v6) := by
  intro Q Q' s kn kx h
  simp only [slices_Index_implBoardimplBoard_s2, cond_bindL, none_bindL]
/-- slices.Index[[]loop.example/g01194/impl.Board,loop.example/g01194/impl.Board] -/
def slices_Index_implBoardimplBoard_c (Q : Type) (F : Nat) (s0 : List (List Int)) (v1 : List Int) (k : (Int) → Option Q) : Option Q :=
    let z_1 := (slices_Index_implBoardimplBoard_l2 F s0 (((List.length s0) : Nat) : Int) v1 (0 : Int))
    let z_2 := (Option.getD z_1 default)
    bif (Option.isSome z_1) then
    bif z_2.1 then
    k z_2.2
    else k (-1 : Int)
    else none
def slices_Index_implBoardimplBoard_p (F : Nat) (s0 : List (List Int)) (v1 : List Int) : Option (Int) := slices_Index_implBoardimplBoard_c _ F s0 v1 some
theorem slices_Index_implBoardimplBoard_cp (Q : Type) (F : Nat) (s0 : List (List Int)) (v1 : List Int) (k : (Int) → Option Q) : slices_Index_implBoardimplBoard_c Q F s0 v1 k = (slices_Index_implBoardimplBoard_p F s0 v1).bind k := by
  simp only [slices_Index_implBoardimplBoard_p, slices_Index_implBoardimplBoard_c, cond_bindL, none_bindL, some_bindL]

/-- loop 2 of (loop.example/g01194/impl.Board).slides -/
def impl_Board_slides_s2 (F : Nat) (t76 : List Int) (t87 : Int) (Q : Type) : (Int × List Int) → ((Int × List Int) → Option Q) → ((List Int) → Option Q) → Option Q
  | (t98, b9), kn, kx =>
    let z_1 := (impl_Board_slide_p F b9 (iget t76 (Int.toNat t98)))
    bif (decide (t98 < t87)) then
    bif (inR t98 (List.length t76)) then
    bif (Option.isSome z_1) then
    kn ((IntKind.wrap .i64 (t98 + (1 : Int))), (Option.getD z_1 default).1)
    else none
    else none
    else kx b9
def impl_Board_slides_l2 (F : Nat) (t76 : List Int) (t87 : Int) (t98 : Int) (b9 : List Int) : Option (List Int) := loopC (impl_Board_slides_s2 F t76 t87) F (t98, b9) some
theorem impl_Board_slides_s2_nat (F : Nat) (t76 : List Int) (t87 : Int) : Natural (impl_Board_slides_s2 F t76 t87) := by
  intro Q Q' s kn kx h
  obtain ⟨t98, b9⟩ := s
  simp only [impl_Board_slides_s2, cond_bindL, none_bindL]
/-- (loop.example/g01194/impl.Board).slides -/
def impl_Board_slides_c (Q : Type) (F : Nat) (b0 : List Int) (list1 : List Int) (k : (List Int) → Option Q) : Option Q :=
    let z_1 := (impl_Board_slides_l2 F list1 (((List.length list1) : Nat) : Int) (0 : Int) b0)
    bif (Option.isSome z_1) then
    k (Option.getD z_1 default)
    else none
def impl_Board_slides_p (F : Nat) (b0 : List Int) (list1 : List Int) : Option (List Int) := impl_Board_slides_c _ F b0 list1 some
theorem impl_Board_slides_cp (Q : Type) (F : Nat) (b0 : List Int) (list1 : List Int) (k : (List Int) → Option Q) : impl_Board_slides_c Q F b0 list1 k = (impl_Board_slides_p F b0 list1).bind k := by
  simp only [impl_Board_slides_p, impl_Board_slides_c, cond_bindL, none_bindL, some_bindL]

/-- loop 5 of loop.example/g01194/impl.SlideCycle -/
def impl_SlideCycle_s5 (F : Nat) (list0 : List Int) (Q : Type) : (List Int × List (List Int)) → ((List Int × List (List Int)) → Option Q) → ((Int × Int) → Option Q) → Option Q
  | (b6, seen7), kn, kx =>
    let z_1 : List (List Int) := (subn (List.length seen7) seen7 0 (List.length seen7))
    let z_2 := (slices_Index_implBoardimplBoard_p F z_1 b6)
    let z_3 : List (List Int) := (z_1 ++ [b6])
    let z_4 := (impl_Board_slides_p F b6 list0)
    bif (Option.isSome z_2) then
    bif (decide ((0 : Int) ≤ (Option.getD z_2 default))) then
    kx ((Option.getD z_2 default), (IntKind.wrap .i64 ((((List.length seen7) : Nat) : Int) - (Option.getD z_2 default))))
    else bif (fits (List.length z_3) 128) then
    bif (Option.isSome z_4) then
    kn ((Option.getD z_4 default), z_3)
    else none
    else none
    else none
def impl_SlideCycle_l5 (F : Nat) (list0 : List Int) (b6 : List Int) (seen7 : List (List Int)) : Option (Int × Int) := loopC (impl_SlideCycle_s5 F list0) F (b6, seen7) some
theorem impl_SlideCycle_s5_nat (F : Nat) (list0 : List Int) : Natural (impl_SlideCycle_s5 F list0) := by
  intro Q Q' s kn kx h
  obtain ⟨b6, seen7⟩ := s
  simp only [impl_SlideCycle_s5, cond_bindL, none_bindL]
/-- loop.example/g01194/impl.SlideCycle -/
def impl_SlideCycle_c (Q : Type) (F : Nat) (b0 : List Int) (list1 : List Int) (k : (Int × Int × Bool) → Option Q) : Option Q :=
    let z_1 := (impl_IsBoard_p F b0)
    let z_2 := (impl_areDirections_p F list1)
    let z_3 := (impl_SlideCycle_l5 F list1 b0 ([] : List (List Int)))
    let z_4 := (Option.getD z_3 default)
    bif (Option.isSome z_1) then
    bif (!(Option.getD z_1 default)) then
    k ((0 : Int), (0 : Int), false)
    else bif (!(impl_in_v (((List.length list1) : Nat) : Int) (1 : Int) (4 : Int))) then
    k ((0 : Int), (0 : Int), false)
    else bif (Option.isSome z_2) then
    bif (!(Option.getD z_2 default)) then
    k ((0 : Int), (0 : Int), false)
    else bif (Option.isSome z_3) then
    k (z_4.1, z_4.2, true)
    else none
    else none
    else none
def impl_SlideCycle_p (F : Nat) (b0 : List Int) (list1 : List Int) : Option (Int × Int × Bool) := impl_SlideCycle_c _ F b0 list1 some
theorem impl_SlideCycle_cp (Q : Type) (F : Nat) (b0 : List Int) (list1 : List Int) (k : (Int × Int × Bool) → Option Q) : impl_SlideCycle_c Q F b0 list1 k = (impl_SlideCycle_p F b0 list1).bind k := by
  simp only [impl_SlideCycle_p, impl_SlideCycle_c, cond_bindL, none_bindL, some_bindL]

/-- loop 6 of loop.example/g01194/spec.SlideCycle -/
def spec_SlideCycle_s6 (F : Nat) (list0 : List Int) (seen7 : List (List Int)) (next8 : List Int) (Q : Type) : (Int) → ((Int) → Option Q) → ((Bool × Int × Int) → Option Q) → Option Q
  | i6, kn, kx =>
    bif (decide (i6 < (((List.length seen7) : Nat) : Int))) then
    bif (inR i6 (List.length seen7)) then
    bif ((rget seen7 ((0 : Nat) + (Int.toNat i6))) == next8) then
    kx (true, i6, (IntKind.wrap .i64 ((((List.length seen7) : Nat) : Int) - i6)))
    else kn (IntKind.wrap .i64 (i6 + (1 : Int)))
    else none
    else kx (false, default, default)
def spec_SlideCycle_l6 (F : Nat) (list0 : List Int) (seen7 : List (List Int)) (next8 : List Int) (i6 : Int) : Option (Bool × Int × Int) := loopC (spec_SlideCycle_s6 F list0 seen7 next8) F i6 some
theorem spec_SlideCycle_s6_nat (F : Nat) (list0 : List Int) (seen7 : List (List Int)) (next8 : List Int) : Natural (spec_SlideCycle_s6 F list0 seen7 next8) := by
  intro Q Q' s kn kx h
  simp only [spec_SlideCycle_s6, cond_bindL, none_bindL]
/-- loop 4 of loop.example/g01194/spec.SlideCycle -/
def spec_SlideCycle_s4 (F : Nat) (list0 : List Int) (Q : Type) : (List (List Int)) → ((List (List Int)) → Option Q) → ((Int × Int) → Option Q) → Option Q
  | seen3, kn, kx =>
    let z_1 : Int := (IntKind.wrap .i64 ((((List.length seen3) : Nat) : Int) - (1 : Int)))
    let z_2 := (spec_l5Made_p F (rget seen3 ((0 : Nat) + (Int.toNat z_1))) list0)
    let z_3 := (spec_SlideCycle_l6 F list0 seen3 (Option.getD z_2 default).1 (0 : Int))
    let z_4 := (Option.getD z_3 default)
    let z_5 : List (List Int) := ((subn (List.length seen3) seen3 0 (List.length seen3)) ++ [(Option.getD z_2 default).1])
    bif (inR z_1 (List.length seen3)) then
    bif (Option.isSome z_2) then
    bif ((Nat.beq (List.length seen3) (List.length seen3)) && (Option.isSome z_3)) then
    bif z_4.1 then
    kx (z_4.2.1, z_4.2.2)
    else bif (fits (List.length z_5) 128) then
    kn z_5
    else none
    else none
    else none
    else none
def spec_SlideCycle_l4 (F : Nat) (list0 : List Int) (seen3 : List (List Int)) : Option (Int × Int) := loopC (spec_SlideCycle_s4 F list0) F seen3 some
theorem spec_SlideCycle_s4_nat (F : Nat) (list0 : List Int) : Natural (spec_SlideCycle_s4 F list0) := by
  intro Q Q' s kn kx h
  simp only [spec_SlideCycle_s4, cond_bindL, none_bindL]
/-- loop.example/g01194/spec.SlideCycle -/
def spec_SlideCycle_c (Q : Type) (F : Nat) (b0 : List Int) (list1 : List Int) (k : (Int × Int × Bool) → Option Q) : Option Q :=
    let z_1 := (spec_l2Board_p F b0)
    let z_2 := (spec_l5Sides_p F list1)
    let z_3 := (spec_SlideCycle_l4 F list1 [b0])
    let z_4 := (Option.getD z_3 default)
    bif (Option.isSome z_1) then
    bif (!(Option.getD z_1 default)) then
    k ((0 : Int), (0 : Int), false)
    else bif (!(spec_l1In_v (((List.length list1) : Nat) : Int) (1 : Int) (4 : Int))) then
    k ((0 : Int), (0 : Int), false)
    else bif (Option.isSome z_2) then
    bif (!(Option.getD z_2 default)) then
    k ((0 : Int), (0 : Int), false)
    else bif (Option.isSome z_3) then
    k (z_4.1, z_4.2, true)
    else none
    else none
    else none
def spec_SlideCycle_p (F : Nat) (b0 : List Int) (list1 : List Int) : Option (Int × Int × Bool) := spec_SlideCycle_c _ F b0 list1 some
theorem spec_SlideCycle_cp (Q : Type) (F : Nat) (b0 : List Int) (list1 : List Int) (k : (Int × Int × Bool) → Option Q) : spec_SlideCycle_c Q F b0 list1 k = (spec_SlideCycle_p F b0 list1).bind k := by
  simp only [spec_SlideCycle_p, spec_SlideCycle_c, cond_bindL, none_bindL, some_bindL]

/-- loop.example/g01194/spec.DrawHighestBySlides -/
def spec_DrawHighestBySlides_c (Q : Type) (F : Nat) (code0 : List Int) (k : (List Int) → Option Q) : Option Q :=
    let z_1 := (spec_l1Cur_board_p F code0 (0 : Int) (0 : Int))
    bif (Option.isSome z_1) then
    k (Option.getD z_1 default).1
    else none
def spec_DrawHighestBySlides_p (F : Nat) (code0 : List Int) : Option (List Int) := spec_DrawHighestBySlides_c _ F code0 some
theorem spec_DrawHighestBySlides_cp (Q : Type) (F : Nat) (code0 : List Int) (k : (List Int) → Option Q) : spec_DrawHighestBySlides_c Q F code0 k = (spec_DrawHighestBySlides_p F code0).bind k := by
  simp only [spec_DrawHighestBySlides_p, spec_DrawHighestBySlides_c, cond_bindL, none_bindL, some_bindL]

/-- loop 8 of (loop.example/g01194/impl.Board).reach -/
def impl_Board_reach_s8 (F : Nat) (n0 : Int) (from3 : Int) (own10 : List Int) (Q : Type) : (Int × List (List Int × List Int) × List (List Int)) → ((Int × List (List Int × List Int) × List (List Int)) → Option Q) → ((List (List Int × List Int) × List (List Int)) → Option Q) → Option Q
  | (t367, lists8, order9), kn, kx =>
    let z_1 := (impl_Board_slides_p F own10 [t367])
    let z_2 : List Int := (Option.getD (mlook own10 lists8) [])
    let z_3 : Nat := (List.length z_2)
    let z_4 : List Int := ((subn z_3 z_2 0 z_3) ++ [t367])
    let z_5 : Nat := (List.length z_4)
    let z_6 : List (List Int) := ((subn (List.length order9) order9 0 (List.length order9)) ++ [(Option.getD z_1 default)])
    let z_7 : Int := (IntKind.wrap .i64 (t367 + (1 : Int)))
    bif (decide (t367 < (4 : Int))) then
    bif (Option.isSome z_1) then
    bif (!(Option.isSome (mlook (Option.getD z_1 default) lists8))) then
    bif (fits z_3 8) then
    bif (fits z_5 8) then
    bif (fits (List.length z_6) 128) then
    kn (z_7, (mput (Option.getD z_1 default) (subn z_5 z_4 0 z_5) lists8), z_6)
    else none
    else none
    else none
    else kn (z_7, lists8, order9)
    else none
    else kx (lists8, order9)
def impl_Board_reach_l8 (F : Nat) (n0 : Int) (from3 : Int) (own10 : List Int) (t367 : Int) (lists8 : List (List Int × List Int)) (order9 : List (List Int)) : Option (List (List Int × List Int) × List (List Int)) := loopC (impl_Board_reach_s8 F n0 from3 own10) F (t367, lists8, order9) some
theorem impl_Board_reach_s8_nat (F : Nat) (n0 : Int) (from3 : Int) (own10 : List Int) : Natural (impl_Board_reach_s8 F n0 from3 own10) := by
  intro Q Q' s kn kx h
  obtain ⟨t367, lists8, order9⟩ := s
  simp only [impl_Board_reach_s8, cond_bindL, none_bindL]
/-- loop 3 of (loop.example/g01194/impl.Board).reach -/
def impl_Board_reach_s3 (F : Nat) (n0 : Int) (Q : Type) : (Int × List (List Int × List Int) × List (List Int)) → ((Int × List (List Int × List Int) × List (List Int)) → Option Q) → ((List (List Int × List Int) × List (List Int)) → Option Q) → Option Q
  | (from3, lists4, order5), kn, kx =>
    let z_1 : List Int := (rget order5 ((0 : Nat) + (Int.toNat from3)))
    let z_2 := (impl_Board_reach_l8 F n0 from3 z_1 (0 : Int) lists4 order5)
    let z_3 := (Option.getD z_2 default)
    bif (decide (from3 < (((List.length order5) : Nat) : Int))) then
    bif (inR from3 (List.length order5)) then
    bif ((((List.length (Option.getD (mlook z_1 lists4) [])) : Nat) : Int) == n0) then
    kx (lists4, order5)
    else bif ((Nat.beq (List.length order5) (List.length order5)) && (Option.isSome z_2)) then
    kn ((IntKind.wrap .i64 (from3 + (1 : Int))), z_3.1, z_3.2)
    else none
    else none
    else kx (lists4, order5)
def impl_Board_reach_l3 (F : Nat) (n0 : Int) (from3 : Int) (lists4 : List (List Int × List Int)) (order5 : List (List Int)) : Option (List (List Int × List Int) × List (List Int)) := loopC (impl_Board_reach_s3 F n0) F (from3, lists4, order5) some
theorem impl_Board_reach_s3_nat (F : Nat) (n0 : Int) : Natural (impl_Board_reach_s3 F n0) := by
  intro Q Q' s kn kx h
  obtain ⟨from3, lists4, order5⟩ := s
  simp only [impl_Board_reach_s3, cond_bindL, none_bindL]
/-- (loop.example/g01194/impl.Board).reach -/
def impl_Board_reach_c (Q : Type) (F : Nat) (b0 : List Int) (n1 : Int) (k : (List (List Int × List Int) × List (List Int)) → Option Q) : Option Q :=
    let z_1 := (impl_Board_reach_l3 F n1 (0 : Int) (mput b0 ([] : List Int) ([] : List (List Int × List Int))) [b0])
    let z_2 := (Option.getD z_1 default)
    bif (Option.isSome z_1) then
    k (z_2.1, z_2.2)
    else none
def impl_Board_reach_p (F : Nat) (b0 : List Int) (n1 : Int) : Option (List (List Int × List Int) × List (List Int)) := impl_Board_reach_c _ F b0 n1 some
theorem impl_Board_reach_cp (Q : Type) (F : Nat) (b0 : List Int) (n1 : Int) (k : (List (List Int × List Int) × List (List Int)) → Option Q) : impl_Board_reach_c Q F b0 n1 k = (impl_Board_reach_p F b0 n1).bind k := by
  simp only [impl_Board_reach_p, impl_Board_reach_c, cond_bindL, none_bindL, some_bindL]

/-- loop.example/g01194/impl.cells -/
def impl_cells_c (Q : Type) (k : (Unit) → Option Q) : Option Q :=
    k ()
def impl_cells_v : Unit :=
    ()
theorem impl_cells_cv (Q : Type) (k : (Unit) → Option Q) : impl_cells_c Q k = k (impl_cells_v) := by
  simp only [impl_cells_c, impl_cells_v, app_condL k]
end Go.Lv.P
