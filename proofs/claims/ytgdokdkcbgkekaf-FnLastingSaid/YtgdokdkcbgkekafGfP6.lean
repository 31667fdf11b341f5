/-
Pure functions and what the code of them does, by program; without conditions.
-/
import Derived.Test.YtgdokdkcbgkekafGfP5
namespace Go.Lv.P
open Go Go.Lv
set_option linter.unusedVariables false
set_option linter.unusedSimpArgs false
set_option maxRecDepth 100000
/-- loop 4 of loop.example/g01194/laws.rInts -/
def laws_rInts_s4 (F : Nat) (a0 : List Int) (b1 : List Int) (Q : Type) : (Int) → ((Int) → Option Q) → ((Bool) → Option Q) → Option Q
  | i2, kn, kx =>
    bif (decide (i2 < (((List.length a0) : Nat) : Int))) then
    bif (inR i2 (List.length a0)) then
    bif (inR i2 (List.length b1)) then
    bif (!((iget a0 (Int.toNat i2)) == (iget b1 (Int.toNat i2)))) then
    kx true
    else kn (IntKind.wrap .i64 (i2 + (1 : Int)))
    else none
    else none
    else kx false
def laws_rInts_l4 (F : Nat) (a0 : List Int) (b1 : List Int) (i2 : Int) : Option (Bool) := loopC (laws_rInts_s4 F a0 b1) F i2 some
theorem laws_rInts_s4_nat (F : Nat) (a0 : List Int) (b1 : List Int) : Natural (laws_rInts_s4 F a0 b1) := by
  intro Q Q' s kn kx h
  simp only [laws_rInts_s4, cond_bindL, none_bindL]
/-- loop.example/g01194/laws.rInts -/
def laws_rInts_c (Q : Type) (F : Nat) (a0 : List Int) (b1 : List Int) (k : (Bool) → Option Q) : Option Q :=
    let z_1 := (laws_rInts_l4 F a0 b1 (0 : Int))
    bif (!((((List.length a0) : Nat) : Int) == (((List.length b1) : Nat) : Int))) then
    k false
    else bif (Option.isSome z_1) then
    bif (Option.getD z_1 default) then
    k false
    else k true
    else none
def laws_rInts_p (F : Nat) (a0 : List Int) (b1 : List Int) : Option (Bool) := laws_rInts_c _ F a0 b1 some
theorem laws_rInts_cp (Q : Type) (F : Nat) (a0 : List Int) (b1 : List Int) (k : (Bool) → Option Q) : laws_rInts_c Q F a0 b1 k = (laws_rInts_p F a0 b1).bind k := by
  simp only [laws_rInts_p, laws_rInts_c, cond_bindL, none_bindL, some_bindL]

/-- (*loop.example/g01194/spec.l1Cur).side -/
def spec_l1Cur_side_c (Q : Type) (c3 : List Int) (c4 : Int) (c5 : Int) (k : (Int × Int × Int) → Option Q) : Option Q :=
    let z_1 := (spec_l1Cur_one_p (40 : Int) c3 c4 c5)
    let z_2 := (Option.getD z_1 default)
    let z_3 := (spec_l1Cur_among_p [(-1 : Int), (4 : Int), (4611686018427387904 : Int)] c3 z_2.2.1 z_2.2.2)
    let z_4 := (Option.getD z_3 default)
    let z_5 := (spec_l1Cur_pick_p (4 : Int) c3 z_2.2.1 z_2.2.2)
    let z_6 := (Option.getD z_5 default)
    bif (Option.isSome z_1) then
    bif z_2.1 then
    bif (Option.isSome z_3) then
    k (z_4.1, z_4.2.1, z_4.2.2)
    else none
    else bif (Option.isSome z_5) then
    k (z_6.1, z_6.2.1, z_6.2.2)
    else none
    else none
def spec_l1Cur_side_p (c3 : List Int) (c4 : Int) (c5 : Int) : Option (Int × Int × Int) := spec_l1Cur_side_c _ c3 c4 c5 some
theorem spec_l1Cur_side_cp (Q : Type) (c3 : List Int) (c4 : Int) (c5 : Int) (k : (Int × Int × Int) → Option Q) : spec_l1Cur_side_c Q c3 c4 c5 k = (spec_l1Cur_side_p c3 c4 c5).bind k := by
  simp only [spec_l1Cur_side_p, spec_l1Cur_side_c, cond_bindL, none_bindL, some_bindL]

/-- loop.example/g01194/spec.DrawRefuteMove -/
def spec_DrawRefuteMove_c (Q : Type) (F : Nat) (code0 : List Int) (k : (List Int × Int × Int) → Option Q) : Option Q :=
    let z_1 := (spec_DrawLasts_p F code0)
    let z_2 := (Option.getD z_1 default)
    bif (Option.isSome z_1) then
    bif (Option.isSome (spec_l1Cur_side_p code0 (0 : Int) (0 : Int))) then
    k (z_2.1, (Option.getD (spec_l1Cur_side_p code0 (0 : Int) (0 : Int)) default).1, z_2.2)
    else none
    else none
def spec_DrawRefuteMove_p (F : Nat) (code0 : List Int) : Option (List Int × Int × Int) := spec_DrawRefuteMove_c _ F code0 some
theorem spec_DrawRefuteMove_cp (Q : Type) (F : Nat) (code0 : List Int) (k : (List Int × Int × Int) → Option Q) : spec_DrawRefuteMove_c Q F code0 k = (spec_DrawRefuteMove_p F code0).bind k := by
  simp only [spec_DrawRefuteMove_p, spec_DrawRefuteMove_c, cond_bindL, none_bindL, some_bindL]

/-- loop.example/g01194/impl.isDirection -/
def impl_isDirection_c (Q : Type) (d0 : Int) (k : (Bool) → Option Q) : Option Q :=
    k (impl_in_v d0 (0 : Int) (3 : Int))
def impl_isDirection_v (d0 : Int) : Bool :=
    (impl_in_v d0 (0 : Int) (3 : Int))
theorem impl_isDirection_cv (Q : Type) (d0 : Int) (k : (Bool) → Option Q) : impl_isDirection_c Q d0 k = k (impl_isDirection_v d0) := by
  simp only [impl_isDirection_c, impl_isDirection_v, app_condL k]

/-- (loop.example/g01194/impl.Board).isMove -/
def impl_Board_isMove_c (Q : Type) (F : Nat) (b0 : List Int) (direction1 : Int) (k : (Bool) → Option Q) : Option Q :=
    let z_1 := (impl_IsBoard_p F b0)
    let z_2 := (impl_Board_slides_p F b0 [direction1])
    bif (Option.isSome z_1) then
    bif (Option.getD z_1 default) then
    bif (impl_isDirection_v direction1) then
    bif (Option.isSome z_2) then
    k (!((Option.getD z_2 default) == b0))
    else none
    else k false
    else k false
    else none
def impl_Board_isMove_p (F : Nat) (b0 : List Int) (direction1 : Int) : Option (Bool) := impl_Board_isMove_c _ F b0 direction1 some
theorem impl_Board_isMove_cp (Q : Type) (F : Nat) (b0 : List Int) (direction1 : Int) (k : (Bool) → Option Q) : impl_Board_isMove_c Q F b0 direction1 k = (impl_Board_isMove_p F b0 direction1).bind k := by
  simp only [impl_Board_isMove_p, impl_Board_isMove_c, cond_bindL, none_bindL, some_bindL]

/-- (loop.example/g01194/impl.Board).refuted -/
def impl_Board_refuted_c (Q : Type) (F : Nat) (b0 : List Int) (n1 : Int) (k : (List Int × Bool) → Option Q) : Option Q :=
    let z_1 := (impl_Board_refuted_n1_p F b0)
    let z_2 := (Option.getD z_1 default)
    let z_3 := (impl_Board_refuted_n2_p F b0)
    let z_4 := (Option.getD z_3 default)
    bif (n1 == (0 : Int)) then
    bif (Option.isSome (impl_Board_refuted_n0_p F b0)) then
    k ([(0 : Int), (0 : Int), (0 : Int)], false)
    else none
    else bif (n1 == (1 : Int)) then
    bif (Option.isSome z_1) then
    k (z_2.1, z_2.2)
    else none
    else bif (n1 == (2 : Int)) then
    bif (Option.isSome z_3) then
    k (z_4.1, z_4.2)
    else none
    else none
def impl_Board_refuted_p (F : Nat) (b0 : List Int) (n1 : Int) : Option (List Int × Bool) := impl_Board_refuted_c _ F b0 n1 some
theorem impl_Board_refuted_cp (Q : Type) (F : Nat) (b0 : List Int) (n1 : Int) (k : (List Int × Bool) → Option Q) : impl_Board_refuted_c Q F b0 n1 k = (impl_Board_refuted_p F b0 n1).bind k := by
  simp only [impl_Board_refuted_p, impl_Board_refuted_c, cond_bindL, none_bindL, some_bindL]

/-- loop.example/g01194/impl.RefuteMove -/
def impl_RefuteMove_c (Q : Type) (F : Nat) (b0 : List Int) (direction1 : Int) (n2 : Int) (k : (List Int × Bool) → Option Q) : Option Q :=
    let z_1 := (impl_Board_isMove_p F b0 direction1)
    let z_2 := (impl_Board_slides_p F b0 [direction1])
    let z_3 := (impl_Board_refuted_p F (Option.getD z_2 default) (IntKind.wrap .i64 (n2 - (1 : Int))))
    let z_4 := (Option.getD z_3 default)
    bif (Option.isSome z_1) then
    bif (!(Option.getD z_1 default)) then
    k ([(0 : Int), (0 : Int), (0 : Int)], false)
    else bif (!(impl_in_v n2 (1 : Int) (3 : Int))) then
    k ([(0 : Int), (0 : Int), (0 : Int)], false)
    else bif (Option.isSome z_2) then
    bif (Option.isSome z_3) then
    k (z_4.1, z_4.2)
    else none
    else none
    else none
def impl_RefuteMove_p (F : Nat) (b0 : List Int) (direction1 : Int) (n2 : Int) : Option (List Int × Bool) := impl_RefuteMove_c _ F b0 direction1 n2 some
theorem impl_RefuteMove_cp (Q : Type) (F : Nat) (b0 : List Int) (direction1 : Int) (n2 : Int) (k : (List Int × Bool) → Option Q) : impl_RefuteMove_c Q F b0 direction1 n2 k = (impl_RefuteMove_p F b0 direction1 n2).bind k := by
  simp only [impl_RefuteMove_p, impl_RefuteMove_c, cond_bindL, none_bindL, some_bindL]

/-- loop.example/g01194/spec.l2Side -/
def spec_l2Side_c (Q : Type) (d0 : Int) (k : (Bool) → Option Q) : Option Q :=
    k (spec_l1In_v d0 (0 : Int) (3 : Int))
def spec_l2Side_v (d0 : Int) : Bool :=
    (spec_l1In_v d0 (0 : Int) (3 : Int))
theorem spec_l2Side_cv (Q : Type) (d0 : Int) (k : (Bool) → Option Q) : spec_l2Side_c Q d0 k = k (spec_l2Side_v d0) := by
  simp only [spec_l2Side_c, spec_l2Side_v, app_condL k]

/-- loop.example/g01194/spec.l8Refuted -/
def spec_l8Refuted_c (Q : Type) (F : Nat) (next0 : List Int) (n1 : Int) (k : (List Int × Bool) → Option Q) : Option Q :=
    let z_1 := (spec_l8Refuted_n2_p F next0)
    let z_2 := (Option.getD z_1 default)
    let z_3 := (spec_l8Refuted_n3_p F next0)
    let z_4 := (Option.getD z_3 default)
    bif (n1 == (1 : Int)) then
    k ([(0 : Int), (0 : Int), (0 : Int)], false)
    else bif (n1 == (2 : Int)) then
    bif (Option.isSome z_1) then
    k (z_2.1, z_2.2)
    else none
    else bif (n1 == (3 : Int)) then
    bif (Option.isSome z_3) then
    k (z_4.1, z_4.2)
    else none
    else none
def spec_l8Refuted_p (F : Nat) (next0 : List Int) (n1 : Int) : Option (List Int × Bool) := spec_l8Refuted_c _ F next0 n1 some
theorem spec_l8Refuted_cp (Q : Type) (F : Nat) (next0 : List Int) (n1 : Int) (k : (List Int × Bool) → Option Q) : spec_l8Refuted_c Q F next0 n1 k = (spec_l8Refuted_p F next0 n1).bind k := by
  simp only [spec_l8Refuted_p, spec_l8Refuted_c, cond_bindL, none_bindL, some_bindL]

/-- loop.example/g01194/spec.RefuteMove -/
def spec_RefuteMove_c (Q : Type) (F : Nat) (b0 : List Int) (direction1 : Int) (n2 : Int) (k : (List Int × Bool) → Option Q) : Option Q :=
    let z_1 := (spec_l2Board_p F b0)
    let z_2 := (spec_l2Slide_p F b0 direction1)
    let z_3 := (spec_l8Refuted_p F (Option.getD z_2 default).1 n2)
    let z_4 := (Option.getD z_3 default)
    bif (Option.isSome z_1) then
    bif (!(Option.getD z_1 default)) then
    k ([(0 : Int), (0 : Int), (0 : Int)], false)
    else bif (!(spec_l2Side_v direction1)) then
    k ([(0 : Int), (0 : Int), (0 : Int)], false)
    else bif (!(spec_l1In_v n2 (1 : Int) (3 : Int))) then
    k ([(0 : Int), (0 : Int), (0 : Int)], false)
    else bif (Option.isSome z_2) then
    bif ((Option.getD z_2 default).1 == b0) then
    k ([(0 : Int), (0 : Int), (0 : Int)], false)
    else bif (Option.isSome z_3) then
    k (z_4.1, z_4.2)
    else none
    else none
    else none
def spec_RefuteMove_p (F : Nat) (b0 : List Int) (direction1 : Int) (n2 : Int) : Option (List Int × Bool) := spec_RefuteMove_c _ F b0 direction1 n2 some
theorem spec_RefuteMove_cp (Q : Type) (F : Nat) (b0 : List Int) (direction1 : Int) (n2 : Int) (k : (List Int × Bool) → Option Q) : spec_RefuteMove_c Q F b0 direction1 n2 k = (spec_RefuteMove_p F b0 direction1 n2).bind k := by
  simp only [spec_RefuteMove_p, spec_RefuteMove_c, cond_bindL, none_bindL, some_bindL]

/-- loop.example/g01194/impl.DeadPlaces$1 -/
def impl_DeadPlaces_f1_c (Q : Type) (F : Nat) (p0 : List Int) (a14 : List Int) (k : (Bool) → Option Q) : Option Q :=
    let z_1 := (impl_Board_placed_p a14 p0)
    let z_2 := (impl_Board_isOver_p F (Option.getD z_1 default))
    bif (Option.isSome z_1) then
    bif (Option.isSome z_2) then
    k (!(Option.getD z_2 default))
    else none
    else none
def impl_DeadPlaces_f1_p (F : Nat) (p0 : List Int) (a14 : List Int) : Option (Bool) := impl_DeadPlaces_f1_c _ F p0 a14 some
theorem impl_DeadPlaces_f1_cp (Q : Type) (F : Nat) (p0 : List Int) (a14 : List Int) (k : (Bool) → Option Q) : impl_DeadPlaces_f1_c Q F p0 a14 k = (impl_DeadPlaces_f1_p F p0 a14).bind k := by
  simp only [impl_DeadPlaces_f1_p, impl_DeadPlaces_f1_c, cond_bindL, none_bindL, some_bindL]

/-- loop 2 of slices.IndexFunc[[][3]int,[3]int] -/
def slices_IndexFunc_3int3int_impl_DeadPlaces_f1_s2 (F : Nat) (s0 : List (List Int)) (t74 : Int) (f6 : List Int) (Q : Type) : (Int) → ((Int) → Option Q) → ((Bool × Int) → Option Q) → Option Q
  | t85, kn, kx =>
    let z_1 := (impl_DeadPlaces_f1_p F (rget s0 (Int.toNat t85)) f6)
    bif (decide (t85 < t74)) then
    bif (inR t85 (List.length s0)) then
    bif (Option.isSome z_1) then
    bif (Option.getD z_1 default) then
    kx (true, t85)
    else kn (IntKind.wrap .i64 (t85 + (1 : Int)))
    else none
    else none
    else kx (false, default)
def slices_IndexFunc_3int3int_impl_DeadPlaces_f1_l2 (F : Nat) (s0 : List (List Int)) (t74 : Int) (f6 : List Int) (t85 : Int) : Option (Bool × Int) := loopC (slices_IndexFunc_3int3int_impl_DeadPlaces_f1_s2 F s0 t74 f6) F t85 some
theorem slices_IndexFunc_3int3int_impl_DeadPlaces_f1_s2_nat (F : Nat) (s0 : List (List Int)) (t74 : Int) (f6 : List Int) : Natural (slices_IndexFunc_3int3int_impl_DeadPlaces_f1_s2 F s0 t74 f6) := by
  intro Q Q' s kn kx h
  simp only [slices_IndexFunc_3int3int_impl_DeadPlaces_f1_s2, cond_bindL, none_bindL]
/-- slices.IndexFunc[[][3]int,[3]int] -/
def slices_IndexFunc_3int3int_impl_DeadPlaces_f1_c (Q : Type) (F : Nat) (s0 : List (List Int)) (f4 : List Int) (k : (Int) → Option Q) : Option Q :=
    let z_1 := (slices_IndexFunc_3int3int_impl_DeadPlaces_f1_l2 F s0 (((List.length s0) : Nat) : Int) f4 (0 : Int))
    let z_2 := (Option.getD z_1 default)
    bif (Option.isSome z_1) then
    bif z_2.1 then
    k z_2.2
    else k (-1 : Int)
    else none
def slices_IndexFunc_3int3int_impl_DeadPlaces_f1_p (F : Nat) (s0 : List (List Int)) (f4 : List Int) : Option (Int) := slices_IndexFunc_3int3int_impl_DeadPlaces_f1_c _ F s0 f4 some
theorem slices_IndexFunc_3int3int_impl_DeadPlaces_f1_cp (Q : Type) (F : Nat) (s0 : List (List Int)) (f4 : List Int) (k : (Int) → Option Q) : slices_IndexFunc_3int3int_impl_DeadPlaces_f1_c Q F s0 f4 k = (slices_IndexFunc_3int3int_impl_DeadPlaces_f1_p F s0 f4).bind k := by
  simp only [slices_IndexFunc_3int3int_impl_DeadPlaces_f1_p, slices_IndexFunc_3int3int_impl_DeadPlaces_f1_c, cond_bindL, none_bindL, some_bindL]

/-- loop 5 of slices.DeleteFunc[[][3]int,[3]int] -/
def slices_DeleteFunc_3int3int_impl_DeadPlaces_f1_s5 (F : Nat) (s1 : Nat) (del8 : List Int) (Q : Type) : (Int × Int × List (List Int)) → ((Int × Int × List (List Int)) → Option Q) → ((Int × List (List Int)) → Option Q) → Option Q
  | (i5, j6, s7), kn, kx =>
    let z_1 : List Int := (rget s7 ((0 : Nat) + (Int.toNat j6)))
    let z_2 := (impl_DeadPlaces_f1_p F z_1 del8)
    let z_3 : Int := (IntKind.wrap .i64 (j6 + (1 : Int)))
    bif (decide (j6 < ((s1 : Nat) : Int))) then
    bif (inR j6 s1) then
    bif (Option.isSome z_2) then
    bif (!(Option.getD z_2 default)) then
    bif (inR i5 s1) then
    kn ((IntKind.wrap .i64 (i5 + (1 : Int))), z_3, (rset s7 ((0 : Nat) + (Int.toNat i5)) z_1))
    else none
    else kn (i5, z_3, s7)
    else none
    else none
    else kx (i5, s7)
def slices_DeleteFunc_3int3int_impl_DeadPlaces_f1_l5 (F : Nat) (s1 : Nat) (del8 : List Int) (i5 : Int) (j6 : Int) (s7 : List (List Int)) : Option (Int × List (List Int)) := loopC (slices_DeleteFunc_3int3int_impl_DeadPlaces_f1_s5 F s1 del8) F (i5, j6, s7) some
theorem slices_DeleteFunc_3int3int_impl_DeadPlaces_f1_s5_nat (F : Nat) (s1 : Nat) (del8 : List Int) : Natural (slices_DeleteFunc_3int3int_impl_DeadPlaces_f1_s5 F s1 del8) := by
  intro Q Q' s kn kx h
  obtain ⟨i5, j6, s7⟩ := s
  simp only [slices_DeleteFunc_3int3int_impl_DeadPlaces_f1_s5, cond_bindL, none_bindL]
/-- slices.DeleteFunc[[][3]int,[3]int] -/
def slices_DeleteFunc_3int3int_impl_DeadPlaces_f1_c (Q : Type) (F : Nat) (s5 : List (List Int)) (del6 : List Int) (k : (Nat × List (List Int)) → Option Q) : Option Q :=
    let z_1 := (slices_IndexFunc_3int3int_impl_DeadPlaces_f1_p F (subn (List.length s5) s5 0 (List.length s5)) del6)
    let z_2 := (slices_DeleteFunc_3int3int_impl_DeadPlaces_f1_l5 F (List.length s5) del6 (Option.getD z_1 default) (IntKind.wrap .i64 ((Option.getD z_1 default) + (1 : Int))) s5)
    let z_3 := (Option.getD z_2 default)
    let z_4 : Bool := (inLe z_3.1 (List.length s5))
    let z_5 : Nat := (Int.toNat z_3.1)
    let z_6 : Nat := ((List.length s5) - z_5)
    bif (Option.isSome z_1) then
    bif ((Option.getD z_1 default) == (-1 : Int)) then
    k ((List.length s5), s5)
    else bif (Option.isSome z_2) then
    bif z_4 then
    bif z_4 then
    k ((z_5 - (0 : Nat)), (splice z_3.2 ((0 : Nat) + z_5) (List.replicate z_6 [(0 : Int), (0 : Int), (0 : Int)]) z_6))
    else none
    else none
    else none
    else none
def slices_DeleteFunc_3int3int_impl_DeadPlaces_f1_p (F : Nat) (s5 : List (List Int)) (del6 : List Int) : Option (Nat × List (List Int)) := slices_DeleteFunc_3int3int_impl_DeadPlaces_f1_c _ F s5 del6 some
theorem slices_DeleteFunc_3int3int_impl_DeadPlaces_f1_cp (Q : Type) (F : Nat) (s5 : List (List Int)) (del6 : List Int) (k : (Nat × List (List Int)) → Option Q) : slices_DeleteFunc_3int3int_impl_DeadPlaces_f1_c Q F s5 del6 k = (slices_DeleteFunc_3int3int_impl_DeadPlaces_f1_p F s5 del6).bind k := by
  simp only [slices_DeleteFunc_3int3int_impl_DeadPlaces_f1_p, slices_DeleteFunc_3int3int_impl_DeadPlaces_f1_c, cond_bindL, none_bindL, some_bindL]

/-- loop.example/g01194/impl.DeadPlaces -/
def impl_DeadPlaces_c (Q : Type) (F : Nat) (b0 : List Int) (k : (Nat × Bool × List (List Int)) → Option Q) : Option Q :=
    let z_1 := (impl_IsBoard_p F b0)
    let z_2 := (impl_Board_placements_p F b0)
    let z_3 : Nat := (List.length (Option.getD z_2 default))
    let z_4 := (slices_DeleteFunc_3int3int_impl_DeadPlaces_f1_p F (Option.getD z_2 default) b0)
    let z_5 := (Option.getD z_4 default)
    bif (Option.isSome z_1) then
    bif (!(Option.getD z_1 default)) then
    k ((0 : Nat), false, ([] : List (List Int)))
    else bif (Option.isSome z_2) then
    bif ((Nat.beq z_3 z_3) && (Option.isSome z_4)) then
    k (z_5.1, true, z_5.2)
    else none
    else none
    else none
def impl_DeadPlaces_p (F : Nat) (b0 : List Int) : Option (Nat × Bool × List (List Int)) := impl_DeadPlaces_c _ F b0 some
theorem impl_DeadPlaces_cp (Q : Type) (F : Nat) (b0 : List Int) (k : (Nat × Bool × List (List Int)) → Option Q) : impl_DeadPlaces_c Q F b0 k = (impl_DeadPlaces_p F b0).bind k := by
  simp only [impl_DeadPlaces_p, impl_DeadPlaces_c, cond_bindL, none_bindL, some_bindL]

/-- loop 3 of loop.example/g01194/spec.l2Moves -/
def spec_l2Moves_s3 (F : Nat) (b6 : List Int) (Q : Type) : (Int × List Int) → ((Int × List Int) → Option Q) → ((List Int) → Option Q) → Option Q
  | (d5, out7), kn, kx =>
    let z_1 := (spec_l2Slide_p F b6 d5)
    let z_2 : List Int := ((subn (List.length out7) out7 0 (List.length out7)) ++ [d5])
    let z_3 : Int := (IntKind.wrap .i64 (d5 + (1 : Int)))
    bif (decide (d5 < (4 : Int))) then
    bif (Option.isSome z_1) then
    bif (!((Option.getD z_1 default).1 == b6)) then
    bif (fits (List.length z_2) 8) then
    kn (z_3, z_2)
    else none
    else kn (z_3, out7)
    else none
    else kx out7
def spec_l2Moves_l3 (F : Nat) (b6 : List Int) (d5 : Int) (out7 : List Int) : Option (List Int) := loopC (spec_l2Moves_s3 F b6) F (d5, out7) some
theorem spec_l2Moves_s3_nat (F : Nat) (b6 : List Int) : Natural (spec_l2Moves_s3 F b6) := by
  intro Q Q' s kn kx h
  obtain ⟨d5, out7⟩ := s
  simp only [spec_l2Moves_s3, cond_bindL, none_bindL]
/-- loop.example/g01194/spec.l2Moves -/
def spec_l2Moves_c (Q : Type) (F : Nat) (b0 : List Int) (k : (List Int) → Option Q) : Option Q :=
    let z_1 := (spec_l2Moves_l3 F b0 (0 : Int) ([] : List Int))
    bif (Option.isSome z_1) then
    k (Option.getD z_1 default)
    else none
def spec_l2Moves_p (F : Nat) (b0 : List Int) : Option (List Int) := spec_l2Moves_c _ F b0 some
theorem spec_l2Moves_cp (Q : Type) (F : Nat) (b0 : List Int) (k : (List Int) → Option Q) : spec_l2Moves_c Q F b0 k = (spec_l2Moves_p F b0).bind k := by
  simp only [spec_l2Moves_p, spec_l2Moves_c, cond_bindL, none_bindL, some_bindL]

/-- loop 6 of loop.example/g01194/spec.DeadPlaces -/
def spec_DeadPlaces_s6 (F : Nat) (b8 : List Int) (all10 : List (List Int)) (Q : Type) : (Int × List (List Int)) → ((Int × List (List Int)) → Option Q) → ((List (List Int)) → Option Q) → Option Q
  | (i7, out9), kn, kx =>
    let z_1 : Bool := (inR i7 (List.length all10))
    let z_2 : List Int := (rget all10 ((0 : Nat) + (Int.toNat i7)))
    let z_3 := (spec_l8Put_p b8 z_2)
    let z_4 := (spec_l2Moves_p F (Option.getD z_3 default))
    let z_5 : List (List Int) := ((subn (List.length out9) out9 0 (List.length out9)) ++ [z_2])
    let z_6 : Int := (IntKind.wrap .i64 (i7 + (1 : Int)))
    bif (decide (i7 < (((List.length all10) : Nat) : Int))) then
    bif z_1 then
    bif (Option.isSome z_3) then
    bif (Option.isSome z_4) then
    bif ((((List.length (Option.getD z_4 default)) : Nat) : Int) == (0 : Int)) then
    bif z_1 then
    bif (fits (List.length z_5) 24) then
    kn (z_6, z_5)
    else none
    else none
    else kn (z_6, out9)
    else none
    else none
    else none
    else kx out9
def spec_DeadPlaces_l6 (F : Nat) (b8 : List Int) (all10 : List (List Int)) (i7 : Int) (out9 : List (List Int)) : Option (List (List Int)) := loopC (spec_DeadPlaces_s6 F b8 all10) F (i7, out9) some
theorem spec_DeadPlaces_s6_nat (F : Nat) (b8 : List Int) (all10 : List (List Int)) : Natural (spec_DeadPlaces_s6 F b8 all10) := by
  intro Q Q' s kn kx h
  obtain ⟨i7, out9⟩ := s
  simp only [spec_DeadPlaces_s6, cond_bindL, none_bindL]
/-- loop.example/g01194/spec.DeadPlaces -/
def spec_DeadPlaces_c (Q : Type) (F : Nat) (b0 : List Int) (k : (Bool × List (List Int)) → Option Q) : Option Q :=
    let z_1 := (spec_l2Board_p F b0)
    let z_2 := (spec_l8Places_p F b0)
    let z_3 : Nat := (List.length (Option.getD z_2 default))
    let z_4 := (spec_DeadPlaces_l6 F b0 (Option.getD z_2 default) (0 : Int) ([] : List (List Int)))
    bif (Option.isSome z_1) then
    bif (!(Option.getD z_1 default)) then
    k (false, ([] : List (List Int)))
    else bif (Option.isSome z_2) then
    bif ((Nat.beq z_3 z_3) && (Option.isSome z_4)) then
    k (true, (Option.getD z_4 default))
    else none
    else none
    else none
def spec_DeadPlaces_p (F : Nat) (b0 : List Int) : Option (Bool × List (List Int)) := spec_DeadPlaces_c _ F b0 some
theorem spec_DeadPlaces_cp (Q : Type) (F : Nat) (b0 : List Int) (k : (Bool × List (List Int)) → Option Q) : spec_DeadPlaces_c Q F b0 k = (spec_DeadPlaces_p F b0).bind k := by
  simp only [spec_DeadPlaces_p, spec_DeadPlaces_c, cond_bindL, none_bindL, some_bindL]

/-- loop.example/g01194/impl.isCell -/
def impl_isCell_c (Q : Type) (cell0 : List Int) (k : (Bool) → Option Q) : Option Q :=
    bif (impl_in_v (iget cell0 0) (0 : Int) (3 : Int)) then
    k (impl_in_v (iget cell0 1) (0 : Int) (3 : Int))
    else k false
def impl_isCell_v (cell0 : List Int) : Bool :=
    bif (impl_in_v (iget cell0 0) (0 : Int) (3 : Int)) then
    (impl_in_v (iget cell0 1) (0 : Int) (3 : Int))
    else false
theorem impl_isCell_cv (Q : Type) (cell0 : List Int) (k : (Bool) → Option Q) : impl_isCell_c Q cell0 k = k (impl_isCell_v cell0) := by
  simp only [impl_isCell_c, impl_isCell_v, app_condL k]

/-- loop.example/g01194/impl.PutTile -/
def impl_PutTile_c (Q : Type) (F : Nat) (b0 : List Int) (cell1 : List Int) (t2 : Int) (k : (List Int × Bool) → Option Q) : Option Q :=
    let z_1 := (impl_IsBoard_p F b0)
    let z_2 : List Int := [(0 : Int), (0 : Int), (0 : Int), (0 : Int), (0 : Int), (0 : Int), (0 : Int), (0 : Int), (0 : Int), (0 : Int), (0 : Int), (0 : Int), (0 : Int), (0 : Int), (0 : Int), (0 : Int)]
    let z_3 := (impl_Board_at_p cell1 b0)
    let z_4 : Bool := (Option.isSome z_3)
    bif (Option.isSome z_1) then
    bif (!(Option.getD z_1 default)) then
    k (z_2, false)
    else bif (!(impl_isCell_v cell1)) then
    k (z_2, false)
    else bif (!(impl_in_v t2 (1 : Int) (17 : Int))) then
    k (z_2, false)
    else bif z_4 then
    bif (!((iget b0 (Option.getD z_3 default)) == (0 : Int))) then
    k (z_2, false)
    else bif z_4 then
    k ((iset b0 (Option.getD z_3 default) t2), true)
    else none
    else none
    else none
def impl_PutTile_p (F : Nat) (b0 : List Int) (cell1 : List Int) (t2 : Int) : Option (List Int × Bool) := impl_PutTile_c _ F b0 cell1 t2 some
theorem impl_PutTile_cp (Q : Type) (F : Nat) (b0 : List Int) (cell1 : List Int) (t2 : Int) (k : (List Int × Bool) → Option Q) : impl_PutTile_c Q F b0 cell1 t2 k = (impl_PutTile_p F b0 cell1 t2).bind k := by
  simp only [impl_PutTile_p, impl_PutTile_c, cond_bindL, none_bindL, some_bindL]

/-- loop.example/g01194/impl.PlaceTile -/
def impl_PlaceTile_c (Q : Type) (F : Nat) (b0 : List Int) (p1 : List Int) (k : (List Int × Bool) → Option Q) : Option Q :=
    let z_1 := (impl_PutTile_p F b0 [(iget p1 0), (iget p1 1)] (iget p1 2))
    let z_2 := (Option.getD z_1 default)
    bif (!(impl_in_v (iget p1 2) (1 : Int) (2 : Int))) then
    k ([(0 : Int), (0 : Int), (0 : Int), (0 : Int), (0 : Int), (0 : Int), (0 : Int), (0 : Int), (0 : Int), (0 : Int), (0 : Int), (0 : Int), (0 : Int), (0 : Int), (0 : Int), (0 : Int)], false)
    else bif (Option.isSome z_1) then
    k (z_2.1, z_2.2)
    else none
def impl_PlaceTile_p (F : Nat) (b0 : List Int) (p1 : List Int) : Option (List Int × Bool) := impl_PlaceTile_c _ F b0 p1 some
theorem impl_PlaceTile_cp (Q : Type) (F : Nat) (b0 : List Int) (p1 : List Int) (k : (List Int × Bool) → Option Q) : impl_PlaceTile_c Q F b0 p1 k = (impl_PlaceTile_p F b0 p1).bind k := by
  simp only [impl_PlaceTile_p, impl_PlaceTile_c, cond_bindL, none_bindL, some_bindL]
end Go.Lv.P
