/-
Pure functions and what the code of them does, by program; without conditions.
-/
import Derived.Test.YtgmnclpjbhmioaaGreatTZP4
namespace Go.Lv.P
open Go Go.Lv
set_option linter.unusedVariables false
set_option linter.unusedSimpArgs false
set_option maxRecDepth 100000
/-- loop 5 of slices.DeleteFunc[[]loop.example/g01194/impl.Board,loop.example/g01194/impl.Board] -/
def slices_DeleteFunc_implBoardimplBoard_impl_BoardsBefore_f1_s5 (F : Nat) (s1 : Nat) (del8 : List Int) (Q : Type) : (Int × Int × List (List Int)) → ((Int × Int × List (List Int)) → Option Q) → ((Int × List (List Int)) → Option Q) → Option Q
  | (i5, j6, s7), kn, kx =>
    let z_1 : List Int := (rget s7 ((0 : Nat) + (Int.toNat j6)))
    let z_2 : Int := (IntKind.wrap .i64 (j6 + (1 : Int)))
    bif (decide (j6 < ((s1 : Nat) : Int))) then
    bif (inR j6 s1) then
    bif (!(impl_BoardsBefore_f1_v z_1 del8)) then
    bif (inR i5 s1) then
    kn ((IntKind.wrap .i64 (i5 + (1 : Int))), z_2, (rset s7 ((0 : Nat) + (Int.toNat i5)) z_1))
    else none
    else kn (i5, z_2, s7)
    else none
    else kx (i5, s7)
def slices_DeleteFunc_implBoardimplBoard_impl_BoardsBefore_f1_l5 (F : Nat) (s1 : Nat) (del8 : List Int) (i5 : Int) (j6 : Int) (s7 : List (List Int)) : Option (Int × List (List Int)) := loopC (slices_DeleteFunc_implBoardimplBoard_impl_BoardsBefore_f1_s5 F s1 del8) F (i5, j6, s7) some
theorem slices_DeleteFunc_implBoardimplBoard_impl_BoardsBefore_f1_s5_nat (F : Nat) (s1 : Nat) (del8 : List Int) : Natural (slices_DeleteFunc_implBoardimplBoard_impl_BoardsBefore_f1_s5 F s1 del8) := by
  intro Q Q' s kn kx h
  obtain ⟨i5, j6, s7⟩ := s
  simp only [slices_DeleteFunc_implBoardimplBoard_impl_BoardsBefore_f1_s5, cond_bindL, none_bindL]
/-- slices.DeleteFunc[[]loop.example/g01194/impl.Board,loop.example/g01194/impl.Board] -/
def slices_DeleteFunc_implBoardimplBoard_impl_BoardsBefore_f1_c (Q : Type) (F : Nat) (s5 : List (List Int)) (del6 : List Int) (k : (Nat × List (List Int)) → Option Q) : Option Q :=
    let z_1 := (slices_IndexFunc_implBoardimplBoard_impl_BoardsBefore_f1_p F (subn (List.length s5) s5 0 (List.length s5)) del6)
    let z_2 := (slices_DeleteFunc_implBoardimplBoard_impl_BoardsBefore_f1_l5 F (List.length s5) del6 (Option.getD z_1 default) (IntKind.wrap .i64 ((Option.getD z_1 default) + (1 : Int))) s5)
    let z_3 := (Option.getD z_2 default)
    let z_4 : Bool := (inLe z_3.1 (List.length s5))
    let z_5 : Nat := (Int.toNat z_3.1)
    let z_6 : Nat := ((List.length s5) - z_5)
    bif (Option.isSome z_1) then
    bif ((Option.getD z_1 default) == (-1 : Int)) then
    k ((List.length s5), s5)
    else bif (Option.isSome z_2) then
    bif z_4 then
    bif z_4 then
    k ((z_5 - (0 : Nat)), (splice z_3.2 ((0 : Nat) + z_5) (List.replicate z_6 [(0 : Int), (0 : Int), (0 : Int), (0 : Int), (0 : Int), (0 : Int), (0 : Int), (0 : Int), (0 : Int), (0 : Int), (0 : Int), (0 : Int), (0 : Int), (0 : Int), (0 : Int), (0 : Int)]) z_6))
    else none
    else none
    else none
    else none
def slices_DeleteFunc_implBoardimplBoard_impl_BoardsBefore_f1_p (F : Nat) (s5 : List (List Int)) (del6 : List Int) : Option (Nat × List (List Int)) := slices_DeleteFunc_implBoardimplBoard_impl_BoardsBefore_f1_c _ F s5 del6 some
theorem slices_DeleteFunc_implBoardimplBoard_impl_BoardsBefore_f1_cp (Q : Type) (F : Nat) (s5 : List (List Int)) (del6 : List Int) (k : (Nat × List (List Int)) → Option Q) : slices_DeleteFunc_implBoardimplBoard_impl_BoardsBefore_f1_c Q F s5 del6 k = (slices_DeleteFunc_implBoardimplBoard_impl_BoardsBefore_f1_p F s5 del6).bind k := by
  simp only [slices_DeleteFunc_implBoardimplBoard_impl_BoardsBefore_f1_p, slices_DeleteFunc_implBoardimplBoard_impl_BoardsBefore_f1_c, cond_bindL, none_bindL, some_bindL]

/-- slices.Grow[[]int,int] -/
def slices_Grow_intint_c (Q : Type) (n0 : Int) (k : (List Int) → Option Q) : Option Q :=
    let z_1 : Int := (IntKind.wrap .i64 (n0 - (0 : Int)))
    let z_2 : Nat := (Int.toNat z_1)
    bif (decide (n0 < (0 : Int))) then
    none
    else bif (decide ((0 : Int) < z_1)) then
    bif ((decide ((1 : Int) ≤ z_1)) && (fits z_2 8)) then
    bif (inLe (0 : Int) z_2) then
    k (List.replicate z_2 (0 : Int))
    else none
    else none
    else k ([] : List Int)
def slices_Grow_intint_p (n0 : Int) : Option (List Int) := slices_Grow_intint_c _ n0 some
theorem slices_Grow_intint_cp (Q : Type) (n0 : Int) (k : (List Int) → Option Q) : slices_Grow_intint_c Q n0 k = (slices_Grow_intint_p n0).bind k := by
  simp only [slices_Grow_intint_p, slices_Grow_intint_c, cond_bindL, none_bindL, some_bindL]

/-- slices.Concat[[]int,int] -/
def slices_Concat_intint_c (Q : Type) (slices0 : List Int) (slices1 : List Int) (slices2 : List Int) (slices3 : List Int) (k : (List Int) → Option Q) : Option Q :=
    let z_1 : Int := (IntKind.wrap .i64 ((0 : Int) + (((List.length slices0) : Nat) : Int)))
    let z_2 : Int := (IntKind.wrap .i64 (z_1 + (((List.length slices1) : Nat) : Int)))
    let z_3 : Int := (IntKind.wrap .i64 (z_2 + (((List.length slices2) : Nat) : Int)))
    let z_4 : Int := (IntKind.wrap .i64 (z_3 + (((List.length slices3) : Nat) : Int)))
    let z_5 : List Int := ((subn (List.length (Option.getD (slices_Grow_intint_p z_4) default)) (Option.getD (slices_Grow_intint_p z_4) default) 0 0) ++ slices0)
    let z_6 : Nat := (List.length z_5)
    let z_7 : List Int := ((subn z_6 z_5 0 z_6) ++ slices1)
    let z_8 : Nat := (List.length z_7)
    let z_9 : List Int := ((subn z_8 z_7 0 z_8) ++ slices2)
    let z_10 : Nat := (List.length z_9)
    let z_11 : List Int := ((subn z_10 z_9 0 z_10) ++ slices3)
    bif (decide (z_1 < (0 : Int))) then
    none
    else bif (decide (z_2 < (0 : Int))) then
    none
    else bif (decide (z_3 < (0 : Int))) then
    none
    else bif (decide (z_4 < (0 : Int))) then
    none
    else bif (Option.isSome (slices_Grow_intint_p z_4)) then
    bif (fits z_6 8) then
    bif (fits z_8 8) then
    bif (fits z_10 8) then
    bif (fits (List.length z_11) 8) then
    k z_11
    else none
    else none
    else none
    else none
    else none
def slices_Concat_intint_p (slices0 : List Int) (slices1 : List Int) (slices2 : List Int) (slices3 : List Int) : Option (List Int) := slices_Concat_intint_c _ slices0 slices1 slices2 slices3 some
theorem slices_Concat_intint_cp (Q : Type) (slices0 : List Int) (slices1 : List Int) (slices2 : List Int) (slices3 : List Int) (k : (List Int) → Option Q) : slices_Concat_intint_c Q slices0 slices1 slices2 slices3 k = (slices_Concat_intint_p slices0 slices1 slices2 slices3).bind k := by
  simp only [slices_Concat_intint_p, slices_Concat_intint_c, cond_bindL, none_bindL, some_bindL]

/-- (loop.example/g01194/impl.Board).flat -/
def impl_Board_flat_c (Q : Type) (b0 : List Int) (k : (List Int) → Option Q) : Option Q :=
    let z_1 := (slices_Concat_intint_p (sub b0 0 4) (sub b0 4 4) (sub b0 8 4) (sub b0 12 4))
    bif (Option.isSome z_1) then
    k (Option.getD z_1 default)
    else none
def impl_Board_flat_p (b0 : List Int) : Option (List Int) := impl_Board_flat_c _ b0 some
theorem impl_Board_flat_cp (Q : Type) (b0 : List Int) (k : (List Int) → Option Q) : impl_Board_flat_c Q b0 k = (impl_Board_flat_p b0).bind k := by
  simp only [impl_Board_flat_p, impl_Board_flat_c, cond_bindL, none_bindL, some_bindL]

/-- (loop.example/g01194/impl.Board).order -/
def impl_Board_order_c (Q : Type) (F : Nat) (b0 : List Int) (c1 : List Int) (k : (Int) → Option Q) : Option Q :=
    let z_1 : Nat := (List.length (Option.getD (impl_Board_flat_p b0) default))
    let z_2 : Nat := (List.length (Option.getD (impl_Board_flat_p c1) default))
    let z_3 := (slices_Compare_intint_p F (subn z_1 (Option.getD (impl_Board_flat_p b0) default) 0 z_1) (subn z_2 (Option.getD (impl_Board_flat_p c1) default) 0 z_2))
    bif (Option.isSome (impl_Board_flat_p b0)) then
    bif (Option.isSome (impl_Board_flat_p c1)) then
    bif (Option.isSome z_3) then
    k (Option.getD z_3 default)
    else none
    else none
    else none
def impl_Board_order_p (F : Nat) (b0 : List Int) (c1 : List Int) : Option (Int) := impl_Board_order_c _ F b0 c1 some
theorem impl_Board_order_cp (Q : Type) (F : Nat) (b0 : List Int) (c1 : List Int) (k : (Int) → Option Q) : impl_Board_order_c Q F b0 c1 k = (impl_Board_order_p F b0 c1).bind k := by
  simp only [impl_Board_order_p, impl_Board_order_c, cond_bindL, none_bindL, some_bindL]


/-- loop 9 of slices.Compact[[]loop.example/g01194/impl.Board,loop.example/g01194/impl.Board] -/
def slices_Compact_implBoardimplBoard_s9 (F : Nat) (s1 : Nat) (s23 : Nat) (s24 : Nat) (Q : Type) : (Int × Int × List (List Int)) → ((Int × Int × List (List Int)) → Option Q) → ((Int × List (List Int)) → Option Q) → Option Q
  | (k2, k25, s6), kn, kx =>
    let z_1 : Int := (IntKind.wrap .i64 (k25 - (1 : Int)))
    let z_2 : List Int := (rget s6 (s23 + (Int.toNat k25)))
    let z_3 : Int := (IntKind.wrap .i64 (k25 + (1 : Int)))
    bif (decide (k25 < ((s24 : Nat) : Int))) then
    bif (inR k25 s24) then
    bif (inR z_1 s24) then
    bif (!(z_2 == (rget s6 (s23 + (Int.toNat z_1))))) then
    bif (inR k25 s24) then
    bif (inR k2 s1) then
    kn ((IntKind.wrap .i64 (k2 + (1 : Int))), z_3, (rset s6 ((0 : Nat) + (Int.toNat k2)) z_2))
    else none
    else none
    else kn (k2, z_3, s6)
    else none
    else none
    else kx (k2, s6)
def slices_Compact_implBoardimplBoard_l9 (F : Nat) (s1 : Nat) (s23 : Nat) (s24 : Nat) (k2 : Int) (k25 : Int) (s6 : List (List Int)) : Option (Int × List (List Int)) := loopC (slices_Compact_implBoardimplBoard_s9 F s1 s23 s24) F (k2, k25, s6) some
theorem slices_Compact_implBoardimplBoard_s9_nat (F : Nat) (s1 : Nat) (s23 : Nat) (s24 : Nat) : Natural (slices_Compact_implBoardimplBoard_s9 F s1 s23 s24) := by
  intro Q Q' s kn kx h
  obtain ⟨k2, k25, s6⟩ := s
  simp only [slices_Compact_implBoardimplBoard_s9, cond_bindL, none_bindL]
/-- loop 4 of slices.Compact[[]loop.example/g01194/impl.Board,loop.example/g01194/impl.Board] -/
def slices_Compact_implBoardimplBoard_s4 (F : Nat) (s1 : Nat) (s3 : List (List Int)) (Q : Type) : (Int) → ((Int) → Option Q) → ((Bool × Nat × List (List Int)) → Option Q) → Option Q
  | k2, kn, kx =>
    let z_1 : Int := (IntKind.wrap .i64 (k2 - (1 : Int)))
    let z_2 := (slices_Compact_implBoardimplBoard_l9 F s1 ((0 : Nat) + (Int.toNat k2)) (s1 - (Int.toNat k2)) k2 (1 : Int) s3)
    let z_3 := (Option.getD z_2 default)
    let z_4 : Bool := (inLe z_3.1 s1)
    let z_5 : Nat := (Int.toNat z_3.1)
    let z_6 : Nat := (s1 - z_5)
    bif (decide (k2 < ((s1 : Nat) : Int))) then
    bif (inR k2 s1) then
    bif (inR z_1 s1) then
    bif ((rget s3 ((0 : Nat) + (Int.toNat k2))) == (rget s3 ((0 : Nat) + (Int.toNat z_1)))) then
    bif (inLe k2 s1) then
    bif (Option.isSome z_2) then
    bif z_4 then
    bif z_4 then
    kx (true, (z_5 - (0 : Nat)), (splice z_3.2 ((0 : Nat) + z_5) (List.replicate z_6 [(0 : Int), (0 : Int), (0 : Int), (0 : Int), (0 : Int), (0 : Int), (0 : Int), (0 : Int), (0 : Int), (0 : Int), (0 : Int), (0 : Int), (0 : Int), (0 : Int), (0 : Int), (0 : Int)]) z_6))
    else none
    else none
    else none
    else none
    else kn (IntKind.wrap .i64 (k2 + (1 : Int)))
    else none
    else none
    else kx (false, default, default)
def slices_Compact_implBoardimplBoard_l4 (F : Nat) (s1 : Nat) (s3 : List (List Int)) (k2 : Int) : Option (Bool × Nat × List (List Int)) := loopC (slices_Compact_implBoardimplBoard_s4 F s1 s3) F k2 some
theorem slices_Compact_implBoardimplBoard_s4_nat (F : Nat) (s1 : Nat) (s3 : List (List Int)) : Natural (slices_Compact_implBoardimplBoard_s4 F s1 s3) := by
  intro Q Q' s kn kx h
  simp only [slices_Compact_implBoardimplBoard_s4, cond_bindL, none_bindL]
/-- slices.Compact[[]loop.example/g01194/impl.Board,loop.example/g01194/impl.Board] -/
def slices_Compact_implBoardimplBoard_c (Q : Type) (F : Nat) (s1 : Nat) (s2 : List (List Int)) (k : (Nat × List (List Int)) → Option Q) : Option Q :=
    let z_1 := (slices_Compact_implBoardimplBoard_l4 F s1 s2 (1 : Int))
    let z_2 := (Option.getD z_1 default)
    bif (decide (((s1 : Nat) : Int) < (2 : Int))) then
    k (s1, s2)
    else bif (Option.isSome z_1) then
    bif z_2.1 then
    k (z_2.2.1, z_2.2.2)
    else k (s1, s2)
    else none
def slices_Compact_implBoardimplBoard_p (F : Nat) (s1 : Nat) (s2 : List (List Int)) : Option (Nat × List (List Int)) := slices_Compact_implBoardimplBoard_c _ F s1 s2 some
theorem slices_Compact_implBoardimplBoard_cp (Q : Type) (F : Nat) (s1 : Nat) (s2 : List (List Int)) (k : (Nat × List (List Int)) → Option Q) : slices_Compact_implBoardimplBoard_c Q F s1 s2 k = (slices_Compact_implBoardimplBoard_p F s1 s2).bind k := by
  simp only [slices_Compact_implBoardimplBoard_p, slices_Compact_implBoardimplBoard_c, cond_bindL, none_bindL, some_bindL]

/-- loop.example/g01194/impl.ordered -/
def impl_ordered_c (Q : Type) (F : Nat) (list1 : Nat) (list2 : List (List Int)) (k : (Nat × List (List Int)) → Option Q) : Option Q :=
    let z_1 := (slices_Compact_implBoardimplBoard_p F list1 (sortP list1 list2))
    let z_2 := (Option.getD z_1 default)
    bif ((Nat.ble list1 (List.length list2)) && ((Nat.blt 1000 F) && (Nat.ble (List.length list2) 1000000000))) then
    bif (Option.isSome z_1) then
    k (z_2.1, z_2.2)
    else none
    else none
def impl_ordered_p (F : Nat) (list1 : Nat) (list2 : List (List Int)) : Option (Nat × List (List Int)) := impl_ordered_c _ F list1 list2 some
theorem impl_ordered_cp (Q : Type) (F : Nat) (list1 : Nat) (list2 : List (List Int)) (k : (Nat × List (List Int)) → Option Q) : impl_ordered_c Q F list1 list2 k = (impl_ordered_p F list1 list2).bind k := by
  simp only [impl_ordered_p, impl_ordered_c, cond_bindL, none_bindL, some_bindL]

/-- loop 12 of loop.example/g01194/impl.BoardsBefore -/
def impl_BoardsBefore_s12 (F : Nat) (direction0 : Int) (i4 : Int) (rows5 : List (List Int)) (t3211 : List (List Int)) (t3212 : List (List Int)) (t3213 : List (List Int)) (t3214 : List (List Int)) (t3315 : Int) (t3918 : Int) (t4019 : Int) (t4420 : List (List Int)) (t4521 : Int) (b23 : List Int) (own25 : List Int) (t3826 : List (List Int)) (Q : Type) : (Int × List (List Int)) → ((Int × List (List Int)) → Option Q) → ((List (List Int)) → Option Q) → Option Q
  | (t4622, next24), kn, kx =>
    let z_1 := (impl_Board_withLine_p own25 direction0 i4 (rget t4420 (Int.toNat t4622)))
    let z_2 : List (List Int) := ((subn (List.length next24) next24 0 (List.length next24)) ++ [(Option.getD z_1 default)])
    bif (decide (t4622 < t4521)) then
    bif (inR t4622 (List.length t4420)) then
    bif (Option.isSome z_1) then
    bif (fits (List.length z_2) 128) then
    kn ((IntKind.wrap .i64 (t4622 + (1 : Int))), z_2)
    else none
    else none
    else none
    else kx next24
def impl_BoardsBefore_l12 (F : Nat) (direction0 : Int) (i4 : Int) (rows5 : List (List Int)) (t3211 : List (List Int)) (t3212 : List (List Int)) (t3213 : List (List Int)) (t3214 : List (List Int)) (t3315 : Int) (t3918 : Int) (t4019 : Int) (t4420 : List (List Int)) (t4521 : Int) (b23 : List Int) (own25 : List Int) (t3826 : List (List Int)) (t4622 : Int) (next24 : List (List Int)) : Option (List (List Int)) := loopC (impl_BoardsBefore_s12 F direction0 i4 rows5 t3211 t3212 t3213 t3214 t3315 t3918 t4019 t4420 t4521 b23 own25 t3826) F (t4622, next24) some
theorem impl_BoardsBefore_s12_nat (F : Nat) (direction0 : Int) (i4 : Int) (rows5 : List (List Int)) (t3211 : List (List Int)) (t3212 : List (List Int)) (t3213 : List (List Int)) (t3214 : List (List Int)) (t3315 : Int) (t3918 : Int) (t4019 : Int) (t4420 : List (List Int)) (t4521 : Int) (b23 : List Int) (own25 : List Int) (t3826 : List (List Int)) : Natural (impl_BoardsBefore_s12 F direction0 i4 rows5 t3211 t3212 t3213 t3214 t3315 t3918 t4019 t4420 t4521 b23 own25 t3826) := by
  intro Q Q' s kn kx h
  obtain ⟨t4622, next24⟩ := s
  simp only [impl_BoardsBefore_s12, cond_bindL, none_bindL]
/-- loop 9 of loop.example/g01194/impl.BoardsBefore -/
def impl_BoardsBefore_s9 (F : Nat) (direction0 : Int) (i4 : Int) (rows5 : List (List Int)) (t328 : List (List Int)) (t329 : List (List Int)) (t3210 : List (List Int)) (t3211 : List (List Int)) (t3312 : Int) (t3915 : Int) (b17 : List Int) (t3819 : List (List Int)) (Q : Type) : (Int × List (List Int)) → ((Int × List (List Int)) → Option Q) → ((List (List Int)) → Option Q) → Option Q
  | (t4016, next18), kn, kx =>
    let z_1 := (impl_BoardsBefore_l12 F direction0 i4 rows5 t328 t329 t3210 t3211 t3312 t3915 t4016 rows5 (((List.length rows5) : Nat) : Int) b17 (rget t3819 ((0 : Nat) + (Int.toNat t4016))) t3819 (0 : Int) next18)
    bif (decide (t4016 < t3915)) then
    bif (inR t4016 (List.length t3819)) then
    bif ((Nat.beq (List.length next18) (List.length next18)) && ((Nat.beq (List.length t3819) (List.length t3819)) && (Option.isSome z_1))) then
    kn ((IntKind.wrap .i64 (t4016 + (1 : Int))), (Option.getD z_1 default))
    else none
    else none
    else kx next18
def impl_BoardsBefore_l9 (F : Nat) (direction0 : Int) (i4 : Int) (rows5 : List (List Int)) (t328 : List (List Int)) (t329 : List (List Int)) (t3210 : List (List Int)) (t3211 : List (List Int)) (t3312 : Int) (t3915 : Int) (b17 : List Int) (t3819 : List (List Int)) (t4016 : Int) (next18 : List (List Int)) : Option (List (List Int)) := loopC (impl_BoardsBefore_s9 F direction0 i4 rows5 t328 t329 t3210 t3211 t3312 t3915 b17 t3819) F (t4016, next18) some
theorem impl_BoardsBefore_s9_nat (F : Nat) (direction0 : Int) (i4 : Int) (rows5 : List (List Int)) (t328 : List (List Int)) (t329 : List (List Int)) (t3210 : List (List Int)) (t3211 : List (List Int)) (t3312 : Int) (t3915 : Int) (b17 : List Int) (t3819 : List (List Int)) : Natural (impl_BoardsBefore_s9 F direction0 i4 rows5 t328 t329 t3210 t3211 t3312 t3915 b17 t3819) := by
  intro Q Q' s kn kx h
  obtain ⟨t4016, next18⟩ := s
  simp only [impl_BoardsBefore_s9, cond_bindL, none_bindL]
/-- loop 5 of loop.example/g01194/impl.BoardsBefore -/
def impl_BoardsBefore_s5 (F : Nat) (direction0 : Int) (t326 : List (List Int)) (t327 : List (List Int)) (t328 : List (List Int)) (t329 : List (List Int)) (b11 : List Int) (Q : Type) : (Int × List (List Int)) → ((Int × List (List Int)) → Option Q) → ((List (List Int)) → Option Q) → Option Q
  | (t3310, out12), kn, kx =>
    let z_1 := (impl_BoardsBefore_l9 F direction0 t3310 (llget [t326, t327, t328, t329] ((Int.toNat t3310) * (1 : Nat))) t326 t327 t328 t329 t3310 (((List.length out12) : Nat) : Int) b11 out12 (0 : Int) ([] : List (List Int)))
    bif (decide (t3310 < (4 : Int))) then
    bif (inR t3310 4) then
    bif ((Nat.beq (List.length out12) (List.length out12)) && (Option.isSome z_1)) then
    kn ((IntKind.wrap .i64 (t3310 + (1 : Int))), (Option.getD z_1 default))
    else none
    else none
    else kx out12
def impl_BoardsBefore_l5 (F : Nat) (direction0 : Int) (t326 : List (List Int)) (t327 : List (List Int)) (t328 : List (List Int)) (t329 : List (List Int)) (b11 : List Int) (t3310 : Int) (out12 : List (List Int)) : Option (List (List Int)) := loopC (impl_BoardsBefore_s5 F direction0 t326 t327 t328 t329 b11) F (t3310, out12) some
theorem impl_BoardsBefore_s5_nat (F : Nat) (direction0 : Int) (t326 : List (List Int)) (t327 : List (List Int)) (t328 : List (List Int)) (t329 : List (List Int)) (b11 : List Int) : Natural (impl_BoardsBefore_s5 F direction0 t326 t327 t328 t329 b11) := by
  intro Q Q' s kn kx h
  obtain ⟨t3310, out12⟩ := s
  simp only [impl_BoardsBefore_s5, cond_bindL, none_bindL]
/-- loop.example/g01194/impl.BoardsBefore -/
def impl_BoardsBefore_c (Q : Type) (F : Nat) (b0 : List Int) (direction1 : Int) (k : (Nat × Bool × List (List Int)) → Option Q) : Option Q :=
    let z_1 := (impl_IsBoard_p F b0)
    let z_2 := (impl_Board_countBefore_p F b0 direction1)
    let z_3 := (impl_Board_linesBefore_p F b0 direction1)
    let z_4 := (Option.getD z_3 default)
    let z_5 := (impl_BoardsBefore_l5 F direction1 z_4.1 z_4.2.1 z_4.2.2.1 z_4.2.2.2 b0 (0 : Int) [[(0 : Int), (0 : Int), (0 : Int), (0 : Int), (0 : Int), (0 : Int), (0 : Int), (0 : Int), (0 : Int), (0 : Int), (0 : Int), (0 : Int), (0 : Int), (0 : Int), (0 : Int), (0 : Int)]])
    let z_6 : Nat := (List.length (Option.getD z_5 default))
    let z_7 := (slices_DeleteFunc_implBoardimplBoard_impl_BoardsBefore_f1_p F (Option.getD z_5 default) b0)
    let z_8 := (Option.getD z_7 default)
    let z_9 := (impl_ordered_p F z_8.1 z_8.2)
    let z_10 := (Option.getD z_9 default)
    bif (Option.isSome z_1) then
    bif (!(Option.getD z_1 default)) then
    k ((0 : Nat), false, ([] : List (List Int)))
    else bif (!(impl_isDirection_v direction1)) then
    k ((0 : Nat), false, ([] : List (List Int)))
    else bif (Option.isSome z_2) then
    bif (decide ((300 : Int) < (Option.getD z_2 default))) then
    k ((0 : Nat), false, ([] : List (List Int)))
    else bif (Option.isSome z_3) then
    bif (Option.isSome z_5) then
    bif ((Nat.beq z_6 z_6) && (Option.isSome z_7)) then
    bif (Option.isSome z_9) then
    k (z_10.1, true, z_10.2)
    else none
    else none
    else none
    else none
    else none
    else none
def impl_BoardsBefore_p (F : Nat) (b0 : List Int) (direction1 : Int) : Option (Nat × Bool × List (List Int)) := impl_BoardsBefore_c _ F b0 direction1 some
theorem impl_BoardsBefore_cp (Q : Type) (F : Nat) (b0 : List Int) (direction1 : Int) (k : (Nat × Bool × List (List Int)) → Option Q) : impl_BoardsBefore_c Q F b0 direction1 k = (impl_BoardsBefore_p F b0 direction1).bind k := by
  simp only [impl_BoardsBefore_p, impl_BoardsBefore_c, cond_bindL, none_bindL, some_bindL]

/-- loop.example/g01194/impl.BackStep -/
def impl_BackStep_c (Q : Type) (F : Nat) (b0 : List Int) (direction1 : Int) (k2 : Int) (k : (List Int × Bool) → Option Q) : Option Q :=
    let z_1 := (impl_BoardsBefore_p F b0 direction1)
    let z_2 := (Option.getD z_1 default)
    let z_3 : List Int := [(0 : Int), (0 : Int), (0 : Int), (0 : Int), (0 : Int), (0 : Int), (0 : Int), (0 : Int), (0 : Int), (0 : Int), (0 : Int), (0 : Int), (0 : Int), (0 : Int), (0 : Int), (0 : Int)]
    bif (Option.isSome z_1) then
    bif (!z_2.2.1) then
    k (z_3, false)
    else bif (!(impl_in_v k2 (0 : Int) (IntKind.wrap .i64 (((z_2.1 : Nat) : Int) - (1 : Int))))) then
    k (z_3, false)
    else bif (inR k2 z_2.1) then
    k ((rget z_2.2.2 ((0 : Nat) + (Int.toNat k2))), true)
    else none
    else none
def impl_BackStep_p (F : Nat) (b0 : List Int) (direction1 : Int) (k2 : Int) : Option (List Int × Bool) := impl_BackStep_c _ F b0 direction1 k2 some
theorem impl_BackStep_cp (Q : Type) (F : Nat) (b0 : List Int) (direction1 : Int) (k2 : Int) (k : (List Int × Bool) → Option Q) : impl_BackStep_c Q F b0 direction1 k2 k = (impl_BackStep_p F b0 direction1 k2).bind k := by
  simp only [impl_BackStep_p, impl_BackStep_c, cond_bindL, none_bindL, some_bindL]

/-- loop 2 of loop.example/g01194/laws.eqIntA4 -/
def laws_eqIntA4_s2 (F : Nat) (a7 : List Int) (b8 : List Int) (Q : Type) : (Int) → ((Int) → Option Q) → ((Bool) → Option Q) → Option Q
  | i6, kn, kx =>
    let z_1 : Nat := ((0 : Nat) + ((Int.toNat i6) * (1 : Nat)))
    bif (decide (i6 < (4 : Int))) then
    bif (inR i6 4) then
    bif (inR i6 4) then
    bif (!((iget a7 z_1) == (iget b8 z_1))) then
    kx true
    else kn (IntKind.wrap .i64 (i6 + (1 : Int)))
    else none
    else none
    else kx false
def laws_eqIntA4_l2 (F : Nat) (a7 : List Int) (b8 : List Int) (i6 : Int) : Option (Bool) := loopC (laws_eqIntA4_s2 F a7 b8) F i6 some
theorem laws_eqIntA4_s2_nat (F : Nat) (a7 : List Int) (b8 : List Int) : Natural (laws_eqIntA4_s2 F a7 b8) := by
  intro Q Q' s kn kx h
  simp only [laws_eqIntA4_s2, cond_bindL, none_bindL]
/-- loop.example/g01194/laws.eqIntA4 -/
def laws_eqIntA4_c (Q : Type) (F : Nat) (a0 : List Int) (b1 : List Int) (k : (Bool) → Option Q) : Option Q :=
    let z_1 := (laws_eqIntA4_l2 F a0 b1 (0 : Int))
    bif (Option.isSome z_1) then
    bif (Option.getD z_1 default) then
    k false
    else k true
    else none
def laws_eqIntA4_p (F : Nat) (a0 : List Int) (b1 : List Int) : Option (Bool) := laws_eqIntA4_c _ F a0 b1 some
theorem laws_eqIntA4_cp (Q : Type) (F : Nat) (a0 : List Int) (b1 : List Int) (k : (Bool) → Option Q) : laws_eqIntA4_c Q F a0 b1 k = (laws_eqIntA4_p F a0 b1).bind k := by
  simp only [laws_eqIntA4_p, laws_eqIntA4_c, cond_bindL, none_bindL, some_bindL]
end Go.Lv.P
