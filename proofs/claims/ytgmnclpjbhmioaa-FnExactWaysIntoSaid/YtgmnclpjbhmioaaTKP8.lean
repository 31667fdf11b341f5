/-
Pure functions and what the code of them does, by program; without conditions.
-/
import Derived.Test.YtgmnclpjbhmioaaTKP7
namespace Go.Lv.P
open Go Go.Lv
set_option linter.unusedVariables false
set_option linter.unusedSimpArgs false
set_option maxRecDepth 100000
/-- slices.Concat[[]int,int] -/
def slices_Concat_intint_c (Q : Type) (slices0 : List Int) (slices1 : List Int) (slices2 : List Int) (slices3 : List Int) (k : (List Int) → Option Q) : Option Q :=
    let z_1 : Int := (IntKind.wrap .i64 ((0 : Int) + (((List.length slices0) : Nat) : Int)))
    let z_2 : Int := (IntKind.wrap .i64 (z_1 + (((List.length slices1) : Nat) : Int)))
    let z_3 : Int := (IntKind.wrap .i64 (z_2 + (((List.length slices2) : Nat) : Int)))
    let z_4 : Int := (IntKind.wrap .i64 (z_3 + (((List.length slices3) : Nat) : Int)))
    let z_5 : List Int := ((subn (List.length (Option.getD (slices_Grow_intint_p z_4) default)) (Option.getD (slices_Grow_intint_p z_4) default) 0 0) ++ slices0)
    let z_6 : Nat := (List.length z_5)
    let z_7 : List Int := ((subn z_6 z_5 0 z_6) ++ slices1)
    let z_8 : Nat := (List.length z_7)
    let z_9 : List Int := ((subn z_8 z_7 0 z_8) ++ slices2)
    let z_10 : Nat := (List.length z_9)
    let z_11 : List Int := ((subn z_10 z_9 0 z_10) ++ slices3)
    bif (decide (z_1 < (0 : Int))) then
    none
    else bif (decide (z_2 < (0 : Int))) then
    none
    else bif (decide (z_3 < (0 : Int))) then
    none
    else bif (decide (z_4 < (0 : Int))) then
    none
    else bif (Option.isSome (slices_Grow_intint_p z_4)) then
    bif (fits z_6 8) then
    bif (fits z_8 8) then
    bif (fits z_10 8) then
    bif (fits (List.length z_11) 8) then
    k z_11
    else none
    else none
    else none
    else none
    else none
def slices_Concat_intint_p (slices0 : List Int) (slices1 : List Int) (slices2 : List Int) (slices3 : List Int) : Option (List Int) := slices_Concat_intint_c _ slices0 slices1 slices2 slices3 some
theorem slices_Concat_intint_cp (Q : Type) (slices0 : List Int) (slices1 : List Int) (slices2 : List Int) (slices3 : List Int) (k : (List Int) → Option Q) : slices_Concat_intint_c Q slices0 slices1 slices2 slices3 k = (slices_Concat_intint_p slices0 slices1 slices2 slices3).bind k := by
  simp only [slices_Concat_intint_p, slices_Concat_intint_c, cond_bindL, none_bindL, some_bindL]

/-- (loop.example/g01194/impl.Board).flat -/
def impl_Board_flat_c (Q : Type) (b0 : List Int) (k : (List Int) → Option Q) : Option Q :=
    let z_1 := (slices_Concat_intint_p (sub b0 0 4) (sub b0 4 4) (sub b0 8 4) (sub b0 12 4))
    bif (Option.isSome z_1) then
    k (Option.getD z_1 default)
    else none
def impl_Board_flat_p (b0 : List Int) : Option (List Int) := impl_Board_flat_c _ b0 some
theorem impl_Board_flat_cp (Q : Type) (b0 : List Int) (k : (List Int) → Option Q) : impl_Board_flat_c Q b0 k = (impl_Board_flat_p b0).bind k := by
  simp only [impl_Board_flat_p, impl_Board_flat_c, cond_bindL, none_bindL, some_bindL]

/-- (loop.example/g01194/impl.Board).order -/
def impl_Board_order_c (Q : Type) (F : Nat) (b0 : List Int) (c1 : List Int) (k : (Int) → Option Q) : Option Q :=
    let z_1 : Nat := (List.length (Option.getD (impl_Board_flat_p b0) default))
    let z_2 : Nat := (List.length (Option.getD (impl_Board_flat_p c1) default))
    let z_3 := (slices_Compare_intint_p F (subn z_1 (Option.getD (impl_Board_flat_p b0) default) 0 z_1) (subn z_2 (Option.getD (impl_Board_flat_p c1) default) 0 z_2))
    bif (Option.isSome (impl_Board_flat_p b0)) then
    bif (Option.isSome (impl_Board_flat_p c1)) then
    bif (Option.isSome z_3) then
    k (Option.getD z_3 default)
    else none
    else none
    else none
def impl_Board_order_p (F : Nat) (b0 : List Int) (c1 : List Int) : Option (Int) := impl_Board_order_c _ F b0 c1 some
theorem impl_Board_order_cp (Q : Type) (F : Nat) (b0 : List Int) (c1 : List Int) (k : (Int) → Option Q) : impl_Board_order_c Q F b0 c1 k = (impl_Board_order_p F b0 c1).bind k := by
  simp only [impl_Board_order_p, impl_Board_order_c, cond_bindL, none_bindL, some_bindL]


/-- loop 9 of slices.Compact[[]loop.example/g01194/impl.Board,loop.example/g01194/impl.Board] -/
def slices_Compact_implBoardimplBoard_s9 (F : Nat) (s1 : Nat) (s23 : Nat) (s24 : Nat) (Q : Type) : (Int × Int × List (List Int)) → ((Int × Int × List (List Int)) → Option Q) → ((Int × List (List Int)) → Option Q) → Option Q
  | (k2, k25, s6), kn, kx =>
    let z_1 : Int := (IntKind.wrap .i64 (k25 - (1 : Int)))
    let z_2 : List Int := (rget s6 (s23 + (Int.toNat k25)))
    let z_3 : Int := (IntKind.wrap .i64 (k25 + (1 : Int)))
    bif (decide (k25 < ((s24 : Nat) : Int))) then
    bif (inR k25 s24) then
    bif (inR z_1 s24) then
    bif (!(z_2 == (rget s6 (s23 + (Int.toNat z_1))))) then
    bif (inR k25 s24) then
    bif (inR k2 s1) then
    kn ((IntKind.wrap .i64 (k2 + (1 : Int))), z_3, (rset s6 ((0 : Nat) + (Int.toNat k2)) z_2))
    else none
    else none
    else kn (k2, z_3, s6)
    else none
    else none
    else kx (k2, s6)
def slices_Compact_implBoardimplBoard_l9 (F : Nat) (s1 : Nat) (s23 : Nat) (s24 : Nat) (k2 : Int) (k25 : Int) (s6 : List (List Int)) : Option (Int × List (List Int)) := loopC (slices_Compact_implBoardimplBoard_s9 F s1 s23 s24) F (k2, k25, s6) some
theorem slices_Compact_implBoardimplBoard_s9_nat (F : Nat) (s1 : Nat) (s23 : Nat) (s24 : Nat) : Natural (slices_Compact_implBoardimplBoard_s9 F s1 s23 s24) := by
  intro Q Q' s kn kx h
  obtain ⟨k2, k25, s6⟩ := s
  simp only [slices_Compact_implBoardimplBoard_s9, cond_bindL, none_bindL]
/-- loop 4 of slices.Compact[[]loop.example/g01194/impl.Board,loop.example/g01194/impl.Board] -/
def slices_Compact_implBoardimplBoard_s4 (F : Nat) (s1 : Nat) (s3 : List (List Int)) (Q : Type) : (Int) → ((Int) → Option Q) → ((Bool × Nat × List (List Int)) → Option Q) → Option Q
  | k2, kn, kx =>
    let z_1 : Int := (IntKind.wrap .i64 (k2 - (1 : Int)))
    let z_2 := (slices_Compact_implBoardimplBoard_l9 F s1 ((0 : Nat) + (Int.toNat k2)) (s1 - (Int.toNat k2)) k2 (1 : Int) s3)
    let z_3 := (Option.getD z_2 default)
    let z_4 : Bool := (inLe z_3.1 s1)
    let z_5 : Nat := (Int.toNat z_3.1)
    let z_6 : Nat := (s1 - z_5)
    bif (decide (k2 < ((s1 : Nat) : Int))) then
    bif (inR k2 s1) then
    bif (inR z_1 s1) then
    bif ((rget s3 ((0 : Nat) + (Int.toNat k2))) == (rget s3 ((0 : Nat) + (Int.toNat z_1)))) then
    bif (inLe k2 s1) then
    bif (Option.isSome z_2) then
    bif z_4 then
    bif z_4 then
    kx (true, (z_5 - (0 : Nat)), (splice z_3.2 ((0 : Nat) + z_5) (List.replicate z_6 [(0 : Int), (0 : Int), (0 : Int), (0 : Int), (0 : Int), (0 : Int), (0 : Int), (0 : Int), (0 : Int), (0 : Int), (0 : Int), (0 : Int), (0 : Int), (0 : Int), (0 : Int), (0 : Int)]) z_6))
    else none
    else none
    else none
    else none
    else kn (IntKind.wrap .i64 (k2 + (1 : Int)))
    else none
    else none
    else kx (false, default, default)
def slices_Compact_implBoardimplBoard_l4 (F : Nat) (s1 : Nat) (s3 : List (List Int)) (k2 : Int) : Option (Bool × Nat × List (List Int)) := loopC (slices_Compact_implBoardimplBoard_s4 F s1 s3) F k2 some
theorem slices_Compact_implBoardimplBoard_s4_nat (F : Nat) (s1 : Nat) (s3 : List (List Int)) : Natural (slices_Compact_implBoardimplBoard_s4 F s1 s3) := by
  intro Q Q' s kn kx h
  simp only [slices_Compact_implBoardimplBoard_s4, cond_bindL, none_bindL]
/-- slices.Compact[[]loop.example/g01194/impl.Board,loop.example/g01194/impl.Board] -/
def slices_Compact_implBoardimplBoard_c (Q : Type) (F : Nat) (s1 : Nat) (s2 : List (List Int)) (k : (Nat × List (List Int)) → Option Q) : Option Q :=
    let z_1 := (slices_Compact_implBoardimplBoard_l4 F s1 s2 (1 : Int))
    let z_2 := (Option.getD z_1 default)
    bif (decide (((s1 : Nat) : Int) < (2 : Int))) then
    k (s1, s2)
    else bif (Option.isSome z_1) then
    bif z_2.1 then
    k (z_2.2.1, z_2.2.2)
    else k (s1, s2)
    else none
def slices_Compact_implBoardimplBoard_p (F : Nat) (s1 : Nat) (s2 : List (List Int)) : Option (Nat × List (List Int)) := slices_Compact_implBoardimplBoard_c _ F s1 s2 some
theorem slices_Compact_implBoardimplBoard_cp (Q : Type) (F : Nat) (s1 : Nat) (s2 : List (List Int)) (k : (Nat × List (List Int)) → Option Q) : slices_Compact_implBoardimplBoard_c Q F s1 s2 k = (slices_Compact_implBoardimplBoard_p F s1 s2).bind k := by
  simp only [slices_Compact_implBoardimplBoard_p, slices_Compact_implBoardimplBoard_c, cond_bindL, none_bindL, some_bindL]

/-- loop.example/g01194/impl.ordered -/
def impl_ordered_c (Q : Type) (F : Nat) (list2 : List (List Int)) (k : (Nat × List (List Int)) → Option Q) : Option Q :=
    let z_1 := (slices_Compact_implBoardimplBoard_p F (List.length list2) (sortL list2))
    let z_2 := (Option.getD z_1 default)
    bif ((Nat.beq (List.length list2) (List.length list2)) && ((Nat.blt 1000 F) && (Nat.ble (List.length list2) 1000000000))) then
    bif (Option.isSome z_1) then
    k (z_2.1, z_2.2)
    else none
    else none
def impl_ordered_p (F : Nat) (list2 : List (List Int)) : Option (Nat × List (List Int)) := impl_ordered_c _ F list2 some
theorem impl_ordered_cp (Q : Type) (F : Nat) (list2 : List (List Int)) (k : (Nat × List (List Int)) → Option Q) : impl_ordered_c Q F list2 k = (impl_ordered_p F list2).bind k := by
  simp only [impl_ordered_p, impl_ordered_c, cond_bindL, none_bindL, some_bindL]

/-- loop.example/g01194/impl.ReachBySlides -/
def impl_ReachBySlides_c (Q : Type) (F : Nat) (b0 : List Int) (n1 : Int) (k : (Nat × Bool × List (List Int)) → Option Q) : Option Q :=
    let z_1 := (impl_IsBoard_p F b0)
    let z_2 := (impl_Board_reach_p F b0 n1)
    let z_3 : Nat := (List.length (Option.getD z_2 default).2)
    let z_4 := (impl_ordered_p F (Option.getD z_2 default).2)
    let z_5 := (Option.getD z_4 default)
    bif (Option.isSome z_1) then
    bif (!(Option.getD z_1 default)) then
    k ((0 : Nat), false, ([] : List (List Int)))
    else bif (!(impl_in_v n1 (0 : Int) (6 : Int))) then
    k ((0 : Nat), false, ([] : List (List Int)))
    else bif (Option.isSome z_2) then
    bif ((Nat.beq z_3 z_3) && (Option.isSome z_4)) then
    k (z_5.1, true, z_5.2)
    else none
    else none
    else none
def impl_ReachBySlides_p (F : Nat) (b0 : List Int) (n1 : Int) : Option (Nat × Bool × List (List Int)) := impl_ReachBySlides_c _ F b0 n1 some
theorem impl_ReachBySlides_cp (Q : Type) (F : Nat) (b0 : List Int) (n1 : Int) (k : (Nat × Bool × List (List Int)) → Option Q) : impl_ReachBySlides_c Q F b0 n1 k = (impl_ReachBySlides_p F b0 n1).bind k := by
  simp only [impl_ReachBySlides_p, impl_ReachBySlides_c, cond_bindL, none_bindL, some_bindL]

/-- loop 2 of loop.example/g01194/laws.eqIntA4A4 -/
def laws_eqIntA4A4_s2 (F : Nat) (a7 : List Int) (b8 : List Int) (Q : Type) : (Int) → ((Int) → Option Q) → ((Bool) → Option Q) → Option Q
  | i6, kn, kx =>
    let z_1 : Nat := ((0 : Nat) + ((Int.toNat i6) * (4 : Nat)))
    let z_2 := (laws_eqIntA4_p F (subn 16 a7 z_1 4) (subn 16 b8 z_1 4))
    bif (decide (i6 < (4 : Int))) then
    bif (inR i6 4) then
    bif (inR i6 4) then
    bif (Option.isSome z_2) then
    bif (!(Option.getD z_2 default)) then
    kx true
    else kn (IntKind.wrap .i64 (i6 + (1 : Int)))
    else none
    else none
    else none
    else kx false
def laws_eqIntA4A4_l2 (F : Nat) (a7 : List Int) (b8 : List Int) (i6 : Int) : Option (Bool) := loopC (laws_eqIntA4A4_s2 F a7 b8) F i6 some
theorem laws_eqIntA4A4_s2_nat (F : Nat) (a7 : List Int) (b8 : List Int) : Natural (laws_eqIntA4A4_s2 F a7 b8) := by
  intro Q Q' s kn kx h
  simp only [laws_eqIntA4A4_s2, cond_bindL, none_bindL]
/-- loop.example/g01194/laws.eqIntA4A4 -/
def laws_eqIntA4A4_c (Q : Type) (F : Nat) (a0 : List Int) (b1 : List Int) (k : (Bool) → Option Q) : Option Q :=
    let z_1 := (laws_eqIntA4A4_l2 F a0 b1 (0 : Int))
    bif (Option.isSome z_1) then
    bif (Option.getD z_1 default) then
    k false
    else k true
    else none
def laws_eqIntA4A4_p (F : Nat) (a0 : List Int) (b1 : List Int) : Option (Bool) := laws_eqIntA4A4_c _ F a0 b1 some
theorem laws_eqIntA4A4_cp (Q : Type) (F : Nat) (a0 : List Int) (b1 : List Int) (k : (Bool) → Option Q) : laws_eqIntA4A4_c Q F a0 b1 k = (laws_eqIntA4A4_p F a0 b1).bind k := by
  simp only [laws_eqIntA4A4_p, laws_eqIntA4A4_c, cond_bindL, none_bindL, some_bindL]

/-- loop.example/g01194/laws.eqBoard -/
def laws_eqBoard_c (Q : Type) (F : Nat) (a0 : List Int) (b1 : List Int) (k : (Bool) → Option Q) : Option Q :=
    let z_1 := (laws_eqIntA4A4_p F a0 b1)
    bif (Option.isSome z_1) then
    bif (!(Option.getD z_1 default)) then
    k false
    else k true
    else none
def laws_eqBoard_p (F : Nat) (a0 : List Int) (b1 : List Int) : Option (Bool) := laws_eqBoard_c _ F a0 b1 some
theorem laws_eqBoard_cp (Q : Type) (F : Nat) (a0 : List Int) (b1 : List Int) (k : (Bool) → Option Q) : laws_eqBoard_c Q F a0 b1 k = (laws_eqBoard_p F a0 b1).bind k := by
  simp only [laws_eqBoard_p, laws_eqBoard_c, cond_bindL, none_bindL, some_bindL]

/-- loop 4 of loop.example/g01194/laws.eqBoardS -/
def laws_eqBoardS_s4 (F : Nat) (a0 : List (List Int)) (b1 : List (List Int)) (Q : Type) : (Int) → ((Int) → Option Q) → ((Bool) → Option Q) → Option Q
  | i2, kn, kx =>
    let z_1 := (laws_eqBoard_p F (rget a0 (Int.toNat i2)) (rget b1 (Int.toNat i2)))
    bif (decide (i2 < (((List.length a0) : Nat) : Int))) then
    bif (inR i2 (List.length a0)) then
    bif (inR i2 (List.length b1)) then
    bif (Option.isSome z_1) then
    bif (!(Option.getD z_1 default)) then
    kx true
    else kn (IntKind.wrap .i64 (i2 + (1 : Int)))
    else none
    else none
    else none
    else kx false
def laws_eqBoardS_l4 (F : Nat) (a0 : List (List Int)) (b1 : List (List Int)) (i2 : Int) : Option (Bool) := loopC (laws_eqBoardS_s4 F a0 b1) F i2 some
theorem laws_eqBoardS_s4_nat (F : Nat) (a0 : List (List Int)) (b1 : List (List Int)) : Natural (laws_eqBoardS_s4 F a0 b1) := by
  intro Q Q' s kn kx h
  simp only [laws_eqBoardS_s4, cond_bindL, none_bindL]
/-- loop.example/g01194/laws.eqBoardS -/
def laws_eqBoardS_c (Q : Type) (F : Nat) (a0 : List (List Int)) (b1 : List (List Int)) (k : (Bool) → Option Q) : Option Q :=
    let z_1 := (laws_eqBoardS_l4 F a0 b1 (0 : Int))
    bif (!((((List.length a0) : Nat) : Int) == (((List.length b1) : Nat) : Int))) then
    k false
    else bif (Option.isSome z_1) then
    bif (Option.getD z_1 default) then
    k false
    else k true
    else none
def laws_eqBoardS_p (F : Nat) (a0 : List (List Int)) (b1 : List (List Int)) : Option (Bool) := laws_eqBoardS_c _ F a0 b1 some
theorem laws_eqBoardS_cp (Q : Type) (F : Nat) (a0 : List (List Int)) (b1 : List (List Int)) (k : (Bool) → Option Q) : laws_eqBoardS_c Q F a0 b1 k = (laws_eqBoardS_p F a0 b1).bind k := by
  simp only [laws_eqBoardS_p, laws_eqBoardS_c, cond_bindL, none_bindL, some_bindL]

/-- loop 2 of loop.example/g01194/laws.markBoardS -/
def laws_markBoardS_s2 (F : Nat) (a1 : Nat) (k2 : Int) (a4 : List (List Int)) (Q : Type) : (Int) → ((Int) → Option Q) → ((Unit) → Option Q) → Option Q
  | i3, kn, kx =>
    bif (decide (i3 < ((a1 : Nat) : Int))) then
    kn (IntKind.wrap .i64 (i3 + (1 : Int)))
    else kx ()
def laws_markBoardS_l2 (F : Nat) (a1 : Nat) (k2 : Int) (a4 : List (List Int)) (i3 : Int) : Option (Unit) := loopC (laws_markBoardS_s2 F a1 k2 a4) F i3 some
theorem laws_markBoardS_s2_nat (F : Nat) (a1 : Nat) (k2 : Int) (a4 : List (List Int)) : Natural (laws_markBoardS_s2 F a1 k2 a4) := by
  intro Q Q' s kn kx h
  simp only [laws_markBoardS_s2, cond_bindL, none_bindL]
/-- loop.example/g01194/laws.markBoardS -/
def laws_markBoardS_c (Q : Type) (F : Nat) (a1 : Nat) (k2 : Int) (a3 : List (List Int)) (k : (Unit) → Option Q) : Option Q :=
    bif (Option.isSome (laws_markBoardS_l2 F a1 k2 a3 (0 : Int))) then
    k ()
    else none
def laws_markBoardS_p (F : Nat) (a1 : Nat) (k2 : Int) (a3 : List (List Int)) : Option (Unit) := laws_markBoardS_c _ F a1 k2 a3 some
theorem laws_markBoardS_cp (Q : Type) (F : Nat) (a1 : Nat) (k2 : Int) (a3 : List (List Int)) (k : (Unit) → Option Q) : laws_markBoardS_c Q F a1 k2 a3 k = (laws_markBoardS_p F a1 k2 a3).bind k := by
  simp only [laws_markBoardS_p, laws_markBoardS_c, cond_bindL, none_bindL, some_bindL]

/-- loop 2 of loop.example/g01194/laws.heldBoardS -/
def laws_heldBoardS_s2 (F : Nat) (a0 : List (List Int)) (k1 : Int) (Q : Type) : (Int) → ((Int) → Option Q) → ((Unit) → Option Q) → Option Q
  | i2, kn, kx =>
    bif (decide (i2 < (((List.length a0) : Nat) : Int))) then
    kn (IntKind.wrap .i64 (i2 + (1 : Int)))
    else kx ()
def laws_heldBoardS_l2 (F : Nat) (a0 : List (List Int)) (k1 : Int) (i2 : Int) : Option (Unit) := loopC (laws_heldBoardS_s2 F a0 k1) F i2 some
theorem laws_heldBoardS_s2_nat (F : Nat) (a0 : List (List Int)) (k1 : Int) : Natural (laws_heldBoardS_s2 F a0 k1) := by
  intro Q Q' s kn kx h
  simp only [laws_heldBoardS_s2, cond_bindL, none_bindL]
/-- loop.example/g01194/laws.heldBoardS -/
def laws_heldBoardS_c (Q : Type) (F : Nat) (a0 : List (List Int)) (k1 : Int) (k : (Unit) → Option Q) : Option Q :=
    bif (Option.isSome (laws_heldBoardS_l2 F a0 k1 (0 : Int))) then
    k ()
    else none
def laws_heldBoardS_p (F : Nat) (a0 : List (List Int)) (k1 : Int) : Option (Unit) := laws_heldBoardS_c _ F a0 k1 some
theorem laws_heldBoardS_cp (Q : Type) (F : Nat) (a0 : List (List Int)) (k1 : Int) (k : (Unit) → Option Q) : laws_heldBoardS_c Q F a0 k1 k = (laws_heldBoardS_p F a0 k1).bind k := by
  simp only [laws_heldBoardS_p, laws_heldBoardS_c, cond_bindL, none_bindL, some_bindL]

/-- loop.example/g01194/laws.FnExactReachBySlides -/
def laws_FnExactReachBySlides_c (Q : Type) (F : Nat) (aB0 : List Int) (aN1 : Int) (k : (Bool) → Option Q) : Option Q :=
    let z_1 := (spec_ReachBySlides_p F (laws_toBoard_v aB0) aN1)
    let z_2 := (impl_ReachBySlides_p F (laws_toBoard_v aB0) aN1)
    let z_3 : Bool := (Option.isSome z_2)
    let z_4 := (Option.getD z_2 default)
    let z_5 : List (List Int) := (subn (List.length z_4.2.2) z_4.2.2 0 z_4.1)
    let z_6 := (Option.getD z_1 default)
    let z_7 := (laws_eqBoardS_p F z_5 z_6.1)
    let z_8 : Bool := (Option.isSome z_7)
    let z_9 : Bool := (!(Option.getD z_7 default))
    let z_10 : Bool := (!(z_4.2.1 == z_6.2))
    let z_11 : Bool := (Option.isSome (laws_heldBoardS_p F z_5 (1 : Int)))
    bif (Option.isSome z_1) then
    bif z_3 then
    bif z_8 then
    bif z_9 then
    k false
    else bif z_10 then
    k false
    else bif (Option.isSome (laws_markBoardS_p F z_4.1 (1 : Int) z_4.2.2)) then
    bif z_11 then
    bif z_3 then
    bif z_8 then
    bif z_9 then
    k false
    else bif z_10 then
    k false
    else bif z_11 then
    k true
    else none
    else none
    else none
    else none
    else none
    else none
    else none
    else none
def laws_FnExactReachBySlides_p (F : Nat) (aB0 : List Int) (aN1 : Int) : Option (Bool) := laws_FnExactReachBySlides_c _ F aB0 aN1 some
theorem laws_FnExactReachBySlides_cp (Q : Type) (F : Nat) (aB0 : List Int) (aN1 : Int) (k : (Bool) → Option Q) : laws_FnExactReachBySlides_c Q F aB0 aN1 k = (laws_FnExactReachBySlides_p F aB0 aN1).bind k := by
  simp only [laws_FnExactReachBySlides_p, laws_FnExactReachBySlides_c, cond_bindL, none_bindL, some_bindL]

/-- loop 5 of loop.example/g01194/spec.CountTiles -/
def spec_CountTiles_s5 (F : Nat) (b10 : List Int) (Q : Type) : (Int × List Int) → ((Int × List Int) → Option Q) → ((List Int) → Option Q) → Option Q
  | (r9, out12), kn, kx =>
    let z_1 : Nat := ((0 : Nat) + ((Int.toNat r9) * (4 : Nat)))
    let z_2 : Int := (iget b10 z_1)
    let z_3 : Bool := (inR z_2 18)
    let z_4 : Int := (iget b10 (z_1 + (1 : Nat)))
    let z_5 : Bool := (inR z_4 18)
    let z_6 : Int := (iget b10 (z_1 + (2 : Nat)))
    let z_7 : Bool := (inR z_6 18)
    let z_8 : Int := (iget b10 (z_1 + (3 : Nat)))
    let z_9 : Bool := (inR z_8 18)
    let z_10 : Nat := ((0 : Nat) + ((Int.toNat z_2) * (1 : Nat)))
    let z_11 : List Int := (iset out12 z_10 (IntKind.wrap .i64 ((iget out12 z_10) + (1 : Int))))
    let z_12 : Nat := ((0 : Nat) + ((Int.toNat z_4) * (1 : Nat)))
    let z_13 : List Int := (iset z_11 z_12 (IntKind.wrap .i64 ((iget z_11 z_12) + (1 : Int))))
    let z_14 : Nat := ((0 : Nat) + ((Int.toNat z_6) * (1 : Nat)))
    let z_15 : List Int := (iset z_13 z_14 (IntKind.wrap .i64 ((iget z_13 z_14) + (1 : Int))))
    let z_16 : Nat := ((0 : Nat) + ((Int.toNat z_8) * (1 : Nat)))
    bif (decide (r9 < (4 : Int))) then
    bif (inR r9 4) then
    bif z_3 then
    bif z_3 then
    bif (inR r9 4) then
    bif z_5 then
    bif z_5 then
    bif (inR r9 4) then
    bif z_7 then
    bif z_7 then
    bif (inR r9 4) then
    bif z_9 then
    bif z_9 then
    kn ((IntKind.wrap .i64 (r9 + (1 : Int))), (iset z_15 z_16 (IntKind.wrap .i64 ((iget z_15 z_16) + (1 : Int)))))
    else none
    else none
    else none
    else none
    else none
    else none
    else none
    else none
    else none
    else none
    else none
    else none
    else kx out12
def spec_CountTiles_l5 (F : Nat) (b10 : List Int) (r9 : Int) (out12 : List Int) : Option (List Int) := loopC (spec_CountTiles_s5 F b10) F (r9, out12) some
theorem spec_CountTiles_s5_nat (F : Nat) (b10 : List Int) : Natural (spec_CountTiles_s5 F b10) := by
  intro Q Q' s kn kx h
  obtain ⟨r9, out12⟩ := s
  simp only [spec_CountTiles_s5, cond_bindL, none_bindL]
/-- loop.example/g01194/spec.CountTiles -/
def spec_CountTiles_c (Q : Type) (F : Nat) (b0 : List Int) (k : (List Int × Bool) → Option Q) : Option Q :=
    let z_1 := (spec_l2Board_p F b0)
    let z_2 : List Int := [(0 : Int), (0 : Int), (0 : Int), (0 : Int), (0 : Int), (0 : Int), (0 : Int), (0 : Int), (0 : Int), (0 : Int), (0 : Int), (0 : Int), (0 : Int), (0 : Int), (0 : Int), (0 : Int), (0 : Int), (0 : Int)]
    let z_3 := (spec_CountTiles_l5 F b0 (0 : Int) z_2)
    bif (Option.isSome z_1) then
    bif (!(Option.getD z_1 default)) then
    k (z_2, false)
    else bif (Option.isSome z_3) then
    k ((Option.getD z_3 default), true)
    else none
    else none
def spec_CountTiles_p (F : Nat) (b0 : List Int) : Option (List Int × Bool) := spec_CountTiles_c _ F b0 some
theorem spec_CountTiles_cp (Q : Type) (F : Nat) (b0 : List Int) (k : (List Int × Bool) → Option Q) : spec_CountTiles_c Q F b0 k = (spec_CountTiles_p F b0).bind k := by
  simp only [spec_CountTiles_p, spec_CountTiles_c, cond_bindL, none_bindL, some_bindL]

/-- loop.example/g01194/spec.l3Form -/
def spec_l3Form_c (Q : Type) (k0 : Int) (k : (Bool) → Option Q) : Option Q :=
    k (spec_l1In_v k0 (0 : Int) (7 : Int))
def spec_l3Form_v (k0 : Int) : Bool :=
    (spec_l1In_v k0 (0 : Int) (7 : Int))
theorem spec_l3Form_cv (Q : Type) (k0 : Int) (k : (Bool) → Option Q) : spec_l3Form_c Q k0 k = k (spec_l3Form_v k0) := by
  simp only [spec_l3Form_c, spec_l3Form_v, app_condL k]

/-- loop.example/g01194/spec.l3Quarter -/
def spec_l3Quarter_c (Q : Type) (b0 : List Int) (k : (List Int) → Option Q) : Option Q :=
    k [(iget b0 12), (iget b0 8), (iget b0 4), (iget b0 0), (iget b0 13), (iget b0 9), (iget b0 5), (iget b0 1), (iget b0 14), (iget b0 10), (iget b0 6), (iget b0 2), (iget b0 15), (iget b0 11), (iget b0 7), (iget b0 3)]
def spec_l3Quarter_v (b0 : List Int) : List Int :=
    [(iget b0 12), (iget b0 8), (iget b0 4), (iget b0 0), (iget b0 13), (iget b0 9), (iget b0 5), (iget b0 1), (iget b0 14), (iget b0 10), (iget b0 6), (iget b0 2), (iget b0 15), (iget b0 11), (iget b0 7), (iget b0 3)]
theorem spec_l3Quarter_cv (Q : Type) (b0 : List Int) (k : (List Int) → Option Q) : spec_l3Quarter_c Q b0 k = k (spec_l3Quarter_v b0) := by
  simp only [spec_l3Quarter_c, spec_l3Quarter_v, app_condL k]

/-- loop.example/g01194/spec.l3Mirror -/
def spec_l3Mirror_c (Q : Type) (b0 : List Int) (k : (List Int) → Option Q) : Option Q :=
    k [(iget b0 3), (iget b0 2), (iget b0 1), (iget b0 0), (iget b0 7), (iget b0 6), (iget b0 5), (iget b0 4), (iget b0 11), (iget b0 10), (iget b0 9), (iget b0 8), (iget b0 15), (iget b0 14), (iget b0 13), (iget b0 12)]
def spec_l3Mirror_v (b0 : List Int) : List Int :=
    [(iget b0 3), (iget b0 2), (iget b0 1), (iget b0 0), (iget b0 7), (iget b0 6), (iget b0 5), (iget b0 4), (iget b0 11), (iget b0 10), (iget b0 9), (iget b0 8), (iget b0 15), (iget b0 14), (iget b0 13), (iget b0 12)]
theorem spec_l3Mirror_cv (Q : Type) (b0 : List Int) (k : (List Int) → Option Q) : spec_l3Mirror_c Q b0 k = k (spec_l3Mirror_v b0) := by
  simp only [spec_l3Mirror_c, spec_l3Mirror_v, app_condL k]

/-- loop 2 of loop.example/g01194/spec.l3Made -/
def spec_l3Made_s2 (F : Nat) (k0 : Int) (Q : Type) : (Int × List Int) → ((Int × List Int) → Option Q) → ((List Int) → Option Q) → Option Q
  | (i7, b8), kn, kx =>
    bif (decide (i7 < (Int.tmod k0 (4 : Int)))) then
    kn ((IntKind.wrap .i64 (i7 + (1 : Int))), (spec_l3Quarter_v b8))
    else kx b8
def spec_l3Made_l2 (F : Nat) (k0 : Int) (i7 : Int) (b8 : List Int) : Option (List Int) := loopC (spec_l3Made_s2 F k0) F (i7, b8) some
theorem spec_l3Made_s2_nat (F : Nat) (k0 : Int) : Natural (spec_l3Made_s2 F k0) := by
  intro Q Q' s kn kx h
  obtain ⟨i7, b8⟩ := s
  simp only [spec_l3Made_s2, cond_bindL, none_bindL]
/-- loop.example/g01194/spec.l3Made -/
def spec_l3Made_c (Q : Type) (F : Nat) (b0 : List Int) (k1 : Int) (k : (List Int) → Option Q) : Option Q :=
    let z_1 := (spec_l3Made_l2 F k1 (0 : Int) b0)
    bif (Option.isSome z_1) then
    bif (decide ((4 : Int) ≤ k1)) then
    k (spec_l3Mirror_v (Option.getD z_1 default))
    else k (Option.getD z_1 default)
    else none
def spec_l3Made_p (F : Nat) (b0 : List Int) (k1 : Int) : Option (List Int) := spec_l3Made_c _ F b0 k1 some
theorem spec_l3Made_cp (Q : Type) (F : Nat) (b0 : List Int) (k1 : Int) (k : (List Int) → Option Q) : spec_l3Made_c Q F b0 k1 k = (spec_l3Made_p F b0 k1).bind k := by
  simp only [spec_l3Made_p, spec_l3Made_c, cond_bindL, none_bindL, some_bindL]

/-- loop.example/g01194/spec.l7Snake -/
def spec_l7Snake_c (Q : Type) (F : Nat) (k0 : Int) (k : (List Int) → Option Q) : Option Q :=
    let z_1 := (spec_l3Made_p F [(0 : Int), (1 : Int), (2 : Int), (3 : Int), (7 : Int), (6 : Int), (5 : Int), (4 : Int), (8 : Int), (9 : Int), (10 : Int), (11 : Int), (15 : Int), (14 : Int), (13 : Int), (12 : Int)] k0)
    let z_2 : Int := (iget (Option.getD z_1 default) 0)
    let z_3 : Int := (iget (Option.getD z_1 default) 1)
    let z_4 : Int := (iget (Option.getD z_1 default) 2)
    let z_5 : Int := (iget (Option.getD z_1 default) 3)
    let z_6 : Int := (iget (Option.getD z_1 default) 4)
    let z_7 : Int := (iget (Option.getD z_1 default) 5)
    let z_8 : Int := (iget (Option.getD z_1 default) 6)
    let z_9 : Int := (iget (Option.getD z_1 default) 7)
    let z_10 : Int := (iget (Option.getD z_1 default) 8)
    let z_11 : Int := (iget (Option.getD z_1 default) 9)
    let z_12 : Int := (iget (Option.getD z_1 default) 10)
    let z_13 : Int := (iget (Option.getD z_1 default) 11)
    let z_14 : Int := (iget (Option.getD z_1 default) 12)
    let z_15 : Int := (iget (Option.getD z_1 default) 13)
    let z_16 : Int := (iget (Option.getD z_1 default) 14)
    let z_17 : Int := (iget (Option.getD z_1 default) 15)
    bif (Option.isSome z_1) then
    bif (inR z_2 16) then
    bif (inR z_3 16) then
    bif (inR z_4 16) then
    bif (inR z_5 16) then
    bif (inR z_6 16) then
    bif (inR z_7 16) then
    bif (inR z_8 16) then
    bif (inR z_9 16) then
    bif (inR z_10 16) then
    bif (inR z_11 16) then
    bif (inR z_12 16) then
    bif (inR z_13 16) then
    bif (inR z_14 16) then
    bif (inR z_15 16) then
    bif (inR z_16 16) then
    bif (inR z_17 16) then
    k (splicen 32 (splicen 32 (splicen 32 (splicen 32 (splicen 32 (splicen 32 (splicen 32 (splicen 32 (splicen 32 (splicen 32 (splicen 32 (splicen 32 (splicen 32 (splicen 32 (splicen 32 (splicen 32 [(0 : Int), (0 : Int), (0 : Int), (0 : Int), (0 : Int), (0 : Int), (0 : Int), (0 : Int), (0 : Int), (0 : Int), (0 : Int), (0 : Int), (0 : Int), (0 : Int), (0 : Int), (0 : Int), (0 : Int), (0 : Int), (0 : Int), (0 : Int), (0 : Int), (0 : Int), (0 : Int), (0 : Int), (0 : Int), (0 : Int), (0 : Int), (0 : Int), (0 : Int), (0 : Int), (0 : Int), (0 : Int)] ((0 : Nat) + ((Int.toNat z_2) * (2 : Nat))) [(0 : Int), (0 : Int)] 2) ((0 : Nat) + ((Int.toNat z_3) * (2 : Nat))) [(0 : Int), (1 : Int)] 2) ((0 : Nat) + ((Int.toNat z_4) * (2 : Nat))) [(0 : Int), (2 : Int)] 2) ((0 : Nat) + ((Int.toNat z_5) * (2 : Nat))) [(0 : Int), (3 : Int)] 2) ((0 : Nat) + ((Int.toNat z_6) * (2 : Nat))) [(1 : Int), (0 : Int)] 2) ((0 : Nat) + ((Int.toNat z_7) * (2 : Nat))) [(1 : Int), (1 : Int)] 2) ((0 : Nat) + ((Int.toNat z_8) * (2 : Nat))) [(1 : Int), (2 : Int)] 2) ((0 : Nat) + ((Int.toNat z_9) * (2 : Nat))) [(1 : Int), (3 : Int)] 2) ((0 : Nat) + ((Int.toNat z_10) * (2 : Nat))) [(2 : Int), (0 : Int)] 2) ((0 : Nat) + ((Int.toNat z_11) * (2 : Nat))) [(2 : Int), (1 : Int)] 2) ((0 : Nat) + ((Int.toNat z_12) * (2 : Nat))) [(2 : Int), (2 : Int)] 2) ((0 : Nat) + ((Int.toNat z_13) * (2 : Nat))) [(2 : Int), (3 : Int)] 2) ((0 : Nat) + ((Int.toNat z_14) * (2 : Nat))) [(3 : Int), (0 : Int)] 2) ((0 : Nat) + ((Int.toNat z_15) * (2 : Nat))) [(3 : Int), (1 : Int)] 2) ((0 : Nat) + ((Int.toNat z_16) * (2 : Nat))) [(3 : Int), (2 : Int)] 2) ((0 : Nat) + ((Int.toNat z_17) * (2 : Nat))) [(3 : Int), (3 : Int)] 2)
    else none
    else none
    else none
    else none
    else none
    else none
    else none
    else none
    else none
    else none
    else none
    else none
    else none
    else none
    else none
    else none
    else none
def spec_l7Snake_p (F : Nat) (k0 : Int) : Option (List Int) := spec_l7Snake_c _ F k0 some
theorem spec_l7Snake_cp (Q : Type) (F : Nat) (k0 : Int) (k : (List Int) → Option Q) : spec_l7Snake_c Q F k0 k = (spec_l7Snake_p F k0).bind k := by
  simp only [spec_l7Snake_p, spec_l7Snake_c, cond_bindL, none_bindL, some_bindL]
end Go.Lv.P
