/-
Pure functions and what the code of them does, by program; without conditions.
-/
import Derived.Test.YtabfliifleonaabQbP1
namespace Go.Lv.P
open Go Go.Lv
set_option linter.unusedVariables false
set_option linter.unusedSimpArgs false
set_option maxRecDepth 100000
/-- slices.Grow[[]int,int] -/
def slices_Grow_intint_c (Q : Type) (n0 : Int) (k : (List Int) → Option Q) : Option Q :=
    let z_1 : Int := (IntKind.wrap .i64 (n0 - (0 : Int)))
    let z_2 : Nat := (Int.toNat z_1)
    bif (decide (n0 < (0 : Int))) then
    none
    else bif (decide ((0 : Int) < z_1)) then
    bif ((decide ((1 : Int) ≤ z_1)) && (fits z_2 8)) then
    bif (inLe (0 : Int) z_2) then
    k (List.replicate z_2 (0 : Int))
    else none
    else none
    else k ([] : List Int)
def slices_Grow_intint_p (n0 : Int) : Option (List Int) := slices_Grow_intint_c _ n0 some
theorem slices_Grow_intint_cp (Q : Type) (n0 : Int) (k : (List Int) → Option Q) : slices_Grow_intint_c Q n0 k = (slices_Grow_intint_p n0).bind k := by
  simp only [slices_Grow_intint_p, slices_Grow_intint_c, cond_bindL, none_bindL, some_bindL]

/-- slices.Concat[[]int,int] -/
def slices_Concat_intint_c (Q : Type) (slices0 : List Int) (slices1 : List Int) (slices2 : List Int) (slices3 : List Int) (k : (List Int) → Option Q) : Option Q :=
    let z_1 : Int := (IntKind.wrap .i64 ((0 : Int) + (((List.length slices0) : Nat) : Int)))
    let z_2 : Int := (IntKind.wrap .i64 (z_1 + (((List.length slices1) : Nat) : Int)))
    let z_3 : Int := (IntKind.wrap .i64 (z_2 + (((List.length slices2) : Nat) : Int)))
    let z_4 : Int := (IntKind.wrap .i64 (z_3 + (((List.length slices3) : Nat) : Int)))
    let z_5 : List Int := ((subn (List.length (Option.getD (slices_Grow_intint_p z_4) default)) (Option.getD (slices_Grow_intint_p z_4) default) 0 0) ++ slices0)
    let z_6 : Nat := (List.length z_5)
    let z_7 : List Int := ((subn z_6 z_5 0 z_6) ++ slices1)
    let z_8 : Nat := (List.length z_7)
    let z_9 : List Int := ((subn z_8 z_7 0 z_8) ++ slices2)
    let z_10 : Nat := (List.length z_9)
    let z_11 : List Int := ((subn z_10 z_9 0 z_10) ++ slices3)
    bif (decide (z_1 < (0 : Int))) then
    none
    else bif (decide (z_2 < (0 : Int))) then
    none
    else bif (decide (z_3 < (0 : Int))) then
    none
    else bif (decide (z_4 < (0 : Int))) then
    none
    else bif (Option.isSome (slices_Grow_intint_p z_4)) then
    bif (fits z_6 8) then
    bif (fits z_8 8) then
    bif (fits z_10 8) then
    bif (fits (List.length z_11) 8) then
    k z_11
    else none
    else none
    else none
    else none
    else none
def slices_Concat_intint_p (slices0 : List Int) (slices1 : List Int) (slices2 : List Int) (slices3 : List Int) : Option (List Int) := slices_Concat_intint_c _ slices0 slices1 slices2 slices3 some
theorem slices_Concat_intint_cp (Q : Type) (slices0 : List Int) (slices1 : List Int) (slices2 : List Int) (slices3 : List Int) (k : (List Int) → Option Q) : slices_Concat_intint_c Q slices0 slices1 slices2 slices3 k = (slices_Concat_intint_p slices0 slices1 slices2 slices3).bind k := by
  simp only [slices_Concat_intint_p, slices_Concat_intint_c, cond_bindL, none_bindL, some_bindL]

/-- (loop.example/g01194/impl.Board).flat -/
def impl_Board_flat_c (Q : Type) (b0 : List Int) (k : (List Int) → Option Q) : Option Q :=
    let z_1 := (slices_Concat_intint_p (sub b0 0 4) (sub b0 4 4) (sub b0 8 4) (sub b0 12 4))
    bif (Option.isSome z_1) then
    k (Option.getD z_1 default)
    else none
def impl_Board_flat_p (b0 : List Int) : Option (List Int) := impl_Board_flat_c _ b0 some
theorem impl_Board_flat_cp (Q : Type) (b0 : List Int) (k : (List Int) → Option Q) : impl_Board_flat_c Q b0 k = (impl_Board_flat_p b0).bind k := by
  simp only [impl_Board_flat_p, impl_Board_flat_c, cond_bindL, none_bindL, some_bindL]

/-- cmp.isNaN[int] -/
def cmp_isNaN_int_c (Q : Type) (x0 : Int) (k : (Bool) → Option Q) : Option Q :=
    k (!(x0 == x0))
def cmp_isNaN_int_v (x0 : Int) : Bool :=
    (!(x0 == x0))
theorem cmp_isNaN_int_cv (Q : Type) (x0 : Int) (k : (Bool) → Option Q) : cmp_isNaN_int_c Q x0 k = k (cmp_isNaN_int_v x0) := by
  simp only [cmp_isNaN_int_c, cmp_isNaN_int_v, app_condL k]

/-- cmp.Compare[int] -/
def cmp_Compare_int_c (Q : Type) (x0 : Int) (y1 : Int) (k : (Int) → Option Q) : Option Q :=
    bif (cmp_isNaN_int_v x0) then
    bif (cmp_isNaN_int_v y1) then
    k (0 : Int)
    else k (-1 : Int)
    else bif (cmp_isNaN_int_v y1) then
    k (1 : Int)
    else bif (decide (x0 < y1)) then
    k (-1 : Int)
    else bif (decide (y1 < x0)) then
    k (1 : Int)
    else k (0 : Int)
def cmp_Compare_int_v (x0 : Int) (y1 : Int) : Int :=
    bif (cmp_isNaN_int_v x0) then
    bif (cmp_isNaN_int_v y1) then
    (0 : Int)
    else (-1 : Int)
    else bif (cmp_isNaN_int_v y1) then
    (1 : Int)
    else bif (decide (x0 < y1)) then
    (-1 : Int)
    else bif (decide (y1 < x0)) then
    (1 : Int)
    else (0 : Int)
theorem cmp_Compare_int_cv (Q : Type) (x0 : Int) (y1 : Int) (k : (Int) → Option Q) : cmp_Compare_int_c Q x0 y1 k = k (cmp_Compare_int_v x0 y1) := by
  simp only [cmp_Compare_int_c, cmp_Compare_int_v, app_condL k]

/-- loop 2 of slices.Compare[[]int,int] -/
def slices_Compare_intint_s2 (F : Nat) (s10 : List Int) (s21 : List Int) (t92 : List Int) (t103 : Int) (Q : Type) : (Int) → ((Int) → Option Q) → ((Bool × Int) → Option Q) → Option Q
  | t114, kn, kx =>
    bif (decide (t114 < t103)) then
    bif (inR t114 (List.length t92)) then
    bif (decide ((((List.length s21) : Nat) : Int) ≤ t114)) then
    kx (true, (1 : Int))
    else bif (inR t114 (List.length s21)) then
    bif (!((cmp_Compare_int_v (iget t92 (Int.toNat t114)) (iget s21 (Int.toNat t114))) == (0 : Int))) then
    kx (true, (cmp_Compare_int_v (iget t92 (Int.toNat t114)) (iget s21 (Int.toNat t114))))
    else kn (IntKind.wrap .i64 (t114 + (1 : Int)))
    else none
    else none
    else kx (false, default)
def slices_Compare_intint_l2 (F : Nat) (s10 : List Int) (s21 : List Int) (t92 : List Int) (t103 : Int) (t114 : Int) : Option (Bool × Int) := loopC (slices_Compare_intint_s2 F s10 s21 t92 t103) F t114 some
theorem slices_Compare_intint_s2_nat (F : Nat) (s10 : List Int) (s21 : List Int) (t92 : List Int) (t103 : Int) : Natural (slices_Compare_intint_s2 F s10 s21 t92 t103) := by
  intro Q Q' s kn kx h
  simp only [slices_Compare_intint_s2, cond_bindL, none_bindL]
/-- slices.Compare[[]int,int] -/
def slices_Compare_intint_c (Q : Type) (F : Nat) (s10 : List Int) (s21 : List Int) (k : (Int) → Option Q) : Option Q :=
    let z_1 := (slices_Compare_intint_l2 F s10 s21 s10 (((List.length s10) : Nat) : Int) (0 : Int))
    let z_2 := (Option.getD z_1 default)
    bif (Option.isSome z_1) then
    bif z_2.1 then
    k z_2.2
    else bif (decide ((((List.length s10) : Nat) : Int) < (((List.length s21) : Nat) : Int))) then
    k (-1 : Int)
    else k (0 : Int)
    else none
def slices_Compare_intint_p (F : Nat) (s10 : List Int) (s21 : List Int) : Option (Int) := slices_Compare_intint_c _ F s10 s21 some
theorem slices_Compare_intint_cp (Q : Type) (F : Nat) (s10 : List Int) (s21 : List Int) (k : (Int) → Option Q) : slices_Compare_intint_c Q F s10 s21 k = (slices_Compare_intint_p F s10 s21).bind k := by
  simp only [slices_Compare_intint_p, slices_Compare_intint_c, cond_bindL, none_bindL, some_bindL]

/-- (loop.example/g01194/impl.Board).order -/
def impl_Board_order_c (Q : Type) (F : Nat) (b0 : List Int) (c1 : List Int) (k : (Int) → Option Q) : Option Q :=
    let z_1 : Nat := (List.length (Option.getD (impl_Board_flat_p b0) default))
    let z_2 : Nat := (List.length (Option.getD (impl_Board_flat_p c1) default))
    let z_3 := (slices_Compare_intint_p F (subn z_1 (Option.getD (impl_Board_flat_p b0) default) 0 z_1) (subn z_2 (Option.getD (impl_Board_flat_p c1) default) 0 z_2))
    bif (Option.isSome (impl_Board_flat_p b0)) then
    bif (Option.isSome (impl_Board_flat_p c1)) then
    bif (Option.isSome z_3) then
    k (Option.getD z_3 default)
    else none
    else none
    else none
def impl_Board_order_p (F : Nat) (b0 : List Int) (c1 : List Int) : Option (Int) := impl_Board_order_c _ F b0 c1 some
theorem impl_Board_order_cp (Q : Type) (F : Nat) (b0 : List Int) (c1 : List Int) (k : (Int) → Option Q) : impl_Board_order_c Q F b0 c1 k = (impl_Board_order_p F b0 c1).bind k := by
  simp only [impl_Board_order_p, impl_Board_order_c, cond_bindL, none_bindL, some_bindL]


/-- loop 9 of slices.Compact[[]loop.example/g01194/impl.Board,loop.example/g01194/impl.Board] -/
def slices_Compact_implBoardimplBoard_s9 (F : Nat) (s1 : Nat) (s23 : Nat) (s24 : Nat) (Q : Type) : (Int × Int × List (List Int)) → ((Int × Int × List (List Int)) → Option Q) → ((Int × List (List Int)) → Option Q) → Option Q
  | (k2, k25, s6), kn, kx =>
    let z_1 : Int := (IntKind.wrap .i64 (k25 - (1 : Int)))
    let z_2 : List Int := (rget s6 (s23 + (Int.toNat k25)))
    let z_3 : Int := (IntKind.wrap .i64 (k25 + (1 : Int)))
    bif (decide (k25 < ((s24 : Nat) : Int))) then
    bif (inR k25 s24) then
    bif (inR z_1 s24) then
    bif (!(z_2 == (rget s6 (s23 + (Int.toNat z_1))))) then
    bif (inR k25 s24) then
    bif (inR k2 s1) then
    kn ((IntKind.wrap .i64 (k2 + (1 : Int))), z_3, (rset s6 ((0 : Nat) + (Int.toNat k2)) z_2))
    else none
    else none
    else kn (k2, z_3, s6)
    else none
    else none
    else kx (k2, s6)
def slices_Compact_implBoardimplBoard_l9 (F : Nat) (s1 : Nat) (s23 : Nat) (s24 : Nat) (k2 : Int) (k25 : Int) (s6 : List (List Int)) : Option (Int × List (List Int)) := loopC (slices_Compact_implBoardimplBoard_s9 F s1 s23 s24) F (k2, k25, s6) some
theorem slices_Compact_implBoardimplBoard_s9_nat (F : Nat) (s1 : Nat) (s23 : Nat) (s24 : Nat) : Natural (slices_Compact_implBoardimplBoard_s9 F s1 s23 s24) := by
  intro Q Q' s kn kx h
  obtain ⟨k2, k25, s6⟩ := s
  simp only [slices_Compact_implBoardimplBoard_s9, cond_bindL, none_bindL]
/-- loop 4 of slices.Compact[[]loop.example/g01194/impl.Board,loop.example/g01194/impl.Board] -/
def slices_Compact_implBoardimplBoard_s4 (F : Nat) (s1 : Nat) (s3 : List (List Int)) (Q : Type) : (Int) → ((Int) → Option Q) → ((Bool × Nat × List (List Int)) → Option Q) → Option Q
  | k2, kn, kx =>
    let z_1 : Int := (IntKind.wrap .i64 (k2 - (1 : Int)))
    let z_2 := (slices_Compact_implBoardimplBoard_l9 F s1 ((0 : Nat) + (Int.toNat k2)) (s1 - (Int.toNat k2)) k2 (1 : Int) s3)
    let z_3 := (Option.getD z_2 default)
    let z_4 : Bool := (inLe z_3.1 s1)
    let z_5 : Nat := (Int.toNat z_3.1)
    let z_6 : Nat := (s1 - z_5)
    bif (decide (k2 < ((s1 : Nat) : Int))) then
    bif (inR k2 s1) then
    bif (inR z_1 s1) then
    bif ((rget s3 ((0 : Nat) + (Int.toNat k2))) == (rget s3 ((0 : Nat) + (Int.toNat z_1)))) then
    bif (inLe k2 s1) then
    bif (Option.isSome z_2) then
    bif z_4 then
    bif z_4 then
    kx (true, (z_5 - (0 : Nat)), (splice z_3.2 ((0 : Nat) + z_5) (List.replicate z_6 [(0 : Int), (0 : Int), (0 : Int), (0 : Int), (0 : Int), (0 : Int), (0 : Int), (0 : Int), (0 : Int), (0 : Int), (0 : Int), (0 : Int), (0 : Int), (0 : Int), (0 : Int), (0 : Int)]) z_6))
    else none
    else none
    else none
    else none
    else kn (IntKind.wrap .i64 (k2 + (1 : Int)))
    else none
    else none
    else kx (false, default, default)
def slices_Compact_implBoardimplBoard_l4 (F : Nat) (s1 : Nat) (s3 : List (List Int)) (k2 : Int) : Option (Bool × Nat × List (List Int)) := loopC (slices_Compact_implBoardimplBoard_s4 F s1 s3) F k2 some
theorem slices_Compact_implBoardimplBoard_s4_nat (F : Nat) (s1 : Nat) (s3 : List (List Int)) : Natural (slices_Compact_implBoardimplBoard_s4 F s1 s3) := by
  intro Q Q' s kn kx h
  simp only [slices_Compact_implBoardimplBoard_s4, cond_bindL, none_bindL]
/-- slices.Compact[[]loop.example/g01194/impl.Board,loop.example/g01194/impl.Board] -/
def slices_Compact_implBoardimplBoard_c (Q : Type) (F : Nat) (s1 : Nat) (s2 : List (List Int)) (k : (Nat × List (List Int)) → Option Q) : Option Q :=
    let z_1 := (slices_Compact_implBoardimplBoard_l4 F s1 s2 (1 : Int))
    let z_2 := (Option.getD z_1 default)
    bif (decide (((s1 : Nat) : Int) < (2 : Int))) then
    k (s1, s2)
    else bif (Option.isSome z_1) then
    bif z_2.1 then
    k (z_2.2.1, z_2.2.2)
    else k (s1, s2)
    else none
def slices_Compact_implBoardimplBoard_p (F : Nat) (s1 : Nat) (s2 : List (List Int)) : Option (Nat × List (List Int)) := slices_Compact_implBoardimplBoard_c _ F s1 s2 some
theorem slices_Compact_implBoardimplBoard_cp (Q : Type) (F : Nat) (s1 : Nat) (s2 : List (List Int)) (k : (Nat × List (List Int)) → Option Q) : slices_Compact_implBoardimplBoard_c Q F s1 s2 k = (slices_Compact_implBoardimplBoard_p F s1 s2).bind k := by
  simp only [slices_Compact_implBoardimplBoard_p, slices_Compact_implBoardimplBoard_c, cond_bindL, none_bindL, some_bindL]

/-- loop.example/g01194/impl.ordered -/
def impl_ordered_c (Q : Type) (F : Nat) (list2 : List (List Int)) (k : (Nat × List (List Int)) → Option Q) : Option Q :=
    let z_1 := (slices_Compact_implBoardimplBoard_p F (List.length list2) (sortP (List.length list2) list2))
    let z_2 := (Option.getD z_1 default)
    bif ((Nat.ble (List.length list2) (List.length list2)) && ((Nat.blt 1000 F) && (Nat.ble (List.length list2) 1000000000))) then
    bif (Option.isSome z_1) then
    k (z_2.1, z_2.2)
    else none
    else none
def impl_ordered_p (F : Nat) (list2 : List (List Int)) : Option (Nat × List (List Int)) := impl_ordered_c _ F list2 some
theorem impl_ordered_cp (Q : Type) (F : Nat) (list2 : List (List Int)) (k : (Nat × List (List Int)) → Option Q) : impl_ordered_c Q F list2 k = (impl_ordered_p F list2).bind k := by
  simp only [impl_ordered_p, impl_ordered_c, cond_bindL, none_bindL, some_bindL]

/-- loop.example/g01194/impl.ReachBySlides -/
def impl_ReachBySlides_c (Q : Type) (F : Nat) (b0 : List Int) (n1 : Int) (k : (Nat × Bool × List (List Int)) → Option Q) : Option Q :=
    let z_1 := (impl_IsBoard_p F b0)
    let z_2 := (impl_Board_reach_p F b0 n1)
    let z_3 : Nat := (List.length (Option.getD z_2 default).2)
    let z_4 := (impl_ordered_p F (Option.getD z_2 default).2)
    let z_5 := (Option.getD z_4 default)
    bif (Option.isSome z_1) then
    bif (!(Option.getD z_1 default)) then
    k ((0 : Nat), false, ([] : List (List Int)))
    else bif (!(impl_in_v n1 (0 : Int) (6 : Int))) then
    k ((0 : Nat), false, ([] : List (List Int)))
    else bif (Option.isSome z_2) then
    bif ((Nat.beq z_3 z_3) && (Option.isSome z_4)) then
    k (z_5.1, true, z_5.2)
    else none
    else none
    else none
def impl_ReachBySlides_p (F : Nat) (b0 : List Int) (n1 : Int) : Option (Nat × Bool × List (List Int)) := impl_ReachBySlides_c _ F b0 n1 some
theorem impl_ReachBySlides_cp (Q : Type) (F : Nat) (b0 : List Int) (n1 : Int) (k : (Nat × Bool × List (List Int)) → Option Q) : impl_ReachBySlides_c Q F b0 n1 k = (impl_ReachBySlides_p F b0 n1).bind k := by
  simp only [impl_ReachBySlides_p, impl_ReachBySlides_c, cond_bindL, none_bindL, some_bindL]

/-- loop.example/g01194/spec.l1In -/
def spec_l1In_c (Q : Type) (x0 : Int) (a1 : Int) (b2 : Int) (k : (Bool) → Option Q) : Option Q :=
    bif (decide (a1 ≤ x0)) then
    k (decide (x0 ≤ b2))
    else k false
def spec_l1In_v (x0 : Int) (a1 : Int) (b2 : Int) : Bool :=
    bif (decide (a1 ≤ x0)) then
    (decide (x0 ≤ b2))
    else false
theorem spec_l1In_cv (Q : Type) (x0 : Int) (a1 : Int) (b2 : Int) (k : (Bool) → Option Q) : spec_l1In_c Q x0 a1 b2 k = k (spec_l1In_v x0 a1 b2) := by
  simp only [spec_l1In_c, spec_l1In_v, app_condL k]

/-- loop 5 of loop.example/g01194/spec.l2Board -/
def spec_l2Board_s5 (F : Nat) (r3 : Int) (b5 : List Int) (Q : Type) : (Int) → ((Int) → Option Q) → ((Bool) → Option Q) → Option Q
  | c4, kn, kx =>
    bif (decide (c4 < (4 : Int))) then
    bif (inR r3 4) then
    bif (inR c4 4) then
    bif (!(spec_l1In_v (iget b5 (((0 : Nat) + ((Int.toNat r3) * (4 : Nat))) + ((Int.toNat c4) * (1 : Nat)))) (0 : Int) (17 : Int))) then
    kx true
    else kn (IntKind.wrap .i64 (c4 + (1 : Int)))
    else none
    else none
    else kx false
def spec_l2Board_l5 (F : Nat) (r3 : Int) (b5 : List Int) (c4 : Int) : Option (Bool) := loopC (spec_l2Board_s5 F r3 b5) F c4 some
theorem spec_l2Board_s5_nat (F : Nat) (r3 : Int) (b5 : List Int) : Natural (spec_l2Board_s5 F r3 b5) := by
  intro Q Q' s kn kx h
  simp only [spec_l2Board_s5, cond_bindL, none_bindL]
/-- loop 2 of loop.example/g01194/spec.l2Board -/
def spec_l2Board_s2 (F : Nat) (b4 : List Int) (Q : Type) : (Int) → ((Int) → Option Q) → ((Bool) → Option Q) → Option Q
  | r3, kn, kx =>
    let z_1 := (spec_l2Board_l5 F r3 b4 (0 : Int))
    bif (decide (r3 < (4 : Int))) then
    bif (Option.isSome z_1) then
    bif (Option.getD z_1 default) then
    kx true
    else kn (IntKind.wrap .i64 (r3 + (1 : Int)))
    else none
    else kx false
def spec_l2Board_l2 (F : Nat) (b4 : List Int) (r3 : Int) : Option (Bool) := loopC (spec_l2Board_s2 F b4) F r3 some
theorem spec_l2Board_s2_nat (F : Nat) (b4 : List Int) : Natural (spec_l2Board_s2 F b4) := by
  intro Q Q' s kn kx h
  simp only [spec_l2Board_s2, cond_bindL, none_bindL]
/-- loop.example/g01194/spec.l2Board -/
def spec_l2Board_c (Q : Type) (F : Nat) (b0 : List Int) (k : (Bool) → Option Q) : Option Q :=
    let z_1 := (spec_l2Board_l2 F b0 (0 : Int))
    bif (Option.isSome z_1) then
    bif (Option.getD z_1 default) then
    k false
    else k true
    else none
def spec_l2Board_p (F : Nat) (b0 : List Int) : Option (Bool) := spec_l2Board_c _ F b0 some
theorem spec_l2Board_cp (Q : Type) (F : Nat) (b0 : List Int) (k : (Bool) → Option Q) : spec_l2Board_c Q F b0 k = (spec_l2Board_p F b0).bind k := by
  simp only [spec_l2Board_p, spec_l2Board_c, cond_bindL, none_bindL, some_bindL]

/-- loop 3 of loop.example/g01194/spec.l2Line -/
def spec_l2Line_s3 (F : Nat) (d0 : Int) (i1 : Int) (Q : Type) : (Int × List Int) → ((Int × List Int) → Option Q) → ((List Int) → Option Q) → Option Q
  | (k8, out10), kn, kx =>
    let z_1 : Int := (IntKind.wrap .i64 (k8 + (1 : Int)))
    let z_2 : Nat := ((0 : Nat) + ((Int.toNat k8) * (2 : Nat)))
    let z_3 : Int := (IntKind.wrap .i64 ((3 : Int) - k8))
    bif (decide (k8 < (4 : Int))) then
    bif (d0 == (0 : Int)) then
    bif (inR k8 4) then
    kn (z_1, (splicen 8 out10 z_2 [i1, k8] 2))
    else none
    else bif (d0 == (1 : Int)) then
    bif (inR k8 4) then
    kn (z_1, (splicen 8 out10 z_2 [k8, i1] 2))
    else none
    else bif (d0 == (2 : Int)) then
    bif (inR k8 4) then
    kn (z_1, (splicen 8 out10 z_2 [i1, z_3] 2))
    else none
    else bif (inR k8 4) then
    kn (z_1, (splicen 8 out10 z_2 [z_3, i1] 2))
    else none
    else kx out10
def spec_l2Line_l3 (F : Nat) (d0 : Int) (i1 : Int) (k8 : Int) (out10 : List Int) : Option (List Int) := loopC (spec_l2Line_s3 F d0 i1) F (k8, out10) some
theorem spec_l2Line_s3_nat (F : Nat) (d0 : Int) (i1 : Int) : Natural (spec_l2Line_s3 F d0 i1) := by
  intro Q Q' s kn kx h
  obtain ⟨k8, out10⟩ := s
  simp only [spec_l2Line_s3, cond_bindL, none_bindL]
/-- loop.example/g01194/spec.l2Line -/
def spec_l2Line_c (Q : Type) (F : Nat) (d0 : Int) (i1 : Int) (k : (List Int) → Option Q) : Option Q :=
    let z_1 := (spec_l2Line_l3 F d0 i1 (0 : Int) [(0 : Int), (0 : Int), (0 : Int), (0 : Int), (0 : Int), (0 : Int), (0 : Int), (0 : Int)])
    bif (Option.isSome z_1) then
    k (Option.getD z_1 default)
    else none
def spec_l2Line_p (F : Nat) (d0 : Int) (i1 : Int) : Option (List Int) := spec_l2Line_c _ F d0 i1 some
theorem spec_l2Line_cp (Q : Type) (F : Nat) (d0 : Int) (i1 : Int) (k : (List Int) → Option Q) : spec_l2Line_c Q F d0 i1 k = (spec_l2Line_p F d0 i1).bind k := by
  simp only [spec_l2Line_p, spec_l2Line_c, cond_bindL, none_bindL, some_bindL]

/-- loop.example/g01194/spec.l2At -/
def spec_l2At_c (Q : Type) (b0 : List Int) (cell1 : List Int) (k : (Int) → Option Q) : Option Q :=
    bif (inR (iget cell1 0) 4) then
    bif (inR (iget cell1 1) 4) then
    k (iget b0 (((0 : Nat) + ((Int.toNat (iget cell1 0)) * (4 : Nat))) + ((Int.toNat (iget cell1 1)) * (1 : Nat))))
    else none
    else none
def spec_l2At_p (b0 : List Int) (cell1 : List Int) : Option (Int) := spec_l2At_c _ b0 cell1 some
theorem spec_l2At_cp (Q : Type) (b0 : List Int) (cell1 : List Int) (k : (Int) → Option Q) : spec_l2At_c Q b0 cell1 k = (spec_l2At_p b0 cell1).bind k := by
  simp only [spec_l2At_p, spec_l2At_c, cond_bindL, none_bindL, some_bindL]

/-- loop.example/g01194/spec.l2Numbers -/
def spec_l2Numbers_c (Q : Type) (F : Nat) (b0 : List Int) (d1 : Int) (i2 : Int) (k : (List Int) → Option Q) : Option Q :=
    let z_1 := (spec_l2Line_p F d1 i2)
    let z_2 := (spec_l2At_p b0 (sub (Option.getD z_1 default) 0 2))
    let z_3 := (spec_l2At_p b0 (sub (Option.getD z_1 default) 2 2))
    let z_4 := (spec_l2At_p b0 (sub (Option.getD z_1 default) 4 2))
    let z_5 := (spec_l2At_p b0 (sub (Option.getD z_1 default) 6 2))
    bif (Option.isSome z_1) then
    bif (Option.isSome z_2) then
    bif (Option.isSome z_3) then
    bif (Option.isSome z_4) then
    bif (Option.isSome z_5) then
    k [(Option.getD z_2 default), (Option.getD z_3 default), (Option.getD z_4 default), (Option.getD z_5 default)]
    else none
    else none
    else none
    else none
    else none
def spec_l2Numbers_p (F : Nat) (b0 : List Int) (d1 : Int) (i2 : Int) : Option (List Int) := spec_l2Numbers_c _ F b0 d1 i2 some
theorem spec_l2Numbers_cp (Q : Type) (F : Nat) (b0 : List Int) (d1 : Int) (i2 : Int) (k : (List Int) → Option Q) : spec_l2Numbers_c Q F b0 d1 i2 k = (spec_l2Numbers_p F b0 d1 i2).bind k := by
  simp only [spec_l2Numbers_p, spec_l2Numbers_c, cond_bindL, none_bindL, some_bindL]

/-- loop.example/g01194/spec.l2Worth -/
def spec_l2Worth_c (Q : Type) (t0 : Int) (k : (Int) → Option Q) : Option Q :=
    bif (decide (t0 < (0 : Int))) then
    none
    else k (IntKind.wrap .i64 ((1 : Int) * (2 ^ (min (Int.toNat t0) (IntKind.bits .i64)) : Int)))
def spec_l2Worth_p (t0 : Int) : Option (Int) := spec_l2Worth_c _ t0 some
theorem spec_l2Worth_cp (Q : Type) (t0 : Int) (k : (Int) → Option Q) : spec_l2Worth_c Q t0 k = (spec_l2Worth_p t0).bind k := by
  simp only [spec_l2Worth_p, spec_l2Worth_c, cond_bindL, none_bindL, some_bindL]

/-- loop 3 of loop.example/g01194/spec.l2Row -/
def spec_l2Row_s3 (F : Nat) (row13 : List Int) (Q : Type) : (Int × Int × Bool × Int × List Int) → ((Int × Int × Bool × Int × List Int) → Option Q) → ((Int × List Int) → Option Q) → Option Q
  | (n9, score10, merged11, k12, out15), kn, kx =>
    let z_1 : Int := (iget row13 ((0 : Nat) + ((Int.toNat k12) * (1 : Nat))))
    let z_2 : Int := (IntKind.wrap .i64 (k12 + (1 : Int)))
    let z_3 : Int := (IntKind.wrap .i64 (n9 - (1 : Int)))
    let z_4 : Bool := (inR z_3 4)
    let z_5 : Nat := ((0 : Nat) + ((Int.toNat z_3) * (1 : Nat)))
    let z_6 : Int := (IntKind.wrap .i64 (z_1 + (1 : Int)))
    let z_7 : Int := (IntKind.wrap .i64 (n9 + (1 : Int)))
    let z_8 : List Int := (iset out15 ((0 : Nat) + ((Int.toNat n9) * (1 : Nat))) z_1)
    bif (decide (k12 < (4 : Int))) then
    bif (inR k12 4) then
    bif (z_1 == (0 : Int)) then
    kn (n9, score10, merged11, z_2, out15)
    else bif (decide ((0 : Int) < n9)) then
    bif z_4 then
    bif (inR k12 4) then
    bif ((iget out15 z_5) == z_1) then
    bif (inR k12 4) then
    bif (decide (z_1 < (17 : Int))) then
    bif (!merged11) then
    bif (inR k12 4) then
    bif z_4 then
    bif (inR k12 4) then
    bif (Option.isSome (spec_l2Worth_p z_6)) then
    kn (n9, (IntKind.wrap .i64 (score10 + (Option.getD (spec_l2Worth_p z_6) default))), true, z_2, (iset out15 z_5 z_6))
    else none
    else none
    else none
    else none
    else bif (inR k12 4) then
    bif (inR n9 4) then
    kn (z_7, score10, false, z_2, z_8)
    else none
    else none
    else bif (inR k12 4) then
    bif (inR n9 4) then
    kn (z_7, score10, false, z_2, z_8)
    else none
    else none
    else none
    else bif (inR k12 4) then
    bif (inR n9 4) then
    kn (z_7, score10, false, z_2, z_8)
    else none
    else none
    else none
    else none
    else bif (inR k12 4) then
    bif (inR n9 4) then
    kn (z_7, score10, false, z_2, z_8)
    else none
    else none
    else none
    else kx (score10, out15)
def spec_l2Row_l3 (F : Nat) (row13 : List Int) (n9 : Int) (score10 : Int) (merged11 : Bool) (k12 : Int) (out15 : List Int) : Option (Int × List Int) := loopC (spec_l2Row_s3 F row13) F (n9, score10, merged11, k12, out15) some
theorem spec_l2Row_s3_nat (F : Nat) (row13 : List Int) : Natural (spec_l2Row_s3 F row13) := by
  intro Q Q' s kn kx h
  obtain ⟨n9, score10, merged11, k12, out15⟩ := s
  simp only [spec_l2Row_s3, cond_bindL, none_bindL]
/-- loop.example/g01194/spec.l2Row -/
def spec_l2Row_c (Q : Type) (F : Nat) (row0 : List Int) (k : (List Int × Int) → Option Q) : Option Q :=
    let z_1 := (spec_l2Row_l3 F row0 (0 : Int) (0 : Int) false (0 : Int) [(0 : Int), (0 : Int), (0 : Int), (0 : Int)])
    let z_2 := (Option.getD z_1 default)
    bif (Option.isSome z_1) then
    k (z_2.2, z_2.1)
    else none
def spec_l2Row_p (F : Nat) (row0 : List Int) : Option (List Int × Int) := spec_l2Row_c _ F row0 some
theorem spec_l2Row_cp (Q : Type) (F : Nat) (row0 : List Int) (k : (List Int × Int) → Option Q) : spec_l2Row_c Q F row0 k = (spec_l2Row_p F row0).bind k := by
  simp only [spec_l2Row_p, spec_l2Row_c, cond_bindL, none_bindL, some_bindL]

/-- loop.example/g01194/spec.l2Put -/
def spec_l2Put_c (Q : Type) (b0 : List Int) (cell1 : List Int) (t2 : Int) (k : (List Int) → Option Q) : Option Q :=
    bif (inR (iget cell1 0) 4) then
    bif (inR (iget cell1 1) 4) then
    k (iset b0 (((0 : Nat) + ((Int.toNat (iget cell1 0)) * (4 : Nat))) + ((Int.toNat (iget cell1 1)) * (1 : Nat))) t2)
    else none
    else none
def spec_l2Put_p (b0 : List Int) (cell1 : List Int) (t2 : Int) : Option (List Int) := spec_l2Put_c _ b0 cell1 t2 some
theorem spec_l2Put_cp (Q : Type) (b0 : List Int) (cell1 : List Int) (t2 : Int) (k : (List Int) → Option Q) : spec_l2Put_c Q b0 cell1 t2 k = (spec_l2Put_p b0 cell1 t2).bind k := by
  simp only [spec_l2Put_p, spec_l2Put_c, cond_bindL, none_bindL, some_bindL]
end Go.Lv.P
