/-
Pure functions and what the code of them does, by program; without conditions.
-/
import Derived.Test.YtkhccaoancfeoaaQsP4
namespace Go.Lv.P
open Go Go.Lv
set_option linter.unusedVariables false
set_option linter.unusedSimpArgs false
set_option maxRecDepth 100000
/-- loop.example/g01194/impl.cells -/
def impl_cells_c (Q : Type) (k : (Unit) → Option Q) : Option Q :=
    k ()
def impl_cells_v : Unit :=
    ()
theorem impl_cells_cv (Q : Type) (k : (Unit) → Option Q) : impl_cells_c Q k = k (impl_cells_v) := by
  simp only [impl_cells_c, impl_cells_v, app_condL k]

/-- (loop.example/g01194/impl.Board).merged$2 -/
def impl_Board_merged_f2_c (Q : Type) (cell0 : List Int) (m14 : List (List Int × Bool)) (k : (Bool) → Option Q) : Option Q :=
    k (!(Option.getD (mlook cell0 m14) false))
def impl_Board_merged_f2_v (cell0 : List Int) (m14 : List (List Int × Bool)) : Bool :=
    (!(Option.getD (mlook cell0 m14) false))
theorem impl_Board_merged_f2_cv (Q : Type) (cell0 : List Int) (m14 : List (List Int × Bool)) (k : (Bool) → Option Q) : impl_Board_merged_f2_c Q cell0 m14 k = k (impl_Board_merged_f2_v cell0 m14) := by
  simp only [impl_Board_merged_f2_c, impl_Board_merged_f2_v, app_condL k]

/-- loop 2 of slices.IndexFunc[[][2]int,[2]int] -/
def slices_IndexFunc_2int2int_impl_Board_merged_f2_s2 (F : Nat) (s0 : List (List Int)) (t74 : Int) (m16 : List (List Int × Bool)) (Q : Type) : (Int) → ((Int) → Option Q) → ((Bool × Int) → Option Q) → Option Q
  | t85, kn, kx =>
    bif (decide (t85 < t74)) then
    bif (inR t85 (List.length s0)) then
    bif (impl_Board_merged_f2_v (rget s0 (Int.toNat t85)) m16) then
    kx (true, t85)
    else kn (IntKind.wrap .i64 (t85 + (1 : Int)))
    else none
    else kx (false, default)
def slices_IndexFunc_2int2int_impl_Board_merged_f2_l2 (F : Nat) (s0 : List (List Int)) (t74 : Int) (m16 : List (List Int × Bool)) (t85 : Int) : Option (Bool × Int) := loopC (slices_IndexFunc_2int2int_impl_Board_merged_f2_s2 F s0 t74 m16) F t85 some
theorem slices_IndexFunc_2int2int_impl_Board_merged_f2_s2_nat (F : Nat) (s0 : List (List Int)) (t74 : Int) (m16 : List (List Int × Bool)) : Natural (slices_IndexFunc_2int2int_impl_Board_merged_f2_s2 F s0 t74 m16) := by
  intro Q Q' s kn kx h
  simp only [slices_IndexFunc_2int2int_impl_Board_merged_f2_s2, cond_bindL, none_bindL]
/-- slices.IndexFunc[[][2]int,[2]int] -/
def slices_IndexFunc_2int2int_impl_Board_merged_f2_c (Q : Type) (F : Nat) (s0 : List (List Int)) (m14 : List (List Int × Bool)) (k : (Int) → Option Q) : Option Q :=
    let z_1 := (slices_IndexFunc_2int2int_impl_Board_merged_f2_l2 F s0 (((List.length s0) : Nat) : Int) m14 (0 : Int))
    let z_2 := (Option.getD z_1 default)
    bif (Option.isSome z_1) then
    bif z_2.1 then
    k z_2.2
    else k (-1 : Int)
    else none
def slices_IndexFunc_2int2int_impl_Board_merged_f2_p (F : Nat) (s0 : List (List Int)) (m14 : List (List Int × Bool)) : Option (Int) := slices_IndexFunc_2int2int_impl_Board_merged_f2_c _ F s0 m14 some
theorem slices_IndexFunc_2int2int_impl_Board_merged_f2_cp (Q : Type) (F : Nat) (s0 : List (List Int)) (m14 : List (List Int × Bool)) (k : (Int) → Option Q) : slices_IndexFunc_2int2int_impl_Board_merged_f2_c Q F s0 m14 k = (slices_IndexFunc_2int2int_impl_Board_merged_f2_p F s0 m14).bind k := by
  simp only [slices_IndexFunc_2int2int_impl_Board_merged_f2_p, slices_IndexFunc_2int2int_impl_Board_merged_f2_c, cond_bindL, none_bindL, some_bindL]

/-- loop 5 of slices.DeleteFunc[[][2]int,[2]int] -/
def slices_DeleteFunc_2int2int_impl_Board_merged_f2_s5 (F : Nat) (s1 : Nat) (m28 : List (List Int × Bool)) (Q : Type) : (Int × Int × List (List Int)) → ((Int × Int × List (List Int)) → Option Q) → ((Int × List (List Int)) → Option Q) → Option Q
  | (i5, j6, s7), kn, kx =>
    let z_1 : List Int := (rget s7 ((0 : Nat) + (Int.toNat j6)))
    let z_2 : Int := (IntKind.wrap .i64 (j6 + (1 : Int)))
    bif (decide (j6 < ((s1 : Nat) : Int))) then
    bif (inR j6 s1) then
    bif (!(impl_Board_merged_f2_v z_1 m28)) then
    bif (inR i5 s1) then
    kn ((IntKind.wrap .i64 (i5 + (1 : Int))), z_2, (rset s7 ((0 : Nat) + (Int.toNat i5)) z_1))
    else none
    else kn (i5, z_2, s7)
    else none
    else kx (i5, s7)
def slices_DeleteFunc_2int2int_impl_Board_merged_f2_l5 (F : Nat) (s1 : Nat) (m28 : List (List Int × Bool)) (i5 : Int) (j6 : Int) (s7 : List (List Int)) : Option (Int × List (List Int)) := loopC (slices_DeleteFunc_2int2int_impl_Board_merged_f2_s5 F s1 m28) F (i5, j6, s7) some
theorem slices_DeleteFunc_2int2int_impl_Board_merged_f2_s5_nat (F : Nat) (s1 : Nat) (m28 : List (List Int × Bool)) : Natural (slices_DeleteFunc_2int2int_impl_Board_merged_f2_s5 F s1 m28) := by
  intro Q Q' s kn kx h
  obtain ⟨i5, j6, s7⟩ := s
  simp only [slices_DeleteFunc_2int2int_impl_Board_merged_f2_s5, cond_bindL, none_bindL]
/-- slices.DeleteFunc[[][2]int,[2]int] -/
def slices_DeleteFunc_2int2int_impl_Board_merged_f2_c (Q : Type) (F : Nat) (s5 : List (List Int)) (m26 : List (List Int × Bool)) (k : (Nat × List (List Int)) → Option Q) : Option Q :=
    let z_1 := (slices_IndexFunc_2int2int_impl_Board_merged_f2_p F (subn (List.length s5) s5 0 (List.length s5)) m26)
    let z_2 := (slices_DeleteFunc_2int2int_impl_Board_merged_f2_l5 F (List.length s5) m26 (Option.getD z_1 default) (IntKind.wrap .i64 ((Option.getD z_1 default) + (1 : Int))) s5)
    let z_3 := (Option.getD z_2 default)
    let z_4 : Bool := (inLe z_3.1 (List.length s5))
    let z_5 : Nat := (Int.toNat z_3.1)
    let z_6 : Nat := ((List.length s5) - z_5)
    bif (Option.isSome z_1) then
    bif ((Option.getD z_1 default) == (-1 : Int)) then
    k ((List.length s5), s5)
    else bif (Option.isSome z_2) then
    bif z_4 then
    bif z_4 then
    k ((z_5 - (0 : Nat)), (splice z_3.2 ((0 : Nat) + z_5) (List.replicate z_6 [(0 : Int), (0 : Int)]) z_6))
    else none
    else none
    else none
    else none
def slices_DeleteFunc_2int2int_impl_Board_merged_f2_p (F : Nat) (s5 : List (List Int)) (m26 : List (List Int × Bool)) : Option (Nat × List (List Int)) := slices_DeleteFunc_2int2int_impl_Board_merged_f2_c _ F s5 m26 some
theorem slices_DeleteFunc_2int2int_impl_Board_merged_f2_cp (Q : Type) (F : Nat) (s5 : List (List Int)) (m26 : List (List Int × Bool)) (k : (Nat × List (List Int)) → Option Q) : slices_DeleteFunc_2int2int_impl_Board_merged_f2_c Q F s5 m26 k = (slices_DeleteFunc_2int2int_impl_Board_merged_f2_p F s5 m26).bind k := by
  simp only [slices_DeleteFunc_2int2int_impl_Board_merged_f2_p, slices_DeleteFunc_2int2int_impl_Board_merged_f2_c, cond_bindL, none_bindL, some_bindL]

/-- loop 5 of (loop.example/g01194/impl.Board).merged -/
def impl_Board_merged_s5 (F : Nat) (direction0 : Int) (all1 : Bool) (t419 : List (List Int)) (t4110 : List (List Int)) (t4111 : List (List Int)) (t4112 : List (List Int)) (b14 : List Int) (lines15 : List (List Int)) (lines16 : List (List Int)) (lines17 : List (List Int)) (lines18 : List (List Int)) (Q : Type) : (Int × Int) → ((Int × Int) → Option Q) → ((Int) → Option Q) → Option Q
  | (other8, t4213), kn, kx =>
    let z_1 : Int := (IntKind.wrap .i64 (t4213 + (1 : Int)))
    bif (decide (t4213 < (4 : Int))) then
    bif (inR t4213 4) then
    bif (decide ((1 : Int) < (((List.length (llget [t419, t4110, t4111, t4112] ((Int.toNat t4213) * (1 : Nat)))) : Nat) : Int))) then
    kn ((IntKind.wrap .i64 (other8 + (1 : Int))), z_1)
    else kn (other8, z_1)
    else none
    else kx other8
def impl_Board_merged_l5 (F : Nat) (direction0 : Int) (all1 : Bool) (t419 : List (List Int)) (t4110 : List (List Int)) (t4111 : List (List Int)) (t4112 : List (List Int)) (b14 : List Int) (lines15 : List (List Int)) (lines16 : List (List Int)) (lines17 : List (List Int)) (lines18 : List (List Int)) (other8 : Int) (t4213 : Int) : Option (Int) := loopC (impl_Board_merged_s5 F direction0 all1 t419 t4110 t4111 t4112 b14 lines15 lines16 lines17 lines18) F (other8, t4213) some
theorem impl_Board_merged_s5_nat (F : Nat) (direction0 : Int) (all1 : Bool) (t419 : List (List Int)) (t4110 : List (List Int)) (t4111 : List (List Int)) (t4112 : List (List Int)) (b14 : List Int) (lines15 : List (List Int)) (lines16 : List (List Int)) (lines17 : List (List Int)) (lines18 : List (List Int)) : Natural (impl_Board_merged_s5 F direction0 all1 t419 t4110 t4111 t4112 b14 lines15 lines16 lines17 lines18) := by
  intro Q Q' s kn kx h
  obtain ⟨other8, t4213⟩ := s
  simp only [impl_Board_merged_s5, cond_bindL, none_bindL]
/-- loop 22 of (loop.example/g01194/impl.Board).merged -/
def impl_Board_merged_s22 (F : Nat) (direction0 : Int) (all1 : Bool) (other5 : Int) (stays6 : Bool) (i10 : Int) (rows11 : List (List Int)) (k12 : Int) (t5814 : List (List Int)) (t5815 : List (List Int)) (t5816 : List (List Int)) (t5817 : List (List Int)) (t5918 : Int) (t8119 : Int) (t8420 : List (List Int)) (t8521 : Int) (b23 : List Int) (m224 : List (List Int × Bool)) (Q : Type) : (Int × Int) → ((Int × Int) → Option Q) → ((Int) → Option Q) → Option Q
  | (count13, t8622), kn, kx =>
    let z_1 := (impl_slideRow_p F (rget t8420 (Int.toNat t8622)))
    let z_2 : Int := (IntKind.wrap .i64 (t8622 + (1 : Int)))
    bif (decide (t8622 < t8521)) then
    bif (inR t8622 (List.length t8420)) then
    bif (Option.isSome z_1) then
    bif (inR k12 4) then
    bif (bget (Option.getD z_1 default).2.2 ((0 : Nat) + ((Int.toNat k12) * (1 : Nat)))) then
    kn ((IntKind.wrap .i64 (count13 + (1 : Int))), z_2)
    else kn (count13, z_2)
    else none
    else none
    else none
    else kx count13
def impl_Board_merged_l22 (F : Nat) (direction0 : Int) (all1 : Bool) (other5 : Int) (stays6 : Bool) (i10 : Int) (rows11 : List (List Int)) (k12 : Int) (t5814 : List (List Int)) (t5815 : List (List Int)) (t5816 : List (List Int)) (t5817 : List (List Int)) (t5918 : Int) (t8119 : Int) (t8420 : List (List Int)) (t8521 : Int) (b23 : List Int) (m224 : List (List Int × Bool)) (count13 : Int) (t8622 : Int) : Option (Int) := loopC (impl_Board_merged_s22 F direction0 all1 other5 stays6 i10 rows11 k12 t5814 t5815 t5816 t5817 t5918 t8119 t8420 t8521 b23 m224) F (count13, t8622) some
theorem impl_Board_merged_s22_nat (F : Nat) (direction0 : Int) (all1 : Bool) (other5 : Int) (stays6 : Bool) (i10 : Int) (rows11 : List (List Int)) (k12 : Int) (t5814 : List (List Int)) (t5815 : List (List Int)) (t5816 : List (List Int)) (t5817 : List (List Int)) (t5918 : Int) (t8119 : Int) (t8420 : List (List Int)) (t8521 : Int) (b23 : List Int) (m224 : List (List Int × Bool)) : Natural (impl_Board_merged_s22 F direction0 all1 other5 stays6 i10 rows11 k12 t5814 t5815 t5816 t5817 t5918 t8119 t8420 t8521 b23 m224) := by
  intro Q Q' s kn kx h
  obtain ⟨count13, t8622⟩ := s
  simp only [impl_Board_merged_s22, cond_bindL, none_bindL]
/-- loop 18 of (loop.example/g01194/impl.Board).merged -/
def impl_Board_merged_s18 (F : Nat) (direction0 : Int) (all1 : Bool) (other5 : Int) (stays6 : Bool) (i10 : Int) (rows11 : List (List Int)) (t5812 : List (List Int)) (t5813 : List (List Int)) (t5814 : List (List Int)) (t5815 : List (List Int)) (t5916 : Int) (b18 : List Int) (Q : Type) : (Int × List (List Int × Bool)) → ((Int × List (List Int × Bool)) → Option Q) → ((List (List Int × Bool)) → Option Q) → Option Q
  | (t8117, m219), kn, kx =>
    let z_1 := (impl_Board_merged_l22 F direction0 all1 other5 stays6 i10 rows11 t8117 t5812 t5813 t5814 t5815 t5916 t8117 rows11 (((List.length rows11) : Nat) : Int) b18 m219 (0 : Int) (0 : Int))
    let z_2 : Int := (IntKind.wrap .i64 (t8117 + (1 : Int)))
    bif (decide (t8117 < (4 : Int))) then
    bif (Option.isSome z_1) then
    bif ((Option.getD z_1 default) == (((List.length rows11) : Nat) : Int)) then
    kn (z_2, (mput (impl_lineCell_v direction0 i10 t8117) true m219))
    else bif (!all1) then
    kn (z_2, (mput (impl_lineCell_v direction0 i10 t8117) (decide ((0 : Int) < (Option.getD z_1 default))) m219))
    else kn (z_2, (mput (impl_lineCell_v direction0 i10 t8117) false m219))
    else none
    else kx m219
def impl_Board_merged_l18 (F : Nat) (direction0 : Int) (all1 : Bool) (other5 : Int) (stays6 : Bool) (i10 : Int) (rows11 : List (List Int)) (t5812 : List (List Int)) (t5813 : List (List Int)) (t5814 : List (List Int)) (t5815 : List (List Int)) (t5916 : Int) (b18 : List Int) (t8117 : Int) (m219 : List (List Int × Bool)) : Option (List (List Int × Bool)) := loopC (impl_Board_merged_s18 F direction0 all1 other5 stays6 i10 rows11 t5812 t5813 t5814 t5815 t5916 b18) F (t8117, m219) some
theorem impl_Board_merged_s18_nat (F : Nat) (direction0 : Int) (all1 : Bool) (other5 : Int) (stays6 : Bool) (i10 : Int) (rows11 : List (List Int)) (t5812 : List (List Int)) (t5813 : List (List Int)) (t5814 : List (List Int)) (t5815 : List (List Int)) (t5916 : Int) (b18 : List Int) : Natural (impl_Board_merged_s18 F direction0 all1 other5 stays6 i10 rows11 t5812 t5813 t5814 t5815 t5916 b18) := by
  intro Q Q' s kn kx h
  obtain ⟨t8117, m219⟩ := s
  simp only [impl_Board_merged_s18, cond_bindL, none_bindL]
/-- loop 12 of (loop.example/g01194/impl.Board).merged -/
def impl_Board_merged_s12 (F : Nat) (direction0 : Int) (all1 : Bool) (other5 : Int) (stays6 : Bool) (t5810 : List (List Int)) (t5811 : List (List Int)) (t5812 : List (List Int)) (t5813 : List (List Int)) (b15 : List Int) (Q : Type) : (Int × List (List Int × Bool)) → ((Int × List (List Int × Bool)) → Option Q) → ((List (List Int × Bool)) → Option Q) → Option Q
  | (t5914, m216), kn, kx =>
    let z_1 := (impl_Board_line_p b15 direction0 t5914)
    let z_2 : List (List Int) := (llget [t5810, t5811, t5812, t5813] ((Int.toNat t5914) * (1 : Nat)))
    let z_3 : Nat := (List.length z_2)
    let z_4 := (slices_DeleteFunc_4int4int_impl_Board_merged_f1_p F z_2 (Option.getD z_1 default))
    let z_5 := (Option.getD z_4 default)
    let z_6 := (impl_Board_merged_l18 F direction0 all1 other5 stays6 t5914 (subn (List.length z_5.2) z_5.2 0 z_5.1) t5810 t5811 t5812 t5813 t5914 b15 (0 : Int) m216)
    let z_7 : Int := (IntKind.wrap .i64 (t5914 + (1 : Int)))
    let z_8 := (impl_Board_merged_l18 F direction0 all1 other5 stays6 t5914 z_2 t5810 t5811 t5812 t5813 t5914 b15 (0 : Int) m216)
    let z_9 : Bool := (Option.isSome z_8)
    bif (decide (t5914 < (4 : Int))) then
    bif (inR t5914 4) then
    bif (Option.isSome z_1) then
    bif stays6 then
    bif (decide ((1 : Int) < ((z_3 : Nat) : Int))) then
    bif (other5 == (1 : Int)) then
    bif (fits z_3 32) then
    bif ((Nat.beq z_3 z_3) && (Option.isSome z_4)) then
    bif (Option.isSome z_6) then
    kn (z_7, (Option.getD z_6 default))
    else none
    else none
    else none
    else bif z_9 then
    kn (z_7, (Option.getD z_8 default))
    else none
    else bif z_9 then
    kn (z_7, (Option.getD z_8 default))
    else none
    else bif z_9 then
    kn (z_7, (Option.getD z_8 default))
    else none
    else none
    else none
    else kx m216
def impl_Board_merged_l12 (F : Nat) (direction0 : Int) (all1 : Bool) (other5 : Int) (stays6 : Bool) (t5810 : List (List Int)) (t5811 : List (List Int)) (t5812 : List (List Int)) (t5813 : List (List Int)) (b15 : List Int) (t5914 : Int) (m216 : List (List Int × Bool)) : Option (List (List Int × Bool)) := loopC (impl_Board_merged_s12 F direction0 all1 other5 stays6 t5810 t5811 t5812 t5813 b15) F (t5914, m216) some
theorem impl_Board_merged_s12_nat (F : Nat) (direction0 : Int) (all1 : Bool) (other5 : Int) (stays6 : Bool) (t5810 : List (List Int)) (t5811 : List (List Int)) (t5812 : List (List Int)) (t5813 : List (List Int)) (b15 : List Int) : Natural (impl_Board_merged_s12 F direction0 all1 other5 stays6 t5810 t5811 t5812 t5813 b15) := by
  intro Q Q' s kn kx h
  obtain ⟨t5914, m216⟩ := s
  simp only [impl_Board_merged_s12, cond_bindL, none_bindL]
/-- (loop.example/g01194/impl.Board).merged -/
def impl_Board_merged_c (Q : Type) (F : Nat) (b0 : List Int) (direction1 : Int) (all2 : Bool) (k : (Nat × Bool × List (List Int)) → Option Q) : Option Q :=
    let z_1 := (impl_IsBoard_p F b0)
    let z_2 := (impl_Board_countBefore_p F b0 direction1)
    let z_3 := (impl_Board_linesBefore_p F b0 direction1)
    let z_4 := (Option.getD z_3 default)
    let z_5 := (impl_Board_merged_l5 F direction1 all2 z_4.1 z_4.2.1 z_4.2.2.1 z_4.2.2.2 b0 z_4.1 z_4.2.1 z_4.2.2.1 z_4.2.2.2 (0 : Int) (0 : Int))
    let z_6 := (impl_Board_slides_p F b0 [direction1])
    let z_7 := (impl_Board_merged_l12 F direction1 all2 (Option.getD z_5 default) ((Option.getD z_6 default) == b0) z_4.1 z_4.2.1 z_4.2.2.1 z_4.2.2.2 b0 (0 : Int) ([] : List (List Int × Bool)))
    let z_8 := (slices_DeleteFunc_2int2int_impl_Board_merged_f2_p F [[(0 : Int), (0 : Int)], [(0 : Int), (1 : Int)], [(0 : Int), (2 : Int)], [(0 : Int), (3 : Int)], [(1 : Int), (0 : Int)], [(1 : Int), (1 : Int)], [(1 : Int), (2 : Int)], [(1 : Int), (3 : Int)], [(2 : Int), (0 : Int)], [(2 : Int), (1 : Int)], [(2 : Int), (2 : Int)], [(2 : Int), (3 : Int)], [(3 : Int), (0 : Int)], [(3 : Int), (1 : Int)], [(3 : Int), (2 : Int)], [(3 : Int), (3 : Int)]] (Option.getD z_7 default))
    let z_9 := (Option.getD z_8 default)
    bif (Option.isSome z_1) then
    bif (!(Option.getD z_1 default)) then
    k ((0 : Nat), false, ([] : List (List Int)))
    else bif (!(impl_isDirection_v direction1)) then
    k ((0 : Nat), false, ([] : List (List Int)))
    else bif (Option.isSome z_2) then
    bif ((Option.getD z_2 default) == (0 : Int)) then
    k ((0 : Nat), false, ([] : List (List Int)))
    else bif (Option.isSome z_3) then
    bif (Option.isSome z_5) then
    bif (Option.isSome z_6) then
    bif (Option.isSome z_7) then
    bif (Option.isSome z_8) then
    k (z_9.1, true, z_9.2)
    else none
    else none
    else none
    else none
    else none
    else none
    else none
def impl_Board_merged_p (F : Nat) (b0 : List Int) (direction1 : Int) (all2 : Bool) : Option (Nat × Bool × List (List Int)) := impl_Board_merged_c _ F b0 direction1 all2 some
theorem impl_Board_merged_cp (Q : Type) (F : Nat) (b0 : List Int) (direction1 : Int) (all2 : Bool) (k : (Nat × Bool × List (List Int)) → Option Q) : impl_Board_merged_c Q F b0 direction1 all2 k = (impl_Board_merged_p F b0 direction1 all2).bind k := by
  simp only [impl_Board_merged_p, impl_Board_merged_c, cond_bindL, none_bindL, some_bindL]

/-- loop.example/g01194/impl.CanMerge -/
def impl_CanMerge_c (Q : Type) (F : Nat) (b0 : List Int) (direction1 : Int) (k : (Nat × Bool × List (List Int)) → Option Q) : Option Q :=
    let z_1 := (impl_Board_merged_p F b0 direction1 false)
    let z_2 := (Option.getD z_1 default)
    bif (Option.isSome z_1) then
    k (z_2.1, z_2.2.1, z_2.2.2)
    else none
def impl_CanMerge_p (F : Nat) (b0 : List Int) (direction1 : Int) : Option (Nat × Bool × List (List Int)) := impl_CanMerge_c _ F b0 direction1 some
theorem impl_CanMerge_cp (Q : Type) (F : Nat) (b0 : List Int) (direction1 : Int) (k : (Nat × Bool × List (List Int)) → Option Q) : impl_CanMerge_c Q F b0 direction1 k = (impl_CanMerge_p F b0 direction1).bind k := by
  simp only [impl_CanMerge_p, impl_CanMerge_c, cond_bindL, none_bindL, some_bindL]

/-- loop 2 of loop.example/g01194/laws.eqIntA2 -/
def laws_eqIntA2_s2 (F : Nat) (a7 : List Int) (b8 : List Int) (Q : Type) : (Int) → ((Int) → Option Q) → ((Bool) → Option Q) → Option Q
  | i6, kn, kx =>
    let z_1 : Nat := ((0 : Nat) + ((Int.toNat i6) * (1 : Nat)))
    bif (decide (i6 < (2 : Int))) then
    bif (inR i6 2) then
    bif (inR i6 2) then
    bif (!((iget a7 z_1) == (iget b8 z_1))) then
    kx true
    else kn (IntKind.wrap .i64 (i6 + (1 : Int)))
    else none
    else none
    else kx false
def laws_eqIntA2_l2 (F : Nat) (a7 : List Int) (b8 : List Int) (i6 : Int) : Option (Bool) := loopC (laws_eqIntA2_s2 F a7 b8) F i6 some
theorem laws_eqIntA2_s2_nat (F : Nat) (a7 : List Int) (b8 : List Int) : Natural (laws_eqIntA2_s2 F a7 b8) := by
  intro Q Q' s kn kx h
  simp only [laws_eqIntA2_s2, cond_bindL, none_bindL]
/-- loop.example/g01194/laws.eqIntA2 -/
def laws_eqIntA2_c (Q : Type) (F : Nat) (a0 : List Int) (b1 : List Int) (k : (Bool) → Option Q) : Option Q :=
    let z_1 := (laws_eqIntA2_l2 F a0 b1 (0 : Int))
    bif (Option.isSome z_1) then
    bif (Option.getD z_1 default) then
    k false
    else k true
    else none
def laws_eqIntA2_p (F : Nat) (a0 : List Int) (b1 : List Int) : Option (Bool) := laws_eqIntA2_c _ F a0 b1 some
theorem laws_eqIntA2_cp (Q : Type) (F : Nat) (a0 : List Int) (b1 : List Int) (k : (Bool) → Option Q) : laws_eqIntA2_c Q F a0 b1 k = (laws_eqIntA2_p F a0 b1).bind k := by
  simp only [laws_eqIntA2_p, laws_eqIntA2_c, cond_bindL, none_bindL, some_bindL]

/-- loop 4 of loop.example/g01194/laws.eqIntA2S -/
def laws_eqIntA2S_s4 (F : Nat) (a0 : List (List Int)) (b1 : List (List Int)) (Q : Type) : (Int) → ((Int) → Option Q) → ((Bool) → Option Q) → Option Q
  | i2, kn, kx =>
    let z_1 := (laws_eqIntA2_p F (rget a0 (Int.toNat i2)) (rget b1 (Int.toNat i2)))
    bif (decide (i2 < (((List.length a0) : Nat) : Int))) then
    bif (inR i2 (List.length a0)) then
    bif (inR i2 (List.length b1)) then
    bif (Option.isSome z_1) then
    bif (!(Option.getD z_1 default)) then
    kx true
    else kn (IntKind.wrap .i64 (i2 + (1 : Int)))
    else none
    else none
    else none
    else kx false
def laws_eqIntA2S_l4 (F : Nat) (a0 : List (List Int)) (b1 : List (List Int)) (i2 : Int) : Option (Bool) := loopC (laws_eqIntA2S_s4 F a0 b1) F i2 some
theorem laws_eqIntA2S_s4_nat (F : Nat) (a0 : List (List Int)) (b1 : List (List Int)) : Natural (laws_eqIntA2S_s4 F a0 b1) := by
  intro Q Q' s kn kx h
  simp only [laws_eqIntA2S_s4, cond_bindL, none_bindL]
/-- loop.example/g01194/laws.eqIntA2S -/
def laws_eqIntA2S_c (Q : Type) (F : Nat) (a0 : List (List Int)) (b1 : List (List Int)) (k : (Bool) → Option Q) : Option Q :=
    let z_1 := (laws_eqIntA2S_l4 F a0 b1 (0 : Int))
    bif (!((((List.length a0) : Nat) : Int) == (((List.length b1) : Nat) : Int))) then
    k false
    else bif (Option.isSome z_1) then
    bif (Option.getD z_1 default) then
    k false
    else k true
    else none
def laws_eqIntA2S_p (F : Nat) (a0 : List (List Int)) (b1 : List (List Int)) : Option (Bool) := laws_eqIntA2S_c _ F a0 b1 some
theorem laws_eqIntA2S_cp (Q : Type) (F : Nat) (a0 : List (List Int)) (b1 : List (List Int)) (k : (Bool) → Option Q) : laws_eqIntA2S_c Q F a0 b1 k = (laws_eqIntA2S_p F a0 b1).bind k := by
  simp only [laws_eqIntA2S_p, laws_eqIntA2S_c, cond_bindL, none_bindL, some_bindL]
end Go.Lv.P
