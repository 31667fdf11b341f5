/-
Pure functions and what the code of them does, by program; without conditions.
-/
import Derived.Test.YtgdokdkcbgkekafGfP1
namespace Go.Lv.P
open Go Go.Lv
set_option linter.unusedVariables false
set_option linter.unusedSimpArgs false
set_option maxRecDepth 100000
/-- loop 3 of (loop.example/g01194/impl.Board).moves -/
def impl_Board_moves_s3 (F : Nat) (b6 : List Int) (Q : Type) : (Int × List Int) → ((Int × List Int) → Option Q) → ((List Int) → Option Q) → Option Q
  | (t95, out7), kn, kx =>
    let z_1 := (impl_Board_slide_p F b6 t95)
    let z_2 : List Int := ((subn (List.length out7) out7 0 (List.length out7)) ++ [t95])
    let z_3 : Int := (IntKind.wrap .i64 (t95 + (1 : Int)))
    bif (decide (t95 < (4 : Int))) then
    bif (Option.isSome z_1) then
    bif (!((Option.getD z_1 default).1 == b6)) then
    bif (fits (List.length z_2) 8) then
    kn (z_3, z_2)
    else none
    else kn (z_3, out7)
    else none
    else kx out7
def impl_Board_moves_l3 (F : Nat) (b6 : List Int) (t95 : Int) (out7 : List Int) : Option (List Int) := loopC (impl_Board_moves_s3 F b6) F (t95, out7) some
theorem impl_Board_moves_s3_nat (F : Nat) (b6 : List Int) : Natural (impl_Board_moves_s3 F b6) := by
  intro Q Q' s kn kx h
  obtain ⟨t95, out7⟩ := s
  simp only [impl_Board_moves_s3, cond_bindL, none_bindL]
/-- (loop.example/g01194/impl.Board).moves -/
def impl_Board_moves_c (Q : Type) (F : Nat) (b0 : List Int) (k : (List Int) → Option Q) : Option Q :=
    let z_1 := (impl_Board_moves_l3 F b0 (0 : Int) ([] : List Int))
    bif (Option.isSome z_1) then
    k (Option.getD z_1 default)
    else none
def impl_Board_moves_p (F : Nat) (b0 : List Int) : Option (List Int) := impl_Board_moves_c _ F b0 some
theorem impl_Board_moves_cp (Q : Type) (F : Nat) (b0 : List Int) (k : (List Int) → Option Q) : impl_Board_moves_c Q F b0 k = (impl_Board_moves_p F b0).bind k := by
  simp only [impl_Board_moves_p, impl_Board_moves_c, cond_bindL, none_bindL, some_bindL]

/-- (loop.example/g01194/impl.Board).isOver -/
def impl_Board_isOver_c (Q : Type) (F : Nat) (b0 : List Int) (k : (Bool) → Option Q) : Option Q :=
    let z_1 := (impl_Board_moves_p F b0)
    bif (Option.isSome z_1) then
    k ((((List.length (Option.getD z_1 default)) : Nat) : Int) == (0 : Int))
    else none
def impl_Board_isOver_p (F : Nat) (b0 : List Int) : Option (Bool) := impl_Board_isOver_c _ F b0 some
theorem impl_Board_isOver_cp (Q : Type) (F : Nat) (b0 : List Int) (k : (Bool) → Option Q) : impl_Board_isOver_c Q F b0 k = (impl_Board_isOver_p F b0).bind k := by
  simp only [impl_Board_isOver_p, impl_Board_isOver_c, cond_bindL, none_bindL, some_bindL]

/-- (loop.example/g01194/impl.Board).lasts -/
def impl_Board_lasts_n1_c (Q : Type) (F : Nat) (b0 : List Int) (k : (Bool) → Option Q) : Option Q :=
    let z_1 := (impl_Board_isOver_p F b0)
    bif (Option.isSome z_1) then
    k (!(Option.getD z_1 default))
    else none
def impl_Board_lasts_n1_p (F : Nat) (b0 : List Int) : Option (Bool) := impl_Board_lasts_n1_c _ F b0 some
theorem impl_Board_lasts_n1_cp (Q : Type) (F : Nat) (b0 : List Int) (k : (Bool) → Option Q) : impl_Board_lasts_n1_c Q F b0 k = (impl_Board_lasts_n1_p F b0).bind k := by
  simp only [impl_Board_lasts_n1_p, impl_Board_lasts_n1_c, cond_bindL, none_bindL, some_bindL]

/-- loop 2 of (loop.example/g01194/impl.Board).slides -/
def impl_Board_slides_s2 (F : Nat) (t76 : List Int) (t87 : Int) (Q : Type) : (Int × List Int) → ((Int × List Int) → Option Q) → ((List Int) → Option Q) → Option Q
  | (t98, b9), kn, kx =>
    let z_1 := (impl_Board_slide_p F b9 (iget t76 (Int.toNat t98)))
    bif (decide (t98 < t87)) then
    bif (inR t98 (List.length t76)) then
    bif (Option.isSome z_1) then
    kn ((IntKind.wrap .i64 (t98 + (1 : Int))), (Option.getD z_1 default).1)
    else none
    else none
    else kx b9
def impl_Board_slides_l2 (F : Nat) (t76 : List Int) (t87 : Int) (t98 : Int) (b9 : List Int) : Option (List Int) := loopC (impl_Board_slides_s2 F t76 t87) F (t98, b9) some
theorem impl_Board_slides_s2_nat (F : Nat) (t76 : List Int) (t87 : Int) : Natural (impl_Board_slides_s2 F t76 t87) := by
  intro Q Q' s kn kx h
  obtain ⟨t98, b9⟩ := s
  simp only [impl_Board_slides_s2, cond_bindL, none_bindL]
/-- (loop.example/g01194/impl.Board).slides -/
def impl_Board_slides_c (Q : Type) (F : Nat) (b0 : List Int) (list1 : List Int) (k : (List Int) → Option Q) : Option Q :=
    let z_1 := (impl_Board_slides_l2 F list1 (((List.length list1) : Nat) : Int) (0 : Int) b0)
    bif (Option.isSome z_1) then
    k (Option.getD z_1 default)
    else none
def impl_Board_slides_p (F : Nat) (b0 : List Int) (list1 : List Int) : Option (List Int) := impl_Board_slides_c _ F b0 list1 some
theorem impl_Board_slides_cp (Q : Type) (F : Nat) (b0 : List Int) (list1 : List Int) (k : (List Int) → Option Q) : impl_Board_slides_c Q F b0 list1 k = (impl_Board_slides_p F b0 list1).bind k := by
  simp only [impl_Board_slides_p, impl_Board_slides_c, cond_bindL, none_bindL, some_bindL]

/-- loop.example/g01194/impl.cells -/
def impl_cells_c (Q : Type) (k : (Unit) → Option Q) : Option Q :=
    k ()
def impl_cells_v : Unit :=
    ()
theorem impl_cells_cv (Q : Type) (k : (Unit) → Option Q) : impl_cells_c Q k = k (impl_cells_v) := by
  simp only [impl_cells_c, impl_cells_v, app_condL k]

/-- (loop.example/g01194/impl.Board).empty$1 -/
def impl_Board_empty_f1_c (Q : Type) (cell0 : List Int) (a14 : List Int) (k : (Bool) → Option Q) : Option Q :=
    let z_1 := (impl_Board_at_p cell0 a14)
    bif (Option.isSome z_1) then
    k (!((iget a14 (Option.getD z_1 default)) == (0 : Int)))
    else none
def impl_Board_empty_f1_p (cell0 : List Int) (a14 : List Int) : Option (Bool) := impl_Board_empty_f1_c _ cell0 a14 some
theorem impl_Board_empty_f1_cp (Q : Type) (cell0 : List Int) (a14 : List Int) (k : (Bool) → Option Q) : impl_Board_empty_f1_c Q cell0 a14 k = (impl_Board_empty_f1_p cell0 a14).bind k := by
  simp only [impl_Board_empty_f1_p, impl_Board_empty_f1_c, cond_bindL, none_bindL, some_bindL]

/-- loop 2 of slices.IndexFunc[[][2]int,[2]int] -/
def slices_IndexFunc_2int2int_impl_Board_empty_f1_s2 (F : Nat) (s0 : List (List Int)) (t74 : Int) (f6 : List Int) (Q : Type) : (Int) → ((Int) → Option Q) → ((Bool × Int) → Option Q) → Option Q
  | t85, kn, kx =>
    let z_1 := (impl_Board_empty_f1_p (rget s0 (Int.toNat t85)) f6)
    bif (decide (t85 < t74)) then
    bif (inR t85 (List.length s0)) then
    bif (Option.isSome z_1) then
    bif (Option.getD z_1 default) then
    kx (true, t85)
    else kn (IntKind.wrap .i64 (t85 + (1 : Int)))
    else none
    else none
    else kx (false, default)
def slices_IndexFunc_2int2int_impl_Board_empty_f1_l2 (F : Nat) (s0 : List (List Int)) (t74 : Int) (f6 : List Int) (t85 : Int) : Option (Bool × Int) := loopC (slices_IndexFunc_2int2int_impl_Board_empty_f1_s2 F s0 t74 f6) F t85 some
theorem slices_IndexFunc_2int2int_impl_Board_empty_f1_s2_nat (F : Nat) (s0 : List (List Int)) (t74 : Int) (f6 : List Int) : Natural (slices_IndexFunc_2int2int_impl_Board_empty_f1_s2 F s0 t74 f6) := by
  intro Q Q' s kn kx h
  simp only [slices_IndexFunc_2int2int_impl_Board_empty_f1_s2, cond_bindL, none_bindL]
/-- slices.IndexFunc[[][2]int,[2]int] -/
def slices_IndexFunc_2int2int_impl_Board_empty_f1_c (Q : Type) (F : Nat) (s0 : List (List Int)) (f4 : List Int) (k : (Int) → Option Q) : Option Q :=
    let z_1 := (slices_IndexFunc_2int2int_impl_Board_empty_f1_l2 F s0 (((List.length s0) : Nat) : Int) f4 (0 : Int))
    let z_2 := (Option.getD z_1 default)
    bif (Option.isSome z_1) then
    bif z_2.1 then
    k z_2.2
    else k (-1 : Int)
    else none
def slices_IndexFunc_2int2int_impl_Board_empty_f1_p (F : Nat) (s0 : List (List Int)) (f4 : List Int) : Option (Int) := slices_IndexFunc_2int2int_impl_Board_empty_f1_c _ F s0 f4 some
theorem slices_IndexFunc_2int2int_impl_Board_empty_f1_cp (Q : Type) (F : Nat) (s0 : List (List Int)) (f4 : List Int) (k : (Int) → Option Q) : slices_IndexFunc_2int2int_impl_Board_empty_f1_c Q F s0 f4 k = (slices_IndexFunc_2int2int_impl_Board_empty_f1_p F s0 f4).bind k := by
  simp only [slices_IndexFunc_2int2int_impl_Board_empty_f1_p, slices_IndexFunc_2int2int_impl_Board_empty_f1_c, cond_bindL, none_bindL, some_bindL]

/-- loop 5 of slices.DeleteFunc[[][2]int,[2]int] -/
def slices_DeleteFunc_2int2int_impl_Board_empty_f1_s5 (F : Nat) (s1 : Nat) (del8 : List Int) (Q : Type) : (Int × Int × List (List Int)) → ((Int × Int × List (List Int)) → Option Q) → ((Int × List (List Int)) → Option Q) → Option Q
  | (i5, j6, s7), kn, kx =>
    let z_1 : List Int := (rget s7 ((0 : Nat) + (Int.toNat j6)))
    let z_2 := (impl_Board_empty_f1_p z_1 del8)
    let z_3 : Int := (IntKind.wrap .i64 (j6 + (1 : Int)))
    bif (decide (j6 < ((s1 : Nat) : Int))) then
    bif (inR j6 s1) then
    bif (Option.isSome z_2) then
    bif (!(Option.getD z_2 default)) then
    bif (inR i5 s1) then
    kn ((IntKind.wrap .i64 (i5 + (1 : Int))), z_3, (rset s7 ((0 : Nat) + (Int.toNat i5)) z_1))
    else none
    else kn (i5, z_3, s7)
    else none
    else none
    else kx (i5, s7)
def slices_DeleteFunc_2int2int_impl_Board_empty_f1_l5 (F : Nat) (s1 : Nat) (del8 : List Int) (i5 : Int) (j6 : Int) (s7 : List (List Int)) : Option (Int × List (List Int)) := loopC (slices_DeleteFunc_2int2int_impl_Board_empty_f1_s5 F s1 del8) F (i5, j6, s7) some
theorem slices_DeleteFunc_2int2int_impl_Board_empty_f1_s5_nat (F : Nat) (s1 : Nat) (del8 : List Int) : Natural (slices_DeleteFunc_2int2int_impl_Board_empty_f1_s5 F s1 del8) := by
  intro Q Q' s kn kx h
  obtain ⟨i5, j6, s7⟩ := s
  simp only [slices_DeleteFunc_2int2int_impl_Board_empty_f1_s5, cond_bindL, none_bindL]
/-- slices.DeleteFunc[[][2]int,[2]int] -/
def slices_DeleteFunc_2int2int_impl_Board_empty_f1_c (Q : Type) (F : Nat) (s5 : List (List Int)) (del6 : List Int) (k : (Nat × List (List Int)) → Option Q) : Option Q :=
    let z_1 := (slices_IndexFunc_2int2int_impl_Board_empty_f1_p F (subn (List.length s5) s5 0 (List.length s5)) del6)
    let z_2 := (slices_DeleteFunc_2int2int_impl_Board_empty_f1_l5 F (List.length s5) del6 (Option.getD z_1 default) (IntKind.wrap .i64 ((Option.getD z_1 default) + (1 : Int))) s5)
    let z_3 := (Option.getD z_2 default)
    let z_4 : Bool := (inLe z_3.1 (List.length s5))
    let z_5 : Nat := (Int.toNat z_3.1)
    let z_6 : Nat := ((List.length s5) - z_5)
    bif (Option.isSome z_1) then
    bif ((Option.getD z_1 default) == (-1 : Int)) then
    k ((List.length s5), s5)
    else bif (Option.isSome z_2) then
    bif z_4 then
    bif z_4 then
    k ((z_5 - (0 : Nat)), (splice z_3.2 ((0 : Nat) + z_5) (List.replicate z_6 [(0 : Int), (0 : Int)]) z_6))
    else none
    else none
    else none
    else none
def slices_DeleteFunc_2int2int_impl_Board_empty_f1_p (F : Nat) (s5 : List (List Int)) (del6 : List Int) : Option (Nat × List (List Int)) := slices_DeleteFunc_2int2int_impl_Board_empty_f1_c _ F s5 del6 some
theorem slices_DeleteFunc_2int2int_impl_Board_empty_f1_cp (Q : Type) (F : Nat) (s5 : List (List Int)) (del6 : List Int) (k : (Nat × List (List Int)) → Option Q) : slices_DeleteFunc_2int2int_impl_Board_empty_f1_c Q F s5 del6 k = (slices_DeleteFunc_2int2int_impl_Board_empty_f1_p F s5 del6).bind k := by
  simp only [slices_DeleteFunc_2int2int_impl_Board_empty_f1_p, slices_DeleteFunc_2int2int_impl_Board_empty_f1_c, cond_bindL, none_bindL, some_bindL]

/-- (loop.example/g01194/impl.Board).empty -/
def impl_Board_empty_c (Q : Type) (F : Nat) (b0 : List Int) (k : (Nat × List (List Int)) → Option Q) : Option Q :=
    let z_1 := (slices_DeleteFunc_2int2int_impl_Board_empty_f1_p F [[(0 : Int), (0 : Int)], [(0 : Int), (1 : Int)], [(0 : Int), (2 : Int)], [(0 : Int), (3 : Int)], [(1 : Int), (0 : Int)], [(1 : Int), (1 : Int)], [(1 : Int), (2 : Int)], [(1 : Int), (3 : Int)], [(2 : Int), (0 : Int)], [(2 : Int), (1 : Int)], [(2 : Int), (2 : Int)], [(2 : Int), (3 : Int)], [(3 : Int), (0 : Int)], [(3 : Int), (1 : Int)], [(3 : Int), (2 : Int)], [(3 : Int), (3 : Int)]] b0)
    let z_2 := (Option.getD z_1 default)
    bif (Option.isSome z_1) then
    k (z_2.1, z_2.2)
    else none
def impl_Board_empty_p (F : Nat) (b0 : List Int) : Option (Nat × List (List Int)) := impl_Board_empty_c _ F b0 some
theorem impl_Board_empty_cp (Q : Type) (F : Nat) (b0 : List Int) (k : (Nat × List (List Int)) → Option Q) : impl_Board_empty_c Q F b0 k = (impl_Board_empty_p F b0).bind k := by
  simp only [impl_Board_empty_p, impl_Board_empty_c, cond_bindL, none_bindL, some_bindL]

/-- loop 3 of (loop.example/g01194/impl.Board).placements -/
def impl_Board_placements_s3 (F : Nat) (t83 : Nat) (t94 : Int) (t87 : List (List Int)) (Q : Type) : (Int × List (List Int)) → ((Int × List (List Int)) → Option Q) → ((List (List Int)) → Option Q) → Option Q
  | (t105, out6), kn, kx =>
    let z_1 : List Int := (rget t87 ((0 : Nat) + (Int.toNat t105)))
    let z_2 : Int := (iget z_1 0)
    let z_3 : Int := (iget z_1 1)
    let z_4 : List (List Int) := ((subn (List.length out6) out6 0 (List.length out6)) ++ [[z_2, z_3, (1 : Int)], [z_2, z_3, (2 : Int)]])
    bif (decide (t105 < t94)) then
    bif (inR t105 t83) then
    bif (fits (List.length z_4) 24) then
    kn ((IntKind.wrap .i64 (t105 + (1 : Int))), z_4)
    else none
    else none
    else kx out6
def impl_Board_placements_l3 (F : Nat) (t83 : Nat) (t94 : Int) (t87 : List (List Int)) (t105 : Int) (out6 : List (List Int)) : Option (List (List Int)) := loopC (impl_Board_placements_s3 F t83 t94 t87) F (t105, out6) some
theorem impl_Board_placements_s3_nat (F : Nat) (t83 : Nat) (t94 : Int) (t87 : List (List Int)) : Natural (impl_Board_placements_s3 F t83 t94 t87) := by
  intro Q Q' s kn kx h
  obtain ⟨t105, out6⟩ := s
  simp only [impl_Board_placements_s3, cond_bindL, none_bindL]
/-- (loop.example/g01194/impl.Board).placements -/
def impl_Board_placements_c (Q : Type) (F : Nat) (b0 : List Int) (k : (List (List Int)) → Option Q) : Option Q :=
    let z_1 := (impl_Board_empty_p F b0)
    let z_2 := (Option.getD z_1 default)
    let z_3 := (impl_Board_placements_l3 F z_2.1 ((z_2.1 : Nat) : Int) z_2.2 (0 : Int) ([] : List (List Int)))
    bif (Option.isSome z_1) then
    bif (Option.isSome z_3) then
    k (Option.getD z_3 default)
    else none
    else none
def impl_Board_placements_p (F : Nat) (b0 : List Int) : Option (List (List Int)) := impl_Board_placements_c _ F b0 some
theorem impl_Board_placements_cp (Q : Type) (F : Nat) (b0 : List Int) (k : (List (List Int)) → Option Q) : impl_Board_placements_c Q F b0 k = (impl_Board_placements_p F b0).bind k := by
  simp only [impl_Board_placements_p, impl_Board_placements_c, cond_bindL, none_bindL, some_bindL]

/-- (loop.example/g01194/impl.Board).placed -/
def impl_Board_placed_c (Q : Type) (b0 : List Int) (p1 : List Int) (k : (List Int) → Option Q) : Option Q :=
    bif (inR (iget p1 0) 4) then
    bif (inR (iget p1 1) 4) then
    k (iset b0 (((0 : Nat) + ((Int.toNat (iget p1 0)) * (4 : Nat))) + ((Int.toNat (iget p1 1)) * (1 : Nat))) (iget p1 2))
    else none
    else none
def impl_Board_placed_p (b0 : List Int) (p1 : List Int) : Option (List Int) := impl_Board_placed_c _ b0 p1 some
theorem impl_Board_placed_cp (Q : Type) (b0 : List Int) (p1 : List Int) (k : (List Int) → Option Q) : impl_Board_placed_c Q b0 p1 k = (impl_Board_placed_p b0 p1).bind k := by
  simp only [impl_Board_placed_p, impl_Board_placed_c, cond_bindL, none_bindL, some_bindL]

/-- loop 2 of (loop.example/g01194/impl.Board).refuted -/
def impl_Board_refuted_n1_s2 (F : Nat) (t109 : Int) (b11 : List Int) (t913 : List (List Int)) (Q : Type) : (Int) → ((Int) → Option Q) → ((Bool × List Int) → Option Q) → Option Q
  | t1110, kn, kx =>
    let z_1 : List Int := (rget t913 ((0 : Nat) + (Int.toNat t1110)))
    let z_2 := (impl_Board_placed_p b11 z_1)
    let z_3 := (impl_Board_lasts_n1_p F (Option.getD z_2 default))
    bif (decide (t1110 < t109)) then
    bif (inR t1110 (List.length t913)) then
    bif (Option.isSome z_2) then
    bif (Option.isSome z_3) then
    bif (!(Option.getD z_3 default)) then
    kx (true, z_1)
    else kn (IntKind.wrap .i64 (t1110 + (1 : Int)))
    else none
    else none
    else none
    else kx (false, default)
def impl_Board_refuted_n1_l2 (F : Nat) (t109 : Int) (b11 : List Int) (t913 : List (List Int)) (t1110 : Int) : Option (Bool × List Int) := loopC (impl_Board_refuted_n1_s2 F t109 b11 t913) F t1110 some
theorem impl_Board_refuted_n1_s2_nat (F : Nat) (t109 : Int) (b11 : List Int) (t913 : List (List Int)) : Natural (impl_Board_refuted_n1_s2 F t109 b11 t913) := by
  intro Q Q' s kn kx h
  simp only [impl_Board_refuted_n1_s2, cond_bindL, none_bindL]
/-- (loop.example/g01194/impl.Board).refuted -/
def impl_Board_refuted_n1_c (Q : Type) (F : Nat) (b0 : List Int) (k : (List Int × Bool) → Option Q) : Option Q :=
    let z_1 := (impl_Board_placements_p F b0)
    let z_2 : Nat := (List.length (Option.getD z_1 default))
    let z_3 := (impl_Board_refuted_n1_l2 F ((z_2 : Nat) : Int) b0 (Option.getD z_1 default) (0 : Int))
    let z_4 := (Option.getD z_3 default)
    bif (Option.isSome z_1) then
    bif ((Nat.beq z_2 z_2) && (Option.isSome z_3)) then
    bif z_4.1 then
    k (z_4.2, true)
    else k ([(0 : Int), (0 : Int), (0 : Int)], false)
    else none
    else none
def impl_Board_refuted_n1_p (F : Nat) (b0 : List Int) : Option (List Int × Bool) := impl_Board_refuted_n1_c _ F b0 some
theorem impl_Board_refuted_n1_cp (Q : Type) (F : Nat) (b0 : List Int) (k : (List Int × Bool) → Option Q) : impl_Board_refuted_n1_c Q F b0 k = (impl_Board_refuted_n1_p F b0).bind k := by
  simp only [impl_Board_refuted_n1_p, impl_Board_refuted_n1_c, cond_bindL, none_bindL, some_bindL]

/-- (loop.example/g01194/impl.Board).isSafe -/
def impl_Board_isSafe_n2_c (Q : Type) (F : Nat) (b0 : List Int) (direction1 : Int) (k : (Bool) → Option Q) : Option Q :=
    let z_1 := (impl_Board_slides_p F b0 [direction1])
    let z_2 := (impl_Board_refuted_n1_p F (Option.getD z_1 default))
    bif (Option.isSome z_1) then
    bif (Option.isSome z_2) then
    k (!(Option.getD z_2 default).2)
    else none
    else none
def impl_Board_isSafe_n2_p (F : Nat) (b0 : List Int) (direction1 : Int) : Option (Bool) := impl_Board_isSafe_n2_c _ F b0 direction1 some
theorem impl_Board_isSafe_n2_cp (Q : Type) (F : Nat) (b0 : List Int) (direction1 : Int) (k : (Bool) → Option Q) : impl_Board_isSafe_n2_c Q F b0 direction1 k = (impl_Board_isSafe_n2_p F b0 direction1).bind k := by
  simp only [impl_Board_isSafe_n2_p, impl_Board_isSafe_n2_c, cond_bindL, none_bindL, some_bindL]

/-- (loop.example/g01194/impl.Board).lasts$1 -/
def impl_Board_lasts_f1_n2_c (Q : Type) (F : Nat) (d0 : Int) (a17 : List Int) (k : (Bool) → Option Q) : Option Q :=
    let z_1 := (impl_Board_isSafe_n2_p F a17 d0)
    bif (Option.isSome z_1) then
    k (Option.getD z_1 default)
    else none
def impl_Board_lasts_f1_n2_p (F : Nat) (d0 : Int) (a17 : List Int) : Option (Bool) := impl_Board_lasts_f1_n2_c _ F d0 a17 some
theorem impl_Board_lasts_f1_n2_cp (Q : Type) (F : Nat) (d0 : Int) (a17 : List Int) (k : (Bool) → Option Q) : impl_Board_lasts_f1_n2_c Q F d0 a17 k = (impl_Board_lasts_f1_n2_p F d0 a17).bind k := by
  simp only [impl_Board_lasts_f1_n2_p, impl_Board_lasts_f1_n2_c, cond_bindL, none_bindL, some_bindL]
end Go.Lv.P
