/-
Pure functions and what the code of them does, by program; without conditions.
-/
import Derived.Test.YtloemkielkdegaaTIP4
namespace Go.Lv.P
open Go Go.Lv
set_option linter.unusedVariables false
set_option linter.unusedSimpArgs false
set_option maxRecDepth 100000
/-- loop 4 of loop.example/g01194/spec.l9Keep -/
def spec_l9Keep_n2_s4 (F : Nat) (steps13 : List (List Int)) (all15 : List (List Int)) (Q : Type) : (Int × List Int) → ((Int × List Int) → Option Q) → ((List Int) → Option Q) → Option Q
  | (i11, sum14), kn, kx =>
    let z_1 := (spec_l9KeepBest_n1_p F (rget all15 ((0 : Nat) + (Int.toNat i11))))
    let z_2 := (spec_l9Part_p F (Option.getD z_1 default) (spec_l9Weight_v (rget steps13 ((0 : Nat) + (Int.toNat i11)))) (IntKind.wrap .i64 ((5 : Int) * (((List.length steps13) : Nat) : Int))))
    let z_3 := (spec_l9Plus_p F sum14 (Option.getD z_2 default))
    bif (decide (i11 < (((List.length all15) : Nat) : Int))) then
    bif (inR i11 (List.length all15)) then
    bif (Option.isSome z_1) then
    bif (inR i11 (List.length steps13)) then
    bif (Option.isSome z_2) then
    bif (Option.isSome z_3) then
    kn ((IntKind.wrap .i64 (i11 + (1 : Int))), (Option.getD z_3 default))
    else none
    else none
    else none
    else none
    else none
    else kx sum14
def spec_l9Keep_n2_l4 (F : Nat) (steps13 : List (List Int)) (all15 : List (List Int)) (i11 : Int) (sum14 : List Int) : Option (List Int) := loopC (spec_l9Keep_n2_s4 F steps13 all15) F (i11, sum14) some
theorem spec_l9Keep_n2_s4_nat (F : Nat) (steps13 : List (List Int)) (all15 : List (List Int)) : Natural (spec_l9Keep_n2_s4 F steps13 all15) := by
  intro Q Q' s kn kx h
  obtain ⟨i11, sum14⟩ := s
  simp only [spec_l9Keep_n2_s4, cond_bindL, none_bindL]
/-- loop.example/g01194/spec.l9Keep -/
def spec_l9Keep_n2_c (Q : Type) (F : Nat) (b0 : List Int) (d1 : Int) (k : (List Int) → Option Q) : Option Q :=
    let z_1 := (spec_l5Steps_p F b0 d1)
    let z_2 : Nat := (List.length (Option.getD z_1 default))
    let z_3 := (spec_l9Boards_p F b0 (subn z_2 (Option.getD z_1 default) 0 z_2))
    let z_4 : Nat := (List.length (Option.getD z_3 default))
    let z_5 := (spec_l9Keep_n2_l4 F (Option.getD z_1 default) (Option.getD z_3 default) (0 : Int) [(0 : Int), (1 : Int)])
    bif (Option.isSome z_1) then
    bif (Option.isSome z_3) then
    bif ((Nat.beq z_2 z_2) && ((Nat.beq z_4 z_4) && (Option.isSome z_5))) then
    k (Option.getD z_5 default)
    else none
    else none
    else none
def spec_l9Keep_n2_p (F : Nat) (b0 : List Int) (d1 : Int) : Option (List Int) := spec_l9Keep_n2_c _ F b0 d1 some
theorem spec_l9Keep_n2_cp (Q : Type) (F : Nat) (b0 : List Int) (d1 : Int) (k : (List Int) → Option Q) : spec_l9Keep_n2_c Q F b0 d1 k = (spec_l9Keep_n2_p F b0 d1).bind k := by
  simp only [spec_l9Keep_n2_p, spec_l9Keep_n2_c, cond_bindL, none_bindL, some_bindL]

/-- loop 7 of loop.example/g01194/spec.l9KeepBest -/
def spec_l9KeepBest_n2_s7 (F : Nat) (b13 : List Int) (moves16 : List Int) (Q : Type) : (Int × List Int) → ((Int × List Int) → Option Q) → ((List Int) → Option Q) → Option Q
  | (i12, best15), kn, kx =>
    let z_1 := (spec_l9Keep_n2_p F b13 (iget moves16 ((0 : Nat) + (Int.toNat i12))))
    let z_2 : Int := (IntKind.wrap .i64 (i12 + (1 : Int)))
    bif (decide (i12 < (((List.length moves16) : Nat) : Int))) then
    bif (inR i12 (List.length moves16)) then
    bif (Option.isSome z_1) then
    bif (spec_l9Less_v best15 (Option.getD z_1 default)) then
    kn (z_2, (Option.getD z_1 default))
    else kn (z_2, best15)
    else none
    else none
    else kx best15
def spec_l9KeepBest_n2_l7 (F : Nat) (b13 : List Int) (moves16 : List Int) (i12 : Int) (best15 : List Int) : Option (List Int) := loopC (spec_l9KeepBest_n2_s7 F b13 moves16) F (i12, best15) some
theorem spec_l9KeepBest_n2_s7_nat (F : Nat) (b13 : List Int) (moves16 : List Int) : Natural (spec_l9KeepBest_n2_s7 F b13 moves16) := by
  intro Q Q' s kn kx h
  obtain ⟨i12, best15⟩ := s
  simp only [spec_l9KeepBest_n2_s7, cond_bindL, none_bindL]
/-- loop.example/g01194/spec.l9KeepBest -/
def spec_l9KeepBest_n2_c (Q : Type) (F : Nat) (b0 : List Int) (k : (List Int) → Option Q) : Option Q :=
    let z_1 := (spec_l2Moves_p F b0)
    let z_2 : Nat := (List.length (Option.getD z_1 default))
    let z_3 := (spec_l9KeepBest_n2_l7 F b0 (Option.getD z_1 default) (0 : Int) [(0 : Int), (1 : Int)])
    bif (Option.isSome z_1) then
    bif ((Nat.beq z_2 z_2) && (Option.isSome z_3)) then
    k (Option.getD z_3 default)
    else none
    else none
def spec_l9KeepBest_n2_p (F : Nat) (b0 : List Int) : Option (List Int) := spec_l9KeepBest_n2_c _ F b0 some
theorem spec_l9KeepBest_n2_cp (Q : Type) (F : Nat) (b0 : List Int) (k : (List Int) → Option Q) : spec_l9KeepBest_n2_c Q F b0 k = (spec_l9KeepBest_n2_p F b0).bind k := by
  simp only [spec_l9KeepBest_n2_p, spec_l9KeepBest_n2_c, cond_bindL, none_bindL, some_bindL]

/-- loop 4 of loop.example/g01194/spec.l9Keep -/
def spec_l9Keep_n3_s4 (F : Nat) (steps13 : List (List Int)) (all15 : List (List Int)) (Q : Type) : (Int × List Int) → ((Int × List Int) → Option Q) → ((List Int) → Option Q) → Option Q
  | (i11, sum14), kn, kx =>
    let z_1 := (spec_l9KeepBest_n2_p F (rget all15 ((0 : Nat) + (Int.toNat i11))))
    let z_2 := (spec_l9Part_p F (Option.getD z_1 default) (spec_l9Weight_v (rget steps13 ((0 : Nat) + (Int.toNat i11)))) (IntKind.wrap .i64 ((5 : Int) * (((List.length steps13) : Nat) : Int))))
    let z_3 := (spec_l9Plus_p F sum14 (Option.getD z_2 default))
    bif (decide (i11 < (((List.length all15) : Nat) : Int))) then
    bif (inR i11 (List.length all15)) then
    bif (Option.isSome z_1) then
    bif (inR i11 (List.length steps13)) then
    bif (Option.isSome z_2) then
    bif (Option.isSome z_3) then
    kn ((IntKind.wrap .i64 (i11 + (1 : Int))), (Option.getD z_3 default))
    else none
    else none
    else none
    else none
    else none
    else kx sum14
def spec_l9Keep_n3_l4 (F : Nat) (steps13 : List (List Int)) (all15 : List (List Int)) (i11 : Int) (sum14 : List Int) : Option (List Int) := loopC (spec_l9Keep_n3_s4 F steps13 all15) F (i11, sum14) some
theorem spec_l9Keep_n3_s4_nat (F : Nat) (steps13 : List (List Int)) (all15 : List (List Int)) : Natural (spec_l9Keep_n3_s4 F steps13 all15) := by
  intro Q Q' s kn kx h
  obtain ⟨i11, sum14⟩ := s
  simp only [spec_l9Keep_n3_s4, cond_bindL, none_bindL]
/-- loop.example/g01194/spec.l9Keep -/
def spec_l9Keep_n3_c (Q : Type) (F : Nat) (b0 : List Int) (d1 : Int) (k : (List Int) → Option Q) : Option Q :=
    let z_1 := (spec_l5Steps_p F b0 d1)
    let z_2 : Nat := (List.length (Option.getD z_1 default))
    let z_3 := (spec_l9Boards_p F b0 (subn z_2 (Option.getD z_1 default) 0 z_2))
    let z_4 : Nat := (List.length (Option.getD z_3 default))
    let z_5 := (spec_l9Keep_n3_l4 F (Option.getD z_1 default) (Option.getD z_3 default) (0 : Int) [(0 : Int), (1 : Int)])
    bif (Option.isSome z_1) then
    bif (Option.isSome z_3) then
    bif ((Nat.beq z_2 z_2) && ((Nat.beq z_4 z_4) && (Option.isSome z_5))) then
    k (Option.getD z_5 default)
    else none
    else none
    else none
def spec_l9Keep_n3_p (F : Nat) (b0 : List Int) (d1 : Int) : Option (List Int) := spec_l9Keep_n3_c _ F b0 d1 some
theorem spec_l9Keep_n3_cp (Q : Type) (F : Nat) (b0 : List Int) (d1 : Int) (k : (List Int) → Option Q) : spec_l9Keep_n3_c Q F b0 d1 k = (spec_l9Keep_n3_p F b0 d1).bind k := by
  simp only [spec_l9Keep_n3_p, spec_l9Keep_n3_c, cond_bindL, none_bindL, some_bindL]

/-- loop 7 of loop.example/g01194/spec.l9KeepBest -/
def spec_l9KeepBest_n3_s7 (F : Nat) (b13 : List Int) (moves16 : List Int) (Q : Type) : (Int × List Int) → ((Int × List Int) → Option Q) → ((List Int) → Option Q) → Option Q
  | (i12, best15), kn, kx =>
    let z_1 := (spec_l9Keep_n3_p F b13 (iget moves16 ((0 : Nat) + (Int.toNat i12))))
    let z_2 : Int := (IntKind.wrap .i64 (i12 + (1 : Int)))
    bif (decide (i12 < (((List.length moves16) : Nat) : Int))) then
    bif (inR i12 (List.length moves16)) then
    bif (Option.isSome z_1) then
    bif (spec_l9Less_v best15 (Option.getD z_1 default)) then
    kn (z_2, (Option.getD z_1 default))
    else kn (z_2, best15)
    else none
    else none
    else kx best15
def spec_l9KeepBest_n3_l7 (F : Nat) (b13 : List Int) (moves16 : List Int) (i12 : Int) (best15 : List Int) : Option (List Int) := loopC (spec_l9KeepBest_n3_s7 F b13 moves16) F (i12, best15) some
theorem spec_l9KeepBest_n3_s7_nat (F : Nat) (b13 : List Int) (moves16 : List Int) : Natural (spec_l9KeepBest_n3_s7 F b13 moves16) := by
  intro Q Q' s kn kx h
  obtain ⟨i12, best15⟩ := s
  simp only [spec_l9KeepBest_n3_s7, cond_bindL, none_bindL]
/-- loop.example/g01194/spec.l9KeepBest -/
def spec_l9KeepBest_n3_c (Q : Type) (F : Nat) (b0 : List Int) (k : (List Int) → Option Q) : Option Q :=
    let z_1 := (spec_l2Moves_p F b0)
    let z_2 : Nat := (List.length (Option.getD z_1 default))
    let z_3 := (spec_l9KeepBest_n3_l7 F b0 (Option.getD z_1 default) (0 : Int) [(0 : Int), (1 : Int)])
    bif (Option.isSome z_1) then
    bif ((Nat.beq z_2 z_2) && (Option.isSome z_3)) then
    k (Option.getD z_3 default)
    else none
    else none
def spec_l9KeepBest_n3_p (F : Nat) (b0 : List Int) : Option (List Int) := spec_l9KeepBest_n3_c _ F b0 some
theorem spec_l9KeepBest_n3_cp (Q : Type) (F : Nat) (b0 : List Int) (k : (List Int) → Option Q) : spec_l9KeepBest_n3_c Q F b0 k = (spec_l9KeepBest_n3_p F b0).bind k := by
  simp only [spec_l9KeepBest_n3_p, spec_l9KeepBest_n3_c, cond_bindL, none_bindL, some_bindL]

/-- loop.example/g01194/spec.l9KeepBest -/
def spec_l9KeepBest_c (Q : Type) (F : Nat) (b0 : List Int) (n1 : Int) (k : (List Int) → Option Q) : Option Q :=
    let z_1 := (spec_l9KeepBest_n1_p F b0)
    let z_2 := (spec_l9KeepBest_n2_p F b0)
    let z_3 := (spec_l9KeepBest_n3_p F b0)
    bif (n1 == (0 : Int)) then
    k [(1 : Int), (1 : Int)]
    else bif (n1 == (1 : Int)) then
    bif (Option.isSome z_1) then
    k (Option.getD z_1 default)
    else none
    else bif (n1 == (2 : Int)) then
    bif (Option.isSome z_2) then
    k (Option.getD z_2 default)
    else none
    else bif (n1 == (3 : Int)) then
    bif (Option.isSome z_3) then
    k (Option.getD z_3 default)
    else none
    else none
def spec_l9KeepBest_p (F : Nat) (b0 : List Int) (n1 : Int) : Option (List Int) := spec_l9KeepBest_c _ F b0 n1 some
theorem spec_l9KeepBest_cp (Q : Type) (F : Nat) (b0 : List Int) (n1 : Int) (k : (List Int) → Option Q) : spec_l9KeepBest_c Q F b0 n1 k = (spec_l9KeepBest_p F b0 n1).bind k := by
  simp only [spec_l9KeepBest_p, spec_l9KeepBest_c, cond_bindL, none_bindL, some_bindL]

/-- loop.example/g01194/spec.l9Keep -/
def spec_l9Keep_c (Q : Type) (F : Nat) (b0 : List Int) (d1 : Int) (n2 : Int) (k : (List Int) → Option Q) : Option Q :=
    let z_1 := (spec_l9Keep_n1_p F b0 d1)
    let z_2 := (spec_l9Keep_n2_p F b0 d1)
    let z_3 := (spec_l9Keep_n3_p F b0 d1)
    bif (n2 == (1 : Int)) then
    bif (Option.isSome z_1) then
    k (Option.getD z_1 default)
    else none
    else bif (n2 == (2 : Int)) then
    bif (Option.isSome z_2) then
    k (Option.getD z_2 default)
    else none
    else bif (n2 == (3 : Int)) then
    bif (Option.isSome z_3) then
    k (Option.getD z_3 default)
    else none
    else none
def spec_l9Keep_p (F : Nat) (b0 : List Int) (d1 : Int) (n2 : Int) : Option (List Int) := spec_l9Keep_c _ F b0 d1 n2 some
theorem spec_l9Keep_cp (Q : Type) (F : Nat) (b0 : List Int) (d1 : Int) (n2 : Int) (k : (List Int) → Option Q) : spec_l9Keep_c Q F b0 d1 n2 k = (spec_l9Keep_p F b0 d1 n2).bind k := by
  simp only [spec_l9Keep_p, spec_l9Keep_c, cond_bindL, none_bindL, some_bindL]

/-- loop 5 of loop.example/g01194/spec.FirstWell -/
def spec_FirstWell_s5 (F : Nat) (n0 : Int) (b10 : List Int) (moves11 : List Int) (best12 : List Int) (Q : Type) : (Int) → ((Int) → Option Q) → ((Bool × Int) → Option Q) → Option Q
  | i9, kn, kx =>
    let z_1 : Bool := (inR i9 (List.length moves11))
    let z_2 : Int := (iget moves11 ((0 : Nat) + (Int.toNat i9)))
    let z_3 := (spec_l9Keep_p F b10 z_2 n0)
    bif (decide (i9 < (((List.length moves11) : Nat) : Int))) then
    bif z_1 then
    bif (Option.isSome z_3) then
    bif ((Option.getD z_3 default) == best12) then
    bif z_1 then
    kx (true, z_2)
    else none
    else kn (IntKind.wrap .i64 (i9 + (1 : Int)))
    else none
    else none
    else kx (false, default)
def spec_FirstWell_l5 (F : Nat) (n0 : Int) (b10 : List Int) (moves11 : List Int) (best12 : List Int) (i9 : Int) : Option (Bool × Int) := loopC (spec_FirstWell_s5 F n0 b10 moves11 best12) F i9 some
theorem spec_FirstWell_s5_nat (F : Nat) (n0 : Int) (b10 : List Int) (moves11 : List Int) (best12 : List Int) : Natural (spec_FirstWell_s5 F n0 b10 moves11 best12) := by
  intro Q Q' s kn kx h
  simp only [spec_FirstWell_s5, cond_bindL, none_bindL]
/-- loop.example/g01194/spec.FirstWell -/
def spec_FirstWell_c (Q : Type) (F : Nat) (b0 : List Int) (n1 : Int) (k : (Int × Bool) → Option Q) : Option Q :=
    let z_1 := (spec_l2Board_p F b0)
    let z_2 := (spec_l2Moves_p F b0)
    let z_3 := (spec_l9KeepBest_p F b0 n1)
    let z_4 : Nat := (List.length (Option.getD z_2 default))
    let z_5 := (spec_FirstWell_l5 F n1 b0 (Option.getD z_2 default) (Option.getD z_3 default) (0 : Int))
    let z_6 := (Option.getD z_5 default)
    bif (Option.isSome z_1) then
    bif (!(Option.getD z_1 default)) then
    k ((0 : Int), false)
    else bif (!(spec_l1In_v n1 (1 : Int) (3 : Int))) then
    k ((0 : Int), false)
    else bif (Option.isSome z_2) then
    bif (Option.isSome z_3) then
    bif ((Nat.beq z_4 z_4) && (Option.isSome z_5)) then
    bif z_6.1 then
    k (z_6.2, true)
    else k ((0 : Int), false)
    else none
    else none
    else none
    else none
def spec_FirstWell_p (F : Nat) (b0 : List Int) (n1 : Int) : Option (Int × Bool) := spec_FirstWell_c _ F b0 n1 some
theorem spec_FirstWell_cp (Q : Type) (F : Nat) (b0 : List Int) (n1 : Int) (k : (Int × Bool) → Option Q) : spec_FirstWell_c Q F b0 n1 k = (spec_FirstWell_p F b0 n1).bind k := by
  simp only [spec_FirstWell_p, spec_FirstWell_c, cond_bindL, none_bindL, some_bindL]

/-- (loop.example/g01194/impl.Board).isOver -/
def impl_Board_isOver_c (Q : Type) (F : Nat) (b0 : List Int) (k : (Bool) → Option Q) : Option Q :=
    let z_1 := (impl_Board_moves_p F b0)
    bif (Option.isSome z_1) then
    k ((((List.length (Option.getD z_1 default)) : Nat) : Int) == (0 : Int))
    else none
def impl_Board_isOver_p (F : Nat) (b0 : List Int) : Option (Bool) := impl_Board_isOver_c _ F b0 some
theorem impl_Board_isOver_cp (Q : Type) (F : Nat) (b0 : List Int) (k : (Bool) → Option Q) : impl_Board_isOver_c Q F b0 k = (impl_Board_isOver_p F b0).bind k := by
  simp only [impl_Board_isOver_p, impl_Board_isOver_c, cond_bindL, none_bindL, some_bindL]

/-- (loop.example/g01194/impl.Board).keepOf -/
def impl_Board_keepOf_n1_c (Q : Type) (b0 : List Int) (direction1 : Int) (k : (List Int) → Option Q) : Option Q :=
    k (impl_whole_v (1 : Int))
def impl_Board_keepOf_n1_v (b0 : List Int) (direction1 : Int) : List Int :=
    (impl_whole_v (1 : Int))
theorem impl_Board_keepOf_n1_cv (Q : Type) (b0 : List Int) (direction1 : Int) (k : (List Int) → Option Q) : impl_Board_keepOf_n1_c Q b0 direction1 k = k (impl_Board_keepOf_n1_v b0 direction1) := by
  simp only [impl_Board_keepOf_n1_c, impl_Board_keepOf_n1_v, app_condL k]

/-- loop 2 of (loop.example/g01194/impl.Board).slides -/
def impl_Board_slides_s2 (F : Nat) (t76 : List Int) (t87 : Int) (Q : Type) : (Int × List Int) → ((Int × List Int) → Option Q) → ((List Int) → Option Q) → Option Q
  | (t98, b9), kn, kx =>
    let z_1 := (impl_Board_slide_p F b9 (iget t76 (Int.toNat t98)))
    bif (decide (t98 < t87)) then
    bif (inR t98 (List.length t76)) then
    bif (Option.isSome z_1) then
    kn ((IntKind.wrap .i64 (t98 + (1 : Int))), (Option.getD z_1 default).1)
    else none
    else none
    else kx b9
def impl_Board_slides_l2 (F : Nat) (t76 : List Int) (t87 : Int) (t98 : Int) (b9 : List Int) : Option (List Int) := loopC (impl_Board_slides_s2 F t76 t87) F (t98, b9) some
theorem impl_Board_slides_s2_nat (F : Nat) (t76 : List Int) (t87 : Int) : Natural (impl_Board_slides_s2 F t76 t87) := by
  intro Q Q' s kn kx h
  obtain ⟨t98, b9⟩ := s
  simp only [impl_Board_slides_s2, cond_bindL, none_bindL]
/-- (loop.example/g01194/impl.Board).slides -/
def impl_Board_slides_c (Q : Type) (F : Nat) (b0 : List Int) (list1 : List Int) (k : (List Int) → Option Q) : Option Q :=
    let z_1 := (impl_Board_slides_l2 F list1 (((List.length list1) : Nat) : Int) (0 : Int) b0)
    bif (Option.isSome z_1) then
    k (Option.getD z_1 default)
    else none
def impl_Board_slides_p (F : Nat) (b0 : List Int) (list1 : List Int) : Option (List Int) := impl_Board_slides_c _ F b0 list1 some
theorem impl_Board_slides_cp (Q : Type) (F : Nat) (b0 : List Int) (list1 : List Int) (k : (List Int) → Option Q) : impl_Board_slides_c Q F b0 list1 k = (impl_Board_slides_p F b0 list1).bind k := by
  simp only [impl_Board_slides_p, impl_Board_slides_c, cond_bindL, none_bindL, some_bindL]

/-- (loop.example/g01194/impl.Board).keep$1 -/
def impl_Board_keep_f1_n1_c (Q : Type) (d0 : Int) (a17 : List Int) (k : (List Int) → Option Q) : Option Q :=
    k (impl_Board_keepOf_n1_v a17 d0)
def impl_Board_keep_f1_n1_v (d0 : Int) (a17 : List Int) : List Int :=
    (impl_Board_keepOf_n1_v a17 d0)
theorem impl_Board_keep_f1_n1_cv (Q : Type) (d0 : Int) (a17 : List Int) (k : (List Int) → Option Q) : impl_Board_keep_f1_n1_c Q d0 a17 k = k (impl_Board_keep_f1_n1_v d0 a17) := by
  simp only [impl_Board_keep_f1_n1_c, impl_Board_keep_f1_n1_v, app_condL k]

/-- loop 3 of (loop.example/g01194/impl.Board).best -/
def impl_Board_best_impl_Board_keep_f1_n1_s3 (F : Nat) (t1415 : Int) (of17 : List Int) (t1321 : List Int) (Q : Type) : (Int × Int × List Int) → ((Int × Int × List Int) → Option Q) → ((Int × List Int) → Option Q) → Option Q
  | (at9, t1516, most20), kn, kx =>
    let z_1 : Int := (iget t1321 ((0 : Nat) + (Int.toNat t1516)))
    let z_2 : Int := (IntKind.wrap .i64 (t1516 + (1 : Int)))
    bif (decide (t1516 < t1415)) then
    bif (inR t1516 (List.length t1321)) then
    bif (decide (at9 < (0 : Int))) then
    kn (z_1, z_2, (impl_Board_keep_f1_n1_v z_1 of17))
    else bif (impl_isLess_v most20 (impl_Board_keep_f1_n1_v z_1 of17)) then
    kn (z_1, z_2, (impl_Board_keep_f1_n1_v z_1 of17))
    else kn (at9, z_2, most20)
    else none
    else kx (at9, most20)
def impl_Board_best_impl_Board_keep_f1_n1_l3 (F : Nat) (t1415 : Int) (of17 : List Int) (t1321 : List Int) (at9 : Int) (t1516 : Int) (most20 : List Int) : Option (Int × List Int) := loopC (impl_Board_best_impl_Board_keep_f1_n1_s3 F t1415 of17 t1321) F (at9, t1516, most20) some
theorem impl_Board_best_impl_Board_keep_f1_n1_s3_nat (F : Nat) (t1415 : Int) (of17 : List Int) (t1321 : List Int) : Natural (impl_Board_best_impl_Board_keep_f1_n1_s3 F t1415 of17 t1321) := by
  intro Q Q' s kn kx h
  obtain ⟨at9, t1516, most20⟩ := s
  simp only [impl_Board_best_impl_Board_keep_f1_n1_s3, cond_bindL, none_bindL]
/-- (loop.example/g01194/impl.Board).best -/
def impl_Board_best_impl_Board_keep_f1_n1_c (Q : Type) (F : Nat) (b0 : List Int) (of7 : List Int) (k : (Int × List Int) → Option Q) : Option Q :=
    let z_1 := (impl_Board_moves_p F b0)
    let z_2 : Nat := (List.length (Option.getD z_1 default))
    let z_3 := (impl_Board_best_impl_Board_keep_f1_n1_l3 F ((z_2 : Nat) : Int) of7 (Option.getD z_1 default) (-1 : Int) (0 : Int) (impl_whole_v (0 : Int)))
    let z_4 := (Option.getD z_3 default)
    bif (Option.isSome z_1) then
    bif ((Nat.beq z_2 z_2) && (Option.isSome z_3)) then
    k (z_4.1, z_4.2)
    else none
    else none
def impl_Board_best_impl_Board_keep_f1_n1_p (F : Nat) (b0 : List Int) (of7 : List Int) : Option (Int × List Int) := impl_Board_best_impl_Board_keep_f1_n1_c _ F b0 of7 some
theorem impl_Board_best_impl_Board_keep_f1_n1_cp (Q : Type) (F : Nat) (b0 : List Int) (of7 : List Int) (k : (Int × List Int) → Option Q) : impl_Board_best_impl_Board_keep_f1_n1_c Q F b0 of7 k = (impl_Board_best_impl_Board_keep_f1_n1_p F b0 of7).bind k := by
  simp only [impl_Board_best_impl_Board_keep_f1_n1_p, impl_Board_best_impl_Board_keep_f1_n1_c, cond_bindL, none_bindL, some_bindL]
end Go.Lv.P
