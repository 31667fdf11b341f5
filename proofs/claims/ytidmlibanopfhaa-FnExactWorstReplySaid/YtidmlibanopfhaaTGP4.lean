/-
Pure functions and what the code of them does, by program; without conditions.
-/
import Derived.Test.YtidmlibanopfhaaTGP3
namespace Go.Lv.P
open Go Go.Lv
set_option linter.unusedVariables false
set_option linter.unusedSimpArgs false
set_option maxRecDepth 100000
/-- loop 5 of loop.example/g01194/spec.l8Refuted -/
def spec_l8Refuted_n2_s5 (F : Nat) (next10 : List Int) (all12 : List (List Int)) (Q : Type) : (Int) → ((Int) → Option Q) → ((Bool × List Int) → Option Q) → Option Q
  | i9, kn, kx =>
    let z_1 : Bool := (inR i9 (List.length all12))
    let z_2 : List Int := (rget all12 ((0 : Nat) + (Int.toNat i9)))
    let z_3 := (spec_l8Put_p next10 z_2)
    let z_4 := (spec_l8Lasts_n1_p F (Option.getD z_3 default))
    bif (decide (i9 < (((List.length all12) : Nat) : Int))) then
    bif z_1 then
    bif (Option.isSome z_3) then
    bif (Option.isSome z_4) then
    bif (!(Option.getD z_4 default)) then
    bif z_1 then
    kx (true, z_2)
    else none
    else kn (IntKind.wrap .i64 (i9 + (1 : Int)))
    else none
    else none
    else none
    else kx (false, default)
def spec_l8Refuted_n2_l5 (F : Nat) (next10 : List Int) (all12 : List (List Int)) (i9 : Int) : Option (Bool × List Int) := loopC (spec_l8Refuted_n2_s5 F next10 all12) F i9 some
theorem spec_l8Refuted_n2_s5_nat (F : Nat) (next10 : List Int) (all12 : List (List Int)) : Natural (spec_l8Refuted_n2_s5 F next10 all12) := by
  intro Q Q' s kn kx h
  simp only [spec_l8Refuted_n2_s5, cond_bindL, none_bindL]
/-- loop.example/g01194/spec.l8Refuted -/
def spec_l8Refuted_n2_c (Q : Type) (F : Nat) (next0 : List Int) (k : (List Int × Bool) → Option Q) : Option Q :=
    let z_1 := (spec_l8Places_p F next0)
    let z_2 : Nat := (List.length (Option.getD z_1 default))
    let z_3 := (spec_l8Refuted_n2_l5 F next0 (Option.getD z_1 default) (0 : Int))
    let z_4 := (Option.getD z_3 default)
    bif (Option.isSome z_1) then
    bif ((Nat.beq z_2 z_2) && (Option.isSome z_3)) then
    bif z_4.1 then
    k (z_4.2, true)
    else k ([(0 : Int), (0 : Int), (0 : Int)], false)
    else none
    else none
def spec_l8Refuted_n2_p (F : Nat) (next0 : List Int) : Option (List Int × Bool) := spec_l8Refuted_n2_c _ F next0 some
theorem spec_l8Refuted_n2_cp (Q : Type) (F : Nat) (next0 : List Int) (k : (List Int × Bool) → Option Q) : spec_l8Refuted_n2_c Q F next0 k = (spec_l8Refuted_n2_p F next0).bind k := by
  simp only [spec_l8Refuted_n2_p, spec_l8Refuted_n2_c, cond_bindL, none_bindL, some_bindL]

/-- loop.example/g01194/spec.l8Safe -/
def spec_l8Safe_n2_c (Q : Type) (F : Nat) (b0 : List Int) (d1 : Int) (k : (Bool) → Option Q) : Option Q :=
    let z_1 := (spec_l2Slide_p F b0 d1)
    let z_2 := (spec_l8Refuted_n2_p F (Option.getD z_1 default).1)
    bif (Option.isSome z_1) then
    bif ((Option.getD z_1 default).1 == b0) then
    k false
    else bif (Option.isSome z_2) then
    k (!(Option.getD z_2 default).2)
    else none
    else none
def spec_l8Safe_n2_p (F : Nat) (b0 : List Int) (d1 : Int) : Option (Bool) := spec_l8Safe_n2_c _ F b0 d1 some
theorem spec_l8Safe_n2_cp (Q : Type) (F : Nat) (b0 : List Int) (d1 : Int) (k : (Bool) → Option Q) : spec_l8Safe_n2_c Q F b0 d1 k = (spec_l8Safe_n2_p F b0 d1).bind k := by
  simp only [spec_l8Safe_n2_p, spec_l8Safe_n2_c, cond_bindL, none_bindL, some_bindL]

/-- loop 4 of loop.example/g01194/spec.l8Lasts -/
def spec_l8Lasts_n2_s4 (F : Nat) (b5 : List Int) (Q : Type) : (Int) → ((Int) → Option Q) → ((Bool) → Option Q) → Option Q
  | d4, kn, kx =>
    let z_1 := (spec_l8Safe_n2_p F b5 d4)
    bif (decide (d4 < (4 : Int))) then
    bif (Option.isSome z_1) then
    bif (Option.getD z_1 default) then
    kx true
    else kn (IntKind.wrap .i64 (d4 + (1 : Int)))
    else none
    else kx false
def spec_l8Lasts_n2_l4 (F : Nat) (b5 : List Int) (d4 : Int) : Option (Bool) := loopC (spec_l8Lasts_n2_s4 F b5) F d4 some
theorem spec_l8Lasts_n2_s4_nat (F : Nat) (b5 : List Int) : Natural (spec_l8Lasts_n2_s4 F b5) := by
  intro Q Q' s kn kx h
  simp only [spec_l8Lasts_n2_s4, cond_bindL, none_bindL]
/-- loop.example/g01194/spec.l8Lasts -/
def spec_l8Lasts_n2_c (Q : Type) (F : Nat) (b0 : List Int) (k : (Bool) → Option Q) : Option Q :=
    let z_1 := (spec_l8Lasts_n2_l4 F b0 (0 : Int))
    bif (Option.isSome z_1) then
    bif (Option.getD z_1 default) then
    k true
    else k false
    else none
def spec_l8Lasts_n2_p (F : Nat) (b0 : List Int) : Option (Bool) := spec_l8Lasts_n2_c _ F b0 some
theorem spec_l8Lasts_n2_cp (Q : Type) (F : Nat) (b0 : List Int) (k : (Bool) → Option Q) : spec_l8Lasts_n2_c Q F b0 k = (spec_l8Lasts_n2_p F b0).bind k := by
  simp only [spec_l8Lasts_n2_p, spec_l8Lasts_n2_c, cond_bindL, none_bindL, some_bindL]

/-- loop 5 of loop.example/g01194/spec.l8Refuted -/
def spec_l8Refuted_n3_s5 (F : Nat) (next10 : List Int) (all12 : List (List Int)) (Q : Type) : (Int) → ((Int) → Option Q) → ((Bool × List Int) → Option Q) → Option Q
  | i9, kn, kx =>
    let z_1 : Bool := (inR i9 (List.length all12))
    let z_2 : List Int := (rget all12 ((0 : Nat) + (Int.toNat i9)))
    let z_3 := (spec_l8Put_p next10 z_2)
    let z_4 := (spec_l8Lasts_n2_p F (Option.getD z_3 default))
    bif (decide (i9 < (((List.length all12) : Nat) : Int))) then
    bif z_1 then
    bif (Option.isSome z_3) then
    bif (Option.isSome z_4) then
    bif (!(Option.getD z_4 default)) then
    bif z_1 then
    kx (true, z_2)
    else none
    else kn (IntKind.wrap .i64 (i9 + (1 : Int)))
    else none
    else none
    else none
    else kx (false, default)
def spec_l8Refuted_n3_l5 (F : Nat) (next10 : List Int) (all12 : List (List Int)) (i9 : Int) : Option (Bool × List Int) := loopC (spec_l8Refuted_n3_s5 F next10 all12) F i9 some
theorem spec_l8Refuted_n3_s5_nat (F : Nat) (next10 : List Int) (all12 : List (List Int)) : Natural (spec_l8Refuted_n3_s5 F next10 all12) := by
  intro Q Q' s kn kx h
  simp only [spec_l8Refuted_n3_s5, cond_bindL, none_bindL]
/-- loop.example/g01194/spec.l8Refuted -/
def spec_l8Refuted_n3_c (Q : Type) (F : Nat) (next0 : List Int) (k : (List Int × Bool) → Option Q) : Option Q :=
    let z_1 := (spec_l8Places_p F next0)
    let z_2 : Nat := (List.length (Option.getD z_1 default))
    let z_3 := (spec_l8Refuted_n3_l5 F next0 (Option.getD z_1 default) (0 : Int))
    let z_4 := (Option.getD z_3 default)
    bif (Option.isSome z_1) then
    bif ((Nat.beq z_2 z_2) && (Option.isSome z_3)) then
    bif z_4.1 then
    k (z_4.2, true)
    else k ([(0 : Int), (0 : Int), (0 : Int)], false)
    else none
    else none
def spec_l8Refuted_n3_p (F : Nat) (next0 : List Int) : Option (List Int × Bool) := spec_l8Refuted_n3_c _ F next0 some
theorem spec_l8Refuted_n3_cp (Q : Type) (F : Nat) (next0 : List Int) (k : (List Int × Bool) → Option Q) : spec_l8Refuted_n3_c Q F next0 k = (spec_l8Refuted_n3_p F next0).bind k := by
  simp only [spec_l8Refuted_n3_p, spec_l8Refuted_n3_c, cond_bindL, none_bindL, some_bindL]

/-- loop.example/g01194/spec.l8Safe -/
def spec_l8Safe_n3_c (Q : Type) (F : Nat) (b0 : List Int) (d1 : Int) (k : (Bool) → Option Q) : Option Q :=
    let z_1 := (spec_l2Slide_p F b0 d1)
    let z_2 := (spec_l8Refuted_n3_p F (Option.getD z_1 default).1)
    bif (Option.isSome z_1) then
    bif ((Option.getD z_1 default).1 == b0) then
    k false
    else bif (Option.isSome z_2) then
    k (!(Option.getD z_2 default).2)
    else none
    else none
def spec_l8Safe_n3_p (F : Nat) (b0 : List Int) (d1 : Int) : Option (Bool) := spec_l8Safe_n3_c _ F b0 d1 some
theorem spec_l8Safe_n3_cp (Q : Type) (F : Nat) (b0 : List Int) (d1 : Int) (k : (Bool) → Option Q) : spec_l8Safe_n3_c Q F b0 d1 k = (spec_l8Safe_n3_p F b0 d1).bind k := by
  simp only [spec_l8Safe_n3_p, spec_l8Safe_n3_c, cond_bindL, none_bindL, some_bindL]

/-- loop 4 of loop.example/g01194/spec.l8Lasts -/
def spec_l8Lasts_n3_s4 (F : Nat) (b5 : List Int) (Q : Type) : (Int) → ((Int) → Option Q) → ((Bool) → Option Q) → Option Q
  | d4, kn, kx =>
    let z_1 := (spec_l8Safe_n3_p F b5 d4)
    bif (decide (d4 < (4 : Int))) then
    bif (Option.isSome z_1) then
    bif (Option.getD z_1 default) then
    kx true
    else kn (IntKind.wrap .i64 (d4 + (1 : Int)))
    else none
    else kx false
def spec_l8Lasts_n3_l4 (F : Nat) (b5 : List Int) (d4 : Int) : Option (Bool) := loopC (spec_l8Lasts_n3_s4 F b5) F d4 some
theorem spec_l8Lasts_n3_s4_nat (F : Nat) (b5 : List Int) : Natural (spec_l8Lasts_n3_s4 F b5) := by
  intro Q Q' s kn kx h
  simp only [spec_l8Lasts_n3_s4, cond_bindL, none_bindL]
/-- loop.example/g01194/spec.l8Lasts -/
def spec_l8Lasts_n3_c (Q : Type) (F : Nat) (b0 : List Int) (k : (Bool) → Option Q) : Option Q :=
    let z_1 := (spec_l8Lasts_n3_l4 F b0 (0 : Int))
    bif (Option.isSome z_1) then
    bif (Option.getD z_1 default) then
    k true
    else k false
    else none
def spec_l8Lasts_n3_p (F : Nat) (b0 : List Int) : Option (Bool) := spec_l8Lasts_n3_c _ F b0 some
theorem spec_l8Lasts_n3_cp (Q : Type) (F : Nat) (b0 : List Int) (k : (Bool) → Option Q) : spec_l8Lasts_n3_c Q F b0 k = (spec_l8Lasts_n3_p F b0).bind k := by
  simp only [spec_l8Lasts_n3_p, spec_l8Lasts_n3_c, cond_bindL, none_bindL, some_bindL]

/-- loop.example/g01194/spec.l8Lasts -/
def spec_l8Lasts_c (Q : Type) (F : Nat) (b0 : List Int) (n1 : Int) (k : (Bool) → Option Q) : Option Q :=
    let z_1 := (spec_l8Lasts_n1_p F b0)
    let z_2 := (spec_l8Lasts_n2_p F b0)
    let z_3 := (spec_l8Lasts_n3_p F b0)
    bif (n1 == (0 : Int)) then
    k true
    else bif (n1 == (1 : Int)) then
    bif (Option.isSome z_1) then
    k (Option.getD z_1 default)
    else none
    else bif (n1 == (2 : Int)) then
    bif (Option.isSome z_2) then
    k (Option.getD z_2 default)
    else none
    else bif (n1 == (3 : Int)) then
    bif (Option.isSome z_3) then
    k (Option.getD z_3 default)
    else none
    else none
def spec_l8Lasts_p (F : Nat) (b0 : List Int) (n1 : Int) : Option (Bool) := spec_l8Lasts_c _ F b0 n1 some
theorem spec_l8Lasts_cp (Q : Type) (F : Nat) (b0 : List Int) (n1 : Int) (k : (Bool) → Option Q) : spec_l8Lasts_c Q F b0 n1 k = (spec_l8Lasts_p F b0 n1).bind k := by
  simp only [spec_l8Lasts_p, spec_l8Lasts_c, cond_bindL, none_bindL, some_bindL]

/-- loop.example/g01194/spec.Lasts -/
def spec_Lasts_c (Q : Type) (F : Nat) (b0 : List Int) (n1 : Int) (k : (Bool × Bool) → Option Q) : Option Q :=
    let z_1 := (spec_l2Board_p F b0)
    let z_2 := (spec_l8Lasts_p F b0 n1)
    bif (Option.isSome z_1) then
    bif (!(Option.getD z_1 default)) then
    k (false, false)
    else bif (!(spec_l1In_v n1 (0 : Int) (3 : Int))) then
    k (false, false)
    else bif (Option.isSome z_2) then
    k ((Option.getD z_2 default), true)
    else none
    else none
def spec_Lasts_p (F : Nat) (b0 : List Int) (n1 : Int) : Option (Bool × Bool) := spec_Lasts_c _ F b0 n1 some
theorem spec_Lasts_cp (Q : Type) (F : Nat) (b0 : List Int) (n1 : Int) (k : (Bool × Bool) → Option Q) : spec_Lasts_c Q F b0 n1 k = (spec_Lasts_p F b0 n1).bind k := by
  simp only [spec_Lasts_p, spec_Lasts_c, cond_bindL, none_bindL, some_bindL]

/-- (loop.example/g01194/impl.Board).lasts -/
def impl_Board_lasts_n0_c (Q : Type) (b0 : List Int) (k : (Unit) → Option Q) : Option Q :=
    k ()
def impl_Board_lasts_n0_v (b0 : List Int) : Unit :=
    ()
theorem impl_Board_lasts_n0_cv (Q : Type) (b0 : List Int) (k : (Unit) → Option Q) : impl_Board_lasts_n0_c Q b0 k = k (impl_Board_lasts_n0_v b0) := by
  simp only [impl_Board_lasts_n0_c, impl_Board_lasts_n0_v, app_condL k]

/-- (loop.example/g01194/impl.Board).isOver -/
def impl_Board_isOver_c (Q : Type) (F : Nat) (b0 : List Int) (k : (Bool) → Option Q) : Option Q :=
    let z_1 := (impl_Board_moves_p F b0)
    bif (Option.isSome z_1) then
    k ((((List.length (Option.getD z_1 default)) : Nat) : Int) == (0 : Int))
    else none
def impl_Board_isOver_p (F : Nat) (b0 : List Int) : Option (Bool) := impl_Board_isOver_c _ F b0 some
theorem impl_Board_isOver_cp (Q : Type) (F : Nat) (b0 : List Int) (k : (Bool) → Option Q) : impl_Board_isOver_c Q F b0 k = (impl_Board_isOver_p F b0).bind k := by
  simp only [impl_Board_isOver_p, impl_Board_isOver_c, cond_bindL, none_bindL, some_bindL]

/-- (loop.example/g01194/impl.Board).lasts -/
def impl_Board_lasts_n1_c (Q : Type) (F : Nat) (b0 : List Int) (k : (Bool) → Option Q) : Option Q :=
    let z_1 := (impl_Board_isOver_p F b0)
    bif (Option.isSome z_1) then
    k (!(Option.getD z_1 default))
    else none
def impl_Board_lasts_n1_p (F : Nat) (b0 : List Int) : Option (Bool) := impl_Board_lasts_n1_c _ F b0 some
theorem impl_Board_lasts_n1_cp (Q : Type) (F : Nat) (b0 : List Int) (k : (Bool) → Option Q) : impl_Board_lasts_n1_c Q F b0 k = (impl_Board_lasts_n1_p F b0).bind k := by
  simp only [impl_Board_lasts_n1_p, impl_Board_lasts_n1_c, cond_bindL, none_bindL, some_bindL]

/-- loop 2 of (loop.example/g01194/impl.Board).slides -/
def impl_Board_slides_s2 (F : Nat) (t76 : List Int) (t87 : Int) (Q : Type) : (Int × List Int) → ((Int × List Int) → Option Q) → ((List Int) → Option Q) → Option Q
  | (t98, b9), kn, kx =>
    let z_1 := (impl_Board_slide_p F b9 (iget t76 (Int.toNat t98)))
    bif (decide (t98 < t87)) then
    bif (inR t98 (List.length t76)) then
    bif (Option.isSome z_1) then
    kn ((IntKind.wrap .i64 (t98 + (1 : Int))), (Option.getD z_1 default).1)
    else none
    else none
    else kx b9
def impl_Board_slides_l2 (F : Nat) (t76 : List Int) (t87 : Int) (t98 : Int) (b9 : List Int) : Option (List Int) := loopC (impl_Board_slides_s2 F t76 t87) F (t98, b9) some
theorem impl_Board_slides_s2_nat (F : Nat) (t76 : List Int) (t87 : Int) : Natural (impl_Board_slides_s2 F t76 t87) := by
  intro Q Q' s kn kx h
  obtain ⟨t98, b9⟩ := s
  simp only [impl_Board_slides_s2, cond_bindL, none_bindL]
/-- (loop.example/g01194/impl.Board).slides -/
def impl_Board_slides_c (Q : Type) (F : Nat) (b0 : List Int) (list1 : List Int) (k : (List Int) → Option Q) : Option Q :=
    let z_1 := (impl_Board_slides_l2 F list1 (((List.length list1) : Nat) : Int) (0 : Int) b0)
    bif (Option.isSome z_1) then
    k (Option.getD z_1 default)
    else none
def impl_Board_slides_p (F : Nat) (b0 : List Int) (list1 : List Int) : Option (List Int) := impl_Board_slides_c _ F b0 list1 some
theorem impl_Board_slides_cp (Q : Type) (F : Nat) (b0 : List Int) (list1 : List Int) (k : (List Int) → Option Q) : impl_Board_slides_c Q F b0 list1 k = (impl_Board_slides_p F b0 list1).bind k := by
  simp only [impl_Board_slides_p, impl_Board_slides_c, cond_bindL, none_bindL, some_bindL]

/-- loop 2 of (loop.example/g01194/impl.Board).refuted -/
def impl_Board_refuted_n1_s2 (F : Nat) (t109 : Int) (b11 : List Int) (t913 : List (List Int)) (Q : Type) : (Int) → ((Int) → Option Q) → ((Bool × List Int) → Option Q) → Option Q
  | t1110, kn, kx =>
    let z_1 : List Int := (rget t913 ((0 : Nat) + (Int.toNat t1110)))
    let z_2 := (impl_Board_placed_p b11 z_1)
    let z_3 := (impl_Board_lasts_n1_p F (Option.getD z_2 default))
    bif (decide (t1110 < t109)) then
    bif (inR t1110 (List.length t913)) then
    bif (Option.isSome z_2) then
    bif (Option.isSome z_3) then
    bif (!(Option.getD z_3 default)) then
    kx (true, z_1)
    else kn (IntKind.wrap .i64 (t1110 + (1 : Int)))
    else none
    else none
    else none
    else kx (false, default)
def impl_Board_refuted_n1_l2 (F : Nat) (t109 : Int) (b11 : List Int) (t913 : List (List Int)) (t1110 : Int) : Option (Bool × List Int) := loopC (impl_Board_refuted_n1_s2 F t109 b11 t913) F t1110 some
theorem impl_Board_refuted_n1_s2_nat (F : Nat) (t109 : Int) (b11 : List Int) (t913 : List (List Int)) : Natural (impl_Board_refuted_n1_s2 F t109 b11 t913) := by
  intro Q Q' s kn kx h
  simp only [impl_Board_refuted_n1_s2, cond_bindL, none_bindL]
/-- (loop.example/g01194/impl.Board).refuted -/
def impl_Board_refuted_n1_c (Q : Type) (F : Nat) (b0 : List Int) (k : (List Int × Bool) → Option Q) : Option Q :=
    let z_1 := (impl_Board_placements_p F b0)
    let z_2 : Nat := (List.length (Option.getD z_1 default))
    let z_3 := (impl_Board_refuted_n1_l2 F ((z_2 : Nat) : Int) b0 (Option.getD z_1 default) (0 : Int))
    let z_4 := (Option.getD z_3 default)
    bif (Option.isSome z_1) then
    bif ((Nat.beq z_2 z_2) && (Option.isSome z_3)) then
    bif z_4.1 then
    k (z_4.2, true)
    else k ([(0 : Int), (0 : Int), (0 : Int)], false)
    else none
    else none
def impl_Board_refuted_n1_p (F : Nat) (b0 : List Int) : Option (List Int × Bool) := impl_Board_refuted_n1_c _ F b0 some
theorem impl_Board_refuted_n1_cp (Q : Type) (F : Nat) (b0 : List Int) (k : (List Int × Bool) → Option Q) : impl_Board_refuted_n1_c Q F b0 k = (impl_Board_refuted_n1_p F b0).bind k := by
  simp only [impl_Board_refuted_n1_p, impl_Board_refuted_n1_c, cond_bindL, none_bindL, some_bindL]

/-- (loop.example/g01194/impl.Board).isSafe -/
def impl_Board_isSafe_n2_c (Q : Type) (F : Nat) (b0 : List Int) (direction1 : Int) (k : (Bool) → Option Q) : Option Q :=
    let z_1 := (impl_Board_slides_p F b0 [direction1])
    let z_2 := (impl_Board_refuted_n1_p F (Option.getD z_1 default))
    bif (Option.isSome z_1) then
    bif (Option.isSome z_2) then
    k (!(Option.getD z_2 default).2)
    else none
    else none
def impl_Board_isSafe_n2_p (F : Nat) (b0 : List Int) (direction1 : Int) : Option (Bool) := impl_Board_isSafe_n2_c _ F b0 direction1 some
theorem impl_Board_isSafe_n2_cp (Q : Type) (F : Nat) (b0 : List Int) (direction1 : Int) (k : (Bool) → Option Q) : impl_Board_isSafe_n2_c Q F b0 direction1 k = (impl_Board_isSafe_n2_p F b0 direction1).bind k := by
  simp only [impl_Board_isSafe_n2_p, impl_Board_isSafe_n2_c, cond_bindL, none_bindL, some_bindL]

/-- (loop.example/g01194/impl.Board).lasts$1 -/
def impl_Board_lasts_f1_n2_c (Q : Type) (F : Nat) (d0 : Int) (a17 : List Int) (k : (Bool) → Option Q) : Option Q :=
    let z_1 := (impl_Board_isSafe_n2_p F a17 d0)
    bif (Option.isSome z_1) then
    k (Option.getD z_1 default)
    else none
def impl_Board_lasts_f1_n2_p (F : Nat) (d0 : Int) (a17 : List Int) : Option (Bool) := impl_Board_lasts_f1_n2_c _ F d0 a17 some
theorem impl_Board_lasts_f1_n2_cp (Q : Type) (F : Nat) (d0 : Int) (a17 : List Int) (k : (Bool) → Option Q) : impl_Board_lasts_f1_n2_c Q F d0 a17 k = (impl_Board_lasts_f1_n2_p F d0 a17).bind k := by
  simp only [impl_Board_lasts_f1_n2_p, impl_Board_lasts_f1_n2_c, cond_bindL, none_bindL, some_bindL]
end Go.Lv.P
