/-
Pure functions and what the code of them does, by program; without conditions.
-/
import Derived.Test.YtgdokdkcbgkekafGfP4
namespace Go.Lv.P
open Go Go.Lv
set_option linter.unusedVariables false
set_option linter.unusedSimpArgs false
set_option maxRecDepth 100000
/-- loop 4 of loop.example/g01194/spec.l8Lasts -/
def spec_l8Lasts_n3_s4 (F : Nat) (b5 : List Int) (Q : Type) : (Int) → ((Int) → Option Q) → ((Bool) → Option Q) → Option Q
  | d4, kn, kx =>
    let z_1 := (spec_l8Safe_n3_p F b5 d4)
    bif (decide (d4 < (4 : Int))) then
    bif (Option.isSome z_1) then
    bif (Option.getD z_1 default) then
    kx true
    else kn (IntKind.wrap .i64 (d4 + (1 : Int)))
    else none
    else kx false
def spec_l8Lasts_n3_l4 (F : Nat) (b5 : List Int) (d4 : Int) : Option (Bool) := loopC (spec_l8Lasts_n3_s4 F b5) F d4 some
theorem spec_l8Lasts_n3_s4_nat (F : Nat) (b5 : List Int) : Natural (spec_l8Lasts_n3_s4 F b5) := by
  intro Q Q' s kn kx h
  simp only [spec_l8Lasts_n3_s4, cond_bindL, none_bindL]
/-- loop.example/g01194/spec.l8Lasts -/
def spec_l8Lasts_n3_c (Q : Type) (F : Nat) (b0 : List Int) (k : (Bool) → Option Q) : Option Q :=
    let z_1 := (spec_l8Lasts_n3_l4 F b0 (0 : Int))
    bif (Option.isSome z_1) then
    bif (Option.getD z_1 default) then
    k true
    else k false
    else none
def spec_l8Lasts_n3_p (F : Nat) (b0 : List Int) : Option (Bool) := spec_l8Lasts_n3_c _ F b0 some
theorem spec_l8Lasts_n3_cp (Q : Type) (F : Nat) (b0 : List Int) (k : (Bool) → Option Q) : spec_l8Lasts_n3_c Q F b0 k = (spec_l8Lasts_n3_p F b0).bind k := by
  simp only [spec_l8Lasts_n3_p, spec_l8Lasts_n3_c, cond_bindL, none_bindL, some_bindL]

/-- loop.example/g01194/spec.l8Lasts -/
def spec_l8Lasts_c (Q : Type) (F : Nat) (b0 : List Int) (n1 : Int) (k : (Bool) → Option Q) : Option Q :=
    let z_1 := (spec_l8Lasts_n1_p F b0)
    let z_2 := (spec_l8Lasts_n2_p F b0)
    let z_3 := (spec_l8Lasts_n3_p F b0)
    bif (n1 == (0 : Int)) then
    k true
    else bif (n1 == (1 : Int)) then
    bif (Option.isSome z_1) then
    k (Option.getD z_1 default)
    else none
    else bif (n1 == (2 : Int)) then
    bif (Option.isSome z_2) then
    k (Option.getD z_2 default)
    else none
    else bif (n1 == (3 : Int)) then
    bif (Option.isSome z_3) then
    k (Option.getD z_3 default)
    else none
    else none
def spec_l8Lasts_p (F : Nat) (b0 : List Int) (n1 : Int) : Option (Bool) := spec_l8Lasts_c _ F b0 n1 some
theorem spec_l8Lasts_cp (Q : Type) (F : Nat) (b0 : List Int) (n1 : Int) (k : (Bool) → Option Q) : spec_l8Lasts_c Q F b0 n1 k = (spec_l8Lasts_p F b0 n1).bind k := by
  simp only [spec_l8Lasts_p, spec_l8Lasts_c, cond_bindL, none_bindL, some_bindL]

/-- loop.example/g01194/spec.Lasts -/
def spec_Lasts_c (Q : Type) (F : Nat) (b0 : List Int) (n1 : Int) (k : (Bool × Bool) → Option Q) : Option Q :=
    let z_1 := (spec_l2Board_p F b0)
    let z_2 := (spec_l8Lasts_p F b0 n1)
    bif (Option.isSome z_1) then
    bif (!(Option.getD z_1 default)) then
    k (false, false)
    else bif (!(spec_l1In_v n1 (0 : Int) (3 : Int))) then
    k (false, false)
    else bif (Option.isSome z_2) then
    k ((Option.getD z_2 default), true)
    else none
    else none
def spec_Lasts_p (F : Nat) (b0 : List Int) (n1 : Int) : Option (Bool × Bool) := spec_Lasts_c _ F b0 n1 some
theorem spec_Lasts_cp (Q : Type) (F : Nat) (b0 : List Int) (n1 : Int) (k : (Bool × Bool) → Option Q) : spec_Lasts_c Q F b0 n1 k = (spec_Lasts_p F b0 n1).bind k := by
  simp only [spec_Lasts_p, spec_Lasts_c, cond_bindL, none_bindL, some_bindL]

/-- loop 4 of loop.example/g01194/impl.LastsHow -/
def impl_LastsHow_s4 (F : Nat) (b4 : List Int) (Q : Type) : (Int) → ((Int) → Option Q) → ((Int) → Option Q) → Option Q
  | n3, kn, kx =>
    let z_1 : Int := (IntKind.wrap .i64 (n3 + (1 : Int)))
    let z_2 := (impl_Board_lasts_p F b4 z_1)
    bif (decide (n3 < (3 : Int))) then
    bif (Option.isSome z_2) then
    bif (Option.getD z_2 default) then
    kn z_1
    else kx n3
    else none
    else kx n3
def impl_LastsHow_l4 (F : Nat) (b4 : List Int) (n3 : Int) : Option (Int) := loopC (impl_LastsHow_s4 F b4) F n3 some
theorem impl_LastsHow_s4_nat (F : Nat) (b4 : List Int) : Natural (impl_LastsHow_s4 F b4) := by
  intro Q Q' s kn kx h
  simp only [impl_LastsHow_s4, cond_bindL, none_bindL]
/-- loop.example/g01194/impl.LastsHow -/
def impl_LastsHow_c (Q : Type) (F : Nat) (b0 : List Int) (k : (Int × Bool) → Option Q) : Option Q :=
    let z_1 := (impl_IsBoard_p F b0)
    let z_2 := (impl_LastsHow_l4 F b0 (0 : Int))
    bif (Option.isSome z_1) then
    bif (!(Option.getD z_1 default)) then
    k ((0 : Int), false)
    else bif (Option.isSome z_2) then
    k ((Option.getD z_2 default), true)
    else none
    else none
def impl_LastsHow_p (F : Nat) (b0 : List Int) : Option (Int × Bool) := impl_LastsHow_c _ F b0 some
theorem impl_LastsHow_cp (Q : Type) (F : Nat) (b0 : List Int) (k : (Int × Bool) → Option Q) : impl_LastsHow_c Q F b0 k = (impl_LastsHow_p F b0).bind k := by
  simp only [impl_LastsHow_p, impl_LastsHow_c, cond_bindL, none_bindL, some_bindL]

/-- loop 4 of loop.example/g01194/spec.LastsHow -/
def spec_LastsHow_s4 (F : Nat) (b4 : List Int) (Q : Type) : (Int) → ((Int) → Option Q) → ((Int) → Option Q) → Option Q
  | n3, kn, kx =>
    let z_1 : Int := (IntKind.wrap .i64 (n3 + (1 : Int)))
    let z_2 := (spec_l8Lasts_p F b4 z_1)
    bif (decide (n3 < (3 : Int))) then
    bif (Option.isSome z_2) then
    bif (Option.getD z_2 default) then
    kn z_1
    else kx n3
    else none
    else kx n3
def spec_LastsHow_l4 (F : Nat) (b4 : List Int) (n3 : Int) : Option (Int) := loopC (spec_LastsHow_s4 F b4) F n3 some
theorem spec_LastsHow_s4_nat (F : Nat) (b4 : List Int) : Natural (spec_LastsHow_s4 F b4) := by
  intro Q Q' s kn kx h
  simp only [spec_LastsHow_s4, cond_bindL, none_bindL]
/-- loop.example/g01194/spec.LastsHow -/
def spec_LastsHow_c (Q : Type) (F : Nat) (b0 : List Int) (k : (Int × Bool) → Option Q) : Option Q :=
    let z_1 := (spec_l2Board_p F b0)
    let z_2 := (spec_LastsHow_l4 F b0 (0 : Int))
    bif (Option.isSome z_1) then
    bif (!(Option.getD z_1 default)) then
    k ((0 : Int), false)
    else bif (Option.isSome z_2) then
    k ((Option.getD z_2 default), true)
    else none
    else none
def spec_LastsHow_p (F : Nat) (b0 : List Int) : Option (Int × Bool) := spec_LastsHow_c _ F b0 some
theorem spec_LastsHow_cp (Q : Type) (F : Nat) (b0 : List Int) (k : (Int × Bool) → Option Q) : spec_LastsHow_c Q F b0 k = (spec_LastsHow_p F b0).bind k := by
  simp only [spec_LastsHow_p, spec_LastsHow_c, cond_bindL, none_bindL, some_bindL]

/-- loop 2 of (loop.example/g01194/impl.Board).refuted -/
def impl_Board_refuted_n0_s2 (F : Nat) (t109 : Int) (b11 : List Int) (t913 : List (List Int)) (Q : Type) : (Int) → ((Int) → Option Q) → ((Unit) → Option Q) → Option Q
  | t1110, kn, kx =>
    bif (decide (t1110 < t109)) then
    bif (inR t1110 (List.length t913)) then
    bif (Option.isSome (impl_Board_placed_p b11 (rget t913 ((0 : Nat) + (Int.toNat t1110))))) then
    kn (IntKind.wrap .i64 (t1110 + (1 : Int)))
    else none
    else none
    else kx ()
def impl_Board_refuted_n0_l2 (F : Nat) (t109 : Int) (b11 : List Int) (t913 : List (List Int)) (t1110 : Int) : Option (Unit) := loopC (impl_Board_refuted_n0_s2 F t109 b11 t913) F t1110 some
theorem impl_Board_refuted_n0_s2_nat (F : Nat) (t109 : Int) (b11 : List Int) (t913 : List (List Int)) : Natural (impl_Board_refuted_n0_s2 F t109 b11 t913) := by
  intro Q Q' s kn kx h
  simp only [impl_Board_refuted_n0_s2, cond_bindL, none_bindL]
/-- (loop.example/g01194/impl.Board).refuted -/
def impl_Board_refuted_n0_c (Q : Type) (F : Nat) (b0 : List Int) (k : (Unit) → Option Q) : Option Q :=
    let z_1 := (impl_Board_placements_p F b0)
    let z_2 : Nat := (List.length (Option.getD z_1 default))
    bif (Option.isSome z_1) then
    bif ((Nat.beq z_2 z_2) && (Option.isSome (impl_Board_refuted_n0_l2 F ((z_2 : Nat) : Int) b0 (Option.getD z_1 default) (0 : Int)))) then
    k ()
    else none
    else none
def impl_Board_refuted_n0_p (F : Nat) (b0 : List Int) : Option (Unit) := impl_Board_refuted_n0_c _ F b0 some
theorem impl_Board_refuted_n0_cp (Q : Type) (F : Nat) (b0 : List Int) (k : (Unit) → Option Q) : impl_Board_refuted_n0_c Q F b0 k = (impl_Board_refuted_n0_p F b0).bind k := by
  simp only [impl_Board_refuted_n0_p, impl_Board_refuted_n0_c, cond_bindL, none_bindL, some_bindL]

/-- (loop.example/g01194/impl.Board).isSafe -/
def impl_Board_isSafe_n1_c (Q : Type) (F : Nat) (b0 : List Int) (direction1 : Int) (k : (Unit) → Option Q) : Option Q :=
    let z_1 := (impl_Board_slides_p F b0 [direction1])
    bif (Option.isSome z_1) then
    bif (Option.isSome (impl_Board_refuted_n0_p F (Option.getD z_1 default))) then
    k ()
    else none
    else none
def impl_Board_isSafe_n1_p (F : Nat) (b0 : List Int) (direction1 : Int) : Option (Unit) := impl_Board_isSafe_n1_c _ F b0 direction1 some
theorem impl_Board_isSafe_n1_cp (Q : Type) (F : Nat) (b0 : List Int) (direction1 : Int) (k : (Unit) → Option Q) : impl_Board_isSafe_n1_c Q F b0 direction1 k = (impl_Board_isSafe_n1_p F b0 direction1).bind k := by
  simp only [impl_Board_isSafe_n1_p, impl_Board_isSafe_n1_c, cond_bindL, none_bindL, some_bindL]

/-- (loop.example/g01194/impl.Board).isSafe -/
def impl_Board_isSafe_c (Q : Type) (F : Nat) (b0 : List Int) (direction1 : Int) (n2 : Int) (k : (Bool) → Option Q) : Option Q :=
    let z_1 := (impl_Board_isSafe_n2_p F b0 direction1)
    let z_2 := (impl_Board_isSafe_n3_p F b0 direction1)
    bif (n2 == (1 : Int)) then
    bif (Option.isSome (impl_Board_isSafe_n1_p F b0 direction1)) then
    k true
    else none
    else bif (n2 == (2 : Int)) then
    bif (Option.isSome z_1) then
    k (Option.getD z_1 default)
    else none
    else bif (n2 == (3 : Int)) then
    bif (Option.isSome z_2) then
    k (Option.getD z_2 default)
    else none
    else none
def impl_Board_isSafe_p (F : Nat) (b0 : List Int) (direction1 : Int) (n2 : Int) : Option (Bool) := impl_Board_isSafe_c _ F b0 direction1 n2 some
theorem impl_Board_isSafe_cp (Q : Type) (F : Nat) (b0 : List Int) (direction1 : Int) (n2 : Int) (k : (Bool) → Option Q) : impl_Board_isSafe_c Q F b0 direction1 n2 k = (impl_Board_isSafe_p F b0 direction1 n2).bind k := by
  simp only [impl_Board_isSafe_p, impl_Board_isSafe_c, cond_bindL, none_bindL, some_bindL]

/-- loop.example/g01194/impl.SafeMoves$1 -/
def impl_SafeMoves_f1_c (Q : Type) (F : Nat) (d0 : Int) (a17 : List Int) (a28 : List Int) (k : (Bool) → Option Q) : Option Q :=
    let z_1 := (impl_Board_isSafe_p F a17 d0 (iget a28 0))
    bif (Option.isSome z_1) then
    k (!(Option.getD z_1 default))
    else none
def impl_SafeMoves_f1_p (F : Nat) (d0 : Int) (a17 : List Int) (a28 : List Int) : Option (Bool) := impl_SafeMoves_f1_c _ F d0 a17 a28 some
theorem impl_SafeMoves_f1_cp (Q : Type) (F : Nat) (d0 : Int) (a17 : List Int) (a28 : List Int) (k : (Bool) → Option Q) : impl_SafeMoves_f1_c Q F d0 a17 a28 k = (impl_SafeMoves_f1_p F d0 a17 a28).bind k := by
  simp only [impl_SafeMoves_f1_p, impl_SafeMoves_f1_c, cond_bindL, none_bindL, some_bindL]

/-- loop 2 of slices.IndexFunc[[]int,int] -/
def slices_IndexFunc_intint_impl_SafeMoves_f1_s2 (F : Nat) (s0 : List Int) (t77 : Int) (f9 : List Int) (f10 : List Int) (Q : Type) : (Int) → ((Int) → Option Q) → ((Bool × Int) → Option Q) → Option Q
  | t88, kn, kx =>
    let z_1 := (impl_SafeMoves_f1_p F (iget s0 (Int.toNat t88)) f9 f10)
    bif (decide (t88 < t77)) then
    bif (inR t88 (List.length s0)) then
    bif (Option.isSome z_1) then
    bif (Option.getD z_1 default) then
    kx (true, t88)
    else kn (IntKind.wrap .i64 (t88 + (1 : Int)))
    else none
    else none
    else kx (false, default)
def slices_IndexFunc_intint_impl_SafeMoves_f1_l2 (F : Nat) (s0 : List Int) (t77 : Int) (f9 : List Int) (f10 : List Int) (t88 : Int) : Option (Bool × Int) := loopC (slices_IndexFunc_intint_impl_SafeMoves_f1_s2 F s0 t77 f9 f10) F t88 some
theorem slices_IndexFunc_intint_impl_SafeMoves_f1_s2_nat (F : Nat) (s0 : List Int) (t77 : Int) (f9 : List Int) (f10 : List Int) : Natural (slices_IndexFunc_intint_impl_SafeMoves_f1_s2 F s0 t77 f9 f10) := by
  intro Q Q' s kn kx h
  simp only [slices_IndexFunc_intint_impl_SafeMoves_f1_s2, cond_bindL, none_bindL]
/-- slices.IndexFunc[[]int,int] -/
def slices_IndexFunc_intint_impl_SafeMoves_f1_c (Q : Type) (F : Nat) (s0 : List Int) (f7 : List Int) (f8 : List Int) (k : (Int) → Option Q) : Option Q :=
    let z_1 := (slices_IndexFunc_intint_impl_SafeMoves_f1_l2 F s0 (((List.length s0) : Nat) : Int) f7 f8 (0 : Int))
    let z_2 := (Option.getD z_1 default)
    bif (Option.isSome z_1) then
    bif z_2.1 then
    k z_2.2
    else k (-1 : Int)
    else none
def slices_IndexFunc_intint_impl_SafeMoves_f1_p (F : Nat) (s0 : List Int) (f7 : List Int) (f8 : List Int) : Option (Int) := slices_IndexFunc_intint_impl_SafeMoves_f1_c _ F s0 f7 f8 some
theorem slices_IndexFunc_intint_impl_SafeMoves_f1_cp (Q : Type) (F : Nat) (s0 : List Int) (f7 : List Int) (f8 : List Int) (k : (Int) → Option Q) : slices_IndexFunc_intint_impl_SafeMoves_f1_c Q F s0 f7 f8 k = (slices_IndexFunc_intint_impl_SafeMoves_f1_p F s0 f7 f8).bind k := by
  simp only [slices_IndexFunc_intint_impl_SafeMoves_f1_p, slices_IndexFunc_intint_impl_SafeMoves_f1_c, cond_bindL, none_bindL, some_bindL]

/-- loop 5 of slices.DeleteFunc[[]int,int] -/
def slices_DeleteFunc_intint_impl_SafeMoves_f1_s5 (F : Nat) (s1 : Nat) (del11 : List Int) (del12 : List Int) (Q : Type) : (Int × Int × List Int) → ((Int × Int × List Int) → Option Q) → ((Int × List Int) → Option Q) → Option Q
  | (i8, j9, s10), kn, kx =>
    let z_1 : Int := (iget s10 ((0 : Nat) + (Int.toNat j9)))
    let z_2 := (impl_SafeMoves_f1_p F z_1 del11 del12)
    let z_3 : Int := (IntKind.wrap .i64 (j9 + (1 : Int)))
    bif (decide (j9 < ((s1 : Nat) : Int))) then
    bif (inR j9 s1) then
    bif (Option.isSome z_2) then
    bif (!(Option.getD z_2 default)) then
    bif (inR i8 s1) then
    kn ((IntKind.wrap .i64 (i8 + (1 : Int))), z_3, (iset s10 ((0 : Nat) + (Int.toNat i8)) z_1))
    else none
    else kn (i8, z_3, s10)
    else none
    else none
    else kx (i8, s10)
def slices_DeleteFunc_intint_impl_SafeMoves_f1_l5 (F : Nat) (s1 : Nat) (del11 : List Int) (del12 : List Int) (i8 : Int) (j9 : Int) (s10 : List Int) : Option (Int × List Int) := loopC (slices_DeleteFunc_intint_impl_SafeMoves_f1_s5 F s1 del11 del12) F (i8, j9, s10) some
theorem slices_DeleteFunc_intint_impl_SafeMoves_f1_s5_nat (F : Nat) (s1 : Nat) (del11 : List Int) (del12 : List Int) : Natural (slices_DeleteFunc_intint_impl_SafeMoves_f1_s5 F s1 del11 del12) := by
  intro Q Q' s kn kx h
  obtain ⟨i8, j9, s10⟩ := s
  simp only [slices_DeleteFunc_intint_impl_SafeMoves_f1_s5, cond_bindL, none_bindL]
/-- slices.DeleteFunc[[]int,int] -/
def slices_DeleteFunc_intint_impl_SafeMoves_f1_c (Q : Type) (F : Nat) (s8 : List Int) (del9 : List Int) (del10 : List Int) (k : (Nat × List Int) → Option Q) : Option Q :=
    let z_1 := (slices_IndexFunc_intint_impl_SafeMoves_f1_p F (subn (List.length s8) s8 0 (List.length s8)) del9 del10)
    let z_2 := (slices_DeleteFunc_intint_impl_SafeMoves_f1_l5 F (List.length s8) del9 del10 (Option.getD z_1 default) (IntKind.wrap .i64 ((Option.getD z_1 default) + (1 : Int))) s8)
    let z_3 := (Option.getD z_2 default)
    let z_4 : Bool := (inLe z_3.1 (List.length s8))
    let z_5 : Nat := (Int.toNat z_3.1)
    let z_6 : Nat := ((List.length s8) - z_5)
    bif (Option.isSome z_1) then
    bif ((Option.getD z_1 default) == (-1 : Int)) then
    k ((List.length s8), s8)
    else bif (Option.isSome z_2) then
    bif z_4 then
    bif z_4 then
    k ((z_5 - (0 : Nat)), (splice z_3.2 ((0 : Nat) + z_5) (List.replicate z_6 (0 : Int)) z_6))
    else none
    else none
    else none
    else none
def slices_DeleteFunc_intint_impl_SafeMoves_f1_p (F : Nat) (s8 : List Int) (del9 : List Int) (del10 : List Int) : Option (Nat × List Int) := slices_DeleteFunc_intint_impl_SafeMoves_f1_c _ F s8 del9 del10 some
theorem slices_DeleteFunc_intint_impl_SafeMoves_f1_cp (Q : Type) (F : Nat) (s8 : List Int) (del9 : List Int) (del10 : List Int) (k : (Nat × List Int) → Option Q) : slices_DeleteFunc_intint_impl_SafeMoves_f1_c Q F s8 del9 del10 k = (slices_DeleteFunc_intint_impl_SafeMoves_f1_p F s8 del9 del10).bind k := by
  simp only [slices_DeleteFunc_intint_impl_SafeMoves_f1_p, slices_DeleteFunc_intint_impl_SafeMoves_f1_c, cond_bindL, none_bindL, some_bindL]

/-- loop.example/g01194/impl.SafeMoves -/
def impl_SafeMoves_c (Q : Type) (F : Nat) (b0 : List Int) (n1 : Int) (k : (Nat × Bool × List Int) → Option Q) : Option Q :=
    let z_1 := (impl_IsBoard_p F b0)
    let z_2 := (impl_Board_moves_p F b0)
    let z_3 : Nat := (List.length (Option.getD z_2 default))
    let z_4 := (slices_DeleteFunc_intint_impl_SafeMoves_f1_p F (Option.getD z_2 default) b0 [n1])
    let z_5 := (Option.getD z_4 default)
    bif (Option.isSome z_1) then
    bif (!(Option.getD z_1 default)) then
    k ((0 : Nat), false, ([] : List Int))
    else bif (!(impl_in_v n1 (1 : Int) (3 : Int))) then
    k ((0 : Nat), false, ([] : List Int))
    else bif (Option.isSome z_2) then
    bif ((Nat.beq z_3 z_3) && (Option.isSome z_4)) then
    k (z_5.1, true, z_5.2)
    else none
    else none
    else none
def impl_SafeMoves_p (F : Nat) (b0 : List Int) (n1 : Int) : Option (Nat × Bool × List Int) := impl_SafeMoves_c _ F b0 n1 some
theorem impl_SafeMoves_cp (Q : Type) (F : Nat) (b0 : List Int) (n1 : Int) (k : (Nat × Bool × List Int) → Option Q) : impl_SafeMoves_c Q F b0 n1 k = (impl_SafeMoves_p F b0 n1).bind k := by
  simp only [impl_SafeMoves_p, impl_SafeMoves_c, cond_bindL, none_bindL, some_bindL]

/-- loop.example/g01194/spec.l8Safe -/
def spec_l8Safe_c (Q : Type) (F : Nat) (b0 : List Int) (d1 : Int) (n2 : Int) (k : (Bool) → Option Q) : Option Q :=
    let z_1 := (spec_l8Safe_n1_p F b0 d1)
    let z_2 := (spec_l8Safe_n2_p F b0 d1)
    let z_3 := (spec_l8Safe_n3_p F b0 d1)
    bif (n2 == (1 : Int)) then
    bif (Option.isSome z_1) then
    k (Option.getD z_1 default)
    else none
    else bif (n2 == (2 : Int)) then
    bif (Option.isSome z_2) then
    k (Option.getD z_2 default)
    else none
    else bif (n2 == (3 : Int)) then
    bif (Option.isSome z_3) then
    k (Option.getD z_3 default)
    else none
    else none
def spec_l8Safe_p (F : Nat) (b0 : List Int) (d1 : Int) (n2 : Int) : Option (Bool) := spec_l8Safe_c _ F b0 d1 n2 some
theorem spec_l8Safe_cp (Q : Type) (F : Nat) (b0 : List Int) (d1 : Int) (n2 : Int) (k : (Bool) → Option Q) : spec_l8Safe_c Q F b0 d1 n2 k = (spec_l8Safe_p F b0 d1 n2).bind k := by
  simp only [spec_l8Safe_p, spec_l8Safe_c, cond_bindL, none_bindL, some_bindL]

/-- loop 5 of loop.example/g01194/spec.SafeMoves -/
def spec_SafeMoves_s5 (F : Nat) (n0 : Int) (b7 : List Int) (Q : Type) : (Int × List Int) → ((Int × List Int) → Option Q) → ((List Int) → Option Q) → Option Q
  | (d6, out8), kn, kx =>
    let z_1 := (spec_l8Safe_p F b7 d6 n0)
    let z_2 : List Int := ((subn (List.length out8) out8 0 (List.length out8)) ++ [d6])
    let z_3 : Int := (IntKind.wrap .i64 (d6 + (1 : Int)))
    bif (decide (d6 < (4 : Int))) then
    bif (Option.isSome z_1) then
    bif (Option.getD z_1 default) then
    bif (fits (List.length z_2) 8) then
    kn (z_3, z_2)
    else none
    else kn (z_3, out8)
    else none
    else kx out8
def spec_SafeMoves_l5 (F : Nat) (n0 : Int) (b7 : List Int) (d6 : Int) (out8 : List Int) : Option (List Int) := loopC (spec_SafeMoves_s5 F n0 b7) F (d6, out8) some
theorem spec_SafeMoves_s5_nat (F : Nat) (n0 : Int) (b7 : List Int) : Natural (spec_SafeMoves_s5 F n0 b7) := by
  intro Q Q' s kn kx h
  obtain ⟨d6, out8⟩ := s
  simp only [spec_SafeMoves_s5, cond_bindL, none_bindL]
/-- loop.example/g01194/spec.SafeMoves -/
def spec_SafeMoves_c (Q : Type) (F : Nat) (b0 : List Int) (n1 : Int) (k : (Bool × List Int) → Option Q) : Option Q :=
    let z_1 := (spec_l2Board_p F b0)
    let z_2 := (spec_SafeMoves_l5 F n1 b0 (0 : Int) ([] : List Int))
    bif (Option.isSome z_1) then
    bif (!(Option.getD z_1 default)) then
    k (false, ([] : List Int))
    else bif (!(spec_l1In_v n1 (1 : Int) (3 : Int))) then
    k (false, ([] : List Int))
    else bif (Option.isSome z_2) then
    k (true, (Option.getD z_2 default))
    else none
    else none
def spec_SafeMoves_p (F : Nat) (b0 : List Int) (n1 : Int) : Option (Bool × List Int) := spec_SafeMoves_c _ F b0 n1 some
theorem spec_SafeMoves_cp (Q : Type) (F : Nat) (b0 : List Int) (n1 : Int) (k : (Bool × List Int) → Option Q) : spec_SafeMoves_c Q F b0 n1 k = (spec_SafeMoves_p F b0 n1).bind k := by
  simp only [spec_SafeMoves_p, spec_SafeMoves_c, cond_bindL, none_bindL, some_bindL]
end Go.Lv.P
