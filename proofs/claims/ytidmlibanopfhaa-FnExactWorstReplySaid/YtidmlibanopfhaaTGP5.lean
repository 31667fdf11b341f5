/-
Pure functions and what the code of them does, by program; without conditions.
-/
import Derived.Test.YtidmlibanopfhaaTGP4
namespace Go.Lv.P
open Go Go.Lv
set_option linter.unusedVariables false
set_option linter.unusedSimpArgs false
set_option maxRecDepth 100000
/-- loop 2 of slices.IndexFunc[[]int,int] -/
def slices_IndexFunc_intint_impl_Board_lasts_f1_n2_s2 (F : Nat) (s0 : List Int) (t77 : Int) (f9 : List Int) (Q : Type) : (Int) → ((Int) → Option Q) → ((Bool × Int) → Option Q) → Option Q
  | t88, kn, kx =>
    let z_1 := (impl_Board_lasts_f1_n2_p F (iget s0 (Int.toNat t88)) f9)
    bif (decide (t88 < t77)) then
    bif (inR t88 (List.length s0)) then
    bif (Option.isSome z_1) then
    bif (Option.getD z_1 default) then
    kx (true, t88)
    else kn (IntKind.wrap .i64 (t88 + (1 : Int)))
    else none
    else none
    else kx (false, default)
def slices_IndexFunc_intint_impl_Board_lasts_f1_n2_l2 (F : Nat) (s0 : List Int) (t77 : Int) (f9 : List Int) (t88 : Int) : Option (Bool × Int) := loopC (slices_IndexFunc_intint_impl_Board_lasts_f1_n2_s2 F s0 t77 f9) F t88 some
theorem slices_IndexFunc_intint_impl_Board_lasts_f1_n2_s2_nat (F : Nat) (s0 : List Int) (t77 : Int) (f9 : List Int) : Natural (slices_IndexFunc_intint_impl_Board_lasts_f1_n2_s2 F s0 t77 f9) := by
  intro Q Q' s kn kx h
  simp only [slices_IndexFunc_intint_impl_Board_lasts_f1_n2_s2, cond_bindL, none_bindL]
/-- slices.IndexFunc[[]int,int] -/
def slices_IndexFunc_intint_impl_Board_lasts_f1_n2_c (Q : Type) (F : Nat) (s0 : List Int) (f7 : List Int) (k : (Int) → Option Q) : Option Q :=
    let z_1 := (slices_IndexFunc_intint_impl_Board_lasts_f1_n2_l2 F s0 (((List.length s0) : Nat) : Int) f7 (0 : Int))
    let z_2 := (Option.getD z_1 default)
    bif (Option.isSome z_1) then
    bif z_2.1 then
    k z_2.2
    else k (-1 : Int)
    else none
def slices_IndexFunc_intint_impl_Board_lasts_f1_n2_p (F : Nat) (s0 : List Int) (f7 : List Int) : Option (Int) := slices_IndexFunc_intint_impl_Board_lasts_f1_n2_c _ F s0 f7 some
theorem slices_IndexFunc_intint_impl_Board_lasts_f1_n2_cp (Q : Type) (F : Nat) (s0 : List Int) (f7 : List Int) (k : (Int) → Option Q) : slices_IndexFunc_intint_impl_Board_lasts_f1_n2_c Q F s0 f7 k = (slices_IndexFunc_intint_impl_Board_lasts_f1_n2_p F s0 f7).bind k := by
  simp only [slices_IndexFunc_intint_impl_Board_lasts_f1_n2_p, slices_IndexFunc_intint_impl_Board_lasts_f1_n2_c, cond_bindL, none_bindL, some_bindL]

/-- slices.ContainsFunc[[]int,int] -/
def slices_ContainsFunc_intint_impl_Board_lasts_f1_n2_c (Q : Type) (F : Nat) (s0 : List Int) (f7 : List Int) (k : (Bool) → Option Q) : Option Q :=
    let z_1 := (slices_IndexFunc_intint_impl_Board_lasts_f1_n2_p F s0 f7)
    bif (Option.isSome z_1) then
    k (decide ((0 : Int) ≤ (Option.getD z_1 default)))
    else none
def slices_ContainsFunc_intint_impl_Board_lasts_f1_n2_p (F : Nat) (s0 : List Int) (f7 : List Int) : Option (Bool) := slices_ContainsFunc_intint_impl_Board_lasts_f1_n2_c _ F s0 f7 some
theorem slices_ContainsFunc_intint_impl_Board_lasts_f1_n2_cp (Q : Type) (F : Nat) (s0 : List Int) (f7 : List Int) (k : (Bool) → Option Q) : slices_ContainsFunc_intint_impl_Board_lasts_f1_n2_c Q F s0 f7 k = (slices_ContainsFunc_intint_impl_Board_lasts_f1_n2_p F s0 f7).bind k := by
  simp only [slices_ContainsFunc_intint_impl_Board_lasts_f1_n2_p, slices_ContainsFunc_intint_impl_Board_lasts_f1_n2_c, cond_bindL, none_bindL, some_bindL]

/-- (loop.example/g01194/impl.Board).lasts -/
def impl_Board_lasts_n2_c (Q : Type) (F : Nat) (b0 : List Int) (k : (Bool) → Option Q) : Option Q :=
    let z_1 := (impl_Board_moves_p F b0)
    let z_2 : Nat := (List.length (Option.getD z_1 default))
    let z_3 := (slices_ContainsFunc_intint_impl_Board_lasts_f1_n2_p F (subn z_2 (Option.getD z_1 default) 0 z_2) b0)
    bif (Option.isSome z_1) then
    bif (Option.isSome z_3) then
    k (Option.getD z_3 default)
    else none
    else none
def impl_Board_lasts_n2_p (F : Nat) (b0 : List Int) : Option (Bool) := impl_Board_lasts_n2_c _ F b0 some
theorem impl_Board_lasts_n2_cp (Q : Type) (F : Nat) (b0 : List Int) (k : (Bool) → Option Q) : impl_Board_lasts_n2_c Q F b0 k = (impl_Board_lasts_n2_p F b0).bind k := by
  simp only [impl_Board_lasts_n2_p, impl_Board_lasts_n2_c, cond_bindL, none_bindL, some_bindL]

/-- loop 2 of (loop.example/g01194/impl.Board).refuted -/
def impl_Board_refuted_n2_s2 (F : Nat) (t109 : Int) (b11 : List Int) (t913 : List (List Int)) (Q : Type) : (Int) → ((Int) → Option Q) → ((Bool × List Int) → Option Q) → Option Q
  | t1110, kn, kx =>
    let z_1 : List Int := (rget t913 ((0 : Nat) + (Int.toNat t1110)))
    let z_2 := (impl_Board_placed_p b11 z_1)
    let z_3 := (impl_Board_lasts_n2_p F (Option.getD z_2 default))
    bif (decide (t1110 < t109)) then
    bif (inR t1110 (List.length t913)) then
    bif (Option.isSome z_2) then
    bif (Option.isSome z_3) then
    bif (!(Option.getD z_3 default)) then
    kx (true, z_1)
    else kn (IntKind.wrap .i64 (t1110 + (1 : Int)))
    else none
    else none
    else none
    else kx (false, default)
def impl_Board_refuted_n2_l2 (F : Nat) (t109 : Int) (b11 : List Int) (t913 : List (List Int)) (t1110 : Int) : Option (Bool × List Int) := loopC (impl_Board_refuted_n2_s2 F t109 b11 t913) F t1110 some
theorem impl_Board_refuted_n2_s2_nat (F : Nat) (t109 : Int) (b11 : List Int) (t913 : List (List Int)) : Natural (impl_Board_refuted_n2_s2 F t109 b11 t913) := by
  intro Q Q' s kn kx h
  simp only [impl_Board_refuted_n2_s2, cond_bindL, none_bindL]
/-- (loop.example/g01194/impl.Board).refuted -/
def impl_Board_refuted_n2_c (Q : Type) (F : Nat) (b0 : List Int) (k : (List Int × Bool) → Option Q) : Option Q :=
    let z_1 := (impl_Board_placements_p F b0)
    let z_2 : Nat := (List.length (Option.getD z_1 default))
    let z_3 := (impl_Board_refuted_n2_l2 F ((z_2 : Nat) : Int) b0 (Option.getD z_1 default) (0 : Int))
    let z_4 := (Option.getD z_3 default)
    bif (Option.isSome z_1) then
    bif ((Nat.beq z_2 z_2) && (Option.isSome z_3)) then
    bif z_4.1 then
    k (z_4.2, true)
    else k ([(0 : Int), (0 : Int), (0 : Int)], false)
    else none
    else none
def impl_Board_refuted_n2_p (F : Nat) (b0 : List Int) : Option (List Int × Bool) := impl_Board_refuted_n2_c _ F b0 some
theorem impl_Board_refuted_n2_cp (Q : Type) (F : Nat) (b0 : List Int) (k : (List Int × Bool) → Option Q) : impl_Board_refuted_n2_c Q F b0 k = (impl_Board_refuted_n2_p F b0).bind k := by
  simp only [impl_Board_refuted_n2_p, impl_Board_refuted_n2_c, cond_bindL, none_bindL, some_bindL]

/-- (loop.example/g01194/impl.Board).isSafe -/
def impl_Board_isSafe_n3_c (Q : Type) (F : Nat) (b0 : List Int) (direction1 : Int) (k : (Bool) → Option Q) : Option Q :=
    let z_1 := (impl_Board_slides_p F b0 [direction1])
    let z_2 := (impl_Board_refuted_n2_p F (Option.getD z_1 default))
    bif (Option.isSome z_1) then
    bif (Option.isSome z_2) then
    k (!(Option.getD z_2 default).2)
    else none
    else none
def impl_Board_isSafe_n3_p (F : Nat) (b0 : List Int) (direction1 : Int) : Option (Bool) := impl_Board_isSafe_n3_c _ F b0 direction1 some
theorem impl_Board_isSafe_n3_cp (Q : Type) (F : Nat) (b0 : List Int) (direction1 : Int) (k : (Bool) → Option Q) : impl_Board_isSafe_n3_c Q F b0 direction1 k = (impl_Board_isSafe_n3_p F b0 direction1).bind k := by
  simp only [impl_Board_isSafe_n3_p, impl_Board_isSafe_n3_c, cond_bindL, none_bindL, some_bindL]

/-- (loop.example/g01194/impl.Board).lasts$1 -/
def impl_Board_lasts_f1_n3_c (Q : Type) (F : Nat) (d0 : Int) (a17 : List Int) (k : (Bool) → Option Q) : Option Q :=
    let z_1 := (impl_Board_isSafe_n3_p F a17 d0)
    bif (Option.isSome z_1) then
    k (Option.getD z_1 default)
    else none
def impl_Board_lasts_f1_n3_p (F : Nat) (d0 : Int) (a17 : List Int) : Option (Bool) := impl_Board_lasts_f1_n3_c _ F d0 a17 some
theorem impl_Board_lasts_f1_n3_cp (Q : Type) (F : Nat) (d0 : Int) (a17 : List Int) (k : (Bool) → Option Q) : impl_Board_lasts_f1_n3_c Q F d0 a17 k = (impl_Board_lasts_f1_n3_p F d0 a17).bind k := by
  simp only [impl_Board_lasts_f1_n3_p, impl_Board_lasts_f1_n3_c, cond_bindL, none_bindL, some_bindL]

/-- loop 2 of slices.IndexFunc[[]int,int] -/
def slices_IndexFunc_intint_impl_Board_lasts_f1_n3_s2 (F : Nat) (s0 : List Int) (t77 : Int) (f9 : List Int) (Q : Type) : (Int) → ((Int) → Option Q) → ((Bool × Int) → Option Q) → Option Q
  | t88, kn, kx =>
    let z_1 := (impl_Board_lasts_f1_n3_p F (iget s0 (Int.toNat t88)) f9)
    bif (decide (t88 < t77)) then
    bif (inR t88 (List.length s0)) then
    bif (Option.isSome z_1) then
    bif (Option.getD z_1 default) then
    kx (true, t88)
    else kn (IntKind.wrap .i64 (t88 + (1 : Int)))
    else none
    else none
    else kx (false, default)
def slices_IndexFunc_intint_impl_Board_lasts_f1_n3_l2 (F : Nat) (s0 : List Int) (t77 : Int) (f9 : List Int) (t88 : Int) : Option (Bool × Int) := loopC (slices_IndexFunc_intint_impl_Board_lasts_f1_n3_s2 F s0 t77 f9) F t88 some
theorem slices_IndexFunc_intint_impl_Board_lasts_f1_n3_s2_nat (F : Nat) (s0 : List Int) (t77 : Int) (f9 : List Int) : Natural (slices_IndexFunc_intint_impl_Board_lasts_f1_n3_s2 F s0 t77 f9) := by
  intro Q Q' s kn kx h
  simp only [slices_IndexFunc_intint_impl_Board_lasts_f1_n3_s2, cond_bindL, none_bindL]
/-- slices.IndexFunc[[]int,int] -/
def slices_IndexFunc_intint_impl_Board_lasts_f1_n3_c (Q : Type) (F : Nat) (s0 : List Int) (f7 : List Int) (k : (Int) → Option Q) : Option Q :=
    let z_1 := (slices_IndexFunc_intint_impl_Board_lasts_f1_n3_l2 F s0 (((List.length s0) : Nat) : Int) f7 (0 : Int))
    let z_2 := (Option.getD z_1 default)
    bif (Option.isSome z_1) then
    bif z_2.1 then
    k z_2.2
    else k (-1 : Int)
    else none
def slices_IndexFunc_intint_impl_Board_lasts_f1_n3_p (F : Nat) (s0 : List Int) (f7 : List Int) : Option (Int) := slices_IndexFunc_intint_impl_Board_lasts_f1_n3_c _ F s0 f7 some
theorem slices_IndexFunc_intint_impl_Board_lasts_f1_n3_cp (Q : Type) (F : Nat) (s0 : List Int) (f7 : List Int) (k : (Int) → Option Q) : slices_IndexFunc_intint_impl_Board_lasts_f1_n3_c Q F s0 f7 k = (slices_IndexFunc_intint_impl_Board_lasts_f1_n3_p F s0 f7).bind k := by
  simp only [slices_IndexFunc_intint_impl_Board_lasts_f1_n3_p, slices_IndexFunc_intint_impl_Board_lasts_f1_n3_c, cond_bindL, none_bindL, some_bindL]

/-- slices.ContainsFunc[[]int,int] -/
def slices_ContainsFunc_intint_impl_Board_lasts_f1_n3_c (Q : Type) (F : Nat) (s0 : List Int) (f7 : List Int) (k : (Bool) → Option Q) : Option Q :=
    let z_1 := (slices_IndexFunc_intint_impl_Board_lasts_f1_n3_p F s0 f7)
    bif (Option.isSome z_1) then
    k (decide ((0 : Int) ≤ (Option.getD z_1 default)))
    else none
def slices_ContainsFunc_intint_impl_Board_lasts_f1_n3_p (F : Nat) (s0 : List Int) (f7 : List Int) : Option (Bool) := slices_ContainsFunc_intint_impl_Board_lasts_f1_n3_c _ F s0 f7 some
theorem slices_ContainsFunc_intint_impl_Board_lasts_f1_n3_cp (Q : Type) (F : Nat) (s0 : List Int) (f7 : List Int) (k : (Bool) → Option Q) : slices_ContainsFunc_intint_impl_Board_lasts_f1_n3_c Q F s0 f7 k = (slices_ContainsFunc_intint_impl_Board_lasts_f1_n3_p F s0 f7).bind k := by
  simp only [slices_ContainsFunc_intint_impl_Board_lasts_f1_n3_p, slices_ContainsFunc_intint_impl_Board_lasts_f1_n3_c, cond_bindL, none_bindL, some_bindL]

/-- (loop.example/g01194/impl.Board).lasts -/
def impl_Board_lasts_n3_c (Q : Type) (F : Nat) (b0 : List Int) (k : (Bool) → Option Q) : Option Q :=
    let z_1 := (impl_Board_moves_p F b0)
    let z_2 : Nat := (List.length (Option.getD z_1 default))
    let z_3 := (slices_ContainsFunc_intint_impl_Board_lasts_f1_n3_p F (subn z_2 (Option.getD z_1 default) 0 z_2) b0)
    bif (Option.isSome z_1) then
    bif (Option.isSome z_3) then
    k (Option.getD z_3 default)
    else none
    else none
def impl_Board_lasts_n3_p (F : Nat) (b0 : List Int) : Option (Bool) := impl_Board_lasts_n3_c _ F b0 some
theorem impl_Board_lasts_n3_cp (Q : Type) (F : Nat) (b0 : List Int) (k : (Bool) → Option Q) : impl_Board_lasts_n3_c Q F b0 k = (impl_Board_lasts_n3_p F b0).bind k := by
  simp only [impl_Board_lasts_n3_p, impl_Board_lasts_n3_c, cond_bindL, none_bindL, some_bindL]

/-- (loop.example/g01194/impl.Board).lasts -/
def impl_Board_lasts_c (Q : Type) (F : Nat) (b0 : List Int) (n1 : Int) (k : (Bool) → Option Q) : Option Q :=
    let z_1 := (impl_Board_lasts_n1_p F b0)
    let z_2 := (impl_Board_lasts_n2_p F b0)
    let z_3 := (impl_Board_lasts_n3_p F b0)
    bif (n1 == (0 : Int)) then
    k true
    else bif (n1 == (1 : Int)) then
    bif (Option.isSome z_1) then
    k (Option.getD z_1 default)
    else none
    else bif (n1 == (2 : Int)) then
    bif (Option.isSome z_2) then
    k (Option.getD z_2 default)
    else none
    else bif (n1 == (3 : Int)) then
    bif (Option.isSome z_3) then
    k (Option.getD z_3 default)
    else none
    else none
def impl_Board_lasts_p (F : Nat) (b0 : List Int) (n1 : Int) : Option (Bool) := impl_Board_lasts_c _ F b0 n1 some
theorem impl_Board_lasts_cp (Q : Type) (F : Nat) (b0 : List Int) (n1 : Int) (k : (Bool) → Option Q) : impl_Board_lasts_c Q F b0 n1 k = (impl_Board_lasts_p F b0 n1).bind k := by
  simp only [impl_Board_lasts_p, impl_Board_lasts_c, cond_bindL, none_bindL, some_bindL]

/-- loop.example/g01194/impl.Lasts -/
def impl_Lasts_c (Q : Type) (F : Nat) (b0 : List Int) (n1 : Int) (k : (Bool × Bool) → Option Q) : Option Q :=
    let z_1 := (impl_IsBoard_p F b0)
    let z_2 := (impl_Board_lasts_p F b0 n1)
    bif (Option.isSome z_1) then
    bif (!(Option.getD z_1 default)) then
    k (false, false)
    else bif (!(impl_in_v n1 (0 : Int) (3 : Int))) then
    k (false, false)
    else bif (Option.isSome z_2) then
    k ((Option.getD z_2 default), true)
    else none
    else none
def impl_Lasts_p (F : Nat) (b0 : List Int) (n1 : Int) : Option (Bool × Bool) := impl_Lasts_c _ F b0 n1 some
theorem impl_Lasts_cp (Q : Type) (F : Nat) (b0 : List Int) (n1 : Int) (k : (Bool × Bool) → Option Q) : impl_Lasts_c Q F b0 n1 k = (impl_Lasts_p F b0 n1).bind k := by
  simp only [impl_Lasts_p, impl_Lasts_c, cond_bindL, none_bindL, some_bindL]

/-- loop.example/g01194/laws.FnExactLasts -/
def laws_FnExactLasts_c (Q : Type) (F : Nat) (aB0 : List Int) (aN1 : Int) (k : (Bool) → Option Q) : Option Q :=
    let z_1 := (spec_Lasts_p F (laws_toBoard_v aB0) aN1)
    let z_2 := (impl_Lasts_p F (laws_toBoard_v aB0) aN1)
    let z_3 := (Option.getD z_2 default)
    let z_4 := (Option.getD z_1 default)
    bif (Option.isSome z_1) then
    bif (Option.isSome z_2) then
    bif (!(z_3.1 == z_4.1)) then
    k false
    else bif (!(z_3.2 == z_4.2)) then
    k false
    else k true
    else none
    else none
def laws_FnExactLasts_p (F : Nat) (aB0 : List Int) (aN1 : Int) : Option (Bool) := laws_FnExactLasts_c _ F aB0 aN1 some
theorem laws_FnExactLasts_cp (Q : Type) (F : Nat) (aB0 : List Int) (aN1 : Int) (k : (Bool) → Option Q) : laws_FnExactLasts_c Q F aB0 aN1 k = (laws_FnExactLasts_p F aB0 aN1).bind k := by
  simp only [laws_FnExactLasts_p, laws_FnExactLasts_c, cond_bindL, none_bindL, some_bindL]

/-- loop.example/g01194/spec.l1Most -/
def spec_l1Most_c (Q : Type) (a0 : Int) (b1 : Int) (k : (Int) → Option Q) : Option Q :=
    bif (decide (b1 < a0)) then
    k a0
    else k b1
def spec_l1Most_v (a0 : Int) (b1 : Int) : Int :=
    bif (decide (b1 < a0)) then
    a0
    else b1
theorem spec_l1Most_cv (Q : Type) (a0 : Int) (b1 : Int) (k : (Int) → Option Q) : spec_l1Most_c Q a0 b1 k = k (spec_l1Most_v a0 b1) := by
  simp only [spec_l1Most_c, spec_l1Most_v, app_condL k]

/-- loop.example/g01194/spec.BestSure -/
def spec_BestSure_c (Q : Type) (F : Nat) (b0 : List Int) (n1 : Int) (k : (Int × Bool) → Option Q) : Option Q :=
    let z_1 := (spec_l2Board_p F b0)
    let z_2 := (spec_l8Sure_p F b0 n1)
    bif (Option.isSome z_1) then
    bif (!(Option.getD z_1 default)) then
    k ((0 : Int), false)
    else bif (!(spec_l1In_v n1 (1 : Int) (2 : Int))) then
    k ((0 : Int), false)
    else bif (Option.isSome z_2) then
    k ((spec_l1Most_v (Option.getD z_2 default).2 (0 : Int)), (decide ((0 : Int) ≤ (Option.getD z_2 default).2)))
    else none
    else none
def spec_BestSure_p (F : Nat) (b0 : List Int) (n1 : Int) : Option (Int × Bool) := spec_BestSure_c _ F b0 n1 some
theorem spec_BestSure_cp (Q : Type) (F : Nat) (b0 : List Int) (n1 : Int) (k : (Int × Bool) → Option Q) : spec_BestSure_c Q F b0 n1 k = (spec_BestSure_p F b0 n1).bind k := by
  simp only [spec_BestSure_p, spec_BestSure_c, cond_bindL, none_bindL, some_bindL]

/-- (loop.example/g01194/impl.Board).sureOf -/
def impl_Board_sureOf_c (Q : Type) (F : Nat) (b0 : List Int) (direction1 : Int) (n2 : Int) (k : (Int) → Option Q) : Option Q :=
    let z_1 := (impl_Board_sureOf_n1_p F b0 direction1)
    let z_2 := (impl_Board_sureOf_n2_p F b0 direction1)
    bif (n2 == (1 : Int)) then
    bif (Option.isSome z_1) then
    k (Option.getD z_1 default)
    else none
    else bif (n2 == (2 : Int)) then
    bif (Option.isSome z_2) then
    k (Option.getD z_2 default)
    else none
    else none
def impl_Board_sureOf_p (F : Nat) (b0 : List Int) (direction1 : Int) (n2 : Int) : Option (Int) := impl_Board_sureOf_c _ F b0 direction1 n2 some
theorem impl_Board_sureOf_cp (Q : Type) (F : Nat) (b0 : List Int) (direction1 : Int) (n2 : Int) (k : (Int) → Option Q) : impl_Board_sureOf_c Q F b0 direction1 n2 k = (impl_Board_sureOf_p F b0 direction1 n2).bind k := by
  simp only [impl_Board_sureOf_p, impl_Board_sureOf_c, cond_bindL, none_bindL, some_bindL]

/-- loop 5 of loop.example/g01194/impl.BestSure -/
def impl_BestSure_s5 (F : Nat) (n0 : Int) (sure4 : Int) (t227 : Int) (b9 : List Int) (t2110 : List Int) (Q : Type) : (Int) → ((Int) → Option Q) → ((Bool × Int) → Option Q) → Option Q
  | t238, kn, kx =>
    let z_1 : Int := (iget t2110 ((0 : Nat) + (Int.toNat t238)))
    let z_2 := (impl_Board_sureOf_p F b9 z_1 n0)
    bif (decide (t238 < t227)) then
    bif (inR t238 (List.length t2110)) then
    bif (Option.isSome z_2) then
    bif ((Option.getD z_2 default) == sure4) then
    kx (true, z_1)
    else kn (IntKind.wrap .i64 (t238 + (1 : Int)))
    else none
    else none
    else kx (false, default)
def impl_BestSure_l5 (F : Nat) (n0 : Int) (sure4 : Int) (t227 : Int) (b9 : List Int) (t2110 : List Int) (t238 : Int) : Option (Bool × Int) := loopC (impl_BestSure_s5 F n0 sure4 t227 b9 t2110) F t238 some
theorem impl_BestSure_s5_nat (F : Nat) (n0 : Int) (sure4 : Int) (t227 : Int) (b9 : List Int) (t2110 : List Int) : Natural (impl_BestSure_s5 F n0 sure4 t227 b9 t2110) := by
  intro Q Q' s kn kx h
  simp only [impl_BestSure_s5, cond_bindL, none_bindL]
/-- loop.example/g01194/impl.BestSure -/
def impl_BestSure_c (Q : Type) (F : Nat) (b0 : List Int) (n1 : Int) (k : (Int × Bool) → Option Q) : Option Q :=
    let z_1 := (impl_IsBoard_p F b0)
    let z_2 := (impl_Board_sure_p F b0 n1)
    let z_3 := (impl_Board_moves_p F b0)
    let z_4 : Nat := (List.length (Option.getD z_3 default))
    let z_5 := (impl_BestSure_l5 F n1 (Option.getD z_2 default) ((z_4 : Nat) : Int) b0 (Option.getD z_3 default) (0 : Int))
    let z_6 := (Option.getD z_5 default)
    bif (Option.isSome z_1) then
    bif (!(Option.getD z_1 default)) then
    k ((0 : Int), false)
    else bif (!(impl_in_v n1 (1 : Int) (2 : Int))) then
    k ((0 : Int), false)
    else bif (Option.isSome z_2) then
    bif (Option.isSome z_3) then
    bif ((Nat.beq z_4 z_4) && (Option.isSome z_5)) then
    bif z_6.1 then
    k (z_6.2, true)
    else k ((0 : Int), false)
    else none
    else none
    else none
    else none
def impl_BestSure_p (F : Nat) (b0 : List Int) (n1 : Int) : Option (Int × Bool) := impl_BestSure_c _ F b0 n1 some
theorem impl_BestSure_cp (Q : Type) (F : Nat) (b0 : List Int) (n1 : Int) (k : (Int × Bool) → Option Q) : impl_BestSure_c Q F b0 n1 k = (impl_BestSure_p F b0 n1).bind k := by
  simp only [impl_BestSure_p, impl_BestSure_c, cond_bindL, none_bindL, some_bindL]

/-- loop.example/g01194/laws.FnExactBestSure -/
def laws_FnExactBestSure_c (Q : Type) (F : Nat) (aB0 : List Int) (aN1 : Int) (k : (Bool) → Option Q) : Option Q :=
    let z_1 := (spec_BestSure_p F (laws_toBoard_v aB0) aN1)
    let z_2 := (impl_BestSure_p F (laws_toBoard_v aB0) aN1)
    let z_3 := (Option.getD z_2 default)
    let z_4 := (Option.getD z_1 default)
    bif (Option.isSome z_1) then
    bif (Option.isSome z_2) then
    bif (!(z_3.1 == z_4.1)) then
    k false
    else bif (!(z_3.2 == z_4.2)) then
    k false
    else k true
    else none
    else none
def laws_FnExactBestSure_p (F : Nat) (aB0 : List Int) (aN1 : Int) : Option (Bool) := laws_FnExactBestSure_c _ F aB0 aN1 some
theorem laws_FnExactBestSure_cp (Q : Type) (F : Nat) (aB0 : List Int) (aN1 : Int) (k : (Bool) → Option Q) : laws_FnExactBestSure_c Q F aB0 aN1 k = (laws_FnExactBestSure_p F aB0 aN1).bind k := by
  simp only [laws_FnExactBestSure_p, laws_FnExactBestSure_c, cond_bindL, none_bindL, some_bindL]
end Go.Lv.P
