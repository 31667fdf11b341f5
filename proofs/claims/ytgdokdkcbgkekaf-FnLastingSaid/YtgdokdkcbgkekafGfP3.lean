/-
Pure functions and what the code of them does, by program; without conditions.
-/
import Derived.Test.YtgdokdkcbgkekafGfP2
namespace Go.Lv.P
open Go Go.Lv
set_option linter.unusedVariables false
set_option linter.unusedSimpArgs false
set_option maxRecDepth 100000
/-- loop 2 of slices.IndexFunc[[]int,int] -/
def slices_IndexFunc_intint_impl_Board_lasts_f1_n2_s2 (F : Nat) (s0 : List Int) (t77 : Int) (f9 : List Int) (Q : Type) : (Int) → ((Int) → Option Q) → ((Bool × Int) → Option Q) → Option Q
  | t88, kn, kx =>
    let z_1 := (impl_Board_lasts_f1_n2_p F (iget s0 (Int.toNat t88)) f9)
    bif (decide (t88 < t77)) then
    bif (inR t88 (List.length s0)) then
    bif (Option.isSome z_1) then
    bif (Option.getD z_1 default) then
    kx (true, t88)
    else kn (IntKind.wrap .i64 (t88 + (1 : Int)))
    else none
    else none
    else kx (false, default)
def slices_IndexFunc_intint_impl_Board_lasts_f1_n2_l2 (F : Nat) (s0 : List Int) (t77 : Int) (f9 : List Int) (t88 : Int) : Option (Bool × Int) := loopC (slices_IndexFunc_intint_impl_Board_lasts_f1_n2_s2 F s0 t77 f9) F t88 some
theorem slices_IndexFunc_intint_impl_Board_lasts_f1_n2_s2_nat (F : Nat) (s0 : List Int) (t77 : Int) (f9 : List Int) : Natural (slices_IndexFunc_intint_impl_Board_lasts_f1_n2_s2 F s0 t77 f9) := by
  intro Q Q' s kn kx h
  simp only [slices_IndexFunc_intint_impl_Board_lasts_f1_n2_s2, cond_bindL, none_bindL]
/-- slices.IndexFunc[[]int,int] -/
def slices_IndexFunc_intint_impl_Board_lasts_f1_n2_c (Q : Type) (F : Nat) (s0 : List Int) (f7 : List Int) (k : (Int) → Option Q) : Option Q :=
    let z_1 := (slices_IndexFunc_intint_impl_Board_lasts_f1_n2_l2 F s0 (((List.length s0) : Nat) : Int) f7 (0 : Int))
    let z_2 := (Option.getD z_1 default)
    bif (Option.isSome z_1) then
    bif z_2.1 then
    k z_2.2
    else k (-1 : Int)
    else none
def slices_IndexFunc_intint_impl_Board_lasts_f1_n2_p (F : Nat) (s0 : List Int) (f7 : List Int) : Option (Int) := slices_IndexFunc_intint_impl_Board_lasts_f1_n2_c _ F s0 f7 some
theorem slices_IndexFunc_intint_impl_Board_lasts_f1_n2_cp (Q : Type) (F : Nat) (s0 : List Int) (f7 : List Int) (k : (Int) → Option Q) : slices_IndexFunc_intint_impl_Board_lasts_f1_n2_c Q F s0 f7 k = (slices_IndexFunc_intint_impl_Board_lasts_f1_n2_p F s0 f7).bind k := by
  simp only [slices_IndexFunc_intint_impl_Board_lasts_f1_n2_p, slices_IndexFunc_intint_impl_Board_lasts_f1_n2_c, cond_bindL, none_bindL, some_bindL]

/-- slices.ContainsFunc[[]int,int] -/
def slices_ContainsFunc_intint_impl_Board_lasts_f1_n2_c (Q : Type) (F : Nat) (s0 : List Int) (f7 : List Int) (k : (Bool) → Option Q) : Option Q :=
    let z_1 := (slices_IndexFunc_intint_impl_Board_lasts_f1_n2_p F s0 f7)
    bif (Option.isSome z_1) then
    k (decide ((0 : Int) ≤ (Option.getD z_1 default)))
    else none
def slices_ContainsFunc_intint_impl_Board_lasts_f1_n2_p (F : Nat) (s0 : List Int) (f7 : List Int) : Option (Bool) := slices_ContainsFunc_intint_impl_Board_lasts_f1_n2_c _ F s0 f7 some
theorem slices_ContainsFunc_intint_impl_Board_lasts_f1_n2_cp (Q : Type) (F : Nat) (s0 : List Int) (f7 : List Int) (k : (Bool) → Option Q) : slices_ContainsFunc_intint_impl_Board_lasts_f1_n2_c Q F s0 f7 k = (slices_ContainsFunc_intint_impl_Board_lasts_f1_n2_p F s0 f7).bind k := by
  simp only [slices_ContainsFunc_intint_impl_Board_lasts_f1_n2_p, slices_ContainsFunc_intint_impl_Board_lasts_f1_n2_c, cond_bindL, none_bindL, some_bindL]

/-- (loop.example/g01194/impl.Board).lasts -/
def impl_Board_lasts_n2_c (Q : Type) (F : Nat) (b0 : List Int) (k : (Bool) → Option Q) : Option Q :=
    let z_1 := (impl_Board_moves_p F b0)
    let z_2 : Nat := (List.length (Option.getD z_1 default))
    let z_3 := (slices_ContainsFunc_intint_impl_Board_lasts_f1_n2_p F (subn z_2 (Option.getD z_1 default) 0 z_2) b0)
    bif (Option.isSome z_1) then
    bif (Option.isSome z_3) then
    k (Option.getD z_3 default)
    else none
    else none
def impl_Board_lasts_n2_p (F : Nat) (b0 : List Int) : Option (Bool) := impl_Board_lasts_n2_c _ F b0 some
theorem impl_Board_lasts_n2_cp (Q : Type) (F : Nat) (b0 : List Int) (k : (Bool) → Option Q) : impl_Board_lasts_n2_c Q F b0 k = (impl_Board_lasts_n2_p F b0).bind k := by
  simp only [impl_Board_lasts_n2_p, impl_Board_lasts_n2_c, cond_bindL, none_bindL, some_bindL]

/-- loop 2 of (loop.example/g01194/impl.Board).refuted -/
def impl_Board_refuted_n2_s2 (F : Nat) (t109 : Int) (b11 : List Int) (t913 : List (List Int)) (Q : Type) : (Int) → ((Int) → Option Q) → ((Bool × List Int) → Option Q) → Option Q
  | t1110, kn, kx =>
    let z_1 : List Int := (rget t913 ((0 : Nat) + (Int.toNat t1110)))
    let z_2 := (impl_Board_placed_p b11 z_1)
    let z_3 := (impl_Board_lasts_n2_p F (Option.getD z_2 default))
    bif (decide (t1110 < t109)) then
    bif (inR t1110 (List.length t913)) then
    bif (Option.isSome z_2) then
    bif (Option.isSome z_3) then
    bif (!(Option.getD z_3 default)) then
    kx (true, z_1)
    else kn (IntKind.wrap .i64 (t1110 + (1 : Int)))
    else none
    else none
    else none
    else kx (false, default)
def impl_Board_refuted_n2_l2 (F : Nat) (t109 : Int) (b11 : List Int) (t913 : List (List Int)) (t1110 : Int) : Option (Bool × List Int) := loopC (impl_Board_refuted_n2_s2 F t109 b11 t913) F t1110 some
theorem impl_Board_refuted_n2_s2_nat (F : Nat) (t109 : Int) (b11 : List Int) (t913 : List (List Int)) : Natural (impl_Board_refuted_n2_s2 F t109 b11 t913) := by
  intro Q Q' s kn kx h
  simp only [impl_Board_refuted_n2_s2, cond_bindL, none_bindL]
/-- (loop.example/g01194/impl.Board).refuted -/
def impl_Board_refuted_n2_c (Q : Type) (F : Nat) (b0 : List Int) (k : (List Int × Bool) → Option Q) : Option Q :=
    let z_1 := (impl_Board_placements_p F b0)
    let z_2 : Nat := (List.length (Option.getD z_1 default))
    let z_3 := (impl_Board_refuted_n2_l2 F ((z_2 : Nat) : Int) b0 (Option.getD z_1 default) (0 : Int))
    let z_4 := (Option.getD z_3 default)
    bif (Option.isSome z_1) then
    bif ((Nat.beq z_2 z_2) && (Option.isSome z_3)) then
    bif z_4.1 then
    k (z_4.2, true)
    else k ([(0 : Int), (0 : Int), (0 : Int)], false)
    else none
    else none
def impl_Board_refuted_n2_p (F : Nat) (b0 : List Int) : Option (List Int × Bool) := impl_Board_refuted_n2_c _ F b0 some
theorem impl_Board_refuted_n2_cp (Q : Type) (F : Nat) (b0 : List Int) (k : (List Int × Bool) → Option Q) : impl_Board_refuted_n2_c Q F b0 k = (impl_Board_refuted_n2_p F b0).bind k := by
  simp only [impl_Board_refuted_n2_p, impl_Board_refuted_n2_c, cond_bindL, none_bindL, some_bindL]

/-- (loop.example/g01194/impl.Board).isSafe -/
def impl_Board_isSafe_n3_c (Q : Type) (F : Nat) (b0 : List Int) (direction1 : Int) (k : (Bool) → Option Q) : Option Q :=
    let z_1 := (impl_Board_slides_p F b0 [direction1])
    let z_2 := (impl_Board_refuted_n2_p F (Option.getD z_1 default))
    bif (Option.isSome z_1) then
    bif (Option.isSome z_2) then
    k (!(Option.getD z_2 default).2)
    else none
    else none
def impl_Board_isSafe_n3_p (F : Nat) (b0 : List Int) (direction1 : Int) : Option (Bool) := impl_Board_isSafe_n3_c _ F b0 direction1 some
theorem impl_Board_isSafe_n3_cp (Q : Type) (F : Nat) (b0 : List Int) (direction1 : Int) (k : (Bool) → Option Q) : impl_Board_isSafe_n3_c Q F b0 direction1 k = (impl_Board_isSafe_n3_p F b0 direction1).bind k := by
  simp only [impl_Board_isSafe_n3_p, impl_Board_isSafe_n3_c, cond_bindL, none_bindL, some_bindL]

/-- (loop.example/g01194/impl.Board).lasts$1 -/
def impl_Board_lasts_f1_n3_c (Q : Type) (F : Nat) (d0 : Int) (a17 : List Int) (k : (Bool) → Option Q) : Option Q :=
    let z_1 := (impl_Board_isSafe_n3_p F a17 d0)
    bif (Option.isSome z_1) then
    k (Option.getD z_1 default)
    else none
def impl_Board_lasts_f1_n3_p (F : Nat) (d0 : Int) (a17 : List Int) : Option (Bool) := impl_Board_lasts_f1_n3_c _ F d0 a17 some
theorem impl_Board_lasts_f1_n3_cp (Q : Type) (F : Nat) (d0 : Int) (a17 : List Int) (k : (Bool) → Option Q) : impl_Board_lasts_f1_n3_c Q F d0 a17 k = (impl_Board_lasts_f1_n3_p F d0 a17).bind k := by
  simp only [impl_Board_lasts_f1_n3_p, impl_Board_lasts_f1_n3_c, cond_bindL, none_bindL, some_bindL]

/-- loop 2 of slices.IndexFunc[[]int,int] -/
def slices_IndexFunc_intint_impl_Board_lasts_f1_n3_s2 (F : Nat) (s0 : List Int) (t77 : Int) (f9 : List Int) (Q : Type) : (Int) → ((Int) → Option Q) → ((Bool × Int) → Option Q) → Option Q
  | t88, kn, kx =>
    let z_1 := (impl_Board_lasts_f1_n3_p F (iget s0 (Int.toNat t88)) f9)
    bif (decide (t88 < t77)) then
    bif (inR t88 (List.length s0)) then
    bif (Option.isSome z_1) then
    bif (Option.getD z_1 default) then
    kx (true, t88)
    else kn (IntKind.wrap .i64 (t88 + (1 : Int)))
    else none
    else none
    else kx (false, default)
def slices_IndexFunc_intint_impl_Board_lasts_f1_n3_l2 (F : Nat) (s0 : List Int) (t77 : Int) (f9 : List Int) (t88 : Int) : Option (Bool × Int) := loopC (slices_IndexFunc_intint_impl_Board_lasts_f1_n3_s2 F s0 t77 f9) F t88 some
theorem slices_IndexFunc_intint_impl_Board_lasts_f1_n3_s2_nat (F : Nat) (s0 : List Int) (t77 : Int) (f9 : List Int) : Natural (slices_IndexFunc_intint_impl_Board_lasts_f1_n3_s2 F s0 t77 f9) := by
  intro Q Q' s kn kx h
  simp only [slices_IndexFunc_intint_impl_Board_lasts_f1_n3_s2, cond_bindL, none_bindL]
/-- slices.IndexFunc[[]int,int] -/
def slices_IndexFunc_intint_impl_Board_lasts_f1_n3_c (Q : Type) (F : Nat) (s0 : List Int) (f7 : List Int) (k : (Int) → Option Q) : Option Q :=
    let z_1 := (slices_IndexFunc_intint_impl_Board_lasts_f1_n3_l2 F s0 (((List.length s0) : Nat) : Int) f7 (0 : Int))
    let z_2 := (Option.getD z_1 default)
    bif (Option.isSome z_1) then
    bif z_2.1 then
    k z_2.2
    else k (-1 : Int)
    else none
def slices_IndexFunc_intint_impl_Board_lasts_f1_n3_p (F : Nat) (s0 : List Int) (f7 : List Int) : Option (Int) := slices_IndexFunc_intint_impl_Board_lasts_f1_n3_c _ F s0 f7 some
theorem slices_IndexFunc_intint_impl_Board_lasts_f1_n3_cp (Q : Type) (F : Nat) (s0 : List Int) (f7 : List Int) (k : (Int) → Option Q) : slices_IndexFunc_intint_impl_Board_lasts_f1_n3_c Q F s0 f7 k = (slices_IndexFunc_intint_impl_Board_lasts_f1_n3_p F s0 f7).bind k := by
  simp only [slices_IndexFunc_intint_impl_Board_lasts_f1_n3_p, slices_IndexFunc_intint_impl_Board_lasts_f1_n3_c, cond_bindL, none_bindL, some_bindL]

/-- slices.ContainsFunc[[]int,int] -/
def slices_ContainsFunc_intint_impl_Board_lasts_f1_n3_c (Q : Type) (F : Nat) (s0 : List Int) (f7 : List Int) (k : (Bool) → Option Q) : Option Q :=
    let z_1 := (slices_IndexFunc_intint_impl_Board_lasts_f1_n3_p F s0 f7)
    bif (Option.isSome z_1) then
    k (decide ((0 : Int) ≤ (Option.getD z_1 default)))
    else none
def slices_ContainsFunc_intint_impl_Board_lasts_f1_n3_p (F : Nat) (s0 : List Int) (f7 : List Int) : Option (Bool) := slices_ContainsFunc_intint_impl_Board_lasts_f1_n3_c _ F s0 f7 some
theorem slices_ContainsFunc_intint_impl_Board_lasts_f1_n3_cp (Q : Type) (F : Nat) (s0 : List Int) (f7 : List Int) (k : (Bool) → Option Q) : slices_ContainsFunc_intint_impl_Board_lasts_f1_n3_c Q F s0 f7 k = (slices_ContainsFunc_intint_impl_Board_lasts_f1_n3_p F s0 f7).bind k := by
  simp only [slices_ContainsFunc_intint_impl_Board_lasts_f1_n3_p, slices_ContainsFunc_intint_impl_Board_lasts_f1_n3_c, cond_bindL, none_bindL, some_bindL]

/-- (loop.example/g01194/impl.Board).lasts -/
def impl_Board_lasts_n3_c (Q : Type) (F : Nat) (b0 : List Int) (k : (Bool) → Option Q) : Option Q :=
    let z_1 := (impl_Board_moves_p F b0)
    let z_2 : Nat := (List.length (Option.getD z_1 default))
    let z_3 := (slices_ContainsFunc_intint_impl_Board_lasts_f1_n3_p F (subn z_2 (Option.getD z_1 default) 0 z_2) b0)
    bif (Option.isSome z_1) then
    bif (Option.isSome z_3) then
    k (Option.getD z_3 default)
    else none
    else none
def impl_Board_lasts_n3_p (F : Nat) (b0 : List Int) : Option (Bool) := impl_Board_lasts_n3_c _ F b0 some
theorem impl_Board_lasts_n3_cp (Q : Type) (F : Nat) (b0 : List Int) (k : (Bool) → Option Q) : impl_Board_lasts_n3_c Q F b0 k = (impl_Board_lasts_n3_p F b0).bind k := by
  simp only [impl_Board_lasts_n3_p, impl_Board_lasts_n3_c, cond_bindL, none_bindL, some_bindL]

/-- (loop.example/g01194/impl.Board).lasts -/
def impl_Board_lasts_c (Q : Type) (F : Nat) (b0 : List Int) (n1 : Int) (k : (Bool) → Option Q) : Option Q :=
    let z_1 := (impl_Board_lasts_n1_p F b0)
    let z_2 := (impl_Board_lasts_n2_p F b0)
    let z_3 := (impl_Board_lasts_n3_p F b0)
    bif (n1 == (0 : Int)) then
    k true
    else bif (n1 == (1 : Int)) then
    bif (Option.isSome z_1) then
    k (Option.getD z_1 default)
    else none
    else bif (n1 == (2 : Int)) then
    bif (Option.isSome z_2) then
    k (Option.getD z_2 default)
    else none
    else bif (n1 == (3 : Int)) then
    bif (Option.isSome z_3) then
    k (Option.getD z_3 default)
    else none
    else none
def impl_Board_lasts_p (F : Nat) (b0 : List Int) (n1 : Int) : Option (Bool) := impl_Board_lasts_c _ F b0 n1 some
theorem impl_Board_lasts_cp (Q : Type) (F : Nat) (b0 : List Int) (n1 : Int) (k : (Bool) → Option Q) : impl_Board_lasts_c Q F b0 n1 k = (impl_Board_lasts_p F b0 n1).bind k := by
  simp only [impl_Board_lasts_p, impl_Board_lasts_c, cond_bindL, none_bindL, some_bindL]

/-- loop.example/g01194/impl.Lasts -/
def impl_Lasts_c (Q : Type) (F : Nat) (b0 : List Int) (n1 : Int) (k : (Bool × Bool) → Option Q) : Option Q :=
    let z_1 := (impl_IsBoard_p F b0)
    let z_2 := (impl_Board_lasts_p F b0 n1)
    bif (Option.isSome z_1) then
    bif (!(Option.getD z_1 default)) then
    k (false, false)
    else bif (!(impl_in_v n1 (0 : Int) (3 : Int))) then
    k (false, false)
    else bif (Option.isSome z_2) then
    k ((Option.getD z_2 default), true)
    else none
    else none
def impl_Lasts_p (F : Nat) (b0 : List Int) (n1 : Int) : Option (Bool × Bool) := impl_Lasts_c _ F b0 n1 some
theorem impl_Lasts_cp (Q : Type) (F : Nat) (b0 : List Int) (n1 : Int) (k : (Bool × Bool) → Option Q) : impl_Lasts_c Q F b0 n1 k = (impl_Lasts_p F b0 n1).bind k := by
  simp only [impl_Lasts_p, impl_Lasts_c, cond_bindL, none_bindL, some_bindL]

/-- loop.example/g01194/spec.l1In -/
def spec_l1In_c (Q : Type) (x0 : Int) (a1 : Int) (b2 : Int) (k : (Bool) → Option Q) : Option Q :=
    bif (decide (a1 ≤ x0)) then
    k (decide (x0 ≤ b2))
    else k false
def spec_l1In_v (x0 : Int) (a1 : Int) (b2 : Int) : Bool :=
    bif (decide (a1 ≤ x0)) then
    (decide (x0 ≤ b2))
    else false
theorem spec_l1In_cv (Q : Type) (x0 : Int) (a1 : Int) (b2 : Int) (k : (Bool) → Option Q) : spec_l1In_c Q x0 a1 b2 k = k (spec_l1In_v x0 a1 b2) := by
  simp only [spec_l1In_c, spec_l1In_v, app_condL k]

/-- loop 5 of loop.example/g01194/spec.l2Board -/
def spec_l2Board_s5 (F : Nat) (r3 : Int) (b5 : List Int) (Q : Type) : (Int) → ((Int) → Option Q) → ((Bool) → Option Q) → Option Q
  | c4, kn, kx =>
    bif (decide (c4 < (4 : Int))) then
    bif (inR r3 4) then
    bif (inR c4 4) then
    bif (!(spec_l1In_v (iget b5 (((0 : Nat) + ((Int.toNat r3) * (4 : Nat))) + ((Int.toNat c4) * (1 : Nat)))) (0 : Int) (17 : Int))) then
    kx true
    else kn (IntKind.wrap .i64 (c4 + (1 : Int)))
    else none
    else none
    else kx false
def spec_l2Board_l5 (F : Nat) (r3 : Int) (b5 : List Int) (c4 : Int) : Option (Bool) := loopC (spec_l2Board_s5 F r3 b5) F c4 some
theorem spec_l2Board_s5_nat (F : Nat) (r3 : Int) (b5 : List Int) : Natural (spec_l2Board_s5 F r3 b5) := by
  intro Q Q' s kn kx h
  simp only [spec_l2Board_s5, cond_bindL, none_bindL]
/-- loop 2 of loop.example/g01194/spec.l2Board -/
def spec_l2Board_s2 (F : Nat) (b4 : List Int) (Q : Type) : (Int) → ((Int) → Option Q) → ((Bool) → Option Q) → Option Q
  | r3, kn, kx =>
    let z_1 := (spec_l2Board_l5 F r3 b4 (0 : Int))
    bif (decide (r3 < (4 : Int))) then
    bif (Option.isSome z_1) then
    bif (Option.getD z_1 default) then
    kx true
    else kn (IntKind.wrap .i64 (r3 + (1 : Int)))
    else none
    else kx false
def spec_l2Board_l2 (F : Nat) (b4 : List Int) (r3 : Int) : Option (Bool) := loopC (spec_l2Board_s2 F b4) F r3 some
theorem spec_l2Board_s2_nat (F : Nat) (b4 : List Int) : Natural (spec_l2Board_s2 F b4) := by
  intro Q Q' s kn kx h
  simp only [spec_l2Board_s2, cond_bindL, none_bindL]
/-- loop.example/g01194/spec.l2Board -/
def spec_l2Board_c (Q : Type) (F : Nat) (b0 : List Int) (k : (Bool) → Option Q) : Option Q :=
    let z_1 := (spec_l2Board_l2 F b0 (0 : Int))
    bif (Option.isSome z_1) then
    bif (Option.getD z_1 default) then
    k false
    else k true
    else none
def spec_l2Board_p (F : Nat) (b0 : List Int) : Option (Bool) := spec_l2Board_c _ F b0 some
theorem spec_l2Board_cp (Q : Type) (F : Nat) (b0 : List Int) (k : (Bool) → Option Q) : spec_l2Board_c Q F b0 k = (spec_l2Board_p F b0).bind k := by
  simp only [spec_l2Board_p, spec_l2Board_c, cond_bindL, none_bindL, some_bindL]

/-- loop.example/g01194/spec.l8Lasts -/
def spec_l8Lasts_n0_c (Q : Type) (b0 : List Int) (k : (Unit) → Option Q) : Option Q :=
    k ()
def spec_l8Lasts_n0_v (b0 : List Int) : Unit :=
    ()
theorem spec_l8Lasts_n0_cv (Q : Type) (b0 : List Int) (k : (Unit) → Option Q) : spec_l8Lasts_n0_c Q b0 k = k (spec_l8Lasts_n0_v b0) := by
  simp only [spec_l8Lasts_n0_c, spec_l8Lasts_n0_v, app_condL k]

/-- loop 3 of loop.example/g01194/spec.l2Line -/
def spec_l2Line_s3 (F : Nat) (d0 : Int) (i1 : Int) (Q : Type) : (Int × List Int) → ((Int × List Int) → Option Q) → ((List Int) → Option Q) → Option Q
  | (k8, out10), kn, kx =>
    let z_1 : Int := (IntKind.wrap .i64 (k8 + (1 : Int)))
    let z_2 : Nat := ((0 : Nat) + ((Int.toNat k8) * (2 : Nat)))
    let z_3 : Int := (IntKind.wrap .i64 ((3 : Int) - k8))
    bif (decide (k8 < (4 : Int))) then
    bif (d0 == (0 : Int)) then
    bif (inR k8 4) then
    kn (z_1, (splicen 8 out10 z_2 [i1, k8] 2))
    else none
    else bif (d0 == (1 : Int)) then
    bif (inR k8 4) then
    kn (z_1, (splicen 8 out10 z_2 [k8, i1] 2))
    else none
    else bif (d0 == (2 : Int)) then
    bif (inR k8 4) then
    kn (z_1, (splicen 8 out10 z_2 [i1, z_3] 2))
    else none
    else bif (inR k8 4) then
    kn (z_1, (splicen 8 out10 z_2 [z_3, i1] 2))
    else none
    else kx out10
def spec_l2Line_l3 (F : Nat) (d0 : Int) (i1 : Int) (k8 : Int) (out10 : List Int) : Option (List Int) := loopC (spec_l2Line_s3 F d0 i1) F (k8, out10) some
theorem spec_l2Line_s3_nat (F : Nat) (d0 : Int) (i1 : Int) : Natural (spec_l2Line_s3 F d0 i1) := by
  intro Q Q' s kn kx h
  obtain ⟨k8, out10⟩ := s
  simp only [spec_l2Line_s3, cond_bindL, none_bindL]
/-- loop.example/g01194/spec.l2Line -/
def spec_l2Line_c (Q : Type) (F : Nat) (d0 : Int) (i1 : Int) (k : (List Int) → Option Q) : Option Q :=
    let z_1 := (spec_l2Line_l3 F d0 i1 (0 : Int) [(0 : Int), (0 : Int), (0 : Int), (0 : Int), (0 : Int), (0 : Int), (0 : Int), (0 : Int)])
    bif (Option.isSome z_1) then
    k (Option.getD z_1 default)
    else none
def spec_l2Line_p (F : Nat) (d0 : Int) (i1 : Int) : Option (List Int) := spec_l2Line_c _ F d0 i1 some
theorem spec_l2Line_cp (Q : Type) (F : Nat) (d0 : Int) (i1 : Int) (k : (List Int) → Option Q) : spec_l2Line_c Q F d0 i1 k = (spec_l2Line_p F d0 i1).bind k := by
  simp only [spec_l2Line_p, spec_l2Line_c, cond_bindL, none_bindL, some_bindL]

/-- loop.example/g01194/spec.l2At -/
def spec_l2At_c (Q : Type) (b0 : List Int) (cell1 : List Int) (k : (Int) → Option Q) : Option Q :=
    bif (inR (iget cell1 0) 4) then
    bif (inR (iget cell1 1) 4) then
    k (iget b0 (((0 : Nat) + ((Int.toNat (iget cell1 0)) * (4 : Nat))) + ((Int.toNat (iget cell1 1)) * (1 : Nat))))
    else none
    else none
def spec_l2At_p (b0 : List Int) (cell1 : List Int) : Option (Int) := spec_l2At_c _ b0 cell1 some
theorem spec_l2At_cp (Q : Type) (b0 : List Int) (cell1 : List Int) (k : (Int) → Option Q) : spec_l2At_c Q b0 cell1 k = (spec_l2At_p b0 cell1).bind k := by
  simp only [spec_l2At_p, spec_l2At_c, cond_bindL, none_bindL, some_bindL]

/-- loop.example/g01194/spec.l2Numbers -/
def spec_l2Numbers_c (Q : Type) (F : Nat) (b0 : List Int) (d1 : Int) (i2 : Int) (k : (List Int) → Option Q) : Option Q :=
    let z_1 := (spec_l2Line_p F d1 i2)
    let z_2 := (spec_l2At_p b0 (sub (Option.getD z_1 default) 0 2))
    let z_3 := (spec_l2At_p b0 (sub (Option.getD z_1 default) 2 2))
    let z_4 := (spec_l2At_p b0 (sub (Option.getD z_1 default) 4 2))
    let z_5 := (spec_l2At_p b0 (sub (Option.getD z_1 default) 6 2))
    bif (Option.isSome z_1) then
    bif (Option.isSome z_2) then
    bif (Option.isSome z_3) then
    bif (Option.isSome z_4) then
    bif (Option.isSome z_5) then
    k [(Option.getD z_2 default), (Option.getD z_3 default), (Option.getD z_4 default), (Option.getD z_5 default)]
    else none
    else none
    else none
    else none
    else none
def spec_l2Numbers_p (F : Nat) (b0 : List Int) (d1 : Int) (i2 : Int) : Option (List Int) := spec_l2Numbers_c _ F b0 d1 i2 some
theorem spec_l2Numbers_cp (Q : Type) (F : Nat) (b0 : List Int) (d1 : Int) (i2 : Int) (k : (List Int) → Option Q) : spec_l2Numbers_c Q F b0 d1 i2 k = (spec_l2Numbers_p F b0 d1 i2).bind k := by
  simp only [spec_l2Numbers_p, spec_l2Numbers_c, cond_bindL, none_bindL, some_bindL]
end Go.Lv.P
