/-
Pure functions and what the code of them does, by program; without conditions.
-/
import Derived.Test.YtidmlibanopfhaaTGP0
namespace Go.Lv.P
open Go Go.Lv
set_option linter.unusedVariables false
set_option linter.unusedSimpArgs false
set_option maxRecDepth 100000
/-- loop 3 of loop.example/g01194/spec.l8Sure -/
def spec_l8Sure_n1_s3 (F : Nat) (b7 : List Int) (Q : Type) : (Int × Int × Int) → ((Int × Int × Int) → Option Q) → ((Int × Int) → Option Q) → Option Q
  | (best4, first5, d6), kn, kx =>
    let z_1 := (spec_l2Slide_p F b7 d6)
    let z_2 := (Option.getD z_1 default)
    let z_3 : Int := (IntKind.wrap .i64 (d6 + (1 : Int)))
    let z_4 : Int := (IntKind.wrap .i64 (z_2.2 + (0 : Int)))
    bif (decide (d6 < (4 : Int))) then
    bif (Option.isSome z_1) then
    bif (z_2.1 == b7) then
    kn (best4, first5, z_3)
    else bif (Option.isSome (spec_l8Least_n0_p F z_2.1)) then
    bif (decide (first5 < (0 : Int))) then
    kn (z_4, d6, z_3)
    else bif (decide (best4 < z_4)) then
    kn (z_4, d6, z_3)
    else kn (best4, first5, z_3)
    else none
    else none
    else kx (best4, first5)
def spec_l8Sure_n1_l3 (F : Nat) (b7 : List Int) (best4 : Int) (first5 : Int) (d6 : Int) : Option (Int × Int) := loopC (spec_l8Sure_n1_s3 F b7) F (best4, first5, d6) some
theorem spec_l8Sure_n1_s3_nat (F : Nat) (b7 : List Int) : Natural (spec_l8Sure_n1_s3 F b7) := by
  intro Q Q' s kn kx h
  obtain ⟨best4, first5, d6⟩ := s
  simp only [spec_l8Sure_n1_s3, cond_bindL, none_bindL]
/-- loop.example/g01194/spec.l8Sure -/
def spec_l8Sure_n1_c (Q : Type) (F : Nat) (b0 : List Int) (k : (Int × Int) → Option Q) : Option Q :=
    let z_1 := (spec_l8Sure_n1_l3 F b0 (0 : Int) (-1 : Int) (0 : Int))
    let z_2 := (Option.getD z_1 default)
    bif (Option.isSome z_1) then
    k (z_2.1, z_2.2)
    else none
def spec_l8Sure_n1_p (F : Nat) (b0 : List Int) : Option (Int × Int) := spec_l8Sure_n1_c _ F b0 some
theorem spec_l8Sure_n1_cp (Q : Type) (F : Nat) (b0 : List Int) (k : (Int × Int) → Option Q) : spec_l8Sure_n1_c Q F b0 k = (spec_l8Sure_n1_p F b0).bind k := by
  simp only [spec_l8Sure_n1_p, spec_l8Sure_n1_c, cond_bindL, none_bindL, some_bindL]

/-- loop 4 of loop.example/g01194/spec.l8Least -/
def spec_l8Least_n1_s4 (F : Nat) (next14 : List Int) (all16 : List (List Int)) (Q : Type) : (Int × Int × List Int) → ((Int × Int × List Int) → Option Q) → ((Int × List Int) → Option Q) → Option Q
  | (least9, i13, first17), kn, kx =>
    let z_1 : Bool := (inR i13 (List.length all16))
    let z_2 : List Int := (rget all16 ((0 : Nat) + (Int.toNat i13)))
    let z_3 := (spec_l8Put_p next14 z_2)
    let z_4 := (spec_l8Sure_n1_p F (Option.getD z_3 default))
    let z_5 : Int := (IntKind.wrap .i64 (i13 + (1 : Int)))
    bif (decide (i13 < (((List.length all16) : Nat) : Int))) then
    bif z_1 then
    bif (Option.isSome z_3) then
    bif (Option.isSome z_4) then
    bif (i13 == (0 : Int)) then
    bif z_1 then
    kn ((Option.getD z_4 default).1, z_5, z_2)
    else none
    else bif (decide ((Option.getD z_4 default).1 < least9)) then
    bif z_1 then
    kn ((Option.getD z_4 default).1, z_5, z_2)
    else none
    else kn (least9, z_5, first17)
    else none
    else none
    else none
    else kx (least9, first17)
def spec_l8Least_n1_l4 (F : Nat) (next14 : List Int) (all16 : List (List Int)) (least9 : Int) (i13 : Int) (first17 : List Int) : Option (Int × List Int) := loopC (spec_l8Least_n1_s4 F next14 all16) F (least9, i13, first17) some
theorem spec_l8Least_n1_s4_nat (F : Nat) (next14 : List Int) (all16 : List (List Int)) : Natural (spec_l8Least_n1_s4 F next14 all16) := by
  intro Q Q' s kn kx h
  obtain ⟨least9, i13, first17⟩ := s
  simp only [spec_l8Least_n1_s4, cond_bindL, none_bindL]
/-- loop.example/g01194/spec.l8Least -/
def spec_l8Least_n1_c (Q : Type) (F : Nat) (next0 : List Int) (k : (List Int × Int) → Option Q) : Option Q :=
    let z_1 := (spec_l8Places_p F next0)
    let z_2 : Nat := (List.length (Option.getD z_1 default))
    let z_3 := (spec_l8Least_n1_l4 F next0 (Option.getD z_1 default) (0 : Int) (0 : Int) (rget (Option.getD z_1 default) 0))
    let z_4 := (Option.getD z_3 default)
    bif (Option.isSome z_1) then
    bif (inR (0 : Int) z_2) then
    bif ((Nat.beq z_2 z_2) && (Option.isSome z_3)) then
    k (z_4.2, z_4.1)
    else none
    else none
    else none
def spec_l8Least_n1_p (F : Nat) (next0 : List Int) : Option (List Int × Int) := spec_l8Least_n1_c _ F next0 some
theorem spec_l8Least_n1_cp (Q : Type) (F : Nat) (next0 : List Int) (k : (List Int × Int) → Option Q) : spec_l8Least_n1_c Q F next0 k = (spec_l8Least_n1_p F next0).bind k := by
  simp only [spec_l8Least_n1_p, spec_l8Least_n1_c, cond_bindL, none_bindL, some_bindL]

/-- loop 3 of loop.example/g01194/spec.l8Sure -/
def spec_l8Sure_n2_s3 (F : Nat) (b7 : List Int) (Q : Type) : (Int × Int × Int) → ((Int × Int × Int) → Option Q) → ((Int × Int) → Option Q) → Option Q
  | (best4, first5, d6), kn, kx =>
    let z_1 := (spec_l2Slide_p F b7 d6)
    let z_2 := (Option.getD z_1 default)
    let z_3 : Int := (IntKind.wrap .i64 (d6 + (1 : Int)))
    let z_4 := (spec_l8Least_n1_p F z_2.1)
    let z_5 : Int := (IntKind.wrap .i64 (z_2.2 + (Option.getD z_4 default).2))
    bif (decide (d6 < (4 : Int))) then
    bif (Option.isSome z_1) then
    bif (z_2.1 == b7) then
    kn (best4, first5, z_3)
    else bif (Option.isSome z_4) then
    bif (decide (first5 < (0 : Int))) then
    kn (z_5, d6, z_3)
    else bif (decide (best4 < z_5)) then
    kn (z_5, d6, z_3)
    else kn (best4, first5, z_3)
    else none
    else none
    else kx (best4, first5)
def spec_l8Sure_n2_l3 (F : Nat) (b7 : List Int) (best4 : Int) (first5 : Int) (d6 : Int) : Option (Int × Int) := loopC (spec_l8Sure_n2_s3 F b7) F (best4, first5, d6) some
theorem spec_l8Sure_n2_s3_nat (F : Nat) (b7 : List Int) : Natural (spec_l8Sure_n2_s3 F b7) := by
  intro Q Q' s kn kx h
  obtain ⟨best4, first5, d6⟩ := s
  simp only [spec_l8Sure_n2_s3, cond_bindL, none_bindL]
/-- loop.example/g01194/spec.l8Sure -/
def spec_l8Sure_n2_c (Q : Type) (F : Nat) (b0 : List Int) (k : (Int × Int) → Option Q) : Option Q :=
    let z_1 := (spec_l8Sure_n2_l3 F b0 (0 : Int) (-1 : Int) (0 : Int))
    let z_2 := (Option.getD z_1 default)
    bif (Option.isSome z_1) then
    k (z_2.1, z_2.2)
    else none
def spec_l8Sure_n2_p (F : Nat) (b0 : List Int) : Option (Int × Int) := spec_l8Sure_n2_c _ F b0 some
theorem spec_l8Sure_n2_cp (Q : Type) (F : Nat) (b0 : List Int) (k : (Int × Int) → Option Q) : spec_l8Sure_n2_c Q F b0 k = (spec_l8Sure_n2_p F b0).bind k := by
  simp only [spec_l8Sure_n2_p, spec_l8Sure_n2_c, cond_bindL, none_bindL, some_bindL]

/-- loop.example/g01194/spec.l8Sure -/
def spec_l8Sure_c (Q : Type) (F : Nat) (b0 : List Int) (n1 : Int) (k : (Int × Int) → Option Q) : Option Q :=
    let z_1 := (spec_l8Sure_n1_p F b0)
    let z_2 := (Option.getD z_1 default)
    let z_3 := (spec_l8Sure_n2_p F b0)
    let z_4 := (Option.getD z_3 default)
    bif (n1 == (0 : Int)) then
    k ((0 : Int), (-1 : Int))
    else bif (n1 == (1 : Int)) then
    bif (Option.isSome z_1) then
    k (z_2.1, z_2.2)
    else none
    else bif (n1 == (2 : Int)) then
    bif (Option.isSome z_3) then
    k (z_4.1, z_4.2)
    else none
    else none
def spec_l8Sure_p (F : Nat) (b0 : List Int) (n1 : Int) : Option (Int × Int) := spec_l8Sure_c _ F b0 n1 some
theorem spec_l8Sure_cp (Q : Type) (F : Nat) (b0 : List Int) (n1 : Int) (k : (Int × Int) → Option Q) : spec_l8Sure_c Q F b0 n1 k = (spec_l8Sure_p F b0 n1).bind k := by
  simp only [spec_l8Sure_p, spec_l8Sure_c, cond_bindL, none_bindL, some_bindL]

/-- loop.example/g01194/spec.SureScore -/
def spec_SureScore_c (Q : Type) (F : Nat) (b0 : List Int) (n1 : Int) (k : (Int × Bool) → Option Q) : Option Q :=
    let z_1 := (spec_l2Board_p F b0)
    let z_2 := (spec_l8Sure_p F b0 n1)
    bif (Option.isSome z_1) then
    bif (!(Option.getD z_1 default)) then
    k ((0 : Int), false)
    else bif (!(spec_l1In_v n1 (0 : Int) (2 : Int))) then
    k ((0 : Int), false)
    else bif (Option.isSome z_2) then
    k ((Option.getD z_2 default).1, true)
    else none
    else none
def spec_SureScore_p (F : Nat) (b0 : List Int) (n1 : Int) : Option (Int × Bool) := spec_SureScore_c _ F b0 n1 some
theorem spec_SureScore_cp (Q : Type) (F : Nat) (b0 : List Int) (n1 : Int) (k : (Int × Bool) → Option Q) : spec_SureScore_c Q F b0 n1 k = (spec_SureScore_p F b0 n1).bind k := by
  simp only [spec_SureScore_p, spec_SureScore_c, cond_bindL, none_bindL, some_bindL]

/-- loop.example/g01194/impl.in -/
def impl_in_c (Q : Type) (n0 : Int) (low1 : Int) (high2 : Int) (k : (Bool) → Option Q) : Option Q :=
    bif (decide (low1 ≤ n0)) then
    k (decide (n0 ≤ high2))
    else k false
def impl_in_v (n0 : Int) (low1 : Int) (high2 : Int) : Bool :=
    bif (decide (low1 ≤ n0)) then
    (decide (n0 ≤ high2))
    else false
theorem impl_in_cv (Q : Type) (n0 : Int) (low1 : Int) (high2 : Int) (k : (Bool) → Option Q) : impl_in_c Q n0 low1 high2 k = k (impl_in_v n0 low1 high2) := by
  simp only [impl_in_c, impl_in_v, app_condL k]

/-- loop.example/g01194/impl.IsRow$1 -/
def impl_IsRow_f1_c (Q : Type) (n0 : Int) (k : (Bool) → Option Q) : Option Q :=
    k (!(impl_in_v n0 (0 : Int) (17 : Int)))
def impl_IsRow_f1_v (n0 : Int) : Bool :=
    (!(impl_in_v n0 (0 : Int) (17 : Int)))
theorem impl_IsRow_f1_cv (Q : Type) (n0 : Int) (k : (Bool) → Option Q) : impl_IsRow_f1_c Q n0 k = k (impl_IsRow_f1_v n0) := by
  simp only [impl_IsRow_f1_c, impl_IsRow_f1_v, app_condL k]

/-- loop 2 of slices.IndexFunc[[]int,int] -/
def slices_IndexFunc_intint_impl_IsRow_f1_s2 (F : Nat) (s0 : List Int) (t71 : Int) (Q : Type) : (Int) → ((Int) → Option Q) → ((Bool × Int) → Option Q) → Option Q
  | t82, kn, kx =>
    bif (decide (t82 < t71)) then
    bif (inR t82 (List.length s0)) then
    bif (impl_IsRow_f1_v (iget s0 (Int.toNat t82))) then
    kx (true, t82)
    else kn (IntKind.wrap .i64 (t82 + (1 : Int)))
    else none
    else kx (false, default)
def slices_IndexFunc_intint_impl_IsRow_f1_l2 (F : Nat) (s0 : List Int) (t71 : Int) (t82 : Int) : Option (Bool × Int) := loopC (slices_IndexFunc_intint_impl_IsRow_f1_s2 F s0 t71) F t82 some
theorem slices_IndexFunc_intint_impl_IsRow_f1_s2_nat (F : Nat) (s0 : List Int) (t71 : Int) : Natural (slices_IndexFunc_intint_impl_IsRow_f1_s2 F s0 t71) := by
  intro Q Q' s kn kx h
  simp only [slices_IndexFunc_intint_impl_IsRow_f1_s2, cond_bindL, none_bindL]
/-- slices.IndexFunc[[]int,int] -/
def slices_IndexFunc_intint_impl_IsRow_f1_c (Q : Type) (F : Nat) (s0 : List Int) (k : (Int) → Option Q) : Option Q :=
    let z_1 := (slices_IndexFunc_intint_impl_IsRow_f1_l2 F s0 (((List.length s0) : Nat) : Int) (0 : Int))
    let z_2 := (Option.getD z_1 default)
    bif (Option.isSome z_1) then
    bif z_2.1 then
    k z_2.2
    else k (-1 : Int)
    else none
def slices_IndexFunc_intint_impl_IsRow_f1_p (F : Nat) (s0 : List Int) : Option (Int) := slices_IndexFunc_intint_impl_IsRow_f1_c _ F s0 some
theorem slices_IndexFunc_intint_impl_IsRow_f1_cp (Q : Type) (F : Nat) (s0 : List Int) (k : (Int) → Option Q) : slices_IndexFunc_intint_impl_IsRow_f1_c Q F s0 k = (slices_IndexFunc_intint_impl_IsRow_f1_p F s0).bind k := by
  simp only [slices_IndexFunc_intint_impl_IsRow_f1_p, slices_IndexFunc_intint_impl_IsRow_f1_c, cond_bindL, none_bindL, some_bindL]

/-- slices.ContainsFunc[[]int,int] -/
def slices_ContainsFunc_intint_impl_IsRow_f1_c (Q : Type) (F : Nat) (s0 : List Int) (k : (Bool) → Option Q) : Option Q :=
    let z_1 := (slices_IndexFunc_intint_impl_IsRow_f1_p F s0)
    bif (Option.isSome z_1) then
    k (decide ((0 : Int) ≤ (Option.getD z_1 default)))
    else none
def slices_ContainsFunc_intint_impl_IsRow_f1_p (F : Nat) (s0 : List Int) : Option (Bool) := slices_ContainsFunc_intint_impl_IsRow_f1_c _ F s0 some
theorem slices_ContainsFunc_intint_impl_IsRow_f1_cp (Q : Type) (F : Nat) (s0 : List Int) (k : (Bool) → Option Q) : slices_ContainsFunc_intint_impl_IsRow_f1_c Q F s0 k = (slices_ContainsFunc_intint_impl_IsRow_f1_p F s0).bind k := by
  simp only [slices_ContainsFunc_intint_impl_IsRow_f1_p, slices_ContainsFunc_intint_impl_IsRow_f1_c, cond_bindL, none_bindL, some_bindL]

/-- loop.example/g01194/impl.IsRow -/
def impl_IsRow_c (Q : Type) (F : Nat) (row0 : List Int) (k : (Bool) → Option Q) : Option Q :=
    let z_1 := (slices_ContainsFunc_intint_impl_IsRow_f1_p F (sub row0 0 4))
    bif (Option.isSome z_1) then
    k (!(Option.getD z_1 default))
    else none
def impl_IsRow_p (F : Nat) (row0 : List Int) : Option (Bool) := impl_IsRow_c _ F row0 some
theorem impl_IsRow_cp (Q : Type) (F : Nat) (row0 : List Int) (k : (Bool) → Option Q) : impl_IsRow_c Q F row0 k = (impl_IsRow_p F row0).bind k := by
  simp only [impl_IsRow_p, impl_IsRow_c, cond_bindL, none_bindL, some_bindL]

/-- loop.example/g01194/impl.IsBoard$1 -/
def impl_IsBoard_f1_c (Q : Type) (F : Nat) (row0 : List Int) (k : (Bool) → Option Q) : Option Q :=
    let z_1 := (impl_IsRow_p F row0)
    bif (Option.isSome z_1) then
    k (!(Option.getD z_1 default))
    else none
def impl_IsBoard_f1_p (F : Nat) (row0 : List Int) : Option (Bool) := impl_IsBoard_f1_c _ F row0 some
theorem impl_IsBoard_f1_cp (Q : Type) (F : Nat) (row0 : List Int) (k : (Bool) → Option Q) : impl_IsBoard_f1_c Q F row0 k = (impl_IsBoard_f1_p F row0).bind k := by
  simp only [impl_IsBoard_f1_p, impl_IsBoard_f1_c, cond_bindL, none_bindL, some_bindL]

/-- loop 2 of slices.IndexFunc[[][4]int,[4]int] -/
def slices_IndexFunc_4int4int_impl_IsBoard_f1_s2 (F : Nat) (s0 : List (List Int)) (t71 : Int) (Q : Type) : (Int) → ((Int) → Option Q) → ((Bool × Int) → Option Q) → Option Q
  | t82, kn, kx =>
    let z_1 := (impl_IsBoard_f1_p F (rget s0 (Int.toNat t82)))
    bif (decide (t82 < t71)) then
    bif (inR t82 (List.length s0)) then
    bif (Option.isSome z_1) then
    bif (Option.getD z_1 default) then
    kx (true, t82)
    else kn (IntKind.wrap .i64 (t82 + (1 : Int)))
    else none
    else none
    else kx (false, default)
def slices_IndexFunc_4int4int_impl_IsBoard_f1_l2 (F : Nat) (s0 : List (List Int)) (t71 : Int) (t82 : Int) : Option (Bool × Int) := loopC (slices_IndexFunc_4int4int_impl_IsBoard_f1_s2 F s0 t71) F t82 some
theorem slices_IndexFunc_4int4int_impl_IsBoard_f1_s2_nat (F : Nat) (s0 : List (List Int)) (t71 : Int) : Natural (slices_IndexFunc_4int4int_impl_IsBoard_f1_s2 F s0 t71) := by
  intro Q Q' s kn kx h
  simp only [slices_IndexFunc_4int4int_impl_IsBoard_f1_s2, cond_bindL, none_bindL]
/-- slices.IndexFunc[[][4]int,[4]int] -/
def slices_IndexFunc_4int4int_impl_IsBoard_f1_c (Q : Type) (F : Nat) (s0 : List (List Int)) (k : (Int) → Option Q) : Option Q :=
    let z_1 := (slices_IndexFunc_4int4int_impl_IsBoard_f1_l2 F s0 (((List.length s0) : Nat) : Int) (0 : Int))
    let z_2 := (Option.getD z_1 default)
    bif (Option.isSome z_1) then
    bif z_2.1 then
    k z_2.2
    else k (-1 : Int)
    else none
def slices_IndexFunc_4int4int_impl_IsBoard_f1_p (F : Nat) (s0 : List (List Int)) : Option (Int) := slices_IndexFunc_4int4int_impl_IsBoard_f1_c _ F s0 some
theorem slices_IndexFunc_4int4int_impl_IsBoard_f1_cp (Q : Type) (F : Nat) (s0 : List (List Int)) (k : (Int) → Option Q) : slices_IndexFunc_4int4int_impl_IsBoard_f1_c Q F s0 k = (slices_IndexFunc_4int4int_impl_IsBoard_f1_p F s0).bind k := by
  simp only [slices_IndexFunc_4int4int_impl_IsBoard_f1_p, slices_IndexFunc_4int4int_impl_IsBoard_f1_c, cond_bindL, none_bindL, some_bindL]

/-- slices.ContainsFunc[[][4]int,[4]int] -/
def slices_ContainsFunc_4int4int_impl_IsBoard_f1_c (Q : Type) (F : Nat) (s0 : List (List Int)) (k : (Bool) → Option Q) : Option Q :=
    let z_1 := (slices_IndexFunc_4int4int_impl_IsBoard_f1_p F s0)
    bif (Option.isSome z_1) then
    k (decide ((0 : Int) ≤ (Option.getD z_1 default)))
    else none
def slices_ContainsFunc_4int4int_impl_IsBoard_f1_p (F : Nat) (s0 : List (List Int)) : Option (Bool) := slices_ContainsFunc_4int4int_impl_IsBoard_f1_c _ F s0 some
theorem slices_ContainsFunc_4int4int_impl_IsBoard_f1_cp (Q : Type) (F : Nat) (s0 : List (List Int)) (k : (Bool) → Option Q) : slices_ContainsFunc_4int4int_impl_IsBoard_f1_c Q F s0 k = (slices_ContainsFunc_4int4int_impl_IsBoard_f1_p F s0).bind k := by
  simp only [slices_ContainsFunc_4int4int_impl_IsBoard_f1_p, slices_ContainsFunc_4int4int_impl_IsBoard_f1_c, cond_bindL, none_bindL, some_bindL]

/-- loop.example/g01194/impl.IsBoard -/
def impl_IsBoard_c (Q : Type) (F : Nat) (b0 : List Int) (k : (Bool) → Option Q) : Option Q :=
    let z_1 := (slices_ContainsFunc_4int4int_impl_IsBoard_f1_p F [(sub b0 0 4), (sub b0 4 4), (sub b0 8 4), (sub b0 12 4)])
    bif (Option.isSome z_1) then
    k (!(Option.getD z_1 default))
    else none
def impl_IsBoard_p (F : Nat) (b0 : List Int) : Option (Bool) := impl_IsBoard_c _ F b0 some
theorem impl_IsBoard_cp (Q : Type) (F : Nat) (b0 : List Int) (k : (Bool) → Option Q) : impl_IsBoard_c Q F b0 k = (impl_IsBoard_p F b0).bind k := by
  simp only [impl_IsBoard_p, impl_IsBoard_c, cond_bindL, none_bindL, some_bindL]

/-- (loop.example/g01194/impl.Board).sure -/
def impl_Board_sure_n0_c (Q : Type) (b0 : List Int) (k : (Unit) → Option Q) : Option Q :=
    k ()
def impl_Board_sure_n0_v (b0 : List Int) : Unit :=
    ()
theorem impl_Board_sure_n0_cv (Q : Type) (b0 : List Int) (k : (Unit) → Option Q) : impl_Board_sure_n0_c Q b0 k = k (impl_Board_sure_n0_v b0) := by
  simp only [impl_Board_sure_n0_c, impl_Board_sure_n0_v, app_condL k]

/-- loop.example/g01194/impl.lineCell -/
def impl_lineCell_c (Q : Type) (direction0 : Int) (i1 : Int) (k2 : Int) (k : (List Int) → Option Q) : Option Q :=
    let z_1 : Int := (IntKind.wrap .i64 ((3 : Int) - k2))
    bif (direction0 == (0 : Int)) then
    k [i1, k2]
    else bif (direction0 == (1 : Int)) then
    k [k2, i1]
    else bif (direction0 == (2 : Int)) then
    k [i1, z_1]
    else k [z_1, i1]
def impl_lineCell_v (direction0 : Int) (i1 : Int) (k2 : Int) : List Int :=
    let z_1 : Int := (IntKind.wrap .i64 ((3 : Int) - k2))
    bif (direction0 == (0 : Int)) then
    [i1, k2]
    else bif (direction0 == (1 : Int)) then
    [k2, i1]
    else bif (direction0 == (2 : Int)) then
    [i1, z_1]
    else [z_1, i1]
theorem impl_lineCell_cv (Q : Type) (direction0 : Int) (i1 : Int) (k2 : Int) (k : (List Int) → Option Q) : impl_lineCell_c Q direction0 i1 k2 k = k (impl_lineCell_v direction0 i1 k2) := by
  simp only [impl_lineCell_c, impl_lineCell_v, app_condL k]

/-- (*loop.example/g01194/impl.Board).at -/
def impl_Board_at_c (Q : Type) (cell3 : List Int) (b4 : List Int) (k : (Nat) → Option Q) : Option Q :=
    bif (inR (iget cell3 0) 4) then
    bif (inR (iget cell3 1) 4) then
    k (((0 : Nat) + ((Int.toNat (iget cell3 0)) * (4 : Nat))) + ((Int.toNat (iget cell3 1)) * (1 : Nat)))
    else none
    else none
def impl_Board_at_p (cell3 : List Int) (b4 : List Int) : Option (Nat) := impl_Board_at_c _ cell3 b4 some
theorem impl_Board_at_cp (Q : Type) (cell3 : List Int) (b4 : List Int) (k : (Nat) → Option Q) : impl_Board_at_c Q cell3 b4 k = (impl_Board_at_p cell3 b4).bind k := by
  simp only [impl_Board_at_p, impl_Board_at_c, cond_bindL, none_bindL, some_bindL]

/-- (loop.example/g01194/impl.Board).line -/
def impl_Board_line_c (Q : Type) (b0 : List Int) (direction1 : Int) (i2 : Int) (k : (List Int) → Option Q) : Option Q :=
    let z_1 := (impl_Board_at_p (impl_lineCell_v direction1 i2 (0 : Int)) b0)
    let z_2 := (impl_Board_at_p (impl_lineCell_v direction1 i2 (1 : Int)) b0)
    let z_3 := (impl_Board_at_p (impl_lineCell_v direction1 i2 (2 : Int)) b0)
    let z_4 := (impl_Board_at_p (impl_lineCell_v direction1 i2 (3 : Int)) b0)
    bif (Option.isSome z_1) then
    bif (Option.isSome z_2) then
    bif (Option.isSome z_3) then
    bif (Option.isSome z_4) then
    k [(iget b0 (Option.getD z_1 default)), (iget b0 (Option.getD z_2 default)), (iget b0 (Option.getD z_3 default)), (iget b0 (Option.getD z_4 default))]
    else none
    else none
    else none
    else none
def impl_Board_line_p (b0 : List Int) (direction1 : Int) (i2 : Int) : Option (List Int) := impl_Board_line_c _ b0 direction1 i2 some
theorem impl_Board_line_cp (Q : Type) (b0 : List Int) (direction1 : Int) (i2 : Int) (k : (List Int) → Option Q) : impl_Board_line_c Q b0 direction1 i2 k = (impl_Board_line_p b0 direction1 i2).bind k := by
  simp only [impl_Board_line_p, impl_Board_line_c, cond_bindL, none_bindL, some_bindL]


/-- loop.example/g01194/impl.tiles$1 -/
def impl_tiles_f1_c (Q : Type) (n0 : Int) (k : (Bool) → Option Q) : Option Q :=
    k (n0 == (0 : Int))
def impl_tiles_f1_v (n0 : Int) : Bool :=
    (n0 == (0 : Int))
theorem impl_tiles_f1_cv (Q : Type) (n0 : Int) (k : (Bool) → Option Q) : impl_tiles_f1_c Q n0 k = k (impl_tiles_f1_v n0) := by
  simp only [impl_tiles_f1_c, impl_tiles_f1_v, app_condL k]
end Go.Lv.P
