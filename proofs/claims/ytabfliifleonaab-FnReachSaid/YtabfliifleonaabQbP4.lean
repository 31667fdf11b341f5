/-
Pure functions and what the code of them does, by program; without conditions.
-/
import Derived.Test.YtabfliifleonaabQbP3
namespace Go.Lv.P
open Go Go.Lv
set_option linter.unusedVariables false
set_option linter.unusedSimpArgs false
set_option maxRecDepth 100000
/-- loop.example/g01194/spec.FewestSlides -/
def spec_FewestSlides_c (Q : Type) (F : Nat) (a0 : List Int) (b1 : List Int) (k : (Int × Bool) → Option Q) : Option Q :=
    let z_1 := (spec_l2Board_p F a0)
    let z_2 := (spec_l2Board_p F b1)
    let z_3 := (spec_l5Fewest_p F a0 b1 (6 : Int))
    bif (Option.isSome z_1) then
    bif (!(Option.getD z_1 default)) then
    k ((0 : Int), false)
    else bif (Option.isSome z_2) then
    bif (!(Option.getD z_2 default)) then
    k ((0 : Int), false)
    else bif (Option.isSome z_3) then
    k ((spec_l1Most_v (Option.getD z_3 default) (0 : Int)), (decide ((0 : Int) ≤ (Option.getD z_3 default))))
    else none
    else none
    else none
def spec_FewestSlides_p (F : Nat) (a0 : List Int) (b1 : List Int) : Option (Int × Bool) := spec_FewestSlides_c _ F a0 b1 some
theorem spec_FewestSlides_cp (Q : Type) (F : Nat) (a0 : List Int) (b1 : List Int) (k : (Int × Bool) → Option Q) : spec_FewestSlides_c Q F a0 b1 k = (spec_FewestSlides_p F a0 b1).bind k := by
  simp only [spec_FewestSlides_p, spec_FewestSlides_c, cond_bindL, none_bindL, some_bindL]

/-- loop.example/g01194/impl.FirstSlides -/
def impl_FirstSlides_c (Q : Type) (F : Nat) (a0 : List Int) (b1 : List Int) (k : (Bool × List Int) → Option Q) : Option Q :=
    let z_1 := (impl_Board_roadTo_p F a0 b1)
    let z_2 := (Option.getD z_1 default)
    bif (Option.isSome z_1) then
    bif (fits (List.length z_2.1) 8) then
    k (z_2.2, z_2.1)
    else none
    else none
def impl_FirstSlides_p (F : Nat) (a0 : List Int) (b1 : List Int) : Option (Bool × List Int) := impl_FirstSlides_c _ F a0 b1 some
theorem impl_FirstSlides_cp (Q : Type) (F : Nat) (a0 : List Int) (b1 : List Int) (k : (Bool × List Int) → Option Q) : impl_FirstSlides_c Q F a0 b1 k = (impl_FirstSlides_p F a0 b1).bind k := by
  simp only [impl_FirstSlides_p, impl_FirstSlides_c, cond_bindL, none_bindL, some_bindL]

/-- loop 8 of loop.example/g01194/spec.FirstSlides -/
def spec_FirstSlides_s8 (F : Nat) (n8 : Int) (a10 : List Int) (b11 : List Int) (out12 : List Int) (Q : Type) : (Int) → ((Int) → Option Q) → ((List Int × List Int) → Option Q) → Option Q
  | d9, kn, kx =>
    let z_1 := (spec_l2Slide_p F a10 d9)
    let z_2 : Int := (IntKind.wrap .i64 (n8 - (1 : Int)))
    let z_3 := (spec_l5Fewest_p F (Option.getD z_1 default).1 b11 z_2)
    let z_4 : List Int := ((subn (List.length out12) out12 0 (List.length out12)) ++ [d9])
    bif (decide (d9 < (4 : Int))) then
    bif (Option.isSome z_1) then
    bif (Option.isSome z_3) then
    bif ((Option.getD z_3 default) == z_2) then
    bif (fits (List.length z_4) 8) then
    kx ((Option.getD z_1 default).1, z_4)
    else none
    else kn (IntKind.wrap .i64 (d9 + (1 : Int)))
    else none
    else none
    else kx (a10, out12)
def spec_FirstSlides_l8 (F : Nat) (n8 : Int) (a10 : List Int) (b11 : List Int) (out12 : List Int) (d9 : Int) : Option (List Int × List Int) := loopC (spec_FirstSlides_s8 F n8 a10 b11 out12) F d9 some
theorem spec_FirstSlides_s8_nat (F : Nat) (n8 : Int) (a10 : List Int) (b11 : List Int) (out12 : List Int) : Natural (spec_FirstSlides_s8 F n8 a10 b11 out12) := by
  intro Q Q' s kn kx h
  simp only [spec_FirstSlides_s8, cond_bindL, none_bindL]
/-- loop 5 of loop.example/g01194/spec.FirstSlides -/
def spec_FirstSlides_s5 (F : Nat) (b10 : List Int) (Q : Type) : (Int × List Int × List Int) → ((Int × List Int × List Int) → Option Q) → ((List Int) → Option Q) → Option Q
  | (n8, a9, out11), kn, kx =>
    let z_1 := (spec_FirstSlides_l8 F n8 a9 b10 out11 (0 : Int))
    let z_2 := (Option.getD z_1 default)
    bif (decide ((0 : Int) < n8)) then
    bif ((Nat.beq (List.length out11) (List.length out11)) && (Option.isSome z_1)) then
    kn ((IntKind.wrap .i64 (n8 - (1 : Int))), z_2.1, z_2.2)
    else none
    else kx out11
def spec_FirstSlides_l5 (F : Nat) (b10 : List Int) (n8 : Int) (a9 : List Int) (out11 : List Int) : Option (List Int) := loopC (spec_FirstSlides_s5 F b10) F (n8, a9, out11) some
theorem spec_FirstSlides_s5_nat (F : Nat) (b10 : List Int) : Natural (spec_FirstSlides_s5 F b10) := by
  intro Q Q' s kn kx h
  obtain ⟨n8, a9, out11⟩ := s
  simp only [spec_FirstSlides_s5, cond_bindL, none_bindL]
/-- loop.example/g01194/spec.FirstSlides -/
def spec_FirstSlides_c (Q : Type) (F : Nat) (a0 : List Int) (b1 : List Int) (k : (Bool × List Int) → Option Q) : Option Q :=
    let z_1 := (spec_FewestSlides_p F a0 b1)
    let z_2 := (Option.getD z_1 default)
    let z_3 := (spec_FirstSlides_l5 F b1 z_2.1 a0 ([] : List Int))
    bif (Option.isSome z_1) then
    bif (!z_2.2) then
    k (false, ([] : List Int))
    else bif (Option.isSome z_3) then
    k (true, (Option.getD z_3 default))
    else none
    else none
def spec_FirstSlides_p (F : Nat) (a0 : List Int) (b1 : List Int) : Option (Bool × List Int) := spec_FirstSlides_c _ F a0 b1 some
theorem spec_FirstSlides_cp (Q : Type) (F : Nat) (a0 : List Int) (b1 : List Int) (k : (Bool × List Int) → Option Q) : spec_FirstSlides_c Q F a0 b1 k = (spec_FirstSlides_p F a0 b1).bind k := by
  simp only [spec_FirstSlides_p, spec_FirstSlides_c, cond_bindL, none_bindL, some_bindL]

/-- loop 4 of loop.example/g01194/laws.vBoards -/
def laws_vBoards_s4 (F : Nat) (a0 : List (List Int)) (b1 : List (List Int)) (Q : Type) : (Int) → ((Int) → Option Q) → ((Bool) → Option Q) → Option Q
  | i2, kn, kx =>
    bif (decide (i2 < (((List.length a0) : Nat) : Int))) then
    bif (inR i2 (List.length a0)) then
    bif (inR i2 (List.length b1)) then
    bif (!((rget a0 (Int.toNat i2)) == (rget b1 (Int.toNat i2)))) then
    kx true
    else kn (IntKind.wrap .i64 (i2 + (1 : Int)))
    else none
    else none
    else kx false
def laws_vBoards_l4 (F : Nat) (a0 : List (List Int)) (b1 : List (List Int)) (i2 : Int) : Option (Bool) := loopC (laws_vBoards_s4 F a0 b1) F i2 some
theorem laws_vBoards_s4_nat (F : Nat) (a0 : List (List Int)) (b1 : List (List Int)) : Natural (laws_vBoards_s4 F a0 b1) := by
  intro Q Q' s kn kx h
  simp only [laws_vBoards_s4, cond_bindL, none_bindL]
/-- loop.example/g01194/laws.vBoards -/
def laws_vBoards_c (Q : Type) (F : Nat) (a0 : List (List Int)) (b1 : List (List Int)) (k : (Bool) → Option Q) : Option Q :=
    let z_1 := (laws_vBoards_l4 F a0 b1 (0 : Int))
    bif (!((((List.length a0) : Nat) : Int) == (((List.length b1) : Nat) : Int))) then
    k false
    else bif (Option.isSome z_1) then
    bif (Option.getD z_1 default) then
    k false
    else k true
    else none
def laws_vBoards_p (F : Nat) (a0 : List (List Int)) (b1 : List (List Int)) : Option (Bool) := laws_vBoards_c _ F a0 b1 some
theorem laws_vBoards_cp (Q : Type) (F : Nat) (a0 : List (List Int)) (b1 : List (List Int)) (k : (Bool) → Option Q) : laws_vBoards_c Q F a0 b1 k = (laws_vBoards_p F a0 b1).bind k := by
  simp only [laws_vBoards_p, laws_vBoards_c, cond_bindL, none_bindL, some_bindL]

/-- loop 4 of loop.example/g01194/laws.vInts -/
def laws_vInts_s4 (F : Nat) (a0 : List Int) (b1 : List Int) (Q : Type) : (Int) → ((Int) → Option Q) → ((Bool) → Option Q) → Option Q
  | i2, kn, kx =>
    bif (decide (i2 < (((List.length a0) : Nat) : Int))) then
    bif (inR i2 (List.length a0)) then
    bif (inR i2 (List.length b1)) then
    bif (!((iget a0 (Int.toNat i2)) == (iget b1 (Int.toNat i2)))) then
    kx true
    else kn (IntKind.wrap .i64 (i2 + (1 : Int)))
    else none
    else none
    else kx false
def laws_vInts_l4 (F : Nat) (a0 : List Int) (b1 : List Int) (i2 : Int) : Option (Bool) := loopC (laws_vInts_s4 F a0 b1) F i2 some
theorem laws_vInts_s4_nat (F : Nat) (a0 : List Int) (b1 : List Int) : Natural (laws_vInts_s4 F a0 b1) := by
  intro Q Q' s kn kx h
  simp only [laws_vInts_s4, cond_bindL, none_bindL]
/-- loop.example/g01194/laws.vInts -/
def laws_vInts_c (Q : Type) (F : Nat) (a0 : List Int) (b1 : List Int) (k : (Bool) → Option Q) : Option Q :=
    let z_1 := (laws_vInts_l4 F a0 b1 (0 : Int))
    bif (!((((List.length a0) : Nat) : Int) == (((List.length b1) : Nat) : Int))) then
    k false
    else bif (Option.isSome z_1) then
    bif (Option.getD z_1 default) then
    k false
    else k true
    else none
def laws_vInts_p (F : Nat) (a0 : List Int) (b1 : List Int) : Option (Bool) := laws_vInts_c _ F a0 b1 some
theorem laws_vInts_cp (Q : Type) (F : Nat) (a0 : List Int) (b1 : List Int) (k : (Bool) → Option Q) : laws_vInts_c Q F a0 b1 k = (laws_vInts_p F a0 b1).bind k := by
  simp only [laws_vInts_p, laws_vInts_c, cond_bindL, none_bindL, some_bindL]

/-- loop.example/g01194/impl.isDirection -/
def impl_isDirection_c (Q : Type) (d0 : Int) (k : (Bool) → Option Q) : Option Q :=
    k (impl_in_v d0 (0 : Int) (3 : Int))
def impl_isDirection_v (d0 : Int) : Bool :=
    (impl_in_v d0 (0 : Int) (3 : Int))
theorem impl_isDirection_cv (Q : Type) (d0 : Int) (k : (Bool) → Option Q) : impl_isDirection_c Q d0 k = k (impl_isDirection_v d0) := by
  simp only [impl_isDirection_c, impl_isDirection_v, app_condL k]

/-- loop.example/g01194/impl.areDirections$1 -/
def impl_areDirections_f1_c (Q : Type) (d0 : Int) (k : (Bool) → Option Q) : Option Q :=
    k (!(impl_isDirection_v d0))
def impl_areDirections_f1_v (d0 : Int) : Bool :=
    (!(impl_isDirection_v d0))
theorem impl_areDirections_f1_cv (Q : Type) (d0 : Int) (k : (Bool) → Option Q) : impl_areDirections_f1_c Q d0 k = k (impl_areDirections_f1_v d0) := by
  simp only [impl_areDirections_f1_c, impl_areDirections_f1_v, app_condL k]

/-- loop 2 of slices.IndexFunc[[]int,int] -/
def slices_IndexFunc_intint_impl_areDirections_f1_s2 (F : Nat) (s0 : List Int) (t71 : Int) (Q : Type) : (Int) → ((Int) → Option Q) → ((Bool × Int) → Option Q) → Option Q
  | t82, kn, kx =>
    bif (decide (t82 < t71)) then
    bif (inR t82 (List.length s0)) then
    bif (impl_areDirections_f1_v (iget s0 (Int.toNat t82))) then
    kx (true, t82)
    else kn (IntKind.wrap .i64 (t82 + (1 : Int)))
    else none
    else kx (false, default)
def slices_IndexFunc_intint_impl_areDirections_f1_l2 (F : Nat) (s0 : List Int) (t71 : Int) (t82 : Int) : Option (Bool × Int) := loopC (slices_IndexFunc_intint_impl_areDirections_f1_s2 F s0 t71) F t82 some
theorem slices_IndexFunc_intint_impl_areDirections_f1_s2_nat (F : Nat) (s0 : List Int) (t71 : Int) : Natural (slices_IndexFunc_intint_impl_areDirections_f1_s2 F s0 t71) := by
  intro Q Q' s kn kx h
  simp only [slices_IndexFunc_intint_impl_areDirections_f1_s2, cond_bindL, none_bindL]
/-- slices.IndexFunc[[]int,int] -/
def slices_IndexFunc_intint_impl_areDirections_f1_c (Q : Type) (F : Nat) (s0 : List Int) (k : (Int) → Option Q) : Option Q :=
    let z_1 := (slices_IndexFunc_intint_impl_areDirections_f1_l2 F s0 (((List.length s0) : Nat) : Int) (0 : Int))
    let z_2 := (Option.getD z_1 default)
    bif (Option.isSome z_1) then
    bif z_2.1 then
    k z_2.2
    else k (-1 : Int)
    else none
def slices_IndexFunc_intint_impl_areDirections_f1_p (F : Nat) (s0 : List Int) : Option (Int) := slices_IndexFunc_intint_impl_areDirections_f1_c _ F s0 some
theorem slices_IndexFunc_intint_impl_areDirections_f1_cp (Q : Type) (F : Nat) (s0 : List Int) (k : (Int) → Option Q) : slices_IndexFunc_intint_impl_areDirections_f1_c Q F s0 k = (slices_IndexFunc_intint_impl_areDirections_f1_p F s0).bind k := by
  simp only [slices_IndexFunc_intint_impl_areDirections_f1_p, slices_IndexFunc_intint_impl_areDirections_f1_c, cond_bindL, none_bindL, some_bindL]

/-- slices.ContainsFunc[[]int,int] -/
def slices_ContainsFunc_intint_impl_areDirections_f1_c (Q : Type) (F : Nat) (s0 : List Int) (k : (Bool) → Option Q) : Option Q :=
    let z_1 := (slices_IndexFunc_intint_impl_areDirections_f1_p F s0)
    bif (Option.isSome z_1) then
    k (decide ((0 : Int) ≤ (Option.getD z_1 default)))
    else none
def slices_ContainsFunc_intint_impl_areDirections_f1_p (F : Nat) (s0 : List Int) : Option (Bool) := slices_ContainsFunc_intint_impl_areDirections_f1_c _ F s0 some
theorem slices_ContainsFunc_intint_impl_areDirections_f1_cp (Q : Type) (F : Nat) (s0 : List Int) (k : (Bool) → Option Q) : slices_ContainsFunc_intint_impl_areDirections_f1_c Q F s0 k = (slices_ContainsFunc_intint_impl_areDirections_f1_p F s0).bind k := by
  simp only [slices_ContainsFunc_intint_impl_areDirections_f1_p, slices_ContainsFunc_intint_impl_areDirections_f1_c, cond_bindL, none_bindL, some_bindL]

/-- loop.example/g01194/impl.areDirections -/
def impl_areDirections_c (Q : Type) (F : Nat) (list0 : List Int) (k : (Bool) → Option Q) : Option Q :=
    let z_1 := (slices_ContainsFunc_intint_impl_areDirections_f1_p F list0)
    bif (Option.isSome z_1) then
    k (!(Option.getD z_1 default))
    else none
def impl_areDirections_p (F : Nat) (list0 : List Int) : Option (Bool) := impl_areDirections_c _ F list0 some
theorem impl_areDirections_cp (Q : Type) (F : Nat) (list0 : List Int) (k : (Bool) → Option Q) : impl_areDirections_c Q F list0 k = (impl_areDirections_p F list0).bind k := by
  simp only [impl_areDirections_p, impl_areDirections_c, cond_bindL, none_bindL, some_bindL]

/-- loop 5 of loop.example/g01194/impl.DoSlides -/
def impl_DoSlides_s5 (F : Nat) (t227 : List Int) (t238 : Int) (Q : Type) : (Int × Int × List Int) → ((Int × Int × List Int) → Option Q) → ((Int × List Int) → Option Q) → Option Q
  | (sum6, t249, b10), kn, kx =>
    let z_1 := (impl_Board_slide_p F b10 (iget t227 (Int.toNat t249)))
    let z_2 := (Option.getD z_1 default)
    bif (decide (t249 < t238)) then
    bif (inR t249 (List.length t227)) then
    bif (Option.isSome z_1) then
    kn ((IntKind.wrap .i64 (sum6 + z_2.2.1)), (IntKind.wrap .i64 (t249 + (1 : Int))), z_2.1)
    else none
    else none
    else kx (sum6, b10)
def impl_DoSlides_l5 (F : Nat) (t227 : List Int) (t238 : Int) (sum6 : Int) (t249 : Int) (b10 : List Int) : Option (Int × List Int) := loopC (impl_DoSlides_s5 F t227 t238) F (sum6, t249, b10) some
theorem impl_DoSlides_s5_nat (F : Nat) (t227 : List Int) (t238 : Int) : Natural (impl_DoSlides_s5 F t227 t238) := by
  intro Q Q' s kn kx h
  obtain ⟨sum6, t249, b10⟩ := s
  simp only [impl_DoSlides_s5, cond_bindL, none_bindL]
/-- loop.example/g01194/impl.DoSlides -/
def impl_DoSlides_c (Q : Type) (F : Nat) (b0 : List Int) (list1 : List Int) (k : (List Int × Int × Bool) → Option Q) : Option Q :=
    let z_1 := (impl_IsBoard_p F b0)
    let z_2 : List Int := [(0 : Int), (0 : Int), (0 : Int), (0 : Int), (0 : Int), (0 : Int), (0 : Int), (0 : Int), (0 : Int), (0 : Int), (0 : Int), (0 : Int), (0 : Int), (0 : Int), (0 : Int), (0 : Int)]
    let z_3 := (impl_areDirections_p F list1)
    let z_4 := (impl_DoSlides_l5 F list1 (((List.length list1) : Nat) : Int) (0 : Int) (0 : Int) b0)
    let z_5 := (Option.getD z_4 default)
    bif (Option.isSome z_1) then
    bif (!(Option.getD z_1 default)) then
    k (z_2, (0 : Int), false)
    else bif (Option.isSome z_3) then
    bif (!(Option.getD z_3 default)) then
    k (z_2, (0 : Int), false)
    else bif (Option.isSome z_4) then
    k (z_5.2, z_5.1, true)
    else none
    else none
    else none
def impl_DoSlides_p (F : Nat) (b0 : List Int) (list1 : List Int) : Option (List Int × Int × Bool) := impl_DoSlides_c _ F b0 list1 some
theorem impl_DoSlides_cp (Q : Type) (F : Nat) (b0 : List Int) (list1 : List Int) (k : (List Int × Int × Bool) → Option Q) : impl_DoSlides_c Q F b0 list1 k = (impl_DoSlides_p F b0 list1).bind k := by
  simp only [impl_DoSlides_p, impl_DoSlides_c, cond_bindL, none_bindL, some_bindL]

/-- loop.example/g01194/impl.SumOf -/
def impl_SumOf_c (Q : Type) (F : Nat) (b0 : List Int) (k : (Int × Bool) → Option Q) : Option Q :=
    let z_1 := (impl_IsBoard_p F b0)
    bif (Option.isSome z_1) then
    bif (!(Option.getD z_1 default)) then
    k ((0 : Int), false)
    else bif (Option.isSome (impl_Board_sum_p b0)) then
    k ((Option.getD (impl_Board_sum_p b0) default), true)
    else none
    else none
def impl_SumOf_p (F : Nat) (b0 : List Int) : Option (Int × Bool) := impl_SumOf_c _ F b0 some
theorem impl_SumOf_cp (Q : Type) (F : Nat) (b0 : List Int) (k : (Int × Bool) → Option Q) : impl_SumOf_c Q F b0 k = (impl_SumOf_p F b0).bind k := by
  simp only [impl_SumOf_p, impl_SumOf_c, cond_bindL, none_bindL, some_bindL]

/-- loop.example/g01194/impl.LessBoard -/
def impl_LessBoard_c (Q : Type) (F : Nat) (a0 : List Int) (b1 : List Int) (k : (Bool × Bool) → Option Q) : Option Q :=
    let z_1 := (impl_IsBoard_p F a0)
    let z_2 := (impl_IsBoard_p F b1)
    let z_3 := (impl_Board_order_p F a0 b1)
    bif (Option.isSome z_1) then
    bif (!(Option.getD z_1 default)) then
    k (false, false)
    else bif (Option.isSome z_2) then
    bif (!(Option.getD z_2 default)) then
    k (false, false)
    else bif (Option.isSome z_3) then
    k ((decide ((Option.getD z_3 default) < (0 : Int))), true)
    else none
    else none
    else none
def impl_LessBoard_p (F : Nat) (a0 : List Int) (b1 : List Int) : Option (Bool × Bool) := impl_LessBoard_c _ F a0 b1 some
theorem impl_LessBoard_cp (Q : Type) (F : Nat) (a0 : List Int) (b1 : List Int) (k : (Bool × Bool) → Option Q) : impl_LessBoard_c Q F a0 b1 k = (impl_LessBoard_p F a0 b1).bind k := by
  simp only [impl_LessBoard_p, impl_LessBoard_c, cond_bindL, none_bindL, some_bindL]
end Go.Lv.P
