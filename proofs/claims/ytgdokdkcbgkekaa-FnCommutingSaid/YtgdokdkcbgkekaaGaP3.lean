/-
Pure functions and what the code of them does, by program; without conditions.
-/
import Derived.Test.YtgdokdkcbgkekaaGaP2
namespace Go.Lv.P
open Go Go.Lv
set_option linter.unusedVariables false
set_option linter.unusedSimpArgs false
set_option maxRecDepth 100000
/-- loop.example/g01194/spec.DrawCommutingPairs -/
def spec_DrawCommutingPairs_c (Q : Type) (F : Nat) (code0 : List Int) (k : (List Int) → Option Q) : Option Q :=
    let z_1 := (spec_DrawFirstForm_p F code0)
    bif (Option.isSome z_1) then
    k (Option.getD z_1 default)
    else none
def spec_DrawCommutingPairs_p (F : Nat) (code0 : List Int) : Option (List Int) := spec_DrawCommutingPairs_c _ F code0 some
theorem spec_DrawCommutingPairs_cp (Q : Type) (F : Nat) (code0 : List Int) (k : (List Int) → Option Q) : spec_DrawCommutingPairs_c Q F code0 k = (spec_DrawCommutingPairs_p F code0).bind k := by
  simp only [spec_DrawCommutingPairs_p, spec_DrawCommutingPairs_c, cond_bindL, none_bindL, some_bindL]

/-- loop 8 of loop.example/g01194/impl.CommutingPairs -/
def impl_CommutingPairs_s8 (F : Nat) (d5 : Int) (t117 : Int) (b8 : List Int) (Q : Type) : (Int × List (List Int)) → ((Int × List (List Int)) → Option Q) → ((List (List Int)) → Option Q) → Option Q
  | (e6, out9), kn, kx =>
    let z_1 := (impl_Board_slides_p F b8 [d5, e6])
    let z_2 := (impl_Board_slides_p F b8 [e6, d5])
    let z_3 : List (List Int) := ((subn (List.length out9) out9 0 (List.length out9)) ++ [[d5, e6]])
    let z_4 : Int := (IntKind.wrap .i64 (e6 + (1 : Int)))
    bif (decide (e6 < (4 : Int))) then
    bif (Option.isSome z_1) then
    bif (Option.isSome z_2) then
    bif ((Option.getD z_1 default) == (Option.getD z_2 default)) then
    bif (fits (List.length z_3) 16) then
    kn (z_4, z_3)
    else none
    else kn (z_4, out9)
    else none
    else none
    else kx out9
def impl_CommutingPairs_l8 (F : Nat) (d5 : Int) (t117 : Int) (b8 : List Int) (e6 : Int) (out9 : List (List Int)) : Option (List (List Int)) := loopC (impl_CommutingPairs_s8 F d5 t117 b8) F (e6, out9) some
theorem impl_CommutingPairs_s8_nat (F : Nat) (d5 : Int) (t117 : Int) (b8 : List Int) : Natural (impl_CommutingPairs_s8 F d5 t117 b8) := by
  intro Q Q' s kn kx h
  obtain ⟨e6, out9⟩ := s
  simp only [impl_CommutingPairs_s8, cond_bindL, none_bindL]
/-- loop 5 of loop.example/g01194/impl.CommutingPairs -/
def impl_CommutingPairs_s5 (F : Nat) (b6 : List Int) (Q : Type) : (Int × List (List Int)) → ((Int × List (List Int)) → Option Q) → ((List (List Int)) → Option Q) → Option Q
  | (t115, out7), kn, kx =>
    let z_1 : Int := (IntKind.wrap .i64 (t115 + (1 : Int)))
    let z_2 := (impl_CommutingPairs_l8 F t115 t115 b6 z_1 out7)
    bif (decide (t115 < (4 : Int))) then
    bif ((Nat.beq (List.length out7) (List.length out7)) && (Option.isSome z_2)) then
    kn (z_1, (Option.getD z_2 default))
    else none
    else kx out7
def impl_CommutingPairs_l5 (F : Nat) (b6 : List Int) (t115 : Int) (out7 : List (List Int)) : Option (List (List Int)) := loopC (impl_CommutingPairs_s5 F b6) F (t115, out7) some
theorem impl_CommutingPairs_s5_nat (F : Nat) (b6 : List Int) : Natural (impl_CommutingPairs_s5 F b6) := by
  intro Q Q' s kn kx h
  obtain ⟨t115, out7⟩ := s
  simp only [impl_CommutingPairs_s5, cond_bindL, none_bindL]
/-- loop.example/g01194/impl.CommutingPairs -/
def impl_CommutingPairs_c (Q : Type) (F : Nat) (b0 : List Int) (k : (Bool × List (List Int)) → Option Q) : Option Q :=
    let z_1 := (impl_IsBoard_p F b0)
    let z_2 := (impl_CommutingPairs_l5 F b0 (0 : Int) ([] : List (List Int)))
    bif (Option.isSome z_1) then
    bif (!(Option.getD z_1 default)) then
    k (false, ([] : List (List Int)))
    else bif (Option.isSome z_2) then
    k (true, (Option.getD z_2 default))
    else none
    else none
def impl_CommutingPairs_p (F : Nat) (b0 : List Int) : Option (Bool × List (List Int)) := impl_CommutingPairs_c _ F b0 some
theorem impl_CommutingPairs_cp (Q : Type) (F : Nat) (b0 : List Int) (k : (Bool × List (List Int)) → Option Q) : impl_CommutingPairs_c Q F b0 k = (impl_CommutingPairs_p F b0).bind k := by
  simp only [impl_CommutingPairs_p, impl_CommutingPairs_c, cond_bindL, none_bindL, some_bindL]

/-- loop 8 of loop.example/g01194/spec.CommutingPairs -/
def spec_CommutingPairs_s8 (F : Nat) (d5 : Int) (b7 : List Int) (Q : Type) : (Int × List (List Int)) → ((Int × List (List Int)) → Option Q) → ((List (List Int)) → Option Q) → Option Q
  | (e6, out8), kn, kx =>
    let z_1 := (spec_l3Commute_p F b7 d5 e6)
    let z_2 : List (List Int) := ((subn (List.length out8) out8 0 (List.length out8)) ++ [[d5, e6]])
    let z_3 : Int := (IntKind.wrap .i64 (e6 + (1 : Int)))
    bif (decide (e6 < (4 : Int))) then
    bif (Option.isSome z_1) then
    bif (Option.getD z_1 default) then
    bif (fits (List.length z_2) 16) then
    kn (z_3, z_2)
    else none
    else kn (z_3, out8)
    else none
    else kx out8
def spec_CommutingPairs_l8 (F : Nat) (d5 : Int) (b7 : List Int) (e6 : Int) (out8 : List (List Int)) : Option (List (List Int)) := loopC (spec_CommutingPairs_s8 F d5 b7) F (e6, out8) some
theorem spec_CommutingPairs_s8_nat (F : Nat) (d5 : Int) (b7 : List Int) : Natural (spec_CommutingPairs_s8 F d5 b7) := by
  intro Q Q' s kn kx h
  obtain ⟨e6, out8⟩ := s
  simp only [spec_CommutingPairs_s8, cond_bindL, none_bindL]
/-- loop 5 of loop.example/g01194/spec.CommutingPairs -/
def spec_CommutingPairs_s5 (F : Nat) (b6 : List Int) (Q : Type) : (Int × List (List Int)) → ((Int × List (List Int)) → Option Q) → ((List (List Int)) → Option Q) → Option Q
  | (d5, out7), kn, kx =>
    let z_1 : Int := (IntKind.wrap .i64 (d5 + (1 : Int)))
    let z_2 := (spec_CommutingPairs_l8 F d5 b6 z_1 out7)
    bif (decide (d5 < (4 : Int))) then
    bif ((Nat.beq (List.length out7) (List.length out7)) && (Option.isSome z_2)) then
    kn (z_1, (Option.getD z_2 default))
    else none
    else kx out7
def spec_CommutingPairs_l5 (F : Nat) (b6 : List Int) (d5 : Int) (out7 : List (List Int)) : Option (List (List Int)) := loopC (spec_CommutingPairs_s5 F b6) F (d5, out7) some
theorem spec_CommutingPairs_s5_nat (F : Nat) (b6 : List Int) : Natural (spec_CommutingPairs_s5 F b6) := by
  intro Q Q' s kn kx h
  obtain ⟨d5, out7⟩ := s
  simp only [spec_CommutingPairs_s5, cond_bindL, none_bindL]
/-- loop.example/g01194/spec.CommutingPairs -/
def spec_CommutingPairs_c (Q : Type) (F : Nat) (b0 : List Int) (k : (Bool × List (List Int)) → Option Q) : Option Q :=
    let z_1 := (spec_l2Board_p F b0)
    let z_2 := (spec_CommutingPairs_l5 F b0 (0 : Int) ([] : List (List Int)))
    bif (Option.isSome z_1) then
    bif (!(Option.getD z_1 default)) then
    k (false, ([] : List (List Int)))
    else bif (Option.isSome z_2) then
    k (true, (Option.getD z_2 default))
    else none
    else none
def spec_CommutingPairs_p (F : Nat) (b0 : List Int) : Option (Bool × List (List Int)) := spec_CommutingPairs_c _ F b0 some
theorem spec_CommutingPairs_cp (Q : Type) (F : Nat) (b0 : List Int) (k : (Bool × List (List Int)) → Option Q) : spec_CommutingPairs_c Q F b0 k = (spec_CommutingPairs_p F b0).bind k := by
  simp only [spec_CommutingPairs_p, spec_CommutingPairs_c, cond_bindL, none_bindL, some_bindL]

/-- loop 4 of loop.example/g01194/laws.vPairs -/
def laws_vPairs_s4 (F : Nat) (a0 : List (List Int)) (b1 : List (List Int)) (Q : Type) : (Int) → ((Int) → Option Q) → ((Bool) → Option Q) → Option Q
  | i2, kn, kx =>
    bif (decide (i2 < (((List.length a0) : Nat) : Int))) then
    bif (inR i2 (List.length a0)) then
    bif (inR i2 (List.length b1)) then
    bif (!((rget a0 (Int.toNat i2)) == (rget b1 (Int.toNat i2)))) then
    kx true
    else kn (IntKind.wrap .i64 (i2 + (1 : Int)))
    else none
    else none
    else kx false
def laws_vPairs_l4 (F : Nat) (a0 : List (List Int)) (b1 : List (List Int)) (i2 : Int) : Option (Bool) := loopC (laws_vPairs_s4 F a0 b1) F i2 some
theorem laws_vPairs_s4_nat (F : Nat) (a0 : List (List Int)) (b1 : List (List Int)) : Natural (laws_vPairs_s4 F a0 b1) := by
  intro Q Q' s kn kx h
  simp only [laws_vPairs_s4, cond_bindL, none_bindL]
/-- loop.example/g01194/laws.vPairs -/
def laws_vPairs_c (Q : Type) (F : Nat) (a0 : List (List Int)) (b1 : List (List Int)) (k : (Bool) → Option Q) : Option Q :=
    let z_1 := (laws_vPairs_l4 F a0 b1 (0 : Int))
    bif (!((((List.length a0) : Nat) : Int) == (((List.length b1) : Nat) : Int))) then
    k false
    else bif (Option.isSome z_1) then
    bif (Option.getD z_1 default) then
    k false
    else k true
    else none
def laws_vPairs_p (F : Nat) (a0 : List (List Int)) (b1 : List (List Int)) : Option (Bool) := laws_vPairs_c _ F a0 b1 some
theorem laws_vPairs_cp (Q : Type) (F : Nat) (a0 : List (List Int)) (b1 : List (List Int)) (k : (Bool) → Option Q) : laws_vPairs_c Q F a0 b1 k = (laws_vPairs_p F a0 b1).bind k := by
  simp only [laws_vPairs_p, laws_vPairs_c, cond_bindL, none_bindL, some_bindL]

/-- loop.example/g01194/impl.areDirections$1 -/
def impl_areDirections_f1_c (Q : Type) (d0 : Int) (k : (Bool) → Option Q) : Option Q :=
    k (!(impl_isDirection_v d0))
def impl_areDirections_f1_v (d0 : Int) : Bool :=
    (!(impl_isDirection_v d0))
theorem impl_areDirections_f1_cv (Q : Type) (d0 : Int) (k : (Bool) → Option Q) : impl_areDirections_f1_c Q d0 k = k (impl_areDirections_f1_v d0) := by
  simp only [impl_areDirections_f1_c, impl_areDirections_f1_v, app_condL k]

/-- loop 2 of slices.IndexFunc[[]int,int] -/
def slices_IndexFunc_intint_impl_areDirections_f1_s2 (F : Nat) (s0 : List Int) (t71 : Int) (Q : Type) : (Int) → ((Int) → Option Q) → ((Bool × Int) → Option Q) → Option Q
  | t82, kn, kx =>
    bif (decide (t82 < t71)) then
    bif (inR t82 (List.length s0)) then
    bif (impl_areDirections_f1_v (iget s0 (Int.toNat t82))) then
    kx (true, t82)
    else kn (IntKind.wrap .i64 (t82 + (1 : Int)))
    else none
    else kx (false, default)
def slices_IndexFunc_intint_impl_areDirections_f1_l2 (F : Nat) (s0 : List Int) (t71 : Int) (t82 : Int) : Option (Bool × Int) := loopC (slices_IndexFunc_intint_impl_areDirections_f1_s2 F s0 t71) F t82 some
theorem slices_IndexFunc_intint_impl_areDirections_f1_s2_nat (F : Nat) (s0 : List Int) (t71 : Int) : Natural (slices_IndexFunc_intint_impl_areDirections_f1_s2 F s0 t71) := by
  intro Q Q' s kn kx h
  simp only [slices_IndexFunc_intint_impl_areDirections_f1_s2, cond_bindL, none_bindL]
/-- slices.IndexFunc[[]int,int] -/
def slices_IndexFunc_intint_impl_areDirections_f1_c (Q : Type) (F : Nat) (s0 : List Int) (k : (Int) → Option Q) : Option Q :=
    let z_1 := (slices_IndexFunc_intint_impl_areDirections_f1_l2 F s0 (((List.length s0) : Nat) : Int) (0 : Int))
    let z_2 := (Option.getD z_1 default)
    bif (Option.isSome z_1) then
    bif z_2.1 then
    k z_2.2
    else k (-1 : Int)
    else none
def slices_IndexFunc_intint_impl_areDirections_f1_p (F : Nat) (s0 : List Int) : Option (Int) := slices_IndexFunc_intint_impl_areDirections_f1_c _ F s0 some
theorem slices_IndexFunc_intint_impl_areDirections_f1_cp (Q : Type) (F : Nat) (s0 : List Int) (k : (Int) → Option Q) : slices_IndexFunc_intint_impl_areDirections_f1_c Q F s0 k = (slices_IndexFunc_intint_impl_areDirections_f1_p F s0).bind k := by
  simp only [slices_IndexFunc_intint_impl_areDirections_f1_p, slices_IndexFunc_intint_impl_areDirections_f1_c, cond_bindL, none_bindL, some_bindL]

/-- slices.ContainsFunc[[]int,int] -/
def slices_ContainsFunc_intint_impl_areDirections_f1_c (Q : Type) (F : Nat) (s0 : List Int) (k : (Bool) → Option Q) : Option Q :=
    let z_1 := (slices_IndexFunc_intint_impl_areDirections_f1_p F s0)
    bif (Option.isSome z_1) then
    k (decide ((0 : Int) ≤ (Option.getD z_1 default)))
    else none
def slices_ContainsFunc_intint_impl_areDirections_f1_p (F : Nat) (s0 : List Int) : Option (Bool) := slices_ContainsFunc_intint_impl_areDirections_f1_c _ F s0 some
theorem slices_ContainsFunc_intint_impl_areDirections_f1_cp (Q : Type) (F : Nat) (s0 : List Int) (k : (Bool) → Option Q) : slices_ContainsFunc_intint_impl_areDirections_f1_c Q F s0 k = (slices_ContainsFunc_intint_impl_areDirections_f1_p F s0).bind k := by
  simp only [slices_ContainsFunc_intint_impl_areDirections_f1_p, slices_ContainsFunc_intint_impl_areDirections_f1_c, cond_bindL, none_bindL, some_bindL]

/-- loop.example/g01194/impl.areDirections -/
def impl_areDirections_c (Q : Type) (F : Nat) (list0 : List Int) (k : (Bool) → Option Q) : Option Q :=
    let z_1 := (slices_ContainsFunc_intint_impl_areDirections_f1_p F list0)
    bif (Option.isSome z_1) then
    k (!(Option.getD z_1 default))
    else none
def impl_areDirections_p (F : Nat) (list0 : List Int) : Option (Bool) := impl_areDirections_c _ F list0 some
theorem impl_areDirections_cp (Q : Type) (F : Nat) (list0 : List Int) (k : (Bool) → Option Q) : impl_areDirections_c Q F list0 k = (impl_areDirections_p F list0).bind k := by
  simp only [impl_areDirections_p, impl_areDirections_c, cond_bindL, none_bindL, some_bindL]

/-- loop 5 of loop.example/g01194/impl.DoSlides -/
def impl_DoSlides_s5 (F : Nat) (t227 : List Int) (t238 : Int) (Q : Type) : (Int × Int × List Int) → ((Int × Int × List Int) → Option Q) → ((Int × List Int) → Option Q) → Option Q
  | (sum6, t249, b10), kn, kx =>
    let z_1 := (impl_Board_slide_p F b10 (iget t227 (Int.toNat t249)))
    let z_2 := (Option.getD z_1 default)
    bif (decide (t249 < t238)) then
    bif (inR t249 (List.length t227)) then
    bif (Option.isSome z_1) then
    kn ((IntKind.wrap .i64 (sum6 + z_2.2.1)), (IntKind.wrap .i64 (t249 + (1 : Int))), z_2.1)
    else none
    else none
    else kx (sum6, b10)
def impl_DoSlides_l5 (F : Nat) (t227 : List Int) (t238 : Int) (sum6 : Int) (t249 : Int) (b10 : List Int) : Option (Int × List Int) := loopC (impl_DoSlides_s5 F t227 t238) F (sum6, t249, b10) some
theorem impl_DoSlides_s5_nat (F : Nat) (t227 : List Int) (t238 : Int) : Natural (impl_DoSlides_s5 F t227 t238) := by
  intro Q Q' s kn kx h
  obtain ⟨sum6, t249, b10⟩ := s
  simp only [impl_DoSlides_s5, cond_bindL, none_bindL]
/-- loop.example/g01194/impl.DoSlides -/
def impl_DoSlides_c (Q : Type) (F : Nat) (b0 : List Int) (list1 : List Int) (k : (List Int × Int × Bool) → Option Q) : Option Q :=
    let z_1 := (impl_IsBoard_p F b0)
    let z_2 : List Int := [(0 : Int), (0 : Int), (0 : Int), (0 : Int), (0 : Int), (0 : Int), (0 : Int), (0 : Int), (0 : Int), (0 : Int), (0 : Int), (0 : Int), (0 : Int), (0 : Int), (0 : Int), (0 : Int)]
    let z_3 := (impl_areDirections_p F list1)
    let z_4 := (impl_DoSlides_l5 F list1 (((List.length list1) : Nat) : Int) (0 : Int) (0 : Int) b0)
    let z_5 := (Option.getD z_4 default)
    bif (Option.isSome z_1) then
    bif (!(Option.getD z_1 default)) then
    k (z_2, (0 : Int), false)
    else bif (Option.isSome z_3) then
    bif (!(Option.getD z_3 default)) then
    k (z_2, (0 : Int), false)
    else bif (Option.isSome z_4) then
    k (z_5.2, z_5.1, true)
    else none
    else none
    else none
def impl_DoSlides_p (F : Nat) (b0 : List Int) (list1 : List Int) : Option (List Int × Int × Bool) := impl_DoSlides_c _ F b0 list1 some
theorem impl_DoSlides_cp (Q : Type) (F : Nat) (b0 : List Int) (list1 : List Int) (k : (List Int × Int × Bool) → Option Q) : impl_DoSlides_c Q F b0 list1 k = (impl_DoSlides_p F b0 list1).bind k := by
  simp only [impl_DoSlides_p, impl_DoSlides_c, cond_bindL, none_bindL, some_bindL]

/-- loop.example/g01194/impl.isForm -/
def impl_isForm_c (Q : Type) (k0 : Int) (k : (Bool) → Option Q) : Option Q :=
    k (impl_in_v k0 (0 : Int) (7 : Int))
def impl_isForm_v (k0 : Int) : Bool :=
    (impl_in_v k0 (0 : Int) (7 : Int))
theorem impl_isForm_cv (Q : Type) (k0 : Int) (k : (Bool) → Option Q) : impl_isForm_c Q k0 k = k (impl_isForm_v k0) := by
  simp only [impl_isForm_c, impl_isForm_v, app_condL k]

/-- loop.example/g01194/impl.cells -/
def impl_cells_c (Q : Type) (k : (Unit) → Option Q) : Option Q :=
    k ()
def impl_cells_v : Unit :=
    ()
theorem impl_cells_cv (Q : Type) (k : (Unit) → Option Q) : impl_cells_c Q k = k (impl_cells_v) := by
  simp only [impl_cells_c, impl_cells_v, app_condL k]

/-- loop 2 of loop.example/g01194/impl.moved -/
def impl_moved_s2 (F : Nat) (k0 : Int) (t67 : Int) (Q : Type) : (Int × List Int) → ((Int × List Int) → Option Q) → ((List Int) → Option Q) → Option Q
  | (t78, cell9), kn, kx =>
    bif (decide (t78 < t67)) then
    kn ((IntKind.wrap .i64 (t78 + (1 : Int))), [(iget cell9 1), (IntKind.wrap .i64 ((3 : Int) - (iget cell9 0)))])
    else kx cell9
def impl_moved_l2 (F : Nat) (k0 : Int) (t67 : Int) (t78 : Int) (cell9 : List Int) : Option (List Int) := loopC (impl_moved_s2 F k0 t67) F (t78, cell9) some
theorem impl_moved_s2_nat (F : Nat) (k0 : Int) (t67 : Int) : Natural (impl_moved_s2 F k0 t67) := by
  intro Q Q' s kn kx h
  obtain ⟨t78, cell9⟩ := s
  simp only [impl_moved_s2, cond_bindL, none_bindL]
/-- loop.example/g01194/impl.moved -/
def impl_moved_c (Q : Type) (F : Nat) (k0 : Int) (cell1 : List Int) (k : (List Int) → Option Q) : Option Q :=
    let z_1 := (impl_moved_l2 F k0 (Int.tmod k0 (4 : Int)) (0 : Int) cell1)
    bif (Option.isSome z_1) then
    bif (decide ((4 : Int) ≤ k0)) then
    k (iset (Option.getD z_1 default) 1 (IntKind.wrap .i64 ((3 : Int) - (iget (Option.getD z_1 default) 1))))
    else k (Option.getD z_1 default)
    else none
def impl_moved_p (F : Nat) (k0 : Int) (cell1 : List Int) : Option (List Int) := impl_moved_c _ F k0 cell1 some
theorem impl_moved_cp (Q : Type) (F : Nat) (k0 : Int) (cell1 : List Int) (k : (List Int) → Option Q) : impl_moved_c Q F k0 cell1 k = (impl_moved_p F k0 cell1).bind k := by
  simp only [impl_moved_p, impl_moved_c, cond_bindL, none_bindL, some_bindL]

/-- loop 3 of (loop.example/g01194/impl.Board).form -/
def impl_Board_form_s3 (F : Nat) (k0 : Int) (b14 : List Int) (Q : Type) : (Int × List Int) → ((Int × List Int) → Option Q) → ((List Int) → Option Q) → Option Q
  | (t1113, out16), kn, kx =>
    let z_1 : List Int := (rget [[(0 : Int), (0 : Int)], [(0 : Int), (1 : Int)], [(0 : Int), (2 : Int)], [(0 : Int), (3 : Int)], [(1 : Int), (0 : Int)], [(1 : Int), (1 : Int)], [(1 : Int), (2 : Int)], [(1 : Int), (3 : Int)], [(2 : Int), (0 : Int)], [(2 : Int), (1 : Int)], [(2 : Int), (2 : Int)], [(2 : Int), (3 : Int)], [(3 : Int), (0 : Int)], [(3 : Int), (1 : Int)], [(3 : Int), (2 : Int)], [(3 : Int), (3 : Int)]] ((0 : Nat) + (Int.toNat t1113)))
    let z_2 := (impl_moved_p F k0 z_1)
    let z_3 := (impl_Board_at_p (Option.getD z_2 default) out16)
    let z_4 := (impl_Board_at_p z_1 b14)
    bif (decide (t1113 < (16 : Int))) then
    bif (inR t1113 16) then
    bif (Option.isSome z_2) then
    bif (Option.isSome z_3) then
    bif (Option.isSome z_4) then
    kn ((IntKind.wrap .i64 (t1113 + (1 : Int))), (iset out16 (Option.getD z_3 default) (iget b14 (Option.getD z_4 default))))
    else none
    else none
    else none
    else none
    else kx out16
def impl_Board_form_l3 (F : Nat) (k0 : Int) (b14 : List Int) (t1113 : Int) (out16 : List Int) : Option (List Int) := loopC (impl_Board_form_s3 F k0 b14) F (t1113, out16) some
theorem impl_Board_form_s3_nat (F : Nat) (k0 : Int) (b14 : List Int) : Natural (impl_Board_form_s3 F k0 b14) := by
  intro Q Q' s kn kx h
  obtain ⟨t1113, out16⟩ := s
  simp only [impl_Board_form_s3, cond_bindL, none_bindL]
/-- (loop.example/g01194/impl.Board).form -/
def impl_Board_form_c (Q : Type) (F : Nat) (b0 : List Int) (k1 : Int) (k : (List Int) → Option Q) : Option Q :=
    let z_1 := (impl_Board_form_l3 F k1 b0 (0 : Int) [(0 : Int), (0 : Int), (0 : Int), (0 : Int), (0 : Int), (0 : Int), (0 : Int), (0 : Int), (0 : Int), (0 : Int), (0 : Int), (0 : Int), (0 : Int), (0 : Int), (0 : Int), (0 : Int)])
    bif (Option.isSome z_1) then
    k (Option.getD z_1 default)
    else none
def impl_Board_form_p (F : Nat) (b0 : List Int) (k1 : Int) : Option (List Int) := impl_Board_form_c _ F b0 k1 some
theorem impl_Board_form_cp (Q : Type) (F : Nat) (b0 : List Int) (k1 : Int) (k : (List Int) → Option Q) : impl_Board_form_c Q F b0 k1 k = (impl_Board_form_p F b0 k1).bind k := by
  simp only [impl_Board_form_p, impl_Board_form_c, cond_bindL, none_bindL, some_bindL]

/-- loop.example/g01194/impl.FormBoard -/
def impl_FormBoard_c (Q : Type) (F : Nat) (b0 : List Int) (k1 : Int) (k : (List Int × Bool) → Option Q) : Option Q :=
    let z_1 := (impl_IsBoard_p F b0)
    let z_2 : List Int := [(0 : Int), (0 : Int), (0 : Int), (0 : Int), (0 : Int), (0 : Int), (0 : Int), (0 : Int), (0 : Int), (0 : Int), (0 : Int), (0 : Int), (0 : Int), (0 : Int), (0 : Int), (0 : Int)]
    let z_3 := (impl_Board_form_p F b0 k1)
    bif (Option.isSome z_1) then
    bif (!(Option.getD z_1 default)) then
    k (z_2, false)
    else bif (!(impl_isForm_v k1)) then
    k (z_2, false)
    else bif (Option.isSome z_3) then
    k ((Option.getD z_3 default), true)
    else none
    else none
def impl_FormBoard_p (F : Nat) (b0 : List Int) (k1 : Int) : Option (List Int × Bool) := impl_FormBoard_c _ F b0 k1 some
theorem impl_FormBoard_cp (Q : Type) (F : Nat) (b0 : List Int) (k1 : Int) (k : (List Int × Bool) → Option Q) : impl_FormBoard_c Q F b0 k1 k = (impl_FormBoard_p F b0 k1).bind k := by
  simp only [impl_FormBoard_p, impl_FormBoard_c, cond_bindL, none_bindL, some_bindL]
end Go.Lv.P
