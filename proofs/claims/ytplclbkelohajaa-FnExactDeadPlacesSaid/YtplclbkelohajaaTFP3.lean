/-
Pure functions and what the code of them does, by program; without conditions.
-/
import Derived.Test.YtplclbkelohajaaTFP2
namespace Go.Lv.P
open Go Go.Lv
set_option linter.unusedVariables false
set_option linter.unusedSimpArgs false
set_option maxRecDepth 100000
/-- loop 2 of loop.example/g01194/laws.eqIntA3 -/
def laws_eqIntA3_s2 (F : Nat) (a7 : List Int) (b8 : List Int) (Q : Type) : (Int) → ((Int) → Option Q) → ((Bool) → Option Q) → Option Q
  | i6, kn, kx =>
    let z_1 : Nat := ((0 : Nat) + ((Int.toNat i6) * (1 : Nat)))
    bif (decide (i6 < (3 : Int))) then
    bif (inR i6 3) then
    bif (inR i6 3) then
    bif (!((iget a7 z_1) == (iget b8 z_1))) then
    kx true
    else kn (IntKind.wrap .i64 (i6 + (1 : Int)))
    else none
    else none
    else kx false
def laws_eqIntA3_l2 (F : Nat) (a7 : List Int) (b8 : List Int) (i6 : Int) : Option (Bool) := loopC (laws_eqIntA3_s2 F a7 b8) F i6 some
theorem laws_eqIntA3_s2_nat (F : Nat) (a7 : List Int) (b8 : List Int) : Natural (laws_eqIntA3_s2 F a7 b8) := by
  intro Q Q' s kn kx h
  simp only [laws_eqIntA3_s2, cond_bindL, none_bindL]
/-- loop.example/g01194/laws.eqIntA3 -/
def laws_eqIntA3_c (Q : Type) (F : Nat) (a0 : List Int) (b1 : List Int) (k : (Bool) → Option Q) : Option Q :=
    let z_1 := (laws_eqIntA3_l2 F a0 b1 (0 : Int))
    bif (Option.isSome z_1) then
    bif (Option.getD z_1 default) then
    k false
    else k true
    else none
def laws_eqIntA3_p (F : Nat) (a0 : List Int) (b1 : List Int) : Option (Bool) := laws_eqIntA3_c _ F a0 b1 some
theorem laws_eqIntA3_cp (Q : Type) (F : Nat) (a0 : List Int) (b1 : List Int) (k : (Bool) → Option Q) : laws_eqIntA3_c Q F a0 b1 k = (laws_eqIntA3_p F a0 b1).bind k := by
  simp only [laws_eqIntA3_p, laws_eqIntA3_c, cond_bindL, none_bindL, some_bindL]

/-- loop.example/g01194/laws.FnExactWorstTile -/
def laws_FnExactWorstTile_c (Q : Type) (F : Nat) (aB0 : List Int) (k : (Bool) → Option Q) : Option Q :=
    let z_1 := (spec_WorstTile_p F (laws_toBoard_v aB0))
    let z_2 := (impl_WorstTile_p F (laws_toBoard_v aB0))
    let z_3 := (Option.getD z_2 default)
    let z_4 := (Option.getD z_1 default)
    let z_5 := (laws_eqIntA3_p F z_3.1 z_4.1)
    bif (Option.isSome z_1) then
    bif (Option.isSome z_2) then
    bif (Option.isSome z_5) then
    bif (!(Option.getD z_5 default)) then
    k false
    else bif (!(z_3.2.1 == z_4.2.1)) then
    k false
    else bif (!(z_3.2.2 == z_4.2.2)) then
    k false
    else k true
    else none
    else none
    else none
def laws_FnExactWorstTile_p (F : Nat) (aB0 : List Int) : Option (Bool) := laws_FnExactWorstTile_c _ F aB0 some
theorem laws_FnExactWorstTile_cp (Q : Type) (F : Nat) (aB0 : List Int) (k : (Bool) → Option Q) : laws_FnExactWorstTile_c Q F aB0 k = (laws_FnExactWorstTile_p F aB0).bind k := by
  simp only [laws_FnExactWorstTile_p, laws_FnExactWorstTile_c, cond_bindL, none_bindL, some_bindL]

/-- loop.example/g01194/laws.toIntA2 -/
def laws_toIntA2_c (Q : Type) (a0 : List Int) (k : (List Int) → Option Q) : Option Q :=
    k [(iget a0 0), (iget a0 1)]
def laws_toIntA2_v (a0 : List Int) : List Int :=
    [(iget a0 0), (iget a0 1)]
theorem laws_toIntA2_cv (Q : Type) (a0 : List Int) (k : (List Int) → Option Q) : laws_toIntA2_c Q a0 k = k (laws_toIntA2_v a0) := by
  simp only [laws_toIntA2_c, laws_toIntA2_v, app_condL k]

/-- loop.example/g01194/laws.toStep -/
def laws_toStep_c (Q : Type) (a0 : List Int) (k : (List Int) → Option Q) : Option Q :=
    k (iset (splice [(iget a0 0), (0 : Int), (0 : Int), (0 : Int)] 1 (laws_toIntA2_v (sub a0 1 2)) 2) 3 (iget a0 3))
def laws_toStep_v (a0 : List Int) : List Int :=
    (iset (splice [(iget a0 0), (0 : Int), (0 : Int), (0 : Int)] 1 (laws_toIntA2_v (sub a0 1 2)) 2) 3 (iget a0 3))
theorem laws_toStep_cv (Q : Type) (a0 : List Int) (k : (List Int) → Option Q) : laws_toStep_c Q a0 k = k (laws_toStep_v a0) := by
  simp only [laws_toStep_c, laws_toStep_v, app_condL k]

/-- loop.example/g01194/spec.l2Side -/
def spec_l2Side_c (Q : Type) (d0 : Int) (k : (Bool) → Option Q) : Option Q :=
    k (spec_l1In_v d0 (0 : Int) (3 : Int))
def spec_l2Side_v (d0 : Int) : Bool :=
    (spec_l1In_v d0 (0 : Int) (3 : Int))
theorem spec_l2Side_cv (Q : Type) (d0 : Int) (k : (Bool) → Option Q) : spec_l2Side_c Q d0 k = k (spec_l2Side_v d0) := by
  simp only [spec_l2Side_c, spec_l2Side_v, app_condL k]

/-- loop.example/g01194/spec.l2Cell -/
def spec_l2Cell_c (Q : Type) (cell0 : List Int) (k : (Bool) → Option Q) : Option Q :=
    bif (spec_l1In_v (iget cell0 0) (0 : Int) (3 : Int)) then
    k (spec_l1In_v (iget cell0 1) (0 : Int) (3 : Int))
    else k false
def spec_l2Cell_v (cell0 : List Int) : Bool :=
    bif (spec_l1In_v (iget cell0 0) (0 : Int) (3 : Int)) then
    (spec_l1In_v (iget cell0 1) (0 : Int) (3 : Int))
    else false
theorem spec_l2Cell_cv (Q : Type) (cell0 : List Int) (k : (Bool) → Option Q) : spec_l2Cell_c Q cell0 k = k (spec_l2Cell_v cell0) := by
  simp only [spec_l2Cell_c, spec_l2Cell_v, app_condL k]

/-- loop.example/g01194/spec.l5Do -/
def spec_l5Do_c (Q : Type) (F : Nat) (b0 : List Int) (s1 : List Int) (k : (List Int × Int × Bool) → Option Q) : Option Q :=
    let z_1 : List Int := [(0 : Int), (0 : Int), (0 : Int), (0 : Int), (0 : Int), (0 : Int), (0 : Int), (0 : Int), (0 : Int), (0 : Int), (0 : Int), (0 : Int), (0 : Int), (0 : Int), (0 : Int), (0 : Int)]
    let z_2 := (spec_l2Slide_p F b0 (iget s1 0))
    let z_3 := (Option.getD z_2 default)
    let z_4 := (spec_l2At_p z_3.1 (sub s1 1 2))
    let z_5 := (spec_l2Put_p z_3.1 (sub s1 1 2) (iget s1 3))
    bif (!(spec_l2Side_v (iget s1 0))) then
    k (z_1, (0 : Int), false)
    else bif (!(spec_l2Cell_v (sub s1 1 2))) then
    k (z_1, (0 : Int), false)
    else bif (!(spec_l1In_v (iget s1 3) (1 : Int) (2 : Int))) then
    k (z_1, (0 : Int), false)
    else bif (Option.isSome z_2) then
    bif (z_3.1 == b0) then
    k (z_1, (0 : Int), false)
    else bif (Option.isSome z_4) then
    bif (!((Option.getD z_4 default) == (0 : Int))) then
    k (z_1, (0 : Int), false)
    else bif (Option.isSome z_5) then
    k ((Option.getD z_5 default), z_3.2, true)
    else none
    else none
    else none
def spec_l5Do_p (F : Nat) (b0 : List Int) (s1 : List Int) : Option (List Int × Int × Bool) := spec_l5Do_c _ F b0 s1 some
theorem spec_l5Do_cp (Q : Type) (F : Nat) (b0 : List Int) (s1 : List Int) (k : (List Int × Int × Bool) → Option Q) : spec_l5Do_c Q F b0 s1 k = (spec_l5Do_p F b0 s1).bind k := by
  simp only [spec_l5Do_p, spec_l5Do_c, cond_bindL, none_bindL, some_bindL]

/-- loop.example/g01194/spec.DoStep -/
def spec_DoStep_c (Q : Type) (F : Nat) (b0 : List Int) (s1 : List Int) (k : (List Int × Int × Bool) → Option Q) : Option Q :=
    let z_1 := (spec_l2Board_p F b0)
    let z_2 := (spec_l5Do_p F b0 s1)
    let z_3 := (Option.getD z_2 default)
    bif (Option.isSome z_1) then
    bif (!(Option.getD z_1 default)) then
    k ([(0 : Int), (0 : Int), (0 : Int), (0 : Int), (0 : Int), (0 : Int), (0 : Int), (0 : Int), (0 : Int), (0 : Int), (0 : Int), (0 : Int), (0 : Int), (0 : Int), (0 : Int), (0 : Int)], (0 : Int), false)
    else bif (Option.isSome z_2) then
    k (z_3.1, z_3.2.1, z_3.2.2)
    else none
    else none
def spec_DoStep_p (F : Nat) (b0 : List Int) (s1 : List Int) : Option (List Int × Int × Bool) := spec_DoStep_c _ F b0 s1 some
theorem spec_DoStep_cp (Q : Type) (F : Nat) (b0 : List Int) (s1 : List Int) (k : (List Int × Int × Bool) → Option Q) : spec_DoStep_c Q F b0 s1 k = (spec_DoStep_p F b0 s1).bind k := by
  simp only [spec_DoStep_p, spec_DoStep_c, cond_bindL, none_bindL, some_bindL]

/-- loop.example/g01194/impl.isDirection -/
def impl_isDirection_c (Q : Type) (d0 : Int) (k : (Bool) → Option Q) : Option Q :=
    k (impl_in_v d0 (0 : Int) (3 : Int))
def impl_isDirection_v (d0 : Int) : Bool :=
    (impl_in_v d0 (0 : Int) (3 : Int))
theorem impl_isDirection_cv (Q : Type) (d0 : Int) (k : (Bool) → Option Q) : impl_isDirection_c Q d0 k = k (impl_isDirection_v d0) := by
  simp only [impl_isDirection_c, impl_isDirection_v, app_condL k]

/-- loop.example/g01194/impl.isCell -/
def impl_isCell_c (Q : Type) (cell0 : List Int) (k : (Bool) → Option Q) : Option Q :=
    bif (impl_in_v (iget cell0 0) (0 : Int) (3 : Int)) then
    k (impl_in_v (iget cell0 1) (0 : Int) (3 : Int))
    else k false
def impl_isCell_v (cell0 : List Int) : Bool :=
    bif (impl_in_v (iget cell0 0) (0 : Int) (3 : Int)) then
    (impl_in_v (iget cell0 1) (0 : Int) (3 : Int))
    else false
theorem impl_isCell_cv (Q : Type) (cell0 : List Int) (k : (Bool) → Option Q) : impl_isCell_c Q cell0 k = k (impl_isCell_v cell0) := by
  simp only [impl_isCell_c, impl_isCell_v, app_condL k]

/-- loop 2 of (loop.example/g01194/impl.Board).slides -/
def impl_Board_slides_s2 (F : Nat) (t76 : List Int) (t87 : Int) (Q : Type) : (Int × List Int) → ((Int × List Int) → Option Q) → ((List Int) → Option Q) → Option Q
  | (t98, b9), kn, kx =>
    let z_1 := (impl_Board_slide_p F b9 (iget t76 (Int.toNat t98)))
    bif (decide (t98 < t87)) then
    bif (inR t98 (List.length t76)) then
    bif (Option.isSome z_1) then
    kn ((IntKind.wrap .i64 (t98 + (1 : Int))), (Option.getD z_1 default).1)
    else none
    else none
    else kx b9
def impl_Board_slides_l2 (F : Nat) (t76 : List Int) (t87 : Int) (t98 : Int) (b9 : List Int) : Option (List Int) := loopC (impl_Board_slides_s2 F t76 t87) F (t98, b9) some
theorem impl_Board_slides_s2_nat (F : Nat) (t76 : List Int) (t87 : Int) : Natural (impl_Board_slides_s2 F t76 t87) := by
  intro Q Q' s kn kx h
  obtain ⟨t98, b9⟩ := s
  simp only [impl_Board_slides_s2, cond_bindL, none_bindL]
/-- (loop.example/g01194/impl.Board).slides -/
def impl_Board_slides_c (Q : Type) (F : Nat) (b0 : List Int) (list1 : List Int) (k : (List Int) → Option Q) : Option Q :=
    let z_1 := (impl_Board_slides_l2 F list1 (((List.length list1) : Nat) : Int) (0 : Int) b0)
    bif (Option.isSome z_1) then
    k (Option.getD z_1 default)
    else none
def impl_Board_slides_p (F : Nat) (b0 : List Int) (list1 : List Int) : Option (List Int) := impl_Board_slides_c _ F b0 list1 some
theorem impl_Board_slides_cp (Q : Type) (F : Nat) (b0 : List Int) (list1 : List Int) (k : (List Int) → Option Q) : impl_Board_slides_c Q F b0 list1 k = (impl_Board_slides_p F b0 list1).bind k := by
  simp only [impl_Board_slides_p, impl_Board_slides_c, cond_bindL, none_bindL, some_bindL]

/-- loop 5 of (loop.example/g01194/impl.Board).steps -/
def impl_Board_steps_s5 (F : Nat) (direction0 : Int) (t194 : Nat) (t205 : Int) (t198 : List (List Int)) (Q : Type) : (Int × List (List Int)) → ((Int × List (List Int)) → Option Q) → ((List (List Int)) → Option Q) → Option Q
  | (t216, out7), kn, kx =>
    let z_1 : List Int := (splice [direction0, (0 : Int), (0 : Int), (0 : Int)] 1 (rget t198 ((0 : Nat) + (Int.toNat t216))) 2)
    let z_2 : List (List Int) := ((subn (List.length out7) out7 0 (List.length out7)) ++ [(iset z_1 3 (1 : Int)), (iset z_1 3 (2 : Int))])
    bif (decide (t216 < t205)) then
    bif (inR t216 t194) then
    bif (fits (List.length z_2) 32) then
    kn ((IntKind.wrap .i64 (t216 + (1 : Int))), z_2)
    else none
    else none
    else kx out7
def impl_Board_steps_l5 (F : Nat) (direction0 : Int) (t194 : Nat) (t205 : Int) (t198 : List (List Int)) (t216 : Int) (out7 : List (List Int)) : Option (List (List Int)) := loopC (impl_Board_steps_s5 F direction0 t194 t205 t198) F (t216, out7) some
theorem impl_Board_steps_s5_nat (F : Nat) (direction0 : Int) (t194 : Nat) (t205 : Int) (t198 : List (List Int)) : Natural (impl_Board_steps_s5 F direction0 t194 t205 t198) := by
  intro Q Q' s kn kx h
  obtain ⟨t216, out7⟩ := s
  simp only [impl_Board_steps_s5, cond_bindL, none_bindL]
/-- (loop.example/g01194/impl.Board).steps -/
def impl_Board_steps_c (Q : Type) (F : Nat) (b0 : List Int) (direction1 : Int) (k : (List (List Int)) → Option Q) : Option Q :=
    let z_1 := (impl_Board_slides_p F b0 [direction1])
    let z_2 := (impl_Board_empty_p F (Option.getD z_1 default))
    let z_3 := (Option.getD z_2 default)
    let z_4 := (impl_Board_steps_l5 F direction1 z_3.1 ((z_3.1 : Nat) : Int) z_3.2 (0 : Int) ([] : List (List Int)))
    bif (Option.isSome z_1) then
    bif ((Option.getD z_1 default) == b0) then
    k ([] : List (List Int))
    else bif (Option.isSome z_2) then
    bif (Option.isSome z_4) then
    k (Option.getD z_4 default)
    else none
    else none
    else none
def impl_Board_steps_p (F : Nat) (b0 : List Int) (direction1 : Int) : Option (List (List Int)) := impl_Board_steps_c _ F b0 direction1 some
theorem impl_Board_steps_cp (Q : Type) (F : Nat) (b0 : List Int) (direction1 : Int) (k : (List (List Int)) → Option Q) : impl_Board_steps_c Q F b0 direction1 k = (impl_Board_steps_p F b0 direction1).bind k := by
  simp only [impl_Board_steps_p, impl_Board_steps_c, cond_bindL, none_bindL, some_bindL]

/-- loop 2 of slices.Index[[]loop.example/g01194/impl.Step,loop.example/g01194/impl.Step] -/
def slices_Index_implStepimplStep_s2 (F : Nat) (s0 : List (List Int)) (t74 : Int) (v6 : List Int) (Q : Type) : (Int) → ((Int) → Option Q) → ((Bool × Int) → Option Q) → Option Q
  | t85, kn, kx =>
    bif (decide (t85 < t74)) then
    bif (inR t85 (List.length s0)) then
    bif (v6 == (rget s0 (Int.toNat t85))) then
    kx (true, t85)
    else kn (IntKind.wrap .i64 (t85 + (1 : Int)))
    else none
    else kx (false, default)
def slices_Index_implStepimplStep_l2 (F : Nat) (s0 : List (List Int)) (t74 : Int) (v6 : List Int) (t85 : Int) : Option (Bool × Int) := loopC (slices_Index_implStepimplStep_s2 F s0 t74 v6) F t85 some
theorem slices_Index_implStepimplStep_s2_nat (F : Nat) (s0 : List (List Int)) (t74 : Int) (v6 : List Int) : Natural (slices_Index_implStepimplStep_s2 F s0 t74 v6) := by
  intro Q Q' s kn kx h
  simp only [slices_Index_implStepimplStep_s2, cond_bindL, none_bindL]
/-- slices.Index[[]loop.example/g01194/impl.Step,loop.example/g01194/impl.Step] -/
def slices_Index_implStepimplStep_c (Q : Type) (F : Nat) (s0 : List (List Int)) (v1 : List Int) (k : (Int) → Option Q) : Option Q :=
    let z_1 := (slices_Index_implStepimplStep_l2 F s0 (((List.length s0) : Nat) : Int) v1 (0 : Int))
    let z_2 := (Option.getD z_1 default)
    bif (Option.isSome z_1) then
    bif z_2.1 then
    k z_2.2
    else k (-1 : Int)
    else none
def slices_Index_implStepimplStep_p (F : Nat) (s0 : List (List Int)) (v1 : List Int) : Option (Int) := slices_Index_implStepimplStep_c _ F s0 v1 some
theorem slices_Index_implStepimplStep_cp (Q : Type) (F : Nat) (s0 : List (List Int)) (v1 : List Int) (k : (Int) → Option Q) : slices_Index_implStepimplStep_c Q F s0 v1 k = (slices_Index_implStepimplStep_p F s0 v1).bind k := by
  simp only [slices_Index_implStepimplStep_p, slices_Index_implStepimplStep_c, cond_bindL, none_bindL, some_bindL]

/-- slices.Contains[[]loop.example/g01194/impl.Step,loop.example/g01194/impl.Step] -/
def slices_Contains_implStepimplStep_c (Q : Type) (F : Nat) (s0 : List (List Int)) (v1 : List Int) (k : (Bool) → Option Q) : Option Q :=
    let z_1 := (slices_Index_implStepimplStep_p F s0 v1)
    bif (Option.isSome z_1) then
    k (decide ((0 : Int) ≤ (Option.getD z_1 default)))
    else none
def slices_Contains_implStepimplStep_p (F : Nat) (s0 : List (List Int)) (v1 : List Int) : Option (Bool) := slices_Contains_implStepimplStep_c _ F s0 v1 some
theorem slices_Contains_implStepimplStep_cp (Q : Type) (F : Nat) (s0 : List (List Int)) (v1 : List Int) (k : (Bool) → Option Q) : slices_Contains_implStepimplStep_c Q F s0 v1 k = (slices_Contains_implStepimplStep_p F s0 v1).bind k := by
  simp only [slices_Contains_implStepimplStep_p, slices_Contains_implStepimplStep_c, cond_bindL, none_bindL, some_bindL]

/-- (loop.example/g01194/impl.Board).isStep -/
def impl_Board_isStep_c (Q : Type) (F : Nat) (b0 : List Int) (s1 : List Int) (k : (Bool) → Option Q) : Option Q :=
    let z_1 := (impl_Board_steps_p F b0 (iget s1 0))
    let z_2 : Nat := (List.length (Option.getD z_1 default))
    let z_3 := (slices_Contains_implStepimplStep_p F (subn z_2 (Option.getD z_1 default) 0 z_2) s1)
    bif (impl_isDirection_v (iget s1 0)) then
    bif (impl_isCell_v (sub s1 1 2)) then
    bif (Option.isSome z_1) then
    bif (Option.isSome z_3) then
    k (Option.getD z_3 default)
    else none
    else none
    else k false
    else k false
def impl_Board_isStep_p (F : Nat) (b0 : List Int) (s1 : List Int) : Option (Bool) := impl_Board_isStep_c _ F b0 s1 some
theorem impl_Board_isStep_cp (Q : Type) (F : Nat) (b0 : List Int) (s1 : List Int) (k : (Bool) → Option Q) : impl_Board_isStep_c Q F b0 s1 k = (impl_Board_isStep_p F b0 s1).bind k := by
  simp only [impl_Board_isStep_p, impl_Board_isStep_c, cond_bindL, none_bindL, some_bindL]

/-- (loop.example/g01194/impl.Board).behind -/
def impl_Board_behind_c (Q : Type) (F : Nat) (b0 : List Int) (s1 : List Int) (k : (List Int × Int) → Option Q) : Option Q :=
    let z_1 := (impl_Board_slide_p F b0 (iget s1 0))
    let z_2 := (Option.getD z_1 default)
    let z_3 := (impl_Board_at_p (sub s1 1 2) z_2.1)
    bif (Option.isSome z_1) then
    bif (Option.isSome z_3) then
    k ((iset z_2.1 (Option.getD z_3 default) (iget s1 3)), z_2.2.1)
    else none
    else none
def impl_Board_behind_p (F : Nat) (b0 : List Int) (s1 : List Int) : Option (List Int × Int) := impl_Board_behind_c _ F b0 s1 some
theorem impl_Board_behind_cp (Q : Type) (F : Nat) (b0 : List Int) (s1 : List Int) (k : (List Int × Int) → Option Q) : impl_Board_behind_c Q F b0 s1 k = (impl_Board_behind_p F b0 s1).bind k := by
  simp only [impl_Board_behind_p, impl_Board_behind_c, cond_bindL, none_bindL, some_bindL]

/-- loop.example/g01194/impl.DoStep -/
def impl_DoStep_c (Q : Type) (F : Nat) (b0 : List Int) (s1 : List Int) (k : (List Int × Int × Bool) → Option Q) : Option Q :=
    let z_1 := (impl_IsBoard_p F b0)
    let z_2 : List Int := [(0 : Int), (0 : Int), (0 : Int), (0 : Int), (0 : Int), (0 : Int), (0 : Int), (0 : Int), (0 : Int), (0 : Int), (0 : Int), (0 : Int), (0 : Int), (0 : Int), (0 : Int), (0 : Int)]
    let z_3 := (impl_Board_isStep_p F b0 s1)
    let z_4 := (impl_Board_behind_p F b0 s1)
    let z_5 := (Option.getD z_4 default)
    bif (Option.isSome z_1) then
    bif (!(Option.getD z_1 default)) then
    k (z_2, (0 : Int), false)
    else bif (Option.isSome z_3) then
    bif (!(Option.getD z_3 default)) then
    k (z_2, (0 : Int), false)
    else bif (Option.isSome z_4) then
    k (z_5.1, z_5.2, true)
    else none
    else none
    else none
def impl_DoStep_p (F : Nat) (b0 : List Int) (s1 : List Int) : Option (List Int × Int × Bool) := impl_DoStep_c _ F b0 s1 some
theorem impl_DoStep_cp (Q : Type) (F : Nat) (b0 : List Int) (s1 : List Int) (k : (List Int × Int × Bool) → Option Q) : impl_DoStep_c Q F b0 s1 k = (impl_DoStep_p F b0 s1).bind k := by
  simp only [impl_DoStep_p, impl_DoStep_c, cond_bindL, none_bindL, some_bindL]

/-- loop 2 of loop.example/g01194/laws.eqIntA4 -/
def laws_eqIntA4_s2 (F : Nat) (a7 : List Int) (b8 : List Int) (Q : Type) : (Int) → ((Int) → Option Q) → ((Bool) → Option Q) → Option Q
  | i6, kn, kx =>
    let z_1 : Nat := ((0 : Nat) + ((Int.toNat i6) * (1 : Nat)))
    bif (decide (i6 < (4 : Int))) then
    bif (inR i6 4) then
    bif (inR i6 4) then
    bif (!((iget a7 z_1) == (iget b8 z_1))) then
    kx true
    else kn (IntKind.wrap .i64 (i6 + (1 : Int)))
    else none
    else none
    else kx false
def laws_eqIntA4_l2 (F : Nat) (a7 : List Int) (b8 : List Int) (i6 : Int) : Option (Bool) := loopC (laws_eqIntA4_s2 F a7 b8) F i6 some
theorem laws_eqIntA4_s2_nat (F : Nat) (a7 : List Int) (b8 : List Int) : Natural (laws_eqIntA4_s2 F a7 b8) := by
  intro Q Q' s kn kx h
  simp only [laws_eqIntA4_s2, cond_bindL, none_bindL]
/-- loop.example/g01194/laws.eqIntA4 -/
def laws_eqIntA4_c (Q : Type) (F : Nat) (a0 : List Int) (b1 : List Int) (k : (Bool) → Option Q) : Option Q :=
    let z_1 := (laws_eqIntA4_l2 F a0 b1 (0 : Int))
    bif (Option.isSome z_1) then
    bif (Option.getD z_1 default) then
    k false
    else k true
    else none
def laws_eqIntA4_p (F : Nat) (a0 : List Int) (b1 : List Int) : Option (Bool) := laws_eqIntA4_c _ F a0 b1 some
theorem laws_eqIntA4_cp (Q : Type) (F : Nat) (a0 : List Int) (b1 : List Int) (k : (Bool) → Option Q) : laws_eqIntA4_c Q F a0 b1 k = (laws_eqIntA4_p F a0 b1).bind k := by
  simp only [laws_eqIntA4_p, laws_eqIntA4_c, cond_bindL, none_bindL, some_bindL]

/-- loop 2 of loop.example/g01194/laws.eqIntA4A4 -/
def laws_eqIntA4A4_s2 (F : Nat) (a7 : List Int) (b8 : List Int) (Q : Type) : (Int) → ((Int) → Option Q) → ((Bool) → Option Q) → Option Q
  | i6, kn, kx =>
    let z_1 : Nat := ((0 : Nat) + ((Int.toNat i6) * (4 : Nat)))
    let z_2 := (laws_eqIntA4_p F (subn 16 a7 z_1 4) (subn 16 b8 z_1 4))
    bif (decide (i6 < (4 : Int))) then
    bif (inR i6 4) then
    bif (inR i6 4) then
    bif (Option.isSome z_2) then
    bif (!(Option.getD z_2 default)) then
    kx true
    else kn (IntKind.wrap .i64 (i6 + (1 : Int)))
    else none
    else none
    else none
    else kx false
def laws_eqIntA4A4_l2 (F : Nat) (a7 : List Int) (b8 : List Int) (i6 : Int) : Option (Bool) := loopC (laws_eqIntA4A4_s2 F a7 b8) F i6 some
theorem laws_eqIntA4A4_s2_nat (F : Nat) (a7 : List Int) (b8 : List Int) : Natural (laws_eqIntA4A4_s2 F a7 b8) := by
  intro Q Q' s kn kx h
  simp only [laws_eqIntA4A4_s2, cond_bindL, none_bindL]
/-- loop.example/g01194/laws.eqIntA4A4 -/
def laws_eqIntA4A4_c (Q : Type) (F : Nat) (a0 : List Int) (b1 : List Int) (k : (Bool) → Option Q) : Option Q :=
    let z_1 := (laws_eqIntA4A4_l2 F a0 b1 (0 : Int))
    bif (Option.isSome z_1) then
    bif (Option.getD z_1 default) then
    k false
    else k true
    else none
def laws_eqIntA4A4_p (F : Nat) (a0 : List Int) (b1 : List Int) : Option (Bool) := laws_eqIntA4A4_c _ F a0 b1 some
theorem laws_eqIntA4A4_cp (Q : Type) (F : Nat) (a0 : List Int) (b1 : List Int) (k : (Bool) → Option Q) : laws_eqIntA4A4_c Q F a0 b1 k = (laws_eqIntA4A4_p F a0 b1).bind k := by
  simp only [laws_eqIntA4A4_p, laws_eqIntA4A4_c, cond_bindL, none_bindL, some_bindL]

/-- loop.example/g01194/laws.eqBoard -/
def laws_eqBoard_c (Q : Type) (F : Nat) (a0 : List Int) (b1 : List Int) (k : (Bool) → Option Q) : Option Q :=
    let z_1 := (laws_eqIntA4A4_p F a0 b1)
    bif (Option.isSome z_1) then
    bif (!(Option.getD z_1 default)) then
    k false
    else k true
    else none
def laws_eqBoard_p (F : Nat) (a0 : List Int) (b1 : List Int) : Option (Bool) := laws_eqBoard_c _ F a0 b1 some
theorem laws_eqBoard_cp (Q : Type) (F : Nat) (a0 : List Int) (b1 : List Int) (k : (Bool) → Option Q) : laws_eqBoard_c Q F a0 b1 k = (laws_eqBoard_p F a0 b1).bind k := by
  simp only [laws_eqBoard_p, laws_eqBoard_c, cond_bindL, none_bindL, some_bindL]

/-- loop.example/g01194/laws.FnExactDoStep -/
def laws_FnExactDoStep_c (Q : Type) (F : Nat) (aB0 : List Int) (aS1 : List Int) (k : (Bool) → Option Q) : Option Q :=
    let z_1 := (spec_DoStep_p F (laws_toBoard_v aB0) (laws_toStep_v aS1))
    let z_2 := (impl_DoStep_p F (laws_toBoard_v aB0) (laws_toStep_v aS1))
    let z_3 := (Option.getD z_2 default)
    let z_4 := (Option.getD z_1 default)
    let z_5 := (laws_eqBoard_p F z_3.1 z_4.1)
    bif (Option.isSome z_1) then
    bif (Option.isSome z_2) then
    bif (Option.isSome z_5) then
    bif (!(Option.getD z_5 default)) then
    k false
    else bif (!(z_3.2.1 == z_4.2.1)) then
    k false
    else bif (!(z_3.2.2 == z_4.2.2)) then
    k false
    else k true
    else none
    else none
    else none
def laws_FnExactDoStep_p (F : Nat) (aB0 : List Int) (aS1 : List Int) : Option (Bool) := laws_FnExactDoStep_c _ F aB0 aS1 some
theorem laws_FnExactDoStep_cp (Q : Type) (F : Nat) (aB0 : List Int) (aS1 : List Int) (k : (Bool) → Option Q) : laws_FnExactDoStep_c Q F aB0 aS1 k = (laws_FnExactDoStep_p F aB0 aS1).bind k := by
  simp only [laws_FnExactDoStep_p, laws_FnExactDoStep_c, cond_bindL, none_bindL, some_bindL]
end Go.Lv.P
