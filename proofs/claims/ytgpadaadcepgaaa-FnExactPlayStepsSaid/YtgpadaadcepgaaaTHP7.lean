/-
Pure functions and what the code of them does, by program; without conditions.
-/
import Derived.Test.YtgpadaadcepgaaaTHP6
namespace Go.Lv.P
open Go Go.Lv
set_option linter.unusedVariables false
set_option linter.unusedSimpArgs false
set_option maxRecDepth 100000
/-- loop 8 of loop.example/g01194/laws.heldStepS -/
def laws_heldStepS_s8 (F : Nat) (a0 : List (List Int)) (i2 : Int) (Q : Type) : (Int × Int) → ((Int × Int) → Option Q) → ((Bool × Int) → Option Q) → Option Q
  | (k1, j3), kn, kx =>
    bif (decide (j3 < (2 : Int))) then
    bif (inR i2 (List.length a0)) then
    bif (inR j3 2) then
    bif (!((iget (rget a0 (Int.toNat i2)) ((1 : Nat) + ((Int.toNat j3) * (1 : Nat)))) == k1)) then
    kx (true, default)
    else kn ((IntKind.wrap .i64 (k1 + (1 : Int))), (IntKind.wrap .i64 (j3 + (1 : Int))))
    else none
    else none
    else kx (false, k1)
def laws_heldStepS_l8 (F : Nat) (a0 : List (List Int)) (i2 : Int) (k1 : Int) (j3 : Int) : Option (Bool × Int) := loopC (laws_heldStepS_s8 F a0 i2) F (k1, j3) some
theorem laws_heldStepS_s8_nat (F : Nat) (a0 : List (List Int)) (i2 : Int) : Natural (laws_heldStepS_s8 F a0 i2) := by
  intro Q Q' s kn kx h
  obtain ⟨k1, j3⟩ := s
  simp only [laws_heldStepS_s8, cond_bindL, none_bindL]
/-- loop 2 of loop.example/g01194/laws.heldStepS -/
def laws_heldStepS_s2 (F : Nat) (a0 : List (List Int)) (Q : Type) : (Int × Int) → ((Int × Int) → Option Q) → ((Bool × Int) → Option Q) → Option Q
  | (k1, i2), kn, kx =>
    let z_1 : Bool := (inR i2 (List.length a0))
    let z_2 : List Int := (rget a0 (Int.toNat i2))
    let z_3 := (laws_heldStepS_l8 F a0 i2 (IntKind.wrap .i64 (k1 + (1 : Int))) (0 : Int))
    let z_4 := (Option.getD z_3 default)
    bif (decide (i2 < (((List.length a0) : Nat) : Int))) then
    bif z_1 then
    bif (!((iget z_2 0) == k1)) then
    kx (true, default)
    else bif (Option.isSome z_3) then
    bif z_4.1 then
    kx (true, default)
    else bif z_1 then
    bif (!((iget z_2 3) == z_4.2)) then
    kx (true, default)
    else kn ((IntKind.wrap .i64 (z_4.2 + (1 : Int))), (IntKind.wrap .i64 (i2 + (1 : Int))))
    else none
    else none
    else none
    else kx (false, k1)
def laws_heldStepS_l2 (F : Nat) (a0 : List (List Int)) (k1 : Int) (i2 : Int) : Option (Bool × Int) := loopC (laws_heldStepS_s2 F a0) F (k1, i2) some
theorem laws_heldStepS_s2_nat (F : Nat) (a0 : List (List Int)) : Natural (laws_heldStepS_s2 F a0) := by
  intro Q Q' s kn kx h
  obtain ⟨k1, i2⟩ := s
  simp only [laws_heldStepS_s2, cond_bindL, none_bindL]
/-- loop.example/g01194/laws.heldStepS -/
def laws_heldStepS_c (Q : Type) (F : Nat) (a0 : List (List Int)) (k1 : Int) (k : (Int) → Option Q) : Option Q :=
    let z_1 := (laws_heldStepS_l2 F a0 k1 (0 : Int))
    let z_2 := (Option.getD z_1 default)
    bif (Option.isSome z_1) then
    bif z_2.1 then
    k (-1 : Int)
    else k z_2.2
    else none
def laws_heldStepS_p (F : Nat) (a0 : List (List Int)) (k1 : Int) : Option (Int) := laws_heldStepS_c _ F a0 k1 some
theorem laws_heldStepS_cp (Q : Type) (F : Nat) (a0 : List (List Int)) (k1 : Int) (k : (Int) → Option Q) : laws_heldStepS_c Q F a0 k1 k = (laws_heldStepS_p F a0 k1).bind k := by
  simp only [laws_heldStepS_p, laws_heldStepS_c, cond_bindL, none_bindL, some_bindL]

/-- loop.example/g01194/laws.FnExactStepBetween -/
def laws_FnExactStepBetween_c (Q : Type) (F : Nat) (aA0 : List Int) (aB1 : List Int) (k : (Bool) → Option Q) : Option Q :=
    let z_1 := (spec_StepBetween_p F (laws_toBoard_v aA0) (laws_toBoard_v aB1))
    let z_2 := (impl_StepBetween_p F (laws_toBoard_v aA0) (laws_toBoard_v aB1))
    let z_3 : Bool := (Option.isSome z_2)
    let z_4 := (Option.getD z_2 default)
    let z_5 := (Option.getD z_1 default)
    let z_6 : Nat := (List.length z_5.2)
    let z_7 := (laws_eqStepS_p F (subn (List.length z_4.2.2) z_4.2.2 0 z_4.1) (subn z_6 z_5.2 0 z_6))
    let z_8 : Bool := (Option.isSome z_7)
    let z_9 : Bool := (!(Option.getD z_7 default))
    let z_10 : Bool := (!(z_4.2.1 == z_5.1))
    let z_11 := (laws_markStepS_p F z_4.1 (1 : Int) z_4.2.2)
    let z_12 := (Option.getD z_11 default)
    let z_13 := (laws_heldStepS_p F (subn (List.length z_12.2) z_12.2 0 z_4.1) (1 : Int))
    let z_14 : Bool := (Option.isSome z_13)
    let z_15 : Bool := (decide ((Option.getD z_13 default) < (0 : Int)))
    let z_16 : Bool := (!((Option.getD z_13 default) == z_12.1))
    bif (Option.isSome z_1) then
    bif z_3 then
    bif z_8 then
    bif z_9 then
    k false
    else bif z_10 then
    k false
    else bif (Option.isSome z_11) then
    bif z_14 then
    bif z_15 then
    k false
    else bif z_16 then
    k false
    else bif z_3 then
    bif z_8 then
    bif z_9 then
    k false
    else bif z_10 then
    k false
    else bif z_14 then
    bif z_15 then
    k false
    else bif z_16 then
    k false
    else k true
    else none
    else none
    else none
    else none
    else none
    else none
    else none
    else none
def laws_FnExactStepBetween_p (F : Nat) (aA0 : List Int) (aB1 : List Int) : Option (Bool) := laws_FnExactStepBetween_c _ F aA0 aB1 some
theorem laws_FnExactStepBetween_cp (Q : Type) (F : Nat) (aA0 : List Int) (aB1 : List Int) (k : (Bool) → Option Q) : laws_FnExactStepBetween_c Q F aA0 aB1 k = (laws_FnExactStepBetween_p F aA0 aB1).bind k := by
  simp only [laws_FnExactStepBetween_p, laws_FnExactStepBetween_c, cond_bindL, none_bindL, some_bindL]

/-- loop.example/g01194/laws.szStepS -/
def laws_szStepS_c (Q : Type) (a0 : List (List Int)) (left1 : Int) (k : (Int) → Option Q) : Option Q :=
    let z_1 : Int := (IntKind.wrap .i64 (left1 - (((List.length a0) : Nat) : Int)))
    bif (decide (z_1 < (0 : Int))) then
    k (-1 : Int)
    else k z_1
def laws_szStepS_v (a0 : List (List Int)) (left1 : Int) : Int :=
    let z_1 : Int := (IntKind.wrap .i64 (left1 - (((List.length a0) : Nat) : Int)))
    bif (decide (z_1 < (0 : Int))) then
    (-1 : Int)
    else z_1
theorem laws_szStepS_cv (Q : Type) (a0 : List (List Int)) (left1 : Int) (k : (Int) → Option Q) : laws_szStepS_c Q a0 left1 k = k (laws_szStepS_v a0 left1) := by
  simp only [laws_szStepS_c, laws_szStepS_v, app_condL k]

/-- loop.example/g01194/laws.toStep -/
def laws_toStep_c (Q : Type) (a0 : List Int) (k : (List Int) → Option Q) : Option Q :=
    k (iset (splice [(iget a0 0), (0 : Int), (0 : Int), (0 : Int)] 1 (laws_toIntA2_v (sub a0 1 2)) 2) 3 (iget a0 3))
def laws_toStep_v (a0 : List Int) : List Int :=
    (iset (splice [(iget a0 0), (0 : Int), (0 : Int), (0 : Int)] 1 (laws_toIntA2_v (sub a0 1 2)) 2) 3 (iget a0 3))
theorem laws_toStep_cv (Q : Type) (a0 : List Int) (k : (List Int) → Option Q) : laws_toStep_c Q a0 k = k (laws_toStep_v a0) := by
  simp only [laws_toStep_c, laws_toStep_v, app_condL k]

/-- loop 3 of loop.example/g01194/laws.toStepS -/
def laws_toStepS_s3 (F : Nat) (a0 : List (List Int)) (out2 : Nat) (Q : Type) : (Int × List (List Int)) → ((Int × List (List Int)) → Option Q) → ((List (List Int)) → Option Q) → Option Q
  | (i3, out4), kn, kx =>
    bif (decide (i3 < (((List.length a0) : Nat) : Int))) then
    bif (inR i3 (List.length a0)) then
    bif (inR i3 out2) then
    kn ((IntKind.wrap .i64 (i3 + (1 : Int))), (rset out4 ((0 : Nat) + (Int.toNat i3)) (laws_toStep_v (rget a0 (Int.toNat i3)))))
    else none
    else none
    else kx out4
def laws_toStepS_l3 (F : Nat) (a0 : List (List Int)) (out2 : Nat) (i3 : Int) (out4 : List (List Int)) : Option (List (List Int)) := loopC (laws_toStepS_s3 F a0 out2) F (i3, out4) some
theorem laws_toStepS_s3_nat (F : Nat) (a0 : List (List Int)) (out2 : Nat) : Natural (laws_toStepS_s3 F a0 out2) := by
  intro Q Q' s kn kx h
  obtain ⟨i3, out4⟩ := s
  simp only [laws_toStepS_s3, cond_bindL, none_bindL]
/-- loop.example/g01194/laws.toStepS -/
def laws_toStepS_c (Q : Type) (F : Nat) (a0 : List (List Int)) (k : (Nat × List (List Int)) → Option Q) : Option Q :=
    let z_1 := (laws_toStepS_l3 F a0 (List.length a0) (0 : Int) (List.replicate (List.length a0) [(0 : Int), (0 : Int), (0 : Int), (0 : Int)]))
    bif ((decide ((0 : Int) ≤ (((List.length a0) : Nat) : Int))) && (fits (List.length a0) 32)) then
    bif (Option.isSome z_1) then
    k ((List.length a0), (Option.getD z_1 default))
    else none
    else none
def laws_toStepS_p (F : Nat) (a0 : List (List Int)) : Option (Nat × List (List Int)) := laws_toStepS_c _ F a0 some
theorem laws_toStepS_cp (Q : Type) (F : Nat) (a0 : List (List Int)) (k : (Nat × List (List Int)) → Option Q) : laws_toStepS_c Q F a0 k = (laws_toStepS_p F a0).bind k := by
  simp only [laws_toStepS_p, laws_toStepS_c, cond_bindL, none_bindL, some_bindL]

/-- loop 5 of loop.example/g01194/spec.PlaySteps -/
def spec_PlaySteps_s5 (F : Nat) (list0 : List (List Int)) (Q : Type) : (Int × Int × List Int) → ((Int × Int × List Int) → Option Q) → ((Bool × Int × Int × List Int × Int × List Int) → Option Q) → Option Q
  | (sum7, i8, b9), kn, kx =>
    let z_1 := (spec_l5Do_p F b9 (rget list0 (Int.toNat i8)))
    let z_2 := (Option.getD z_1 default)
    bif (decide (i8 < (((List.length list0) : Nat) : Int))) then
    bif (inR i8 (List.length list0)) then
    bif (Option.isSome z_1) then
    bif (!z_2.2.2) then
    kx (true, sum7, i8, b9, default, default)
    else kn ((IntKind.wrap .i64 (sum7 + z_2.2.1)), (IntKind.wrap .i64 (i8 + (1 : Int))), z_2.1)
    else none
    else none
    else kx (false, default, default, default, sum7, b9)
def spec_PlaySteps_l5 (F : Nat) (list0 : List (List Int)) (sum7 : Int) (i8 : Int) (b9 : List Int) : Option (Bool × Int × Int × List Int × Int × List Int) := loopC (spec_PlaySteps_s5 F list0) F (sum7, i8, b9) some
theorem spec_PlaySteps_s5_nat (F : Nat) (list0 : List (List Int)) : Natural (spec_PlaySteps_s5 F list0) := by
  intro Q Q' s kn kx h
  obtain ⟨sum7, i8, b9⟩ := s
  simp only [spec_PlaySteps_s5, cond_bindL, none_bindL]
/-- loop.example/g01194/spec.PlaySteps -/
def spec_PlaySteps_c (Q : Type) (F : Nat) (b0 : List Int) (list1 : List (List Int)) (k : (List Int × Int × Int × Bool) → Option Q) : Option Q :=
    let z_1 := (spec_l2Board_p F b0)
    let z_2 := (spec_PlaySteps_l5 F list1 (0 : Int) (0 : Int) b0)
    let z_3 := (Option.getD z_2 default)
    bif (Option.isSome z_1) then
    bif (!(Option.getD z_1 default)) then
    k ([(0 : Int), (0 : Int), (0 : Int), (0 : Int), (0 : Int), (0 : Int), (0 : Int), (0 : Int), (0 : Int), (0 : Int), (0 : Int), (0 : Int), (0 : Int), (0 : Int), (0 : Int), (0 : Int)], (0 : Int), (0 : Int), false)
    else bif (Option.isSome z_2) then
    bif z_3.1 then
    k (z_3.2.2.2.1, z_3.2.1, z_3.2.2.1, true)
    else k (z_3.2.2.2.2.2, z_3.2.2.2.2.1, (((List.length list1) : Nat) : Int), true)
    else none
    else none
def spec_PlaySteps_p (F : Nat) (b0 : List Int) (list1 : List (List Int)) : Option (List Int × Int × Int × Bool) := spec_PlaySteps_c _ F b0 list1 some
theorem spec_PlaySteps_cp (Q : Type) (F : Nat) (b0 : List Int) (list1 : List (List Int)) (k : (List Int × Int × Int × Bool) → Option Q) : spec_PlaySteps_c Q F b0 list1 k = (spec_PlaySteps_p F b0 list1).bind k := by
  simp only [spec_PlaySteps_p, spec_PlaySteps_c, cond_bindL, none_bindL, some_bindL]

/-- loop 2 of slices.Index[[]loop.example/g01194/impl.Step,loop.example/g01194/impl.Step] -/
def slices_Index_implStepimplStep_s2 (F : Nat) (s0 : List (List Int)) (t74 : Int) (v6 : List Int) (Q : Type) : (Int) → ((Int) → Option Q) → ((Bool × Int) → Option Q) → Option Q
  | t85, kn, kx =>
    bif (decide (t85 < t74)) then
    bif (inR t85 (List.length s0)) then
    bif (v6 == (rget s0 (Int.toNat t85))) then
    kx (true, t85)
    else kn (IntKind.wrap .i64 (t85 + (1 : Int)))
    else none
    else kx (false, default)
def slices_Index_implStepimplStep_l2 (F : Nat) (s0 : List (List Int)) (t74 : Int) (v6 : List Int) (t85 : Int) : Option (Bool × Int) := loopC (slices_Index_implStepimplStep_s2 F s0 t74 v6) F t85 some
theorem slices_Index_implStepimplStep_s2_nat (F : Nat) (s0 : List (List Int)) (t74 : Int) (v6 : List Int) : Natural (slices_Index_implStepimplStep_s2 F s0 t74 v6) := by
  intro Q Q' s kn kx h
  simp only [slices_Index_implStepimplStep_s2, cond_bindL, none_bindL]
/-- slices.Index[[]loop.example/g01194/impl.Step,loop.example/g01194/impl.Step] -/
def slices_Index_implStepimplStep_c (Q : Type) (F : Nat) (s0 : List (List Int)) (v1 : List Int) (k : (Int) → Option Q) : Option Q :=
    let z_1 := (slices_Index_implStepimplStep_l2 F s0 (((List.length s0) : Nat) : Int) v1 (0 : Int))
    let z_2 := (Option.getD z_1 default)
    bif (Option.isSome z_1) then
    bif z_2.1 then
    k z_2.2
    else k (-1 : Int)
    else none
def slices_Index_implStepimplStep_p (F : Nat) (s0 : List (List Int)) (v1 : List Int) : Option (Int) := slices_Index_implStepimplStep_c _ F s0 v1 some
theorem slices_Index_implStepimplStep_cp (Q : Type) (F : Nat) (s0 : List (List Int)) (v1 : List Int) (k : (Int) → Option Q) : slices_Index_implStepimplStep_c Q F s0 v1 k = (slices_Index_implStepimplStep_p F s0 v1).bind k := by
  simp only [slices_Index_implStepimplStep_p, slices_Index_implStepimplStep_c, cond_bindL, none_bindL, some_bindL]

/-- slices.Contains[[]loop.example/g01194/impl.Step,loop.example/g01194/impl.Step] -/
def slices_Contains_implStepimplStep_c (Q : Type) (F : Nat) (s0 : List (List Int)) (v1 : List Int) (k : (Bool) → Option Q) : Option Q :=
    let z_1 := (slices_Index_implStepimplStep_p F s0 v1)
    bif (Option.isSome z_1) then
    k (decide ((0 : Int) ≤ (Option.getD z_1 default)))
    else none
def slices_Contains_implStepimplStep_p (F : Nat) (s0 : List (List Int)) (v1 : List Int) : Option (Bool) := slices_Contains_implStepimplStep_c _ F s0 v1 some
theorem slices_Contains_implStepimplStep_cp (Q : Type) (F : Nat) (s0 : List (List Int)) (v1 : List Int) (k : (Bool) → Option Q) : slices_Contains_implStepimplStep_c Q F s0 v1 k = (slices_Contains_implStepimplStep_p F s0 v1).bind k := by
  simp only [slices_Contains_implStepimplStep_p, slices_Contains_implStepimplStep_c, cond_bindL, none_bindL, some_bindL]

/-- (loop.example/g01194/impl.Board).isStep -/
def impl_Board_isStep_c (Q : Type) (F : Nat) (b0 : List Int) (s1 : List Int) (k : (Bool) → Option Q) : Option Q :=
    let z_1 := (impl_Board_steps_p F b0 (iget s1 0))
    let z_2 : Nat := (List.length (Option.getD z_1 default))
    let z_3 := (slices_Contains_implStepimplStep_p F (subn z_2 (Option.getD z_1 default) 0 z_2) s1)
    bif (impl_isDirection_v (iget s1 0)) then
    bif (impl_isCell_v (sub s1 1 2)) then
    bif (Option.isSome z_1) then
    bif (Option.isSome z_3) then
    k (Option.getD z_3 default)
    else none
    else none
    else k false
    else k false
def impl_Board_isStep_p (F : Nat) (b0 : List Int) (s1 : List Int) : Option (Bool) := impl_Board_isStep_c _ F b0 s1 some
theorem impl_Board_isStep_cp (Q : Type) (F : Nat) (b0 : List Int) (s1 : List Int) (k : (Bool) → Option Q) : impl_Board_isStep_c Q F b0 s1 k = (impl_Board_isStep_p F b0 s1).bind k := by
  simp only [impl_Board_isStep_p, impl_Board_isStep_c, cond_bindL, none_bindL, some_bindL]

/-- loop 5 of loop.example/g01194/impl.PlaySteps -/
def impl_PlaySteps_s5 (F : Nat) (list0 : List (List Int)) (t178 : List (List Int)) (t189 : Int) (Q : Type) : (Int × Int × List Int) → ((Int × Int × List Int) → Option Q) → ((Bool × Int × Int × List Int × Int × List Int) → Option Q) → Option Q
  | (sum7, t1910, b11), kn, kx =>
    let z_1 : List Int := (rget t178 (Int.toNat t1910))
    let z_2 := (impl_Board_isStep_p F b11 z_1)
    let z_3 := (impl_Board_behind_p F b11 z_1)
    let z_4 := (Option.getD z_3 default)
    bif (decide (t1910 < t189)) then
    bif (inR t1910 (List.length t178)) then
    bif (Option.isSome z_2) then
    bif (!(Option.getD z_2 default)) then
    kx (true, sum7, t1910, b11, default, default)
    else bif (Option.isSome z_3) then
    kn ((IntKind.wrap .i64 (sum7 + z_4.2)), (IntKind.wrap .i64 (t1910 + (1 : Int))), z_4.1)
    else none
    else none
    else none
    else kx (false, default, default, default, sum7, b11)
def impl_PlaySteps_l5 (F : Nat) (list0 : List (List Int)) (t178 : List (List Int)) (t189 : Int) (sum7 : Int) (t1910 : Int) (b11 : List Int) : Option (Bool × Int × Int × List Int × Int × List Int) := loopC (impl_PlaySteps_s5 F list0 t178 t189) F (sum7, t1910, b11) some
theorem impl_PlaySteps_s5_nat (F : Nat) (list0 : List (List Int)) (t178 : List (List Int)) (t189 : Int) : Natural (impl_PlaySteps_s5 F list0 t178 t189) := by
  intro Q Q' s kn kx h
  obtain ⟨sum7, t1910, b11⟩ := s
  simp only [impl_PlaySteps_s5, cond_bindL, none_bindL]
/-- loop.example/g01194/impl.PlaySteps -/
def impl_PlaySteps_c (Q : Type) (F : Nat) (b0 : List Int) (list1 : List (List Int)) (k : (List Int × Int × Int × Bool) → Option Q) : Option Q :=
    let z_1 := (impl_IsBoard_p F b0)
    let z_2 := (impl_PlaySteps_l5 F list1 list1 (((List.length list1) : Nat) : Int) (0 : Int) (0 : Int) b0)
    let z_3 := (Option.getD z_2 default)
    bif (Option.isSome z_1) then
    bif (!(Option.getD z_1 default)) then
    k ([(0 : Int), (0 : Int), (0 : Int), (0 : Int), (0 : Int), (0 : Int), (0 : Int), (0 : Int), (0 : Int), (0 : Int), (0 : Int), (0 : Int), (0 : Int), (0 : Int), (0 : Int), (0 : Int)], (0 : Int), (0 : Int), false)
    else bif (Option.isSome z_2) then
    bif z_3.1 then
    k (z_3.2.2.2.1, z_3.2.1, z_3.2.2.1, true)
    else k (z_3.2.2.2.2.2, z_3.2.2.2.2.1, (((List.length list1) : Nat) : Int), true)
    else none
    else none
def impl_PlaySteps_p (F : Nat) (b0 : List Int) (list1 : List (List Int)) : Option (List Int × Int × Int × Bool) := impl_PlaySteps_c _ F b0 list1 some
theorem impl_PlaySteps_cp (Q : Type) (F : Nat) (b0 : List Int) (list1 : List (List Int)) (k : (List Int × Int × Int × Bool) → Option Q) : impl_PlaySteps_c Q F b0 list1 k = (impl_PlaySteps_p F b0 list1).bind k := by
  simp only [impl_PlaySteps_p, impl_PlaySteps_c, cond_bindL, none_bindL, some_bindL]

/-- loop 2 of loop.example/g01194/laws.eqIntA4 -/
def laws_eqIntA4_s2 (F : Nat) (a7 : List Int) (b8 : List Int) (Q : Type) : (Int) → ((Int) → Option Q) → ((Bool) → Option Q) → Option Q
  | i6, kn, kx =>
    let z_1 : Nat := ((0 : Nat) + ((Int.toNat i6) * (1 : Nat)))
    bif (decide (i6 < (4 : Int))) then
    bif (inR i6 4) then
    bif (inR i6 4) then
    bif (!((iget a7 z_1) == (iget b8 z_1))) then
    kx true
    else kn (IntKind.wrap .i64 (i6 + (1 : Int)))
    else none
    else none
    else kx false
def laws_eqIntA4_l2 (F : Nat) (a7 : List Int) (b8 : List Int) (i6 : Int) : Option (Bool) := loopC (laws_eqIntA4_s2 F a7 b8) F i6 some
theorem laws_eqIntA4_s2_nat (F : Nat) (a7 : List Int) (b8 : List Int) : Natural (laws_eqIntA4_s2 F a7 b8) := by
  intro Q Q' s kn kx h
  simp only [laws_eqIntA4_s2, cond_bindL, none_bindL]
/-- loop.example/g01194/laws.eqIntA4 -/
def laws_eqIntA4_c (Q : Type) (F : Nat) (a0 : List Int) (b1 : List Int) (k : (Bool) → Option Q) : Option Q :=
    let z_1 := (laws_eqIntA4_l2 F a0 b1 (0 : Int))
    bif (Option.isSome z_1) then
    bif (Option.getD z_1 default) then
    k false
    else k true
    else none
def laws_eqIntA4_p (F : Nat) (a0 : List Int) (b1 : List Int) : Option (Bool) := laws_eqIntA4_c _ F a0 b1 some
theorem laws_eqIntA4_cp (Q : Type) (F : Nat) (a0 : List Int) (b1 : List Int) (k : (Bool) → Option Q) : laws_eqIntA4_c Q F a0 b1 k = (laws_eqIntA4_p F a0 b1).bind k := by
  simp only [laws_eqIntA4_p, laws_eqIntA4_c, cond_bindL, none_bindL, some_bindL]

/-- loop 2 of loop.example/g01194/laws.eqIntA4A4 -/
def laws_eqIntA4A4_s2 (F : Nat) (a7 : List Int) (b8 : List Int) (Q : Type) : (Int) → ((Int) → Option Q) → ((Bool) → Option Q) → Option Q
  | i6, kn, kx =>
    let z_1 : Nat := ((0 : Nat) + ((Int.toNat i6) * (4 : Nat)))
    let z_2 := (laws_eqIntA4_p F (subn 16 a7 z_1 4) (subn 16 b8 z_1 4))
    bif (decide (i6 < (4 : Int))) then
    bif (inR i6 4) then
    bif (inR i6 4) then
    bif (Option.isSome z_2) then
    bif (!(Option.getD z_2 default)) then
    kx true
    else kn (IntKind.wrap .i64 (i6 + (1 : Int)))
    else none
    else none
    else none
    else kx false
def laws_eqIntA4A4_l2 (F : Nat) (a7 : List Int) (b8 : List Int) (i6 : Int) : Option (Bool) := loopC (laws_eqIntA4A4_s2 F a7 b8) F i6 some
theorem laws_eqIntA4A4_s2_nat (F : Nat) (a7 : List Int) (b8 : List Int) : Natural (laws_eqIntA4A4_s2 F a7 b8) := by
  intro Q Q' s kn kx h
  simp only [laws_eqIntA4A4_s2, cond_bindL, none_bindL]
/-- loop.example/g01194/laws.eqIntA4A4 -/
def laws_eqIntA4A4_c (Q : Type) (F : Nat) (a0 : List Int) (b1 : List Int) (k : (Bool) → Option Q) : Option Q :=
    let z_1 := (laws_eqIntA4A4_l2 F a0 b1 (0 : Int))
    bif (Option.isSome z_1) then
    bif (Option.getD z_1 default) then
    k false
    else k true
    else none
def laws_eqIntA4A4_p (F : Nat) (a0 : List Int) (b1 : List Int) : Option (Bool) := laws_eqIntA4A4_c _ F a0 b1 some
theorem laws_eqIntA4A4_cp (Q : Type) (F : Nat) (a0 : List Int) (b1 : List Int) (k : (Bool) → Option Q) : laws_eqIntA4A4_c Q F a0 b1 k = (laws_eqIntA4A4_p F a0 b1).bind k := by
  simp only [laws_eqIntA4A4_p, laws_eqIntA4A4_c, cond_bindL, none_bindL, some_bindL]

/-- loop.example/g01194/laws.eqBoard -/
def laws_eqBoard_c (Q : Type) (F : Nat) (a0 : List Int) (b1 : List Int) (k : (Bool) → Option Q) : Option Q :=
    let z_1 := (laws_eqIntA4A4_p F a0 b1)
    bif (Option.isSome z_1) then
    bif (!(Option.getD z_1 default)) then
    k false
    else k true
    else none
def laws_eqBoard_p (F : Nat) (a0 : List Int) (b1 : List Int) : Option (Bool) := laws_eqBoard_c _ F a0 b1 some
theorem laws_eqBoard_cp (Q : Type) (F : Nat) (a0 : List Int) (b1 : List Int) (k : (Bool) → Option Q) : laws_eqBoard_c Q F a0 b1 k = (laws_eqBoard_p F a0 b1).bind k := by
  simp only [laws_eqBoard_p, laws_eqBoard_c, cond_bindL, none_bindL, some_bindL]

/-- loop.example/g01194/laws.FnExactPlaySteps -/
def laws_FnExactPlaySteps_c (Q : Type) (F : Nat) (aB0 : List Int) (aList1 : List (List Int)) (k : (Bool) → Option Q) : Option Q :=
    let z_1 := (laws_toStepS_p F aList1)
    let z_2 : Bool := (Option.isSome z_1)
    let z_3 := (Option.getD z_1 default)
    let z_4 : List (List Int) := (subn (List.length z_3.2) z_3.2 0 z_3.1)
    let z_5 := (spec_PlaySteps_p F (laws_toBoard_v aB0) z_4)
    let z_6 := (impl_PlaySteps_p F (laws_toBoard_v aB0) z_4)
    let z_7 := (Option.getD z_6 default)
    let z_8 := (Option.getD z_5 default)
    let z_9 := (laws_eqBoard_p F z_7.1 z_8.1)
    let z_10 := (laws_eqStepS_p F z_4 z_4)
    bif (decide ((laws_szStepS_v aList1 (1048576 : Int)) < (0 : Int))) then
    k true
    else bif z_2 then
    bif (Option.isSome z_5) then
    bif z_2 then
    bif (Option.isSome z_6) then
    bif (Option.isSome z_9) then
    bif (!(Option.getD z_9 default)) then
    k false
    else bif (!(z_7.2.1 == z_8.2.1)) then
    k false
    else bif (!(z_7.2.2.1 == z_8.2.2.1)) then
    k false
    else bif (!(z_7.2.2.2 == z_8.2.2.2)) then
    k false
    else bif z_2 then
    bif (Option.isSome z_10) then
    bif (!(Option.getD z_10 default)) then
    k false
    else k true
    else none
    else none
    else none
    else none
    else none
    else none
    else none
def laws_FnExactPlaySteps_p (F : Nat) (aB0 : List Int) (aList1 : List (List Int)) : Option (Bool) := laws_FnExactPlaySteps_c _ F aB0 aList1 some
theorem laws_FnExactPlaySteps_cp (Q : Type) (F : Nat) (aB0 : List Int) (aList1 : List (List Int)) (k : (Bool) → Option Q) : laws_FnExactPlaySteps_c Q F aB0 aList1 k = (laws_FnExactPlaySteps_p F aB0 aList1).bind k := by
  simp only [laws_FnExactPlaySteps_p, laws_FnExactPlaySteps_c, cond_bindL, none_bindL, some_bindL]
end Go.Lv.P
