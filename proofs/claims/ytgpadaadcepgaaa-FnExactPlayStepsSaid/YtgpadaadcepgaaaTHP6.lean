/-
Pure functions and what the code of them does, by program; without conditions.
-/
import Derived.Test.YtgpadaadcepgaaaTHP5
namespace Go.Lv.P
open Go Go.Lv
set_option linter.unusedVariables false
set_option linter.unusedSimpArgs false
set_option maxRecDepth 100000
/-- loop 2 of slices.IndexFunc[[]loop.example/g01194/impl.Step,loop.example/g01194/impl.Step] -/
def slices_IndexFunc_implStepimplStep_impl_IsTrapped_f1_s2 (F : Nat) (s0 : List (List Int)) (t74 : Int) (f6 : List Int) (Q : Type) : (Int) → ((Int) → Option Q) → ((Bool × Int) → Option Q) → Option Q
  | t85, kn, kx =>
    let z_1 := (impl_IsTrapped_f1_p F (rget s0 (Int.toNat t85)) f6)
    bif (decide (t85 < t74)) then
    bif (inR t85 (List.length s0)) then
    bif (Option.isSome z_1) then
    bif (Option.getD z_1 default) then
    kx (true, t85)
    else kn (IntKind.wrap .i64 (t85 + (1 : Int)))
    else none
    else none
    else kx (false, default)
def slices_IndexFunc_implStepimplStep_impl_IsTrapped_f1_l2 (F : Nat) (s0 : List (List Int)) (t74 : Int) (f6 : List Int) (t85 : Int) : Option (Bool × Int) := loopC (slices_IndexFunc_implStepimplStep_impl_IsTrapped_f1_s2 F s0 t74 f6) F t85 some
theorem slices_IndexFunc_implStepimplStep_impl_IsTrapped_f1_s2_nat (F : Nat) (s0 : List (List Int)) (t74 : Int) (f6 : List Int) : Natural (slices_IndexFunc_implStepimplStep_impl_IsTrapped_f1_s2 F s0 t74 f6) := by
  intro Q Q' s kn kx h
  simp only [slices_IndexFunc_implStepimplStep_impl_IsTrapped_f1_s2, cond_bindL, none_bindL]
/-- slices.IndexFunc[[]loop.example/g01194/impl.Step,loop.example/g01194/impl.Step] -/
def slices_IndexFunc_implStepimplStep_impl_IsTrapped_f1_c (Q : Type) (F : Nat) (s0 : List (List Int)) (f4 : List Int) (k : (Int) → Option Q) : Option Q :=
    let z_1 := (slices_IndexFunc_implStepimplStep_impl_IsTrapped_f1_l2 F s0 (((List.length s0) : Nat) : Int) f4 (0 : Int))
    let z_2 := (Option.getD z_1 default)
    bif (Option.isSome z_1) then
    bif z_2.1 then
    k z_2.2
    else k (-1 : Int)
    else none
def slices_IndexFunc_implStepimplStep_impl_IsTrapped_f1_p (F : Nat) (s0 : List (List Int)) (f4 : List Int) : Option (Int) := slices_IndexFunc_implStepimplStep_impl_IsTrapped_f1_c _ F s0 f4 some
theorem slices_IndexFunc_implStepimplStep_impl_IsTrapped_f1_cp (Q : Type) (F : Nat) (s0 : List (List Int)) (f4 : List Int) (k : (Int) → Option Q) : slices_IndexFunc_implStepimplStep_impl_IsTrapped_f1_c Q F s0 f4 k = (slices_IndexFunc_implStepimplStep_impl_IsTrapped_f1_p F s0 f4).bind k := by
  simp only [slices_IndexFunc_implStepimplStep_impl_IsTrapped_f1_p, slices_IndexFunc_implStepimplStep_impl_IsTrapped_f1_c, cond_bindL, none_bindL, some_bindL]

/-- slices.ContainsFunc[[]loop.example/g01194/impl.Step,loop.example/g01194/impl.Step] -/
def slices_ContainsFunc_implStepimplStep_impl_IsTrapped_f1_c (Q : Type) (F : Nat) (s0 : List (List Int)) (f4 : List Int) (k : (Bool) → Option Q) : Option Q :=
    let z_1 := (slices_IndexFunc_implStepimplStep_impl_IsTrapped_f1_p F s0 f4)
    bif (Option.isSome z_1) then
    k (decide ((0 : Int) ≤ (Option.getD z_1 default)))
    else none
def slices_ContainsFunc_implStepimplStep_impl_IsTrapped_f1_p (F : Nat) (s0 : List (List Int)) (f4 : List Int) : Option (Bool) := slices_ContainsFunc_implStepimplStep_impl_IsTrapped_f1_c _ F s0 f4 some
theorem slices_ContainsFunc_implStepimplStep_impl_IsTrapped_f1_cp (Q : Type) (F : Nat) (s0 : List (List Int)) (f4 : List Int) (k : (Bool) → Option Q) : slices_ContainsFunc_implStepimplStep_impl_IsTrapped_f1_c Q F s0 f4 k = (slices_ContainsFunc_implStepimplStep_impl_IsTrapped_f1_p F s0 f4).bind k := by
  simp only [slices_ContainsFunc_implStepimplStep_impl_IsTrapped_f1_p, slices_ContainsFunc_implStepimplStep_impl_IsTrapped_f1_c, cond_bindL, none_bindL, some_bindL]

/-- loop.example/g01194/impl.IsTrapped -/
def impl_IsTrapped_c (Q : Type) (F : Nat) (b0 : List Int) (k : (Bool × Bool) → Option Q) : Option Q :=
    let z_1 := (impl_IsBoard_p F b0)
    let z_2 := (impl_Board_isOver_p F b0)
    let z_3 := (impl_Board_allSteps_p F b0)
    let z_4 : Nat := (List.length (Option.getD z_3 default))
    let z_5 := (slices_ContainsFunc_implStepimplStep_impl_IsTrapped_f1_p F (subn z_4 (Option.getD z_3 default) 0 z_4) b0)
    bif (Option.isSome z_1) then
    bif (!(Option.getD z_1 default)) then
    k (false, false)
    else bif (Option.isSome z_2) then
    bif (!(Option.getD z_2 default)) then
    bif (Option.isSome z_3) then
    bif (Option.isSome z_5) then
    k ((!(Option.getD z_5 default)), true)
    else none
    else none
    else k (false, true)
    else none
    else none
def impl_IsTrapped_p (F : Nat) (b0 : List Int) : Option (Bool × Bool) := impl_IsTrapped_c _ F b0 some
theorem impl_IsTrapped_cp (Q : Type) (F : Nat) (b0 : List Int) (k : (Bool × Bool) → Option Q) : impl_IsTrapped_c Q F b0 k = (impl_IsTrapped_p F b0).bind k := by
  simp only [impl_IsTrapped_p, impl_IsTrapped_c, cond_bindL, none_bindL, some_bindL]

/-- loop.example/g01194/laws.FnExactIsTrapped -/
def laws_FnExactIsTrapped_c (Q : Type) (F : Nat) (aB0 : List Int) (k : (Bool) → Option Q) : Option Q :=
    let z_1 := (spec_IsTrapped_p F (laws_toBoard_v aB0))
    let z_2 := (impl_IsTrapped_p F (laws_toBoard_v aB0))
    let z_3 := (Option.getD z_2 default)
    let z_4 := (Option.getD z_1 default)
    bif (Option.isSome z_1) then
    bif (Option.isSome z_2) then
    bif (!(z_3.1 == z_4.1)) then
    k false
    else bif (!(z_3.2 == z_4.2)) then
    k false
    else k true
    else none
    else none
def laws_FnExactIsTrapped_p (F : Nat) (aB0 : List Int) : Option (Bool) := laws_FnExactIsTrapped_c _ F aB0 some
theorem laws_FnExactIsTrapped_cp (Q : Type) (F : Nat) (aB0 : List Int) (k : (Bool) → Option Q) : laws_FnExactIsTrapped_c Q F aB0 k = (laws_FnExactIsTrapped_p F aB0).bind k := by
  simp only [laws_FnExactIsTrapped_p, laws_FnExactIsTrapped_c, cond_bindL, none_bindL, some_bindL]

/-- loop 6 of loop.example/g01194/spec.StepBetween -/
def spec_StepBetween_s6 (F : Nat) (a11 : List Int) (b12 : List Int) (all14 : List (List Int)) (Q : Type) : (Int × List (List Int)) → ((Int × List (List Int)) → Option Q) → ((List (List Int)) → Option Q) → Option Q
  | (i10, out13), kn, kx =>
    let z_1 : Bool := (inR i10 (List.length all14))
    let z_2 : List Int := (rget all14 ((0 : Nat) + (Int.toNat i10)))
    let z_3 := (spec_l5Do_p F a11 z_2)
    let z_4 : List (List Int) := ((subn (List.length out13) out13 0 (List.length out13)) ++ [z_2])
    let z_5 : Int := (IntKind.wrap .i64 (i10 + (1 : Int)))
    bif (decide (i10 < (((List.length all14) : Nat) : Int))) then
    bif z_1 then
    bif (Option.isSome z_3) then
    bif ((Option.getD z_3 default).1 == b12) then
    bif z_1 then
    bif (fits (List.length z_4) 32) then
    kn (z_5, z_4)
    else none
    else none
    else kn (z_5, out13)
    else none
    else none
    else kx out13
def spec_StepBetween_l6 (F : Nat) (a11 : List Int) (b12 : List Int) (all14 : List (List Int)) (i10 : Int) (out13 : List (List Int)) : Option (List (List Int)) := loopC (spec_StepBetween_s6 F a11 b12 all14) F (i10, out13) some
theorem spec_StepBetween_s6_nat (F : Nat) (a11 : List Int) (b12 : List Int) (all14 : List (List Int)) : Natural (spec_StepBetween_s6 F a11 b12 all14) := by
  intro Q Q' s kn kx h
  obtain ⟨i10, out13⟩ := s
  simp only [spec_StepBetween_s6, cond_bindL, none_bindL]
/-- loop.example/g01194/spec.StepBetween -/
def spec_StepBetween_c (Q : Type) (F : Nat) (a0 : List Int) (b1 : List Int) (k : (Bool × List (List Int)) → Option Q) : Option Q :=
    let z_1 := (spec_l2Board_p F a0)
    let z_2 := (spec_l2Board_p F b1)
    let z_3 := (spec_l5All_p F a0)
    let z_4 : Nat := (List.length (Option.getD z_3 default))
    let z_5 := (spec_StepBetween_l6 F a0 b1 (Option.getD z_3 default) (0 : Int) ([] : List (List Int)))
    bif (Option.isSome z_1) then
    bif (!(Option.getD z_1 default)) then
    k (false, ([] : List (List Int)))
    else bif (Option.isSome z_2) then
    bif (!(Option.getD z_2 default)) then
    k (false, ([] : List (List Int)))
    else bif (Option.isSome z_3) then
    bif ((Nat.beq z_4 z_4) && (Option.isSome z_5)) then
    k (true, (Option.getD z_5 default))
    else none
    else none
    else none
    else none
def spec_StepBetween_p (F : Nat) (a0 : List Int) (b1 : List Int) : Option (Bool × List (List Int)) := spec_StepBetween_c _ F a0 b1 some
theorem spec_StepBetween_cp (Q : Type) (F : Nat) (a0 : List Int) (b1 : List Int) (k : (Bool × List (List Int)) → Option Q) : spec_StepBetween_c Q F a0 b1 k = (spec_StepBetween_p F a0 b1).bind k := by
  simp only [spec_StepBetween_p, spec_StepBetween_c, cond_bindL, none_bindL, some_bindL]

/-- loop.example/g01194/impl.StepBetween$1 -/
def impl_StepBetween_f1_c (Q : Type) (F : Nat) (s0 : List Int) (a17 : List Int) (a28 : List Int) (k : (Bool) → Option Q) : Option Q :=
    let z_1 := (impl_Board_behind_p F a17 s0)
    bif (Option.isSome z_1) then
    k (!((Option.getD z_1 default).1 == a28))
    else none
def impl_StepBetween_f1_p (F : Nat) (s0 : List Int) (a17 : List Int) (a28 : List Int) : Option (Bool) := impl_StepBetween_f1_c _ F s0 a17 a28 some
theorem impl_StepBetween_f1_cp (Q : Type) (F : Nat) (s0 : List Int) (a17 : List Int) (a28 : List Int) (k : (Bool) → Option Q) : impl_StepBetween_f1_c Q F s0 a17 a28 k = (impl_StepBetween_f1_p F s0 a17 a28).bind k := by
  simp only [impl_StepBetween_f1_p, impl_StepBetween_f1_c, cond_bindL, none_bindL, some_bindL]

/-- loop 2 of slices.IndexFunc[[]loop.example/g01194/impl.Step,loop.example/g01194/impl.Step] -/
def slices_IndexFunc_implStepimplStep_impl_StepBetween_f1_s2 (F : Nat) (s0 : List (List Int)) (t77 : Int) (f9 : List Int) (f10 : List Int) (Q : Type) : (Int) → ((Int) → Option Q) → ((Bool × Int) → Option Q) → Option Q
  | t88, kn, kx =>
    let z_1 := (impl_StepBetween_f1_p F (rget s0 (Int.toNat t88)) f9 f10)
    bif (decide (t88 < t77)) then
    bif (inR t88 (List.length s0)) then
    bif (Option.isSome z_1) then
    bif (Option.getD z_1 default) then
    kx (true, t88)
    else kn (IntKind.wrap .i64 (t88 + (1 : Int)))
    else none
    else none
    else kx (false, default)
def slices_IndexFunc_implStepimplStep_impl_StepBetween_f1_l2 (F : Nat) (s0 : List (List Int)) (t77 : Int) (f9 : List Int) (f10 : List Int) (t88 : Int) : Option (Bool × Int) := loopC (slices_IndexFunc_implStepimplStep_impl_StepBetween_f1_s2 F s0 t77 f9 f10) F t88 some
theorem slices_IndexFunc_implStepimplStep_impl_StepBetween_f1_s2_nat (F : Nat) (s0 : List (List Int)) (t77 : Int) (f9 : List Int) (f10 : List Int) : Natural (slices_IndexFunc_implStepimplStep_impl_StepBetween_f1_s2 F s0 t77 f9 f10) := by
  intro Q Q' s kn kx h
  simp only [slices_IndexFunc_implStepimplStep_impl_StepBetween_f1_s2, cond_bindL, none_bindL]
/-- slices.IndexFunc[[]loop.example/g01194/impl.Step,loop.example/g01194/impl.Step] -/
def slices_IndexFunc_implStepimplStep_impl_StepBetween_f1_c (Q : Type) (F : Nat) (s0 : List (List Int)) (f7 : List Int) (f8 : List Int) (k : (Int) → Option Q) : Option Q :=
    let z_1 := (slices_IndexFunc_implStepimplStep_impl_StepBetween_f1_l2 F s0 (((List.length s0) : Nat) : Int) f7 f8 (0 : Int))
    let z_2 := (Option.getD z_1 default)
    bif (Option.isSome z_1) then
    bif z_2.1 then
    k z_2.2
    else k (-1 : Int)
    else none
def slices_IndexFunc_implStepimplStep_impl_StepBetween_f1_p (F : Nat) (s0 : List (List Int)) (f7 : List Int) (f8 : List Int) : Option (Int) := slices_IndexFunc_implStepimplStep_impl_StepBetween_f1_c _ F s0 f7 f8 some
theorem slices_IndexFunc_implStepimplStep_impl_StepBetween_f1_cp (Q : Type) (F : Nat) (s0 : List (List Int)) (f7 : List Int) (f8 : List Int) (k : (Int) → Option Q) : slices_IndexFunc_implStepimplStep_impl_StepBetween_f1_c Q F s0 f7 f8 k = (slices_IndexFunc_implStepimplStep_impl_StepBetween_f1_p F s0 f7 f8).bind k := by
  simp only [slices_IndexFunc_implStepimplStep_impl_StepBetween_f1_p, slices_IndexFunc_implStepimplStep_impl_StepBetween_f1_c, cond_bindL, none_bindL, some_bindL]

/-- loop 5 of slices.DeleteFunc[[]loop.example/g01194/impl.Step,loop.example/g01194/impl.Step] -/
def slices_DeleteFunc_implStepimplStep_impl_StepBetween_f1_s5 (F : Nat) (s1 : Nat) (del11 : List Int) (del12 : List Int) (Q : Type) : (Int × Int × List (List Int)) → ((Int × Int × List (List Int)) → Option Q) → ((Int × List (List Int)) → Option Q) → Option Q
  | (i8, j9, s10), kn, kx =>
    let z_1 : List Int := (rget s10 ((0 : Nat) + (Int.toNat j9)))
    let z_2 := (impl_StepBetween_f1_p F z_1 del11 del12)
    let z_3 : Int := (IntKind.wrap .i64 (j9 + (1 : Int)))
    bif (decide (j9 < ((s1 : Nat) : Int))) then
    bif (inR j9 s1) then
    bif (Option.isSome z_2) then
    bif (!(Option.getD z_2 default)) then
    bif (inR i8 s1) then
    kn ((IntKind.wrap .i64 (i8 + (1 : Int))), z_3, (rset s10 ((0 : Nat) + (Int.toNat i8)) z_1))
    else none
    else kn (i8, z_3, s10)
    else none
    else none
    else kx (i8, s10)
def slices_DeleteFunc_implStepimplStep_impl_StepBetween_f1_l5 (F : Nat) (s1 : Nat) (del11 : List Int) (del12 : List Int) (i8 : Int) (j9 : Int) (s10 : List (List Int)) : Option (Int × List (List Int)) := loopC (slices_DeleteFunc_implStepimplStep_impl_StepBetween_f1_s5 F s1 del11 del12) F (i8, j9, s10) some
theorem slices_DeleteFunc_implStepimplStep_impl_StepBetween_f1_s5_nat (F : Nat) (s1 : Nat) (del11 : List Int) (del12 : List Int) : Natural (slices_DeleteFunc_implStepimplStep_impl_StepBetween_f1_s5 F s1 del11 del12) := by
  intro Q Q' s kn kx h
  obtain ⟨i8, j9, s10⟩ := s
  simp only [slices_DeleteFunc_implStepimplStep_impl_StepBetween_f1_s5, cond_bindL, none_bindL]
/-- slices.DeleteFunc[[]loop.example/g01194/impl.Step,loop.example/g01194/impl.Step] -/
def slices_DeleteFunc_implStepimplStep_impl_StepBetween_f1_c (Q : Type) (F : Nat) (s8 : List (List Int)) (del9 : List Int) (del10 : List Int) (k : (Nat × List (List Int)) → Option Q) : Option Q :=
    let z_1 := (slices_IndexFunc_implStepimplStep_impl_StepBetween_f1_p F (subn (List.length s8) s8 0 (List.length s8)) del9 del10)
    let z_2 := (slices_DeleteFunc_implStepimplStep_impl_StepBetween_f1_l5 F (List.length s8) del9 del10 (Option.getD z_1 default) (IntKind.wrap .i64 ((Option.getD z_1 default) + (1 : Int))) s8)
    let z_3 := (Option.getD z_2 default)
    let z_4 : Bool := (inLe z_3.1 (List.length s8))
    let z_5 : Nat := (Int.toNat z_3.1)
    let z_6 : Nat := ((List.length s8) - z_5)
    bif (Option.isSome z_1) then
    bif ((Option.getD z_1 default) == (-1 : Int)) then
    k ((List.length s8), s8)
    else bif (Option.isSome z_2) then
    bif z_4 then
    bif z_4 then
    k ((z_5 - (0 : Nat)), (splice z_3.2 ((0 : Nat) + z_5) (List.replicate z_6 [(0 : Int), (0 : Int), (0 : Int), (0 : Int)]) z_6))
    else none
    else none
    else none
    else none
def slices_DeleteFunc_implStepimplStep_impl_StepBetween_f1_p (F : Nat) (s8 : List (List Int)) (del9 : List Int) (del10 : List Int) : Option (Nat × List (List Int)) := slices_DeleteFunc_implStepimplStep_impl_StepBetween_f1_c _ F s8 del9 del10 some
theorem slices_DeleteFunc_implStepimplStep_impl_StepBetween_f1_cp (Q : Type) (F : Nat) (s8 : List (List Int)) (del9 : List Int) (del10 : List Int) (k : (Nat × List (List Int)) → Option Q) : slices_DeleteFunc_implStepimplStep_impl_StepBetween_f1_c Q F s8 del9 del10 k = (slices_DeleteFunc_implStepimplStep_impl_StepBetween_f1_p F s8 del9 del10).bind k := by
  simp only [slices_DeleteFunc_implStepimplStep_impl_StepBetween_f1_p, slices_DeleteFunc_implStepimplStep_impl_StepBetween_f1_c, cond_bindL, none_bindL, some_bindL]

/-- loop.example/g01194/impl.StepBetween -/
def impl_StepBetween_c (Q : Type) (F : Nat) (a0 : List Int) (b1 : List Int) (k : (Nat × Bool × List (List Int)) → Option Q) : Option Q :=
    let z_1 := (impl_IsBoard_p F a0)
    let z_2 := (impl_IsBoard_p F b1)
    let z_3 := (impl_Board_allSteps_p F a0)
    let z_4 : Nat := (List.length (Option.getD z_3 default))
    let z_5 := (slices_DeleteFunc_implStepimplStep_impl_StepBetween_f1_p F (Option.getD z_3 default) a0 b1)
    let z_6 := (Option.getD z_5 default)
    bif (Option.isSome z_1) then
    bif (!(Option.getD z_1 default)) then
    k ((0 : Nat), false, ([] : List (List Int)))
    else bif (Option.isSome z_2) then
    bif (!(Option.getD z_2 default)) then
    k ((0 : Nat), false, ([] : List (List Int)))
    else bif (Option.isSome z_3) then
    bif ((Nat.beq z_4 z_4) && (Option.isSome z_5)) then
    k (z_6.1, true, z_6.2)
    else none
    else none
    else none
    else none
def impl_StepBetween_p (F : Nat) (a0 : List Int) (b1 : List Int) : Option (Nat × Bool × List (List Int)) := impl_StepBetween_c _ F a0 b1 some
theorem impl_StepBetween_cp (Q : Type) (F : Nat) (a0 : List Int) (b1 : List Int) (k : (Nat × Bool × List (List Int)) → Option Q) : impl_StepBetween_c Q F a0 b1 k = (impl_StepBetween_p F a0 b1).bind k := by
  simp only [impl_StepBetween_p, impl_StepBetween_c, cond_bindL, none_bindL, some_bindL]

/-- loop.example/g01194/laws.eqStep -/
def laws_eqStep_c (Q : Type) (F : Nat) (a0 : List Int) (b1 : List Int) (k : (Bool) → Option Q) : Option Q :=
    let z_1 := (laws_eqIntA2_p F (sub a0 1 2) (sub b1 1 2))
    bif (!((iget a0 0) == (iget b1 0))) then
    k false
    else bif (Option.isSome z_1) then
    bif (!(Option.getD z_1 default)) then
    k false
    else bif (!((iget a0 3) == (iget b1 3))) then
    k false
    else k true
    else none
def laws_eqStep_p (F : Nat) (a0 : List Int) (b1 : List Int) : Option (Bool) := laws_eqStep_c _ F a0 b1 some
theorem laws_eqStep_cp (Q : Type) (F : Nat) (a0 : List Int) (b1 : List Int) (k : (Bool) → Option Q) : laws_eqStep_c Q F a0 b1 k = (laws_eqStep_p F a0 b1).bind k := by
  simp only [laws_eqStep_p, laws_eqStep_c, cond_bindL, none_bindL, some_bindL]

/-- loop 4 of loop.example/g01194/laws.eqStepS -/
def laws_eqStepS_s4 (F : Nat) (a0 : List (List Int)) (b1 : List (List Int)) (Q : Type) : (Int) → ((Int) → Option Q) → ((Bool) → Option Q) → Option Q
  | i2, kn, kx =>
    let z_1 := (laws_eqStep_p F (rget a0 (Int.toNat i2)) (rget b1 (Int.toNat i2)))
    bif (decide (i2 < (((List.length a0) : Nat) : Int))) then
    bif (inR i2 (List.length a0)) then
    bif (inR i2 (List.length b1)) then
    bif (Option.isSome z_1) then
    bif (!(Option.getD z_1 default)) then
    kx true
    else kn (IntKind.wrap .i64 (i2 + (1 : Int)))
    else none
    else none
    else none
    else kx false
def laws_eqStepS_l4 (F : Nat) (a0 : List (List Int)) (b1 : List (List Int)) (i2 : Int) : Option (Bool) := loopC (laws_eqStepS_s4 F a0 b1) F i2 some
theorem laws_eqStepS_s4_nat (F : Nat) (a0 : List (List Int)) (b1 : List (List Int)) : Natural (laws_eqStepS_s4 F a0 b1) := by
  intro Q Q' s kn kx h
  simp only [laws_eqStepS_s4, cond_bindL, none_bindL]
/-- loop.example/g01194/laws.eqStepS -/
def laws_eqStepS_c (Q : Type) (F : Nat) (a0 : List (List Int)) (b1 : List (List Int)) (k : (Bool) → Option Q) : Option Q :=
    let z_1 := (laws_eqStepS_l4 F a0 b1 (0 : Int))
    bif (!((((List.length a0) : Nat) : Int) == (((List.length b1) : Nat) : Int))) then
    k false
    else bif (Option.isSome z_1) then
    bif (Option.getD z_1 default) then
    k false
    else k true
    else none
def laws_eqStepS_p (F : Nat) (a0 : List (List Int)) (b1 : List (List Int)) : Option (Bool) := laws_eqStepS_c _ F a0 b1 some
theorem laws_eqStepS_cp (Q : Type) (F : Nat) (a0 : List (List Int)) (b1 : List (List Int)) (k : (Bool) → Option Q) : laws_eqStepS_c Q F a0 b1 k = (laws_eqStepS_p F a0 b1).bind k := by
  simp only [laws_eqStepS_p, laws_eqStepS_c, cond_bindL, none_bindL, some_bindL]

/-- loop 7 of loop.example/g01194/laws.markStepS -/
def laws_markStepS_s7 (F : Nat) (a1 : Nat) (i3 : Int) (Q : Type) : (Int × Int × List (List Int)) → ((Int × Int × List (List Int)) → Option Q) → ((Int × List (List Int)) → Option Q) → Option Q
  | (k2, j4, a5), kn, kx =>
    bif (decide (j4 < (2 : Int))) then
    bif (inR i3 a1) then
    bif (inR j4 2) then
    kn ((IntKind.wrap .i64 (k2 + (1 : Int))), (IntKind.wrap .i64 (j4 + (1 : Int))), (rset a5 ((0 : Nat) + (Int.toNat i3)) (iset (rget a5 ((0 : Nat) + (Int.toNat i3))) ((1 : Nat) + ((Int.toNat j4) * (1 : Nat))) k2)))
    else none
    else none
    else kx (k2, a5)
def laws_markStepS_l7 (F : Nat) (a1 : Nat) (i3 : Int) (k2 : Int) (j4 : Int) (a5 : List (List Int)) : Option (Int × List (List Int)) := loopC (laws_markStepS_s7 F a1 i3) F (k2, j4, a5) some
theorem laws_markStepS_s7_nat (F : Nat) (a1 : Nat) (i3 : Int) : Natural (laws_markStepS_s7 F a1 i3) := by
  intro Q Q' s kn kx h
  obtain ⟨k2, j4, a5⟩ := s
  simp only [laws_markStepS_s7, cond_bindL, none_bindL]
/-- loop 2 of loop.example/g01194/laws.markStepS -/
def laws_markStepS_s2 (F : Nat) (a1 : Nat) (Q : Type) : (Int × Int × List (List Int)) → ((Int × Int × List (List Int)) → Option Q) → ((Int × List (List Int)) → Option Q) → Option Q
  | (k2, i3, a4), kn, kx =>
    let z_1 := (laws_markStepS_l7 F a1 i3 (IntKind.wrap .i64 (k2 + (1 : Int))) (0 : Int) (rset a4 ((0 : Nat) + (Int.toNat i3)) (iset (rget a4 ((0 : Nat) + (Int.toNat i3))) 0 k2)))
    let z_2 := (Option.getD z_1 default)
    bif (decide (i3 < ((a1 : Nat) : Int))) then
    bif (inR i3 a1) then
    bif (Option.isSome z_1) then
    bif (inR i3 a1) then
    kn ((IntKind.wrap .i64 (z_2.1 + (1 : Int))), (IntKind.wrap .i64 (i3 + (1 : Int))), (rset z_2.2 ((0 : Nat) + (Int.toNat i3)) (iset (rget z_2.2 ((0 : Nat) + (Int.toNat i3))) 3 z_2.1)))
    else none
    else none
    else none
    else kx (k2, a4)
def laws_markStepS_l2 (F : Nat) (a1 : Nat) (k2 : Int) (i3 : Int) (a4 : List (List Int)) : Option (Int × List (List Int)) := loopC (laws_markStepS_s2 F a1) F (k2, i3, a4) some
theorem laws_markStepS_s2_nat (F : Nat) (a1 : Nat) : Natural (laws_markStepS_s2 F a1) := by
  intro Q Q' s kn kx h
  obtain ⟨k2, i3, a4⟩ := s
  simp only [laws_markStepS_s2, cond_bindL, none_bindL]
/-- loop.example/g01194/laws.markStepS -/
def laws_markStepS_c (Q : Type) (F : Nat) (a1 : Nat) (k2 : Int) (a3 : List (List Int)) (k : (Int × List (List Int)) → Option Q) : Option Q :=
    let z_1 := (laws_markStepS_l2 F a1 k2 (0 : Int) a3)
    let z_2 := (Option.getD z_1 default)
    bif (Option.isSome z_1) then
    k (z_2.1, z_2.2)
    else none
def laws_markStepS_p (F : Nat) (a1 : Nat) (k2 : Int) (a3 : List (List Int)) : Option (Int × List (List Int)) := laws_markStepS_c _ F a1 k2 a3 some
theorem laws_markStepS_cp (Q : Type) (F : Nat) (a1 : Nat) (k2 : Int) (a3 : List (List Int)) (k : (Int × List (List Int)) → Option Q) : laws_markStepS_c Q F a1 k2 a3 k = (laws_markStepS_p F a1 k2 a3).bind k := by
  simp only [laws_markStepS_p, laws_markStepS_c, cond_bindL, none_bindL, some_bindL]
end Go.Lv.P
