/-
Pure functions and what the code of them does, by program; without conditions.
-/
import Derived.Test.YtabfliifleonaafQfP3
namespace Go.Lv.P
open Go Go.Lv
set_option linter.unusedVariables false
set_option linter.unusedSimpArgs false
set_option maxRecDepth 100000
/-- loop.example/g01194/spec.DrawStepBetween -/
def spec_DrawStepBetween_c (Q : Type) (F : Nat) (code0 : List Int) (k : (List Int × List Int) → Option Q) : Option Q :=
    let z_1 := (spec_l1Cur_tight5_p F code0 (0 : Int) (0 : Int))
    let z_2 := (Option.getD z_1 default)
    let z_3 := (spec_l2Board_p F z_2.1)
    let z_4 := (spec_l1Cur_one_p (6 : Int) code0 z_2.2.1 z_2.2.2)
    let z_5 := (Option.getD z_4 default)
    let z_6 := (spec_l1Cur_step5_p F z_2.1 code0 z_5.2.1 z_5.2.2)
    let z_7 := (Option.getD z_6 default)
    let z_8 := (spec_l5Do_p F z_2.1 z_7.1)
    let z_9 := (Option.getD z_8 default)
    let z_10 := (spec_l1Cur_board_p F code0 z_7.2.1 z_7.2.2)
    let z_11 := (spec_l1Cur_board_p F code0 z_5.2.1 z_5.2.2)
    let z_12 := (spec_l1Cur_board_p F code0 z_2.2.1 z_2.2.2)
    bif (Option.isSome z_1) then
    bif (Option.isSome z_3) then
    bif (Option.getD z_3 default) then
    bif (Option.isSome z_4) then
    bif (!z_5.1) then
    bif (Option.isSome z_6) then
    bif (Option.isSome z_8) then
    bif z_9.2.2 then
    k (z_2.1, z_9.1)
    else bif (Option.isSome z_10) then
    k (z_2.1, (Option.getD z_10 default).1)
    else none
    else none
    else none
    else bif (Option.isSome z_11) then
    k (z_2.1, (Option.getD z_11 default).1)
    else none
    else none
    else bif (Option.isSome z_12) then
    k (z_2.1, (Option.getD z_12 default).1)
    else none
    else none
    else none
def spec_DrawStepBetween_p (F : Nat) (code0 : List Int) : Option (List Int × List Int) := spec_DrawStepBetween_c _ F code0 some
theorem spec_DrawStepBetween_cp (Q : Type) (F : Nat) (code0 : List Int) (k : (List Int × List Int) → Option Q) : spec_DrawStepBetween_c Q F code0 k = (spec_DrawStepBetween_p F code0).bind k := by
  simp only [spec_DrawStepBetween_p, spec_DrawStepBetween_c, cond_bindL, none_bindL, some_bindL]

/-- slices.Grow[[]loop.example/g01194/impl.Step,loop.example/g01194/impl.Step] -/
def slices_Grow_implStepimplStep_c (Q : Type) (n0 : Int) (k : (List (List Int)) → Option Q) : Option Q :=
    let z_1 : Int := (IntKind.wrap .i64 (n0 - (0 : Int)))
    let z_2 : Nat := (Int.toNat z_1)
    bif (decide (n0 < (0 : Int))) then
    none
    else bif (decide ((0 : Int) < z_1)) then
    bif ((decide ((1 : Int) ≤ z_1)) && (fits z_2 32)) then
    bif (inLe (0 : Int) z_2) then
    k (List.replicate z_2 [(0 : Int), (0 : Int), (0 : Int), (0 : Int)])
    else none
    else none
    else k ([] : List (List Int))
def slices_Grow_implStepimplStep_p (n0 : Int) : Option (List (List Int)) := slices_Grow_implStepimplStep_c _ n0 some
theorem slices_Grow_implStepimplStep_cp (Q : Type) (n0 : Int) (k : (List (List Int)) → Option Q) : slices_Grow_implStepimplStep_c Q n0 k = (slices_Grow_implStepimplStep_p n0).bind k := by
  simp only [slices_Grow_implStepimplStep_p, slices_Grow_implStepimplStep_c, cond_bindL, none_bindL, some_bindL]

/-- slices.Concat[[]loop.example/g01194/impl.Step,loop.example/g01194/impl.Step] -/
def slices_Concat_implStepimplStep_c (Q : Type) (slices0 : List (List Int)) (slices1 : List (List Int)) (slices2 : List (List Int)) (slices3 : List (List Int)) (k : (List (List Int)) → Option Q) : Option Q :=
    let z_1 : Int := (IntKind.wrap .i64 ((0 : Int) + (((List.length slices0) : Nat) : Int)))
    let z_2 : Int := (IntKind.wrap .i64 (z_1 + (((List.length slices1) : Nat) : Int)))
    let z_3 : Int := (IntKind.wrap .i64 (z_2 + (((List.length slices2) : Nat) : Int)))
    let z_4 : Int := (IntKind.wrap .i64 (z_3 + (((List.length slices3) : Nat) : Int)))
    let z_5 : List (List Int) := ((subn (List.length (Option.getD (slices_Grow_implStepimplStep_p z_4) default)) (Option.getD (slices_Grow_implStepimplStep_p z_4) default) 0 0) ++ slices0)
    let z_6 : Nat := (List.length z_5)
    let z_7 : List (List Int) := ((subn z_6 z_5 0 z_6) ++ slices1)
    let z_8 : Nat := (List.length z_7)
    let z_9 : List (List Int) := ((subn z_8 z_7 0 z_8) ++ slices2)
    let z_10 : Nat := (List.length z_9)
    let z_11 : List (List Int) := ((subn z_10 z_9 0 z_10) ++ slices3)
    bif (decide (z_1 < (0 : Int))) then
    none
    else bif (decide (z_2 < (0 : Int))) then
    none
    else bif (decide (z_3 < (0 : Int))) then
    none
    else bif (decide (z_4 < (0 : Int))) then
    none
    else bif (Option.isSome (slices_Grow_implStepimplStep_p z_4)) then
    bif (fits z_6 32) then
    bif (fits z_8 32) then
    bif (fits z_10 32) then
    bif (fits (List.length z_11) 32) then
    k z_11
    else none
    else none
    else none
    else none
    else none
def slices_Concat_implStepimplStep_p (slices0 : List (List Int)) (slices1 : List (List Int)) (slices2 : List (List Int)) (slices3 : List (List Int)) : Option (List (List Int)) := slices_Concat_implStepimplStep_c _ slices0 slices1 slices2 slices3 some
theorem slices_Concat_implStepimplStep_cp (Q : Type) (slices0 : List (List Int)) (slices1 : List (List Int)) (slices2 : List (List Int)) (slices3 : List (List Int)) (k : (List (List Int)) → Option Q) : slices_Concat_implStepimplStep_c Q slices0 slices1 slices2 slices3 k = (slices_Concat_implStepimplStep_p slices0 slices1 slices2 slices3).bind k := by
  simp only [slices_Concat_implStepimplStep_p, slices_Concat_implStepimplStep_c, cond_bindL, none_bindL, some_bindL]

/-- (loop.example/g01194/impl.Board).allSteps -/
def impl_Board_allSteps_c (Q : Type) (F : Nat) (b0 : List Int) (k : (List (List Int)) → Option Q) : Option Q :=
    let z_1 := (impl_Board_steps_p F b0 (0 : Int))
    let z_2 := (impl_Board_steps_p F b0 (1 : Int))
    let z_3 := (impl_Board_steps_p F b0 (2 : Int))
    let z_4 := (impl_Board_steps_p F b0 (3 : Int))
    let z_5 : Nat := (List.length (Option.getD z_1 default))
    let z_6 : Nat := (List.length (Option.getD z_2 default))
    let z_7 : Nat := (List.length (Option.getD z_3 default))
    let z_8 : Nat := (List.length (Option.getD z_4 default))
    let z_9 := (slices_Concat_implStepimplStep_p (subn z_5 (Option.getD z_1 default) 0 z_5) (subn z_6 (Option.getD z_2 default) 0 z_6) (subn z_7 (Option.getD z_3 default) 0 z_7) (subn z_8 (Option.getD z_4 default) 0 z_8))
    bif (Option.isSome z_1) then
    bif (Option.isSome z_2) then
    bif (Option.isSome z_3) then
    bif (Option.isSome z_4) then
    bif (Option.isSome z_9) then
    k (Option.getD z_9 default)
    else none
    else none
    else none
    else none
    else none
def impl_Board_allSteps_p (F : Nat) (b0 : List Int) : Option (List (List Int)) := impl_Board_allSteps_c _ F b0 some
theorem impl_Board_allSteps_cp (Q : Type) (F : Nat) (b0 : List Int) (k : (List (List Int)) → Option Q) : impl_Board_allSteps_c Q F b0 k = (impl_Board_allSteps_p F b0).bind k := by
  simp only [impl_Board_allSteps_p, impl_Board_allSteps_c, cond_bindL, none_bindL, some_bindL]

/-- loop.example/g01194/impl.StepBetween$1 -/
def impl_StepBetween_f1_c (Q : Type) (F : Nat) (s0 : List Int) (a17 : List Int) (a28 : List Int) (k : (Bool) → Option Q) : Option Q :=
    let z_1 := (impl_Board_behind_p F a17 s0)
    bif (Option.isSome z_1) then
    k (!((Option.getD z_1 default).1 == a28))
    else none
def impl_StepBetween_f1_p (F : Nat) (s0 : List Int) (a17 : List Int) (a28 : List Int) : Option (Bool) := impl_StepBetween_f1_c _ F s0 a17 a28 some
theorem impl_StepBetween_f1_cp (Q : Type) (F : Nat) (s0 : List Int) (a17 : List Int) (a28 : List Int) (k : (Bool) → Option Q) : impl_StepBetween_f1_c Q F s0 a17 a28 k = (impl_StepBetween_f1_p F s0 a17 a28).bind k := by
  simp only [impl_StepBetween_f1_p, impl_StepBetween_f1_c, cond_bindL, none_bindL, some_bindL]

/-- loop 2 of slices.IndexFunc[[]loop.example/g01194/impl.Step,loop.example/g01194/impl.Step] -/
def slices_IndexFunc_implStepimplStep_impl_StepBetween_f1_s2 (F : Nat) (s0 : List (List Int)) (t77 : Int) (f9 : List Int) (f10 : List Int) (Q : Type) : (Int) → ((Int) → Option Q) → ((Bool × Int) → Option Q) → Option Q
  | t88, kn, kx =>
    let z_1 := (impl_StepBetween_f1_p F (rget s0 (Int.toNat t88)) f9 f10)
    bif (decide (t88 < t77)) then
    bif (inR t88 (List.length s0)) then
    bif (Option.isSome z_1) then
    bif (Option.getD z_1 default) then
    kx (true, t88)
    else kn (IntKind.wrap .i64 (t88 + (1 : Int)))
    else none
    else none
    else kx (false, default)
def slices_IndexFunc_implStepimplStep_impl_StepBetween_f1_l2 (F : Nat) (s0 : List (List Int)) (t77 : Int) (f9 : List Int) (f10 : List Int) (t88 : Int) : Option (Bool × Int) := loopC (slices_IndexFunc_implStepimplStep_impl_StepBetween_f1_s2 F s0 t77 f9 f10) F t88 some
theorem slices_IndexFunc_implStepimplStep_impl_StepBetween_f1_s2_nat (F : Nat) (s0 : List (List Int)) (t77 : Int) (f9 : List Int) (f10 : List Int) : Natural (slices_IndexFunc_implStepimplStep_impl_StepBetween_f1_s2 F s0 t77 f9 f10) := by
  intro Q Q' s kn kx h
  simp only [slices_IndexFunc_implStepimplStep_impl_StepBetween_f1_s2, cond_bindL, none_bindL]
/-- slices.IndexFunc[[]loop.example/g01194/impl.Step,loop.example/g01194/impl.Step] -/
def slices_IndexFunc_implStepimplStep_impl_StepBetween_f1_c (Q : Type) (F : Nat) (s0 : List (List Int)) (f7 : List Int) (f8 : List Int) (k : (Int) → Option Q) : Option Q :=
    let z_1 := (slices_IndexFunc_implStepimplStep_impl_StepBetween_f1_l2 F s0 (((List.length s0) : Nat) : Int) f7 f8 (0 : Int))
    let z_2 := (Option.getD z_1 default)
    bif (Option.isSome z_1) then
    bif z_2.1 then
    k z_2.2
    else k (-1 : Int)
    else none
def slices_IndexFunc_implStepimplStep_impl_StepBetween_f1_p (F : Nat) (s0 : List (List Int)) (f7 : List Int) (f8 : List Int) : Option (Int) := slices_IndexFunc_implStepimplStep_impl_StepBetween_f1_c _ F s0 f7 f8 some
theorem slices_IndexFunc_implStepimplStep_impl_StepBetween_f1_cp (Q : Type) (F : Nat) (s0 : List (List Int)) (f7 : List Int) (f8 : List Int) (k : (Int) → Option Q) : slices_IndexFunc_implStepimplStep_impl_StepBetween_f1_c Q F s0 f7 f8 k = (slices_IndexFunc_implStepimplStep_impl_StepBetween_f1_p F s0 f7 f8).bind k := by
  simp only [slices_IndexFunc_implStepimplStep_impl_StepBetween_f1_p, slices_IndexFunc_implStepimplStep_impl_StepBetween_f1_c, cond_bindL, none_bindL, some_bindL]

/-- loop 5 of slices.DeleteFunc[[]loop.example/g01194/impl.Step,loop.example/g01194/impl.Step] -/
def slices_DeleteFunc_implStepimplStep_impl_StepBetween_f1_s5 (F : Nat) (s1 : Nat) (del11 : List Int) (del12 : List Int) (Q : Type) : (Int × Int × List (List Int)) → ((Int × Int × List (List Int)) → Option Q) → ((Int × List (List Int)) → Option Q) → Option Q
  | (i8, j9, s10), kn, kx =>
    let z_1 : List Int := (rget s10 ((0 : Nat) + (Int.toNat j9)))
    let z_2 := (impl_StepBetween_f1_p F z_1 del11 del12)
    let z_3 : Int := (IntKind.wrap .i64 (j9 + (1 : Int)))
    bif (decide (j9 < ((s1 : Nat) : Int))) then
    bif (inR j9 s1) then
    bif (Option.isSome z_2) then
    bif (!(Option.getD z_2 default)) then
    bif (inR i8 s1) then
    kn ((IntKind.wrap .i64 (i8 + (1 : Int))), z_3, (rset s10 ((0 : Nat) + (Int.toNat i8)) z_1))
    else none
    else kn (i8, z_3, s10)
    else none
    else none
    else kx (i8, s10)
def slices_DeleteFunc_implStepimplStep_impl_StepBetween_f1_l5 (F : Nat) (s1 : Nat) (del11 : List Int) (del12 : List Int) (i8 : Int) (j9 : Int) (s10 : List (List Int)) : Option (Int × List (List Int)) := loopC (slices_DeleteFunc_implStepimplStep_impl_StepBetween_f1_s5 F s1 del11 del12) F (i8, j9, s10) some
theorem slices_DeleteFunc_implStepimplStep_impl_StepBetween_f1_s5_nat (F : Nat) (s1 : Nat) (del11 : List Int) (del12 : List Int) : Natural (slices_DeleteFunc_implStepimplStep_impl_StepBetween_f1_s5 F s1 del11 del12) := by
  intro Q Q' s kn kx h
  obtain ⟨i8, j9, s10⟩ := s
  simp only [slices_DeleteFunc_implStepimplStep_impl_StepBetween_f1_s5, cond_bindL, none_bindL]
/-- slices.DeleteFunc[[]loop.example/g01194/impl.Step,loop.example/g01194/impl.Step] -/
def slices_DeleteFunc_implStepimplStep_impl_StepBetween_f1_c (Q : Type) (F : Nat) (s8 : List (List Int)) (del9 : List Int) (del10 : List Int) (k : (Nat × List (List Int)) → Option Q) : Option Q :=
    let z_1 := (slices_IndexFunc_implStepimplStep_impl_StepBetween_f1_p F (subn (List.length s8) s8 0 (List.length s8)) del9 del10)
    let z_2 := (slices_DeleteFunc_implStepimplStep_impl_StepBetween_f1_l5 F (List.length s8) del9 del10 (Option.getD z_1 default) (IntKind.wrap .i64 ((Option.getD z_1 default) + (1 : Int))) s8)
    let z_3 := (Option.getD z_2 default)
    let z_4 : Bool := (inLe z_3.1 (List.length s8))
    let z_5 : Nat := (Int.toNat z_3.1)
    let z_6 : Nat := ((List.length s8) - z_5)
    bif (Option.isSome z_1) then
    bif ((Option.getD z_1 default) == (-1 : Int)) then
    k ((List.length s8), s8)
    else bif (Option.isSome z_2) then
    bif z_4 then
    bif z_4 then
    k ((z_5 - (0 : Nat)), (splice z_3.2 ((0 : Nat) + z_5) (List.replicate z_6 [(0 : Int), (0 : Int), (0 : Int), (0 : Int)]) z_6))
    else none
    else none
    else none
    else none
def slices_DeleteFunc_implStepimplStep_impl_StepBetween_f1_p (F : Nat) (s8 : List (List Int)) (del9 : List Int) (del10 : List Int) : Option (Nat × List (List Int)) := slices_DeleteFunc_implStepimplStep_impl_StepBetween_f1_c _ F s8 del9 del10 some
theorem slices_DeleteFunc_implStepimplStep_impl_StepBetween_f1_cp (Q : Type) (F : Nat) (s8 : List (List Int)) (del9 : List Int) (del10 : List Int) (k : (Nat × List (List Int)) → Option Q) : slices_DeleteFunc_implStepimplStep_impl_StepBetween_f1_c Q F s8 del9 del10 k = (slices_DeleteFunc_implStepimplStep_impl_StepBetween_f1_p F s8 del9 del10).bind k := by
  simp only [slices_DeleteFunc_implStepimplStep_impl_StepBetween_f1_p, slices_DeleteFunc_implStepimplStep_impl_StepBetween_f1_c, cond_bindL, none_bindL, some_bindL]

/-- loop.example/g01194/impl.StepBetween -/
def impl_StepBetween_c (Q : Type) (F : Nat) (a0 : List Int) (b1 : List Int) (k : (Nat × Bool × List (List Int)) → Option Q) : Option Q :=
    let z_1 := (impl_IsBoard_p F a0)
    let z_2 := (impl_IsBoard_p F b1)
    let z_3 := (impl_Board_allSteps_p F a0)
    let z_4 : Nat := (List.length (Option.getD z_3 default))
    let z_5 := (slices_DeleteFunc_implStepimplStep_impl_StepBetween_f1_p F (Option.getD z_3 default) a0 b1)
    let z_6 := (Option.getD z_5 default)
    bif (Option.isSome z_1) then
    bif (!(Option.getD z_1 default)) then
    k ((0 : Nat), false, ([] : List (List Int)))
    else bif (Option.isSome z_2) then
    bif (!(Option.getD z_2 default)) then
    k ((0 : Nat), false, ([] : List (List Int)))
    else bif (Option.isSome z_3) then
    bif ((Nat.beq z_4 z_4) && (Option.isSome z_5)) then
    k (z_6.1, true, z_6.2)
    else none
    else none
    else none
    else none
def impl_StepBetween_p (F : Nat) (a0 : List Int) (b1 : List Int) : Option (Nat × Bool × List (List Int)) := impl_StepBetween_c _ F a0 b1 some
theorem impl_StepBetween_cp (Q : Type) (F : Nat) (a0 : List Int) (b1 : List Int) (k : (Nat × Bool × List (List Int)) → Option Q) : impl_StepBetween_c Q F a0 b1 k = (impl_StepBetween_p F a0 b1).bind k := by
  simp only [impl_StepBetween_p, impl_StepBetween_c, cond_bindL, none_bindL, some_bindL]

/-- loop 6 of loop.example/g01194/spec.StepBetween -/
def spec_StepBetween_s6 (F : Nat) (a11 : List Int) (b12 : List Int) (all14 : List (List Int)) (Q : Type) : (Int × List (List Int)) → ((Int × List (List Int)) → Option Q) → ((List (List Int)) → Option Q) → Option Q
  | (i10, out13), kn, kx =>
    let z_1 : Bool := (inR i10 (List.length all14))
    let z_2 : List Int := (rget all14 ((0 : Nat) + (Int.toNat i10)))
    let z_3 := (spec_l5Do_p F a11 z_2)
    let z_4 : List (List Int) := ((subn (List.length out13) out13 0 (List.length out13)) ++ [z_2])
    let z_5 : Int := (IntKind.wrap .i64 (i10 + (1 : Int)))
    bif (decide (i10 < (((List.length all14) : Nat) : Int))) then
    bif z_1 then
    bif (Option.isSome z_3) then
    bif ((Option.getD z_3 default).1 == b12) then
    bif z_1 then
    bif (fits (List.length z_4) 32) then
    kn (z_5, z_4)
    else none
    else none
    else kn (z_5, out13)
    else none
    else none
    else kx out13
def spec_StepBetween_l6 (F : Nat) (a11 : List Int) (b12 : List Int) (all14 : List (List Int)) (i10 : Int) (out13 : List (List Int)) : Option (List (List Int)) := loopC (spec_StepBetween_s6 F a11 b12 all14) F (i10, out13) some
theorem spec_StepBetween_s6_nat (F : Nat) (a11 : List Int) (b12 : List Int) (all14 : List (List Int)) : Natural (spec_StepBetween_s6 F a11 b12 all14) := by
  intro Q Q' s kn kx h
  obtain ⟨i10, out13⟩ := s
  simp only [spec_StepBetween_s6, cond_bindL, none_bindL]
/-- loop.example/g01194/spec.StepBetween -/
def spec_StepBetween_c (Q : Type) (F : Nat) (a0 : List Int) (b1 : List Int) (k : (Bool × List (List Int)) → Option Q) : Option Q :=
    let z_1 := (spec_l2Board_p F a0)
    let z_2 := (spec_l2Board_p F b1)
    let z_3 := (spec_l5All_p F a0)
    let z_4 : Nat := (List.length (Option.getD z_3 default))
    let z_5 := (spec_StepBetween_l6 F a0 b1 (Option.getD z_3 default) (0 : Int) ([] : List (List Int)))
    bif (Option.isSome z_1) then
    bif (!(Option.getD z_1 default)) then
    k (false, ([] : List (List Int)))
    else bif (Option.isSome z_2) then
    bif (!(Option.getD z_2 default)) then
    k (false, ([] : List (List Int)))
    else bif (Option.isSome z_3) then
    bif ((Nat.beq z_4 z_4) && (Option.isSome z_5)) then
    k (true, (Option.getD z_5 default))
    else none
    else none
    else none
    else none
def spec_StepBetween_p (F : Nat) (a0 : List Int) (b1 : List Int) : Option (Bool × List (List Int)) := spec_StepBetween_c _ F a0 b1 some
theorem spec_StepBetween_cp (Q : Type) (F : Nat) (a0 : List Int) (b1 : List Int) (k : (Bool × List (List Int)) → Option Q) : spec_StepBetween_c Q F a0 b1 k = (spec_StepBetween_p F a0 b1).bind k := by
  simp only [spec_StepBetween_p, spec_StepBetween_c, cond_bindL, none_bindL, some_bindL]

/-- loop 5 of loop.example/g01194/impl.CountNext -/
def impl_CountNext_s5 (F : Nat) (t155 : Int) (b7 : List Int) (t149 : List (List Int)) (Q : Type) : (Int × List (List Int × Bool)) → ((Int × List (List Int × Bool)) → Option Q) → ((List (List Int × Bool)) → Option Q) → Option Q
  | (t166, known8), kn, kx =>
    let z_1 := (impl_Board_behind_p F b7 (rget t149 ((0 : Nat) + (Int.toNat t166))))
    bif (decide (t166 < t155)) then
    bif (inR t166 (List.length t149)) then
    bif (Option.isSome z_1) then
    kn ((IntKind.wrap .i64 (t166 + (1 : Int))), (mput (Option.getD z_1 default).1 true known8))
    else none
    else none
    else kx known8
def impl_CountNext_l5 (F : Nat) (t155 : Int) (b7 : List Int) (t149 : List (List Int)) (t166 : Int) (known8 : List (List Int × Bool)) : Option (List (List Int × Bool)) := loopC (impl_CountNext_s5 F t155 b7 t149) F (t166, known8) some
theorem impl_CountNext_s5_nat (F : Nat) (t155 : Int) (b7 : List Int) (t149 : List (List Int)) : Natural (impl_CountNext_s5 F t155 b7 t149) := by
  intro Q Q' s kn kx h
  obtain ⟨t166, known8⟩ := s
  simp only [impl_CountNext_s5, cond_bindL, none_bindL]
/-- loop.example/g01194/impl.CountNext -/
def impl_CountNext_c (Q : Type) (F : Nat) (b0 : List Int) (k : (Int × Bool) → Option Q) : Option Q :=
    let z_1 := (impl_IsBoard_p F b0)
    let z_2 := (impl_Board_allSteps_p F b0)
    let z_3 : Nat := (List.length (Option.getD z_2 default))
    let z_4 := (impl_CountNext_l5 F ((z_3 : Nat) : Int) b0 (Option.getD z_2 default) (0 : Int) ([] : List (List Int × Bool)))
    bif (Option.isSome z_1) then
    bif (!(Option.getD z_1 default)) then
    k ((0 : Int), false)
    else bif (Option.isSome z_2) then
    bif ((Nat.beq z_3 z_3) && (Option.isSome z_4)) then
    k ((((List.length (Option.getD z_4 default)) : Nat) : Int), true)
    else none
    else none
    else none
def impl_CountNext_p (F : Nat) (b0 : List Int) : Option (Int × Bool) := impl_CountNext_c _ F b0 some
theorem impl_CountNext_cp (Q : Type) (F : Nat) (b0 : List Int) (k : (Int × Bool) → Option Q) : impl_CountNext_c Q F b0 k = (impl_CountNext_p F b0).bind k := by
  simp only [impl_CountNext_p, impl_CountNext_c, cond_bindL, none_bindL, some_bindL]

/-- loop 5 of loop.example/g01194/spec.l2Before -/
def spec_l2Before_s5 (F : Nat) (r6 : Int) (a8 : List Int) (b9 : List Int) (Q : Type) : (Int) → ((Int) → Option Q) → ((Bool × Bool) → Option Q) → Option Q
  | c7, kn, kx =>
    let z_1 : Nat := (((0 : Nat) + ((Int.toNat r6) * (4 : Nat))) + ((Int.toNat c7) * (1 : Nat)))
    let z_2 : Int := (iget a8 z_1)
    let z_3 : Int := (iget b9 z_1)
    bif (decide (c7 < (4 : Int))) then
    bif (inR r6 4) then
    bif (inR c7 4) then
    bif (inR r6 4) then
    bif (inR c7 4) then
    bif (!(z_2 == z_3)) then
    bif (inR r6 4) then
    bif (inR c7 4) then
    bif (inR r6 4) then
    bif (inR c7 4) then
    kx (true, (decide (z_2 < z_3)))
    else none
    else none
    else none
    else none
    else kn (IntKind.wrap .i64 (c7 + (1 : Int)))
    else none
    else none
    else none
    else none
    else kx (false, default)
def spec_l2Before_l5 (F : Nat) (r6 : Int) (a8 : List Int) (b9 : List Int) (c7 : Int) : Option (Bool × Bool) := loopC (spec_l2Before_s5 F r6 a8 b9) F c7 some
theorem spec_l2Before_s5_nat (F : Nat) (r6 : Int) (a8 : List Int) (b9 : List Int) : Natural (spec_l2Before_s5 F r6 a8 b9) := by
  intro Q Q' s kn kx h
  simp only [spec_l2Before_s5, cond_bindL, none_bindL]
/-- loop 2 of loop.example/g01194/spec.l2Before -/
def spec_l2Before_s2 (F : Nat) (a7 : List Int) (b8 : List Int) (Q : Type) : (Int) → ((Int) → Option Q) → ((Bool × Bool) → Option Q) → Option Q
  | r6, kn, kx =>
    let z_1 := (spec_l2Before_l5 F r6 a7 b8 (0 : Int))
    let z_2 := (Option.getD z_1 default)
    bif (decide (r6 < (4 : Int))) then
    bif (Option.isSome z_1) then
    bif z_2.1 then
    kx (true, z_2.2)
    else kn (IntKind.wrap .i64 (r6 + (1 : Int)))
    else none
    else kx (false, default)
def spec_l2Before_l2 (F : Nat) (a7 : List Int) (b8 : List Int) (r6 : Int) : Option (Bool × Bool) := loopC (spec_l2Before_s2 F a7 b8) F r6 some
theorem spec_l2Before_s2_nat (F : Nat) (a7 : List Int) (b8 : List Int) : Natural (spec_l2Before_s2 F a7 b8) := by
  intro Q Q' s kn kx h
  simp only [spec_l2Before_s2, cond_bindL, none_bindL]
/-- loop.example/g01194/spec.l2Before -/
def spec_l2Before_c (Q : Type) (F : Nat) (a0 : List Int) (b1 : List Int) (k : (Bool) → Option Q) : Option Q :=
    let z_1 := (spec_l2Before_l2 F a0 b1 (0 : Int))
    let z_2 := (Option.getD z_1 default)
    bif (Option.isSome z_1) then
    bif z_2.1 then
    k z_2.2
    else k false
    else none
def spec_l2Before_p (F : Nat) (a0 : List Int) (b1 : List Int) : Option (Bool) := spec_l2Before_c _ F a0 b1 some
theorem spec_l2Before_cp (Q : Type) (F : Nat) (a0 : List Int) (b1 : List Int) (k : (Bool) → Option Q) : spec_l2Before_c Q F a0 b1 k = (spec_l2Before_p F a0 b1).bind k := by
  simp only [spec_l2Before_p, spec_l2Before_c, cond_bindL, none_bindL, some_bindL]

/-- loop 2 of loop.example/g01194/spec.l3Add -/
def spec_l3Add_s2 (F : Nat) (all0 : List (List Int)) (b5 : List Int) (Q : Type) : (Int) → ((Int) → Option Q) → ((Int) → Option Q) → Option Q
  | n4, kn, kx =>
    let z_1 := (spec_l2Before_p F (rget all0 (Int.toNat n4)) b5)
    bif (decide (n4 < (((List.length all0) : Nat) : Int))) then
    bif (inR n4 (List.length all0)) then
    bif (Option.isSome z_1) then
    bif (Option.getD z_1 default) then
    kn (IntKind.wrap .i64 (n4 + (1 : Int)))
    else kx n4
    else none
    else none
    else kx n4
def spec_l3Add_l2 (F : Nat) (all0 : List (List Int)) (b5 : List Int) (n4 : Int) : Option (Int) := loopC (spec_l3Add_s2 F all0 b5) F n4 some
theorem spec_l3Add_s2_nat (F : Nat) (all0 : List (List Int)) (b5 : List Int) : Natural (spec_l3Add_s2 F all0 b5) := by
  intro Q Q' s kn kx h
  simp only [spec_l3Add_s2, cond_bindL, none_bindL]
/-- loop.example/g01194/spec.l3Add -/
def spec_l3Add_c (Q : Type) (F : Nat) (all0 : List (List Int)) (b1 : List Int) (k : (List (List Int)) → Option Q) : Option Q :=
    let z_1 := (spec_l3Add_l2 F all0 b1 (0 : Int))
    let z_2 : Nat := (Int.toNat (Option.getD z_1 default))
    let z_3 : Bool := (inLe (Option.getD z_1 default) (List.length all0))
    let z_4 : List (List Int) := (subn (List.length all0) all0 0 (z_2 - (0 : Nat)))
    let z_5 : Nat := (List.length z_4)
    let z_6 : Bool := (fits z_5 128)
    let z_7 : List (List Int) := ((subn z_5 z_4 0 z_5) ++ [b1])
    let z_8 : Nat := (List.length z_7)
    let z_9 : Bool := (fits z_8 128)
    let z_10 : List (List Int) := ((subn z_8 z_7 0 z_8) ++ (subn (List.length all0) all0 z_2 ((List.length all0) - z_2)))
    let z_11 : Nat := (List.length z_10)
    let z_12 : Bool := (fits z_11 128)
    let z_13 : List (List Int) := (subn z_11 z_10 0 z_11)
    bif (Option.isSome z_1) then
    bif (decide ((Option.getD z_1 default) < (((List.length all0) : Nat) : Int))) then
    bif (inR (Option.getD z_1 default) (List.length all0)) then
    bif ((rget all0 z_2) == b1) then
    k all0
    else bif z_3 then
    bif z_6 then
    bif z_9 then
    bif z_3 then
    bif z_12 then
    k z_13
    else none
    else none
    else none
    else none
    else none
    else none
    else bif z_3 then
    bif z_6 then
    bif z_9 then
    bif z_3 then
    bif z_12 then
    k z_13
    else none
    else none
    else none
    else none
    else none
    else none
def spec_l3Add_p (F : Nat) (all0 : List (List Int)) (b1 : List Int) : Option (List (List Int)) := spec_l3Add_c _ F all0 b1 some
theorem spec_l3Add_cp (Q : Type) (F : Nat) (all0 : List (List Int)) (b1 : List Int) (k : (List (List Int)) → Option Q) : spec_l3Add_c Q F all0 b1 k = (spec_l3Add_p F all0 b1).bind k := by
  simp only [spec_l3Add_p, spec_l3Add_c, cond_bindL, none_bindL, some_bindL]

/-- loop 5 of loop.example/g01194/spec.CountNext -/
def spec_CountNext_s5 (F : Nat) (all4 : List (List Int)) (b6 : List Int) (Q : Type) : (List (List Int) × Int) → ((List (List Int) × Int) → Option Q) → ((List (List Int)) → Option Q) → Option Q
  | (seen3, i5), kn, kx =>
    let z_1 := (spec_l5Do_p F b6 (rget all4 (Int.toNat i5)))
    let z_2 := (spec_l3Add_p F seen3 (Option.getD z_1 default).1)
    bif (decide (i5 < (((List.length all4) : Nat) : Int))) then
    bif (inR i5 (List.length all4)) then
    bif (Option.isSome z_1) then
    bif (Option.isSome z_2) then
    kn ((Option.getD z_2 default), (IntKind.wrap .i64 (i5 + (1 : Int))))
    else none
    else none
    else none
    else kx seen3
def spec_CountNext_l5 (F : Nat) (all4 : List (List Int)) (b6 : List Int) (seen3 : List (List Int)) (i5 : Int) : Option (List (List Int)) := loopC (spec_CountNext_s5 F all4 b6) F (seen3, i5) some
theorem spec_CountNext_s5_nat (F : Nat) (all4 : List (List Int)) (b6 : List Int) : Natural (spec_CountNext_s5 F all4 b6) := by
  intro Q Q' s kn kx h
  obtain ⟨seen3, i5⟩ := s
  simp only [spec_CountNext_s5, cond_bindL, none_bindL]
/-- loop.example/g01194/spec.CountNext -/
def spec_CountNext_c (Q : Type) (F : Nat) (b0 : List Int) (k : (Int × Bool) → Option Q) : Option Q :=
    let z_1 := (spec_l2Board_p F b0)
    let z_2 := (spec_l5All_p F b0)
    let z_3 : Nat := (List.length (Option.getD z_2 default))
    let z_4 := (spec_CountNext_l5 F (subn z_3 (Option.getD z_2 default) 0 z_3) b0 ([] : List (List Int)) (0 : Int))
    bif (Option.isSome z_1) then
    bif (!(Option.getD z_1 default)) then
    k ((0 : Int), false)
    else bif (Option.isSome z_2) then
    bif (Option.isSome z_4) then
    k ((((List.length (Option.getD z_4 default)) : Nat) : Int), true)
    else none
    else none
    else none
def spec_CountNext_p (F : Nat) (b0 : List Int) : Option (Int × Bool) := spec_CountNext_c _ F b0 some
theorem spec_CountNext_cp (Q : Type) (F : Nat) (b0 : List Int) (k : (Int × Bool) → Option Q) : spec_CountNext_c Q F b0 k = (spec_CountNext_p F b0).bind k := by
  simp only [spec_CountNext_p, spec_CountNext_c, cond_bindL, none_bindL, some_bindL]
end Go.Lv.P
