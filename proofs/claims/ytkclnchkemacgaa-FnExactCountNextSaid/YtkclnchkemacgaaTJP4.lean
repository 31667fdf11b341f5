/-
Pure functions and what the code of them does, by program; without conditions.
-/
import Derived.Test.YtkclnchkemacgaaTJP3
namespace Go.Lv.P
open Go Go.Lv
set_option linter.unusedVariables false
set_option linter.unusedSimpArgs false
set_option maxRecDepth 100000
/-- loop 3 of loop.example/g01194/spec.l5All -/
def spec_l5All_s3 (F : Nat) (b6 : List Int) (Q : Type) : (Int × List (List Int)) → ((Int × List (List Int)) → Option Q) → ((List (List Int)) → Option Q) → Option Q
  | (d5, out7), kn, kx =>
    let z_1 := (spec_l5Steps_p F b6 d5)
    let z_2 : Nat := (List.length (Option.getD z_1 default))
    let z_3 : List (List Int) := ((subn (List.length out7) out7 0 (List.length out7)) ++ (subn z_2 (Option.getD z_1 default) 0 z_2))
    bif (decide (d5 < (4 : Int))) then
    bif (Option.isSome z_1) then
    bif (fits (List.length z_3) 32) then
    kn ((IntKind.wrap .i64 (d5 + (1 : Int))), z_3)
    else none
    else none
    else kx out7
def spec_l5All_l3 (F : Nat) (b6 : List Int) (d5 : Int) (out7 : List (List Int)) : Option (List (List Int)) := loopC (spec_l5All_s3 F b6) F (d5, out7) some
theorem spec_l5All_s3_nat (F : Nat) (b6 : List Int) : Natural (spec_l5All_s3 F b6) := by
  intro Q Q' s kn kx h
  obtain ⟨d5, out7⟩ := s
  simp only [spec_l5All_s3, cond_bindL, none_bindL]
/-- loop.example/g01194/spec.l5All -/
def spec_l5All_c (Q : Type) (F : Nat) (b0 : List Int) (k : (List (List Int)) → Option Q) : Option Q :=
    let z_1 := (spec_l5All_l3 F b0 (0 : Int) ([] : List (List Int)))
    bif (Option.isSome z_1) then
    k (Option.getD z_1 default)
    else none
def spec_l5All_p (F : Nat) (b0 : List Int) : Option (List (List Int)) := spec_l5All_c _ F b0 some
theorem spec_l5All_cp (Q : Type) (F : Nat) (b0 : List Int) (k : (List (List Int)) → Option Q) : spec_l5All_c Q F b0 k = (spec_l5All_p F b0).bind k := by
  simp only [spec_l5All_p, spec_l5All_c, cond_bindL, none_bindL, some_bindL]

/-- loop.example/g01194/spec.l2Side -/
def spec_l2Side_c (Q : Type) (d0 : Int) (k : (Bool) → Option Q) : Option Q :=
    k (spec_l1In_v d0 (0 : Int) (3 : Int))
def spec_l2Side_v (d0 : Int) : Bool :=
    (spec_l1In_v d0 (0 : Int) (3 : Int))
theorem spec_l2Side_cv (Q : Type) (d0 : Int) (k : (Bool) → Option Q) : spec_l2Side_c Q d0 k = k (spec_l2Side_v d0) := by
  simp only [spec_l2Side_c, spec_l2Side_v, app_condL k]

/-- loop.example/g01194/spec.l2Cell -/
def spec_l2Cell_c (Q : Type) (cell0 : List Int) (k : (Bool) → Option Q) : Option Q :=
    bif (spec_l1In_v (iget cell0 0) (0 : Int) (3 : Int)) then
    k (spec_l1In_v (iget cell0 1) (0 : Int) (3 : Int))
    else k false
def spec_l2Cell_v (cell0 : List Int) : Bool :=
    bif (spec_l1In_v (iget cell0 0) (0 : Int) (3 : Int)) then
    (spec_l1In_v (iget cell0 1) (0 : Int) (3 : Int))
    else false
theorem spec_l2Cell_cv (Q : Type) (cell0 : List Int) (k : (Bool) → Option Q) : spec_l2Cell_c Q cell0 k = k (spec_l2Cell_v cell0) := by
  simp only [spec_l2Cell_c, spec_l2Cell_v, app_condL k]

/-- loop.example/g01194/spec.l5Do -/
def spec_l5Do_c (Q : Type) (F : Nat) (b0 : List Int) (s1 : List Int) (k : (List Int × Int × Bool) → Option Q) : Option Q :=
    let z_1 : List Int := [(0 : Int), (0 : Int), (0 : Int), (0 : Int), (0 : Int), (0 : Int), (0 : Int), (0 : Int), (0 : Int), (0 : Int), (0 : Int), (0 : Int), (0 : Int), (0 : Int), (0 : Int), (0 : Int)]
    let z_2 := (spec_l2Slide_p F b0 (iget s1 0))
    let z_3 := (Option.getD z_2 default)
    let z_4 := (spec_l2At_p z_3.1 (sub s1 1 2))
    let z_5 := (spec_l2Put_p z_3.1 (sub s1 1 2) (iget s1 3))
    bif (!(spec_l2Side_v (iget s1 0))) then
    k (z_1, (0 : Int), false)
    else bif (!(spec_l2Cell_v (sub s1 1 2))) then
    k (z_1, (0 : Int), false)
    else bif (!(spec_l1In_v (iget s1 3) (1 : Int) (2 : Int))) then
    k (z_1, (0 : Int), false)
    else bif (Option.isSome z_2) then
    bif (z_3.1 == b0) then
    k (z_1, (0 : Int), false)
    else bif (Option.isSome z_4) then
    bif (!((Option.getD z_4 default) == (0 : Int))) then
    k (z_1, (0 : Int), false)
    else bif (Option.isSome z_5) then
    k ((Option.getD z_5 default), z_3.2, true)
    else none
    else none
    else none
def spec_l5Do_p (F : Nat) (b0 : List Int) (s1 : List Int) : Option (List Int × Int × Bool) := spec_l5Do_c _ F b0 s1 some
theorem spec_l5Do_cp (Q : Type) (F : Nat) (b0 : List Int) (s1 : List Int) (k : (List Int × Int × Bool) → Option Q) : spec_l5Do_c Q F b0 s1 k = (spec_l5Do_p F b0 s1).bind k := by
  simp only [spec_l5Do_p, spec_l5Do_c, cond_bindL, none_bindL, some_bindL]

/-- loop 5 of loop.example/g01194/spec.CountNext -/
def spec_CountNext_s5 (F : Nat) (all4 : List (List Int)) (b6 : List Int) (Q : Type) : (List (List Int) × Int) → ((List (List Int) × Int) → Option Q) → ((List (List Int)) → Option Q) → Option Q
  | (seen3, i5), kn, kx =>
    let z_1 := (spec_l5Do_p F b6 (rget all4 (Int.toNat i5)))
    let z_2 := (spec_l3Add_p F seen3 (Option.getD z_1 default).1)
    bif (decide (i5 < (((List.length all4) : Nat) : Int))) then
    bif (inR i5 (List.length all4)) then
    bif (Option.isSome z_1) then
    bif (Option.isSome z_2) then
    kn ((Option.getD z_2 default), (IntKind.wrap .i64 (i5 + (1 : Int))))
    else none
    else none
    else none
    else kx seen3
def spec_CountNext_l5 (F : Nat) (all4 : List (List Int)) (b6 : List Int) (seen3 : List (List Int)) (i5 : Int) : Option (List (List Int)) := loopC (spec_CountNext_s5 F all4 b6) F (seen3, i5) some
theorem spec_CountNext_s5_nat (F : Nat) (all4 : List (List Int)) (b6 : List Int) : Natural (spec_CountNext_s5 F all4 b6) := by
  intro Q Q' s kn kx h
  obtain ⟨seen3, i5⟩ := s
  simp only [spec_CountNext_s5, cond_bindL, none_bindL]
/-- loop.example/g01194/spec.CountNext -/
def spec_CountNext_c (Q : Type) (F : Nat) (b0 : List Int) (k : (Int × Bool) → Option Q) : Option Q :=
    let z_1 := (spec_l2Board_p F b0)
    let z_2 := (spec_l5All_p F b0)
    let z_3 : Nat := (List.length (Option.getD z_2 default))
    let z_4 := (spec_CountNext_l5 F (subn z_3 (Option.getD z_2 default) 0 z_3) b0 ([] : List (List Int)) (0 : Int))
    bif (Option.isSome z_1) then
    bif (!(Option.getD z_1 default)) then
    k ((0 : Int), false)
    else bif (Option.isSome z_2) then
    bif (Option.isSome z_4) then
    k ((((List.length (Option.getD z_4 default)) : Nat) : Int), true)
    else none
    else none
    else none
def spec_CountNext_p (F : Nat) (b0 : List Int) : Option (Int × Bool) := spec_CountNext_c _ F b0 some
theorem spec_CountNext_cp (Q : Type) (F : Nat) (b0 : List Int) (k : (Int × Bool) → Option Q) : spec_CountNext_c Q F b0 k = (spec_CountNext_p F b0).bind k := by
  simp only [spec_CountNext_p, spec_CountNext_c, cond_bindL, none_bindL, some_bindL]

/-- (loop.example/g01194/impl.Board).empty$1 -/
def impl_Board_empty_f1_c (Q : Type) (cell0 : List Int) (a14 : List Int) (k : (Bool) → Option Q) : Option Q :=
    let z_1 := (impl_Board_at_p cell0 a14)
    bif (Option.isSome z_1) then
    k (!((iget a14 (Option.getD z_1 default)) == (0 : Int)))
    else none
def impl_Board_empty_f1_p (cell0 : List Int) (a14 : List Int) : Option (Bool) := impl_Board_empty_f1_c _ cell0 a14 some
theorem impl_Board_empty_f1_cp (Q : Type) (cell0 : List Int) (a14 : List Int) (k : (Bool) → Option Q) : impl_Board_empty_f1_c Q cell0 a14 k = (impl_Board_empty_f1_p cell0 a14).bind k := by
  simp only [impl_Board_empty_f1_p, impl_Board_empty_f1_c, cond_bindL, none_bindL, some_bindL]

/-- loop 2 of slices.IndexFunc[[][2]int,[2]int] -/
def slices_IndexFunc_2int2int_impl_Board_empty_f1_s2 (F : Nat) (s0 : List (List Int)) (t74 : Int) (f6 : List Int) (Q : Type) : (Int) → ((Int) → Option Q) → ((Bool × Int) → Option Q) → Option Q
  | t85, kn, kx =>
    let z_1 := (impl_Board_empty_f1_p (rget s0 (Int.toNat t85)) f6)
    bif (decide (t85 < t74)) then
    bif (inR t85 (List.length s0)) then
    bif (Option.isSome z_1) then
    bif (Option.getD z_1 default) then
    kx (true, t85)
    else kn (IntKind.wrap .i64 (t85 + (1 : Int)))
    else none
    else none
    else kx (false, default)
def slices_IndexFunc_2int2int_impl_Board_empty_f1_l2 (F : Nat) (s0 : List (List Int)) (t74 : Int) (f6 : List Int) (t85 : Int) : Option (Bool × Int) := loopC (slices_IndexFunc_2int2int_impl_Board_empty_f1_s2 F s0 t74 f6) F t85 some
theorem slices_IndexFunc_2int2int_impl_Board_empty_f1_s2_nat (F : Nat) (s0 : List (List Int)) (t74 : Int) (f6 : List Int) : Natural (slices_IndexFunc_2int2int_impl_Board_empty_f1_s2 F s0 t74 f6) := by
  intro Q Q' s kn kx h
  simp only [slices_IndexFunc_2int2int_impl_Board_empty_f1_s2, cond_bindL, none_bindL]
/-- slices.IndexFunc[[][2]int,[2]int] -/
def slices_IndexFunc_2int2int_impl_Board_empty_f1_c (Q : Type) (F : Nat) (s0 : List (List Int)) (f4 : List Int) (k : (Int) → Option Q) : Option Q :=
    let z_1 := (slices_IndexFunc_2int2int_impl_Board_empty_f1_l2 F s0 (((List.length s0) : Nat) : Int) f4 (0 : Int))
    let z_2 := (Option.getD z_1 default)
    bif (Option.isSome z_1) then
    bif z_2.1 then
    k z_2.2
    else k (-1 : Int)
    else none
def slices_IndexFunc_2int2int_impl_Board_empty_f1_p (F : Nat) (s0 : List (List Int)) (f4 : List Int) : Option (Int) := slices_IndexFunc_2int2int_impl_Board_empty_f1_c _ F s0 f4 some
theorem slices_IndexFunc_2int2int_impl_Board_empty_f1_cp (Q : Type) (F : Nat) (s0 : List (List Int)) (f4 : List Int) (k : (Int) → Option Q) : slices_IndexFunc_2int2int_impl_Board_empty_f1_c Q F s0 f4 k = (slices_IndexFunc_2int2int_impl_Board_empty_f1_p F s0 f4).bind k := by
  simp only [slices_IndexFunc_2int2int_impl_Board_empty_f1_p, slices_IndexFunc_2int2int_impl_Board_empty_f1_c, cond_bindL, none_bindL, some_bindL]

/-- loop 5 of slices.DeleteFunc[[][2]int,[2]int] -/
def slices_DeleteFunc_2int2int_impl_Board_empty_f1_s5 (F : Nat) (s1 : Nat) (del8 : List Int) (Q : Type) : (Int × Int × List (List Int)) → ((Int × Int × List (List Int)) → Option Q) → ((Int × List (List Int)) → Option Q) → Option Q
  | (i5, j6, s7), kn, kx =>
    let z_1 : List Int := (rget s7 ((0 : Nat) + (Int.toNat j6)))
    let z_2 := (impl_Board_empty_f1_p z_1 del8)
    let z_3 : Int := (IntKind.wrap .i64 (j6 + (1 : Int)))
    bif (decide (j6 < ((s1 : Nat) : Int))) then
    bif (inR j6 s1) then
    bif (Option.isSome z_2) then
    bif (!(Option.getD z_2 default)) then
    bif (inR i5 s1) then
    kn ((IntKind.wrap .i64 (i5 + (1 : Int))), z_3, (rset s7 ((0 : Nat) + (Int.toNat i5)) z_1))
    else none
    else kn (i5, z_3, s7)
    else none
    else none
    else kx (i5, s7)
def slices_DeleteFunc_2int2int_impl_Board_empty_f1_l5 (F : Nat) (s1 : Nat) (del8 : List Int) (i5 : Int) (j6 : Int) (s7 : List (List Int)) : Option (Int × List (List Int)) := loopC (slices_DeleteFunc_2int2int_impl_Board_empty_f1_s5 F s1 del8) F (i5, j6, s7) some
theorem slices_DeleteFunc_2int2int_impl_Board_empty_f1_s5_nat (F : Nat) (s1 : Nat) (del8 : List Int) : Natural (slices_DeleteFunc_2int2int_impl_Board_empty_f1_s5 F s1 del8) := by
  intro Q Q' s kn kx h
  obtain ⟨i5, j6, s7⟩ := s
  simp only [slices_DeleteFunc_2int2int_impl_Board_empty_f1_s5, cond_bindL, none_bindL]
/-- slices.DeleteFunc[[][2]int,[2]int] -/
def slices_DeleteFunc_2int2int_impl_Board_empty_f1_c (Q : Type) (F : Nat) (s5 : List (List Int)) (del6 : List Int) (k : (Nat × List (List Int)) → Option Q) : Option Q :=
    let z_1 := (slices_IndexFunc_2int2int_impl_Board_empty_f1_p F (subn (List.length s5) s5 0 (List.length s5)) del6)
    let z_2 := (slices_DeleteFunc_2int2int_impl_Board_empty_f1_l5 F (List.length s5) del6 (Option.getD z_1 default) (IntKind.wrap .i64 ((Option.getD z_1 default) + (1 : Int))) s5)
    let z_3 := (Option.getD z_2 default)
    let z_4 : Bool := (inLe z_3.1 (List.length s5))
    let z_5 : Nat := (Int.toNat z_3.1)
    let z_6 : Nat := ((List.length s5) - z_5)
    bif (Option.isSome z_1) then
    bif ((Option.getD z_1 default) == (-1 : Int)) then
    k ((List.length s5), s5)
    else bif (Option.isSome z_2) then
    bif z_4 then
    bif z_4 then
    k ((z_5 - (0 : Nat)), (splice z_3.2 ((0 : Nat) + z_5) (List.replicate z_6 [(0 : Int), (0 : Int)]) z_6))
    else none
    else none
    else none
    else none
def slices_DeleteFunc_2int2int_impl_Board_empty_f1_p (F : Nat) (s5 : List (List Int)) (del6 : List Int) : Option (Nat × List (List Int)) := slices_DeleteFunc_2int2int_impl_Board_empty_f1_c _ F s5 del6 some
theorem slices_DeleteFunc_2int2int_impl_Board_empty_f1_cp (Q : Type) (F : Nat) (s5 : List (List Int)) (del6 : List Int) (k : (Nat × List (List Int)) → Option Q) : slices_DeleteFunc_2int2int_impl_Board_empty_f1_c Q F s5 del6 k = (slices_DeleteFunc_2int2int_impl_Board_empty_f1_p F s5 del6).bind k := by
  simp only [slices_DeleteFunc_2int2int_impl_Board_empty_f1_p, slices_DeleteFunc_2int2int_impl_Board_empty_f1_c, cond_bindL, none_bindL, some_bindL]

/-- (loop.example/g01194/impl.Board).empty -/
def impl_Board_empty_c (Q : Type) (F : Nat) (b0 : List Int) (k : (Nat × List (List Int)) → Option Q) : Option Q :=
    let z_1 := (slices_DeleteFunc_2int2int_impl_Board_empty_f1_p F [[(0 : Int), (0 : Int)], [(0 : Int), (1 : Int)], [(0 : Int), (2 : Int)], [(0 : Int), (3 : Int)], [(1 : Int), (0 : Int)], [(1 : Int), (1 : Int)], [(1 : Int), (2 : Int)], [(1 : Int), (3 : Int)], [(2 : Int), (0 : Int)], [(2 : Int), (1 : Int)], [(2 : Int), (2 : Int)], [(2 : Int), (3 : Int)], [(3 : Int), (0 : Int)], [(3 : Int), (1 : Int)], [(3 : Int), (2 : Int)], [(3 : Int), (3 : Int)]] b0)
    let z_2 := (Option.getD z_1 default)
    bif (Option.isSome z_1) then
    k (z_2.1, z_2.2)
    else none
def impl_Board_empty_p (F : Nat) (b0 : List Int) : Option (Nat × List (List Int)) := impl_Board_empty_c _ F b0 some
theorem impl_Board_empty_cp (Q : Type) (F : Nat) (b0 : List Int) (k : (Nat × List (List Int)) → Option Q) : impl_Board_empty_c Q F b0 k = (impl_Board_empty_p F b0).bind k := by
  simp only [impl_Board_empty_p, impl_Board_empty_c, cond_bindL, none_bindL, some_bindL]

/-- loop 5 of (loop.example/g01194/impl.Board).steps -/
def impl_Board_steps_s5 (F : Nat) (direction0 : Int) (t194 : Nat) (t205 : Int) (t198 : List (List Int)) (Q : Type) : (Int × List (List Int)) → ((Int × List (List Int)) → Option Q) → ((List (List Int)) → Option Q) → Option Q
  | (t216, out7), kn, kx =>
    let z_1 : List Int := (splice [direction0, (0 : Int), (0 : Int), (0 : Int)] 1 (rget t198 ((0 : Nat) + (Int.toNat t216))) 2)
    let z_2 : List (List Int) := ((subn (List.length out7) out7 0 (List.length out7)) ++ [(iset z_1 3 (1 : Int)), (iset z_1 3 (2 : Int))])
    bif (decide (t216 < t205)) then
    bif (inR t216 t194) then
    bif (fits (List.length z_2) 32) then
    kn ((IntKind.wrap .i64 (t216 + (1 : Int))), z_2)
    else none
    else none
    else kx out7
def impl_Board_steps_l5 (F : Nat) (direction0 : Int) (t194 : Nat) (t205 : Int) (t198 : List (List Int)) (t216 : Int) (out7 : List (List Int)) : Option (List (List Int)) := loopC (impl_Board_steps_s5 F direction0 t194 t205 t198) F (t216, out7) some
theorem impl_Board_steps_s5_nat (F : Nat) (direction0 : Int) (t194 : Nat) (t205 : Int) (t198 : List (List Int)) : Natural (impl_Board_steps_s5 F direction0 t194 t205 t198) := by
  intro Q Q' s kn kx h
  obtain ⟨t216, out7⟩ := s
  simp only [impl_Board_steps_s5, cond_bindL, none_bindL]
/-- (loop.example/g01194/impl.Board).steps -/
def impl_Board_steps_c (Q : Type) (F : Nat) (b0 : List Int) (direction1 : Int) (k : (List (List Int)) → Option Q) : Option Q :=
    let z_1 := (impl_Board_slides_p F b0 [direction1])
    let z_2 := (impl_Board_empty_p F (Option.getD z_1 default))
    let z_3 := (Option.getD z_2 default)
    let z_4 := (impl_Board_steps_l5 F direction1 z_3.1 ((z_3.1 : Nat) : Int) z_3.2 (0 : Int) ([] : List (List Int)))
    bif (Option.isSome z_1) then
    bif ((Option.getD z_1 default) == b0) then
    k ([] : List (List Int))
    else bif (Option.isSome z_2) then
    bif (Option.isSome z_4) then
    k (Option.getD z_4 default)
    else none
    else none
    else none
def impl_Board_steps_p (F : Nat) (b0 : List Int) (direction1 : Int) : Option (List (List Int)) := impl_Board_steps_c _ F b0 direction1 some
theorem impl_Board_steps_cp (Q : Type) (F : Nat) (b0 : List Int) (direction1 : Int) (k : (List (List Int)) → Option Q) : impl_Board_steps_c Q F b0 direction1 k = (impl_Board_steps_p F b0 direction1).bind k := by
  simp only [impl_Board_steps_p, impl_Board_steps_c, cond_bindL, none_bindL, some_bindL]

/-- slices.Grow[[]loop.example/g01194/impl.Step,loop.example/g01194/impl.Step] -/
def slices_Grow_implStepimplStep_c (Q : Type) (n0 : Int) (k : (List (List Int)) → Option Q) : Option Q :=
    let z_1 : Int := (IntKind.wrap .i64 (n0 - (0 : Int)))
    let z_2 : Nat := (Int.toNat z_1)
    bif (decide (n0 < (0 : Int))) then
    none
    else bif (decide ((0 : Int) < z_1)) then
    bif ((decide ((1 : Int) ≤ z_1)) && (fits z_2 32)) then
    bif (inLe (0 : Int) z_2) then
    k (List.replicate z_2 [(0 : Int), (0 : Int), (0 : Int), (0 : Int)])
    else none
    else none
    else k ([] : List (List Int))
def slices_Grow_implStepimplStep_p (n0 : Int) : Option (List (List Int)) := slices_Grow_implStepimplStep_c _ n0 some
theorem slices_Grow_implStepimplStep_cp (Q : Type) (n0 : Int) (k : (List (List Int)) → Option Q) : slices_Grow_implStepimplStep_c Q n0 k = (slices_Grow_implStepimplStep_p n0).bind k := by
  simp only [slices_Grow_implStepimplStep_p, slices_Grow_implStepimplStep_c, cond_bindL, none_bindL, some_bindL]

/-- slices.Concat[[]loop.example/g01194/impl.Step,loop.example/g01194/impl.Step] -/
def slices_Concat_implStepimplStep_c (Q : Type) (slices0 : List (List Int)) (slices1 : List (List Int)) (slices2 : List (List Int)) (slices3 : List (List Int)) (k : (List (List Int)) → Option Q) : Option Q :=
    let z_1 : Int := (IntKind.wrap .i64 ((0 : Int) + (((List.length slices0) : Nat) : Int)))
    let z_2 : Int := (IntKind.wrap .i64 (z_1 + (((List.length slices1) : Nat) : Int)))
    let z_3 : Int := (IntKind.wrap .i64 (z_2 + (((List.length slices2) : Nat) : Int)))
    let z_4 : Int := (IntKind.wrap .i64 (z_3 + (((List.length slices3) : Nat) : Int)))
    let z_5 : List (List Int) := ((subn (List.length (Option.getD (slices_Grow_implStepimplStep_p z_4) default)) (Option.getD (slices_Grow_implStepimplStep_p z_4) default) 0 0) ++ slices0)
    let z_6 : Nat := (List.length z_5)
    let z_7 : List (List Int) := ((subn z_6 z_5 0 z_6) ++ slices1)
    let z_8 : Nat := (List.length z_7)
    let z_9 : List (List Int) := ((subn z_8 z_7 0 z_8) ++ slices2)
    let z_10 : Nat := (List.length z_9)
    let z_11 : List (List Int) := ((subn z_10 z_9 0 z_10) ++ slices3)
    bif (decide (z_1 < (0 : Int))) then
    none
    else bif (decide (z_2 < (0 : Int))) then
    none
    else bif (decide (z_3 < (0 : Int))) then
    none
    else bif (decide (z_4 < (0 : Int))) then
    none
    else bif (Option.isSome (slices_Grow_implStepimplStep_p z_4)) then
    bif (fits z_6 32) then
    bif (fits z_8 32) then
    bif (fits z_10 32) then
    bif (fits (List.length z_11) 32) then
    k z_11
    else none
    else none
    else none
    else none
    else none
def slices_Concat_implStepimplStep_p (slices0 : List (List Int)) (slices1 : List (List Int)) (slices2 : List (List Int)) (slices3 : List (List Int)) : Option (List (List Int)) := slices_Concat_implStepimplStep_c _ slices0 slices1 slices2 slices3 some
theorem slices_Concat_implStepimplStep_cp (Q : Type) (slices0 : List (List Int)) (slices1 : List (List Int)) (slices2 : List (List Int)) (slices3 : List (List Int)) (k : (List (List Int)) → Option Q) : slices_Concat_implStepimplStep_c Q slices0 slices1 slices2 slices3 k = (slices_Concat_implStepimplStep_p slices0 slices1 slices2 slices3).bind k := by
  simp only [slices_Concat_implStepimplStep_p, slices_Concat_implStepimplStep_c, cond_bindL, none_bindL, some_bindL]

/-- (loop.example/g01194/impl.Board).allSteps -/
def impl_Board_allSteps_c (Q : Type) (F : Nat) (b0 : List Int) (k : (List (List Int)) → Option Q) : Option Q :=
    let z_1 := (impl_Board_steps_p F b0 (0 : Int))
    let z_2 := (impl_Board_steps_p F b0 (1 : Int))
    let z_3 := (impl_Board_steps_p F b0 (2 : Int))
    let z_4 := (impl_Board_steps_p F b0 (3 : Int))
    let z_5 : Nat := (List.length (Option.getD z_1 default))
    let z_6 : Nat := (List.length (Option.getD z_2 default))
    let z_7 : Nat := (List.length (Option.getD z_3 default))
    let z_8 : Nat := (List.length (Option.getD z_4 default))
    let z_9 := (slices_Concat_implStepimplStep_p (subn z_5 (Option.getD z_1 default) 0 z_5) (subn z_6 (Option.getD z_2 default) 0 z_6) (subn z_7 (Option.getD z_3 default) 0 z_7) (subn z_8 (Option.getD z_4 default) 0 z_8))
    bif (Option.isSome z_1) then
    bif (Option.isSome z_2) then
    bif (Option.isSome z_3) then
    bif (Option.isSome z_4) then
    bif (Option.isSome z_9) then
    k (Option.getD z_9 default)
    else none
    else none
    else none
    else none
    else none
def impl_Board_allSteps_p (F : Nat) (b0 : List Int) : Option (List (List Int)) := impl_Board_allSteps_c _ F b0 some
theorem impl_Board_allSteps_cp (Q : Type) (F : Nat) (b0 : List Int) (k : (List (List Int)) → Option Q) : impl_Board_allSteps_c Q F b0 k = (impl_Board_allSteps_p F b0).bind k := by
  simp only [impl_Board_allSteps_p, impl_Board_allSteps_c, cond_bindL, none_bindL, some_bindL]

/-- (loop.example/g01194/impl.Board).behind -/
def impl_Board_behind_c (Q : Type) (F : Nat) (b0 : List Int) (s1 : List Int) (k : (List Int × Int) → Option Q) : Option Q :=
    let z_1 := (impl_Board_slide_p F b0 (iget s1 0))
    let z_2 := (Option.getD z_1 default)
    let z_3 := (impl_Board_at_p (sub s1 1 2) z_2.1)
    bif (Option.isSome z_1) then
    bif (Option.isSome z_3) then
    k ((iset z_2.1 (Option.getD z_3 default) (iget s1 3)), z_2.2.1)
    else none
    else none
def impl_Board_behind_p (F : Nat) (b0 : List Int) (s1 : List Int) : Option (List Int × Int) := impl_Board_behind_c _ F b0 s1 some
theorem impl_Board_behind_cp (Q : Type) (F : Nat) (b0 : List Int) (s1 : List Int) (k : (List Int × Int) → Option Q) : impl_Board_behind_c Q F b0 s1 k = (impl_Board_behind_p F b0 s1).bind k := by
  simp only [impl_Board_behind_p, impl_Board_behind_c, cond_bindL, none_bindL, some_bindL]

/-- loop 5 of loop.example/g01194/impl.CountNext -/
def impl_CountNext_s5 (F : Nat) (t155 : Int) (b7 : List Int) (t149 : List (List Int)) (Q : Type) : (Int × List (List Int × Bool)) → ((Int × List (List Int × Bool)) → Option Q) → ((List (List Int × Bool)) → Option Q) → Option Q
  | (t166, known8), kn, kx =>
    let z_1 := (impl_Board_behind_p F b7 (rget t149 ((0 : Nat) + (Int.toNat t166))))
    bif (decide (t166 < t155)) then
    bif (inR t166 (List.length t149)) then
    bif (Option.isSome z_1) then
    kn ((IntKind.wrap .i64 (t166 + (1 : Int))), (mput (Option.getD z_1 default).1 true known8))
    else none
    else none
    else kx known8
def impl_CountNext_l5 (F : Nat) (t155 : Int) (b7 : List Int) (t149 : List (List Int)) (t166 : Int) (known8 : List (List Int × Bool)) : Option (List (List Int × Bool)) := loopC (impl_CountNext_s5 F t155 b7 t149) F (t166, known8) some
theorem impl_CountNext_s5_nat (F : Nat) (t155 : Int) (b7 : List Int) (t149 : List (List Int)) : Natural (impl_CountNext_s5 F t155 b7 t149) := by
  intro Q Q' s kn kx h
  obtain ⟨t166, known8⟩ := s
  simp only [impl_CountNext_s5, cond_bindL, none_bindL]
/-- loop.example/g01194/impl.CountNext -/
def impl_CountNext_c (Q : Type) (F : Nat) (b0 : List Int) (k : (Int × Bool) → Option Q) : Option Q :=
    let z_1 := (impl_IsBoard_p F b0)
    let z_2 := (impl_Board_allSteps_p F b0)
    let z_3 : Nat := (List.length (Option.getD z_2 default))
    let z_4 := (impl_CountNext_l5 F ((z_3 : Nat) : Int) b0 (Option.getD z_2 default) (0 : Int) ([] : List (List Int × Bool)))
    bif (Option.isSome z_1) then
    bif (!(Option.getD z_1 default)) then
    k ((0 : Int), false)
    else bif (Option.isSome z_2) then
    bif ((Nat.beq z_3 z_3) && (Option.isSome z_4)) then
    k ((((List.length (Option.getD z_4 default)) : Nat) : Int), true)
    else none
    else none
    else none
def impl_CountNext_p (F : Nat) (b0 : List Int) : Option (Int × Bool) := impl_CountNext_c _ F b0 some
theorem impl_CountNext_cp (Q : Type) (F : Nat) (b0 : List Int) (k : (Int × Bool) → Option Q) : impl_CountNext_c Q F b0 k = (impl_CountNext_p F b0).bind k := by
  simp only [impl_CountNext_p, impl_CountNext_c, cond_bindL, none_bindL, some_bindL]

/-- loop.example/g01194/laws.FnExactCountNext -/
def laws_FnExactCountNext_c (Q : Type) (F : Nat) (aB0 : List Int) (k : (Bool) → Option Q) : Option Q :=
    let z_1 := (spec_CountNext_p F (laws_toBoard_v aB0))
    let z_2 := (impl_CountNext_p F (laws_toBoard_v aB0))
    let z_3 := (Option.getD z_2 default)
    let z_4 := (Option.getD z_1 default)
    bif (Option.isSome z_1) then
    bif (Option.isSome z_2) then
    bif (!(z_3.1 == z_4.1)) then
    k false
    else bif (!(z_3.2 == z_4.2)) then
    k false
    else k true
    else none
    else none
def laws_FnExactCountNext_p (F : Nat) (aB0 : List Int) : Option (Bool) := laws_FnExactCountNext_c _ F aB0 some
theorem laws_FnExactCountNext_cp (Q : Type) (F : Nat) (aB0 : List Int) (k : (Bool) → Option Q) : laws_FnExactCountNext_c Q F aB0 k = (laws_FnExactCountNext_p F aB0).bind k := by
  simp only [laws_FnExactCountNext_p, laws_FnExactCountNext_c, cond_bindL, none_bindL, some_bindL]
end Go.Lv.P
