/-
Pure functions and what the code of them does, by program; without conditions.
-/
import Derived.Test.YtabfliifleonaaaQaP1
namespace Go.Lv.P
open Go Go.Lv
set_option linter.unusedVariables false
set_option linter.unusedSimpArgs false
set_option maxRecDepth 100000
/-- (loop.example/g01194/impl.Board).empty$1 -/
def impl_Board_empty_f1_c (Q : Type) (cell0 : List Int) (a14 : List Int) (k : (Bool) → Option Q) : Option Q :=
    let z_1 := (impl_Board_at_p cell0 a14)
    bif (Option.isSome z_1) then
    k (!((iget a14 (Option.getD z_1 default)) == (0 : Int)))
    else none
def impl_Board_empty_f1_p (cell0 : List Int) (a14 : List Int) : Option (Bool) := impl_Board_empty_f1_c _ cell0 a14 some
theorem impl_Board_empty_f1_cp (Q : Type) (cell0 : List Int) (a14 : List Int) (k : (Bool) → Option Q) : impl_Board_empty_f1_c Q cell0 a14 k = (impl_Board_empty_f1_p cell0 a14).bind k := by
  simp only [impl_Board_empty_f1_p, impl_Board_empty_f1_c, cond_bindL, none_bindL, some_bindL]

/-- loop 2 of slices.IndexFunc[[][2]int,[2]int] -/
def slices_IndexFunc_2int2int_impl_Board_empty_f1_s2 (F : Nat) (s0 : List (List Int)) (t74 : Int) (f6 : List Int) (Q : Type) : (Int) → ((Int) → Option Q) → ((Bool × Int) → Option Q) → Option Q
  | t85, kn, kx =>
    let z_1 := (impl_Board_empty_f1_p (rget s0 (Int.toNat t85)) f6)
    bif (decide (t85 < t74)) then
    bif (inR t85 (List.length s0)) then
    bif (Option.isSome z_1) then
    bif (Option.getD z_1 default) then
    kx (true, t85)
    else kn (IntKind.wrap .i64 (t85 + (1 : Int)))
    else none
    else none
    else kx (false, default)
def slices_IndexFunc_2int2int_impl_Board_empty_f1_l2 (F : Nat) (s0 : List (List Int)) (t74 : Int) (f6 : List Int) (t85 : Int) : Option (Bool × Int) := loopC (slices_IndexFunc_2int2int_impl_Board_empty_f1_s2 F s0 t74 f6) F t85 some
theorem slices_IndexFunc_2int2int_impl_Board_empty_f1_s2_nat (F : Nat) (s0 : List (List Int)) (t74 : Int) (f6 : List Int) : Natural (slices_IndexFunc_2int2int_impl_Board_empty_f1_s2 F s0 t74 f6) := by
  intro Q Q' s kn kx h
  simp only [slices_IndexFunc_2int2int_impl_Board_empty_f1_s2, cond_bindL, none_bindL]
/-- slices.IndexFunc[[][2]int,[2]int] -/
def slices_IndexFunc_2int2int_impl_Board_empty_f1_c (Q : Type) (F : Nat) (s0 : List (List Int)) (f4 : List Int) (k : (Int) → Option Q) : Option Q :=
    let z_1 := (slices_IndexFunc_2int2int_impl_Board_empty_f1_l2 F s0 (((List.length s0) : Nat) : Int) f4 (0 : Int))
    let z_2 := (Option.getD z_1 default)
    bif (Option.isSome z_1) then
    bif z_2.1 then
    k z_2.2
    else k (-1 : Int)
    else none
def slices_IndexFunc_2int2int_impl_Board_empty_f1_p (F : Nat) (s0 : List (List Int)) (f4 : List Int) : Option (Int) := slices_IndexFunc_2int2int_impl_Board_empty_f1_c _ F s0 f4 some
theorem slices_IndexFunc_2int2int_impl_Board_empty_f1_cp (Q : Type) (F : Nat) (s0 : List (List Int)) (f4 : List Int) (k : (Int) → Option Q) : slices_IndexFunc_2int2int_impl_Board_empty_f1_c Q F s0 f4 k = (slices_IndexFunc_2int2int_impl_Board_empty_f1_p F s0 f4).bind k := by
  simp only [slices_IndexFunc_2int2int_impl_Board_empty_f1_p, slices_IndexFunc_2int2int_impl_Board_empty_f1_c, cond_bindL, none_bindL, some_bindL]

/-- loop 5 of slices.DeleteFunc[[][2]int,[2]int] -/
def slices_DeleteFunc_2int2int_impl_Board_empty_f1_s5 (F : Nat) (s1 : Nat) (del8 : List Int) (Q : Type) : (Int × Int × List (List Int)) → ((Int × Int × List (List Int)) → Option Q) → ((Int × List (List Int)) → Option Q) → Option Q
  | (i5, j6, s7), kn, kx =>
    let z_1 : List Int := (rget s7 ((0 : Nat) + (Int.toNat j6)))
    let z_2 := (impl_Board_empty_f1_p z_1 del8)
    let z_3 : Int := (IntKind.wrap .i64 (j6 + (1 : Int)))
    bif (decide (j6 < ((s1 : Nat) : Int))) then
    bif (inR j6 s1) then
    bif (Option.isSome z_2) then
    bif (!(Option.getD z_2 default)) then
    bif (inR i5 s1) then
    kn ((IntKind.wrap .i64 (i5 + (1 : Int))), z_3, (rset s7 ((0 : Nat) + (Int.toNat i5)) z_1))
    else none
    else kn (i5, z_3, s7)
    else none
    else none
    else kx (i5, s7)
def slices_DeleteFunc_2int2int_impl_Board_empty_f1_l5 (F : Nat) (s1 : Nat) (del8 : List Int) (i5 : Int) (j6 : Int) (s7 : List (List Int)) : Option (Int × List (List Int)) := loopC (slices_DeleteFunc_2int2int_impl_Board_empty_f1_s5 F s1 del8) F (i5, j6, s7) some
theorem slices_DeleteFunc_2int2int_impl_Board_empty_f1_s5_nat (F : Nat) (s1 : Nat) (del8 : List Int) : Natural (slices_DeleteFunc_2int2int_impl_Board_empty_f1_s5 F s1 del8) := by
  intro Q Q' s kn kx h
  obtain ⟨i5, j6, s7⟩ := s
  simp only [slices_DeleteFunc_2int2int_impl_Board_empty_f1_s5, cond_bindL, none_bindL]
/-- slices.DeleteFunc[[][2]int,[2]int] -/
def slices_DeleteFunc_2int2int_impl_Board_empty_f1_c (Q : Type) (F : Nat) (s5 : List (List Int)) (del6 : List Int) (k : (Nat × List (List Int)) → Option Q) : Option Q :=
    let z_1 := (slices_IndexFunc_2int2int_impl_Board_empty_f1_p F (subn (List.length s5) s5 0 (List.length s5)) del6)
    let z_2 := (slices_DeleteFunc_2int2int_impl_Board_empty_f1_l5 F (List.length s5) del6 (Option.getD z_1 default) (IntKind.wrap .i64 ((Option.getD z_1 default) + (1 : Int))) s5)
    let z_3 := (Option.getD z_2 default)
    let z_4 : Bool := (inLe z_3.1 (List.length s5))
    let z_5 : Nat := (Int.toNat z_3.1)
    let z_6 : Nat := ((List.length s5) - z_5)
    bif (Option.isSome z_1) then
    bif ((Option.getD z_1 default) == (-1 : Int)) then
    k ((List.length s5), s5)
    else bif (Option.isSome z_2) then
    bif z_4 then
    bif z_4 then
    k ((z_5 - (0 : Nat)), (splice z_3.2 ((0 : Nat) + z_5) (List.replicate z_6 [(0 : Int), (0 : Int)]) z_6))
    else none
    else none
    else none
    else none
def slices_DeleteFunc_2int2int_impl_Board_empty_f1_p (F : Nat) (s5 : List (List Int)) (del6 : List Int) : Option (Nat × List (List Int)) := slices_DeleteFunc_2int2int_impl_Board_empty_f1_c _ F s5 del6 some
theorem slices_DeleteFunc_2int2int_impl_Board_empty_f1_cp (Q : Type) (F : Nat) (s5 : List (List Int)) (del6 : List Int) (k : (Nat × List (List Int)) → Option Q) : slices_DeleteFunc_2int2int_impl_Board_empty_f1_c Q F s5 del6 k = (slices_DeleteFunc_2int2int_impl_Board_empty_f1_p F s5 del6).bind k := by
  simp only [slices_DeleteFunc_2int2int_impl_Board_empty_f1_p, slices_DeleteFunc_2int2int_impl_Board_empty_f1_c, cond_bindL, none_bindL, some_bindL]

/-- (loop.example/g01194/impl.Board).empty -/
def impl_Board_empty_c (Q : Type) (F : Nat) (b0 : List Int) (k : (Nat × List (List Int)) → Option Q) : Option Q :=
    let z_1 := (slices_DeleteFunc_2int2int_impl_Board_empty_f1_p F [[(0 : Int), (0 : Int)], [(0 : Int), (1 : Int)], [(0 : Int), (2 : Int)], [(0 : Int), (3 : Int)], [(1 : Int), (0 : Int)], [(1 : Int), (1 : Int)], [(1 : Int), (2 : Int)], [(1 : Int), (3 : Int)], [(2 : Int), (0 : Int)], [(2 : Int), (1 : Int)], [(2 : Int), (2 : Int)], [(2 : Int), (3 : Int)], [(3 : Int), (0 : Int)], [(3 : Int), (1 : Int)], [(3 : Int), (2 : Int)], [(3 : Int), (3 : Int)]] b0)
    let z_2 := (Option.getD z_1 default)
    bif (Option.isSome z_1) then
    k (z_2.1, z_2.2)
    else none
def impl_Board_empty_p (F : Nat) (b0 : List Int) : Option (Nat × List (List Int)) := impl_Board_empty_c _ F b0 some
theorem impl_Board_empty_cp (Q : Type) (F : Nat) (b0 : List Int) (k : (Nat × List (List Int)) → Option Q) : impl_Board_empty_c Q F b0 k = (impl_Board_empty_p F b0).bind k := by
  simp only [impl_Board_empty_p, impl_Board_empty_c, cond_bindL, none_bindL, some_bindL]

/-- (loop.example/g01194/impl.Board).sum -/
def impl_Board_sum_c (Q : Type) (b0 : List Int) (k : (Int) → Option Q) : Option Q :=
    let z_1 := (impl_Board_at_p [(0 : Int), (0 : Int)] b0)
    let z_2 := (impl_Board_at_p [(0 : Int), (1 : Int)] b0)
    let z_3 := (impl_Board_at_p [(0 : Int), (2 : Int)] b0)
    let z_4 := (impl_Board_at_p [(0 : Int), (3 : Int)] b0)
    let z_5 := (impl_Board_at_p [(1 : Int), (0 : Int)] b0)
    let z_6 := (impl_Board_at_p [(1 : Int), (1 : Int)] b0)
    let z_7 := (impl_Board_at_p [(1 : Int), (2 : Int)] b0)
    let z_8 := (impl_Board_at_p [(1 : Int), (3 : Int)] b0)
    let z_9 := (impl_Board_at_p [(2 : Int), (0 : Int)] b0)
    let z_10 := (impl_Board_at_p [(2 : Int), (1 : Int)] b0)
    let z_11 := (impl_Board_at_p [(2 : Int), (2 : Int)] b0)
    let z_12 := (impl_Board_at_p [(2 : Int), (3 : Int)] b0)
    let z_13 := (impl_Board_at_p [(3 : Int), (0 : Int)] b0)
    let z_14 := (impl_Board_at_p [(3 : Int), (1 : Int)] b0)
    let z_15 := (impl_Board_at_p [(3 : Int), (2 : Int)] b0)
    let z_16 := (impl_Board_at_p [(3 : Int), (3 : Int)] b0)
    bif (Option.isSome z_1) then
    bif (Option.isSome (impl_worth_p (iget b0 (Option.getD z_1 default)))) then
    bif (Option.isSome z_2) then
    bif (Option.isSome (impl_worth_p (iget b0 (Option.getD z_2 default)))) then
    bif (Option.isSome z_3) then
    bif (Option.isSome (impl_worth_p (iget b0 (Option.getD z_3 default)))) then
    bif (Option.isSome z_4) then
    bif (Option.isSome (impl_worth_p (iget b0 (Option.getD z_4 default)))) then
    bif (Option.isSome z_5) then
    bif (Option.isSome (impl_worth_p (iget b0 (Option.getD z_5 default)))) then
    bif (Option.isSome z_6) then
    bif (Option.isSome (impl_worth_p (iget b0 (Option.getD z_6 default)))) then
    bif (Option.isSome z_7) then
    bif (Option.isSome (impl_worth_p (iget b0 (Option.getD z_7 default)))) then
    bif (Option.isSome z_8) then
    bif (Option.isSome (impl_worth_p (iget b0 (Option.getD z_8 default)))) then
    bif (Option.isSome z_9) then
    bif (Option.isSome (impl_worth_p (iget b0 (Option.getD z_9 default)))) then
    bif (Option.isSome z_10) then
    bif (Option.isSome (impl_worth_p (iget b0 (Option.getD z_10 default)))) then
    bif (Option.isSome z_11) then
    bif (Option.isSome (impl_worth_p (iget b0 (Option.getD z_11 default)))) then
    bif (Option.isSome z_12) then
    bif (Option.isSome (impl_worth_p (iget b0 (Option.getD z_12 default)))) then
    bif (Option.isSome z_13) then
    bif (Option.isSome (impl_worth_p (iget b0 (Option.getD z_13 default)))) then
    bif (Option.isSome z_14) then
    bif (Option.isSome (impl_worth_p (iget b0 (Option.getD z_14 default)))) then
    bif (Option.isSome z_15) then
    bif (Option.isSome (impl_worth_p (iget b0 (Option.getD z_15 default)))) then
    bif (Option.isSome z_16) then
    bif (Option.isSome (impl_worth_p (iget b0 (Option.getD z_16 default)))) then
    k (IntKind.wrap .i64 ((IntKind.wrap .i64 ((IntKind.wrap .i64 ((IntKind.wrap .i64 ((IntKind.wrap .i64 ((IntKind.wrap .i64 ((IntKind.wrap .i64 ((IntKind.wrap .i64 ((IntKind.wrap .i64 ((IntKind.wrap .i64 ((IntKind.wrap .i64 ((IntKind.wrap .i64 ((IntKind.wrap .i64 ((IntKind.wrap .i64 ((IntKind.wrap .i64 ((IntKind.wrap .i64 ((0 : Int) + (Option.getD (impl_worth_p (iget b0 (Option.getD z_1 default))) default))) + (Option.getD (impl_worth_p (iget b0 (Option.getD z_2 default))) default))) + (Option.getD (impl_worth_p (iget b0 (Option.getD z_3 default))) default))) + (Option.getD (impl_worth_p (iget b0 (Option.getD z_4 default))) default))) + (Option.getD (impl_worth_p (iget b0 (Option.getD z_5 default))) default))) + (Option.getD (impl_worth_p (iget b0 (Option.getD z_6 default))) default))) + (Option.getD (impl_worth_p (iget b0 (Option.getD z_7 default))) default))) + (Option.getD (impl_worth_p (iget b0 (Option.getD z_8 default))) default))) + (Option.getD (impl_worth_p (iget b0 (Option.getD z_9 default))) default))) + (Option.getD (impl_worth_p (iget b0 (Option.getD z_10 default))) default))) + (Option.getD (impl_worth_p (iget b0 (Option.getD z_11 default))) default))) + (Option.getD (impl_worth_p (iget b0 (Option.getD z_12 default))) default))) + (Option.getD (impl_worth_p (iget b0 (Option.getD z_13 default))) default))) + (Option.getD (impl_worth_p (iget b0 (Option.getD z_14 default))) default))) + (Option.getD (impl_worth_p (iget b0 (Option.getD z_15 default))) default))) + (Option.getD (impl_worth_p (iget b0 (Option.getD z_16 default))) default)))
    else none
    else none
    else none
    else none
    else none
    else none
    else none
    else none
    else none
    else none
    else none
    else none
    else none
    else none
    else none
    else none
    else none
    else none
    else none
    else none
    else none
    else none
    else none
    else none
    else none
    else none
    else none
    else none
    else none
    else none
    else none
    else none
def impl_Board_sum_p (b0 : List Int) : Option (Int) := impl_Board_sum_c _ b0 some
theorem impl_Board_sum_cp (Q : Type) (b0 : List Int) (k : (Int) → Option Q) : impl_Board_sum_c Q b0 k = (impl_Board_sum_p b0).bind k := by
  simp only [impl_Board_sum_p, impl_Board_sum_c, cond_bindL, none_bindL, some_bindL]

/-- loop.example/g01194/impl.MergersLeft -/
def impl_MergersLeft_c (Q : Type) (F : Nat) (b0 : List Int) (k : (Int × Bool) → Option Q) : Option Q :=
    let z_1 := (impl_IsBoard_p F b0)
    let z_2 := (impl_Board_empty_p F b0)
    bif (Option.isSome z_1) then
    bif (!(Option.getD z_1 default)) then
    k ((0 : Int), false)
    else bif (Option.isSome z_2) then
    bif (Option.isSome (impl_Board_sum_p b0)) then
    k ((IntKind.wrap .i64 ((IntKind.wrap .i64 ((16 : Int) - (((Option.getD z_2 default).1 : Nat) : Int))) - (impl_leastTiles_v (Option.getD (impl_Board_sum_p b0) default)))), true)
    else none
    else none
    else none
def impl_MergersLeft_p (F : Nat) (b0 : List Int) : Option (Int × Bool) := impl_MergersLeft_c _ F b0 some
theorem impl_MergersLeft_cp (Q : Type) (F : Nat) (b0 : List Int) (k : (Int × Bool) → Option Q) : impl_MergersLeft_c Q F b0 k = (impl_MergersLeft_p F b0).bind k := by
  simp only [impl_MergersLeft_p, impl_MergersLeft_c, cond_bindL, none_bindL, some_bindL]

/-- loop 5 of loop.example/g01194/spec.l2Board -/
def spec_l2Board_s5 (F : Nat) (r3 : Int) (b5 : List Int) (Q : Type) : (Int) → ((Int) → Option Q) → ((Bool) → Option Q) → Option Q
  | c4, kn, kx =>
    bif (decide (c4 < (4 : Int))) then
    bif (inR r3 4) then
    bif (inR c4 4) then
    bif (!(spec_l1In_v (iget b5 (((0 : Nat) + ((Int.toNat r3) * (4 : Nat))) + ((Int.toNat c4) * (1 : Nat)))) (0 : Int) (17 : Int))) then
    kx true
    else kn (IntKind.wrap .i64 (c4 + (1 : Int)))
    else none
    else none
    else kx false
def spec_l2Board_l5 (F : Nat) (r3 : Int) (b5 : List Int) (c4 : Int) : Option (Bool) := loopC (spec_l2Board_s5 F r3 b5) F c4 some
theorem spec_l2Board_s5_nat (F : Nat) (r3 : Int) (b5 : List Int) : Natural (spec_l2Board_s5 F r3 b5) := by
  intro Q Q' s kn kx h
  simp only [spec_l2Board_s5, cond_bindL, none_bindL]
/-- loop 2 of loop.example/g01194/spec.l2Board -/
def spec_l2Board_s2 (F : Nat) (b4 : List Int) (Q : Type) : (Int) → ((Int) → Option Q) → ((Bool) → Option Q) → Option Q
  | r3, kn, kx =>
    let z_1 := (spec_l2Board_l5 F r3 b4 (0 : Int))
    bif (decide (r3 < (4 : Int))) then
    bif (Option.isSome z_1) then
    bif (Option.getD z_1 default) then
    kx true
    else kn (IntKind.wrap .i64 (r3 + (1 : Int)))
    else none
    else kx false
def spec_l2Board_l2 (F : Nat) (b4 : List Int) (r3 : Int) : Option (Bool) := loopC (spec_l2Board_s2 F b4) F r3 some
theorem spec_l2Board_s2_nat (F : Nat) (b4 : List Int) : Natural (spec_l2Board_s2 F b4) := by
  intro Q Q' s kn kx h
  simp only [spec_l2Board_s2, cond_bindL, none_bindL]
/-- loop.example/g01194/spec.l2Board -/
def spec_l2Board_c (Q : Type) (F : Nat) (b0 : List Int) (k : (Bool) → Option Q) : Option Q :=
    let z_1 := (spec_l2Board_l2 F b0 (0 : Int))
    bif (Option.isSome z_1) then
    bif (Option.getD z_1 default) then
    k false
    else k true
    else none
def spec_l2Board_p (F : Nat) (b0 : List Int) : Option (Bool) := spec_l2Board_c _ F b0 some
theorem spec_l2Board_cp (Q : Type) (F : Nat) (b0 : List Int) (k : (Bool) → Option Q) : spec_l2Board_c Q F b0 k = (spec_l2Board_p F b0).bind k := by
  simp only [spec_l2Board_p, spec_l2Board_c, cond_bindL, none_bindL, some_bindL]

/-- loop 6 of loop.example/g01194/spec.l2Empty -/
def spec_l2Empty_s6 (F : Nat) (r5 : Int) (b7 : List Int) (Q : Type) : (Int × List (List Int)) → ((Int × List (List Int)) → Option Q) → ((List (List Int)) → Option Q) → Option Q
  | (c6, out8), kn, kx =>
    let z_1 : List (List Int) := ((subn (List.length out8) out8 0 (List.length out8)) ++ [[r5, c6]])
    let z_2 : Int := (IntKind.wrap .i64 (c6 + (1 : Int)))
    bif (decide (c6 < (4 : Int))) then
    bif (inR r5 4) then
    bif (inR c6 4) then
    bif ((iget b7 (((0 : Nat) + ((Int.toNat r5) * (4 : Nat))) + ((Int.toNat c6) * (1 : Nat)))) == (0 : Int)) then
    bif (fits (List.length z_1) 16) then
    kn (z_2, z_1)
    else none
    else kn (z_2, out8)
    else none
    else none
    else kx out8
def spec_l2Empty_l6 (F : Nat) (r5 : Int) (b7 : List Int) (c6 : Int) (out8 : List (List Int)) : Option (List (List Int)) := loopC (spec_l2Empty_s6 F r5 b7) F (c6, out8) some
theorem spec_l2Empty_s6_nat (F : Nat) (r5 : Int) (b7 : List Int) : Natural (spec_l2Empty_s6 F r5 b7) := by
  intro Q Q' s kn kx h
  obtain ⟨c6, out8⟩ := s
  simp only [spec_l2Empty_s6, cond_bindL, none_bindL]
/-- loop 3 of loop.example/g01194/spec.l2Empty -/
def spec_l2Empty_s3 (F : Nat) (b6 : List Int) (Q : Type) : (Int × List (List Int)) → ((Int × List (List Int)) → Option Q) → ((List (List Int)) → Option Q) → Option Q
  | (r5, out7), kn, kx =>
    let z_1 := (spec_l2Empty_l6 F r5 b6 (0 : Int) out7)
    bif (decide (r5 < (4 : Int))) then
    bif ((Nat.beq (List.length out7) (List.length out7)) && (Option.isSome z_1)) then
    kn ((IntKind.wrap .i64 (r5 + (1 : Int))), (Option.getD z_1 default))
    else none
    else kx out7
def spec_l2Empty_l3 (F : Nat) (b6 : List Int) (r5 : Int) (out7 : List (List Int)) : Option (List (List Int)) := loopC (spec_l2Empty_s3 F b6) F (r5, out7) some
theorem spec_l2Empty_s3_nat (F : Nat) (b6 : List Int) : Natural (spec_l2Empty_s3 F b6) := by
  intro Q Q' s kn kx h
  obtain ⟨r5, out7⟩ := s
  simp only [spec_l2Empty_s3, cond_bindL, none_bindL]
/-- loop.example/g01194/spec.l2Empty -/
def spec_l2Empty_c (Q : Type) (F : Nat) (b0 : List Int) (k : (List (List Int)) → Option Q) : Option Q :=
    let z_1 := (spec_l2Empty_l3 F b0 (0 : Int) ([] : List (List Int)))
    bif (Option.isSome z_1) then
    k (Option.getD z_1 default)
    else none
def spec_l2Empty_p (F : Nat) (b0 : List Int) : Option (List (List Int)) := spec_l2Empty_c _ F b0 some
theorem spec_l2Empty_cp (Q : Type) (F : Nat) (b0 : List Int) (k : (List (List Int)) → Option Q) : spec_l2Empty_c Q F b0 k = (spec_l2Empty_p F b0).bind k := by
  simp only [spec_l2Empty_p, spec_l2Empty_c, cond_bindL, none_bindL, some_bindL]

/-- loop.example/g01194/spec.l2Many -/
def spec_l2Many_c (Q : Type) (F : Nat) (b0 : List Int) (k : (Int) → Option Q) : Option Q :=
    let z_1 := (spec_l2Empty_p F b0)
    bif (Option.isSome z_1) then
    k (IntKind.wrap .i64 ((16 : Int) - (((List.length (Option.getD z_1 default)) : Nat) : Int)))
    else none
def spec_l2Many_p (F : Nat) (b0 : List Int) : Option (Int) := spec_l2Many_c _ F b0 some
theorem spec_l2Many_cp (Q : Type) (F : Nat) (b0 : List Int) (k : (Int) → Option Q) : spec_l2Many_c Q F b0 k = (spec_l2Many_p F b0).bind k := by
  simp only [spec_l2Many_p, spec_l2Many_c, cond_bindL, none_bindL, some_bindL]

/-- loop 6 of loop.example/g01194/spec.l2Sum -/
def spec_l2Sum_s6 (F : Nat) (r4 : Int) (b6 : List Int) (Q : Type) : (Int × Int) → ((Int × Int) → Option Q) → ((Int) → Option Q) → Option Q
  | (sum3, c5), kn, kx =>
    let z_1 : Int := (iget b6 (((0 : Nat) + ((Int.toNat r4) * (4 : Nat))) + ((Int.toNat c5) * (1 : Nat))))
    let z_2 : Int := (IntKind.wrap .i64 (c5 + (1 : Int)))
    bif (decide (c5 < (4 : Int))) then
    bif (inR r4 4) then
    bif (inR c5 4) then
    bif (decide ((0 : Int) < z_1)) then
    bif (Option.isSome (spec_l2Worth_p z_1)) then
    kn ((IntKind.wrap .i64 (sum3 + (Option.getD (spec_l2Worth_p z_1) default))), z_2)
    else none
    else kn (sum3, z_2)
    else none
    else none
    else kx sum3
def spec_l2Sum_l6 (F : Nat) (r4 : Int) (b6 : List Int) (sum3 : Int) (c5 : Int) : Option (Int) := loopC (spec_l2Sum_s6 F r4 b6) F (sum3, c5) some
theorem spec_l2Sum_s6_nat (F : Nat) (r4 : Int) (b6 : List Int) : Natural (spec_l2Sum_s6 F r4 b6) := by
  intro Q Q' s kn kx h
  obtain ⟨sum3, c5⟩ := s
  simp only [spec_l2Sum_s6, cond_bindL, none_bindL]
/-- loop 3 of loop.example/g01194/spec.l2Sum -/
def spec_l2Sum_s3 (F : Nat) (b5 : List Int) (Q : Type) : (Int × Int) → ((Int × Int) → Option Q) → ((Int) → Option Q) → Option Q
  | (sum3, r4), kn, kx =>
    let z_1 := (spec_l2Sum_l6 F r4 b5 sum3 (0 : Int))
    bif (decide (r4 < (4 : Int))) then
    bif (Option.isSome z_1) then
    kn ((Option.getD z_1 default), (IntKind.wrap .i64 (r4 + (1 : Int))))
    else none
    else kx sum3
def spec_l2Sum_l3 (F : Nat) (b5 : List Int) (sum3 : Int) (r4 : Int) : Option (Int) := loopC (spec_l2Sum_s3 F b5) F (sum3, r4) some
theorem spec_l2Sum_s3_nat (F : Nat) (b5 : List Int) : Natural (spec_l2Sum_s3 F b5) := by
  intro Q Q' s kn kx h
  obtain ⟨sum3, r4⟩ := s
  simp only [spec_l2Sum_s3, cond_bindL, none_bindL]
/-- loop.example/g01194/spec.l2Sum -/
def spec_l2Sum_c (Q : Type) (F : Nat) (b0 : List Int) (k : (Int) → Option Q) : Option Q :=
    let z_1 := (spec_l2Sum_l3 F b0 (0 : Int) (0 : Int))
    bif (Option.isSome z_1) then
    k (Option.getD z_1 default)
    else none
def spec_l2Sum_p (F : Nat) (b0 : List Int) : Option (Int) := spec_l2Sum_c _ F b0 some
theorem spec_l2Sum_cp (Q : Type) (F : Nat) (b0 : List Int) (k : (Int) → Option Q) : spec_l2Sum_c Q F b0 k = (spec_l2Sum_p F b0).bind k := by
  simp only [spec_l2Sum_p, spec_l2Sum_c, cond_bindL, none_bindL, some_bindL]

/-- loop.example/g01194/spec.MergersLeft -/
def spec_MergersLeft_c (Q : Type) (F : Nat) (b0 : List Int) (k : (Int × Bool) → Option Q) : Option Q :=
    let z_1 := (spec_l2Board_p F b0)
    let z_2 := (spec_l2Many_p F b0)
    let z_3 := (spec_l2Sum_p F b0)
    let z_4 := (spec_l7Least_p F (Option.getD z_3 default))
    bif (Option.isSome z_1) then
    bif (!(Option.getD z_1 default)) then
    k ((0 : Int), false)
    else bif (Option.isSome z_2) then
    bif (Option.isSome z_3) then
    bif (Option.isSome z_4) then
    k ((IntKind.wrap .i64 ((Option.getD z_2 default) - (((List.length (Option.getD z_4 default)) : Nat) : Int))), true)
    else none
    else none
    else none
    else none
def spec_MergersLeft_p (F : Nat) (b0 : List Int) : Option (Int × Bool) := spec_MergersLeft_c _ F b0 some
theorem spec_MergersLeft_cp (Q : Type) (F : Nat) (b0 : List Int) (k : (Int × Bool) → Option Q) : spec_MergersLeft_c Q F b0 k = (spec_MergersLeft_p F b0).bind k := by
  simp only [spec_MergersLeft_p, spec_MergersLeft_c, cond_bindL, none_bindL, some_bindL]

/-- slices.Grow[[]int,int] -/
def slices_Grow_intint_c (Q : Type) (n0 : Int) (k : (List Int) → Option Q) : Option Q :=
    let z_1 : Int := (IntKind.wrap .i64 (n0 - (0 : Int)))
    let z_2 : Nat := (Int.toNat z_1)
    bif (decide (n0 < (0 : Int))) then
    none
    else bif (decide ((0 : Int) < z_1)) then
    bif ((decide ((1 : Int) ≤ z_1)) && (fits z_2 8)) then
    bif (inLe (0 : Int) z_2) then
    k (List.replicate z_2 (0 : Int))
    else none
    else none
    else k ([] : List Int)
def slices_Grow_intint_p (n0 : Int) : Option (List Int) := slices_Grow_intint_c _ n0 some
theorem slices_Grow_intint_cp (Q : Type) (n0 : Int) (k : (List Int) → Option Q) : slices_Grow_intint_c Q n0 k = (slices_Grow_intint_p n0).bind k := by
  simp only [slices_Grow_intint_p, slices_Grow_intint_c, cond_bindL, none_bindL, some_bindL]

/-- slices.Concat[[]int,int] -/
def slices_Concat_intint_c (Q : Type) (slices0 : List Int) (slices1 : List Int) (slices2 : List Int) (slices3 : List Int) (k : (List Int) → Option Q) : Option Q :=
    let z_1 : Int := (IntKind.wrap .i64 ((0 : Int) + (((List.length slices0) : Nat) : Int)))
    let z_2 : Int := (IntKind.wrap .i64 (z_1 + (((List.length slices1) : Nat) : Int)))
    let z_3 : Int := (IntKind.wrap .i64 (z_2 + (((List.length slices2) : Nat) : Int)))
    let z_4 : Int := (IntKind.wrap .i64 (z_3 + (((List.length slices3) : Nat) : Int)))
    let z_5 : List Int := ((subn (List.length (Option.getD (slices_Grow_intint_p z_4) default)) (Option.getD (slices_Grow_intint_p z_4) default) 0 0) ++ slices0)
    let z_6 : Nat := (List.length z_5)
    let z_7 : List Int := ((subn z_6 z_5 0 z_6) ++ slices1)
    let z_8 : Nat := (List.length z_7)
    let z_9 : List Int := ((subn z_8 z_7 0 z_8) ++ slices2)
    let z_10 : Nat := (List.length z_9)
    let z_11 : List Int := ((subn z_10 z_9 0 z_10) ++ slices3)
    bif (decide (z_1 < (0 : Int))) then
    none
    else bif (decide (z_2 < (0 : Int))) then
    none
    else bif (decide (z_3 < (0 : Int))) then
    none
    else bif (decide (z_4 < (0 : Int))) then
    none
    else bif (Option.isSome (slices_Grow_intint_p z_4)) then
    bif (fits z_6 8) then
    bif (fits z_8 8) then
    bif (fits z_10 8) then
    bif (fits (List.length z_11) 8) then
    k z_11
    else none
    else none
    else none
    else none
    else none
def slices_Concat_intint_p (slices0 : List Int) (slices1 : List Int) (slices2 : List Int) (slices3 : List Int) : Option (List Int) := slices_Concat_intint_c _ slices0 slices1 slices2 slices3 some
theorem slices_Concat_intint_cp (Q : Type) (slices0 : List Int) (slices1 : List Int) (slices2 : List Int) (slices3 : List Int) (k : (List Int) → Option Q) : slices_Concat_intint_c Q slices0 slices1 slices2 slices3 k = (slices_Concat_intint_p slices0 slices1 slices2 slices3).bind k := by
  simp only [slices_Concat_intint_p, slices_Concat_intint_c, cond_bindL, none_bindL, some_bindL]

/-- (loop.example/g01194/impl.Board).flat -/
def impl_Board_flat_c (Q : Type) (b0 : List Int) (k : (List Int) → Option Q) : Option Q :=
    let z_1 := (slices_Concat_intint_p (sub b0 0 4) (sub b0 4 4) (sub b0 8 4) (sub b0 12 4))
    bif (Option.isSome z_1) then
    k (Option.getD z_1 default)
    else none
def impl_Board_flat_p (b0 : List Int) : Option (List Int) := impl_Board_flat_c _ b0 some
theorem impl_Board_flat_cp (Q : Type) (b0 : List Int) (k : (List Int) → Option Q) : impl_Board_flat_c Q b0 k = (impl_Board_flat_p b0).bind k := by
  simp only [impl_Board_flat_p, impl_Board_flat_c, cond_bindL, none_bindL, some_bindL]

/-- loop 3 of (loop.example/g01194/impl.Board).potential -/
def impl_Board_potential_s3 (F : Nat) (t83 : Int) (t75 : List Int) (Q : Type) : (Int × Int) → ((Int × Int) → Option Q) → ((Int) → Option Q) → Option Q
  | (sum0, t94), kn, kx =>
    let z_1 : Int := (iget t75 ((0 : Nat) + (Int.toNat t94)))
    let z_2 : Int := (IntKind.wrap .i64 (t94 + (1 : Int)))
    bif (decide (t94 < t83)) then
    bif (inR t94 (List.length t75)) then
    bif (decide ((0 : Int) < z_1)) then
    bif (Option.isSome (impl_worth_p z_1)) then
    kn ((IntKind.wrap .i64 (sum0 + (IntKind.wrap .i64 ((IntKind.wrap .i64 (z_1 - (1 : Int))) * (Option.getD (impl_worth_p z_1) default))))), z_2)
    else none
    else kn (sum0, z_2)
    else none
    else kx sum0
def impl_Board_potential_l3 (F : Nat) (t83 : Int) (t75 : List Int) (sum0 : Int) (t94 : Int) : Option (Int) := loopC (impl_Board_potential_s3 F t83 t75) F (sum0, t94) some
theorem impl_Board_potential_s3_nat (F : Nat) (t83 : Int) (t75 : List Int) : Natural (impl_Board_potential_s3 F t83 t75) := by
  intro Q Q' s kn kx h
  obtain ⟨sum0, t94⟩ := s
  simp only [impl_Board_potential_s3, cond_bindL, none_bindL]
/-- (loop.example/g01194/impl.Board).potential -/
def impl_Board_potential_c (Q : Type) (F : Nat) (b0 : List Int) (k : (Int) → Option Q) : Option Q :=
    let z_1 : Nat := (List.length (Option.getD (impl_Board_flat_p b0) default))
    let z_2 := (impl_Board_potential_l3 F ((z_1 : Nat) : Int) (Option.getD (impl_Board_flat_p b0) default) (0 : Int) (0 : Int))
    bif (Option.isSome (impl_Board_flat_p b0)) then
    bif ((Nat.beq z_1 z_1) && (Option.isSome z_2)) then
    k (Option.getD z_2 default)
    else none
    else none
def impl_Board_potential_p (F : Nat) (b0 : List Int) : Option (Int) := impl_Board_potential_c _ F b0 some
theorem impl_Board_potential_cp (Q : Type) (F : Nat) (b0 : List Int) (k : (Int) → Option Q) : impl_Board_potential_c Q F b0 k = (impl_Board_potential_p F b0).bind k := by
  simp only [impl_Board_potential_p, impl_Board_potential_c, cond_bindL, none_bindL, some_bindL]

/-- loop.example/g01194/impl.PotentialOf -/
def impl_PotentialOf_c (Q : Type) (F : Nat) (b0 : List Int) (k : (Int × Bool) → Option Q) : Option Q :=
    let z_1 := (impl_IsBoard_p F b0)
    let z_2 := (impl_Board_potential_p F b0)
    bif (Option.isSome z_1) then
    bif (!(Option.getD z_1 default)) then
    k ((0 : Int), false)
    else bif (Option.isSome z_2) then
    k ((Option.getD z_2 default), true)
    else none
    else none
def impl_PotentialOf_p (F : Nat) (b0 : List Int) : Option (Int × Bool) := impl_PotentialOf_c _ F b0 some
theorem impl_PotentialOf_cp (Q : Type) (F : Nat) (b0 : List Int) (k : (Int × Bool) → Option Q) : impl_PotentialOf_c Q F b0 k = (impl_PotentialOf_p F b0).bind k := by
  simp only [impl_PotentialOf_p, impl_PotentialOf_c, cond_bindL, none_bindL, some_bindL]
end Go.Lv.P
