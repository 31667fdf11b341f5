/-
Pure functions and what the code of them does, by program; without conditions.
-/
import Derived.Test.YtloemkielkdegaaTIP0
namespace Go.Lv.P
open Go Go.Lv
set_option linter.unusedVariables false
set_option linter.unusedSimpArgs false
set_option maxRecDepth 100000
/-- loop 6 of loop.example/g01194/spec.l2Empty -/
def spec_l2Empty_s6 (F : Nat) (r5 : Int) (b7 : List Int) (Q : Type) : (Int × List (List Int)) → ((Int × List (List Int)) → Option Q) → ((List (List Int)) → Option Q) → Option Q
  | (c6, out8), kn, kx =>
    let z_1 : List (List Int) := ((subn (List.length out8) out8 0 (List.length out8)) ++ [[r5, c6]])
    let z_2 : Int := (IntKind.wrap .i64 (c6 + (1 : Int)))
    bif (decide (c6 < (4 : Int))) then
    bif (inR r5 4) then
    bif (inR c6 4) then
    bif ((iget b7 (((0 : Nat) + ((Int.toNat r5) * (4 : Nat))) + ((Int.toNat c6) * (1 : Nat)))) == (0 : Int)) then
    bif (fits (List.length z_1) 16) then
    kn (z_2, z_1)
    else none
    else kn (z_2, out8)
    else none
    else none
    else kx out8
def spec_l2Empty_l6 (F : Nat) (r5 : Int) (b7 : List Int) (c6 : Int) (out8 : List (List Int)) : Option (List (List Int)) := loopC (spec_l2Empty_s6 F r5 b7) F (c6, out8) some
theorem spec_l2Empty_s6_nat (F : Nat) (r5 : Int) (b7 : List Int) : Natural (spec_l2Empty_s6 F r5 b7) := by
  intro Q Q' s kn kx h
  obtain ⟨c6, out8⟩ := s
  simp only [spec_l2Empty_s6, cond_bindL, none_bindL]
/-- loop 3 of loop.example/g01194/spec.l2Empty -/
def spec_l2Empty_s3 (F : Nat) (b6 : List Int) (Q : Type) : (Int × List (List Int)) → ((Int × List (List Int)) → Option Q) → ((List (List Int)) → Option Q) → Option Q
  | (r5, out7), kn, kx =>
    let z_1 := (spec_l2Empty_l6 F r5 b6 (0 : Int) out7)
    bif (decide (r5 < (4 : Int))) then
    bif ((Nat.beq (List.length out7) (List.length out7)) && (Option.isSome z_1)) then
    kn ((IntKind.wrap .i64 (r5 + (1 : Int))), (Option.getD z_1 default))
    else none
    else kx out7
def spec_l2Empty_l3 (F : Nat) (b6 : List Int) (r5 : Int) (out7 : List (List Int)) : Option (List (List Int)) := loopC (spec_l2Empty_s3 F b6) F (r5, out7) some
theorem spec_l2Empty_s3_nat (F : Nat) (b6 : List Int) : Natural (spec_l2Empty_s3 F b6) := by
  intro Q Q' s kn kx h
  obtain ⟨r5, out7⟩ := s
  simp only [spec_l2Empty_s3, cond_bindL, none_bindL]
/-- loop.example/g01194/spec.l2Empty -/
def spec_l2Empty_c (Q : Type) (F : Nat) (b0 : List Int) (k : (List (List Int)) → Option Q) : Option Q :=
    let z_1 := (spec_l2Empty_l3 F b0 (0 : Int) ([] : List (List Int)))
    bif (Option.isSome z_1) then
    k (Option.getD z_1 default)
    else none
def spec_l2Empty_p (F : Nat) (b0 : List Int) : Option (List (List Int)) := spec_l2Empty_c _ F b0 some
theorem spec_l2Empty_cp (Q : Type) (F : Nat) (b0 : List Int) (k : (List (List Int)) → Option Q) : spec_l2Empty_c Q F b0 k = (spec_l2Empty_p F b0).bind k := by
  simp only [spec_l2Empty_p, spec_l2Empty_c, cond_bindL, none_bindL, some_bindL]

/-- loop 7 of loop.example/g01194/spec.l5Steps -/
def spec_l5Steps_s7 (F : Nat) (d0 : Int) (empty7 : List (List Int)) (Q : Type) : (Int × List (List Int)) → ((Int × List (List Int)) → Option Q) → ((List (List Int)) → Option Q) → Option Q
  | (i5, out6), kn, kx =>
    let z_1 : Bool := (inR i5 (List.length empty7))
    let z_2 : List Int := (splice [d0, (0 : Int), (0 : Int), (0 : Int)] 1 (rget empty7 ((0 : Nat) + (Int.toNat i5))) 2)
    let z_3 : List (List Int) := ((subn (List.length out6) out6 0 (List.length out6)) ++ [(iset z_2 3 (1 : Int)), (iset z_2 3 (2 : Int))])
    bif (decide (i5 < (((List.length empty7) : Nat) : Int))) then
    bif z_1 then
    bif z_1 then
    bif (fits (List.length z_3) 32) then
    kn ((IntKind.wrap .i64 (i5 + (1 : Int))), z_3)
    else none
    else none
    else none
    else kx out6
def spec_l5Steps_l7 (F : Nat) (d0 : Int) (empty7 : List (List Int)) (i5 : Int) (out6 : List (List Int)) : Option (List (List Int)) := loopC (spec_l5Steps_s7 F d0 empty7) F (i5, out6) some
theorem spec_l5Steps_s7_nat (F : Nat) (d0 : Int) (empty7 : List (List Int)) : Natural (spec_l5Steps_s7 F d0 empty7) := by
  intro Q Q' s kn kx h
  obtain ⟨i5, out6⟩ := s
  simp only [spec_l5Steps_s7, cond_bindL, none_bindL]
/-- loop.example/g01194/spec.l5Steps -/
def spec_l5Steps_c (Q : Type) (F : Nat) (b0 : List Int) (d1 : Int) (k : (List (List Int)) → Option Q) : Option Q :=
    let z_1 := (spec_l2Slide_p F b0 d1)
    let z_2 := (spec_l2Empty_p F (Option.getD z_1 default).1)
    let z_3 : Nat := (List.length (Option.getD z_2 default))
    let z_4 := (spec_l5Steps_l7 F d1 (Option.getD z_2 default) (0 : Int) ([] : List (List Int)))
    bif (Option.isSome z_1) then
    bif ((Option.getD z_1 default).1 == b0) then
    k ([] : List (List Int))
    else bif (Option.isSome z_2) then
    bif ((Nat.beq z_3 z_3) && (Option.isSome z_4)) then
    k (Option.getD z_4 default)
    else none
    else none
    else none
def spec_l5Steps_p (F : Nat) (b0 : List Int) (d1 : Int) : Option (List (List Int)) := spec_l5Steps_c _ F b0 d1 some
theorem spec_l5Steps_cp (Q : Type) (F : Nat) (b0 : List Int) (d1 : Int) (k : (List (List Int)) → Option Q) : spec_l5Steps_c Q F b0 d1 k = (spec_l5Steps_p F b0 d1).bind k := by
  simp only [spec_l5Steps_p, spec_l5Steps_c, cond_bindL, none_bindL, some_bindL]

/-- loop.example/g01194/spec.l2Side -/
def spec_l2Side_c (Q : Type) (d0 : Int) (k : (Bool) → Option Q) : Option Q :=
    k (spec_l1In_v d0 (0 : Int) (3 : Int))
def spec_l2Side_v (d0 : Int) : Bool :=
    (spec_l1In_v d0 (0 : Int) (3 : Int))
theorem spec_l2Side_cv (Q : Type) (d0 : Int) (k : (Bool) → Option Q) : spec_l2Side_c Q d0 k = k (spec_l2Side_v d0) := by
  simp only [spec_l2Side_c, spec_l2Side_v, app_condL k]

/-- loop.example/g01194/spec.l2Cell -/
def spec_l2Cell_c (Q : Type) (cell0 : List Int) (k : (Bool) → Option Q) : Option Q :=
    bif (spec_l1In_v (iget cell0 0) (0 : Int) (3 : Int)) then
    k (spec_l1In_v (iget cell0 1) (0 : Int) (3 : Int))
    else k false
def spec_l2Cell_v (cell0 : List Int) : Bool :=
    bif (spec_l1In_v (iget cell0 0) (0 : Int) (3 : Int)) then
    (spec_l1In_v (iget cell0 1) (0 : Int) (3 : Int))
    else false
theorem spec_l2Cell_cv (Q : Type) (cell0 : List Int) (k : (Bool) → Option Q) : spec_l2Cell_c Q cell0 k = k (spec_l2Cell_v cell0) := by
  simp only [spec_l2Cell_c, spec_l2Cell_v, app_condL k]

/-- loop.example/g01194/spec.l5Do -/
def spec_l5Do_c (Q : Type) (F : Nat) (b0 : List Int) (s1 : List Int) (k : (List Int × Int × Bool) → Option Q) : Option Q :=
    let z_1 : List Int := [(0 : Int), (0 : Int), (0 : Int), (0 : Int), (0 : Int), (0 : Int), (0 : Int), (0 : Int), (0 : Int), (0 : Int), (0 : Int), (0 : Int), (0 : Int), (0 : Int), (0 : Int), (0 : Int)]
    let z_2 := (spec_l2Slide_p F b0 (iget s1 0))
    let z_3 := (Option.getD z_2 default)
    let z_4 := (spec_l2At_p z_3.1 (sub s1 1 2))
    let z_5 := (spec_l2Put_p z_3.1 (sub s1 1 2) (iget s1 3))
    bif (!(spec_l2Side_v (iget s1 0))) then
    k (z_1, (0 : Int), false)
    else bif (!(spec_l2Cell_v (sub s1 1 2))) then
    k (z_1, (0 : Int), false)
    else bif (!(spec_l1In_v (iget s1 3) (1 : Int) (2 : Int))) then
    k (z_1, (0 : Int), false)
    else bif (Option.isSome z_2) then
    bif (z_3.1 == b0) then
    k (z_1, (0 : Int), false)
    else bif (Option.isSome z_4) then
    bif (!((Option.getD z_4 default) == (0 : Int))) then
    k (z_1, (0 : Int), false)
    else bif (Option.isSome z_5) then
    k ((Option.getD z_5 default), z_3.2, true)
    else none
    else none
    else none
def spec_l5Do_p (F : Nat) (b0 : List Int) (s1 : List Int) : Option (List Int × Int × Bool) := spec_l5Do_c _ F b0 s1 some
theorem spec_l5Do_cp (Q : Type) (F : Nat) (b0 : List Int) (s1 : List Int) (k : (List Int × Int × Bool) → Option Q) : spec_l5Do_c Q F b0 s1 k = (spec_l5Do_p F b0 s1).bind k := by
  simp only [spec_l5Do_p, spec_l5Do_c, cond_bindL, none_bindL, some_bindL]

/-- loop 3 of loop.example/g01194/spec.l9Boards -/
def spec_l9Boards_s3 (F : Nat) (steps0 : List (List Int)) (b7 : List Int) (Q : Type) : (Int × List (List Int)) → ((Int × List (List Int)) → Option Q) → ((List (List Int)) → Option Q) → Option Q
  | (i6, out8), kn, kx =>
    let z_1 := (spec_l5Do_p F b7 (rget steps0 (Int.toNat i6)))
    let z_2 : List (List Int) := ((subn (List.length out8) out8 0 (List.length out8)) ++ [(Option.getD z_1 default).1])
    bif (decide (i6 < (((List.length steps0) : Nat) : Int))) then
    bif (inR i6 (List.length steps0)) then
    bif (Option.isSome z_1) then
    bif (fits (List.length z_2) 128) then
    kn ((IntKind.wrap .i64 (i6 + (1 : Int))), z_2)
    else none
    else none
    else none
    else kx out8
def spec_l9Boards_l3 (F : Nat) (steps0 : List (List Int)) (b7 : List Int) (i6 : Int) (out8 : List (List Int)) : Option (List (List Int)) := loopC (spec_l9Boards_s3 F steps0 b7) F (i6, out8) some
theorem spec_l9Boards_s3_nat (F : Nat) (steps0 : List (List Int)) (b7 : List Int) : Natural (spec_l9Boards_s3 F steps0 b7) := by
  intro Q Q' s kn kx h
  obtain ⟨i6, out8⟩ := s
  simp only [spec_l9Boards_s3, cond_bindL, none_bindL]
/-- loop.example/g01194/spec.l9Boards -/
def spec_l9Boards_c (Q : Type) (F : Nat) (b0 : List Int) (steps1 : List (List Int)) (k : (List (List Int)) → Option Q) : Option Q :=
    let z_1 := (spec_l9Boards_l3 F steps1 b0 (0 : Int) ([] : List (List Int)))
    bif (Option.isSome z_1) then
    k (Option.getD z_1 default)
    else none
def spec_l9Boards_p (F : Nat) (b0 : List Int) (steps1 : List (List Int)) : Option (List (List Int)) := spec_l9Boards_c _ F b0 steps1 some
theorem spec_l9Boards_cp (Q : Type) (F : Nat) (b0 : List Int) (steps1 : List (List Int)) (k : (List (List Int)) → Option Q) : spec_l9Boards_c Q F b0 steps1 k = (spec_l9Boards_p F b0 steps1).bind k := by
  simp only [spec_l9Boards_p, spec_l9Boards_c, cond_bindL, none_bindL, some_bindL]

/-- loop.example/g01194/spec.l9Weight -/
def spec_l9Weight_c (Q : Type) (s0 : List Int) (k : (Int) → Option Q) : Option Q :=
    bif ((iget s0 3) == (1 : Int)) then
    k (9 : Int)
    else k (1 : Int)
def spec_l9Weight_v (s0 : List Int) : Int :=
    bif ((iget s0 3) == (1 : Int)) then
    (9 : Int)
    else (1 : Int)
theorem spec_l9Weight_cv (Q : Type) (s0 : List Int) (k : (Int) → Option Q) : spec_l9Weight_c Q s0 k = k (spec_l9Weight_v s0) := by
  simp only [spec_l9Weight_c, spec_l9Weight_v, app_condL k]

/-- loop.example/g01194/spec.l1Most -/
def spec_l1Most_c (Q : Type) (a0 : Int) (b1 : Int) (k : (Int) → Option Q) : Option Q :=
    bif (decide (b1 < a0)) then
    k a0
    else k b1
def spec_l1Most_v (a0 : Int) (b1 : Int) : Int :=
    bif (decide (b1 < a0)) then
    a0
    else b1
theorem spec_l1Most_cv (Q : Type) (a0 : Int) (b1 : Int) (k : (Int) → Option Q) : spec_l1Most_c Q a0 b1 k = k (spec_l1Most_v a0 b1) := by
  simp only [spec_l1Most_c, spec_l1Most_v, app_condL k]

/-- loop 2 of loop.example/g01194/spec.l9Cut -/
def spec_l9Cut_s2 (F : Nat) (a0 : Int) (b1 : Int) (Q : Type) : (Int × Int) → ((Int × Int) → Option Q) → ((Int) → Option Q) → Option Q
  | (x5, y6), kn, kx =>
    bif (decide ((0 : Int) < y6)) then
    bif (y6 == (0 : Int)) then
    none
    else kn (y6, (Int.tmod x5 y6))
    else kx x5
def spec_l9Cut_l2 (F : Nat) (a0 : Int) (b1 : Int) (x5 : Int) (y6 : Int) : Option (Int) := loopC (spec_l9Cut_s2 F a0 b1) F (x5, y6) some
theorem spec_l9Cut_s2_nat (F : Nat) (a0 : Int) (b1 : Int) : Natural (spec_l9Cut_s2 F a0 b1) := by
  intro Q Q' s kn kx h
  obtain ⟨x5, y6⟩ := s
  simp only [spec_l9Cut_s2, cond_bindL, none_bindL]
/-- loop.example/g01194/spec.l9Cut -/
def spec_l9Cut_c (Q : Type) (F : Nat) (a0 : Int) (b1 : Int) (k : (List Int) → Option Q) : Option Q :=
    let z_1 := (spec_l9Cut_l2 F a0 b1 a0 b1)
    let z_2 : Bool := ((spec_l1Most_v (Option.getD z_1 default) (1 : Int)) == (0 : Int))
    bif (Option.isSome z_1) then
    bif z_2 then
    none
    else bif z_2 then
    none
    else k [(IntKind.wrap .i64 (Int.tdiv a0 (spec_l1Most_v (Option.getD z_1 default) (1 : Int)))), (IntKind.wrap .i64 (Int.tdiv b1 (spec_l1Most_v (Option.getD z_1 default) (1 : Int))))]
    else none
def spec_l9Cut_p (F : Nat) (a0 : Int) (b1 : Int) : Option (List Int) := spec_l9Cut_c _ F a0 b1 some
theorem spec_l9Cut_cp (Q : Type) (F : Nat) (a0 : Int) (b1 : Int) (k : (List Int) → Option Q) : spec_l9Cut_c Q F a0 b1 k = (spec_l9Cut_p F a0 b1).bind k := by
  simp only [spec_l9Cut_p, spec_l9Cut_c, cond_bindL, none_bindL, some_bindL]

/-- loop.example/g01194/spec.l9Part -/
def spec_l9Part_c (Q : Type) (F : Nat) (f0 : List Int) (weight1 : Int) (all2 : Int) (k : (List Int) → Option Q) : Option Q :=
    let z_1 := (spec_l9Cut_p F (IntKind.wrap .i64 ((iget f0 0) * weight1)) (IntKind.wrap .i64 ((iget f0 1) * all2)))
    bif (Option.isSome z_1) then
    k (Option.getD z_1 default)
    else none
def spec_l9Part_p (F : Nat) (f0 : List Int) (weight1 : Int) (all2 : Int) : Option (List Int) := spec_l9Part_c _ F f0 weight1 all2 some
theorem spec_l9Part_cp (Q : Type) (F : Nat) (f0 : List Int) (weight1 : Int) (all2 : Int) (k : (List Int) → Option Q) : spec_l9Part_c Q F f0 weight1 all2 k = (spec_l9Part_p F f0 weight1 all2).bind k := by
  simp only [spec_l9Part_p, spec_l9Part_c, cond_bindL, none_bindL, some_bindL]

/-- loop.example/g01194/spec.l9Plus -/
def spec_l9Plus_c (Q : Type) (F : Nat) (a0 : List Int) (b1 : List Int) (k : (List Int) → Option Q) : Option Q :=
    let z_1 := (spec_l9Cut_p F (IntKind.wrap .i64 ((IntKind.wrap .i64 ((iget a0 0) * (iget b1 1))) + (IntKind.wrap .i64 ((iget b1 0) * (iget a0 1))))) (IntKind.wrap .i64 ((iget a0 1) * (iget b1 1))))
    bif (Option.isSome z_1) then
    k (Option.getD z_1 default)
    else none
def spec_l9Plus_p (F : Nat) (a0 : List Int) (b1 : List Int) : Option (List Int) := spec_l9Plus_c _ F a0 b1 some
theorem spec_l9Plus_cp (Q : Type) (F : Nat) (a0 : List Int) (b1 : List Int) (k : (List Int) → Option Q) : spec_l9Plus_c Q F a0 b1 k = (spec_l9Plus_p F a0 b1).bind k := by
  simp only [spec_l9Plus_p, spec_l9Plus_c, cond_bindL, none_bindL, some_bindL]

/-- loop 11 of loop.example/g01194/spec.l9Score -/
def spec_l9Score_n2_s11 (F : Nat) (i12 : Int) (b21 : List Int) (best23 : List Int) (moves24 : List Int) (steps26 : List (List Int)) (all27 : List (List Int)) (Q : Type) : (Int × List Int) → ((Int × List Int) → Option Q) → ((List Int) → Option Q) → Option Q
  | (k20, mean25), kn, kx =>
    let z_1 := (spec_l9Score_n1_p F (rget all27 ((0 : Nat) + (Int.toNat k20))))
    let z_2 := (spec_l9Part_p F (Option.getD z_1 default) (spec_l9Weight_v (rget steps26 ((0 : Nat) + (Int.toNat k20)))) (IntKind.wrap .i64 ((5 : Int) * (((List.length steps26) : Nat) : Int))))
    let z_3 := (spec_l9Plus_p F mean25 (Option.getD z_2 default))
    bif (decide (k20 < (((List.length all27) : Nat) : Int))) then
    bif (inR k20 (List.length all27)) then
    bif (Option.isSome z_1) then
    bif (inR k20 (List.length steps26)) then
    bif (Option.isSome z_2) then
    bif (Option.isSome z_3) then
    kn ((IntKind.wrap .i64 (k20 + (1 : Int))), (Option.getD z_3 default))
    else none
    else none
    else none
    else none
    else none
    else kx mean25
def spec_l9Score_n2_l11 (F : Nat) (i12 : Int) (b21 : List Int) (best23 : List Int) (moves24 : List Int) (steps26 : List (List Int)) (all27 : List (List Int)) (k20 : Int) (mean25 : List Int) : Option (List Int) := loopC (spec_l9Score_n2_s11 F i12 b21 best23 moves24 steps26 all27) F (k20, mean25) some
theorem spec_l9Score_n2_s11_nat (F : Nat) (i12 : Int) (b21 : List Int) (best23 : List Int) (moves24 : List Int) (steps26 : List (List Int)) (all27 : List (List Int)) : Natural (spec_l9Score_n2_s11 F i12 b21 best23 moves24 steps26 all27) := by
  intro Q Q' s kn kx h
  obtain ⟨k20, mean25⟩ := s
  simp only [spec_l9Score_n2_s11, cond_bindL, none_bindL]
/-- loop 3 of loop.example/g01194/spec.l9Score -/
def spec_l9Score_n2_s3 (F : Nat) (b13 : List Int) (moves16 : List Int) (Q : Type) : (Int × List Int) → ((Int × List Int) → Option Q) → ((List Int) → Option Q) → Option Q
  | (i12, best15), kn, kx =>
    let z_1 : Bool := (inR i12 (List.length moves16))
    let z_2 : Int := (iget moves16 ((0 : Nat) + (Int.toNat i12)))
    let z_3 := (spec_l2Slide_p F b13 z_2)
    let z_4 := (spec_l5Steps_p F b13 z_2)
    let z_5 : Nat := (List.length (Option.getD z_4 default))
    let z_6 := (spec_l9Boards_p F b13 (subn z_5 (Option.getD z_4 default) 0 z_5))
    let z_7 : Nat := (List.length (Option.getD z_6 default))
    let z_8 := (spec_l9Score_n2_l11 F i12 b13 best15 moves16 (Option.getD z_4 default) (Option.getD z_6 default) (0 : Int) [(Option.getD z_3 default).2, (1 : Int)])
    let z_9 : Int := (IntKind.wrap .i64 (i12 + (1 : Int)))
    bif (decide (i12 < (((List.length moves16) : Nat) : Int))) then
    bif z_1 then
    bif (Option.isSome z_3) then
    bif z_1 then
    bif (Option.isSome z_4) then
    bif (Option.isSome z_6) then
    bif ((Nat.beq (List.length moves16) (List.length moves16)) && ((Nat.beq z_5 z_5) && ((Nat.beq z_7 z_7) && (Option.isSome z_8)))) then
    bif (spec_l9Less_v best15 (Option.getD z_8 default)) then
    kn (z_9, (Option.getD z_8 default))
    else kn (z_9, best15)
    else none
    else none
    else none
    else none
    else none
    else none
    else kx best15
def spec_l9Score_n2_l3 (F : Nat) (b13 : List Int) (moves16 : List Int) (i12 : Int) (best15 : List Int) : Option (List Int) := loopC (spec_l9Score_n2_s3 F b13 moves16) F (i12, best15) some
theorem spec_l9Score_n2_s3_nat (F : Nat) (b13 : List Int) (moves16 : List Int) : Natural (spec_l9Score_n2_s3 F b13 moves16) := by
  intro Q Q' s kn kx h
  obtain ⟨i12, best15⟩ := s
  simp only [spec_l9Score_n2_s3, cond_bindL, none_bindL]
/-- loop.example/g01194/spec.l9Score -/
def spec_l9Score_n2_c (Q : Type) (F : Nat) (b0 : List Int) (k : (List Int) → Option Q) : Option Q :=
    let z_1 := (spec_l2Moves_p F b0)
    let z_2 : Nat := (List.length (Option.getD z_1 default))
    let z_3 := (spec_l9Score_n2_l3 F b0 (Option.getD z_1 default) (0 : Int) [(0 : Int), (1 : Int)])
    bif (Option.isSome z_1) then
    bif ((Nat.beq z_2 z_2) && (Option.isSome z_3)) then
    k (Option.getD z_3 default)
    else none
    else none
def spec_l9Score_n2_p (F : Nat) (b0 : List Int) : Option (List Int) := spec_l9Score_n2_c _ F b0 some
theorem spec_l9Score_n2_cp (Q : Type) (F : Nat) (b0 : List Int) (k : (List Int) → Option Q) : spec_l9Score_n2_c Q F b0 k = (spec_l9Score_n2_p F b0).bind k := by
  simp only [spec_l9Score_n2_p, spec_l9Score_n2_c, cond_bindL, none_bindL, some_bindL]

/-- loop.example/g01194/spec.l9Score -/
def spec_l9Score_c (Q : Type) (F : Nat) (b0 : List Int) (n1 : Int) (k : (List Int) → Option Q) : Option Q :=
    let z_1 := (spec_l9Score_n1_p F b0)
    let z_2 := (spec_l9Score_n2_p F b0)
    bif (n1 == (0 : Int)) then
    bif (Option.isSome (spec_l9Score_n0_p F b0)) then
    k [(0 : Int), (1 : Int)]
    else none
    else bif (n1 == (1 : Int)) then
    bif (Option.isSome z_1) then
    k (Option.getD z_1 default)
    else none
    else bif (n1 == (2 : Int)) then
    bif (Option.isSome z_2) then
    k (Option.getD z_2 default)
    else none
    else none
def spec_l9Score_p (F : Nat) (b0 : List Int) (n1 : Int) : Option (List Int) := spec_l9Score_c _ F b0 n1 some
theorem spec_l9Score_cp (Q : Type) (F : Nat) (b0 : List Int) (n1 : Int) (k : (List Int) → Option Q) : spec_l9Score_c Q F b0 n1 k = (spec_l9Score_p F b0 n1).bind k := by
  simp only [spec_l9Score_p, spec_l9Score_c, cond_bindL, none_bindL, some_bindL]

/-- loop.example/g01194/spec.MeanScore -/
def spec_MeanScore_c (Q : Type) (F : Nat) (b0 : List Int) (n1 : Int) (k : (List Int × Bool) → Option Q) : Option Q :=
    let z_1 := (spec_l2Board_p F b0)
    let z_2 := (spec_l9Score_p F b0 n1)
    bif (Option.isSome z_1) then
    bif (!(Option.getD z_1 default)) then
    k ([(0 : Int), (0 : Int)], false)
    else bif (!(spec_l1In_v n1 (0 : Int) (2 : Int))) then
    k ([(0 : Int), (0 : Int)], false)
    else bif (Option.isSome z_2) then
    k ((Option.getD z_2 default), true)
    else none
    else none
def spec_MeanScore_p (F : Nat) (b0 : List Int) (n1 : Int) : Option (List Int × Bool) := spec_MeanScore_c _ F b0 n1 some
theorem spec_MeanScore_cp (Q : Type) (F : Nat) (b0 : List Int) (n1 : Int) (k : (List Int × Bool) → Option Q) : spec_MeanScore_c Q F b0 n1 k = (spec_MeanScore_p F b0 n1).bind k := by
  simp only [spec_MeanScore_p, spec_MeanScore_c, cond_bindL, none_bindL, some_bindL]

/-- loop.example/g01194/impl.in -/
def impl_in_c (Q : Type) (n0 : Int) (low1 : Int) (high2 : Int) (k : (Bool) → Option Q) : Option Q :=
    bif (decide (low1 ≤ n0)) then
    k (decide (n0 ≤ high2))
    else k false
def impl_in_v (n0 : Int) (low1 : Int) (high2 : Int) : Bool :=
    bif (decide (low1 ≤ n0)) then
    (decide (n0 ≤ high2))
    else false
theorem impl_in_cv (Q : Type) (n0 : Int) (low1 : Int) (high2 : Int) (k : (Bool) → Option Q) : impl_in_c Q n0 low1 high2 k = k (impl_in_v n0 low1 high2) := by
  simp only [impl_in_c, impl_in_v, app_condL k]

/-- loop.example/g01194/impl.IsRow$1 -/
def impl_IsRow_f1_c (Q : Type) (n0 : Int) (k : (Bool) → Option Q) : Option Q :=
    k (!(impl_in_v n0 (0 : Int) (17 : Int)))
def impl_IsRow_f1_v (n0 : Int) : Bool :=
    (!(impl_in_v n0 (0 : Int) (17 : Int)))
theorem impl_IsRow_f1_cv (Q : Type) (n0 : Int) (k : (Bool) → Option Q) : impl_IsRow_f1_c Q n0 k = k (impl_IsRow_f1_v n0) := by
  simp only [impl_IsRow_f1_c, impl_IsRow_f1_v, app_condL k]

/-- loop 2 of slices.IndexFunc[[]int,int] -/
def slices_IndexFunc_intint_impl_IsRow_f1_s2 (F : Nat) (s0 : List Int) (t71 : Int) (Q : Type) : (Int) → ((Int) → Option Q) → ((Bool × Int) → Option Q) → Option Q
  | t82, kn, kx =>
    bif (decide (t82 < t71)) then
    bif (inR t82 (List.length s0)) then
    bif (impl_IsRow_f1_v (iget s0 (Int.toNat t82))) then
    kx (true, t82)
    else kn (IntKind.wrap .i64 (t82 + (1 : Int)))
    else none
    else kx (false, default)
def slices_IndexFunc_intint_impl_IsRow_f1_l2 (F : Nat) (s0 : List Int) (t71 : Int) (t82 : Int) : Option (Bool × Int) := loopC (slices_IndexFunc_intint_impl_IsRow_f1_s2 F s0 t71) F t82 some
theorem slices_IndexFunc_intint_impl_IsRow_f1_s2_nat (F : Nat) (s0 : List Int) (t71 : Int) : Natural (slices_IndexFunc_intint_impl_IsRow_f1_s2 F s0 t71) := by
  intro Q Q' s kn kx h
  simp only [slices_IndexFunc_intint_impl_IsRow_f1_s2, cond_bindL, none_bindL]
/-- slices.IndexFunc[[]int,int] -/
def slices_IndexFunc_intint_impl_IsRow_f1_c (Q : Type) (F : Nat) (s0 : List Int) (k : (Int) → Option Q) : Option Q :=
    let z_1 := (slices_IndexFunc_intint_impl_IsRow_f1_l2 F s0 (((List.length s0) : Nat) : Int) (0 : Int))
    let z_2 := (Option.getD z_1 default)
    bif (Option.isSome z_1) then
    bif z_2.1 then
    k z_2.2
    else k (-1 : Int)
    else none
def slices_IndexFunc_intint_impl_IsRow_f1_p (F : Nat) (s0 : List Int) : Option (Int) := slices_IndexFunc_intint_impl_IsRow_f1_c _ F s0 some
theorem slices_IndexFunc_intint_impl_IsRow_f1_cp (Q : Type) (F : Nat) (s0 : List Int) (k : (Int) → Option Q) : slices_IndexFunc_intint_impl_IsRow_f1_c Q F s0 k = (slices_IndexFunc_intint_impl_IsRow_f1_p F s0).bind k := by
  simp only [slices_IndexFunc_intint_impl_IsRow_f1_p, slices_IndexFunc_intint_impl_IsRow_f1_c, cond_bindL, none_bindL, some_bindL]
end Go.Lv.P
