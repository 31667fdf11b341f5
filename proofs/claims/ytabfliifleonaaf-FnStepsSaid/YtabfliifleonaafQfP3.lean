/-
Pure functions and what the code of them does, by program; without conditions.
-/
import Derived.Test.YtabfliifleonaafQfP2
namespace Go.Lv.P
open Go Go.Lv
set_option linter.unusedVariables false
set_option linter.unusedSimpArgs false
set_option maxRecDepth 100000
/-- loop 3 of loop.example/g01194/spec.l2Row -/
def spec_l2Row_s3 (F : Nat) (row13 : List Int) (Q : Type) : (Int × Int × Bool × Int × List Int) → ((Int × Int × Bool × Int × List Int) → Option Q) → ((Int × List Int) → Option Q) → Option Q
  | (n9, score10, merged11, k12, out15), kn, kx =>
    let z_1 : Int := (iget row13 ((0 : Nat) + ((Int.toNat k12) * (1 : Nat))))
    let z_2 : Int := (IntKind.wrap .i64 (k12 + (1 : Int)))
    let z_3 : Int := (IntKind.wrap .i64 (n9 - (1 : Int)))
    let z_4 : Bool := (inR z_3 4)
    let z_5 : Nat := ((0 : Nat) + ((Int.toNat z_3) * (1 : Nat)))
    let z_6 : Int := (IntKind.wrap .i64 (z_1 + (1 : Int)))
    let z_7 : Int := (IntKind.wrap .i64 (n9 + (1 : Int)))
    let z_8 : List Int := (iset out15 ((0 : Nat) + ((Int.toNat n9) * (1 : Nat))) z_1)
    bif (decide (k12 < (4 : Int))) then
    bif (inR k12 4) then
    bif (z_1 == (0 : Int)) then
    kn (n9, score10, merged11, z_2, out15)
    else bif (decide ((0 : Int) < n9)) then
    bif z_4 then
    bif (inR k12 4) then
    bif ((iget out15 z_5) == z_1) then
    bif (inR k12 4) then
    bif (decide (z_1 < (17 : Int))) then
    bif (!merged11) then
    bif (inR k12 4) then
    bif z_4 then
    bif (inR k12 4) then
    bif (Option.isSome (spec_l2Worth_p z_6)) then
    kn (n9, (IntKind.wrap .i64 (score10 + (Option.getD (spec_l2Worth_p z_6) default))), true, z_2, (iset out15 z_5 z_6))
    else none
    else none
    else none
    else none
    else bif (inR k12 4) then
    bif (inR n9 4) then
    kn (z_7, score10, false, z_2, z_8)
    else none
    else none
    else bif (inR k12 4) then
    bif (inR n9 4) then
    kn (z_7, score10, false, z_2, z_8)
    else none
    else none
    else none
    else bif (inR k12 4) then
    bif (inR n9 4) then
    kn (z_7, score10, false, z_2, z_8)
    else none
    else none
    else none
    else none
    else bif (inR k12 4) then
    bif (inR n9 4) then
    kn (z_7, score10, false, z_2, z_8)
    else none
    else none
    else none
    else kx (score10, out15)
def spec_l2Row_l3 (F : Nat) (row13 : List Int) (n9 : Int) (score10 : Int) (merged11 : Bool) (k12 : Int) (out15 : List Int) : Option (Int × List Int) := loopC (spec_l2Row_s3 F row13) F (n9, score10, merged11, k12, out15) some
theorem spec_l2Row_s3_nat (F : Nat) (row13 : List Int) : Natural (spec_l2Row_s3 F row13) := by
  intro Q Q' s kn kx h
  obtain ⟨n9, score10, merged11, k12, out15⟩ := s
  simp only [spec_l2Row_s3, cond_bindL, none_bindL]
/-- loop.example/g01194/spec.l2Row -/
def spec_l2Row_c (Q : Type) (F : Nat) (row0 : List Int) (k : (List Int × Int) → Option Q) : Option Q :=
    let z_1 := (spec_l2Row_l3 F row0 (0 : Int) (0 : Int) false (0 : Int) [(0 : Int), (0 : Int), (0 : Int), (0 : Int)])
    let z_2 := (Option.getD z_1 default)
    bif (Option.isSome z_1) then
    k (z_2.2, z_2.1)
    else none
def spec_l2Row_p (F : Nat) (row0 : List Int) : Option (List Int × Int) := spec_l2Row_c _ F row0 some
theorem spec_l2Row_cp (Q : Type) (F : Nat) (row0 : List Int) (k : (List Int × Int) → Option Q) : spec_l2Row_c Q F row0 k = (spec_l2Row_p F row0).bind k := by
  simp only [spec_l2Row_p, spec_l2Row_c, cond_bindL, none_bindL, some_bindL]

/-- loop 3 of loop.example/g01194/spec.l2Slide -/
def spec_l2Slide_s3 (F : Nat) (d0 : Int) (b12 : List Int) (Q : Type) : (Int × Int × List Int) → ((Int × Int × List Int) → Option Q) → ((Int × List Int) → Option Q) → Option Q
  | (sum10, i11, out14), kn, kx =>
    let z_1 := (spec_l2Numbers_p F b12 d0 i11)
    let z_2 := (spec_l2Row_p F (Option.getD z_1 default))
    let z_3 := (spec_l2Line_p F d0 i11)
    let z_4 := (Option.getD z_2 default)
    let z_5 := (spec_l2Put_p out14 (sub (Option.getD z_3 default) 0 2) (iget z_4.1 0))
    let z_6 := (spec_l2Put_p (Option.getD z_5 default) (sub (Option.getD z_3 default) 2 2) (iget z_4.1 1))
    let z_7 := (spec_l2Put_p (Option.getD z_6 default) (sub (Option.getD z_3 default) 4 2) (iget z_4.1 2))
    let z_8 := (spec_l2Put_p (Option.getD z_7 default) (sub (Option.getD z_3 default) 6 2) (iget z_4.1 3))
    bif (decide (i11 < (4 : Int))) then
    bif (Option.isSome z_1) then
    bif (Option.isSome z_2) then
    bif (Option.isSome z_3) then
    bif (Option.isSome z_5) then
    bif (Option.isSome z_6) then
    bif (Option.isSome z_7) then
    bif (Option.isSome z_8) then
    kn ((IntKind.wrap .i64 (sum10 + z_4.2)), (IntKind.wrap .i64 (i11 + (1 : Int))), (Option.getD z_8 default))
    else none
    else none
    else none
    else none
    else none
    else none
    else none
    else kx (sum10, out14)
def spec_l2Slide_l3 (F : Nat) (d0 : Int) (b12 : List Int) (sum10 : Int) (i11 : Int) (out14 : List Int) : Option (Int × List Int) := loopC (spec_l2Slide_s3 F d0 b12) F (sum10, i11, out14) some
theorem spec_l2Slide_s3_nat (F : Nat) (d0 : Int) (b12 : List Int) : Natural (spec_l2Slide_s3 F d0 b12) := by
  intro Q Q' s kn kx h
  obtain ⟨sum10, i11, out14⟩ := s
  simp only [spec_l2Slide_s3, cond_bindL, none_bindL]
/-- loop.example/g01194/spec.l2Slide -/
def spec_l2Slide_c (Q : Type) (F : Nat) (b0 : List Int) (d1 : Int) (k : (List Int × Int) → Option Q) : Option Q :=
    let z_1 := (spec_l2Slide_l3 F d1 b0 (0 : Int) (0 : Int) b0)
    let z_2 := (Option.getD z_1 default)
    bif (Option.isSome z_1) then
    k (z_2.2, z_2.1)
    else none
def spec_l2Slide_p (F : Nat) (b0 : List Int) (d1 : Int) : Option (List Int × Int) := spec_l2Slide_c _ F b0 d1 some
theorem spec_l2Slide_cp (Q : Type) (F : Nat) (b0 : List Int) (d1 : Int) (k : (List Int × Int) → Option Q) : spec_l2Slide_c Q F b0 d1 k = (spec_l2Slide_p F b0 d1).bind k := by
  simp only [spec_l2Slide_p, spec_l2Slide_c, cond_bindL, none_bindL, some_bindL]

/-- loop 6 of loop.example/g01194/spec.l2Empty -/
def spec_l2Empty_s6 (F : Nat) (r5 : Int) (b7 : List Int) (Q : Type) : (Int × List (List Int)) → ((Int × List (List Int)) → Option Q) → ((List (List Int)) → Option Q) → Option Q
  | (c6, out8), kn, kx =>
    let z_1 : List (List Int) := ((subn (List.length out8) out8 0 (List.length out8)) ++ [[r5, c6]])
    let z_2 : Int := (IntKind.wrap .i64 (c6 + (1 : Int)))
    bif (decide (c6 < (4 : Int))) then
    bif (inR r5 4) then
    bif (inR c6 4) then
    bif ((iget b7 (((0 : Nat) + ((Int.toNat r5) * (4 : Nat))) + ((Int.toNat c6) * (1 : Nat)))) == (0 : Int)) then
    bif (fits (List.length z_1) 16) then
    kn (z_2, z_1)
    else none
    else kn (z_2, out8)
    else none
    else none
    else kx out8
def spec_l2Empty_l6 (F : Nat) (r5 : Int) (b7 : List Int) (c6 : Int) (out8 : List (List Int)) : Option (List (List Int)) := loopC (spec_l2Empty_s6 F r5 b7) F (c6, out8) some
theorem spec_l2Empty_s6_nat (F : Nat) (r5 : Int) (b7 : List Int) : Natural (spec_l2Empty_s6 F r5 b7) := by
  intro Q Q' s kn kx h
  obtain ⟨c6, out8⟩ := s
  simp only [spec_l2Empty_s6, cond_bindL, none_bindL]
/-- loop 3 of loop.example/g01194/spec.l2Empty -/
def spec_l2Empty_s3 (F : Nat) (b6 : List Int) (Q : Type) : (Int × List (List Int)) → ((Int × List (List Int)) → Option Q) → ((List (List Int)) → Option Q) → Option Q
  | (r5, out7), kn, kx =>
    let z_1 := (spec_l2Empty_l6 F r5 b6 (0 : Int) out7)
    bif (decide (r5 < (4 : Int))) then
    bif ((Nat.beq (List.length out7) (List.length out7)) && (Option.isSome z_1)) then
    kn ((IntKind.wrap .i64 (r5 + (1 : Int))), (Option.getD z_1 default))
    else none
    else kx out7
def spec_l2Empty_l3 (F : Nat) (b6 : List Int) (r5 : Int) (out7 : List (List Int)) : Option (List (List Int)) := loopC (spec_l2Empty_s3 F b6) F (r5, out7) some
theorem spec_l2Empty_s3_nat (F : Nat) (b6 : List Int) : Natural (spec_l2Empty_s3 F b6) := by
  intro Q Q' s kn kx h
  obtain ⟨r5, out7⟩ := s
  simp only [spec_l2Empty_s3, cond_bindL, none_bindL]
/-- loop.example/g01194/spec.l2Empty -/
def spec_l2Empty_c (Q : Type) (F : Nat) (b0 : List Int) (k : (List (List Int)) → Option Q) : Option Q :=
    let z_1 := (spec_l2Empty_l3 F b0 (0 : Int) ([] : List (List Int)))
    bif (Option.isSome z_1) then
    k (Option.getD z_1 default)
    else none
def spec_l2Empty_p (F : Nat) (b0 : List Int) : Option (List (List Int)) := spec_l2Empty_c _ F b0 some
theorem spec_l2Empty_cp (Q : Type) (F : Nat) (b0 : List Int) (k : (List (List Int)) → Option Q) : spec_l2Empty_c Q F b0 k = (spec_l2Empty_p F b0).bind k := by
  simp only [spec_l2Empty_p, spec_l2Empty_c, cond_bindL, none_bindL, some_bindL]

/-- loop 7 of loop.example/g01194/spec.l5Steps -/
def spec_l5Steps_s7 (F : Nat) (d0 : Int) (empty7 : List (List Int)) (Q : Type) : (Int × List (List Int)) → ((Int × List (List Int)) → Option Q) → ((List (List Int)) → Option Q) → Option Q
  | (i5, out6), kn, kx =>
    let z_1 : Bool := (inR i5 (List.length empty7))
    let z_2 : List Int := (splice [d0, (0 : Int), (0 : Int), (0 : Int)] 1 (rget empty7 ((0 : Nat) + (Int.toNat i5))) 2)
    let z_3 : List (List Int) := ((subn (List.length out6) out6 0 (List.length out6)) ++ [(iset z_2 3 (1 : Int)), (iset z_2 3 (2 : Int))])
    bif (decide (i5 < (((List.length empty7) : Nat) : Int))) then
    bif z_1 then
    bif z_1 then
    bif (fits (List.length z_3) 32) then
    kn ((IntKind.wrap .i64 (i5 + (1 : Int))), z_3)
    else none
    else none
    else none
    else kx out6
def spec_l5Steps_l7 (F : Nat) (d0 : Int) (empty7 : List (List Int)) (i5 : Int) (out6 : List (List Int)) : Option (List (List Int)) := loopC (spec_l5Steps_s7 F d0 empty7) F (i5, out6) some
theorem spec_l5Steps_s7_nat (F : Nat) (d0 : Int) (empty7 : List (List Int)) : Natural (spec_l5Steps_s7 F d0 empty7) := by
  intro Q Q' s kn kx h
  obtain ⟨i5, out6⟩ := s
  simp only [spec_l5Steps_s7, cond_bindL, none_bindL]
/-- loop.example/g01194/spec.l5Steps -/
def spec_l5Steps_c (Q : Type) (F : Nat) (b0 : List Int) (d1 : Int) (k : (List (List Int)) → Option Q) : Option Q :=
    let z_1 := (spec_l2Slide_p F b0 d1)
    let z_2 := (spec_l2Empty_p F (Option.getD z_1 default).1)
    let z_3 : Nat := (List.length (Option.getD z_2 default))
    let z_4 := (spec_l5Steps_l7 F d1 (Option.getD z_2 default) (0 : Int) ([] : List (List Int)))
    bif (Option.isSome z_1) then
    bif ((Option.getD z_1 default).1 == b0) then
    k ([] : List (List Int))
    else bif (Option.isSome z_2) then
    bif ((Nat.beq z_3 z_3) && (Option.isSome z_4)) then
    k (Option.getD z_4 default)
    else none
    else none
    else none
def spec_l5Steps_p (F : Nat) (b0 : List Int) (d1 : Int) : Option (List (List Int)) := spec_l5Steps_c _ F b0 d1 some
theorem spec_l5Steps_cp (Q : Type) (F : Nat) (b0 : List Int) (d1 : Int) (k : (List (List Int)) → Option Q) : spec_l5Steps_c Q F b0 d1 k = (spec_l5Steps_p F b0 d1).bind k := by
  simp only [spec_l5Steps_p, spec_l5Steps_c, cond_bindL, none_bindL, some_bindL]

/-- loop.example/g01194/spec.StepsOf -/
def spec_StepsOf_c (Q : Type) (F : Nat) (b0 : List Int) (direction1 : Int) (k : (Bool × List (List Int)) → Option Q) : Option Q :=
    let z_1 := (spec_l2Board_p F b0)
    let z_2 := (spec_l5Steps_p F b0 direction1)
    bif (Option.isSome z_1) then
    bif (!(Option.getD z_1 default)) then
    k (false, ([] : List (List Int)))
    else bif (!(spec_l2Side_v direction1)) then
    k (false, ([] : List (List Int)))
    else bif (Option.isSome z_2) then
    k (true, (Option.getD z_2 default))
    else none
    else none
def spec_StepsOf_p (F : Nat) (b0 : List Int) (direction1 : Int) : Option (Bool × List (List Int)) := spec_StepsOf_c _ F b0 direction1 some
theorem spec_StepsOf_cp (Q : Type) (F : Nat) (b0 : List Int) (direction1 : Int) (k : (Bool × List (List Int)) → Option Q) : spec_StepsOf_c Q F b0 direction1 k = (spec_StepsOf_p F b0 direction1).bind k := by
  simp only [spec_StepsOf_p, spec_StepsOf_c, cond_bindL, none_bindL, some_bindL]

/-- loop.example/g01194/laws.vCut -/
def laws_vCut_c (Q : Type) (code0 : List Int) (n1 : Int) (k : (List Int) → Option Q) : Option Q :=
    let z_1 : List Int := (subn (List.length code0) code0 (List.length code0) ((List.length code0) - (List.length code0)))
    let z_2 : Nat := (List.length z_1)
    let z_3 : List Int := ((subn z_2 z_1 0 z_2) ++ [(IntKind.wrap .u8 (((List.length code0) : Nat) : Int))])
    let z_4 : List Int := (subn (List.length code0) code0 (Int.toNat n1) ((List.length code0) - (Int.toNat n1)))
    let z_5 : Nat := (List.length z_4)
    let z_6 : List Int := ((subn z_5 z_4 0 z_5) ++ [(IntKind.wrap .u8 n1)])
    bif (decide ((((List.length code0) : Nat) : Int) < n1)) then
    bif (inLe (((List.length code0) : Nat) : Int) (List.length code0)) then
    bif (fits z_2 1) then
    bif (fits (List.length z_3) 1) then
    k z_3
    else none
    else none
    else none
    else bif (inLe n1 (List.length code0)) then
    bif (fits z_5 1) then
    bif (fits (List.length z_6) 1) then
    k z_6
    else none
    else none
    else none
def laws_vCut_p (code0 : List Int) (n1 : Int) : Option (List Int) := laws_vCut_c _ code0 n1 some
theorem laws_vCut_cp (Q : Type) (code0 : List Int) (n1 : Int) (k : (List Int) → Option Q) : laws_vCut_c Q code0 n1 k = (laws_vCut_p code0 n1).bind k := by
  simp only [laws_vCut_p, laws_vCut_c, cond_bindL, none_bindL, some_bindL]

/-- (*loop.example/g01194/spec.l1Cur).cell -/
def spec_l1Cur_cell_c (Q : Type) (c3 : List Int) (c4 : Int) (c5 : Int) (k : (List Int × Int × Int) → Option Q) : Option Q :=
    let z_1 := (spec_l1Cur_one_p (40 : Int) c3 c4 c5)
    let z_2 := (Option.getD z_1 default)
    let z_3 := (spec_l1Cur_among_p [(-1 : Int), (4 : Int), (0 : Int)] c3 z_2.2.1 z_2.2.2)
    let z_4 := (Option.getD z_3 default)
    let z_5 := (spec_l1Cur_among_p [(4 : Int), (-1 : Int), (4611686018427387904 : Int)] c3 z_4.2.1 z_4.2.2)
    let z_6 := (Option.getD z_5 default)
    let z_7 := (spec_l1Cur_pick_p (4 : Int) c3 z_2.2.1 z_2.2.2)
    let z_8 := (Option.getD z_7 default)
    let z_9 := (spec_l1Cur_pick_p (4 : Int) c3 z_8.2.1 z_8.2.2)
    let z_10 := (Option.getD z_9 default)
    bif (Option.isSome z_1) then
    bif z_2.1 then
    bif (Option.isSome z_3) then
    bif (Option.isSome z_5) then
    k ([z_4.1, z_6.1], z_6.2.1, z_6.2.2)
    else none
    else none
    else bif (Option.isSome z_7) then
    bif (Option.isSome z_9) then
    k ([z_8.1, z_10.1], z_10.2.1, z_10.2.2)
    else none
    else none
    else none
def spec_l1Cur_cell_p (c3 : List Int) (c4 : Int) (c5 : Int) : Option (List Int × Int × Int) := spec_l1Cur_cell_c _ c3 c4 c5 some
theorem spec_l1Cur_cell_cp (Q : Type) (c3 : List Int) (c4 : Int) (c5 : Int) (k : (List Int × Int × Int) → Option Q) : spec_l1Cur_cell_c Q c3 c4 c5 k = (spec_l1Cur_cell_p c3 c4 c5).bind k := by
  simp only [spec_l1Cur_cell_p, spec_l1Cur_cell_c, cond_bindL, none_bindL, some_bindL]

/-- loop 3 of loop.example/g01194/spec.l5All -/
def spec_l5All_s3 (F : Nat) (b6 : List Int) (Q : Type) : (Int × List (List Int)) → ((Int × List (List Int)) → Option Q) → ((List (List Int)) → Option Q) → Option Q
  | (d5, out7), kn, kx =>
    let z_1 := (spec_l5Steps_p F b6 d5)
    let z_2 : Nat := (List.length (Option.getD z_1 default))
    let z_3 : List (List Int) := ((subn (List.length out7) out7 0 (List.length out7)) ++ (subn z_2 (Option.getD z_1 default) 0 z_2))
    bif (decide (d5 < (4 : Int))) then
    bif (Option.isSome z_1) then
    bif (fits (List.length z_3) 32) then
    kn ((IntKind.wrap .i64 (d5 + (1 : Int))), z_3)
    else none
    else none
    else kx out7
def spec_l5All_l3 (F : Nat) (b6 : List Int) (d5 : Int) (out7 : List (List Int)) : Option (List (List Int)) := loopC (spec_l5All_s3 F b6) F (d5, out7) some
theorem spec_l5All_s3_nat (F : Nat) (b6 : List Int) : Natural (spec_l5All_s3 F b6) := by
  intro Q Q' s kn kx h
  obtain ⟨d5, out7⟩ := s
  simp only [spec_l5All_s3, cond_bindL, none_bindL]
/-- loop.example/g01194/spec.l5All -/
def spec_l5All_c (Q : Type) (F : Nat) (b0 : List Int) (k : (List (List Int)) → Option Q) : Option Q :=
    let z_1 := (spec_l5All_l3 F b0 (0 : Int) ([] : List (List Int)))
    bif (Option.isSome z_1) then
    k (Option.getD z_1 default)
    else none
def spec_l5All_p (F : Nat) (b0 : List Int) : Option (List (List Int)) := spec_l5All_c _ F b0 some
theorem spec_l5All_cp (Q : Type) (F : Nat) (b0 : List Int) (k : (List (List Int)) → Option Q) : spec_l5All_c Q F b0 k = (spec_l5All_p F b0).bind k := by
  simp only [spec_l5All_p, spec_l5All_c, cond_bindL, none_bindL, some_bindL]

/-- (*loop.example/g01194/spec.l1Cur).step5 -/
def spec_l1Cur_step5_c (Q : Type) (F : Nat) (b3 : List Int) (c4 : List Int) (c5 : Int) (c6 : Int) (k : (List Int × Int × Int) → Option Q) : Option Q :=
    let z_1 := (spec_l1Cur_side_p c4 c5 c6)
    let z_2 := (Option.getD z_1 default)
    let z_3 := (spec_l1Cur_cell_p c4 z_2.2.1 z_2.2.2)
    let z_4 := (Option.getD z_3 default)
    let z_5 := (spec_l1Cur_pick_p (10 : Int) c4 z_4.2.1 z_4.2.2)
    let z_6 := (spec_l2Board_p F b3)
    let z_7 := (Option.getD z_5 default)
    let z_8 := (spec_l1Cur_one_p (8 : Int) c4 z_7.2.1 z_7.2.2)
    let z_9 := (Option.getD z_8 default)
    let z_10 := (spec_l5All_p F b3)
    let z_11 : Nat := (List.length (Option.getD z_10 default))
    let z_12 : Int := ((z_11 : Nat) : Int)
    let z_13 := (spec_l1Cur_pick_p z_12 c4 z_9.2.1 z_9.2.2)
    let z_14 := (Option.getD z_13 default)
    let z_15 := (spec_l1Cur_one_p (40 : Int) c4 z_14.2.1 z_14.2.2)
    let z_16 := (Option.getD z_15 default)
    let z_17 := (spec_l1Cur_among_p [(0 : Int), (3 : Int), (-1 : Int)] c4 z_16.2.1 z_16.2.2)
    let z_18 : List Int := (rget (Option.getD z_10 default) ((0 : Nat) + (Int.toNat z_14.1)))
    let z_19 := (Option.getD z_17 default)
    let z_20 := (spec_l1Cur_one_p (40 : Int) c4 z_9.2.1 z_9.2.2)
    let z_21 : Bool := (Option.isSome z_20)
    let z_22 := (Option.getD z_20 default)
    let z_23 := (spec_l1Cur_among_p [(0 : Int), (3 : Int), (-1 : Int)] c4 z_22.2.1 z_22.2.2)
    let z_24 : Bool := (Option.isSome z_23)
    let z_25 : List Int := (iset (splice [z_2.1, (0 : Int), (0 : Int), (0 : Int)] 1 z_4.1 2) 3 (IntKind.wrap .i64 ((1 : Int) + (IntKind.wrap .i64 (Int.tdiv z_7.1 (9 : Int))))))
    let z_26 := (Option.getD z_23 default)
    let z_27 : List Int := (iset z_25 3 z_26.1)
    let z_28 := (spec_l1Cur_one_p (40 : Int) c4 z_7.2.1 z_7.2.2)
    let z_29 := (Option.getD z_28 default)
    let z_30 := (spec_l1Cur_among_p [(0 : Int), (3 : Int), (-1 : Int)] c4 z_29.2.1 z_29.2.2)
    let z_31 := (Option.getD z_30 default)
    bif (Option.isSome z_1) then
    bif (Option.isSome z_3) then
    bif (Option.isSome z_5) then
    bif (Option.isSome z_6) then
    bif (Option.getD z_6 default) then
    bif (Option.isSome z_8) then
    bif (!z_9.1) then
    bif (Option.isSome z_10) then
    bif (decide ((0 : Int) < z_12)) then
    bif (Option.isSome z_13) then
    bif (inR z_14.1 z_11) then
    bif (Option.isSome z_15) then
    bif z_16.1 then
    bif (Option.isSome z_17) then
    k ((iset z_18 3 z_19.1), z_19.2.1, z_19.2.2)
    else none
    else k (z_18, z_16.2.1, z_16.2.2)
    else none
    else none
    else none
    else bif z_21 then
    bif z_22.1 then
    bif z_24 then
    k (z_27, z_26.2.1, z_26.2.2)
    else none
    else k (z_25, z_22.2.1, z_22.2.2)
    else none
    else none
    else bif z_21 then
    bif z_22.1 then
    bif z_24 then
    k (z_27, z_26.2.1, z_26.2.2)
    else none
    else k (z_25, z_22.2.1, z_22.2.2)
    else none
    else none
    else bif (Option.isSome z_28) then
    bif z_29.1 then
    bif (Option.isSome z_30) then
    k ((iset z_25 3 z_31.1), z_31.2.1, z_31.2.2)
    else none
    else k (z_25, z_29.2.1, z_29.2.2)
    else none
    else none
    else none
    else none
    else none
def spec_l1Cur_step5_p (F : Nat) (b3 : List Int) (c4 : List Int) (c5 : Int) (c6 : Int) : Option (List Int × Int × Int) := spec_l1Cur_step5_c _ F b3 c4 c5 c6 some
theorem spec_l1Cur_step5_cp (Q : Type) (F : Nat) (b3 : List Int) (c4 : List Int) (c5 : Int) (c6 : Int) (k : (List Int × Int × Int) → Option Q) : spec_l1Cur_step5_c Q F b3 c4 c5 c6 k = (spec_l1Cur_step5_p F b3 c4 c5 c6).bind k := by
  simp only [spec_l1Cur_step5_p, spec_l1Cur_step5_c, cond_bindL, none_bindL, some_bindL]

/-- loop.example/g01194/spec.DrawDoStep -/
def spec_DrawDoStep_c (Q : Type) (F : Nat) (code0 : List Int) (k : (List Int × List Int) → Option Q) : Option Q :=
    let z_1 := (spec_l1Cur_tight5_p F code0 (0 : Int) (0 : Int))
    let z_2 := (Option.getD z_1 default)
    let z_3 := (spec_l1Cur_step5_p F z_2.1 code0 z_2.2.1 z_2.2.2)
    bif (Option.isSome z_1) then
    bif (Option.isSome z_3) then
    k (z_2.1, (Option.getD z_3 default).1)
    else none
    else none
def spec_DrawDoStep_p (F : Nat) (code0 : List Int) : Option (List Int × List Int) := spec_DrawDoStep_c _ F code0 some
theorem spec_DrawDoStep_cp (Q : Type) (F : Nat) (code0 : List Int) (k : (List Int × List Int) → Option Q) : spec_DrawDoStep_c Q F code0 k = (spec_DrawDoStep_p F code0).bind k := by
  simp only [spec_DrawDoStep_p, spec_DrawDoStep_c, cond_bindL, none_bindL, some_bindL]

/-- loop.example/g01194/impl.isCell -/
def impl_isCell_c (Q : Type) (cell0 : List Int) (k : (Bool) → Option Q) : Option Q :=
    bif (impl_in_v (iget cell0 0) (0 : Int) (3 : Int)) then
    k (impl_in_v (iget cell0 1) (0 : Int) (3 : Int))
    else k false
def impl_isCell_v (cell0 : List Int) : Bool :=
    bif (impl_in_v (iget cell0 0) (0 : Int) (3 : Int)) then
    (impl_in_v (iget cell0 1) (0 : Int) (3 : Int))
    else false
theorem impl_isCell_cv (Q : Type) (cell0 : List Int) (k : (Bool) → Option Q) : impl_isCell_c Q cell0 k = k (impl_isCell_v cell0) := by
  simp only [impl_isCell_c, impl_isCell_v, app_condL k]

/-- loop 2 of slices.Index[[]loop.example/g01194/impl.Step,loop.example/g01194/impl.Step] -/
def slices_Index_implStepimplStep_s2 (F : Nat) (s0 : List (List Int)) (t74 : Int) (v6 : List Int) (Q : Type) : (Int) → ((Int) → Option Q) → ((Bool × Int) → Option Q) → Option Q
  | t85, kn, kx =>
    bif (decide (t85 < t74)) then
    bif (inR t85 (List.length s0)) then
    bif (v6 == (rget s0 (Int.toNat t85))) then
    kx (true, t85)
    else kn (IntKind.wrap .i64 (t85 + (1 : Int)))
    else none
    else kx (false, default)
def slices_Index_implStepimplStep_l2 (F : Nat) (s0 : List (List Int)) (t74 : Int) (v6 : List Int) (t85 : Int) : Option (Bool × Int) := loopC (slices_Index_implStepimplStep_s2 F s0 t74 v6) F t85 some
theorem slices_Index_implStepimplStep_s2_nat (F : Nat) (s0 : List (List Int)) (t74 : Int) (v6 : List Int) : Natural (slices_Index_implStepimplStep_s2 F s0 t74 v6) := by
  intro Q Q' s kn kx h
  simp only [slices_Index_implStepimplStep_s2, cond_bindL, none_bindL]
/-- slices.Index[[]loop.example/g01194/impl.Step,loop.example/g01194/impl.Step] -/
def slices_Index_implStepimplStep_c (Q : Type) (F : Nat) (s0 : List (List Int)) (v1 : List Int) (k : (Int) → Option Q) : Option Q :=
    let z_1 := (slices_Index_implStepimplStep_l2 F s0 (((List.length s0) : Nat) : Int) v1 (0 : Int))
    let z_2 := (Option.getD z_1 default)
    bif (Option.isSome z_1) then
    bif z_2.1 then
    k z_2.2
    else k (-1 : Int)
    else none
def slices_Index_implStepimplStep_p (F : Nat) (s0 : List (List Int)) (v1 : List Int) : Option (Int) := slices_Index_implStepimplStep_c _ F s0 v1 some
theorem slices_Index_implStepimplStep_cp (Q : Type) (F : Nat) (s0 : List (List Int)) (v1 : List Int) (k : (Int) → Option Q) : slices_Index_implStepimplStep_c Q F s0 v1 k = (slices_Index_implStepimplStep_p F s0 v1).bind k := by
  simp only [slices_Index_implStepimplStep_p, slices_Index_implStepimplStep_c, cond_bindL, none_bindL, some_bindL]

/-- slices.Contains[[]loop.example/g01194/impl.Step,loop.example/g01194/impl.Step] -/
def slices_Contains_implStepimplStep_c (Q : Type) (F : Nat) (s0 : List (List Int)) (v1 : List Int) (k : (Bool) → Option Q) : Option Q :=
    let z_1 := (slices_Index_implStepimplStep_p F s0 v1)
    bif (Option.isSome z_1) then
    k (decide ((0 : Int) ≤ (Option.getD z_1 default)))
    else none
def slices_Contains_implStepimplStep_p (F : Nat) (s0 : List (List Int)) (v1 : List Int) : Option (Bool) := slices_Contains_implStepimplStep_c _ F s0 v1 some
theorem slices_Contains_implStepimplStep_cp (Q : Type) (F : Nat) (s0 : List (List Int)) (v1 : List Int) (k : (Bool) → Option Q) : slices_Contains_implStepimplStep_c Q F s0 v1 k = (slices_Contains_implStepimplStep_p F s0 v1).bind k := by
  simp only [slices_Contains_implStepimplStep_p, slices_Contains_implStepimplStep_c, cond_bindL, none_bindL, some_bindL]

/-- (loop.example/g01194/impl.Board).isStep -/
def impl_Board_isStep_c (Q : Type) (F : Nat) (b0 : List Int) (s1 : List Int) (k : (Bool) → Option Q) : Option Q :=
    let z_1 := (impl_Board_steps_p F b0 (iget s1 0))
    let z_2 : Nat := (List.length (Option.getD z_1 default))
    let z_3 := (slices_Contains_implStepimplStep_p F (subn z_2 (Option.getD z_1 default) 0 z_2) s1)
    bif (impl_isDirection_v (iget s1 0)) then
    bif (impl_isCell_v (sub s1 1 2)) then
    bif (Option.isSome z_1) then
    bif (Option.isSome z_3) then
    k (Option.getD z_3 default)
    else none
    else none
    else k false
    else k false
def impl_Board_isStep_p (F : Nat) (b0 : List Int) (s1 : List Int) : Option (Bool) := impl_Board_isStep_c _ F b0 s1 some
theorem impl_Board_isStep_cp (Q : Type) (F : Nat) (b0 : List Int) (s1 : List Int) (k : (Bool) → Option Q) : impl_Board_isStep_c Q F b0 s1 k = (impl_Board_isStep_p F b0 s1).bind k := by
  simp only [impl_Board_isStep_p, impl_Board_isStep_c, cond_bindL, none_bindL, some_bindL]

/-- (loop.example/g01194/impl.Board).behind -/
def impl_Board_behind_c (Q : Type) (F : Nat) (b0 : List Int) (s1 : List Int) (k : (List Int × Int) → Option Q) : Option Q :=
    let z_1 := (impl_Board_slide_p F b0 (iget s1 0))
    let z_2 := (Option.getD z_1 default)
    let z_3 := (impl_Board_at_p (sub s1 1 2) z_2.1)
    bif (Option.isSome z_1) then
    bif (Option.isSome z_3) then
    k ((iset z_2.1 (Option.getD z_3 default) (iget s1 3)), z_2.2.1)
    else none
    else none
def impl_Board_behind_p (F : Nat) (b0 : List Int) (s1 : List Int) : Option (List Int × Int) := impl_Board_behind_c _ F b0 s1 some
theorem impl_Board_behind_cp (Q : Type) (F : Nat) (b0 : List Int) (s1 : List Int) (k : (List Int × Int) → Option Q) : impl_Board_behind_c Q F b0 s1 k = (impl_Board_behind_p F b0 s1).bind k := by
  simp only [impl_Board_behind_p, impl_Board_behind_c, cond_bindL, none_bindL, some_bindL]

/-- loop.example/g01194/impl.DoStep -/
def impl_DoStep_c (Q : Type) (F : Nat) (b0 : List Int) (s1 : List Int) (k : (List Int × Int × Bool) → Option Q) : Option Q :=
    let z_1 := (impl_IsBoard_p F b0)
    let z_2 : List Int := [(0 : Int), (0 : Int), (0 : Int), (0 : Int), (0 : Int), (0 : Int), (0 : Int), (0 : Int), (0 : Int), (0 : Int), (0 : Int), (0 : Int), (0 : Int), (0 : Int), (0 : Int), (0 : Int)]
    let z_3 := (impl_Board_isStep_p F b0 s1)
    let z_4 := (impl_Board_behind_p F b0 s1)
    let z_5 := (Option.getD z_4 default)
    bif (Option.isSome z_1) then
    bif (!(Option.getD z_1 default)) then
    k (z_2, (0 : Int), false)
    else bif (Option.isSome z_3) then
    bif (!(Option.getD z_3 default)) then
    k (z_2, (0 : Int), false)
    else bif (Option.isSome z_4) then
    k (z_5.1, z_5.2, true)
    else none
    else none
    else none
def impl_DoStep_p (F : Nat) (b0 : List Int) (s1 : List Int) : Option (List Int × Int × Bool) := impl_DoStep_c _ F b0 s1 some
theorem impl_DoStep_cp (Q : Type) (F : Nat) (b0 : List Int) (s1 : List Int) (k : (List Int × Int × Bool) → Option Q) : impl_DoStep_c Q F b0 s1 k = (impl_DoStep_p F b0 s1).bind k := by
  simp only [impl_DoStep_p, impl_DoStep_c, cond_bindL, none_bindL, some_bindL]

/-- loop.example/g01194/spec.l2Cell -/
def spec_l2Cell_c (Q : Type) (cell0 : List Int) (k : (Bool) → Option Q) : Option Q :=
    bif (spec_l1In_v (iget cell0 0) (0 : Int) (3 : Int)) then
    k (spec_l1In_v (iget cell0 1) (0 : Int) (3 : Int))
    else k false
def spec_l2Cell_v (cell0 : List Int) : Bool :=
    bif (spec_l1In_v (iget cell0 0) (0 : Int) (3 : Int)) then
    (spec_l1In_v (iget cell0 1) (0 : Int) (3 : Int))
    else false
theorem spec_l2Cell_cv (Q : Type) (cell0 : List Int) (k : (Bool) → Option Q) : spec_l2Cell_c Q cell0 k = k (spec_l2Cell_v cell0) := by
  simp only [spec_l2Cell_c, spec_l2Cell_v, app_condL k]

/-- loop.example/g01194/spec.l5Do -/
def spec_l5Do_c (Q : Type) (F : Nat) (b0 : List Int) (s1 : List Int) (k : (List Int × Int × Bool) → Option Q) : Option Q :=
    let z_1 : List Int := [(0 : Int), (0 : Int), (0 : Int), (0 : Int), (0 : Int), (0 : Int), (0 : Int), (0 : Int), (0 : Int), (0 : Int), (0 : Int), (0 : Int), (0 : Int), (0 : Int), (0 : Int), (0 : Int)]
    let z_2 := (spec_l2Slide_p F b0 (iget s1 0))
    let z_3 := (Option.getD z_2 default)
    let z_4 := (spec_l2At_p z_3.1 (sub s1 1 2))
    let z_5 := (spec_l2Put_p z_3.1 (sub s1 1 2) (iget s1 3))
    bif (!(spec_l2Side_v (iget s1 0))) then
    k (z_1, (0 : Int), false)
    else bif (!(spec_l2Cell_v (sub s1 1 2))) then
    k (z_1, (0 : Int), false)
    else bif (!(spec_l1In_v (iget s1 3) (1 : Int) (2 : Int))) then
    k (z_1, (0 : Int), false)
    else bif (Option.isSome z_2) then
    bif (z_3.1 == b0) then
    k (z_1, (0 : Int), false)
    else bif (Option.isSome z_4) then
    bif (!((Option.getD z_4 default) == (0 : Int))) then
    k (z_1, (0 : Int), false)
    else bif (Option.isSome z_5) then
    k ((Option.getD z_5 default), z_3.2, true)
    else none
    else none
    else none
def spec_l5Do_p (F : Nat) (b0 : List Int) (s1 : List Int) : Option (List Int × Int × Bool) := spec_l5Do_c _ F b0 s1 some
theorem spec_l5Do_cp (Q : Type) (F : Nat) (b0 : List Int) (s1 : List Int) (k : (List Int × Int × Bool) → Option Q) : spec_l5Do_c Q F b0 s1 k = (spec_l5Do_p F b0 s1).bind k := by
  simp only [spec_l5Do_p, spec_l5Do_c, cond_bindL, none_bindL, some_bindL]

/-- loop.example/g01194/spec.DoStep -/
def spec_DoStep_c (Q : Type) (F : Nat) (b0 : List Int) (s1 : List Int) (k : (List Int × Int × Bool) → Option Q) : Option Q :=
    let z_1 := (spec_l2Board_p F b0)
    let z_2 := (spec_l5Do_p F b0 s1)
    let z_3 := (Option.getD z_2 default)
    bif (Option.isSome z_1) then
    bif (!(Option.getD z_1 default)) then
    k ([(0 : Int), (0 : Int), (0 : Int), (0 : Int), (0 : Int), (0 : Int), (0 : Int), (0 : Int), (0 : Int), (0 : Int), (0 : Int), (0 : Int), (0 : Int), (0 : Int), (0 : Int), (0 : Int)], (0 : Int), false)
    else bif (Option.isSome z_2) then
    k (z_3.1, z_3.2.1, z_3.2.2)
    else none
    else none
def spec_DoStep_p (F : Nat) (b0 : List Int) (s1 : List Int) : Option (List Int × Int × Bool) := spec_DoStep_c _ F b0 s1 some
theorem spec_DoStep_cp (Q : Type) (F : Nat) (b0 : List Int) (s1 : List Int) (k : (List Int × Int × Bool) → Option Q) : spec_DoStep_c Q F b0 s1 k = (spec_DoStep_p F b0 s1).bind k := by
  simp only [spec_DoStep_p, spec_DoStep_c, cond_bindL, none_bindL, some_bindL]
end Go.Lv.P
