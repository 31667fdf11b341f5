/-
Pure functions and what the code of them does, by program; without conditions.
-/
import Derived.Test.YtgmnclpjbhmioaaLv3
import Derived.Test.YtgmnclpjbhmioaaMvOrd
namespace Go.Lv.P
open Go Go.Lv
set_option linter.unusedVariables false
set_option linter.unusedSimpArgs false
set_option maxRecDepth 100000
/-- loop.example/g01194/laws.toIntA4 -/
def laws_toIntA4_c (Q : Type) (a0 : List Int) (k : (List Int) → Option Q) : Option Q :=
    k [(iget a0 0), (iget a0 1), (iget a0 2), (iget a0 3)]
def laws_toIntA4_v (a0 : List Int) : List Int :=
    [(iget a0 0), (iget a0 1), (iget a0 2), (iget a0 3)]
theorem laws_toIntA4_cv (Q : Type) (a0 : List Int) (k : (List Int) → Option Q) : laws_toIntA4_c Q a0 k = k (laws_toIntA4_v a0) := by
  simp only [laws_toIntA4_c, laws_toIntA4_v, app_condL k]

/-- loop.example/g01194/laws.toIntA4A4 -/
def laws_toIntA4A4_c (Q : Type) (a0 : List Int) (k : (List Int) → Option Q) : Option Q :=
    k (splice (splice (splice (splice [(0 : Int), (0 : Int), (0 : Int), (0 : Int), (0 : Int), (0 : Int), (0 : Int), (0 : Int), (0 : Int), (0 : Int), (0 : Int), (0 : Int), (0 : Int), (0 : Int), (0 : Int), (0 : Int)] 0 (laws_toIntA4_v (sub a0 0 4)) 4) 4 (laws_toIntA4_v (sub a0 4 4)) 4) 8 (laws_toIntA4_v (sub a0 8 4)) 4) 12 (laws_toIntA4_v (sub a0 12 4)) 4)
def laws_toIntA4A4_v (a0 : List Int) : List Int :=
    (splice (splice (splice (splice [(0 : Int), (0 : Int), (0 : Int), (0 : Int), (0 : Int), (0 : Int), (0 : Int), (0 : Int), (0 : Int), (0 : Int), (0 : Int), (0 : Int), (0 : Int), (0 : Int), (0 : Int), (0 : Int)] 0 (laws_toIntA4_v (sub a0 0 4)) 4) 4 (laws_toIntA4_v (sub a0 4 4)) 4) 8 (laws_toIntA4_v (sub a0 8 4)) 4) 12 (laws_toIntA4_v (sub a0 12 4)) 4)
theorem laws_toIntA4A4_cv (Q : Type) (a0 : List Int) (k : (List Int) → Option Q) : laws_toIntA4A4_c Q a0 k = k (laws_toIntA4A4_v a0) := by
  simp only [laws_toIntA4A4_c, laws_toIntA4A4_v, app_condL k]

/-- loop.example/g01194/laws.toBoard -/
def laws_toBoard_c (Q : Type) (a0 : List Int) (k : (List Int) → Option Q) : Option Q :=
    k (laws_toIntA4A4_v a0)
def laws_toBoard_v (a0 : List Int) : List Int :=
    (laws_toIntA4A4_v a0)
theorem laws_toBoard_cv (Q : Type) (a0 : List Int) (k : (List Int) → Option Q) : laws_toBoard_c Q a0 k = k (laws_toBoard_v a0) := by
  simp only [laws_toBoard_c, laws_toBoard_v, app_condL k]

/-- loop.example/g01194/spec.l1In -/
def spec_l1In_c (Q : Type) (x0 : Int) (a1 : Int) (b2 : Int) (k : (Bool) → Option Q) : Option Q :=
    bif (decide (a1 ≤ x0)) then
    k (decide (x0 ≤ b2))
    else k false
def spec_l1In_v (x0 : Int) (a1 : Int) (b2 : Int) : Bool :=
    bif (decide (a1 ≤ x0)) then
    (decide (x0 ≤ b2))
    else false
theorem spec_l1In_cv (Q : Type) (x0 : Int) (a1 : Int) (b2 : Int) (k : (Bool) → Option Q) : spec_l1In_c Q x0 a1 b2 k = k (spec_l1In_v x0 a1 b2) := by
  simp only [spec_l1In_c, spec_l1In_v, app_condL k]

/-- loop 5 of loop.example/g01194/spec.l2Board -/
def spec_l2Board_s5 (F : Nat) (r3 : Int) (b5 : List Int) (Q : Type) : (Int) → ((Int) → Option Q) → ((Bool) → Option Q) → Option Q
  | c4, kn, kx =>
    bif (decide (c4 < (4 : Int))) then
    bif (inR r3 4) then
    bif (inR c4 4) then
    bif (!(spec_l1In_v (iget b5 (((0 : Nat) + ((Int.toNat r3) * (4 : Nat))) + ((Int.toNat c4) * (1 : Nat)))) (0 : Int) (17 : Int))) then
    kx true
    else kn (IntKind.wrap .i64 (c4 + (1 : Int)))
    else none
    else none
    else kx false
def spec_l2Board_l5 (F : Nat) (r3 : Int) (b5 : List Int) (c4 : Int) : Option (Bool) := loopC (spec_l2Board_s5 F r3 b5) F c4 some
theorem spec_l2Board_s5_nat (F : Nat) (r3 : Int) (b5 : List Int) : Natural (spec_l2Board_s5 F r3 b5) := by
  intro Q Q' s kn kx h
  simp only [spec_l2Board_s5, cond_bindL, none_bindL]
/-- loop 2 of loop.example/g01194/spec.l2Board -/
def spec_l2Board_s2 (F : Nat) (b4 : List Int) (Q : Type) : (Int) → ((Int) → Option Q) → ((Bool) → Option Q) → Option Q
  | r3, kn, kx =>
    let z_1 := (spec_l2Board_l5 F r3 b4 (0 : Int))
    bif (decide (r3 < (4 : Int))) then
    bif (Option.isSome z_1) then
    bif (Option.getD z_1 default) then
    kx true
    else kn (IntKind.wrap .i64 (r3 + (1 : Int)))
    else none
    else kx false
def spec_l2Board_l2 (F : Nat) (b4 : List Int) (r3 : Int) : Option (Bool) := loopC (spec_l2Board_s2 F b4) F r3 some
theorem spec_l2Board_s2_nat (F : Nat) (b4 : List Int) : Natural (spec_l2Board_s2 F b4) := by
  intro Q Q' s kn kx h
  simp only [spec_l2Board_s2, cond_bindL, none_bindL]
/-- loop.example/g01194/spec.l2Board -/
def spec_l2Board_c (Q : Type) (F : Nat) (b0 : List Int) (k : (Bool) → Option Q) : Option Q :=
    let z_1 := (spec_l2Board_l2 F b0 (0 : Int))
    bif (Option.isSome z_1) then
    bif (Option.getD z_1 default) then
    k false
    else k true
    else none
def spec_l2Board_p (F : Nat) (b0 : List Int) : Option (Bool) := spec_l2Board_c _ F b0 some
theorem spec_l2Board_cp (Q : Type) (F : Nat) (b0 : List Int) (k : (Bool) → Option Q) : spec_l2Board_c Q F b0 k = (spec_l2Board_p F b0).bind k := by
  simp only [spec_l2Board_p, spec_l2Board_c, cond_bindL, none_bindL, some_bindL]

/-- loop 3 of loop.example/g01194/spec.l2Line -/
def spec_l2Line_s3 (F : Nat) (d0 : Int) (i1 : Int) (Q : Type) : (Int × List Int) → ((Int × List Int) → Option Q) → ((List Int) → Option Q) → Option Q
  | (k8, out10), kn, kx =>
    let z_1 : Int := (IntKind.wrap .i64 (k8 + (1 : Int)))
    let z_2 : Nat := ((0 : Nat) + ((Int.toNat k8) * (2 : Nat)))
    let z_3 : Int := (IntKind.wrap .i64 ((3 : Int) - k8))
    bif (decide (k8 < (4 : Int))) then
    bif (d0 == (0 : Int)) then
    bif (inR k8 4) then
    kn (z_1, (splicen 8 out10 z_2 [i1, k8] 2))
    else none
    else bif (d0 == (1 : Int)) then
    bif (inR k8 4) then
    kn (z_1, (splicen 8 out10 z_2 [k8, i1] 2))
    else none
    else bif (d0 == (2 : Int)) then
    bif (inR k8 4) then
    kn (z_1, (splicen 8 out10 z_2 [i1, z_3] 2))
    else none
    else bif (inR k8 4) then
    kn (z_1, (splicen 8 out10 z_2 [z_3, i1] 2))
    else none
    else kx out10
def spec_l2Line_l3 (F : Nat) (d0 : Int) (i1 : Int) (k8 : Int) (out10 : List Int) : Option (List Int) := loopC (spec_l2Line_s3 F d0 i1) F (k8, out10) some
theorem spec_l2Line_s3_nat (F : Nat) (d0 : Int) (i1 : Int) : Natural (spec_l2Line_s3 F d0 i1) := by
  intro Q Q' s kn kx h
  obtain ⟨k8, out10⟩ := s
  simp only [spec_l2Line_s3, cond_bindL, none_bindL]
/-- loop.example/g01194/spec.l2Line -/
def spec_l2Line_c (Q : Type) (F : Nat) (d0 : Int) (i1 : Int) (k : (List Int) → Option Q) : Option Q :=
    let z_1 := (spec_l2Line_l3 F d0 i1 (0 : Int) [(0 : Int), (0 : Int), (0 : Int), (0 : Int), (0 : Int), (0 : Int), (0 : Int), (0 : Int)])
    bif (Option.isSome z_1) then
    k (Option.getD z_1 default)
    else none
def spec_l2Line_p (F : Nat) (d0 : Int) (i1 : Int) : Option (List Int) := spec_l2Line_c _ F d0 i1 some
theorem spec_l2Line_cp (Q : Type) (F : Nat) (d0 : Int) (i1 : Int) (k : (List Int) → Option Q) : spec_l2Line_c Q F d0 i1 k = (spec_l2Line_p F d0 i1).bind k := by
  simp only [spec_l2Line_p, spec_l2Line_c, cond_bindL, none_bindL, some_bindL]

/-- loop.example/g01194/spec.l2At -/
def spec_l2At_c (Q : Type) (b0 : List Int) (cell1 : List Int) (k : (Int) → Option Q) : Option Q :=
    bif (inR (iget cell1 0) 4) then
    bif (inR (iget cell1 1) 4) then
    k (iget b0 (((0 : Nat) + ((Int.toNat (iget cell1 0)) * (4 : Nat))) + ((Int.toNat (iget cell1 1)) * (1 : Nat))))
    else none
    else none
def spec_l2At_p (b0 : List Int) (cell1 : List Int) : Option (Int) := spec_l2At_c _ b0 cell1 some
theorem spec_l2At_cp (Q : Type) (b0 : List Int) (cell1 : List Int) (k : (Int) → Option Q) : spec_l2At_c Q b0 cell1 k = (spec_l2At_p b0 cell1).bind k := by
  simp only [spec_l2At_p, spec_l2At_c, cond_bindL, none_bindL, some_bindL]

/-- loop.example/g01194/spec.l2Numbers -/
def spec_l2Numbers_c (Q : Type) (F : Nat) (b0 : List Int) (d1 : Int) (i2 : Int) (k : (List Int) → Option Q) : Option Q :=
    let z_1 := (spec_l2Line_p F d1 i2)
    let z_2 := (spec_l2At_p b0 (sub (Option.getD z_1 default) 0 2))
    let z_3 := (spec_l2At_p b0 (sub (Option.getD z_1 default) 2 2))
    let z_4 := (spec_l2At_p b0 (sub (Option.getD z_1 default) 4 2))
    let z_5 := (spec_l2At_p b0 (sub (Option.getD z_1 default) 6 2))
    bif (Option.isSome z_1) then
    bif (Option.isSome z_2) then
    bif (Option.isSome z_3) then
    bif (Option.isSome z_4) then
    bif (Option.isSome z_5) then
    k [(Option.getD z_2 default), (Option.getD z_3 default), (Option.getD z_4 default), (Option.getD z_5 default)]
    else none
    else none
    else none
    else none
    else none
def spec_l2Numbers_p (F : Nat) (b0 : List Int) (d1 : Int) (i2 : Int) : Option (List Int) := spec_l2Numbers_c _ F b0 d1 i2 some
theorem spec_l2Numbers_cp (Q : Type) (F : Nat) (b0 : List Int) (d1 : Int) (i2 : Int) (k : (List Int) → Option Q) : spec_l2Numbers_c Q F b0 d1 i2 k = (spec_l2Numbers_p F b0 d1 i2).bind k := by
  simp only [spec_l2Numbers_p, spec_l2Numbers_c, cond_bindL, none_bindL, some_bindL]

/-- loop.example/g01194/spec.l2Worth -/
def spec_l2Worth_c (Q : Type) (t0 : Int) (k : (Int) → Option Q) : Option Q :=
    bif (decide (t0 < (0 : Int))) then
    none
    else k (IntKind.wrap .i64 ((1 : Int) * (2 ^ (min (Int.toNat t0) (IntKind.bits .i64)) : Int)))
def spec_l2Worth_p (t0 : Int) : Option (Int) := spec_l2Worth_c _ t0 some
theorem spec_l2Worth_cp (Q : Type) (t0 : Int) (k : (Int) → Option Q) : spec_l2Worth_c Q t0 k = (spec_l2Worth_p t0).bind k := by
  simp only [spec_l2Worth_p, spec_l2Worth_c, cond_bindL, none_bindL, some_bindL]

/-- loop 3 of loop.example/g01194/spec.l2Row -/
def spec_l2Row_s3 (F : Nat) (row13 : List Int) (Q : Type) : (Int × Int × Bool × Int × List Int) → ((Int × Int × Bool × Int × List Int) → Option Q) → ((Int × List Int) → Option Q) → Option Q
  | (n9, score10, merged11, k12, out15), kn, kx =>
    let z_1 : Int := (iget row13 ((0 : Nat) + ((Int.toNat k12) * (1 : Nat))))
    let z_2 : Int := (IntKind.wrap .i64 (k12 + (1 : Int)))
    let z_3 : Int := (IntKind.wrap .i64 (n9 - (1 : Int)))
    let z_4 : Bool := (inR z_3 4)
    let z_5 : Nat := ((0 : Nat) + ((Int.toNat z_3) * (1 : Nat)))
    let z_6 : Int := (IntKind.wrap .i64 (z_1 + (1 : Int)))
    let z_7 : Int := (IntKind.wrap .i64 (n9 + (1 : Int)))
    let z_8 : List Int := (iset out15 ((0 : Nat) + ((Int.toNat n9) * (1 : Nat))) z_1)
    bif (decide (k12 < (4 : Int))) then
    bif (inR k12 4) then
    bif (z_1 == (0 : Int)) then
    kn (n9, score10, merged11, z_2, out15)
    else bif (decide ((0 : Int) < n9)) then
    bif z_4 then
    bif (inR k12 4) then
    bif ((iget out15 z_5) == z_1) then
    bif (inR k12 4) then
    bif (decide (z_1 < (17 : Int))) then
    bif (!merged11) then
    bif (inR k12 4) then
    bif z_4 then
    bif (inR k12 4) then
    bif (Option.isSome (spec_l2Worth_p z_6)) then
    kn (n9, (IntKind.wrap .i64 (score10 + (Option.getD (spec_l2Worth_p z_6) default))), true, z_2, (iset out15 z_5 z_6))
    else none
    else none
    else none
    else none
    else bif (inR k12 4) then
    bif (inR n9 4) then
    kn (z_7, score10, false, z_2, z_8)
    else none
    else none
    else bif (inR k12 4) then
    bif (inR n9 4) then
    kn (z_7, score10, false, z_2, z_8)
    else none
    else none
    else none
    else bif (inR k12 4) then
    bif (inR n9 4) then
    kn (z_7, score10, false, z_2, z_8)
    else none
    else none
    else none
    else none
    else bif (inR k12 4) then
    bif (inR n9 4) then
    kn (z_7, score10, false, z_2, z_8)
    else none
    else none
    else none
    else kx (score10, out15)
def spec_l2Row_l3 (F : Nat) (row13 : List Int) (n9 : Int) (score10 : Int) (merged11 : Bool) (k12 : Int) (out15 : List Int) : Option (Int × List Int) := loopC (spec_l2Row_s3 F row13) F (n9, score10, merged11, k12, out15) some
theorem spec_l2Row_s3_nat (F : Nat) (row13 : List Int) : Natural (spec_l2Row_s3 F row13) := by
  intro Q Q' s kn kx h
  obtain ⟨n9, score10, merged11, k12, out15⟩ := s
  simp only [spec_l2Row_s3, cond_bindL, none_bindL]
/-- loop.example/g01194/spec.l2Row -/
def spec_l2Row_c (Q : Type) (F : Nat) (row0 : List Int) (k : (List Int × Int) → Option Q) : Option Q :=
    let z_1 := (spec_l2Row_l3 F row0 (0 : Int) (0 : Int) false (0 : Int) [(0 : Int), (0 : Int), (0 : Int), (0 : Int)])
    let z_2 := (Option.getD z_1 default)
    bif (Option.isSome z_1) then
    k (z_2.2, z_2.1)
    else none
def spec_l2Row_p (F : Nat) (row0 : List Int) : Option (List Int × Int) := spec_l2Row_c _ F row0 some
theorem spec_l2Row_cp (Q : Type) (F : Nat) (row0 : List Int) (k : (List Int × Int) → Option Q) : spec_l2Row_c Q F row0 k = (spec_l2Row_p F row0).bind k := by
  simp only [spec_l2Row_p, spec_l2Row_c, cond_bindL, none_bindL, some_bindL]

/-- loop.example/g01194/spec.l2Put -/
def spec_l2Put_c (Q : Type) (b0 : List Int) (cell1 : List Int) (t2 : Int) (k : (List Int) → Option Q) : Option Q :=
    bif (inR (iget cell1 0) 4) then
    bif (inR (iget cell1 1) 4) then
    k (iset b0 (((0 : Nat) + ((Int.toNat (iget cell1 0)) * (4 : Nat))) + ((Int.toNat (iget cell1 1)) * (1 : Nat))) t2)
    else none
    else none
def spec_l2Put_p (b0 : List Int) (cell1 : List Int) (t2 : Int) : Option (List Int) := spec_l2Put_c _ b0 cell1 t2 some
theorem spec_l2Put_cp (Q : Type) (b0 : List Int) (cell1 : List Int) (t2 : Int) (k : (List Int) → Option Q) : spec_l2Put_c Q b0 cell1 t2 k = (spec_l2Put_p b0 cell1 t2).bind k := by
  simp only [spec_l2Put_p, spec_l2Put_c, cond_bindL, none_bindL, some_bindL]

/-- loop 3 of loop.example/g01194/spec.l2Slide -/
def spec_l2Slide_s3 (F : Nat) (d0 : Int) (b12 : List Int) (Q : Type) : (Int × Int × List Int) → ((Int × Int × List Int) → Option Q) → ((Int × List Int) → Option Q) → Option Q
  | (sum10, i11, out14), kn, kx =>
    let z_1 := (spec_l2Numbers_p F b12 d0 i11)
    let z_2 := (spec_l2Row_p F (Option.getD z_1 default))
    let z_3 := (spec_l2Line_p F d0 i11)
    let z_4 := (Option.getD z_2 default)
    let z_5 := (spec_l2Put_p out14 (sub (Option.getD z_3 default) 0 2) (iget z_4.1 0))
    let z_6 := (spec_l2Put_p (Option.getD z_5 default) (sub (Option.getD z_3 default) 2 2) (iget z_4.1 1))
    let z_7 := (spec_l2Put_p (Option.getD z_6 default) (sub (Option.getD z_3 default) 4 2) (iget z_4.1 2))
    let z_8 := (spec_l2Put_p (Option.getD z_7 default) (sub (Option.getD z_3 default) 6 2) (iget z_4.1 3))
    bif (decide (i11 < (4 : Int))) then
    bif (Option.isSome z_1) then
    bif (Option.isSome z_2) then
    bif (Option.isSome z_3) then
    bif (Option.isSome z_5) then
    bif (Option.isSome z_6) then
    bif (Option.isSome z_7) then
    bif (Option.isSome z_8) then
    kn ((IntKind.wrap .i64 (sum10 + z_4.2)), (IntKind.wrap .i64 (i11 + (1 : Int))), (Option.getD z_8 default))
    else none
    else none
    else none
    else none
    else none
    else none
    else none
    else kx (sum10, out14)
def spec_l2Slide_l3 (F : Nat) (d0 : Int) (b12 : List Int) (sum10 : Int) (i11 : Int) (out14 : List Int) : Option (Int × List Int) := loopC (spec_l2Slide_s3 F d0 b12) F (sum10, i11, out14) some
theorem spec_l2Slide_s3_nat (F : Nat) (d0 : Int) (b12 : List Int) : Natural (spec_l2Slide_s3 F d0 b12) := by
  intro Q Q' s kn kx h
  obtain ⟨sum10, i11, out14⟩ := s
  simp only [spec_l2Slide_s3, cond_bindL, none_bindL]
/-- loop.example/g01194/spec.l2Slide -/
def spec_l2Slide_c (Q : Type) (F : Nat) (b0 : List Int) (d1 : Int) (k : (List Int × Int) → Option Q) : Option Q :=
    let z_1 := (spec_l2Slide_l3 F d1 b0 (0 : Int) (0 : Int) b0)
    let z_2 := (Option.getD z_1 default)
    bif (Option.isSome z_1) then
    k (z_2.2, z_2.1)
    else none
def spec_l2Slide_p (F : Nat) (b0 : List Int) (d1 : Int) : Option (List Int × Int) := spec_l2Slide_c _ F b0 d1 some
theorem spec_l2Slide_cp (Q : Type) (F : Nat) (b0 : List Int) (d1 : Int) (k : (List Int × Int) → Option Q) : spec_l2Slide_c Q F b0 d1 k = (spec_l2Slide_p F b0 d1).bind k := by
  simp only [spec_l2Slide_p, spec_l2Slide_c, cond_bindL, none_bindL, some_bindL]

/-- loop 5 of loop.example/g01194/spec.l2Before -/
def spec_l2Before_s5 (F : Nat) (r6 : Int) (a8 : List Int) (b9 : List Int) (Q : Type) : (Int) → ((Int) → Option Q) → ((Bool × Bool) → Option Q) → Option Q
  | c7, kn, kx =>
    let z_1 : Nat := (((0 : Nat) + ((Int.toNat r6) * (4 : Nat))) + ((Int.toNat c7) * (1 : Nat)))
    let z_2 : Int := (iget a8 z_1)
    let z_3 : Int := (iget b9 z_1)
    bif (decide (c7 < (4 : Int))) then
    bif (inR r6 4) then
    bif (inR c7 4) then
    bif (inR r6 4) then
    bif (inR c7 4) then
    bif (!(z_2 == z_3)) then
    bif (inR r6 4) then
    bif (inR c7 4) then
    bif (inR r6 4) then
    bif (inR c7 4) then
    kx (true, (decide (z_2 < z_3)))
    else none
    else none
    else none
    else none
    else kn (IntKind.wrap .i64 (c7 + (1 : Int)))
    else none
    else none
    else none
    else none
    else kx (false, default)
def spec_l2Before_l5 (F : Nat) (r6 : Int) (a8 : List Int) (b9 : List Int) (c7 : Int) : Option (Bool × Bool) := loopC (spec_l2Before_s5 F r6 a8 b9) F c7 some
theorem spec_l2Before_s5_nat (F : Nat) (r6 : Int) (a8 : List Int) (b9 : List Int) : Natural (spec_l2Before_s5 F r6 a8 b9) := by
  intro Q Q' s kn kx h
  simp only [spec_l2Before_s5, cond_bindL, none_bindL]
/-- loop 2 of loop.example/g01194/spec.l2Before -/
def spec_l2Before_s2 (F : Nat) (a7 : List Int) (b8 : List Int) (Q : Type) : (Int) → ((Int) → Option Q) → ((Bool × Bool) → Option Q) → Option Q
  | r6, kn, kx =>
    let z_1 := (spec_l2Before_l5 F r6 a7 b8 (0 : Int))
    let z_2 := (Option.getD z_1 default)
    bif (decide (r6 < (4 : Int))) then
    bif (Option.isSome z_1) then
    bif z_2.1 then
    kx (true, z_2.2)
    else kn (IntKind.wrap .i64 (r6 + (1 : Int)))
    else none
    else kx (false, default)
def spec_l2Before_l2 (F : Nat) (a7 : List Int) (b8 : List Int) (r6 : Int) : Option (Bool × Bool) := loopC (spec_l2Before_s2 F a7 b8) F r6 some
theorem spec_l2Before_s2_nat (F : Nat) (a7 : List Int) (b8 : List Int) : Natural (spec_l2Before_s2 F a7 b8) := by
  intro Q Q' s kn kx h
  simp only [spec_l2Before_s2, cond_bindL, none_bindL]
/-- loop.example/g01194/spec.l2Before -/
def spec_l2Before_c (Q : Type) (F : Nat) (a0 : List Int) (b1 : List Int) (k : (Bool) → Option Q) : Option Q :=
    let z_1 := (spec_l2Before_l2 F a0 b1 (0 : Int))
    let z_2 := (Option.getD z_1 default)
    bif (Option.isSome z_1) then
    bif z_2.1 then
    k z_2.2
    else k false
    else none
def spec_l2Before_p (F : Nat) (a0 : List Int) (b1 : List Int) : Option (Bool) := spec_l2Before_c _ F a0 b1 some
theorem spec_l2Before_cp (Q : Type) (F : Nat) (a0 : List Int) (b1 : List Int) (k : (Bool) → Option Q) : spec_l2Before_c Q F a0 b1 k = (spec_l2Before_p F a0 b1).bind k := by
  simp only [spec_l2Before_p, spec_l2Before_c, cond_bindL, none_bindL, some_bindL]

/-- loop 2 of loop.example/g01194/spec.l3Add -/
def spec_l3Add_s2 (F : Nat) (all0 : List (List Int)) (b5 : List Int) (Q : Type) : (Int) → ((Int) → Option Q) → ((Int) → Option Q) → Option Q
  | n4, kn, kx =>
    let z_1 := (spec_l2Before_p F (rget all0 (Int.toNat n4)) b5)
    bif (decide (n4 < (((List.length all0) : Nat) : Int))) then
    bif (inR n4 (List.length all0)) then
    bif (Option.isSome z_1) then
    bif (Option.getD z_1 default) then
    kn (IntKind.wrap .i64 (n4 + (1 : Int)))
    else kx n4
    else none
    else none
    else kx n4
def spec_l3Add_l2 (F : Nat) (all0 : List (List Int)) (b5 : List Int) (n4 : Int) : Option (Int) := loopC (spec_l3Add_s2 F all0 b5) F n4 some
theorem spec_l3Add_s2_nat (F : Nat) (all0 : List (List Int)) (b5 : List Int) : Natural (spec_l3Add_s2 F all0 b5) := by
  intro Q Q' s kn kx h
  simp only [spec_l3Add_s2, cond_bindL, none_bindL]
/-- loop.example/g01194/spec.l3Add -/
def spec_l3Add_c (Q : Type) (F : Nat) (all0 : List (List Int)) (b1 : List Int) (k : (List (List Int)) → Option Q) : Option Q :=
    let z_1 := (spec_l3Add_l2 F all0 b1 (0 : Int))
    let z_2 : Nat := (Int.toNat (Option.getD z_1 default))
    let z_3 : Bool := (inLe (Option.getD z_1 default) (List.length all0))
    let z_4 : List (List Int) := (subn (List.length all0) all0 0 (z_2 - (0 : Nat)))
    let z_5 : Nat := (List.length z_4)
    let z_6 : Bool := (fits z_5 128)
    let z_7 : List (List Int) := ((subn z_5 z_4 0 z_5) ++ [b1])
    let z_8 : Nat := (List.length z_7)
    let z_9 : Bool := (fits z_8 128)
    let z_10 : List (List Int) := ((subn z_8 z_7 0 z_8) ++ (subn (List.length all0) all0 z_2 ((List.length all0) - z_2)))
    let z_11 : Nat := (List.length z_10)
    let z_12 : Bool := (fits z_11 128)
    let z_13 : List (List Int) := (subn z_11 z_10 0 z_11)
    bif (Option.isSome z_1) then
    bif (decide ((Option.getD z_1 default) < (((List.length all0) : Nat) : Int))) then
    bif (inR (Option.getD z_1 default) (List.length all0)) then
    bif ((rget all0 z_2) == b1) then
    k all0
    else bif z_3 then
    bif z_6 then
    bif z_9 then
    bif z_3 then
    bif z_12 then
    k z_13
    else none
    else none
    else none
    else none
    else none
    else none
    else bif z_3 then
    bif z_6 then
    bif z_9 then
    bif z_3 then
    bif z_12 then
    k z_13
    else none
    else none
    else none
    else none
    else none
    else none
def spec_l3Add_p (F : Nat) (all0 : List (List Int)) (b1 : List Int) : Option (List (List Int)) := spec_l3Add_c _ F all0 b1 some
theorem spec_l3Add_cp (Q : Type) (F : Nat) (all0 : List (List Int)) (b1 : List Int) (k : (List (List Int)) → Option Q) : spec_l3Add_c Q F all0 b1 k = (spec_l3Add_p F all0 b1).bind k := by
  simp only [spec_l3Add_p, spec_l3Add_c, cond_bindL, none_bindL, some_bindL]

/-- loop 6 of loop.example/g01194/spec.l5Next -/
def spec_l5Next_s6 (F : Nat) (all0 : List (List Int)) (i2 : Int) (Q : Type) : (List (List Int) × Int) → ((List (List Int) × Int) → Option Q) → ((List (List Int)) → Option Q) → Option Q
  | (out1, d3), kn, kx =>
    let z_1 := (spec_l2Slide_p F (rget all0 (Int.toNat i2)) d3)
    let z_2 := (spec_l3Add_p F out1 (Option.getD z_1 default).1)
    bif (decide (d3 < (4 : Int))) then
    bif (inR i2 (List.length all0)) then
    bif (Option.isSome z_1) then
    bif (Option.isSome z_2) then
    kn ((Option.getD z_2 default), (IntKind.wrap .i64 (d3 + (1 : Int))))
    else none
    else none
    else none
    else kx out1
def spec_l5Next_l6 (F : Nat) (all0 : List (List Int)) (i2 : Int) (out1 : List (List Int)) (d3 : Int) : Option (List (List Int)) := loopC (spec_l5Next_s6 F all0 i2) F (out1, d3) some
theorem spec_l5Next_s6_nat (F : Nat) (all0 : List (List Int)) (i2 : Int) : Natural (spec_l5Next_s6 F all0 i2) := by
  intro Q Q' s kn kx h
  obtain ⟨out1, d3⟩ := s
  simp only [spec_l5Next_s6, cond_bindL, none_bindL]
/-- loop 3 of loop.example/g01194/spec.l5Next -/
def spec_l5Next_s3 (F : Nat) (all0 : List (List Int)) (Q : Type) : (List (List Int) × Int) → ((List (List Int) × Int) → Option Q) → ((List (List Int)) → Option Q) → Option Q
  | (out1, i2), kn, kx =>
    let z_1 := (spec_l5Next_l6 F all0 i2 out1 (0 : Int))
    bif (decide (i2 < (((List.length all0) : Nat) : Int))) then
    bif (Option.isSome z_1) then
    kn ((Option.getD z_1 default), (IntKind.wrap .i64 (i2 + (1 : Int))))
    else none
    else kx out1
def spec_l5Next_l3 (F : Nat) (all0 : List (List Int)) (out1 : List (List Int)) (i2 : Int) : Option (List (List Int)) := loopC (spec_l5Next_s3 F all0) F (out1, i2) some
theorem spec_l5Next_s3_nat (F : Nat) (all0 : List (List Int)) : Natural (spec_l5Next_s3 F all0) := by
  intro Q Q' s kn kx h
  obtain ⟨out1, i2⟩ := s
  simp only [spec_l5Next_s3, cond_bindL, none_bindL]
/-- loop.example/g01194/spec.l5Next -/
def spec_l5Next_c (Q : Type) (F : Nat) (all0 : List (List Int)) (k : (List (List Int)) → Option Q) : Option Q :=
    let z_1 := (spec_l5Next_l3 F all0 all0 (0 : Int))
    bif (Option.isSome z_1) then
    k (Option.getD z_1 default)
    else none
def spec_l5Next_p (F : Nat) (all0 : List (List Int)) : Option (List (List Int)) := spec_l5Next_c _ F all0 some
theorem spec_l5Next_cp (Q : Type) (F : Nat) (all0 : List (List Int)) (k : (List (List Int)) → Option Q) : spec_l5Next_c Q F all0 k = (spec_l5Next_p F all0).bind k := by
  simp only [spec_l5Next_p, spec_l5Next_c, cond_bindL, none_bindL, some_bindL]

/-- loop 3 of loop.example/g01194/spec.l5Reach -/
def spec_l5Reach_s3 (F : Nat) (n0 : Int) (Q : Type) : (List (List Int) × Int) → ((List (List Int) × Int) → Option Q) → ((List (List Int)) → Option Q) → Option Q
  | (all1, i2), kn, kx =>
    let z_1 := (spec_l5Next_p F all1)
    bif (decide (i2 < n0)) then
    bif (Option.isSome z_1) then
    kn ((Option.getD z_1 default), (IntKind.wrap .i64 (i2 + (1 : Int))))
    else none
    else kx all1
def spec_l5Reach_l3 (F : Nat) (n0 : Int) (all1 : List (List Int)) (i2 : Int) : Option (List (List Int)) := loopC (spec_l5Reach_s3 F n0) F (all1, i2) some
theorem spec_l5Reach_s3_nat (F : Nat) (n0 : Int) : Natural (spec_l5Reach_s3 F n0) := by
  intro Q Q' s kn kx h
  obtain ⟨all1, i2⟩ := s
  simp only [spec_l5Reach_s3, cond_bindL, none_bindL]
/-- loop.example/g01194/spec.l5Reach -/
def spec_l5Reach_c (Q : Type) (F : Nat) (b0 : List Int) (n1 : Int) (k : (List (List Int)) → Option Q) : Option Q :=
    let z_1 := (spec_l5Reach_l3 F n1 [b0] (0 : Int))
    bif (Option.isSome z_1) then
    k (Option.getD z_1 default)
    else none
def spec_l5Reach_p (F : Nat) (b0 : List Int) (n1 : Int) : Option (List (List Int)) := spec_l5Reach_c _ F b0 n1 some
theorem spec_l5Reach_cp (Q : Type) (F : Nat) (b0 : List Int) (n1 : Int) (k : (List (List Int)) → Option Q) : spec_l5Reach_c Q F b0 n1 k = (spec_l5Reach_p F b0 n1).bind k := by
  simp only [spec_l5Reach_p, spec_l5Reach_c, cond_bindL, none_bindL, some_bindL]
end Go.Lv.P
