/-
Pure functions and what the code of them does, by program; without conditions.
-/
import Derived.Test.YtgpadaadcepgaaaLv3
namespace Go.Lv.P
open Go Go.Lv
set_option linter.unusedVariables false
set_option linter.unusedSimpArgs false
set_option maxRecDepth 100000
/-- loop.example/g01194/laws.toIntA4 -/
def laws_toIntA4_c (Q : Type) (a0 : List Int) (k : (List Int) → Option Q) : Option Q :=
    k [(iget a0 0), (iget a0 1), (iget a0 2), (iget a0 3)]
def laws_toIntA4_v (a0 : List Int) : List Int :=
    [(iget a0 0), (iget a0 1), (iget a0 2), (iget a0 3)]
theorem laws_toIntA4_cv (Q : Type) (a0 : List Int) (k : (List Int) → Option Q) : laws_toIntA4_c Q a0 k = k (laws_toIntA4_v a0) := by
  simp only [laws_toIntA4_c, laws_toIntA4_v, app_condL k]

/-- loop.example/g01194/laws.toIntA4A4 -/
def laws_toIntA4A4_c (Q : Type) (a0 : List Int) (k : (List Int) → Option Q) : Option Q :=
    k (splice (splice (splice (splice [(0 : Int), (0 : Int), (0 : Int), (0 : Int), (0 : Int), (0 : Int), (0 : Int), (0 : Int), (0 : Int), (0 : Int), (0 : Int), (0 : Int), (0 : Int), (0 : Int), (0 : Int), (0 : Int)] 0 (laws_toIntA4_v (sub a0 0 4)) 4) 4 (laws_toIntA4_v (sub a0 4 4)) 4) 8 (laws_toIntA4_v (sub a0 8 4)) 4) 12 (laws_toIntA4_v (sub a0 12 4)) 4)
def laws_toIntA4A4_v (a0 : List Int) : List Int :=
    (splice (splice (splice (splice [(0 : Int), (0 : Int), (0 : Int), (0 : Int), (0 : Int), (0 : Int), (0 : Int), (0 : Int), (0 : Int), (0 : Int), (0 : Int), (0 : Int), (0 : Int), (0 : Int), (0 : Int), (0 : Int)] 0 (laws_toIntA4_v (sub a0 0 4)) 4) 4 (laws_toIntA4_v (sub a0 4 4)) 4) 8 (laws_toIntA4_v (sub a0 8 4)) 4) 12 (laws_toIntA4_v (sub a0 12 4)) 4)
theorem laws_toIntA4A4_cv (Q : Type) (a0 : List Int) (k : (List Int) → Option Q) : laws_toIntA4A4_c Q a0 k = k (laws_toIntA4A4_v a0) := by
  simp only [laws_toIntA4A4_c, laws_toIntA4A4_v, app_condL k]

/-- loop.example/g01194/laws.toBoard -/
def laws_toBoard_c (Q : Type) (a0 : List Int) (k : (List Int) → Option Q) : Option Q :=
    k (laws_toIntA4A4_v a0)
def laws_toBoard_v (a0 : List Int) : List Int :=
    (laws_toIntA4A4_v a0)
theorem laws_toBoard_cv (Q : Type) (a0 : List Int) (k : (List Int) → Option Q) : laws_toBoard_c Q a0 k = k (laws_toBoard_v a0) := by
  simp only [laws_toBoard_c, laws_toBoard_v, app_condL k]

/-- loop.example/g01194/spec.l1In -/
def spec_l1In_c (Q : Type) (x0 : Int) (a1 : Int) (b2 : Int) (k : (Bool) → Option Q) : Option Q :=
    bif (decide (a1 ≤ x0)) then
    k (decide (x0 ≤ b2))
    else k false
def spec_l1In_v (x0 : Int) (a1 : Int) (b2 : Int) : Bool :=
    bif (decide (a1 ≤ x0)) then
    (decide (x0 ≤ b2))
    else false
theorem spec_l1In_cv (Q : Type) (x0 : Int) (a1 : Int) (b2 : Int) (k : (Bool) → Option Q) : spec_l1In_c Q x0 a1 b2 k = k (spec_l1In_v x0 a1 b2) := by
  simp only [spec_l1In_c, spec_l1In_v, app_condL k]

/-- loop 5 of loop.example/g01194/spec.l2Board -/
def spec_l2Board_s5 (F : Nat) (r3 : Int) (b5 : List Int) (Q : Type) : (Int) → ((Int) → Option Q) → ((Bool) → Option Q) → Option Q
  | c4, kn, kx =>
    bif (decide (c4 < (4 : Int))) then
    bif (inR r3 4) then
    bif (inR c4 4) then
    bif (!(spec_l1In_v (iget b5 (((0 : Nat) + ((Int.toNat r3) * (4 : Nat))) + ((Int.toNat c4) * (1 : Nat)))) (0 : Int) (17 : Int))) then
    kx true
    else kn (IntKind.wrap .i64 (c4 + (1 : Int)))
    else none
    else none
    else kx false
def spec_l2Board_l5 (F : Nat) (r3 : Int) (b5 : List Int) (c4 : Int) : Option (Bool) := loopC (spec_l2Board_s5 F r3 b5) F c4 some
theorem spec_l2Board_s5_nat (F : Nat) (r3 : Int) (b5 : List Int) : Natural (spec_l2Board_s5 F r3 b5) := by
  intro Q Q' s kn kx h
  simp only [spec_l2Board_s5, cond_bindL, none_bindL]
/-- loop 2 of loop.example/g01194/spec.l2Board -/
def spec_l2Board_s2 (F : Nat) (b4 : List Int) (Q : Type) : (Int) → ((Int) → Option Q) → ((Bool) → Option Q) → Option Q
  | r3, kn, kx =>
    let z_1 := (spec_l2Board_l5 F r3 b4 (0 : Int))
    bif (decide (r3 < (4 : Int))) then
    bif (Option.isSome z_1) then
    bif (Option.getD z_1 default) then
    kx true
    else kn (IntKind.wrap .i64 (r3 + (1 : Int)))
    else none
    else kx false
def spec_l2Board_l2 (F : Nat) (b4 : List Int) (r3 : Int) : Option (Bool) := loopC (spec_l2Board_s2 F b4) F r3 some
theorem spec_l2Board_s2_nat (F : Nat) (b4 : List Int) : Natural (spec_l2Board_s2 F b4) := by
  intro Q Q' s kn kx h
  simp only [spec_l2Board_s2, cond_bindL, none_bindL]
/-- loop.example/g01194/spec.l2Board -/
def spec_l2Board_c (Q : Type) (F : Nat) (b0 : List Int) (k : (Bool) → Option Q) : Option Q :=
    let z_1 := (spec_l2Board_l2 F b0 (0 : Int))
    bif (Option.isSome z_1) then
    bif (Option.getD z_1 default) then
    k false
    else k true
    else none
def spec_l2Board_p (F : Nat) (b0 : List Int) : Option (Bool) := spec_l2Board_c _ F b0 some
theorem spec_l2Board_cp (Q : Type) (F : Nat) (b0 : List Int) (k : (Bool) → Option Q) : spec_l2Board_c Q F b0 k = (spec_l2Board_p F b0).bind k := by
  simp only [spec_l2Board_p, spec_l2Board_c, cond_bindL, none_bindL, some_bindL]

/-- loop.example/g01194/spec.l2Side -/
def spec_l2Side_c (Q : Type) (d0 : Int) (k : (Bool) → Option Q) : Option Q :=
    k (spec_l1In_v d0 (0 : Int) (3 : Int))
def spec_l2Side_v (d0 : Int) : Bool :=
    (spec_l1In_v d0 (0 : Int) (3 : Int))
theorem spec_l2Side_cv (Q : Type) (d0 : Int) (k : (Bool) → Option Q) : spec_l2Side_c Q d0 k = k (spec_l2Side_v d0) := by
  simp only [spec_l2Side_c, spec_l2Side_v, app_condL k]

/-- loop 3 of loop.example/g01194/spec.l2Line -/
def spec_l2Line_s3 (F : Nat) (d0 : Int) (i1 : Int) (Q : Type) : (Int × List Int) → ((Int × List Int) → Option Q) → ((List Int) → Option Q) → Option Q
  | (k8, out10), kn, kx =>
    let z_1 : Int := (IntKind.wrap .i64 (k8 + (1 : Int)))
    let z_2 : Nat := ((0 : Nat) + ((Int.toNat k8) * (2 : Nat)))
    let z_3 : Int := (IntKind.wrap .i64 ((3 : Int) - k8))
    bif (decide (k8 < (4 : Int))) then
    bif (d0 == (0 : Int)) then
    bif (inR k8 4) then
    kn (z_1, (splicen 8 out10 z_2 [i1, k8] 2))
    else none
    else bif (d0 == (1 : Int)) then
    bif (inR k8 4) then
    kn (z_1, (splicen 8 out10 z_2 [k8, i1] 2))
    else none
    else bif (d0 == (2 : Int)) then
    bif (inR k8 4) then
    kn (z_1, (splicen 8 out10 z_2 [i1, z_3] 2))
    else none
    else bif (inR k8 4) then
    kn (z_1, (splicen 8 out10 z_2 [z_3, i1] 2))
    else none
    else kx out10
def spec_l2Line_l3 (F : Nat) (d0 : Int) (i1 : Int) (k8 : Int) (out10 : List Int) : Option (List Int) := loopC (spec_l2Line_s3 F d0 i1) F (k8, out10) some
theorem spec_l2Line_s3_nat (F : Nat) (d0 : Int) (i1 : Int) : Natural (spec_l2Line_s3 F d0 i1) := by
  intro Q Q' s kn kx h
  obtain ⟨k8, out10⟩ := s
  simp only [spec_l2Line_s3, cond_bindL, none_bindL]
/-- loop.example/g01194/spec.l2Line -/
def spec_l2Line_c (Q : Type) (F : Nat) (d0 : Int) (i1 : Int) (k : (List Int) → Option Q) : Option Q :=
    let z_1 := (spec_l2Line_l3 F d0 i1 (0 : Int) [(0 : Int), (0 : Int), (0 : Int), (0 : Int), (0 : Int), (0 : Int), (0 : Int), (0 : Int)])
    bif (Option.isSome z_1) then
    k (Option.getD z_1 default)
    else none
def spec_l2Line_p (F : Nat) (d0 : Int) (i1 : Int) : Option (List Int) := spec_l2Line_c _ F d0 i1 some
theorem spec_l2Line_cp (Q : Type) (F : Nat) (d0 : Int) (i1 : Int) (k : (List Int) → Option Q) : spec_l2Line_c Q F d0 i1 k = (spec_l2Line_p F d0 i1).bind k := by
  simp only [spec_l2Line_p, spec_l2Line_c, cond_bindL, none_bindL, some_bindL]

/-- loop.example/g01194/spec.l2At -/
def spec_l2At_c (Q : Type) (b0 : List Int) (cell1 : List Int) (k : (Int) → Option Q) : Option Q :=
    bif (inR (iget cell1 0) 4) then
    bif (inR (iget cell1 1) 4) then
    k (iget b0 (((0 : Nat) + ((Int.toNat (iget cell1 0)) * (4 : Nat))) + ((Int.toNat (iget cell1 1)) * (1 : Nat))))
    else none
    else none
def spec_l2At_p (b0 : List Int) (cell1 : List Int) : Option (Int) := spec_l2At_c _ b0 cell1 some
theorem spec_l2At_cp (Q : Type) (b0 : List Int) (cell1 : List Int) (k : (Int) → Option Q) : spec_l2At_c Q b0 cell1 k = (spec_l2At_p b0 cell1).bind k := by
  simp only [spec_l2At_p, spec_l2At_c, cond_bindL, none_bindL, some_bindL]

/-- loop.example/g01194/spec.l2Numbers -/
def spec_l2Numbers_c (Q : Type) (F : Nat) (b0 : List Int) (d1 : Int) (i2 : Int) (k : (List Int) → Option Q) : Option Q :=
    let z_1 := (spec_l2Line_p F d1 i2)
    let z_2 := (spec_l2At_p b0 (sub (Option.getD z_1 default) 0 2))
    let z_3 := (spec_l2At_p b0 (sub (Option.getD z_1 default) 2 2))
    let z_4 := (spec_l2At_p b0 (sub (Option.getD z_1 default) 4 2))
    let z_5 := (spec_l2At_p b0 (sub (Option.getD z_1 default) 6 2))
    bif (Option.isSome z_1) then
    bif (Option.isSome z_2) then
    bif (Option.isSome z_3) then
    bif (Option.isSome z_4) then
    bif (Option.isSome z_5) then
    k [(Option.getD z_2 default), (Option.getD z_3 default), (Option.getD z_4 default), (Option.getD z_5 default)]
    else none
    else none
    else none
    else none
    else none
def spec_l2Numbers_p (F : Nat) (b0 : List Int) (d1 : Int) (i2 : Int) : Option (List Int) := spec_l2Numbers_c _ F b0 d1 i2 some
theorem spec_l2Numbers_cp (Q : Type) (F : Nat) (b0 : List Int) (d1 : Int) (i2 : Int) (k : (List Int) → Option Q) : spec_l2Numbers_c Q F b0 d1 i2 k = (spec_l2Numbers_p F b0 d1 i2).bind k := by
  simp only [spec_l2Numbers_p, spec_l2Numbers_c, cond_bindL, none_bindL, some_bindL]

/-- loop.example/g01194/spec.l2Worth -/
def spec_l2Worth_c (Q : Type) (t0 : Int) (k : (Int) → Option Q) : Option Q :=
    bif (decide (t0 < (0 : Int))) then
    none
    else k (IntKind.wrap .i64 ((1 : Int) * (2 ^ (min (Int.toNat t0) (IntKind.bits .i64)) : Int)))
def spec_l2Worth_p (t0 : Int) : Option (Int) := spec_l2Worth_c _ t0 some
theorem spec_l2Worth_cp (Q : Type) (t0 : Int) (k : (Int) → Option Q) : spec_l2Worth_c Q t0 k = (spec_l2Worth_p t0).bind k := by
  simp only [spec_l2Worth_p, spec_l2Worth_c, cond_bindL, none_bindL, some_bindL]

/-- loop 3 of loop.example/g01194/spec.l2Row -/
def spec_l2Row_s3 (F : Nat) (row13 : List Int) (Q : Type) : (Int × Int × Bool × Int × List Int) → ((Int × Int × Bool × Int × List Int) → Option Q) → ((Int × List Int) → Option Q) → Option Q
  | (n9, score10, merged11, k12, out15), kn, kx =>
    let z_1 : Int := (iget row13 ((0 : Nat) + ((Int.toNat k12) * (1 : Nat))))
    let z_2 : Int := (IntKind.wrap .i64 (k12 + (1 : Int)))
    let z_3 : Int := (IntKind.wrap .i64 (n9 - (1 : Int)))
    let z_4 : Bool := (inR z_3 4)
    let z_5 : Nat := ((0 : Nat) + ((Int.toNat z_3) * (1 : Nat)))
    let z_6 : Int := (IntKind.wrap .i64 (z_1 + (1 : Int)))
    let z_7 : Int := (IntKind.wrap .i64 (n9 + (1 : Int)))
    let z_8 : List Int := (iset out15 ((0 : Nat) + ((Int.toNat n9) * (1 : Nat))) z_1)
    bif (decide (k12 < (4 : Int))) then
    bif (inR k12 4) then
    bif (z_1 == (0 : Int)) then
    kn (n9, score10, merged11, z_2, out15)
    else bif (decide ((0 : Int) < n9)) then
    bif z_4 then
    bif (inR k12 4) then
    bif ((iget out15 z_5) == z_1) then
    bif (inR k12 4) then
    bif (decide (z_1 < (17 : Int))) then
    bif (!merged11) then
    bif (inR k12 4) then
    bif z_4 then
    bif (inR k12 4) then
    bif (Option.isSome (spec_l2Worth_p z_6)) then
    kn (n9, (IntKind.wrap .i64 (score10 + (Option.getD (spec_l2Worth_p z_6) default))), true, z_2, (iset out15 z_5 z_6))
    else none
    else none
    else none
    else none
    else bif (inR k12 4) then
    bif (inR n9 4) then
    kn (z_7, score10, false, z_2, z_8)
    else none
    else none
    else bif (inR k12 4) then
    bif (inR n9 4) then
    kn (z_7, score10, false, z_2, z_8)
    else none
    else none
    else none
    else bif (inR k12 4) then
    bif (inR n9 4) then
    kn (z_7, score10, false, z_2, z_8)
    else none
    else none
    else none
    else none
    else bif (inR k12 4) then
    bif (inR n9 4) then
    kn (z_7, score10, false, z_2, z_8)
    else none
    else none
    else none
    else kx (score10, out15)
def spec_l2Row_l3 (F : Nat) (row13 : List Int) (n9 : Int) (score10 : Int) (merged11 : Bool) (k12 : Int) (out15 : List Int) : Option (Int × List Int) := loopC (spec_l2Row_s3 F row13) F (n9, score10, merged11, k12, out15) some
theorem spec_l2Row_s3_nat (F : Nat) (row13 : List Int) : Natural (spec_l2Row_s3 F row13) := by
  intro Q Q' s kn kx h
  obtain ⟨n9, score10, merged11, k12, out15⟩ := s
  simp only [spec_l2Row_s3, cond_bindL, none_bindL]
/-- loop.example/g01194/spec.l2Row -/
def spec_l2Row_c (Q : Type) (F : Nat) (row0 : List Int) (k : (List Int × Int) → Option Q) : Option Q :=
    let z_1 := (spec_l2Row_l3 F row0 (0 : Int) (0 : Int) false (0 : Int) [(0 : Int), (0 : Int), (0 : Int), (0 : Int)])
    let z_2 := (Option.getD z_1 default)
    bif (Option.isSome z_1) then
    k (z_2.2, z_2.1)
    else none
def spec_l2Row_p (F : Nat) (row0 : List Int) : Option (List Int × Int) := spec_l2Row_c _ F row0 some
theorem spec_l2Row_cp (Q : Type) (F : Nat) (row0 : List Int) (k : (List Int × Int) → Option Q) : spec_l2Row_c Q F row0 k = (spec_l2Row_p F row0).bind k := by
  simp only [spec_l2Row_p, spec_l2Row_c, cond_bindL, none_bindL, some_bindL]

/-- loop.example/g01194/spec.l2Put -/
def spec_l2Put_c (Q : Type) (b0 : List Int) (cell1 : List Int) (t2 : Int) (k : (List Int) → Option Q) : Option Q :=
    bif (inR (iget cell1 0) 4) then
    bif (inR (iget cell1 1) 4) then
    k (iset b0 (((0 : Nat) + ((Int.toNat (iget cell1 0)) * (4 : Nat))) + ((Int.toNat (iget cell1 1)) * (1 : Nat))) t2)
    else none
    else none
def spec_l2Put_p (b0 : List Int) (cell1 : List Int) (t2 : Int) : Option (List Int) := spec_l2Put_c _ b0 cell1 t2 some
theorem spec_l2Put_cp (Q : Type) (b0 : List Int) (cell1 : List Int) (t2 : Int) (k : (List Int) → Option Q) : spec_l2Put_c Q b0 cell1 t2 k = (spec_l2Put_p b0 cell1 t2).bind k := by
  simp only [spec_l2Put_p, spec_l2Put_c, cond_bindL, none_bindL, some_bindL]

/-- loop 3 of loop.example/g01194/spec.l2Slide -/
def spec_l2Slide_s3 (F : Nat) (d0 : Int) (b12 : List Int) (Q : Type) : (Int × Int × List Int) → ((Int × Int × List Int) → Option Q) → ((Int × List Int) → Option Q) → Option Q
  | (sum10, i11, out14), kn, kx =>
    let z_1 := (spec_l2Numbers_p F b12 d0 i11)
    let z_2 := (spec_l2Row_p F (Option.getD z_1 default))
    let z_3 := (spec_l2Line_p F d0 i11)
    let z_4 := (Option.getD z_2 default)
    let z_5 := (spec_l2Put_p out14 (sub (Option.getD z_3 default) 0 2) (iget z_4.1 0))
    let z_6 := (spec_l2Put_p (Option.getD z_5 default) (sub (Option.getD z_3 default) 2 2) (iget z_4.1 1))
    let z_7 := (spec_l2Put_p (Option.getD z_6 default) (sub (Option.getD z_3 default) 4 2) (iget z_4.1 2))
    let z_8 := (spec_l2Put_p (Option.getD z_7 default) (sub (Option.getD z_3 default) 6 2) (iget z_4.1 3))
    bif (decide (i11 < (4 : Int))) then
    bif (Option.isSome z_1) then
    bif (Option.isSome z_2) then
    bif (Option.isSome z_3) then
    bif (Option.isSome z_5) then
    bif (Option.isSome z_6) then
    bif (Option.isSome z_7) then
    bif (Option.isSome z_8) then
    kn ((IntKind.wrap .i64 (sum10 + z_4.2)), (IntKind.wrap .i64 (i11 + (1 : Int))), (Option.getD z_8 default))
    else none
    else none
    else none
    else none
    else none
    else none
    else none
    else kx (sum10, out14)
def spec_l2Slide_l3 (F : Nat) (d0 : Int) (b12 : List Int) (sum10 : Int) (i11 : Int) (out14 : List Int) : Option (Int × List Int) := loopC (spec_l2Slide_s3 F d0 b12) F (sum10, i11, out14) some
theorem spec_l2Slide_s3_nat (F : Nat) (d0 : Int) (b12 : List Int) : Natural (spec_l2Slide_s3 F d0 b12) := by
  intro Q Q' s kn kx h
  obtain ⟨sum10, i11, out14⟩ := s
  simp only [spec_l2Slide_s3, cond_bindL, none_bindL]
/-- loop.example/g01194/spec.l2Slide -/
def spec_l2Slide_c (Q : Type) (F : Nat) (b0 : List Int) (d1 : Int) (k : (List Int × Int) → Option Q) : Option Q :=
    let z_1 := (spec_l2Slide_l3 F d1 b0 (0 : Int) (0 : Int) b0)
    let z_2 := (Option.getD z_1 default)
    bif (Option.isSome z_1) then
    k (z_2.2, z_2.1)
    else none
def spec_l2Slide_p (F : Nat) (b0 : List Int) (d1 : Int) : Option (List Int × Int) := spec_l2Slide_c _ F b0 d1 some
theorem spec_l2Slide_cp (Q : Type) (F : Nat) (b0 : List Int) (d1 : Int) (k : (List Int × Int) → Option Q) : spec_l2Slide_c Q F b0 d1 k = (spec_l2Slide_p F b0 d1).bind k := by
  simp only [spec_l2Slide_p, spec_l2Slide_c, cond_bindL, none_bindL, some_bindL]

/-- loop 6 of loop.example/g01194/spec.l2Empty -/
def spec_l2Empty_s6 (F : Nat) (r5 : Int) (b7 : List Int) (Q : Type) : (Int × List (List Int)) → ((Int × List (List Int)) → Option Q) → ((List (List Int)) → Option Q) → Option Q
  | (c6, out8), kn, kx =>
    let z_1 : List (List Int) := ((subn (List.length out8) out8 0 (List.length out8)) ++ [[r5, c6]])
    let z_2 : Int := (IntKind.wrap .i64 (c6 + (1 : Int)))
    bif (decide (c6 < (4 : Int))) then
    bif (inR r5 4) then
    bif (inR c6 4) then
    bif ((iget b7 (((0 : Nat) + ((Int.toNat r5) * (4 : Nat))) + ((Int.toNat c6) * (1 : Nat)))) == (0 : Int)) then
    bif (fits (List.length z_1) 16) then
    kn (z_2, z_1)
    else none
    else kn (z_2, out8)
    else none
    else none
    else kx out8
def spec_l2Empty_l6 (F : Nat) (r5 : Int) (b7 : List Int) (c6 : Int) (out8 : List (List Int)) : Option (List (List Int)) := loopC (spec_l2Empty_s6 F r5 b7) F (c6, out8) some
theorem spec_l2Empty_s6_nat (F : Nat) (r5 : Int) (b7 : List Int) : Natural (spec_l2Empty_s6 F r5 b7) := by
  intro Q Q' s kn kx h
  obtain ⟨c6, out8⟩ := s
  simp only [spec_l2Empty_s6, cond_bindL, none_bindL]
/-- loop 3 of loop.example/g01194/spec.l2Empty -/
def spec_l2Empty_s3 (F : Nat) (b6 : List Int) (Q : Type) : (Int × List (List Int)) → ((Int × List (List Int)) → Option Q) → ((List (List Int)) → Option Q) → Option Q
  | (r5, out7), kn, kx =>
    let z_1 := (spec_l2Empty_l6 F r5 b6 (0 : Int) out7)
    bif (decide (r5 < (4 : Int))) then
    bif ((Nat.beq (List.length out7) (List.length out7)) && (Option.isSome z_1)) then
    kn ((IntKind.wrap .i64 (r5 + (1 : Int))), (Option.getD z_1 default))
    else none
    else kx out7
def spec_l2Empty_l3 (F : Nat) (b6 : List Int) (r5 : Int) (out7 : List (List Int)) : Option (List (List Int)) := loopC (spec_l2Empty_s3 F b6) F (r5, out7) some
theorem spec_l2Empty_s3_nat (F : Nat) (b6 : List Int) : Natural (spec_l2Empty_s3 F b6) := by
  intro Q Q' s kn kx h
  obtain ⟨r5, out7⟩ := s
  simp only [spec_l2Empty_s3, cond_bindL, none_bindL]
/-- loop.example/g01194/spec.l2Empty -/
def spec_l2Empty_c (Q : Type) (F : Nat) (b0 : List Int) (k : (List (List Int)) → Option Q) : Option Q :=
    let z_1 := (spec_l2Empty_l3 F b0 (0 : Int) ([] : List (List Int)))
    bif (Option.isSome z_1) then
    k (Option.getD z_1 default)
    else none
def spec_l2Empty_p (F : Nat) (b0 : List Int) : Option (List (List Int)) := spec_l2Empty_c _ F b0 some
theorem spec_l2Empty_cp (Q : Type) (F : Nat) (b0 : List Int) (k : (List (List Int)) → Option Q) : spec_l2Empty_c Q F b0 k = (spec_l2Empty_p F b0).bind k := by
  simp only [spec_l2Empty_p, spec_l2Empty_c, cond_bindL, none_bindL, some_bindL]

/-- loop 7 of loop.example/g01194/spec.l5Steps -/
def spec_l5Steps_s7 (F : Nat) (d0 : Int) (empty7 : List (List Int)) (Q : Type) : (Int × List (List Int)) → ((Int × List (List Int)) → Option Q) → ((List (List Int)) → Option Q) → Option Q
  | (i5, out6), kn, kx =>
    let z_1 : Bool := (inR i5 (List.length empty7))
    let z_2 : List Int := (splice [d0, (0 : Int), (0 : Int), (0 : Int)] 1 (rget empty7 ((0 : Nat) + (Int.toNat i5))) 2)
    let z_3 : List (List Int) := ((subn (List.length out6) out6 0 (List.length out6)) ++ [(iset z_2 3 (1 : Int)), (iset z_2 3 (2 : Int))])
    bif (decide (i5 < (((List.length empty7) : Nat) : Int))) then
    bif z_1 then
    bif z_1 then
    bif (fits (List.length z_3) 32) then
    kn ((IntKind.wrap .i64 (i5 + (1 : Int))), z_3)
    else none
    else none
    else none
    else kx out6
def spec_l5Steps_l7 (F : Nat) (d0 : Int) (empty7 : List (List Int)) (i5 : Int) (out6 : List (List Int)) : Option (List (List Int)) := loopC (spec_l5Steps_s7 F d0 empty7) F (i5, out6) some
theorem spec_l5Steps_s7_nat (F : Nat) (d0 : Int) (empty7 : List (List Int)) : Natural (spec_l5Steps_s7 F d0 empty7) := by
  intro Q Q' s kn kx h
  obtain ⟨i5, out6⟩ := s
  simp only [spec_l5Steps_s7, cond_bindL, none_bindL]
/-- loop.example/g01194/spec.l5Steps -/
def spec_l5Steps_c (Q : Type) (F : Nat) (b0 : List Int) (d1 : Int) (k : (List (List Int)) → Option Q) : Option Q :=
    let z_1 := (spec_l2Slide_p F b0 d1)
    let z_2 := (spec_l2Empty_p F (Option.getD z_1 default).1)
    let z_3 : Nat := (List.length (Option.getD z_2 default))
    let z_4 := (spec_l5Steps_l7 F d1 (Option.getD z_2 default) (0 : Int) ([] : List (List Int)))
    bif (Option.isSome z_1) then
    bif ((Option.getD z_1 default).1 == b0) then
    k ([] : List (List Int))
    else bif (Option.isSome z_2) then
    bif ((Nat.beq z_3 z_3) && (Option.isSome z_4)) then
    k (Option.getD z_4 default)
    else none
    else none
    else none
def spec_l5Steps_p (F : Nat) (b0 : List Int) (d1 : Int) : Option (List (List Int)) := spec_l5Steps_c _ F b0 d1 some
theorem spec_l5Steps_cp (Q : Type) (F : Nat) (b0 : List Int) (d1 : Int) (k : (List (List Int)) → Option Q) : spec_l5Steps_c Q F b0 d1 k = (spec_l5Steps_p F b0 d1).bind k := by
  simp only [spec_l5Steps_p, spec_l5Steps_c, cond_bindL, none_bindL, some_bindL]

/-- loop.example/g01194/spec.l9Move -/
def spec_l9Move_c (Q : Type) (F : Nat) (b0 : List Int) (d1 : Int) (k : (Bool) → Option Q) : Option Q :=
    let z_1 := (spec_l2Board_p F b0)
    let z_2 := (spec_l5Steps_p F b0 d1)
    bif (Option.isSome z_1) then
    bif (Option.getD z_1 default) then
    bif (spec_l2Side_v d1) then
    bif (Option.isSome z_2) then
    k (decide ((0 : Int) < (((List.length (Option.getD z_2 default)) : Nat) : Int)))
    else none
    else k false
    else k false
    else none
def spec_l9Move_p (F : Nat) (b0 : List Int) (d1 : Int) : Option (Bool) := spec_l9Move_c _ F b0 d1 some
theorem spec_l9Move_cp (Q : Type) (F : Nat) (b0 : List Int) (d1 : Int) (k : (Bool) → Option Q) : spec_l9Move_c Q F b0 d1 k = (spec_l9Move_p F b0 d1).bind k := by
  simp only [spec_l9Move_p, spec_l9Move_c, cond_bindL, none_bindL, some_bindL]

/-- loop.example/g01194/spec.l2Cell -/
def spec_l2Cell_c (Q : Type) (cell0 : List Int) (k : (Bool) → Option Q) : Option Q :=
    bif (spec_l1In_v (iget cell0 0) (0 : Int) (3 : Int)) then
    k (spec_l1In_v (iget cell0 1) (0 : Int) (3 : Int))
    else k false
def spec_l2Cell_v (cell0 : List Int) : Bool :=
    bif (spec_l1In_v (iget cell0 0) (0 : Int) (3 : Int)) then
    (spec_l1In_v (iget cell0 1) (0 : Int) (3 : Int))
    else false
theorem spec_l2Cell_cv (Q : Type) (cell0 : List Int) (k : (Bool) → Option Q) : spec_l2Cell_c Q cell0 k = k (spec_l2Cell_v cell0) := by
  simp only [spec_l2Cell_c, spec_l2Cell_v, app_condL k]

/-- loop.example/g01194/spec.l5Do -/
def spec_l5Do_c (Q : Type) (F : Nat) (b0 : List Int) (s1 : List Int) (k : (List Int × Int × Bool) → Option Q) : Option Q :=
    let z_1 : List Int := [(0 : Int), (0 : Int), (0 : Int), (0 : Int), (0 : Int), (0 : Int), (0 : Int), (0 : Int), (0 : Int), (0 : Int), (0 : Int), (0 : Int), (0 : Int), (0 : Int), (0 : Int), (0 : Int)]
    let z_2 := (spec_l2Slide_p F b0 (iget s1 0))
    let z_3 := (Option.getD z_2 default)
    let z_4 := (spec_l2At_p z_3.1 (sub s1 1 2))
    let z_5 := (spec_l2Put_p z_3.1 (sub s1 1 2) (iget s1 3))
    bif (!(spec_l2Side_v (iget s1 0))) then
    k (z_1, (0 : Int), false)
    else bif (!(spec_l2Cell_v (sub s1 1 2))) then
    k (z_1, (0 : Int), false)
    else bif (!(spec_l1In_v (iget s1 3) (1 : Int) (2 : Int))) then
    k (z_1, (0 : Int), false)
    else bif (Option.isSome z_2) then
    bif (z_3.1 == b0) then
    k (z_1, (0 : Int), false)
    else bif (Option.isSome z_4) then
    bif (!((Option.getD z_4 default) == (0 : Int))) then
    k (z_1, (0 : Int), false)
    else bif (Option.isSome z_5) then
    k ((Option.getD z_5 default), z_3.2, true)
    else none
    else none
    else none
def spec_l5Do_p (F : Nat) (b0 : List Int) (s1 : List Int) : Option (List Int × Int × Bool) := spec_l5Do_c _ F b0 s1 some
theorem spec_l5Do_cp (Q : Type) (F : Nat) (b0 : List Int) (s1 : List Int) (k : (List Int × Int × Bool) → Option Q) : spec_l5Do_c Q F b0 s1 k = (spec_l5Do_p F b0 s1).bind k := by
  simp only [spec_l5Do_p, spec_l5Do_c, cond_bindL, none_bindL, some_bindL]

/-- loop 3 of loop.example/g01194/spec.l9Boards -/
def spec_l9Boards_s3 (F : Nat) (steps0 : List (List Int)) (b7 : List Int) (Q : Type) : (Int × List (List Int)) → ((Int × List (List Int)) → Option Q) → ((List (List Int)) → Option Q) → Option Q
  | (i6, out8), kn, kx =>
    let z_1 := (spec_l5Do_p F b7 (rget steps0 (Int.toNat i6)))
    let z_2 : List (List Int) := ((subn (List.length out8) out8 0 (List.length out8)) ++ [(Option.getD z_1 default).1])
    bif (decide (i6 < (((List.length steps0) : Nat) : Int))) then
    bif (inR i6 (List.length steps0)) then
    bif (Option.isSome z_1) then
    bif (fits (List.length z_2) 128) then
    kn ((IntKind.wrap .i64 (i6 + (1 : Int))), z_2)
    else none
    else none
    else none
    else kx out8
def spec_l9Boards_l3 (F : Nat) (steps0 : List (List Int)) (b7 : List Int) (i6 : Int) (out8 : List (List Int)) : Option (List (List Int)) := loopC (spec_l9Boards_s3 F steps0 b7) F (i6, out8) some
theorem spec_l9Boards_s3_nat (F : Nat) (steps0 : List (List Int)) (b7 : List Int) : Natural (spec_l9Boards_s3 F steps0 b7) := by
  intro Q Q' s kn kx h
  obtain ⟨i6, out8⟩ := s
  simp only [spec_l9Boards_s3, cond_bindL, none_bindL]
/-- loop.example/g01194/spec.l9Boards -/
def spec_l9Boards_c (Q : Type) (F : Nat) (b0 : List Int) (steps1 : List (List Int)) (k : (List (List Int)) → Option Q) : Option Q :=
    let z_1 := (spec_l9Boards_l3 F steps1 b0 (0 : Int) ([] : List (List Int)))
    bif (Option.isSome z_1) then
    k (Option.getD z_1 default)
    else none
def spec_l9Boards_p (F : Nat) (b0 : List Int) (steps1 : List (List Int)) : Option (List (List Int)) := spec_l9Boards_c _ F b0 steps1 some
theorem spec_l9Boards_cp (Q : Type) (F : Nat) (b0 : List Int) (steps1 : List (List Int)) (k : (List (List Int)) → Option Q) : spec_l9Boards_c Q F b0 steps1 k = (spec_l9Boards_p F b0 steps1).bind k := by
  simp only [spec_l9Boards_p, spec_l9Boards_c, cond_bindL, none_bindL, some_bindL]
end Go.Lv.P
