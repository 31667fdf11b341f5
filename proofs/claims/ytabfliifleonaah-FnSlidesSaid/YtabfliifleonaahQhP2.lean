/-
Pure functions and what the code of them does, by program; without conditions.
-/
import Derived.Test.YtabfliifleonaahQhP1
namespace Go.Lv.P
open Go Go.Lv
set_option linter.unusedVariables false
set_option linter.unusedSimpArgs false
set_option maxRecDepth 100000
/-- loop 8 of (loop.example/g01194/impl.Board).slide -/
def impl_Board_slide_s8 (F : Nat) (direction0 : Int) (score10 : Int) (t1712 : Int) (t3713 : List Bool) (b15 : List Int) (out17 : List Int) (Q : Type) : (Int × Int) → ((Int × Int) → Option Q) → ((Int) → Option Q) → Option Q
  | (mergers11, t3814), kn, kx =>
    let z_1 : Int := (IntKind.wrap .i64 (t3814 + (1 : Int)))
    bif (decide (t3814 < (4 : Int))) then
    bif (inR t3814 4) then
    bif (bget t3713 ((Int.toNat t3814) * (1 : Nat))) then
    kn ((IntKind.wrap .i64 (mergers11 + (1 : Int))), z_1)
    else kn (mergers11, z_1)
    else none
    else kx mergers11
def impl_Board_slide_l8 (F : Nat) (direction0 : Int) (score10 : Int) (t1712 : Int) (t3713 : List Bool) (b15 : List Int) (out17 : List Int) (mergers11 : Int) (t3814 : Int) : Option (Int) := loopC (impl_Board_slide_s8 F direction0 score10 t1712 t3713 b15 out17) F (mergers11, t3814) some
theorem impl_Board_slide_s8_nat (F : Nat) (direction0 : Int) (score10 : Int) (t1712 : Int) (t3713 : List Bool) (b15 : List Int) (out17 : List Int) : Natural (impl_Board_slide_s8 F direction0 score10 t1712 t3713 b15 out17) := by
  intro Q Q' s kn kx h
  obtain ⟨mergers11, t3814⟩ := s
  simp only [impl_Board_slide_s8, cond_bindL, none_bindL]
/-- loop 3 of (loop.example/g01194/impl.Board).slide -/
def impl_Board_slide_s3 (F : Nat) (direction0 : Int) (b13 : List Int) (Q : Type) : (Int × Int × Int × List Int) → ((Int × Int × Int × List Int) → Option Q) → ((Int × Int × List Int) → Option Q) → Option Q
  | (score10, mergers11, t1712, out15), kn, kx =>
    let z_1 := (impl_Board_line_p b13 direction0 t1712)
    let z_2 := (impl_slideRow_p F (Option.getD z_1 default))
    let z_3 := (Option.getD z_2 default)
    let z_4 := (impl_Board_withLine_p out15 direction0 t1712 z_3.1)
    let z_5 : Int := (IntKind.wrap .i64 (score10 + z_3.2.1))
    let z_6 := (impl_Board_slide_l8 F direction0 z_5 t1712 z_3.2.2 b13 (Option.getD z_4 default) mergers11 (0 : Int))
    bif (decide (t1712 < (4 : Int))) then
    bif (Option.isSome z_1) then
    bif (Option.isSome z_2) then
    bif (Option.isSome z_4) then
    bif (Option.isSome z_6) then
    kn (z_5, (Option.getD z_6 default), (IntKind.wrap .i64 (t1712 + (1 : Int))), (Option.getD z_4 default))
    else none
    else none
    else none
    else none
    else kx (score10, mergers11, out15)
def impl_Board_slide_l3 (F : Nat) (direction0 : Int) (b13 : List Int) (score10 : Int) (mergers11 : Int) (t1712 : Int) (out15 : List Int) : Option (Int × Int × List Int) := loopC (impl_Board_slide_s3 F direction0 b13) F (score10, mergers11, t1712, out15) some
theorem impl_Board_slide_s3_nat (F : Nat) (direction0 : Int) (b13 : List Int) : Natural (impl_Board_slide_s3 F direction0 b13) := by
  intro Q Q' s kn kx h
  obtain ⟨score10, mergers11, t1712, out15⟩ := s
  simp only [impl_Board_slide_s3, cond_bindL, none_bindL]
/-- (loop.example/g01194/impl.Board).slide -/
def impl_Board_slide_c (Q : Type) (F : Nat) (b0 : List Int) (direction1 : Int) (k : (List Int × Int × Int) → Option Q) : Option Q :=
    let z_1 := (impl_Board_slide_l3 F direction1 b0 (0 : Int) (0 : Int) (0 : Int) b0)
    let z_2 := (Option.getD z_1 default)
    bif (Option.isSome z_1) then
    k (z_2.2.2, z_2.1, z_2.2.1)
    else none
def impl_Board_slide_p (F : Nat) (b0 : List Int) (direction1 : Int) : Option (List Int × Int × Int) := impl_Board_slide_c _ F b0 direction1 some
theorem impl_Board_slide_cp (Q : Type) (F : Nat) (b0 : List Int) (direction1 : Int) (k : (List Int × Int × Int) → Option Q) : impl_Board_slide_c Q F b0 direction1 k = (impl_Board_slide_p F b0 direction1).bind k := by
  simp only [impl_Board_slide_p, impl_Board_slide_c, cond_bindL, none_bindL, some_bindL]

/-- loop 5 of loop.example/g01194/impl.DoSlides -/
def impl_DoSlides_s5 (F : Nat) (t227 : List Int) (t238 : Int) (Q : Type) : (Int × Int × List Int) → ((Int × Int × List Int) → Option Q) → ((Int × List Int) → Option Q) → Option Q
  | (sum6, t249, b10), kn, kx =>
    let z_1 := (impl_Board_slide_p F b10 (iget t227 (Int.toNat t249)))
    let z_2 := (Option.getD z_1 default)
    bif (decide (t249 < t238)) then
    bif (inR t249 (List.length t227)) then
    bif (Option.isSome z_1) then
    kn ((IntKind.wrap .i64 (sum6 + z_2.2.1)), (IntKind.wrap .i64 (t249 + (1 : Int))), z_2.1)
    else none
    else none
    else kx (sum6, b10)
def impl_DoSlides_l5 (F : Nat) (t227 : List Int) (t238 : Int) (sum6 : Int) (t249 : Int) (b10 : List Int) : Option (Int × List Int) := loopC (impl_DoSlides_s5 F t227 t238) F (sum6, t249, b10) some
theorem impl_DoSlides_s5_nat (F : Nat) (t227 : List Int) (t238 : Int) : Natural (impl_DoSlides_s5 F t227 t238) := by
  intro Q Q' s kn kx h
  obtain ⟨sum6, t249, b10⟩ := s
  simp only [impl_DoSlides_s5, cond_bindL, none_bindL]
/-- loop.example/g01194/impl.DoSlides -/
def impl_DoSlides_c (Q : Type) (F : Nat) (b0 : List Int) (list1 : List Int) (k : (List Int × Int × Bool) → Option Q) : Option Q :=
    let z_1 := (impl_IsBoard_p F b0)
    let z_2 : List Int := [(0 : Int), (0 : Int), (0 : Int), (0 : Int), (0 : Int), (0 : Int), (0 : Int), (0 : Int), (0 : Int), (0 : Int), (0 : Int), (0 : Int), (0 : Int), (0 : Int), (0 : Int), (0 : Int)]
    let z_3 := (impl_areDirections_p F list1)
    let z_4 := (impl_DoSlides_l5 F list1 (((List.length list1) : Nat) : Int) (0 : Int) (0 : Int) b0)
    let z_5 := (Option.getD z_4 default)
    bif (Option.isSome z_1) then
    bif (!(Option.getD z_1 default)) then
    k (z_2, (0 : Int), false)
    else bif (Option.isSome z_3) then
    bif (!(Option.getD z_3 default)) then
    k (z_2, (0 : Int), false)
    else bif (Option.isSome z_4) then
    k (z_5.2, z_5.1, true)
    else none
    else none
    else none
def impl_DoSlides_p (F : Nat) (b0 : List Int) (list1 : List Int) : Option (List Int × Int × Bool) := impl_DoSlides_c _ F b0 list1 some
theorem impl_DoSlides_cp (Q : Type) (F : Nat) (b0 : List Int) (list1 : List Int) (k : (List Int × Int × Bool) → Option Q) : impl_DoSlides_c Q F b0 list1 k = (impl_DoSlides_p F b0 list1).bind k := by
  simp only [impl_DoSlides_p, impl_DoSlides_c, cond_bindL, none_bindL, some_bindL]

/-- loop.example/g01194/spec.l1In -/
def spec_l1In_c (Q : Type) (x0 : Int) (a1 : Int) (b2 : Int) (k : (Bool) → Option Q) : Option Q :=
    bif (decide (a1 ≤ x0)) then
    k (decide (x0 ≤ b2))
    else k false
def spec_l1In_v (x0 : Int) (a1 : Int) (b2 : Int) : Bool :=
    bif (decide (a1 ≤ x0)) then
    (decide (x0 ≤ b2))
    else false
theorem spec_l1In_cv (Q : Type) (x0 : Int) (a1 : Int) (b2 : Int) (k : (Bool) → Option Q) : spec_l1In_c Q x0 a1 b2 k = k (spec_l1In_v x0 a1 b2) := by
  simp only [spec_l1In_c, spec_l1In_v, app_condL k]

/-- loop 5 of loop.example/g01194/spec.l2Board -/
def spec_l2Board_s5 (F : Nat) (r3 : Int) (b5 : List Int) (Q : Type) : (Int) → ((Int) → Option Q) → ((Bool) → Option Q) → Option Q
  | c4, kn, kx =>
    bif (decide (c4 < (4 : Int))) then
    bif (inR r3 4) then
    bif (inR c4 4) then
    bif (!(spec_l1In_v (iget b5 (((0 : Nat) + ((Int.toNat r3) * (4 : Nat))) + ((Int.toNat c4) * (1 : Nat)))) (0 : Int) (17 : Int))) then
    kx true
    else kn (IntKind.wrap .i64 (c4 + (1 : Int)))
    else none
    else none
    else kx false
def spec_l2Board_l5 (F : Nat) (r3 : Int) (b5 : List Int) (c4 : Int) : Option (Bool) := loopC (spec_l2Board_s5 F r3 b5) F c4 some
theorem spec_l2Board_s5_nat (F : Nat) (r3 : Int) (b5 : List Int) : Natural (spec_l2Board_s5 F r3 b5) := by
  intro Q Q' s kn kx h
  simp only [spec_l2Board_s5, cond_bindL, none_bindL]
/-- loop 2 of loop.example/g01194/spec.l2Board -/
def spec_l2Board_s2 (F : Nat) (b4 : List Int) (Q : Type) : (Int) → ((Int) → Option Q) → ((Bool) → Option Q) → Option Q
  | r3, kn, kx =>
    let z_1 := (spec_l2Board_l5 F r3 b4 (0 : Int))
    bif (decide (r3 < (4 : Int))) then
    bif (Option.isSome z_1) then
    bif (Option.getD z_1 default) then
    kx true
    else kn (IntKind.wrap .i64 (r3 + (1 : Int)))
    else none
    else kx false
def spec_l2Board_l2 (F : Nat) (b4 : List Int) (r3 : Int) : Option (Bool) := loopC (spec_l2Board_s2 F b4) F r3 some
theorem spec_l2Board_s2_nat (F : Nat) (b4 : List Int) : Natural (spec_l2Board_s2 F b4) := by
  intro Q Q' s kn kx h
  simp only [spec_l2Board_s2, cond_bindL, none_bindL]
/-- loop.example/g01194/spec.l2Board -/
def spec_l2Board_c (Q : Type) (F : Nat) (b0 : List Int) (k : (Bool) → Option Q) : Option Q :=
    let z_1 := (spec_l2Board_l2 F b0 (0 : Int))
    bif (Option.isSome z_1) then
    bif (Option.getD z_1 default) then
    k false
    else k true
    else none
def spec_l2Board_p (F : Nat) (b0 : List Int) : Option (Bool) := spec_l2Board_c _ F b0 some
theorem spec_l2Board_cp (Q : Type) (F : Nat) (b0 : List Int) (k : (Bool) → Option Q) : spec_l2Board_c Q F b0 k = (spec_l2Board_p F b0).bind k := by
  simp only [spec_l2Board_p, spec_l2Board_c, cond_bindL, none_bindL, some_bindL]

/-- loop.example/g01194/spec.l2Side -/
def spec_l2Side_c (Q : Type) (d0 : Int) (k : (Bool) → Option Q) : Option Q :=
    k (spec_l1In_v d0 (0 : Int) (3 : Int))
def spec_l2Side_v (d0 : Int) : Bool :=
    (spec_l1In_v d0 (0 : Int) (3 : Int))
theorem spec_l2Side_cv (Q : Type) (d0 : Int) (k : (Bool) → Option Q) : spec_l2Side_c Q d0 k = k (spec_l2Side_v d0) := by
  simp only [spec_l2Side_c, spec_l2Side_v, app_condL k]

/-- loop 2 of loop.example/g01194/spec.l5Sides -/
def spec_l5Sides_s2 (F : Nat) (list0 : List Int) (Q : Type) : (Int) → ((Int) → Option Q) → ((Bool) → Option Q) → Option Q
  | i1, kn, kx =>
    bif (decide (i1 < (((List.length list0) : Nat) : Int))) then
    bif (inR i1 (List.length list0)) then
    bif (!(spec_l2Side_v (iget list0 (Int.toNat i1)))) then
    kx true
    else kn (IntKind.wrap .i64 (i1 + (1 : Int)))
    else none
    else kx false
def spec_l5Sides_l2 (F : Nat) (list0 : List Int) (i1 : Int) : Option (Bool) := loopC (spec_l5Sides_s2 F list0) F i1 some
theorem spec_l5Sides_s2_nat (F : Nat) (list0 : List Int) : Natural (spec_l5Sides_s2 F list0) := by
  intro Q Q' s kn kx h
  simp only [spec_l5Sides_s2, cond_bindL, none_bindL]
/-- loop.example/g01194/spec.l5Sides -/
def spec_l5Sides_c (Q : Type) (F : Nat) (list0 : List Int) (k : (Bool) → Option Q) : Option Q :=
    let z_1 := (spec_l5Sides_l2 F list0 (0 : Int))
    bif (Option.isSome z_1) then
    bif (Option.getD z_1 default) then
    k false
    else k true
    else none
def spec_l5Sides_p (F : Nat) (list0 : List Int) : Option (Bool) := spec_l5Sides_c _ F list0 some
theorem spec_l5Sides_cp (Q : Type) (F : Nat) (list0 : List Int) (k : (Bool) → Option Q) : spec_l5Sides_c Q F list0 k = (spec_l5Sides_p F list0).bind k := by
  simp only [spec_l5Sides_p, spec_l5Sides_c, cond_bindL, none_bindL, some_bindL]

/-- loop 3 of loop.example/g01194/spec.l2Line -/
def spec_l2Line_s3 (F : Nat) (d0 : Int) (i1 : Int) (Q : Type) : (Int × List Int) → ((Int × List Int) → Option Q) → ((List Int) → Option Q) → Option Q
  | (k8, out10), kn, kx =>
    let z_1 : Int := (IntKind.wrap .i64 (k8 + (1 : Int)))
    let z_2 : Nat := ((0 : Nat) + ((Int.toNat k8) * (2 : Nat)))
    let z_3 : Int := (IntKind.wrap .i64 ((3 : Int) - k8))
    bif (decide (k8 < (4 : Int))) then
    bif (d0 == (0 : Int)) then
    bif (inR k8 4) then
    kn (z_1, (splicen 8 out10 z_2 [i1, k8] 2))
    else none
    else bif (d0 == (1 : Int)) then
    bif (inR k8 4) then
    kn (z_1, (splicen 8 out10 z_2 [k8, i1] 2))
    else none
    else bif (d0 == (2 : Int)) then
    bif (inR k8 4) then
    kn (z_1, (splicen 8 out10 z_2 [i1, z_3] 2))
    else none
    else bif (inR k8 4) then
    kn (z_1, (splicen 8 out10 z_2 [z_3, i1] 2))
    else none
    else kx out10
def spec_l2Line_l3 (F : Nat) (d0 : Int) (i1 : Int) (k8 : Int) (out10 : List Int) : Option (List Int) := loopC (spec_l2Line_s3 F d0 i1) F (k8, out10) some
theorem spec_l2Line_s3_nat (F : Nat) (d0 : Int) (i1 : Int) : Natural (spec_l2Line_s3 F d0 i1) := by
  intro Q Q' s kn kx h
  obtain ⟨k8, out10⟩ := s
  simp only [spec_l2Line_s3, cond_bindL, none_bindL]
/-- loop.example/g01194/spec.l2Line -/
def spec_l2Line_c (Q : Type) (F : Nat) (d0 : Int) (i1 : Int) (k : (List Int) → Option Q) : Option Q :=
    let z_1 := (spec_l2Line_l3 F d0 i1 (0 : Int) [(0 : Int), (0 : Int), (0 : Int), (0 : Int), (0 : Int), (0 : Int), (0 : Int), (0 : Int)])
    bif (Option.isSome z_1) then
    k (Option.getD z_1 default)
    else none
def spec_l2Line_p (F : Nat) (d0 : Int) (i1 : Int) : Option (List Int) := spec_l2Line_c _ F d0 i1 some
theorem spec_l2Line_cp (Q : Type) (F : Nat) (d0 : Int) (i1 : Int) (k : (List Int) → Option Q) : spec_l2Line_c Q F d0 i1 k = (spec_l2Line_p F d0 i1).bind k := by
  simp only [spec_l2Line_p, spec_l2Line_c, cond_bindL, none_bindL, some_bindL]

/-- loop.example/g01194/spec.l2At -/
def spec_l2At_c (Q : Type) (b0 : List Int) (cell1 : List Int) (k : (Int) → Option Q) : Option Q :=
    bif (inR (iget cell1 0) 4) then
    bif (inR (iget cell1 1) 4) then
    k (iget b0 (((0 : Nat) + ((Int.toNat (iget cell1 0)) * (4 : Nat))) + ((Int.toNat (iget cell1 1)) * (1 : Nat))))
    else none
    else none
def spec_l2At_p (b0 : List Int) (cell1 : List Int) : Option (Int) := spec_l2At_c _ b0 cell1 some
theorem spec_l2At_cp (Q : Type) (b0 : List Int) (cell1 : List Int) (k : (Int) → Option Q) : spec_l2At_c Q b0 cell1 k = (spec_l2At_p b0 cell1).bind k := by
  simp only [spec_l2At_p, spec_l2At_c, cond_bindL, none_bindL, some_bindL]

/-- loop.example/g01194/spec.l2Numbers -/
def spec_l2Numbers_c (Q : Type) (F : Nat) (b0 : List Int) (d1 : Int) (i2 : Int) (k : (List Int) → Option Q) : Option Q :=
    let z_1 := (spec_l2Line_p F d1 i2)
    let z_2 := (spec_l2At_p b0 (sub (Option.getD z_1 default) 0 2))
    let z_3 := (spec_l2At_p b0 (sub (Option.getD z_1 default) 2 2))
    let z_4 := (spec_l2At_p b0 (sub (Option.getD z_1 default) 4 2))
    let z_5 := (spec_l2At_p b0 (sub (Option.getD z_1 default) 6 2))
    bif (Option.isSome z_1) then
    bif (Option.isSome z_2) then
    bif (Option.isSome z_3) then
    bif (Option.isSome z_4) then
    bif (Option.isSome z_5) then
    k [(Option.getD z_2 default), (Option.getD z_3 default), (Option.getD z_4 default), (Option.getD z_5 default)]
    else none
    else none
    else none
    else none
    else none
def spec_l2Numbers_p (F : Nat) (b0 : List Int) (d1 : Int) (i2 : Int) : Option (List Int) := spec_l2Numbers_c _ F b0 d1 i2 some
theorem spec_l2Numbers_cp (Q : Type) (F : Nat) (b0 : List Int) (d1 : Int) (i2 : Int) (k : (List Int) → Option Q) : spec_l2Numbers_c Q F b0 d1 i2 k = (spec_l2Numbers_p F b0 d1 i2).bind k := by
  simp only [spec_l2Numbers_p, spec_l2Numbers_c, cond_bindL, none_bindL, some_bindL]

/-- loop.example/g01194/spec.l2Worth -/
def spec_l2Worth_c (Q : Type) (t0 : Int) (k : (Int) → Option Q) : Option Q :=
    bif (decide (t0 < (0 : Int))) then
    none
    else k (IntKind.wrap .i64 ((1 : Int) * (2 ^ (min (Int.toNat t0) (IntKind.bits .i64)) : Int)))
def spec_l2Worth_p (t0 : Int) : Option (Int) := spec_l2Worth_c _ t0 some
theorem spec_l2Worth_cp (Q : Type) (t0 : Int) (k : (Int) → Option Q) : spec_l2Worth_c Q t0 k = (spec_l2Worth_p t0).bind k := by
  simp only [spec_l2Worth_p, spec_l2Worth_c, cond_bindL, none_bindL, some_bindL]

/-- loop 3 of loop.example/g01194/spec.l2Row -/
def spec_l2Row_s3 (F : Nat) (row13 : List Int) (Q : Type) : (Int × Int × Bool × Int × List Int) → ((Int × Int × Bool × Int × List Int) → Option Q) → ((Int × List Int) → Option Q) → Option Q
  | (n9, score10, merged11, k12, out15), kn, kx =>
    let z_1 : Int := (iget row13 ((0 : Nat) + ((Int.toNat k12) * (1 : Nat))))
    let z_2 : Int := (IntKind.wrap .i64 (k12 + (1 : Int)))
    let z_3 : Int := (IntKind.wrap .i64 (n9 - (1 : Int)))
    let z_4 : Bool := (inR z_3 4)
    let z_5 : Nat := ((0 : Nat) + ((Int.toNat z_3) * (1 : Nat)))
    let z_6 : Int := (IntKind.wrap .i64 (z_1 + (1 : Int)))
    let z_7 : Int := (IntKind.wrap .i64 (n9 + (1 : Int)))
    let z_8 : List Int := (iset out15 ((0 : Nat) + ((Int.toNat n9) * (1 : Nat))) z_1)
    bif (decide (k12 < (4 : Int))) then
    bif (inR k12 4) then
    bif (z_1 == (0 : Int)) then
    kn (n9, score10, merged11, z_2, out15)
    else bif (decide ((0 : Int) < n9)) then
    bif z_4 then
    bif (inR k12 4) then
    bif ((iget out15 z_5) == z_1) then
    bif (inR k12 4) then
    bif (decide (z_1 < (17 : Int))) then
    bif (!merged11) then
    bif (inR k12 4) then
    bif z_4 then
    bif (inR k12 4) then
    bif (Option.isSome (spec_l2Worth_p z_6)) then
    kn (n9, (IntKind.wrap .i64 (score10 + (Option.getD (spec_l2Worth_p z_6) default))), true, z_2, (iset out15 z_5 z_6))
    else none
    else none
    else none
    else none
    else bif (inR k12 4) then
    bif (inR n9 4) then
    kn (z_7, score10, false, z_2, z_8)
    else none
    else none
    else bif (inR k12 4) then
    bif (inR n9 4) then
    kn (z_7, score10, false, z_2, z_8)
    else none
    else none
    else none
    else bif (inR k12 4) then
    bif (inR n9 4) then
    kn (z_7, score10, false, z_2, z_8)
    else none
    else none
    else none
    else none
    else bif (inR k12 4) then
    bif (inR n9 4) then
    kn (z_7, score10, false, z_2, z_8)
    else none
    else none
    else none
    else kx (score10, out15)
def spec_l2Row_l3 (F : Nat) (row13 : List Int) (n9 : Int) (score10 : Int) (merged11 : Bool) (k12 : Int) (out15 : List Int) : Option (Int × List Int) := loopC (spec_l2Row_s3 F row13) F (n9, score10, merged11, k12, out15) some
theorem spec_l2Row_s3_nat (F : Nat) (row13 : List Int) : Natural (spec_l2Row_s3 F row13) := by
  intro Q Q' s kn kx h
  obtain ⟨n9, score10, merged11, k12, out15⟩ := s
  simp only [spec_l2Row_s3, cond_bindL, none_bindL]
/-- loop.example/g01194/spec.l2Row -/
def spec_l2Row_c (Q : Type) (F : Nat) (row0 : List Int) (k : (List Int × Int) → Option Q) : Option Q :=
    let z_1 := (spec_l2Row_l3 F row0 (0 : Int) (0 : Int) false (0 : Int) [(0 : Int), (0 : Int), (0 : Int), (0 : Int)])
    let z_2 := (Option.getD z_1 default)
    bif (Option.isSome z_1) then
    k (z_2.2, z_2.1)
    else none
def spec_l2Row_p (F : Nat) (row0 : List Int) : Option (List Int × Int) := spec_l2Row_c _ F row0 some
theorem spec_l2Row_cp (Q : Type) (F : Nat) (row0 : List Int) (k : (List Int × Int) → Option Q) : spec_l2Row_c Q F row0 k = (spec_l2Row_p F row0).bind k := by
  simp only [spec_l2Row_p, spec_l2Row_c, cond_bindL, none_bindL, some_bindL]

/-- loop.example/g01194/spec.l2Put -/
def spec_l2Put_c (Q : Type) (b0 : List Int) (cell1 : List Int) (t2 : Int) (k : (List Int) → Option Q) : Option Q :=
    bif (inR (iget cell1 0) 4) then
    bif (inR (iget cell1 1) 4) then
    k (iset b0 (((0 : Nat) + ((Int.toNat (iget cell1 0)) * (4 : Nat))) + ((Int.toNat (iget cell1 1)) * (1 : Nat))) t2)
    else none
    else none
def spec_l2Put_p (b0 : List Int) (cell1 : List Int) (t2 : Int) : Option (List Int) := spec_l2Put_c _ b0 cell1 t2 some
theorem spec_l2Put_cp (Q : Type) (b0 : List Int) (cell1 : List Int) (t2 : Int) (k : (List Int) → Option Q) : spec_l2Put_c Q b0 cell1 t2 k = (spec_l2Put_p b0 cell1 t2).bind k := by
  simp only [spec_l2Put_p, spec_l2Put_c, cond_bindL, none_bindL, some_bindL]

/-- loop 3 of loop.example/g01194/spec.l2Slide -/
def spec_l2Slide_s3 (F : Nat) (d0 : Int) (b12 : List Int) (Q : Type) : (Int × Int × List Int) → ((Int × Int × List Int) → Option Q) → ((Int × List Int) → Option Q) → Option Q
  | (sum10, i11, out14), kn, kx =>
    let z_1 := (spec_l2Numbers_p F b12 d0 i11)
    let z_2 := (spec_l2Row_p F (Option.getD z_1 default))
    let z_3 := (spec_l2Line_p F d0 i11)
    let z_4 := (Option.getD z_2 default)
    let z_5 := (spec_l2Put_p out14 (sub (Option.getD z_3 default) 0 2) (iget z_4.1 0))
    let z_6 := (spec_l2Put_p (Option.getD z_5 default) (sub (Option.getD z_3 default) 2 2) (iget z_4.1 1))
    let z_7 := (spec_l2Put_p (Option.getD z_6 default) (sub (Option.getD z_3 default) 4 2) (iget z_4.1 2))
    let z_8 := (spec_l2Put_p (Option.getD z_7 default) (sub (Option.getD z_3 default) 6 2) (iget z_4.1 3))
    bif (decide (i11 < (4 : Int))) then
    bif (Option.isSome z_1) then
    bif (Option.isSome z_2) then
    bif (Option.isSome z_3) then
    bif (Option.isSome z_5) then
    bif (Option.isSome z_6) then
    bif (Option.isSome z_7) then
    bif (Option.isSome z_8) then
    kn ((IntKind.wrap .i64 (sum10 + z_4.2)), (IntKind.wrap .i64 (i11 + (1 : Int))), (Option.getD z_8 default))
    else none
    else none
    else none
    else none
    else none
    else none
    else none
    else kx (sum10, out14)
def spec_l2Slide_l3 (F : Nat) (d0 : Int) (b12 : List Int) (sum10 : Int) (i11 : Int) (out14 : List Int) : Option (Int × List Int) := loopC (spec_l2Slide_s3 F d0 b12) F (sum10, i11, out14) some
theorem spec_l2Slide_s3_nat (F : Nat) (d0 : Int) (b12 : List Int) : Natural (spec_l2Slide_s3 F d0 b12) := by
  intro Q Q' s kn kx h
  obtain ⟨sum10, i11, out14⟩ := s
  simp only [spec_l2Slide_s3, cond_bindL, none_bindL]
/-- loop.example/g01194/spec.l2Slide -/
def spec_l2Slide_c (Q : Type) (F : Nat) (b0 : List Int) (d1 : Int) (k : (List Int × Int) → Option Q) : Option Q :=
    let z_1 := (spec_l2Slide_l3 F d1 b0 (0 : Int) (0 : Int) b0)
    let z_2 := (Option.getD z_1 default)
    bif (Option.isSome z_1) then
    k (z_2.2, z_2.1)
    else none
def spec_l2Slide_p (F : Nat) (b0 : List Int) (d1 : Int) : Option (List Int × Int) := spec_l2Slide_c _ F b0 d1 some
theorem spec_l2Slide_cp (Q : Type) (F : Nat) (b0 : List Int) (d1 : Int) (k : (List Int × Int) → Option Q) : spec_l2Slide_c Q F b0 d1 k = (spec_l2Slide_p F b0 d1).bind k := by
  simp only [spec_l2Slide_p, spec_l2Slide_c, cond_bindL, none_bindL, some_bindL]
end Go.Lv.P
