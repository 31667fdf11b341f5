/-
Pure functions and what the code of them does, by program; without conditions.
-/
import Derived.Test.YtkhccaoancfeoaaLv3
import Derived.Test.YtkhccaoancfeoaaNvOrd
namespace Go.Lv.P
open Go Go.Lv
set_option linter.unusedVariables false
set_option linter.unusedSimpArgs false
set_option maxRecDepth 100000
/-- loop.example/g01194/laws.toIntA4 -/
def laws_toIntA4_c (Q : Type) (a0 : List Int) (k : (List Int) → Option Q) : Option Q :=
    k [(iget a0 0), (iget a0 1), (iget a0 2), (iget a0 3)]
def laws_toIntA4_v (a0 : List Int) : List Int :=
    [(iget a0 0), (iget a0 1), (iget a0 2), (iget a0 3)]
theorem laws_toIntA4_cv (Q : Type) (a0 : List Int) (k : (List Int) → Option Q) : laws_toIntA4_c Q a0 k = k (laws_toIntA4_v a0) := by
  simp only [laws_toIntA4_c, laws_toIntA4_v, app_condL k]

/-- loop.example/g01194/laws.toIntA4A4 -/
def laws_toIntA4A4_c (Q : Type) (a0 : List Int) (k : (List Int) → Option Q) : Option Q :=
    k (splice (splice (splice (splice [(0 : Int), (0 : Int), (0 : Int), (0 : Int), (0 : Int), (0 : Int), (0 : Int), (0 : Int), (0 : Int), (0 : Int), (0 : Int), (0 : Int), (0 : Int), (0 : Int), (0 : Int), (0 : Int)] 0 (laws_toIntA4_v (sub a0 0 4)) 4) 4 (laws_toIntA4_v (sub a0 4 4)) 4) 8 (laws_toIntA4_v (sub a0 8 4)) 4) 12 (laws_toIntA4_v (sub a0 12 4)) 4)
def laws_toIntA4A4_v (a0 : List Int) : List Int :=
    (splice (splice (splice (splice [(0 : Int), (0 : Int), (0 : Int), (0 : Int), (0 : Int), (0 : Int), (0 : Int), (0 : Int), (0 : Int), (0 : Int), (0 : Int), (0 : Int), (0 : Int), (0 : Int), (0 : Int), (0 : Int)] 0 (laws_toIntA4_v (sub a0 0 4)) 4) 4 (laws_toIntA4_v (sub a0 4 4)) 4) 8 (laws_toIntA4_v (sub a0 8 4)) 4) 12 (laws_toIntA4_v (sub a0 12 4)) 4)
theorem laws_toIntA4A4_cv (Q : Type) (a0 : List Int) (k : (List Int) → Option Q) : laws_toIntA4A4_c Q a0 k = k (laws_toIntA4A4_v a0) := by
  simp only [laws_toIntA4A4_c, laws_toIntA4A4_v, app_condL k]

/-- loop.example/g01194/laws.toBoard -/
def laws_toBoard_c (Q : Type) (a0 : List Int) (k : (List Int) → Option Q) : Option Q :=
    k (laws_toIntA4A4_v a0)
def laws_toBoard_v (a0 : List Int) : List Int :=
    (laws_toIntA4A4_v a0)
theorem laws_toBoard_cv (Q : Type) (a0 : List Int) (k : (List Int) → Option Q) : laws_toBoard_c Q a0 k = k (laws_toBoard_v a0) := by
  simp only [laws_toBoard_c, laws_toBoard_v, app_condL k]

/-- loop.example/g01194/spec.l1In -/
def spec_l1In_c (Q : Type) (x0 : Int) (a1 : Int) (b2 : Int) (k : (Bool) → Option Q) : Option Q :=
    bif (decide (a1 ≤ x0)) then
    k (decide (x0 ≤ b2))
    else k false
def spec_l1In_v (x0 : Int) (a1 : Int) (b2 : Int) : Bool :=
    bif (decide (a1 ≤ x0)) then
    (decide (x0 ≤ b2))
    else false
theorem spec_l1In_cv (Q : Type) (x0 : Int) (a1 : Int) (b2 : Int) (k : (Bool) → Option Q) : spec_l1In_c Q x0 a1 b2 k = k (spec_l1In_v x0 a1 b2) := by
  simp only [spec_l1In_c, spec_l1In_v, app_condL k]

/-- loop 5 of loop.example/g01194/spec.l2Board -/
def spec_l2Board_s5 (F : Nat) (r3 : Int) (b5 : List Int) (Q : Type) : (Int) → ((Int) → Option Q) → ((Bool) → Option Q) → Option Q
  | c4, kn, kx =>
    bif (decide (c4 < (4 : Int))) then
    bif (inR r3 4) then
    bif (inR c4 4) then
    bif (!(spec_l1In_v (iget b5 (((0 : Nat) + ((Int.toNat r3) * (4 : Nat))) + ((Int.toNat c4) * (1 : Nat)))) (0 : Int) (17 : Int))) then
    kx true
    else kn (IntKind.wrap .i64 (c4 + (1 : Int)))
    else none
    else none
    else kx false
def spec_l2Board_l5 (F : Nat) (r3 : Int) (b5 : List Int) (c4 : Int) : Option (Bool) := loopC (spec_l2Board_s5 F r3 b5) F c4 some
theorem spec_l2Board_s5_nat (F : Nat) (r3 : Int) (b5 : List Int) : Natural (spec_l2Board_s5 F r3 b5) := by
  intro Q Q' s kn kx h
  simp only [spec_l2Board_s5, cond_bindL, none_bindL]
/-- loop 2 of loop.example/g01194/spec.l2Board -/
def spec_l2Board_s2 (F : Nat) (b4 : List Int) (Q : Type) : (Int) → ((Int) → Option Q) → ((Bool) → Option Q) → Option Q
  | r3, kn, kx =>
    let z_1 := (spec_l2Board_l5 F r3 b4 (0 : Int))
    bif (decide (r3 < (4 : Int))) then
    bif (Option.isSome z_1) then
    bif (Option.getD z_1 default) then
    kx true
    else kn (IntKind.wrap .i64 (r3 + (1 : Int)))
    else none
    else kx false
def spec_l2Board_l2 (F : Nat) (b4 : List Int) (r3 : Int) : Option (Bool) := loopC (spec_l2Board_s2 F b4) F r3 some
theorem spec_l2Board_s2_nat (F : Nat) (b4 : List Int) : Natural (spec_l2Board_s2 F b4) := by
  intro Q Q' s kn kx h
  simp only [spec_l2Board_s2, cond_bindL, none_bindL]
/-- loop.example/g01194/spec.l2Board -/
def spec_l2Board_c (Q : Type) (F : Nat) (b0 : List Int) (k : (Bool) → Option Q) : Option Q :=
    let z_1 := (spec_l2Board_l2 F b0 (0 : Int))
    bif (Option.isSome z_1) then
    bif (Option.getD z_1 default) then
    k false
    else k true
    else none
def spec_l2Board_p (F : Nat) (b0 : List Int) : Option (Bool) := spec_l2Board_c _ F b0 some
theorem spec_l2Board_cp (Q : Type) (F : Nat) (b0 : List Int) (k : (Bool) → Option Q) : spec_l2Board_c Q F b0 k = (spec_l2Board_p F b0).bind k := by
  simp only [spec_l2Board_p, spec_l2Board_c, cond_bindL, none_bindL, some_bindL]

/-- loop.example/g01194/spec.l2Side -/
def spec_l2Side_c (Q : Type) (d0 : Int) (k : (Bool) → Option Q) : Option Q :=
    k (spec_l1In_v d0 (0 : Int) (3 : Int))
def spec_l2Side_v (d0 : Int) : Bool :=
    (spec_l1In_v d0 (0 : Int) (3 : Int))
theorem spec_l2Side_cv (Q : Type) (d0 : Int) (k : (Bool) → Option Q) : spec_l2Side_c Q d0 k = k (spec_l2Side_v d0) := by
  simp only [spec_l2Side_c, spec_l2Side_v, app_condL k]

/-- loop 3 of loop.example/g01194/spec.l2Line -/
def spec_l2Line_s3 (F : Nat) (d0 : Int) (i1 : Int) (Q : Type) : (Int × List Int) → ((Int × List Int) → Option Q) → ((List Int) → Option Q) → Option Q
  | (k8, out10), kn, kx =>
    let z_1 : Int := (IntKind.wrap .i64 (k8 + (1 : Int)))
    let z_2 : Nat := ((0 : Nat) + ((Int.toNat k8) * (2 : Nat)))
    let z_3 : Int := (IntKind.wrap .i64 ((3 : Int) - k8))
    bif (decide (k8 < (4 : Int))) then
    bif (d0 == (0 : Int)) then
    bif (inR k8 4) then
    kn (z_1, (splicen 8 out10 z_2 [i1, k8] 2))
    else none
    else bif (d0 == (1 : Int)) then
    bif (inR k8 4) then
    kn (z_1, (splicen 8 out10 z_2 [k8, i1] 2))
    else none
    else bif (d0 == (2 : Int)) then
    bif (inR k8 4) then
    kn (z_1, (splicen 8 out10 z_2 [i1, z_3] 2))
    else none
    else bif (inR k8 4) then
    kn (z_1, (splicen 8 out10 z_2 [z_3, i1] 2))
    else none
    else kx out10
def spec_l2Line_l3 (F : Nat) (d0 : Int) (i1 : Int) (k8 : Int) (out10 : List Int) : Option (List Int) := loopC (spec_l2Line_s3 F d0 i1) F (k8, out10) some
theorem spec_l2Line_s3_nat (F : Nat) (d0 : Int) (i1 : Int) : Natural (spec_l2Line_s3 F d0 i1) := by
  intro Q Q' s kn kx h
  obtain ⟨k8, out10⟩ := s
  simp only [spec_l2Line_s3, cond_bindL, none_bindL]
/-- loop.example/g01194/spec.l2Line -/
def spec_l2Line_c (Q : Type) (F : Nat) (d0 : Int) (i1 : Int) (k : (List Int) → Option Q) : Option Q :=
    let z_1 := (spec_l2Line_l3 F d0 i1 (0 : Int) [(0 : Int), (0 : Int), (0 : Int), (0 : Int), (0 : Int), (0 : Int), (0 : Int), (0 : Int)])
    bif (Option.isSome z_1) then
    k (Option.getD z_1 default)
    else none
def spec_l2Line_p (F : Nat) (d0 : Int) (i1 : Int) : Option (List Int) := spec_l2Line_c _ F d0 i1 some
theorem spec_l2Line_cp (Q : Type) (F : Nat) (d0 : Int) (i1 : Int) (k : (List Int) → Option Q) : spec_l2Line_c Q F d0 i1 k = (spec_l2Line_p F d0 i1).bind k := by
  simp only [spec_l2Line_p, spec_l2Line_c, cond_bindL, none_bindL, some_bindL]

/-- loop.example/g01194/spec.l2At -/
def spec_l2At_c (Q : Type) (b0 : List Int) (cell1 : List Int) (k : (Int) → Option Q) : Option Q :=
    bif (inR (iget cell1 0) 4) then
    bif (inR (iget cell1 1) 4) then
    k (iget b0 (((0 : Nat) + ((Int.toNat (iget cell1 0)) * (4 : Nat))) + ((Int.toNat (iget cell1 1)) * (1 : Nat))))
    else none
    else none
def spec_l2At_p (b0 : List Int) (cell1 : List Int) : Option (Int) := spec_l2At_c _ b0 cell1 some
theorem spec_l2At_cp (Q : Type) (b0 : List Int) (cell1 : List Int) (k : (Int) → Option Q) : spec_l2At_c Q b0 cell1 k = (spec_l2At_p b0 cell1).bind k := by
  simp only [spec_l2At_p, spec_l2At_c, cond_bindL, none_bindL, some_bindL]

/-- loop.example/g01194/spec.l2Numbers -/
def spec_l2Numbers_c (Q : Type) (F : Nat) (b0 : List Int) (d1 : Int) (i2 : Int) (k : (List Int) → Option Q) : Option Q :=
    let z_1 := (spec_l2Line_p F d1 i2)
    let z_2 := (spec_l2At_p b0 (sub (Option.getD z_1 default) 0 2))
    let z_3 := (spec_l2At_p b0 (sub (Option.getD z_1 default) 2 2))
    let z_4 := (spec_l2At_p b0 (sub (Option.getD z_1 default) 4 2))
    let z_5 := (spec_l2At_p b0 (sub (Option.getD z_1 default) 6 2))
    bif (Option.isSome z_1) then
    bif (Option.isSome z_2) then
    bif (Option.isSome z_3) then
    bif (Option.isSome z_4) then
    bif (Option.isSome z_5) then
    k [(Option.getD z_2 default), (Option.getD z_3 default), (Option.getD z_4 default), (Option.getD z_5 default)]
    else none
    else none
    else none
    else none
    else none
def spec_l2Numbers_p (F : Nat) (b0 : List Int) (d1 : Int) (i2 : Int) : Option (List Int) := spec_l2Numbers_c _ F b0 d1 i2 some
theorem spec_l2Numbers_cp (Q : Type) (F : Nat) (b0 : List Int) (d1 : Int) (i2 : Int) (k : (List Int) → Option Q) : spec_l2Numbers_c Q F b0 d1 i2 k = (spec_l2Numbers_p F b0 d1 i2).bind k := by
  simp only [spec_l2Numbers_p, spec_l2Numbers_c, cond_bindL, none_bindL, some_bindL]

/-- loop 2 of loop.example/g01194/spec.l1Has -/
def spec_l1Has_s2 (F : Nat) (l0 : List Int) (n1 : Int) (Q : Type) : (Int) → ((Int) → Option Q) → ((Bool) → Option Q) → Option Q
  | i2, kn, kx =>
    bif (decide (i2 < (((List.length l0) : Nat) : Int))) then
    bif (inR i2 (List.length l0)) then
    bif ((iget l0 (Int.toNat i2)) == n1) then
    kx true
    else kn (IntKind.wrap .i64 (i2 + (1 : Int)))
    else none
    else kx false
def spec_l1Has_l2 (F : Nat) (l0 : List Int) (n1 : Int) (i2 : Int) : Option (Bool) := loopC (spec_l1Has_s2 F l0 n1) F i2 some
theorem spec_l1Has_s2_nat (F : Nat) (l0 : List Int) (n1 : Int) : Natural (spec_l1Has_s2 F l0 n1) := by
  intro Q Q' s kn kx h
  simp only [spec_l1Has_s2, cond_bindL, none_bindL]
/-- loop.example/g01194/spec.l1Has -/
def spec_l1Has_c (Q : Type) (F : Nat) (l0 : List Int) (n1 : Int) (k : (Bool) → Option Q) : Option Q :=
    let z_1 := (spec_l1Has_l2 F l0 n1 (0 : Int))
    bif (Option.isSome z_1) then
    bif (Option.getD z_1 default) then
    k true
    else k false
    else none
def spec_l1Has_p (F : Nat) (l0 : List Int) (n1 : Int) : Option (Bool) := spec_l1Has_c _ F l0 n1 some
theorem spec_l1Has_cp (Q : Type) (F : Nat) (l0 : List Int) (n1 : Int) (k : (Bool) → Option Q) : spec_l1Has_c Q F l0 n1 k = (spec_l1Has_p F l0 n1).bind k := by
  simp only [spec_l1Has_p, spec_l1Has_c, cond_bindL, none_bindL, some_bindL]

/-- loop 7 of loop.example/g01194/spec.l4Spread -/
def spec_l4Spread_s7 (F : Nat) (tiles0 : List Int) (out2 : Nat) (code3 : Int) (out9 : List (List Int)) (Q : Type) : (Int × Int × List Int) → ((Int × Int × List Int) → Option Q) → ((Int × List Int) → Option Q) → Option Q
  | (n7, k8, row10), kn, kx =>
    let z_1 : Int := (IntKind.wrap .i64 (n7 + (1 : Int)))
    let z_2 : Int := (IntKind.wrap .i64 (k8 + (1 : Int)))
    bif (decide (k8 < (4 : Int))) then
    bif (decide (k8 < (0 : Int))) then
    none
    else bif ((IntKind.wrap .i64 (((BitVec.ofInt (IntKind.bits .i64) (Int.fdiv code3 (2 ^ (min (Int.toNat k8) (IntKind.bits .i64)) : Int)) &&& BitVec.ofInt (IntKind.bits .i64) (1 : Int)).toNat : Nat) : Int)) == (1 : Int)) then
    bif (decide (n7 < (((List.length tiles0) : Nat) : Int))) then
    bif (inR n7 (List.length tiles0)) then
    bif (inR k8 4) then
    kn (z_1, z_2, (iset row10 ((0 : Nat) + ((Int.toNat k8) * (1 : Nat))) (iget tiles0 (Int.toNat n7))))
    else none
    else none
    else kn (z_1, z_2, row10)
    else kn (n7, z_2, row10)
    else kx (n7, row10)
def spec_l4Spread_l7 (F : Nat) (tiles0 : List Int) (out2 : Nat) (code3 : Int) (out9 : List (List Int)) (n7 : Int) (k8 : Int) (row10 : List Int) : Option (Int × List Int) := loopC (spec_l4Spread_s7 F tiles0 out2 code3 out9) F (n7, k8, row10) some
theorem spec_l4Spread_s7_nat (F : Nat) (tiles0 : List Int) (out2 : Nat) (code3 : Int) (out9 : List (List Int)) : Natural (spec_l4Spread_s7 F tiles0 out2 code3 out9) := by
  intro Q Q' s kn kx h
  obtain ⟨n7, k8, row10⟩ := s
  simp only [spec_l4Spread_s7, cond_bindL, none_bindL]
/-- loop 3 of loop.example/g01194/spec.l4Spread -/
def spec_l4Spread_s3 (F : Nat) (tiles0 : List Int) (Q : Type) : (Nat × Int × List (List Int)) → ((Nat × Int × List (List Int)) → Option Q) → ((Nat × List (List Int)) → Option Q) → Option Q
  | (out2, code3, out4), kn, kx =>
    let z_1 := (spec_l4Spread_l7 F tiles0 out2 code3 out4 (0 : Int) (0 : Int) [(0 : Int), (0 : Int), (0 : Int), (0 : Int)])
    let z_2 := (Option.getD z_1 default)
    let z_3 : List (List Int) := ((subn (List.length out4) out4 0 out2) ++ [z_2.2])
    let z_4 : Nat := (List.length z_3)
    let z_5 : Int := (IntKind.wrap .i64 (code3 + (1 : Int)))
    bif (decide (code3 < (16 : Int))) then
    bif (Option.isSome z_1) then
    bif (z_2.1 == (((List.length tiles0) : Nat) : Int)) then
    bif (fits z_4 32) then
    kn (z_4, z_5, z_3)
    else none
    else kn (out2, z_5, out4)
    else none
    else kx (out2, out4)
def spec_l4Spread_l3 (F : Nat) (tiles0 : List Int) (out2 : Nat) (code3 : Int) (out4 : List (List Int)) : Option (Nat × List (List Int)) := loopC (spec_l4Spread_s3 F tiles0) F (out2, code3, out4) some
theorem spec_l4Spread_s3_nat (F : Nat) (tiles0 : List Int) : Natural (spec_l4Spread_s3 F tiles0) := by
  intro Q Q' s kn kx h
  obtain ⟨out2, code3, out4⟩ := s
  simp only [spec_l4Spread_s3, cond_bindL, none_bindL]
/-- loop.example/g01194/spec.l4Spread -/
def spec_l4Spread_c (Q : Type) (F : Nat) (tiles0 : List Int) (k : (Nat × List (List Int)) → Option Q) : Option Q :=
    let z_1 := (spec_l4Spread_l3 F tiles0 (0 : Nat) (0 : Int) ([] : List (List Int)))
    let z_2 := (Option.getD z_1 default)
    bif (Option.isSome z_1) then
    k (z_2.1, z_2.2)
    else none
def spec_l4Spread_p (F : Nat) (tiles0 : List Int) : Option (Nat × List (List Int)) := spec_l4Spread_c _ F tiles0 some
theorem spec_l4Spread_cp (Q : Type) (F : Nat) (tiles0 : List Int) (k : (Nat × List (List Int)) → Option Q) : spec_l4Spread_c Q F tiles0 k = (spec_l4Spread_p F tiles0).bind k := by
  simp only [spec_l4Spread_p, spec_l4Spread_c, cond_bindL, none_bindL, some_bindL]

/-- loop.example/g01194/spec.l2Worth -/
def spec_l2Worth_c (Q : Type) (t0 : Int) (k : (Int) → Option Q) : Option Q :=
    bif (decide (t0 < (0 : Int))) then
    none
    else k (IntKind.wrap .i64 ((1 : Int) * (2 ^ (min (Int.toNat t0) (IntKind.bits .i64)) : Int)))
def spec_l2Worth_p (t0 : Int) : Option (Int) := spec_l2Worth_c _ t0 some
theorem spec_l2Worth_cp (Q : Type) (t0 : Int) (k : (Int) → Option Q) : spec_l2Worth_c Q t0 k = (spec_l2Worth_p t0).bind k := by
  simp only [spec_l2Worth_p, spec_l2Worth_c, cond_bindL, none_bindL, some_bindL]

/-- loop 3 of loop.example/g01194/spec.l2Row -/
def spec_l2Row_s3 (F : Nat) (row13 : List Int) (Q : Type) : (Int × Int × Bool × Int × List Int) → ((Int × Int × Bool × Int × List Int) → Option Q) → ((Int × List Int) → Option Q) → Option Q
  | (n9, score10, merged11, k12, out15), kn, kx =>
    let z_1 : Int := (iget row13 ((0 : Nat) + ((Int.toNat k12) * (1 : Nat))))
    let z_2 : Int := (IntKind.wrap .i64 (k12 + (1 : Int)))
    let z_3 : Int := (IntKind.wrap .i64 (n9 - (1 : Int)))
    let z_4 : Bool := (inR z_3 4)
    let z_5 : Nat := ((0 : Nat) + ((Int.toNat z_3) * (1 : Nat)))
    let z_6 : Int := (IntKind.wrap .i64 (z_1 + (1 : Int)))
    let z_7 : Int := (IntKind.wrap .i64 (n9 + (1 : Int)))
    let z_8 : List Int := (iset out15 ((0 : Nat) + ((Int.toNat n9) * (1 : Nat))) z_1)
    bif (decide (k12 < (4 : Int))) then
    bif (inR k12 4) then
    bif (z_1 == (0 : Int)) then
    kn (n9, score10, merged11, z_2, out15)
    else bif (decide ((0 : Int) < n9)) then
    bif z_4 then
    bif (inR k12 4) then
    bif ((iget out15 z_5) == z_1) then
    bif (inR k12 4) then
    bif (decide (z_1 < (17 : Int))) then
    bif (!merged11) then
    bif (inR k12 4) then
    bif z_4 then
    bif (inR k12 4) then
    bif (Option.isSome (spec_l2Worth_p z_6)) then
    kn (n9, (IntKind.wrap .i64 (score10 + (Option.getD (spec_l2Worth_p z_6) default))), true, z_2, (iset out15 z_5 z_6))
    else none
    else none
    else none
    else none
    else bif (inR k12 4) then
    bif (inR n9 4) then
    kn (z_7, score10, false, z_2, z_8)
    else none
    else none
    else bif (inR k12 4) then
    bif (inR n9 4) then
    kn (z_7, score10, false, z_2, z_8)
    else none
    else none
    else none
    else bif (inR k12 4) then
    bif (inR n9 4) then
    kn (z_7, score10, false, z_2, z_8)
    else none
    else none
    else none
    else none
    else bif (inR k12 4) then
    bif (inR n9 4) then
    kn (z_7, score10, false, z_2, z_8)
    else none
    else none
    else none
    else kx (score10, out15)
def spec_l2Row_l3 (F : Nat) (row13 : List Int) (n9 : Int) (score10 : Int) (merged11 : Bool) (k12 : Int) (out15 : List Int) : Option (Int × List Int) := loopC (spec_l2Row_s3 F row13) F (n9, score10, merged11, k12, out15) some
theorem spec_l2Row_s3_nat (F : Nat) (row13 : List Int) : Natural (spec_l2Row_s3 F row13) := by
  intro Q Q' s kn kx h
  obtain ⟨n9, score10, merged11, k12, out15⟩ := s
  simp only [spec_l2Row_s3, cond_bindL, none_bindL]
/-- loop.example/g01194/spec.l2Row -/
def spec_l2Row_c (Q : Type) (F : Nat) (row0 : List Int) (k : (List Int × Int) → Option Q) : Option Q :=
    let z_1 := (spec_l2Row_l3 F row0 (0 : Int) (0 : Int) false (0 : Int) [(0 : Int), (0 : Int), (0 : Int), (0 : Int)])
    let z_2 := (Option.getD z_1 default)
    bif (Option.isSome z_1) then
    k (z_2.2, z_2.1)
    else none
def spec_l2Row_p (F : Nat) (row0 : List Int) : Option (List Int × Int) := spec_l2Row_c _ F row0 some
theorem spec_l2Row_cp (Q : Type) (F : Nat) (row0 : List Int) (k : (List Int × Int) → Option Q) : spec_l2Row_c Q F row0 k = (spec_l2Row_p F row0).bind k := by
  simp only [spec_l2Row_p, spec_l2Row_c, cond_bindL, none_bindL, some_bindL]

/-- loop 2 of loop.example/g01194/spec.l4Less -/
def spec_l4Less_s2 (F : Nat) (a7 : List Int) (b8 : List Int) (Q : Type) : (Int) → ((Int) → Option Q) → ((Bool × Bool) → Option Q) → Option Q
  | k6, kn, kx =>
    let z_1 : Nat := ((0 : Nat) + ((Int.toNat k6) * (1 : Nat)))
    let z_2 : Int := (iget a7 z_1)
    let z_3 : Int := (iget b8 z_1)
    bif (decide (k6 < (4 : Int))) then
    bif (inR k6 4) then
    bif (inR k6 4) then
    bif (!(z_2 == z_3)) then
    bif (inR k6 4) then
    bif (inR k6 4) then
    kx (true, (decide (z_2 < z_3)))
    else none
    else none
    else kn (IntKind.wrap .i64 (k6 + (1 : Int)))
    else none
    else none
    else kx (false, default)
def spec_l4Less_l2 (F : Nat) (a7 : List Int) (b8 : List Int) (k6 : Int) : Option (Bool × Bool) := loopC (spec_l4Less_s2 F a7 b8) F k6 some
theorem spec_l4Less_s2_nat (F : Nat) (a7 : List Int) (b8 : List Int) : Natural (spec_l4Less_s2 F a7 b8) := by
  intro Q Q' s kn kx h
  simp only [spec_l4Less_s2, cond_bindL, none_bindL]
/-- loop.example/g01194/spec.l4Less -/
def spec_l4Less_c (Q : Type) (F : Nat) (a0 : List Int) (b1 : List Int) (k : (Bool) → Option Q) : Option Q :=
    let z_1 := (spec_l4Less_l2 F a0 b1 (0 : Int))
    let z_2 := (Option.getD z_1 default)
    bif (Option.isSome z_1) then
    bif z_2.1 then
    k z_2.2
    else k false
    else none
def spec_l4Less_p (F : Nat) (a0 : List Int) (b1 : List Int) : Option (Bool) := spec_l4Less_c _ F a0 b1 some
theorem spec_l4Less_cp (Q : Type) (F : Nat) (a0 : List Int) (b1 : List Int) (k : (Bool) → Option Q) : spec_l4Less_c Q F a0 b1 k = (spec_l4Less_p F a0 b1).bind k := by
  simp only [spec_l4Less_p, spec_l4Less_c, cond_bindL, none_bindL, some_bindL]

/-- loop 2 of loop.example/g01194/spec.l4Place -/
def spec_l4Place_s2 (F : Nat) (all0 : List (List Int)) (row5 : List Int) (Q : Type) : (Int) → ((Int) → Option Q) → ((Int) → Option Q) → Option Q
  | n4, kn, kx =>
    let z_1 := (spec_l4Less_p F (rget all0 (Int.toNat n4)) row5)
    bif (decide (n4 < (((List.length all0) : Nat) : Int))) then
    bif (inR n4 (List.length all0)) then
    bif (Option.isSome z_1) then
    bif (Option.getD z_1 default) then
    kn (IntKind.wrap .i64 (n4 + (1 : Int)))
    else kx n4
    else none
    else none
    else kx n4
def spec_l4Place_l2 (F : Nat) (all0 : List (List Int)) (row5 : List Int) (n4 : Int) : Option (Int) := loopC (spec_l4Place_s2 F all0 row5) F n4 some
theorem spec_l4Place_s2_nat (F : Nat) (all0 : List (List Int)) (row5 : List Int) : Natural (spec_l4Place_s2 F all0 row5) := by
  intro Q Q' s kn kx h
  simp only [spec_l4Place_s2, cond_bindL, none_bindL]
/-- loop.example/g01194/spec.l4Place -/
def spec_l4Place_c (Q : Type) (F : Nat) (all0 : List (List Int)) (row1 : List Int) (k : (Int) → Option Q) : Option Q :=
    let z_1 := (spec_l4Place_l2 F all0 row1 (0 : Int))
    bif (Option.isSome z_1) then
    k (Option.getD z_1 default)
    else none
def spec_l4Place_p (F : Nat) (all0 : List (List Int)) (row1 : List Int) : Option (Int) := spec_l4Place_c _ F all0 row1 some
theorem spec_l4Place_cp (Q : Type) (F : Nat) (all0 : List (List Int)) (row1 : List Int) (k : (Int) → Option Q) : spec_l4Place_c Q F all0 row1 k = (spec_l4Place_p F all0 row1).bind k := by
  simp only [spec_l4Place_p, spec_l4Place_c, cond_bindL, none_bindL, some_bindL]

/-- loop.example/g01194/spec.l4Put -/
def spec_l4Put_c (Q : Type) (F : Nat) (all0 : List (List Int)) (row1 : List Int) (k : (List (List Int)) → Option Q) : Option Q :=
    let z_1 := (spec_l4Place_p F all0 row1)
    let z_2 : Nat := (Int.toNat (Option.getD z_1 default))
    let z_3 : Bool := (inLe (Option.getD z_1 default) (List.length all0))
    let z_4 : List (List Int) := (subn (List.length all0) all0 0 (z_2 - (0 : Nat)))
    let z_5 : Nat := (List.length z_4)
    let z_6 : Bool := (fits z_5 32)
    let z_7 : List (List Int) := ((subn z_5 z_4 0 z_5) ++ [row1])
    let z_8 : Nat := (List.length z_7)
    let z_9 : Bool := (fits z_8 32)
    let z_10 : List (List Int) := ((subn z_8 z_7 0 z_8) ++ (subn (List.length all0) all0 z_2 ((List.length all0) - z_2)))
    let z_11 : Nat := (List.length z_10)
    let z_12 : Bool := (fits z_11 32)
    let z_13 : List (List Int) := (subn z_11 z_10 0 z_11)
    bif (Option.isSome z_1) then
    bif (decide ((Option.getD z_1 default) < (((List.length all0) : Nat) : Int))) then
    bif (inR (Option.getD z_1 default) (List.length all0)) then
    bif ((rget all0 z_2) == row1) then
    k all0
    else bif z_3 then
    bif z_6 then
    bif z_9 then
    bif z_3 then
    bif z_12 then
    k z_13
    else none
    else none
    else none
    else none
    else none
    else none
    else bif z_3 then
    bif z_6 then
    bif z_9 then
    bif z_3 then
    bif z_12 then
    k z_13
    else none
    else none
    else none
    else none
    else none
    else none
def spec_l4Put_p (F : Nat) (all0 : List (List Int)) (row1 : List Int) : Option (List (List Int)) := spec_l4Put_c _ F all0 row1 some
theorem spec_l4Put_cp (Q : Type) (F : Nat) (all0 : List (List Int)) (row1 : List Int) (k : (List (List Int)) → Option Q) : spec_l4Put_c Q F all0 row1 k = (spec_l4Put_p F all0 row1).bind k := by
  simp only [spec_l4Put_p, spec_l4Put_c, cond_bindL, none_bindL, some_bindL]
end Go.Lv.P
