/-
Pure functions and what the code of them does, by program; without conditions.
-/
import Derived.Test.YtgdokdkcbgkekaeGeP2
namespace Go.Lv.P
open Go Go.Lv
set_option linter.unusedVariables false
set_option linter.unusedSimpArgs false
set_option maxRecDepth 100000
/-- loop 3 of (loop.example/g01194/impl.Board).worst -/
def impl_Board_worst_impl_Board_sureOf_f1_n2_s3 (F : Nat) (t1415 : Int) (b18 : List Int) (t1321 : List (List Int)) (Q : Type) : (Int × Int × List Int) → ((Int × Int × List Int) → Option Q) → ((Int × List Int) → Option Q) → Option Q
  | (least12, t1516, out20), kn, kx =>
    let z_1 : List Int := (rget t1321 ((0 : Nat) + (Int.toNat t1516)))
    let z_2 := (impl_Board_placed_p b18 z_1)
    let z_3 := (impl_Board_sureOf_f1_n2_p F (Option.getD z_2 default))
    let z_4 : Int := (IntKind.wrap .i64 (t1516 + (1 : Int)))
    bif (decide (t1516 < t1415)) then
    bif (inR t1516 (List.length t1321)) then
    bif (Option.isSome z_2) then
    bif (Option.isSome z_3) then
    bif (decide (least12 < (0 : Int))) then
    kn ((Option.getD z_3 default), z_4, z_1)
    else bif (decide ((Option.getD z_3 default) < least12)) then
    kn ((Option.getD z_3 default), z_4, z_1)
    else kn (least12, z_4, out20)
    else none
    else none
    else none
    else kx (least12, out20)
def impl_Board_worst_impl_Board_sureOf_f1_n2_l3 (F : Nat) (t1415 : Int) (b18 : List Int) (t1321 : List (List Int)) (least12 : Int) (t1516 : Int) (out20 : List Int) : Option (Int × List Int) := loopC (impl_Board_worst_impl_Board_sureOf_f1_n2_s3 F t1415 b18 t1321) F (least12, t1516, out20) some
theorem impl_Board_worst_impl_Board_sureOf_f1_n2_s3_nat (F : Nat) (t1415 : Int) (b18 : List Int) (t1321 : List (List Int)) : Natural (impl_Board_worst_impl_Board_sureOf_f1_n2_s3 F t1415 b18 t1321) := by
  intro Q Q' s kn kx h
  obtain ⟨least12, t1516, out20⟩ := s
  simp only [impl_Board_worst_impl_Board_sureOf_f1_n2_s3, cond_bindL, none_bindL]
/-- (loop.example/g01194/impl.Board).worst -/
def impl_Board_worst_impl_Board_sureOf_f1_n2_c (Q : Type) (F : Nat) (b0 : List Int) (k : (List Int × Int) → Option Q) : Option Q :=
    let z_1 := (impl_Board_placements_p F b0)
    let z_2 : Nat := (List.length (Option.getD z_1 default))
    let z_3 := (impl_Board_worst_impl_Board_sureOf_f1_n2_l3 F ((z_2 : Nat) : Int) b0 (Option.getD z_1 default) (-1 : Int) (0 : Int) [(0 : Int), (0 : Int), (0 : Int)])
    let z_4 := (Option.getD z_3 default)
    bif (Option.isSome z_1) then
    bif ((Nat.beq z_2 z_2) && (Option.isSome z_3)) then
    k (z_4.2, z_4.1)
    else none
    else none
def impl_Board_worst_impl_Board_sureOf_f1_n2_p (F : Nat) (b0 : List Int) : Option (List Int × Int) := impl_Board_worst_impl_Board_sureOf_f1_n2_c _ F b0 some
theorem impl_Board_worst_impl_Board_sureOf_f1_n2_cp (Q : Type) (F : Nat) (b0 : List Int) (k : (List Int × Int) → Option Q) : impl_Board_worst_impl_Board_sureOf_f1_n2_c Q F b0 k = (impl_Board_worst_impl_Board_sureOf_f1_n2_p F b0).bind k := by
  simp only [impl_Board_worst_impl_Board_sureOf_f1_n2_p, impl_Board_worst_impl_Board_sureOf_f1_n2_c, cond_bindL, none_bindL, some_bindL]

/-- (loop.example/g01194/impl.Board).sureOf -/
def impl_Board_sureOf_n2_c (Q : Type) (F : Nat) (b0 : List Int) (direction1 : Int) (k : (Int) → Option Q) : Option Q :=
    let z_1 := (impl_Board_slide_p F b0 direction1)
    let z_2 := (Option.getD z_1 default)
    let z_3 := (impl_Board_worst_impl_Board_sureOf_f1_n2_p F z_2.1)
    bif (Option.isSome z_1) then
    bif (Option.isSome z_3) then
    k (IntKind.wrap .i64 (z_2.2.1 + (Option.getD z_3 default).2))
    else none
    else none
def impl_Board_sureOf_n2_p (F : Nat) (b0 : List Int) (direction1 : Int) : Option (Int) := impl_Board_sureOf_n2_c _ F b0 direction1 some
theorem impl_Board_sureOf_n2_cp (Q : Type) (F : Nat) (b0 : List Int) (direction1 : Int) (k : (Int) → Option Q) : impl_Board_sureOf_n2_c Q F b0 direction1 k = (impl_Board_sureOf_n2_p F b0 direction1).bind k := by
  simp only [impl_Board_sureOf_n2_p, impl_Board_sureOf_n2_c, cond_bindL, none_bindL, some_bindL]

/-- loop 4 of (loop.example/g01194/impl.Board).sure -/
def impl_Board_sure_n2_s4 (F : Nat) (t127 : Int) (b9 : List Int) (t1110 : List Int) (Q : Type) : (Int × Int) → ((Int × Int) → Option Q) → ((Int) → Option Q) → Option Q
  | (most4, t138), kn, kx =>
    let z_1 := (impl_Board_sureOf_n2_p F b9 (iget t1110 ((0 : Nat) + (Int.toNat t138))))
    bif (decide (t138 < t127)) then
    bif (inR t138 (List.length t1110)) then
    bif (Option.isSome z_1) then
    kn ((if (Option.getD z_1 default) > most4 then (Option.getD z_1 default) else most4), (IntKind.wrap .i64 (t138 + (1 : Int))))
    else none
    else none
    else kx most4
def impl_Board_sure_n2_l4 (F : Nat) (t127 : Int) (b9 : List Int) (t1110 : List Int) (most4 : Int) (t138 : Int) : Option (Int) := loopC (impl_Board_sure_n2_s4 F t127 b9 t1110) F (most4, t138) some
theorem impl_Board_sure_n2_s4_nat (F : Nat) (t127 : Int) (b9 : List Int) (t1110 : List Int) : Natural (impl_Board_sure_n2_s4 F t127 b9 t1110) := by
  intro Q Q' s kn kx h
  obtain ⟨most4, t138⟩ := s
  simp only [impl_Board_sure_n2_s4, cond_bindL, none_bindL]
/-- (loop.example/g01194/impl.Board).sure -/
def impl_Board_sure_n2_c (Q : Type) (F : Nat) (b0 : List Int) (k : (Int) → Option Q) : Option Q :=
    let z_1 := (impl_Board_moves_p F b0)
    let z_2 : Nat := (List.length (Option.getD z_1 default))
    let z_3 := (impl_Board_sure_n2_l4 F ((z_2 : Nat) : Int) b0 (Option.getD z_1 default) (0 : Int) (0 : Int))
    bif (Option.isSome z_1) then
    bif ((Nat.beq z_2 z_2) && (Option.isSome z_3)) then
    k (Option.getD z_3 default)
    else none
    else none
def impl_Board_sure_n2_p (F : Nat) (b0 : List Int) : Option (Int) := impl_Board_sure_n2_c _ F b0 some
theorem impl_Board_sure_n2_cp (Q : Type) (F : Nat) (b0 : List Int) (k : (Int) → Option Q) : impl_Board_sure_n2_c Q F b0 k = (impl_Board_sure_n2_p F b0).bind k := by
  simp only [impl_Board_sure_n2_p, impl_Board_sure_n2_c, cond_bindL, none_bindL, some_bindL]

/-- (loop.example/g01194/impl.Board).sure -/
def impl_Board_sure_c (Q : Type) (F : Nat) (b0 : List Int) (n1 : Int) (k : (Int) → Option Q) : Option Q :=
    let z_1 := (impl_Board_sure_n1_p F b0)
    let z_2 := (impl_Board_sure_n2_p F b0)
    bif (n1 == (0 : Int)) then
    k (0 : Int)
    else bif (n1 == (1 : Int)) then
    bif (Option.isSome z_1) then
    k (Option.getD z_1 default)
    else none
    else bif (n1 == (2 : Int)) then
    bif (Option.isSome z_2) then
    k (Option.getD z_2 default)
    else none
    else none
def impl_Board_sure_p (F : Nat) (b0 : List Int) (n1 : Int) : Option (Int) := impl_Board_sure_c _ F b0 n1 some
theorem impl_Board_sure_cp (Q : Type) (F : Nat) (b0 : List Int) (n1 : Int) (k : (Int) → Option Q) : impl_Board_sure_c Q F b0 n1 k = (impl_Board_sure_p F b0 n1).bind k := by
  simp only [impl_Board_sure_p, impl_Board_sure_c, cond_bindL, none_bindL, some_bindL]

/-- loop.example/g01194/impl.SureScore -/
def impl_SureScore_c (Q : Type) (F : Nat) (b0 : List Int) (n1 : Int) (k : (Int × Bool) → Option Q) : Option Q :=
    let z_1 := (impl_IsBoard_p F b0)
    let z_2 := (impl_Board_sure_p F b0 n1)
    bif (Option.isSome z_1) then
    bif (!(Option.getD z_1 default)) then
    k ((0 : Int), false)
    else bif (!(impl_in_v n1 (0 : Int) (2 : Int))) then
    k ((0 : Int), false)
    else bif (Option.isSome z_2) then
    k ((Option.getD z_2 default), true)
    else none
    else none
def impl_SureScore_p (F : Nat) (b0 : List Int) (n1 : Int) : Option (Int × Bool) := impl_SureScore_c _ F b0 n1 some
theorem impl_SureScore_cp (Q : Type) (F : Nat) (b0 : List Int) (n1 : Int) (k : (Int × Bool) → Option Q) : impl_SureScore_c Q F b0 n1 k = (impl_SureScore_p F b0 n1).bind k := by
  simp only [impl_SureScore_p, impl_SureScore_c, cond_bindL, none_bindL, some_bindL]

/-- loop.example/g01194/spec.l1In -/
def spec_l1In_c (Q : Type) (x0 : Int) (a1 : Int) (b2 : Int) (k : (Bool) → Option Q) : Option Q :=
    bif (decide (a1 ≤ x0)) then
    k (decide (x0 ≤ b2))
    else k false
def spec_l1In_v (x0 : Int) (a1 : Int) (b2 : Int) : Bool :=
    bif (decide (a1 ≤ x0)) then
    (decide (x0 ≤ b2))
    else false
theorem spec_l1In_cv (Q : Type) (x0 : Int) (a1 : Int) (b2 : Int) (k : (Bool) → Option Q) : spec_l1In_c Q x0 a1 b2 k = k (spec_l1In_v x0 a1 b2) := by
  simp only [spec_l1In_c, spec_l1In_v, app_condL k]

/-- loop 5 of loop.example/g01194/spec.l2Board -/
def spec_l2Board_s5 (F : Nat) (r3 : Int) (b5 : List Int) (Q : Type) : (Int) → ((Int) → Option Q) → ((Bool) → Option Q) → Option Q
  | c4, kn, kx =>
    bif (decide (c4 < (4 : Int))) then
    bif (inR r3 4) then
    bif (inR c4 4) then
    bif (!(spec_l1In_v (iget b5 (((0 : Nat) + ((Int.toNat r3) * (4 : Nat))) + ((Int.toNat c4) * (1 : Nat)))) (0 : Int) (17 : Int))) then
    kx true
    else kn (IntKind.wrap .i64 (c4 + (1 : Int)))
    else none
    else none
    else kx false
def spec_l2Board_l5 (F : Nat) (r3 : Int) (b5 : List Int) (c4 : Int) : Option (Bool) := loopC (spec_l2Board_s5 F r3 b5) F c4 some
theorem spec_l2Board_s5_nat (F : Nat) (r3 : Int) (b5 : List Int) : Natural (spec_l2Board_s5 F r3 b5) := by
  intro Q Q' s kn kx h
  simp only [spec_l2Board_s5, cond_bindL, none_bindL]
/-- loop 2 of loop.example/g01194/spec.l2Board -/
def spec_l2Board_s2 (F : Nat) (b4 : List Int) (Q : Type) : (Int) → ((Int) → Option Q) → ((Bool) → Option Q) → Option Q
  | r3, kn, kx =>
    let z_1 := (spec_l2Board_l5 F r3 b4 (0 : Int))
    bif (decide (r3 < (4 : Int))) then
    bif (Option.isSome z_1) then
    bif (Option.getD z_1 default) then
    kx true
    else kn (IntKind.wrap .i64 (r3 + (1 : Int)))
    else none
    else kx false
def spec_l2Board_l2 (F : Nat) (b4 : List Int) (r3 : Int) : Option (Bool) := loopC (spec_l2Board_s2 F b4) F r3 some
theorem spec_l2Board_s2_nat (F : Nat) (b4 : List Int) : Natural (spec_l2Board_s2 F b4) := by
  intro Q Q' s kn kx h
  simp only [spec_l2Board_s2, cond_bindL, none_bindL]
/-- loop.example/g01194/spec.l2Board -/
def spec_l2Board_c (Q : Type) (F : Nat) (b0 : List Int) (k : (Bool) → Option Q) : Option Q :=
    let z_1 := (spec_l2Board_l2 F b0 (0 : Int))
    bif (Option.isSome z_1) then
    bif (Option.getD z_1 default) then
    k false
    else k true
    else none
def spec_l2Board_p (F : Nat) (b0 : List Int) : Option (Bool) := spec_l2Board_c _ F b0 some
theorem spec_l2Board_cp (Q : Type) (F : Nat) (b0 : List Int) (k : (Bool) → Option Q) : spec_l2Board_c Q F b0 k = (spec_l2Board_p F b0).bind k := by
  simp only [spec_l2Board_p, spec_l2Board_c, cond_bindL, none_bindL, some_bindL]

/-- loop.example/g01194/spec.l8Sure -/
def spec_l8Sure_n0_c (Q : Type) (b0 : List Int) (k : (Unit) → Option Q) : Option Q :=
    k ()
def spec_l8Sure_n0_v (b0 : List Int) : Unit :=
    ()
theorem spec_l8Sure_n0_cv (Q : Type) (b0 : List Int) (k : (Unit) → Option Q) : spec_l8Sure_n0_c Q b0 k = k (spec_l8Sure_n0_v b0) := by
  simp only [spec_l8Sure_n0_c, spec_l8Sure_n0_v, app_condL k]

/-- loop 3 of loop.example/g01194/spec.l2Line -/
def spec_l2Line_s3 (F : Nat) (d0 : Int) (i1 : Int) (Q : Type) : (Int × List Int) → ((Int × List Int) → Option Q) → ((List Int) → Option Q) → Option Q
  | (k8, out10), kn, kx =>
    let z_1 : Int := (IntKind.wrap .i64 (k8 + (1 : Int)))
    let z_2 : Nat := ((0 : Nat) + ((Int.toNat k8) * (2 : Nat)))
    let z_3 : Int := (IntKind.wrap .i64 ((3 : Int) - k8))
    bif (decide (k8 < (4 : Int))) then
    bif (d0 == (0 : Int)) then
    bif (inR k8 4) then
    kn (z_1, (splicen 8 out10 z_2 [i1, k8] 2))
    else none
    else bif (d0 == (1 : Int)) then
    bif (inR k8 4) then
    kn (z_1, (splicen 8 out10 z_2 [k8, i1] 2))
    else none
    else bif (d0 == (2 : Int)) then
    bif (inR k8 4) then
    kn (z_1, (splicen 8 out10 z_2 [i1, z_3] 2))
    else none
    else bif (inR k8 4) then
    kn (z_1, (splicen 8 out10 z_2 [z_3, i1] 2))
    else none
    else kx out10
def spec_l2Line_l3 (F : Nat) (d0 : Int) (i1 : Int) (k8 : Int) (out10 : List Int) : Option (List Int) := loopC (spec_l2Line_s3 F d0 i1) F (k8, out10) some
theorem spec_l2Line_s3_nat (F : Nat) (d0 : Int) (i1 : Int) : Natural (spec_l2Line_s3 F d0 i1) := by
  intro Q Q' s kn kx h
  obtain ⟨k8, out10⟩ := s
  simp only [spec_l2Line_s3, cond_bindL, none_bindL]
/-- loop.example/g01194/spec.l2Line -/
def spec_l2Line_c (Q : Type) (F : Nat) (d0 : Int) (i1 : Int) (k : (List Int) → Option Q) : Option Q :=
    let z_1 := (spec_l2Line_l3 F d0 i1 (0 : Int) [(0 : Int), (0 : Int), (0 : Int), (0 : Int), (0 : Int), (0 : Int), (0 : Int), (0 : Int)])
    bif (Option.isSome z_1) then
    k (Option.getD z_1 default)
    else none
def spec_l2Line_p (F : Nat) (d0 : Int) (i1 : Int) : Option (List Int) := spec_l2Line_c _ F d0 i1 some
theorem spec_l2Line_cp (Q : Type) (F : Nat) (d0 : Int) (i1 : Int) (k : (List Int) → Option Q) : spec_l2Line_c Q F d0 i1 k = (spec_l2Line_p F d0 i1).bind k := by
  simp only [spec_l2Line_p, spec_l2Line_c, cond_bindL, none_bindL, some_bindL]

/-- loop.example/g01194/spec.l2At -/
def spec_l2At_c (Q : Type) (b0 : List Int) (cell1 : List Int) (k : (Int) → Option Q) : Option Q :=
    bif (inR (iget cell1 0) 4) then
    bif (inR (iget cell1 1) 4) then
    k (iget b0 (((0 : Nat) + ((Int.toNat (iget cell1 0)) * (4 : Nat))) + ((Int.toNat (iget cell1 1)) * (1 : Nat))))
    else none
    else none
def spec_l2At_p (b0 : List Int) (cell1 : List Int) : Option (Int) := spec_l2At_c _ b0 cell1 some
theorem spec_l2At_cp (Q : Type) (b0 : List Int) (cell1 : List Int) (k : (Int) → Option Q) : spec_l2At_c Q b0 cell1 k = (spec_l2At_p b0 cell1).bind k := by
  simp only [spec_l2At_p, spec_l2At_c, cond_bindL, none_bindL, some_bindL]

/-- loop.example/g01194/spec.l2Numbers -/
def spec_l2Numbers_c (Q : Type) (F : Nat) (b0 : List Int) (d1 : Int) (i2 : Int) (k : (List Int) → Option Q) : Option Q :=
    let z_1 := (spec_l2Line_p F d1 i2)
    let z_2 := (spec_l2At_p b0 (sub (Option.getD z_1 default) 0 2))
    let z_3 := (spec_l2At_p b0 (sub (Option.getD z_1 default) 2 2))
    let z_4 := (spec_l2At_p b0 (sub (Option.getD z_1 default) 4 2))
    let z_5 := (spec_l2At_p b0 (sub (Option.getD z_1 default) 6 2))
    bif (Option.isSome z_1) then
    bif (Option.isSome z_2) then
    bif (Option.isSome z_3) then
    bif (Option.isSome z_4) then
    bif (Option.isSome z_5) then
    k [(Option.getD z_2 default), (Option.getD z_3 default), (Option.getD z_4 default), (Option.getD z_5 default)]
    else none
    else none
    else none
    else none
    else none
def spec_l2Numbers_p (F : Nat) (b0 : List Int) (d1 : Int) (i2 : Int) : Option (List Int) := spec_l2Numbers_c _ F b0 d1 i2 some
theorem spec_l2Numbers_cp (Q : Type) (F : Nat) (b0 : List Int) (d1 : Int) (i2 : Int) (k : (List Int) → Option Q) : spec_l2Numbers_c Q F b0 d1 i2 k = (spec_l2Numbers_p F b0 d1 i2).bind k := by
  simp only [spec_l2Numbers_p, spec_l2Numbers_c, cond_bindL, none_bindL, some_bindL]

/-- loop.example/g01194/spec.l2Worth -/
def spec_l2Worth_c (Q : Type) (t0 : Int) (k : (Int) → Option Q) : Option Q :=
    bif (decide (t0 < (0 : Int))) then
    none
    else k (IntKind.wrap .i64 ((1 : Int) * (2 ^ (min (Int.toNat t0) (IntKind.bits .i64)) : Int)))
def spec_l2Worth_p (t0 : Int) : Option (Int) := spec_l2Worth_c _ t0 some
theorem spec_l2Worth_cp (Q : Type) (t0 : Int) (k : (Int) → Option Q) : spec_l2Worth_c Q t0 k = (spec_l2Worth_p t0).bind k := by
  simp only [spec_l2Worth_p, spec_l2Worth_c, cond_bindL, none_bindL, some_bindL]

/-- loop 3 of loop.example/g01194/spec.l2Row -/
def spec_l2Row_s3 (F : Nat) (row13 : List Int) (Q : Type) : (Int × Int × Bool × Int × List Int) → ((Int × Int × Bool × Int × List Int) → Option Q) → ((Int × List Int) → Option Q) → Option Q
  | (n9, score10, merged11, k12, out15), kn, kx =>
    let z_1 : Int := (iget row13 ((0 : Nat) + ((Int.toNat k12) * (1 : Nat))))
    let z_2 : Int := (IntKind.wrap .i64 (k12 + (1 : Int)))
    let z_3 : Int := (IntKind.wrap .i64 (n9 - (1 : Int)))
    let z_4 : Bool := (inR z_3 4)
    let z_5 : Nat := ((0 : Nat) + ((Int.toNat z_3) * (1 : Nat)))
    let z_6 : Int := (IntKind.wrap .i64 (z_1 + (1 : Int)))
    let z_7 : Int := (IntKind.wrap .i64 (n9 + (1 : Int)))
    let z_8 : List Int := (iset out15 ((0 : Nat) + ((Int.toNat n9) * (1 : Nat))) z_1)
    bif (decide (k12 < (4 : Int))) then
    bif (inR k12 4) then
    bif (z_1 == (0 : Int)) then
    kn (n9, score10, merged11, z_2, out15)
    else bif (decide ((0 : Int) < n9)) then
    bif z_4 then
    bif (inR k12 4) then
    bif ((iget out15 z_5) == z_1) then
    bif (inR k12 4) then
    bif (decide (z_1 < (17 : Int))) then
    bif (!merged11) then
    bif (inR k12 4) then
    bif z_4 then
    bif (inR k12 4) then
    bif (Option.isSome (spec_l2Worth_p z_6)) then
    kn (n9, (IntKind.wrap .i64 (score10 + (Option.getD (spec_l2Worth_p z_6) default))), true, z_2, (iset out15 z_5 z_6))
    else none
    else none
    else none
    else none
    else bif (inR k12 4) then
    bif (inR n9 4) then
    kn (z_7, score10, false, z_2, z_8)
    else none
    else none
    else bif (inR k12 4) then
    bif (inR n9 4) then
    kn (z_7, score10, false, z_2, z_8)
    else none
    else none
    else none
    else bif (inR k12 4) then
    bif (inR n9 4) then
    kn (z_7, score10, false, z_2, z_8)
    else none
    else none
    else none
    else none
    else bif (inR k12 4) then
    bif (inR n9 4) then
    kn (z_7, score10, false, z_2, z_8)
    else none
    else none
    else none
    else kx (score10, out15)
def spec_l2Row_l3 (F : Nat) (row13 : List Int) (n9 : Int) (score10 : Int) (merged11 : Bool) (k12 : Int) (out15 : List Int) : Option (Int × List Int) := loopC (spec_l2Row_s3 F row13) F (n9, score10, merged11, k12, out15) some
theorem spec_l2Row_s3_nat (F : Nat) (row13 : List Int) : Natural (spec_l2Row_s3 F row13) := by
  intro Q Q' s kn kx h
  obtain ⟨n9, score10, merged11, k12, out15⟩ := s
  simp only [spec_l2Row_s3, cond_bindL, none_bindL]
/-- loop.example/g01194/spec.l2Row -/
def spec_l2Row_c (Q : Type) (F : Nat) (row0 : List Int) (k : (List Int × Int) → Option Q) : Option Q :=
    let z_1 := (spec_l2Row_l3 F row0 (0 : Int) (0 : Int) false (0 : Int) [(0 : Int), (0 : Int), (0 : Int), (0 : Int)])
    let z_2 := (Option.getD z_1 default)
    bif (Option.isSome z_1) then
    k (z_2.2, z_2.1)
    else none
def spec_l2Row_p (F : Nat) (row0 : List Int) : Option (List Int × Int) := spec_l2Row_c _ F row0 some
theorem spec_l2Row_cp (Q : Type) (F : Nat) (row0 : List Int) (k : (List Int × Int) → Option Q) : spec_l2Row_c Q F row0 k = (spec_l2Row_p F row0).bind k := by
  simp only [spec_l2Row_p, spec_l2Row_c, cond_bindL, none_bindL, some_bindL]

/-- loop.example/g01194/spec.l2Put -/
def spec_l2Put_c (Q : Type) (b0 : List Int) (cell1 : List Int) (t2 : Int) (k : (List Int) → Option Q) : Option Q :=
    bif (inR (iget cell1 0) 4) then
    bif (inR (iget cell1 1) 4) then
    k (iset b0 (((0 : Nat) + ((Int.toNat (iget cell1 0)) * (4 : Nat))) + ((Int.toNat (iget cell1 1)) * (1 : Nat))) t2)
    else none
    else none
def spec_l2Put_p (b0 : List Int) (cell1 : List Int) (t2 : Int) : Option (List Int) := spec_l2Put_c _ b0 cell1 t2 some
theorem spec_l2Put_cp (Q : Type) (b0 : List Int) (cell1 : List Int) (t2 : Int) (k : (List Int) → Option Q) : spec_l2Put_c Q b0 cell1 t2 k = (spec_l2Put_p b0 cell1 t2).bind k := by
  simp only [spec_l2Put_p, spec_l2Put_c, cond_bindL, none_bindL, some_bindL]

/-- loop 3 of loop.example/g01194/spec.l2Slide -/
def spec_l2Slide_s3 (F : Nat) (d0 : Int) (b12 : List Int) (Q : Type) : (Int × Int × List Int) → ((Int × Int × List Int) → Option Q) → ((Int × List Int) → Option Q) → Option Q
  | (sum10, i11, out14), kn, kx =>
    let z_1 := (spec_l2Numbers_p F b12 d0 i11)
    let z_2 := (spec_l2Row_p F (Option.getD z_1 default))
    let z_3 := (spec_l2Line_p F d0 i11)
    let z_4 := (Option.getD z_2 default)
    let z_5 := (spec_l2Put_p out14 (sub (Option.getD z_3 default) 0 2) (iget z_4.1 0))
    let z_6 := (spec_l2Put_p (Option.getD z_5 default) (sub (Option.getD z_3 default) 2 2) (iget z_4.1 1))
    let z_7 := (spec_l2Put_p (Option.getD z_6 default) (sub (Option.getD z_3 default) 4 2) (iget z_4.1 2))
    let z_8 := (spec_l2Put_p (Option.getD z_7 default) (sub (Option.getD z_3 default) 6 2) (iget z_4.1 3))
    bif (decide (i11 < (4 : Int))) then
    bif (Option.isSome z_1) then
    bif (Option.isSome z_2) then
    bif (Option.isSome z_3) then
    bif (Option.isSome z_5) then
    bif (Option.isSome z_6) then
    bif (Option.isSome z_7) then
    bif (Option.isSome z_8) then
    kn ((IntKind.wrap .i64 (sum10 + z_4.2)), (IntKind.wrap .i64 (i11 + (1 : Int))), (Option.getD z_8 default))
    else none
    else none
    else none
    else none
    else none
    else none
    else none
    else kx (sum10, out14)
def spec_l2Slide_l3 (F : Nat) (d0 : Int) (b12 : List Int) (sum10 : Int) (i11 : Int) (out14 : List Int) : Option (Int × List Int) := loopC (spec_l2Slide_s3 F d0 b12) F (sum10, i11, out14) some
theorem spec_l2Slide_s3_nat (F : Nat) (d0 : Int) (b12 : List Int) : Natural (spec_l2Slide_s3 F d0 b12) := by
  intro Q Q' s kn kx h
  obtain ⟨sum10, i11, out14⟩ := s
  simp only [spec_l2Slide_s3, cond_bindL, none_bindL]
/-- loop.example/g01194/spec.l2Slide -/
def spec_l2Slide_c (Q : Type) (F : Nat) (b0 : List Int) (d1 : Int) (k : (List Int × Int) → Option Q) : Option Q :=
    let z_1 := (spec_l2Slide_l3 F d1 b0 (0 : Int) (0 : Int) b0)
    let z_2 := (Option.getD z_1 default)
    bif (Option.isSome z_1) then
    k (z_2.2, z_2.1)
    else none
def spec_l2Slide_p (F : Nat) (b0 : List Int) (d1 : Int) : Option (List Int × Int) := spec_l2Slide_c _ F b0 d1 some
theorem spec_l2Slide_cp (Q : Type) (F : Nat) (b0 : List Int) (d1 : Int) (k : (List Int × Int) → Option Q) : spec_l2Slide_c Q F b0 d1 k = (spec_l2Slide_p F b0 d1).bind k := by
  simp only [spec_l2Slide_p, spec_l2Slide_c, cond_bindL, none_bindL, some_bindL]
end Go.Lv.P
