/-
Pure functions and what the code of them does, by program; without conditions.
-/
import Derived.Test.YtgdokdkcbgkekafGfP3
namespace Go.Lv.P
open Go Go.Lv
set_option linter.unusedVariables false
set_option linter.unusedSimpArgs false
set_option maxRecDepth 100000
/-- loop.example/g01194/spec.l2Worth -/
def spec_l2Worth_c (Q : Type) (t0 : Int) (k : (Int) → Option Q) : Option Q :=
    bif (decide (t0 < (0 : Int))) then
    none
    else k (IntKind.wrap .i64 ((1 : Int) * (2 ^ (min (Int.toNat t0) (IntKind.bits .i64)) : Int)))
def spec_l2Worth_p (t0 : Int) : Option (Int) := spec_l2Worth_c _ t0 some
theorem spec_l2Worth_cp (Q : Type) (t0 : Int) (k : (Int) → Option Q) : spec_l2Worth_c Q t0 k = (spec_l2Worth_p t0).bind k := by
  simp only [spec_l2Worth_p, spec_l2Worth_c, cond_bindL, none_bindL, some_bindL]

/-- loop 3 of loop.example/g01194/spec.l2Row -/
def spec_l2Row_s3 (F : Nat) (row13 : List Int) (Q : Type) : (Int × Int × Bool × Int × List Int) → ((Int × Int × Bool × Int × List Int) → Option Q) → ((Int × List Int) → Option Q) → Option Q
  | (n9, score10, merged11, k12, out15), kn, kx =>
    let z_1 : Int := (iget row13 ((0 : Nat) + ((Int.toNat k12) * (1 : Nat))))
    let z_2 : Int := (IntKind.wrap .i64 (k12 + (1 : Int)))
    let z_3 : Int := (IntKind.wrap .i64 (n9 - (1 : Int)))
    let z_4 : Bool := (inR z_3 4)
    let z_5 : Nat := ((0 : Nat) + ((Int.toNat z_3) * (1 : Nat)))
    let z_6 : Int := (IntKind.wrap .i64 (z_1 + (1 : Int)))
    let z_7 : Int := (IntKind.wrap .i64 (n9 + (1 : Int)))
    let z_8 : List Int := (iset out15 ((0 : Nat) + ((Int.toNat n9) * (1 : Nat))) z_1)
    bif (decide (k12 < (4 : Int))) then
    bif (inR k12 4) then
    bif (z_1 == (0 : Int)) then
    kn (n9, score10, merged11, z_2, out15)
    else bif (decide ((0 : Int) < n9)) then
    bif z_4 then
    bif (inR k12 4) then
    bif ((iget out15 z_5) == z_1) then
    bif (inR k12 4) then
    bif (decide (z_1 < (17 : Int))) then
    bif (!merged11) then
    bif (inR k12 4) then
    bif z_4 then
    bif (inR k12 4) then
    bif (Option.isSome (spec_l2Worth_p z_6)) then
    kn (n9, (IntKind.wrap .i64 (score10 + (Option.getD (spec_l2Worth_p z_6) default))), true, z_2, (iset out15 z_5 z_6))
    else none
    else none
    else none
    else none
    else bif (inR k12 4) then
    bif (inR n9 4) then
    kn (z_7, score10, false, z_2, z_8)
    else none
    else none
    else bif (inR k12 4) then
    bif (inR n9 4) then
    kn (z_7, score10, false, z_2, z_8)
    else none
    else none
    else none
    else bif (inR k12 4) then
    bif (inR n9 4) then
    kn (z_7, score10, false, z_2, z_8)
    else none
    else none
    else none
    else none
    else bif (inR k12 4) then
    bif (inR n9 4) then
    kn (z_7, score10, false, z_2, z_8)
    else none
    else none
    else none
    else kx (score10, out15)
def spec_l2Row_l3 (F : Nat) (row13 : List Int) (n9 : Int) (score10 : Int) (merged11 : Bool) (k12 : Int) (out15 : List Int) : Option (Int × List Int) := loopC (spec_l2Row_s3 F row13) F (n9, score10, merged11, k12, out15) some
theorem spec_l2Row_s3_nat (F : Nat) (row13 : List Int) : Natural (spec_l2Row_s3 F row13) := by
  intro Q Q' s kn kx h
  obtain ⟨n9, score10, merged11, k12, out15⟩ := s
  simp only [spec_l2Row_s3, cond_bindL, none_bindL]
/-- loop.example/g01194/spec.l2Row -/
def spec_l2Row_c (Q : Type) (F : Nat) (row0 : List Int) (k : (List Int × Int) → Option Q) : Option Q :=
    let z_1 := (spec_l2Row_l3 F row0 (0 : Int) (0 : Int) false (0 : Int) [(0 : Int), (0 : Int), (0 : Int), (0 : Int)])
    let z_2 := (Option.getD z_1 default)
    bif (Option.isSome z_1) then
    k (z_2.2, z_2.1)
    else none
def spec_l2Row_p (F : Nat) (row0 : List Int) : Option (List Int × Int) := spec_l2Row_c _ F row0 some
theorem spec_l2Row_cp (Q : Type) (F : Nat) (row0 : List Int) (k : (List Int × Int) → Option Q) : spec_l2Row_c Q F row0 k = (spec_l2Row_p F row0).bind k := by
  simp only [spec_l2Row_p, spec_l2Row_c, cond_bindL, none_bindL, some_bindL]

/-- loop.example/g01194/spec.l2Put -/
def spec_l2Put_c (Q : Type) (b0 : List Int) (cell1 : List Int) (t2 : Int) (k : (List Int) → Option Q) : Option Q :=
    bif (inR (iget cell1 0) 4) then
    bif (inR (iget cell1 1) 4) then
    k (iset b0 (((0 : Nat) + ((Int.toNat (iget cell1 0)) * (4 : Nat))) + ((Int.toNat (iget cell1 1)) * (1 : Nat))) t2)
    else none
    else none
def spec_l2Put_p (b0 : List Int) (cell1 : List Int) (t2 : Int) : Option (List Int) := spec_l2Put_c _ b0 cell1 t2 some
theorem spec_l2Put_cp (Q : Type) (b0 : List Int) (cell1 : List Int) (t2 : Int) (k : (List Int) → Option Q) : spec_l2Put_c Q b0 cell1 t2 k = (spec_l2Put_p b0 cell1 t2).bind k := by
  simp only [spec_l2Put_p, spec_l2Put_c, cond_bindL, none_bindL, some_bindL]

/-- loop 3 of loop.example/g01194/spec.l2Slide -/
def spec_l2Slide_s3 (F : Nat) (d0 : Int) (b12 : List Int) (Q : Type) : (Int × Int × List Int) → ((Int × Int × List Int) → Option Q) → ((Int × List Int) → Option Q) → Option Q
  | (sum10, i11, out14), kn, kx =>
    let z_1 := (spec_l2Numbers_p F b12 d0 i11)
    let z_2 := (spec_l2Row_p F (Option.getD z_1 default))
    let z_3 := (spec_l2Line_p F d0 i11)
    let z_4 := (Option.getD z_2 default)
    let z_5 := (spec_l2Put_p out14 (sub (Option.getD z_3 default) 0 2) (iget z_4.1 0))
    let z_6 := (spec_l2Put_p (Option.getD z_5 default) (sub (Option.getD z_3 default) 2 2) (iget z_4.1 1))
    let z_7 := (spec_l2Put_p (Option.getD z_6 default) (sub (Option.getD z_3 default) 4 2) (iget z_4.1 2))
    let z_8 := (spec_l2Put_p (Option.getD z_7 default) (sub (Option.getD z_3 default) 6 2) (iget z_4.1 3))
    bif (decide (i11 < (4 : Int))) then
    bif (Option.isSome z_1) then
    bif (Option.isSome z_2) then
    bif (Option.isSome z_3) then
    bif (Option.isSome z_5) then
    bif (Option.isSome z_6) then
    bif (Option.isSome z_7) then
    bif (Option.isSome z_8) then
    kn ((IntKind.wrap .i64 (sum10 + z_4.2)), (IntKind.wrap .i64 (i11 + (1 : Int))), (Option.getD z_8 default))
    else none
    else none
    else none
    else none
    else none
    else none
    else none
    else kx (sum10, out14)
def spec_l2Slide_l3 (F : Nat) (d0 : Int) (b12 : List Int) (sum10 : Int) (i11 : Int) (out14 : List Int) : Option (Int × List Int) := loopC (spec_l2Slide_s3 F d0 b12) F (sum10, i11, out14) some
theorem spec_l2Slide_s3_nat (F : Nat) (d0 : Int) (b12 : List Int) : Natural (spec_l2Slide_s3 F d0 b12) := by
  intro Q Q' s kn kx h
  obtain ⟨sum10, i11, out14⟩ := s
  simp only [spec_l2Slide_s3, cond_bindL, none_bindL]
/-- loop.example/g01194/spec.l2Slide -/
def spec_l2Slide_c (Q : Type) (F : Nat) (b0 : List Int) (d1 : Int) (k : (List Int × Int) → Option Q) : Option Q :=
    let z_1 := (spec_l2Slide_l3 F d1 b0 (0 : Int) (0 : Int) b0)
    let z_2 := (Option.getD z_1 default)
    bif (Option.isSome z_1) then
    k (z_2.2, z_2.1)
    else none
def spec_l2Slide_p (F : Nat) (b0 : List Int) (d1 : Int) : Option (List Int × Int) := spec_l2Slide_c _ F b0 d1 some
theorem spec_l2Slide_cp (Q : Type) (F : Nat) (b0 : List Int) (d1 : Int) (k : (List Int × Int) → Option Q) : spec_l2Slide_c Q F b0 d1 k = (spec_l2Slide_p F b0 d1).bind k := by
  simp only [spec_l2Slide_p, spec_l2Slide_c, cond_bindL, none_bindL, some_bindL]

/-- loop.example/g01194/spec.l8Refuted -/
def spec_l8Refuted_n1_c (Q : Type) (next0 : List Int) (k : (Unit) → Option Q) : Option Q :=
    k ()
def spec_l8Refuted_n1_v (next0 : List Int) : Unit :=
    ()
theorem spec_l8Refuted_n1_cv (Q : Type) (next0 : List Int) (k : (Unit) → Option Q) : spec_l8Refuted_n1_c Q next0 k = k (spec_l8Refuted_n1_v next0) := by
  simp only [spec_l8Refuted_n1_c, spec_l8Refuted_n1_v, app_condL k]

/-- loop.example/g01194/spec.l8Safe -/
def spec_l8Safe_n1_c (Q : Type) (F : Nat) (b0 : List Int) (d1 : Int) (k : (Bool) → Option Q) : Option Q :=
    let z_1 := (spec_l2Slide_p F b0 d1)
    bif (Option.isSome z_1) then
    bif ((Option.getD z_1 default).1 == b0) then
    k false
    else k true
    else none
def spec_l8Safe_n1_p (F : Nat) (b0 : List Int) (d1 : Int) : Option (Bool) := spec_l8Safe_n1_c _ F b0 d1 some
theorem spec_l8Safe_n1_cp (Q : Type) (F : Nat) (b0 : List Int) (d1 : Int) (k : (Bool) → Option Q) : spec_l8Safe_n1_c Q F b0 d1 k = (spec_l8Safe_n1_p F b0 d1).bind k := by
  simp only [spec_l8Safe_n1_p, spec_l8Safe_n1_c, cond_bindL, none_bindL, some_bindL]

/-- loop 4 of loop.example/g01194/spec.l8Lasts -/
def spec_l8Lasts_n1_s4 (F : Nat) (b5 : List Int) (Q : Type) : (Int) → ((Int) → Option Q) → ((Bool) → Option Q) → Option Q
  | d4, kn, kx =>
    let z_1 := (spec_l8Safe_n1_p F b5 d4)
    bif (decide (d4 < (4 : Int))) then
    bif (Option.isSome z_1) then
    bif (Option.getD z_1 default) then
    kx true
    else kn (IntKind.wrap .i64 (d4 + (1 : Int)))
    else none
    else kx false
def spec_l8Lasts_n1_l4 (F : Nat) (b5 : List Int) (d4 : Int) : Option (Bool) := loopC (spec_l8Lasts_n1_s4 F b5) F d4 some
theorem spec_l8Lasts_n1_s4_nat (F : Nat) (b5 : List Int) : Natural (spec_l8Lasts_n1_s4 F b5) := by
  intro Q Q' s kn kx h
  simp only [spec_l8Lasts_n1_s4, cond_bindL, none_bindL]
/-- loop.example/g01194/spec.l8Lasts -/
def spec_l8Lasts_n1_c (Q : Type) (F : Nat) (b0 : List Int) (k : (Bool) → Option Q) : Option Q :=
    let z_1 := (spec_l8Lasts_n1_l4 F b0 (0 : Int))
    bif (Option.isSome z_1) then
    bif (Option.getD z_1 default) then
    k true
    else k false
    else none
def spec_l8Lasts_n1_p (F : Nat) (b0 : List Int) : Option (Bool) := spec_l8Lasts_n1_c _ F b0 some
theorem spec_l8Lasts_n1_cp (Q : Type) (F : Nat) (b0 : List Int) (k : (Bool) → Option Q) : spec_l8Lasts_n1_c Q F b0 k = (spec_l8Lasts_n1_p F b0).bind k := by
  simp only [spec_l8Lasts_n1_p, spec_l8Lasts_n1_c, cond_bindL, none_bindL, some_bindL]

/-- loop 6 of loop.example/g01194/spec.l2Empty -/
def spec_l2Empty_s6 (F : Nat) (r5 : Int) (b7 : List Int) (Q : Type) : (Int × List (List Int)) → ((Int × List (List Int)) → Option Q) → ((List (List Int)) → Option Q) → Option Q
  | (c6, out8), kn, kx =>
    let z_1 : List (List Int) := ((subn (List.length out8) out8 0 (List.length out8)) ++ [[r5, c6]])
    let z_2 : Int := (IntKind.wrap .i64 (c6 + (1 : Int)))
    bif (decide (c6 < (4 : Int))) then
    bif (inR r5 4) then
    bif (inR c6 4) then
    bif ((iget b7 (((0 : Nat) + ((Int.toNat r5) * (4 : Nat))) + ((Int.toNat c6) * (1 : Nat)))) == (0 : Int)) then
    bif (fits (List.length z_1) 16) then
    kn (z_2, z_1)
    else none
    else kn (z_2, out8)
    else none
    else none
    else kx out8
def spec_l2Empty_l6 (F : Nat) (r5 : Int) (b7 : List Int) (c6 : Int) (out8 : List (List Int)) : Option (List (List Int)) := loopC (spec_l2Empty_s6 F r5 b7) F (c6, out8) some
theorem spec_l2Empty_s6_nat (F : Nat) (r5 : Int) (b7 : List Int) : Natural (spec_l2Empty_s6 F r5 b7) := by
  intro Q Q' s kn kx h
  obtain ⟨c6, out8⟩ := s
  simp only [spec_l2Empty_s6, cond_bindL, none_bindL]
/-- loop 3 of loop.example/g01194/spec.l2Empty -/
def spec_l2Empty_s3 (F : Nat) (b6 : List Int) (Q : Type) : (Int × List (List Int)) → ((Int × List (List Int)) → Option Q) → ((List (List Int)) → Option Q) → Option Q
  | (r5, out7), kn, kx =>
    let z_1 := (spec_l2Empty_l6 F r5 b6 (0 : Int) out7)
    bif (decide (r5 < (4 : Int))) then
    bif ((Nat.beq (List.length out7) (List.length out7)) && (Option.isSome z_1)) then
    kn ((IntKind.wrap .i64 (r5 + (1 : Int))), (Option.getD z_1 default))
    else none
    else kx out7
def spec_l2Empty_l3 (F : Nat) (b6 : List Int) (r5 : Int) (out7 : List (List Int)) : Option (List (List Int)) := loopC (spec_l2Empty_s3 F b6) F (r5, out7) some
theorem spec_l2Empty_s3_nat (F : Nat) (b6 : List Int) : Natural (spec_l2Empty_s3 F b6) := by
  intro Q Q' s kn kx h
  obtain ⟨r5, out7⟩ := s
  simp only [spec_l2Empty_s3, cond_bindL, none_bindL]
/-- loop.example/g01194/spec.l2Empty -/
def spec_l2Empty_c (Q : Type) (F : Nat) (b0 : List Int) (k : (List (List Int)) → Option Q) : Option Q :=
    let z_1 := (spec_l2Empty_l3 F b0 (0 : Int) ([] : List (List Int)))
    bif (Option.isSome z_1) then
    k (Option.getD z_1 default)
    else none
def spec_l2Empty_p (F : Nat) (b0 : List Int) : Option (List (List Int)) := spec_l2Empty_c _ F b0 some
theorem spec_l2Empty_cp (Q : Type) (F : Nat) (b0 : List Int) (k : (List (List Int)) → Option Q) : spec_l2Empty_c Q F b0 k = (spec_l2Empty_p F b0).bind k := by
  simp only [spec_l2Empty_p, spec_l2Empty_c, cond_bindL, none_bindL, some_bindL]

/-- loop 3 of loop.example/g01194/spec.l8Places -/
def spec_l8Places_s3 (F : Nat) (empty6 : List (List Int)) (Q : Type) : (Int × List (List Int)) → ((Int × List (List Int)) → Option Q) → ((List (List Int)) → Option Q) → Option Q
  | (i4, out5), kn, kx =>
    let z_1 : Bool := (inR i4 (List.length empty6))
    let z_2 : List Int := (rget empty6 ((0 : Nat) + (Int.toNat i4)))
    let z_3 : Int := (iget z_2 0)
    let z_4 : Int := (iget z_2 1)
    let z_5 : List (List Int) := ((subn (List.length out5) out5 0 (List.length out5)) ++ [[z_3, z_4, (1 : Int)], [z_3, z_4, (2 : Int)]])
    bif (decide (i4 < (((List.length empty6) : Nat) : Int))) then
    bif z_1 then
    bif z_1 then
    bif z_1 then
    bif z_1 then
    bif (fits (List.length z_5) 24) then
    kn ((IntKind.wrap .i64 (i4 + (1 : Int))), z_5)
    else none
    else none
    else none
    else none
    else none
    else kx out5
def spec_l8Places_l3 (F : Nat) (empty6 : List (List Int)) (i4 : Int) (out5 : List (List Int)) : Option (List (List Int)) := loopC (spec_l8Places_s3 F empty6) F (i4, out5) some
theorem spec_l8Places_s3_nat (F : Nat) (empty6 : List (List Int)) : Natural (spec_l8Places_s3 F empty6) := by
  intro Q Q' s kn kx h
  obtain ⟨i4, out5⟩ := s
  simp only [spec_l8Places_s3, cond_bindL, none_bindL]
/-- loop.example/g01194/spec.l8Places -/
def spec_l8Places_c (Q : Type) (F : Nat) (b0 : List Int) (k : (List (List Int)) → Option Q) : Option Q :=
    let z_1 := (spec_l2Empty_p F b0)
    let z_2 : Nat := (List.length (Option.getD z_1 default))
    let z_3 := (spec_l8Places_l3 F (Option.getD z_1 default) (0 : Int) ([] : List (List Int)))
    bif (Option.isSome z_1) then
    bif ((Nat.beq z_2 z_2) && (Option.isSome z_3)) then
    k (Option.getD z_3 default)
    else none
    else none
def spec_l8Places_p (F : Nat) (b0 : List Int) : Option (List (List Int)) := spec_l8Places_c _ F b0 some
theorem spec_l8Places_cp (Q : Type) (F : Nat) (b0 : List Int) (k : (List (List Int)) → Option Q) : spec_l8Places_c Q F b0 k = (spec_l8Places_p F b0).bind k := by
  simp only [spec_l8Places_p, spec_l8Places_c, cond_bindL, none_bindL, some_bindL]

/-- loop.example/g01194/spec.l8Put -/
def spec_l8Put_c (Q : Type) (b0 : List Int) (p1 : List Int) (k : (List Int) → Option Q) : Option Q :=
    let z_1 := (spec_l2Put_p b0 [(iget p1 0), (iget p1 1)] (iget p1 2))
    bif (Option.isSome z_1) then
    k (Option.getD z_1 default)
    else none
def spec_l8Put_p (b0 : List Int) (p1 : List Int) : Option (List Int) := spec_l8Put_c _ b0 p1 some
theorem spec_l8Put_cp (Q : Type) (b0 : List Int) (p1 : List Int) (k : (List Int) → Option Q) : spec_l8Put_c Q b0 p1 k = (spec_l8Put_p b0 p1).bind k := by
  simp only [spec_l8Put_p, spec_l8Put_c, cond_bindL, none_bindL, some_bindL]

/-- loop 5 of loop.example/g01194/spec.l8Refuted -/
def spec_l8Refuted_n2_s5 (F : Nat) (next10 : List Int) (all12 : List (List Int)) (Q : Type) : (Int) → ((Int) → Option Q) → ((Bool × List Int) → Option Q) → Option Q
  | i9, kn, kx =>
    let z_1 : Bool := (inR i9 (List.length all12))
    let z_2 : List Int := (rget all12 ((0 : Nat) + (Int.toNat i9)))
    let z_3 := (spec_l8Put_p next10 z_2)
    let z_4 := (spec_l8Lasts_n1_p F (Option.getD z_3 default))
    bif (decide (i9 < (((List.length all12) : Nat) : Int))) then
    bif z_1 then
    bif (Option.isSome z_3) then
    bif (Option.isSome z_4) then
    bif (!(Option.getD z_4 default)) then
    bif z_1 then
    kx (true, z_2)
    else none
    else kn (IntKind.wrap .i64 (i9 + (1 : Int)))
    else none
    else none
    else none
    else kx (false, default)
def spec_l8Refuted_n2_l5 (F : Nat) (next10 : List Int) (all12 : List (List Int)) (i9 : Int) : Option (Bool × List Int) := loopC (spec_l8Refuted_n2_s5 F next10 all12) F i9 some
theorem spec_l8Refuted_n2_s5_nat (F : Nat) (next10 : List Int) (all12 : List (List Int)) : Natural (spec_l8Refuted_n2_s5 F next10 all12) := by
  intro Q Q' s kn kx h
  simp only [spec_l8Refuted_n2_s5, cond_bindL, none_bindL]
/-- loop.example/g01194/spec.l8Refuted -/
def spec_l8Refuted_n2_c (Q : Type) (F : Nat) (next0 : List Int) (k : (List Int × Bool) → Option Q) : Option Q :=
    let z_1 := (spec_l8Places_p F next0)
    let z_2 : Nat := (List.length (Option.getD z_1 default))
    let z_3 := (spec_l8Refuted_n2_l5 F next0 (Option.getD z_1 default) (0 : Int))
    let z_4 := (Option.getD z_3 default)
    bif (Option.isSome z_1) then
    bif ((Nat.beq z_2 z_2) && (Option.isSome z_3)) then
    bif z_4.1 then
    k (z_4.2, true)
    else k ([(0 : Int), (0 : Int), (0 : Int)], false)
    else none
    else none
def spec_l8Refuted_n2_p (F : Nat) (next0 : List Int) : Option (List Int × Bool) := spec_l8Refuted_n2_c _ F next0 some
theorem spec_l8Refuted_n2_cp (Q : Type) (F : Nat) (next0 : List Int) (k : (List Int × Bool) → Option Q) : spec_l8Refuted_n2_c Q F next0 k = (spec_l8Refuted_n2_p F next0).bind k := by
  simp only [spec_l8Refuted_n2_p, spec_l8Refuted_n2_c, cond_bindL, none_bindL, some_bindL]

/-- loop.example/g01194/spec.l8Safe -/
def spec_l8Safe_n2_c (Q : Type) (F : Nat) (b0 : List Int) (d1 : Int) (k : (Bool) → Option Q) : Option Q :=
    let z_1 := (spec_l2Slide_p F b0 d1)
    let z_2 := (spec_l8Refuted_n2_p F (Option.getD z_1 default).1)
    bif (Option.isSome z_1) then
    bif ((Option.getD z_1 default).1 == b0) then
    k false
    else bif (Option.isSome z_2) then
    k (!(Option.getD z_2 default).2)
    else none
    else none
def spec_l8Safe_n2_p (F : Nat) (b0 : List Int) (d1 : Int) : Option (Bool) := spec_l8Safe_n2_c _ F b0 d1 some
theorem spec_l8Safe_n2_cp (Q : Type) (F : Nat) (b0 : List Int) (d1 : Int) (k : (Bool) → Option Q) : spec_l8Safe_n2_c Q F b0 d1 k = (spec_l8Safe_n2_p F b0 d1).bind k := by
  simp only [spec_l8Safe_n2_p, spec_l8Safe_n2_c, cond_bindL, none_bindL, some_bindL]

/-- loop 4 of loop.example/g01194/spec.l8Lasts -/
def spec_l8Lasts_n2_s4 (F : Nat) (b5 : List Int) (Q : Type) : (Int) → ((Int) → Option Q) → ((Bool) → Option Q) → Option Q
  | d4, kn, kx =>
    let z_1 := (spec_l8Safe_n2_p F b5 d4)
    bif (decide (d4 < (4 : Int))) then
    bif (Option.isSome z_1) then
    bif (Option.getD z_1 default) then
    kx true
    else kn (IntKind.wrap .i64 (d4 + (1 : Int)))
    else none
    else kx false
def spec_l8Lasts_n2_l4 (F : Nat) (b5 : List Int) (d4 : Int) : Option (Bool) := loopC (spec_l8Lasts_n2_s4 F b5) F d4 some
theorem spec_l8Lasts_n2_s4_nat (F : Nat) (b5 : List Int) : Natural (spec_l8Lasts_n2_s4 F b5) := by
  intro Q Q' s kn kx h
  simp only [spec_l8Lasts_n2_s4, cond_bindL, none_bindL]
/-- loop.example/g01194/spec.l8Lasts -/
def spec_l8Lasts_n2_c (Q : Type) (F : Nat) (b0 : List Int) (k : (Bool) → Option Q) : Option Q :=
    let z_1 := (spec_l8Lasts_n2_l4 F b0 (0 : Int))
    bif (Option.isSome z_1) then
    bif (Option.getD z_1 default) then
    k true
    else k false
    else none
def spec_l8Lasts_n2_p (F : Nat) (b0 : List Int) : Option (Bool) := spec_l8Lasts_n2_c _ F b0 some
theorem spec_l8Lasts_n2_cp (Q : Type) (F : Nat) (b0 : List Int) (k : (Bool) → Option Q) : spec_l8Lasts_n2_c Q F b0 k = (spec_l8Lasts_n2_p F b0).bind k := by
  simp only [spec_l8Lasts_n2_p, spec_l8Lasts_n2_c, cond_bindL, none_bindL, some_bindL]

/-- loop 5 of loop.example/g01194/spec.l8Refuted -/
def spec_l8Refuted_n3_s5 (F : Nat) (next10 : List Int) (all12 : List (List Int)) (Q : Type) : (Int) → ((Int) → Option Q) → ((Bool × List Int) → Option Q) → Option Q
  | i9, kn, kx =>
    let z_1 : Bool := (inR i9 (List.length all12))
    let z_2 : List Int := (rget all12 ((0 : Nat) + (Int.toNat i9)))
    let z_3 := (spec_l8Put_p next10 z_2)
    let z_4 := (spec_l8Lasts_n2_p F (Option.getD z_3 default))
    bif (decide (i9 < (((List.length all12) : Nat) : Int))) then
    bif z_1 then
    bif (Option.isSome z_3) then
    bif (Option.isSome z_4) then
    bif (!(Option.getD z_4 default)) then
    bif z_1 then
    kx (true, z_2)
    else none
    else kn (IntKind.wrap .i64 (i9 + (1 : Int)))
    else none
    else none
    else none
    else kx (false, default)
def spec_l8Refuted_n3_l5 (F : Nat) (next10 : List Int) (all12 : List (List Int)) (i9 : Int) : Option (Bool × List Int) := loopC (spec_l8Refuted_n3_s5 F next10 all12) F i9 some
theorem spec_l8Refuted_n3_s5_nat (F : Nat) (next10 : List Int) (all12 : List (List Int)) : Natural (spec_l8Refuted_n3_s5 F next10 all12) := by
  intro Q Q' s kn kx h
  simp only [spec_l8Refuted_n3_s5, cond_bindL, none_bindL]
/-- loop.example/g01194/spec.l8Refuted -/
def spec_l8Refuted_n3_c (Q : Type) (F : Nat) (next0 : List Int) (k : (List Int × Bool) → Option Q) : Option Q :=
    let z_1 := (spec_l8Places_p F next0)
    let z_2 : Nat := (List.length (Option.getD z_1 default))
    let z_3 := (spec_l8Refuted_n3_l5 F next0 (Option.getD z_1 default) (0 : Int))
    let z_4 := (Option.getD z_3 default)
    bif (Option.isSome z_1) then
    bif ((Nat.beq z_2 z_2) && (Option.isSome z_3)) then
    bif z_4.1 then
    k (z_4.2, true)
    else k ([(0 : Int), (0 : Int), (0 : Int)], false)
    else none
    else none
def spec_l8Refuted_n3_p (F : Nat) (next0 : List Int) : Option (List Int × Bool) := spec_l8Refuted_n3_c _ F next0 some
theorem spec_l8Refuted_n3_cp (Q : Type) (F : Nat) (next0 : List Int) (k : (List Int × Bool) → Option Q) : spec_l8Refuted_n3_c Q F next0 k = (spec_l8Refuted_n3_p F next0).bind k := by
  simp only [spec_l8Refuted_n3_p, spec_l8Refuted_n3_c, cond_bindL, none_bindL, some_bindL]

/-- loop.example/g01194/spec.l8Safe -/
def spec_l8Safe_n3_c (Q : Type) (F : Nat) (b0 : List Int) (d1 : Int) (k : (Bool) → Option Q) : Option Q :=
    let z_1 := (spec_l2Slide_p F b0 d1)
    let z_2 := (spec_l8Refuted_n3_p F (Option.getD z_1 default).1)
    bif (Option.isSome z_1) then
    bif ((Option.getD z_1 default).1 == b0) then
    k false
    else bif (Option.isSome z_2) then
    k (!(Option.getD z_2 default).2)
    else none
    else none
def spec_l8Safe_n3_p (F : Nat) (b0 : List Int) (d1 : Int) : Option (Bool) := spec_l8Safe_n3_c _ F b0 d1 some
theorem spec_l8Safe_n3_cp (Q : Type) (F : Nat) (b0 : List Int) (d1 : Int) (k : (Bool) → Option Q) : spec_l8Safe_n3_c Q F b0 d1 k = (spec_l8Safe_n3_p F b0 d1).bind k := by
  simp only [spec_l8Safe_n3_p, spec_l8Safe_n3_c, cond_bindL, none_bindL, some_bindL]
end Go.Lv.P
