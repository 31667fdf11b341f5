/-
Pure functions and what the code of them does, by program; without conditions.
-/
import Derived.Test.YtgmnclpjbhmioaaGreatTZP0
namespace Go.Lv.P
open Go Go.Lv
set_option linter.unusedVariables false
set_option linter.unusedSimpArgs false
set_option maxRecDepth 100000
/-- loop 7 of loop.example/g01194/spec.l4Before -/
def spec_l4Before_s7 (F : Nat) (out3 : List (List Int)) (code4 : Int) (row8 : List Int) (Q : Type) : (Int × List Int) → ((Int × List Int) → Option Q) → ((List Int) → Option Q) → Option Q
  | (k7, tiles9), kn, kx =>
    let z_1 : Int := (iget row8 ((0 : Nat) + ((Int.toNat k7) * (1 : Nat))))
    let z_2 : List Int := (subn (List.length tiles9) tiles9 0 (List.length tiles9))
    let z_3 : Int := (IntKind.wrap .i64 (z_1 - (1 : Int)))
    let z_4 : List Int := (z_2 ++ [z_3, z_3])
    let z_5 : Int := (IntKind.wrap .i64 (k7 + (1 : Int)))
    let z_6 : List Int := (z_2 ++ [z_1])
    bif (decide (k7 < (4 : Int))) then
    bif (inR k7 4) then
    bif (decide ((0 : Int) < z_1)) then
    bif (decide (k7 < (0 : Int))) then
    none
    else bif ((IntKind.wrap .i64 (((BitVec.ofInt (IntKind.bits .i64) (Int.fdiv code4 (2 ^ (min (Int.toNat k7) (IntKind.bits .i64)) : Int)) &&& BitVec.ofInt (IntKind.bits .i64) (1 : Int)).toNat : Nat) : Int)) == (1 : Int)) then
    bif (inR k7 4) then
    bif (inR k7 4) then
    bif (fits (List.length z_4) 8) then
    kn (z_5, z_4)
    else none
    else none
    else none
    else bif (inR k7 4) then
    bif (fits (List.length z_6) 8) then
    kn (z_5, z_6)
    else none
    else none
    else kx tiles9
    else none
    else kx tiles9
def spec_l4Before_l7 (F : Nat) (out3 : List (List Int)) (code4 : Int) (row8 : List Int) (k7 : Int) (tiles9 : List Int) : Option (List Int) := loopC (spec_l4Before_s7 F out3 code4 row8) F (k7, tiles9) some
theorem spec_l4Before_s7_nat (F : Nat) (out3 : List (List Int)) (code4 : Int) (row8 : List Int) : Natural (spec_l4Before_s7 F out3 code4 row8) := by
  intro Q Q' s kn kx h
  obtain ⟨k7, tiles9⟩ := s
  simp only [spec_l4Before_s7, cond_bindL, none_bindL]
/-- loop 15 of loop.example/g01194/spec.l4Before -/
def spec_l4Before_s15 (F : Nat) (code4 : Int) (all6 : Nat) (row8 : List Int) (all9 : List (List Int)) (Q : Type) : (List (List Int) × Int) → ((List (List Int) × Int) → Option Q) → ((List (List Int)) → Option Q) → Option Q
  | (out3, i7), kn, kx =>
    let z_1 : List Int := (rget all9 ((0 : Nat) + (Int.toNat i7)))
    let z_2 := (spec_l2Row_p F z_1)
    let z_3 := (spec_l4Put_p F out3 z_1)
    let z_4 : Int := (IntKind.wrap .i64 (i7 + (1 : Int)))
    bif (decide (i7 < ((all6 : Nat) : Int))) then
    bif (inR i7 all6) then
    bif (Option.isSome z_2) then
    bif ((Option.getD z_2 default).1 == row8) then
    bif (inR i7 all6) then
    bif (Option.isSome z_3) then
    kn ((Option.getD z_3 default), z_4)
    else none
    else none
    else kn (out3, z_4)
    else none
    else none
    else kx out3
def spec_l4Before_l15 (F : Nat) (code4 : Int) (all6 : Nat) (row8 : List Int) (all9 : List (List Int)) (out3 : List (List Int)) (i7 : Int) : Option (List (List Int)) := loopC (spec_l4Before_s15 F code4 all6 row8 all9) F (out3, i7) some
theorem spec_l4Before_s15_nat (F : Nat) (code4 : Int) (all6 : Nat) (row8 : List Int) (all9 : List (List Int)) : Natural (spec_l4Before_s15 F code4 all6 row8 all9) := by
  intro Q Q' s kn kx h
  obtain ⟨out3, i7⟩ := s
  simp only [spec_l4Before_s15, cond_bindL, none_bindL]
/-- loop 3 of loop.example/g01194/spec.l4Before -/
def spec_l4Before_s3 (F : Nat) (row5 : List Int) (Q : Type) : (List (List Int) × Int) → ((List (List Int) × Int) → Option Q) → ((List (List Int)) → Option Q) → Option Q
  | (out3, code4), kn, kx =>
    let z_1 := (spec_l4Before_l7 F out3 code4 row5 (0 : Int) ([] : List Int))
    let z_2 : Nat := (List.length (Option.getD z_1 default))
    let z_3 : Int := (IntKind.wrap .i64 (code4 + (1 : Int)))
    let z_4 : List Int := (subn z_2 (Option.getD z_1 default) 0 z_2)
    let z_5 := (spec_l1Has_p F z_4 (0 : Int))
    let z_6 := (spec_l4Spread_p F z_4)
    let z_7 := (Option.getD z_6 default)
    let z_8 := (spec_l4Before_l15 F code4 z_7.1 row5 z_7.2 out3 (0 : Int))
    bif (decide (code4 < (16 : Int))) then
    bif (Option.isSome z_1) then
    bif (decide ((4 : Int) < ((z_2 : Nat) : Int))) then
    kn (out3, z_3)
    else bif (Option.isSome z_5) then
    bif (Option.getD z_5 default) then
    kn (out3, z_3)
    else bif (Option.isSome z_6) then
    bif (Option.isSome z_8) then
    kn ((Option.getD z_8 default), z_3)
    else none
    else none
    else none
    else none
    else kx out3
def spec_l4Before_l3 (F : Nat) (row5 : List Int) (out3 : List (List Int)) (code4 : Int) : Option (List (List Int)) := loopC (spec_l4Before_s3 F row5) F (out3, code4) some
theorem spec_l4Before_s3_nat (F : Nat) (row5 : List Int) : Natural (spec_l4Before_s3 F row5) := by
  intro Q Q' s kn kx h
  obtain ⟨out3, code4⟩ := s
  simp only [spec_l4Before_s3, cond_bindL, none_bindL]
/-- loop.example/g01194/spec.l4Before -/
def spec_l4Before_c (Q : Type) (F : Nat) (row0 : List Int) (k : (List (List Int)) → Option Q) : Option Q :=
    let z_1 := (spec_l4Before_l3 F row0 ([] : List (List Int)) (0 : Int))
    bif (Option.isSome z_1) then
    k (Option.getD z_1 default)
    else none
def spec_l4Before_p (F : Nat) (row0 : List Int) : Option (List (List Int)) := spec_l4Before_c _ F row0 some
theorem spec_l4Before_cp (Q : Type) (F : Nat) (row0 : List Int) (k : (List (List Int)) → Option Q) : spec_l4Before_c Q F row0 k = (spec_l4Before_p F row0).bind k := by
  simp only [spec_l4Before_p, spec_l4Before_c, cond_bindL, none_bindL, some_bindL]

/-- loop.example/g01194/spec.l6Lists -/
def spec_l6Lists_c (Q : Type) (F : Nat) (b0 : List Int) (d1 : Int) (k : (List (List Int) × List (List Int) × List (List Int) × List (List Int)) → Option Q) : Option Q :=
    let z_1 := (spec_l2Numbers_p F b0 d1 (0 : Int))
    let z_2 := (spec_l4Before_p F (Option.getD z_1 default))
    let z_3 := (spec_l2Numbers_p F b0 d1 (1 : Int))
    let z_4 := (spec_l4Before_p F (Option.getD z_3 default))
    let z_5 := (spec_l2Numbers_p F b0 d1 (2 : Int))
    let z_6 := (spec_l4Before_p F (Option.getD z_5 default))
    let z_7 := (spec_l2Numbers_p F b0 d1 (3 : Int))
    let z_8 := (spec_l4Before_p F (Option.getD z_7 default))
    bif (Option.isSome z_1) then
    bif (Option.isSome z_2) then
    bif (Option.isSome z_3) then
    bif (Option.isSome z_4) then
    bif (Option.isSome z_5) then
    bif (Option.isSome z_6) then
    bif (Option.isSome z_7) then
    bif (Option.isSome z_8) then
    k ((Option.getD z_2 default), (Option.getD z_4 default), (Option.getD z_6 default), (Option.getD z_8 default))
    else none
    else none
    else none
    else none
    else none
    else none
    else none
    else none
def spec_l6Lists_p (F : Nat) (b0 : List Int) (d1 : Int) : Option (List (List Int) × List (List Int) × List (List Int) × List (List Int)) := spec_l6Lists_c _ F b0 d1 some
theorem spec_l6Lists_cp (Q : Type) (F : Nat) (b0 : List Int) (d1 : Int) (k : (List (List Int) × List (List Int) × List (List Int) × List (List Int)) → Option Q) : spec_l6Lists_c Q F b0 d1 k = (spec_l6Lists_p F b0 d1).bind k := by
  simp only [spec_l6Lists_p, spec_l6Lists_c, cond_bindL, none_bindL, some_bindL]

/-- loop.example/g01194/spec.l2Put -/
def spec_l2Put_c (Q : Type) (b0 : List Int) (cell1 : List Int) (t2 : Int) (k : (List Int) → Option Q) : Option Q :=
    bif (inR (iget cell1 0) 4) then
    bif (inR (iget cell1 1) 4) then
    k (iset b0 (((0 : Nat) + ((Int.toNat (iget cell1 0)) * (4 : Nat))) + ((Int.toNat (iget cell1 1)) * (1 : Nat))) t2)
    else none
    else none
def spec_l2Put_p (b0 : List Int) (cell1 : List Int) (t2 : Int) : Option (List Int) := spec_l2Put_c _ b0 cell1 t2 some
theorem spec_l2Put_cp (Q : Type) (b0 : List Int) (cell1 : List Int) (t2 : Int) (k : (List Int) → Option Q) : spec_l2Put_c Q b0 cell1 t2 k = (spec_l2Put_p b0 cell1 t2).bind k := by
  simp only [spec_l2Put_p, spec_l2Put_c, cond_bindL, none_bindL, some_bindL]

/-- loop 3 of loop.example/g01194/spec.l2Slide -/
def spec_l2Slide_s3 (F : Nat) (d0 : Int) (b12 : List Int) (Q : Type) : (Int × Int × List Int) → ((Int × Int × List Int) → Option Q) → ((Int × List Int) → Option Q) → Option Q
  | (sum10, i11, out14), kn, kx =>
    let z_1 := (spec_l2Numbers_p F b12 d0 i11)
    let z_2 := (spec_l2Row_p F (Option.getD z_1 default))
    let z_3 := (spec_l2Line_p F d0 i11)
    let z_4 := (Option.getD z_2 default)
    let z_5 := (spec_l2Put_p out14 (sub (Option.getD z_3 default) 0 2) (iget z_4.1 0))
    let z_6 := (spec_l2Put_p (Option.getD z_5 default) (sub (Option.getD z_3 default) 2 2) (iget z_4.1 1))
    let z_7 := (spec_l2Put_p (Option.getD z_6 default) (sub (Option.getD z_3 default) 4 2) (iget z_4.1 2))
    let z_8 := (spec_l2Put_p (Option.getD z_7 default) (sub (Option.getD z_3 default) 6 2) (iget z_4.1 3))
    bif (decide (i11 < (4 : Int))) then
    bif (Option.isSome z_1) then
    bif (Option.isSome z_2) then
    bif (Option.isSome z_3) then
    bif (Option.isSome z_5) then
    bif (Option.isSome z_6) then
    bif (Option.isSome z_7) then
    bif (Option.isSome z_8) then
    kn ((IntKind.wrap .i64 (sum10 + z_4.2)), (IntKind.wrap .i64 (i11 + (1 : Int))), (Option.getD z_8 default))
    else none
    else none
    else none
    else none
    else none
    else none
    else none
    else kx (sum10, out14)
def spec_l2Slide_l3 (F : Nat) (d0 : Int) (b12 : List Int) (sum10 : Int) (i11 : Int) (out14 : List Int) : Option (Int × List Int) := loopC (spec_l2Slide_s3 F d0 b12) F (sum10, i11, out14) some
theorem spec_l2Slide_s3_nat (F : Nat) (d0 : Int) (b12 : List Int) : Natural (spec_l2Slide_s3 F d0 b12) := by
  intro Q Q' s kn kx h
  obtain ⟨sum10, i11, out14⟩ := s
  simp only [spec_l2Slide_s3, cond_bindL, none_bindL]
/-- loop.example/g01194/spec.l2Slide -/
def spec_l2Slide_c (Q : Type) (F : Nat) (b0 : List Int) (d1 : Int) (k : (List Int × Int) → Option Q) : Option Q :=
    let z_1 := (spec_l2Slide_l3 F d1 b0 (0 : Int) (0 : Int) b0)
    let z_2 := (Option.getD z_1 default)
    bif (Option.isSome z_1) then
    k (z_2.2, z_2.1)
    else none
def spec_l2Slide_p (F : Nat) (b0 : List Int) (d1 : Int) : Option (List Int × Int) := spec_l2Slide_c _ F b0 d1 some
theorem spec_l2Slide_cp (Q : Type) (F : Nat) (b0 : List Int) (d1 : Int) (k : (List Int × Int) → Option Q) : spec_l2Slide_c Q F b0 d1 k = (spec_l2Slide_p F b0 d1).bind k := by
  simp only [spec_l2Slide_p, spec_l2Slide_c, cond_bindL, none_bindL, some_bindL]

/-- loop.example/g01194/spec.l6Still -/
def spec_l6Still_c (Q : Type) (F : Nat) (b0 : List Int) (d1 : Int) (k : (Bool) → Option Q) : Option Q :=
    let z_1 := (spec_l2Slide_p F b0 d1)
    bif (Option.isSome z_1) then
    k ((Option.getD z_1 default).1 == b0)
    else none
def spec_l6Still_p (F : Nat) (b0 : List Int) (d1 : Int) : Option (Bool) := spec_l6Still_c _ F b0 d1 some
theorem spec_l6Still_cp (Q : Type) (F : Nat) (b0 : List Int) (d1 : Int) (k : (Bool) → Option Q) : spec_l6Still_c Q F b0 d1 k = (spec_l6Still_p F b0 d1).bind k := by
  simp only [spec_l6Still_p, spec_l6Still_c, cond_bindL, none_bindL, some_bindL]

/-- loop.example/g01194/spec.l6Count -/
def spec_l6Count_c (Q : Type) (F : Nat) (b0 : List Int) (d1 : Int) (k : (Int) → Option Q) : Option Q :=
    let z_1 := (spec_l6Lists_p F b0 d1)
    let z_2 := (spec_l6Still_p F b0 d1)
    let z_3 := (Option.getD z_1 default)
    let z_4 : Int := (IntKind.wrap .i64 ((IntKind.wrap .i64 ((IntKind.wrap .i64 ((IntKind.wrap .i64 ((1 : Int) * (((List.length z_3.1) : Nat) : Int))) * (((List.length z_3.2.1) : Nat) : Int))) * (((List.length z_3.2.2.1) : Nat) : Int))) * (((List.length z_3.2.2.2) : Nat) : Int)))
    bif (Option.isSome z_1) then
    bif (Option.isSome z_2) then
    bif (Option.getD z_2 default) then
    k (IntKind.wrap .i64 (z_4 - (1 : Int)))
    else k z_4
    else none
    else none
def spec_l6Count_p (F : Nat) (b0 : List Int) (d1 : Int) : Option (Int) := spec_l6Count_c _ F b0 d1 some
theorem spec_l6Count_cp (Q : Type) (F : Nat) (b0 : List Int) (d1 : Int) (k : (Int) → Option Q) : spec_l6Count_c Q F b0 d1 k = (spec_l6Count_p F b0 d1).bind k := by
  simp only [spec_l6Count_p, spec_l6Count_c, cond_bindL, none_bindL, some_bindL]

/-- loop.example/g01194/spec.l6With -/
def spec_l6With_c (Q : Type) (F : Nat) (b0 : List Int) (d1 : Int) (i2 : Int) (row3 : List Int) (k : (List Int) → Option Q) : Option Q :=
    let z_1 := (spec_l2Line_p F d1 i2)
    let z_2 := (spec_l2Put_p b0 (sub (Option.getD z_1 default) 0 2) (iget row3 0))
    let z_3 := (spec_l2Put_p (Option.getD z_2 default) (sub (Option.getD z_1 default) 2 2) (iget row3 1))
    let z_4 := (spec_l2Put_p (Option.getD z_3 default) (sub (Option.getD z_1 default) 4 2) (iget row3 2))
    let z_5 := (spec_l2Put_p (Option.getD z_4 default) (sub (Option.getD z_1 default) 6 2) (iget row3 3))
    bif (Option.isSome z_1) then
    bif (Option.isSome z_2) then
    bif (Option.isSome z_3) then
    bif (Option.isSome z_4) then
    bif (Option.isSome z_5) then
    k (Option.getD z_5 default)
    else none
    else none
    else none
    else none
    else none
def spec_l6With_p (F : Nat) (b0 : List Int) (d1 : Int) (i2 : Int) (row3 : List Int) : Option (List Int) := spec_l6With_c _ F b0 d1 i2 row3 some
theorem spec_l6With_cp (Q : Type) (F : Nat) (b0 : List Int) (d1 : Int) (i2 : Int) (row3 : List Int) (k : (List Int) → Option Q) : spec_l6With_c Q F b0 d1 i2 row3 k = (spec_l6With_p F b0 d1 i2 row3).bind k := by
  simp only [spec_l6With_p, spec_l6With_c, cond_bindL, none_bindL, some_bindL]

/-- loop 10 of loop.example/g01194/spec.l6All -/
def spec_l6All_s10 (F : Nat) (d0 : Int) (out5 : Nat) (i6 : Int) (n9 : Int) (lists11 : List (List Int)) (lists12 : List (List Int)) (lists13 : List (List Int)) (lists14 : List (List Int)) (out15 : List (List Int)) (Q : Type) : (Int × List (List Int)) → ((Int × List (List Int)) → Option Q) → ((List (List Int)) → Option Q) → Option Q
  | (k10, next16), kn, kx =>
    let z_1 : List (List Int) := (llget [lists11, lists12, lists13, lists14] ((0 : Nat) + ((Int.toNat i6) * (1 : Nat))))
    let z_2 : Nat := (List.length z_1)
    let z_3 := (spec_l6With_p F (rget out15 ((0 : Nat) + (Int.toNat n9))) d0 i6 (rget z_1 (Int.toNat k10)))
    let z_4 : List (List Int) := ((subn (List.length next16) next16 0 (List.length next16)) ++ [(Option.getD z_3 default)])
    bif (inR i6 4) then
    bif (decide (k10 < ((z_2 : Nat) : Int))) then
    bif (inR n9 out5) then
    bif (inR i6 4) then
    bif (inR k10 z_2) then
    bif (Option.isSome z_3) then
    bif (fits (List.length z_4) 128) then
    kn ((IntKind.wrap .i64 (k10 + (1 : Int))), z_4)
    else none
    else none
    else none
    else none
    else none
    else kx next16
    else none
def spec_l6All_l10 (F : Nat) (d0 : Int) (out5 : Nat) (i6 : Int) (n9 : Int) (lists11 : List (List Int)) (lists12 : List (List Int)) (lists13 : List (List Int)) (lists14 : List (List Int)) (out15 : List (List Int)) (k10 : Int) (next16 : List (List Int)) : Option (List (List Int)) := loopC (spec_l6All_s10 F d0 out5 i6 n9 lists11 lists12 lists13 lists14 out15) F (k10, next16) some
theorem spec_l6All_s10_nat (F : Nat) (d0 : Int) (out5 : Nat) (i6 : Int) (n9 : Int) (lists11 : List (List Int)) (lists12 : List (List Int)) (lists13 : List (List Int)) (lists14 : List (List Int)) (out15 : List (List Int)) : Natural (spec_l6All_s10 F d0 out5 i6 n9 lists11 lists12 lists13 lists14 out15) := by
  intro Q Q' s kn kx h
  obtain ⟨k10, next16⟩ := s
  simp only [spec_l6All_s10, cond_bindL, none_bindL]
/-- loop 7 of loop.example/g01194/spec.l6All -/
def spec_l6All_s7 (F : Nat) (d0 : Int) (i6 : Int) (lists10 : List (List Int)) (lists11 : List (List Int)) (lists12 : List (List Int)) (lists13 : List (List Int)) (out14 : List (List Int)) (Q : Type) : (Int × List (List Int)) → ((Int × List (List Int)) → Option Q) → ((List (List Int)) → Option Q) → Option Q
  | (n9, next15), kn, kx =>
    let z_1 := (spec_l6All_l10 F d0 (List.length out14) i6 n9 lists10 lists11 lists12 lists13 out14 (0 : Int) next15)
    bif (decide (n9 < (((List.length out14) : Nat) : Int))) then
    bif ((Nat.beq (List.length next15) (List.length next15)) && (Option.isSome z_1)) then
    kn ((IntKind.wrap .i64 (n9 + (1 : Int))), (Option.getD z_1 default))
    else none
    else kx next15
def spec_l6All_l7 (F : Nat) (d0 : Int) (i6 : Int) (lists10 : List (List Int)) (lists11 : List (List Int)) (lists12 : List (List Int)) (lists13 : List (List Int)) (out14 : List (List Int)) (n9 : Int) (next15 : List (List Int)) : Option (List (List Int)) := loopC (spec_l6All_s7 F d0 i6 lists10 lists11 lists12 lists13 out14) F (n9, next15) some
theorem spec_l6All_s7_nat (F : Nat) (d0 : Int) (i6 : Int) (lists10 : List (List Int)) (lists11 : List (List Int)) (lists12 : List (List Int)) (lists13 : List (List Int)) (out14 : List (List Int)) : Natural (spec_l6All_s7 F d0 i6 lists10 lists11 lists12 lists13 out14) := by
  intro Q Q' s kn kx h
  obtain ⟨n9, next15⟩ := s
  simp only [spec_l6All_s7, cond_bindL, none_bindL]
/-- loop 3 of loop.example/g01194/spec.l6All -/
def spec_l6All_s3 (F : Nat) (d0 : Int) (lists7 : List (List Int)) (lists8 : List (List Int)) (lists9 : List (List Int)) (lists10 : List (List Int)) (Q : Type) : (Int × List (List Int)) → ((Int × List (List Int)) → Option Q) → ((List (List Int)) → Option Q) → Option Q
  | (i6, out11), kn, kx =>
    let z_1 := (spec_l6All_l7 F d0 i6 lists7 lists8 lists9 lists10 out11 (0 : Int) ([] : List (List Int)))
    bif (decide (i6 < (4 : Int))) then
    bif ((Nat.beq (List.length out11) (List.length out11)) && (Option.isSome z_1)) then
    kn ((IntKind.wrap .i64 (i6 + (1 : Int))), (Option.getD z_1 default))
    else none
    else kx out11
def spec_l6All_l3 (F : Nat) (d0 : Int) (lists7 : List (List Int)) (lists8 : List (List Int)) (lists9 : List (List Int)) (lists10 : List (List Int)) (i6 : Int) (out11 : List (List Int)) : Option (List (List Int)) := loopC (spec_l6All_s3 F d0 lists7 lists8 lists9 lists10) F (i6, out11) some
theorem spec_l6All_s3_nat (F : Nat) (d0 : Int) (lists7 : List (List Int)) (lists8 : List (List Int)) (lists9 : List (List Int)) (lists10 : List (List Int)) : Natural (spec_l6All_s3 F d0 lists7 lists8 lists9 lists10) := by
  intro Q Q' s kn kx h
  obtain ⟨i6, out11⟩ := s
  simp only [spec_l6All_s3, cond_bindL, none_bindL]
/-- loop.example/g01194/spec.l6All -/
def spec_l6All_c (Q : Type) (F : Nat) (b0 : List Int) (d1 : Int) (k : (List (List Int)) → Option Q) : Option Q :=
    let z_1 := (spec_l6Lists_p F b0 d1)
    let z_2 := (Option.getD z_1 default)
    let z_3 := (spec_l6All_l3 F d1 z_2.1 z_2.2.1 z_2.2.2.1 z_2.2.2.2 (0 : Int) [b0])
    bif (Option.isSome z_1) then
    bif (Option.isSome z_3) then
    k (Option.getD z_3 default)
    else none
    else none
def spec_l6All_p (F : Nat) (b0 : List Int) (d1 : Int) : Option (List (List Int)) := spec_l6All_c _ F b0 d1 some
theorem spec_l6All_cp (Q : Type) (F : Nat) (b0 : List Int) (d1 : Int) (k : (List (List Int)) → Option Q) : spec_l6All_c Q F b0 d1 k = (spec_l6All_p F b0 d1).bind k := by
  simp only [spec_l6All_p, spec_l6All_c, cond_bindL, none_bindL, some_bindL]

/-- loop 5 of loop.example/g01194/spec.l2Before -/
def spec_l2Before_s5 (F : Nat) (r6 : Int) (a8 : List Int) (b9 : List Int) (Q : Type) : (Int) → ((Int) → Option Q) → ((Bool × Bool) → Option Q) → Option Q
  | c7, kn, kx =>
    let z_1 : Nat := (((0 : Nat) + ((Int.toNat r6) * (4 : Nat))) + ((Int.toNat c7) * (1 : Nat)))
    let z_2 : Int := (iget a8 z_1)
    let z_3 : Int := (iget b9 z_1)
    bif (decide (c7 < (4 : Int))) then
    bif (inR r6 4) then
    bif (inR c7 4) then
    bif (inR r6 4) then
    bif (inR c7 4) then
    bif (!(z_2 == z_3)) then
    bif (inR r6 4) then
    bif (inR c7 4) then
    bif (inR r6 4) then
    bif (inR c7 4) then
    kx (true, (decide (z_2 < z_3)))
    else none
    else none
    else none
    else none
    else kn (IntKind.wrap .i64 (c7 + (1 : Int)))
    else none
    else none
    else none
    else none
    else kx (false, default)
def spec_l2Before_l5 (F : Nat) (r6 : Int) (a8 : List Int) (b9 : List Int) (c7 : Int) : Option (Bool × Bool) := loopC (spec_l2Before_s5 F r6 a8 b9) F c7 some
theorem spec_l2Before_s5_nat (F : Nat) (r6 : Int) (a8 : List Int) (b9 : List Int) : Natural (spec_l2Before_s5 F r6 a8 b9) := by
  intro Q Q' s kn kx h
  simp only [spec_l2Before_s5, cond_bindL, none_bindL]
/-- loop 2 of loop.example/g01194/spec.l2Before -/
def spec_l2Before_s2 (F : Nat) (a7 : List Int) (b8 : List Int) (Q : Type) : (Int) → ((Int) → Option Q) → ((Bool × Bool) → Option Q) → Option Q
  | r6, kn, kx =>
    let z_1 := (spec_l2Before_l5 F r6 a7 b8 (0 : Int))
    let z_2 := (Option.getD z_1 default)
    bif (decide (r6 < (4 : Int))) then
    bif (Option.isSome z_1) then
    bif z_2.1 then
    kx (true, z_2.2)
    else kn (IntKind.wrap .i64 (r6 + (1 : Int)))
    else none
    else kx (false, default)
def spec_l2Before_l2 (F : Nat) (a7 : List Int) (b8 : List Int) (r6 : Int) : Option (Bool × Bool) := loopC (spec_l2Before_s2 F a7 b8) F r6 some
theorem spec_l2Before_s2_nat (F : Nat) (a7 : List Int) (b8 : List Int) : Natural (spec_l2Before_s2 F a7 b8) := by
  intro Q Q' s kn kx h
  simp only [spec_l2Before_s2, cond_bindL, none_bindL]
/-- loop.example/g01194/spec.l2Before -/
def spec_l2Before_c (Q : Type) (F : Nat) (a0 : List Int) (b1 : List Int) (k : (Bool) → Option Q) : Option Q :=
    let z_1 := (spec_l2Before_l2 F a0 b1 (0 : Int))
    let z_2 := (Option.getD z_1 default)
    bif (Option.isSome z_1) then
    bif z_2.1 then
    k z_2.2
    else k false
    else none
def spec_l2Before_p (F : Nat) (a0 : List Int) (b1 : List Int) : Option (Bool) := spec_l2Before_c _ F a0 b1 some
theorem spec_l2Before_cp (Q : Type) (F : Nat) (a0 : List Int) (b1 : List Int) (k : (Bool) → Option Q) : spec_l2Before_c Q F a0 b1 k = (spec_l2Before_p F a0 b1).bind k := by
  simp only [spec_l2Before_p, spec_l2Before_c, cond_bindL, none_bindL, some_bindL]

/-- loop 7 of loop.example/g01194/spec.l6Sorted -/
def spec_l6Sorted_s7 (F : Nat) (list0 : List (List Int)) (i6 : Int) (without8 : List Int) (out9 : List (List Int)) (Q : Type) : (Int) → ((Int) → Option Q) → ((Int) → Option Q) → Option Q
  | n7, kn, kx =>
    let z_1 : Int := (IntKind.wrap .i64 (n7 - (1 : Int)))
    let z_2 := (spec_l2Before_p F (rget list0 (Int.toNat i6)) (rget out9 ((0 : Nat) + (Int.toNat z_1))))
    bif (decide ((0 : Int) < n7)) then
    bif (inR i6 (List.length list0)) then
    bif (inR z_1 (List.length out9)) then
    bif (Option.isSome z_2) then
    bif (Option.getD z_2 default) then
    kn z_1
    else kx n7
    else none
    else none
    else none
    else kx n7
def spec_l6Sorted_l7 (F : Nat) (list0 : List (List Int)) (i6 : Int) (without8 : List Int) (out9 : List (List Int)) (n7 : Int) : Option (Int) := loopC (spec_l6Sorted_s7 F list0 i6 without8 out9) F n7 some
theorem spec_l6Sorted_s7_nat (F : Nat) (list0 : List (List Int)) (i6 : Int) (without8 : List Int) (out9 : List (List Int)) : Natural (spec_l6Sorted_s7 F list0 i6 without8 out9) := by
  intro Q Q' s kn kx h
  simp only [spec_l6Sorted_s7, cond_bindL, none_bindL]
/-- loop 3 of loop.example/g01194/spec.l6Sorted -/
def spec_l6Sorted_s3 (F : Nat) (list0 : List (List Int)) (without7 : List Int) (Q : Type) : (Int × List (List Int)) → ((Int × List (List Int)) → Option Q) → ((List (List Int)) → Option Q) → Option Q
  | (i6, out8), kn, kx =>
    let z_1 : Bool := (inR i6 (List.length list0))
    let z_2 : List Int := (rget list0 (Int.toNat i6))
    let z_3 : Int := (IntKind.wrap .i64 (i6 + (1 : Int)))
    let z_4 := (spec_l6Sorted_l7 F list0 i6 without7 out8 (((List.length out8) : Nat) : Int))
    let z_5 : Bool := (inLe (Option.getD z_4 default) (List.length out8))
    let z_6 : Nat := (Int.toNat (Option.getD z_4 default))
    let z_7 : List (List Int) := (subn (List.length out8) out8 0 (z_6 - (0 : Nat)))
    let z_8 : Nat := (List.length z_7)
    let z_9 : List (List Int) := ((subn z_8 z_7 0 z_8) ++ [z_2])
    let z_10 : Nat := (List.length z_9)
    let z_11 : List (List Int) := ((subn z_10 z_9 0 z_10) ++ (subn (List.length out8) out8 ((0 : Nat) + z_6) ((List.length out8) - z_6)))
    bif (decide (i6 < (((List.length list0) : Nat) : Int))) then
    bif z_1 then
    bif (z_2 == without7) then
    kn (z_3, out8)
    else bif ((Nat.beq (List.length out8) (List.length out8)) && (Option.isSome z_4)) then
    bif z_5 then
    bif (fits z_8 128) then
    bif z_1 then
    bif (fits z_10 128) then
    bif z_5 then
    bif (fits (List.length z_11) 128) then
    kn (z_3, z_11)
    else none
    else none
    else none
    else none
    else none
    else none
    else none
    else none
    else kx out8
def spec_l6Sorted_l3 (F : Nat) (list0 : List (List Int)) (without7 : List Int) (i6 : Int) (out8 : List (List Int)) : Option (List (List Int)) := loopC (spec_l6Sorted_s3 F list0 without7) F (i6, out8) some
theorem spec_l6Sorted_s3_nat (F : Nat) (list0 : List (List Int)) (without7 : List Int) : Natural (spec_l6Sorted_s3 F list0 without7) := by
  intro Q Q' s kn kx h
  obtain ⟨i6, out8⟩ := s
  simp only [spec_l6Sorted_s3, cond_bindL, none_bindL]
/-- loop.example/g01194/spec.l6Sorted -/
def spec_l6Sorted_c (Q : Type) (F : Nat) (list0 : List (List Int)) (without1 : List Int) (k : (List (List Int)) → Option Q) : Option Q :=
    let z_1 := (spec_l6Sorted_l3 F list0 without1 (0 : Int) ([] : List (List Int)))
    bif (Option.isSome z_1) then
    k (Option.getD z_1 default)
    else none
def spec_l6Sorted_p (F : Nat) (list0 : List (List Int)) (without1 : List Int) : Option (List (List Int)) := spec_l6Sorted_c _ F list0 without1 some
theorem spec_l6Sorted_cp (Q : Type) (F : Nat) (list0 : List (List Int)) (without1 : List Int) (k : (List (List Int)) → Option Q) : spec_l6Sorted_c Q F list0 without1 k = (spec_l6Sorted_p F list0 without1).bind k := by
  simp only [spec_l6Sorted_p, spec_l6Sorted_c, cond_bindL, none_bindL, some_bindL]
end Go.Lv.P
