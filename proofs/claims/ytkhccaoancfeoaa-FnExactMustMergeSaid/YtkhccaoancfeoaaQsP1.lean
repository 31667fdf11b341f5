/-
Pure functions and what the code of them does, by program; without conditions.
-/
import Derived.Test.YtkhccaoancfeoaaQsP0
namespace Go.Lv.P
open Go Go.Lv
set_option linter.unusedVariables false
set_option linter.unusedSimpArgs false
set_option maxRecDepth 100000
/-- loop 7 of loop.example/g01194/spec.l4Before -/
def spec_l4Before_s7 (F : Nat) (out3 : List (List Int)) (code4 : Int) (row8 : List Int) (Q : Type) : (Int × List Int) → ((Int × List Int) → Option Q) → ((List Int) → Option Q) → Option Q
  | (k7, tiles9), kn, kx =>
    let z_1 : Int := (iget row8 ((0 : Nat) + ((Int.toNat k7) * (1 : Nat))))
    let z_2 : List Int := (subn (List.length tiles9) tiles9 0 (List.length tiles9))
    let z_3 : Int := (IntKind.wrap .i64 (z_1 - (1 : Int)))
    let z_4 : List Int := (z_2 ++ [z_3, z_3])
    let z_5 : Int := (IntKind.wrap .i64 (k7 + (1 : Int)))
    let z_6 : List Int := (z_2 ++ [z_1])
    bif (decide (k7 < (4 : Int))) then
    bif (inR k7 4) then
    bif (decide ((0 : Int) < z_1)) then
    bif (decide (k7 < (0 : Int))) then
    none
    else bif ((IntKind.wrap .i64 (((BitVec.ofInt (IntKind.bits .i64) (Int.fdiv code4 (2 ^ (min (Int.toNat k7) (IntKind.bits .i64)) : Int)) &&& BitVec.ofInt (IntKind.bits .i64) (1 : Int)).toNat : Nat) : Int)) == (1 : Int)) then
    bif (inR k7 4) then
    bif (inR k7 4) then
    bif (fits (List.length z_4) 8) then
    kn (z_5, z_4)
    else none
    else none
    else none
    else bif (inR k7 4) then
    bif (fits (List.length z_6) 8) then
    kn (z_5, z_6)
    else none
    else none
    else kx tiles9
    else none
    else kx tiles9
def spec_l4Before_l7 (F : Nat) (out3 : List (List Int)) (code4 : Int) (row8 : List Int) (k7 : Int) (tiles9 : List Int) : Option (List Int) := loopC (spec_l4Before_s7 F out3 code4 row8) F (k7, tiles9) some
theorem spec_l4Before_s7_nat (F : Nat) (out3 : List (List Int)) (code4 : Int) (row8 : List Int) : Natural (spec_l4Before_s7 F out3 code4 row8) := by
  intro Q Q' s kn kx h
  obtain ⟨k7, tiles9⟩ := s
  simp only [spec_l4Before_s7, cond_bindL, none_bindL]
/-- loop 15 of loop.example/g01194/spec.l4Before -/
def spec_l4Before_s15 (F : Nat) (code4 : Int) (all6 : Nat) (row8 : List Int) (all9 : List (List Int)) (Q : Type) : (List (List Int) × Int) → ((List (List Int) × Int) → Option Q) → ((List (List Int)) → Option Q) → Option Q
  | (out3, i7), kn, kx =>
    let z_1 : List Int := (rget all9 ((0 : Nat) + (Int.toNat i7)))
    let z_2 := (spec_l2Row_p F z_1)
    let z_3 := (spec_l4Put_p F out3 z_1)
    let z_4 : Int := (IntKind.wrap .i64 (i7 + (1 : Int)))
    bif (decide (i7 < ((all6 : Nat) : Int))) then
    bif (inR i7 all6) then
    bif (Option.isSome z_2) then
    bif ((Option.getD z_2 default).1 == row8) then
    bif (inR i7 all6) then
    bif (Option.isSome z_3) then
    kn ((Option.getD z_3 default), z_4)
    else none
    else none
    else kn (out3, z_4)
    else none
    else none
    else kx out3
def spec_l4Before_l15 (F : Nat) (code4 : Int) (all6 : Nat) (row8 : List Int) (all9 : List (List Int)) (out3 : List (List Int)) (i7 : Int) : Option (List (List Int)) := loopC (spec_l4Before_s15 F code4 all6 row8 all9) F (out3, i7) some
theorem spec_l4Before_s15_nat (F : Nat) (code4 : Int) (all6 : Nat) (row8 : List Int) (all9 : List (List Int)) : Natural (spec_l4Before_s15 F code4 all6 row8 all9) := by
  intro Q Q' s kn kx h
  obtain ⟨out3, i7⟩ := s
  simp only [spec_l4Before_s15, cond_bindL, none_bindL]
/-- loop 3 of loop.example/g01194/spec.l4Before -/
def spec_l4Before_s3 (F : Nat) (row5 : List Int) (Q : Type) : (List (List Int) × Int) → ((List (List Int) × Int) → Option Q) → ((List (List Int)) → Option Q) → Option Q
  | (out3, code4), kn, kx =>
    let z_1 := (spec_l4Before_l7 F out3 code4 row5 (0 : Int) ([] : List Int))
    let z_2 : Nat := (List.length (Option.getD z_1 default))
    let z_3 : Int := (IntKind.wrap .i64 (code4 + (1 : Int)))
    let z_4 : List Int := (subn z_2 (Option.getD z_1 default) 0 z_2)
    let z_5 := (spec_l1Has_p F z_4 (0 : Int))
    let z_6 := (spec_l4Spread_p F z_4)
    let z_7 := (Option.getD z_6 default)
    let z_8 := (spec_l4Before_l15 F code4 z_7.1 row5 z_7.2 out3 (0 : Int))
    bif (decide (code4 < (16 : Int))) then
    bif (Option.isSome z_1) then
    bif (decide ((4 : Int) < ((z_2 : Nat) : Int))) then
    kn (out3, z_3)
    else bif (Option.isSome z_5) then
    bif (Option.getD z_5 default) then
    kn (out3, z_3)
    else bif (Option.isSome z_6) then
    bif (Option.isSome z_8) then
    kn ((Option.getD z_8 default), z_3)
    else none
    else none
    else none
    else none
    else kx out3
def spec_l4Before_l3 (F : Nat) (row5 : List Int) (out3 : List (List Int)) (code4 : Int) : Option (List (List Int)) := loopC (spec_l4Before_s3 F row5) F (out3, code4) some
theorem spec_l4Before_s3_nat (F : Nat) (row5 : List Int) : Natural (spec_l4Before_s3 F row5) := by
  intro Q Q' s kn kx h
  obtain ⟨out3, code4⟩ := s
  simp only [spec_l4Before_s3, cond_bindL, none_bindL]
/-- loop.example/g01194/spec.l4Before -/
def spec_l4Before_c (Q : Type) (F : Nat) (row0 : List Int) (k : (List (List Int)) → Option Q) : Option Q :=
    let z_1 := (spec_l4Before_l3 F row0 ([] : List (List Int)) (0 : Int))
    bif (Option.isSome z_1) then
    k (Option.getD z_1 default)
    else none
def spec_l4Before_p (F : Nat) (row0 : List Int) : Option (List (List Int)) := spec_l4Before_c _ F row0 some
theorem spec_l4Before_cp (Q : Type) (F : Nat) (row0 : List Int) (k : (List (List Int)) → Option Q) : spec_l4Before_c Q F row0 k = (spec_l4Before_p F row0).bind k := by
  simp only [spec_l4Before_p, spec_l4Before_c, cond_bindL, none_bindL, some_bindL]

/-- loop.example/g01194/spec.l6Lists -/
def spec_l6Lists_c (Q : Type) (F : Nat) (b0 : List Int) (d1 : Int) (k : (List (List Int) × List (List Int) × List (List Int) × List (List Int)) → Option Q) : Option Q :=
    let z_1 := (spec_l2Numbers_p F b0 d1 (0 : Int))
    let z_2 := (spec_l4Before_p F (Option.getD z_1 default))
    let z_3 := (spec_l2Numbers_p F b0 d1 (1 : Int))
    let z_4 := (spec_l4Before_p F (Option.getD z_3 default))
    let z_5 := (spec_l2Numbers_p F b0 d1 (2 : Int))
    let z_6 := (spec_l4Before_p F (Option.getD z_5 default))
    let z_7 := (spec_l2Numbers_p F b0 d1 (3 : Int))
    let z_8 := (spec_l4Before_p F (Option.getD z_7 default))
    bif (Option.isSome z_1) then
    bif (Option.isSome z_2) then
    bif (Option.isSome z_3) then
    bif (Option.isSome z_4) then
    bif (Option.isSome z_5) then
    bif (Option.isSome z_6) then
    bif (Option.isSome z_7) then
    bif (Option.isSome z_8) then
    k ((Option.getD z_2 default), (Option.getD z_4 default), (Option.getD z_6 default), (Option.getD z_8 default))
    else none
    else none
    else none
    else none
    else none
    else none
    else none
    else none
def spec_l6Lists_p (F : Nat) (b0 : List Int) (d1 : Int) : Option (List (List Int) × List (List Int) × List (List Int) × List (List Int)) := spec_l6Lists_c _ F b0 d1 some
theorem spec_l6Lists_cp (Q : Type) (F : Nat) (b0 : List Int) (d1 : Int) (k : (List (List Int) × List (List Int) × List (List Int) × List (List Int)) → Option Q) : spec_l6Lists_c Q F b0 d1 k = (spec_l6Lists_p F b0 d1).bind k := by
  simp only [spec_l6Lists_p, spec_l6Lists_c, cond_bindL, none_bindL, some_bindL]

/-- loop.example/g01194/spec.l2Put -/
def spec_l2Put_c (Q : Type) (b0 : List Int) (cell1 : List Int) (t2 : Int) (k : (List Int) → Option Q) : Option Q :=
    bif (inR (iget cell1 0) 4) then
    bif (inR (iget cell1 1) 4) then
    k (iset b0 (((0 : Nat) + ((Int.toNat (iget cell1 0)) * (4 : Nat))) + ((Int.toNat (iget cell1 1)) * (1 : Nat))) t2)
    else none
    else none
def spec_l2Put_p (b0 : List Int) (cell1 : List Int) (t2 : Int) : Option (List Int) := spec_l2Put_c _ b0 cell1 t2 some
theorem spec_l2Put_cp (Q : Type) (b0 : List Int) (cell1 : List Int) (t2 : Int) (k : (List Int) → Option Q) : spec_l2Put_c Q b0 cell1 t2 k = (spec_l2Put_p b0 cell1 t2).bind k := by
  simp only [spec_l2Put_p, spec_l2Put_c, cond_bindL, none_bindL, some_bindL]

/-- loop 3 of loop.example/g01194/spec.l2Slide -/
def spec_l2Slide_s3 (F : Nat) (d0 : Int) (b12 : List Int) (Q : Type) : (Int × Int × List Int) → ((Int × Int × List Int) → Option Q) → ((Int × List Int) → Option Q) → Option Q
  | (sum10, i11, out14), kn, kx =>
    let z_1 := (spec_l2Numbers_p F b12 d0 i11)
    let z_2 := (spec_l2Row_p F (Option.getD z_1 default))
    let z_3 := (spec_l2Line_p F d0 i11)
    let z_4 := (Option.getD z_2 default)
    let z_5 := (spec_l2Put_p out14 (sub (Option.getD z_3 default) 0 2) (iget z_4.1 0))
    let z_6 := (spec_l2Put_p (Option.getD z_5 default) (sub (Option.getD z_3 default) 2 2) (iget z_4.1 1))
    let z_7 := (spec_l2Put_p (Option.getD z_6 default) (sub (Option.getD z_3 default) 4 2) (iget z_4.1 2))
    let z_8 := (spec_l2Put_p (Option.getD z_7 default) (sub (Option.getD z_3 default) 6 2) (iget z_4.1 3))
    bif (decide (i11 < (4 : Int))) then
    bif (Option.isSome z_1) then
    bif (Option.isSome z_2) then
    bif (Option.isSome z_3) then
    bif (Option.isSome z_5) then
    bif (Option.isSome z_6) then
    bif (Option.isSome z_7) then
    bif (Option.isSome z_8) then
    kn ((IntKind.wrap .i64 (sum10 + z_4.2)), (IntKind.wrap .i64 (i11 + (1 : Int))), (Option.getD z_8 default))
    else none
    else none
    else none
    else none
    else none
    else none
    else none
    else kx (sum10, out14)
def spec_l2Slide_l3 (F : Nat) (d0 : Int) (b12 : List Int) (sum10 : Int) (i11 : Int) (out14 : List Int) : Option (Int × List Int) := loopC (spec_l2Slide_s3 F d0 b12) F (sum10, i11, out14) some
theorem spec_l2Slide_s3_nat (F : Nat) (d0 : Int) (b12 : List Int) : Natural (spec_l2Slide_s3 F d0 b12) := by
  intro Q Q' s kn kx h
  obtain ⟨sum10, i11, out14⟩ := s
  simp only [spec_l2Slide_s3, cond_bindL, none_bindL]
/-- loop.example/g01194/spec.l2Slide -/
def spec_l2Slide_c (Q : Type) (F : Nat) (b0 : List Int) (d1 : Int) (k : (List Int × Int) → Option Q) : Option Q :=
    let z_1 := (spec_l2Slide_l3 F d1 b0 (0 : Int) (0 : Int) b0)
    let z_2 := (Option.getD z_1 default)
    bif (Option.isSome z_1) then
    k (z_2.2, z_2.1)
    else none
def spec_l2Slide_p (F : Nat) (b0 : List Int) (d1 : Int) : Option (List Int × Int) := spec_l2Slide_c _ F b0 d1 some
theorem spec_l2Slide_cp (Q : Type) (F : Nat) (b0 : List Int) (d1 : Int) (k : (List Int × Int) → Option Q) : spec_l2Slide_c Q F b0 d1 k = (spec_l2Slide_p F b0 d1).bind k := by
  simp only [spec_l2Slide_p, spec_l2Slide_c, cond_bindL, none_bindL, some_bindL]

/-- loop.example/g01194/spec.l6Still -/
def spec_l6Still_c (Q : Type) (F : Nat) (b0 : List Int) (d1 : Int) (k : (Bool) → Option Q) : Option Q :=
    let z_1 := (spec_l2Slide_p F b0 d1)
    bif (Option.isSome z_1) then
    k ((Option.getD z_1 default).1 == b0)
    else none
def spec_l6Still_p (F : Nat) (b0 : List Int) (d1 : Int) : Option (Bool) := spec_l6Still_c _ F b0 d1 some
theorem spec_l6Still_cp (Q : Type) (F : Nat) (b0 : List Int) (d1 : Int) (k : (Bool) → Option Q) : spec_l6Still_c Q F b0 d1 k = (spec_l6Still_p F b0 d1).bind k := by
  simp only [spec_l6Still_p, spec_l6Still_c, cond_bindL, none_bindL, some_bindL]

/-- loop.example/g01194/spec.l6Count -/
def spec_l6Count_c (Q : Type) (F : Nat) (b0 : List Int) (d1 : Int) (k : (Int) → Option Q) : Option Q :=
    let z_1 := (spec_l6Lists_p F b0 d1)
    let z_2 := (spec_l6Still_p F b0 d1)
    let z_3 := (Option.getD z_1 default)
    let z_4 : Int := (IntKind.wrap .i64 ((IntKind.wrap .i64 ((IntKind.wrap .i64 ((IntKind.wrap .i64 ((1 : Int) * (((List.length z_3.1) : Nat) : Int))) * (((List.length z_3.2.1) : Nat) : Int))) * (((List.length z_3.2.2.1) : Nat) : Int))) * (((List.length z_3.2.2.2) : Nat) : Int)))
    bif (Option.isSome z_1) then
    bif (Option.isSome z_2) then
    bif (Option.getD z_2 default) then
    k (IntKind.wrap .i64 (z_4 - (1 : Int)))
    else k z_4
    else none
    else none
def spec_l6Count_p (F : Nat) (b0 : List Int) (d1 : Int) : Option (Int) := spec_l6Count_c _ F b0 d1 some
theorem spec_l6Count_cp (Q : Type) (F : Nat) (b0 : List Int) (d1 : Int) (k : (Int) → Option Q) : spec_l6Count_c Q F b0 d1 k = (spec_l6Count_p F b0 d1).bind k := by
  simp only [spec_l6Count_p, spec_l6Count_c, cond_bindL, none_bindL, some_bindL]

/-- loop 3 of loop.example/g01194/spec.l6Merged -/
def spec_l6Merged_s3 (F : Nat) (row12 : List Int) (Q : Type) : (Int × Int × Int × List Bool) → ((Int × Int × Int × List Bool) → Option Q) → ((List Bool) → Option Q) → Option Q
  | (n9, last10, k11, out14), kn, kx =>
    let z_1 : Int := (iget row12 ((0 : Nat) + ((Int.toNat k11) * (1 : Nat))))
    let z_2 : Int := (IntKind.wrap .i64 (k11 + (1 : Int)))
    let z_3 : Int := (IntKind.wrap .i64 (n9 - (1 : Int)))
    let z_4 : Bool := (inR z_3 4)
    let z_5 : Nat := ((0 : Nat) + ((Int.toNat z_3) * (1 : Nat)))
    let z_6 : Int := (IntKind.wrap .i64 (n9 + (1 : Int)))
    bif (decide (k11 < (4 : Int))) then
    bif (inR k11 4) then
    bif (z_1 == (0 : Int)) then
    kn (n9, last10, z_2, out14)
    else bif (decide ((0 : Int) < n9)) then
    bif (inR k11 4) then
    bif (last10 == z_1) then
    bif (inR k11 4) then
    bif (decide (z_1 < (17 : Int))) then
    bif z_4 then
    bif (!(bget out14 z_5)) then
    bif z_4 then
    kn (n9, (0 : Int), z_2, (bset out14 z_5 true))
    else none
    else bif (inR k11 4) then
    kn (z_6, z_1, z_2, out14)
    else none
    else none
    else bif (inR k11 4) then
    kn (z_6, z_1, z_2, out14)
    else none
    else none
    else bif (inR k11 4) then
    kn (z_6, z_1, z_2, out14)
    else none
    else none
    else bif (inR k11 4) then
    kn (z_6, z_1, z_2, out14)
    else none
    else none
    else kx out14
def spec_l6Merged_l3 (F : Nat) (row12 : List Int) (n9 : Int) (last10 : Int) (k11 : Int) (out14 : List Bool) : Option (List Bool) := loopC (spec_l6Merged_s3 F row12) F (n9, last10, k11, out14) some
theorem spec_l6Merged_s3_nat (F : Nat) (row12 : List Int) : Natural (spec_l6Merged_s3 F row12) := by
  intro Q Q' s kn kx h
  obtain ⟨n9, last10, k11, out14⟩ := s
  simp only [spec_l6Merged_s3, cond_bindL, none_bindL]
/-- loop.example/g01194/spec.l6Merged -/
def spec_l6Merged_c (Q : Type) (F : Nat) (row0 : List Int) (k : (List Bool) → Option Q) : Option Q :=
    let z_1 := (spec_l6Merged_l3 F row0 (0 : Int) (0 : Int) (0 : Int) [false, false, false, false])
    bif (Option.isSome z_1) then
    k (Option.getD z_1 default)
    else none
def spec_l6Merged_p (F : Nat) (row0 : List Int) : Option (List Bool) := spec_l6Merged_c _ F row0 some
theorem spec_l6Merged_cp (Q : Type) (F : Nat) (row0 : List Int) (k : (List Bool) → Option Q) : spec_l6Merged_c Q F row0 k = (spec_l6Merged_p F row0).bind k := by
  simp only [spec_l6Merged_p, spec_l6Merged_c, cond_bindL, none_bindL, some_bindL]

/-- loop 12 of loop.example/g01194/spec.l6Mergers -/
def spec_l6Mergers_s12 (F : Nat) (d0 : Int) (some1 : Bool) (still5 : Bool) (i9 : Int) (k13 : Int) (lists16 : List (List Int)) (lists17 : List (List Int)) (lists18 : List (List Int)) (lists19 : List (List Int)) (marks20 : List Int) (line21 : List Int) (Q : Type) : (Int × Int) → ((Int × Int) → Option Q) → ((Int) → Option Q) → Option Q
  | (yes14, n15), kn, kx =>
    let z_1 : List (List Int) := (llget [lists16, lists17, lists18, lists19] ((0 : Nat) + ((Int.toNat i9) * (1 : Nat))))
    let z_2 : Nat := (List.length z_1)
    let z_3 := (spec_l6Merged_p F (rget z_1 (Int.toNat n15)))
    let z_4 : Int := (IntKind.wrap .i64 (n15 + (1 : Int)))
    bif (inR i9 4) then
    bif (decide (n15 < ((z_2 : Nat) : Int))) then
    bif (inR i9 4) then
    bif (inR n15 z_2) then
    bif (Option.isSome z_3) then
    bif (inR k13 4) then
    bif (bget (Option.getD z_3 default) ((Int.toNat k13) * (1 : Nat))) then
    kn ((IntKind.wrap .i64 (yes14 + (1 : Int))), z_4)
    else kn (yes14, z_4)
    else none
    else none
    else none
    else none
    else kx yes14
    else none
def spec_l6Mergers_l12 (F : Nat) (d0 : Int) (some1 : Bool) (still5 : Bool) (i9 : Int) (k13 : Int) (lists16 : List (List Int)) (lists17 : List (List Int)) (lists18 : List (List Int)) (lists19 : List (List Int)) (marks20 : List Int) (line21 : List Int) (yes14 : Int) (n15 : Int) : Option (Int) := loopC (spec_l6Mergers_s12 F d0 some1 still5 i9 k13 lists16 lists17 lists18 lists19 marks20 line21) F (yes14, n15) some
theorem spec_l6Mergers_s12_nat (F : Nat) (d0 : Int) (some1 : Bool) (still5 : Bool) (i9 : Int) (k13 : Int) (lists16 : List (List Int)) (lists17 : List (List Int)) (lists18 : List (List Int)) (lists19 : List (List Int)) (marks20 : List Int) (line21 : List Int) : Natural (spec_l6Mergers_s12 F d0 some1 still5 i9 k13 lists16 lists17 lists18 lists19 marks20 line21) := by
  intro Q Q' s kn kx h
  obtain ⟨yes14, n15⟩ := s
  simp only [spec_l6Mergers_s12, cond_bindL, none_bindL]
/-- loop 8 of loop.example/g01194/spec.l6Mergers -/
def spec_l6Mergers_s8 (F : Nat) (d0 : Int) (some1 : Bool) (still5 : Bool) (i9 : Int) (lists14 : List (List Int)) (lists15 : List (List Int)) (lists16 : List (List Int)) (lists17 : List (List Int)) (line19 : List Int) (Q : Type) : (Int × List Int) → ((Int × List Int) → Option Q) → ((List Int) → Option Q) → Option Q
  | (k13, marks18), kn, kx =>
    let z_1 := (spec_l6Mergers_l12 F d0 some1 still5 i9 k13 lists14 lists15 lists16 lists17 marks18 line19 (0 : Int) (0 : Int))
    let z_2 : Nat := ((0 : Nat) + ((Int.toNat k13) * (2 : Nat)))
    let z_3 : Int := (iget line19 z_2)
    let z_4 : Bool := (inR z_3 4)
    let z_5 : Int := (iget line19 (z_2 + (1 : Nat)))
    let z_6 : Bool := (inR z_5 4)
    let z_7 : Int := (IntKind.wrap .i64 (k13 + (1 : Int)))
    let z_8 : List Int := (iset marks18 (((0 : Nat) + ((Int.toNat z_3) * (4 : Nat))) + ((Int.toNat z_5) * (1 : Nat))) (1 : Int))
    let z_9 : Bool := ((Option.getD z_1 default) == (((List.length (llget [lists14, lists15, lists16, lists17] ((0 : Nat) + ((Int.toNat i9) * (1 : Nat))))) : Nat) : Int))
    bif (decide (k13 < (4 : Int))) then
    bif (Option.isSome z_1) then
    bif some1 then
    bif (decide ((0 : Int) < (Option.getD z_1 default))) then
    bif (inR k13 4) then
    bif (inR k13 4) then
    bif z_4 then
    bif z_6 then
    kn (z_7, z_8)
    else none
    else none
    else none
    else none
    else bif (!some1) then
    bif (inR i9 4) then
    bif z_9 then
    bif (!still5) then
    bif (inR k13 4) then
    bif (inR k13 4) then
    bif z_4 then
    bif z_6 then
    kn (z_7, z_8)
    else none
    else none
    else none
    else none
    else kn (z_7, marks18)
    else kn (z_7, marks18)
    else none
    else kn (z_7, marks18)
    else bif (!some1) then
    bif (inR i9 4) then
    bif z_9 then
    bif (!still5) then
    bif (inR k13 4) then
    bif (inR k13 4) then
    bif z_4 then
    bif z_6 then
    kn (z_7, z_8)
    else none
    else none
    else none
    else none
    else kn (z_7, marks18)
    else kn (z_7, marks18)
    else none
    else kn (z_7, marks18)
    else none
    else kx marks18
def spec_l6Mergers_l8 (F : Nat) (d0 : Int) (some1 : Bool) (still5 : Bool) (i9 : Int) (lists14 : List (List Int)) (lists15 : List (List Int)) (lists16 : List (List Int)) (lists17 : List (List Int)) (line19 : List Int) (k13 : Int) (marks18 : List Int) : Option (List Int) := loopC (spec_l6Mergers_s8 F d0 some1 still5 i9 lists14 lists15 lists16 lists17 line19) F (k13, marks18) some
theorem spec_l6Mergers_s8_nat (F : Nat) (d0 : Int) (some1 : Bool) (still5 : Bool) (i9 : Int) (lists14 : List (List Int)) (lists15 : List (List Int)) (lists16 : List (List Int)) (lists17 : List (List Int)) (line19 : List Int) : Natural (spec_l6Mergers_s8 F d0 some1 still5 i9 lists14 lists15 lists16 lists17 line19) := by
  intro Q Q' s kn kx h
  obtain ⟨k13, marks18⟩ := s
  simp only [spec_l6Mergers_s8, cond_bindL, none_bindL]
/-- loop 4 of loop.example/g01194/spec.l6Mergers -/
def spec_l6Mergers_s4 (F : Nat) (d0 : Int) (some1 : Bool) (still5 : Bool) (lists10 : List (List Int)) (lists11 : List (List Int)) (lists12 : List (List Int)) (lists13 : List (List Int)) (Q : Type) : (Int × List Int) → ((Int × List Int) → Option Q) → ((List Int) → Option Q) → Option Q
  | (i9, marks14), kn, kx =>
    let z_1 := (spec_l2Line_p F d0 i9)
    let z_2 := (spec_l6Mergers_l8 F d0 some1 still5 i9 lists10 lists11 lists12 lists13 (Option.getD z_1 default) (0 : Int) marks14)
    bif (decide (i9 < (4 : Int))) then
    bif (Option.isSome z_1) then
    bif (Option.isSome z_2) then
    kn ((IntKind.wrap .i64 (i9 + (1 : Int))), (Option.getD z_2 default))
    else none
    else none
    else kx marks14
def spec_l6Mergers_l4 (F : Nat) (d0 : Int) (some1 : Bool) (still5 : Bool) (lists10 : List (List Int)) (lists11 : List (List Int)) (lists12 : List (List Int)) (lists13 : List (List Int)) (i9 : Int) (marks14 : List Int) : Option (List Int) := loopC (spec_l6Mergers_s4 F d0 some1 still5 lists10 lists11 lists12 lists13) F (i9, marks14) some
theorem spec_l6Mergers_s4_nat (F : Nat) (d0 : Int) (some1 : Bool) (still5 : Bool) (lists10 : List (List Int)) (lists11 : List (List Int)) (lists12 : List (List Int)) (lists13 : List (List Int)) : Natural (spec_l6Mergers_s4 F d0 some1 still5 lists10 lists11 lists12 lists13) := by
  intro Q Q' s kn kx h
  obtain ⟨i9, marks14⟩ := s
  simp only [spec_l6Mergers_s4, cond_bindL, none_bindL]
/-- loop 23 of loop.example/g01194/spec.l6Mergers -/
def spec_l6Mergers_s23 (F : Nat) (r5 : Int) (marks7 : List Int) (Q : Type) : (Int × List (List Int)) → ((Int × List (List Int)) → Option Q) → ((List (List Int)) → Option Q) → Option Q
  | (c6, out8), kn, kx =>
    let z_1 : List (List Int) := ((subn (List.length out8) out8 0 (List.length out8)) ++ [[r5, c6]])
    let z_2 : Int := (IntKind.wrap .i64 (c6 + (1 : Int)))
    bif (decide (c6 < (4 : Int))) then
    bif (inR r5 4) then
    bif (inR c6 4) then
    bif ((iget marks7 (((0 : Nat) + ((Int.toNat r5) * (4 : Nat))) + ((Int.toNat c6) * (1 : Nat)))) == (1 : Int)) then
    bif (fits (List.length z_1) 16) then
    kn (z_2, z_1)
    else none
    else kn (z_2, out8)
    else none
    else none
    else kx out8
def spec_l6Mergers_l23 (F : Nat) (r5 : Int) (marks7 : List Int) (c6 : Int) (out8 : List (List Int)) : Option (List (List Int)) := loopC (spec_l6Mergers_s23 F r5 marks7) F (c6, out8) some
theorem spec_l6Mergers_s23_nat (F : Nat) (r5 : Int) (marks7 : List Int) : Natural (spec_l6Mergers_s23 F r5 marks7) := by
  intro Q Q' s kn kx h
  obtain ⟨c6, out8⟩ := s
  simp only [spec_l6Mergers_s23, cond_bindL, none_bindL]
/-- loop 20 of loop.example/g01194/spec.l6Mergers -/
def spec_l6Mergers_s20 (F : Nat) (marks6 : List Int) (Q : Type) : (Int × List (List Int)) → ((Int × List (List Int)) → Option Q) → ((List (List Int)) → Option Q) → Option Q
  | (r5, out7), kn, kx =>
    let z_1 := (spec_l6Mergers_l23 F r5 marks6 (0 : Int) out7)
    bif (decide (r5 < (4 : Int))) then
    bif ((Nat.beq (List.length out7) (List.length out7)) && (Option.isSome z_1)) then
    kn ((IntKind.wrap .i64 (r5 + (1 : Int))), (Option.getD z_1 default))
    else none
    else kx out7
def spec_l6Mergers_l20 (F : Nat) (marks6 : List Int) (r5 : Int) (out7 : List (List Int)) : Option (List (List Int)) := loopC (spec_l6Mergers_s20 F marks6) F (r5, out7) some
theorem spec_l6Mergers_s20_nat (F : Nat) (marks6 : List Int) : Natural (spec_l6Mergers_s20 F marks6) := by
  intro Q Q' s kn kx h
  obtain ⟨r5, out7⟩ := s
  simp only [spec_l6Mergers_s20, cond_bindL, none_bindL]
/-- loop.example/g01194/spec.l6Mergers -/
def spec_l6Mergers_c (Q : Type) (F : Nat) (b0 : List Int) (d1 : Int) (some2 : Bool) (k : (List (List Int)) → Option Q) : Option Q :=
    let z_1 := (spec_l6Lists_p F b0 d1)
    let z_2 := (spec_l6Still_p F b0 d1)
    let z_3 := (Option.getD z_1 default)
    let z_4 := (spec_l6Mergers_l4 F d1 some2 (Option.getD z_2 default) z_3.1 z_3.2.1 z_3.2.2.1 z_3.2.2.2 (0 : Int) [(0 : Int), (0 : Int), (0 : Int), (0 : Int), (0 : Int), (0 : Int), (0 : Int), (0 : Int), (0 : Int), (0 : Int), (0 : Int), (0 : Int), (0 : Int), (0 : Int), (0 : Int), (0 : Int)])
    let z_5 := (spec_l6Mergers_l20 F (Option.getD z_4 default) (0 : Int) ([] : List (List Int)))
    bif (Option.isSome z_1) then
    bif (Option.isSome z_2) then
    bif (Option.isSome z_4) then
    bif (Option.isSome z_5) then
    k (Option.getD z_5 default)
    else none
    else none
    else none
    else none
def spec_l6Mergers_p (F : Nat) (b0 : List Int) (d1 : Int) (some2 : Bool) : Option (List (List Int)) := spec_l6Mergers_c _ F b0 d1 some2 some
theorem spec_l6Mergers_cp (Q : Type) (F : Nat) (b0 : List Int) (d1 : Int) (some2 : Bool) (k : (List (List Int)) → Option Q) : spec_l6Mergers_c Q F b0 d1 some2 k = (spec_l6Mergers_p F b0 d1 some2).bind k := by
  simp only [spec_l6Mergers_p, spec_l6Mergers_c, cond_bindL, none_bindL, some_bindL]

/-- loop.example/g01194/spec.CanMerge -/
def spec_CanMerge_c (Q : Type) (F : Nat) (b0 : List Int) (direction1 : Int) (k : (Bool × List (List Int)) → Option Q) : Option Q :=
    let z_1 := (spec_l2Board_p F b0)
    let z_2 := (spec_l6Count_p F b0 direction1)
    let z_3 := (spec_l6Mergers_p F b0 direction1 true)
    bif (Option.isSome z_1) then
    bif (!(Option.getD z_1 default)) then
    k (false, ([] : List (List Int)))
    else bif (!(spec_l2Side_v direction1)) then
    k (false, ([] : List (List Int)))
    else bif (Option.isSome z_2) then
    bif ((Option.getD z_2 default) == (0 : Int)) then
    k (false, ([] : List (List Int)))
    else bif (Option.isSome z_3) then
    k (true, (Option.getD z_3 default))
    else none
    else none
    else none
def spec_CanMerge_p (F : Nat) (b0 : List Int) (direction1 : Int) : Option (Bool × List (List Int)) := spec_CanMerge_c _ F b0 direction1 some
theorem spec_CanMerge_cp (Q : Type) (F : Nat) (b0 : List Int) (direction1 : Int) (k : (Bool × List (List Int)) → Option Q) : spec_CanMerge_c Q F b0 direction1 k = (spec_CanMerge_p F b0 direction1).bind k := by
  simp only [spec_CanMerge_p, spec_CanMerge_c, cond_bindL, none_bindL, some_bindL]

/-- loop.example/g01194/impl.in -/
def impl_in_c (Q : Type) (n0 : Int) (low1 : Int) (high2 : Int) (k : (Bool) → Option Q) : Option Q :=
    bif (decide (low1 ≤ n0)) then
    k (decide (n0 ≤ high2))
    else k false
def impl_in_v (n0 : Int) (low1 : Int) (high2 : Int) : Bool :=
    bif (decide (low1 ≤ n0)) then
    (decide (n0 ≤ high2))
    else false
theorem impl_in_cv (Q : Type) (n0 : Int) (low1 : Int) (high2 : Int) (k : (Bool) → Option Q) : impl_in_c Q n0 low1 high2 k = k (impl_in_v n0 low1 high2) := by
  simp only [impl_in_c, impl_in_v, app_condL k]

/-- loop.example/g01194/impl.IsRow$1 -/
def impl_IsRow_f1_c (Q : Type) (n0 : Int) (k : (Bool) → Option Q) : Option Q :=
    k (!(impl_in_v n0 (0 : Int) (17 : Int)))
def impl_IsRow_f1_v (n0 : Int) : Bool :=
    (!(impl_in_v n0 (0 : Int) (17 : Int)))
theorem impl_IsRow_f1_cv (Q : Type) (n0 : Int) (k : (Bool) → Option Q) : impl_IsRow_f1_c Q n0 k = k (impl_IsRow_f1_v n0) := by
  simp only [impl_IsRow_f1_c, impl_IsRow_f1_v, app_condL k]
end Go.Lv.P
