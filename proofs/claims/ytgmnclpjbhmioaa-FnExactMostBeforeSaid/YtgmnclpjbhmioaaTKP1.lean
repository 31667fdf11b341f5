/-
Pure functions and what the code of them does, by program; without conditions.
-/
import Derived.Test.YtgmnclpjbhmioaaTKP0
namespace Go.Lv.P
open Go Go.Lv
set_option linter.unusedVariables false
set_option linter.unusedSimpArgs false
set_option maxRecDepth 100000
/-- loop 7 of loop.example/g01194/spec.l4Before -/
def spec_l4Before_s7 (F : Nat) (out3 : List (List Int)) (code4 : Int) (row8 : List Int) (Q : Type) : (Int × List Int) → ((Int × List Int) → Option Q) → ((List Int) → Option Q) → Option Q
  | (k7, tiles9), kn, kx =>
    let z_1 : Int := (iget row8 ((0 : Nat) + ((Int.toNat k7) * (1 : Nat))))
    let z_2 : List Int := (subn (List.length tiles9) tiles9 0 (List.length tiles9))
    let z_3 : Int := (IntKind.wrap .i64 (z_1 - (1 : Int)))
    let z_4 : List Int := (z_2 ++ [z_3, z_3])
    let z_5 : Int := (IntKind.wrap .i64 (k7 + (1 : Int)))
    let z_6 : List Int := (z_2 ++ [z_1])
    bif (decide (k7 < (4 : Int))) then
    bif (inR k7 4) then
    bif (decide ((0 : Int) < z_1)) then
    bif (decide (k7 < (0 : Int))) then
    none
    else bif ((IntKind.wrap .i64 (((BitVec.ofInt (IntKind.bits .i64) (Int.fdiv code4 (2 ^ (min (Int.toNat k7) (IntKind.bits .i64)) : Int)) &&& BitVec.ofInt (IntKind.bits .i64) (1 : Int)).toNat : Nat) : Int)) == (1 : Int)) then
    bif (inR k7 4) then
    bif (inR k7 4) then
    bif (fits (List.length z_4) 8) then
    kn (z_5, z_4)
    else none
    else none
    else none
    else bif (inR k7 4) then
    bif (fits (List.length z_6) 8) then
    kn (z_5, z_6)
    else none
    else none
    else kx tiles9
    else none
    else kx tiles9
def spec_l4Before_l7 (F : Nat) (out3 : List (List Int)) (code4 : Int) (row8 : List Int) (k7 : Int) (tiles9 : List Int) : Option (List Int) := loopC (spec_l4Before_s7 F out3 code4 row8) F (k7, tiles9) some
theorem spec_l4Before_s7_nat (F : Nat) (out3 : List (List Int)) (code4 : Int) (row8 : List Int) : Natural (spec_l4Before_s7 F out3 code4 row8) := by
  intro Q Q' s kn kx h
  obtain ⟨k7, tiles9⟩ := s
  simp only [spec_l4Before_s7, cond_bindL, none_bindL]
/-- loop 15 of loop.example/g01194/spec.l4Before -/
def spec_l4Before_s15 (F : Nat) (code4 : Int) (all6 : Nat) (row8 : List Int) (all9 : List (List Int)) (Q : Type) : (List (List Int) × Int) → ((List (List Int) × Int) → Option Q) → ((List (List Int)) → Option Q) → Option Q
  | (out3, i7), kn, kx =>
    let z_1 : List Int := (rget all9 ((0 : Nat) + (Int.toNat i7)))
    let z_2 := (spec_l2Row_p F z_1)
    let z_3 := (spec_l4Put_p F out3 z_1)
    let z_4 : Int := (IntKind.wrap .i64 (i7 + (1 : Int)))
    bif (decide (i7 < ((all6 : Nat) : Int))) then
    bif (inR i7 all6) then
    bif (Option.isSome z_2) then
    bif ((Option.getD z_2 default).1 == row8) then
    bif (inR i7 all6) then
    bif (Option.isSome z_3) then
    kn ((Option.getD z_3 default), z_4)
    else none
    else none
    else kn (out3, z_4)
    else none
    else none
    else kx out3
def spec_l4Before_l15 (F : Nat) (code4 : Int) (all6 : Nat) (row8 : List Int) (all9 : List (List Int)) (out3 : List (List Int)) (i7 : Int) : Option (List (List Int)) := loopC (spec_l4Before_s15 F code4 all6 row8 all9) F (out3, i7) some
theorem spec_l4Before_s15_nat (F : Nat) (code4 : Int) (all6 : Nat) (row8 : List Int) (all9 : List (List Int)) : Natural (spec_l4Before_s15 F code4 all6 row8 all9) := by
  intro Q Q' s kn kx h
  obtain ⟨out3, i7⟩ := s
  simp only [spec_l4Before_s15, cond_bindL, none_bindL]
/-- loop 3 of loop.example/g01194/spec.l4Before -/
def spec_l4Before_s3 (F : Nat) (row5 : List Int) (Q : Type) : (List (List Int) × Int) → ((List (List Int) × Int) → Option Q) → ((List (List Int)) → Option Q) → Option Q
  | (out3, code4), kn, kx =>
    let z_1 := (spec_l4Before_l7 F out3 code4 row5 (0 : Int) ([] : List Int))
    let z_2 : Nat := (List.length (Option.getD z_1 default))
    let z_3 : Int := (IntKind.wrap .i64 (code4 + (1 : Int)))
    let z_4 : List Int := (subn z_2 (Option.getD z_1 default) 0 z_2)
    let z_5 := (spec_l1Has_p F z_4 (0 : Int))
    let z_6 := (spec_l4Spread_p F z_4)
    let z_7 := (Option.getD z_6 default)
    let z_8 := (spec_l4Before_l15 F code4 z_7.1 row5 z_7.2 out3 (0 : Int))
    bif (decide (code4 < (16 : Int))) then
    bif (Option.isSome z_1) then
    bif (decide ((4 : Int) < ((z_2 : Nat) : Int))) then
    kn (out3, z_3)
    else bif (Option.isSome z_5) then
    bif (Option.getD z_5 default) then
    kn (out3, z_3)
    else bif (Option.isSome z_6) then
    bif (Option.isSome z_8) then
    kn ((Option.getD z_8 default), z_3)
    else none
    else none
    else none
    else none
    else kx out3
def spec_l4Before_l3 (F : Nat) (row5 : List Int) (out3 : List (List Int)) (code4 : Int) : Option (List (List Int)) := loopC (spec_l4Before_s3 F row5) F (out3, code4) some
theorem spec_l4Before_s3_nat (F : Nat) (row5 : List Int) : Natural (spec_l4Before_s3 F row5) := by
  intro Q Q' s kn kx h
  obtain ⟨out3, code4⟩ := s
  simp only [spec_l4Before_s3, cond_bindL, none_bindL]
/-- loop.example/g01194/spec.l4Before -/
def spec_l4Before_c (Q : Type) (F : Nat) (row0 : List Int) (k : (List (List Int)) → Option Q) : Option Q :=
    let z_1 := (spec_l4Before_l3 F row0 ([] : List (List Int)) (0 : Int))
    bif (Option.isSome z_1) then
    k (Option.getD z_1 default)
    else none
def spec_l4Before_p (F : Nat) (row0 : List Int) : Option (List (List Int)) := spec_l4Before_c _ F row0 some
theorem spec_l4Before_cp (Q : Type) (F : Nat) (row0 : List Int) (k : (List (List Int)) → Option Q) : spec_l4Before_c Q F row0 k = (spec_l4Before_p F row0).bind k := by
  simp only [spec_l4Before_p, spec_l4Before_c, cond_bindL, none_bindL, some_bindL]

/-- loop.example/g01194/spec.l6Lists -/
def spec_l6Lists_c (Q : Type) (F : Nat) (b0 : List Int) (d1 : Int) (k : (List (List Int) × List (List Int) × List (List Int) × List (List Int)) → Option Q) : Option Q :=
    let z_1 := (spec_l2Numbers_p F b0 d1 (0 : Int))
    let z_2 := (spec_l4Before_p F (Option.getD z_1 default))
    let z_3 := (spec_l2Numbers_p F b0 d1 (1 : Int))
    let z_4 := (spec_l4Before_p F (Option.getD z_3 default))
    let z_5 := (spec_l2Numbers_p F b0 d1 (2 : Int))
    let z_6 := (spec_l4Before_p F (Option.getD z_5 default))
    let z_7 := (spec_l2Numbers_p F b0 d1 (3 : Int))
    let z_8 := (spec_l4Before_p F (Option.getD z_7 default))
    bif (Option.isSome z_1) then
    bif (Option.isSome z_2) then
    bif (Option.isSome z_3) then
    bif (Option.isSome z_4) then
    bif (Option.isSome z_5) then
    bif (Option.isSome z_6) then
    bif (Option.isSome z_7) then
    bif (Option.isSome z_8) then
    k ((Option.getD z_2 default), (Option.getD z_4 default), (Option.getD z_6 default), (Option.getD z_8 default))
    else none
    else none
    else none
    else none
    else none
    else none
    else none
    else none
def spec_l6Lists_p (F : Nat) (b0 : List Int) (d1 : Int) : Option (List (List Int) × List (List Int) × List (List Int) × List (List Int)) := spec_l6Lists_c _ F b0 d1 some
theorem spec_l6Lists_cp (Q : Type) (F : Nat) (b0 : List Int) (d1 : Int) (k : (List (List Int) × List (List Int) × List (List Int) × List (List Int)) → Option Q) : spec_l6Lists_c Q F b0 d1 k = (spec_l6Lists_p F b0 d1).bind k := by
  simp only [spec_l6Lists_p, spec_l6Lists_c, cond_bindL, none_bindL, some_bindL]

/-- loop.example/g01194/spec.l2Put -/
def spec_l2Put_c (Q : Type) (b0 : List Int) (cell1 : List Int) (t2 : Int) (k : (List Int) → Option Q) : Option Q :=
    bif (inR (iget cell1 0) 4) then
    bif (inR (iget cell1 1) 4) then
    k (iset b0 (((0 : Nat) + ((Int.toNat (iget cell1 0)) * (4 : Nat))) + ((Int.toNat (iget cell1 1)) * (1 : Nat))) t2)
    else none
    else none
def spec_l2Put_p (b0 : List Int) (cell1 : List Int) (t2 : Int) : Option (List Int) := spec_l2Put_c _ b0 cell1 t2 some
theorem spec_l2Put_cp (Q : Type) (b0 : List Int) (cell1 : List Int) (t2 : Int) (k : (List Int) → Option Q) : spec_l2Put_c Q b0 cell1 t2 k = (spec_l2Put_p b0 cell1 t2).bind k := by
  simp only [spec_l2Put_p, spec_l2Put_c, cond_bindL, none_bindL, some_bindL]

/-- loop 3 of loop.example/g01194/spec.l2Slide -/
def spec_l2Slide_s3 (F : Nat) (d0 : Int) (b12 : List Int) (Q : Type) : (Int × Int × List Int) → ((Int × Int × List Int) → Option Q) → ((Int × List Int) → Option Q) → Option Q
  | (sum10, i11, out14), kn, kx =>
    let z_1 := (spec_l2Numbers_p F b12 d0 i11)
    let z_2 := (spec_l2Row_p F (Option.getD z_1 default))
    let z_3 := (spec_l2Line_p F d0 i11)
    let z_4 := (Option.getD z_2 default)
    let z_5 := (spec_l2Put_p out14 (sub (Option.getD z_3 default) 0 2) (iget z_4.1 0))
    let z_6 := (spec_l2Put_p (Option.getD z_5 default) (sub (Option.getD z_3 default) 2 2) (iget z_4.1 1))
    let z_7 := (spec_l2Put_p (Option.getD z_6 default) (sub (Option.getD z_3 default) 4 2) (iget z_4.1 2))
    let z_8 := (spec_l2Put_p (Option.getD z_7 default) (sub (Option.getD z_3 default) 6 2) (iget z_4.1 3))
    bif (decide (i11 < (4 : Int))) then
    bif (Option.isSome z_1) then
    bif (Option.isSome z_2) then
    bif (Option.isSome z_3) then
    bif (Option.isSome z_5) then
    bif (Option.isSome z_6) then
    bif (Option.isSome z_7) then
    bif (Option.isSome z_8) then
    kn ((IntKind.wrap .i64 (sum10 + z_4.2)), (IntKind.wrap .i64 (i11 + (1 : Int))), (Option.getD z_8 default))
    else none
    else none
    else none
    else none
    else none
    else none
    else none
    else kx (sum10, out14)
def spec_l2Slide_l3 (F : Nat) (d0 : Int) (b12 : List Int) (sum10 : Int) (i11 : Int) (out14 : List Int) : Option (Int × List Int) := loopC (spec_l2Slide_s3 F d0 b12) F (sum10, i11, out14) some
theorem spec_l2Slide_s3_nat (F : Nat) (d0 : Int) (b12 : List Int) : Natural (spec_l2Slide_s3 F d0 b12) := by
  intro Q Q' s kn kx h
  obtain ⟨sum10, i11, out14⟩ := s
  simp only [spec_l2Slide_s3, cond_bindL, none_bindL]
/-- loop.example/g01194/spec.l2Slide -/
def spec_l2Slide_c (Q : Type) (F : Nat) (b0 : List Int) (d1 : Int) (k : (List Int × Int) → Option Q) : Option Q :=
    let z_1 := (spec_l2Slide_l3 F d1 b0 (0 : Int) (0 : Int) b0)
    let z_2 := (Option.getD z_1 default)
    bif (Option.isSome z_1) then
    k (z_2.2, z_2.1)
    else none
def spec_l2Slide_p (F : Nat) (b0 : List Int) (d1 : Int) : Option (List Int × Int) := spec_l2Slide_c _ F b0 d1 some
theorem spec_l2Slide_cp (Q : Type) (F : Nat) (b0 : List Int) (d1 : Int) (k : (List Int × Int) → Option Q) : spec_l2Slide_c Q F b0 d1 k = (spec_l2Slide_p F b0 d1).bind k := by
  simp only [spec_l2Slide_p, spec_l2Slide_c, cond_bindL, none_bindL, some_bindL]

/-- loop.example/g01194/spec.l6Still -/
def spec_l6Still_c (Q : Type) (F : Nat) (b0 : List Int) (d1 : Int) (k : (Bool) → Option Q) : Option Q :=
    let z_1 := (spec_l2Slide_p F b0 d1)
    bif (Option.isSome z_1) then
    k ((Option.getD z_1 default).1 == b0)
    else none
def spec_l6Still_p (F : Nat) (b0 : List Int) (d1 : Int) : Option (Bool) := spec_l6Still_c _ F b0 d1 some
theorem spec_l6Still_cp (Q : Type) (F : Nat) (b0 : List Int) (d1 : Int) (k : (Bool) → Option Q) : spec_l6Still_c Q F b0 d1 k = (spec_l6Still_p F b0 d1).bind k := by
  simp only [spec_l6Still_p, spec_l6Still_c, cond_bindL, none_bindL, some_bindL]

/-- loop.example/g01194/spec.l6Count -/
def spec_l6Count_c (Q : Type) (F : Nat) (b0 : List Int) (d1 : Int) (k : (Int) → Option Q) : Option Q :=
    let z_1 := (spec_l6Lists_p F b0 d1)
    let z_2 := (spec_l6Still_p F b0 d1)
    let z_3 := (Option.getD z_1 default)
    let z_4 : Int := (IntKind.wrap .i64 ((IntKind.wrap .i64 ((IntKind.wrap .i64 ((IntKind.wrap .i64 ((1 : Int) * (((List.length z_3.1) : Nat) : Int))) * (((List.length z_3.2.1) : Nat) : Int))) * (((List.length z_3.2.2.1) : Nat) : Int))) * (((List.length z_3.2.2.2) : Nat) : Int)))
    bif (Option.isSome z_1) then
    bif (Option.isSome z_2) then
    bif (Option.getD z_2 default) then
    k (IntKind.wrap .i64 (z_4 - (1 : Int)))
    else k z_4
    else none
    else none
def spec_l6Count_p (F : Nat) (b0 : List Int) (d1 : Int) : Option (Int) := spec_l6Count_c _ F b0 d1 some
theorem spec_l6Count_cp (Q : Type) (F : Nat) (b0 : List Int) (d1 : Int) (k : (Int) → Option Q) : spec_l6Count_c Q F b0 d1 k = (spec_l6Count_p F b0 d1).bind k := by
  simp only [spec_l6Count_p, spec_l6Count_c, cond_bindL, none_bindL, some_bindL]

/-- loop.example/g01194/spec.CountBefore -/
def spec_CountBefore_c (Q : Type) (F : Nat) (b0 : List Int) (direction1 : Int) (k : (Int × Bool) → Option Q) : Option Q :=
    let z_1 := (spec_l2Board_p F b0)
    let z_2 := (spec_l6Count_p F b0 direction1)
    bif (Option.isSome z_1) then
    bif (!(Option.getD z_1 default)) then
    k ((0 : Int), false)
    else bif (!(spec_l2Side_v direction1)) then
    k ((0 : Int), false)
    else bif (Option.isSome z_2) then
    k ((Option.getD z_2 default), true)
    else none
    else none
def spec_CountBefore_p (F : Nat) (b0 : List Int) (direction1 : Int) : Option (Int × Bool) := spec_CountBefore_c _ F b0 direction1 some
theorem spec_CountBefore_cp (Q : Type) (F : Nat) (b0 : List Int) (direction1 : Int) (k : (Int × Bool) → Option Q) : spec_CountBefore_c Q F b0 direction1 k = (spec_CountBefore_p F b0 direction1).bind k := by
  simp only [spec_CountBefore_p, spec_CountBefore_c, cond_bindL, none_bindL, some_bindL]

/-- loop.example/g01194/impl.in -/
def impl_in_c (Q : Type) (n0 : Int) (low1 : Int) (high2 : Int) (k : (Bool) → Option Q) : Option Q :=
    bif (decide (low1 ≤ n0)) then
    k (decide (n0 ≤ high2))
    else k false
def impl_in_v (n0 : Int) (low1 : Int) (high2 : Int) : Bool :=
    bif (decide (low1 ≤ n0)) then
    (decide (n0 ≤ high2))
    else false
theorem impl_in_cv (Q : Type) (n0 : Int) (low1 : Int) (high2 : Int) (k : (Bool) → Option Q) : impl_in_c Q n0 low1 high2 k = k (impl_in_v n0 low1 high2) := by
  simp only [impl_in_c, impl_in_v, app_condL k]

/-- loop.example/g01194/impl.IsRow$1 -/
def impl_IsRow_f1_c (Q : Type) (n0 : Int) (k : (Bool) → Option Q) : Option Q :=
    k (!(impl_in_v n0 (0 : Int) (17 : Int)))
def impl_IsRow_f1_v (n0 : Int) : Bool :=
    (!(impl_in_v n0 (0 : Int) (17 : Int)))
theorem impl_IsRow_f1_cv (Q : Type) (n0 : Int) (k : (Bool) → Option Q) : impl_IsRow_f1_c Q n0 k = k (impl_IsRow_f1_v n0) := by
  simp only [impl_IsRow_f1_c, impl_IsRow_f1_v, app_condL k]

/-- loop 2 of slices.IndexFunc[[]int,int] -/
def slices_IndexFunc_intint_impl_IsRow_f1_s2 (F : Nat) (s0 : List Int) (t71 : Int) (Q : Type) : (Int) → ((Int) → Option Q) → ((Bool × Int) → Option Q) → Option Q
  | t82, kn, kx =>
    bif (decide (t82 < t71)) then
    bif (inR t82 (List.length s0)) then
    bif (impl_IsRow_f1_v (iget s0 (Int.toNat t82))) then
    kx (true, t82)
    else kn (IntKind.wrap .i64 (t82 + (1 : Int)))
    else none
    else kx (false, default)
def slices_IndexFunc_intint_impl_IsRow_f1_l2 (F : Nat) (s0 : List Int) (t71 : Int) (t82 : Int) : Option (Bool × Int) := loopC (slices_IndexFunc_intint_impl_IsRow_f1_s2 F s0 t71) F t82 some
theorem slices_IndexFunc_intint_impl_IsRow_f1_s2_nat (F : Nat) (s0 : List Int) (t71 : Int) : Natural (slices_IndexFunc_intint_impl_IsRow_f1_s2 F s0 t71) := by
  intro Q Q' s kn kx h
  simp only [slices_IndexFunc_intint_impl_IsRow_f1_s2, cond_bindL, none_bindL]
/-- slices.IndexFunc[[]int,int] -/
def slices_IndexFunc_intint_impl_IsRow_f1_c (Q : Type) (F : Nat) (s0 : List Int) (k : (Int) → Option Q) : Option Q :=
    let z_1 := (slices_IndexFunc_intint_impl_IsRow_f1_l2 F s0 (((List.length s0) : Nat) : Int) (0 : Int))
    let z_2 := (Option.getD z_1 default)
    bif (Option.isSome z_1) then
    bif z_2.1 then
    k z_2.2
    else k (-1 : Int)
    else none
def slices_IndexFunc_intint_impl_IsRow_f1_p (F : Nat) (s0 : List Int) : Option (Int) := slices_IndexFunc_intint_impl_IsRow_f1_c _ F s0 some
theorem slices_IndexFunc_intint_impl_IsRow_f1_cp (Q : Type) (F : Nat) (s0 : List Int) (k : (Int) → Option Q) : slices_IndexFunc_intint_impl_IsRow_f1_c Q F s0 k = (slices_IndexFunc_intint_impl_IsRow_f1_p F s0).bind k := by
  simp only [slices_IndexFunc_intint_impl_IsRow_f1_p, slices_IndexFunc_intint_impl_IsRow_f1_c, cond_bindL, none_bindL, some_bindL]

/-- slices.ContainsFunc[[]int,int] -/
def slices_ContainsFunc_intint_impl_IsRow_f1_c (Q : Type) (F : Nat) (s0 : List Int) (k : (Bool) → Option Q) : Option Q :=
    let z_1 := (slices_IndexFunc_intint_impl_IsRow_f1_p F s0)
    bif (Option.isSome z_1) then
    k (decide ((0 : Int) ≤ (Option.getD z_1 default)))
    else none
def slices_ContainsFunc_intint_impl_IsRow_f1_p (F : Nat) (s0 : List Int) : Option (Bool) := slices_ContainsFunc_intint_impl_IsRow_f1_c _ F s0 some
theorem slices_ContainsFunc_intint_impl_IsRow_f1_cp (Q : Type) (F : Nat) (s0 : List Int) (k : (Bool) → Option Q) : slices_ContainsFunc_intint_impl_IsRow_f1_c Q F s0 k = (slices_ContainsFunc_intint_impl_IsRow_f1_p F s0).bind k := by
  simp only [slices_ContainsFunc_intint_impl_IsRow_f1_p, slices_ContainsFunc_intint_impl_IsRow_f1_c, cond_bindL, none_bindL, some_bindL]

/-- loop.example/g01194/impl.IsRow -/
def impl_IsRow_c (Q : Type) (F : Nat) (row0 : List Int) (k : (Bool) → Option Q) : Option Q :=
    let z_1 := (slices_ContainsFunc_intint_impl_IsRow_f1_p F (sub row0 0 4))
    bif (Option.isSome z_1) then
    k (!(Option.getD z_1 default))
    else none
def impl_IsRow_p (F : Nat) (row0 : List Int) : Option (Bool) := impl_IsRow_c _ F row0 some
theorem impl_IsRow_cp (Q : Type) (F : Nat) (row0 : List Int) (k : (Bool) → Option Q) : impl_IsRow_c Q F row0 k = (impl_IsRow_p F row0).bind k := by
  simp only [impl_IsRow_p, impl_IsRow_c, cond_bindL, none_bindL, some_bindL]

/-- loop.example/g01194/impl.IsBoard$1 -/
def impl_IsBoard_f1_c (Q : Type) (F : Nat) (row0 : List Int) (k : (Bool) → Option Q) : Option Q :=
    let z_1 := (impl_IsRow_p F row0)
    bif (Option.isSome z_1) then
    k (!(Option.getD z_1 default))
    else none
def impl_IsBoard_f1_p (F : Nat) (row0 : List Int) : Option (Bool) := impl_IsBoard_f1_c _ F row0 some
theorem impl_IsBoard_f1_cp (Q : Type) (F : Nat) (row0 : List Int) (k : (Bool) → Option Q) : impl_IsBoard_f1_c Q F row0 k = (impl_IsBoard_f1_p F row0).bind k := by
  simp only [impl_IsBoard_f1_p, impl_IsBoard_f1_c, cond_bindL, none_bindL, some_bindL]

/-- loop 2 of slices.IndexFunc[[][4]int,[4]int] -/
def slices_IndexFunc_4int4int_impl_IsBoard_f1_s2 (F : Nat) (s0 : List (List Int)) (t71 : Int) (Q : Type) : (Int) → ((Int) → Option Q) → ((Bool × Int) → Option Q) → Option Q
  | t82, kn, kx =>
    let z_1 := (impl_IsBoard_f1_p F (rget s0 (Int.toNat t82)))
    bif (decide (t82 < t71)) then
    bif (inR t82 (List.length s0)) then
    bif (Option.isSome z_1) then
    bif (Option.getD z_1 default) then
    kx (true, t82)
    else kn (IntKind.wrap .i64 (t82 + (1 : Int)))
    else none
    else none
    else kx (false, default)
def slices_IndexFunc_4int4int_impl_IsBoard_f1_l2 (F : Nat) (s0 : List (List Int)) (t71 : Int) (t82 : Int) : Option (Bool × Int) := loopC (slices_IndexFunc_4int4int_impl_IsBoard_f1_s2 F s0 t71) F t82 some
theorem slices_IndexFunc_4int4int_impl_IsBoard_f1_s2_nat (F : Nat) (s0 : List (List Int)) (t71 : Int) : Natural (slices_IndexFunc_4int4int_impl_IsBoard_f1_s2 F s0 t71) := by
  intro Q Q' s kn kx h
  simp only [slices_IndexFunc_4int4int_impl_IsBoard_f1_s2, cond_bindL, none_bindL]
/-- slices.IndexFunc[[][4]int,[4]int] -/
def slices_IndexFunc_4int4int_impl_IsBoard_f1_c (Q : Type) (F : Nat) (s0 : List (List Int)) (k : (Int) → Option Q) : Option Q :=
    let z_1 := (slices_IndexFunc_4int4int_impl_IsBoard_f1_l2 F s0 (((List.length s0) : Nat) : Int) (0 : Int))
    let z_2 := (Option.getD z_1 default)
    bif (Option.isSome z_1) then
    bif z_2.1 then
    k z_2.2
    else k (-1 : Int)
    else none
def slices_IndexFunc_4int4int_impl_IsBoard_f1_p (F : Nat) (s0 : List (List Int)) : Option (Int) := slices_IndexFunc_4int4int_impl_IsBoard_f1_c _ F s0 some
theorem slices_IndexFunc_4int4int_impl_IsBoard_f1_cp (Q : Type) (F : Nat) (s0 : List (List Int)) (k : (Int) → Option Q) : slices_IndexFunc_4int4int_impl_IsBoard_f1_c Q F s0 k = (slices_IndexFunc_4int4int_impl_IsBoard_f1_p F s0).bind k := by
  simp only [slices_IndexFunc_4int4int_impl_IsBoard_f1_p, slices_IndexFunc_4int4int_impl_IsBoard_f1_c, cond_bindL, none_bindL, some_bindL]

/-- slices.ContainsFunc[[][4]int,[4]int] -/
def slices_ContainsFunc_4int4int_impl_IsBoard_f1_c (Q : Type) (F : Nat) (s0 : List (List Int)) (k : (Bool) → Option Q) : Option Q :=
    let z_1 := (slices_IndexFunc_4int4int_impl_IsBoard_f1_p F s0)
    bif (Option.isSome z_1) then
    k (decide ((0 : Int) ≤ (Option.getD z_1 default)))
    else none
def slices_ContainsFunc_4int4int_impl_IsBoard_f1_p (F : Nat) (s0 : List (List Int)) : Option (Bool) := slices_ContainsFunc_4int4int_impl_IsBoard_f1_c _ F s0 some
theorem slices_ContainsFunc_4int4int_impl_IsBoard_f1_cp (Q : Type) (F : Nat) (s0 : List (List Int)) (k : (Bool) → Option Q) : slices_ContainsFunc_4int4int_impl_IsBoard_f1_c Q F s0 k = (slices_ContainsFunc_4int4int_impl_IsBoard_f1_p F s0).bind k := by
  simp only [slices_ContainsFunc_4int4int_impl_IsBoard_f1_p, slices_ContainsFunc_4int4int_impl_IsBoard_f1_c, cond_bindL, none_bindL, some_bindL]

/-- loop.example/g01194/impl.IsBoard -/
def impl_IsBoard_c (Q : Type) (F : Nat) (b0 : List Int) (k : (Bool) → Option Q) : Option Q :=
    let z_1 := (slices_ContainsFunc_4int4int_impl_IsBoard_f1_p F [(sub b0 0 4), (sub b0 4 4), (sub b0 8 4), (sub b0 12 4)])
    bif (Option.isSome z_1) then
    k (!(Option.getD z_1 default))
    else none
def impl_IsBoard_p (F : Nat) (b0 : List Int) : Option (Bool) := impl_IsBoard_c _ F b0 some
theorem impl_IsBoard_cp (Q : Type) (F : Nat) (b0 : List Int) (k : (Bool) → Option Q) : impl_IsBoard_c Q F b0 k = (impl_IsBoard_p F b0).bind k := by
  simp only [impl_IsBoard_p, impl_IsBoard_c, cond_bindL, none_bindL, some_bindL]

/-- loop.example/g01194/impl.isDirection -/
def impl_isDirection_c (Q : Type) (d0 : Int) (k : (Bool) → Option Q) : Option Q :=
    k (impl_in_v d0 (0 : Int) (3 : Int))
def impl_isDirection_v (d0 : Int) : Bool :=
    (impl_in_v d0 (0 : Int) (3 : Int))
theorem impl_isDirection_cv (Q : Type) (d0 : Int) (k : (Bool) → Option Q) : impl_isDirection_c Q d0 k = k (impl_isDirection_v d0) := by
  simp only [impl_isDirection_c, impl_isDirection_v, app_condL k]

/-- loop.example/g01194/impl.lineCell -/
def impl_lineCell_c (Q : Type) (direction0 : Int) (i1 : Int) (k2 : Int) (k : (List Int) → Option Q) : Option Q :=
    let z_1 : Int := (IntKind.wrap .i64 ((3 : Int) - k2))
    bif (direction0 == (0 : Int)) then
    k [i1, k2]
    else bif (direction0 == (1 : Int)) then
    k [k2, i1]
    else bif (direction0 == (2 : Int)) then
    k [i1, z_1]
    else k [z_1, i1]
def impl_lineCell_v (direction0 : Int) (i1 : Int) (k2 : Int) : List Int :=
    let z_1 : Int := (IntKind.wrap .i64 ((3 : Int) - k2))
    bif (direction0 == (0 : Int)) then
    [i1, k2]
    else bif (direction0 == (1 : Int)) then
    [k2, i1]
    else bif (direction0 == (2 : Int)) then
    [i1, z_1]
    else [z_1, i1]
theorem impl_lineCell_cv (Q : Type) (direction0 : Int) (i1 : Int) (k2 : Int) (k : (List Int) → Option Q) : impl_lineCell_c Q direction0 i1 k2 k = k (impl_lineCell_v direction0 i1 k2) := by
  simp only [impl_lineCell_c, impl_lineCell_v, app_condL k]

/-- (*loop.example/g01194/impl.Board).at -/
def impl_Board_at_c (Q : Type) (cell3 : List Int) (b4 : List Int) (k : (Nat) → Option Q) : Option Q :=
    bif (inR (iget cell3 0) 4) then
    bif (inR (iget cell3 1) 4) then
    k (((0 : Nat) + ((Int.toNat (iget cell3 0)) * (4 : Nat))) + ((Int.toNat (iget cell3 1)) * (1 : Nat)))
    else none
    else none
def impl_Board_at_p (cell3 : List Int) (b4 : List Int) : Option (Nat) := impl_Board_at_c _ cell3 b4 some
theorem impl_Board_at_cp (Q : Type) (cell3 : List Int) (b4 : List Int) (k : (Nat) → Option Q) : impl_Board_at_c Q cell3 b4 k = (impl_Board_at_p cell3 b4).bind k := by
  simp only [impl_Board_at_p, impl_Board_at_c, cond_bindL, none_bindL, some_bindL]

/-- (loop.example/g01194/impl.Board).line -/
def impl_Board_line_c (Q : Type) (b0 : List Int) (direction1 : Int) (i2 : Int) (k : (List Int) → Option Q) : Option Q :=
    let z_1 := (impl_Board_at_p (impl_lineCell_v direction1 i2 (0 : Int)) b0)
    let z_2 := (impl_Board_at_p (impl_lineCell_v direction1 i2 (1 : Int)) b0)
    let z_3 := (impl_Board_at_p (impl_lineCell_v direction1 i2 (2 : Int)) b0)
    let z_4 := (impl_Board_at_p (impl_lineCell_v direction1 i2 (3 : Int)) b0)
    bif (Option.isSome z_1) then
    bif (Option.isSome z_2) then
    bif (Option.isSome z_3) then
    bif (Option.isSome z_4) then
    k [(iget b0 (Option.getD z_1 default)), (iget b0 (Option.getD z_2 default)), (iget b0 (Option.getD z_3 default)), (iget b0 (Option.getD z_4 default))]
    else none
    else none
    else none
    else none
def impl_Board_line_p (b0 : List Int) (direction1 : Int) (i2 : Int) : Option (List Int) := impl_Board_line_c _ b0 direction1 i2 some
theorem impl_Board_line_cp (Q : Type) (b0 : List Int) (direction1 : Int) (i2 : Int) (k : (List Int) → Option Q) : impl_Board_line_c Q b0 direction1 i2 k = (impl_Board_line_p b0 direction1 i2).bind k := by
  simp only [impl_Board_line_p, impl_Board_line_c, cond_bindL, none_bindL, some_bindL]

end Go.Lv.P
