/-
Pure functions and what the code of them does, by program; without conditions.
-/
import Derived.Test.YtgmnclpjbhmioaaTKP6
namespace Go.Lv.P
open Go Go.Lv
set_option linter.unusedVariables false
set_option linter.unusedSimpArgs false
set_option maxRecDepth 100000
/-- loop 5 of (loop.example/g01194/impl.Board).merged -/
def impl_Board_merged_s5 (F : Nat) (direction0 : Int) (all1 : Bool) (t419 : List (List Int)) (t4110 : List (List Int)) (t4111 : List (List Int)) (t4112 : List (List Int)) (b14 : List Int) (lines15 : List (List Int)) (lines16 : List (List Int)) (lines17 : List (List Int)) (lines18 : List (List Int)) (Q : Type) : (Int × Int) → ((Int × Int) → Option Q) → ((Int) → Option Q) → Option Q
  | (other8, t4213), kn, kx =>
    let z_1 : Int := (IntKind.wrap .i64 (t4213 + (1 : Int)))
    bif (decide (t4213 < (4 : Int))) then
    bif (inR t4213 4) then
    bif (decide ((1 : Int) < (((List.length (llget [t419, t4110, t4111, t4112] ((Int.toNat t4213) * (1 : Nat)))) : Nat) : Int))) then
    kn ((IntKind.wrap .i64 (other8 + (1 : Int))), z_1)
    else kn (other8, z_1)
    else none
    else kx other8
def impl_Board_merged_l5 (F : Nat) (direction0 : Int) (all1 : Bool) (t419 : List (List Int)) (t4110 : List (List Int)) (t4111 : List (List Int)) (t4112 : List (List Int)) (b14 : List Int) (lines15 : List (List Int)) (lines16 : List (List Int)) (lines17 : List (List Int)) (lines18 : List (List Int)) (other8 : Int) (t4213 : Int) : Option (Int) := loopC (impl_Board_merged_s5 F direction0 all1 t419 t4110 t4111 t4112 b14 lines15 lines16 lines17 lines18) F (other8, t4213) some
theorem impl_Board_merged_s5_nat (F : Nat) (direction0 : Int) (all1 : Bool) (t419 : List (List Int)) (t4110 : List (List Int)) (t4111 : List (List Int)) (t4112 : List (List Int)) (b14 : List Int) (lines15 : List (List Int)) (lines16 : List (List Int)) (lines17 : List (List Int)) (lines18 : List (List Int)) : Natural (impl_Board_merged_s5 F direction0 all1 t419 t4110 t4111 t4112 b14 lines15 lines16 lines17 lines18) := by
  intro Q Q' s kn kx h
  obtain ⟨other8, t4213⟩ := s
  simp only [impl_Board_merged_s5, cond_bindL, none_bindL]
/-- (loop.example/g01194/impl.Board).merged -/
def impl_Board_merged_c (Q : Type) (F : Nat) (b0 : List Int) (direction1 : Int) (all2 : Bool) (k : (Unit) → Option Q) : Option Q :=
    let z_1 := (impl_IsBoard_p F b0)
    let z_2 := (impl_Board_countBefore_p F b0 direction1)
    let z_3 := (impl_Board_linesBefore_p F b0 direction1)
    let z_4 := (Option.getD z_3 default)
    bif (Option.isSome z_1) then
    bif (!(Option.getD z_1 default)) then
    k ()
    else bif (!(impl_isDirection_v direction1)) then
    k ()
    else bif (Option.isSome z_2) then
    bif ((Option.getD z_2 default) == (0 : Int)) then
    k ()
    else bif (Option.isSome z_3) then
    bif (Option.isSome (impl_Board_merged_l5 F direction1 all2 z_4.1 z_4.2.1 z_4.2.2.1 z_4.2.2.2 b0 z_4.1 z_4.2.1 z_4.2.2.1 z_4.2.2.2 (0 : Int) (0 : Int))) then
    bif (Option.isSome (impl_Board_slides_p F b0 [direction1])) then
    none
    else none
    else none
    else none
    else none
    else none
def impl_Board_merged_p (F : Nat) (b0 : List Int) (direction1 : Int) (all2 : Bool) : Option (Unit) := impl_Board_merged_c _ F b0 direction1 all2 some
theorem impl_Board_merged_cp (Q : Type) (F : Nat) (b0 : List Int) (direction1 : Int) (all2 : Bool) (k : (Unit) → Option Q) : impl_Board_merged_c Q F b0 direction1 all2 k = (impl_Board_merged_p F b0 direction1 all2).bind k := by
  simp only [impl_Board_merged_p, impl_Board_merged_c, cond_bindL, none_bindL, some_bindL]

/-- loop.example/g01194/impl.CanMerge -/
def impl_CanMerge_c (Q : Type) (F : Nat) (b0 : List Int) (direction1 : Int) (k : (Unit) → Option Q) : Option Q :=
    bif (Option.isSome (impl_Board_merged_p F b0 direction1 false)) then
    k ()
    else none
def impl_CanMerge_p (F : Nat) (b0 : List Int) (direction1 : Int) : Option (Unit) := impl_CanMerge_c _ F b0 direction1 some
theorem impl_CanMerge_cp (Q : Type) (F : Nat) (b0 : List Int) (direction1 : Int) (k : (Unit) → Option Q) : impl_CanMerge_c Q F b0 direction1 k = (impl_CanMerge_p F b0 direction1).bind k := by
  simp only [impl_CanMerge_p, impl_CanMerge_c, cond_bindL, none_bindL, some_bindL]

/-- loop.example/g01194/laws.eqIntA2S -/
def laws_eqIntA2S_2_c (Q : Type) (b0 : List (List Int)) (k : (Bool) → Option Q) : Option Q :=
    bif (!((0 : Int) == (((List.length b0) : Nat) : Int))) then
    k false
    else k true
def laws_eqIntA2S_2_v (b0 : List (List Int)) : Bool :=
    bif (!((0 : Int) == (((List.length b0) : Nat) : Int))) then
    false
    else true
theorem laws_eqIntA2S_2_cv (Q : Type) (b0 : List (List Int)) (k : (Bool) → Option Q) : laws_eqIntA2S_2_c Q b0 k = k (laws_eqIntA2S_2_v b0) := by
  simp only [laws_eqIntA2S_2_c, laws_eqIntA2S_2_v, app_condL k]

/-- loop.example/g01194/laws.markIntA2S -/
def laws_markIntA2S_2_c (Q : Type) (k0 : Int) (k : (Unit) → Option Q) : Option Q :=
    k ()
def laws_markIntA2S_2_v (k0 : Int) : Unit :=
    ()
theorem laws_markIntA2S_2_cv (Q : Type) (k0 : Int) (k : (Unit) → Option Q) : laws_markIntA2S_2_c Q k0 k = k (laws_markIntA2S_2_v k0) := by
  simp only [laws_markIntA2S_2_c, laws_markIntA2S_2_v, app_condL k]

/-- loop.example/g01194/laws.heldIntA2S -/
def laws_heldIntA2S_2_c (Q : Type) (k0 : Int) (k : (Unit) → Option Q) : Option Q :=
    k ()
def laws_heldIntA2S_2_v (k0 : Int) : Unit :=
    ()
theorem laws_heldIntA2S_2_cv (Q : Type) (k0 : Int) (k : (Unit) → Option Q) : laws_heldIntA2S_2_c Q k0 k = k (laws_heldIntA2S_2_v k0) := by
  simp only [laws_heldIntA2S_2_c, laws_heldIntA2S_2_v, app_condL k]

/-- loop.example/g01194/laws.FnExactCanMerge -/
def laws_FnExactCanMerge_c (Q : Type) (F : Nat) (aB0 : List Int) (aDirection1 : Int) (k : (Bool) → Option Q) : Option Q :=
    let z_1 := (spec_CanMerge_p F (laws_toBoard_v aB0) aDirection1)
    let z_2 : Bool := (Option.isSome (impl_CanMerge_p F (laws_toBoard_v aB0) aDirection1))
    let z_3 := (Option.getD z_1 default)
    let z_4 : Nat := (List.length z_3.2)
    let z_5 : Bool := (!(laws_eqIntA2S_2_v (subn z_4 z_3.2 0 z_4)))
    let z_6 : Bool := (!(false == z_3.1))
    bif (Option.isSome z_1) then
    bif z_2 then
    bif z_5 then
    k false
    else bif z_6 then
    k false
    else bif z_2 then
    bif z_5 then
    k false
    else bif z_6 then
    k false
    else k true
    else none
    else none
    else none
def laws_FnExactCanMerge_p (F : Nat) (aB0 : List Int) (aDirection1 : Int) : Option (Bool) := laws_FnExactCanMerge_c _ F aB0 aDirection1 some
theorem laws_FnExactCanMerge_cp (Q : Type) (F : Nat) (aB0 : List Int) (aDirection1 : Int) (k : (Bool) → Option Q) : laws_FnExactCanMerge_c Q F aB0 aDirection1 k = (laws_FnExactCanMerge_p F aB0 aDirection1).bind k := by
  simp only [laws_FnExactCanMerge_p, laws_FnExactCanMerge_c, cond_bindL, none_bindL, some_bindL]

/-- loop.example/g01194/spec.MustMerge -/
def spec_MustMerge_c (Q : Type) (F : Nat) (b0 : List Int) (direction1 : Int) (k : (Bool × List (List Int)) → Option Q) : Option Q :=
    let z_1 := (spec_l2Board_p F b0)
    let z_2 := (spec_l6Count_p F b0 direction1)
    let z_3 := (spec_l6Mergers_p F b0 direction1 false)
    bif (Option.isSome z_1) then
    bif (!(Option.getD z_1 default)) then
    k (false, ([] : List (List Int)))
    else bif (!(spec_l2Side_v direction1)) then
    k (false, ([] : List (List Int)))
    else bif (Option.isSome z_2) then
    bif ((Option.getD z_2 default) == (0 : Int)) then
    k (false, ([] : List (List Int)))
    else bif (Option.isSome z_3) then
    k (true, (Option.getD z_3 default))
    else none
    else none
    else none
def spec_MustMerge_p (F : Nat) (b0 : List Int) (direction1 : Int) : Option (Bool × List (List Int)) := spec_MustMerge_c _ F b0 direction1 some
theorem spec_MustMerge_cp (Q : Type) (F : Nat) (b0 : List Int) (direction1 : Int) (k : (Bool × List (List Int)) → Option Q) : spec_MustMerge_c Q F b0 direction1 k = (spec_MustMerge_p F b0 direction1).bind k := by
  simp only [spec_MustMerge_p, spec_MustMerge_c, cond_bindL, none_bindL, some_bindL]

/-- loop.example/g01194/impl.MustMerge -/
def impl_MustMerge_c (Q : Type) (F : Nat) (b0 : List Int) (direction1 : Int) (k : (Unit) → Option Q) : Option Q :=
    bif (Option.isSome (impl_Board_merged_p F b0 direction1 true)) then
    k ()
    else none
def impl_MustMerge_p (F : Nat) (b0 : List Int) (direction1 : Int) : Option (Unit) := impl_MustMerge_c _ F b0 direction1 some
theorem impl_MustMerge_cp (Q : Type) (F : Nat) (b0 : List Int) (direction1 : Int) (k : (Unit) → Option Q) : impl_MustMerge_c Q F b0 direction1 k = (impl_MustMerge_p F b0 direction1).bind k := by
  simp only [impl_MustMerge_p, impl_MustMerge_c, cond_bindL, none_bindL, some_bindL]

/-- loop.example/g01194/laws.FnExactMustMerge -/
def laws_FnExactMustMerge_c (Q : Type) (F : Nat) (aB0 : List Int) (aDirection1 : Int) (k : (Bool) → Option Q) : Option Q :=
    let z_1 := (spec_MustMerge_p F (laws_toBoard_v aB0) aDirection1)
    let z_2 : Bool := (Option.isSome (impl_MustMerge_p F (laws_toBoard_v aB0) aDirection1))
    let z_3 := (Option.getD z_1 default)
    let z_4 : Nat := (List.length z_3.2)
    let z_5 : Bool := (!(laws_eqIntA2S_2_v (subn z_4 z_3.2 0 z_4)))
    let z_6 : Bool := (!(false == z_3.1))
    bif (Option.isSome z_1) then
    bif z_2 then
    bif z_5 then
    k false
    else bif z_6 then
    k false
    else bif z_2 then
    bif z_5 then
    k false
    else bif z_6 then
    k false
    else k true
    else none
    else none
    else none
def laws_FnExactMustMerge_p (F : Nat) (aB0 : List Int) (aDirection1 : Int) : Option (Bool) := laws_FnExactMustMerge_c _ F aB0 aDirection1 some
theorem laws_FnExactMustMerge_cp (Q : Type) (F : Nat) (aB0 : List Int) (aDirection1 : Int) (k : (Bool) → Option Q) : laws_FnExactMustMerge_c Q F aB0 aDirection1 k = (laws_FnExactMustMerge_p F aB0 aDirection1).bind k := by
  simp only [laws_FnExactMustMerge_p, laws_FnExactMustMerge_c, cond_bindL, none_bindL, some_bindL]

/-- loop 5 of loop.example/g01194/spec.l2Before -/
def spec_l2Before_s5 (F : Nat) (r6 : Int) (a8 : List Int) (b9 : List Int) (Q : Type) : (Int) → ((Int) → Option Q) → ((Bool × Bool) → Option Q) → Option Q
  | c7, kn, kx =>
    let z_1 : Nat := (((0 : Nat) + ((Int.toNat r6) * (4 : Nat))) + ((Int.toNat c7) * (1 : Nat)))
    let z_2 : Int := (iget a8 z_1)
    let z_3 : Int := (iget b9 z_1)
    bif (decide (c7 < (4 : Int))) then
    bif (inR r6 4) then
    bif (inR c7 4) then
    bif (inR r6 4) then
    bif (inR c7 4) then
    bif (!(z_2 == z_3)) then
    bif (inR r6 4) then
    bif (inR c7 4) then
    bif (inR r6 4) then
    bif (inR c7 4) then
    kx (true, (decide (z_2 < z_3)))
    else none
    else none
    else none
    else none
    else kn (IntKind.wrap .i64 (c7 + (1 : Int)))
    else none
    else none
    else none
    else none
    else kx (false, default)
def spec_l2Before_l5 (F : Nat) (r6 : Int) (a8 : List Int) (b9 : List Int) (c7 : Int) : Option (Bool × Bool) := loopC (spec_l2Before_s5 F r6 a8 b9) F c7 some
theorem spec_l2Before_s5_nat (F : Nat) (r6 : Int) (a8 : List Int) (b9 : List Int) : Natural (spec_l2Before_s5 F r6 a8 b9) := by
  intro Q Q' s kn kx h
  simp only [spec_l2Before_s5, cond_bindL, none_bindL]
/-- loop 2 of loop.example/g01194/spec.l2Before -/
def spec_l2Before_s2 (F : Nat) (a7 : List Int) (b8 : List Int) (Q : Type) : (Int) → ((Int) → Option Q) → ((Bool × Bool) → Option Q) → Option Q
  | r6, kn, kx =>
    let z_1 := (spec_l2Before_l5 F r6 a7 b8 (0 : Int))
    let z_2 := (Option.getD z_1 default)
    bif (decide (r6 < (4 : Int))) then
    bif (Option.isSome z_1) then
    bif z_2.1 then
    kx (true, z_2.2)
    else kn (IntKind.wrap .i64 (r6 + (1 : Int)))
    else none
    else kx (false, default)
def spec_l2Before_l2 (F : Nat) (a7 : List Int) (b8 : List Int) (r6 : Int) : Option (Bool × Bool) := loopC (spec_l2Before_s2 F a7 b8) F r6 some
theorem spec_l2Before_s2_nat (F : Nat) (a7 : List Int) (b8 : List Int) : Natural (spec_l2Before_s2 F a7 b8) := by
  intro Q Q' s kn kx h
  simp only [spec_l2Before_s2, cond_bindL, none_bindL]
/-- loop.example/g01194/spec.l2Before -/
def spec_l2Before_c (Q : Type) (F : Nat) (a0 : List Int) (b1 : List Int) (k : (Bool) → Option Q) : Option Q :=
    let z_1 := (spec_l2Before_l2 F a0 b1 (0 : Int))
    let z_2 := (Option.getD z_1 default)
    bif (Option.isSome z_1) then
    bif z_2.1 then
    k z_2.2
    else k false
    else none
def spec_l2Before_p (F : Nat) (a0 : List Int) (b1 : List Int) : Option (Bool) := spec_l2Before_c _ F a0 b1 some
theorem spec_l2Before_cp (Q : Type) (F : Nat) (a0 : List Int) (b1 : List Int) (k : (Bool) → Option Q) : spec_l2Before_c Q F a0 b1 k = (spec_l2Before_p F a0 b1).bind k := by
  simp only [spec_l2Before_p, spec_l2Before_c, cond_bindL, none_bindL, some_bindL]

/-- loop 2 of loop.example/g01194/spec.l3Add -/
def spec_l3Add_s2 (F : Nat) (all0 : List (List Int)) (b5 : List Int) (Q : Type) : (Int) → ((Int) → Option Q) → ((Int) → Option Q) → Option Q
  | n4, kn, kx =>
    let z_1 := (spec_l2Before_p F (rget all0 (Int.toNat n4)) b5)
    bif (decide (n4 < (((List.length all0) : Nat) : Int))) then
    bif (inR n4 (List.length all0)) then
    bif (Option.isSome z_1) then
    bif (Option.getD z_1 default) then
    kn (IntKind.wrap .i64 (n4 + (1 : Int)))
    else kx n4
    else none
    else none
    else kx n4
def spec_l3Add_l2 (F : Nat) (all0 : List (List Int)) (b5 : List Int) (n4 : Int) : Option (Int) := loopC (spec_l3Add_s2 F all0 b5) F n4 some
theorem spec_l3Add_s2_nat (F : Nat) (all0 : List (List Int)) (b5 : List Int) : Natural (spec_l3Add_s2 F all0 b5) := by
  intro Q Q' s kn kx h
  simp only [spec_l3Add_s2, cond_bindL, none_bindL]
/-- loop.example/g01194/spec.l3Add -/
def spec_l3Add_c (Q : Type) (F : Nat) (all0 : List (List Int)) (b1 : List Int) (k : (List (List Int)) → Option Q) : Option Q :=
    let z_1 := (spec_l3Add_l2 F all0 b1 (0 : Int))
    let z_2 : Nat := (Int.toNat (Option.getD z_1 default))
    let z_3 : Bool := (inLe (Option.getD z_1 default) (List.length all0))
    let z_4 : List (List Int) := (subn (List.length all0) all0 0 (z_2 - (0 : Nat)))
    let z_5 : Nat := (List.length z_4)
    let z_6 : Bool := (fits z_5 128)
    let z_7 : List (List Int) := ((subn z_5 z_4 0 z_5) ++ [b1])
    let z_8 : Nat := (List.length z_7)
    let z_9 : Bool := (fits z_8 128)
    let z_10 : List (List Int) := ((subn z_8 z_7 0 z_8) ++ (subn (List.length all0) all0 z_2 ((List.length all0) - z_2)))
    let z_11 : Nat := (List.length z_10)
    let z_12 : Bool := (fits z_11 128)
    let z_13 : List (List Int) := (subn z_11 z_10 0 z_11)
    bif (Option.isSome z_1) then
    bif (decide ((Option.getD z_1 default) < (((List.length all0) : Nat) : Int))) then
    bif (inR (Option.getD z_1 default) (List.length all0)) then
    bif ((rget all0 z_2) == b1) then
    k all0
    else bif z_3 then
    bif z_6 then
    bif z_9 then
    bif z_3 then
    bif z_12 then
    k z_13
    else none
    else none
    else none
    else none
    else none
    else none
    else bif z_3 then
    bif z_6 then
    bif z_9 then
    bif z_3 then
    bif z_12 then
    k z_13
    else none
    else none
    else none
    else none
    else none
    else none
def spec_l3Add_p (F : Nat) (all0 : List (List Int)) (b1 : List Int) : Option (List (List Int)) := spec_l3Add_c _ F all0 b1 some
theorem spec_l3Add_cp (Q : Type) (F : Nat) (all0 : List (List Int)) (b1 : List Int) (k : (List (List Int)) → Option Q) : spec_l3Add_c Q F all0 b1 k = (spec_l3Add_p F all0 b1).bind k := by
  simp only [spec_l3Add_p, spec_l3Add_c, cond_bindL, none_bindL, some_bindL]

/-- loop 6 of loop.example/g01194/spec.l5Next -/
def spec_l5Next_s6 (F : Nat) (all0 : List (List Int)) (i2 : Int) (Q : Type) : (List (List Int) × Int) → ((List (List Int) × Int) → Option Q) → ((List (List Int)) → Option Q) → Option Q
  | (out1, d3), kn, kx =>
    let z_1 := (spec_l2Slide_p F (rget all0 (Int.toNat i2)) d3)
    let z_2 := (spec_l3Add_p F out1 (Option.getD z_1 default).1)
    bif (decide (d3 < (4 : Int))) then
    bif (inR i2 (List.length all0)) then
    bif (Option.isSome z_1) then
    bif (Option.isSome z_2) then
    kn ((Option.getD z_2 default), (IntKind.wrap .i64 (d3 + (1 : Int))))
    else none
    else none
    else none
    else kx out1
def spec_l5Next_l6 (F : Nat) (all0 : List (List Int)) (i2 : Int) (out1 : List (List Int)) (d3 : Int) : Option (List (List Int)) := loopC (spec_l5Next_s6 F all0 i2) F (out1, d3) some
theorem spec_l5Next_s6_nat (F : Nat) (all0 : List (List Int)) (i2 : Int) : Natural (spec_l5Next_s6 F all0 i2) := by
  intro Q Q' s kn kx h
  obtain ⟨out1, d3⟩ := s
  simp only [spec_l5Next_s6, cond_bindL, none_bindL]
/-- loop 3 of loop.example/g01194/spec.l5Next -/
def spec_l5Next_s3 (F : Nat) (all0 : List (List Int)) (Q : Type) : (List (List Int) × Int) → ((List (List Int) × Int) → Option Q) → ((List (List Int)) → Option Q) → Option Q
  | (out1, i2), kn, kx =>
    let z_1 := (spec_l5Next_l6 F all0 i2 out1 (0 : Int))
    bif (decide (i2 < (((List.length all0) : Nat) : Int))) then
    bif (Option.isSome z_1) then
    kn ((Option.getD z_1 default), (IntKind.wrap .i64 (i2 + (1 : Int))))
    else none
    else kx out1
def spec_l5Next_l3 (F : Nat) (all0 : List (List Int)) (out1 : List (List Int)) (i2 : Int) : Option (List (List Int)) := loopC (spec_l5Next_s3 F all0) F (out1, i2) some
theorem spec_l5Next_s3_nat (F : Nat) (all0 : List (List Int)) : Natural (spec_l5Next_s3 F all0) := by
  intro Q Q' s kn kx h
  obtain ⟨out1, i2⟩ := s
  simp only [spec_l5Next_s3, cond_bindL, none_bindL]
/-- loop.example/g01194/spec.l5Next -/
def spec_l5Next_c (Q : Type) (F : Nat) (all0 : List (List Int)) (k : (List (List Int)) → Option Q) : Option Q :=
    let z_1 := (spec_l5Next_l3 F all0 all0 (0 : Int))
    bif (Option.isSome z_1) then
    k (Option.getD z_1 default)
    else none
def spec_l5Next_p (F : Nat) (all0 : List (List Int)) : Option (List (List Int)) := spec_l5Next_c _ F all0 some
theorem spec_l5Next_cp (Q : Type) (F : Nat) (all0 : List (List Int)) (k : (List (List Int)) → Option Q) : spec_l5Next_c Q F all0 k = (spec_l5Next_p F all0).bind k := by
  simp only [spec_l5Next_p, spec_l5Next_c, cond_bindL, none_bindL, some_bindL]

/-- loop 3 of loop.example/g01194/spec.l5Reach -/
def spec_l5Reach_s3 (F : Nat) (n0 : Int) (Q : Type) : (List (List Int) × Int) → ((List (List Int) × Int) → Option Q) → ((List (List Int)) → Option Q) → Option Q
  | (all1, i2), kn, kx =>
    let z_1 := (spec_l5Next_p F all1)
    bif (decide (i2 < n0)) then
    bif (Option.isSome z_1) then
    kn ((Option.getD z_1 default), (IntKind.wrap .i64 (i2 + (1 : Int))))
    else none
    else kx all1
def spec_l5Reach_l3 (F : Nat) (n0 : Int) (all1 : List (List Int)) (i2 : Int) : Option (List (List Int)) := loopC (spec_l5Reach_s3 F n0) F (all1, i2) some
theorem spec_l5Reach_s3_nat (F : Nat) (n0 : Int) : Natural (spec_l5Reach_s3 F n0) := by
  intro Q Q' s kn kx h
  obtain ⟨all1, i2⟩ := s
  simp only [spec_l5Reach_s3, cond_bindL, none_bindL]
/-- loop.example/g01194/spec.l5Reach -/
def spec_l5Reach_c (Q : Type) (F : Nat) (b0 : List Int) (n1 : Int) (k : (List (List Int)) → Option Q) : Option Q :=
    let z_1 := (spec_l5Reach_l3 F n1 [b0] (0 : Int))
    bif (Option.isSome z_1) then
    k (Option.getD z_1 default)
    else none
def spec_l5Reach_p (F : Nat) (b0 : List Int) (n1 : Int) : Option (List (List Int)) := spec_l5Reach_c _ F b0 n1 some
theorem spec_l5Reach_cp (Q : Type) (F : Nat) (b0 : List Int) (n1 : Int) (k : (List (List Int)) → Option Q) : spec_l5Reach_c Q F b0 n1 k = (spec_l5Reach_p F b0 n1).bind k := by
  simp only [spec_l5Reach_p, spec_l5Reach_c, cond_bindL, none_bindL, some_bindL]

/-- loop.example/g01194/spec.ReachBySlides -/
def spec_ReachBySlides_c (Q : Type) (F : Nat) (b0 : List Int) (n1 : Int) (k : (List (List Int) × Bool) → Option Q) : Option Q :=
    let z_1 := (spec_l2Board_p F b0)
    let z_2 := (spec_l5Reach_p F b0 n1)
    bif (Option.isSome z_1) then
    bif (!(Option.getD z_1 default)) then
    k (([] : List (List Int)), false)
    else bif (!(spec_l1In_v n1 (0 : Int) (6 : Int))) then
    k (([] : List (List Int)), false)
    else bif (Option.isSome z_2) then
    k ((Option.getD z_2 default), true)
    else none
    else none
def spec_ReachBySlides_p (F : Nat) (b0 : List Int) (n1 : Int) : Option (List (List Int) × Bool) := spec_ReachBySlides_c _ F b0 n1 some
theorem spec_ReachBySlides_cp (Q : Type) (F : Nat) (b0 : List Int) (n1 : Int) (k : (List (List Int) × Bool) → Option Q) : spec_ReachBySlides_c Q F b0 n1 k = (spec_ReachBySlides_p F b0 n1).bind k := by
  simp only [spec_ReachBySlides_p, spec_ReachBySlides_c, cond_bindL, none_bindL, some_bindL]

/-- loop 8 of (loop.example/g01194/impl.Board).reach -/
def impl_Board_reach_s8 (F : Nat) (n0 : Int) (from3 : Int) (own10 : List Int) (Q : Type) : (Int × List (List Int × List Int) × List (List Int)) → ((Int × List (List Int × List Int) × List (List Int)) → Option Q) → ((List (List Int × List Int) × List (List Int)) → Option Q) → Option Q
  | (t367, lists8, order9), kn, kx =>
    let z_1 := (impl_Board_slides_p F own10 [t367])
    let z_2 : List Int := (Option.getD (mlook own10 lists8) [])
    let z_3 : Nat := (List.length z_2)
    let z_4 : List Int := ((subn z_3 z_2 0 z_3) ++ [t367])
    let z_5 : Nat := (List.length z_4)
    let z_6 : List (List Int) := ((subn (List.length order9) order9 0 (List.length order9)) ++ [(Option.getD z_1 default)])
    let z_7 : Int := (IntKind.wrap .i64 (t367 + (1 : Int)))
    bif (decide (t367 < (4 : Int))) then
    bif (Option.isSome z_1) then
    bif (!(Option.isSome (mlook (Option.getD z_1 default) lists8))) then
    bif (fits z_3 8) then
    bif (fits z_5 8) then
    bif (fits (List.length z_6) 128) then
    kn (z_7, (mput (Option.getD z_1 default) (subn z_5 z_4 0 z_5) lists8), z_6)
    else none
    else none
    else none
    else kn (z_7, lists8, order9)
    else none
    else kx (lists8, order9)
def impl_Board_reach_l8 (F : Nat) (n0 : Int) (from3 : Int) (own10 : List Int) (t367 : Int) (lists8 : List (List Int × List Int)) (order9 : List (List Int)) : Option (List (List Int × List Int) × List (List Int)) := loopC (impl_Board_reach_s8 F n0 from3 own10) F (t367, lists8, order9) some
theorem impl_Board_reach_s8_nat (F : Nat) (n0 : Int) (from3 : Int) (own10 : List Int) : Natural (impl_Board_reach_s8 F n0 from3 own10) := by
  intro Q Q' s kn kx h
  obtain ⟨t367, lists8, order9⟩ := s
  simp only [impl_Board_reach_s8, cond_bindL, none_bindL]
/-- loop 3 of (loop.example/g01194/impl.Board).reach -/
def impl_Board_reach_s3 (F : Nat) (n0 : Int) (Q : Type) : (Int × List (List Int × List Int) × List (List Int)) → ((Int × List (List Int × List Int) × List (List Int)) → Option Q) → ((List (List Int × List Int) × List (List Int)) → Option Q) → Option Q
  | (from3, lists4, order5), kn, kx =>
    let z_1 : List Int := (rget order5 ((0 : Nat) + (Int.toNat from3)))
    let z_2 := (impl_Board_reach_l8 F n0 from3 z_1 (0 : Int) lists4 order5)
    let z_3 := (Option.getD z_2 default)
    bif (decide (from3 < (((List.length order5) : Nat) : Int))) then
    bif (inR from3 (List.length order5)) then
    bif ((((List.length (Option.getD (mlook z_1 lists4) [])) : Nat) : Int) == n0) then
    kx (lists4, order5)
    else bif ((Nat.beq (List.length order5) (List.length order5)) && (Option.isSome z_2)) then
    kn ((IntKind.wrap .i64 (from3 + (1 : Int))), z_3.1, z_3.2)
    else none
    else none
    else kx (lists4, order5)
def impl_Board_reach_l3 (F : Nat) (n0 : Int) (from3 : Int) (lists4 : List (List Int × List Int)) (order5 : List (List Int)) : Option (List (List Int × List Int) × List (List Int)) := loopC (impl_Board_reach_s3 F n0) F (from3, lists4, order5) some
theorem impl_Board_reach_s3_nat (F : Nat) (n0 : Int) : Natural (impl_Board_reach_s3 F n0) := by
  intro Q Q' s kn kx h
  obtain ⟨from3, lists4, order5⟩ := s
  simp only [impl_Board_reach_s3, cond_bindL, none_bindL]
/-- (loop.example/g01194/impl.Board).reach -/
def impl_Board_reach_c (Q : Type) (F : Nat) (b0 : List Int) (n1 : Int) (k : (List (List Int × List Int) × List (List Int)) → Option Q) : Option Q :=
    let z_1 := (impl_Board_reach_l3 F n1 (0 : Int) (mput b0 ([] : List Int) ([] : List (List Int × List Int))) [b0])
    let z_2 := (Option.getD z_1 default)
    bif (Option.isSome z_1) then
    k (z_2.1, z_2.2)
    else none
def impl_Board_reach_p (F : Nat) (b0 : List Int) (n1 : Int) : Option (List (List Int × List Int) × List (List Int)) := impl_Board_reach_c _ F b0 n1 some
theorem impl_Board_reach_cp (Q : Type) (F : Nat) (b0 : List Int) (n1 : Int) (k : (List (List Int × List Int) × List (List Int)) → Option Q) : impl_Board_reach_c Q F b0 n1 k = (impl_Board_reach_p F b0 n1).bind k := by
  simp only [impl_Board_reach_p, impl_Board_reach_c, cond_bindL, none_bindL, some_bindL]

/-- slices.Grow[[]int,int] -/
def slices_Grow_intint_c (Q : Type) (n0 : Int) (k : (List Int) → Option Q) : Option Q :=
    let z_1 : Int := (IntKind.wrap .i64 (n0 - (0 : Int)))
    let z_2 : Nat := (Int.toNat z_1)
    bif (decide (n0 < (0 : Int))) then
    none
    else bif (decide ((0 : Int) < z_1)) then
    bif ((decide ((1 : Int) ≤ z_1)) && (fits z_2 8)) then
    bif (inLe (0 : Int) z_2) then
    k (List.replicate z_2 (0 : Int))
    else none
    else none
    else k ([] : List Int)
def slices_Grow_intint_p (n0 : Int) : Option (List Int) := slices_Grow_intint_c _ n0 some
theorem slices_Grow_intint_cp (Q : Type) (n0 : Int) (k : (List Int) → Option Q) : slices_Grow_intint_c Q n0 k = (slices_Grow_intint_p n0).bind k := by
  simp only [slices_Grow_intint_p, slices_Grow_intint_c, cond_bindL, none_bindL, some_bindL]
end Go.Lv.P
