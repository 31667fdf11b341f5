/-
Pure functions and what the code of them does, by program; without conditions.
-/
import Derived.Test.YtidmlibanopfhaaTGP5
namespace Go.Lv.P
open Go Go.Lv
set_option linter.unusedVariables false
set_option linter.unusedSimpArgs false
set_option maxRecDepth 100000
/-- loop 4 of loop.example/g01194/spec.LastsHow -/
def spec_LastsHow_s4 (F : Nat) (b4 : List Int) (Q : Type) : (Int) → ((Int) → Option Q) → ((Int) → Option Q) → Option Q
  | n3, kn, kx =>
    let z_1 : Int := (IntKind.wrap .i64 (n3 + (1 : Int)))
    let z_2 := (spec_l8Lasts_p F b4 z_1)
    bif (decide (n3 < (3 : Int))) then
    bif (Option.isSome z_2) then
    bif (Option.getD z_2 default) then
    kn z_1
    else kx n3
    else none
    else kx n3
def spec_LastsHow_l4 (F : Nat) (b4 : List Int) (n3 : Int) : Option (Int) := loopC (spec_LastsHow_s4 F b4) F n3 some
theorem spec_LastsHow_s4_nat (F : Nat) (b4 : List Int) : Natural (spec_LastsHow_s4 F b4) := by
  intro Q Q' s kn kx h
  simp only [spec_LastsHow_s4, cond_bindL, none_bindL]
/-- loop.example/g01194/spec.LastsHow -/
def spec_LastsHow_c (Q : Type) (F : Nat) (b0 : List Int) (k : (Int × Bool) → Option Q) : Option Q :=
    let z_1 := (spec_l2Board_p F b0)
    let z_2 := (spec_LastsHow_l4 F b0 (0 : Int))
    bif (Option.isSome z_1) then
    bif (!(Option.getD z_1 default)) then
    k ((0 : Int), false)
    else bif (Option.isSome z_2) then
    k ((Option.getD z_2 default), true)
    else none
    else none
def spec_LastsHow_p (F : Nat) (b0 : List Int) : Option (Int × Bool) := spec_LastsHow_c _ F b0 some
theorem spec_LastsHow_cp (Q : Type) (F : Nat) (b0 : List Int) (k : (Int × Bool) → Option Q) : spec_LastsHow_c Q F b0 k = (spec_LastsHow_p F b0).bind k := by
  simp only [spec_LastsHow_p, spec_LastsHow_c, cond_bindL, none_bindL, some_bindL]

/-- loop 4 of loop.example/g01194/impl.LastsHow -/
def impl_LastsHow_s4 (F : Nat) (b4 : List Int) (Q : Type) : (Int) → ((Int) → Option Q) → ((Int) → Option Q) → Option Q
  | n3, kn, kx =>
    let z_1 : Int := (IntKind.wrap .i64 (n3 + (1 : Int)))
    let z_2 := (impl_Board_lasts_p F b4 z_1)
    bif (decide (n3 < (3 : Int))) then
    bif (Option.isSome z_2) then
    bif (Option.getD z_2 default) then
    kn z_1
    else kx n3
    else none
    else kx n3
def impl_LastsHow_l4 (F : Nat) (b4 : List Int) (n3 : Int) : Option (Int) := loopC (impl_LastsHow_s4 F b4) F n3 some
theorem impl_LastsHow_s4_nat (F : Nat) (b4 : List Int) : Natural (impl_LastsHow_s4 F b4) := by
  intro Q Q' s kn kx h
  simp only [impl_LastsHow_s4, cond_bindL, none_bindL]
/-- loop.example/g01194/impl.LastsHow -/
def impl_LastsHow_c (Q : Type) (F : Nat) (b0 : List Int) (k : (Int × Bool) → Option Q) : Option Q :=
    let z_1 := (impl_IsBoard_p F b0)
    let z_2 := (impl_LastsHow_l4 F b0 (0 : Int))
    bif (Option.isSome z_1) then
    bif (!(Option.getD z_1 default)) then
    k ((0 : Int), false)
    else bif (Option.isSome z_2) then
    k ((Option.getD z_2 default), true)
    else none
    else none
def impl_LastsHow_p (F : Nat) (b0 : List Int) : Option (Int × Bool) := impl_LastsHow_c _ F b0 some
theorem impl_LastsHow_cp (Q : Type) (F : Nat) (b0 : List Int) (k : (Int × Bool) → Option Q) : impl_LastsHow_c Q F b0 k = (impl_LastsHow_p F b0).bind k := by
  simp only [impl_LastsHow_p, impl_LastsHow_c, cond_bindL, none_bindL, some_bindL]

/-- loop.example/g01194/laws.FnExactLastsHow -/
def laws_FnExactLastsHow_c (Q : Type) (F : Nat) (aB0 : List Int) (k : (Bool) → Option Q) : Option Q :=
    let z_1 := (spec_LastsHow_p F (laws_toBoard_v aB0))
    let z_2 := (impl_LastsHow_p F (laws_toBoard_v aB0))
    let z_3 := (Option.getD z_2 default)
    let z_4 := (Option.getD z_1 default)
    bif (Option.isSome z_1) then
    bif (Option.isSome z_2) then
    bif (!(z_3.1 == z_4.1)) then
    k false
    else bif (!(z_3.2 == z_4.2)) then
    k false
    else k true
    else none
    else none
def laws_FnExactLastsHow_p (F : Nat) (aB0 : List Int) : Option (Bool) := laws_FnExactLastsHow_c _ F aB0 some
theorem laws_FnExactLastsHow_cp (Q : Type) (F : Nat) (aB0 : List Int) (k : (Bool) → Option Q) : laws_FnExactLastsHow_c Q F aB0 k = (laws_FnExactLastsHow_p F aB0).bind k := by
  simp only [laws_FnExactLastsHow_p, laws_FnExactLastsHow_c, cond_bindL, none_bindL, some_bindL]

/-- loop.example/g01194/spec.l2Side -/
def spec_l2Side_c (Q : Type) (d0 : Int) (k : (Bool) → Option Q) : Option Q :=
    k (spec_l1In_v d0 (0 : Int) (3 : Int))
def spec_l2Side_v (d0 : Int) : Bool :=
    (spec_l1In_v d0 (0 : Int) (3 : Int))
theorem spec_l2Side_cv (Q : Type) (d0 : Int) (k : (Bool) → Option Q) : spec_l2Side_c Q d0 k = k (spec_l2Side_v d0) := by
  simp only [spec_l2Side_c, spec_l2Side_v, app_condL k]

/-- loop.example/g01194/spec.l8Refuted -/
def spec_l8Refuted_c (Q : Type) (F : Nat) (next0 : List Int) (n1 : Int) (k : (List Int × Bool) → Option Q) : Option Q :=
    let z_1 := (spec_l8Refuted_n2_p F next0)
    let z_2 := (Option.getD z_1 default)
    let z_3 := (spec_l8Refuted_n3_p F next0)
    let z_4 := (Option.getD z_3 default)
    bif (n1 == (1 : Int)) then
    k ([(0 : Int), (0 : Int), (0 : Int)], false)
    else bif (n1 == (2 : Int)) then
    bif (Option.isSome z_1) then
    k (z_2.1, z_2.2)
    else none
    else bif (n1 == (3 : Int)) then
    bif (Option.isSome z_3) then
    k (z_4.1, z_4.2)
    else none
    else none
def spec_l8Refuted_p (F : Nat) (next0 : List Int) (n1 : Int) : Option (List Int × Bool) := spec_l8Refuted_c _ F next0 n1 some
theorem spec_l8Refuted_cp (Q : Type) (F : Nat) (next0 : List Int) (n1 : Int) (k : (List Int × Bool) → Option Q) : spec_l8Refuted_c Q F next0 n1 k = (spec_l8Refuted_p F next0 n1).bind k := by
  simp only [spec_l8Refuted_p, spec_l8Refuted_c, cond_bindL, none_bindL, some_bindL]

/-- loop.example/g01194/spec.RefuteMove -/
def spec_RefuteMove_c (Q : Type) (F : Nat) (b0 : List Int) (direction1 : Int) (n2 : Int) (k : (List Int × Bool) → Option Q) : Option Q :=
    let z_1 := (spec_l2Board_p F b0)
    let z_2 := (spec_l2Slide_p F b0 direction1)
    let z_3 := (spec_l8Refuted_p F (Option.getD z_2 default).1 n2)
    let z_4 := (Option.getD z_3 default)
    bif (Option.isSome z_1) then
    bif (!(Option.getD z_1 default)) then
    k ([(0 : Int), (0 : Int), (0 : Int)], false)
    else bif (!(spec_l2Side_v direction1)) then
    k ([(0 : Int), (0 : Int), (0 : Int)], false)
    else bif (!(spec_l1In_v n2 (1 : Int) (3 : Int))) then
    k ([(0 : Int), (0 : Int), (0 : Int)], false)
    else bif (Option.isSome z_2) then
    bif ((Option.getD z_2 default).1 == b0) then
    k ([(0 : Int), (0 : Int), (0 : Int)], false)
    else bif (Option.isSome z_3) then
    k (z_4.1, z_4.2)
    else none
    else none
    else none
def spec_RefuteMove_p (F : Nat) (b0 : List Int) (direction1 : Int) (n2 : Int) : Option (List Int × Bool) := spec_RefuteMove_c _ F b0 direction1 n2 some
theorem spec_RefuteMove_cp (Q : Type) (F : Nat) (b0 : List Int) (direction1 : Int) (n2 : Int) (k : (List Int × Bool) → Option Q) : spec_RefuteMove_c Q F b0 direction1 n2 k = (spec_RefuteMove_p F b0 direction1 n2).bind k := by
  simp only [spec_RefuteMove_p, spec_RefuteMove_c, cond_bindL, none_bindL, some_bindL]

/-- loop.example/g01194/impl.isDirection -/
def impl_isDirection_c (Q : Type) (d0 : Int) (k : (Bool) → Option Q) : Option Q :=
    k (impl_in_v d0 (0 : Int) (3 : Int))
def impl_isDirection_v (d0 : Int) : Bool :=
    (impl_in_v d0 (0 : Int) (3 : Int))
theorem impl_isDirection_cv (Q : Type) (d0 : Int) (k : (Bool) → Option Q) : impl_isDirection_c Q d0 k = k (impl_isDirection_v d0) := by
  simp only [impl_isDirection_c, impl_isDirection_v, app_condL k]

/-- (loop.example/g01194/impl.Board).isMove -/
def impl_Board_isMove_c (Q : Type) (F : Nat) (b0 : List Int) (direction1 : Int) (k : (Bool) → Option Q) : Option Q :=
    let z_1 := (impl_IsBoard_p F b0)
    let z_2 := (impl_Board_slides_p F b0 [direction1])
    bif (Option.isSome z_1) then
    bif (Option.getD z_1 default) then
    bif (impl_isDirection_v direction1) then
    bif (Option.isSome z_2) then
    k (!((Option.getD z_2 default) == b0))
    else none
    else k false
    else k false
    else none
def impl_Board_isMove_p (F : Nat) (b0 : List Int) (direction1 : Int) : Option (Bool) := impl_Board_isMove_c _ F b0 direction1 some
theorem impl_Board_isMove_cp (Q : Type) (F : Nat) (b0 : List Int) (direction1 : Int) (k : (Bool) → Option Q) : impl_Board_isMove_c Q F b0 direction1 k = (impl_Board_isMove_p F b0 direction1).bind k := by
  simp only [impl_Board_isMove_p, impl_Board_isMove_c, cond_bindL, none_bindL, some_bindL]

/-- loop 2 of (loop.example/g01194/impl.Board).refuted -/
def impl_Board_refuted_n0_s2 (F : Nat) (t109 : Int) (b11 : List Int) (t913 : List (List Int)) (Q : Type) : (Int) → ((Int) → Option Q) → ((Unit) → Option Q) → Option Q
  | t1110, kn, kx =>
    bif (decide (t1110 < t109)) then
    bif (inR t1110 (List.length t913)) then
    bif (Option.isSome (impl_Board_placed_p b11 (rget t913 ((0 : Nat) + (Int.toNat t1110))))) then
    kn (IntKind.wrap .i64 (t1110 + (1 : Int)))
    else none
    else none
    else kx ()
def impl_Board_refuted_n0_l2 (F : Nat) (t109 : Int) (b11 : List Int) (t913 : List (List Int)) (t1110 : Int) : Option (Unit) := loopC (impl_Board_refuted_n0_s2 F t109 b11 t913) F t1110 some
theorem impl_Board_refuted_n0_s2_nat (F : Nat) (t109 : Int) (b11 : List Int) (t913 : List (List Int)) : Natural (impl_Board_refuted_n0_s2 F t109 b11 t913) := by
  intro Q Q' s kn kx h
  simp only [impl_Board_refuted_n0_s2, cond_bindL, none_bindL]
/-- (loop.example/g01194/impl.Board).refuted -/
def impl_Board_refuted_n0_c (Q : Type) (F : Nat) (b0 : List Int) (k : (Unit) → Option Q) : Option Q :=
    let z_1 := (impl_Board_placements_p F b0)
    let z_2 : Nat := (List.length (Option.getD z_1 default))
    bif (Option.isSome z_1) then
    bif ((Nat.beq z_2 z_2) && (Option.isSome (impl_Board_refuted_n0_l2 F ((z_2 : Nat) : Int) b0 (Option.getD z_1 default) (0 : Int)))) then
    k ()
    else none
    else none
def impl_Board_refuted_n0_p (F : Nat) (b0 : List Int) : Option (Unit) := impl_Board_refuted_n0_c _ F b0 some
theorem impl_Board_refuted_n0_cp (Q : Type) (F : Nat) (b0 : List Int) (k : (Unit) → Option Q) : impl_Board_refuted_n0_c Q F b0 k = (impl_Board_refuted_n0_p F b0).bind k := by
  simp only [impl_Board_refuted_n0_p, impl_Board_refuted_n0_c, cond_bindL, none_bindL, some_bindL]

/-- (loop.example/g01194/impl.Board).refuted -/
def impl_Board_refuted_c (Q : Type) (F : Nat) (b0 : List Int) (n1 : Int) (k : (List Int × Bool) → Option Q) : Option Q :=
    let z_1 := (impl_Board_refuted_n1_p F b0)
    let z_2 := (Option.getD z_1 default)
    let z_3 := (impl_Board_refuted_n2_p F b0)
    let z_4 := (Option.getD z_3 default)
    bif (n1 == (0 : Int)) then
    bif (Option.isSome (impl_Board_refuted_n0_p F b0)) then
    k ([(0 : Int), (0 : Int), (0 : Int)], false)
    else none
    else bif (n1 == (1 : Int)) then
    bif (Option.isSome z_1) then
    k (z_2.1, z_2.2)
    else none
    else bif (n1 == (2 : Int)) then
    bif (Option.isSome z_3) then
    k (z_4.1, z_4.2)
    else none
    else none
def impl_Board_refuted_p (F : Nat) (b0 : List Int) (n1 : Int) : Option (List Int × Bool) := impl_Board_refuted_c _ F b0 n1 some
theorem impl_Board_refuted_cp (Q : Type) (F : Nat) (b0 : List Int) (n1 : Int) (k : (List Int × Bool) → Option Q) : impl_Board_refuted_c Q F b0 n1 k = (impl_Board_refuted_p F b0 n1).bind k := by
  simp only [impl_Board_refuted_p, impl_Board_refuted_c, cond_bindL, none_bindL, some_bindL]

/-- loop.example/g01194/impl.RefuteMove -/
def impl_RefuteMove_c (Q : Type) (F : Nat) (b0 : List Int) (direction1 : Int) (n2 : Int) (k : (List Int × Bool) → Option Q) : Option Q :=
    let z_1 := (impl_Board_isMove_p F b0 direction1)
    let z_2 := (impl_Board_slides_p F b0 [direction1])
    let z_3 := (impl_Board_refuted_p F (Option.getD z_2 default) (IntKind.wrap .i64 (n2 - (1 : Int))))
    let z_4 := (Option.getD z_3 default)
    bif (Option.isSome z_1) then
    bif (!(Option.getD z_1 default)) then
    k ([(0 : Int), (0 : Int), (0 : Int)], false)
    else bif (!(impl_in_v n2 (1 : Int) (3 : Int))) then
    k ([(0 : Int), (0 : Int), (0 : Int)], false)
    else bif (Option.isSome z_2) then
    bif (Option.isSome z_3) then
    k (z_4.1, z_4.2)
    else none
    else none
    else none
def impl_RefuteMove_p (F : Nat) (b0 : List Int) (direction1 : Int) (n2 : Int) : Option (List Int × Bool) := impl_RefuteMove_c _ F b0 direction1 n2 some
theorem impl_RefuteMove_cp (Q : Type) (F : Nat) (b0 : List Int) (direction1 : Int) (n2 : Int) (k : (List Int × Bool) → Option Q) : impl_RefuteMove_c Q F b0 direction1 n2 k = (impl_RefuteMove_p F b0 direction1 n2).bind k := by
  simp only [impl_RefuteMove_p, impl_RefuteMove_c, cond_bindL, none_bindL, some_bindL]

/-- loop 2 of loop.example/g01194/laws.eqIntA3 -/
def laws_eqIntA3_s2 (F : Nat) (a7 : List Int) (b8 : List Int) (Q : Type) : (Int) → ((Int) → Option Q) → ((Bool) → Option Q) → Option Q
  | i6, kn, kx =>
    let z_1 : Nat := ((0 : Nat) + ((Int.toNat i6) * (1 : Nat)))
    bif (decide (i6 < (3 : Int))) then
    bif (inR i6 3) then
    bif (inR i6 3) then
    bif (!((iget a7 z_1) == (iget b8 z_1))) then
    kx true
    else kn (IntKind.wrap .i64 (i6 + (1 : Int)))
    else none
    else none
    else kx false
def laws_eqIntA3_l2 (F : Nat) (a7 : List Int) (b8 : List Int) (i6 : Int) : Option (Bool) := loopC (laws_eqIntA3_s2 F a7 b8) F i6 some
theorem laws_eqIntA3_s2_nat (F : Nat) (a7 : List Int) (b8 : List Int) : Natural (laws_eqIntA3_s2 F a7 b8) := by
  intro Q Q' s kn kx h
  simp only [laws_eqIntA3_s2, cond_bindL, none_bindL]
/-- loop.example/g01194/laws.eqIntA3 -/
def laws_eqIntA3_c (Q : Type) (F : Nat) (a0 : List Int) (b1 : List Int) (k : (Bool) → Option Q) : Option Q :=
    let z_1 := (laws_eqIntA3_l2 F a0 b1 (0 : Int))
    bif (Option.isSome z_1) then
    bif (Option.getD z_1 default) then
    k false
    else k true
    else none
def laws_eqIntA3_p (F : Nat) (a0 : List Int) (b1 : List Int) : Option (Bool) := laws_eqIntA3_c _ F a0 b1 some
theorem laws_eqIntA3_cp (Q : Type) (F : Nat) (a0 : List Int) (b1 : List Int) (k : (Bool) → Option Q) : laws_eqIntA3_c Q F a0 b1 k = (laws_eqIntA3_p F a0 b1).bind k := by
  simp only [laws_eqIntA3_p, laws_eqIntA3_c, cond_bindL, none_bindL, some_bindL]

/-- loop.example/g01194/laws.FnExactRefuteMove -/
def laws_FnExactRefuteMove_c (Q : Type) (F : Nat) (aB0 : List Int) (aDirection1 : Int) (aN2 : Int) (k : (Bool) → Option Q) : Option Q :=
    let z_1 := (spec_RefuteMove_p F (laws_toBoard_v aB0) aDirection1 aN2)
    let z_2 := (impl_RefuteMove_p F (laws_toBoard_v aB0) aDirection1 aN2)
    let z_3 := (Option.getD z_2 default)
    let z_4 := (Option.getD z_1 default)
    let z_5 := (laws_eqIntA3_p F z_3.1 z_4.1)
    bif (Option.isSome z_1) then
    bif (Option.isSome z_2) then
    bif (Option.isSome z_5) then
    bif (!(Option.getD z_5 default)) then
    k false
    else bif (!(z_3.2 == z_4.2)) then
    k false
    else k true
    else none
    else none
    else none
def laws_FnExactRefuteMove_p (F : Nat) (aB0 : List Int) (aDirection1 : Int) (aN2 : Int) : Option (Bool) := laws_FnExactRefuteMove_c _ F aB0 aDirection1 aN2 some
theorem laws_FnExactRefuteMove_cp (Q : Type) (F : Nat) (aB0 : List Int) (aDirection1 : Int) (aN2 : Int) (k : (Bool) → Option Q) : laws_FnExactRefuteMove_c Q F aB0 aDirection1 aN2 k = (laws_FnExactRefuteMove_p F aB0 aDirection1 aN2).bind k := by
  simp only [laws_FnExactRefuteMove_p, laws_FnExactRefuteMove_c, cond_bindL, none_bindL, some_bindL]

/-- loop.example/g01194/spec.l8Least -/
def spec_l8Least_c (Q : Type) (F : Nat) (next0 : List Int) (n1 : Int) (k : (List Int × Int) → Option Q) : Option Q :=
    let z_1 := (spec_l8Least_n0_p F next0)
    let z_2 := (spec_l8Least_n1_p F next0)
    let z_3 := (Option.getD z_2 default)
    bif (n1 == (0 : Int)) then
    bif (Option.isSome z_1) then
    k ((Option.getD z_1 default), (0 : Int))
    else none
    else bif (n1 == (1 : Int)) then
    bif (Option.isSome z_2) then
    k (z_3.1, z_3.2)
    else none
    else none
def spec_l8Least_p (F : Nat) (next0 : List Int) (n1 : Int) : Option (List Int × Int) := spec_l8Least_c _ F next0 n1 some
theorem spec_l8Least_cp (Q : Type) (F : Nat) (next0 : List Int) (n1 : Int) (k : (List Int × Int) → Option Q) : spec_l8Least_c Q F next0 n1 k = (spec_l8Least_p F next0 n1).bind k := by
  simp only [spec_l8Least_p, spec_l8Least_c, cond_bindL, none_bindL, some_bindL]

/-- loop.example/g01194/spec.WorstReply -/
def spec_WorstReply_c (Q : Type) (F : Nat) (b0 : List Int) (direction1 : Int) (n2 : Int) (k : (List Int × Int × Bool) → Option Q) : Option Q :=
    let z_1 := (spec_l2Board_p F b0)
    let z_2 := (spec_l2Slide_p F b0 direction1)
    let z_3 := (spec_l8Least_p F (Option.getD z_2 default).1 n2)
    let z_4 := (Option.getD z_3 default)
    bif (Option.isSome z_1) then
    bif (!(Option.getD z_1 default)) then
    k ([(0 : Int), (0 : Int), (0 : Int)], (0 : Int), false)
    else bif (!(spec_l2Side_v direction1)) then
    k ([(0 : Int), (0 : Int), (0 : Int)], (0 : Int), false)
    else bif (!(spec_l1In_v n2 (0 : Int) (1 : Int))) then
    k ([(0 : Int), (0 : Int), (0 : Int)], (0 : Int), false)
    else bif (Option.isSome z_2) then
    bif ((Option.getD z_2 default).1 == b0) then
    k ([(0 : Int), (0 : Int), (0 : Int)], (0 : Int), false)
    else bif (Option.isSome z_3) then
    k (z_4.1, z_4.2, true)
    else none
    else none
    else none
def spec_WorstReply_p (F : Nat) (b0 : List Int) (direction1 : Int) (n2 : Int) : Option (List Int × Int × Bool) := spec_WorstReply_c _ F b0 direction1 n2 some
theorem spec_WorstReply_cp (Q : Type) (F : Nat) (b0 : List Int) (direction1 : Int) (n2 : Int) (k : (List Int × Int × Bool) → Option Q) : spec_WorstReply_c Q F b0 direction1 n2 k = (spec_WorstReply_p F b0 direction1 n2).bind k := by
  simp only [spec_WorstReply_p, spec_WorstReply_c, cond_bindL, none_bindL, some_bindL]

/-- loop.example/g01194/impl.WorstReply$1 -/
def impl_WorstReply_f1_c (Q : Type) (F : Nat) (own0 : List Int) (a14 : List Int) (k : (Int) → Option Q) : Option Q :=
    let z_1 := (impl_Board_sure_p F own0 (iget a14 0))
    bif (Option.isSome z_1) then
    k (Option.getD z_1 default)
    else none
def impl_WorstReply_f1_p (F : Nat) (own0 : List Int) (a14 : List Int) : Option (Int) := impl_WorstReply_f1_c _ F own0 a14 some
theorem impl_WorstReply_f1_cp (Q : Type) (F : Nat) (own0 : List Int) (a14 : List Int) (k : (Int) → Option Q) : impl_WorstReply_f1_c Q F own0 a14 k = (impl_WorstReply_f1_p F own0 a14).bind k := by
  simp only [impl_WorstReply_f1_p, impl_WorstReply_f1_c, cond_bindL, none_bindL, some_bindL]

/-- loop 3 of (loop.example/g01194/impl.Board).worst -/
def impl_Board_worst_impl_WorstReply_f1_s3 (F : Nat) (t1415 : Int) (of17 : List Int) (b18 : List Int) (t1321 : List (List Int)) (Q : Type) : (Int × Int × List Int) → ((Int × Int × List Int) → Option Q) → ((Int × List Int) → Option Q) → Option Q
  | (least12, t1516, out20), kn, kx =>
    let z_1 : List Int := (rget t1321 ((0 : Nat) + (Int.toNat t1516)))
    let z_2 := (impl_Board_placed_p b18 z_1)
    let z_3 := (impl_WorstReply_f1_p F (Option.getD z_2 default) of17)
    let z_4 : Int := (IntKind.wrap .i64 (t1516 + (1 : Int)))
    bif (decide (t1516 < t1415)) then
    bif (inR t1516 (List.length t1321)) then
    bif (Option.isSome z_2) then
    bif (Option.isSome z_3) then
    bif (decide (least12 < (0 : Int))) then
    kn ((Option.getD z_3 default), z_4, z_1)
    else bif (decide ((Option.getD z_3 default) < least12)) then
    kn ((Option.getD z_3 default), z_4, z_1)
    else kn (least12, z_4, out20)
    else none
    else none
    else none
    else kx (least12, out20)
def impl_Board_worst_impl_WorstReply_f1_l3 (F : Nat) (t1415 : Int) (of17 : List Int) (b18 : List Int) (t1321 : List (List Int)) (least12 : Int) (t1516 : Int) (out20 : List Int) : Option (Int × List Int) := loopC (impl_Board_worst_impl_WorstReply_f1_s3 F t1415 of17 b18 t1321) F (least12, t1516, out20) some
theorem impl_Board_worst_impl_WorstReply_f1_s3_nat (F : Nat) (t1415 : Int) (of17 : List Int) (b18 : List Int) (t1321 : List (List Int)) : Natural (impl_Board_worst_impl_WorstReply_f1_s3 F t1415 of17 b18 t1321) := by
  intro Q Q' s kn kx h
  obtain ⟨least12, t1516, out20⟩ := s
  simp only [impl_Board_worst_impl_WorstReply_f1_s3, cond_bindL, none_bindL]
/-- (loop.example/g01194/impl.Board).worst -/
def impl_Board_worst_impl_WorstReply_f1_c (Q : Type) (F : Nat) (b0 : List Int) (of4 : List Int) (k : (List Int × Int) → Option Q) : Option Q :=
    let z_1 := (impl_Board_placements_p F b0)
    let z_2 : Nat := (List.length (Option.getD z_1 default))
    let z_3 := (impl_Board_worst_impl_WorstReply_f1_l3 F ((z_2 : Nat) : Int) of4 b0 (Option.getD z_1 default) (-1 : Int) (0 : Int) [(0 : Int), (0 : Int), (0 : Int)])
    let z_4 := (Option.getD z_3 default)
    bif (Option.isSome z_1) then
    bif ((Nat.beq z_2 z_2) && (Option.isSome z_3)) then
    k (z_4.2, z_4.1)
    else none
    else none
def impl_Board_worst_impl_WorstReply_f1_p (F : Nat) (b0 : List Int) (of4 : List Int) : Option (List Int × Int) := impl_Board_worst_impl_WorstReply_f1_c _ F b0 of4 some
theorem impl_Board_worst_impl_WorstReply_f1_cp (Q : Type) (F : Nat) (b0 : List Int) (of4 : List Int) (k : (List Int × Int) → Option Q) : impl_Board_worst_impl_WorstReply_f1_c Q F b0 of4 k = (impl_Board_worst_impl_WorstReply_f1_p F b0 of4).bind k := by
  simp only [impl_Board_worst_impl_WorstReply_f1_p, impl_Board_worst_impl_WorstReply_f1_c, cond_bindL, none_bindL, some_bindL]

/-- loop.example/g01194/impl.WorstReply -/
def impl_WorstReply_c (Q : Type) (F : Nat) (b0 : List Int) (direction1 : Int) (n2 : Int) (k : (List Int × Int × Bool) → Option Q) : Option Q :=
    let z_1 := (impl_Board_isMove_p F b0 direction1)
    let z_2 := (impl_Board_slides_p F b0 [direction1])
    let z_3 := (impl_Board_worst_impl_WorstReply_f1_p F (Option.getD z_2 default) [n2])
    let z_4 := (Option.getD z_3 default)
    bif (Option.isSome z_1) then
    bif (!(Option.getD z_1 default)) then
    k ([(0 : Int), (0 : Int), (0 : Int)], (0 : Int), false)
    else bif (!(impl_in_v n2 (0 : Int) (1 : Int))) then
    k ([(0 : Int), (0 : Int), (0 : Int)], (0 : Int), false)
    else bif (Option.isSome z_2) then
    bif (Option.isSome z_3) then
    k (z_4.1, z_4.2, true)
    else none
    else none
    else none
def impl_WorstReply_p (F : Nat) (b0 : List Int) (direction1 : Int) (n2 : Int) : Option (List Int × Int × Bool) := impl_WorstReply_c _ F b0 direction1 n2 some
theorem impl_WorstReply_cp (Q : Type) (F : Nat) (b0 : List Int) (direction1 : Int) (n2 : Int) (k : (List Int × Int × Bool) → Option Q) : impl_WorstReply_c Q F b0 direction1 n2 k = (impl_WorstReply_p F b0 direction1 n2).bind k := by
  simp only [impl_WorstReply_p, impl_WorstReply_c, cond_bindL, none_bindL, some_bindL]

/-- loop.example/g01194/laws.FnExactWorstReply -/
def laws_FnExactWorstReply_c (Q : Type) (F : Nat) (aB0 : List Int) (aDirection1 : Int) (aN2 : Int) (k : (Bool) → Option Q) : Option Q :=
    let z_1 := (spec_WorstReply_p F (laws_toBoard_v aB0) aDirection1 aN2)
    let z_2 := (impl_WorstReply_p F (laws_toBoard_v aB0) aDirection1 aN2)
    let z_3 := (Option.getD z_2 default)
    let z_4 := (Option.getD z_1 default)
    let z_5 := (laws_eqIntA3_p F z_3.1 z_4.1)
    bif (Option.isSome z_1) then
    bif (Option.isSome z_2) then
    bif (Option.isSome z_5) then
    bif (!(Option.getD z_5 default)) then
    k false
    else bif (!(z_3.2.1 == z_4.2.1)) then
    k false
    else bif (!(z_3.2.2 == z_4.2.2)) then
    k false
    else k true
    else none
    else none
    else none
def laws_FnExactWorstReply_p (F : Nat) (aB0 : List Int) (aDirection1 : Int) (aN2 : Int) : Option (Bool) := laws_FnExactWorstReply_c _ F aB0 aDirection1 aN2 some
theorem laws_FnExactWorstReply_cp (Q : Type) (F : Nat) (aB0 : List Int) (aDirection1 : Int) (aN2 : Int) (k : (Bool) → Option Q) : laws_FnExactWorstReply_c Q F aB0 aDirection1 aN2 k = (laws_FnExactWorstReply_p F aB0 aDirection1 aN2).bind k := by
  simp only [laws_FnExactWorstReply_p, laws_FnExactWorstReply_c, cond_bindL, none_bindL, some_bindL]
end Go.Lv.P
