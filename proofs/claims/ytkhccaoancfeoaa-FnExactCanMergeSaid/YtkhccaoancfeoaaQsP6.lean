/-
Pure functions and what the code of them does, by program; without conditions.
-/
import Derived.Test.YtkhccaoancfeoaaQsP5
namespace Go.Lv.P
open Go Go.Lv
set_option linter.unusedVariables false
set_option linter.unusedSimpArgs false
set_option maxRecDepth 100000
/-- loop 5 of loop.example/g01194/laws.markIntA2S -/
def laws_markIntA2S_s5 (F : Nat) (a1 : Nat) (i3 : Int) (Q : Type) : (Int × Int × List (List Int)) → ((Int × Int × List (List Int)) → Option Q) → ((Int × List (List Int)) → Option Q) → Option Q
  | (k2, j4, a5), kn, kx =>
    bif (decide (j4 < (2 : Int))) then
    bif (inR i3 a1) then
    bif (inR j4 2) then
    kn ((IntKind.wrap .i64 (k2 + (1 : Int))), (IntKind.wrap .i64 (j4 + (1 : Int))), (rset a5 ((0 : Nat) + (Int.toNat i3)) (iset (rget a5 ((0 : Nat) + (Int.toNat i3))) ((0 : Nat) + ((Int.toNat j4) * (1 : Nat))) k2)))
    else none
    else none
    else kx (k2, a5)
def laws_markIntA2S_l5 (F : Nat) (a1 : Nat) (i3 : Int) (k2 : Int) (j4 : Int) (a5 : List (List Int)) : Option (Int × List (List Int)) := loopC (laws_markIntA2S_s5 F a1 i3) F (k2, j4, a5) some
theorem laws_markIntA2S_s5_nat (F : Nat) (a1 : Nat) (i3 : Int) : Natural (laws_markIntA2S_s5 F a1 i3) := by
  intro Q Q' s kn kx h
  obtain ⟨k2, j4, a5⟩ := s
  simp only [laws_markIntA2S_s5, cond_bindL, none_bindL]
/-- loop 2 of loop.example/g01194/laws.markIntA2S -/
def laws_markIntA2S_s2 (F : Nat) (a1 : Nat) (Q : Type) : (Int × Int × List (List Int)) → ((Int × Int × List (List Int)) → Option Q) → ((Int × List (List Int)) → Option Q) → Option Q
  | (k2, i3, a4), kn, kx =>
    let z_1 := (laws_markIntA2S_l5 F a1 i3 k2 (0 : Int) a4)
    let z_2 := (Option.getD z_1 default)
    bif (decide (i3 < ((a1 : Nat) : Int))) then
    bif (Option.isSome z_1) then
    kn (z_2.1, (IntKind.wrap .i64 (i3 + (1 : Int))), z_2.2)
    else none
    else kx (k2, a4)
def laws_markIntA2S_l2 (F : Nat) (a1 : Nat) (k2 : Int) (i3 : Int) (a4 : List (List Int)) : Option (Int × List (List Int)) := loopC (laws_markIntA2S_s2 F a1) F (k2, i3, a4) some
theorem laws_markIntA2S_s2_nat (F : Nat) (a1 : Nat) : Natural (laws_markIntA2S_s2 F a1) := by
  intro Q Q' s kn kx h
  obtain ⟨k2, i3, a4⟩ := s
  simp only [laws_markIntA2S_s2, cond_bindL, none_bindL]
/-- loop.example/g01194/laws.markIntA2S -/
def laws_markIntA2S_c (Q : Type) (F : Nat) (a1 : Nat) (k2 : Int) (a3 : List (List Int)) (k : (Int × List (List Int)) → Option Q) : Option Q :=
    let z_1 := (laws_markIntA2S_l2 F a1 k2 (0 : Int) a3)
    let z_2 := (Option.getD z_1 default)
    bif (Option.isSome z_1) then
    k (z_2.1, z_2.2)
    else none
def laws_markIntA2S_p (F : Nat) (a1 : Nat) (k2 : Int) (a3 : List (List Int)) : Option (Int × List (List Int)) := laws_markIntA2S_c _ F a1 k2 a3 some
theorem laws_markIntA2S_cp (Q : Type) (F : Nat) (a1 : Nat) (k2 : Int) (a3 : List (List Int)) (k : (Int × List (List Int)) → Option Q) : laws_markIntA2S_c Q F a1 k2 a3 k = (laws_markIntA2S_p F a1 k2 a3).bind k := by
  simp only [laws_markIntA2S_p, laws_markIntA2S_c, cond_bindL, none_bindL, some_bindL]

/-- loop 5 of loop.example/g01194/laws.heldIntA2S -/
def laws_heldIntA2S_s5 (F : Nat) (a0 : List (List Int)) (i2 : Int) (Q : Type) : (Int × Int) → ((Int × Int) → Option Q) → ((Bool × Int) → Option Q) → Option Q
  | (k1, j3), kn, kx =>
    bif (decide (j3 < (2 : Int))) then
    bif (inR i2 (List.length a0)) then
    bif (inR j3 2) then
    bif (!((iget (rget a0 (Int.toNat i2)) ((0 : Nat) + ((Int.toNat j3) * (1 : Nat)))) == k1)) then
    kx (true, default)
    else kn ((IntKind.wrap .i64 (k1 + (1 : Int))), (IntKind.wrap .i64 (j3 + (1 : Int))))
    else none
    else none
    else kx (false, k1)
def laws_heldIntA2S_l5 (F : Nat) (a0 : List (List Int)) (i2 : Int) (k1 : Int) (j3 : Int) : Option (Bool × Int) := loopC (laws_heldIntA2S_s5 F a0 i2) F (k1, j3) some
theorem laws_heldIntA2S_s5_nat (F : Nat) (a0 : List (List Int)) (i2 : Int) : Natural (laws_heldIntA2S_s5 F a0 i2) := by
  intro Q Q' s kn kx h
  obtain ⟨k1, j3⟩ := s
  simp only [laws_heldIntA2S_s5, cond_bindL, none_bindL]
/-- loop 2 of loop.example/g01194/laws.heldIntA2S -/
def laws_heldIntA2S_s2 (F : Nat) (a0 : List (List Int)) (Q : Type) : (Int × Int) → ((Int × Int) → Option Q) → ((Bool × Int) → Option Q) → Option Q
  | (k1, i2), kn, kx =>
    let z_1 := (laws_heldIntA2S_l5 F a0 i2 k1 (0 : Int))
    let z_2 := (Option.getD z_1 default)
    bif (decide (i2 < (((List.length a0) : Nat) : Int))) then
    bif (Option.isSome z_1) then
    bif z_2.1 then
    kx (true, default)
    else kn (z_2.2, (IntKind.wrap .i64 (i2 + (1 : Int))))
    else none
    else kx (false, k1)
def laws_heldIntA2S_l2 (F : Nat) (a0 : List (List Int)) (k1 : Int) (i2 : Int) : Option (Bool × Int) := loopC (laws_heldIntA2S_s2 F a0) F (k1, i2) some
theorem laws_heldIntA2S_s2_nat (F : Nat) (a0 : List (List Int)) : Natural (laws_heldIntA2S_s2 F a0) := by
  intro Q Q' s kn kx h
  obtain ⟨k1, i2⟩ := s
  simp only [laws_heldIntA2S_s2, cond_bindL, none_bindL]
/-- loop.example/g01194/laws.heldIntA2S -/
def laws_heldIntA2S_c (Q : Type) (F : Nat) (a0 : List (List Int)) (k1 : Int) (k : (Int) → Option Q) : Option Q :=
    let z_1 := (laws_heldIntA2S_l2 F a0 k1 (0 : Int))
    let z_2 := (Option.getD z_1 default)
    bif (Option.isSome z_1) then
    bif z_2.1 then
    k (-1 : Int)
    else k z_2.2
    else none
def laws_heldIntA2S_p (F : Nat) (a0 : List (List Int)) (k1 : Int) : Option (Int) := laws_heldIntA2S_c _ F a0 k1 some
theorem laws_heldIntA2S_cp (Q : Type) (F : Nat) (a0 : List (List Int)) (k1 : Int) (k : (Int) → Option Q) : laws_heldIntA2S_c Q F a0 k1 k = (laws_heldIntA2S_p F a0 k1).bind k := by
  simp only [laws_heldIntA2S_p, laws_heldIntA2S_c, cond_bindL, none_bindL, some_bindL]

/-- loop.example/g01194/laws.FnExactCanMerge -/
def laws_FnExactCanMerge_c (Q : Type) (F : Nat) (aB0 : List Int) (aDirection1 : Int) (k : (Bool) → Option Q) : Option Q :=
    let z_1 := (spec_CanMerge_p F (laws_toBoard_v aB0) aDirection1)
    let z_2 := (impl_CanMerge_p F (laws_toBoard_v aB0) aDirection1)
    let z_3 : Bool := (Option.isSome z_2)
    let z_4 := (Option.getD z_2 default)
    let z_5 := (Option.getD z_1 default)
    let z_6 : Nat := (List.length z_5.2)
    let z_7 := (laws_eqIntA2S_p F (subn (List.length z_4.2.2) z_4.2.2 0 z_4.1) (subn z_6 z_5.2 0 z_6))
    let z_8 : Bool := (Option.isSome z_7)
    let z_9 : Bool := (!(Option.getD z_7 default))
    let z_10 : Bool := (!(z_4.2.1 == z_5.1))
    let z_11 := (laws_markIntA2S_p F z_4.1 (1 : Int) z_4.2.2)
    let z_12 := (Option.getD z_11 default)
    let z_13 := (laws_heldIntA2S_p F (subn (List.length z_12.2) z_12.2 0 z_4.1) (1 : Int))
    let z_14 : Bool := (Option.isSome z_13)
    let z_15 : Bool := (decide ((Option.getD z_13 default) < (0 : Int)))
    let z_16 : Bool := (!((Option.getD z_13 default) == z_12.1))
    bif (Option.isSome z_1) then
    bif z_3 then
    bif z_8 then
    bif z_9 then
    k false
    else bif z_10 then
    k false
    else bif (Option.isSome z_11) then
    bif z_14 then
    bif z_15 then
    k false
    else bif z_16 then
    k false
    else bif z_3 then
    bif z_8 then
    bif z_9 then
    k false
    else bif z_10 then
    k false
    else bif z_14 then
    bif z_15 then
    k false
    else bif z_16 then
    k false
    else k true
    else none
    else none
    else none
    else none
    else none
    else none
    else none
    else none
def laws_FnExactCanMerge_p (F : Nat) (aB0 : List Int) (aDirection1 : Int) : Option (Bool) := laws_FnExactCanMerge_c _ F aB0 aDirection1 some
theorem laws_FnExactCanMerge_cp (Q : Type) (F : Nat) (aB0 : List Int) (aDirection1 : Int) (k : (Bool) → Option Q) : laws_FnExactCanMerge_c Q F aB0 aDirection1 k = (laws_FnExactCanMerge_p F aB0 aDirection1).bind k := by
  simp only [laws_FnExactCanMerge_p, laws_FnExactCanMerge_c, cond_bindL, none_bindL, some_bindL]

/-- loop.example/g01194/spec.MustMerge -/
def spec_MustMerge_c (Q : Type) (F : Nat) (b0 : List Int) (direction1 : Int) (k : (Bool × List (List Int)) → Option Q) : Option Q :=
    let z_1 := (spec_l2Board_p F b0)
    let z_2 := (spec_l6Count_p F b0 direction1)
    let z_3 := (spec_l6Mergers_p F b0 direction1 false)
    bif (Option.isSome z_1) then
    bif (!(Option.getD z_1 default)) then
    k (false, ([] : List (List Int)))
    else bif (!(spec_l2Side_v direction1)) then
    k (false, ([] : List (List Int)))
    else bif (Option.isSome z_2) then
    bif ((Option.getD z_2 default) == (0 : Int)) then
    k (false, ([] : List (List Int)))
    else bif (Option.isSome z_3) then
    k (true, (Option.getD z_3 default))
    else none
    else none
    else none
def spec_MustMerge_p (F : Nat) (b0 : List Int) (direction1 : Int) : Option (Bool × List (List Int)) := spec_MustMerge_c _ F b0 direction1 some
theorem spec_MustMerge_cp (Q : Type) (F : Nat) (b0 : List Int) (direction1 : Int) (k : (Bool × List (List Int)) → Option Q) : spec_MustMerge_c Q F b0 direction1 k = (spec_MustMerge_p F b0 direction1).bind k := by
  simp only [spec_MustMerge_p, spec_MustMerge_c, cond_bindL, none_bindL, some_bindL]

/-- loop.example/g01194/impl.MustMerge -/
def impl_MustMerge_c (Q : Type) (F : Nat) (b0 : List Int) (direction1 : Int) (k : (Nat × Bool × List (List Int)) → Option Q) : Option Q :=
    let z_1 := (impl_Board_merged_p F b0 direction1 true)
    let z_2 := (Option.getD z_1 default)
    bif (Option.isSome z_1) then
    k (z_2.1, z_2.2.1, z_2.2.2)
    else none
def impl_MustMerge_p (F : Nat) (b0 : List Int) (direction1 : Int) : Option (Nat × Bool × List (List Int)) := impl_MustMerge_c _ F b0 direction1 some
theorem impl_MustMerge_cp (Q : Type) (F : Nat) (b0 : List Int) (direction1 : Int) (k : (Nat × Bool × List (List Int)) → Option Q) : impl_MustMerge_c Q F b0 direction1 k = (impl_MustMerge_p F b0 direction1).bind k := by
  simp only [impl_MustMerge_p, impl_MustMerge_c, cond_bindL, none_bindL, some_bindL]

/-- loop.example/g01194/laws.FnExactMustMerge -/
def laws_FnExactMustMerge_c (Q : Type) (F : Nat) (aB0 : List Int) (aDirection1 : Int) (k : (Bool) → Option Q) : Option Q :=
    let z_1 := (spec_MustMerge_p F (laws_toBoard_v aB0) aDirection1)
    let z_2 := (impl_MustMerge_p F (laws_toBoard_v aB0) aDirection1)
    let z_3 : Bool := (Option.isSome z_2)
    let z_4 := (Option.getD z_2 default)
    let z_5 := (Option.getD z_1 default)
    let z_6 : Nat := (List.length z_5.2)
    let z_7 := (laws_eqIntA2S_p F (subn (List.length z_4.2.2) z_4.2.2 0 z_4.1) (subn z_6 z_5.2 0 z_6))
    let z_8 : Bool := (Option.isSome z_7)
    let z_9 : Bool := (!(Option.getD z_7 default))
    let z_10 : Bool := (!(z_4.2.1 == z_5.1))
    let z_11 := (laws_markIntA2S_p F z_4.1 (1 : Int) z_4.2.2)
    let z_12 := (Option.getD z_11 default)
    let z_13 := (laws_heldIntA2S_p F (subn (List.length z_12.2) z_12.2 0 z_4.1) (1 : Int))
    let z_14 : Bool := (Option.isSome z_13)
    let z_15 : Bool := (decide ((Option.getD z_13 default) < (0 : Int)))
    let z_16 : Bool := (!((Option.getD z_13 default) == z_12.1))
    bif (Option.isSome z_1) then
    bif z_3 then
    bif z_8 then
    bif z_9 then
    k false
    else bif z_10 then
    k false
    else bif (Option.isSome z_11) then
    bif z_14 then
    bif z_15 then
    k false
    else bif z_16 then
    k false
    else bif z_3 then
    bif z_8 then
    bif z_9 then
    k false
    else bif z_10 then
    k false
    else bif z_14 then
    bif z_15 then
    k false
    else bif z_16 then
    k false
    else k true
    else none
    else none
    else none
    else none
    else none
    else none
    else none
    else none
def laws_FnExactMustMerge_p (F : Nat) (aB0 : List Int) (aDirection1 : Int) : Option (Bool) := laws_FnExactMustMerge_c _ F aB0 aDirection1 some
theorem laws_FnExactMustMerge_cp (Q : Type) (F : Nat) (aB0 : List Int) (aDirection1 : Int) (k : (Bool) → Option Q) : laws_FnExactMustMerge_c Q F aB0 aDirection1 k = (laws_FnExactMustMerge_p F aB0 aDirection1).bind k := by
  simp only [laws_FnExactMustMerge_p, laws_FnExactMustMerge_c, cond_bindL, none_bindL, some_bindL]
end Go.Lv.P
