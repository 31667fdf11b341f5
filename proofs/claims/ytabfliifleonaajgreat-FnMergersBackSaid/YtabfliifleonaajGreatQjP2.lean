/-
Pure functions and what the code of them does, by program; without conditions.
-/
import Derived.Test.YtabfliifleonaajGreatQjP1
namespace Go.Lv.P
open Go Go.Lv
set_option linter.unusedVariables false
set_option linter.unusedSimpArgs false
set_option maxRecDepth 100000
def k21_s5 (F : Nat) (s1 : Nat) (Q : Type) : (Int × Int × List Int) → ((Int × Int × List Int) → Option Q) → ((Int × List Int) → Option Q) → Option Q
  | (i2, j3, s4), kn, kx =>
    let z_1 : Int := (iget s4 ((0 : Nat) + (Int.toNat j3)))
    let z_2 : Int := (IntKind.wrap .i64 (j3 + (1 : Int)))
    bif (decide (j3 < ((s1 : Nat) : Int))) then
    bif (inR j3 s1) then
    bif (!(k84_v z_1)) then
    bif (inR i2 s1) then
    kn ((IntKind.wrap .i64 (i2 + (1 : Int))), z_2, (iset s4 ((0 : Nat) + (Int.toNat i2)) z_1))
    else none
    else kn (i2, z_2, s4)
    else none
    else kx (i2, s4)
def k21_l5 (F : Nat) (s1 : Nat) (i2 : Int) (j3 : Int) (s4 : List Int) : Option (Int × List Int) := loopC (k21_s5 F s1) F (i2, j3, s4) some
theorem k21_s5_nat (F : Nat) (s1 : Nat) : Natural (k21_s5 F s1) := by
  intro Q Q' s kn kx h
  obtain ⟨i2, j3, s4⟩ := s
  simp only [k21_s5, cond_bindL, none_bindL]
def k21_c (Q : Type) (F : Nat) (s2 : List Int) (k : (Nat × List Int) → Option Q) : Option Q :=
    let z_1 := (k23_p F (subn (List.length s2) s2 0 (List.length s2)))
    let z_2 := (k21_l5 F (List.length s2) (Option.getD z_1 default) (IntKind.wrap .i64 ((Option.getD z_1 default) + (1 : Int))) s2)
    let z_3 := (Option.getD z_2 default)
    let z_4 : Bool := (inLe z_3.1 (List.length s2))
    let z_5 : Nat := (Int.toNat z_3.1)
    let z_6 : Nat := ((List.length s2) - z_5)
    bif (Option.isSome z_1) then
    bif ((Option.getD z_1 default) == (-1 : Int)) then
    k ((List.length s2), s2)
    else bif (Option.isSome z_2) then
    bif z_4 then
    bif z_4 then
    k ((z_5 - (0 : Nat)), (splice z_3.2 ((0 : Nat) + z_5) (List.replicate z_6 (0 : Int)) z_6))
    else none
    else none
    else none
    else none
def k21_p (F : Nat) (s2 : List Int) : Option (Nat × List Int) := k21_c _ F s2 some
theorem k21_cp (Q : Type) (F : Nat) (s2 : List Int) (k : (Nat × List Int) → Option Q) : k21_c Q F s2 k = (k21_p F s2).bind k := by
  simp only [k21_p, k21_c, cond_bindL, none_bindL, some_bindL]
def k108_c (Q : Type) (F : Nat) (g4 : List Int) (k : (Nat × List Int) → Option Q) : Option Q :=
    let z_1 : Nat := (List.length (sub g4 0 4))
    let z_2 := (k21_p F (sub g4 0 4))
    let z_3 := (Option.getD z_2 default)
    bif (fits z_1 8) then
    bif ((Nat.beq z_1 z_1) && (Option.isSome z_2)) then
    k (z_3.1, z_3.2)
    else none
    else none
def k108_p (F : Nat) (g4 : List Int) : Option (Nat × List Int) := k108_c _ F g4 some
theorem k108_cp (Q : Type) (F : Nat) (g4 : List Int) (k : (Nat × List Int) → Option Q) : k108_c Q F g4 k = (k108_p F g4).bind k := by
  simp only [k108_p, k108_c, cond_bindL, none_bindL, some_bindL]
def k34_s4 (F : Nat) (s10 : List Int) (s21 : List Int) (vq : Int) (Q : Type) : (Int) → ((Int) → Option Q) → ((Bool) → Option Q) → Option Q
  | yr, kn, kx =>
    bif (decide (yr < vq)) then
    bif (inR yr (List.length s10)) then
    bif (inR yr (List.length s21)) then
    bif (!((iget s10 (Int.toNat yr)) == (iget s21 (Int.toNat yr)))) then
    kx true
    else kn (IntKind.wrap .i64 (yr + (1 : Int)))
    else none
    else none
    else kx false
def k34_l4 (F : Nat) (s10 : List Int) (s21 : List Int) (vq : Int) (yr : Int) : Option (Bool) := loopC (k34_s4 F s10 s21 vq) F yr some
theorem k34_s4_nat (F : Nat) (s10 : List Int) (s21 : List Int) (vq : Int) : Natural (k34_s4 F s10 s21 vq) := by
  intro Q Q' s kn kx h
  simp only [k34_s4, cond_bindL, none_bindL]
def k34_c (Q : Type) (F : Nat) (s10 : List Int) (s21 : List Int) (k : (Bool) → Option Q) : Option Q :=
    let z_1 := (k34_l4 F s10 s21 (((List.length s10) : Nat) : Int) (0 : Int))
    bif (!((((List.length s10) : Nat) : Int) == (((List.length s21) : Nat) : Int))) then
    k false
    else bif (Option.isSome z_1) then
    bif (Option.getD z_1 default) then
    k false
    else k true
    else none
def k34_p (F : Nat) (s10 : List Int) (s21 : List Int) : Option (Bool) := k34_c _ F s10 s21 some
theorem k34_cp (Q : Type) (F : Nat) (s10 : List Int) (s21 : List Int) (k : (Bool) → Option Q) : k34_c Q F s10 s21 k = (k34_p F s10 s21).bind k := by
  simp only [k34_p, k34_c, cond_bindL, none_bindL, some_bindL]
def k90_c (Q : Type) (F : Nat) (g4 : List Int) (k : (Bool) → Option Q) : Option Q :=
    let z_1 := (k108_p F g4)
    let z_2 : Bool := (Option.isSome z_1)
    let z_3 := (Option.getD z_1 default)
    let z_4 := (k34_p F (subn (List.length z_3.2) z_3.2 0 z_3.1) (sub g4 0 (z_3.1 - (0 : Nat))))
    bif z_2 then
    bif z_2 then
    bif (inLe ((z_3.1 : Nat) : Int) 4) then
    bif (Option.isSome z_4) then
    k (Option.getD z_4 default)
    else none
    else none
    else none
    else none
def k90_p (F : Nat) (g4 : List Int) : Option (Bool) := k90_c _ F g4 some
theorem k90_cp (Q : Type) (F : Nat) (g4 : List Int) (k : (Bool) → Option Q) : k90_c Q F g4 k = (k90_p F g4).bind k := by
  simp only [k90_p, k90_c, cond_bindL, none_bindL, some_bindL]
def k61_c (Q : Type) (k : (Unit) → Option Q) : Option Q :=
    k ()
def k61_v : Unit :=
    ()
theorem k61_cv (Q : Type) (k : (Unit) → Option Q) : k61_c Q k = k (k61_v) := by
  simp only [k61_c, k61_v, app_condL k]
def k41_c (Q : Type) (list0 : List Int) (k : (List (List Int)) → Option Q) : Option Q :=
    bif (decide ((4 : Int) < (((List.length list0) : Nat) : Int))) then
    k ([] : List (List Int))
    else bif (fits (List.length list0) 8) then
    k [(subn (List.length list0) list0 0 (List.length list0))]
    else none
def k41_p (list0 : List Int) : Option (List (List Int)) := k41_c _ list0 some
theorem k41_cp (Q : Type) (list0 : List Int) (k : (List (List Int)) → Option Q) : k41_c Q list0 k = (k41_p list0).bind k := by
  simp only [k41_p, k41_c, cond_bindL, none_bindL, some_bindL]
def k42_c (Q : Type) (list2 : List Int) (j5 : List (List Int)) (k : (List (List Int)) → Option Q) : Option Q :=
    let z_1 : List (List Int) := ((subn (List.length j5) j5 0 (List.length j5)) ++ [(subn (List.length list2) list2 0 (List.length list2))])
    bif (decide ((4 : Int) < (((List.length list2) : Nat) : Int))) then
    k j5
    else bif (fits (List.length list2) 8) then
    bif (fits (List.length z_1) 24) then
    k z_1
    else none
    else none
def k42_p (list2 : List Int) (j5 : List (List Int)) : Option (List (List Int)) := k42_c _ list2 j5 some
theorem k42_cp (Q : Type) (list2 : List Int) (j5 : List (List Int)) (k : (List (List Int)) → Option Q) : k42_c Q list2 j5 k = (k42_p list2 j5).bind k := by
  simp only [k42_p, k42_c, cond_bindL, none_bindL, some_bindL]
def k62_c (Q : Type) (rest0_0 : Int) (k : (List (List Int)) → Option Q) : Option Q :=
    let z_1 : Nat := (List.length (Option.getD (k41_p [rest0_0]) default))
    let z_2 : Int := (IntKind.wrap .i64 (rest0_0 - (1 : Int)))
    let z_3 := (k42_p [z_2, z_2] (Option.getD (k41_p [rest0_0]) default))
    bif (Option.isSome (k41_p [rest0_0])) then
    bif (decide ((1 : Int) < rest0_0)) then
    bif ((Nat.beq z_1 z_1) && (Option.isSome z_3)) then
    k (Option.getD z_3 default)
    else none
    else k (Option.getD (k41_p [rest0_0]) default)
    else none
def k62_p (rest0_0 : Int) : Option (List (List Int)) := k62_c _ rest0_0 some
theorem k62_cp (Q : Type) (rest0_0 : Int) (k : (List (List Int)) → Option Q) : k62_c Q rest0_0 k = (k62_p rest0_0).bind k := by
  simp only [k62_p, k62_c, cond_bindL, none_bindL, some_bindL]
def k43_c (Q : Type) (list0 : List Int) (rest1_0 : Int) (k : (List (List Int)) → Option Q) : Option Q :=
    let z_1 : List Int := (subn (List.length list0) list0 0 (List.length list0))
    let z_2 : List Int := (z_1 ++ [rest1_0])
    let z_3 : Nat := (List.length z_2)
    let z_4 : Int := (IntKind.wrap .i64 (rest1_0 - (1 : Int)))
    let z_5 : List Int := (z_1 ++ [z_4, z_4])
    let z_6 : Nat := (List.length z_5)
    let z_7 : Nat := (List.length (Option.getD (k41_p (subn z_3 z_2 0 z_3)) default))
    let z_8 := (k42_p (subn z_6 z_5 0 z_6) (Option.getD (k41_p (subn z_3 z_2 0 z_3)) default))
    bif (decide ((4 : Int) < (((List.length list0) : Nat) : Int))) then
    k ([] : List (List Int))
    else bif (fits (List.length list0) 8) then
    bif (fits z_3 8) then
    bif (Option.isSome (k41_p (subn z_3 z_2 0 z_3))) then
    bif (decide ((1 : Int) < rest1_0)) then
    bif (fits (List.length list0) 8) then
    bif (fits z_6 8) then
    bif ((Nat.beq z_7 z_7) && (Option.isSome z_8)) then
    k (Option.getD z_8 default)
    else none
    else none
    else none
    else k (Option.getD (k41_p (subn z_3 z_2 0 z_3)) default)
    else none
    else none
    else none
def k43_p (list0 : List Int) (rest1_0 : Int) : Option (List (List Int)) := k43_c _ list0 rest1_0 some
theorem k43_cp (Q : Type) (list0 : List Int) (rest1_0 : Int) (k : (List (List Int)) → Option Q) : k43_c Q list0 rest1_0 k = (k43_p list0 rest1_0).bind k := by
  simp only [k43_p, k43_c, cond_bindL, none_bindL, some_bindL]
def k44_c (Q : Type) (list2 : List Int) (rest3_0 : Int) (j5 : List (List Int)) (k : (List (List Int)) → Option Q) : Option Q :=
    let z_1 : List Int := (subn (List.length list2) list2 0 (List.length list2))
    let z_2 : List Int := (z_1 ++ [rest3_0])
    let z_3 : Nat := (List.length z_2)
    let z_4 := (k42_p (subn z_3 z_2 0 z_3) j5)
    let z_5 : Int := (IntKind.wrap .i64 (rest3_0 - (1 : Int)))
    let z_6 : List Int := (z_1 ++ [z_5, z_5])
    let z_7 : Nat := (List.length z_6)
    let z_8 : Nat := (List.length (Option.getD z_4 default))
    let z_9 := (k42_p (subn z_7 z_6 0 z_7) (Option.getD z_4 default))
    bif (decide ((4 : Int) < (((List.length list2) : Nat) : Int))) then
    k j5
    else bif (fits (List.length list2) 8) then
    bif (fits z_3 8) then
    bif ((Nat.beq (List.length j5) (List.length j5)) && (Option.isSome z_4)) then
    bif (decide ((1 : Int) < rest3_0)) then
    bif (fits (List.length list2) 8) then
    bif (fits z_7 8) then
    bif ((Nat.beq z_8 z_8) && (Option.isSome z_9)) then
    k (Option.getD z_9 default)
    else none
    else none
    else none
    else k (Option.getD z_4 default)
    else none
    else none
    else none
def k44_p (list2 : List Int) (rest3_0 : Int) (j5 : List (List Int)) : Option (List (List Int)) := k44_c _ list2 rest3_0 j5 some
theorem k44_cp (Q : Type) (list2 : List Int) (rest3_0 : Int) (j5 : List (List Int)) (k : (List (List Int)) → Option Q) : k44_c Q list2 rest3_0 j5 k = (k44_p list2 rest3_0 j5).bind k := by
  simp only [k44_p, k44_c, cond_bindL, none_bindL, some_bindL]
def k63_c (Q : Type) (rest0_0 : Int) (rest0_1 : Int) (k : (List (List Int)) → Option Q) : Option Q :=
    let z_1 := (k43_p [rest0_0] rest0_1)
    let z_2 : Nat := (List.length (Option.getD z_1 default))
    let z_3 : Int := (IntKind.wrap .i64 (rest0_0 - (1 : Int)))
    let z_4 := (k44_p [z_3, z_3] rest0_1 (Option.getD z_1 default))
    bif (Option.isSome z_1) then
    bif (decide ((1 : Int) < rest0_0)) then
    bif ((Nat.beq z_2 z_2) && (Option.isSome z_4)) then
    k (Option.getD z_4 default)
    else none
    else k (Option.getD z_1 default)
    else none
def k63_p (rest0_0 : Int) (rest0_1 : Int) : Option (List (List Int)) := k63_c _ rest0_0 rest0_1 some
theorem k63_cp (Q : Type) (rest0_0 : Int) (rest0_1 : Int) (k : (List (List Int)) → Option Q) : k63_c Q rest0_0 rest0_1 k = (k63_p rest0_0 rest0_1).bind k := by
  simp only [k63_p, k63_c, cond_bindL, none_bindL, some_bindL]
def k45_c (Q : Type) (list0 : List Int) (rest1_0 : Int) (rest1_1 : Int) (k : (List (List Int)) → Option Q) : Option Q :=
    let z_1 : List Int := (subn (List.length list0) list0 0 (List.length list0))
    let z_2 : List Int := (z_1 ++ [rest1_0])
    let z_3 : Nat := (List.length z_2)
    let z_4 := (k43_p (subn z_3 z_2 0 z_3) rest1_1)
    let z_5 : Int := (IntKind.wrap .i64 (rest1_0 - (1 : Int)))
    let z_6 : List Int := (z_1 ++ [z_5, z_5])
    let z_7 : Nat := (List.length z_6)
    let z_8 : Nat := (List.length (Option.getD z_4 default))
    let z_9 := (k44_p (subn z_7 z_6 0 z_7) rest1_1 (Option.getD z_4 default))
    bif (decide ((4 : Int) < (((List.length list0) : Nat) : Int))) then
    k ([] : List (List Int))
    else bif (fits (List.length list0) 8) then
    bif (fits z_3 8) then
    bif (Option.isSome z_4) then
    bif (decide ((1 : Int) < rest1_0)) then
    bif (fits (List.length list0) 8) then
    bif (fits z_7 8) then
    bif ((Nat.beq z_8 z_8) && (Option.isSome z_9)) then
    k (Option.getD z_9 default)
    else none
    else none
    else none
    else k (Option.getD z_4 default)
    else none
    else none
    else none
def k45_p (list0 : List Int) (rest1_0 : Int) (rest1_1 : Int) : Option (List (List Int)) := k45_c _ list0 rest1_0 rest1_1 some
theorem k45_cp (Q : Type) (list0 : List Int) (rest1_0 : Int) (rest1_1 : Int) (k : (List (List Int)) → Option Q) : k45_c Q list0 rest1_0 rest1_1 k = (k45_p list0 rest1_0 rest1_1).bind k := by
  simp only [k45_p, k45_c, cond_bindL, none_bindL, some_bindL]
def k46_c (Q : Type) (list2 : List Int) (rest3_0 : Int) (rest3_1 : Int) (j5 : List (List Int)) (k : (List (List Int)) → Option Q) : Option Q :=
    let z_1 : List Int := (subn (List.length list2) list2 0 (List.length list2))
    let z_2 : List Int := (z_1 ++ [rest3_0])
    let z_3 : Nat := (List.length z_2)
    let z_4 := (k44_p (subn z_3 z_2 0 z_3) rest3_1 j5)
    let z_5 : Int := (IntKind.wrap .i64 (rest3_0 - (1 : Int)))
    let z_6 : List Int := (z_1 ++ [z_5, z_5])
    let z_7 : Nat := (List.length z_6)
    let z_8 : Nat := (List.length (Option.getD z_4 default))
    let z_9 := (k44_p (subn z_7 z_6 0 z_7) rest3_1 (Option.getD z_4 default))
    bif (decide ((4 : Int) < (((List.length list2) : Nat) : Int))) then
    k j5
    else bif (fits (List.length list2) 8) then
    bif (fits z_3 8) then
    bif ((Nat.beq (List.length j5) (List.length j5)) && (Option.isSome z_4)) then
    bif (decide ((1 : Int) < rest3_0)) then
    bif (fits (List.length list2) 8) then
    bif (fits z_7 8) then
    bif ((Nat.beq z_8 z_8) && (Option.isSome z_9)) then
    k (Option.getD z_9 default)
    else none
    else none
    else none
    else k (Option.getD z_4 default)
    else none
    else none
    else none
def k46_p (list2 : List Int) (rest3_0 : Int) (rest3_1 : Int) (j5 : List (List Int)) : Option (List (List Int)) := k46_c _ list2 rest3_0 rest3_1 j5 some
theorem k46_cp (Q : Type) (list2 : List Int) (rest3_0 : Int) (rest3_1 : Int) (j5 : List (List Int)) (k : (List (List Int)) → Option Q) : k46_c Q list2 rest3_0 rest3_1 j5 k = (k46_p list2 rest3_0 rest3_1 j5).bind k := by
  simp only [k46_p, k46_c, cond_bindL, none_bindL, some_bindL]
def k64_c (Q : Type) (rest0_0 : Int) (rest0_1 : Int) (rest0_2 : Int) (k : (List (List Int)) → Option Q) : Option Q :=
    let z_1 := (k45_p [rest0_0] rest0_1 rest0_2)
    let z_2 : Nat := (List.length (Option.getD z_1 default))
    let z_3 : Int := (IntKind.wrap .i64 (rest0_0 - (1 : Int)))
    let z_4 := (k46_p [z_3, z_3] rest0_1 rest0_2 (Option.getD z_1 default))
    bif (Option.isSome z_1) then
    bif (decide ((1 : Int) < rest0_0)) then
    bif ((Nat.beq z_2 z_2) && (Option.isSome z_4)) then
    k (Option.getD z_4 default)
    else none
    else k (Option.getD z_1 default)
    else none
def k64_p (rest0_0 : Int) (rest0_1 : Int) (rest0_2 : Int) : Option (List (List Int)) := k64_c _ rest0_0 rest0_1 rest0_2 some
theorem k64_cp (Q : Type) (rest0_0 : Int) (rest0_1 : Int) (rest0_2 : Int) (k : (List (List Int)) → Option Q) : k64_c Q rest0_0 rest0_1 rest0_2 k = (k64_p rest0_0 rest0_1 rest0_2).bind k := by
  simp only [k64_p, k64_c, cond_bindL, none_bindL, some_bindL]
def k47_c (Q : Type) (list0 : List Int) (rest1_0 : Int) (rest1_1 : Int) (rest1_2 : Int) (k : (List (List Int)) → Option Q) : Option Q :=
    let z_1 : List Int := (subn (List.length list0) list0 0 (List.length list0))
    let z_2 : List Int := (z_1 ++ [rest1_0])
    let z_3 : Nat := (List.length z_2)
    let z_4 := (k45_p (subn z_3 z_2 0 z_3) rest1_1 rest1_2)
    let z_5 : Int := (IntKind.wrap .i64 (rest1_0 - (1 : Int)))
    let z_6 : List Int := (z_1 ++ [z_5, z_5])
    let z_7 : Nat := (List.length z_6)
    let z_8 : Nat := (List.length (Option.getD z_4 default))
    let z_9 := (k46_p (subn z_7 z_6 0 z_7) rest1_1 rest1_2 (Option.getD z_4 default))
    bif (decide ((4 : Int) < (((List.length list0) : Nat) : Int))) then
    k ([] : List (List Int))
    else bif (fits (List.length list0) 8) then
    bif (fits z_3 8) then
    bif (Option.isSome z_4) then
    bif (decide ((1 : Int) < rest1_0)) then
    bif (fits (List.length list0) 8) then
    bif (fits z_7 8) then
    bif ((Nat.beq z_8 z_8) && (Option.isSome z_9)) then
    k (Option.getD z_9 default)
    else none
    else none
    else none
    else k (Option.getD z_4 default)
    else none
    else none
    else none
def k47_p (list0 : List Int) (rest1_0 : Int) (rest1_1 : Int) (rest1_2 : Int) : Option (List (List Int)) := k47_c _ list0 rest1_0 rest1_1 rest1_2 some
theorem k47_cp (Q : Type) (list0 : List Int) (rest1_0 : Int) (rest1_1 : Int) (rest1_2 : Int) (k : (List (List Int)) → Option Q) : k47_c Q list0 rest1_0 rest1_1 rest1_2 k = (k47_p list0 rest1_0 rest1_1 rest1_2).bind k := by
  simp only [k47_p, k47_c, cond_bindL, none_bindL, some_bindL]
def k48_c (Q : Type) (list2 : List Int) (rest3_0 : Int) (rest3_1 : Int) (rest3_2 : Int) (j5 : List (List Int)) (k : (List (List Int)) → Option Q) : Option Q :=
    let z_1 : List Int := (subn (List.length list2) list2 0 (List.length list2))
    let z_2 : List Int := (z_1 ++ [rest3_0])
    let z_3 : Nat := (List.length z_2)
    let z_4 := (k46_p (subn z_3 z_2 0 z_3) rest3_1 rest3_2 j5)
    let z_5 : Int := (IntKind.wrap .i64 (rest3_0 - (1 : Int)))
    let z_6 : List Int := (z_1 ++ [z_5, z_5])
    let z_7 : Nat := (List.length z_6)
    let z_8 : Nat := (List.length (Option.getD z_4 default))
    let z_9 := (k46_p (subn z_7 z_6 0 z_7) rest3_1 rest3_2 (Option.getD z_4 default))
    bif (decide ((4 : Int) < (((List.length list2) : Nat) : Int))) then
    k j5
    else bif (fits (List.length list2) 8) then
    bif (fits z_3 8) then
    bif ((Nat.beq (List.length j5) (List.length j5)) && (Option.isSome z_4)) then
    bif (decide ((1 : Int) < rest3_0)) then
    bif (fits (List.length list2) 8) then
    bif (fits z_7 8) then
    bif ((Nat.beq z_8 z_8) && (Option.isSome z_9)) then
    k (Option.getD z_9 default)
    else none
    else none
    else none
    else k (Option.getD z_4 default)
    else none
    else none
    else none
def k48_p (list2 : List Int) (rest3_0 : Int) (rest3_1 : Int) (rest3_2 : Int) (j5 : List (List Int)) : Option (List (List Int)) := k48_c _ list2 rest3_0 rest3_1 rest3_2 j5 some
theorem k48_cp (Q : Type) (list2 : List Int) (rest3_0 : Int) (rest3_1 : Int) (rest3_2 : Int) (j5 : List (List Int)) (k : (List (List Int)) → Option Q) : k48_c Q list2 rest3_0 rest3_1 rest3_2 j5 k = (k48_p list2 rest3_0 rest3_1 rest3_2 j5).bind k := by
  simp only [k48_p, k48_c, cond_bindL, none_bindL, some_bindL]
def k65_c (Q : Type) (rest0_0 : Int) (rest0_1 : Int) (rest0_2 : Int) (rest0_3 : Int) (k : (List (List Int)) → Option Q) : Option Q :=
    let z_1 := (k47_p [rest0_0] rest0_1 rest0_2 rest0_3)
    let z_2 : Nat := (List.length (Option.getD z_1 default))
    let z_3 : Int := (IntKind.wrap .i64 (rest0_0 - (1 : Int)))
    let z_4 := (k48_p [z_3, z_3] rest0_1 rest0_2 rest0_3 (Option.getD z_1 default))
    bif (Option.isSome z_1) then
    bif (decide ((1 : Int) < rest0_0)) then
    bif ((Nat.beq z_2 z_2) && (Option.isSome z_4)) then
    k (Option.getD z_4 default)
    else none
    else k (Option.getD z_1 default)
    else none
def k65_p (rest0_0 : Int) (rest0_1 : Int) (rest0_2 : Int) (rest0_3 : Int) : Option (List (List Int)) := k65_c _ rest0_0 rest0_1 rest0_2 rest0_3 some
theorem k65_cp (Q : Type) (rest0_0 : Int) (rest0_1 : Int) (rest0_2 : Int) (rest0_3 : Int) (k : (List (List Int)) → Option Q) : k65_c Q rest0_0 rest0_1 rest0_2 rest0_3 k = (k65_p rest0_0 rest0_1 rest0_2 rest0_3).bind k := by
  simp only [k65_p, k65_c, cond_bindL, none_bindL, some_bindL]
def k106_c (Q : Type) (gi : List Int) (k : (List (List Int)) → Option Q) : Option Q :=
    let z_1 := (k63_p (iget gi 0) (iget gi 1))
    let z_2 := (k64_p (iget gi 0) (iget gi 1) (iget gi 2))
    let z_3 := (k65_p (iget gi 0) (iget gi 1) (iget gi 2) (iget gi 3))
    bif (Nat.beq (List.length gi) 0) then
    k [([] : List Int)]
    else bif (Nat.beq (List.length gi) 1) then
    bif (Option.isSome (k62_p (iget gi 0))) then
    k (Option.getD (k62_p (iget gi 0)) default)
    else none
    else bif (Nat.beq (List.length gi) 2) then
    bif (Option.isSome z_1) then
    k (Option.getD z_1 default)
    else none
    else bif (Nat.beq (List.length gi) 3) then
    bif (Option.isSome z_2) then
    k (Option.getD z_2 default)
    else none
    else bif (Nat.beq (List.length gi) 4) then
    bif (Option.isSome z_3) then
    k (Option.getD z_3 default)
    else none
    else none
def k106_p (gi : List Int) : Option (List (List Int)) := k106_c _ gi some
theorem k106_cp (Q : Type) (gi : List Int) (k : (List (List Int)) → Option Q) : k106_c Q gi k = (k106_p gi).bind k := by
  simp only [k106_p, k106_c, cond_bindL, none_bindL, some_bindL]
def k109_c (Q : Type) (t0 : Int) (k : (Int) → Option Q) : Option Q :=
    bif (t0 == (0 : Int)) then
    k (0 : Int)
    else bif (decide (t0 < (0 : Int))) then
    none
    else k (IntKind.wrap .i64 ((1 : Int) * (2 ^ (min (Int.toNat t0) (IntKind.bits .i64)) : Int)))
def k109_p (t0 : Int) : Option (Int) := k109_c _ t0 some
theorem k109_cp (Q : Type) (t0 : Int) (k : (Int) → Option Q) : k109_c Q t0 k = (k109_p t0).bind k := by
  simp only [k109_p, k109_c, cond_bindL, none_bindL, some_bindL]
def k83_s3 (F : Nat) (jr : Nat) (gr : Int) (wr : List Int) (Q : Type) : (Int × Int × Int × List Int × List Bool) → ((Int × Int × Int × List Int × List Bool) → Option Q) → ((Int × List Int × List Bool) → Option Q) → Option Q
  | (jn, gj, g36, w36, wk), kn, kx =>
    let z_1 : Int := (IntKind.wrap .i64 (gj - (1 : Int)))
    let z_2 : Bool := (inR z_1 4)
    let z_3 : Nat := ((0 : Nat) + ((Int.toNat z_1) * (1 : Nat)))
    let z_4 : Int := (iget wr ((0 : Nat) + (Int.toNat g36)))
    let z_5 : Int := (IntKind.wrap .i64 (z_4 + (1 : Int)))
    let z_6 : Int := (IntKind.wrap .i64 (g36 + (1 : Int)))
    let z_7 : Int := (IntKind.wrap .i64 (gj + (1 : Int)))
    let z_8 : List Int := (iset w36 ((0 : Nat) + ((Int.toNat gj) * (1 : Nat))) z_4)
    bif (decide (g36 < gr)) then
    bif (inR g36 jr) then
    bif (decide ((0 : Int) < gj)) then
    bif z_2 then
    bif ((iget w36 z_3) == z_4) then
    bif (decide (z_4 < (17 : Int))) then
    bif z_2 then
    bif (!(bget wk z_3)) then
    bif (Option.isSome (k109_p z_5)) then
    bif z_2 then
    bif z_2 then
    kn ((IntKind.wrap .i64 (jn + (Option.getD (k109_p z_5) default))), gj, z_6, (iset w36 z_3 z_5), (bset wk z_3 true))
    else none
    else none
    else none
    else bif (inR gj 4) then
    kn (jn, z_7, z_6, z_8, wk)
    else none
    else none
    else bif (inR gj 4) then
    kn (jn, z_7, z_6, z_8, wk)
    else none
    else bif (inR gj 4) then
    kn (jn, z_7, z_6, z_8, wk)
    else none
    else none
    else bif (inR gj 4) then
    kn (jn, z_7, z_6, z_8, wk)
    else none
    else none
    else kx (jn, w36, wk)
def k83_l3 (F : Nat) (jr : Nat) (gr : Int) (wr : List Int) (jn : Int) (gj : Int) (g36 : Int) (w36 : List Int) (wk : List Bool) : Option (Int × List Int × List Bool) := loopC (k83_s3 F jr gr wr) F (jn, gj, g36, w36, wk) some
theorem k83_s3_nat (F : Nat) (jr : Nat) (gr : Int) (wr : List Int) : Natural (k83_s3 F jr gr wr) := by
  intro Q Q' s kn kx h
  obtain ⟨jn, gj, g36, w36, wk⟩ := s
  simp only [k83_s3, cond_bindL, none_bindL]
def k83_c (Q : Type) (F : Nat) (g4 : List Int) (k : (List Int × Int × List Bool) → Option Q) : Option Q :=
    let z_1 := (k108_p F g4)
    let z_2 := (Option.getD z_1 default)
    let z_3 := (k83_l3 F z_2.1 ((z_2.1 : Nat) : Int) z_2.2 (0 : Int) (0 : Int) (0 : Int) [(0 : Int), (0 : Int), (0 : Int), (0 : Int)] [false, false, false, false])
    let z_4 := (Option.getD z_3 default)
    bif (Option.isSome z_1) then
    bif (Option.isSome z_3) then
    k (z_4.2.1, z_4.1, z_4.2.2)
    else none
    else none
def k83_p (F : Nat) (g4 : List Int) : Option (List Int × Int × List Bool) := k83_c _ F g4 some
theorem k83_cp (Q : Type) (F : Nat) (g4 : List Int) (k : (List Int × Int × List Bool) → Option Q) : k83_c Q F g4 k = (k83_p F g4).bind k := by
  simp only [k83_p, k83_c, cond_bindL, none_bindL, some_bindL]
def k78_c (Q : Type) (x0 : Int) (k : (Bool) → Option Q) : Option Q :=
    k (!(x0 == x0))
def k78_v (x0 : Int) : Bool :=
    (!(x0 == x0))
theorem k78_cv (Q : Type) (x0 : Int) (k : (Bool) → Option Q) : k78_c Q x0 k = k (k78_v x0) := by
  simp only [k78_c, k78_v, app_condL k]
def k55_c (Q : Type) (x0 : Int) (y1 : Int) (k : (Int) → Option Q) : Option Q :=
    bif (k78_v x0) then
    bif (k78_v y1) then
    k (0 : Int)
    else k (-1 : Int)
    else bif (k78_v y1) then
    k (1 : Int)
    else bif (decide (x0 < y1)) then
    k (-1 : Int)
    else bif (decide (y1 < x0)) then
    k (1 : Int)
    else k (0 : Int)
def k55_v (x0 : Int) (y1 : Int) : Int :=
    bif (k78_v x0) then
    bif (k78_v y1) then
    (0 : Int)
    else (-1 : Int)
    else bif (k78_v y1) then
    (1 : Int)
    else bif (decide (x0 < y1)) then
    (-1 : Int)
    else bif (decide (y1 < x0)) then
    (1 : Int)
    else (0 : Int)
theorem k55_cv (Q : Type) (x0 : Int) (y1 : Int) (k : (Int) → Option Q) : k55_c Q x0 y1 k = k (k55_v x0 y1) := by
  simp only [k55_c, k55_v, app_condL k]
end Go.Lv.P
