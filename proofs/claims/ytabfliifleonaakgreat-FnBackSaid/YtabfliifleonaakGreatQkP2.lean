/-
Pure functions and what the code of them does, by program; without conditions.
-/
import Derived.Test.YtabfliifleonaakGreatQkP1
namespace Go.Lv.P
open Go Go.Lv
set_option linter.unusedVariables false
set_option linter.unusedSimpArgs false
set_option maxRecDepth 100000
def k16_s5 (F : Nat) (s1 : Nat) (Q : Type) : (Int × Int × List Int) → ((Int × Int × List Int) → Option Q) → ((Int × List Int) → Option Q) → Option Q
  | (i2, j3, s4), kn, kx =>
    let z_1 : Int := (iget s4 ((0 : Nat) + (Int.toNat j3)))
    let z_2 : Int := (IntKind.wrap .i64 (j3 + (1 : Int)))
    bif (decide (j3 < ((s1 : Nat) : Int))) then
    bif (inR j3 s1) then
    bif (!(k84_v z_1)) then
    bif (inR i2 s1) then
    kn ((IntKind.wrap .i64 (i2 + (1 : Int))), z_2, (iset s4 ((0 : Nat) + (Int.toNat i2)) z_1))
    else none
    else kn (i2, z_2, s4)
    else none
    else kx (i2, s4)
def k16_l5 (F : Nat) (s1 : Nat) (i2 : Int) (j3 : Int) (s4 : List Int) : Option (Int × List Int) := loopC (k16_s5 F s1) F (i2, j3, s4) some
theorem k16_s5_nat (F : Nat) (s1 : Nat) : u028 (k16_s5 F s1) := by
  intro Q Q' s kn kx h
  obtain ⟨i2, j3, s4⟩ := s
  simp only [k16_s5, u004, u003]
def k16_c (Q : Type) (F : Nat) (s2 : List Int) (k : (Nat × List Int) → Option Q) : Option Q :=
    let z_1 := (k18_p F (subn (List.length s2) s2 0 (List.length s2)))
    let z_2 := (k16_l5 F (List.length s2) (Option.getD z_1 default) (IntKind.wrap .i64 ((Option.getD z_1 default) + (1 : Int))) s2)
    let z_3 := (Option.getD z_2 default)
    let z_4 : Bool := (inLe z_3.1 (List.length s2))
    let z_5 : Nat := (Int.toNat z_3.1)
    let z_6 : Nat := ((List.length s2) - z_5)
    bif (Option.isSome z_1) then
    bif ((Option.getD z_1 default) == (-1 : Int)) then
    k ((List.length s2), s2)
    else bif (Option.isSome z_2) then
    bif z_4 then
    bif z_4 then
    k ((z_5 - (0 : Nat)), (u029 z_3.2 ((0 : Nat) + z_5) (List.replicate z_6 (0 : Int)) z_6))
    else none
    else none
    else none
    else none
def k16_p (F : Nat) (s2 : List Int) : Option (Nat × List Int) := k16_c _ F s2 some
theorem k16_cp (Q : Type) (F : Nat) (s2 : List Int) (k : (Nat × List Int) → Option Q) : k16_c Q F s2 k = (k16_p F s2).bind k := by
  simp only [k16_p, k16_c, u004, u003, u008]
def k120_c (Q : Type) (F : Nat) (w4 : List Int) (k : (Nat × List Int) → Option Q) : Option Q :=
    let z_1 : Nat := (List.length (sub w4 0 4))
    let z_2 := (k16_p F (sub w4 0 4))
    let z_3 := (Option.getD z_2 default)
    bif (fits z_1 8) then
    bif ((Nat.beq z_1 z_1) && (Option.isSome z_2)) then
    k (z_3.1, z_3.2)
    else none
    else none
def k120_p (F : Nat) (w4 : List Int) : Option (Nat × List Int) := k120_c _ F w4 some
theorem k120_cp (Q : Type) (F : Nat) (w4 : List Int) (k : (Nat × List Int) → Option Q) : k120_c Q F w4 k = (k120_p F w4).bind k := by
  simp only [k120_p, k120_c, u004, u003, u008]
def k30_s4 (F : Nat) (s10 : List Int) (s21 : List Int) (jp : Int) (Q : Type) : (Int) → ((Int) → Option Q) → ((Bool) → Option Q) → Option Q
  | gp, kn, kx =>
    bif (decide (gp < jp)) then
    bif (inR gp (List.length s10)) then
    bif (inR gp (List.length s21)) then
    bif (!((iget s10 (Int.toNat gp)) == (iget s21 (Int.toNat gp)))) then
    kx true
    else kn (IntKind.wrap .i64 (gp + (1 : Int)))
    else none
    else none
    else kx false
def k30_l4 (F : Nat) (s10 : List Int) (s21 : List Int) (jp : Int) (gp : Int) : Option (Bool) := loopC (k30_s4 F s10 s21 jp) F gp some
theorem k30_s4_nat (F : Nat) (s10 : List Int) (s21 : List Int) (jp : Int) : u028 (k30_s4 F s10 s21 jp) := by
  intro Q Q' s kn kx h
  simp only [k30_s4, u004, u003]
def k30_c (Q : Type) (F : Nat) (s10 : List Int) (s21 : List Int) (k : (Bool) → Option Q) : Option Q :=
    let z_1 := (k30_l4 F s10 s21 (((List.length s10) : Nat) : Int) (0 : Int))
    bif (!((((List.length s10) : Nat) : Int) == (((List.length s21) : Nat) : Int))) then
    k false
    else bif (Option.isSome z_1) then
    bif (Option.getD z_1 default) then
    k false
    else k true
    else none
def k30_p (F : Nat) (s10 : List Int) (s21 : List Int) : Option (Bool) := k30_c _ F s10 s21 some
theorem k30_cp (Q : Type) (F : Nat) (s10 : List Int) (s21 : List Int) (k : (Bool) → Option Q) : k30_c Q F s10 s21 k = (k30_p F s10 s21).bind k := by
  simp only [k30_p, k30_c, u004, u003, u008]
def k97_c (Q : Type) (F : Nat) (w4 : List Int) (k : (Bool) → Option Q) : Option Q :=
    let z_1 := (k120_p F w4)
    let z_2 : Bool := (Option.isSome z_1)
    let z_3 := (Option.getD z_1 default)
    let z_4 := (k30_p F (subn (List.length z_3.2) z_3.2 0 z_3.1) (sub w4 0 (z_3.1 - (0 : Nat))))
    bif z_2 then
    bif z_2 then
    bif (inLe ((z_3.1 : Nat) : Int) 4) then
    bif (Option.isSome z_4) then
    k (Option.getD z_4 default)
    else none
    else none
    else none
    else none
def k97_p (F : Nat) (w4 : List Int) : Option (Bool) := k97_c _ F w4 some
theorem k97_cp (Q : Type) (F : Nat) (w4 : List Int) (k : (Bool) → Option Q) : k97_c Q F w4 k = (k97_p F w4).bind k := by
  simp only [k97_p, k97_c, u004, u003, u008]
def k59_c (Q : Type) (k : (Unit) → Option Q) : Option Q :=
    k ()
def k59_v : Unit :=
    ()
theorem k59_cv (Q : Type) (k : (Unit) → Option Q) : k59_c Q k = k (k59_v) := by
  simp only [k59_c, k59_v, u067 k]
def k35_c (Q : Type) (list0 : List Int) (k : (List (List Int)) → Option Q) : Option Q :=
    bif (decide ((4 : Int) < (((List.length list0) : Nat) : Int))) then
    k ([] : List (List Int))
    else bif (fits (List.length list0) 8) then
    k [(subn (List.length list0) list0 0 (List.length list0))]
    else none
def k35_p (list0 : List Int) : Option (List (List Int)) := k35_c _ list0 some
theorem k35_cp (Q : Type) (list0 : List Int) (k : (List (List Int)) → Option Q) : k35_c Q list0 k = (k35_p list0).bind k := by
  simp only [k35_p, k35_c, u004, u003, u008]
def k36_c (Q : Type) (list2 : List Int) (w6 : List (List Int)) (k : (List (List Int)) → Option Q) : Option Q :=
    let z_1 : List (List Int) := ((subn (List.length w6) w6 0 (List.length w6)) ++ [(subn (List.length list2) list2 0 (List.length list2))])
    bif (decide ((4 : Int) < (((List.length list2) : Nat) : Int))) then
    k w6
    else bif (fits (List.length list2) 8) then
    bif (fits (List.length z_1) 24) then
    k z_1
    else none
    else none
def k36_p (list2 : List Int) (w6 : List (List Int)) : Option (List (List Int)) := k36_c _ list2 w6 some
theorem k36_cp (Q : Type) (list2 : List Int) (w6 : List (List Int)) (k : (List (List Int)) → Option Q) : k36_c Q list2 w6 k = (k36_p list2 w6).bind k := by
  simp only [k36_p, k36_c, u004, u003, u008]
def k60_c (Q : Type) (rest0_0 : Int) (k : (List (List Int)) → Option Q) : Option Q :=
    let z_1 : Nat := (List.length (Option.getD (k35_p [rest0_0]) default))
    let z_2 : Int := (IntKind.wrap .i64 (rest0_0 - (1 : Int)))
    let z_3 := (k36_p [z_2, z_2] (Option.getD (k35_p [rest0_0]) default))
    bif (Option.isSome (k35_p [rest0_0])) then
    bif (decide ((1 : Int) < rest0_0)) then
    bif ((Nat.beq z_1 z_1) && (Option.isSome z_3)) then
    k (Option.getD z_3 default)
    else none
    else k (Option.getD (k35_p [rest0_0]) default)
    else none
def k60_p (rest0_0 : Int) : Option (List (List Int)) := k60_c _ rest0_0 some
theorem k60_cp (Q : Type) (rest0_0 : Int) (k : (List (List Int)) → Option Q) : k60_c Q rest0_0 k = (k60_p rest0_0).bind k := by
  simp only [k60_p, k60_c, u004, u003, u008]
def k37_c (Q : Type) (list0 : List Int) (rest1_0 : Int) (k : (List (List Int)) → Option Q) : Option Q :=
    let z_1 : List Int := (subn (List.length list0) list0 0 (List.length list0))
    let z_2 : List Int := (z_1 ++ [rest1_0])
    let z_3 : Nat := (List.length z_2)
    let z_4 : Int := (IntKind.wrap .i64 (rest1_0 - (1 : Int)))
    let z_5 : List Int := (z_1 ++ [z_4, z_4])
    let z_6 : Nat := (List.length z_5)
    let z_7 : Nat := (List.length (Option.getD (k35_p (subn z_3 z_2 0 z_3)) default))
    let z_8 := (k36_p (subn z_6 z_5 0 z_6) (Option.getD (k35_p (subn z_3 z_2 0 z_3)) default))
    bif (decide ((4 : Int) < (((List.length list0) : Nat) : Int))) then
    k ([] : List (List Int))
    else bif (fits (List.length list0) 8) then
    bif (fits z_3 8) then
    bif (Option.isSome (k35_p (subn z_3 z_2 0 z_3))) then
    bif (decide ((1 : Int) < rest1_0)) then
    bif (fits (List.length list0) 8) then
    bif (fits z_6 8) then
    bif ((Nat.beq z_7 z_7) && (Option.isSome z_8)) then
    k (Option.getD z_8 default)
    else none
    else none
    else none
    else k (Option.getD (k35_p (subn z_3 z_2 0 z_3)) default)
    else none
    else none
    else none
def k37_p (list0 : List Int) (rest1_0 : Int) : Option (List (List Int)) := k37_c _ list0 rest1_0 some
theorem k37_cp (Q : Type) (list0 : List Int) (rest1_0 : Int) (k : (List (List Int)) → Option Q) : k37_c Q list0 rest1_0 k = (k37_p list0 rest1_0).bind k := by
  simp only [k37_p, k37_c, u004, u003, u008]
def k38_c (Q : Type) (list2 : List Int) (rest3_0 : Int) (w6 : List (List Int)) (k : (List (List Int)) → Option Q) : Option Q :=
    let z_1 : List Int := (subn (List.length list2) list2 0 (List.length list2))
    let z_2 : List Int := (z_1 ++ [rest3_0])
    let z_3 : Nat := (List.length z_2)
    let z_4 := (k36_p (subn z_3 z_2 0 z_3) w6)
    let z_5 : Int := (IntKind.wrap .i64 (rest3_0 - (1 : Int)))
    let z_6 : List Int := (z_1 ++ [z_5, z_5])
    let z_7 : Nat := (List.length z_6)
    let z_8 : Nat := (List.length (Option.getD z_4 default))
    let z_9 := (k36_p (subn z_7 z_6 0 z_7) (Option.getD z_4 default))
    bif (decide ((4 : Int) < (((List.length list2) : Nat) : Int))) then
    k w6
    else bif (fits (List.length list2) 8) then
    bif (fits z_3 8) then
    bif ((Nat.beq (List.length w6) (List.length w6)) && (Option.isSome z_4)) then
    bif (decide ((1 : Int) < rest3_0)) then
    bif (fits (List.length list2) 8) then
    bif (fits z_7 8) then
    bif ((Nat.beq z_8 z_8) && (Option.isSome z_9)) then
    k (Option.getD z_9 default)
    else none
    else none
    else none
    else k (Option.getD z_4 default)
    else none
    else none
    else none
def k38_p (list2 : List Int) (rest3_0 : Int) (w6 : List (List Int)) : Option (List (List Int)) := k38_c _ list2 rest3_0 w6 some
theorem k38_cp (Q : Type) (list2 : List Int) (rest3_0 : Int) (w6 : List (List Int)) (k : (List (List Int)) → Option Q) : k38_c Q list2 rest3_0 w6 k = (k38_p list2 rest3_0 w6).bind k := by
  simp only [k38_p, k38_c, u004, u003, u008]
def k61_c (Q : Type) (rest0_0 : Int) (rest0_1 : Int) (k : (List (List Int)) → Option Q) : Option Q :=
    let z_1 := (k37_p [rest0_0] rest0_1)
    let z_2 : Nat := (List.length (Option.getD z_1 default))
    let z_3 : Int := (IntKind.wrap .i64 (rest0_0 - (1 : Int)))
    let z_4 := (k38_p [z_3, z_3] rest0_1 (Option.getD z_1 default))
    bif (Option.isSome z_1) then
    bif (decide ((1 : Int) < rest0_0)) then
    bif ((Nat.beq z_2 z_2) && (Option.isSome z_4)) then
    k (Option.getD z_4 default)
    else none
    else k (Option.getD z_1 default)
    else none
def k61_p (rest0_0 : Int) (rest0_1 : Int) : Option (List (List Int)) := k61_c _ rest0_0 rest0_1 some
theorem k61_cp (Q : Type) (rest0_0 : Int) (rest0_1 : Int) (k : (List (List Int)) → Option Q) : k61_c Q rest0_0 rest0_1 k = (k61_p rest0_0 rest0_1).bind k := by
  simp only [k61_p, k61_c, u004, u003, u008]
def k39_c (Q : Type) (list0 : List Int) (rest1_0 : Int) (rest1_1 : Int) (k : (List (List Int)) → Option Q) : Option Q :=
    let z_1 : List Int := (subn (List.length list0) list0 0 (List.length list0))
    let z_2 : List Int := (z_1 ++ [rest1_0])
    let z_3 : Nat := (List.length z_2)
    let z_4 := (k37_p (subn z_3 z_2 0 z_3) rest1_1)
    let z_5 : Int := (IntKind.wrap .i64 (rest1_0 - (1 : Int)))
    let z_6 : List Int := (z_1 ++ [z_5, z_5])
    let z_7 : Nat := (List.length z_6)
    let z_8 : Nat := (List.length (Option.getD z_4 default))
    let z_9 := (k38_p (subn z_7 z_6 0 z_7) rest1_1 (Option.getD z_4 default))
    bif (decide ((4 : Int) < (((List.length list0) : Nat) : Int))) then
    k ([] : List (List Int))
    else bif (fits (List.length list0) 8) then
    bif (fits z_3 8) then
    bif (Option.isSome z_4) then
    bif (decide ((1 : Int) < rest1_0)) then
    bif (fits (List.length list0) 8) then
    bif (fits z_7 8) then
    bif ((Nat.beq z_8 z_8) && (Option.isSome z_9)) then
    k (Option.getD z_9 default)
    else none
    else none
    else none
    else k (Option.getD z_4 default)
    else none
    else none
    else none
def k39_p (list0 : List Int) (rest1_0 : Int) (rest1_1 : Int) : Option (List (List Int)) := k39_c _ list0 rest1_0 rest1_1 some
theorem k39_cp (Q : Type) (list0 : List Int) (rest1_0 : Int) (rest1_1 : Int) (k : (List (List Int)) → Option Q) : k39_c Q list0 rest1_0 rest1_1 k = (k39_p list0 rest1_0 rest1_1).bind k := by
  simp only [k39_p, k39_c, u004, u003, u008]
def k40_c (Q : Type) (list2 : List Int) (rest3_0 : Int) (rest3_1 : Int) (w6 : List (List Int)) (k : (List (List Int)) → Option Q) : Option Q :=
    let z_1 : List Int := (subn (List.length list2) list2 0 (List.length list2))
    let z_2 : List Int := (z_1 ++ [rest3_0])
    let z_3 : Nat := (List.length z_2)
    let z_4 := (k38_p (subn z_3 z_2 0 z_3) rest3_1 w6)
    let z_5 : Int := (IntKind.wrap .i64 (rest3_0 - (1 : Int)))
    let z_6 : List Int := (z_1 ++ [z_5, z_5])
    let z_7 : Nat := (List.length z_6)
    let z_8 : Nat := (List.length (Option.getD z_4 default))
    let z_9 := (k38_p (subn z_7 z_6 0 z_7) rest3_1 (Option.getD z_4 default))
    bif (decide ((4 : Int) < (((List.length list2) : Nat) : Int))) then
    k w6
    else bif (fits (List.length list2) 8) then
    bif (fits z_3 8) then
    bif ((Nat.beq (List.length w6) (List.length w6)) && (Option.isSome z_4)) then
    bif (decide ((1 : Int) < rest3_0)) then
    bif (fits (List.length list2) 8) then
    bif (fits z_7 8) then
    bif ((Nat.beq z_8 z_8) && (Option.isSome z_9)) then
    k (Option.getD z_9 default)
    else none
    else none
    else none
    else k (Option.getD z_4 default)
    else none
    else none
    else none
def k40_p (list2 : List Int) (rest3_0 : Int) (rest3_1 : Int) (w6 : List (List Int)) : Option (List (List Int)) := k40_c _ list2 rest3_0 rest3_1 w6 some
theorem k40_cp (Q : Type) (list2 : List Int) (rest3_0 : Int) (rest3_1 : Int) (w6 : List (List Int)) (k : (List (List Int)) → Option Q) : k40_c Q list2 rest3_0 rest3_1 w6 k = (k40_p list2 rest3_0 rest3_1 w6).bind k := by
  simp only [k40_p, k40_c, u004, u003, u008]
def k62_c (Q : Type) (rest0_0 : Int) (rest0_1 : Int) (rest0_2 : Int) (k : (List (List Int)) → Option Q) : Option Q :=
    let z_1 := (k39_p [rest0_0] rest0_1 rest0_2)
    let z_2 : Nat := (List.length (Option.getD z_1 default))
    let z_3 : Int := (IntKind.wrap .i64 (rest0_0 - (1 : Int)))
    let z_4 := (k40_p [z_3, z_3] rest0_1 rest0_2 (Option.getD z_1 default))
    bif (Option.isSome z_1) then
    bif (decide ((1 : Int) < rest0_0)) then
    bif ((Nat.beq z_2 z_2) && (Option.isSome z_4)) then
    k (Option.getD z_4 default)
    else none
    else k (Option.getD z_1 default)
    else none
def k62_p (rest0_0 : Int) (rest0_1 : Int) (rest0_2 : Int) : Option (List (List Int)) := k62_c _ rest0_0 rest0_1 rest0_2 some
theorem k62_cp (Q : Type) (rest0_0 : Int) (rest0_1 : Int) (rest0_2 : Int) (k : (List (List Int)) → Option Q) : k62_c Q rest0_0 rest0_1 rest0_2 k = (k62_p rest0_0 rest0_1 rest0_2).bind k := by
  simp only [k62_p, k62_c, u004, u003, u008]
def k41_c (Q : Type) (list0 : List Int) (rest1_0 : Int) (rest1_1 : Int) (rest1_2 : Int) (k : (List (List Int)) → Option Q) : Option Q :=
    let z_1 : List Int := (subn (List.length list0) list0 0 (List.length list0))
    let z_2 : List Int := (z_1 ++ [rest1_0])
    let z_3 : Nat := (List.length z_2)
    let z_4 := (k39_p (subn z_3 z_2 0 z_3) rest1_1 rest1_2)
    let z_5 : Int := (IntKind.wrap .i64 (rest1_0 - (1 : Int)))
    let z_6 : List Int := (z_1 ++ [z_5, z_5])
    let z_7 : Nat := (List.length z_6)
    let z_8 : Nat := (List.length (Option.getD z_4 default))
    let z_9 := (k40_p (subn z_7 z_6 0 z_7) rest1_1 rest1_2 (Option.getD z_4 default))
    bif (decide ((4 : Int) < (((List.length list0) : Nat) : Int))) then
    k ([] : List (List Int))
    else bif (fits (List.length list0) 8) then
    bif (fits z_3 8) then
    bif (Option.isSome z_4) then
    bif (decide ((1 : Int) < rest1_0)) then
    bif (fits (List.length list0) 8) then
    bif (fits z_7 8) then
    bif ((Nat.beq z_8 z_8) && (Option.isSome z_9)) then
    k (Option.getD z_9 default)
    else none
    else none
    else none
    else k (Option.getD z_4 default)
    else none
    else none
    else none
def k41_p (list0 : List Int) (rest1_0 : Int) (rest1_1 : Int) (rest1_2 : Int) : Option (List (List Int)) := k41_c _ list0 rest1_0 rest1_1 rest1_2 some
theorem k41_cp (Q : Type) (list0 : List Int) (rest1_0 : Int) (rest1_1 : Int) (rest1_2 : Int) (k : (List (List Int)) → Option Q) : k41_c Q list0 rest1_0 rest1_1 rest1_2 k = (k41_p list0 rest1_0 rest1_1 rest1_2).bind k := by
  simp only [k41_p, k41_c, u004, u003, u008]
def k42_c (Q : Type) (list2 : List Int) (rest3_0 : Int) (rest3_1 : Int) (rest3_2 : Int) (w6 : List (List Int)) (k : (List (List Int)) → Option Q) : Option Q :=
    let z_1 : List Int := (subn (List.length list2) list2 0 (List.length list2))
    let z_2 : List Int := (z_1 ++ [rest3_0])
    let z_3 : Nat := (List.length z_2)
    let z_4 := (k40_p (subn z_3 z_2 0 z_3) rest3_1 rest3_2 w6)
    let z_5 : Int := (IntKind.wrap .i64 (rest3_0 - (1 : Int)))
    let z_6 : List Int := (z_1 ++ [z_5, z_5])
    let z_7 : Nat := (List.length z_6)
    let z_8 : Nat := (List.length (Option.getD z_4 default))
    let z_9 := (k40_p (subn z_7 z_6 0 z_7) rest3_1 rest3_2 (Option.getD z_4 default))
    bif (decide ((4 : Int) < (((List.length list2) : Nat) : Int))) then
    k w6
    else bif (fits (List.length list2) 8) then
    bif (fits z_3 8) then
    bif ((Nat.beq (List.length w6) (List.length w6)) && (Option.isSome z_4)) then
    bif (decide ((1 : Int) < rest3_0)) then
    bif (fits (List.length list2) 8) then
    bif (fits z_7 8) then
    bif ((Nat.beq z_8 z_8) && (Option.isSome z_9)) then
    k (Option.getD z_9 default)
    else none
    else none
    else none
    else k (Option.getD z_4 default)
    else none
    else none
    else none
def k42_p (list2 : List Int) (rest3_0 : Int) (rest3_1 : Int) (rest3_2 : Int) (w6 : List (List Int)) : Option (List (List Int)) := k42_c _ list2 rest3_0 rest3_1 rest3_2 w6 some
theorem k42_cp (Q : Type) (list2 : List Int) (rest3_0 : Int) (rest3_1 : Int) (rest3_2 : Int) (w6 : List (List Int)) (k : (List (List Int)) → Option Q) : k42_c Q list2 rest3_0 rest3_1 rest3_2 w6 k = (k42_p list2 rest3_0 rest3_1 rest3_2 w6).bind k := by
  simp only [k42_p, k42_c, u004, u003, u008]
def k63_c (Q : Type) (rest0_0 : Int) (rest0_1 : Int) (rest0_2 : Int) (rest0_3 : Int) (k : (List (List Int)) → Option Q) : Option Q :=
    let z_1 := (k41_p [rest0_0] rest0_1 rest0_2 rest0_3)
    let z_2 : Nat := (List.length (Option.getD z_1 default))
    let z_3 : Int := (IntKind.wrap .i64 (rest0_0 - (1 : Int)))
    let z_4 := (k42_p [z_3, z_3] rest0_1 rest0_2 rest0_3 (Option.getD z_1 default))
    bif (Option.isSome z_1) then
    bif (decide ((1 : Int) < rest0_0)) then
    bif ((Nat.beq z_2 z_2) && (Option.isSome z_4)) then
    k (Option.getD z_4 default)
    else none
    else k (Option.getD z_1 default)
    else none
def k63_p (rest0_0 : Int) (rest0_1 : Int) (rest0_2 : Int) (rest0_3 : Int) : Option (List (List Int)) := k63_c _ rest0_0 rest0_1 rest0_2 rest0_3 some
theorem k63_cp (Q : Type) (rest0_0 : Int) (rest0_1 : Int) (rest0_2 : Int) (rest0_3 : Int) (k : (List (List Int)) → Option Q) : k63_c Q rest0_0 rest0_1 rest0_2 rest0_3 k = (k63_p rest0_0 rest0_1 rest0_2 rest0_3).bind k := by
  simp only [k63_p, k63_c, u004, u003, u008]
def k118_c (Q : Type) (vg : List Int) (k : (List (List Int)) → Option Q) : Option Q :=
    let z_1 := (k61_p (iget vg 0) (iget vg 1))
    let z_2 := (k62_p (iget vg 0) (iget vg 1) (iget vg 2))
    let z_3 := (k63_p (iget vg 0) (iget vg 1) (iget vg 2) (iget vg 3))
    bif (Nat.beq (List.length vg) 0) then
    k [([] : List Int)]
    else bif (Nat.beq (List.length vg) 1) then
    bif (Option.isSome (k60_p (iget vg 0))) then
    k (Option.getD (k60_p (iget vg 0)) default)
    else none
    else bif (Nat.beq (List.length vg) 2) then
    bif (Option.isSome z_1) then
    k (Option.getD z_1 default)
    else none
    else bif (Nat.beq (List.length vg) 3) then
    bif (Option.isSome z_2) then
    k (Option.getD z_2 default)
    else none
    else bif (Nat.beq (List.length vg) 4) then
    bif (Option.isSome z_3) then
    k (Option.getD z_3 default)
    else none
    else none
def k118_p (vg : List Int) : Option (List (List Int)) := k118_c _ vg some
theorem k118_cp (Q : Type) (vg : List Int) (k : (List (List Int)) → Option Q) : k118_c Q vg k = (k118_p vg).bind k := by
  simp only [k118_p, k118_c, u004, u003, u008]
def k121_c (Q : Type) (t0 : Int) (k : (Int) → Option Q) : Option Q :=
    bif (t0 == (0 : Int)) then
    k (0 : Int)
    else bif (decide (t0 < (0 : Int))) then
    none
    else k (IntKind.wrap .i64 ((1 : Int) * (2 ^ (min (Int.toNat t0) (IntKind.bits .i64)) : Int)))
def k121_p (t0 : Int) : Option (Int) := k121_c _ t0 some
theorem k121_cp (Q : Type) (t0 : Int) (k : (Int) → Option Q) : k121_c Q t0 k = (k121_p t0).bind k := by
  simp only [k121_p, k121_c, u004, u003, u008]
def k83_s3 (F : Nat) (wp : Nat) (vp : Int) (yq : List Int) (Q : Type) : (Int × Int × Int × List Int × List Bool) → ((Int × Int × Int × List Int × List Bool) → Option Q) → ((Int × List Int × List Bool) → Option Q) → Option Q
  | (jk, vh, wv, vv, gj), kn, kx =>
    let z_1 : Int := (IntKind.wrap .i64 (vh - (1 : Int)))
    let z_2 : Bool := (inR z_1 4)
    let z_3 : Nat := ((0 : Nat) + ((Int.toNat z_1) * (1 : Nat)))
    let z_4 : Int := (iget yq ((0 : Nat) + (Int.toNat wv)))
    let z_5 : Int := (IntKind.wrap .i64 (z_4 + (1 : Int)))
    let z_6 : Int := (IntKind.wrap .i64 (wv + (1 : Int)))
    let z_7 : Int := (IntKind.wrap .i64 (vh + (1 : Int)))
    let z_8 : List Int := (iset vv ((0 : Nat) + ((Int.toNat vh) * (1 : Nat))) z_4)
    bif (decide (wv < vp)) then
    bif (inR wv wp) then
    bif (decide ((0 : Int) < vh)) then
    bif z_2 then
    bif ((iget vv z_3) == z_4) then
    bif (decide (z_4 < (17 : Int))) then
    bif z_2 then
    bif (!(bget gj z_3)) then
    bif (Option.isSome (k121_p z_5)) then
    bif z_2 then
    bif z_2 then
    kn ((IntKind.wrap .i64 (jk + (Option.getD (k121_p z_5) default))), vh, z_6, (iset vv z_3 z_5), (bset gj z_3 true))
    else none
    else none
    else none
    else bif (inR vh 4) then
    kn (jk, z_7, z_6, z_8, gj)
    else none
    else none
    else bif (inR vh 4) then
    kn (jk, z_7, z_6, z_8, gj)
    else none
    else bif (inR vh 4) then
    kn (jk, z_7, z_6, z_8, gj)
    else none
    else none
    else bif (inR vh 4) then
    kn (jk, z_7, z_6, z_8, gj)
    else none
    else none
    else kx (jk, vv, gj)
def k83_l3 (F : Nat) (wp : Nat) (vp : Int) (yq : List Int) (jk : Int) (vh : Int) (wv : Int) (vv : List Int) (gj : List Bool) : Option (Int × List Int × List Bool) := loopC (k83_s3 F wp vp yq) F (jk, vh, wv, vv, gj) some
theorem k83_s3_nat (F : Nat) (wp : Nat) (vp : Int) (yq : List Int) : u028 (k83_s3 F wp vp yq) := by
  intro Q Q' s kn kx h
  obtain ⟨jk, vh, wv, vv, gj⟩ := s
  simp only [k83_s3, u004, u003]
def k83_c (Q : Type) (F : Nat) (w4 : List Int) (k : (List Int × Int × List Bool) → Option Q) : Option Q :=
    let z_1 := (k120_p F w4)
    let z_2 := (Option.getD z_1 default)
    let z_3 := (k83_l3 F z_2.1 ((z_2.1 : Nat) : Int) z_2.2 (0 : Int) (0 : Int) (0 : Int) [(0 : Int), (0 : Int), (0 : Int), (0 : Int)] [false, false, false, false])
    let z_4 := (Option.getD z_3 default)
    bif (Option.isSome z_1) then
    bif (Option.isSome z_3) then
    k (z_4.2.1, z_4.1, z_4.2.2)
    else none
    else none
def k83_p (F : Nat) (w4 : List Int) : Option (List Int × Int × List Bool) := k83_c _ F w4 some
theorem k83_cp (Q : Type) (F : Nat) (w4 : List Int) (k : (List Int × Int × List Bool) → Option Q) : k83_c Q F w4 k = (k83_p F w4).bind k := by
  simp only [k83_p, k83_c, u004, u003, u008]
def k75_c (Q : Type) (x0 : Int) (k : (Bool) → Option Q) : Option Q :=
    k (!(x0 == x0))
def k75_v (x0 : Int) : Bool :=
    (!(x0 == x0))
theorem k75_cv (Q : Type) (x0 : Int) (k : (Bool) → Option Q) : k75_c Q x0 k = k (k75_v x0) := by
  simp only [k75_c, k75_v, u067 k]
def k54_c (Q : Type) (x0 : Int) (y1 : Int) (k : (Int) → Option Q) : Option Q :=
    bif (k75_v x0) then
    bif (k75_v y1) then
    k (0 : Int)
    else k (-1 : Int)
    else bif (k75_v y1) then
    k (1 : Int)
    else bif (decide (x0 < y1)) then
    k (-1 : Int)
    else bif (decide (y1 < x0)) then
    k (1 : Int)
    else k (0 : Int)
def k54_v (x0 : Int) (y1 : Int) : Int :=
    bif (k75_v x0) then
    bif (k75_v y1) then
    (0 : Int)
    else (-1 : Int)
    else bif (k75_v y1) then
    (1 : Int)
    else bif (decide (x0 < y1)) then
    (-1 : Int)
    else bif (decide (y1 < x0)) then
    (1 : Int)
    else (0 : Int)
theorem k54_cv (Q : Type) (x0 : Int) (y1 : Int) (k : (Int) → Option Q) : k54_c Q x0 y1 k = k (k54_v x0 y1) := by
  simp only [k54_c, k54_v, u067 k]
end Go.Lv.P
