/-
Pure functions and what the code of them does, by program; without conditions.
-/
import Derived.Test.YtkhccaoancfeoaaQsP2
namespace Go.Lv.P
open Go Go.Lv
set_option linter.unusedVariables false
set_option linter.unusedSimpArgs false
set_option maxRecDepth 100000
/-- loop.example/g01194/impl.apart -/
def impl_apart_len1_c (Q : Type) (rest0_0 : Int) (k : (List (List Int)) → Option Q) : Option Q :=
    let z_1 : Nat := (List.length (Option.getD (impl_apart_len0_2_p [rest0_0]) default))
    let z_2 : Int := (IntKind.wrap .i64 (rest0_0 - (1 : Int)))
    let z_3 := (impl_apart_len0_3_p [z_2, z_2] (Option.getD (impl_apart_len0_2_p [rest0_0]) default))
    bif (Option.isSome (impl_apart_len0_2_p [rest0_0])) then
    bif (decide ((1 : Int) < rest0_0)) then
    bif ((Nat.beq z_1 z_1) && (Option.isSome z_3)) then
    k (Option.getD z_3 default)
    else none
    else k (Option.getD (impl_apart_len0_2_p [rest0_0]) default)
    else none
def impl_apart_len1_p (rest0_0 : Int) : Option (List (List Int)) := impl_apart_len1_c _ rest0_0 some
theorem impl_apart_len1_cp (Q : Type) (rest0_0 : Int) (k : (List (List Int)) → Option Q) : impl_apart_len1_c Q rest0_0 k = (impl_apart_len1_p rest0_0).bind k := by
  simp only [impl_apart_len1_p, impl_apart_len1_c, cond_bindL, none_bindL, some_bindL]

/-- loop.example/g01194/impl.apart -/
def impl_apart_len1_2_c (Q : Type) (list0 : List Int) (rest1_0 : Int) (k : (List (List Int)) → Option Q) : Option Q :=
    let z_1 : List Int := (subn (List.length list0) list0 0 (List.length list0))
    let z_2 : List Int := (z_1 ++ [rest1_0])
    let z_3 : Nat := (List.length z_2)
    let z_4 : Int := (IntKind.wrap .i64 (rest1_0 - (1 : Int)))
    let z_5 : List Int := (z_1 ++ [z_4, z_4])
    let z_6 : Nat := (List.length z_5)
    let z_7 : Nat := (List.length (Option.getD (impl_apart_len0_2_p (subn z_3 z_2 0 z_3)) default))
    let z_8 := (impl_apart_len0_3_p (subn z_6 z_5 0 z_6) (Option.getD (impl_apart_len0_2_p (subn z_3 z_2 0 z_3)) default))
    bif (decide ((4 : Int) < (((List.length list0) : Nat) : Int))) then
    k ([] : List (List Int))
    else bif (fits (List.length list0) 8) then
    bif (fits z_3 8) then
    bif (Option.isSome (impl_apart_len0_2_p (subn z_3 z_2 0 z_3))) then
    bif (decide ((1 : Int) < rest1_0)) then
    bif (fits (List.length list0) 8) then
    bif (fits z_6 8) then
    bif ((Nat.beq z_7 z_7) && (Option.isSome z_8)) then
    k (Option.getD z_8 default)
    else none
    else none
    else none
    else k (Option.getD (impl_apart_len0_2_p (subn z_3 z_2 0 z_3)) default)
    else none
    else none
    else none
def impl_apart_len1_2_p (list0 : List Int) (rest1_0 : Int) : Option (List (List Int)) := impl_apart_len1_2_c _ list0 rest1_0 some
theorem impl_apart_len1_2_cp (Q : Type) (list0 : List Int) (rest1_0 : Int) (k : (List (List Int)) → Option Q) : impl_apart_len1_2_c Q list0 rest1_0 k = (impl_apart_len1_2_p list0 rest1_0).bind k := by
  simp only [impl_apart_len1_2_p, impl_apart_len1_2_c, cond_bindL, none_bindL, some_bindL]

/-- loop.example/g01194/impl.apart -/
def impl_apart_len1_3_c (Q : Type) (list2 : List Int) (rest3_0 : Int) (out4 : List (List Int)) (k : (List (List Int)) → Option Q) : Option Q :=
    let z_1 : List Int := (subn (List.length list2) list2 0 (List.length list2))
    let z_2 : List Int := (z_1 ++ [rest3_0])
    let z_3 : Nat := (List.length z_2)
    let z_4 := (impl_apart_len0_3_p (subn z_3 z_2 0 z_3) out4)
    let z_5 : Int := (IntKind.wrap .i64 (rest3_0 - (1 : Int)))
    let z_6 : List Int := (z_1 ++ [z_5, z_5])
    let z_7 : Nat := (List.length z_6)
    let z_8 : Nat := (List.length (Option.getD z_4 default))
    let z_9 := (impl_apart_len0_3_p (subn z_7 z_6 0 z_7) (Option.getD z_4 default))
    bif (decide ((4 : Int) < (((List.length list2) : Nat) : Int))) then
    k out4
    else bif (fits (List.length list2) 8) then
    bif (fits z_3 8) then
    bif ((Nat.beq (List.length out4) (List.length out4)) && (Option.isSome z_4)) then
    bif (decide ((1 : Int) < rest3_0)) then
    bif (fits (List.length list2) 8) then
    bif (fits z_7 8) then
    bif ((Nat.beq z_8 z_8) && (Option.isSome z_9)) then
    k (Option.getD z_9 default)
    else none
    else none
    else none
    else k (Option.getD z_4 default)
    else none
    else none
    else none
def impl_apart_len1_3_p (list2 : List Int) (rest3_0 : Int) (out4 : List (List Int)) : Option (List (List Int)) := impl_apart_len1_3_c _ list2 rest3_0 out4 some
theorem impl_apart_len1_3_cp (Q : Type) (list2 : List Int) (rest3_0 : Int) (out4 : List (List Int)) (k : (List (List Int)) → Option Q) : impl_apart_len1_3_c Q list2 rest3_0 out4 k = (impl_apart_len1_3_p list2 rest3_0 out4).bind k := by
  simp only [impl_apart_len1_3_p, impl_apart_len1_3_c, cond_bindL, none_bindL, some_bindL]

/-- loop.example/g01194/impl.apart -/
def impl_apart_len2_c (Q : Type) (rest0_0 : Int) (rest0_1 : Int) (k : (List (List Int)) → Option Q) : Option Q :=
    let z_1 := (impl_apart_len1_2_p [rest0_0] rest0_1)
    let z_2 : Nat := (List.length (Option.getD z_1 default))
    let z_3 : Int := (IntKind.wrap .i64 (rest0_0 - (1 : Int)))
    let z_4 := (impl_apart_len1_3_p [z_3, z_3] rest0_1 (Option.getD z_1 default))
    bif (Option.isSome z_1) then
    bif (decide ((1 : Int) < rest0_0)) then
    bif ((Nat.beq z_2 z_2) && (Option.isSome z_4)) then
    k (Option.getD z_4 default)
    else none
    else k (Option.getD z_1 default)
    else none
def impl_apart_len2_p (rest0_0 : Int) (rest0_1 : Int) : Option (List (List Int)) := impl_apart_len2_c _ rest0_0 rest0_1 some
theorem impl_apart_len2_cp (Q : Type) (rest0_0 : Int) (rest0_1 : Int) (k : (List (List Int)) → Option Q) : impl_apart_len2_c Q rest0_0 rest0_1 k = (impl_apart_len2_p rest0_0 rest0_1).bind k := by
  simp only [impl_apart_len2_p, impl_apart_len2_c, cond_bindL, none_bindL, some_bindL]

/-- loop.example/g01194/impl.apart -/
def impl_apart_len2_2_c (Q : Type) (list0 : List Int) (rest1_0 : Int) (rest1_1 : Int) (k : (List (List Int)) → Option Q) : Option Q :=
    let z_1 : List Int := (subn (List.length list0) list0 0 (List.length list0))
    let z_2 : List Int := (z_1 ++ [rest1_0])
    let z_3 : Nat := (List.length z_2)
    let z_4 := (impl_apart_len1_2_p (subn z_3 z_2 0 z_3) rest1_1)
    let z_5 : Int := (IntKind.wrap .i64 (rest1_0 - (1 : Int)))
    let z_6 : List Int := (z_1 ++ [z_5, z_5])
    let z_7 : Nat := (List.length z_6)
    let z_8 : Nat := (List.length (Option.getD z_4 default))
    let z_9 := (impl_apart_len1_3_p (subn z_7 z_6 0 z_7) rest1_1 (Option.getD z_4 default))
    bif (decide ((4 : Int) < (((List.length list0) : Nat) : Int))) then
    k ([] : List (List Int))
    else bif (fits (List.length list0) 8) then
    bif (fits z_3 8) then
    bif (Option.isSome z_4) then
    bif (decide ((1 : Int) < rest1_0)) then
    bif (fits (List.length list0) 8) then
    bif (fits z_7 8) then
    bif ((Nat.beq z_8 z_8) && (Option.isSome z_9)) then
    k (Option.getD z_9 default)
    else none
    else none
    else none
    else k (Option.getD z_4 default)
    else none
    else none
    else none
def impl_apart_len2_2_p (list0 : List Int) (rest1_0 : Int) (rest1_1 : Int) : Option (List (List Int)) := impl_apart_len2_2_c _ list0 rest1_0 rest1_1 some
theorem impl_apart_len2_2_cp (Q : Type) (list0 : List Int) (rest1_0 : Int) (rest1_1 : Int) (k : (List (List Int)) → Option Q) : impl_apart_len2_2_c Q list0 rest1_0 rest1_1 k = (impl_apart_len2_2_p list0 rest1_0 rest1_1).bind k := by
  simp only [impl_apart_len2_2_p, impl_apart_len2_2_c, cond_bindL, none_bindL, some_bindL]

/-- loop.example/g01194/impl.apart -/
def impl_apart_len2_3_c (Q : Type) (list2 : List Int) (rest3_0 : Int) (rest3_1 : Int) (out4 : List (List Int)) (k : (List (List Int)) → Option Q) : Option Q :=
    let z_1 : List Int := (subn (List.length list2) list2 0 (List.length list2))
    let z_2 : List Int := (z_1 ++ [rest3_0])
    let z_3 : Nat := (List.length z_2)
    let z_4 := (impl_apart_len1_3_p (subn z_3 z_2 0 z_3) rest3_1 out4)
    let z_5 : Int := (IntKind.wrap .i64 (rest3_0 - (1 : Int)))
    let z_6 : List Int := (z_1 ++ [z_5, z_5])
    let z_7 : Nat := (List.length z_6)
    let z_8 : Nat := (List.length (Option.getD z_4 default))
    let z_9 := (impl_apart_len1_3_p (subn z_7 z_6 0 z_7) rest3_1 (Option.getD z_4 default))
    bif (decide ((4 : Int) < (((List.length list2) : Nat) : Int))) then
    k out4
    else bif (fits (List.length list2) 8) then
    bif (fits z_3 8) then
    bif ((Nat.beq (List.length out4) (List.length out4)) && (Option.isSome z_4)) then
    bif (decide ((1 : Int) < rest3_0)) then
    bif (fits (List.length list2) 8) then
    bif (fits z_7 8) then
    bif ((Nat.beq z_8 z_8) && (Option.isSome z_9)) then
    k (Option.getD z_9 default)
    else none
    else none
    else none
    else k (Option.getD z_4 default)
    else none
    else none
    else none
def impl_apart_len2_3_p (list2 : List Int) (rest3_0 : Int) (rest3_1 : Int) (out4 : List (List Int)) : Option (List (List Int)) := impl_apart_len2_3_c _ list2 rest3_0 rest3_1 out4 some
theorem impl_apart_len2_3_cp (Q : Type) (list2 : List Int) (rest3_0 : Int) (rest3_1 : Int) (out4 : List (List Int)) (k : (List (List Int)) → Option Q) : impl_apart_len2_3_c Q list2 rest3_0 rest3_1 out4 k = (impl_apart_len2_3_p list2 rest3_0 rest3_1 out4).bind k := by
  simp only [impl_apart_len2_3_p, impl_apart_len2_3_c, cond_bindL, none_bindL, some_bindL]

/-- loop.example/g01194/impl.apart -/
def impl_apart_len3_c (Q : Type) (rest0_0 : Int) (rest0_1 : Int) (rest0_2 : Int) (k : (List (List Int)) → Option Q) : Option Q :=
    let z_1 := (impl_apart_len2_2_p [rest0_0] rest0_1 rest0_2)
    let z_2 : Nat := (List.length (Option.getD z_1 default))
    let z_3 : Int := (IntKind.wrap .i64 (rest0_0 - (1 : Int)))
    let z_4 := (impl_apart_len2_3_p [z_3, z_3] rest0_1 rest0_2 (Option.getD z_1 default))
    bif (Option.isSome z_1) then
    bif (decide ((1 : Int) < rest0_0)) then
    bif ((Nat.beq z_2 z_2) && (Option.isSome z_4)) then
    k (Option.getD z_4 default)
    else none
    else k (Option.getD z_1 default)
    else none
def impl_apart_len3_p (rest0_0 : Int) (rest0_1 : Int) (rest0_2 : Int) : Option (List (List Int)) := impl_apart_len3_c _ rest0_0 rest0_1 rest0_2 some
theorem impl_apart_len3_cp (Q : Type) (rest0_0 : Int) (rest0_1 : Int) (rest0_2 : Int) (k : (List (List Int)) → Option Q) : impl_apart_len3_c Q rest0_0 rest0_1 rest0_2 k = (impl_apart_len3_p rest0_0 rest0_1 rest0_2).bind k := by
  simp only [impl_apart_len3_p, impl_apart_len3_c, cond_bindL, none_bindL, some_bindL]

/-- loop.example/g01194/impl.apart -/
def impl_apart_len3_2_c (Q : Type) (list0 : List Int) (rest1_0 : Int) (rest1_1 : Int) (rest1_2 : Int) (k : (List (List Int)) → Option Q) : Option Q :=
    let z_1 : List Int := (subn (List.length list0) list0 0 (List.length list0))
    let z_2 : List Int := (z_1 ++ [rest1_0])
    let z_3 : Nat := (List.length z_2)
    let z_4 := (impl_apart_len2_2_p (subn z_3 z_2 0 z_3) rest1_1 rest1_2)
    let z_5 : Int := (IntKind.wrap .i64 (rest1_0 - (1 : Int)))
    let z_6 : List Int := (z_1 ++ [z_5, z_5])
    let z_7 : Nat := (List.length z_6)
    let z_8 : Nat := (List.length (Option.getD z_4 default))
    let z_9 := (impl_apart_len2_3_p (subn z_7 z_6 0 z_7) rest1_1 rest1_2 (Option.getD z_4 default))
    bif (decide ((4 : Int) < (((List.length list0) : Nat) : Int))) then
    k ([] : List (List Int))
    else bif (fits (List.length list0) 8) then
    bif (fits z_3 8) then
    bif (Option.isSome z_4) then
    bif (decide ((1 : Int) < rest1_0)) then
    bif (fits (List.length list0) 8) then
    bif (fits z_7 8) then
    bif ((Nat.beq z_8 z_8) && (Option.isSome z_9)) then
    k (Option.getD z_9 default)
    else none
    else none
    else none
    else k (Option.getD z_4 default)
    else none
    else none
    else none
def impl_apart_len3_2_p (list0 : List Int) (rest1_0 : Int) (rest1_1 : Int) (rest1_2 : Int) : Option (List (List Int)) := impl_apart_len3_2_c _ list0 rest1_0 rest1_1 rest1_2 some
theorem impl_apart_len3_2_cp (Q : Type) (list0 : List Int) (rest1_0 : Int) (rest1_1 : Int) (rest1_2 : Int) (k : (List (List Int)) → Option Q) : impl_apart_len3_2_c Q list0 rest1_0 rest1_1 rest1_2 k = (impl_apart_len3_2_p list0 rest1_0 rest1_1 rest1_2).bind k := by
  simp only [impl_apart_len3_2_p, impl_apart_len3_2_c, cond_bindL, none_bindL, some_bindL]

/-- loop.example/g01194/impl.apart -/
def impl_apart_len3_3_c (Q : Type) (list2 : List Int) (rest3_0 : Int) (rest3_1 : Int) (rest3_2 : Int) (out4 : List (List Int)) (k : (List (List Int)) → Option Q) : Option Q :=
    let z_1 : List Int := (subn (List.length list2) list2 0 (List.length list2))
    let z_2 : List Int := (z_1 ++ [rest3_0])
    let z_3 : Nat := (List.length z_2)
    let z_4 := (impl_apart_len2_3_p (subn z_3 z_2 0 z_3) rest3_1 rest3_2 out4)
    let z_5 : Int := (IntKind.wrap .i64 (rest3_0 - (1 : Int)))
    let z_6 : List Int := (z_1 ++ [z_5, z_5])
    let z_7 : Nat := (List.length z_6)
    let z_8 : Nat := (List.length (Option.getD z_4 default))
    let z_9 := (impl_apart_len2_3_p (subn z_7 z_6 0 z_7) rest3_1 rest3_2 (Option.getD z_4 default))
    bif (decide ((4 : Int) < (((List.length list2) : Nat) : Int))) then
    k out4
    else bif (fits (List.length list2) 8) then
    bif (fits z_3 8) then
    bif ((Nat.beq (List.length out4) (List.length out4)) && (Option.isSome z_4)) then
    bif (decide ((1 : Int) < rest3_0)) then
    bif (fits (List.length list2) 8) then
    bif (fits z_7 8) then
    bif ((Nat.beq z_8 z_8) && (Option.isSome z_9)) then
    k (Option.getD z_9 default)
    else none
    else none
    else none
    else k (Option.getD z_4 default)
    else none
    else none
    else none
def impl_apart_len3_3_p (list2 : List Int) (rest3_0 : Int) (rest3_1 : Int) (rest3_2 : Int) (out4 : List (List Int)) : Option (List (List Int)) := impl_apart_len3_3_c _ list2 rest3_0 rest3_1 rest3_2 out4 some
theorem impl_apart_len3_3_cp (Q : Type) (list2 : List Int) (rest3_0 : Int) (rest3_1 : Int) (rest3_2 : Int) (out4 : List (List Int)) (k : (List (List Int)) → Option Q) : impl_apart_len3_3_c Q list2 rest3_0 rest3_1 rest3_2 out4 k = (impl_apart_len3_3_p list2 rest3_0 rest3_1 rest3_2 out4).bind k := by
  simp only [impl_apart_len3_3_p, impl_apart_len3_3_c, cond_bindL, none_bindL, some_bindL]

/-- loop.example/g01194/impl.apart -/
def impl_apart_len4_c (Q : Type) (rest0_0 : Int) (rest0_1 : Int) (rest0_2 : Int) (rest0_3 : Int) (k : (List (List Int)) → Option Q) : Option Q :=
    let z_1 := (impl_apart_len3_2_p [rest0_0] rest0_1 rest0_2 rest0_3)
    let z_2 : Nat := (List.length (Option.getD z_1 default))
    let z_3 : Int := (IntKind.wrap .i64 (rest0_0 - (1 : Int)))
    let z_4 := (impl_apart_len3_3_p [z_3, z_3] rest0_1 rest0_2 rest0_3 (Option.getD z_1 default))
    bif (Option.isSome z_1) then
    bif (decide ((1 : Int) < rest0_0)) then
    bif ((Nat.beq z_2 z_2) && (Option.isSome z_4)) then
    k (Option.getD z_4 default)
    else none
    else k (Option.getD z_1 default)
    else none
def impl_apart_len4_p (rest0_0 : Int) (rest0_1 : Int) (rest0_2 : Int) (rest0_3 : Int) : Option (List (List Int)) := impl_apart_len4_c _ rest0_0 rest0_1 rest0_2 rest0_3 some
theorem impl_apart_len4_cp (Q : Type) (rest0_0 : Int) (rest0_1 : Int) (rest0_2 : Int) (rest0_3 : Int) (k : (List (List Int)) → Option Q) : impl_apart_len4_c Q rest0_0 rest0_1 rest0_2 rest0_3 k = (impl_apart_len4_p rest0_0 rest0_1 rest0_2 rest0_3).bind k := by
  simp only [impl_apart_len4_p, impl_apart_len4_c, cond_bindL, none_bindL, some_bindL]

/-- loop.example/g01194/impl.apart -/
def impl_apart_c (Q : Type) (rest0 : List Int) (k : (List (List Int)) → Option Q) : Option Q :=
    let z_1 := (impl_apart_len2_p (iget rest0 0) (iget rest0 1))
    let z_2 := (impl_apart_len3_p (iget rest0 0) (iget rest0 1) (iget rest0 2))
    let z_3 := (impl_apart_len4_p (iget rest0 0) (iget rest0 1) (iget rest0 2) (iget rest0 3))
    bif (Nat.beq (List.length rest0) 0) then
    k [([] : List Int)]
    else bif (Nat.beq (List.length rest0) 1) then
    bif (Option.isSome (impl_apart_len1_p (iget rest0 0))) then
    k (Option.getD (impl_apart_len1_p (iget rest0 0)) default)
    else none
    else bif (Nat.beq (List.length rest0) 2) then
    bif (Option.isSome z_1) then
    k (Option.getD z_1 default)
    else none
    else bif (Nat.beq (List.length rest0) 3) then
    bif (Option.isSome z_2) then
    k (Option.getD z_2 default)
    else none
    else bif (Nat.beq (List.length rest0) 4) then
    bif (Option.isSome z_3) then
    k (Option.getD z_3 default)
    else none
    else none
def impl_apart_p (rest0 : List Int) : Option (List (List Int)) := impl_apart_c _ rest0 some
theorem impl_apart_cp (Q : Type) (rest0 : List Int) (k : (List (List Int)) → Option Q) : impl_apart_c Q rest0 k = (impl_apart_p rest0).bind k := by
  simp only [impl_apart_p, impl_apart_c, cond_bindL, none_bindL, some_bindL]

/-- loop.example/g01194/impl.worth -/
def impl_worth_c (Q : Type) (t0 : Int) (k : (Int) → Option Q) : Option Q :=
    bif (t0 == (0 : Int)) then
    k (0 : Int)
    else bif (decide (t0 < (0 : Int))) then
    none
    else k (IntKind.wrap .i64 ((1 : Int) * (2 ^ (min (Int.toNat t0) (IntKind.bits .i64)) : Int)))
def impl_worth_p (t0 : Int) : Option (Int) := impl_worth_c _ t0 some
theorem impl_worth_cp (Q : Type) (t0 : Int) (k : (Int) → Option Q) : impl_worth_c Q t0 k = (impl_worth_p t0).bind k := by
  simp only [impl_worth_p, impl_worth_c, cond_bindL, none_bindL, some_bindL]

/-- loop 3 of loop.example/g01194/impl.slideRow -/
def impl_slideRow_s3 (F : Nat) (t1415 : Nat) (t1516 : Int) (t1422 : List Int) (Q : Type) : (Int × Int × Int × List Int × List Bool) → ((Int × Int × Int × List Int × List Bool) → Option Q) → ((Int × List Int × List Bool) → Option Q) → Option Q
  | (score12, many13, t1617, out20, merged21), kn, kx =>
    let z_1 : Int := (IntKind.wrap .i64 (many13 - (1 : Int)))
    let z_2 : Bool := (inR z_1 4)
    let z_3 : Nat := ((0 : Nat) + ((Int.toNat z_1) * (1 : Nat)))
    let z_4 : Int := (iget t1422 ((0 : Nat) + (Int.toNat t1617)))
    let z_5 : Int := (IntKind.wrap .i64 (z_4 + (1 : Int)))
    let z_6 : Int := (IntKind.wrap .i64 (t1617 + (1 : Int)))
    let z_7 : Int := (IntKind.wrap .i64 (many13 + (1 : Int)))
    let z_8 : List Int := (iset out20 ((0 : Nat) + ((Int.toNat many13) * (1 : Nat))) z_4)
    bif (decide (t1617 < t1516)) then
    bif (inR t1617 t1415) then
    bif (decide ((0 : Int) < many13)) then
    bif z_2 then
    bif ((iget out20 z_3) == z_4) then
    bif (decide (z_4 < (17 : Int))) then
    bif z_2 then
    bif (!(bget merged21 z_3)) then
    bif (Option.isSome (impl_worth_p z_5)) then
    bif z_2 then
    bif z_2 then
    kn ((IntKind.wrap .i64 (score12 + (Option.getD (impl_worth_p z_5) default))), many13, z_6, (iset out20 z_3 z_5), (bset merged21 z_3 true))
    else none
    else none
    else none
    else bif (inR many13 4) then
    kn (score12, z_7, z_6, z_8, merged21)
    else none
    else none
    else bif (inR many13 4) then
    kn (score12, z_7, z_6, z_8, merged21)
    else none
    else bif (inR many13 4) then
    kn (score12, z_7, z_6, z_8, merged21)
    else none
    else none
    else bif (inR many13 4) then
    kn (score12, z_7, z_6, z_8, merged21)
    else none
    else none
    else kx (score12, out20, merged21)
def impl_slideRow_l3 (F : Nat) (t1415 : Nat) (t1516 : Int) (t1422 : List Int) (score12 : Int) (many13 : Int) (t1617 : Int) (out20 : List Int) (merged21 : List Bool) : Option (Int × List Int × List Bool) := loopC (impl_slideRow_s3 F t1415 t1516 t1422) F (score12, many13, t1617, out20, merged21) some
theorem impl_slideRow_s3_nat (F : Nat) (t1415 : Nat) (t1516 : Int) (t1422 : List Int) : Natural (impl_slideRow_s3 F t1415 t1516 t1422) := by
  intro Q Q' s kn kx h
  obtain ⟨score12, many13, t1617, out20, merged21⟩ := s
  simp only [impl_slideRow_s3, cond_bindL, none_bindL]
/-- loop.example/g01194/impl.slideRow -/
def impl_slideRow_c (Q : Type) (F : Nat) (row0 : List Int) (k : (List Int × Int × List Bool) → Option Q) : Option Q :=
    let z_1 := (impl_tiles_p F row0)
    let z_2 := (Option.getD z_1 default)
    let z_3 := (impl_slideRow_l3 F z_2.1 ((z_2.1 : Nat) : Int) z_2.2 (0 : Int) (0 : Int) (0 : Int) [(0 : Int), (0 : Int), (0 : Int), (0 : Int)] [false, false, false, false])
    let z_4 := (Option.getD z_3 default)
    bif (Option.isSome z_1) then
    bif (Option.isSome z_3) then
    k (z_4.2.1, z_4.1, z_4.2.2)
    else none
    else none
def impl_slideRow_p (F : Nat) (row0 : List Int) : Option (List Int × Int × List Bool) := impl_slideRow_c _ F row0 some
theorem impl_slideRow_cp (Q : Type) (F : Nat) (row0 : List Int) (k : (List Int × Int × List Bool) → Option Q) : impl_slideRow_c Q F row0 k = (impl_slideRow_p F row0).bind k := by
  simp only [impl_slideRow_p, impl_slideRow_c, cond_bindL, none_bindL, some_bindL]

/-- cmp.isNaN[int] -/
def cmp_isNaN_int_c (Q : Type) (x0 : Int) (k : (Bool) → Option Q) : Option Q :=
    k (!(x0 == x0))
def cmp_isNaN_int_v (x0 : Int) : Bool :=
    (!(x0 == x0))
theorem cmp_isNaN_int_cv (Q : Type) (x0 : Int) (k : (Bool) → Option Q) : cmp_isNaN_int_c Q x0 k = k (cmp_isNaN_int_v x0) := by
  simp only [cmp_isNaN_int_c, cmp_isNaN_int_v, app_condL k]

/-- cmp.Compare[int] -/
def cmp_Compare_int_c (Q : Type) (x0 : Int) (y1 : Int) (k : (Int) → Option Q) : Option Q :=
    bif (cmp_isNaN_int_v x0) then
    bif (cmp_isNaN_int_v y1) then
    k (0 : Int)
    else k (-1 : Int)
    else bif (cmp_isNaN_int_v y1) then
    k (1 : Int)
    else bif (decide (x0 < y1)) then
    k (-1 : Int)
    else bif (decide (y1 < x0)) then
    k (1 : Int)
    else k (0 : Int)
def cmp_Compare_int_v (x0 : Int) (y1 : Int) : Int :=
    bif (cmp_isNaN_int_v x0) then
    bif (cmp_isNaN_int_v y1) then
    (0 : Int)
    else (-1 : Int)
    else bif (cmp_isNaN_int_v y1) then
    (1 : Int)
    else bif (decide (x0 < y1)) then
    (-1 : Int)
    else bif (decide (y1 < x0)) then
    (1 : Int)
    else (0 : Int)
theorem cmp_Compare_int_cv (Q : Type) (x0 : Int) (y1 : Int) (k : (Int) → Option Q) : cmp_Compare_int_c Q x0 y1 k = k (cmp_Compare_int_v x0 y1) := by
  simp only [cmp_Compare_int_c, cmp_Compare_int_v, app_condL k]

/-- loop 2 of slices.Compare[[]int,int] -/
def slices_Compare_intint_s2 (F : Nat) (s10 : List Int) (s21 : List Int) (t92 : List Int) (t103 : Int) (Q : Type) : (Int) → ((Int) → Option Q) → ((Bool × Int) → Option Q) → Option Q
  | t114, kn, kx =>
    bif (decide (t114 < t103)) then
    bif (inR t114 (List.length t92)) then
    bif (decide ((((List.length s21) : Nat) : Int) ≤ t114)) then
    kx (true, (1 : Int))
    else bif (inR t114 (List.length s21)) then
    bif (!((cmp_Compare_int_v (iget t92 (Int.toNat t114)) (iget s21 (Int.toNat t114))) == (0 : Int))) then
    kx (true, (cmp_Compare_int_v (iget t92 (Int.toNat t114)) (iget s21 (Int.toNat t114))))
    else kn (IntKind.wrap .i64 (t114 + (1 : Int)))
    else none
    else none
    else kx (false, default)
def slices_Compare_intint_l2 (F : Nat) (s10 : List Int) (s21 : List Int) (t92 : List Int) (t103 : Int) (t114 : Int) : Option (Bool × Int) := loopC (slices_Compare_intint_s2 F s10 s21 t92 t103) F t114 some
theorem slices_Compare_intint_s2_nat (F : Nat) (s10 : List Int) (s21 : List Int) (t92 : List Int) (t103 : Int) : Natural (slices_Compare_intint_s2 F s10 s21 t92 t103) := by
  intro Q Q' s kn kx h
  simp only [slices_Compare_intint_s2, cond_bindL, none_bindL]
/-- slices.Compare[[]int,int] -/
def slices_Compare_intint_c (Q : Type) (F : Nat) (s10 : List Int) (s21 : List Int) (k : (Int) → Option Q) : Option Q :=
    let z_1 := (slices_Compare_intint_l2 F s10 s21 s10 (((List.length s10) : Nat) : Int) (0 : Int))
    let z_2 := (Option.getD z_1 default)
    bif (Option.isSome z_1) then
    bif z_2.1 then
    k z_2.2
    else bif (decide ((((List.length s10) : Nat) : Int) < (((List.length s21) : Nat) : Int))) then
    k (-1 : Int)
    else k (0 : Int)
    else none
def slices_Compare_intint_p (F : Nat) (s10 : List Int) (s21 : List Int) : Option (Int) := slices_Compare_intint_c _ F s10 s21 some
theorem slices_Compare_intint_cp (Q : Type) (F : Nat) (s10 : List Int) (s21 : List Int) (k : (Int) → Option Q) : slices_Compare_intint_c Q F s10 s21 k = (slices_Compare_intint_p F s10 s21).bind k := by
  simp only [slices_Compare_intint_p, slices_Compare_intint_c, cond_bindL, none_bindL, some_bindL]

/-- loop.example/g01194/impl.rowsBefore$1 -/
def impl_rowsBefore_f1_c (Q : Type) (F : Nat) (a0 : List Int) (b1 : List Int) (k : (Int) → Option Q) : Option Q :=
    let z_1 := (slices_Compare_intint_p F (sub a0 0 4) (sub b1 0 4))
    bif (Option.isSome z_1) then
    k (Option.getD z_1 default)
    else none
def impl_rowsBefore_f1_p (F : Nat) (a0 : List Int) (b1 : List Int) : Option (Int) := impl_rowsBefore_f1_c _ F a0 b1 some
theorem impl_rowsBefore_f1_cp (Q : Type) (F : Nat) (a0 : List Int) (b1 : List Int) (k : (Int) → Option Q) : impl_rowsBefore_f1_c Q F a0 b1 k = (impl_rowsBefore_f1_p F a0 b1).bind k := by
  simp only [impl_rowsBefore_f1_p, impl_rowsBefore_f1_c, cond_bindL, none_bindL, some_bindL]


/-- loop 9 of slices.Compact[[][4]int,[4]int] -/
def slices_Compact_4int4int_s9 (F : Nat) (s1 : Nat) (s23 : Nat) (s24 : Nat) (Q : Type) : (Int × Int × List (List Int)) → ((Int × Int × List (List Int)) → Option Q) → ((Int × List (List Int)) → Option Q) → Option Q
  | (k2, k25, s6), kn, kx =>
    let z_1 : Int := (IntKind.wrap .i64 (k25 - (1 : Int)))
    let z_2 : List Int := (rget s6 (s23 + (Int.toNat k25)))
    let z_3 : Int := (IntKind.wrap .i64 (k25 + (1 : Int)))
    bif (decide (k25 < ((s24 : Nat) : Int))) then
    bif (inR k25 s24) then
    bif (inR z_1 s24) then
    bif (!(z_2 == (rget s6 (s23 + (Int.toNat z_1))))) then
    bif (inR k25 s24) then
    bif (inR k2 s1) then
    kn ((IntKind.wrap .i64 (k2 + (1 : Int))), z_3, (rset s6 ((0 : Nat) + (Int.toNat k2)) z_2))
    else none
    else none
    else kn (k2, z_3, s6)
    else none
    else none
    else kx (k2, s6)
def slices_Compact_4int4int_l9 (F : Nat) (s1 : Nat) (s23 : Nat) (s24 : Nat) (k2 : Int) (k25 : Int) (s6 : List (List Int)) : Option (Int × List (List Int)) := loopC (slices_Compact_4int4int_s9 F s1 s23 s24) F (k2, k25, s6) some
theorem slices_Compact_4int4int_s9_nat (F : Nat) (s1 : Nat) (s23 : Nat) (s24 : Nat) : Natural (slices_Compact_4int4int_s9 F s1 s23 s24) := by
  intro Q Q' s kn kx h
  obtain ⟨k2, k25, s6⟩ := s
  simp only [slices_Compact_4int4int_s9, cond_bindL, none_bindL]
/-- loop 4 of slices.Compact[[][4]int,[4]int] -/
def slices_Compact_4int4int_s4 (F : Nat) (s1 : Nat) (s3 : List (List Int)) (Q : Type) : (Int) → ((Int) → Option Q) → ((Bool × Nat × List (List Int)) → Option Q) → Option Q
  | k2, kn, kx =>
    let z_1 : Int := (IntKind.wrap .i64 (k2 - (1 : Int)))
    let z_2 := (slices_Compact_4int4int_l9 F s1 ((0 : Nat) + (Int.toNat k2)) (s1 - (Int.toNat k2)) k2 (1 : Int) s3)
    let z_3 := (Option.getD z_2 default)
    let z_4 : Bool := (inLe z_3.1 s1)
    let z_5 : Nat := (Int.toNat z_3.1)
    let z_6 : Nat := (s1 - z_5)
    bif (decide (k2 < ((s1 : Nat) : Int))) then
    bif (inR k2 s1) then
    bif (inR z_1 s1) then
    bif ((rget s3 ((0 : Nat) + (Int.toNat k2))) == (rget s3 ((0 : Nat) + (Int.toNat z_1)))) then
    bif (inLe k2 s1) then
    bif (Option.isSome z_2) then
    bif z_4 then
    bif z_4 then
    kx (true, (z_5 - (0 : Nat)), (splice z_3.2 ((0 : Nat) + z_5) (List.replicate z_6 [(0 : Int), (0 : Int), (0 : Int), (0 : Int)]) z_6))
    else none
    else none
    else none
    else none
    else kn (IntKind.wrap .i64 (k2 + (1 : Int)))
    else none
    else none
    else kx (false, default, default)
def slices_Compact_4int4int_l4 (F : Nat) (s1 : Nat) (s3 : List (List Int)) (k2 : Int) : Option (Bool × Nat × List (List Int)) := loopC (slices_Compact_4int4int_s4 F s1 s3) F k2 some
theorem slices_Compact_4int4int_s4_nat (F : Nat) (s1 : Nat) (s3 : List (List Int)) : Natural (slices_Compact_4int4int_s4 F s1 s3) := by
  intro Q Q' s kn kx h
  simp only [slices_Compact_4int4int_s4, cond_bindL, none_bindL]
/-- slices.Compact[[][4]int,[4]int] -/
def slices_Compact_4int4int_c (Q : Type) (F : Nat) (s1 : Nat) (s2 : List (List Int)) (k : (Nat × List (List Int)) → Option Q) : Option Q :=
    let z_1 := (slices_Compact_4int4int_l4 F s1 s2 (1 : Int))
    let z_2 := (Option.getD z_1 default)
    bif (decide (((s1 : Nat) : Int) < (2 : Int))) then
    k (s1, s2)
    else bif (Option.isSome z_1) then
    bif z_2.1 then
    k (z_2.2.1, z_2.2.2)
    else k (s1, s2)
    else none
def slices_Compact_4int4int_p (F : Nat) (s1 : Nat) (s2 : List (List Int)) : Option (Nat × List (List Int)) := slices_Compact_4int4int_c _ F s1 s2 some
theorem slices_Compact_4int4int_cp (Q : Type) (F : Nat) (s1 : Nat) (s2 : List (List Int)) (k : (Nat × List (List Int)) → Option Q) : slices_Compact_4int4int_c Q F s1 s2 k = (slices_Compact_4int4int_p F s1 s2).bind k := by
  simp only [slices_Compact_4int4int_p, slices_Compact_4int4int_c, cond_bindL, none_bindL, some_bindL]
end Go.Lv.P
