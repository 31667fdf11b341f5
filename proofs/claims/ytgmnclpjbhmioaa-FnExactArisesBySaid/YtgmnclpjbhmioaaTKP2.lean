/-
Pure functions and what the code of them does, by program; without conditions.
-/
import Derived.Test.YtgmnclpjbhmioaaTKP1
namespace Go.Lv.P
open Go Go.Lv
set_option linter.unusedVariables false
set_option linter.unusedSimpArgs false
set_option maxRecDepth 100000
/-- loop.example/g01194/impl.tiles$1 -/
def impl_tiles_f1_c (Q : Type) (n0 : Int) (k : (Bool) → Option Q) : Option Q :=
    k (n0 == (0 : Int))
def impl_tiles_f1_v (n0 : Int) : Bool :=
    (n0 == (0 : Int))
theorem impl_tiles_f1_cv (Q : Type) (n0 : Int) (k : (Bool) → Option Q) : impl_tiles_f1_c Q n0 k = k (impl_tiles_f1_v n0) := by
  simp only [impl_tiles_f1_c, impl_tiles_f1_v, app_condL k]

/-- loop 2 of slices.IndexFunc[[]int,int] -/
def slices_IndexFunc_intint_impl_tiles_f1_s2 (F : Nat) (s0 : List Int) (t71 : Int) (Q : Type) : (Int) → ((Int) → Option Q) → ((Bool × Int) → Option Q) → Option Q
  | t82, kn, kx =>
    bif (decide (t82 < t71)) then
    bif (inR t82 (List.length s0)) then
    bif (impl_tiles_f1_v (iget s0 (Int.toNat t82))) then
    kx (true, t82)
    else kn (IntKind.wrap .i64 (t82 + (1 : Int)))
    else none
    else kx (false, default)
def slices_IndexFunc_intint_impl_tiles_f1_l2 (F : Nat) (s0 : List Int) (t71 : Int) (t82 : Int) : Option (Bool × Int) := loopC (slices_IndexFunc_intint_impl_tiles_f1_s2 F s0 t71) F t82 some
theorem slices_IndexFunc_intint_impl_tiles_f1_s2_nat (F : Nat) (s0 : List Int) (t71 : Int) : Natural (slices_IndexFunc_intint_impl_tiles_f1_s2 F s0 t71) := by
  intro Q Q' s kn kx h
  simp only [slices_IndexFunc_intint_impl_tiles_f1_s2, cond_bindL, none_bindL]
/-- slices.IndexFunc[[]int,int] -/
def slices_IndexFunc_intint_impl_tiles_f1_c (Q : Type) (F : Nat) (s0 : List Int) (k : (Int) → Option Q) : Option Q :=
    let z_1 := (slices_IndexFunc_intint_impl_tiles_f1_l2 F s0 (((List.length s0) : Nat) : Int) (0 : Int))
    let z_2 := (Option.getD z_1 default)
    bif (Option.isSome z_1) then
    bif z_2.1 then
    k z_2.2
    else k (-1 : Int)
    else none
def slices_IndexFunc_intint_impl_tiles_f1_p (F : Nat) (s0 : List Int) : Option (Int) := slices_IndexFunc_intint_impl_tiles_f1_c _ F s0 some
theorem slices_IndexFunc_intint_impl_tiles_f1_cp (Q : Type) (F : Nat) (s0 : List Int) (k : (Int) → Option Q) : slices_IndexFunc_intint_impl_tiles_f1_c Q F s0 k = (slices_IndexFunc_intint_impl_tiles_f1_p F s0).bind k := by
  simp only [slices_IndexFunc_intint_impl_tiles_f1_p, slices_IndexFunc_intint_impl_tiles_f1_c, cond_bindL, none_bindL, some_bindL]

/-- loop 5 of slices.DeleteFunc[[]int,int] -/
def slices_DeleteFunc_intint_impl_tiles_f1_s5 (F : Nat) (s1 : Nat) (Q : Type) : (Int × Int × List Int) → ((Int × Int × List Int) → Option Q) → ((Int × List Int) → Option Q) → Option Q
  | (i2, j3, s4), kn, kx =>
    let z_1 : Int := (iget s4 ((0 : Nat) + (Int.toNat j3)))
    let z_2 : Int := (IntKind.wrap .i64 (j3 + (1 : Int)))
    bif (decide (j3 < ((s1 : Nat) : Int))) then
    bif (inR j3 s1) then
    bif (!(impl_tiles_f1_v z_1)) then
    bif (inR i2 s1) then
    kn ((IntKind.wrap .i64 (i2 + (1 : Int))), z_2, (iset s4 ((0 : Nat) + (Int.toNat i2)) z_1))
    else none
    else kn (i2, z_2, s4)
    else none
    else kx (i2, s4)
def slices_DeleteFunc_intint_impl_tiles_f1_l5 (F : Nat) (s1 : Nat) (i2 : Int) (j3 : Int) (s4 : List Int) : Option (Int × List Int) := loopC (slices_DeleteFunc_intint_impl_tiles_f1_s5 F s1) F (i2, j3, s4) some
theorem slices_DeleteFunc_intint_impl_tiles_f1_s5_nat (F : Nat) (s1 : Nat) : Natural (slices_DeleteFunc_intint_impl_tiles_f1_s5 F s1) := by
  intro Q Q' s kn kx h
  obtain ⟨i2, j3, s4⟩ := s
  simp only [slices_DeleteFunc_intint_impl_tiles_f1_s5, cond_bindL, none_bindL]
/-- slices.DeleteFunc[[]int,int] -/
def slices_DeleteFunc_intint_impl_tiles_f1_c (Q : Type) (F : Nat) (s2 : List Int) (k : (Nat × List Int) → Option Q) : Option Q :=
    let z_1 := (slices_IndexFunc_intint_impl_tiles_f1_p F (subn (List.length s2) s2 0 (List.length s2)))
    let z_2 := (slices_DeleteFunc_intint_impl_tiles_f1_l5 F (List.length s2) (Option.getD z_1 default) (IntKind.wrap .i64 ((Option.getD z_1 default) + (1 : Int))) s2)
    let z_3 := (Option.getD z_2 default)
    let z_4 : Bool := (inLe z_3.1 (List.length s2))
    let z_5 : Nat := (Int.toNat z_3.1)
    let z_6 : Nat := ((List.length s2) - z_5)
    bif (Option.isSome z_1) then
    bif ((Option.getD z_1 default) == (-1 : Int)) then
    k ((List.length s2), s2)
    else bif (Option.isSome z_2) then
    bif z_4 then
    bif z_4 then
    k ((z_5 - (0 : Nat)), (splice z_3.2 ((0 : Nat) + z_5) (List.replicate z_6 (0 : Int)) z_6))
    else none
    else none
    else none
    else none
def slices_DeleteFunc_intint_impl_tiles_f1_p (F : Nat) (s2 : List Int) : Option (Nat × List Int) := slices_DeleteFunc_intint_impl_tiles_f1_c _ F s2 some
theorem slices_DeleteFunc_intint_impl_tiles_f1_cp (Q : Type) (F : Nat) (s2 : List Int) (k : (Nat × List Int) → Option Q) : slices_DeleteFunc_intint_impl_tiles_f1_c Q F s2 k = (slices_DeleteFunc_intint_impl_tiles_f1_p F s2).bind k := by
  simp only [slices_DeleteFunc_intint_impl_tiles_f1_p, slices_DeleteFunc_intint_impl_tiles_f1_c, cond_bindL, none_bindL, some_bindL]

/-- loop.example/g01194/impl.tiles -/
def impl_tiles_c (Q : Type) (F : Nat) (row0 : List Int) (k : (Nat × List Int) → Option Q) : Option Q :=
    let z_1 : Nat := (List.length (sub row0 0 4))
    let z_2 := (slices_DeleteFunc_intint_impl_tiles_f1_p F (sub row0 0 4))
    let z_3 := (Option.getD z_2 default)
    bif (fits z_1 8) then
    bif ((Nat.beq z_1 z_1) && (Option.isSome z_2)) then
    k (z_3.1, z_3.2)
    else none
    else none
def impl_tiles_p (F : Nat) (row0 : List Int) : Option (Nat × List Int) := impl_tiles_c _ F row0 some
theorem impl_tiles_cp (Q : Type) (F : Nat) (row0 : List Int) (k : (Nat × List Int) → Option Q) : impl_tiles_c Q F row0 k = (impl_tiles_p F row0).bind k := by
  simp only [impl_tiles_p, impl_tiles_c, cond_bindL, none_bindL, some_bindL]

/-- loop 4 of slices.Equal[[]int,int] -/
def slices_Equal_intint_s4 (F : Nat) (s10 : List Int) (s21 : List Int) (t122 : Int) (Q : Type) : (Int) → ((Int) → Option Q) → ((Bool) → Option Q) → Option Q
  | t133, kn, kx =>
    bif (decide (t133 < t122)) then
    bif (inR t133 (List.length s10)) then
    bif (inR t133 (List.length s21)) then
    bif (!((iget s10 (Int.toNat t133)) == (iget s21 (Int.toNat t133)))) then
    kx true
    else kn (IntKind.wrap .i64 (t133 + (1 : Int)))
    else none
    else none
    else kx false
def slices_Equal_intint_l4 (F : Nat) (s10 : List Int) (s21 : List Int) (t122 : Int) (t133 : Int) : Option (Bool) := loopC (slices_Equal_intint_s4 F s10 s21 t122) F t133 some
theorem slices_Equal_intint_s4_nat (F : Nat) (s10 : List Int) (s21 : List Int) (t122 : Int) : Natural (slices_Equal_intint_s4 F s10 s21 t122) := by
  intro Q Q' s kn kx h
  simp only [slices_Equal_intint_s4, cond_bindL, none_bindL]
/-- slices.Equal[[]int,int] -/
def slices_Equal_intint_c (Q : Type) (F : Nat) (s10 : List Int) (s21 : List Int) (k : (Bool) → Option Q) : Option Q :=
    let z_1 := (slices_Equal_intint_l4 F s10 s21 (((List.length s10) : Nat) : Int) (0 : Int))
    bif (!((((List.length s10) : Nat) : Int) == (((List.length s21) : Nat) : Int))) then
    k false
    else bif (Option.isSome z_1) then
    bif (Option.getD z_1 default) then
    k false
    else k true
    else none
def slices_Equal_intint_p (F : Nat) (s10 : List Int) (s21 : List Int) : Option (Bool) := slices_Equal_intint_c _ F s10 s21 some
theorem slices_Equal_intint_cp (Q : Type) (F : Nat) (s10 : List Int) (s21 : List Int) (k : (Bool) → Option Q) : slices_Equal_intint_c Q F s10 s21 k = (slices_Equal_intint_p F s10 s21).bind k := by
  simp only [slices_Equal_intint_p, slices_Equal_intint_c, cond_bindL, none_bindL, some_bindL]

/-- loop.example/g01194/impl.isFlush -/
def impl_isFlush_c (Q : Type) (F : Nat) (row0 : List Int) (k : (Bool) → Option Q) : Option Q :=
    let z_1 := (impl_tiles_p F row0)
    let z_2 : Bool := (Option.isSome z_1)
    let z_3 := (Option.getD z_1 default)
    let z_4 := (slices_Equal_intint_p F (subn (List.length z_3.2) z_3.2 0 z_3.1) (sub row0 0 (z_3.1 - (0 : Nat))))
    bif z_2 then
    bif z_2 then
    bif (inLe ((z_3.1 : Nat) : Int) 4) then
    bif (Option.isSome z_4) then
    k (Option.getD z_4 default)
    else none
    else none
    else none
    else none
def impl_isFlush_p (F : Nat) (row0 : List Int) : Option (Bool) := impl_isFlush_c _ F row0 some
theorem impl_isFlush_cp (Q : Type) (F : Nat) (row0 : List Int) (k : (Bool) → Option Q) : impl_isFlush_c Q F row0 k = (impl_isFlush_p F row0).bind k := by
  simp only [impl_isFlush_p, impl_isFlush_c, cond_bindL, none_bindL, some_bindL]


/-- loop.example/g01194/impl.apart -/
def impl_apart_len0_c (Q : Type) (k : (Unit) → Option Q) : Option Q :=
    k ()
def impl_apart_len0_v : Unit :=
    ()
theorem impl_apart_len0_cv (Q : Type) (k : (Unit) → Option Q) : impl_apart_len0_c Q k = k (impl_apart_len0_v) := by
  simp only [impl_apart_len0_c, impl_apart_len0_v, app_condL k]

/-- loop.example/g01194/impl.apart -/
def impl_apart_len0_2_c (Q : Type) (list0 : List Int) (k : (List (List Int)) → Option Q) : Option Q :=
    bif (decide ((4 : Int) < (((List.length list0) : Nat) : Int))) then
    k ([] : List (List Int))
    else bif (fits (List.length list0) 8) then
    k [(subn (List.length list0) list0 0 (List.length list0))]
    else none
def impl_apart_len0_2_p (list0 : List Int) : Option (List (List Int)) := impl_apart_len0_2_c _ list0 some
theorem impl_apart_len0_2_cp (Q : Type) (list0 : List Int) (k : (List (List Int)) → Option Q) : impl_apart_len0_2_c Q list0 k = (impl_apart_len0_2_p list0).bind k := by
  simp only [impl_apart_len0_2_p, impl_apart_len0_2_c, cond_bindL, none_bindL, some_bindL]

/-- loop.example/g01194/impl.apart -/
def impl_apart_len0_3_c (Q : Type) (list2 : List Int) (out4 : List (List Int)) (k : (List (List Int)) → Option Q) : Option Q :=
    let z_1 : List (List Int) := ((subn (List.length out4) out4 0 (List.length out4)) ++ [(subn (List.length list2) list2 0 (List.length list2))])
    bif (decide ((4 : Int) < (((List.length list2) : Nat) : Int))) then
    k out4
    else bif (fits (List.length list2) 8) then
    bif (fits (List.length z_1) 24) then
    k z_1
    else none
    else none
def impl_apart_len0_3_p (list2 : List Int) (out4 : List (List Int)) : Option (List (List Int)) := impl_apart_len0_3_c _ list2 out4 some
theorem impl_apart_len0_3_cp (Q : Type) (list2 : List Int) (out4 : List (List Int)) (k : (List (List Int)) → Option Q) : impl_apart_len0_3_c Q list2 out4 k = (impl_apart_len0_3_p list2 out4).bind k := by
  simp only [impl_apart_len0_3_p, impl_apart_len0_3_c, cond_bindL, none_bindL, some_bindL]

/-- loop.example/g01194/impl.apart -/
def impl_apart_len1_c (Q : Type) (rest0_0 : Int) (k : (List (List Int)) → Option Q) : Option Q :=
    let z_1 : Nat := (List.length (Option.getD (impl_apart_len0_2_p [rest0_0]) default))
    let z_2 : Int := (IntKind.wrap .i64 (rest0_0 - (1 : Int)))
    let z_3 := (impl_apart_len0_3_p [z_2, z_2] (Option.getD (impl_apart_len0_2_p [rest0_0]) default))
    bif (Option.isSome (impl_apart_len0_2_p [rest0_0])) then
    bif (decide ((1 : Int) < rest0_0)) then
    bif ((Nat.beq z_1 z_1) && (Option.isSome z_3)) then
    k (Option.getD z_3 default)
    else none
    else k (Option.getD (impl_apart_len0_2_p [rest0_0]) default)
    else none
def impl_apart_len1_p (rest0_0 : Int) : Option (List (List Int)) := impl_apart_len1_c _ rest0_0 some
theorem impl_apart_len1_cp (Q : Type) (rest0_0 : Int) (k : (List (List Int)) → Option Q) : impl_apart_len1_c Q rest0_0 k = (impl_apart_len1_p rest0_0).bind k := by
  simp only [impl_apart_len1_p, impl_apart_len1_c, cond_bindL, none_bindL, some_bindL]

/-- loop.example/g01194/impl.apart -/
def impl_apart_len1_2_c (Q : Type) (list0 : List Int) (rest1_0 : Int) (k : (List (List Int)) → Option Q) : Option Q :=
    let z_1 : List Int := (subn (List.length list0) list0 0 (List.length list0))
    let z_2 : List Int := (z_1 ++ [rest1_0])
    let z_3 : Nat := (List.length z_2)
    let z_4 : Int := (IntKind.wrap .i64 (rest1_0 - (1 : Int)))
    let z_5 : List Int := (z_1 ++ [z_4, z_4])
    let z_6 : Nat := (List.length z_5)
    let z_7 : Nat := (List.length (Option.getD (impl_apart_len0_2_p (subn z_3 z_2 0 z_3)) default))
    let z_8 := (impl_apart_len0_3_p (subn z_6 z_5 0 z_6) (Option.getD (impl_apart_len0_2_p (subn z_3 z_2 0 z_3)) default))
    bif (decide ((4 : Int) < (((List.length list0) : Nat) : Int))) then
    k ([] : List (List Int))
    else bif (fits (List.length list0) 8) then
    bif (fits z_3 8) then
    bif (Option.isSome (impl_apart_len0_2_p (subn z_3 z_2 0 z_3))) then
    bif (decide ((1 : Int) < rest1_0)) then
    bif (fits (List.length list0) 8) then
    bif (fits z_6 8) then
    bif ((Nat.beq z_7 z_7) && (Option.isSome z_8)) then
    k (Option.getD z_8 default)
    else none
    else none
    else none
    else k (Option.getD (impl_apart_len0_2_p (subn z_3 z_2 0 z_3)) default)
    else none
    else none
    else none
def impl_apart_len1_2_p (list0 : List Int) (rest1_0 : Int) : Option (List (List Int)) := impl_apart_len1_2_c _ list0 rest1_0 some
theorem impl_apart_len1_2_cp (Q : Type) (list0 : List Int) (rest1_0 : Int) (k : (List (List Int)) → Option Q) : impl_apart_len1_2_c Q list0 rest1_0 k = (impl_apart_len1_2_p list0 rest1_0).bind k := by
  simp only [impl_apart_len1_2_p, impl_apart_len1_2_c, cond_bindL, none_bindL, some_bindL]

/-- loop.example/g01194/impl.apart -/
def impl_apart_len1_3_c (Q : Type) (list2 : List Int) (rest3_0 : Int) (out4 : List (List Int)) (k : (List (List Int)) → Option Q) : Option Q :=
    let z_1 : List Int := (subn (List.length list2) list2 0 (List.length list2))
    let z_2 : List Int := (z_1 ++ [rest3_0])
    let z_3 : Nat := (List.length z_2)
    let z_4 := (impl_apart_len0_3_p (subn z_3 z_2 0 z_3) out4)
    let z_5 : Int := (IntKind.wrap .i64 (rest3_0 - (1 : Int)))
    let z_6 : List Int := (z_1 ++ [z_5, z_5])
    let z_7 : Nat := (List.length z_6)
    let z_8 : Nat := (List.length (Option.getD z_4 default))
    let z_9 := (impl_apart_len0_3_p (subn z_7 z_6 0 z_7) (Option.getD z_4 default))
    bif (decide ((4 : Int) < (((List.length list2) : Nat) : Int))) then
    k out4
    else bif (fits (List.length list2) 8) then
    bif (fits z_3 8) then
    bif ((Nat.beq (List.length out4) (List.length out4)) && (Option.isSome z_4)) then
    bif (decide ((1 : Int) < rest3_0)) then
    bif (fits (List.length list2) 8) then
    bif (fits z_7 8) then
    bif ((Nat.beq z_8 z_8) && (Option.isSome z_9)) then
    k (Option.getD z_9 default)
    else none
    else none
    else none
    else k (Option.getD z_4 default)
    else none
    else none
    else none
def impl_apart_len1_3_p (list2 : List Int) (rest3_0 : Int) (out4 : List (List Int)) : Option (List (List Int)) := impl_apart_len1_3_c _ list2 rest3_0 out4 some
theorem impl_apart_len1_3_cp (Q : Type) (list2 : List Int) (rest3_0 : Int) (out4 : List (List Int)) (k : (List (List Int)) → Option Q) : impl_apart_len1_3_c Q list2 rest3_0 out4 k = (impl_apart_len1_3_p list2 rest3_0 out4).bind k := by
  simp only [impl_apart_len1_3_p, impl_apart_len1_3_c, cond_bindL, none_bindL, some_bindL]

/-- loop.example/g01194/impl.apart -/
def impl_apart_len2_c (Q : Type) (rest0_0 : Int) (rest0_1 : Int) (k : (List (List Int)) → Option Q) : Option Q :=
    let z_1 := (impl_apart_len1_2_p [rest0_0] rest0_1)
    let z_2 : Nat := (List.length (Option.getD z_1 default))
    let z_3 : Int := (IntKind.wrap .i64 (rest0_0 - (1 : Int)))
    let z_4 := (impl_apart_len1_3_p [z_3, z_3] rest0_1 (Option.getD z_1 default))
    bif (Option.isSome z_1) then
    bif (decide ((1 : Int) < rest0_0)) then
    bif ((Nat.beq z_2 z_2) && (Option.isSome z_4)) then
    k (Option.getD z_4 default)
    else none
    else k (Option.getD z_1 default)
    else none
def impl_apart_len2_p (rest0_0 : Int) (rest0_1 : Int) : Option (List (List Int)) := impl_apart_len2_c _ rest0_0 rest0_1 some
theorem impl_apart_len2_cp (Q : Type) (rest0_0 : Int) (rest0_1 : Int) (k : (List (List Int)) → Option Q) : impl_apart_len2_c Q rest0_0 rest0_1 k = (impl_apart_len2_p rest0_0 rest0_1).bind k := by
  simp only [impl_apart_len2_p, impl_apart_len2_c, cond_bindL, none_bindL, some_bindL]

/-- loop.example/g01194/impl.apart -/
def impl_apart_len2_2_c (Q : Type) (list0 : List Int) (rest1_0 : Int) (rest1_1 : Int) (k : (List (List Int)) → Option Q) : Option Q :=
    let z_1 : List Int := (subn (List.length list0) list0 0 (List.length list0))
    let z_2 : List Int := (z_1 ++ [rest1_0])
    let z_3 : Nat := (List.length z_2)
    let z_4 := (impl_apart_len1_2_p (subn z_3 z_2 0 z_3) rest1_1)
    let z_5 : Int := (IntKind.wrap .i64 (rest1_0 - (1 : Int)))
    let z_6 : List Int := (z_1 ++ [z_5, z_5])
    let z_7 : Nat := (List.length z_6)
    let z_8 : Nat := (List.length (Option.getD z_4 default))
    let z_9 := (impl_apart_len1_3_p (subn z_7 z_6 0 z_7) rest1_1 (Option.getD z_4 default))
    bif (decide ((4 : Int) < (((List.length list0) : Nat) : Int))) then
    k ([] : List (List Int))
    else bif (fits (List.length list0) 8) then
    bif (fits z_3 8) then
    bif (Option.isSome z_4) then
    bif (decide ((1 : Int) < rest1_0)) then
    bif (fits (List.length list0) 8) then
    bif (fits z_7 8) then
    bif ((Nat.beq z_8 z_8) && (Option.isSome z_9)) then
    k (Option.getD z_9 default)
    else none
    else none
    else none
    else k (Option.getD z_4 default)
    else none
    else none
    else none
def impl_apart_len2_2_p (list0 : List Int) (rest1_0 : Int) (rest1_1 : Int) : Option (List (List Int)) := impl_apart_len2_2_c _ list0 rest1_0 rest1_1 some
theorem impl_apart_len2_2_cp (Q : Type) (list0 : List Int) (rest1_0 : Int) (rest1_1 : Int) (k : (List (List Int)) → Option Q) : impl_apart_len2_2_c Q list0 rest1_0 rest1_1 k = (impl_apart_len2_2_p list0 rest1_0 rest1_1).bind k := by
  simp only [impl_apart_len2_2_p, impl_apart_len2_2_c, cond_bindL, none_bindL, some_bindL]

/-- loop.example/g01194/impl.apart -/
def impl_apart_len2_3_c (Q : Type) (list2 : List Int) (rest3_0 : Int) (rest3_1 : Int) (out4 : List (List Int)) (k : (List (List Int)) → Option Q) : Option Q :=
    let z_1 : List Int := (subn (List.length list2) list2 0 (List.length list2))
    let z_2 : List Int := (z_1 ++ [rest3_0])
    let z_3 : Nat := (List.length z_2)
    let z_4 := (impl_apart_len1_3_p (subn z_3 z_2 0 z_3) rest3_1 out4)
    let z_5 : Int := (IntKind.wrap .i64 (rest3_0 - (1 : Int)))
    let z_6 : List Int := (z_1 ++ [z_5, z_5])
    let z_7 : Nat := (List.length z_6)
    let z_8 : Nat := (List.length (Option.getD z_4 default))
    let z_9 := (impl_apart_len1_3_p (subn z_7 z_6 0 z_7) rest3_1 (Option.getD z_4 default))
    bif (decide ((4 : Int) < (((List.length list2) : Nat) : Int))) then
    k out4
    else bif (fits (List.length list2) 8) then
    bif (fits z_3 8) then
    bif ((Nat.beq (List.length out4) (List.length out4)) && (Option.isSome z_4)) then
    bif (decide ((1 : Int) < rest3_0)) then
    bif (fits (List.length list2) 8) then
    bif (fits z_7 8) then
    bif ((Nat.beq z_8 z_8) && (Option.isSome z_9)) then
    k (Option.getD z_9 default)
    else none
    else none
    else none
    else k (Option.getD z_4 default)
    else none
    else none
    else none
def impl_apart_len2_3_p (list2 : List Int) (rest3_0 : Int) (rest3_1 : Int) (out4 : List (List Int)) : Option (List (List Int)) := impl_apart_len2_3_c _ list2 rest3_0 rest3_1 out4 some
theorem impl_apart_len2_3_cp (Q : Type) (list2 : List Int) (rest3_0 : Int) (rest3_1 : Int) (out4 : List (List Int)) (k : (List (List Int)) → Option Q) : impl_apart_len2_3_c Q list2 rest3_0 rest3_1 out4 k = (impl_apart_len2_3_p list2 rest3_0 rest3_1 out4).bind k := by
  simp only [impl_apart_len2_3_p, impl_apart_len2_3_c, cond_bindL, none_bindL, some_bindL]

/-- loop.example/g01194/impl.apart -/
def impl_apart_len3_c (Q : Type) (rest0_0 : Int) (rest0_1 : Int) (rest0_2 : Int) (k : (List (List Int)) → Option Q) : Option Q :=
    let z_1 := (impl_apart_len2_2_p [rest0_0] rest0_1 rest0_2)
    let z_2 : Nat := (List.length (Option.getD z_1 default))
    let z_3 : Int := (IntKind.wrap .i64 (rest0_0 - (1 : Int)))
    let z_4 := (impl_apart_len2_3_p [z_3, z_3] rest0_1 rest0_2 (Option.getD z_1 default))
    bif (Option.isSome z_1) then
    bif (decide ((1 : Int) < rest0_0)) then
    bif ((Nat.beq z_2 z_2) && (Option.isSome z_4)) then
    k (Option.getD z_4 default)
    else none
    else k (Option.getD z_1 default)
    else none
def impl_apart_len3_p (rest0_0 : Int) (rest0_1 : Int) (rest0_2 : Int) : Option (List (List Int)) := impl_apart_len3_c _ rest0_0 rest0_1 rest0_2 some
theorem impl_apart_len3_cp (Q : Type) (rest0_0 : Int) (rest0_1 : Int) (rest0_2 : Int) (k : (List (List Int)) → Option Q) : impl_apart_len3_c Q rest0_0 rest0_1 rest0_2 k = (impl_apart_len3_p rest0_0 rest0_1 rest0_2).bind k := by
  simp only [impl_apart_len3_p, impl_apart_len3_c, cond_bindL, none_bindL, some_bindL]

/-- loop.example/g01194/impl.apart -/
def impl_apart_len3_2_c (Q : Type) (list0 : List Int) (rest1_0 : Int) (rest1_1 : Int) (rest1_2 : Int) (k : (List (List Int)) → Option Q) : Option Q :=
    let z_1 : List Int := (subn (List.length list0) list0 0 (List.length list0))
    let z_2 : List Int := (z_1 ++ [rest1_0])
    let z_3 : Nat := (List.length z_2)
    let z_4 := (impl_apart_len2_2_p (subn z_3 z_2 0 z_3) rest1_1 rest1_2)
    let z_5 : Int := (IntKind.wrap .i64 (rest1_0 - (1 : Int)))
    let z_6 : List Int := (z_1 ++ [z_5, z_5])
    let z_7 : Nat := (List.length z_6)
    let z_8 : Nat := (List.length (Option.getD z_4 default))
    let z_9 := (impl_apart_len2_3_p (subn z_7 z_6 0 z_7) rest1_1 rest1_2 (Option.getD z_4 default))
    bif (decide ((4 : Int) < (((List.length list0) : Nat) : Int))) then
    k ([] : List (List Int))
    else bif (fits (List.length list0) 8) then
    bif (fits z_3 8) then
    bif (Option.isSome z_4) then
    bif (decide ((1 : Int) < rest1_0)) then
    bif (fits (List.length list0) 8) then
    bif (fits z_7 8) then
    bif ((Nat.beq z_8 z_8) && (Option.isSome z_9)) then
    k (Option.getD z_9 default)
    else none
    else none
    else none
    else k (Option.getD z_4 default)
    else none
    else none
    else none
def impl_apart_len3_2_p (list0 : List Int) (rest1_0 : Int) (rest1_1 : Int) (rest1_2 : Int) : Option (List (List Int)) := impl_apart_len3_2_c _ list0 rest1_0 rest1_1 rest1_2 some
theorem impl_apart_len3_2_cp (Q : Type) (list0 : List Int) (rest1_0 : Int) (rest1_1 : Int) (rest1_2 : Int) (k : (List (List Int)) → Option Q) : impl_apart_len3_2_c Q list0 rest1_0 rest1_1 rest1_2 k = (impl_apart_len3_2_p list0 rest1_0 rest1_1 rest1_2).bind k := by
  simp only [impl_apart_len3_2_p, impl_apart_len3_2_c, cond_bindL, none_bindL, some_bindL]

/-- loop.example/g01194/impl.apart -/
def impl_apart_len3_3_c (Q : Type) (list2 : List Int) (rest3_0 : Int) (rest3_1 : Int) (rest3_2 : Int) (out4 : List (List Int)) (k : (List (List Int)) → Option Q) : Option Q :=
    let z_1 : List Int := (subn (List.length list2) list2 0 (List.length list2))
    let z_2 : List Int := (z_1 ++ [rest3_0])
    let z_3 : Nat := (List.length z_2)
    let z_4 := (impl_apart_len2_3_p (subn z_3 z_2 0 z_3) rest3_1 rest3_2 out4)
    let z_5 : Int := (IntKind.wrap .i64 (rest3_0 - (1 : Int)))
    let z_6 : List Int := (z_1 ++ [z_5, z_5])
    let z_7 : Nat := (List.length z_6)
    let z_8 : Nat := (List.length (Option.getD z_4 default))
    let z_9 := (impl_apart_len2_3_p (subn z_7 z_6 0 z_7) rest3_1 rest3_2 (Option.getD z_4 default))
    bif (decide ((4 : Int) < (((List.length list2) : Nat) : Int))) then
    k out4
    else bif (fits (List.length list2) 8) then
    bif (fits z_3 8) then
    bif ((Nat.beq (List.length out4) (List.length out4)) && (Option.isSome z_4)) then
    bif (decide ((1 : Int) < rest3_0)) then
    bif (fits (List.length list2) 8) then
    bif (fits z_7 8) then
    bif ((Nat.beq z_8 z_8) && (Option.isSome z_9)) then
    k (Option.getD z_9 default)
    else none
    else none
    else none
    else k (Option.getD z_4 default)
    else none
    else none
    else none
def impl_apart_len3_3_p (list2 : List Int) (rest3_0 : Int) (rest3_1 : Int) (rest3_2 : Int) (out4 : List (List Int)) : Option (List (List Int)) := impl_apart_len3_3_c _ list2 rest3_0 rest3_1 rest3_2 out4 some
theorem impl_apart_len3_3_cp (Q : Type) (list2 : List Int) (rest3_0 : Int) (rest3_1 : Int) (rest3_2 : Int) (out4 : List (List Int)) (k : (List (List Int)) → Option Q) : impl_apart_len3_3_c Q list2 rest3_0 rest3_1 rest3_2 out4 k = (impl_apart_len3_3_p list2 rest3_0 rest3_1 rest3_2 out4).bind k := by
  simp only [impl_apart_len3_3_p, impl_apart_len3_3_c, cond_bindL, none_bindL, some_bindL]

/-- loop.example/g01194/impl.apart -/
def impl_apart_len4_c (Q : Type) (rest0_0 : Int) (rest0_1 : Int) (rest0_2 : Int) (rest0_3 : Int) (k : (List (List Int)) → Option Q) : Option Q :=
    let z_1 := (impl_apart_len3_2_p [rest0_0] rest0_1 rest0_2 rest0_3)
    let z_2 : Nat := (List.length (Option.getD z_1 default))
    let z_3 : Int := (IntKind.wrap .i64 (rest0_0 - (1 : Int)))
    let z_4 := (impl_apart_len3_3_p [z_3, z_3] rest0_1 rest0_2 rest0_3 (Option.getD z_1 default))
    bif (Option.isSome z_1) then
    bif (decide ((1 : Int) < rest0_0)) then
    bif ((Nat.beq z_2 z_2) && (Option.isSome z_4)) then
    k (Option.getD z_4 default)
    else none
    else k (Option.getD z_1 default)
    else none
def impl_apart_len4_p (rest0_0 : Int) (rest0_1 : Int) (rest0_2 : Int) (rest0_3 : Int) : Option (List (List Int)) := impl_apart_len4_c _ rest0_0 rest0_1 rest0_2 rest0_3 some
theorem impl_apart_len4_cp (Q : Type) (rest0_0 : Int) (rest0_1 : Int) (rest0_2 : Int) (rest0_3 : Int) (k : (List (List Int)) → Option Q) : impl_apart_len4_c Q rest0_0 rest0_1 rest0_2 rest0_3 k = (impl_apart_len4_p rest0_0 rest0_1 rest0_2 rest0_3).bind k := by
  simp only [impl_apart_len4_p, impl_apart_len4_c, cond_bindL, none_bindL, some_bindL]

/-- loop.example/g01194/impl.apart -/
def impl_apart_c (Q : Type) (rest0 : List Int) (k : (List (List Int)) → Option Q) : Option Q :=
    let z_1 := (impl_apart_len2_p (iget rest0 0) (iget rest0 1))
    let z_2 := (impl_apart_len3_p (iget rest0 0) (iget rest0 1) (iget rest0 2))
    let z_3 := (impl_apart_len4_p (iget rest0 0) (iget rest0 1) (iget rest0 2) (iget rest0 3))
    bif (Nat.beq (List.length rest0) 0) then
    k [([] : List Int)]
    else bif (Nat.beq (List.length rest0) 1) then
    bif (Option.isSome (impl_apart_len1_p (iget rest0 0))) then
    k (Option.getD (impl_apart_len1_p (iget rest0 0)) default)
    else none
    else bif (Nat.beq (List.length rest0) 2) then
    bif (Option.isSome z_1) then
    k (Option.getD z_1 default)
    else none
    else bif (Nat.beq (List.length rest0) 3) then
    bif (Option.isSome z_2) then
    k (Option.getD z_2 default)
    else none
    else bif (Nat.beq (List.length rest0) 4) then
    bif (Option.isSome z_3) then
    k (Option.getD z_3 default)
    else none
    else none
def impl_apart_p (rest0 : List Int) : Option (List (List Int)) := impl_apart_c _ rest0 some
theorem impl_apart_cp (Q : Type) (rest0 : List Int) (k : (List (List Int)) → Option Q) : impl_apart_c Q rest0 k = (impl_apart_p rest0).bind k := by
  simp only [impl_apart_p, impl_apart_c, cond_bindL, none_bindL, some_bindL]

/-- loop.example/g01194/impl.worth -/
def impl_worth_c (Q : Type) (t0 : Int) (k : (Int) → Option Q) : Option Q :=
    bif (t0 == (0 : Int)) then
    k (0 : Int)
    else bif (decide (t0 < (0 : Int))) then
    none
    else k (IntKind.wrap .i64 ((1 : Int) * (2 ^ (min (Int.toNat t0) (IntKind.bits .i64)) : Int)))
def impl_worth_p (t0 : Int) : Option (Int) := impl_worth_c _ t0 some
theorem impl_worth_cp (Q : Type) (t0 : Int) (k : (Int) → Option Q) : impl_worth_c Q t0 k = (impl_worth_p t0).bind k := by
  simp only [impl_worth_p, impl_worth_c, cond_bindL, none_bindL, some_bindL]
end Go.Lv.P
