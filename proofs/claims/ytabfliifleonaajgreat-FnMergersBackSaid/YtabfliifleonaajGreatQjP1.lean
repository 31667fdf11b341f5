/-
Pure functions and what the code of them does, by program; without conditions.
-/
import Derived.Test.YtabfliifleonaajGreatQjP0
namespace Go.Lv.P
open Go Go.Lv
set_option linter.unusedVariables false
set_option linter.unusedSimpArgs false
set_option maxRecDepth 100000
def k111_c (Q : Type) (b0 : List Int) (yi : List Int) (t2 : Int) (k : (List Int) → Option Q) : Option Q :=
    bif (inR (iget yi 0) 4) then
    bif (inR (iget yi 1) 4) then
    k (iset b0 (((0 : Nat) + ((Int.toNat (iget yi 0)) * (4 : Nat))) + ((Int.toNat (iget yi 1)) * (1 : Nat))) t2)
    else none
    else none
def k111_p (b0 : List Int) (yi : List Int) (t2 : Int) : Option (List Int) := k111_c _ b0 yi t2 some
theorem k111_cp (Q : Type) (b0 : List Int) (yi : List Int) (t2 : Int) (k : (List Int) → Option Q) : k111_c Q b0 yi t2 k = (k111_p b0 yi t2).bind k := by
  simp only [k111_p, k111_c, cond_bindL, none_bindL, some_bindL]
def k92_s3 (F : Nat) (d0 : Int) (b12 : List Int) (Q : Type) : (Int × Int × List Int) → ((Int × Int × List Int) → Option Q) → ((Int × List Int) → Option Q) → Option Q
  | (w39, i11, wg), kn, kx =>
    let z_1 := (k76_p F b12 d0 i11)
    let z_2 := (k112_p F (Option.getD z_1 default))
    let z_3 := (k100_p F d0 i11)
    let z_4 := (Option.getD z_2 default)
    let z_5 := (k111_p wg (sub (Option.getD z_3 default) 0 2) (iget z_4.1 0))
    let z_6 := (k111_p (Option.getD z_5 default) (sub (Option.getD z_3 default) 2 2) (iget z_4.1 1))
    let z_7 := (k111_p (Option.getD z_6 default) (sub (Option.getD z_3 default) 4 2) (iget z_4.1 2))
    let z_8 := (k111_p (Option.getD z_7 default) (sub (Option.getD z_3 default) 6 2) (iget z_4.1 3))
    bif (decide (i11 < (4 : Int))) then
    bif (Option.isSome z_1) then
    bif (Option.isSome z_2) then
    bif (Option.isSome z_3) then
    bif (Option.isSome z_5) then
    bif (Option.isSome z_6) then
    bif (Option.isSome z_7) then
    bif (Option.isSome z_8) then
    kn ((IntKind.wrap .i64 (w39 + z_4.2)), (IntKind.wrap .i64 (i11 + (1 : Int))), (Option.getD z_8 default))
    else none
    else none
    else none
    else none
    else none
    else none
    else none
    else kx (w39, wg)
def k92_l3 (F : Nat) (d0 : Int) (b12 : List Int) (w39 : Int) (i11 : Int) (wg : List Int) : Option (Int × List Int) := loopC (k92_s3 F d0 b12) F (w39, i11, wg) some
theorem k92_s3_nat (F : Nat) (d0 : Int) (b12 : List Int) : Natural (k92_s3 F d0 b12) := by
  intro Q Q' s kn kx h
  obtain ⟨w39, i11, wg⟩ := s
  simp only [k92_s3, cond_bindL, none_bindL]
def k92_c (Q : Type) (F : Nat) (b0 : List Int) (d1 : Int) (k : (List Int × Int) → Option Q) : Option Q :=
    let z_1 := (k92_l3 F d1 b0 (0 : Int) (0 : Int) b0)
    let z_2 := (Option.getD z_1 default)
    bif (Option.isSome z_1) then
    k (z_2.2, z_2.1)
    else none
def k92_p (F : Nat) (b0 : List Int) (d1 : Int) : Option (List Int × Int) := k92_c _ F b0 d1 some
theorem k92_cp (Q : Type) (F : Nat) (b0 : List Int) (d1 : Int) (k : (List Int × Int) → Option Q) : k92_c Q F b0 d1 k = (k92_p F b0 d1).bind k := by
  simp only [k92_p, k92_c, cond_bindL, none_bindL, some_bindL]
def k104_c (Q : Type) (F : Nat) (b0 : List Int) (d1 : Int) (i2 : Int) (ji : List Int) (k : (List Int) → Option Q) : Option Q :=
    let z_1 := (k100_p F d1 i2)
    let z_2 := (k111_p b0 (sub (Option.getD z_1 default) 0 2) (iget ji 0))
    let z_3 := (k111_p (Option.getD z_2 default) (sub (Option.getD z_1 default) 2 2) (iget ji 1))
    let z_4 := (k111_p (Option.getD z_3 default) (sub (Option.getD z_1 default) 4 2) (iget ji 2))
    let z_5 := (k111_p (Option.getD z_4 default) (sub (Option.getD z_1 default) 6 2) (iget ji 3))
    bif (Option.isSome z_1) then
    bif (Option.isSome z_2) then
    bif (Option.isSome z_3) then
    bif (Option.isSome z_4) then
    bif (Option.isSome z_5) then
    k (Option.getD z_5 default)
    else none
    else none
    else none
    else none
    else none
def k104_p (F : Nat) (b0 : List Int) (d1 : Int) (i2 : Int) (ji : List Int) : Option (List Int) := k104_c _ F b0 d1 i2 ji some
theorem k104_cp (Q : Type) (F : Nat) (b0 : List Int) (d1 : Int) (i2 : Int) (ji : List Int) (k : (List Int) → Option Q) : k104_c Q F b0 d1 i2 ji k = (k104_p F b0 d1 i2 ji).bind k := by
  simp only [k104_p, k104_c, cond_bindL, none_bindL, some_bindL]
def k68_s6 (F : Nat) (d9 : Int) (c11 : List Int) (Q : Type) : (Int × Int × Int × List Int) → ((Int × Int × Int × List Int) → Option Q) → ((Int × Int × List Int) → Option Q) → Option Q
  | (i10, c12, c13, b15), kn, kx =>
    let z_1 := (k70_p (3 : Int) c11 c12 c13)
    let z_2 := (Option.getD z_1 default)
    let z_3 := (k104_p F b15 d9 i10 [(0 : Int), (0 : Int), (0 : Int), (0 : Int)])
    bif (Option.isSome z_1) then
    bif (decide (i10 < (IntKind.wrap .i64 ((1 : Int) + z_2.1)))) then
    bif (Option.isSome z_3) then
    kn ((IntKind.wrap .i64 (i10 + (1 : Int))), z_2.2.1, z_2.2.2, (Option.getD z_3 default))
    else none
    else kx (z_2.2.1, z_2.2.2, b15)
    else none
def k68_l6 (F : Nat) (d9 : Int) (c11 : List Int) (i10 : Int) (c12 : Int) (c13 : Int) (b15 : List Int) : Option (Int × Int × List Int) := loopC (k68_s6 F d9 c11) F (i10, c12, c13, b15) some
theorem k68_s6_nat (F : Nat) (d9 : Int) (c11 : List Int) : Natural (k68_s6 F d9 c11) := by
  intro Q Q' s kn kx h
  obtain ⟨i10, c12, c13, b15⟩ := s
  simp only [k68_s6, cond_bindL, none_bindL]
def k68_c (Q : Type) (F : Nat) (c3 : List Int) (c4 : Int) (c5 : Int) (k : (List Int × Int × Int × Int) → Option Q) : Option Q :=
    let z_1 := (k54_p F c3 c4 c5)
    let z_2 := (Option.getD z_1 default)
    let z_3 := (k71_p c3 z_2.2.1 z_2.2.2)
    let z_4 := (k91_p F z_2.1)
    let z_5 : Bool := (Option.isSome z_4)
    let z_6 := (Option.getD z_3 default)
    let z_7 := (k75_p (4 : Int) c3 z_6.2.1 z_6.2.2)
    let z_8 := (Option.getD z_7 default)
    let z_9 := (k92_p F z_2.1 z_6.1)
    let z_10 := (k91_p F (Option.getD z_9 default).1)
    let z_11 := (k75_p (2 : Int) c3 z_8.2.1 z_8.2.2)
    let z_12 : Bool := (Option.isSome z_11)
    let z_13 := (Option.getD z_11 default)
    let z_14 := (k68_l6 F z_6.1 c3 (0 : Int) z_13.2.1 z_13.2.2 (Option.getD z_9 default).1)
    let z_15 := (Option.getD z_14 default)
    let z_16 := (k68_l6 F z_6.1 c3 (0 : Int) z_13.2.1 z_13.2.2 z_2.1)
    let z_17 := (Option.getD z_16 default)
    let z_18 := (k75_p (2 : Int) c3 z_6.2.1 z_6.2.2)
    let z_19 : Bool := (Option.isSome z_18)
    let z_20 := (Option.getD z_18 default)
    let z_21 := (k68_l6 F z_6.1 c3 (0 : Int) z_20.2.1 z_20.2.2 z_2.1)
    let z_22 : Bool := (Option.isSome z_21)
    let z_23 := (Option.getD z_21 default)
    bif (Option.isSome z_1) then
    bif (Option.isSome z_3) then
    bif z_5 then
    bif (Option.getD z_4 default) then
    bif (k101_v z_6.1) then
    bif (Option.isSome z_7) then
    bif (!z_8.1) then
    bif (Option.isSome z_9) then
    bif (Option.isSome z_10) then
    bif (Option.getD z_10 default) then
    bif (k101_v z_6.1) then
    bif z_12 then
    bif z_13.1 then
    bif (Option.isSome z_14) then
    k (z_15.2.2, z_6.1, z_15.1, z_15.2.1)
    else none
    else k ((Option.getD z_9 default).1, z_6.1, z_13.2.1, z_13.2.2)
    else none
    else k ((Option.getD z_9 default).1, z_6.1, z_8.2.1, z_8.2.2)
    else k ((Option.getD z_9 default).1, z_6.1, z_8.2.1, z_8.2.2)
    else none
    else none
    else bif z_5 then
    bif (Option.getD z_4 default) then
    bif (k101_v z_6.1) then
    bif z_12 then
    bif z_13.1 then
    bif (Option.isSome z_16) then
    k (z_17.2.2, z_6.1, z_17.1, z_17.2.1)
    else none
    else k (z_2.1, z_6.1, z_13.2.1, z_13.2.2)
    else none
    else k (z_2.1, z_6.1, z_8.2.1, z_8.2.2)
    else k (z_2.1, z_6.1, z_8.2.1, z_8.2.2)
    else none
    else none
    else bif z_5 then
    bif (Option.getD z_4 default) then
    bif (k101_v z_6.1) then
    bif z_19 then
    bif z_20.1 then
    bif z_22 then
    k (z_23.2.2, z_6.1, z_23.1, z_23.2.1)
    else none
    else k (z_2.1, z_6.1, z_20.2.1, z_20.2.2)
    else none
    else k (z_2.1, z_6.1, z_6.2.1, z_6.2.2)
    else k (z_2.1, z_6.1, z_6.2.1, z_6.2.2)
    else none
    else bif z_5 then
    bif (Option.getD z_4 default) then
    bif (k101_v z_6.1) then
    bif z_19 then
    bif z_20.1 then
    bif z_22 then
    k (z_23.2.2, z_6.1, z_23.1, z_23.2.1)
    else none
    else k (z_2.1, z_6.1, z_20.2.1, z_20.2.2)
    else none
    else k (z_2.1, z_6.1, z_6.2.1, z_6.2.2)
    else k (z_2.1, z_6.1, z_6.2.1, z_6.2.2)
    else none
    else none
    else none
    else none
def k68_p (F : Nat) (c3 : List Int) (c4 : Int) (c5 : Int) : Option (List Int × Int × Int × Int) := k68_c _ F c3 c4 c5 some
theorem k68_cp (Q : Type) (F : Nat) (c3 : List Int) (c4 : Int) (c5 : Int) (k : (List Int × Int × Int × Int) → Option Q) : k68_c Q F c3 c4 c5 k = (k68_p F c3 c4 c5).bind k := by
  simp only [k68_p, k68_c, cond_bindL, none_bindL, some_bindL]
def k31_c (Q : Type) (F : Nat) (j9 : List Int) (k : (List Int × Int) → Option Q) : Option Q :=
    let z_1 := (k68_p F j9 (0 : Int) (0 : Int))
    let z_2 := (Option.getD z_1 default)
    bif (Option.isSome z_1) then
    k (z_2.1, z_2.2.1)
    else none
def k31_p (F : Nat) (j9 : List Int) : Option (List Int × Int) := k31_c _ F j9 some
theorem k31_cp (Q : Type) (F : Nat) (j9 : List Int) (k : (List Int × Int) → Option Q) : k31_c Q F j9 k = (k31_p F j9).bind k := by
  simp only [k31_p, k31_c, cond_bindL, none_bindL, some_bindL]
def k38_c (Q : Type) (F : Nat) (j9 : List Int) (k : (List Int × Int) → Option Q) : Option Q :=
    let z_1 := (k31_p F j9)
    let z_2 := (Option.getD z_1 default)
    bif (Option.isSome z_1) then
    k (z_2.1, z_2.2)
    else none
def k38_p (F : Nat) (j9 : List Int) : Option (List Int × Int) := k38_c _ F j9 some
theorem k38_cp (Q : Type) (F : Nat) (j9 : List Int) (k : (List Int × Int) → Option Q) : k38_c Q F j9 k = (k38_p F j9).bind k := by
  simp only [k38_p, k38_c, cond_bindL, none_bindL, some_bindL]
def k117_c (Q : Type) (n0 : Int) (y41 : Int) (j41 : Int) (k : (Bool) → Option Q) : Option Q :=
    bif (decide (y41 ≤ n0)) then
    k (decide (n0 ≤ j41))
    else k false
def k117_v (n0 : Int) (y41 : Int) (j41 : Int) : Bool :=
    bif (decide (y41 ≤ n0)) then
    (decide (n0 ≤ j41))
    else false
theorem k117_cv (Q : Type) (n0 : Int) (y41 : Int) (j41 : Int) (k : (Bool) → Option Q) : k117_c Q n0 y41 j41 k = k (k117_v n0 y41 j41) := by
  simp only [k117_c, k117_v, app_condL k]
def k81_c (Q : Type) (n0 : Int) (k : (Bool) → Option Q) : Option Q :=
    k (!(k117_v n0 (0 : Int) (17 : Int)))
def k81_v (n0 : Int) : Bool :=
    (!(k117_v n0 (0 : Int) (17 : Int)))
theorem k81_cv (Q : Type) (n0 : Int) (k : (Bool) → Option Q) : k81_c Q n0 k = k (k81_v n0) := by
  simp only [k81_c, k81_v, app_condL k]
def k22_s2 (F : Nat) (s0 : List Int) (t71 : Int) (Q : Type) : (Int) → ((Int) → Option Q) → ((Bool × Int) → Option Q) → Option Q
  | t82, kn, kx =>
    bif (decide (t82 < t71)) then
    bif (inR t82 (List.length s0)) then
    bif (k81_v (iget s0 (Int.toNat t82))) then
    kx (true, t82)
    else kn (IntKind.wrap .i64 (t82 + (1 : Int)))
    else none
    else kx (false, default)
def k22_l2 (F : Nat) (s0 : List Int) (t71 : Int) (t82 : Int) : Option (Bool × Int) := loopC (k22_s2 F s0 t71) F t82 some
theorem k22_s2_nat (F : Nat) (s0 : List Int) (t71 : Int) : Natural (k22_s2 F s0 t71) := by
  intro Q Q' s kn kx h
  simp only [k22_s2, cond_bindL, none_bindL]
def k22_c (Q : Type) (F : Nat) (s0 : List Int) (k : (Int) → Option Q) : Option Q :=
    let z_1 := (k22_l2 F s0 (((List.length s0) : Nat) : Int) (0 : Int))
    let z_2 := (Option.getD z_1 default)
    bif (Option.isSome z_1) then
    bif z_2.1 then
    k z_2.2
    else k (-1 : Int)
    else none
def k22_p (F : Nat) (s0 : List Int) : Option (Int) := k22_c _ F s0 some
theorem k22_cp (Q : Type) (F : Nat) (s0 : List Int) (k : (Int) → Option Q) : k22_c Q F s0 k = (k22_p F s0).bind k := by
  simp only [k22_p, k22_c, cond_bindL, none_bindL, some_bindL]
def k20_c (Q : Type) (F : Nat) (s0 : List Int) (k : (Bool) → Option Q) : Option Q :=
    let z_1 := (k22_p F s0)
    bif (Option.isSome z_1) then
    k (decide ((0 : Int) ≤ (Option.getD z_1 default)))
    else none
def k20_p (F : Nat) (s0 : List Int) : Option (Bool) := k20_c _ F s0 some
theorem k20_cp (Q : Type) (F : Nat) (s0 : List Int) (k : (Bool) → Option Q) : k20_c Q F s0 k = (k20_p F s0).bind k := by
  simp only [k20_p, k20_c, cond_bindL, none_bindL, some_bindL]
def k105_c (Q : Type) (F : Nat) (g4 : List Int) (k : (Bool) → Option Q) : Option Q :=
    let z_1 := (k20_p F (sub g4 0 4))
    bif (Option.isSome z_1) then
    k (!(Option.getD z_1 default))
    else none
def k105_p (F : Nat) (g4 : List Int) : Option (Bool) := k105_c _ F g4 some
theorem k105_cp (Q : Type) (F : Nat) (g4 : List Int) (k : (Bool) → Option Q) : k105_c Q F g4 k = (k105_p F g4).bind k := by
  simp only [k105_p, k105_c, cond_bindL, none_bindL, some_bindL]
def k58_c (Q : Type) (F : Nat) (g4 : List Int) (k : (Bool) → Option Q) : Option Q :=
    let z_1 := (k105_p F g4)
    bif (Option.isSome z_1) then
    k (!(Option.getD z_1 default))
    else none
def k58_p (F : Nat) (g4 : List Int) : Option (Bool) := k58_c _ F g4 some
theorem k58_cp (Q : Type) (F : Nat) (g4 : List Int) (k : (Bool) → Option Q) : k58_c Q F g4 k = (k58_p F g4).bind k := by
  simp only [k58_p, k58_c, cond_bindL, none_bindL, some_bindL]
def k19_s2 (F : Nat) (s0 : List (List Int)) (t71 : Int) (Q : Type) : (Int) → ((Int) → Option Q) → ((Bool × Int) → Option Q) → Option Q
  | t82, kn, kx =>
    let z_1 := (k58_p F (rget s0 (Int.toNat t82)))
    bif (decide (t82 < t71)) then
    bif (inR t82 (List.length s0)) then
    bif (Option.isSome z_1) then
    bif (Option.getD z_1 default) then
    kx (true, t82)
    else kn (IntKind.wrap .i64 (t82 + (1 : Int)))
    else none
    else none
    else kx (false, default)
def k19_l2 (F : Nat) (s0 : List (List Int)) (t71 : Int) (t82 : Int) : Option (Bool × Int) := loopC (k19_s2 F s0 t71) F t82 some
theorem k19_s2_nat (F : Nat) (s0 : List (List Int)) (t71 : Int) : Natural (k19_s2 F s0 t71) := by
  intro Q Q' s kn kx h
  simp only [k19_s2, cond_bindL, none_bindL]
def k19_c (Q : Type) (F : Nat) (s0 : List (List Int)) (k : (Int) → Option Q) : Option Q :=
    let z_1 := (k19_l2 F s0 (((List.length s0) : Nat) : Int) (0 : Int))
    let z_2 := (Option.getD z_1 default)
    bif (Option.isSome z_1) then
    bif z_2.1 then
    k z_2.2
    else k (-1 : Int)
    else none
def k19_p (F : Nat) (s0 : List (List Int)) : Option (Int) := k19_c _ F s0 some
theorem k19_cp (Q : Type) (F : Nat) (s0 : List (List Int)) (k : (Int) → Option Q) : k19_c Q F s0 k = (k19_p F s0).bind k := by
  simp only [k19_p, k19_c, cond_bindL, none_bindL, some_bindL]
def k18_c (Q : Type) (F : Nat) (s0 : List (List Int)) (k : (Bool) → Option Q) : Option Q :=
    let z_1 := (k19_p F s0)
    bif (Option.isSome z_1) then
    k (decide ((0 : Int) ≤ (Option.getD z_1 default)))
    else none
def k18_p (F : Nat) (s0 : List (List Int)) : Option (Bool) := k18_c _ F s0 some
theorem k18_cp (Q : Type) (F : Nat) (s0 : List (List Int)) (k : (Bool) → Option Q) : k18_c Q F s0 k = (k18_p F s0).bind k := by
  simp only [k18_p, k18_c, cond_bindL, none_bindL, some_bindL]
def k89_c (Q : Type) (F : Nat) (b0 : List Int) (k : (Bool) → Option Q) : Option Q :=
    let z_1 := (k18_p F [(sub b0 0 4), (sub b0 4 4), (sub b0 8 4), (sub b0 12 4)])
    bif (Option.isSome z_1) then
    k (!(Option.getD z_1 default))
    else none
def k89_p (F : Nat) (b0 : List Int) : Option (Bool) := k89_c _ F b0 some
theorem k89_cp (Q : Type) (F : Nat) (b0 : List Int) (k : (Bool) → Option Q) : k89_c Q F b0 k = (k89_p F b0).bind k := by
  simp only [k89_p, k89_c, cond_bindL, none_bindL, some_bindL]
def k52_c (Q : Type) (d0 : Int) (k : (Bool) → Option Q) : Option Q :=
    k (k117_v d0 (0 : Int) (3 : Int))
def k52_v (d0 : Int) : Bool :=
    (k117_v d0 (0 : Int) (3 : Int))
theorem k52_cv (Q : Type) (d0 : Int) (k : (Bool) → Option Q) : k52_c Q d0 k = k (k52_v d0) := by
  simp only [k52_c, k52_v, app_condL k]
def k82_c (Q : Type) (j4 : Int) (i1 : Int) (k2 : Int) (k : (List Int) → Option Q) : Option Q :=
    let z_1 : Int := (IntKind.wrap .i64 ((3 : Int) - k2))
    bif (j4 == (0 : Int)) then
    k [i1, k2]
    else bif (j4 == (1 : Int)) then
    k [k2, i1]
    else bif (j4 == (2 : Int)) then
    k [i1, z_1]
    else k [z_1, i1]
def k82_v (j4 : Int) (i1 : Int) (k2 : Int) : List Int :=
    let z_1 : Int := (IntKind.wrap .i64 ((3 : Int) - k2))
    bif (j4 == (0 : Int)) then
    [i1, k2]
    else bif (j4 == (1 : Int)) then
    [k2, i1]
    else bif (j4 == (2 : Int)) then
    [i1, z_1]
    else [z_1, i1]
theorem k82_cv (Q : Type) (j4 : Int) (i1 : Int) (k2 : Int) (k : (List Int) → Option Q) : k82_c Q j4 i1 k2 k = k (k82_v j4 i1 k2) := by
  simp only [k82_c, k82_v, app_condL k]
def k79_c (Q : Type) (g40 : List Int) (b4 : List Int) (k : (Nat) → Option Q) : Option Q :=
    bif (inR (iget g40 0) 4) then
    bif (inR (iget g40 1) 4) then
    k (((0 : Nat) + ((Int.toNat (iget g40 0)) * (4 : Nat))) + ((Int.toNat (iget g40 1)) * (1 : Nat)))
    else none
    else none
def k79_p (g40 : List Int) (b4 : List Int) : Option (Nat) := k79_c _ g40 b4 some
theorem k79_cp (Q : Type) (g40 : List Int) (b4 : List Int) (k : (Nat) → Option Q) : k79_c Q g40 b4 k = (k79_p g40 b4).bind k := by
  simp only [k79_p, k79_c, cond_bindL, none_bindL, some_bindL]
def k56_c (Q : Type) (b0 : List Int) (w3 : Int) (i2 : Int) (k : (List Int) → Option Q) : Option Q :=
    let z_1 := (k79_p (k82_v w3 i2 (0 : Int)) b0)
    let z_2 := (k79_p (k82_v w3 i2 (1 : Int)) b0)
    let z_3 := (k79_p (k82_v w3 i2 (2 : Int)) b0)
    let z_4 := (k79_p (k82_v w3 i2 (3 : Int)) b0)
    bif (Option.isSome z_1) then
    bif (Option.isSome z_2) then
    bif (Option.isSome z_3) then
    bif (Option.isSome z_4) then
    k [(iget b0 (Option.getD z_1 default)), (iget b0 (Option.getD z_2 default)), (iget b0 (Option.getD z_3 default)), (iget b0 (Option.getD z_4 default))]
    else none
    else none
    else none
    else none
def k56_p (b0 : List Int) (w3 : Int) (i2 : Int) : Option (List Int) := k56_c _ b0 w3 i2 some
theorem k56_cp (Q : Type) (b0 : List Int) (w3 : Int) (i2 : Int) (k : (List Int) → Option Q) : k56_c Q b0 w3 i2 k = (k56_p b0 w3 i2).bind k := by
  simp only [k56_p, k56_c, cond_bindL, none_bindL, some_bindL]
def k84_c (Q : Type) (n0 : Int) (k : (Bool) → Option Q) : Option Q :=
    k (n0 == (0 : Int))
def k84_v (n0 : Int) : Bool :=
    (n0 == (0 : Int))
theorem k84_cv (Q : Type) (n0 : Int) (k : (Bool) → Option Q) : k84_c Q n0 k = k (k84_v n0) := by
  simp only [k84_c, k84_v, app_condL k]
def k23_s2 (F : Nat) (s0 : List Int) (t71 : Int) (Q : Type) : (Int) → ((Int) → Option Q) → ((Bool × Int) → Option Q) → Option Q
  | t82, kn, kx =>
    bif (decide (t82 < t71)) then
    bif (inR t82 (List.length s0)) then
    bif (k84_v (iget s0 (Int.toNat t82))) then
    kx (true, t82)
    else kn (IntKind.wrap .i64 (t82 + (1 : Int)))
    else none
    else kx (false, default)
def k23_l2 (F : Nat) (s0 : List Int) (t71 : Int) (t82 : Int) : Option (Bool × Int) := loopC (k23_s2 F s0 t71) F t82 some
theorem k23_s2_nat (F : Nat) (s0 : List Int) (t71 : Int) : Natural (k23_s2 F s0 t71) := by
  intro Q Q' s kn kx h
  simp only [k23_s2, cond_bindL, none_bindL]
def k23_c (Q : Type) (F : Nat) (s0 : List Int) (k : (Int) → Option Q) : Option Q :=
    let z_1 := (k23_l2 F s0 (((List.length s0) : Nat) : Int) (0 : Int))
    let z_2 := (Option.getD z_1 default)
    bif (Option.isSome z_1) then
    bif z_2.1 then
    k z_2.2
    else k (-1 : Int)
    else none
def k23_p (F : Nat) (s0 : List Int) : Option (Int) := k23_c _ F s0 some
theorem k23_cp (Q : Type) (F : Nat) (s0 : List Int) (k : (Int) → Option Q) : k23_c Q F s0 k = (k23_p F s0).bind k := by
  simp only [k23_p, k23_c, cond_bindL, none_bindL, some_bindL]
end Go.Lv.P
