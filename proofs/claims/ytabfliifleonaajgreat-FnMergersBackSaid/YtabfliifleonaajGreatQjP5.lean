/-
Pure functions and what the code of them does, by program; without conditions.
-/
import Derived.Test.YtabfliifleonaajGreatQjP4
namespace Go.Lv.P
open Go Go.Lv
set_option linter.unusedVariables false
set_option linter.unusedSimpArgs false
set_option maxRecDepth 100000
def k39_s5 (F : Nat) (j4 : Int) (w4 : Bool) (yu : List (List Int)) (ju : List (List Int)) (gu : List (List Int)) (wu : List (List Int)) (b14 : List Int) (vu : List (List Int)) (yv : List (List Int)) (jv : List (List Int)) (gv : List (List Int)) (Q : Type) : (Int × Int) → ((Int × Int) → Option Q) → ((Int) → Option Q) → Option Q
  | (j38, g37), kn, kx =>
    let z_1 : Int := (IntKind.wrap .i64 (g37 + (1 : Int)))
    bif (decide (g37 < (4 : Int))) then
    bif (inR g37 4) then
    bif (decide ((1 : Int) < (((List.length (llget [yu, ju, gu, wu] ((Int.toNat g37) * (1 : Nat)))) : Nat) : Int))) then
    kn ((IntKind.wrap .i64 (j38 + (1 : Int))), z_1)
    else kn (j38, z_1)
    else none
    else kx j38
def k39_l5 (F : Nat) (j4 : Int) (w4 : Bool) (yu : List (List Int)) (ju : List (List Int)) (gu : List (List Int)) (wu : List (List Int)) (b14 : List Int) (vu : List (List Int)) (yv : List (List Int)) (jv : List (List Int)) (gv : List (List Int)) (j38 : Int) (g37 : Int) : Option (Int) := loopC (k39_s5 F j4 w4 yu ju gu wu b14 vu yv jv gv) F (j38, g37) some
theorem k39_s5_nat (F : Nat) (j4 : Int) (w4 : Bool) (yu : List (List Int)) (ju : List (List Int)) (gu : List (List Int)) (wu : List (List Int)) (b14 : List Int) (vu : List (List Int)) (yv : List (List Int)) (jv : List (List Int)) (gv : List (List Int)) : Natural (k39_s5 F j4 w4 yu ju gu wu b14 vu yv jv gv) := by
  intro Q Q' s kn kx h
  obtain ⟨j38, g37⟩ := s
  simp only [k39_s5, cond_bindL, none_bindL]
def k39_s22 (F : Nat) (j4 : Int) (w4 : Bool) (j7 : Int) (g7 : Bool) (i10 : Int) (jc : List (List Int)) (k12 : Int) (ve : List (List Int)) (jf : List (List Int)) (wv : List (List Int)) (vv : List (List Int)) (yw : Int) (jw : Int) (jo : List (List Int)) (gw : Int) (b23 : List Int) (ww : List (List Int × Bool)) (Q : Type) : (Int × Int) → ((Int × Int) → Option Q) → ((Int) → Option Q) → Option Q
  | (g38, w37), kn, kx =>
    let z_1 := (k83_p F (rget jo (Int.toNat w37)))
    let z_2 : Int := (IntKind.wrap .i64 (w37 + (1 : Int)))
    bif (decide (w37 < gw)) then
    bif (inR w37 (List.length jo)) then
    bif (Option.isSome z_1) then
    bif (inR k12 4) then
    bif (bget (Option.getD z_1 default).2.2 ((0 : Nat) + ((Int.toNat k12) * (1 : Nat)))) then
    kn ((IntKind.wrap .i64 (g38 + (1 : Int))), z_2)
    else kn (g38, z_2)
    else none
    else none
    else none
    else kx g38
def k39_l22 (F : Nat) (j4 : Int) (w4 : Bool) (j7 : Int) (g7 : Bool) (i10 : Int) (jc : List (List Int)) (k12 : Int) (ve : List (List Int)) (jf : List (List Int)) (wv : List (List Int)) (vv : List (List Int)) (yw : Int) (jw : Int) (jo : List (List Int)) (gw : Int) (b23 : List Int) (ww : List (List Int × Bool)) (g38 : Int) (w37 : Int) : Option (Int) := loopC (k39_s22 F j4 w4 j7 g7 i10 jc k12 ve jf wv vv yw jw jo gw b23 ww) F (g38, w37) some
theorem k39_s22_nat (F : Nat) (j4 : Int) (w4 : Bool) (j7 : Int) (g7 : Bool) (i10 : Int) (jc : List (List Int)) (k12 : Int) (ve : List (List Int)) (jf : List (List Int)) (wv : List (List Int)) (vv : List (List Int)) (yw : Int) (jw : Int) (jo : List (List Int)) (gw : Int) (b23 : List Int) (ww : List (List Int × Bool)) : Natural (k39_s22 F j4 w4 j7 g7 i10 jc k12 ve jf wv vv yw jw jo gw b23 ww) := by
  intro Q Q' s kn kx h
  obtain ⟨g38, w37⟩ := s
  simp only [k39_s22, cond_bindL, none_bindL]
def k39_s18 (F : Nat) (j4 : Int) (w4 : Bool) (j7 : Int) (g7 : Bool) (i10 : Int) (jc : List (List Int)) (gc : List (List Int)) (wc : List (List Int)) (ve : List (List Int)) (jf : List (List Int)) (wo : Int) (b18 : List Int) (Q : Type) : (Int × List (List Int × Bool)) → ((Int × List (List Int × Bool)) → Option Q) → ((List (List Int × Bool)) → Option Q) → Option Q
  | (jl, vw), kn, kx =>
    let z_1 := (k39_l22 F j4 w4 j7 g7 i10 jc jl gc wc ve jf wo jl jc (((List.length jc) : Nat) : Int) b18 vw (0 : Int) (0 : Int))
    let z_2 : Int := (IntKind.wrap .i64 (jl + (1 : Int)))
    bif (decide (jl < (4 : Int))) then
    bif (Option.isSome z_1) then
    bif ((Option.getD z_1 default) == (((List.length jc) : Nat) : Int)) then
    kn (z_2, (mput (k82_v j4 i10 jl) true vw))
    else bif (!w4) then
    kn (z_2, (mput (k82_v j4 i10 jl) (decide ((0 : Int) < (Option.getD z_1 default))) vw))
    else kn (z_2, (mput (k82_v j4 i10 jl) false vw))
    else none
    else kx vw
def k39_l18 (F : Nat) (j4 : Int) (w4 : Bool) (j7 : Int) (g7 : Bool) (i10 : Int) (jc : List (List Int)) (gc : List (List Int)) (wc : List (List Int)) (ve : List (List Int)) (jf : List (List Int)) (wo : Int) (b18 : List Int) (jl : Int) (vw : List (List Int × Bool)) : Option (List (List Int × Bool)) := loopC (k39_s18 F j4 w4 j7 g7 i10 jc gc wc ve jf wo b18) F (jl, vw) some
theorem k39_s18_nat (F : Nat) (j4 : Int) (w4 : Bool) (j7 : Int) (g7 : Bool) (i10 : Int) (jc : List (List Int)) (gc : List (List Int)) (wc : List (List Int)) (ve : List (List Int)) (jf : List (List Int)) (wo : Int) (b18 : List Int) : Natural (k39_s18 F j4 w4 j7 g7 i10 jc gc wc ve jf wo b18) := by
  intro Q Q' s kn kx h
  obtain ⟨jl, vw⟩ := s
  simp only [k39_s18, cond_bindL, none_bindL]
def k39_s12 (F : Nat) (j4 : Int) (w4 : Bool) (j7 : Int) (g7 : Bool) (gl : List (List Int)) (vl : List (List Int)) (gc : List (List Int)) (wc : List (List Int)) (b15 : List Int) (Q : Type) : (Int × List (List Int × Bool)) → ((Int × List (List Int × Bool)) → Option Q) → ((List (List Int × Bool)) → Option Q) → Option Q
  | (wj, w38), kn, kx =>
    let z_1 := (k56_p b15 j4 wj)
    let z_2 : List (List Int) := (llget [gl, vl, gc, wc] ((Int.toNat wj) * (1 : Nat)))
    let z_3 : Nat := (List.length z_2)
    let z_4 := (k9_p F z_2 (Option.getD z_1 default))
    let z_5 := (Option.getD z_4 default)
    let z_6 := (k39_l18 F j4 w4 j7 g7 wj (subn (List.length z_5.2) z_5.2 0 z_5.1) gl vl gc wc wj b15 (0 : Int) w38)
    let z_7 : Int := (IntKind.wrap .i64 (wj + (1 : Int)))
    let z_8 := (k39_l18 F j4 w4 j7 g7 wj z_2 gl vl gc wc wj b15 (0 : Int) w38)
    let z_9 : Bool := (Option.isSome z_8)
    bif (decide (wj < (4 : Int))) then
    bif (inR wj 4) then
    bif (Option.isSome z_1) then
    bif g7 then
    bif (decide ((1 : Int) < ((z_3 : Nat) : Int))) then
    bif (j7 == (1 : Int)) then
    bif (fits z_3 32) then
    bif ((Nat.beq z_3 z_3) && (Option.isSome z_4)) then
    bif (Option.isSome z_6) then
    kn (z_7, (Option.getD z_6 default))
    else none
    else none
    else none
    else bif z_9 then
    kn (z_7, (Option.getD z_8 default))
    else none
    else bif z_9 then
    kn (z_7, (Option.getD z_8 default))
    else none
    else bif z_9 then
    kn (z_7, (Option.getD z_8 default))
    else none
    else none
    else none
    else kx w38
def k39_l12 (F : Nat) (j4 : Int) (w4 : Bool) (j7 : Int) (g7 : Bool) (gl : List (List Int)) (vl : List (List Int)) (gc : List (List Int)) (wc : List (List Int)) (b15 : List Int) (wj : Int) (w38 : List (List Int × Bool)) : Option (List (List Int × Bool)) := loopC (k39_s12 F j4 w4 j7 g7 gl vl gc wc b15) F (wj, w38) some
theorem k39_s12_nat (F : Nat) (j4 : Int) (w4 : Bool) (j7 : Int) (g7 : Bool) (gl : List (List Int)) (vl : List (List Int)) (gc : List (List Int)) (wc : List (List Int)) (b15 : List Int) : Natural (k39_s12 F j4 w4 j7 g7 gl vl gc wc b15) := by
  intro Q Q' s kn kx h
  obtain ⟨wj, w38⟩ := s
  simp only [k39_s12, cond_bindL, none_bindL]
def k39_c (Q : Type) (F : Nat) (b0 : List Int) (w3 : Int) (w40 : Bool) (k : (Nat × Bool × List (List Int)) → Option Q) : Option Q :=
    let z_1 := (k89_p F b0)
    let z_2 := (k26_p F b0 w3)
    let z_3 := (k27_p F b0 w3)
    let z_4 := (Option.getD z_3 default)
    let z_5 := (k39_l5 F w3 w40 z_4.1 z_4.2.1 z_4.2.2.1 z_4.2.2.2 b0 z_4.1 z_4.2.1 z_4.2.2.1 z_4.2.2.2 (0 : Int) (0 : Int))
    let z_6 := (k40_p F b0 [w3])
    let z_7 := (k39_l12 F w3 w40 (Option.getD z_5 default) ((Option.getD z_6 default) == b0) z_4.1 z_4.2.1 z_4.2.2.1 z_4.2.2.2 b0 (0 : Int) ([] : List (List Int × Bool)))
    let z_8 := (k5_p F [[(0 : Int), (0 : Int)], [(0 : Int), (1 : Int)], [(0 : Int), (2 : Int)], [(0 : Int), (3 : Int)], [(1 : Int), (0 : Int)], [(1 : Int), (1 : Int)], [(1 : Int), (2 : Int)], [(1 : Int), (3 : Int)], [(2 : Int), (0 : Int)], [(2 : Int), (1 : Int)], [(2 : Int), (2 : Int)], [(2 : Int), (3 : Int)], [(3 : Int), (0 : Int)], [(3 : Int), (1 : Int)], [(3 : Int), (2 : Int)], [(3 : Int), (3 : Int)]] (Option.getD z_7 default))
    let z_9 := (Option.getD z_8 default)
    bif (Option.isSome z_1) then
    bif (!(Option.getD z_1 default)) then
    k ((0 : Nat), false, ([] : List (List Int)))
    else bif (!(k52_v w3)) then
    k ((0 : Nat), false, ([] : List (List Int)))
    else bif (Option.isSome z_2) then
    bif ((Option.getD z_2 default) == (0 : Int)) then
    k ((0 : Nat), false, ([] : List (List Int)))
    else bif (Option.isSome z_3) then
    bif (Option.isSome z_5) then
    bif (Option.isSome z_6) then
    bif (Option.isSome z_7) then
    bif (Option.isSome z_8) then
    k (z_9.1, true, z_9.2)
    else none
    else none
    else none
    else none
    else none
    else none
    else none
def k39_p (F : Nat) (b0 : List Int) (w3 : Int) (w40 : Bool) : Option (Nat × Bool × List (List Int)) := k39_c _ F b0 w3 w40 some
theorem k39_cp (Q : Type) (F : Nat) (b0 : List Int) (w3 : Int) (w40 : Bool) (k : (Nat × Bool × List (List Int)) → Option Q) : k39_c Q F b0 w3 w40 k = (k39_p F b0 w3 w40).bind k := by
  simp only [k39_p, k39_c, cond_bindL, none_bindL, some_bindL]
def k73_c (Q : Type) (F : Nat) (b0 : List Int) (w3 : Int) (k : (Nat × Bool × List (List Int)) → Option Q) : Option Q :=
    let z_1 := (k39_p F b0 w3 true)
    let z_2 := (Option.getD z_1 default)
    bif (Option.isSome z_1) then
    k (z_2.1, z_2.2.1, z_2.2.2)
    else none
def k73_p (F : Nat) (b0 : List Int) (w3 : Int) : Option (Nat × Bool × List (List Int)) := k73_c _ F b0 w3 some
theorem k73_cp (Q : Type) (F : Nat) (b0 : List Int) (w3 : Int) (k : (Nat × Bool × List (List Int)) → Option Q) : k73_c Q F b0 w3 k = (k73_p F b0 w3).bind k := by
  simp only [k73_p, k73_c, cond_bindL, none_bindL, some_bindL]
def k110_s2 (F : Nat) (l0 : List Int) (n1 : Int) (Q : Type) : (Int) → ((Int) → Option Q) → ((Bool) → Option Q) → Option Q
  | i2, kn, kx =>
    bif (decide (i2 < (((List.length l0) : Nat) : Int))) then
    bif (inR i2 (List.length l0)) then
    bif ((iget l0 (Int.toNat i2)) == n1) then
    kx true
    else kn (IntKind.wrap .i64 (i2 + (1 : Int)))
    else none
    else kx false
def k110_l2 (F : Nat) (l0 : List Int) (n1 : Int) (i2 : Int) : Option (Bool) := loopC (k110_s2 F l0 n1) F i2 some
theorem k110_s2_nat (F : Nat) (l0 : List Int) (n1 : Int) : Natural (k110_s2 F l0 n1) := by
  intro Q Q' s kn kx h
  simp only [k110_s2, cond_bindL, none_bindL]
def k110_c (Q : Type) (F : Nat) (l0 : List Int) (n1 : Int) (k : (Bool) → Option Q) : Option Q :=
    let z_1 := (k110_l2 F l0 n1 (0 : Int))
    bif (Option.isSome z_1) then
    bif (Option.getD z_1 default) then
    k true
    else k false
    else none
def k110_p (F : Nat) (l0 : List Int) (n1 : Int) : Option (Bool) := k110_c _ F l0 n1 some
theorem k110_cp (Q : Type) (F : Nat) (l0 : List Int) (n1 : Int) (k : (Bool) → Option Q) : k110_c Q F l0 n1 k = (k110_p F l0 n1).bind k := by
  simp only [k110_p, k110_c, cond_bindL, none_bindL, some_bindL]
def k87_s7 (F : Nat) (ja : List Int) (yh : Nat) (jh : Int) (yx : List (List Int)) (Q : Type) : (Int × Int × List Int) → ((Int × Int × List Int) → Option Q) → ((Int × List Int) → Option Q) → Option Q
  | (n7, k8, v37), kn, kx =>
    let z_1 : Int := (IntKind.wrap .i64 (n7 + (1 : Int)))
    let z_2 : Int := (IntKind.wrap .i64 (k8 + (1 : Int)))
    bif (decide (k8 < (4 : Int))) then
    bif (decide (k8 < (0 : Int))) then
    none
    else bif ((IntKind.wrap .i64 (((BitVec.ofInt (IntKind.bits .i64) (Int.fdiv jh (2 ^ (min (Int.toNat k8) (IntKind.bits .i64)) : Int)) &&& BitVec.ofInt (IntKind.bits .i64) (1 : Int)).toNat : Nat) : Int)) == (1 : Int)) then
    bif (decide (n7 < (((List.length ja) : Nat) : Int))) then
    bif (inR n7 (List.length ja)) then
    bif (inR k8 4) then
    kn (z_1, z_2, (iset v37 ((0 : Nat) + ((Int.toNat k8) * (1 : Nat))) (iget ja (Int.toNat n7))))
    else none
    else none
    else kn (z_1, z_2, v37)
    else kn (n7, z_2, v37)
    else kx (n7, v37)
def k87_l7 (F : Nat) (ja : List Int) (yh : Nat) (jh : Int) (yx : List (List Int)) (n7 : Int) (k8 : Int) (v37 : List Int) : Option (Int × List Int) := loopC (k87_s7 F ja yh jh yx) F (n7, k8, v37) some
theorem k87_s7_nat (F : Nat) (ja : List Int) (yh : Nat) (jh : Int) (yx : List (List Int)) : Natural (k87_s7 F ja yh jh yx) := by
  intro Q Q' s kn kx h
  obtain ⟨n7, k8, v37⟩ := s
  simp only [k87_s7, cond_bindL, none_bindL]
def k87_s3 (F : Nat) (ja : List Int) (Q : Type) : (Nat × Int × List (List Int)) → ((Nat × Int × List (List Int)) → Option Q) → ((Nat × List (List Int)) → Option Q) → Option Q
  | (yh, jh, j5), kn, kx =>
    let z_1 := (k87_l7 F ja yh jh j5 (0 : Int) (0 : Int) [(0 : Int), (0 : Int), (0 : Int), (0 : Int)])
    let z_2 := (Option.getD z_1 default)
    let z_3 : List (List Int) := ((subn (List.length j5) j5 0 yh) ++ [z_2.2])
    let z_4 : Nat := (List.length z_3)
    let z_5 : Int := (IntKind.wrap .i64 (jh + (1 : Int)))
    bif (decide (jh < (16 : Int))) then
    bif (Option.isSome z_1) then
    bif (z_2.1 == (((List.length ja) : Nat) : Int)) then
    bif (fits z_4 32) then
    kn (z_4, z_5, z_3)
    else none
    else kn (yh, z_5, j5)
    else none
    else kx (yh, j5)
def k87_l3 (F : Nat) (ja : List Int) (yh : Nat) (jh : Int) (j5 : List (List Int)) : Option (Nat × List (List Int)) := loopC (k87_s3 F ja) F (yh, jh, j5) some
theorem k87_s3_nat (F : Nat) (ja : List Int) : Natural (k87_s3 F ja) := by
  intro Q Q' s kn kx h
  obtain ⟨yh, jh, j5⟩ := s
  simp only [k87_s3, cond_bindL, none_bindL]
def k87_c (Q : Type) (F : Nat) (ja : List Int) (k : (Nat × List (List Int)) → Option Q) : Option Q :=
    let z_1 := (k87_l3 F ja (0 : Nat) (0 : Int) ([] : List (List Int)))
    let z_2 := (Option.getD z_1 default)
    bif (Option.isSome z_1) then
    k (z_2.1, z_2.2)
    else none
def k87_p (F : Nat) (ja : List Int) : Option (Nat × List (List Int)) := k87_c _ F ja some
theorem k87_cp (Q : Type) (F : Nat) (ja : List Int) (k : (Nat × List (List Int)) → Option Q) : k87_c Q F ja k = (k87_p F ja).bind k := by
  simp only [k87_p, k87_c, cond_bindL, none_bindL, some_bindL]
def k102_s2 (F : Nat) (a7 : List Int) (b8 : List Int) (Q : Type) : (Int) → ((Int) → Option Q) → ((Bool × Bool) → Option Q) → Option Q
  | k6, kn, kx =>
    let z_1 : Nat := ((0 : Nat) + ((Int.toNat k6) * (1 : Nat)))
    let z_2 : Int := (iget a7 z_1)
    let z_3 : Int := (iget b8 z_1)
    bif (decide (k6 < (4 : Int))) then
    bif (inR k6 4) then
    bif (inR k6 4) then
    bif (!(z_2 == z_3)) then
    bif (inR k6 4) then
    bif (inR k6 4) then
    kx (true, (decide (z_2 < z_3)))
    else none
    else none
    else kn (IntKind.wrap .i64 (k6 + (1 : Int)))
    else none
    else none
    else kx (false, default)
def k102_l2 (F : Nat) (a7 : List Int) (b8 : List Int) (k6 : Int) : Option (Bool × Bool) := loopC (k102_s2 F a7 b8) F k6 some
theorem k102_s2_nat (F : Nat) (a7 : List Int) (b8 : List Int) : Natural (k102_s2 F a7 b8) := by
  intro Q Q' s kn kx h
  simp only [k102_s2, cond_bindL, none_bindL]
def k102_c (Q : Type) (F : Nat) (a0 : List Int) (b1 : List Int) (k : (Bool) → Option Q) : Option Q :=
    let z_1 := (k102_l2 F a0 b1 (0 : Int))
    let z_2 := (Option.getD z_1 default)
    bif (Option.isSome z_1) then
    bif z_2.1 then
    k z_2.2
    else k false
    else none
def k102_p (F : Nat) (a0 : List Int) (b1 : List Int) : Option (Bool) := k102_c _ F a0 b1 some
theorem k102_cp (Q : Type) (F : Nat) (a0 : List Int) (b1 : List Int) (k : (Bool) → Option Q) : k102_c Q F a0 b1 k = (k102_p F a0 b1).bind k := by
  simp only [k102_p, k102_c, cond_bindL, none_bindL, some_bindL]
def k94_s2 (F : Nat) (wa : List (List Int)) (j8 : List Int) (Q : Type) : (Int) → ((Int) → Option Q) → ((Int) → Option Q) → Option Q
  | n4, kn, kx =>
    let z_1 := (k102_p F (rget wa (Int.toNat n4)) j8)
    bif (decide (n4 < (((List.length wa) : Nat) : Int))) then
    bif (inR n4 (List.length wa)) then
    bif (Option.isSome z_1) then
    bif (Option.getD z_1 default) then
    kn (IntKind.wrap .i64 (n4 + (1 : Int)))
    else kx n4
    else none
    else none
    else kx n4
def k94_l2 (F : Nat) (wa : List (List Int)) (j8 : List Int) (n4 : Int) : Option (Int) := loopC (k94_s2 F wa j8) F n4 some
theorem k94_s2_nat (F : Nat) (wa : List (List Int)) (j8 : List Int) : Natural (k94_s2 F wa j8) := by
  intro Q Q' s kn kx h
  simp only [k94_s2, cond_bindL, none_bindL]
def k94_c (Q : Type) (F : Nat) (wa : List (List Int)) (jj : List Int) (k : (Int) → Option Q) : Option Q :=
    let z_1 := (k94_l2 F wa jj (0 : Int))
    bif (Option.isSome z_1) then
    k (Option.getD z_1 default)
    else none
def k94_p (F : Nat) (wa : List (List Int)) (jj : List Int) : Option (Int) := k94_c _ F wa jj some
theorem k94_cp (Q : Type) (F : Nat) (wa : List (List Int)) (jj : List Int) (k : (Int) → Option Q) : k94_c Q F wa jj k = (k94_p F wa jj).bind k := by
  simp only [k94_p, k94_c, cond_bindL, none_bindL, some_bindL]
def k113_c (Q : Type) (F : Nat) (wa : List (List Int)) (jj : List Int) (k : (List (List Int)) → Option Q) : Option Q :=
    let z_1 := (k94_p F wa jj)
    let z_2 : Nat := (Int.toNat (Option.getD z_1 default))
    let z_3 : Bool := (inLe (Option.getD z_1 default) (List.length wa))
    let z_4 : List (List Int) := (subn (List.length wa) wa 0 (z_2 - (0 : Nat)))
    let z_5 : Nat := (List.length z_4)
    let z_6 : Bool := (fits z_5 32)
    let z_7 : List (List Int) := ((subn z_5 z_4 0 z_5) ++ [jj])
    let z_8 : Nat := (List.length z_7)
    let z_9 : Bool := (fits z_8 32)
    let z_10 : List (List Int) := ((subn z_8 z_7 0 z_8) ++ (subn (List.length wa) wa z_2 ((List.length wa) - z_2)))
    let z_11 : Nat := (List.length z_10)
    let z_12 : Bool := (fits z_11 32)
    let z_13 : List (List Int) := (subn z_11 z_10 0 z_11)
    bif (Option.isSome z_1) then
    bif (decide ((Option.getD z_1 default) < (((List.length wa) : Nat) : Int))) then
    bif (inR (Option.getD z_1 default) (List.length wa)) then
    bif ((rget wa z_2) == jj) then
    k wa
    else bif z_3 then
    bif z_6 then
    bif z_9 then
    bif z_3 then
    bif z_12 then
    k z_13
    else none
    else none
    else none
    else none
    else none
    else none
    else bif z_3 then
    bif z_6 then
    bif z_9 then
    bif z_3 then
    bif z_12 then
    k z_13
    else none
    else none
    else none
    else none
    else none
    else none
def k113_p (F : Nat) (wa : List (List Int)) (jj : List Int) : Option (List (List Int)) := k113_c _ F wa jj some
theorem k113_cp (Q : Type) (F : Nat) (wa : List (List Int)) (jj : List Int) (k : (List (List Int)) → Option Q) : k113_c Q F wa jj k = (k113_p F wa jj).bind k := by
  simp only [k113_p, k113_c, cond_bindL, none_bindL, some_bindL]
end Go.Lv.P
