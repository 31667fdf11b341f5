/-
Pure functions and what the code of them does, by program; without conditions.
-/
import Derived.Test.YtabfliifleonaakGreatQkP0
namespace Go.Lv.P
open Go Go.Lv
set_option linter.unusedVariables false
set_option linter.unusedSimpArgs false
set_option maxRecDepth 100000
def k124_c (Q : Type) (b0 : List Int) (wf : List Int) (t2 : Int) (k : (List Int) → Option Q) : Option Q :=
    bif (inR (iget wf 0) 4) then
    bif (inR (iget wf 1) 4) then
    k (iset b0 (((0 : Nat) + ((Int.toNat (iget wf 0)) * (4 : Nat))) + ((Int.toNat (iget wf 1)) * (1 : Nat))) t2)
    else none
    else none
def k124_p (b0 : List Int) (wf : List Int) (t2 : Int) : Option (List Int) := k124_c _ b0 wf t2 some
theorem k124_cp (Q : Type) (b0 : List Int) (wf : List Int) (t2 : Int) (k : (List Int) → Option Q) : k124_c Q b0 wf t2 k = (k124_p b0 wf t2).bind k := by
  simp only [k124_p, k124_c, u004, u003, u008]
def k101_s3 (F : Nat) (d0 : Int) (b12 : List Int) (Q : Type) : (Int × Int × List Int) → ((Int × Int × List Int) → Option Q) → ((Int × List Int) → Option Q) → Option Q
  | (gx, i11, ge), kn, kx =>
    let z_1 := (k74_p F b12 d0 i11)
    let z_2 := (k125_p F (Option.getD z_1 default))
    let z_3 := (k113_p F d0 i11)
    let z_4 := (Option.getD z_2 default)
    let z_5 := (k124_p ge (sub (Option.getD z_3 default) 0 2) (iget z_4.1 0))
    let z_6 := (k124_p (Option.getD z_5 default) (sub (Option.getD z_3 default) 2 2) (iget z_4.1 1))
    let z_7 := (k124_p (Option.getD z_6 default) (sub (Option.getD z_3 default) 4 2) (iget z_4.1 2))
    let z_8 := (k124_p (Option.getD z_7 default) (sub (Option.getD z_3 default) 6 2) (iget z_4.1 3))
    bif (decide (i11 < (4 : Int))) then
    bif (Option.isSome z_1) then
    bif (Option.isSome z_2) then
    bif (Option.isSome z_3) then
    bif (Option.isSome z_5) then
    bif (Option.isSome z_6) then
    bif (Option.isSome z_7) then
    bif (Option.isSome z_8) then
    kn ((IntKind.wrap .i64 (gx + z_4.2)), (IntKind.wrap .i64 (i11 + (1 : Int))), (Option.getD z_8 default))
    else none
    else none
    else none
    else none
    else none
    else none
    else none
    else kx (gx, ge)
def k101_l3 (F : Nat) (d0 : Int) (b12 : List Int) (gx : Int) (i11 : Int) (ge : List Int) : Option (Int × List Int) := loopC (k101_s3 F d0 b12) F (gx, i11, ge) some
theorem k101_s3_nat (F : Nat) (d0 : Int) (b12 : List Int) : u028 (k101_s3 F d0 b12) := by
  intro Q Q' s kn kx h
  obtain ⟨gx, i11, ge⟩ := s
  simp only [k101_s3, u004, u003]
def k101_c (Q : Type) (F : Nat) (b0 : List Int) (d1 : Int) (k : (List Int × Int) → Option Q) : Option Q :=
    let z_1 := (k101_l3 F d1 b0 (0 : Int) (0 : Int) b0)
    let z_2 := (Option.getD z_1 default)
    bif (Option.isSome z_1) then
    k (z_2.2, z_2.1)
    else none
def k101_p (F : Nat) (b0 : List Int) (d1 : Int) : Option (List Int × Int) := k101_c _ F b0 d1 some
theorem k101_cp (Q : Type) (F : Nat) (b0 : List Int) (d1 : Int) (k : (List Int × Int) → Option Q) : k101_c Q F b0 d1 k = (k101_p F b0 d1).bind k := by
  simp only [k101_p, k101_c, u004, u003, u008]
def k116_c (Q : Type) (F : Nat) (b0 : List Int) (d1 : Int) (i2 : Int) (wg : List Int) (k : (List Int) → Option Q) : Option Q :=
    let z_1 := (k113_p F d1 i2)
    let z_2 := (k124_p b0 (sub (Option.getD z_1 default) 0 2) (iget wg 0))
    let z_3 := (k124_p (Option.getD z_2 default) (sub (Option.getD z_1 default) 2 2) (iget wg 1))
    let z_4 := (k124_p (Option.getD z_3 default) (sub (Option.getD z_1 default) 4 2) (iget wg 2))
    let z_5 := (k124_p (Option.getD z_4 default) (sub (Option.getD z_1 default) 6 2) (iget wg 3))
    bif (Option.isSome z_1) then
    bif (Option.isSome z_2) then
    bif (Option.isSome z_3) then
    bif (Option.isSome z_4) then
    bif (Option.isSome z_5) then
    k (Option.getD z_5 default)
    else none
    else none
    else none
    else none
    else none
def k116_p (F : Nat) (b0 : List Int) (d1 : Int) (i2 : Int) (wg : List Int) : Option (List Int) := k116_c _ F b0 d1 i2 wg some
theorem k116_cp (Q : Type) (F : Nat) (b0 : List Int) (d1 : Int) (i2 : Int) (wg : List Int) (k : (List Int) → Option Q) : k116_c Q F b0 d1 i2 wg k = (k116_p F b0 d1 i2 wg).bind k := by
  simp only [k116_p, k116_c, u004, u003, u008]
def k65_s6 (F : Nat) (d9 : Int) (c11 : List Int) (Q : Type) : (Int × Int × Int × List Int) → ((Int × Int × Int × List Int) → Option Q) → ((Int × Int × List Int) → Option Q) → Option Q
  | (i10, c12, c13, b15), kn, kx =>
    let z_1 := (k67_p (3 : Int) c11 c12 c13)
    let z_2 := (Option.getD z_1 default)
    let z_3 := (k116_p F b15 d9 i10 [(0 : Int), (0 : Int), (0 : Int), (0 : Int)])
    bif (Option.isSome z_1) then
    bif (decide (i10 < (IntKind.wrap .i64 ((1 : Int) + z_2.1)))) then
    bif (Option.isSome z_3) then
    kn ((IntKind.wrap .i64 (i10 + (1 : Int))), z_2.2.1, z_2.2.2, (Option.getD z_3 default))
    else none
    else kx (z_2.2.1, z_2.2.2, b15)
    else none
def k65_l6 (F : Nat) (d9 : Int) (c11 : List Int) (i10 : Int) (c12 : Int) (c13 : Int) (b15 : List Int) : Option (Int × Int × List Int) := loopC (k65_s6 F d9 c11) F (i10, c12, c13, b15) some
theorem k65_s6_nat (F : Nat) (d9 : Int) (c11 : List Int) : u028 (k65_s6 F d9 c11) := by
  intro Q Q' s kn kx h
  obtain ⟨i10, c12, c13, b15⟩ := s
  simp only [k65_s6, u004, u003]
def k65_c (Q : Type) (F : Nat) (c3 : List Int) (c4 : Int) (c5 : Int) (k : (List Int × Int × Int × Int) → Option Q) : Option Q :=
    let z_1 := (k53_p F c3 c4 c5)
    let z_2 := (Option.getD z_1 default)
    let z_3 := (k68_p c3 z_2.2.1 z_2.2.2)
    let z_4 := (k99_p F z_2.1)
    let z_5 : Bool := (Option.isSome z_4)
    let z_6 := (Option.getD z_3 default)
    let z_7 := (k73_p (4 : Int) c3 z_6.2.1 z_6.2.2)
    let z_8 := (Option.getD z_7 default)
    let z_9 := (k101_p F z_2.1 z_6.1)
    let z_10 := (k99_p F (Option.getD z_9 default).1)
    let z_11 := (k73_p (2 : Int) c3 z_8.2.1 z_8.2.2)
    let z_12 : Bool := (Option.isSome z_11)
    let z_13 := (Option.getD z_11 default)
    let z_14 := (k65_l6 F z_6.1 c3 (0 : Int) z_13.2.1 z_13.2.2 (Option.getD z_9 default).1)
    let z_15 := (Option.getD z_14 default)
    let z_16 := (k65_l6 F z_6.1 c3 (0 : Int) z_13.2.1 z_13.2.2 z_2.1)
    let z_17 := (Option.getD z_16 default)
    let z_18 := (k73_p (2 : Int) c3 z_6.2.1 z_6.2.2)
    let z_19 : Bool := (Option.isSome z_18)
    let z_20 := (Option.getD z_18 default)
    let wx := (k65_l6 F z_6.1 c3 (0 : Int) z_20.2.1 z_20.2.2 z_2.1)
    let z_22 : Bool := (Option.isSome wx)
    let z_23 := (Option.getD wx default)
    bif (Option.isSome z_1) then
    bif (Option.isSome z_3) then
    bif z_5 then
    bif (Option.getD z_4 default) then
    bif (k114_v z_6.1) then
    bif (Option.isSome z_7) then
    bif (!z_8.1) then
    bif (Option.isSome z_9) then
    bif (Option.isSome z_10) then
    bif (Option.getD z_10 default) then
    bif (k114_v z_6.1) then
    bif z_12 then
    bif z_13.1 then
    bif (Option.isSome z_14) then
    k (z_15.2.2, z_6.1, z_15.1, z_15.2.1)
    else none
    else k ((Option.getD z_9 default).1, z_6.1, z_13.2.1, z_13.2.2)
    else none
    else k ((Option.getD z_9 default).1, z_6.1, z_8.2.1, z_8.2.2)
    else k ((Option.getD z_9 default).1, z_6.1, z_8.2.1, z_8.2.2)
    else none
    else none
    else bif z_5 then
    bif (Option.getD z_4 default) then
    bif (k114_v z_6.1) then
    bif z_12 then
    bif z_13.1 then
    bif (Option.isSome z_16) then
    k (z_17.2.2, z_6.1, z_17.1, z_17.2.1)
    else none
    else k (z_2.1, z_6.1, z_13.2.1, z_13.2.2)
    else none
    else k (z_2.1, z_6.1, z_8.2.1, z_8.2.2)
    else k (z_2.1, z_6.1, z_8.2.1, z_8.2.2)
    else none
    else none
    else bif z_5 then
    bif (Option.getD z_4 default) then
    bif (k114_v z_6.1) then
    bif z_19 then
    bif z_20.1 then
    bif z_22 then
    k (z_23.2.2, z_6.1, z_23.1, z_23.2.1)
    else none
    else k (z_2.1, z_6.1, z_20.2.1, z_20.2.2)
    else none
    else k (z_2.1, z_6.1, z_6.2.1, z_6.2.2)
    else k (z_2.1, z_6.1, z_6.2.1, z_6.2.2)
    else none
    else bif z_5 then
    bif (Option.getD z_4 default) then
    bif (k114_v z_6.1) then
    bif z_19 then
    bif z_20.1 then
    bif z_22 then
    k (z_23.2.2, z_6.1, z_23.1, z_23.2.1)
    else none
    else k (z_2.1, z_6.1, z_20.2.1, z_20.2.2)
    else none
    else k (z_2.1, z_6.1, z_6.2.1, z_6.2.2)
    else k (z_2.1, z_6.1, z_6.2.1, z_6.2.2)
    else none
    else none
    else none
    else none
def k65_p (F : Nat) (c3 : List Int) (c4 : Int) (c5 : Int) : Option (List Int × Int × Int × Int) := k65_c _ F c3 c4 c5 some
theorem k65_cp (Q : Type) (F : Nat) (c3 : List Int) (c4 : Int) (c5 : Int) (k : (List Int × Int × Int × Int) → Option Q) : k65_c Q F c3 c4 c5 k = (k65_p F c3 c4 c5).bind k := by
  simp only [k65_p, k65_c, u004, u003, u008]
def k28_c (Q : Type) (F : Nat) (j2 : List Int) (k : (List Int × Int) → Option Q) : Option Q :=
    let z_1 := (k65_p F j2 (0 : Int) (0 : Int))
    let z_2 := (Option.getD z_1 default)
    bif (Option.isSome z_1) then
    k (z_2.1, z_2.2.1)
    else none
def k28_p (F : Nat) (j2 : List Int) : Option (List Int × Int) := k28_c _ F j2 some
theorem k28_cp (Q : Type) (F : Nat) (j2 : List Int) (k : (List Int × Int) → Option Q) : k28_c Q F j2 k = (k28_p F j2).bind k := by
  simp only [k28_p, k28_c, u004, u003, u008]
def k24_c (Q : Type) (F : Nat) (j2 : List Int) (k : (List Int × Int) → Option Q) : Option Q :=
    let z_1 := (k28_p F j2)
    let z_2 := (Option.getD z_1 default)
    bif (Option.isSome z_1) then
    k (z_2.1, z_2.2)
    else none
def k24_p (F : Nat) (j2 : List Int) : Option (List Int × Int) := k24_c _ F j2 some
theorem k24_cp (Q : Type) (F : Nat) (j2 : List Int) (k : (List Int × Int) → Option Q) : k24_c Q F j2 k = (k24_p F j2).bind k := by
  simp only [k24_p, k24_c, u004, u003, u008]
def k132_c (Q : Type) (n0 : Int) (yz : Int) (jz : Int) (k : (Bool) → Option Q) : Option Q :=
    bif (decide (yz ≤ n0)) then
    k (decide (n0 ≤ jz))
    else k false
def k132_v (n0 : Int) (yz : Int) (jz : Int) : Bool :=
    bif (decide (yz ≤ n0)) then
    (decide (n0 ≤ jz))
    else false
theorem k132_cv (Q : Type) (n0 : Int) (yz : Int) (jz : Int) (k : (Bool) → Option Q) : k132_c Q n0 yz jz k = k (k132_v n0 yz jz) := by
  simp only [k132_c, k132_v, u067 k]
def k79_c (Q : Type) (n0 : Int) (k : (Bool) → Option Q) : Option Q :=
    k (!(k132_v n0 (0 : Int) (17 : Int)))
def k79_v (n0 : Int) : Bool :=
    (!(k132_v n0 (0 : Int) (17 : Int)))
theorem k79_cv (Q : Type) (n0 : Int) (k : (Bool) → Option Q) : k79_c Q n0 k = k (k79_v n0) := by
  simp only [k79_c, k79_v, u067 k]
def k17_s2 (F : Nat) (s0 : List Int) (t71 : Int) (Q : Type) : (Int) → ((Int) → Option Q) → ((Bool × Int) → Option Q) → Option Q
  | t82, kn, kx =>
    bif (decide (t82 < t71)) then
    bif (inR t82 (List.length s0)) then
    bif (k79_v (iget s0 (Int.toNat t82))) then
    kx (true, t82)
    else kn (IntKind.wrap .i64 (t82 + (1 : Int)))
    else none
    else kx (false, default)
def k17_l2 (F : Nat) (s0 : List Int) (t71 : Int) (t82 : Int) : Option (Bool × Int) := loopC (k17_s2 F s0 t71) F t82 some
theorem k17_s2_nat (F : Nat) (s0 : List Int) (t71 : Int) : u028 (k17_s2 F s0 t71) := by
  intro Q Q' s kn kx h
  simp only [k17_s2, u004, u003]
def k17_c (Q : Type) (F : Nat) (s0 : List Int) (k : (Int) → Option Q) : Option Q :=
    let z_1 := (k17_l2 F s0 (((List.length s0) : Nat) : Int) (0 : Int))
    let z_2 := (Option.getD z_1 default)
    bif (Option.isSome z_1) then
    bif z_2.1 then
    k z_2.2
    else k (-1 : Int)
    else none
def k17_p (F : Nat) (s0 : List Int) : Option (Int) := k17_c _ F s0 some
theorem k17_cp (Q : Type) (F : Nat) (s0 : List Int) (k : (Int) → Option Q) : k17_c Q F s0 k = (k17_p F s0).bind k := by
  simp only [k17_p, k17_c, u004, u003, u008]
def k15_c (Q : Type) (F : Nat) (s0 : List Int) (k : (Bool) → Option Q) : Option Q :=
    let z_1 := (k17_p F s0)
    bif (Option.isSome z_1) then
    k (decide ((0 : Int) ≤ (Option.getD z_1 default)))
    else none
def k15_p (F : Nat) (s0 : List Int) : Option (Bool) := k15_c _ F s0 some
theorem k15_cp (Q : Type) (F : Nat) (s0 : List Int) (k : (Bool) → Option Q) : k15_c Q F s0 k = (k15_p F s0).bind k := by
  simp only [k15_p, k15_c, u004, u003, u008]
def k117_c (Q : Type) (F : Nat) (w4 : List Int) (k : (Bool) → Option Q) : Option Q :=
    let z_1 := (k15_p F (sub w4 0 4))
    bif (Option.isSome z_1) then
    k (!(Option.getD z_1 default))
    else none
def k117_p (F : Nat) (w4 : List Int) : Option (Bool) := k117_c _ F w4 some
theorem k117_cp (Q : Type) (F : Nat) (w4 : List Int) (k : (Bool) → Option Q) : k117_c Q F w4 k = (k117_p F w4).bind k := by
  simp only [k117_p, k117_c, u004, u003, u008]
def k57_c (Q : Type) (F : Nat) (w4 : List Int) (k : (Bool) → Option Q) : Option Q :=
    let z_1 := (k117_p F w4)
    bif (Option.isSome z_1) then
    k (!(Option.getD z_1 default))
    else none
def k57_p (F : Nat) (w4 : List Int) : Option (Bool) := k57_c _ F w4 some
theorem k57_cp (Q : Type) (F : Nat) (w4 : List Int) (k : (Bool) → Option Q) : k57_c Q F w4 k = (k57_p F w4).bind k := by
  simp only [k57_p, k57_c, u004, u003, u008]
def k14_s2 (F : Nat) (s0 : List (List Int)) (t71 : Int) (Q : Type) : (Int) → ((Int) → Option Q) → ((Bool × Int) → Option Q) → Option Q
  | t82, kn, kx =>
    let z_1 := (k57_p F (rget s0 (Int.toNat t82)))
    bif (decide (t82 < t71)) then
    bif (inR t82 (List.length s0)) then
    bif (Option.isSome z_1) then
    bif (Option.getD z_1 default) then
    kx (true, t82)
    else kn (IntKind.wrap .i64 (t82 + (1 : Int)))
    else none
    else none
    else kx (false, default)
def k14_l2 (F : Nat) (s0 : List (List Int)) (t71 : Int) (t82 : Int) : Option (Bool × Int) := loopC (k14_s2 F s0 t71) F t82 some
theorem k14_s2_nat (F : Nat) (s0 : List (List Int)) (t71 : Int) : u028 (k14_s2 F s0 t71) := by
  intro Q Q' s kn kx h
  simp only [k14_s2, u004, u003]
def k14_c (Q : Type) (F : Nat) (s0 : List (List Int)) (k : (Int) → Option Q) : Option Q :=
    let z_1 := (k14_l2 F s0 (((List.length s0) : Nat) : Int) (0 : Int))
    let z_2 := (Option.getD z_1 default)
    bif (Option.isSome z_1) then
    bif z_2.1 then
    k z_2.2
    else k (-1 : Int)
    else none
def k14_p (F : Nat) (s0 : List (List Int)) : Option (Int) := k14_c _ F s0 some
theorem k14_cp (Q : Type) (F : Nat) (s0 : List (List Int)) (k : (Int) → Option Q) : k14_c Q F s0 k = (k14_p F s0).bind k := by
  simp only [k14_p, k14_c, u004, u003, u008]
def k9_c (Q : Type) (F : Nat) (s0 : List (List Int)) (k : (Bool) → Option Q) : Option Q :=
    let z_1 := (k14_p F s0)
    bif (Option.isSome z_1) then
    k (decide ((0 : Int) ≤ (Option.getD z_1 default)))
    else none
def k9_p (F : Nat) (s0 : List (List Int)) : Option (Bool) := k9_c _ F s0 some
theorem k9_cp (Q : Type) (F : Nat) (s0 : List (List Int)) (k : (Bool) → Option Q) : k9_c Q F s0 k = (k9_p F s0).bind k := by
  simp only [k9_p, k9_c, u004, u003, u008]
def k96_c (Q : Type) (F : Nat) (b0 : List Int) (k : (Bool) → Option Q) : Option Q :=
    let z_1 := (k9_p F [(sub b0 0 4), (sub b0 4 4), (sub b0 8 4), (sub b0 12 4)])
    bif (Option.isSome z_1) then
    k (!(Option.getD z_1 default))
    else none
def k96_p (F : Nat) (b0 : List Int) : Option (Bool) := k96_c _ F b0 some
theorem k96_cp (Q : Type) (F : Nat) (b0 : List Int) (k : (Bool) → Option Q) : k96_c Q F b0 k = (k96_p F b0).bind k := by
  simp only [k96_p, k96_c, u004, u003, u008]
def k50_c (Q : Type) (d0 : Int) (k : (Bool) → Option Q) : Option Q :=
    k (k132_v d0 (0 : Int) (3 : Int))
def k50_v (d0 : Int) : Bool :=
    (k132_v d0 (0 : Int) (3 : Int))
theorem k50_cv (Q : Type) (d0 : Int) (k : (Bool) → Option Q) : k50_c Q d0 k = k (k50_v d0) := by
  simp only [k50_c, k50_v, u067 k]
def k82_c (Q : Type) (j4 : Int) (i1 : Int) (k2 : Int) (k : (List Int) → Option Q) : Option Q :=
    let z_1 : Int := (IntKind.wrap .i64 ((3 : Int) - k2))
    bif (j4 == (0 : Int)) then
    k [i1, k2]
    else bif (j4 == (1 : Int)) then
    k [k2, i1]
    else bif (j4 == (2 : Int)) then
    k [i1, z_1]
    else k [z_1, i1]
def k82_v (j4 : Int) (i1 : Int) (k2 : Int) : List Int :=
    let z_1 : Int := (IntKind.wrap .i64 ((3 : Int) - k2))
    bif (j4 == (0 : Int)) then
    [i1, k2]
    else bif (j4 == (1 : Int)) then
    [k2, i1]
    else bif (j4 == (2 : Int)) then
    [i1, z_1]
    else [z_1, i1]
theorem k82_cv (Q : Type) (j4 : Int) (i1 : Int) (k2 : Int) (k : (List Int) → Option Q) : k82_c Q j4 i1 k2 k = k (k82_v j4 i1 k2) := by
  simp only [k82_c, k82_v, u067 k]
def k78_c (Q : Type) (vx : List Int) (b4 : List Int) (k : (Nat) → Option Q) : Option Q :=
    bif (inR (iget vx 0) 4) then
    bif (inR (iget vx 1) 4) then
    k (((0 : Nat) + ((Int.toNat (iget vx 0)) * (4 : Nat))) + ((Int.toNat (iget vx 1)) * (1 : Nat)))
    else none
    else none
def k78_p (vx : List Int) (b4 : List Int) : Option (Nat) := k78_c _ vx b4 some
theorem k78_cp (Q : Type) (vx : List Int) (b4 : List Int) (k : (Nat) → Option Q) : k78_c Q vx b4 k = (k78_p vx b4).bind k := by
  simp only [k78_p, k78_c, u004, u003, u008]
def k56_c (Q : Type) (b0 : List Int) (j1 : Int) (i2 : Int) (k : (List Int) → Option Q) : Option Q :=
    let z_1 := (k78_p (k82_v j1 i2 (0 : Int)) b0)
    let z_2 := (k78_p (k82_v j1 i2 (1 : Int)) b0)
    let z_3 := (k78_p (k82_v j1 i2 (2 : Int)) b0)
    let z_4 := (k78_p (k82_v j1 i2 (3 : Int)) b0)
    bif (Option.isSome z_1) then
    bif (Option.isSome z_2) then
    bif (Option.isSome z_3) then
    bif (Option.isSome z_4) then
    k [(iget b0 (Option.getD z_1 default)), (iget b0 (Option.getD z_2 default)), (iget b0 (Option.getD z_3 default)), (iget b0 (Option.getD z_4 default))]
    else none
    else none
    else none
    else none
def k56_p (b0 : List Int) (j1 : Int) (i2 : Int) : Option (List Int) := k56_c _ b0 j1 i2 some
theorem k56_cp (Q : Type) (b0 : List Int) (j1 : Int) (i2 : Int) (k : (List Int) → Option Q) : k56_c Q b0 j1 i2 k = (k56_p b0 j1 i2).bind k := by
  simp only [k56_p, k56_c, u004, u003, u008]
def k84_c (Q : Type) (n0 : Int) (k : (Bool) → Option Q) : Option Q :=
    k (n0 == (0 : Int))
def k84_v (n0 : Int) : Bool :=
    (n0 == (0 : Int))
theorem k84_cv (Q : Type) (n0 : Int) (k : (Bool) → Option Q) : k84_c Q n0 k = k (k84_v n0) := by
  simp only [k84_c, k84_v, u067 k]
def k18_s2 (F : Nat) (s0 : List Int) (t71 : Int) (Q : Type) : (Int) → ((Int) → Option Q) → ((Bool × Int) → Option Q) → Option Q
  | t82, kn, kx =>
    bif (decide (t82 < t71)) then
    bif (inR t82 (List.length s0)) then
    bif (k84_v (iget s0 (Int.toNat t82))) then
    kx (true, t82)
    else kn (IntKind.wrap .i64 (t82 + (1 : Int)))
    else none
    else kx (false, default)
def k18_l2 (F : Nat) (s0 : List Int) (t71 : Int) (t82 : Int) : Option (Bool × Int) := loopC (k18_s2 F s0 t71) F t82 some
theorem k18_s2_nat (F : Nat) (s0 : List Int) (t71 : Int) : u028 (k18_s2 F s0 t71) := by
  intro Q Q' s kn kx h
  simp only [k18_s2, u004, u003]
def k18_c (Q : Type) (F : Nat) (s0 : List Int) (k : (Int) → Option Q) : Option Q :=
    let z_1 := (k18_l2 F s0 (((List.length s0) : Nat) : Int) (0 : Int))
    let z_2 := (Option.getD z_1 default)
    bif (Option.isSome z_1) then
    bif z_2.1 then
    k z_2.2
    else k (-1 : Int)
    else none
def k18_p (F : Nat) (s0 : List Int) : Option (Int) := k18_c _ F s0 some
theorem k18_cp (Q : Type) (F : Nat) (s0 : List Int) (k : (Int) → Option Q) : k18_c Q F s0 k = (k18_p F s0).bind k := by
  simp only [k18_p, k18_c, u004, u003, u008]
end Go.Lv.P
