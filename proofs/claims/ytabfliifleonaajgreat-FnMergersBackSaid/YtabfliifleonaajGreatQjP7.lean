/-
Pure functions and what the code of them does, by program; without conditions.
-/
import Derived.Test.YtabfliifleonaajGreatQjP6
namespace Go.Lv.P
open Go Go.Lv
set_option linter.unusedVariables false
set_option linter.unusedSimpArgs false
set_option maxRecDepth 100000
def k59_s9 (F : Nat) (w5 : Int) (wf : List (List Int)) (vf : List (List Int)) (yg : List (List Int)) (vy : List (List Int)) (yz : Int) (wp : List (List Int)) (jz : Int) (Q : Type) : (Int × Int) → ((Int × Int) → Option Q) → ((Int) → Option Q) → Option Q
  | (y39, y38), kn, kx =>
    let z_1 := (k108_p F (rget wp (Int.toNat y38)))
    bif (decide (y38 < jz)) then
    bif (inR y38 (List.length wp)) then
    bif (Option.isSome z_1) then
    kn ((if (((Option.getD z_1 default).1 : Nat) : Int) > y39 then (((Option.getD z_1 default).1 : Nat) : Int) else y39), (IntKind.wrap .i64 (y38 + (1 : Int))))
    else none
    else none
    else kx y39
def k59_l9 (F : Nat) (w5 : Int) (wf : List (List Int)) (vf : List (List Int)) (yg : List (List Int)) (vy : List (List Int)) (yz : Int) (wp : List (List Int)) (jz : Int) (y39 : Int) (y38 : Int) : Option (Int) := loopC (k59_s9 F w5 wf vf yg vy yz wp jz) F (y39, y38) some
theorem k59_s9_nat (F : Nat) (w5 : Int) (wf : List (List Int)) (vf : List (List Int)) (yg : List (List Int)) (vy : List (List Int)) (yz : Int) (wp : List (List Int)) (jz : Int) : Natural (k59_s9 F w5 wf vf yg vy yz wp jz) := by
  intro Q Q' s kn kx h
  obtain ⟨y39, y38⟩ := s
  simp only [k59_s9, cond_bindL, none_bindL]
def k59_s5 (F : Nat) (vp : List (List Int)) (wf : List (List Int)) (vf : List (List Int)) (yg : List (List Int)) (Q : Type) : (Int × Int) → ((Int × Int) → Option Q) → ((Int) → Option Q) → Option Q
  | (w5, gz), kn, kx =>
    let z_1 : List (List Int) := (llget [vp, wf, vf, yg] ((Int.toNat gz) * (1 : Nat)))
    let z_2 := (k59_l9 F w5 vp wf vf yg gz z_1 (((List.length z_1) : Nat) : Int) (0 : Int) (0 : Int))
    bif (decide (gz < (4 : Int))) then
    bif (inR gz 4) then
    bif (Option.isSome z_2) then
    kn ((IntKind.wrap .i64 (w5 + (Option.getD z_2 default))), (IntKind.wrap .i64 (gz + (1 : Int))))
    else none
    else none
    else kx w5
def k59_l5 (F : Nat) (vp : List (List Int)) (wf : List (List Int)) (vf : List (List Int)) (yg : List (List Int)) (w5 : Int) (gz : Int) : Option (Int) := loopC (k59_s5 F vp wf vf yg) F (w5, gz) some
theorem k59_s5_nat (F : Nat) (vp : List (List Int)) (wf : List (List Int)) (vf : List (List Int)) (yg : List (List Int)) : Natural (k59_s5 F vp wf vf yg) := by
  intro Q Q' s kn kx h
  obtain ⟨w5, gz⟩ := s
  simp only [k59_s5, cond_bindL, none_bindL]
def k59_c (Q : Type) (F : Nat) (b0 : List Int) (w3 : Int) (k : (Int × Bool) → Option Q) : Option Q :=
    let z_1 := (k89_p F b0)
    let z_2 := (k26_p F b0 w3)
    let z_3 := (k27_p F b0 w3)
    let z_4 := (Option.getD z_3 default)
    let z_5 := (k59_l5 F z_4.1 z_4.2.1 z_4.2.2.1 z_4.2.2.2 (0 : Int) (0 : Int))
    bif (Option.isSome z_1) then
    bif (!(Option.getD z_1 default)) then
    k ((0 : Int), false)
    else bif (!(k52_v w3)) then
    k ((0 : Int), false)
    else bif (Option.isSome z_2) then
    bif ((Option.getD z_2 default) == (0 : Int)) then
    k ((0 : Int), false)
    else bif (Option.isSome z_3) then
    bif (Option.isSome z_5) then
    k ((Option.getD z_5 default), true)
    else none
    else none
    else none
    else none
def k59_p (F : Nat) (b0 : List Int) (w3 : Int) : Option (Int × Bool) := k59_c _ F b0 w3 some
theorem k59_cp (Q : Type) (F : Nat) (b0 : List Int) (w3 : Int) (k : (Int × Bool) → Option Q) : k59_c Q F b0 w3 k = (k59_p F b0 w3).bind k := by
  simp only [k59_p, k59_c, cond_bindL, none_bindL, some_bindL]
def k103_s3 (F : Nat) (j8 : List Int) (Q : Type) : (Int × Int) → ((Int × Int) → Option Q) → ((Int) → Option Q) → Option Q
  | (j39, k4), kn, kx =>
    let z_1 : Int := (IntKind.wrap .i64 (k4 + (1 : Int)))
    bif (decide (k4 < (4 : Int))) then
    bif (inR k4 4) then
    bif (decide ((0 : Int) < (iget j8 ((0 : Nat) + ((Int.toNat k4) * (1 : Nat)))))) then
    kn ((IntKind.wrap .i64 (j39 + (1 : Int))), z_1)
    else kn (j39, z_1)
    else none
    else kx j39
def k103_l3 (F : Nat) (j8 : List Int) (j39 : Int) (k4 : Int) : Option (Int) := loopC (k103_s3 F j8) F (j39, k4) some
theorem k103_s3_nat (F : Nat) (j8 : List Int) : Natural (k103_s3 F j8) := by
  intro Q Q' s kn kx h
  obtain ⟨j39, k4⟩ := s
  simp only [k103_s3, cond_bindL, none_bindL]
def k103_c (Q : Type) (F : Nat) (g4 : List Int) (k : (Int) → Option Q) : Option Q :=
    let z_1 := (k103_l3 F g4 (0 : Int) (0 : Int))
    bif (Option.isSome z_1) then
    k (Option.getD z_1 default)
    else none
def k103_p (F : Nat) (g4 : List Int) : Option (Int) := k103_c _ F g4 some
theorem k103_cp (Q : Type) (F : Nat) (g4 : List Int) (k : (Int) → Option Q) : k103_c Q F g4 k = (k103_p F g4).bind k := by
  simp only [k103_p, k103_c, cond_bindL, none_bindL, some_bindL]
def k99_c (Q : Type) (a0 : Int) (b1 : Int) (k : (Int) → Option Q) : Option Q :=
    bif (decide (b1 < a0)) then
    k a0
    else k b1
def k99_v (a0 : Int) (b1 : Int) : Int :=
    bif (decide (b1 < a0)) then
    a0
    else b1
theorem k99_cv (Q : Type) (a0 : Int) (b1 : Int) (k : (Int) → Option Q) : k99_c Q a0 b1 k = k (k99_v a0 b1) := by
  simp only [k99_c, k99_v, app_condL k]
def k67_s9 (F : Nat) (w5 : Int) (i4 : Int) (jg : List (List Int)) (gg : List (List Int)) (yq : List (List Int)) (gf : List (List Int)) (Q : Type) : (Int × Int) → ((Int × Int) → Option Q) → ((Int) → Option Q) → Option Q
  | (j40, k6), kn, kx =>
    let z_1 : List (List Int) := (llget [jg, gg, yq, gf] ((0 : Nat) + ((Int.toNat i4) * (1 : Nat))))
    let z_2 : Nat := (List.length z_1)
    let z_3 := (k103_p F (rget z_1 (Int.toNat k6)))
    bif (inR i4 4) then
    bif (decide (k6 < ((z_2 : Nat) : Int))) then
    bif (inR i4 4) then
    bif (inR k6 z_2) then
    bif (Option.isSome z_3) then
    kn ((k99_v j40 (Option.getD z_3 default)), (IntKind.wrap .i64 (k6 + (1 : Int))))
    else none
    else none
    else none
    else kx j40
    else none
def k67_l9 (F : Nat) (w5 : Int) (i4 : Int) (jg : List (List Int)) (gg : List (List Int)) (yq : List (List Int)) (gf : List (List Int)) (j40 : Int) (k6 : Int) : Option (Int) := loopC (k67_s9 F w5 i4 jg gg yq gf) F (j40, k6) some
theorem k67_s9_nat (F : Nat) (w5 : Int) (i4 : Int) (jg : List (List Int)) (gg : List (List Int)) (yq : List (List Int)) (gf : List (List Int)) : Natural (k67_s9 F w5 i4 jg gg yq gf) := by
  intro Q Q' s kn kx h
  obtain ⟨j40, k6⟩ := s
  simp only [k67_s9, cond_bindL, none_bindL]
def k67_s5 (F : Nat) (wz : List (List Int)) (vz : List (List Int)) (jg : List (List Int)) (gg : List (List Int)) (Q : Type) : (Int × Int) → ((Int × Int) → Option Q) → ((Int) → Option Q) → Option Q
  | (w5, i4), kn, kx =>
    let z_1 := (k67_l9 F w5 i4 wz vz jg gg (0 : Int) (0 : Int))
    bif (decide (i4 < (4 : Int))) then
    bif (Option.isSome z_1) then
    kn ((IntKind.wrap .i64 (w5 + (Option.getD z_1 default))), (IntKind.wrap .i64 (i4 + (1 : Int))))
    else none
    else kx w5
def k67_l5 (F : Nat) (wz : List (List Int)) (vz : List (List Int)) (jg : List (List Int)) (gg : List (List Int)) (w5 : Int) (i4 : Int) : Option (Int) := loopC (k67_s5 F wz vz jg gg) F (w5, i4) some
theorem k67_s5_nat (F : Nat) (wz : List (List Int)) (vz : List (List Int)) (jg : List (List Int)) (gg : List (List Int)) : Natural (k67_s5 F wz vz jg gg) := by
  intro Q Q' s kn kx h
  obtain ⟨w5, i4⟩ := s
  simp only [k67_s5, cond_bindL, none_bindL]
def k67_c (Q : Type) (F : Nat) (b0 : List Int) (w3 : Int) (k : (Int × Bool) → Option Q) : Option Q :=
    let z_1 := (k91_p F b0)
    let z_2 := (k95_p F b0 w3)
    let z_3 := (k96_p F b0 w3)
    let z_4 := (Option.getD z_3 default)
    let z_5 := (k67_l5 F z_4.1 z_4.2.1 z_4.2.2.1 z_4.2.2.2 (0 : Int) (0 : Int))
    bif (Option.isSome z_1) then
    bif (!(Option.getD z_1 default)) then
    k ((0 : Int), false)
    else bif (!(k101_v w3)) then
    k ((0 : Int), false)
    else bif (Option.isSome z_2) then
    bif ((Option.getD z_2 default) == (0 : Int)) then
    k ((0 : Int), false)
    else bif (Option.isSome z_3) then
    bif (Option.isSome z_5) then
    k ((Option.getD z_5 default), true)
    else none
    else none
    else none
    else none
def k67_p (F : Nat) (b0 : List Int) (w3 : Int) : Option (Int × Bool) := k67_c _ F b0 w3 some
theorem k67_cp (Q : Type) (F : Nat) (b0 : List Int) (w3 : Int) (k : (Int × Bool) → Option Q) : k67_c Q F b0 w3 k = (k67_p F b0 w3).bind k := by
  simp only [k67_p, k67_c, cond_bindL, none_bindL, some_bindL]
def k35_c (Q : Type) (F : Nat) (j9 : List Int) (k : (List Int × Int) → Option Q) : Option Q :=
    let z_1 := (k54_p F j9 (0 : Int) (0 : Int))
    let z_2 := (Option.getD z_1 default)
    let z_3 := (k71_p j9 z_2.2.1 z_2.2.2)
    bif (Option.isSome z_1) then
    bif (Option.isSome z_3) then
    k (z_2.1, (Option.getD z_3 default).1)
    else none
    else none
def k35_p (F : Nat) (j9 : List Int) : Option (List Int × Int) := k35_c _ F j9 some
theorem k35_cp (Q : Type) (F : Nat) (j9 : List Int) (k : (List Int × Int) → Option Q) : k35_c Q F j9 k = (k35_p F j9).bind k := by
  simp only [k35_p, k35_c, cond_bindL, none_bindL, some_bindL]
def k60_c (Q : Type) (F : Nat) (b0 : List Int) (w3 : Int) (k : (List Int × Int × Bool) → Option Q) : Option Q :=
    let z_1 := (k89_p F b0)
    let z_2 : List Int := [(0 : Int), (0 : Int), (0 : Int), (0 : Int), (0 : Int), (0 : Int), (0 : Int), (0 : Int), (0 : Int), (0 : Int), (0 : Int), (0 : Int), (0 : Int), (0 : Int), (0 : Int), (0 : Int)]
    let z_3 := (k50_p F b0 w3)
    let z_4 := (Option.getD z_3 default)
    bif (Option.isSome z_1) then
    bif (!(Option.getD z_1 default)) then
    k (z_2, (0 : Int), false)
    else bif (!(k52_v w3)) then
    k (z_2, (0 : Int), false)
    else bif (Option.isSome z_3) then
    k (z_4.1, z_4.2.1, true)
    else none
    else none
def k60_p (F : Nat) (b0 : List Int) (w3 : Int) : Option (List Int × Int × Bool) := k60_c _ F b0 w3 some
theorem k60_cp (Q : Type) (F : Nat) (b0 : List Int) (w3 : Int) (k : (List Int × Int × Bool) → Option Q) : k60_c Q F b0 w3 k = (k60_p F b0 w3).bind k := by
  simp only [k60_p, k60_c, cond_bindL, none_bindL, some_bindL]
def k51_c (Q : Type) (F : Nat) (b0 : List Int) (w3 : Int) (k : (Int × Bool) → Option Q) : Option Q :=
    let z_1 := (k89_p F b0)
    let z_2 := (k26_p F b0 w3)
    bif (Option.isSome z_1) then
    bif (!(Option.getD z_1 default)) then
    k ((0 : Int), false)
    else bif (!(k52_v w3)) then
    k ((0 : Int), false)
    else bif (Option.isSome z_2) then
    k ((Option.getD z_2 default), true)
    else none
    else none
def k51_p (F : Nat) (b0 : List Int) (w3 : Int) : Option (Int × Bool) := k51_c _ F b0 w3 some
theorem k51_cp (Q : Type) (F : Nat) (b0 : List Int) (w3 : Int) (k : (Int × Bool) → Option Q) : k51_c Q F b0 w3 k = (k51_p F b0 w3).bind k := by
  simp only [k51_p, k51_c, cond_bindL, none_bindL, some_bindL]
def k32_c (Q : Type) (yl : List Int) (a14 : List Int) (k : (Bool) → Option Q) : Option Q :=
    let z_1 := (k79_p yl a14)
    bif (Option.isSome z_1) then
    k (!((iget a14 (Option.getD z_1 default)) == (0 : Int)))
    else none
def k32_p (yl : List Int) (a14 : List Int) : Option (Bool) := k32_c _ yl a14 some
theorem k32_cp (Q : Type) (yl : List Int) (a14 : List Int) (k : (Bool) → Option Q) : k32_c Q yl a14 k = (k32_p yl a14).bind k := by
  simp only [k32_p, k32_c, cond_bindL, none_bindL, some_bindL]
def k17_s2 (F : Nat) (s0 : List (List Int)) (t74 : Int) (f6 : List Int) (Q : Type) : (Int) → ((Int) → Option Q) → ((Bool × Int) → Option Q) → Option Q
  | t85, kn, kx =>
    let z_1 := (k32_p (rget s0 (Int.toNat t85)) f6)
    bif (decide (t85 < t74)) then
    bif (inR t85 (List.length s0)) then
    bif (Option.isSome z_1) then
    bif (Option.getD z_1 default) then
    kx (true, t85)
    else kn (IntKind.wrap .i64 (t85 + (1 : Int)))
    else none
    else none
    else kx (false, default)
def k17_l2 (F : Nat) (s0 : List (List Int)) (t74 : Int) (f6 : List Int) (t85 : Int) : Option (Bool × Int) := loopC (k17_s2 F s0 t74 f6) F t85 some
theorem k17_s2_nat (F : Nat) (s0 : List (List Int)) (t74 : Int) (f6 : List Int) : Natural (k17_s2 F s0 t74 f6) := by
  intro Q Q' s kn kx h
  simp only [k17_s2, cond_bindL, none_bindL]
def k17_c (Q : Type) (F : Nat) (s0 : List (List Int)) (f4 : List Int) (k : (Int) → Option Q) : Option Q :=
    let z_1 := (k17_l2 F s0 (((List.length s0) : Nat) : Int) f4 (0 : Int))
    let z_2 := (Option.getD z_1 default)
    bif (Option.isSome z_1) then
    bif z_2.1 then
    k z_2.2
    else k (-1 : Int)
    else none
def k17_p (F : Nat) (s0 : List (List Int)) (f4 : List Int) : Option (Int) := k17_c _ F s0 f4 some
theorem k17_cp (Q : Type) (F : Nat) (s0 : List (List Int)) (f4 : List Int) (k : (Int) → Option Q) : k17_c Q F s0 f4 k = (k17_p F s0 f4).bind k := by
  simp only [k17_p, k17_c, cond_bindL, none_bindL, some_bindL]
def k14_s5 (F : Nat) (s1 : Nat) (gd : List Int) (Q : Type) : (Int × Int × List (List Int)) → ((Int × Int × List (List Int)) → Option Q) → ((Int × List (List Int)) → Option Q) → Option Q
  | (i5, j6, s7), kn, kx =>
    let z_1 : List Int := (rget s7 ((0 : Nat) + (Int.toNat j6)))
    let z_2 := (k32_p z_1 gd)
    let z_3 : Int := (IntKind.wrap .i64 (j6 + (1 : Int)))
    bif (decide (j6 < ((s1 : Nat) : Int))) then
    bif (inR j6 s1) then
    bif (Option.isSome z_2) then
    bif (!(Option.getD z_2 default)) then
    bif (inR i5 s1) then
    kn ((IntKind.wrap .i64 (i5 + (1 : Int))), z_3, (rset s7 ((0 : Nat) + (Int.toNat i5)) z_1))
    else none
    else kn (i5, z_3, s7)
    else none
    else none
    else kx (i5, s7)
def k14_l5 (F : Nat) (s1 : Nat) (gd : List Int) (i5 : Int) (j6 : Int) (s7 : List (List Int)) : Option (Int × List (List Int)) := loopC (k14_s5 F s1 gd) F (i5, j6, s7) some
theorem k14_s5_nat (F : Nat) (s1 : Nat) (gd : List Int) : Natural (k14_s5 F s1 gd) := by
  intro Q Q' s kn kx h
  obtain ⟨i5, j6, s7⟩ := s
  simp only [k14_s5, cond_bindL, none_bindL]
def k14_c (Q : Type) (F : Nat) (s5 : List (List Int)) (vh : List Int) (k : (Nat × List (List Int)) → Option Q) : Option Q :=
    let z_1 := (k17_p F (subn (List.length s5) s5 0 (List.length s5)) vh)
    let z_2 := (k14_l5 F (List.length s5) vh (Option.getD z_1 default) (IntKind.wrap .i64 ((Option.getD z_1 default) + (1 : Int))) s5)
    let z_3 := (Option.getD z_2 default)
    let z_4 : Bool := (inLe z_3.1 (List.length s5))
    let z_5 : Nat := (Int.toNat z_3.1)
    let z_6 : Nat := ((List.length s5) - z_5)
    bif (Option.isSome z_1) then
    bif ((Option.getD z_1 default) == (-1 : Int)) then
    k ((List.length s5), s5)
    else bif (Option.isSome z_2) then
    bif z_4 then
    bif z_4 then
    k ((z_5 - (0 : Nat)), (splice z_3.2 ((0 : Nat) + z_5) (List.replicate z_6 [(0 : Int), (0 : Int)]) z_6))
    else none
    else none
    else none
    else none
def k14_p (F : Nat) (s5 : List (List Int)) (vh : List Int) : Option (Nat × List (List Int)) := k14_c _ F s5 vh some
theorem k14_cp (Q : Type) (F : Nat) (s5 : List (List Int)) (vh : List Int) (k : (Nat × List (List Int)) → Option Q) : k14_c Q F s5 vh k = (k14_p F s5 vh).bind k := by
  simp only [k14_p, k14_c, cond_bindL, none_bindL, some_bindL]
def k49_c (Q : Type) (F : Nat) (b0 : List Int) (k : (Nat × List (List Int)) → Option Q) : Option Q :=
    let z_1 := (k14_p F [[(0 : Int), (0 : Int)], [(0 : Int), (1 : Int)], [(0 : Int), (2 : Int)], [(0 : Int), (3 : Int)], [(1 : Int), (0 : Int)], [(1 : Int), (1 : Int)], [(1 : Int), (2 : Int)], [(1 : Int), (3 : Int)], [(2 : Int), (0 : Int)], [(2 : Int), (1 : Int)], [(2 : Int), (2 : Int)], [(2 : Int), (3 : Int)], [(3 : Int), (0 : Int)], [(3 : Int), (1 : Int)], [(3 : Int), (2 : Int)], [(3 : Int), (3 : Int)]] b0)
    let z_2 := (Option.getD z_1 default)
    bif (Option.isSome z_1) then
    k (z_2.1, z_2.2)
    else none
def k49_p (F : Nat) (b0 : List Int) : Option (Nat × List (List Int)) := k49_c _ F b0 some
theorem k49_cp (Q : Type) (F : Nat) (b0 : List Int) (k : (Nat × List (List Int)) → Option Q) : k49_c Q F b0 k = (k49_p F b0).bind k := by
  simp only [k49_p, k49_c, cond_bindL, none_bindL, some_bindL]
def k57_c (Q : Type) (F : Nat) (b0 : List Int) (k : (Nat × Bool × List (List Int)) → Option Q) : Option Q :=
    let z_1 := (k89_p F b0)
    let z_2 := (k49_p F b0)
    let z_3 := (Option.getD z_2 default)
    bif (Option.isSome z_1) then
    bif (!(Option.getD z_1 default)) then
    k ((0 : Nat), false, ([] : List (List Int)))
    else bif (Option.isSome z_2) then
    k (z_3.1, true, z_3.2)
    else none
    else none
def k57_p (F : Nat) (b0 : List Int) : Option (Nat × Bool × List (List Int)) := k57_c _ F b0 some
theorem k57_cp (Q : Type) (F : Nat) (b0 : List Int) (k : (Nat × Bool × List (List Int)) → Option Q) : k57_c Q F b0 k = (k57_p F b0).bind k := by
  simp only [k57_p, k57_c, cond_bindL, none_bindL, some_bindL]
end Go.Lv.P
