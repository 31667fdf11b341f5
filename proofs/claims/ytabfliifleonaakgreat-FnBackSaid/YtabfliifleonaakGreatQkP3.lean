/-
Pure functions and what the code of them does, by program; without conditions.
-/
import Derived.Test.YtabfliifleonaakGreatQkP2
namespace Go.Lv.P
open Go Go.Lv
set_option linter.unusedVariables false
set_option linter.unusedSimpArgs false
set_option maxRecDepth 100000
def k23_s2 (F : Nat) (s10 : List Int) (s21 : List Int) (t92 : List Int) (jq : Int) (Q : Type) : (Int) → ((Int) → Option Q) → ((Bool × Int) → Option Q) → Option Q
  | ji, kn, kx =>
    bif (decide (ji < jq)) then
    bif (inR ji (List.length t92)) then
    bif (decide ((((List.length s21) : Nat) : Int) ≤ ji)) then
    kx (true, (1 : Int))
    else bif (inR ji (List.length s21)) then
    bif (!((k54_v (iget t92 (Int.toNat ji)) (iget s21 (Int.toNat ji))) == (0 : Int))) then
    kx (true, (k54_v (iget t92 (Int.toNat ji)) (iget s21 (Int.toNat ji))))
    else kn (IntKind.wrap .i64 (ji + (1 : Int)))
    else none
    else none
    else kx (false, default)
def k23_l2 (F : Nat) (s10 : List Int) (s21 : List Int) (t92 : List Int) (jq : Int) (ji : Int) : Option (Bool × Int) := loopC (k23_s2 F s10 s21 t92 jq) F ji some
theorem k23_s2_nat (F : Nat) (s10 : List Int) (s21 : List Int) (t92 : List Int) (jq : Int) : u028 (k23_s2 F s10 s21 t92 jq) := by
  intro Q Q' s kn kx h
  simp only [k23_s2, u004, u003]
def k23_c (Q : Type) (F : Nat) (s10 : List Int) (s21 : List Int) (k : (Int) → Option Q) : Option Q :=
    let z_1 := (k23_l2 F s10 s21 s10 (((List.length s10) : Nat) : Int) (0 : Int))
    let z_2 := (Option.getD z_1 default)
    bif (Option.isSome z_1) then
    bif z_2.1 then
    k z_2.2
    else bif (decide ((((List.length s10) : Nat) : Int) < (((List.length s21) : Nat) : Int))) then
    k (-1 : Int)
    else k (0 : Int)
    else none
def k23_p (F : Nat) (s10 : List Int) (s21 : List Int) : Option (Int) := k23_c _ F s10 s21 some
theorem k23_cp (Q : Type) (F : Nat) (s10 : List Int) (s21 : List Int) (k : (Int) → Option Q) : k23_c Q F s10 s21 k = (k23_p F s10 s21).bind k := by
  simp only [k23_p, k23_c, u004, u003, u008]
def k31_c (Q : Type) (F : Nat) (a0 : List Int) (b1 : List Int) (k : (Int) → Option Q) : Option Q :=
    let z_1 := (k23_p F (sub a0 0 4) (sub b1 0 4))
    bif (Option.isSome z_1) then
    k (Option.getD z_1 default)
    else none
def k31_p (F : Nat) (a0 : List Int) (b1 : List Int) : Option (Int) := k31_c _ F a0 b1 some
theorem k31_cp (Q : Type) (F : Nat) (a0 : List Int) (b1 : List Int) (k : (Int) → Option Q) : k31_c Q F a0 b1 k = (k31_p F a0 b1).bind k := by
  simp only [k31_p, k31_c, u004, u003, u008]
def k20_s9 (F : Nat) (s1 : Nat) (s23 : Nat) (s24 : Nat) (Q : Type) : (Int × Int × List (List Int)) → ((Int × Int × List (List Int)) → Option Q) → ((Int × List (List Int)) → Option Q) → Option Q
  | (k2, k25, s6), kn, kx =>
    let z_1 : Int := (IntKind.wrap .i64 (k25 - (1 : Int)))
    let z_2 : List Int := (rget s6 (s23 + (Int.toNat k25)))
    let z_3 : Int := (IntKind.wrap .i64 (k25 + (1 : Int)))
    bif (decide (k25 < ((s24 : Nat) : Int))) then
    bif (inR k25 s24) then
    bif (inR z_1 s24) then
    bif (!(z_2 == (rget s6 (s23 + (Int.toNat z_1))))) then
    bif (inR k25 s24) then
    bif (inR k2 s1) then
    kn ((IntKind.wrap .i64 (k2 + (1 : Int))), z_3, (rset s6 ((0 : Nat) + (Int.toNat k2)) z_2))
    else none
    else none
    else kn (k2, z_3, s6)
    else none
    else none
    else kx (k2, s6)
def k20_l9 (F : Nat) (s1 : Nat) (s23 : Nat) (s24 : Nat) (k2 : Int) (k25 : Int) (s6 : List (List Int)) : Option (Int × List (List Int)) := loopC (k20_s9 F s1 s23 s24) F (k2, k25, s6) some
theorem k20_s9_nat (F : Nat) (s1 : Nat) (s23 : Nat) (s24 : Nat) : u028 (k20_s9 F s1 s23 s24) := by
  intro Q Q' s kn kx h
  obtain ⟨k2, k25, s6⟩ := s
  simp only [k20_s9, u004, u003]
def k20_s4 (F : Nat) (s1 : Nat) (s3 : List (List Int)) (Q : Type) : (Int) → ((Int) → Option Q) → ((Bool × Nat × List (List Int)) → Option Q) → Option Q
  | k2, kn, kx =>
    let z_1 : Int := (IntKind.wrap .i64 (k2 - (1 : Int)))
    let z_2 := (k20_l9 F s1 ((0 : Nat) + (Int.toNat k2)) (s1 - (Int.toNat k2)) k2 (1 : Int) s3)
    let z_3 := (Option.getD z_2 default)
    let z_4 : Bool := (inLe z_3.1 s1)
    let z_5 : Nat := (Int.toNat z_3.1)
    let z_6 : Nat := (s1 - z_5)
    bif (decide (k2 < ((s1 : Nat) : Int))) then
    bif (inR k2 s1) then
    bif (inR z_1 s1) then
    bif ((rget s3 ((0 : Nat) + (Int.toNat k2))) == (rget s3 ((0 : Nat) + (Int.toNat z_1)))) then
    bif (inLe k2 s1) then
    bif (Option.isSome z_2) then
    bif z_4 then
    bif z_4 then
    kx (true, (z_5 - (0 : Nat)), (u029 z_3.2 ((0 : Nat) + z_5) (List.replicate z_6 [(0 : Int), (0 : Int), (0 : Int), (0 : Int)]) z_6))
    else none
    else none
    else none
    else none
    else kn (IntKind.wrap .i64 (k2 + (1 : Int)))
    else none
    else none
    else kx (false, default, default)
def k20_l4 (F : Nat) (s1 : Nat) (s3 : List (List Int)) (k2 : Int) : Option (Bool × Nat × List (List Int)) := loopC (k20_s4 F s1 s3) F k2 some
theorem k20_s4_nat (F : Nat) (s1 : Nat) (s3 : List (List Int)) : u028 (k20_s4 F s1 s3) := by
  intro Q Q' s kn kx h
  simp only [k20_s4, u004, u003]
def k20_c (Q : Type) (F : Nat) (s1 : Nat) (s2 : List (List Int)) (k : (Nat × List (List Int)) → Option Q) : Option Q :=
    let z_1 := (k20_l4 F s1 s2 (1 : Int))
    let z_2 := (Option.getD z_1 default)
    bif (decide (((s1 : Nat) : Int) < (2 : Int))) then
    k (s1, s2)
    else bif (Option.isSome z_1) then
    bif z_2.1 then
    k (z_2.2.1, z_2.2.2)
    else k (s1, s2)
    else none
def k20_p (F : Nat) (s1 : Nat) (s2 : List (List Int)) : Option (Nat × List (List Int)) := k20_c _ F s1 s2 some
theorem k20_cp (Q : Type) (F : Nat) (s1 : Nat) (s2 : List (List Int)) (k : (Nat × List (List Int)) → Option Q) : k20_c Q F s1 s2 k = (k20_p F s1 s2).bind k := by
  simp only [k20_p, k20_c, u004, u003, u008]
def k64_s12 (F : Nat) (j5 : List Int) (gq : Int) (wq : Int) (vq : Int) (yr : Int) (jr : List Int) (gi : List (List Int)) (wi : List (List Int)) (Q : Type) : (Int × Int × List Int) → ((Int × Int × List Int) → Option Q) → ((Int × List Int) → Option Q) → Option Q
  | (k10, gk, yw), kn, kx =>
    let z_1 : Int := (IntKind.wrap .i64 (k10 + (1 : Int)))
    let z_2 : Int := (IntKind.wrap .i64 (gk + (1 : Int)))
    bif (decide (gk < (4 : Int))) then
    bif (decide (gk < (0 : Int))) then
    none
    else bif ((IntKind.wrap .i64 (((BitVec.ofInt (IntKind.bits .i64) (Int.fdiv gq (2 ^ (min (Int.toNat gk) (IntKind.bits .i64)) : Int)) &&& BitVec.ofInt (IntKind.bits .i64) (1 : Int)).toNat : Nat) : Int)) == (1 : Int)) then
    bif (decide (k10 < (((List.length j5) : Nat) : Int))) then
    bif (inR k10 (List.length j5)) then
    bif (inR gk 4) then
    kn (z_1, z_2, (iset yw ((0 : Nat) + ((Int.toNat gk) * (1 : Nat))) (iget j5 (Int.toNat k10))))
    else none
    else none
    else kn (z_1, z_2, yw)
    else kn (k10, z_2, yw)
    else kx (k10, yw)
def k64_l12 (F : Nat) (j5 : List Int) (gq : Int) (wq : Int) (vq : Int) (yr : Int) (jr : List Int) (gi : List (List Int)) (wi : List (List Int)) (k10 : Int) (gk : Int) (yw : List Int) : Option (Int × List Int) := loopC (k64_s12 F j5 gq wq vq yr jr gi wi) F (k10, gk, yw) some
theorem k64_s12_nat (F : Nat) (j5 : List Int) (gq : Int) (wq : Int) (vq : Int) (yr : Int) (jr : List Int) (gi : List (List Int)) (wi : List (List Int)) : u028 (k64_s12 F j5 gq wq vq yr jr gi wi) := by
  intro Q Q' s kn kx h
  obtain ⟨k10, gk, yw⟩ := s
  simp only [k64_s12, u004, u003]
def k64_s8 (F : Nat) (j5 : List Int) (wk : Int) (vk : Int) (wj : List Int) (yh : List (List Int)) (Q : Type) : (Int × List (List Int)) → ((Int × List (List Int)) → Option Q) → ((List (List Int)) → Option Q) → Option Q
  | (jw, w9), kn, kx =>
    let z_1 := (k64_l12 F j5 jw wk vk jw wj w9 yh (0 : Int) (0 : Int) [(0 : Int), (0 : Int), (0 : Int), (0 : Int)])
    let z_2 := (Option.getD z_1 default)
    let z_3 : Int := (IntKind.wrap .i64 (jw + (1 : Int)))
    let z_4 := (k83_p F z_2.2)
    let z_5 : List (List Int) := ((subn (List.length w9) w9 0 (List.length w9)) ++ [z_2.2])
    bif (decide (jw < (16 : Int))) then
    bif ((Nat.beq (List.length w9) (List.length w9)) && ((Nat.beq (List.length yh) (List.length yh)) && (Option.isSome z_1))) then
    bif (!(z_2.1 == (((List.length j5) : Nat) : Int))) then
    kn (z_3, w9)
    else bif (Option.isSome z_4) then
    bif ((Option.getD z_4 default).1 == wj) then
    bif (fits (List.length z_5) 32) then
    kn (z_3, z_5)
    else none
    else kn (z_3, w9)
    else none
    else none
    else kx w9
def k64_l8 (F : Nat) (j5 : List Int) (wk : Int) (vk : Int) (wj : List Int) (yh : List (List Int)) (jw : Int) (w9 : List (List Int)) : Option (List (List Int)) := loopC (k64_s8 F j5 wk vk wj yh) F (jw, w9) some
theorem k64_s8_nat (F : Nat) (j5 : List Int) (wk : Int) (vk : Int) (wj : List Int) (yh : List (List Int)) : u028 (k64_s8 F j5 wk vk wj yh) := by
  intro Q Q' s kn kx h
  obtain ⟨jw, w9⟩ := s
  simp only [k64_s8, u004, u003]
def k64_s5 (F : Nat) (yl : Int) (gr : List Int) (jh : List (List Int)) (Q : Type) : (Int × List (List Int)) → ((Int × List (List Int)) → Option Q) → ((List (List Int)) → Option Q) → Option Q
  | (wr, je), kn, kx =>
    let z_1 := (k64_l8 F (rget jh ((0 : Nat) + (Int.toNat wr))) yl wr gr jh (0 : Int) je)
    bif (decide (wr < yl)) then
    bif (inR wr (List.length jh)) then
    bif ((Nat.beq (List.length je) (List.length je)) && ((Nat.beq (List.length jh) (List.length jh)) && (Option.isSome z_1))) then
    kn ((IntKind.wrap .i64 (wr + (1 : Int))), (Option.getD z_1 default))
    else none
    else none
    else kx je
def k64_l5 (F : Nat) (yl : Int) (gr : List Int) (jh : List (List Int)) (wr : Int) (je : List (List Int)) : Option (List (List Int)) := loopC (k64_s5 F yl gr jh) F (wr, je) some
theorem k64_s5_nat (F : Nat) (yl : Int) (gr : List Int) (jh : List (List Int)) : u028 (k64_s5 F yl gr jh) := by
  intro Q Q' s kn kx h
  obtain ⟨wr, je⟩ := s
  simp only [k64_s5, u004, u003]
def k64_c (Q : Type) (F : Nat) (w4 : List Int) (k : (Nat × List (List Int)) → Option Q) : Option Q :=
    let z_1 := (k97_p F w4)
    let z_2 := (k120_p F w4)
    let z_3 := (Option.getD z_2 default)
    let z_4 : Nat := (List.length (Option.getD (k118_p (subn (List.length z_3.2) z_3.2 0 z_3.1)) default))
    let z_5 := (k64_l5 F ((z_4 : Nat) : Int) w4 (Option.getD (k118_p (subn (List.length z_3.2) z_3.2 0 z_3.1)) default) (0 : Int) ([] : List (List Int)))
    let z_6 : Nat := (List.length (Option.getD z_5 default))
    let z_7 := (k20_p F z_6 (sortP z_6 (Option.getD z_5 default)))
    let z_8 := (Option.getD z_7 default)
    bif (Option.isSome z_1) then
    bif (!(Option.getD z_1 default)) then
    k ((0 : Nat), ([] : List (List Int)))
    else bif (Option.isSome z_2) then
    bif (Option.isSome (k118_p (subn (List.length z_3.2) z_3.2 0 z_3.1))) then
    bif ((Nat.beq z_4 z_4) && (Option.isSome z_5)) then
    bif ((Nat.ble z_6 z_6) && ((Nat.blt 1000 F) && (Nat.ble z_6 1000000000))) then
    bif (Option.isSome z_7) then
    k (z_8.1, z_8.2)
    else none
    else none
    else none
    else none
    else none
    else none
def k64_p (F : Nat) (w4 : List Int) : Option (Nat × List (List Int)) := k64_c _ F w4 some
theorem k64_cp (Q : Type) (F : Nat) (w4 : List Int) (k : (Nat × List (List Int)) → Option Q) : k64_c Q F w4 k = (k64_p F w4).bind k := by
  simp only [k64_p, k64_c, u004, u003, u008]
def k22_c (Q : Type) (F : Nat) (b0 : List Int) (j1 : Int) (k : (List (List Int) × List (List Int) × List (List Int) × List (List Int)) → Option Q) : Option Q :=
    let z_1 := (k56_p b0 j1 (0 : Int))
    let z_2 := (k64_p F (Option.getD z_1 default))
    let z_3 := (k56_p b0 j1 (1 : Int))
    let z_4 := (k64_p F (Option.getD z_3 default))
    let z_5 := (k56_p b0 j1 (2 : Int))
    let z_6 := (k64_p F (Option.getD z_5 default))
    let z_7 := (k56_p b0 j1 (3 : Int))
    let z_8 := (k64_p F (Option.getD z_7 default))
    let z_9 := (Option.getD z_2 default)
    let z_10 := (Option.getD z_4 default)
    let z_11 := (Option.getD z_6 default)
    let z_12 := (Option.getD z_8 default)
    bif (Option.isSome z_1) then
    bif (Option.isSome z_2) then
    bif (Option.isSome z_3) then
    bif (Option.isSome z_4) then
    bif (Option.isSome z_5) then
    bif (Option.isSome z_6) then
    bif (Option.isSome z_7) then
    bif (Option.isSome z_8) then
    k ((subn (List.length z_9.2) z_9.2 0 z_9.1), (subn (List.length z_10.2) z_10.2 0 z_10.1), (subn (List.length z_11.2) z_11.2 0 z_11.1), (subn (List.length z_12.2) z_12.2 0 z_12.1))
    else none
    else none
    else none
    else none
    else none
    else none
    else none
    else none
def k22_p (F : Nat) (b0 : List Int) (j1 : Int) : Option (List (List Int) × List (List Int) × List (List Int) × List (List Int)) := k22_c _ F b0 j1 some
theorem k22_cp (Q : Type) (F : Nat) (b0 : List Int) (j1 : Int) (k : (List (List Int) × List (List Int) × List (List Int) × List (List Int)) → Option Q) : k22_c Q F b0 j1 k = (k22_p F b0 j1).bind k := by
  simp only [k22_p, k22_c, u004, u003, u008]
def k29_c (Q : Type) (b0 : List Int) (j1 : Int) (i2 : Int) (wg : List Int) (k : (List Int) → Option Q) : Option Q :=
    let z_1 := (k78_p (k82_v j1 i2 (0 : Int)) b0)
    let z_2 : List Int := (iset b0 (Option.getD z_1 default) (iget wg 0))
    let z_3 := (k78_p (k82_v j1 i2 (1 : Int)) z_2)
    let z_4 : List Int := (iset z_2 (Option.getD z_3 default) (iget wg 1))
    let z_5 := (k78_p (k82_v j1 i2 (2 : Int)) z_4)
    let z_6 : List Int := (iset z_4 (Option.getD z_5 default) (iget wg 2))
    let z_7 := (k78_p (k82_v j1 i2 (3 : Int)) z_6)
    bif (Option.isSome z_1) then
    bif (Option.isSome z_3) then
    bif (Option.isSome z_5) then
    bif (Option.isSome z_7) then
    k (iset z_6 (Option.getD z_7 default) (iget wg 3))
    else none
    else none
    else none
    else none
def k29_p (b0 : List Int) (j1 : Int) (i2 : Int) (wg : List Int) : Option (List Int) := k29_c _ b0 j1 i2 wg some
theorem k29_cp (Q : Type) (b0 : List Int) (j1 : Int) (i2 : Int) (wg : List Int) (k : (List Int) → Option Q) : k29_c Q b0 j1 i2 wg k = (k29_p b0 j1 i2 wg).bind k := by
  simp only [k29_p, k29_c, u004, u003, u008]
def k48_s8 (F : Nat) (j4 : Int) (w7 : Int) (gf : Int) (vr : List Bool) (b15 : List Int) (ys : List Int) (Q : Type) : (Int × Int) → ((Int × Int) → Option Q) → ((Int) → Option Q) → Option Q
  | (jg, gw), kn, kx =>
    let z_1 : Int := (IntKind.wrap .i64 (gw + (1 : Int)))
    bif (decide (gw < (4 : Int))) then
    bif (inR gw 4) then
    bif (bget vr ((Int.toNat gw) * (1 : Nat))) then
    kn ((IntKind.wrap .i64 (jg + (1 : Int))), z_1)
    else kn (jg, z_1)
    else none
    else kx jg
def k48_l8 (F : Nat) (j4 : Int) (w7 : Int) (gf : Int) (vr : List Bool) (b15 : List Int) (ys : List Int) (jg : Int) (gw : Int) : Option (Int) := loopC (k48_s8 F j4 w7 gf vr b15 ys) F (jg, gw) some
theorem k48_s8_nat (F : Nat) (j4 : Int) (w7 : Int) (gf : Int) (vr : List Bool) (b15 : List Int) (ys : List Int) : u028 (k48_s8 F j4 w7 gf vr b15 ys) := by
  intro Q Q' s kn kx h
  obtain ⟨jg, gw⟩ := s
  simp only [k48_s8, u004, u003]
def k48_s3 (F : Nat) (j4 : Int) (b13 : List Int) (Q : Type) : (Int × Int × Int × List Int) → ((Int × Int × Int × List Int) → Option Q) → ((Int × Int × List Int) → Option Q) → Option Q
  | (w7, jg, gf, j8), kn, kx =>
    let z_1 := (k56_p b13 j4 gf)
    let z_2 := (k83_p F (Option.getD z_1 default))
    let z_3 := (Option.getD z_2 default)
    let z_4 := (k29_p j8 j4 gf z_3.1)
    let z_5 : Int := (IntKind.wrap .i64 (w7 + z_3.2.1))
    let z_6 := (k48_l8 F j4 z_5 gf z_3.2.2 b13 (Option.getD z_4 default) jg (0 : Int))
    bif (decide (gf < (4 : Int))) then
    bif (Option.isSome z_1) then
    bif (Option.isSome z_2) then
    bif (Option.isSome z_4) then
    bif (Option.isSome z_6) then
    kn (z_5, (Option.getD z_6 default), (IntKind.wrap .i64 (gf + (1 : Int))), (Option.getD z_4 default))
    else none
    else none
    else none
    else none
    else kx (w7, jg, j8)
def k48_l3 (F : Nat) (j4 : Int) (b13 : List Int) (w7 : Int) (jg : Int) (gf : Int) (j8 : List Int) : Option (Int × Int × List Int) := loopC (k48_s3 F j4 b13) F (w7, jg, gf, j8) some
theorem k48_s3_nat (F : Nat) (j4 : Int) (b13 : List Int) : u028 (k48_s3 F j4 b13) := by
  intro Q Q' s kn kx h
  obtain ⟨w7, jg, gf, j8⟩ := s
  simp only [k48_s3, u004, u003]
def k48_c (Q : Type) (F : Nat) (b0 : List Int) (j1 : Int) (k : (List Int × Int × Int) → Option Q) : Option Q :=
    let z_1 := (k48_l3 F j1 b0 (0 : Int) (0 : Int) (0 : Int) b0)
    let z_2 := (Option.getD z_1 default)
    bif (Option.isSome z_1) then
    k (z_2.2.2, z_2.1, z_2.2.1)
    else none
def k48_p (F : Nat) (b0 : List Int) (j1 : Int) : Option (List Int × Int × Int) := k48_c _ F b0 j1 some
theorem k48_cp (Q : Type) (F : Nat) (b0 : List Int) (j1 : Int) (k : (List Int × Int × Int) → Option Q) : k48_c Q F b0 j1 k = (k48_p F b0 j1).bind k := by
  simp only [k48_p, k48_c, u004, u003, u008]
def k33_s2 (F : Nat) (t76 : List Int) (t87 : Int) (Q : Type) : (Int × List Int) → ((Int × List Int) → Option Q) → ((List Int) → Option Q) → Option Q
  | (t98, b9), kn, kx =>
    let z_1 := (k48_p F b9 (iget t76 (Int.toNat t98)))
    bif (decide (t98 < t87)) then
    bif (inR t98 (List.length t76)) then
    bif (Option.isSome z_1) then
    kn ((IntKind.wrap .i64 (t98 + (1 : Int))), (Option.getD z_1 default).1)
    else none
    else none
    else kx b9
def k33_l2 (F : Nat) (t76 : List Int) (t87 : Int) (t98 : Int) (b9 : List Int) : Option (List Int) := loopC (k33_s2 F t76 t87) F (t98, b9) some
theorem k33_s2_nat (F : Nat) (t76 : List Int) (t87 : Int) : u028 (k33_s2 F t76 t87) := by
  intro Q Q' s kn kx h
  obtain ⟨t98, b9⟩ := s
  simp only [k33_s2, u004, u003]
def k33_c (Q : Type) (F : Nat) (b0 : List Int) (list1 : List Int) (k : (List Int) → Option Q) : Option Q :=
    let z_1 := (k33_l2 F list1 (((List.length list1) : Nat) : Int) (0 : Int) b0)
    bif (Option.isSome z_1) then
    k (Option.getD z_1 default)
    else none
def k33_p (F : Nat) (b0 : List Int) (list1 : List Int) : Option (List Int) := k33_c _ F b0 list1 some
theorem k33_cp (Q : Type) (F : Nat) (b0 : List Int) (list1 : List Int) (k : (List Int) → Option Q) : k33_c Q F b0 list1 k = (k33_p F b0 list1).bind k := by
  simp only [k33_p, k33_c, u004, u003, u008]
def k21_c (Q : Type) (F : Nat) (b0 : List Int) (j1 : Int) (k : (Int) → Option Q) : Option Q :=
    let z_1 := (k22_p F b0 j1)
    let z_2 := (k33_p F b0 [j1])
    let z_3 := (Option.getD z_1 default)
    let z_4 : Int := (IntKind.wrap .i64 ((IntKind.wrap .i64 ((IntKind.wrap .i64 ((IntKind.wrap .i64 ((1 : Int) * (((List.length z_3.1) : Nat) : Int))) * (((List.length z_3.2.1) : Nat) : Int))) * (((List.length z_3.2.2.1) : Nat) : Int))) * (((List.length z_3.2.2.2) : Nat) : Int)))
    bif (Option.isSome z_1) then
    bif (Option.isSome z_2) then
    bif ((Option.getD z_2 default) == b0) then
    k (IntKind.wrap .i64 (z_4 - (1 : Int)))
    else k z_4
    else none
    else none
def k21_p (F : Nat) (b0 : List Int) (j1 : Int) : Option (Int) := k21_c _ F b0 j1 some
theorem k21_cp (Q : Type) (F : Nat) (b0 : List Int) (j1 : Int) (k : (Int) → Option Q) : k21_c Q F b0 j1 k = (k21_p F b0 j1).bind k := by
  simp only [k21_p, k21_c, u004, u003, u008]
def k26_c (Q : Type) (gz : List Int) (a14 : List Int) (k : (Bool) → Option Q) : Option Q :=
    k (gz == a14)
def k26_v (gz : List Int) (a14 : List Int) : Bool :=
    (gz == a14)
theorem k26_cv (Q : Type) (gz : List Int) (a14 : List Int) (k : (Bool) → Option Q) : k26_c Q gz a14 k = k (k26_v gz a14) := by
  simp only [k26_c, k26_v, u067 k]
end Go.Lv.P
