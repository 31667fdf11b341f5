/-
Pure functions and what the code of them does, by program; without conditions.
-/
import Derived.Test.YtabfliifleonaakGreatQkP3
namespace Go.Lv.P
open Go Go.Lv
set_option linter.unusedVariables false
set_option linter.unusedSimpArgs false
set_option maxRecDepth 100000
def k5_s2 (F : Nat) (s0 : List (List Int)) (t74 : Int) (f6 : List Int) (Q : Type) : (Int) → ((Int) → Option Q) → ((Bool × Int) → Option Q) → Option Q
  | t85, kn, kx =>
    bif (decide (t85 < t74)) then
    bif (inR t85 (List.length s0)) then
    bif (k26_v (rget s0 (Int.toNat t85)) f6) then
    kx (true, t85)
    else kn (IntKind.wrap .i64 (t85 + (1 : Int)))
    else none
    else kx (false, default)
def k5_l2 (F : Nat) (s0 : List (List Int)) (t74 : Int) (f6 : List Int) (t85 : Int) : Option (Bool × Int) := loopC (k5_s2 F s0 t74 f6) F t85 some
theorem k5_s2_nat (F : Nat) (s0 : List (List Int)) (t74 : Int) (f6 : List Int) : u028 (k5_s2 F s0 t74 f6) := by
  intro Q Q' s kn kx h
  simp only [k5_s2, u004, u003]
def k5_c (Q : Type) (F : Nat) (s0 : List (List Int)) (f4 : List Int) (k : (Int) → Option Q) : Option Q :=
    let z_1 := (k5_l2 F s0 (((List.length s0) : Nat) : Int) f4 (0 : Int))
    let z_2 := (Option.getD z_1 default)
    bif (Option.isSome z_1) then
    bif z_2.1 then
    k z_2.2
    else k (-1 : Int)
    else none
def k5_p (F : Nat) (s0 : List (List Int)) (f4 : List Int) : Option (Int) := k5_c _ F s0 f4 some
theorem k5_cp (Q : Type) (F : Nat) (s0 : List (List Int)) (f4 : List Int) (k : (Int) → Option Q) : k5_c Q F s0 f4 k = (k5_p F s0 f4).bind k := by
  simp only [k5_p, k5_c, u004, u003, u008]
def k4_s5 (F : Nat) (s1 : Nat) (jb : List Int) (Q : Type) : (Int × Int × List (List Int)) → ((Int × Int × List (List Int)) → Option Q) → ((Int × List (List Int)) → Option Q) → Option Q
  | (i5, j6, s7), kn, kx =>
    let z_1 : List Int := (rget s7 ((0 : Nat) + (Int.toNat j6)))
    let z_2 : Int := (IntKind.wrap .i64 (j6 + (1 : Int)))
    bif (decide (j6 < ((s1 : Nat) : Int))) then
    bif (inR j6 s1) then
    bif (!(k26_v z_1 jb)) then
    bif (inR i5 s1) then
    kn ((IntKind.wrap .i64 (i5 + (1 : Int))), z_2, (rset s7 ((0 : Nat) + (Int.toNat i5)) z_1))
    else none
    else kn (i5, z_2, s7)
    else none
    else kx (i5, s7)
def k4_l5 (F : Nat) (s1 : Nat) (jb : List Int) (i5 : Int) (j6 : Int) (s7 : List (List Int)) : Option (Int × List (List Int)) := loopC (k4_s5 F s1 jb) F (i5, j6, s7) some
theorem k4_s5_nat (F : Nat) (s1 : Nat) (jb : List Int) : u028 (k4_s5 F s1 jb) := by
  intro Q Q' s kn kx h
  obtain ⟨i5, j6, s7⟩ := s
  simp only [k4_s5, u004, u003]
def k4_c (Q : Type) (F : Nat) (s5 : List (List Int)) (gg : List Int) (k : (Nat × List (List Int)) → Option Q) : Option Q :=
    let z_1 := (k5_p F (subn (List.length s5) s5 0 (List.length s5)) gg)
    let z_2 := (k4_l5 F (List.length s5) gg (Option.getD z_1 default) (IntKind.wrap .i64 ((Option.getD z_1 default) + (1 : Int))) s5)
    let z_3 := (Option.getD z_2 default)
    let z_4 : Bool := (inLe z_3.1 (List.length s5))
    let z_5 : Nat := (Int.toNat z_3.1)
    let z_6 : Nat := ((List.length s5) - z_5)
    bif (Option.isSome z_1) then
    bif ((Option.getD z_1 default) == (-1 : Int)) then
    k ((List.length s5), s5)
    else bif (Option.isSome z_2) then
    bif z_4 then
    bif z_4 then
    k ((z_5 - (0 : Nat)), (u029 z_3.2 ((0 : Nat) + z_5) (List.replicate z_6 [(0 : Int), (0 : Int), (0 : Int), (0 : Int), (0 : Int), (0 : Int), (0 : Int), (0 : Int), (0 : Int), (0 : Int), (0 : Int), (0 : Int), (0 : Int), (0 : Int), (0 : Int), (0 : Int)]) z_6))
    else none
    else none
    else none
    else none
def k4_p (F : Nat) (s5 : List (List Int)) (gg : List Int) : Option (Nat × List (List Int)) := k4_c _ F s5 gg some
theorem k4_cp (Q : Type) (F : Nat) (s5 : List (List Int)) (gg : List Int) (k : (Nat × List (List Int)) → Option Q) : k4_c Q F s5 gg k = (k4_p F s5 gg).bind k := by
  simp only [k4_p, k4_c, u004, u003, u008]
def k32_c (Q : Type) (n0 : Int) (k : (List Int) → Option Q) : Option Q :=
    let z_1 : Int := (IntKind.wrap .i64 (n0 - (0 : Int)))
    let z_2 : Nat := (Int.toNat z_1)
    bif (decide (n0 < (0 : Int))) then
    none
    else bif (decide ((0 : Int) < z_1)) then
    bif ((decide ((1 : Int) ≤ z_1)) && (fits z_2 8)) then
    bif (inLe (0 : Int) z_2) then
    k (List.replicate z_2 (0 : Int))
    else none
    else none
    else k ([] : List Int)
def k32_p (n0 : Int) : Option (List Int) := k32_c _ n0 some
theorem k32_cp (Q : Type) (n0 : Int) (k : (List Int) → Option Q) : k32_c Q n0 k = (k32_p n0).bind k := by
  simp only [k32_p, k32_c, u004, u003, u008]
def k27_c (Q : Type) (yy : List Int) (jy : List Int) (gy : List Int) (wy : List Int) (k : (List Int) → Option Q) : Option Q :=
    let z_1 : Int := (IntKind.wrap .i64 ((0 : Int) + (((List.length yy) : Nat) : Int)))
    let z_2 : Int := (IntKind.wrap .i64 (z_1 + (((List.length jy) : Nat) : Int)))
    let z_3 : Int := (IntKind.wrap .i64 (z_2 + (((List.length gy) : Nat) : Int)))
    let z_4 : Int := (IntKind.wrap .i64 (z_3 + (((List.length wy) : Nat) : Int)))
    let z_5 : List Int := ((subn (List.length (Option.getD (k32_p z_4) default)) (Option.getD (k32_p z_4) default) 0 0) ++ yy)
    let z_6 : Nat := (List.length z_5)
    let z_7 : List Int := ((subn z_6 z_5 0 z_6) ++ jy)
    let z_8 : Nat := (List.length z_7)
    let z_9 : List Int := ((subn z_8 z_7 0 z_8) ++ gy)
    let z_10 : Nat := (List.length z_9)
    let z_11 : List Int := ((subn z_10 z_9 0 z_10) ++ wy)
    bif (decide (z_1 < (0 : Int))) then
    none
    else bif (decide (z_2 < (0 : Int))) then
    none
    else bif (decide (z_3 < (0 : Int))) then
    none
    else bif (decide (z_4 < (0 : Int))) then
    none
    else bif (Option.isSome (k32_p z_4)) then
    bif (fits z_6 8) then
    bif (fits z_8 8) then
    bif (fits z_10 8) then
    bif (fits (List.length z_11) 8) then
    k z_11
    else none
    else none
    else none
    else none
    else none
def k27_p (yy : List Int) (jy : List Int) (gy : List Int) (wy : List Int) : Option (List Int) := k27_c _ yy jy gy wy some
theorem k27_cp (Q : Type) (yy : List Int) (jy : List Int) (gy : List Int) (wy : List Int) (k : (List Int) → Option Q) : k27_c Q yy jy gy wy k = (k27_p yy jy gy wy).bind k := by
  simp only [k27_p, k27_c, u004, u003, u008]
def k55_c (Q : Type) (b0 : List Int) (k : (List Int) → Option Q) : Option Q :=
    let z_1 := (k27_p (sub b0 0 4) (sub b0 4 4) (sub b0 8 4) (sub b0 12 4))
    bif (Option.isSome z_1) then
    k (Option.getD z_1 default)
    else none
def k55_p (b0 : List Int) : Option (List Int) := k55_c _ b0 some
theorem k55_cp (Q : Type) (b0 : List Int) (k : (List Int) → Option Q) : k55_c Q b0 k = (k55_p b0).bind k := by
  simp only [k55_p, k55_c, u004, u003, u008]
def k47_c (Q : Type) (F : Nat) (b0 : List Int) (c1 : List Int) (k : (Int) → Option Q) : Option Q :=
    let z_1 : Nat := (List.length (Option.getD (k55_p b0) default))
    let z_2 : Nat := (List.length (Option.getD (k55_p c1) default))
    let z_3 := (k23_p F (subn z_1 (Option.getD (k55_p b0) default) 0 z_1) (subn z_2 (Option.getD (k55_p c1) default) 0 z_2))
    bif (Option.isSome (k55_p b0)) then
    bif (Option.isSome (k55_p c1)) then
    bif (Option.isSome z_3) then
    k (Option.getD z_3 default)
    else none
    else none
    else none
def k47_p (F : Nat) (b0 : List Int) (c1 : List Int) : Option (Int) := k47_c _ F b0 c1 some
theorem k47_cp (Q : Type) (F : Nat) (b0 : List Int) (c1 : List Int) (k : (Int) → Option Q) : k47_c Q F b0 c1 k = (k47_p F b0 c1).bind k := by
  simp only [k47_p, k47_c, u004, u003, u008]
def k19_s9 (F : Nat) (s1 : Nat) (s23 : Nat) (s24 : Nat) (Q : Type) : (Int × Int × List (List Int)) → ((Int × Int × List (List Int)) → Option Q) → ((Int × List (List Int)) → Option Q) → Option Q
  | (k2, k25, s6), kn, kx =>
    let z_1 : Int := (IntKind.wrap .i64 (k25 - (1 : Int)))
    let z_2 : List Int := (rget s6 (s23 + (Int.toNat k25)))
    let z_3 : Int := (IntKind.wrap .i64 (k25 + (1 : Int)))
    bif (decide (k25 < ((s24 : Nat) : Int))) then
    bif (inR k25 s24) then
    bif (inR z_1 s24) then
    bif (!(z_2 == (rget s6 (s23 + (Int.toNat z_1))))) then
    bif (inR k25 s24) then
    bif (inR k2 s1) then
    kn ((IntKind.wrap .i64 (k2 + (1 : Int))), z_3, (rset s6 ((0 : Nat) + (Int.toNat k2)) z_2))
    else none
    else none
    else kn (k2, z_3, s6)
    else none
    else none
    else kx (k2, s6)
def k19_l9 (F : Nat) (s1 : Nat) (s23 : Nat) (s24 : Nat) (k2 : Int) (k25 : Int) (s6 : List (List Int)) : Option (Int × List (List Int)) := loopC (k19_s9 F s1 s23 s24) F (k2, k25, s6) some
theorem k19_s9_nat (F : Nat) (s1 : Nat) (s23 : Nat) (s24 : Nat) : u028 (k19_s9 F s1 s23 s24) := by
  intro Q Q' s kn kx h
  obtain ⟨k2, k25, s6⟩ := s
  simp only [k19_s9, u004, u003]
def k19_s4 (F : Nat) (s1 : Nat) (s3 : List (List Int)) (Q : Type) : (Int) → ((Int) → Option Q) → ((Bool × Nat × List (List Int)) → Option Q) → Option Q
  | k2, kn, kx =>
    let z_1 : Int := (IntKind.wrap .i64 (k2 - (1 : Int)))
    let z_2 := (k19_l9 F s1 ((0 : Nat) + (Int.toNat k2)) (s1 - (Int.toNat k2)) k2 (1 : Int) s3)
    let z_3 := (Option.getD z_2 default)
    let z_4 : Bool := (inLe z_3.1 s1)
    let z_5 : Nat := (Int.toNat z_3.1)
    let z_6 : Nat := (s1 - z_5)
    bif (decide (k2 < ((s1 : Nat) : Int))) then
    bif (inR k2 s1) then
    bif (inR z_1 s1) then
    bif ((rget s3 ((0 : Nat) + (Int.toNat k2))) == (rget s3 ((0 : Nat) + (Int.toNat z_1)))) then
    bif (inLe k2 s1) then
    bif (Option.isSome z_2) then
    bif z_4 then
    bif z_4 then
    kx (true, (z_5 - (0 : Nat)), (u029 z_3.2 ((0 : Nat) + z_5) (List.replicate z_6 [(0 : Int), (0 : Int), (0 : Int), (0 : Int), (0 : Int), (0 : Int), (0 : Int), (0 : Int), (0 : Int), (0 : Int), (0 : Int), (0 : Int), (0 : Int), (0 : Int), (0 : Int), (0 : Int)]) z_6))
    else none
    else none
    else none
    else none
    else kn (IntKind.wrap .i64 (k2 + (1 : Int)))
    else none
    else none
    else kx (false, default, default)
def k19_l4 (F : Nat) (s1 : Nat) (s3 : List (List Int)) (k2 : Int) : Option (Bool × Nat × List (List Int)) := loopC (k19_s4 F s1 s3) F k2 some
theorem k19_s4_nat (F : Nat) (s1 : Nat) (s3 : List (List Int)) : u028 (k19_s4 F s1 s3) := by
  intro Q Q' s kn kx h
  simp only [k19_s4, u004, u003]
def k19_c (Q : Type) (F : Nat) (s1 : Nat) (s2 : List (List Int)) (k : (Nat × List (List Int)) → Option Q) : Option Q :=
    let z_1 := (k19_l4 F s1 s2 (1 : Int))
    let z_2 := (Option.getD z_1 default)
    bif (decide (((s1 : Nat) : Int) < (2 : Int))) then
    k (s1, s2)
    else bif (Option.isSome z_1) then
    bif z_2.1 then
    k (z_2.2.1, z_2.2.2)
    else k (s1, s2)
    else none
def k19_p (F : Nat) (s1 : Nat) (s2 : List (List Int)) : Option (Nat × List (List Int)) := k19_c _ F s1 s2 some
theorem k19_cp (Q : Type) (F : Nat) (s1 : Nat) (s2 : List (List Int)) (k : (Nat × List (List Int)) → Option Q) : k19_c Q F s1 s2 k = (k19_p F s1 s2).bind k := by
  simp only [k19_p, k19_c, u004, u003, u008]
def k98_c (Q : Type) (F : Nat) (list1 : Nat) (list2 : List (List Int)) (k : (Nat × List (List Int)) → Option Q) : Option Q :=
    let z_1 := (k19_p F list1 (sortP list1 list2))
    let z_2 := (Option.getD z_1 default)
    bif ((Nat.ble list1 (List.length list2)) && ((Nat.blt 1000 F) && (Nat.ble (List.length list2) 1000000000))) then
    bif (Option.isSome z_1) then
    k (z_2.1, z_2.2)
    else none
    else none
def k98_p (F : Nat) (list1 : Nat) (list2 : List (List Int)) : Option (Nat × List (List Int)) := k98_c _ F list1 list2 some
theorem k98_cp (Q : Type) (F : Nat) (list1 : Nat) (list2 : List (List Int)) (k : (Nat × List (List Int)) → Option Q) : k98_c Q F list1 list2 k = (k98_p F list1 list2).bind k := by
  simp only [k98_p, k98_c, u004, u003, u008]
def k34_s12 (F : Nat) (j4 : Int) (i4 : Int) (wb : List (List Int)) (we : List (List Int)) (js : List (List Int)) (ws : List (List Int)) (vs : List (List Int)) (yt : Int) (jt : Int) (gt : Int) (jl : List (List Int)) (wt : Int) (b23 : List Int) (vt : List Int) (vi : List (List Int)) (Q : Type) : (Int × List (List Int)) → ((Int × List (List Int)) → Option Q) → ((List (List Int)) → Option Q) → Option Q
  | (ww, gl), kn, kx =>
    let z_1 := (k29_p vt j4 i4 (rget jl (Int.toNat ww)))
    let z_2 : List (List Int) := ((subn (List.length gl) gl 0 (List.length gl)) ++ [(Option.getD z_1 default)])
    bif (decide (ww < wt)) then
    bif (inR ww (List.length jl)) then
    bif (Option.isSome z_1) then
    bif (fits (List.length z_2) 128) then
    kn ((IntKind.wrap .i64 (ww + (1 : Int))), z_2)
    else none
    else none
    else none
    else kx gl
def k34_l12 (F : Nat) (j4 : Int) (i4 : Int) (wb : List (List Int)) (we : List (List Int)) (js : List (List Int)) (ws : List (List Int)) (vs : List (List Int)) (yt : Int) (jt : Int) (gt : Int) (jl : List (List Int)) (wt : Int) (b23 : List Int) (vt : List Int) (vi : List (List Int)) (ww : Int) (gl : List (List Int)) : Option (List (List Int)) := loopC (k34_s12 F j4 i4 wb we js ws vs yt jt gt jl wt b23 vt vi) F (ww, gl) some
theorem k34_s12_nat (F : Nat) (j4 : Int) (i4 : Int) (wb : List (List Int)) (we : List (List Int)) (js : List (List Int)) (ws : List (List Int)) (vs : List (List Int)) (yt : Int) (jt : Int) (gt : Int) (jl : List (List Int)) (wt : Int) (b23 : List Int) (vt : List Int) (vi : List (List Int)) : u028 (k34_s12 F j4 i4 wb we js ws vs yt jt gt jl wt b23 vt vi) := by
  intro Q Q' s kn kx h
  obtain ⟨ww, gl⟩ := s
  simp only [k34_s12, u004, u003]
def k34_s9 (F : Nat) (j4 : Int) (i4 : Int) (wb : List (List Int)) (jc : List (List Int)) (gc : List (List Int)) (wl : List (List Int)) (we : List (List Int)) (vl : Int) (ym : Int) (b17 : List Int) (gh : List (List Int)) (Q : Type) : (Int × List (List Int)) → ((Int × List (List Int)) → Option Q) → ((List (List Int)) → Option Q) → Option Q
  | (yu, jm), kn, kx =>
    let z_1 := (k34_l12 F j4 i4 wb jc gc wl we vl ym yu wb (((List.length wb) : Nat) : Int) b17 (rget gh ((0 : Nat) + (Int.toNat yu))) gh (0 : Int) jm)
    bif (decide (yu < ym)) then
    bif (inR yu (List.length gh)) then
    bif ((Nat.beq (List.length jm) (List.length jm)) && ((Nat.beq (List.length gh) (List.length gh)) && (Option.isSome z_1))) then
    kn ((IntKind.wrap .i64 (yu + (1 : Int))), (Option.getD z_1 default))
    else none
    else none
    else kx jm
def k34_l9 (F : Nat) (j4 : Int) (i4 : Int) (wb : List (List Int)) (jc : List (List Int)) (gc : List (List Int)) (wl : List (List Int)) (we : List (List Int)) (vl : Int) (ym : Int) (b17 : List Int) (gh : List (List Int)) (yu : Int) (jm : List (List Int)) : Option (List (List Int)) := loopC (k34_s9 F j4 i4 wb jc gc wl we vl ym b17 gh) F (yu, jm) some
theorem k34_s9_nat (F : Nat) (j4 : Int) (i4 : Int) (wb : List (List Int)) (jc : List (List Int)) (gc : List (List Int)) (wl : List (List Int)) (we : List (List Int)) (vl : Int) (ym : Int) (b17 : List Int) (gh : List (List Int)) : u028 (k34_s9 F j4 i4 wb jc gc wl we vl ym b17 gh) := by
  intro Q Q' s kn kx h
  obtain ⟨yu, jm⟩ := s
  simp only [k34_s9, u004, u003]
def k34_s5 (F : Nat) (j4 : Int) (gm : List (List Int)) (wm : List (List Int)) (jc : List (List Int)) (gc : List (List Int)) (b11 : List Int) (Q : Type) : (Int × List (List Int)) → ((Int × List (List Int)) → Option Q) → ((List (List Int)) → Option Q) → Option Q
  | (vm, w9), kn, kx =>
    let z_1 := (k34_l9 F j4 vm (llget [gm, wm, jc, gc] ((Int.toNat vm) * (1 : Nat))) gm wm jc gc vm (((List.length w9) : Nat) : Int) b11 w9 (0 : Int) ([] : List (List Int)))
    bif (decide (vm < (4 : Int))) then
    bif (inR vm 4) then
    bif ((Nat.beq (List.length w9) (List.length w9)) && (Option.isSome z_1)) then
    kn ((IntKind.wrap .i64 (vm + (1 : Int))), (Option.getD z_1 default))
    else none
    else none
    else kx w9
def k34_l5 (F : Nat) (j4 : Int) (gm : List (List Int)) (wm : List (List Int)) (jc : List (List Int)) (gc : List (List Int)) (b11 : List Int) (vm : Int) (w9 : List (List Int)) : Option (List (List Int)) := loopC (k34_s5 F j4 gm wm jc gc b11) F (vm, w9) some
theorem k34_s5_nat (F : Nat) (j4 : Int) (gm : List (List Int)) (wm : List (List Int)) (jc : List (List Int)) (gc : List (List Int)) (b11 : List Int) : u028 (k34_s5 F j4 gm wm jc gc b11) := by
  intro Q Q' s kn kx h
  obtain ⟨vm, w9⟩ := s
  simp only [k34_s5, u004, u003]
def k34_c (Q : Type) (F : Nat) (b0 : List Int) (j1 : Int) (k : (Nat × Bool × List (List Int)) → Option Q) : Option Q :=
    let z_1 := (k96_p F b0)
    let z_2 := (k21_p F b0 j1)
    let z_3 := (k22_p F b0 j1)
    let z_4 := (Option.getD z_3 default)
    let z_5 := (k34_l5 F j1 z_4.1 z_4.2.1 z_4.2.2.1 z_4.2.2.2 b0 (0 : Int) [[(0 : Int), (0 : Int), (0 : Int), (0 : Int), (0 : Int), (0 : Int), (0 : Int), (0 : Int), (0 : Int), (0 : Int), (0 : Int), (0 : Int), (0 : Int), (0 : Int), (0 : Int), (0 : Int)]])
    let z_6 : Nat := (List.length (Option.getD z_5 default))
    let z_7 := (k4_p F (Option.getD z_5 default) b0)
    let z_8 := (Option.getD z_7 default)
    let z_9 := (k98_p F z_8.1 z_8.2)
    let z_10 := (Option.getD z_9 default)
    bif (Option.isSome z_1) then
    bif (!(Option.getD z_1 default)) then
    k ((0 : Nat), false, ([] : List (List Int)))
    else bif (!(k50_v j1)) then
    k ((0 : Nat), false, ([] : List (List Int)))
    else bif (Option.isSome z_2) then
    bif (decide ((300 : Int) < (Option.getD z_2 default))) then
    k ((0 : Nat), false, ([] : List (List Int)))
    else bif (Option.isSome z_3) then
    bif (Option.isSome z_5) then
    bif ((Nat.beq z_6 z_6) && (Option.isSome z_7)) then
    bif (Option.isSome z_9) then
    k (z_10.1, true, z_10.2)
    else none
    else none
    else none
    else none
    else none
    else none
def k34_p (F : Nat) (b0 : List Int) (j1 : Int) : Option (Nat × Bool × List (List Int)) := k34_c _ F b0 j1 some
theorem k34_cp (Q : Type) (F : Nat) (b0 : List Int) (j1 : Int) (k : (Nat × Bool × List (List Int)) → Option Q) : k34_c Q F b0 j1 k = (k34_p F b0 j1).bind k := by
  simp only [k34_p, k34_c, u004, u003, u008]
end Go.Lv.P
