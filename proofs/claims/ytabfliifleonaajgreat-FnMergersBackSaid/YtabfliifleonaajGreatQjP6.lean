/-
Pure functions and what the code of them does, by program; without conditions.
-/
import Derived.Test.YtabfliifleonaajGreatQjP5
namespace Go.Lv.P
open Go Go.Lv
set_option linter.unusedVariables false
set_option linter.unusedSimpArgs false
set_option maxRecDepth 100000
def k86_s7 (F : Nat) (w9 : List (List Int)) (g8 : Int) (wd : List Int) (Q : Type) : (Int × List Int) → ((Int × List Int) → Option Q) → ((List Int) → Option Q) → Option Q
  | (k7, ym), kn, kx =>
    let z_1 : Int := (iget wd ((0 : Nat) + ((Int.toNat k7) * (1 : Nat))))
    let z_2 : List Int := (subn (List.length ym) ym 0 (List.length ym))
    let z_3 : Int := (IntKind.wrap .i64 (z_1 - (1 : Int)))
    let z_4 : List Int := (z_2 ++ [z_3, z_3])
    let z_5 : Int := (IntKind.wrap .i64 (k7 + (1 : Int)))
    let z_6 : List Int := (z_2 ++ [z_1])
    bif (decide (k7 < (4 : Int))) then
    bif (inR k7 4) then
    bif (decide ((0 : Int) < z_1)) then
    bif (decide (k7 < (0 : Int))) then
    none
    else bif ((IntKind.wrap .i64 (((BitVec.ofInt (IntKind.bits .i64) (Int.fdiv g8 (2 ^ (min (Int.toNat k7) (IntKind.bits .i64)) : Int)) &&& BitVec.ofInt (IntKind.bits .i64) (1 : Int)).toNat : Nat) : Int)) == (1 : Int)) then
    bif (inR k7 4) then
    bif (inR k7 4) then
    bif (fits (List.length z_4) 8) then
    kn (z_5, z_4)
    else none
    else none
    else none
    else bif (inR k7 4) then
    bif (fits (List.length z_6) 8) then
    kn (z_5, z_6)
    else none
    else none
    else kx ym
    else none
    else kx ym
def k86_l7 (F : Nat) (w9 : List (List Int)) (g8 : Int) (wd : List Int) (k7 : Int) (ym : List Int) : Option (List Int) := loopC (k86_s7 F w9 g8 wd) F (k7, ym) some
theorem k86_s7_nat (F : Nat) (w9 : List (List Int)) (g8 : Int) (wd : List Int) : Natural (k86_s7 F w9 g8 wd) := by
  intro Q Q' s kn kx h
  obtain ⟨k7, ym⟩ := s
  simp only [k86_s7, cond_bindL, none_bindL]
def k86_s15 (F : Nat) (g8 : Int) (jm : Nat) (wd : List Int) (jx : List (List Int)) (Q : Type) : (List (List Int) × Int) → ((List (List Int) × Int) → Option Q) → ((List (List Int)) → Option Q) → Option Q
  | (w9, i7), kn, kx =>
    let z_1 : List Int := (rget jx ((0 : Nat) + (Int.toNat i7)))
    let z_2 := (k112_p F z_1)
    let z_3 := (k113_p F w9 z_1)
    let z_4 : Int := (IntKind.wrap .i64 (i7 + (1 : Int)))
    bif (decide (i7 < ((jm : Nat) : Int))) then
    bif (inR i7 jm) then
    bif (Option.isSome z_2) then
    bif ((Option.getD z_2 default).1 == wd) then
    bif (inR i7 jm) then
    bif (Option.isSome z_3) then
    kn ((Option.getD z_3 default), z_4)
    else none
    else none
    else kn (w9, z_4)
    else none
    else none
    else kx w9
def k86_l15 (F : Nat) (g8 : Int) (jm : Nat) (wd : List Int) (jx : List (List Int)) (w9 : List (List Int)) (i7 : Int) : Option (List (List Int)) := loopC (k86_s15 F g8 jm wd jx) F (w9, i7) some
theorem k86_s15_nat (F : Nat) (g8 : Int) (jm : Nat) (wd : List Int) (jx : List (List Int)) : Natural (k86_s15 F g8 jm wd jx) := by
  intro Q Q' s kn kx h
  obtain ⟨w9, i7⟩ := s
  simp only [k86_s15, cond_bindL, none_bindL]
def k86_s3 (F : Nat) (j8 : List Int) (Q : Type) : (List (List Int) × Int) → ((List (List Int) × Int) → Option Q) → ((List (List Int)) → Option Q) → Option Q
  | (w9, g8), kn, kx =>
    let z_1 := (k86_l7 F w9 g8 j8 (0 : Int) ([] : List Int))
    let z_2 : Nat := (List.length (Option.getD z_1 default))
    let z_3 : Int := (IntKind.wrap .i64 (g8 + (1 : Int)))
    let z_4 : List Int := (subn z_2 (Option.getD z_1 default) 0 z_2)
    let z_5 := (k110_p F z_4 (0 : Int))
    let z_6 := (k87_p F z_4)
    let z_7 := (Option.getD z_6 default)
    let z_8 := (k86_l15 F g8 z_7.1 j8 z_7.2 w9 (0 : Int))
    bif (decide (g8 < (16 : Int))) then
    bif (Option.isSome z_1) then
    bif (decide ((4 : Int) < ((z_2 : Nat) : Int))) then
    kn (w9, z_3)
    else bif (Option.isSome z_5) then
    bif (Option.getD z_5 default) then
    kn (w9, z_3)
    else bif (Option.isSome z_6) then
    bif (Option.isSome z_8) then
    kn ((Option.getD z_8 default), z_3)
    else none
    else none
    else none
    else none
    else kx w9
def k86_l3 (F : Nat) (j8 : List Int) (w9 : List (List Int)) (g8 : Int) : Option (List (List Int)) := loopC (k86_s3 F j8) F (w9, g8) some
theorem k86_s3_nat (F : Nat) (j8 : List Int) : Natural (k86_s3 F j8) := by
  intro Q Q' s kn kx h
  obtain ⟨w9, g8⟩ := s
  simp only [k86_s3, cond_bindL, none_bindL]
def k86_c (Q : Type) (F : Nat) (g4 : List Int) (k : (List (List Int)) → Option Q) : Option Q :=
    let z_1 := (k86_l3 F g4 ([] : List (List Int)) (0 : Int))
    bif (Option.isSome z_1) then
    k (Option.getD z_1 default)
    else none
def k86_p (F : Nat) (g4 : List Int) : Option (List (List Int)) := k86_c _ F g4 some
theorem k86_cp (Q : Type) (F : Nat) (g4 : List Int) (k : (List (List Int)) → Option Q) : k86_c Q F g4 k = (k86_p F g4).bind k := by
  simp only [k86_p, k86_c, cond_bindL, none_bindL, some_bindL]
def k96_c (Q : Type) (F : Nat) (b0 : List Int) (d1 : Int) (k : (List (List Int) × List (List Int) × List (List Int) × List (List Int)) → Option Q) : Option Q :=
    let z_1 := (k76_p F b0 d1 (0 : Int))
    let z_2 := (k86_p F (Option.getD z_1 default))
    let z_3 := (k76_p F b0 d1 (1 : Int))
    let z_4 := (k86_p F (Option.getD z_3 default))
    let z_5 := (k76_p F b0 d1 (2 : Int))
    let z_6 := (k86_p F (Option.getD z_5 default))
    let z_7 := (k76_p F b0 d1 (3 : Int))
    let z_8 := (k86_p F (Option.getD z_7 default))
    bif (Option.isSome z_1) then
    bif (Option.isSome z_2) then
    bif (Option.isSome z_3) then
    bif (Option.isSome z_4) then
    bif (Option.isSome z_5) then
    bif (Option.isSome z_6) then
    bif (Option.isSome z_7) then
    bif (Option.isSome z_8) then
    k ((Option.getD z_2 default), (Option.getD z_4 default), (Option.getD z_6 default), (Option.getD z_8 default))
    else none
    else none
    else none
    else none
    else none
    else none
    else none
    else none
def k96_p (F : Nat) (b0 : List Int) (d1 : Int) : Option (List (List Int) × List (List Int) × List (List Int) × List (List Int)) := k96_c _ F b0 d1 some
theorem k96_cp (Q : Type) (F : Nat) (b0 : List Int) (d1 : Int) (k : (List (List Int) × List (List Int) × List (List Int) × List (List Int)) → Option Q) : k96_c Q F b0 d1 k = (k96_p F b0 d1).bind k := by
  simp only [k96_p, k96_c, cond_bindL, none_bindL, some_bindL]
def k97_c (Q : Type) (F : Nat) (b0 : List Int) (d1 : Int) (k : (Bool) → Option Q) : Option Q :=
    let z_1 := (k92_p F b0 d1)
    bif (Option.isSome z_1) then
    k ((Option.getD z_1 default).1 == b0)
    else none
def k97_p (F : Nat) (b0 : List Int) (d1 : Int) : Option (Bool) := k97_c _ F b0 d1 some
theorem k97_cp (Q : Type) (F : Nat) (b0 : List Int) (d1 : Int) (k : (Bool) → Option Q) : k97_c Q F b0 d1 k = (k97_p F b0 d1).bind k := by
  simp only [k97_p, k97_c, cond_bindL, none_bindL, some_bindL]
def k95_c (Q : Type) (F : Nat) (b0 : List Int) (d1 : Int) (k : (Int) → Option Q) : Option Q :=
    let z_1 := (k96_p F b0 d1)
    let z_2 := (k97_p F b0 d1)
    let z_3 := (Option.getD z_1 default)
    let z_4 : Int := (IntKind.wrap .i64 ((IntKind.wrap .i64 ((IntKind.wrap .i64 ((IntKind.wrap .i64 ((1 : Int) * (((List.length z_3.1) : Nat) : Int))) * (((List.length z_3.2.1) : Nat) : Int))) * (((List.length z_3.2.2.1) : Nat) : Int))) * (((List.length z_3.2.2.2) : Nat) : Int)))
    bif (Option.isSome z_1) then
    bif (Option.isSome z_2) then
    bif (Option.getD z_2 default) then
    k (IntKind.wrap .i64 (z_4 - (1 : Int)))
    else k z_4
    else none
    else none
def k95_p (F : Nat) (b0 : List Int) (d1 : Int) : Option (Int) := k95_c _ F b0 d1 some
theorem k95_cp (Q : Type) (F : Nat) (b0 : List Int) (d1 : Int) (k : (Int) → Option Q) : k95_c Q F b0 d1 k = (k95_p F b0 d1).bind k := by
  simp only [k95_p, k95_c, cond_bindL, none_bindL, some_bindL]
def k88_s3 (F : Nat) (gx : List Int) (Q : Type) : (Int × Int × Int × List Bool) → ((Int × Int × Int × List Bool) → Option Q) → ((List Bool) → Option Q) → Option Q
  | (n9, v39, k11, wg), kn, kx =>
    let z_1 : Int := (iget gx ((0 : Nat) + ((Int.toNat k11) * (1 : Nat))))
    let z_2 : Int := (IntKind.wrap .i64 (k11 + (1 : Int)))
    let z_3 : Int := (IntKind.wrap .i64 (n9 - (1 : Int)))
    let z_4 : Bool := (inR z_3 4)
    let z_5 : Nat := ((0 : Nat) + ((Int.toNat z_3) * (1 : Nat)))
    let z_6 : Int := (IntKind.wrap .i64 (n9 + (1 : Int)))
    bif (decide (k11 < (4 : Int))) then
    bif (inR k11 4) then
    bif (z_1 == (0 : Int)) then
    kn (n9, v39, z_2, wg)
    else bif (decide ((0 : Int) < n9)) then
    bif (inR k11 4) then
    bif (v39 == z_1) then
    bif (inR k11 4) then
    bif (decide (z_1 < (17 : Int))) then
    bif z_4 then
    bif (!(bget wg z_5)) then
    bif z_4 then
    kn (n9, (0 : Int), z_2, (bset wg z_5 true))
    else none
    else bif (inR k11 4) then
    kn (z_6, z_1, z_2, wg)
    else none
    else none
    else bif (inR k11 4) then
    kn (z_6, z_1, z_2, wg)
    else none
    else none
    else bif (inR k11 4) then
    kn (z_6, z_1, z_2, wg)
    else none
    else none
    else bif (inR k11 4) then
    kn (z_6, z_1, z_2, wg)
    else none
    else none
    else kx wg
def k88_l3 (F : Nat) (gx : List Int) (n9 : Int) (v39 : Int) (k11 : Int) (wg : List Bool) : Option (List Bool) := loopC (k88_s3 F gx) F (n9, v39, k11, wg) some
theorem k88_s3_nat (F : Nat) (gx : List Int) : Natural (k88_s3 F gx) := by
  intro Q Q' s kn kx h
  obtain ⟨n9, v39, k11, wg⟩ := s
  simp only [k88_s3, cond_bindL, none_bindL]
def k88_c (Q : Type) (F : Nat) (g4 : List Int) (k : (List Bool) → Option Q) : Option Q :=
    let z_1 := (k88_l3 F g4 (0 : Int) (0 : Int) (0 : Int) [false, false, false, false])
    bif (Option.isSome z_1) then
    k (Option.getD z_1 default)
    else none
def k88_p (F : Nat) (g4 : List Int) : Option (List Bool) := k88_c _ F g4 some
theorem k88_cp (Q : Type) (F : Nat) (g4 : List Int) (k : (List Bool) → Option Q) : k88_c Q F g4 k = (k88_p F g4).bind k := by
  simp only [k88_p, k88_c, cond_bindL, none_bindL, some_bindL]
def k77_s12 (F : Nat) (d0 : Int) (w6 : Bool) (w7 : Bool) (i9 : Int) (k13 : Int) (vc : List (List Int)) (jd : List (List Int)) (vo : List (List Int)) (yp : List (List Int)) (wx : List Int) (vx : List Int) (Q : Type) : (Int × Int) → ((Int × Int) → Option Q) → ((Int) → Option Q) → Option Q
  | (v38, n15), kn, kx =>
    let z_1 : List (List Int) := (llget [vc, jd, vo, yp] ((0 : Nat) + ((Int.toNat i9) * (1 : Nat))))
    let z_2 : Nat := (List.length z_1)
    let z_3 := (k88_p F (rget z_1 (Int.toNat n15)))
    let z_4 : Int := (IntKind.wrap .i64 (n15 + (1 : Int)))
    bif (inR i9 4) then
    bif (decide (n15 < ((z_2 : Nat) : Int))) then
    bif (inR i9 4) then
    bif (inR n15 z_2) then
    bif (Option.isSome z_3) then
    bif (inR k13 4) then
    bif (bget (Option.getD z_3 default) ((Int.toNat k13) * (1 : Nat))) then
    kn ((IntKind.wrap .i64 (v38 + (1 : Int))), z_4)
    else kn (v38, z_4)
    else none
    else none
    else none
    else none
    else kx v38
    else none
def k77_l12 (F : Nat) (d0 : Int) (w6 : Bool) (w7 : Bool) (i9 : Int) (k13 : Int) (vc : List (List Int)) (jd : List (List Int)) (vo : List (List Int)) (yp : List (List Int)) (wx : List Int) (vx : List Int) (v38 : Int) (n15 : Int) : Option (Int) := loopC (k77_s12 F d0 w6 w7 i9 k13 vc jd vo yp wx vx) F (v38, n15) some
theorem k77_s12_nat (F : Nat) (d0 : Int) (w6 : Bool) (w7 : Bool) (i9 : Int) (k13 : Int) (vc : List (List Int)) (jd : List (List Int)) (vo : List (List Int)) (yp : List (List Int)) (wx : List Int) (vx : List Int) : Natural (k77_s12 F d0 w6 w7 i9 k13 vc jd vo yp wx vx) := by
  intro Q Q' s kn kx h
  obtain ⟨v38, n15⟩ := s
  simp only [k77_s12, cond_bindL, none_bindL]
def k77_s8 (F : Nat) (d0 : Int) (w6 : Bool) (w7 : Bool) (i9 : Int) (gm : List (List Int)) (wm : List (List Int)) (vc : List (List Int)) (jd : List (List Int)) (vm : List Int) (Q : Type) : (Int × List Int) → ((Int × List Int) → Option Q) → ((List Int) → Option Q) → Option Q
  | (k13, vj), kn, kx =>
    let z_1 := (k77_l12 F d0 w6 w7 i9 k13 gm wm vc jd vj vm (0 : Int) (0 : Int))
    let z_2 : Nat := ((0 : Nat) + ((Int.toNat k13) * (2 : Nat)))
    let z_3 : Int := (iget vm z_2)
    let z_4 : Bool := (inR z_3 4)
    let z_5 : Int := (iget vm (z_2 + (1 : Nat)))
    let z_6 : Bool := (inR z_5 4)
    let z_7 : Int := (IntKind.wrap .i64 (k13 + (1 : Int)))
    let z_8 : List Int := (iset vj (((0 : Nat) + ((Int.toNat z_3) * (4 : Nat))) + ((Int.toNat z_5) * (1 : Nat))) (1 : Int))
    let z_9 : Bool := ((Option.getD z_1 default) == (((List.length (llget [gm, wm, vc, jd] ((0 : Nat) + ((Int.toNat i9) * (1 : Nat))))) : Nat) : Int))
    bif (decide (k13 < (4 : Int))) then
    bif (Option.isSome z_1) then
    bif w6 then
    bif (decide ((0 : Int) < (Option.getD z_1 default))) then
    bif (inR k13 4) then
    bif (inR k13 4) then
    bif z_4 then
    bif z_6 then
    kn (z_7, z_8)
    else none
    else none
    else none
    else none
    else bif (!w6) then
    bif (inR i9 4) then
    bif z_9 then
    bif (!w7) then
    bif (inR k13 4) then
    bif (inR k13 4) then
    bif z_4 then
    bif z_6 then
    kn (z_7, z_8)
    else none
    else none
    else none
    else none
    else kn (z_7, vj)
    else kn (z_7, vj)
    else none
    else kn (z_7, vj)
    else bif (!w6) then
    bif (inR i9 4) then
    bif z_9 then
    bif (!w7) then
    bif (inR k13 4) then
    bif (inR k13 4) then
    bif z_4 then
    bif z_6 then
    kn (z_7, z_8)
    else none
    else none
    else none
    else none
    else kn (z_7, vj)
    else kn (z_7, vj)
    else none
    else kn (z_7, vj)
    else none
    else kx vj
def k77_l8 (F : Nat) (d0 : Int) (w6 : Bool) (w7 : Bool) (i9 : Int) (gm : List (List Int)) (wm : List (List Int)) (vc : List (List Int)) (jd : List (List Int)) (vm : List Int) (k13 : Int) (vj : List Int) : Option (List Int) := loopC (k77_s8 F d0 w6 w7 i9 gm wm vc jd vm) F (k13, vj) some
theorem k77_s8_nat (F : Nat) (d0 : Int) (w6 : Bool) (w7 : Bool) (i9 : Int) (gm : List (List Int)) (wm : List (List Int)) (vc : List (List Int)) (jd : List (List Int)) (vm : List Int) : Natural (k77_s8 F d0 w6 w7 i9 gm wm vc jd vm) := by
  intro Q Q' s kn kx h
  obtain ⟨k13, vj⟩ := s
  simp only [k77_s8, cond_bindL, none_bindL]
def k77_s4 (F : Nat) (d0 : Int) (w6 : Bool) (w7 : Bool) (gf : List (List Int)) (yy : List (List Int)) (jy : List (List Int)) (gy : List (List Int)) (Q : Type) : (Int × List Int) → ((Int × List Int) → Option Q) → ((List Int) → Option Q) → Option Q
  | (i9, y40), kn, kx =>
    let z_1 := (k100_p F d0 i9)
    let z_2 := (k77_l8 F d0 w6 w7 i9 gf yy jy gy (Option.getD z_1 default) (0 : Int) y40)
    bif (decide (i9 < (4 : Int))) then
    bif (Option.isSome z_1) then
    bif (Option.isSome z_2) then
    kn ((IntKind.wrap .i64 (i9 + (1 : Int))), (Option.getD z_2 default))
    else none
    else none
    else kx y40
def k77_l4 (F : Nat) (d0 : Int) (w6 : Bool) (w7 : Bool) (gf : List (List Int)) (yy : List (List Int)) (jy : List (List Int)) (gy : List (List Int)) (i9 : Int) (y40 : List Int) : Option (List Int) := loopC (k77_s4 F d0 w6 w7 gf yy jy gy) F (i9, y40) some
theorem k77_s4_nat (F : Nat) (d0 : Int) (w6 : Bool) (w7 : Bool) (gf : List (List Int)) (yy : List (List Int)) (jy : List (List Int)) (gy : List (List Int)) : Natural (k77_s4 F d0 w6 w7 gf yy jy gy) := by
  intro Q Q' s kn kx h
  obtain ⟨i9, y40⟩ := s
  simp only [k77_s4, cond_bindL, none_bindL]
def k77_s23 (F : Nat) (r5 : Int) (jp : List Int) (Q : Type) : (Int × List (List Int)) → ((Int × List (List Int)) → Option Q) → ((List (List Int)) → Option Q) → Option Q
  | (c6, yn), kn, kx =>
    let z_1 : List (List Int) := ((subn (List.length yn) yn 0 (List.length yn)) ++ [[r5, c6]])
    let z_2 : Int := (IntKind.wrap .i64 (c6 + (1 : Int)))
    bif (decide (c6 < (4 : Int))) then
    bif (inR r5 4) then
    bif (inR c6 4) then
    bif ((iget jp (((0 : Nat) + ((Int.toNat r5) * (4 : Nat))) + ((Int.toNat c6) * (1 : Nat)))) == (1 : Int)) then
    bif (fits (List.length z_1) 16) then
    kn (z_2, z_1)
    else none
    else kn (z_2, yn)
    else none
    else none
    else kx yn
def k77_l23 (F : Nat) (r5 : Int) (jp : List Int) (c6 : Int) (yn : List (List Int)) : Option (List (List Int)) := loopC (k77_s23 F r5 jp) F (c6, yn) some
theorem k77_s23_nat (F : Nat) (r5 : Int) (jp : List Int) : Natural (k77_s23 F r5 jp) := by
  intro Q Q' s kn kx h
  obtain ⟨c6, yn⟩ := s
  simp only [k77_s23, cond_bindL, none_bindL]
def k77_s20 (F : Nat) (wy : List Int) (Q : Type) : (Int × List (List Int)) → ((Int × List (List Int)) → Option Q) → ((List (List Int)) → Option Q) → Option Q
  | (r5, gp), kn, kx =>
    let z_1 := (k77_l23 F r5 wy (0 : Int) gp)
    bif (decide (r5 < (4 : Int))) then
    bif ((Nat.beq (List.length gp) (List.length gp)) && (Option.isSome z_1)) then
    kn ((IntKind.wrap .i64 (r5 + (1 : Int))), (Option.getD z_1 default))
    else none
    else kx gp
def k77_l20 (F : Nat) (wy : List Int) (r5 : Int) (gp : List (List Int)) : Option (List (List Int)) := loopC (k77_s20 F wy) F (r5, gp) some
theorem k77_s20_nat (F : Nat) (wy : List Int) : Natural (k77_s20 F wy) := by
  intro Q Q' s kn kx h
  obtain ⟨r5, gp⟩ := s
  simp only [k77_s20, cond_bindL, none_bindL]
def k77_c (Q : Type) (F : Nat) (b0 : List Int) (d1 : Int) (v40 : Bool) (k : (List (List Int)) → Option Q) : Option Q :=
    let z_1 := (k96_p F b0 d1)
    let z_2 := (k97_p F b0 d1)
    let z_3 := (Option.getD z_1 default)
    let z_4 := (k77_l4 F d1 v40 (Option.getD z_2 default) z_3.1 z_3.2.1 z_3.2.2.1 z_3.2.2.2 (0 : Int) [(0 : Int), (0 : Int), (0 : Int), (0 : Int), (0 : Int), (0 : Int), (0 : Int), (0 : Int), (0 : Int), (0 : Int), (0 : Int), (0 : Int), (0 : Int), (0 : Int), (0 : Int), (0 : Int)])
    let z_5 := (k77_l20 F (Option.getD z_4 default) (0 : Int) ([] : List (List Int)))
    bif (Option.isSome z_1) then
    bif (Option.isSome z_2) then
    bif (Option.isSome z_4) then
    bif (Option.isSome z_5) then
    k (Option.getD z_5 default)
    else none
    else none
    else none
    else none
def k77_p (F : Nat) (b0 : List Int) (d1 : Int) (v40 : Bool) : Option (List (List Int)) := k77_c _ F b0 d1 v40 some
theorem k77_cp (Q : Type) (F : Nat) (b0 : List Int) (d1 : Int) (v40 : Bool) (k : (List (List Int)) → Option Q) : k77_c Q F b0 d1 v40 k = (k77_p F b0 d1 v40).bind k := by
  simp only [k77_p, k77_c, cond_bindL, none_bindL, some_bindL]
def k74_c (Q : Type) (F : Nat) (b0 : List Int) (w3 : Int) (k : (Bool × List (List Int)) → Option Q) : Option Q :=
    let z_1 := (k91_p F b0)
    let z_2 := (k95_p F b0 w3)
    let z_3 := (k77_p F b0 w3 false)
    bif (Option.isSome z_1) then
    bif (!(Option.getD z_1 default)) then
    k (false, ([] : List (List Int)))
    else bif (!(k101_v w3)) then
    k (false, ([] : List (List Int)))
    else bif (Option.isSome z_2) then
    bif ((Option.getD z_2 default) == (0 : Int)) then
    k (false, ([] : List (List Int)))
    else bif (Option.isSome z_3) then
    k (true, (Option.getD z_3 default))
    else none
    else none
    else none
def k74_p (F : Nat) (b0 : List Int) (w3 : Int) : Option (Bool × List (List Int)) := k74_c _ F b0 w3 some
theorem k74_cp (Q : Type) (F : Nat) (b0 : List Int) (w3 : Int) (k : (Bool × List (List Int)) → Option Q) : k74_c Q F b0 w3 k = (k74_p F b0 w3).bind k := by
  simp only [k74_p, k74_c, cond_bindL, none_bindL, some_bindL]
def k98_s4 (F : Nat) (a0 : List (List Int)) (b1 : List (List Int)) (Q : Type) : (Int) → ((Int) → Option Q) → ((Bool) → Option Q) → Option Q
  | i2, kn, kx =>
    bif (decide (i2 < (((List.length a0) : Nat) : Int))) then
    bif (inR i2 (List.length a0)) then
    bif (inR i2 (List.length b1)) then
    bif (!((rget a0 (Int.toNat i2)) == (rget b1 (Int.toNat i2)))) then
    kx true
    else kn (IntKind.wrap .i64 (i2 + (1 : Int)))
    else none
    else none
    else kx false
def k98_l4 (F : Nat) (a0 : List (List Int)) (b1 : List (List Int)) (i2 : Int) : Option (Bool) := loopC (k98_s4 F a0 b1) F i2 some
theorem k98_s4_nat (F : Nat) (a0 : List (List Int)) (b1 : List (List Int)) : Natural (k98_s4 F a0 b1) := by
  intro Q Q' s kn kx h
  simp only [k98_s4, cond_bindL, none_bindL]
def k98_c (Q : Type) (F : Nat) (a0 : List (List Int)) (b1 : List (List Int)) (k : (Bool) → Option Q) : Option Q :=
    let z_1 := (k98_l4 F a0 b1 (0 : Int))
    bif (!((((List.length a0) : Nat) : Int) == (((List.length b1) : Nat) : Int))) then
    k false
    else bif (Option.isSome z_1) then
    bif (Option.getD z_1 default) then
    k false
    else k true
    else none
def k98_p (F : Nat) (a0 : List (List Int)) (b1 : List (List Int)) : Option (Bool) := k98_c _ F a0 b1 some
theorem k98_cp (Q : Type) (F : Nat) (a0 : List (List Int)) (b1 : List (List Int)) (k : (Bool) → Option Q) : k98_c Q F a0 b1 k = (k98_p F a0 b1).bind k := by
  simp only [k98_p, k98_c, cond_bindL, none_bindL, some_bindL]
def k80_c (Q : Type) (F : Nat) (b0 : List Int) (w3 : Int) (k : (Nat × Bool × List (List Int)) → Option Q) : Option Q :=
    let z_1 := (k39_p F b0 w3 false)
    let z_2 := (Option.getD z_1 default)
    bif (Option.isSome z_1) then
    k (z_2.1, z_2.2.1, z_2.2.2)
    else none
def k80_p (F : Nat) (b0 : List Int) (w3 : Int) : Option (Nat × Bool × List (List Int)) := k80_c _ F b0 w3 some
theorem k80_cp (Q : Type) (F : Nat) (b0 : List Int) (w3 : Int) (k : (Nat × Bool × List (List Int)) → Option Q) : k80_c Q F b0 w3 k = (k80_p F b0 w3).bind k := by
  simp only [k80_p, k80_c, cond_bindL, none_bindL, some_bindL]
def k85_c (Q : Type) (F : Nat) (b0 : List Int) (w3 : Int) (k : (Bool × List (List Int)) → Option Q) : Option Q :=
    let z_1 := (k91_p F b0)
    let z_2 := (k95_p F b0 w3)
    let z_3 := (k77_p F b0 w3 true)
    bif (Option.isSome z_1) then
    bif (!(Option.getD z_1 default)) then
    k (false, ([] : List (List Int)))
    else bif (!(k101_v w3)) then
    k (false, ([] : List (List Int)))
    else bif (Option.isSome z_2) then
    bif ((Option.getD z_2 default) == (0 : Int)) then
    k (false, ([] : List (List Int)))
    else bif (Option.isSome z_3) then
    k (true, (Option.getD z_3 default))
    else none
    else none
    else none
def k85_p (F : Nat) (b0 : List Int) (w3 : Int) : Option (Bool × List (List Int)) := k85_c _ F b0 w3 some
theorem k85_cp (Q : Type) (F : Nat) (b0 : List Int) (w3 : Int) (k : (Bool × List (List Int)) → Option Q) : k85_c Q F b0 w3 k = (k85_p F b0 w3).bind k := by
  simp only [k85_p, k85_c, cond_bindL, none_bindL, some_bindL]
end Go.Lv.P
