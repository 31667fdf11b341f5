/-
Pure functions and what the code of them does, by program; without conditions.
-/
import Derived.Test.YtabfliifleonaakGreatQkP4
namespace Go.Lv.P
open Go Go.Lv
set_option linter.unusedVariables false
set_option linter.unusedSimpArgs false
set_option maxRecDepth 100000
def k123_s2 (F : Nat) (l0 : List Int) (n1 : Int) (Q : Type) : (Int) → ((Int) → Option Q) → ((Bool) → Option Q) → Option Q
  | i2, kn, kx =>
    bif (decide (i2 < (((List.length l0) : Nat) : Int))) then
    bif (inR i2 (List.length l0)) then
    bif ((iget l0 (Int.toNat i2)) == n1) then
    kx true
    else kn (IntKind.wrap .i64 (i2 + (1 : Int)))
    else none
    else kx false
def k123_l2 (F : Nat) (l0 : List Int) (n1 : Int) (i2 : Int) : Option (Bool) := loopC (k123_s2 F l0 n1) F i2 some
theorem k123_s2_nat (F : Nat) (l0 : List Int) (n1 : Int) : u028 (k123_s2 F l0 n1) := by
  intro Q Q' s kn kx h
  simp only [k123_s2, u004, u003]
def k123_c (Q : Type) (F : Nat) (l0 : List Int) (n1 : Int) (k : (Bool) → Option Q) : Option Q :=
    let z_1 := (k123_l2 F l0 n1 (0 : Int))
    bif (Option.isSome z_1) then
    bif (Option.getD z_1 default) then
    k true
    else k false
    else none
def k123_p (F : Nat) (l0 : List Int) (n1 : Int) : Option (Bool) := k123_c _ F l0 n1 some
theorem k123_cp (Q : Type) (F : Nat) (l0 : List Int) (n1 : Int) (k : (Bool) → Option Q) : k123_c Q F l0 n1 k = (k123_p F l0 n1).bind k := by
  simp only [k123_p, k123_c, u004, u003, u008]
def k94_s7 (F : Nat) (w8 : List Int) (vf : Nat) (yg : Int) (ja : List (List Int)) (Q : Type) : (Int × Int × List Int) → ((Int × Int × List Int) → Option Q) → ((Int × List Int) → Option Q) → Option Q
  | (n7, k8, vw), kn, kx =>
    let z_1 : Int := (IntKind.wrap .i64 (n7 + (1 : Int)))
    let z_2 : Int := (IntKind.wrap .i64 (k8 + (1 : Int)))
    bif (decide (k8 < (4 : Int))) then
    bif (decide (k8 < (0 : Int))) then
    none
    else bif ((IntKind.wrap .i64 (((BitVec.ofInt (IntKind.bits .i64) (Int.fdiv yg (2 ^ (min (Int.toNat k8) (IntKind.bits .i64)) : Int)) &&& BitVec.ofInt (IntKind.bits .i64) (1 : Int)).toNat : Nat) : Int)) == (1 : Int)) then
    bif (decide (n7 < (((List.length w8) : Nat) : Int))) then
    bif (inR n7 (List.length w8)) then
    bif (inR k8 4) then
    kn (z_1, z_2, (iset vw ((0 : Nat) + ((Int.toNat k8) * (1 : Nat))) (iget w8 (Int.toNat n7))))
    else none
    else none
    else kn (z_1, z_2, vw)
    else kn (n7, z_2, vw)
    else kx (n7, vw)
def k94_l7 (F : Nat) (w8 : List Int) (vf : Nat) (yg : Int) (ja : List (List Int)) (n7 : Int) (k8 : Int) (vw : List Int) : Option (Int × List Int) := loopC (k94_s7 F w8 vf yg ja) F (n7, k8, vw) some
theorem k94_s7_nat (F : Nat) (w8 : List Int) (vf : Nat) (yg : Int) (ja : List (List Int)) : u028 (k94_s7 F w8 vf yg ja) := by
  intro Q Q' s kn kx h
  obtain ⟨n7, k8, vw⟩ := s
  simp only [k94_s7, u004, u003]
def k94_s3 (F : Nat) (w8 : List Int) (Q : Type) : (Nat × Int × List (List Int)) → ((Nat × Int × List (List Int)) → Option Q) → ((Nat × List (List Int)) → Option Q) → Option Q
  | (vf, yg, w6), kn, kx =>
    let z_1 := (k94_l7 F w8 vf yg w6 (0 : Int) (0 : Int) [(0 : Int), (0 : Int), (0 : Int), (0 : Int)])
    let z_2 := (Option.getD z_1 default)
    let z_3 : List (List Int) := ((subn (List.length w6) w6 0 vf) ++ [z_2.2])
    let z_4 : Nat := (List.length z_3)
    let z_5 : Int := (IntKind.wrap .i64 (yg + (1 : Int)))
    bif (decide (yg < (16 : Int))) then
    bif (Option.isSome z_1) then
    bif (z_2.1 == (((List.length w8) : Nat) : Int)) then
    bif (fits z_4 32) then
    kn (z_4, z_5, z_3)
    else none
    else kn (vf, z_5, w6)
    else none
    else kx (vf, w6)
def k94_l3 (F : Nat) (w8 : List Int) (vf : Nat) (yg : Int) (w6 : List (List Int)) : Option (Nat × List (List Int)) := loopC (k94_s3 F w8) F (vf, yg, w6) some
theorem k94_s3_nat (F : Nat) (w8 : List Int) : u028 (k94_s3 F w8) := by
  intro Q Q' s kn kx h
  obtain ⟨vf, yg, w6⟩ := s
  simp only [k94_s3, u004, u003]
def k94_c (Q : Type) (F : Nat) (w8 : List Int) (k : (Nat × List (List Int)) → Option Q) : Option Q :=
    let z_1 := (k94_l3 F w8 (0 : Nat) (0 : Int) ([] : List (List Int)))
    let z_2 := (Option.getD z_1 default)
    bif (Option.isSome z_1) then
    k (z_2.1, z_2.2)
    else none
def k94_p (F : Nat) (w8 : List Int) : Option (Nat × List (List Int)) := k94_c _ F w8 some
theorem k94_cp (Q : Type) (F : Nat) (w8 : List Int) (k : (Nat × List (List Int)) → Option Q) : k94_c Q F w8 k = (k94_p F w8).bind k := by
  simp only [k94_p, k94_c, u004, u003, u008]
def k115_s2 (F : Nat) (a7 : List Int) (b8 : List Int) (Q : Type) : (Int) → ((Int) → Option Q) → ((Bool × Bool) → Option Q) → Option Q
  | k6, kn, kx =>
    let z_1 : Nat := ((0 : Nat) + ((Int.toNat k6) * (1 : Nat)))
    let z_2 : Int := (iget a7 z_1)
    let z_3 : Int := (iget b8 z_1)
    bif (decide (k6 < (4 : Int))) then
    bif (inR k6 4) then
    bif (inR k6 4) then
    bif (!(z_2 == z_3)) then
    bif (inR k6 4) then
    bif (inR k6 4) then
    kx (true, (decide (z_2 < z_3)))
    else none
    else none
    else kn (IntKind.wrap .i64 (k6 + (1 : Int)))
    else none
    else none
    else kx (false, default)
def k115_l2 (F : Nat) (a7 : List Int) (b8 : List Int) (k6 : Int) : Option (Bool × Bool) := loopC (k115_s2 F a7 b8) F k6 some
theorem k115_s2_nat (F : Nat) (a7 : List Int) (b8 : List Int) : u028 (k115_s2 F a7 b8) := by
  intro Q Q' s kn kx h
  simp only [k115_s2, u004, u003]
def k115_c (Q : Type) (F : Nat) (a0 : List Int) (b1 : List Int) (k : (Bool) → Option Q) : Option Q :=
    let z_1 := (k115_l2 F a0 b1 (0 : Int))
    let z_2 := (Option.getD z_1 default)
    bif (Option.isSome z_1) then
    bif z_2.1 then
    k z_2.2
    else k false
    else none
def k115_p (F : Nat) (a0 : List Int) (b1 : List Int) : Option (Bool) := k115_c _ F a0 b1 some
theorem k115_cp (Q : Type) (F : Nat) (a0 : List Int) (b1 : List Int) (k : (Bool) → Option Q) : k115_c Q F a0 b1 k = (k115_p F a0 b1).bind k := by
  simp only [k115_p, k115_c, u004, u003, u008]
def k103_s2 (F : Nat) (j9 : List (List Int)) (ve : List Int) (Q : Type) : (Int) → ((Int) → Option Q) → ((Int) → Option Q) → Option Q
  | n4, kn, kx =>
    let z_1 := (k115_p F (rget j9 (Int.toNat n4)) ve)
    bif (decide (n4 < (((List.length j9) : Nat) : Int))) then
    bif (inR n4 (List.length j9)) then
    bif (Option.isSome z_1) then
    bif (Option.getD z_1 default) then
    kn (IntKind.wrap .i64 (n4 + (1 : Int)))
    else kx n4
    else none
    else none
    else kx n4
def k103_l2 (F : Nat) (j9 : List (List Int)) (ve : List Int) (n4 : Int) : Option (Int) := loopC (k103_s2 F j9 ve) F n4 some
theorem k103_s2_nat (F : Nat) (j9 : List (List Int)) (ve : List Int) : u028 (k103_s2 F j9 ve) := by
  intro Q Q' s kn kx h
  simp only [k103_s2, u004, u003]
def k103_c (Q : Type) (F : Nat) (j9 : List (List Int)) (wh : List Int) (k : (Int) → Option Q) : Option Q :=
    let z_1 := (k103_l2 F j9 wh (0 : Int))
    bif (Option.isSome z_1) then
    k (Option.getD z_1 default)
    else none
def k103_p (F : Nat) (j9 : List (List Int)) (wh : List Int) : Option (Int) := k103_c _ F j9 wh some
theorem k103_cp (Q : Type) (F : Nat) (j9 : List (List Int)) (wh : List Int) (k : (Int) → Option Q) : k103_c Q F j9 wh k = (k103_p F j9 wh).bind k := by
  simp only [k103_p, k103_c, u004, u003, u008]
def k126_c (Q : Type) (F : Nat) (j9 : List (List Int)) (wh : List Int) (k : (List (List Int)) → Option Q) : Option Q :=
    let z_1 := (k103_p F j9 wh)
    let z_2 : Nat := (Int.toNat (Option.getD z_1 default))
    let z_3 : Bool := (inLe (Option.getD z_1 default) (List.length j9))
    let z_4 : List (List Int) := (subn (List.length j9) j9 0 (z_2 - (0 : Nat)))
    let z_5 : Nat := (List.length z_4)
    let z_6 : Bool := (fits z_5 32)
    let z_7 : List (List Int) := ((subn z_5 z_4 0 z_5) ++ [wh])
    let z_8 : Nat := (List.length z_7)
    let z_9 : Bool := (fits z_8 32)
    let z_10 : List (List Int) := ((subn z_8 z_7 0 z_8) ++ (subn (List.length j9) j9 z_2 ((List.length j9) - z_2)))
    let z_11 : Nat := (List.length z_10)
    let z_12 : Bool := (fits z_11 32)
    let z_13 : List (List Int) := (subn z_11 z_10 0 z_11)
    bif (Option.isSome z_1) then
    bif (decide ((Option.getD z_1 default) < (((List.length j9) : Nat) : Int))) then
    bif (inR (Option.getD z_1 default) (List.length j9)) then
    bif ((rget j9 z_2) == wh) then
    k j9
    else bif z_3 then
    bif z_6 then
    bif z_9 then
    bif z_3 then
    bif z_12 then
    k z_13
    else none
    else none
    else none
    else none
    else none
    else none
    else bif z_3 then
    bif z_6 then
    bif z_9 then
    bif z_3 then
    bif z_12 then
    k z_13
    else none
    else none
    else none
    else none
    else none
    else none
def k126_p (F : Nat) (j9 : List (List Int)) (wh : List Int) : Option (List (List Int)) := k126_c _ F j9 wh some
theorem k126_cp (Q : Type) (F : Nat) (j9 : List (List Int)) (wh : List Int) (k : (List (List Int)) → Option Q) : k126_c Q F j9 wh k = (k126_p F j9 wh).bind k := by
  simp only [k126_p, k126_c, u004, u003, u008]
def k93_s7 (F : Nat) (g8 : List (List Int)) (g7 : Int) (wc : List Int) (Q : Type) : (Int × List Int) → ((Int × List Int) → Option Q) → ((List Int) → Option Q) → Option Q
  | (k7, vj), kn, kx =>
    let z_1 : Int := (iget wc ((0 : Nat) + ((Int.toNat k7) * (1 : Nat))))
    let z_2 : List Int := (subn (List.length vj) vj 0 (List.length vj))
    let z_3 : Int := (IntKind.wrap .i64 (z_1 - (1 : Int)))
    let z_4 : List Int := (z_2 ++ [z_3, z_3])
    let z_5 : Int := (IntKind.wrap .i64 (k7 + (1 : Int)))
    let z_6 : List Int := (z_2 ++ [z_1])
    bif (decide (k7 < (4 : Int))) then
    bif (inR k7 4) then
    bif (decide ((0 : Int) < z_1)) then
    bif (decide (k7 < (0 : Int))) then
    none
    else bif ((IntKind.wrap .i64 (((BitVec.ofInt (IntKind.bits .i64) (Int.fdiv g7 (2 ^ (min (Int.toNat k7) (IntKind.bits .i64)) : Int)) &&& BitVec.ofInt (IntKind.bits .i64) (1 : Int)).toNat : Nat) : Int)) == (1 : Int)) then
    bif (inR k7 4) then
    bif (inR k7 4) then
    bif (fits (List.length z_4) 8) then
    kn (z_5, z_4)
    else none
    else none
    else none
    else bif (inR k7 4) then
    bif (fits (List.length z_6) 8) then
    kn (z_5, z_6)
    else none
    else none
    else kx vj
    else none
    else kx vj
def k93_l7 (F : Nat) (g8 : List (List Int)) (g7 : Int) (wc : List Int) (k7 : Int) (vj : List Int) : Option (List Int) := loopC (k93_s7 F g8 g7 wc) F (k7, vj) some
theorem k93_s7_nat (F : Nat) (g8 : List (List Int)) (g7 : Int) (wc : List Int) : u028 (k93_s7 F g8 g7 wc) := by
  intro Q Q' s kn kx h
  obtain ⟨k7, vj⟩ := s
  simp only [k93_s7, u004, u003]
def k93_s15 (F : Nat) (g7 : Int) (yk : Nat) (wc : List Int) (ju : List (List Int)) (Q : Type) : (List (List Int) × Int) → ((List (List Int) × Int) → Option Q) → ((List (List Int)) → Option Q) → Option Q
  | (g8, i7), kn, kx =>
    let z_1 : List Int := (rget ju ((0 : Nat) + (Int.toNat i7)))
    let z_2 := (k125_p F z_1)
    let z_3 := (k126_p F g8 z_1)
    let z_4 : Int := (IntKind.wrap .i64 (i7 + (1 : Int)))
    bif (decide (i7 < ((yk : Nat) : Int))) then
    bif (inR i7 yk) then
    bif (Option.isSome z_2) then
    bif ((Option.getD z_2 default).1 == wc) then
    bif (inR i7 yk) then
    bif (Option.isSome z_3) then
    kn ((Option.getD z_3 default), z_4)
    else none
    else none
    else kn (g8, z_4)
    else none
    else none
    else kx g8
def k93_l15 (F : Nat) (g7 : Int) (yk : Nat) (wc : List Int) (ju : List (List Int)) (g8 : List (List Int)) (i7 : Int) : Option (List (List Int)) := loopC (k93_s15 F g7 yk wc ju) F (g8, i7) some
theorem k93_s15_nat (F : Nat) (g7 : Int) (yk : Nat) (wc : List Int) (ju : List (List Int)) : u028 (k93_s15 F g7 yk wc ju) := by
  intro Q Q' s kn kx h
  obtain ⟨g8, i7⟩ := s
  simp only [k93_s15, u004, u003]
def k93_s3 (F : Nat) (ve : List Int) (Q : Type) : (List (List Int) × Int) → ((List (List Int) × Int) → Option Q) → ((List (List Int)) → Option Q) → Option Q
  | (g8, g7), kn, kx =>
    let z_1 := (k93_l7 F g8 g7 ve (0 : Int) ([] : List Int))
    let z_2 : Nat := (List.length (Option.getD z_1 default))
    let z_3 : Int := (IntKind.wrap .i64 (g7 + (1 : Int)))
    let z_4 : List Int := (subn z_2 (Option.getD z_1 default) 0 z_2)
    let z_5 := (k123_p F z_4 (0 : Int))
    let z_6 := (k94_p F z_4)
    let z_7 := (Option.getD z_6 default)
    let z_8 := (k93_l15 F g7 z_7.1 ve z_7.2 g8 (0 : Int))
    bif (decide (g7 < (16 : Int))) then
    bif (Option.isSome z_1) then
    bif (decide ((4 : Int) < ((z_2 : Nat) : Int))) then
    kn (g8, z_3)
    else bif (Option.isSome z_5) then
    bif (Option.getD z_5 default) then
    kn (g8, z_3)
    else bif (Option.isSome z_6) then
    bif (Option.isSome z_8) then
    kn ((Option.getD z_8 default), z_3)
    else none
    else none
    else none
    else none
    else kx g8
def k93_l3 (F : Nat) (ve : List Int) (g8 : List (List Int)) (g7 : Int) : Option (List (List Int)) := loopC (k93_s3 F ve) F (g8, g7) some
theorem k93_s3_nat (F : Nat) (ve : List Int) : u028 (k93_s3 F ve) := by
  intro Q Q' s kn kx h
  obtain ⟨g8, g7⟩ := s
  simp only [k93_s3, u004, u003]
def k93_c (Q : Type) (F : Nat) (w4 : List Int) (k : (List (List Int)) → Option Q) : Option Q :=
    let z_1 := (k93_l3 F w4 ([] : List (List Int)) (0 : Int))
    bif (Option.isSome z_1) then
    k (Option.getD z_1 default)
    else none
def k93_p (F : Nat) (w4 : List Int) : Option (List (List Int)) := k93_c _ F w4 some
theorem k93_cp (Q : Type) (F : Nat) (w4 : List Int) (k : (List (List Int)) → Option Q) : k93_c Q F w4 k = (k93_p F w4).bind k := by
  simp only [k93_p, k93_c, u004, u003, u008]
def k105_c (Q : Type) (F : Nat) (b0 : List Int) (d1 : Int) (k : (List (List Int) × List (List Int) × List (List Int) × List (List Int)) → Option Q) : Option Q :=
    let z_1 := (k74_p F b0 d1 (0 : Int))
    let z_2 := (k93_p F (Option.getD z_1 default))
    let z_3 := (k74_p F b0 d1 (1 : Int))
    let z_4 := (k93_p F (Option.getD z_3 default))
    let z_5 := (k74_p F b0 d1 (2 : Int))
    let z_6 := (k93_p F (Option.getD z_5 default))
    let z_7 := (k74_p F b0 d1 (3 : Int))
    let z_8 := (k93_p F (Option.getD z_7 default))
    bif (Option.isSome z_1) then
    bif (Option.isSome z_2) then
    bif (Option.isSome z_3) then
    bif (Option.isSome z_4) then
    bif (Option.isSome z_5) then
    bif (Option.isSome z_6) then
    bif (Option.isSome z_7) then
    bif (Option.isSome z_8) then
    k ((Option.getD z_2 default), (Option.getD z_4 default), (Option.getD z_6 default), (Option.getD z_8 default))
    else none
    else none
    else none
    else none
    else none
    else none
    else none
    else none
def k105_p (F : Nat) (b0 : List Int) (d1 : Int) : Option (List (List Int) × List (List Int) × List (List Int) × List (List Int)) := k105_c _ F b0 d1 some
theorem k105_cp (Q : Type) (F : Nat) (b0 : List Int) (d1 : Int) (k : (List (List Int) × List (List Int) × List (List Int) × List (List Int)) → Option Q) : k105_c Q F b0 d1 k = (k105_p F b0 d1).bind k := by
  simp only [k105_p, k105_c, u004, u003, u008]
def k107_c (Q : Type) (F : Nat) (b0 : List Int) (d1 : Int) (k : (Bool) → Option Q) : Option Q :=
    let z_1 := (k101_p F b0 d1)
    bif (Option.isSome z_1) then
    k ((Option.getD z_1 default).1 == b0)
    else none
def k107_p (F : Nat) (b0 : List Int) (d1 : Int) : Option (Bool) := k107_c _ F b0 d1 some
theorem k107_cp (Q : Type) (F : Nat) (b0 : List Int) (d1 : Int) (k : (Bool) → Option Q) : k107_c Q F b0 d1 k = (k107_p F b0 d1).bind k := by
  simp only [k107_p, k107_c, u004, u003, u008]
def k104_c (Q : Type) (F : Nat) (b0 : List Int) (d1 : Int) (k : (Int) → Option Q) : Option Q :=
    let z_1 := (k105_p F b0 d1)
    let z_2 := (k107_p F b0 d1)
    let z_3 := (Option.getD z_1 default)
    let z_4 : Int := (IntKind.wrap .i64 ((IntKind.wrap .i64 ((IntKind.wrap .i64 ((IntKind.wrap .i64 ((1 : Int) * (((List.length z_3.1) : Nat) : Int))) * (((List.length z_3.2.1) : Nat) : Int))) * (((List.length z_3.2.2.1) : Nat) : Int))) * (((List.length z_3.2.2.2) : Nat) : Int)))
    bif (Option.isSome z_1) then
    bif (Option.isSome z_2) then
    bif (Option.getD z_2 default) then
    k (IntKind.wrap .i64 (z_4 - (1 : Int)))
    else k z_4
    else none
    else none
def k104_p (F : Nat) (b0 : List Int) (d1 : Int) : Option (Int) := k104_c _ F b0 d1 some
theorem k104_cp (Q : Type) (F : Nat) (b0 : List Int) (d1 : Int) (k : (Int) → Option Q) : k104_c Q F b0 d1 k = (k104_p F b0 d1).bind k := by
  simp only [k104_p, k104_c, u004, u003, u008]
def k127_s10 (F : Nat) (d0 : Int) (yn : Nat) (i6 : Int) (n9 : Int) (jd : List (List Int)) (gd : List (List Int)) (wd : List (List Int)) (jn : List (List Int)) (j8 : List (List Int)) (Q : Type) : (Int × List (List Int)) → ((Int × List (List Int)) → Option Q) → ((List (List Int)) → Option Q) → Option Q
  | (k10, gn), kn, kx =>
    let z_1 : List (List Int) := (llget [jd, gd, wd, jn] ((0 : Nat) + ((Int.toNat i6) * (1 : Nat))))
    let z_2 : Nat := (List.length z_1)
    let z_3 := (k116_p F (rget j8 ((0 : Nat) + (Int.toNat n9))) d0 i6 (rget z_1 (Int.toNat k10)))
    let z_4 : List (List Int) := ((subn (List.length gn) gn 0 (List.length gn)) ++ [(Option.getD z_3 default)])
    bif (inR i6 4) then
    bif (decide (k10 < ((z_2 : Nat) : Int))) then
    bif (inR n9 yn) then
    bif (inR i6 4) then
    bif (inR k10 z_2) then
    bif (Option.isSome z_3) then
    bif (fits (List.length z_4) 128) then
    kn ((IntKind.wrap .i64 (k10 + (1 : Int))), z_4)
    else none
    else none
    else none
    else none
    else none
    else kx gn
    else none
def k127_l10 (F : Nat) (d0 : Int) (yn : Nat) (i6 : Int) (n9 : Int) (jd : List (List Int)) (gd : List (List Int)) (wd : List (List Int)) (jn : List (List Int)) (j8 : List (List Int)) (k10 : Int) (gn : List (List Int)) : Option (List (List Int)) := loopC (k127_s10 F d0 yn i6 n9 jd gd wd jn j8) F (k10, gn) some
theorem k127_s10_nat (F : Nat) (d0 : Int) (yn : Nat) (i6 : Int) (n9 : Int) (jd : List (List Int)) (gd : List (List Int)) (wd : List (List Int)) (jn : List (List Int)) (j8 : List (List Int)) : u028 (k127_s10 F d0 yn i6 n9 jd gd wd jn j8) := by
  intro Q Q' s kn kx h
  obtain ⟨k10, gn⟩ := s
  simp only [k127_s10, u004, u003]
def k127_s7 (F : Nat) (d0 : Int) (i6 : Int) (jf : List (List Int)) (jd : List (List Int)) (gd : List (List Int)) (wd : List (List Int)) (ge : List (List Int)) (Q : Type) : (Int × List (List Int)) → ((Int × List (List Int)) → Option Q) → ((List (List Int)) → Option Q) → Option Q
  | (n9, wn), kn, kx =>
    let z_1 := (k127_l10 F d0 (List.length ge) i6 n9 jf jd gd wd ge (0 : Int) wn)
    bif (decide (n9 < (((List.length ge) : Nat) : Int))) then
    bif ((Nat.beq (List.length wn) (List.length wn)) && (Option.isSome z_1)) then
    kn ((IntKind.wrap .i64 (n9 + (1 : Int))), (Option.getD z_1 default))
    else none
    else kx wn
def k127_l7 (F : Nat) (d0 : Int) (i6 : Int) (jf : List (List Int)) (jd : List (List Int)) (gd : List (List Int)) (wd : List (List Int)) (ge : List (List Int)) (n9 : Int) (wn : List (List Int)) : Option (List (List Int)) := loopC (k127_s7 F d0 i6 jf jd gd wd ge) F (n9, wn) some
theorem k127_s7_nat (F : Nat) (d0 : Int) (i6 : Int) (jf : List (List Int)) (jd : List (List Int)) (gd : List (List Int)) (wd : List (List Int)) (ge : List (List Int)) : u028 (k127_s7 F d0 i6 jf jd gd wd ge) := by
  intro Q Q' s kn kx h
  obtain ⟨n9, wn⟩ := s
  simp only [k127_s7, u004, u003]
def k127_s3 (F : Nat) (d0 : Int) (gu : List (List Int)) (wu : List (List Int)) (vu : List (List Int)) (jf : List (List Int)) (Q : Type) : (Int × List (List Int)) → ((Int × List (List Int)) → Option Q) → ((List (List Int)) → Option Q) → Option Q
  | (i6, vn), kn, kx =>
    let z_1 := (k127_l7 F d0 i6 gu wu vu jf vn (0 : Int) ([] : List (List Int)))
    bif (decide (i6 < (4 : Int))) then
    bif ((Nat.beq (List.length vn) (List.length vn)) && (Option.isSome z_1)) then
    kn ((IntKind.wrap .i64 (i6 + (1 : Int))), (Option.getD z_1 default))
    else none
    else kx vn
def k127_l3 (F : Nat) (d0 : Int) (gu : List (List Int)) (wu : List (List Int)) (vu : List (List Int)) (jf : List (List Int)) (i6 : Int) (vn : List (List Int)) : Option (List (List Int)) := loopC (k127_s3 F d0 gu wu vu jf) F (i6, vn) some
theorem k127_s3_nat (F : Nat) (d0 : Int) (gu : List (List Int)) (wu : List (List Int)) (vu : List (List Int)) (jf : List (List Int)) : u028 (k127_s3 F d0 gu wu vu jf) := by
  intro Q Q' s kn kx h
  obtain ⟨i6, vn⟩ := s
  simp only [k127_s3, u004, u003]
def k127_c (Q : Type) (F : Nat) (b0 : List Int) (d1 : Int) (k : (List (List Int)) → Option Q) : Option Q :=
    let z_1 := (k105_p F b0 d1)
    let z_2 := (Option.getD z_1 default)
    let z_3 := (k127_l3 F d1 z_2.1 z_2.2.1 z_2.2.2.1 z_2.2.2.2 (0 : Int) [b0])
    bif (Option.isSome z_1) then
    bif (Option.isSome z_3) then
    k (Option.getD z_3 default)
    else none
    else none
def k127_p (F : Nat) (b0 : List Int) (d1 : Int) : Option (List (List Int)) := k127_c _ F b0 d1 some
theorem k127_cp (Q : Type) (F : Nat) (b0 : List Int) (d1 : Int) (k : (List (List Int)) → Option Q) : k127_c Q F b0 d1 k = (k127_p F b0 d1).bind k := by
  simp only [k127_p, k127_c, u004, u003, u008]
end Go.Lv.P
