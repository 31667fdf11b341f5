/-
Pure functions and what the code of them does, by program; without conditions.
-/
import Derived.Test.YtabfliifleonaakGreatLv3
import Derived.Test.YtabfliifleonaakGreatMvOrd
namespace Go.Lv.P
open Go Go.Lv
set_option linter.unusedVariables false
set_option linter.unusedSimpArgs false
set_option maxRecDepth 100000
def k128_c (Q : Type) (j2 : List Int) (k : (Bool) → Option Q) : Option Q :=
    k (decide ((65536 : Int) < (((List.length j2) : Nat) : Int)))
def k128_v (j2 : List Int) : Bool :=
    (decide ((65536 : Int) < (((List.length j2) : Nat) : Int)))
theorem k128_cv (Q : Type) (j2 : List Int) (k : (Bool) → Option Q) : k128_c Q j2 k = k (k128_v j2) := by
  simp only [k128_c, k128_v, u067 k]
def k66_c (Q : Type) (c3 : List Int) (c4 : Int) (c5 : Int) (k : (Int × Int × Int) → Option Q) : Option Q :=
    let z_1 : Int := (IntKind.wrap .i64 (c4 + (1 : Int)))
    let z_2 : Bool := (decide (z_1 ≤ (((List.length c3) : Nat) : Int)))
    let z_3 : Int := (IntKind.wrap .i64 (iget c3 (Int.toNat c4)))
    let z_4 : Int := (IntKind.wrap .u64 (c5 * (6364136223846793005 : Int)))
    let z_5 : Int := (IntKind.wrap .u64 ((IntKind.wrap .u64 (z_4 + (IntKind.wrap .u64 z_3))) + (462197 : Int)))
    let z_6 : Int := (IntKind.wrap .u64 ((IntKind.wrap .u64 (z_4 + (0 : Int))) + (462197 : Int)))
    bif (decide (c4 < (((List.length c3) : Nat) : Int))) then
    bif (inR c4 (List.length c3)) then
    bif z_2 then
    k (z_3, z_1, z_5)
    else k ((IntKind.wrap .i64 (IntKind.wrap .u64 (((BitVec.ofInt (IntKind.bits .u64) (Int.fdiv z_5 (2 ^ (min (Int.toNat (40 : Int)) (IntKind.bits .u64)) : Int)) &&& BitVec.ofInt (IntKind.bits .u64) (255 : Int)).toNat : Nat) : Int))), z_1, z_5)
    else none
    else bif z_2 then
    k ((0 : Int), z_1, z_6)
    else k ((IntKind.wrap .i64 (IntKind.wrap .u64 (((BitVec.ofInt (IntKind.bits .u64) (Int.fdiv z_6 (2 ^ (min (Int.toNat (40 : Int)) (IntKind.bits .u64)) : Int)) &&& BitVec.ofInt (IntKind.bits .u64) (255 : Int)).toNat : Nat) : Int))), z_1, z_6)
def k66_p (c3 : List Int) (c4 : Int) (c5 : Int) : Option (Int × Int × Int) := k66_c _ c3 c4 c5 some
theorem k66_cp (Q : Type) (c3 : List Int) (c4 : Int) (c5 : Int) (k : (Int × Int × Int) → Option Q) : k66_c Q c3 c4 c5 k = (k66_p c3 c4 c5).bind k := by
  simp only [k66_p, k66_c, u004, u003, u008]
def k67_c (Q : Type) (n3 : Int) (c4 : List Int) (c5 : Int) (c6 : Int) (k : (Int × Int × Int) → Option Q) : Option Q :=
    let z_1 := (k66_p c4 c5 c6)
    let z_2 := (Option.getD z_1 default)
    let z_3 := (k66_p c4 z_2.2.1 z_2.2.2)
    let z_4 := (Option.getD z_3 default)
    bif (decide (n3 ≤ (1 : Int))) then
    k ((0 : Int), c5, c6)
    else bif (Option.isSome z_1) then
    bif (decide ((200 : Int) < n3)) then
    bif (Option.isSome z_3) then
    bif (n3 == (0 : Int)) then
    none
    else k ((Int.tmod (IntKind.wrap .i64 ((IntKind.wrap .i64 (z_2.1 * (256 : Int))) + z_4.1)) n3), z_4.2.1, z_4.2.2)
    else none
    else bif (n3 == (0 : Int)) then
    none
    else k ((Int.tmod z_2.1 n3), z_2.2.1, z_2.2.2)
    else none
def k67_p (n3 : Int) (c4 : List Int) (c5 : Int) (c6 : Int) : Option (Int × Int × Int) := k67_c _ n3 c4 c5 c6 some
theorem k67_cp (Q : Type) (n3 : Int) (c4 : List Int) (c5 : Int) (c6 : Int) (k : (Int × Int × Int) → Option Q) : k67_c Q n3 c4 c5 c6 k = (k67_p n3 c4 c5 c6).bind k := by
  simp only [k67_p, k67_c, u004, u003, u008]
def k73_c (Q : Type) (n3 : Int) (c4 : List Int) (c5 : Int) (c6 : Int) (k : (Bool × Int × Int) → Option Q) : Option Q :=
    let z_1 := (k67_p n3 c4 c5 c6)
    let z_2 := (Option.getD z_1 default)
    bif (Option.isSome z_1) then
    k ((z_2.1 == (0 : Int)), z_2.2.1, z_2.2.2)
    else none
def k73_p (n3 : Int) (c4 : List Int) (c5 : Int) (c6 : Int) : Option (Bool × Int × Int) := k73_c _ n3 c4 c5 c6 some
theorem k73_cp (Q : Type) (n3 : Int) (c4 : List Int) (c5 : Int) (c6 : Int) (k : (Bool × Int × Int) → Option Q) : k73_c Q n3 c4 c5 c6 k = (k73_p n3 c4 c5 c6).bind k := by
  simp only [k73_p, k73_c, u004, u003, u008]
def k52_c (Q : Type) (list3 : List Int) (c4 : List Int) (c5 : Int) (c6 : Int) (k : (Int × Int × Int) → Option Q) : Option Q :=
    let z_1 := (k67_p (((List.length list3) : Nat) : Int) c4 c5 c6)
    let z_2 := (Option.getD z_1 default)
    bif (Option.isSome z_1) then
    bif (inR z_2.1 (List.length list3)) then
    k ((iget list3 (Int.toNat z_2.1)), z_2.2.1, z_2.2.2)
    else none
    else none
def k52_p (list3 : List Int) (c4 : List Int) (c5 : Int) (c6 : Int) : Option (Int × Int × Int) := k52_c _ list3 c4 c5 c6 some
theorem k52_cp (Q : Type) (list3 : List Int) (c4 : List Int) (c5 : Int) (c6 : Int) (k : (Int × Int × Int) → Option Q) : k52_c Q list3 c4 c5 c6 k = (k52_p list3 c4 c5 c6).bind k := by
  simp only [k52_p, k52_c, u004, u003, u008]
def k69_c (Q : Type) (c3 : List Int) (c4 : Int) (c5 : Int) (k : (Int × Int × Int) → Option Q) : Option Q :=
    let z_1 := (k52_p [(1 : Int), (2 : Int), (0 : Int), (1 : Int), (3 : Int), (0 : Int), (2 : Int), (1 : Int), (4 : Int), (5 : Int), (0 : Int)] c3 c4 c5)
    let z_2 := (Option.getD z_1 default)
    bif (Option.isSome z_1) then
    k (z_2.1, z_2.2.1, z_2.2.2)
    else none
def k69_p (c3 : List Int) (c4 : Int) (c5 : Int) : Option (Int × Int × Int) := k69_c _ c3 c4 c5 some
theorem k69_cp (Q : Type) (c3 : List Int) (c4 : Int) (c5 : Int) (k : (Int × Int × Int) → Option Q) : k69_c Q c3 c4 c5 k = (k69_p c3 c4 c5).bind k := by
  simp only [k69_p, k69_c, u004, u003, u008]
def k53_s6 (F : Nat) (vd : Bool) (wa : Bool) (r11 : Int) (c13 : List Int) (Q : Type) : (Int × Int × Int × List Int) → ((Int × Int × Int × List Int) → Option Q) → ((Int × Int × List Int) → Option Q) → Option Q
  | (k12, c14, c15, b17), kn, kx =>
    let z_1 := (k69_p c13 c14 c15)
    let z_2 := (Option.getD z_1 default)
    let z_3 := (k73_p (3 : Int) c13 z_2.2.1 z_2.2.2)
    let z_4 := (Option.getD z_3 default)
    let z_5 := (k67_p (3 : Int) c13 z_4.2.1 z_4.2.2)
    let z_6 : Bool := (Option.isSome z_5)
    let z_7 : Int := (IntKind.wrap .i64 (k12 + (1 : Int)))
    let z_8 := (Option.getD z_5 default)
    let z_9 : Nat := (((0 : Nat) + ((Int.toNat r11) * (4 : Nat))) + ((Int.toNat k12) * (1 : Nat)))
    let z_10 : List Int := (iset b17 z_9 (IntKind.wrap .i64 ((1 : Int) + z_8.1)))
    let z_11 : Bool := (z_2.1 == (0 : Int))
    let z_12 : List Int := (iset b17 z_9 z_2.1)
    let z_13 := (k67_p (3 : Int) c13 z_2.2.1 z_2.2.2)
    let z_14 := (Option.getD z_13 default)
    bif (decide (k12 < (4 : Int))) then
    bif (Option.isSome z_1) then
    bif vd then
    bif (Option.isSome z_3) then
    bif (!z_4.1) then
    bif wa then
    bif z_6 then
    bif (inR r11 4) then
    bif (inR k12 4) then
    kn (z_7, z_8.2.1, z_8.2.2, z_10)
    else none
    else none
    else none
    else bif (inR r11 4) then
    bif (inR k12 4) then
    kn (z_7, z_4.2.1, z_4.2.2, (iset b17 z_9 (0 : Int)))
    else none
    else none
    else bif wa then
    bif z_11 then
    bif z_6 then
    bif (inR r11 4) then
    bif (inR k12 4) then
    kn (z_7, z_8.2.1, z_8.2.2, z_10)
    else none
    else none
    else none
    else bif (inR r11 4) then
    bif (inR k12 4) then
    kn (z_7, z_4.2.1, z_4.2.2, z_12)
    else none
    else none
    else bif (inR r11 4) then
    bif (inR k12 4) then
    kn (z_7, z_4.2.1, z_4.2.2, z_12)
    else none
    else none
    else none
    else bif wa then
    bif z_11 then
    bif (Option.isSome z_13) then
    bif (inR r11 4) then
    bif (inR k12 4) then
    kn (z_7, z_14.2.1, z_14.2.2, (iset b17 z_9 (IntKind.wrap .i64 ((1 : Int) + z_14.1))))
    else none
    else none
    else none
    else bif (inR r11 4) then
    bif (inR k12 4) then
    kn (z_7, z_2.2.1, z_2.2.2, z_12)
    else none
    else none
    else bif (inR r11 4) then
    bif (inR k12 4) then
    kn (z_7, z_2.2.1, z_2.2.2, z_12)
    else none
    else none
    else none
    else kx (c14, c15, b17)
def k53_l6 (F : Nat) (vd : Bool) (wa : Bool) (r11 : Int) (c13 : List Int) (k12 : Int) (c14 : Int) (c15 : Int) (b17 : List Int) : Option (Int × Int × List Int) := loopC (k53_s6 F vd wa r11 c13) F (k12, c14, c15, b17) some
theorem k53_s6_nat (F : Nat) (vd : Bool) (wa : Bool) (r11 : Int) (c13 : List Int) : u028 (k53_s6 F vd wa r11 c13) := by
  intro Q Q' s kn kx h
  obtain ⟨k12, c14, c15, b17⟩ := s
  simp only [k53_s6, u004, u003]
def k53_s3 (F : Nat) (vd : Bool) (wa : Bool) (c12 : List Int) (Q : Type) : (Int × Int × Int × List Int) → ((Int × Int × Int × List Int) → Option Q) → ((Int × Int × List Int) → Option Q) → Option Q
  | (r11, c13, c14, b16), kn, kx =>
    let z_1 := (k53_l6 F vd wa r11 c12 (0 : Int) c13 c14 b16)
    let z_2 := (Option.getD z_1 default)
    bif (decide (r11 < (4 : Int))) then
    bif (Option.isSome z_1) then
    kn ((IntKind.wrap .i64 (r11 + (1 : Int))), z_2.1, z_2.2.1, z_2.2.2)
    else none
    else kx (c13, c14, b16)
def k53_l3 (F : Nat) (vd : Bool) (wa : Bool) (c12 : List Int) (r11 : Int) (c13 : Int) (c14 : Int) (b16 : List Int) : Option (Int × Int × List Int) := loopC (k53_s3 F vd wa c12) F (r11, c13, c14, b16) some
theorem k53_s3_nat (F : Nat) (vd : Bool) (wa : Bool) (c12 : List Int) : u028 (k53_s3 F vd wa c12) := by
  intro Q Q' s kn kx h
  obtain ⟨r11, c13, c14, b16⟩ := s
  simp only [k53_s3, u004, u003]
def k53_s29 (F : Nat) (r9 : Int) (c11 : List Int) (Q : Type) : (Int × Int × Int × List Int) → ((Int × Int × Int × List Int) → Option Q) → ((Int × Int × List Int) → Option Q) → Option Q
  | (k10, c12, c13, b15), kn, kx =>
    let z_1 := (k67_p (12 : Int) c11 c12 c13)
    let z_2 := (Option.getD z_1 default)
    bif (decide (k10 < (4 : Int))) then
    bif (Option.isSome z_1) then
    bif (inR r9 4) then
    bif (inR k10 4) then
    kn ((IntKind.wrap .i64 (k10 + (1 : Int))), z_2.2.1, z_2.2.2, (iset b15 (((0 : Nat) + ((Int.toNat r9) * (4 : Nat))) + ((Int.toNat k10) * (1 : Nat))) (IntKind.wrap .i64 ((IntKind.wrap .i64 ((1 : Int) + (Int.tmod (IntKind.wrap .i64 (r9 + k10)) (2 : Int)))) + (IntKind.wrap .i64 (Int.tdiv (IntKind.wrap .i64 ((2 : Int) * z_2.1)) (11 : Int)))))))
    else none
    else none
    else none
    else kx (c12, c13, b15)
def k53_l29 (F : Nat) (r9 : Int) (c11 : List Int) (k10 : Int) (c12 : Int) (c13 : Int) (b15 : List Int) : Option (Int × Int × List Int) := loopC (k53_s29 F r9 c11) F (k10, c12, c13, b15) some
theorem k53_s29_nat (F : Nat) (r9 : Int) (c11 : List Int) : u028 (k53_s29 F r9 c11) := by
  intro Q Q' s kn kx h
  obtain ⟨k10, c12, c13, b15⟩ := s
  simp only [k53_s29, u004, u003]
def k53_s26 (F : Nat) (c10 : List Int) (Q : Type) : (Int × Int × Int × List Int) → ((Int × Int × Int × List Int) → Option Q) → ((Int × Int × List Int) → Option Q) → Option Q
  | (r9, c11, c12, b14), kn, kx =>
    let z_1 := (k53_l29 F r9 c10 (0 : Int) c11 c12 b14)
    let z_2 := (Option.getD z_1 default)
    bif (decide (r9 < (4 : Int))) then
    bif (Option.isSome z_1) then
    kn ((IntKind.wrap .i64 (r9 + (1 : Int))), z_2.1, z_2.2.1, z_2.2.2)
    else none
    else kx (c11, c12, b14)
def k53_l26 (F : Nat) (c10 : List Int) (r9 : Int) (c11 : Int) (c12 : Int) (b14 : List Int) : Option (Int × Int × List Int) := loopC (k53_s26 F c10) F (r9, c11, c12, b14) some
theorem k53_s26_nat (F : Nat) (c10 : List Int) : u028 (k53_s26 F c10) := by
  intro Q Q' s kn kx h
  obtain ⟨r9, c11, c12, b14⟩ := s
  simp only [k53_s26, u004, u003]
def k53_c (Q : Type) (F : Nat) (c3 : List Int) (c4 : Int) (c5 : Int) (k : (List Int × Int × Int) → Option Q) : Option Q :=
    let z_1 := (k73_p (4 : Int) c3 c4 c5)
    let z_2 := (Option.getD z_1 default)
    let z_3 := (k73_p (4 : Int) c3 z_2.2.1 z_2.2.2)
    let z_4 := (Option.getD z_3 default)
    let z_5 : List Int := [(0 : Int), (0 : Int), (0 : Int), (0 : Int), (0 : Int), (0 : Int), (0 : Int), (0 : Int), (0 : Int), (0 : Int), (0 : Int), (0 : Int), (0 : Int), (0 : Int), (0 : Int), (0 : Int)]
    let z_6 := (k53_l3 F z_2.1 z_4.1 c3 (0 : Int) z_4.2.1 z_4.2.2 z_5)
    let z_7 := (Option.getD z_6 default)
    let z_8 := (k67_p (40 : Int) c3 z_7.1 z_7.2.1)
    let z_9 := (Option.getD z_8 default)
    let z_10 := (k67_p (4 : Int) c3 z_9.2.1 z_9.2.2)
    let z_11 := (Option.getD z_10 default)
    let z_12 := (k67_p (4 : Int) c3 z_11.2.1 z_11.2.2)
    let z_13 := (Option.getD z_12 default)
    let z_14 := (k52_p [(-1 : Int), (18 : Int), (4611686018427387904 : Int)] c3 z_13.2.1 z_13.2.2)
    let z_15 := (Option.getD z_14 default)
    let z_16 : Bool := (z_9.1 == (1 : Int))
    let z_17 := (k52_p [(16 : Int), (17 : Int), (16 : Int)] c3 z_9.2.1 z_9.2.2)
    let z_18 : Bool := (Option.isSome z_17)
    let z_19 := (Option.getD z_17 default)
    let z_20 := (k67_p (3 : Int) c3 z_19.2.1 z_19.2.2)
    let wx : Bool := (Option.isSome z_20)
    let z_22 := (Option.getD z_20 default)
    let z_23 := (k67_p (4 : Int) c3 z_22.2.1 z_22.2.2)
    let z_24 : Bool := (Option.isSome z_23)
    let z_25 := (Option.getD z_23 default)
    let z_26 := (k67_p (2 : Int) c3 z_25.2.1 z_25.2.2)
    let z_27 : Bool := (Option.isSome z_26)
    let z_28 : Bool := (inR z_25.1 4)
    let z_29 := (Option.getD z_26 default)
    let z_30 : List Int := (u108 16 z_7.2.2 ((0 : Nat) + ((Int.toNat z_25.1) * (4 : Nat))) [z_19.1, z_19.1, (IntKind.wrap .i64 ((16 : Int) + z_29.1)), z_22.1] 4)
    let z_31 : Bool := (z_9.1 == (3 : Int))
    let z_32 : Bool := (z_9.1 == (4 : Int))
    let z_33 := (k53_l26 F c3 (0 : Int) z_9.2.1 z_9.2.2 z_7.2.2)
    let z_34 : Bool := (Option.isSome z_33)
    let z_35 := (Option.getD z_33 default)
    bif (Option.isSome z_1) then
    bif (Option.isSome z_3) then
    bif (Option.isSome z_6) then
    bif (Option.isSome z_8) then
    bif (z_9.1 == (0 : Int)) then
    bif (Option.isSome z_10) then
    bif (Option.isSome z_12) then
    bif (Option.isSome z_14) then
    bif (inR z_11.1 4) then
    bif (inR z_13.1 4) then
    k ((iset z_7.2.2 (((0 : Nat) + ((Int.toNat z_11.1) * (4 : Nat))) + ((Int.toNat z_13.1) * (1 : Nat))) z_15.1), z_15.2.1, z_15.2.2)
    else none
    else none
    else none
    else none
    else none
    else bif z_16 then
    bif z_16 then
    bif z_18 then
    bif wx then
    bif z_24 then
    bif z_27 then
    bif z_28 then
    k (z_30, z_29.2.1, z_29.2.2)
    else none
    else none
    else none
    else none
    else none
    else bif z_31 then
    k (z_5, z_9.2.1, z_9.2.2)
    else bif z_32 then
    bif z_34 then
    k (z_35.2.2, z_35.1, z_35.2.1)
    else none
    else k (z_7.2.2, z_9.2.1, z_9.2.2)
    else bif (z_9.1 == (2 : Int)) then
    bif z_18 then
    bif wx then
    bif z_24 then
    bif z_27 then
    bif z_28 then
    k (z_30, z_29.2.1, z_29.2.2)
    else none
    else none
    else none
    else none
    else none
    else bif z_31 then
    k (z_5, z_9.2.1, z_9.2.2)
    else bif z_32 then
    bif z_34 then
    k (z_35.2.2, z_35.1, z_35.2.1)
    else none
    else k (z_7.2.2, z_9.2.1, z_9.2.2)
    else none
    else none
    else none
    else none
def k53_p (F : Nat) (c3 : List Int) (c4 : Int) (c5 : Int) : Option (List Int × Int × Int) := k53_c _ F c3 c4 c5 some
theorem k53_cp (Q : Type) (F : Nat) (c3 : List Int) (c4 : Int) (c5 : Int) (k : (List Int × Int × Int) → Option Q) : k53_c Q F c3 c4 c5 k = (k53_p F c3 c4 c5).bind k := by
  simp only [k53_p, k53_c, u004, u003, u008]
def k68_c (Q : Type) (c3 : List Int) (c4 : Int) (c5 : Int) (k : (Int × Int × Int) → Option Q) : Option Q :=
    let z_1 := (k73_p (40 : Int) c3 c4 c5)
    let z_2 := (Option.getD z_1 default)
    let z_3 := (k52_p [(-1 : Int), (4 : Int), (4611686018427387904 : Int)] c3 z_2.2.1 z_2.2.2)
    let z_4 := (Option.getD z_3 default)
    let z_5 := (k67_p (4 : Int) c3 z_2.2.1 z_2.2.2)
    let z_6 := (Option.getD z_5 default)
    bif (Option.isSome z_1) then
    bif z_2.1 then
    bif (Option.isSome z_3) then
    k (z_4.1, z_4.2.1, z_4.2.2)
    else none
    else bif (Option.isSome z_5) then
    k (z_6.1, z_6.2.1, z_6.2.2)
    else none
    else none
def k68_p (c3 : List Int) (c4 : Int) (c5 : Int) : Option (Int × Int × Int) := k68_c _ c3 c4 c5 some
theorem k68_cp (Q : Type) (c3 : List Int) (c4 : Int) (c5 : Int) (k : (Int × Int × Int) → Option Q) : k68_c Q c3 c4 c5 k = (k68_p c3 c4 c5).bind k := by
  simp only [k68_p, k68_c, u004, u003, u008]
def k130_c (Q : Type) (x0 : Int) (a1 : Int) (b2 : Int) (k : (Bool) → Option Q) : Option Q :=
    bif (decide (a1 ≤ x0)) then
    k (decide (x0 ≤ b2))
    else k false
def k130_v (x0 : Int) (a1 : Int) (b2 : Int) : Bool :=
    bif (decide (a1 ≤ x0)) then
    (decide (x0 ≤ b2))
    else false
theorem k130_cv (Q : Type) (x0 : Int) (a1 : Int) (b2 : Int) (k : (Bool) → Option Q) : k130_c Q x0 a1 b2 k = k (k130_v x0 a1 b2) := by
  simp only [k130_c, k130_v, u067 k]
def k99_s5 (F : Nat) (r3 : Int) (b5 : List Int) (Q : Type) : (Int) → ((Int) → Option Q) → ((Bool) → Option Q) → Option Q
  | c4, kn, kx =>
    bif (decide (c4 < (4 : Int))) then
    bif (inR r3 4) then
    bif (inR c4 4) then
    bif (!(k130_v (iget b5 (((0 : Nat) + ((Int.toNat r3) * (4 : Nat))) + ((Int.toNat c4) * (1 : Nat)))) (0 : Int) (17 : Int))) then
    kx true
    else kn (IntKind.wrap .i64 (c4 + (1 : Int)))
    else none
    else none
    else kx false
def k99_l5 (F : Nat) (r3 : Int) (b5 : List Int) (c4 : Int) : Option (Bool) := loopC (k99_s5 F r3 b5) F c4 some
theorem k99_s5_nat (F : Nat) (r3 : Int) (b5 : List Int) : u028 (k99_s5 F r3 b5) := by
  intro Q Q' s kn kx h
  simp only [k99_s5, u004, u003]
def k99_s2 (F : Nat) (b4 : List Int) (Q : Type) : (Int) → ((Int) → Option Q) → ((Bool) → Option Q) → Option Q
  | r3, kn, kx =>
    let z_1 := (k99_l5 F r3 b4 (0 : Int))
    bif (decide (r3 < (4 : Int))) then
    bif (Option.isSome z_1) then
    bif (Option.getD z_1 default) then
    kx true
    else kn (IntKind.wrap .i64 (r3 + (1 : Int)))
    else none
    else kx false
def k99_l2 (F : Nat) (b4 : List Int) (r3 : Int) : Option (Bool) := loopC (k99_s2 F b4) F r3 some
theorem k99_s2_nat (F : Nat) (b4 : List Int) : u028 (k99_s2 F b4) := by
  intro Q Q' s kn kx h
  simp only [k99_s2, u004, u003]
def k99_c (Q : Type) (F : Nat) (b0 : List Int) (k : (Bool) → Option Q) : Option Q :=
    let z_1 := (k99_l2 F b0 (0 : Int))
    bif (Option.isSome z_1) then
    bif (Option.getD z_1 default) then
    k false
    else k true
    else none
def k99_p (F : Nat) (b0 : List Int) : Option (Bool) := k99_c _ F b0 some
theorem k99_cp (Q : Type) (F : Nat) (b0 : List Int) (k : (Bool) → Option Q) : k99_c Q F b0 k = (k99_p F b0).bind k := by
  simp only [k99_p, k99_c, u004, u003, u008]
def k114_c (Q : Type) (d0 : Int) (k : (Bool) → Option Q) : Option Q :=
    k (k130_v d0 (0 : Int) (3 : Int))
def k114_v (d0 : Int) : Bool :=
    (k130_v d0 (0 : Int) (3 : Int))
theorem k114_cv (Q : Type) (d0 : Int) (k : (Bool) → Option Q) : k114_c Q d0 k = k (k114_v d0) := by
  simp only [k114_c, k114_v, u067 k]
def k113_s3 (F : Nat) (d0 : Int) (i1 : Int) (Q : Type) : (Int × List Int) → ((Int × List Int) → Option Q) → ((List Int) → Option Q) → Option Q
  | (k8, je), kn, kx =>
    let z_1 : Int := (IntKind.wrap .i64 (k8 + (1 : Int)))
    let z_2 : Nat := ((0 : Nat) + ((Int.toNat k8) * (2 : Nat)))
    let z_3 : Int := (IntKind.wrap .i64 ((3 : Int) - k8))
    bif (decide (k8 < (4 : Int))) then
    bif (d0 == (0 : Int)) then
    bif (inR k8 4) then
    kn (z_1, (u108 8 je z_2 [i1, k8] 2))
    else none
    else bif (d0 == (1 : Int)) then
    bif (inR k8 4) then
    kn (z_1, (u108 8 je z_2 [k8, i1] 2))
    else none
    else bif (d0 == (2 : Int)) then
    bif (inR k8 4) then
    kn (z_1, (u108 8 je z_2 [i1, z_3] 2))
    else none
    else bif (inR k8 4) then
    kn (z_1, (u108 8 je z_2 [z_3, i1] 2))
    else none
    else kx je
def k113_l3 (F : Nat) (d0 : Int) (i1 : Int) (k8 : Int) (je : List Int) : Option (List Int) := loopC (k113_s3 F d0 i1) F (k8, je) some
theorem k113_s3_nat (F : Nat) (d0 : Int) (i1 : Int) : u028 (k113_s3 F d0 i1) := by
  intro Q Q' s kn kx h
  obtain ⟨k8, je⟩ := s
  simp only [k113_s3, u004, u003]
def k113_c (Q : Type) (F : Nat) (d0 : Int) (i1 : Int) (k : (List Int) → Option Q) : Option Q :=
    let z_1 := (k113_l3 F d0 i1 (0 : Int) [(0 : Int), (0 : Int), (0 : Int), (0 : Int), (0 : Int), (0 : Int), (0 : Int), (0 : Int)])
    bif (Option.isSome z_1) then
    k (Option.getD z_1 default)
    else none
def k113_p (F : Nat) (d0 : Int) (i1 : Int) : Option (List Int) := k113_c _ F d0 i1 some
theorem k113_cp (Q : Type) (F : Nat) (d0 : Int) (i1 : Int) (k : (List Int) → Option Q) : k113_c Q F d0 i1 k = (k113_p F d0 i1).bind k := by
  simp only [k113_p, k113_c, u004, u003, u008]
def k131_c (Q : Type) (b0 : List Int) (wf : List Int) (k : (Int) → Option Q) : Option Q :=
    bif (inR (iget wf 0) 4) then
    bif (inR (iget wf 1) 4) then
    k (iget b0 (((0 : Nat) + ((Int.toNat (iget wf 0)) * (4 : Nat))) + ((Int.toNat (iget wf 1)) * (1 : Nat))))
    else none
    else none
def k131_p (b0 : List Int) (wf : List Int) : Option (Int) := k131_c _ b0 wf some
theorem k131_cp (Q : Type) (b0 : List Int) (wf : List Int) (k : (Int) → Option Q) : k131_c Q b0 wf k = (k131_p b0 wf).bind k := by
  simp only [k131_p, k131_c, u004, u003, u008]
def k74_c (Q : Type) (F : Nat) (b0 : List Int) (d1 : Int) (i2 : Int) (k : (List Int) → Option Q) : Option Q :=
    let z_1 := (k113_p F d1 i2)
    let z_2 := (k131_p b0 (sub (Option.getD z_1 default) 0 2))
    let z_3 := (k131_p b0 (sub (Option.getD z_1 default) 2 2))
    let z_4 := (k131_p b0 (sub (Option.getD z_1 default) 4 2))
    let z_5 := (k131_p b0 (sub (Option.getD z_1 default) 6 2))
    bif (Option.isSome z_1) then
    bif (Option.isSome z_2) then
    bif (Option.isSome z_3) then
    bif (Option.isSome z_4) then
    bif (Option.isSome z_5) then
    k [(Option.getD z_2 default), (Option.getD z_3 default), (Option.getD z_4 default), (Option.getD z_5 default)]
    else none
    else none
    else none
    else none
    else none
def k74_p (F : Nat) (b0 : List Int) (d1 : Int) (i2 : Int) : Option (List Int) := k74_c _ F b0 d1 i2 some
theorem k74_cp (Q : Type) (F : Nat) (b0 : List Int) (d1 : Int) (i2 : Int) (k : (List Int) → Option Q) : k74_c Q F b0 d1 i2 k = (k74_p F b0 d1 i2).bind k := by
  simp only [k74_p, k74_c, u004, u003, u008]
def k102_c (Q : Type) (t0 : Int) (k : (Int) → Option Q) : Option Q :=
    bif (decide (t0 < (0 : Int))) then
    none
    else k (IntKind.wrap .i64 ((1 : Int) * (2 ^ (min (Int.toNat t0) (IntKind.bits .i64)) : Int)))
def k102_p (t0 : Int) : Option (Int) := k102_c _ t0 some
theorem k102_cp (Q : Type) (t0 : Int) (k : (Int) → Option Q) : k102_c Q t0 k = (k102_p t0).bind k := by
  simp only [k102_p, k102_c, u004, u003, u008]
def k125_s3 (F : Nat) (yp : List Int) (Q : Type) : (Int × Int × Bool × Int × List Int) → ((Int × Int × Bool × Int × List Int) → Option Q) → ((Int × List Int) → Option Q) → Option Q
  | (n9, w7, jx, k12, j8), kn, kx =>
    let z_1 : Int := (iget yp ((0 : Nat) + ((Int.toNat k12) * (1 : Nat))))
    let z_2 : Int := (IntKind.wrap .i64 (k12 + (1 : Int)))
    let z_3 : Int := (IntKind.wrap .i64 (n9 - (1 : Int)))
    let z_4 : Bool := (inR z_3 4)
    let z_5 : Nat := ((0 : Nat) + ((Int.toNat z_3) * (1 : Nat)))
    let z_6 : Int := (IntKind.wrap .i64 (z_1 + (1 : Int)))
    let z_7 : Int := (IntKind.wrap .i64 (n9 + (1 : Int)))
    let z_8 : List Int := (iset j8 ((0 : Nat) + ((Int.toNat n9) * (1 : Nat))) z_1)
    bif (decide (k12 < (4 : Int))) then
    bif (inR k12 4) then
    bif (z_1 == (0 : Int)) then
    kn (n9, w7, jx, z_2, j8)
    else bif (decide ((0 : Int) < n9)) then
    bif z_4 then
    bif (inR k12 4) then
    bif ((iget j8 z_5) == z_1) then
    bif (inR k12 4) then
    bif (decide (z_1 < (17 : Int))) then
    bif (!jx) then
    bif (inR k12 4) then
    bif z_4 then
    bif (inR k12 4) then
    bif (Option.isSome (k102_p z_6)) then
    kn (n9, (IntKind.wrap .i64 (w7 + (Option.getD (k102_p z_6) default))), true, z_2, (iset j8 z_5 z_6))
    else none
    else none
    else none
    else none
    else bif (inR k12 4) then
    bif (inR n9 4) then
    kn (z_7, w7, false, z_2, z_8)
    else none
    else none
    else bif (inR k12 4) then
    bif (inR n9 4) then
    kn (z_7, w7, false, z_2, z_8)
    else none
    else none
    else none
    else bif (inR k12 4) then
    bif (inR n9 4) then
    kn (z_7, w7, false, z_2, z_8)
    else none
    else none
    else none
    else none
    else bif (inR k12 4) then
    bif (inR n9 4) then
    kn (z_7, w7, false, z_2, z_8)
    else none
    else none
    else none
    else kx (w7, j8)
def k125_l3 (F : Nat) (yp : List Int) (n9 : Int) (w7 : Int) (jx : Bool) (k12 : Int) (j8 : List Int) : Option (Int × List Int) := loopC (k125_s3 F yp) F (n9, w7, jx, k12, j8) some
theorem k125_s3_nat (F : Nat) (yp : List Int) : u028 (k125_s3 F yp) := by
  intro Q Q' s kn kx h
  obtain ⟨n9, w7, jx, k12, j8⟩ := s
  simp only [k125_s3, u004, u003]
def k125_c (Q : Type) (F : Nat) (w4 : List Int) (k : (List Int × Int) → Option Q) : Option Q :=
    let z_1 := (k125_l3 F w4 (0 : Int) (0 : Int) false (0 : Int) [(0 : Int), (0 : Int), (0 : Int), (0 : Int)])
    let z_2 := (Option.getD z_1 default)
    bif (Option.isSome z_1) then
    k (z_2.2, z_2.1)
    else none
def k125_p (F : Nat) (w4 : List Int) : Option (List Int × Int) := k125_c _ F w4 some
theorem k125_cp (Q : Type) (F : Nat) (w4 : List Int) (k : (List Int × Int) → Option Q) : k125_c Q F w4 k = (k125_p F w4).bind k := by
  simp only [k125_p, k125_c, u004, u003, u008]
end Go.Lv.P
