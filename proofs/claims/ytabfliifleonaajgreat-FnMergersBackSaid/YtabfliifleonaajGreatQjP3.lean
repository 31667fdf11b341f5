/-
Pure functions and what the code of them does, by program; without conditions.
-/
import Derived.Test.YtabfliifleonaajGreatQjP2
namespace Go.Lv.P
open Go Go.Lv
set_option linter.unusedVariables false
set_option linter.unusedSimpArgs false
set_option maxRecDepth 100000
def k28_s2 (F : Nat) (s10 : List Int) (s21 : List Int) (t92 : List Int) (vr : Int) (Q : Type) : (Int) → ((Int) → Option Q) → ((Bool × Int) → Option Q) → Option Q
  | yk, kn, kx =>
    bif (decide (yk < vr)) then
    bif (inR yk (List.length t92)) then
    bif (decide ((((List.length s21) : Nat) : Int) ≤ yk)) then
    kx (true, (1 : Int))
    else bif (inR yk (List.length s21)) then
    bif (!((k55_v (iget t92 (Int.toNat yk)) (iget s21 (Int.toNat yk))) == (0 : Int))) then
    kx (true, (k55_v (iget t92 (Int.toNat yk)) (iget s21 (Int.toNat yk))))
    else kn (IntKind.wrap .i64 (yk + (1 : Int)))
    else none
    else none
    else kx (false, default)
def k28_l2 (F : Nat) (s10 : List Int) (s21 : List Int) (t92 : List Int) (vr : Int) (yk : Int) : Option (Bool × Int) := loopC (k28_s2 F s10 s21 t92 vr) F yk some
theorem k28_s2_nat (F : Nat) (s10 : List Int) (s21 : List Int) (t92 : List Int) (vr : Int) : Natural (k28_s2 F s10 s21 t92 vr) := by
  intro Q Q' s kn kx h
  simp only [k28_s2, cond_bindL, none_bindL]
def k28_c (Q : Type) (F : Nat) (s10 : List Int) (s21 : List Int) (k : (Int) → Option Q) : Option Q :=
    let z_1 := (k28_l2 F s10 s21 s10 (((List.length s10) : Nat) : Int) (0 : Int))
    let z_2 := (Option.getD z_1 default)
    bif (Option.isSome z_1) then
    bif z_2.1 then
    k z_2.2
    else bif (decide ((((List.length s10) : Nat) : Int) < (((List.length s21) : Nat) : Int))) then
    k (-1 : Int)
    else k (0 : Int)
    else none
def k28_p (F : Nat) (s10 : List Int) (s21 : List Int) : Option (Int) := k28_c _ F s10 s21 some
theorem k28_cp (Q : Type) (F : Nat) (s10 : List Int) (s21 : List Int) (k : (Int) → Option Q) : k28_c Q F s10 s21 k = (k28_p F s10 s21).bind k := by
  simp only [k28_p, k28_c, cond_bindL, none_bindL, some_bindL]
def k36_c (Q : Type) (F : Nat) (a0 : List Int) (b1 : List Int) (k : (Int) → Option Q) : Option Q :=
    let z_1 := (k28_p F (sub a0 0 4) (sub b1 0 4))
    bif (Option.isSome z_1) then
    k (Option.getD z_1 default)
    else none
def k36_p (F : Nat) (a0 : List Int) (b1 : List Int) : Option (Int) := k36_c _ F a0 b1 some
theorem k36_cp (Q : Type) (F : Nat) (a0 : List Int) (b1 : List Int) (k : (Int) → Option Q) : k36_c Q F a0 b1 k = (k36_p F a0 b1).bind k := by
  simp only [k36_p, k36_c, cond_bindL, none_bindL, some_bindL]
def k24_s9 (F : Nat) (s1 : Nat) (s23 : Nat) (s24 : Nat) (Q : Type) : (Int × Int × List (List Int)) → ((Int × Int × List (List Int)) → Option Q) → ((Int × List (List Int)) → Option Q) → Option Q
  | (k2, k25, s6), kn, kx =>
    let z_1 : Int := (IntKind.wrap .i64 (k25 - (1 : Int)))
    let z_2 : List Int := (rget s6 (s23 + (Int.toNat k25)))
    let z_3 : Int := (IntKind.wrap .i64 (k25 + (1 : Int)))
    bif (decide (k25 < ((s24 : Nat) : Int))) then
    bif (inR k25 s24) then
    bif (inR z_1 s24) then
    bif (!(z_2 == (rget s6 (s23 + (Int.toNat z_1))))) then
    bif (inR k25 s24) then
    bif (inR k2 s1) then
    kn ((IntKind.wrap .i64 (k2 + (1 : Int))), z_3, (rset s6 ((0 : Nat) + (Int.toNat k2)) z_2))
    else none
    else none
    else kn (k2, z_3, s6)
    else none
    else none
    else kx (k2, s6)
def k24_l9 (F : Nat) (s1 : Nat) (s23 : Nat) (s24 : Nat) (k2 : Int) (k25 : Int) (s6 : List (List Int)) : Option (Int × List (List Int)) := loopC (k24_s9 F s1 s23 s24) F (k2, k25, s6) some
theorem k24_s9_nat (F : Nat) (s1 : Nat) (s23 : Nat) (s24 : Nat) : Natural (k24_s9 F s1 s23 s24) := by
  intro Q Q' s kn kx h
  obtain ⟨k2, k25, s6⟩ := s
  simp only [k24_s9, cond_bindL, none_bindL]
def k24_s4 (F : Nat) (s1 : Nat) (s3 : List (List Int)) (Q : Type) : (Int) → ((Int) → Option Q) → ((Bool × Nat × List (List Int)) → Option Q) → Option Q
  | k2, kn, kx =>
    let z_1 : Int := (IntKind.wrap .i64 (k2 - (1 : Int)))
    let z_2 := (k24_l9 F s1 ((0 : Nat) + (Int.toNat k2)) (s1 - (Int.toNat k2)) k2 (1 : Int) s3)
    let z_3 := (Option.getD z_2 default)
    let z_4 : Bool := (inLe z_3.1 s1)
    let z_5 : Nat := (Int.toNat z_3.1)
    let z_6 : Nat := (s1 - z_5)
    bif (decide (k2 < ((s1 : Nat) : Int))) then
    bif (inR k2 s1) then
    bif (inR z_1 s1) then
    bif ((rget s3 ((0 : Nat) + (Int.toNat k2))) == (rget s3 ((0 : Nat) + (Int.toNat z_1)))) then
    bif (inLe k2 s1) then
    bif (Option.isSome z_2) then
    bif z_4 then
    bif z_4 then
    kx (true, (z_5 - (0 : Nat)), (splice z_3.2 ((0 : Nat) + z_5) (List.replicate z_6 [(0 : Int), (0 : Int), (0 : Int), (0 : Int)]) z_6))
    else none
    else none
    else none
    else none
    else kn (IntKind.wrap .i64 (k2 + (1 : Int)))
    else none
    else none
    else kx (false, default, default)
def k24_l4 (F : Nat) (s1 : Nat) (s3 : List (List Int)) (k2 : Int) : Option (Bool × Nat × List (List Int)) := loopC (k24_s4 F s1 s3) F k2 some
theorem k24_s4_nat (F : Nat) (s1 : Nat) (s3 : List (List Int)) : Natural (k24_s4 F s1 s3) := by
  intro Q Q' s kn kx h
  simp only [k24_s4, cond_bindL, none_bindL]
def k24_c (Q : Type) (F : Nat) (s1 : Nat) (s2 : List (List Int)) (k : (Nat × List (List Int)) → Option Q) : Option Q :=
    let z_1 := (k24_l4 F s1 s2 (1 : Int))
    let z_2 := (Option.getD z_1 default)
    bif (decide (((s1 : Nat) : Int) < (2 : Int))) then
    k (s1, s2)
    else bif (Option.isSome z_1) then
    bif z_2.1 then
    k (z_2.2.1, z_2.2.2)
    else k (s1, s2)
    else none
def k24_p (F : Nat) (s1 : Nat) (s2 : List (List Int)) : Option (Nat × List (List Int)) := k24_c _ F s1 s2 some
theorem k24_cp (Q : Type) (F : Nat) (s1 : Nat) (s2 : List (List Int)) (k : (Nat × List (List Int)) → Option Q) : k24_c Q F s1 s2 k = (k24_p F s1 s2).bind k := by
  simp only [k24_p, k24_c, cond_bindL, none_bindL, some_bindL]
def k66_s12 (F : Nat) (jb : List Int) (ys : Int) (js : Int) (ws : Int) (vs : Int) (yt : List Int) (jk : List (List Int)) (gk : List (List Int)) (Q : Type) : (Int × Int × List Int) → ((Int × Int × List Int) → Option Q) → ((Int × List Int) → Option Q) → Option Q
  | (k10, gn, v36), kn, kx =>
    let z_1 : Int := (IntKind.wrap .i64 (k10 + (1 : Int)))
    let z_2 : Int := (IntKind.wrap .i64 (gn + (1 : Int)))
    bif (decide (gn < (4 : Int))) then
    bif (decide (gn < (0 : Int))) then
    none
    else bif ((IntKind.wrap .i64 (((BitVec.ofInt (IntKind.bits .i64) (Int.fdiv ys (2 ^ (min (Int.toNat gn) (IntKind.bits .i64)) : Int)) &&& BitVec.ofInt (IntKind.bits .i64) (1 : Int)).toNat : Nat) : Int)) == (1 : Int)) then
    bif (decide (k10 < (((List.length jb) : Nat) : Int))) then
    bif (inR k10 (List.length jb)) then
    bif (inR gn 4) then
    kn (z_1, z_2, (iset v36 ((0 : Nat) + ((Int.toNat gn) * (1 : Nat))) (iget jb (Int.toNat k10))))
    else none
    else none
    else kn (z_1, z_2, v36)
    else kn (k10, z_2, v36)
    else kx (k10, v36)
def k66_l12 (F : Nat) (jb : List Int) (ys : Int) (js : Int) (ws : Int) (vs : Int) (yt : List Int) (jk : List (List Int)) (gk : List (List Int)) (k10 : Int) (gn : Int) (v36 : List Int) : Option (Int × List Int) := loopC (k66_s12 F jb ys js ws vs yt jk gk) F (k10, gn, v36) some
theorem k66_s12_nat (F : Nat) (jb : List Int) (ys : Int) (js : Int) (ws : Int) (vs : Int) (yt : List Int) (jk : List (List Int)) (gk : List (List Int)) : Natural (k66_s12 F jb ys js ws vs yt jk gk) := by
  intro Q Q' s kn kx h
  obtain ⟨k10, gn, v36⟩ := s
  simp only [k66_s12, cond_bindL, none_bindL]
def k66_s8 (F : Nat) (jb : List Int) (wn : Int) (vn : Int) (vk : List Int) (wi : List (List Int)) (Q : Type) : (Int × List (List Int)) → ((Int × List (List Int)) → Option Q) → ((List (List Int)) → Option Q) → Option Q
  | (y37, vi), kn, kx =>
    let z_1 := (k66_l12 F jb y37 wn vn y37 vk vi wi (0 : Int) (0 : Int) [(0 : Int), (0 : Int), (0 : Int), (0 : Int)])
    let z_2 := (Option.getD z_1 default)
    let z_3 : Int := (IntKind.wrap .i64 (y37 + (1 : Int)))
    let z_4 := (k83_p F z_2.2)
    let z_5 : List (List Int) := ((subn (List.length vi) vi 0 (List.length vi)) ++ [z_2.2])
    bif (decide (y37 < (16 : Int))) then
    bif ((Nat.beq (List.length vi) (List.length vi)) && ((Nat.beq (List.length wi) (List.length wi)) && (Option.isSome z_1))) then
    bif (!(z_2.1 == (((List.length jb) : Nat) : Int))) then
    kn (z_3, vi)
    else bif (Option.isSome z_4) then
    bif ((Option.getD z_4 default).1 == vk) then
    bif (fits (List.length z_5) 32) then
    kn (z_3, z_5)
    else none
    else kn (z_3, vi)
    else none
    else none
    else kx vi
def k66_l8 (F : Nat) (jb : List Int) (wn : Int) (vn : Int) (vk : List Int) (wi : List (List Int)) (y37 : Int) (vi : List (List Int)) : Option (List (List Int)) := loopC (k66_s8 F jb wn vn vk wi) F (y37, vi) some
theorem k66_s8_nat (F : Nat) (jb : List Int) (wn : Int) (vn : Int) (vk : List Int) (wi : List (List Int)) : Natural (k66_s8 F jb wn vn vk wi) := by
  intro Q Q' s kn kx h
  obtain ⟨y37, vi⟩ := s
  simp only [k66_s8, cond_bindL, none_bindL]
def k66_s5 (F : Nat) (yo : Int) (jt : List Int) (yj : List (List Int)) (Q : Type) : (Int × List (List Int)) → ((Int × List (List Int)) → Option Q) → ((List (List Int)) → Option Q) → Option Q
  | (gt, we), kn, kx =>
    let z_1 := (k66_l8 F (rget yj ((0 : Nat) + (Int.toNat gt))) yo gt jt yj (0 : Int) we)
    bif (decide (gt < yo)) then
    bif (inR gt (List.length yj)) then
    bif ((Nat.beq (List.length we) (List.length we)) && ((Nat.beq (List.length yj) (List.length yj)) && (Option.isSome z_1))) then
    kn ((IntKind.wrap .i64 (gt + (1 : Int))), (Option.getD z_1 default))
    else none
    else none
    else kx we
def k66_l5 (F : Nat) (yo : Int) (jt : List Int) (yj : List (List Int)) (gt : Int) (we : List (List Int)) : Option (List (List Int)) := loopC (k66_s5 F yo jt yj) F (gt, we) some
theorem k66_s5_nat (F : Nat) (yo : Int) (jt : List Int) (yj : List (List Int)) : Natural (k66_s5 F yo jt yj) := by
  intro Q Q' s kn kx h
  obtain ⟨gt, we⟩ := s
  simp only [k66_s5, cond_bindL, none_bindL]
def k66_c (Q : Type) (F : Nat) (g4 : List Int) (k : (Nat × List (List Int)) → Option Q) : Option Q :=
    let z_1 := (k90_p F g4)
    let z_2 := (k108_p F g4)
    let z_3 := (Option.getD z_2 default)
    let z_4 : Nat := (List.length (Option.getD (k106_p (subn (List.length z_3.2) z_3.2 0 z_3.1)) default))
    let z_5 := (k66_l5 F ((z_4 : Nat) : Int) g4 (Option.getD (k106_p (subn (List.length z_3.2) z_3.2 0 z_3.1)) default) (0 : Int) ([] : List (List Int)))
    let z_6 : Nat := (List.length (Option.getD z_5 default))
    let z_7 := (k24_p F z_6 (sortP z_6 (Option.getD z_5 default)))
    let z_8 := (Option.getD z_7 default)
    bif (Option.isSome z_1) then
    bif (!(Option.getD z_1 default)) then
    k ((0 : Nat), ([] : List (List Int)))
    else bif (Option.isSome z_2) then
    bif (Option.isSome (k106_p (subn (List.length z_3.2) z_3.2 0 z_3.1))) then
    bif ((Nat.beq z_4 z_4) && (Option.isSome z_5)) then
    bif ((Nat.ble z_6 z_6) && ((Nat.blt 1000 F) && (Nat.ble z_6 1000000000))) then
    bif (Option.isSome z_7) then
    k (z_8.1, z_8.2)
    else none
    else none
    else none
    else none
    else none
    else none
def k66_p (F : Nat) (g4 : List Int) : Option (Nat × List (List Int)) := k66_c _ F g4 some
theorem k66_cp (Q : Type) (F : Nat) (g4 : List Int) (k : (Nat × List (List Int)) → Option Q) : k66_c Q F g4 k = (k66_p F g4).bind k := by
  simp only [k66_p, k66_c, cond_bindL, none_bindL, some_bindL]
def k27_c (Q : Type) (F : Nat) (b0 : List Int) (w3 : Int) (k : (List (List Int) × List (List Int) × List (List Int) × List (List Int)) → Option Q) : Option Q :=
    let z_1 := (k56_p b0 w3 (0 : Int))
    let z_2 := (k66_p F (Option.getD z_1 default))
    let z_3 := (k56_p b0 w3 (1 : Int))
    let z_4 := (k66_p F (Option.getD z_3 default))
    let z_5 := (k56_p b0 w3 (2 : Int))
    let z_6 := (k66_p F (Option.getD z_5 default))
    let z_7 := (k56_p b0 w3 (3 : Int))
    let z_8 := (k66_p F (Option.getD z_7 default))
    let z_9 := (Option.getD z_2 default)
    let z_10 := (Option.getD z_4 default)
    let z_11 := (Option.getD z_6 default)
    let z_12 := (Option.getD z_8 default)
    bif (Option.isSome z_1) then
    bif (Option.isSome z_2) then
    bif (Option.isSome z_3) then
    bif (Option.isSome z_4) then
    bif (Option.isSome z_5) then
    bif (Option.isSome z_6) then
    bif (Option.isSome z_7) then
    bif (Option.isSome z_8) then
    k ((subn (List.length z_9.2) z_9.2 0 z_9.1), (subn (List.length z_10.2) z_10.2 0 z_10.1), (subn (List.length z_11.2) z_11.2 0 z_11.1), (subn (List.length z_12.2) z_12.2 0 z_12.1))
    else none
    else none
    else none
    else none
    else none
    else none
    else none
    else none
def k27_p (F : Nat) (b0 : List Int) (w3 : Int) : Option (List (List Int) × List (List Int) × List (List Int) × List (List Int)) := k27_c _ F b0 w3 some
theorem k27_cp (Q : Type) (F : Nat) (b0 : List Int) (w3 : Int) (k : (List (List Int) × List (List Int) × List (List Int) × List (List Int)) → Option Q) : k27_c Q F b0 w3 k = (k27_p F b0 w3).bind k := by
  simp only [k27_p, k27_c, cond_bindL, none_bindL, some_bindL]
def k33_c (Q : Type) (b0 : List Int) (w3 : Int) (i2 : Int) (ji : List Int) (k : (List Int) → Option Q) : Option Q :=
    let z_1 := (k79_p (k82_v w3 i2 (0 : Int)) b0)
    let z_2 : List Int := (iset b0 (Option.getD z_1 default) (iget ji 0))
    let z_3 := (k79_p (k82_v w3 i2 (1 : Int)) z_2)
    let z_4 : List Int := (iset z_2 (Option.getD z_3 default) (iget ji 1))
    let z_5 := (k79_p (k82_v w3 i2 (2 : Int)) z_4)
    let z_6 : List Int := (iset z_4 (Option.getD z_5 default) (iget ji 2))
    let z_7 := (k79_p (k82_v w3 i2 (3 : Int)) z_6)
    bif (Option.isSome z_1) then
    bif (Option.isSome z_3) then
    bif (Option.isSome z_5) then
    bif (Option.isSome z_7) then
    k (iset z_6 (Option.getD z_7 default) (iget ji 3))
    else none
    else none
    else none
    else none
def k33_p (b0 : List Int) (w3 : Int) (i2 : Int) (ji : List Int) : Option (List Int) := k33_c _ b0 w3 i2 ji some
theorem k33_cp (Q : Type) (b0 : List Int) (w3 : Int) (i2 : Int) (ji : List Int) (k : (List Int) → Option Q) : k33_c Q b0 w3 i2 ji k = (k33_p b0 w3 i2 ji).bind k := by
  simp only [k33_p, k33_c, cond_bindL, none_bindL, some_bindL]
def k50_s8 (F : Nat) (j4 : Int) (w8 : Int) (vg : Int) (wt : List Bool) (b15 : List Int) (vt : List Int) (Q : Type) : (Int × Int) → ((Int × Int) → Option Q) → ((Int) → Option Q) → Option Q
  | (wh, j37), kn, kx =>
    let z_1 : Int := (IntKind.wrap .i64 (j37 + (1 : Int)))
    bif (decide (j37 < (4 : Int))) then
    bif (inR j37 4) then
    bif (bget wt ((Int.toNat j37) * (1 : Nat))) then
    kn ((IntKind.wrap .i64 (wh + (1 : Int))), z_1)
    else kn (wh, z_1)
    else none
    else kx wh
def k50_l8 (F : Nat) (j4 : Int) (w8 : Int) (vg : Int) (wt : List Bool) (b15 : List Int) (vt : List Int) (wh : Int) (j37 : Int) : Option (Int) := loopC (k50_s8 F j4 w8 vg wt b15 vt) F (wh, j37) some
theorem k50_s8_nat (F : Nat) (j4 : Int) (w8 : Int) (vg : Int) (wt : List Bool) (b15 : List Int) (vt : List Int) : Natural (k50_s8 F j4 w8 vg wt b15 vt) := by
  intro Q Q' s kn kx h
  obtain ⟨wh, j37⟩ := s
  simp only [k50_s8, cond_bindL, none_bindL]
def k50_s3 (F : Nat) (j4 : Int) (b13 : List Int) (Q : Type) : (Int × Int × Int × List Int) → ((Int × Int × Int × List Int) → Option Q) → ((Int × Int × List Int) → Option Q) → Option Q
  | (w8, wh, vg, gh), kn, kx =>
    let z_1 := (k56_p b13 j4 vg)
    let z_2 := (k83_p F (Option.getD z_1 default))
    let z_3 := (Option.getD z_2 default)
    let z_4 := (k33_p gh j4 vg z_3.1)
    let z_5 : Int := (IntKind.wrap .i64 (w8 + z_3.2.1))
    let z_6 := (k50_l8 F j4 z_5 vg z_3.2.2 b13 (Option.getD z_4 default) wh (0 : Int))
    bif (decide (vg < (4 : Int))) then
    bif (Option.isSome z_1) then
    bif (Option.isSome z_2) then
    bif (Option.isSome z_4) then
    bif (Option.isSome z_6) then
    kn (z_5, (Option.getD z_6 default), (IntKind.wrap .i64 (vg + (1 : Int))), (Option.getD z_4 default))
    else none
    else none
    else none
    else none
    else kx (w8, wh, gh)
def k50_l3 (F : Nat) (j4 : Int) (b13 : List Int) (w8 : Int) (wh : Int) (vg : Int) (gh : List Int) : Option (Int × Int × List Int) := loopC (k50_s3 F j4 b13) F (w8, wh, vg, gh) some
theorem k50_s3_nat (F : Nat) (j4 : Int) (b13 : List Int) : Natural (k50_s3 F j4 b13) := by
  intro Q Q' s kn kx h
  obtain ⟨w8, wh, vg, gh⟩ := s
  simp only [k50_s3, cond_bindL, none_bindL]
def k50_c (Q : Type) (F : Nat) (b0 : List Int) (w3 : Int) (k : (List Int × Int × Int) → Option Q) : Option Q :=
    let z_1 := (k50_l3 F w3 b0 (0 : Int) (0 : Int) (0 : Int) b0)
    let z_2 := (Option.getD z_1 default)
    bif (Option.isSome z_1) then
    k (z_2.2.2, z_2.1, z_2.2.1)
    else none
def k50_p (F : Nat) (b0 : List Int) (w3 : Int) : Option (List Int × Int × Int) := k50_c _ F b0 w3 some
theorem k50_cp (Q : Type) (F : Nat) (b0 : List Int) (w3 : Int) (k : (List Int × Int × Int) → Option Q) : k50_c Q F b0 w3 k = (k50_p F b0 w3).bind k := by
  simp only [k50_p, k50_c, cond_bindL, none_bindL, some_bindL]
def k40_s2 (F : Nat) (t76 : List Int) (t87 : Int) (Q : Type) : (Int × List Int) → ((Int × List Int) → Option Q) → ((List Int) → Option Q) → Option Q
  | (t98, b9), kn, kx =>
    let z_1 := (k50_p F b9 (iget t76 (Int.toNat t98)))
    bif (decide (t98 < t87)) then
    bif (inR t98 (List.length t76)) then
    bif (Option.isSome z_1) then
    kn ((IntKind.wrap .i64 (t98 + (1 : Int))), (Option.getD z_1 default).1)
    else none
    else none
    else kx b9
def k40_l2 (F : Nat) (t76 : List Int) (t87 : Int) (t98 : Int) (b9 : List Int) : Option (List Int) := loopC (k40_s2 F t76 t87) F (t98, b9) some
theorem k40_s2_nat (F : Nat) (t76 : List Int) (t87 : Int) : Natural (k40_s2 F t76 t87) := by
  intro Q Q' s kn kx h
  obtain ⟨t98, b9⟩ := s
  simp only [k40_s2, cond_bindL, none_bindL]
def k40_c (Q : Type) (F : Nat) (b0 : List Int) (list1 : List Int) (k : (List Int) → Option Q) : Option Q :=
    let z_1 := (k40_l2 F list1 (((List.length list1) : Nat) : Int) (0 : Int) b0)
    bif (Option.isSome z_1) then
    k (Option.getD z_1 default)
    else none
def k40_p (F : Nat) (b0 : List Int) (list1 : List Int) : Option (List Int) := k40_c _ F b0 list1 some
theorem k40_cp (Q : Type) (F : Nat) (b0 : List Int) (list1 : List Int) (k : (List Int) → Option Q) : k40_c Q F b0 list1 k = (k40_p F b0 list1).bind k := by
  simp only [k40_p, k40_c, cond_bindL, none_bindL, some_bindL]
def k26_c (Q : Type) (F : Nat) (b0 : List Int) (w3 : Int) (k : (Int) → Option Q) : Option Q :=
    let z_1 := (k27_p F b0 w3)
    let z_2 := (k40_p F b0 [w3])
    let z_3 := (Option.getD z_1 default)
    let z_4 : Int := (IntKind.wrap .i64 ((IntKind.wrap .i64 ((IntKind.wrap .i64 ((IntKind.wrap .i64 ((1 : Int) * (((List.length z_3.1) : Nat) : Int))) * (((List.length z_3.2.1) : Nat) : Int))) * (((List.length z_3.2.2.1) : Nat) : Int))) * (((List.length z_3.2.2.2) : Nat) : Int)))
    bif (Option.isSome z_1) then
    bif (Option.isSome z_2) then
    bif ((Option.getD z_2 default) == b0) then
    k (IntKind.wrap .i64 (z_4 - (1 : Int)))
    else k z_4
    else none
    else none
def k26_p (F : Nat) (b0 : List Int) (w3 : Int) : Option (Int) := k26_c _ F b0 w3 some
theorem k26_cp (Q : Type) (F : Nat) (b0 : List Int) (w3 : Int) (k : (Int) → Option Q) : k26_c Q F b0 w3 k = (k26_p F b0 w3).bind k := by
  simp only [k26_p, k26_c, cond_bindL, none_bindL, some_bindL]
end Go.Lv.P
