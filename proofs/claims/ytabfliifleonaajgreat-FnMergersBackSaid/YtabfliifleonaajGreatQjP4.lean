/-
Pure functions and what the code of them does, by program; without conditions.
-/
import Derived.Test.YtabfliifleonaajGreatQjP3
namespace Go.Lv.P
open Go Go.Lv
set_option linter.unusedVariables false
set_option linter.unusedSimpArgs false
set_option maxRecDepth 100000
def k29_c (Q : Type) (g4 : List Int) (a14 : List Int) (k : (Bool) → Option Q) : Option Q :=
    k (g4 == a14)
def k29_v (g4 : List Int) (a14 : List Int) : Bool :=
    (g4 == a14)
theorem k29_cv (Q : Type) (g4 : List Int) (a14 : List Int) (k : (Bool) → Option Q) : k29_c Q g4 a14 k = k (k29_v g4 a14) := by
  simp only [k29_c, k29_v, app_condL k]
def k16_s2 (F : Nat) (s0 : List (List Int)) (t74 : Int) (f6 : List Int) (Q : Type) : (Int) → ((Int) → Option Q) → ((Bool × Int) → Option Q) → Option Q
  | t85, kn, kx =>
    bif (decide (t85 < t74)) then
    bif (inR t85 (List.length s0)) then
    bif (k29_v (rget s0 (Int.toNat t85)) f6) then
    kx (true, t85)
    else kn (IntKind.wrap .i64 (t85 + (1 : Int)))
    else none
    else kx (false, default)
def k16_l2 (F : Nat) (s0 : List (List Int)) (t74 : Int) (f6 : List Int) (t85 : Int) : Option (Bool × Int) := loopC (k16_s2 F s0 t74 f6) F t85 some
theorem k16_s2_nat (F : Nat) (s0 : List (List Int)) (t74 : Int) (f6 : List Int) : Natural (k16_s2 F s0 t74 f6) := by
  intro Q Q' s kn kx h
  simp only [k16_s2, cond_bindL, none_bindL]
def k16_c (Q : Type) (F : Nat) (s0 : List (List Int)) (f4 : List Int) (k : (Int) → Option Q) : Option Q :=
    let z_1 := (k16_l2 F s0 (((List.length s0) : Nat) : Int) f4 (0 : Int))
    let z_2 := (Option.getD z_1 default)
    bif (Option.isSome z_1) then
    bif z_2.1 then
    k z_2.2
    else k (-1 : Int)
    else none
def k16_p (F : Nat) (s0 : List (List Int)) (f4 : List Int) : Option (Int) := k16_c _ F s0 f4 some
theorem k16_cp (Q : Type) (F : Nat) (s0 : List (List Int)) (f4 : List Int) (k : (Int) → Option Q) : k16_c Q F s0 f4 k = (k16_p F s0 f4).bind k := by
  simp only [k16_p, k16_c, cond_bindL, none_bindL, some_bindL]
def k9_s5 (F : Nat) (s1 : Nat) (gd : List Int) (Q : Type) : (Int × Int × List (List Int)) → ((Int × Int × List (List Int)) → Option Q) → ((Int × List (List Int)) → Option Q) → Option Q
  | (i5, j6, s7), kn, kx =>
    let z_1 : List Int := (rget s7 ((0 : Nat) + (Int.toNat j6)))
    let z_2 : Int := (IntKind.wrap .i64 (j6 + (1 : Int)))
    bif (decide (j6 < ((s1 : Nat) : Int))) then
    bif (inR j6 s1) then
    bif (!(k29_v z_1 gd)) then
    bif (inR i5 s1) then
    kn ((IntKind.wrap .i64 (i5 + (1 : Int))), z_2, (rset s7 ((0 : Nat) + (Int.toNat i5)) z_1))
    else none
    else kn (i5, z_2, s7)
    else none
    else kx (i5, s7)
def k9_l5 (F : Nat) (s1 : Nat) (gd : List Int) (i5 : Int) (j6 : Int) (s7 : List (List Int)) : Option (Int × List (List Int)) := loopC (k9_s5 F s1 gd) F (i5, j6, s7) some
theorem k9_s5_nat (F : Nat) (s1 : Nat) (gd : List Int) : Natural (k9_s5 F s1 gd) := by
  intro Q Q' s kn kx h
  obtain ⟨i5, j6, s7⟩ := s
  simp only [k9_s5, cond_bindL, none_bindL]
def k9_c (Q : Type) (F : Nat) (s5 : List (List Int)) (vh : List Int) (k : (Nat × List (List Int)) → Option Q) : Option Q :=
    let z_1 := (k16_p F (subn (List.length s5) s5 0 (List.length s5)) vh)
    let z_2 := (k9_l5 F (List.length s5) vh (Option.getD z_1 default) (IntKind.wrap .i64 ((Option.getD z_1 default) + (1 : Int))) s5)
    let z_3 := (Option.getD z_2 default)
    let z_4 : Bool := (inLe z_3.1 (List.length s5))
    let z_5 : Nat := (Int.toNat z_3.1)
    let z_6 : Nat := ((List.length s5) - z_5)
    bif (Option.isSome z_1) then
    bif ((Option.getD z_1 default) == (-1 : Int)) then
    k ((List.length s5), s5)
    else bif (Option.isSome z_2) then
    bif z_4 then
    bif z_4 then
    k ((z_5 - (0 : Nat)), (splice z_3.2 ((0 : Nat) + z_5) (List.replicate z_6 [(0 : Int), (0 : Int), (0 : Int), (0 : Int)]) z_6))
    else none
    else none
    else none
    else none
def k9_p (F : Nat) (s5 : List (List Int)) (vh : List Int) : Option (Nat × List (List Int)) := k9_c _ F s5 vh some
theorem k9_cp (Q : Type) (F : Nat) (s5 : List (List Int)) (vh : List Int) (k : (Nat × List (List Int)) → Option Q) : k9_c Q F s5 vh k = (k9_p F s5 vh).bind k := by
  simp only [k9_p, k9_c, cond_bindL, none_bindL, some_bindL]
def k107_c (Q : Type) (k : (Unit) → Option Q) : Option Q :=
    k ()
def k107_v : Unit :=
    ()
theorem k107_cv (Q : Type) (k : (Unit) → Option Q) : k107_c Q k = k (k107_v) := by
  simp only [k107_c, k107_v, app_condL k]
def k30_c (Q : Type) (yl : List Int) (m14 : List (List Int × Bool)) (k : (Bool) → Option Q) : Option Q :=
    k (!(Option.getD (mlook yl m14) false))
def k30_v (yl : List Int) (m14 : List (List Int × Bool)) : Bool :=
    (!(Option.getD (mlook yl m14) false))
theorem k30_cv (Q : Type) (yl : List Int) (m14 : List (List Int × Bool)) (k : (Bool) → Option Q) : k30_c Q yl m14 k = k (k30_v yl m14) := by
  simp only [k30_c, k30_v, app_condL k]
def k15_s2 (F : Nat) (s0 : List (List Int)) (t74 : Int) (m16 : List (List Int × Bool)) (Q : Type) : (Int) → ((Int) → Option Q) → ((Bool × Int) → Option Q) → Option Q
  | t85, kn, kx =>
    bif (decide (t85 < t74)) then
    bif (inR t85 (List.length s0)) then
    bif (k30_v (rget s0 (Int.toNat t85)) m16) then
    kx (true, t85)
    else kn (IntKind.wrap .i64 (t85 + (1 : Int)))
    else none
    else kx (false, default)
def k15_l2 (F : Nat) (s0 : List (List Int)) (t74 : Int) (m16 : List (List Int × Bool)) (t85 : Int) : Option (Bool × Int) := loopC (k15_s2 F s0 t74 m16) F t85 some
theorem k15_s2_nat (F : Nat) (s0 : List (List Int)) (t74 : Int) (m16 : List (List Int × Bool)) : Natural (k15_s2 F s0 t74 m16) := by
  intro Q Q' s kn kx h
  simp only [k15_s2, cond_bindL, none_bindL]
def k15_c (Q : Type) (F : Nat) (s0 : List (List Int)) (m14 : List (List Int × Bool)) (k : (Int) → Option Q) : Option Q :=
    let z_1 := (k15_l2 F s0 (((List.length s0) : Nat) : Int) m14 (0 : Int))
    let z_2 := (Option.getD z_1 default)
    bif (Option.isSome z_1) then
    bif z_2.1 then
    k z_2.2
    else k (-1 : Int)
    else none
def k15_p (F : Nat) (s0 : List (List Int)) (m14 : List (List Int × Bool)) : Option (Int) := k15_c _ F s0 m14 some
theorem k15_cp (Q : Type) (F : Nat) (s0 : List (List Int)) (m14 : List (List Int × Bool)) (k : (Int) → Option Q) : k15_c Q F s0 m14 k = (k15_p F s0 m14).bind k := by
  simp only [k15_p, k15_c, cond_bindL, none_bindL, some_bindL]
def k5_s5 (F : Nat) (s1 : Nat) (m28 : List (List Int × Bool)) (Q : Type) : (Int × Int × List (List Int)) → ((Int × Int × List (List Int)) → Option Q) → ((Int × List (List Int)) → Option Q) → Option Q
  | (i5, j6, s7), kn, kx =>
    let z_1 : List Int := (rget s7 ((0 : Nat) + (Int.toNat j6)))
    let z_2 : Int := (IntKind.wrap .i64 (j6 + (1 : Int)))
    bif (decide (j6 < ((s1 : Nat) : Int))) then
    bif (inR j6 s1) then
    bif (!(k30_v z_1 m28)) then
    bif (inR i5 s1) then
    kn ((IntKind.wrap .i64 (i5 + (1 : Int))), z_2, (rset s7 ((0 : Nat) + (Int.toNat i5)) z_1))
    else none
    else kn (i5, z_2, s7)
    else none
    else kx (i5, s7)
def k5_l5 (F : Nat) (s1 : Nat) (m28 : List (List Int × Bool)) (i5 : Int) (j6 : Int) (s7 : List (List Int)) : Option (Int × List (List Int)) := loopC (k5_s5 F s1 m28) F (i5, j6, s7) some
theorem k5_s5_nat (F : Nat) (s1 : Nat) (m28 : List (List Int × Bool)) : Natural (k5_s5 F s1 m28) := by
  intro Q Q' s kn kx h
  obtain ⟨i5, j6, s7⟩ := s
  simp only [k5_s5, cond_bindL, none_bindL]
def k5_c (Q : Type) (F : Nat) (s5 : List (List Int)) (m26 : List (List Int × Bool)) (k : (Nat × List (List Int)) → Option Q) : Option Q :=
    let z_1 := (k15_p F (subn (List.length s5) s5 0 (List.length s5)) m26)
    let z_2 := (k5_l5 F (List.length s5) m26 (Option.getD z_1 default) (IntKind.wrap .i64 ((Option.getD z_1 default) + (1 : Int))) s5)
    let z_3 := (Option.getD z_2 default)
    let z_4 : Bool := (inLe z_3.1 (List.length s5))
    let z_5 : Nat := (Int.toNat z_3.1)
    let z_6 : Nat := ((List.length s5) - z_5)
    bif (Option.isSome z_1) then
    bif ((Option.getD z_1 default) == (-1 : Int)) then
    k ((List.length s5), s5)
    else bif (Option.isSome z_2) then
    bif z_4 then
    bif z_4 then
    k ((z_5 - (0 : Nat)), (splice z_3.2 ((0 : Nat) + z_5) (List.replicate z_6 [(0 : Int), (0 : Int)]) z_6))
    else none
    else none
    else none
    else none
def k5_p (F : Nat) (s5 : List (List Int)) (m26 : List (List Int × Bool)) : Option (Nat × List (List Int)) := k5_c _ F s5 m26 some
theorem k5_cp (Q : Type) (F : Nat) (s5 : List (List Int)) (m26 : List (List Int × Bool)) (k : (Nat × List (List Int)) → Option Q) : k5_c Q F s5 m26 k = (k5_p F s5 m26).bind k := by
  simp only [k5_p, k5_c, cond_bindL, none_bindL, some_bindL]
end Go.Lv.P
