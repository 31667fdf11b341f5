/-
Pure functions and what the code of them does, by program; without conditions.
-/
import Derived.Test.YtabfliifleonaakGreatQkP6
namespace Go.Lv.P
open Go Go.Lv
set_option linter.unusedVariables false
set_option linter.unusedSimpArgs false
set_option maxRecDepth 100000
def k119_c (Q : Type) (k : (Unit) → Option Q) : Option Q :=
    k ()
def k119_v : Unit :=
    ()
theorem k119_cv (Q : Type) (k : (Unit) → Option Q) : k119_c Q k = k (k119_v) := by
  simp only [k119_c, k119_v, u067 k]
def k46_c (Q : Type) (F : Nat) (yi : List Int) (a14 : List Int) (k : (Bool) → Option Q) : Option Q :=
    let z_1 := (k78_p yi a14)
    let z_2 : Bool := (Option.isSome z_1)
    let z_3 := (k108_p F (iset a14 (Option.getD z_1 default) (0 : Int)))
    bif z_2 then
    bif z_2 then
    bif (Option.isSome z_3) then
    bif (!(k132_v (iget a14 (Option.getD z_1 default)) (1 : Int) (2 : Int))) then
    k true
    else k (!(Option.getD z_3 default).1)
    else none
    else none
    else none
def k46_p (F : Nat) (yi : List Int) (a14 : List Int) : Option (Bool) := k46_c _ F yi a14 some
theorem k46_cp (Q : Type) (F : Nat) (yi : List Int) (a14 : List Int) (k : (Bool) → Option Q) : k46_c Q F yi a14 k = (k46_p F yi a14).bind k := by
  simp only [k46_p, k46_c, u004, u003, u008]
def k13_s2 (F : Nat) (s0 : List (List Int)) (t74 : Int) (f6 : List Int) (Q : Type) : (Int) → ((Int) → Option Q) → ((Bool × Int) → Option Q) → Option Q
  | t85, kn, kx =>
    let z_1 := (k46_p F (rget s0 (Int.toNat t85)) f6)
    bif (decide (t85 < t74)) then
    bif (inR t85 (List.length s0)) then
    bif (Option.isSome z_1) then
    bif (Option.getD z_1 default) then
    kx (true, t85)
    else kn (IntKind.wrap .i64 (t85 + (1 : Int)))
    else none
    else none
    else kx (false, default)
def k13_l2 (F : Nat) (s0 : List (List Int)) (t74 : Int) (f6 : List Int) (t85 : Int) : Option (Bool × Int) := loopC (k13_s2 F s0 t74 f6) F t85 some
theorem k13_s2_nat (F : Nat) (s0 : List (List Int)) (t74 : Int) (f6 : List Int) : u028 (k13_s2 F s0 t74 f6) := by
  intro Q Q' s kn kx h
  simp only [k13_s2, u004, u003]
def k13_c (Q : Type) (F : Nat) (s0 : List (List Int)) (f4 : List Int) (k : (Int) → Option Q) : Option Q :=
    let z_1 := (k13_l2 F s0 (((List.length s0) : Nat) : Int) f4 (0 : Int))
    let z_2 := (Option.getD z_1 default)
    bif (Option.isSome z_1) then
    bif z_2.1 then
    k z_2.2
    else k (-1 : Int)
    else none
def k13_p (F : Nat) (s0 : List (List Int)) (f4 : List Int) : Option (Int) := k13_c _ F s0 f4 some
theorem k13_cp (Q : Type) (F : Nat) (s0 : List (List Int)) (f4 : List Int) (k : (Int) → Option Q) : k13_c Q F s0 f4 k = (k13_p F s0 f4).bind k := by
  simp only [k13_p, k13_c, u004, u003, u008]
def k11_s5 (F : Nat) (s1 : Nat) (jb : List Int) (Q : Type) : (Int × Int × List (List Int)) → ((Int × Int × List (List Int)) → Option Q) → ((Int × List (List Int)) → Option Q) → Option Q
  | (i5, j6, s7), kn, kx =>
    let z_1 : List Int := (rget s7 ((0 : Nat) + (Int.toNat j6)))
    let z_2 := (k46_p F z_1 jb)
    let z_3 : Int := (IntKind.wrap .i64 (j6 + (1 : Int)))
    bif (decide (j6 < ((s1 : Nat) : Int))) then
    bif (inR j6 s1) then
    bif (Option.isSome z_2) then
    bif (!(Option.getD z_2 default)) then
    bif (inR i5 s1) then
    kn ((IntKind.wrap .i64 (i5 + (1 : Int))), z_3, (rset s7 ((0 : Nat) + (Int.toNat i5)) z_1))
    else none
    else kn (i5, z_3, s7)
    else none
    else none
    else kx (i5, s7)
def k11_l5 (F : Nat) (s1 : Nat) (jb : List Int) (i5 : Int) (j6 : Int) (s7 : List (List Int)) : Option (Int × List (List Int)) := loopC (k11_s5 F s1 jb) F (i5, j6, s7) some
theorem k11_s5_nat (F : Nat) (s1 : Nat) (jb : List Int) : u028 (k11_s5 F s1 jb) := by
  intro Q Q' s kn kx h
  obtain ⟨i5, j6, s7⟩ := s
  simp only [k11_s5, u004, u003]
def k11_c (Q : Type) (F : Nat) (s5 : List (List Int)) (gg : List Int) (k : (Nat × List (List Int)) → Option Q) : Option Q :=
    let z_1 := (k13_p F (subn (List.length s5) s5 0 (List.length s5)) gg)
    let z_2 := (k11_l5 F (List.length s5) gg (Option.getD z_1 default) (IntKind.wrap .i64 ((Option.getD z_1 default) + (1 : Int))) s5)
    let z_3 := (Option.getD z_2 default)
    let z_4 : Bool := (inLe z_3.1 (List.length s5))
    let z_5 : Nat := (Int.toNat z_3.1)
    let z_6 : Nat := ((List.length s5) - z_5)
    bif (Option.isSome z_1) then
    bif ((Option.getD z_1 default) == (-1 : Int)) then
    k ((List.length s5), s5)
    else bif (Option.isSome z_2) then
    bif z_4 then
    bif z_4 then
    k ((z_5 - (0 : Nat)), (u029 z_3.2 ((0 : Nat) + z_5) (List.replicate z_6 [(0 : Int), (0 : Int)]) z_6))
    else none
    else none
    else none
    else none
def k11_p (F : Nat) (s5 : List (List Int)) (gg : List Int) : Option (Nat × List (List Int)) := k11_c _ F s5 gg some
theorem k11_cp (Q : Type) (F : Nat) (s5 : List (List Int)) (gg : List Int) (k : (Nat × List (List Int)) → Option Q) : k11_c Q F s5 gg k = (k11_p F s5 gg).bind k := by
  simp only [k11_p, k11_c, u004, u003, u008]
def k76_c (Q : Type) (F : Nat) (b0 : List Int) (k : (Nat × Bool × List (List Int)) → Option Q) : Option Q :=
    let z_1 := (k96_p F b0)
    let z_2 := (k11_p F [[(0 : Int), (0 : Int)], [(0 : Int), (1 : Int)], [(0 : Int), (2 : Int)], [(0 : Int), (3 : Int)], [(1 : Int), (0 : Int)], [(1 : Int), (1 : Int)], [(1 : Int), (2 : Int)], [(1 : Int), (3 : Int)], [(2 : Int), (0 : Int)], [(2 : Int), (1 : Int)], [(2 : Int), (2 : Int)], [(2 : Int), (3 : Int)], [(3 : Int), (0 : Int)], [(3 : Int), (1 : Int)], [(3 : Int), (2 : Int)], [(3 : Int), (3 : Int)]] b0)
    let z_3 := (Option.getD z_2 default)
    bif (Option.isSome z_1) then
    bif (!(Option.getD z_1 default)) then
    k ((0 : Nat), false, ([] : List (List Int)))
    else bif (Option.isSome z_2) then
    k (z_3.1, true, z_3.2)
    else none
    else none
def k76_p (F : Nat) (b0 : List Int) : Option (Nat × Bool × List (List Int)) := k76_c _ F b0 some
theorem k76_cp (Q : Type) (F : Nat) (b0 : List Int) (k : (Nat × Bool × List (List Int)) → Option Q) : k76_c Q F b0 k = (k76_p F b0).bind k := by
  simp only [k76_p, k76_c, u004, u003, u008]
def k89_s8 (F : Nat) (r5 : Int) (b7 : List Int) (Q : Type) : (Int × List (List Int)) → ((Int × List (List Int)) → Option Q) → ((List (List Int)) → Option Q) → Option Q
  | (c6, j7), kn, kx =>
    let z_1 := (k131_p b7 [r5, c6])
    let z_2 := (k124_p b7 [r5, c6] (0 : Int))
    let z_3 := (k106_p F (Option.getD z_2 default))
    let z_4 : List (List Int) := ((subn (List.length j7) j7 0 (List.length j7)) ++ [[r5, c6]])
    let z_5 : Int := (IntKind.wrap .i64 (c6 + (1 : Int)))
    bif (decide (c6 < (4 : Int))) then
    bif (Option.isSome z_1) then
    bif (k130_v (Option.getD z_1 default) (1 : Int) (2 : Int)) then
    bif (Option.isSome z_2) then
    bif (Option.isSome z_3) then
    bif (decide ((0 : Int) < (((List.length (Option.getD z_3 default)) : Nat) : Int))) then
    bif (fits (List.length z_4) 16) then
    kn (z_5, z_4)
    else none
    else kn (z_5, j7)
    else none
    else none
    else kn (z_5, j7)
    else none
    else kx j7
def k89_l8 (F : Nat) (r5 : Int) (b7 : List Int) (c6 : Int) (j7 : List (List Int)) : Option (List (List Int)) := loopC (k89_s8 F r5 b7) F (c6, j7) some
theorem k89_s8_nat (F : Nat) (r5 : Int) (b7 : List Int) : u028 (k89_s8 F r5 b7) := by
  intro Q Q' s kn kx h
  obtain ⟨c6, j7⟩ := s
  simp only [k89_s8, u004, u003]
def k89_s5 (F : Nat) (b6 : List Int) (Q : Type) : (Int × List (List Int)) → ((Int × List (List Int)) → Option Q) → ((List (List Int)) → Option Q) → Option Q
  | (r5, w5), kn, kx =>
    let z_1 := (k89_l8 F r5 b6 (0 : Int) w5)
    bif (decide (r5 < (4 : Int))) then
    bif ((Nat.beq (List.length w5) (List.length w5)) && (Option.isSome z_1)) then
    kn ((IntKind.wrap .i64 (r5 + (1 : Int))), (Option.getD z_1 default))
    else none
    else kx w5
def k89_l5 (F : Nat) (b6 : List Int) (r5 : Int) (w5 : List (List Int)) : Option (List (List Int)) := loopC (k89_s5 F b6) F (r5, w5) some
theorem k89_s5_nat (F : Nat) (b6 : List Int) : u028 (k89_s5 F b6) := by
  intro Q Q' s kn kx h
  obtain ⟨r5, w5⟩ := s
  simp only [k89_s5, u004, u003]
def k89_c (Q : Type) (F : Nat) (b0 : List Int) (k : (Bool × List (List Int)) → Option Q) : Option Q :=
    let z_1 := (k99_p F b0)
    let z_2 := (k89_l5 F b0 (0 : Int) ([] : List (List Int)))
    bif (Option.isSome z_1) then
    bif (!(Option.getD z_1 default)) then
    k (false, ([] : List (List Int)))
    else bif (Option.isSome z_2) then
    k (true, (Option.getD z_2 default))
    else none
    else none
def k89_p (F : Nat) (b0 : List Int) : Option (Bool × List (List Int)) := k89_c _ F b0 some
theorem k89_cp (Q : Type) (F : Nat) (b0 : List Int) (k : (Bool × List (List Int)) → Option Q) : k89_c Q F b0 k = (k89_p F b0).bind k := by
  simp only [k89_p, k89_c, u004, u003, u008]
def k111_s4 (F : Nat) (a0 : List (List Int)) (b1 : List (List Int)) (Q : Type) : (Int) → ((Int) → Option Q) → ((Bool) → Option Q) → Option Q
  | i2, kn, kx =>
    bif (decide (i2 < (((List.length a0) : Nat) : Int))) then
    bif (inR i2 (List.length a0)) then
    bif (inR i2 (List.length b1)) then
    bif (!((rget a0 (Int.toNat i2)) == (rget b1 (Int.toNat i2)))) then
    kx true
    else kn (IntKind.wrap .i64 (i2 + (1 : Int)))
    else none
    else none
    else kx false
def k111_l4 (F : Nat) (a0 : List (List Int)) (b1 : List (List Int)) (i2 : Int) : Option (Bool) := loopC (k111_s4 F a0 b1) F i2 some
theorem k111_s4_nat (F : Nat) (a0 : List (List Int)) (b1 : List (List Int)) : u028 (k111_s4 F a0 b1) := by
  intro Q Q' s kn kx h
  simp only [k111_s4, u004, u003]
def k111_c (Q : Type) (F : Nat) (a0 : List (List Int)) (b1 : List (List Int)) (k : (Bool) → Option Q) : Option Q :=
    let z_1 := (k111_l4 F a0 b1 (0 : Int))
    bif (!((((List.length a0) : Nat) : Int) == (((List.length b1) : Nat) : Int))) then
    k false
    else bif (Option.isSome z_1) then
    bif (Option.getD z_1 default) then
    k false
    else k true
    else none
def k111_p (F : Nat) (a0 : List (List Int)) (b1 : List (List Int)) : Option (Bool) := k111_c _ F a0 b1 some
theorem k111_cp (Q : Type) (F : Nat) (a0 : List (List Int)) (b1 : List (List Int)) (k : (Bool) → Option Q) : k111_c Q F a0 b1 k = (k111_p F a0 b1).bind k := by
  simp only [k111_p, k111_c, u004, u003, u008]
def k45_c (Q : Type) (F : Nat) (j2 : List Int) (k : (List Int × Int × Int) → Option Q) : Option Q :=
    let z_1 := (k52_p [(0 : Int), (1 : Int), (2 : Int), (5 : Int), (-1 : Int), (20 : Int), (300 : Int)] j2 (0 : Int) (0 : Int))
    let z_2 := (Option.getD z_1 default)
    let z_3 := (k65_p F j2 z_2.2.1 z_2.2.2)
    let z_4 := (Option.getD z_3 default)
    bif (Option.isSome z_1) then
    bif (Option.isSome z_3) then
    k (z_4.1, z_4.2.1, z_2.1)
    else none
    else none
def k45_p (F : Nat) (j2 : List Int) : Option (List Int × Int × Int) := k45_c _ F j2 some
theorem k45_cp (Q : Type) (F : Nat) (j2 : List Int) (k : (List Int × Int × Int) → Option Q) : k45_c Q F j2 k = (k45_p F j2).bind k := by
  simp only [k45_p, k45_c, u004, u003, u008]
def k77_c (Q : Type) (F : Nat) (b0 : List Int) (j1 : Int) (k2 : Int) (k : (List Int × Bool) → Option Q) : Option Q :=
    let z_1 := (k34_p F b0 j1)
    let z_2 := (Option.getD z_1 default)
    let z_3 : List Int := [(0 : Int), (0 : Int), (0 : Int), (0 : Int), (0 : Int), (0 : Int), (0 : Int), (0 : Int), (0 : Int), (0 : Int), (0 : Int), (0 : Int), (0 : Int), (0 : Int), (0 : Int), (0 : Int)]
    bif (Option.isSome z_1) then
    bif (!z_2.2.1) then
    k (z_3, false)
    else bif (!(k132_v k2 (0 : Int) (IntKind.wrap .i64 (((z_2.1 : Nat) : Int) - (1 : Int))))) then
    k (z_3, false)
    else bif (inR k2 z_2.1) then
    k ((rget z_2.2.2 ((0 : Nat) + (Int.toNat k2))), true)
    else none
    else none
def k77_p (F : Nat) (b0 : List Int) (j1 : Int) (k2 : Int) : Option (List Int × Bool) := k77_c _ F b0 j1 k2 some
theorem k77_cp (Q : Type) (F : Nat) (b0 : List Int) (j1 : Int) (k2 : Int) (k : (List Int × Bool) → Option Q) : k77_c Q F b0 j1 k2 k = (k77_p F b0 j1 k2).bind k := by
  simp only [k77_p, k77_c, u004, u003, u008]
def k90_c (Q : Type) (F : Nat) (b0 : List Int) (j1 : Int) (k2 : Int) (k : (List Int × Bool) → Option Q) : Option Q :=
    let z_1 := (k43_p F b0 j1)
    let z_2 := (Option.getD z_1 default)
    let z_3 : List Int := [(0 : Int), (0 : Int), (0 : Int), (0 : Int), (0 : Int), (0 : Int), (0 : Int), (0 : Int), (0 : Int), (0 : Int), (0 : Int), (0 : Int), (0 : Int), (0 : Int), (0 : Int), (0 : Int)]
    let z_4 : Nat := (List.length z_2.2)
    bif (Option.isSome z_1) then
    bif (!z_2.1) then
    k (z_3, false)
    else bif (!(k130_v k2 (0 : Int) (IntKind.wrap .i64 (((z_4 : Nat) : Int) - (1 : Int))))) then
    k (z_3, false)
    else bif (inR k2 z_4) then
    k ((rget z_2.2 ((0 : Nat) + (Int.toNat k2))), true)
    else none
    else none
def k90_p (F : Nat) (b0 : List Int) (j1 : Int) (k2 : Int) : Option (List Int × Bool) := k90_c _ F b0 j1 k2 some
theorem k90_cp (Q : Type) (F : Nat) (b0 : List Int) (j1 : Int) (k2 : Int) (k : (List Int × Bool) → Option Q) : k90_c Q F b0 j1 k2 k = (k90_p F b0 j1 k2).bind k := by
  simp only [k90_p, k90_c, u004, u003, u008]
def k58_c (Q : Type) (F : Nat) (b0 : List Int) (j1 : Int) (k : (List Int × Int × Bool) → Option Q) : Option Q :=
    let z_1 := (k96_p F b0)
    let z_2 : List Int := [(0 : Int), (0 : Int), (0 : Int), (0 : Int), (0 : Int), (0 : Int), (0 : Int), (0 : Int), (0 : Int), (0 : Int), (0 : Int), (0 : Int), (0 : Int), (0 : Int), (0 : Int), (0 : Int)]
    let z_3 := (k48_p F b0 j1)
    let z_4 := (Option.getD z_3 default)
    bif (Option.isSome z_1) then
    bif (!(Option.getD z_1 default)) then
    k (z_2, (0 : Int), false)
    else bif (!(k50_v j1)) then
    k (z_2, (0 : Int), false)
    else bif (Option.isSome z_3) then
    k (z_4.1, z_4.2.1, true)
    else none
    else none
def k58_p (F : Nat) (b0 : List Int) (j1 : Int) : Option (List Int × Int × Bool) := k58_c _ F b0 j1 some
theorem k58_cp (Q : Type) (F : Nat) (b0 : List Int) (j1 : Int) (k : (List Int × Int × Bool) → Option Q) : k58_c Q F b0 j1 k = (k58_p F b0 j1).bind k := by
  simp only [k58_p, k58_c, u004, u003, u008]
def k109_c (Q : Type) (yi : List Int) (k : (Bool) → Option Q) : Option Q :=
    bif (k132_v (iget yi 0) (0 : Int) (3 : Int)) then
    k (k132_v (iget yi 1) (0 : Int) (3 : Int))
    else k false
def k109_v (yi : List Int) : Bool :=
    bif (k132_v (iget yi 0) (0 : Int) (3 : Int)) then
    (k132_v (iget yi 1) (0 : Int) (3 : Int))
    else false
theorem k109_cv (Q : Type) (yi : List Int) (k : (Bool) → Option Q) : k109_c Q yi k = k (k109_v yi) := by
  simp only [k109_c, k109_v, u067 k]
def k80_c (Q : Type) (F : Nat) (b0 : List Int) (wf : List Int) (k : (List Int × Int × Bool) → Option Q) : Option Q :=
    let z_1 := (k96_p F b0)
    let z_2 : List Int := [(0 : Int), (0 : Int), (0 : Int), (0 : Int), (0 : Int), (0 : Int), (0 : Int), (0 : Int), (0 : Int), (0 : Int), (0 : Int), (0 : Int), (0 : Int), (0 : Int), (0 : Int), (0 : Int)]
    let z_3 := (k78_p wf b0)
    let z_4 : Bool := (Option.isSome z_3)
    let z_5 : Int := (iget b0 (Option.getD z_3 default))
    bif (Option.isSome z_1) then
    bif (!(Option.getD z_1 default)) then
    k (z_2, (0 : Int), false)
    else bif (!(k109_v wf)) then
    k (z_2, (0 : Int), false)
    else bif z_4 then
    bif (z_5 == (0 : Int)) then
    k (z_2, (0 : Int), false)
    else bif z_4 then
    bif z_4 then
    k ((iset b0 (Option.getD z_3 default) (0 : Int)), z_5, true)
    else none
    else none
    else none
    else none
def k80_p (F : Nat) (b0 : List Int) (wf : List Int) : Option (List Int × Int × Bool) := k80_c _ F b0 wf some
theorem k80_cp (Q : Type) (F : Nat) (b0 : List Int) (wf : List Int) (k : (List Int × Int × Bool) → Option Q) : k80_c Q F b0 wf k = (k80_p F b0 wf).bind k := by
  simp only [k80_p, k80_c, u004, u003, u008]
def k70_c (Q : Type) (F : Nat) (a0 : List Int) (b1 : List Int) (k : (Bool × Bool) → Option Q) : Option Q :=
    let z_1 := (k96_p F a0)
    let z_2 := (k96_p F b1)
    let z_3 := (k47_p F a0 b1)
    bif (Option.isSome z_1) then
    bif (!(Option.getD z_1 default)) then
    k (false, false)
    else bif (Option.isSome z_2) then
    bif (!(Option.getD z_2 default)) then
    k (false, false)
    else bif (Option.isSome z_3) then
    k ((decide ((Option.getD z_3 default) < (0 : Int))), true)
    else none
    else none
    else none
def k70_p (F : Nat) (a0 : List Int) (b1 : List Int) : Option (Bool × Bool) := k70_c _ F a0 b1 some
theorem k70_cp (Q : Type) (F : Nat) (a0 : List Int) (b1 : List Int) (k : (Bool × Bool) → Option Q) : k70_c Q F a0 b1 k = (k70_p F a0 b1).bind k := by
  simp only [k70_p, k70_c, u004, u003, u008]
def k110_s39 (F : Nat) (d3 : Int) (j5 : Nat) (jo : Nat) (b14 : List Int) (jv : List (List Int)) (yj : List (List Int)) (c17 : List Int) (gv : List (List Int)) (Q : Type) : (Int) → ((Int) → Option Q) → ((Bool) → Option Q) → Option Q
  | i13, kn, kx =>
    let z_1 := (k80_p F c17 (rget gv ((0 : Nat) + (Int.toNat i13))))
    let z_2 := (Option.getD z_1 default)
    let z_3 := (k108_p F z_2.1)
    let z_4 := (Option.getD z_3 default)
    bif (decide (i13 < ((jo : Nat) : Int))) then
    bif (inR i13 jo) then
    bif (Option.isSome z_1) then
    bif (Option.isSome z_3) then
    bif (!z_2.2.2) then
    kx true
    else bif (!z_4.2) then
    kx true
    else bif (!z_4.1) then
    kx true
    else bif (decide ((2 : Int) < z_2.2.1)) then
    kx true
    else kn (IntKind.wrap .i64 (i13 + (1 : Int)))
    else none
    else none
    else none
    else kx false
def k110_l39 (F : Nat) (d3 : Int) (j5 : Nat) (jo : Nat) (b14 : List Int) (jv : List (List Int)) (yj : List (List Int)) (c17 : List Int) (gv : List (List Int)) (i13 : Int) : Option (Bool) := loopC (k110_s39 F d3 j5 jo b14 jv yj c17 gv) F i13 some
theorem k110_s39_nat (F : Nat) (d3 : Int) (j5 : Nat) (jo : Nat) (b14 : List Int) (jv : List (List Int)) (yj : List (List Int)) (c17 : List Int) (gv : List (List Int)) : u028 (k110_s39 F d3 j5 jo b14 jv yj c17 gv) := by
  intro Q Q' s kn kx h
  simp only [k110_s39, u004, u003]
def k110_s46 (F : Nat) (d3 : Int) (j5 : Nat) (b9 : List Int) (vo : List (List Int)) (jj : List (List Int)) (Q : Type) : (Int) → ((Int) → Option Q) → ((Bool) → Option Q) → Option Q
  | i8, kn, kx =>
    let z_1 : List Int := (rget vo ((0 : Nat) + (Int.toNat i8)))
    let z_2 := (k58_p F z_1 d3)
    let z_3 := (Option.getD z_2 default)
    let z_4 : Int := (IntKind.wrap .i64 (i8 - (1 : Int)))
    let z_5 := (k70_p F (rget vo ((0 : Nat) + (Int.toNat z_4))) z_1)
    let z_6 := (Option.getD z_5 default)
    let z_7 : Int := (IntKind.wrap .i64 (i8 + (1 : Int)))
    bif (decide (i8 < ((j5 : Nat) : Int))) then
    bif (inR i8 j5) then
    bif (Option.isSome z_2) then
    bif (inR i8 j5) then
    bif (inR i8 (List.length jj)) then
    bif (!(z_1 == (rget jj ((0 : Nat) + (Int.toNat i8))))) then
    kx true
    else bif (!z_3.2.2) then
    kx true
    else bif (!(z_3.1 == b9)) then
    kx true
    else bif (inR i8 j5) then
    bif (z_1 == b9) then
    kx true
    else bif (decide ((0 : Int) < i8)) then
    bif (inR z_4 j5) then
    bif (inR i8 j5) then
    bif (Option.isSome z_5) then
    bif (!z_6.2) then
    kx true
    else bif (!z_6.1) then
    kx true
    else kn z_7
    else none
    else none
    else none
    else kn z_7
    else none
    else none
    else none
    else none
    else none
    else kx false
def k110_l46 (F : Nat) (d3 : Int) (j5 : Nat) (b9 : List Int) (vo : List (List Int)) (jj : List (List Int)) (i8 : Int) : Option (Bool) := loopC (k110_s46 F d3 j5 b9 vo jj) F i8 some
theorem k110_s46_nat (F : Nat) (d3 : Int) (j5 : Nat) (b9 : List Int) (vo : List (List Int)) (jj : List (List Int)) : u028 (k110_s46 F d3 j5 b9 vo jj) := by
  intro Q Q' s kn kx h
  simp only [k110_s46, u004, u003]
def k88_c (Q : Type) (F : Nat) (j2 : List Int) (k : (Bool) → Option Q) : Option Q :=
    let z_1 := (k24_p F j2)
    let z_2 := (Option.getD z_1 default)
    let z_3 := (k34_p F z_2.1 z_2.2)
    let z_4 := (k43_p F z_2.1 z_2.2)
    let z_5 := (Option.getD z_3 default)
    let z_6 := (Option.getD z_4 default)
    let z_7 : Int := ((z_5.1 : Nat) : Int)
    let z_8 : Nat := (List.length z_6.2)
    let z_9 := (k49_p F z_2.1 z_2.2)
    let z_10 := (k51_p F z_2.1 z_2.2)
    let z_11 := (Option.getD z_9 default)
    let z_12 := (Option.getD z_10 default)
    let z_13 : Bool := (!(z_7 == z_11.1))
    let z_14 := (k71_p F z_2.1)
    let z_15 : Bool := (Option.isSome z_14)
    let z_16 := (k72_p F z_2.1)
    let z_17 : Bool := (Option.isSome z_16)
    let z_18 := (Option.getD z_14 default)
    let z_19 := (Option.getD z_16 default)
    let z_20 : Bool := (!(z_18.1 == z_19.1))
    let wx : Nat := (List.length z_18.2)
    let z_22 : List Int := (subn wx z_18.2 0 wx)
    let z_23 : Nat := (List.length z_19.2)
    let z_24 := (k122_p F z_22 (subn z_23 z_19.2 0 z_23))
    let z_25 : Bool := (Option.isSome z_24)
    let z_26 : Bool := (!(Option.getD z_24 default))
    let z_27 := (k129_p F z_22 z_2.2)
    let z_28 : Bool := (Option.isSome z_27)
    let z_29 : Bool := (!((Option.getD z_27 default) == (decide ((0 : Int) < z_11.1))))
    let z_30 := (k108_p F z_2.1)
    let z_31 : Bool := (Option.isSome z_30)
    let z_32 := (k112_p F z_2.1)
    let z_33 : Bool := (Option.isSome z_32)
    let z_34 := (Option.getD z_30 default)
    let z_35 := (Option.getD z_32 default)
    let z_36 : Bool := (!(z_34.1 == z_35.1))
    let z_37 : Bool := (!(z_34.2 == z_35.2))
    let z_38 : Bool := (!(z_34.2 == z_18.1))
    let z_39 : Bool := (!(z_34.1 == (decide ((0 : Int) < ((wx : Nat) : Int)))))
    let z_40 := (k81_p F z_2.1)
    let z_41 : Bool := (Option.isSome z_40)
    let z_42 := (k91_p F z_2.1)
    let z_43 : Bool := (Option.isSome z_42)
    let z_44 := (Option.getD z_40 default)
    let z_45 := (Option.getD z_42 default)
    let z_46 : Bool := (!(z_44.1 == z_45.1))
    let z_47 : Bool := (!(z_44.2 == z_45.2))
    let z_48 : Bool := (!(z_44.2 == z_18.1))
    let z_49 : Bool := (inR z_2.2 4)
    let z_50 : Bool := (!((iget z_44.1 ((0 : Nat) + ((Int.toNat z_2.2) * (1 : Nat)))) == z_11.1))
    let z_51 := (k44_p F j2)
    let z_52 : Bool := (Option.isSome z_51)
    let z_53 := (k76_p F (Option.getD z_51 default))
    let z_54 : Bool := (Option.isSome z_53)
    let z_55 := (k89_p F (Option.getD z_51 default))
    let z_56 : Bool := (Option.isSome z_55)
    let z_57 := (Option.getD z_53 default)
    let z_58 := (Option.getD z_55 default)
    let z_59 : Bool := (!(z_57.2.1 == z_58.1))
    let z_60 : Nat := (List.length z_58.2)
    let z_61 := (k111_p F (subn (List.length z_57.2.2) z_57.2.2 0 z_57.1) (subn z_60 z_58.2 0 z_60))
    let z_62 : Bool := (Option.isSome z_61)
    let z_63 : Bool := (!(Option.getD z_61 default))
    let z_64 := (k45_p F j2)
    let z_65 : Bool := (Option.isSome z_64)
    let z_66 := (Option.getD z_64 default)
    let z_67 := (k77_p F z_66.1 z_66.2.1 z_66.2.2)
    let z_68 : Bool := ((Option.isSome z_67) && (Option.getD z_67 default).2)
    let z_69 := (k90_p F z_66.1 z_66.2.1 z_66.2.2)
    let z_70 : Bool := (Option.isSome z_69)
    let z_71 := (Option.getD z_67 default)
    let z_72 := (Option.getD z_69 default)
    let z_73 : Bool := (!(z_71.1 == z_72.1))
    let z_74 : Bool := (!(true == z_72.2))
    let z_75 := (k58_p F z_71.1 z_66.2.1)
    let z_76 : Bool := (Option.isSome z_75)
    let z_77 := (Option.getD z_75 default)
    let z_78 : Bool := (!z_77.2.2)
    let z_79 : Bool := (!(z_77.1 == z_66.1))
    let z_80 : Bool := (z_71.1 == z_66.1)
    let z_81 : Bool := (Nat.beq z_8 z_8)
    let z_82 := (k110_l39 F z_2.2 z_5.1 z_57.1 z_2.1 z_5.2.2 z_6.2 (Option.getD z_51 default) z_57.2.2 (0 : Int))
    let z_83 : Bool := (z_81 && (Option.isSome z_82))
    let z_84 := (k110_l46 F z_2.2 z_5.1 z_2.1 z_5.2.2 z_6.2 (0 : Int))
    let z_85 : Bool := (z_81 && (Option.isSome z_84))
    bif (k128_v j2) then
    k true
    else bif (Option.isSome z_1) then
    bif (Option.isSome z_3) then
    bif (Option.isSome z_4) then
    bif (!(z_5.2.1 == z_6.1)) then
    k false
    else bif (!(z_7 == ((z_8 : Nat) : Int))) then
    k false
    else bif ((Option.isSome z_9) && z_11.2) then
    bif (Option.isSome z_10) then
    bif (!(z_11.1 == z_12.1)) then
    k false
    else bif (!(true == z_12.2)) then
    k false
    else bif (!(z_5.2.1 == (decide (z_11.1 ≤ (300 : Int))))) then
    k false
    else bif z_5.2.1 then
    bif z_13 then
    k false
    else bif z_15 then
    bif z_17 then
    bif z_20 then
    k false
    else bif z_25 then
    bif z_26 then
    k false
    else bif z_28 then
    bif z_29 then
    k false
    else bif z_31 then
    bif z_33 then
    bif z_36 then
    k false
    else bif z_37 then
    k false
    else bif z_38 then
    k false
    else bif z_39 then
    k false
    else bif z_41 then
    bif z_43 then
    bif z_46 then
    k false
    else bif z_47 then
    k false
    else bif z_48 then
    k false
    else bif z_49 then
    bif z_50 then
    k false
    else bif z_52 then
    bif z_54 then
    bif z_56 then
    bif z_59 then
    k false
    else bif z_62 then
    bif z_63 then
    k false
    else bif z_65 then
    bif z_68 then
    bif z_70 then
    bif z_73 then
    k false
    else bif z_74 then
    k false
    else bif z_76 then
    bif z_78 then
    k false
    else bif z_79 then
    k false
    else bif z_80 then
    k false
    else bif z_83 then
    bif (Option.getD z_82 default) then
    k false
    else bif z_85 then
    bif (Option.getD z_84 default) then
    k false
    else k true
    else none
    else none
    else none
    else none
    else none
    else none
    else none
    else none
    else none
    else none
    else none
    else none
    else none
    else none
    else none
    else none
    else none
    else none
    else none
    else bif z_15 then
    bif z_17 then
    bif z_20 then
    k false
    else bif z_25 then
    bif z_26 then
    k false
    else bif z_28 then
    bif z_29 then
    k false
    else bif z_31 then
    bif z_33 then
    bif z_36 then
    k false
    else bif z_37 then
    k false
    else bif z_38 then
    k false
    else bif z_39 then
    k false
    else bif z_41 then
    bif z_43 then
    bif z_46 then
    k false
    else bif z_47 then
    k false
    else bif z_48 then
    k false
    else bif z_49 then
    bif z_50 then
    k false
    else bif z_52 then
    bif z_54 then
    bif z_56 then
    bif z_59 then
    k false
    else bif z_62 then
    bif z_63 then
    k false
    else bif z_65 then
    bif z_68 then
    bif z_70 then
    bif z_73 then
    k false
    else bif z_74 then
    k false
    else bif z_76 then
    bif z_78 then
    k false
    else bif z_79 then
    k false
    else bif z_80 then
    k false
    else bif z_83 then
    bif (Option.getD z_82 default) then
    k false
    else bif z_85 then
    bif (Option.getD z_84 default) then
    k false
    else k true
    else none
    else none
    else none
    else none
    else none
    else none
    else none
    else none
    else none
    else none
    else none
    else none
    else none
    else none
    else none
    else none
    else none
    else none
    else none
    else none
    else none
    else none
    else none
    else none
def k88_p (F : Nat) (j2 : List Int) : Option (Bool) := k88_c _ F j2 some
theorem k88_cp (Q : Type) (F : Nat) (j2 : List Int) (k : (Bool) → Option Q) : k88_c Q F j2 k = (k88_p F j2).bind k := by
  simp only [k88_p, k88_c, u004, u003, u008]
def k87_c (Q : Type) (F : Nat) (j2 : List Int) (k : (Bool) → Option Q) : Option Q :=
    let z_1 := (k24_p F j2)
    let z_2 := (Option.getD z_1 default)
    let z_3 := (k34_p F z_2.1 z_2.2)
    let z_4 := (k43_p F z_2.1 z_2.2)
    let z_5 := (Option.getD z_3 default)
    let z_6 := (Option.getD z_4 default)
    let z_7 : Int := ((z_5.1 : Nat) : Int)
    let z_8 : Nat := (List.length z_6.2)
    let z_9 := (k49_p F z_2.1 z_2.2)
    let z_10 := (k51_p F z_2.1 z_2.2)
    let z_11 := (Option.getD z_9 default)
    let z_12 := (Option.getD z_10 default)
    let z_13 : Bool := (!(z_7 == z_11.1))
    let z_14 := (k71_p F z_2.1)
    let z_15 : Bool := (Option.isSome z_14)
    let z_16 := (k72_p F z_2.1)
    let z_17 : Bool := (Option.isSome z_16)
    let z_18 := (Option.getD z_14 default)
    let z_19 := (Option.getD z_16 default)
    let z_20 : Bool := (!(z_18.1 == z_19.1))
    let wx : Nat := (List.length z_18.2)
    let z_22 : List Int := (subn wx z_18.2 0 wx)
    let z_23 : Nat := (List.length z_19.2)
    let z_24 := (k122_p F z_22 (subn z_23 z_19.2 0 z_23))
    let z_25 : Bool := (Option.isSome z_24)
    let z_26 : Bool := (!(Option.getD z_24 default))
    let z_27 := (k129_p F z_22 z_2.2)
    let z_28 : Bool := (Option.isSome z_27)
    let z_29 : Bool := (!((Option.getD z_27 default) == (decide ((0 : Int) < z_11.1))))
    let z_30 := (k108_p F z_2.1)
    let z_31 : Bool := (Option.isSome z_30)
    let z_32 := (k112_p F z_2.1)
    let z_33 : Bool := (Option.isSome z_32)
    let z_34 := (Option.getD z_30 default)
    let z_35 := (Option.getD z_32 default)
    let z_36 : Bool := (!(z_34.1 == z_35.1))
    let z_37 : Bool := (!(z_34.2 == z_35.2))
    let z_38 : Bool := (!(z_34.2 == z_18.1))
    let z_39 : Bool := (!(z_34.1 == (decide ((0 : Int) < ((wx : Nat) : Int)))))
    let z_40 := (k81_p F z_2.1)
    let z_41 : Bool := (Option.isSome z_40)
    let z_42 := (k91_p F z_2.1)
    let z_43 : Bool := (Option.isSome z_42)
    let z_44 := (Option.getD z_40 default)
    let z_45 := (Option.getD z_42 default)
    let z_46 : Bool := (!(z_44.1 == z_45.1))
    let z_47 : Bool := (!(z_44.2 == z_45.2))
    let z_48 : Bool := (!(z_44.2 == z_18.1))
    let z_49 : Bool := (inR z_2.2 4)
    let z_50 : Bool := (!((iget z_44.1 ((0 : Nat) + ((Int.toNat z_2.2) * (1 : Nat)))) == z_11.1))
    let z_51 := (k44_p F j2)
    let z_52 : Bool := (Option.isSome z_51)
    let z_53 := (k76_p F (Option.getD z_51 default))
    let z_54 : Bool := (Option.isSome z_53)
    let z_55 := (k89_p F (Option.getD z_51 default))
    let z_56 : Bool := (Option.isSome z_55)
    let z_57 := (Option.getD z_53 default)
    let z_58 := (Option.getD z_55 default)
    let z_59 : Bool := (!(z_57.2.1 == z_58.1))
    let z_60 : Nat := (List.length z_58.2)
    let z_61 := (k111_p F (subn (List.length z_57.2.2) z_57.2.2 0 z_57.1) (subn z_60 z_58.2 0 z_60))
    let z_62 : Bool := (Option.isSome z_61)
    let z_63 : Bool := (!(Option.getD z_61 default))
    let z_64 := (k45_p F j2)
    let z_65 : Bool := (Option.isSome z_64)
    let z_66 := (Option.getD z_64 default)
    let z_67 := (k77_p F z_66.1 z_66.2.1 z_66.2.2)
    let z_68 : Bool := ((Option.isSome z_67) && (!(Option.getD z_67 default).2))
    let z_69 := (k90_p F z_66.1 z_66.2.1 z_66.2.2)
    let z_70 : Bool := (Option.isSome z_69)
    let z_71 := (Option.getD z_67 default)
    let z_72 := (Option.getD z_69 default)
    let z_73 : Bool := (!(z_71.1 == z_72.1))
    let z_74 : Bool := (!(false == z_72.2))
    let z_81 : Bool := (Nat.beq z_8 z_8)
    let z_82 := (k110_l39 F z_2.2 z_5.1 z_57.1 z_2.1 z_5.2.2 z_6.2 (Option.getD z_51 default) z_57.2.2 (0 : Int))
    let z_83 : Bool := (z_81 && (Option.isSome z_82))
    let z_84 := (k110_l46 F z_2.2 z_5.1 z_2.1 z_5.2.2 z_6.2 (0 : Int))
    let z_85 : Bool := (z_81 && (Option.isSome z_84))
    bif (k128_v j2) then
    k true
    else bif (Option.isSome z_1) then
    bif (Option.isSome z_3) then
    bif (Option.isSome z_4) then
    bif (!(z_5.2.1 == z_6.1)) then
    k false
    else bif (!(z_7 == ((z_8 : Nat) : Int))) then
    k false
    else bif ((Option.isSome z_9) && z_11.2) then
    bif (Option.isSome z_10) then
    bif (!(z_11.1 == z_12.1)) then
    k false
    else bif (!(true == z_12.2)) then
    k false
    else bif (!(z_5.2.1 == (decide (z_11.1 ≤ (300 : Int))))) then
    k false
    else bif z_5.2.1 then
    bif z_13 then
    k false
    else bif z_15 then
    bif z_17 then
    bif z_20 then
    k false
    else bif z_25 then
    bif z_26 then
    k false
    else bif z_28 then
    bif z_29 then
    k false
    else bif z_31 then
    bif z_33 then
    bif z_36 then
    k false
    else bif z_37 then
    k false
    else bif z_38 then
    k false
    else bif z_39 then
    k false
    else bif z_41 then
    bif z_43 then
    bif z_46 then
    k false
    else bif z_47 then
    k false
    else bif z_48 then
    k false
    else bif z_49 then
    bif z_50 then
    k false
    else bif z_52 then
    bif z_54 then
    bif z_56 then
    bif z_59 then
    k false
    else bif z_62 then
    bif z_63 then
    k false
    else bif z_65 then
    bif z_68 then
    bif z_70 then
    bif z_73 then
    k false
    else bif z_74 then
    k false
    else bif z_83 then
    bif (Option.getD z_82 default) then
    k false
    else bif z_85 then
    bif (Option.getD z_84 default) then
    k false
    else k true
    else none
    else none
    else none
    else none
    else none
    else none
    else none
    else none
    else none
    else none
    else none
    else none
    else none
    else none
    else none
    else none
    else none
    else none
    else bif z_15 then
    bif z_17 then
    bif z_20 then
    k false
    else bif z_25 then
    bif z_26 then
    k false
    else bif z_28 then
    bif z_29 then
    k false
    else bif z_31 then
    bif z_33 then
    bif z_36 then
    k false
    else bif z_37 then
    k false
    else bif z_38 then
    k false
    else bif z_39 then
    k false
    else bif z_41 then
    bif z_43 then
    bif z_46 then
    k false
    else bif z_47 then
    k false
    else bif z_48 then
    k false
    else bif z_49 then
    bif z_50 then
    k false
    else bif z_52 then
    bif z_54 then
    bif z_56 then
    bif z_59 then
    k false
    else bif z_62 then
    bif z_63 then
    k false
    else bif z_65 then
    bif z_68 then
    bif z_70 then
    bif z_73 then
    k false
    else bif z_74 then
    k false
    else bif z_83 then
    bif (Option.getD z_82 default) then
    k false
    else bif z_85 then
    bif (Option.getD z_84 default) then
    k false
    else k true
    else none
    else none
    else none
    else none
    else none
    else none
    else none
    else none
    else none
    else none
    else none
    else none
    else none
    else none
    else none
    else none
    else none
    else none
    else none
    else none
    else none
    else none
    else none
def k87_p (F : Nat) (j2 : List Int) : Option (Bool) := k87_c _ F j2 some
theorem k87_cp (Q : Type) (F : Nat) (j2 : List Int) (k : (Bool) → Option Q) : k87_c Q F j2 k = (k87_p F j2).bind k := by
  simp only [k87_p, k87_c, u004, u003, u008]
def k86_c (Q : Type) (F : Nat) (j2 : List Int) (k : (Bool) → Option Q) : Option Q :=
    let z_1 := (k24_p F j2)
    let z_2 := (Option.getD z_1 default)
    let z_3 := (k34_p F z_2.1 z_2.2)
    let z_4 := (k43_p F z_2.1 z_2.2)
    let z_5 := (Option.getD z_3 default)
    let z_6 := (Option.getD z_4 default)
    let z_7 : Int := ((z_5.1 : Nat) : Int)
    let z_8 : Nat := (List.length z_6.2)
    let z_9 := (k49_p F z_2.1 z_2.2)
    let z_10 := (k51_p F z_2.1 z_2.2)
    let z_11 := (Option.getD z_9 default)
    let z_12 := (Option.getD z_10 default)
    let z_13 : Bool := (!(z_7 == z_11.1))
    let z_14 := (k71_p F z_2.1)
    let z_15 : Bool := (Option.isSome z_14)
    let z_16 := (k72_p F z_2.1)
    let z_17 : Bool := (Option.isSome z_16)
    let z_18 := (Option.getD z_14 default)
    let z_19 := (Option.getD z_16 default)
    let z_20 : Bool := (!(z_18.1 == z_19.1))
    let wx : Nat := (List.length z_18.2)
    let z_22 : List Int := (subn wx z_18.2 0 wx)
    let z_23 : Nat := (List.length z_19.2)
    let z_24 := (k122_p F z_22 (subn z_23 z_19.2 0 z_23))
    let z_25 : Bool := (Option.isSome z_24)
    let z_26 : Bool := (!(Option.getD z_24 default))
    let z_30 := (k108_p F z_2.1)
    let z_31 : Bool := (Option.isSome z_30)
    let z_32 := (k112_p F z_2.1)
    let z_33 : Bool := (Option.isSome z_32)
    let z_34 := (Option.getD z_30 default)
    let z_35 := (Option.getD z_32 default)
    let z_36 : Bool := (!(z_34.1 == z_35.1))
    let z_37 : Bool := (!(z_34.2 == z_35.2))
    let z_38 : Bool := (!(z_34.2 == z_18.1))
    let z_39 : Bool := (!(z_34.1 == (decide ((0 : Int) < ((wx : Nat) : Int)))))
    let z_40 := (k81_p F z_2.1)
    let z_41 : Bool := (Option.isSome z_40)
    let z_42 := (k91_p F z_2.1)
    let z_43 : Bool := (Option.isSome z_42)
    let z_44 := (Option.getD z_40 default)
    let z_45 := (Option.getD z_42 default)
    let z_46 : Bool := (!(z_44.1 == z_45.1))
    let z_47 : Bool := (!(z_44.2 == z_45.2))
    let z_48 : Bool := (!(z_44.2 == z_18.1))
    let z_51 := (k44_p F j2)
    let z_52 : Bool := (Option.isSome z_51)
    let z_53 := (k76_p F (Option.getD z_51 default))
    let z_54 : Bool := (Option.isSome z_53)
    let z_55 := (k89_p F (Option.getD z_51 default))
    let z_56 : Bool := (Option.isSome z_55)
    let z_57 := (Option.getD z_53 default)
    let z_58 := (Option.getD z_55 default)
    let z_59 : Bool := (!(z_57.2.1 == z_58.1))
    let z_60 : Nat := (List.length z_58.2)
    let z_61 := (k111_p F (subn (List.length z_57.2.2) z_57.2.2 0 z_57.1) (subn z_60 z_58.2 0 z_60))
    let z_62 : Bool := (Option.isSome z_61)
    let z_63 : Bool := (!(Option.getD z_61 default))
    let z_64 := (k45_p F j2)
    let z_65 : Bool := (Option.isSome z_64)
    let z_66 := (Option.getD z_64 default)
    let z_67 := (k77_p F z_66.1 z_66.2.1 z_66.2.2)
    let z_68 : Bool := ((Option.isSome z_67) && (Option.getD z_67 default).2)
    let z_69 := (k90_p F z_66.1 z_66.2.1 z_66.2.2)
    let z_70 : Bool := (Option.isSome z_69)
    let z_71 := (Option.getD z_67 default)
    let z_72 := (Option.getD z_69 default)
    let z_73 : Bool := (!(z_71.1 == z_72.1))
    let z_74 : Bool := (!(true == z_72.2))
    let z_75 := (k58_p F z_71.1 z_66.2.1)
    let z_76 : Bool := (Option.isSome z_75)
    let z_77 := (Option.getD z_75 default)
    let z_78 : Bool := (!z_77.2.2)
    let z_79 : Bool := (!(z_77.1 == z_66.1))
    let z_80 : Bool := (z_71.1 == z_66.1)
    let z_81 : Bool := (Nat.beq z_8 z_8)
    let z_82 := (k110_l39 F z_2.2 z_5.1 z_57.1 z_2.1 z_5.2.2 z_6.2 (Option.getD z_51 default) z_57.2.2 (0 : Int))
    let z_83 : Bool := (z_81 && (Option.isSome z_82))
    let z_84 := (k110_l46 F z_2.2 z_5.1 z_2.1 z_5.2.2 z_6.2 (0 : Int))
    let z_85 : Bool := (z_81 && (Option.isSome z_84))
    bif (k128_v j2) then
    k true
    else bif (Option.isSome z_1) then
    bif (Option.isSome z_3) then
    bif (Option.isSome z_4) then
    bif (!(z_5.2.1 == z_6.1)) then
    k false
    else bif (!(z_7 == ((z_8 : Nat) : Int))) then
    k false
    else bif ((Option.isSome z_9) && (!z_11.2)) then
    bif (Option.isSome z_10) then
    bif (!(z_11.1 == z_12.1)) then
    k false
    else bif (!(false == z_12.2)) then
    k false
    else bif (!(z_5.2.1 == false)) then
    k false
    else bif z_5.2.1 then
    bif z_13 then
    k false
    else bif z_15 then
    bif z_17 then
    bif z_20 then
    k false
    else bif z_25 then
    bif z_26 then
    k false
    else bif z_31 then
    bif z_33 then
    bif z_36 then
    k false
    else bif z_37 then
    k false
    else bif z_38 then
    k false
    else bif z_39 then
    k false
    else bif z_41 then
    bif z_43 then
    bif z_46 then
    k false
    else bif z_47 then
    k false
    else bif z_48 then
    k false
    else bif z_52 then
    bif z_54 then
    bif z_56 then
    bif z_59 then
    k false
    else bif z_62 then
    bif z_63 then
    k false
    else bif z_65 then
    bif z_68 then
    bif z_70 then
    bif z_73 then
    k false
    else bif z_74 then
    k false
    else bif z_76 then
    bif z_78 then
    k false
    else bif z_79 then
    k false
    else bif z_80 then
    k false
    else bif z_83 then
    bif (Option.getD z_82 default) then
    k false
    else bif z_85 then
    bif (Option.getD z_84 default) then
    k false
    else k true
    else none
    else none
    else none
    else none
    else none
    else none
    else none
    else none
    else none
    else none
    else none
    else none
    else none
    else none
    else none
    else none
    else none
    else bif z_15 then
    bif z_17 then
    bif z_20 then
    k false
    else bif z_25 then
    bif z_26 then
    k false
    else bif z_31 then
    bif z_33 then
    bif z_36 then
    k false
    else bif z_37 then
    k false
    else bif z_38 then
    k false
    else bif z_39 then
    k false
    else bif z_41 then
    bif z_43 then
    bif z_46 then
    k false
    else bif z_47 then
    k false
    else bif z_48 then
    k false
    else bif z_52 then
    bif z_54 then
    bif z_56 then
    bif z_59 then
    k false
    else bif z_62 then
    bif z_63 then
    k false
    else bif z_65 then
    bif z_68 then
    bif z_70 then
    bif z_73 then
    k false
    else bif z_74 then
    k false
    else bif z_76 then
    bif z_78 then
    k false
    else bif z_79 then
    k false
    else bif z_80 then
    k false
    else bif z_83 then
    bif (Option.getD z_82 default) then
    k false
    else bif z_85 then
    bif (Option.getD z_84 default) then
    k false
    else k true
    else none
    else none
    else none
    else none
    else none
    else none
    else none
    else none
    else none
    else none
    else none
    else none
    else none
    else none
    else none
    else none
    else none
    else none
    else none
    else none
    else none
    else none
def k86_p (F : Nat) (j2 : List Int) : Option (Bool) := k86_c _ F j2 some
theorem k86_cp (Q : Type) (F : Nat) (j2 : List Int) (k : (Bool) → Option Q) : k86_c Q F j2 k = (k86_p F j2).bind k := by
  simp only [k86_p, k86_c, u004, u003, u008]
def k85_c (Q : Type) (F : Nat) (j2 : List Int) (k : (Bool) → Option Q) : Option Q :=
    let z_1 := (k24_p F j2)
    let z_2 := (Option.getD z_1 default)
    let z_3 := (k34_p F z_2.1 z_2.2)
    let z_4 := (k43_p F z_2.1 z_2.2)
    let z_5 := (Option.getD z_3 default)
    let z_6 := (Option.getD z_4 default)
    let z_7 : Int := ((z_5.1 : Nat) : Int)
    let z_8 : Nat := (List.length z_6.2)
    let z_9 := (k49_p F z_2.1 z_2.2)
    let z_10 := (k51_p F z_2.1 z_2.2)
    let z_11 := (Option.getD z_9 default)
    let z_12 := (Option.getD z_10 default)
    let z_13 : Bool := (!(z_7 == z_11.1))
    let z_14 := (k71_p F z_2.1)
    let z_15 : Bool := (Option.isSome z_14)
    let z_16 := (k72_p F z_2.1)
    let z_17 : Bool := (Option.isSome z_16)
    let z_18 := (Option.getD z_14 default)
    let z_19 := (Option.getD z_16 default)
    let z_20 : Bool := (!(z_18.1 == z_19.1))
    let wx : Nat := (List.length z_18.2)
    let z_22 : List Int := (subn wx z_18.2 0 wx)
    let z_23 : Nat := (List.length z_19.2)
    let z_24 := (k122_p F z_22 (subn z_23 z_19.2 0 z_23))
    let z_25 : Bool := (Option.isSome z_24)
    let z_26 : Bool := (!(Option.getD z_24 default))
    let z_30 := (k108_p F z_2.1)
    let z_31 : Bool := (Option.isSome z_30)
    let z_32 := (k112_p F z_2.1)
    let z_33 : Bool := (Option.isSome z_32)
    let z_34 := (Option.getD z_30 default)
    let z_35 := (Option.getD z_32 default)
    let z_36 : Bool := (!(z_34.1 == z_35.1))
    let z_37 : Bool := (!(z_34.2 == z_35.2))
    let z_38 : Bool := (!(z_34.2 == z_18.1))
    let z_39 : Bool := (!(z_34.1 == (decide ((0 : Int) < ((wx : Nat) : Int)))))
    let z_40 := (k81_p F z_2.1)
    let z_41 : Bool := (Option.isSome z_40)
    let z_42 := (k91_p F z_2.1)
    let z_43 : Bool := (Option.isSome z_42)
    let z_44 := (Option.getD z_40 default)
    let z_45 := (Option.getD z_42 default)
    let z_46 : Bool := (!(z_44.1 == z_45.1))
    let z_47 : Bool := (!(z_44.2 == z_45.2))
    let z_48 : Bool := (!(z_44.2 == z_18.1))
    let z_51 := (k44_p F j2)
    let z_52 : Bool := (Option.isSome z_51)
    let z_53 := (k76_p F (Option.getD z_51 default))
    let z_54 : Bool := (Option.isSome z_53)
    let z_55 := (k89_p F (Option.getD z_51 default))
    let z_56 : Bool := (Option.isSome z_55)
    let z_57 := (Option.getD z_53 default)
    let z_58 := (Option.getD z_55 default)
    let z_59 : Bool := (!(z_57.2.1 == z_58.1))
    let z_60 : Nat := (List.length z_58.2)
    let z_61 := (k111_p F (subn (List.length z_57.2.2) z_57.2.2 0 z_57.1) (subn z_60 z_58.2 0 z_60))
    let z_62 : Bool := (Option.isSome z_61)
    let z_63 : Bool := (!(Option.getD z_61 default))
    let z_64 := (k45_p F j2)
    let z_65 : Bool := (Option.isSome z_64)
    let z_66 := (Option.getD z_64 default)
    let z_67 := (k77_p F z_66.1 z_66.2.1 z_66.2.2)
    let z_68 : Bool := ((Option.isSome z_67) && (!(Option.getD z_67 default).2))
    let z_69 := (k90_p F z_66.1 z_66.2.1 z_66.2.2)
    let z_70 : Bool := (Option.isSome z_69)
    let z_71 := (Option.getD z_67 default)
    let z_72 := (Option.getD z_69 default)
    let z_73 : Bool := (!(z_71.1 == z_72.1))
    let z_74 : Bool := (!(false == z_72.2))
    let z_81 : Bool := (Nat.beq z_8 z_8)
    let z_82 := (k110_l39 F z_2.2 z_5.1 z_57.1 z_2.1 z_5.2.2 z_6.2 (Option.getD z_51 default) z_57.2.2 (0 : Int))
    let z_83 : Bool := (z_81 && (Option.isSome z_82))
    let z_84 := (k110_l46 F z_2.2 z_5.1 z_2.1 z_5.2.2 z_6.2 (0 : Int))
    let z_85 : Bool := (z_81 && (Option.isSome z_84))
    bif (k128_v j2) then
    k true
    else bif (Option.isSome z_1) then
    bif (Option.isSome z_3) then
    bif (Option.isSome z_4) then
    bif (!(z_5.2.1 == z_6.1)) then
    k false
    else bif (!(z_7 == ((z_8 : Nat) : Int))) then
    k false
    else bif ((Option.isSome z_9) && (!z_11.2)) then
    bif (Option.isSome z_10) then
    bif (!(z_11.1 == z_12.1)) then
    k false
    else bif (!(false == z_12.2)) then
    k false
    else bif (!(z_5.2.1 == false)) then
    k false
    else bif z_5.2.1 then
    bif z_13 then
    k false
    else bif z_15 then
    bif z_17 then
    bif z_20 then
    k false
    else bif z_25 then
    bif z_26 then
    k false
    else bif z_31 then
    bif z_33 then
    bif z_36 then
    k false
    else bif z_37 then
    k false
    else bif z_38 then
    k false
    else bif z_39 then
    k false
    else bif z_41 then
    bif z_43 then
    bif z_46 then
    k false
    else bif z_47 then
    k false
    else bif z_48 then
    k false
    else bif z_52 then
    bif z_54 then
    bif z_56 then
    bif z_59 then
    k false
    else bif z_62 then
    bif z_63 then
    k false
    else bif z_65 then
    bif z_68 then
    bif z_70 then
    bif z_73 then
    k false
    else bif z_74 then
    k false
    else bif z_83 then
    bif (Option.getD z_82 default) then
    k false
    else bif z_85 then
    bif (Option.getD z_84 default) then
    k false
    else k true
    else none
    else none
    else none
    else none
    else none
    else none
    else none
    else none
    else none
    else none
    else none
    else none
    else none
    else none
    else none
    else none
    else bif z_15 then
    bif z_17 then
    bif z_20 then
    k false
    else bif z_25 then
    bif z_26 then
    k false
    else bif z_31 then
    bif z_33 then
    bif z_36 then
    k false
    else bif z_37 then
    k false
    else bif z_38 then
    k false
    else bif z_39 then
    k false
    else bif z_41 then
    bif z_43 then
    bif z_46 then
    k false
    else bif z_47 then
    k false
    else bif z_48 then
    k false
    else bif z_52 then
    bif z_54 then
    bif z_56 then
    bif z_59 then
    k false
    else bif z_62 then
    bif z_63 then
    k false
    else bif z_65 then
    bif z_68 then
    bif z_70 then
    bif z_73 then
    k false
    else bif z_74 then
    k false
    else bif z_83 then
    bif (Option.getD z_82 default) then
    k false
    else bif z_85 then
    bif (Option.getD z_84 default) then
    k false
    else k true
    else none
    else none
    else none
    else none
    else none
    else none
    else none
    else none
    else none
    else none
    else none
    else none
    else none
    else none
    else none
    else none
    else none
    else none
    else none
    else none
    else none
def k85_p (F : Nat) (j2 : List Int) : Option (Bool) := k85_c _ F j2 some
theorem k85_cp (Q : Type) (F : Nat) (j2 : List Int) (k : (Bool) → Option Q) : k85_c Q F j2 k = (k85_p F j2).bind k := by
  simp only [k85_p, k85_c, u004, u003, u008]
def k110_q1 (F : Nat) (j2 : List Int) : Bool := (Option.getD (k49_p F (Option.getD (k24_p F j2) default).1 (Option.getD (k24_p F j2) default).2) default).2
def k110_q2 (F : Nat) (j2 : List Int) : Bool := (Option.getD (k77_p F (Option.getD (k45_p F j2) default).1 (Option.getD (k45_p F j2) default).2.1 (Option.getD (k45_p F j2) default).2.2) default).2
def k110_p (F : Nat) (j2 : List Int) : Option (Bool) := bif k110_q1 F j2 then (bif k110_q2 F j2 then k88_p F j2 else k87_p F j2) else (bif k110_q2 F j2 then k86_p F j2 else k85_p F j2)
end Go.Lv.P
