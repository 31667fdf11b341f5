/-
Pure functions and what the code of them does, by program; without conditions.
-/
import Derived.Test.YtabfliifleonaakGreatQkP5
namespace Go.Lv.P
open Go Go.Lv
set_option linter.unusedVariables false
set_option linter.unusedSimpArgs false
set_option maxRecDepth 100000
def k92_s5 (F : Nat) (r6 : Int) (a8 : List Int) (b9 : List Int) (Q : Type) : (Int) → ((Int) → Option Q) → ((Bool × Bool) → Option Q) → Option Q
  | c7, kn, kx =>
    let z_1 : Nat := (((0 : Nat) + ((Int.toNat r6) * (4 : Nat))) + ((Int.toNat c7) * (1 : Nat)))
    let z_2 : Int := (iget a8 z_1)
    let z_3 : Int := (iget b9 z_1)
    bif (decide (c7 < (4 : Int))) then
    bif (inR r6 4) then
    bif (inR c7 4) then
    bif (inR r6 4) then
    bif (inR c7 4) then
    bif (!(z_2 == z_3)) then
    bif (inR r6 4) then
    bif (inR c7 4) then
    bif (inR r6 4) then
    bif (inR c7 4) then
    kx (true, (decide (z_2 < z_3)))
    else none
    else none
    else none
    else none
    else kn (IntKind.wrap .i64 (c7 + (1 : Int)))
    else none
    else none
    else none
    else none
    else kx (false, default)
def k92_l5 (F : Nat) (r6 : Int) (a8 : List Int) (b9 : List Int) (c7 : Int) : Option (Bool × Bool) := loopC (k92_s5 F r6 a8 b9) F c7 some
theorem k92_s5_nat (F : Nat) (r6 : Int) (a8 : List Int) (b9 : List Int) : u028 (k92_s5 F r6 a8 b9) := by
  intro Q Q' s kn kx h
  simp only [k92_s5, u004, u003]
def k92_s2 (F : Nat) (a7 : List Int) (b8 : List Int) (Q : Type) : (Int) → ((Int) → Option Q) → ((Bool × Bool) → Option Q) → Option Q
  | r6, kn, kx =>
    let z_1 := (k92_l5 F r6 a7 b8 (0 : Int))
    let z_2 := (Option.getD z_1 default)
    bif (decide (r6 < (4 : Int))) then
    bif (Option.isSome z_1) then
    bif z_2.1 then
    kx (true, z_2.2)
    else kn (IntKind.wrap .i64 (r6 + (1 : Int)))
    else none
    else kx (false, default)
def k92_l2 (F : Nat) (a7 : List Int) (b8 : List Int) (r6 : Int) : Option (Bool × Bool) := loopC (k92_s2 F a7 b8) F r6 some
theorem k92_s2_nat (F : Nat) (a7 : List Int) (b8 : List Int) : u028 (k92_s2 F a7 b8) := by
  intro Q Q' s kn kx h
  simp only [k92_s2, u004, u003]
def k92_c (Q : Type) (F : Nat) (a0 : List Int) (b1 : List Int) (k : (Bool) → Option Q) : Option Q :=
    let z_1 := (k92_l2 F a0 b1 (0 : Int))
    let z_2 := (Option.getD z_1 default)
    bif (Option.isSome z_1) then
    bif z_2.1 then
    k z_2.2
    else k false
    else none
def k92_p (F : Nat) (a0 : List Int) (b1 : List Int) : Option (Bool) := k92_c _ F a0 b1 some
theorem k92_cp (Q : Type) (F : Nat) (a0 : List Int) (b1 : List Int) (k : (Bool) → Option Q) : k92_c Q F a0 b1 k = (k92_p F a0 b1).bind k := by
  simp only [k92_p, k92_c, u004, u003, u008]
def k95_s7 (F : Nat) (list0 : List (List Int)) (i6 : Int) (yv : List Int) (ja : List (List Int)) (Q : Type) : (Int) → ((Int) → Option Q) → ((Int) → Option Q) → Option Q
  | n7, kn, kx =>
    let z_1 : Int := (IntKind.wrap .i64 (n7 - (1 : Int)))
    let z_2 := (k92_p F (rget list0 (Int.toNat i6)) (rget ja ((0 : Nat) + (Int.toNat z_1))))
    bif (decide ((0 : Int) < n7)) then
    bif (inR i6 (List.length list0)) then
    bif (inR z_1 (List.length ja)) then
    bif (Option.isSome z_2) then
    bif (Option.getD z_2 default) then
    kn z_1
    else kx n7
    else none
    else none
    else none
    else kx n7
def k95_l7 (F : Nat) (list0 : List (List Int)) (i6 : Int) (yv : List Int) (ja : List (List Int)) (n7 : Int) : Option (Int) := loopC (k95_s7 F list0 i6 yv ja) F n7 some
theorem k95_s7_nat (F : Nat) (list0 : List (List Int)) (i6 : Int) (yv : List Int) (ja : List (List Int)) : u028 (k95_s7 F list0 i6 yv ja) := by
  intro Q Q' s kn kx h
  simp only [k95_s7, u004, u003]
def k95_s3 (F : Nat) (list0 : List (List Int)) (yo : List Int) (Q : Type) : (Int × List (List Int)) → ((Int × List (List Int)) → Option Q) → ((List (List Int)) → Option Q) → Option Q
  | (i6, j7), kn, kx =>
    let z_1 : Bool := (inR i6 (List.length list0))
    let z_2 : List Int := (rget list0 (Int.toNat i6))
    let z_3 : Int := (IntKind.wrap .i64 (i6 + (1 : Int)))
    let z_4 := (k95_l7 F list0 i6 yo j7 (((List.length j7) : Nat) : Int))
    let z_5 : Bool := (inLe (Option.getD z_4 default) (List.length j7))
    let z_6 : Nat := (Int.toNat (Option.getD z_4 default))
    let z_7 : List (List Int) := (subn (List.length j7) j7 0 (z_6 - (0 : Nat)))
    let z_8 : Nat := (List.length z_7)
    let z_9 : List (List Int) := ((subn z_8 z_7 0 z_8) ++ [z_2])
    let z_10 : Nat := (List.length z_9)
    let z_11 : List (List Int) := ((subn z_10 z_9 0 z_10) ++ (subn (List.length j7) j7 ((0 : Nat) + z_6) ((List.length j7) - z_6)))
    bif (decide (i6 < (((List.length list0) : Nat) : Int))) then
    bif z_1 then
    bif (z_2 == yo) then
    kn (z_3, j7)
    else bif ((Nat.beq (List.length j7) (List.length j7)) && (Option.isSome z_4)) then
    bif z_5 then
    bif (fits z_8 128) then
    bif z_1 then
    bif (fits z_10 128) then
    bif z_5 then
    bif (fits (List.length z_11) 128) then
    kn (z_3, z_11)
    else none
    else none
    else none
    else none
    else none
    else none
    else none
    else none
    else kx j7
def k95_l3 (F : Nat) (list0 : List (List Int)) (yo : List Int) (i6 : Int) (j7 : List (List Int)) : Option (List (List Int)) := loopC (k95_s3 F list0 yo) F (i6, j7) some
theorem k95_s3_nat (F : Nat) (list0 : List (List Int)) (yo : List Int) : u028 (k95_s3 F list0 yo) := by
  intro Q Q' s kn kx h
  obtain ⟨i6, j7⟩ := s
  simp only [k95_s3, u004, u003]
def k95_c (Q : Type) (F : Nat) (list0 : List (List Int)) (vy : List Int) (k : (List (List Int)) → Option Q) : Option Q :=
    let z_1 := (k95_l3 F list0 vy (0 : Int) ([] : List (List Int)))
    bif (Option.isSome z_1) then
    k (Option.getD z_1 default)
    else none
def k95_p (F : Nat) (list0 : List (List Int)) (vy : List Int) : Option (List (List Int)) := k95_c _ F list0 vy some
theorem k95_cp (Q : Type) (F : Nat) (list0 : List (List Int)) (vy : List Int) (k : (List (List Int)) → Option Q) : k95_c Q F list0 vy k = (k95_p F list0 vy).bind k := by
  simp only [k95_p, k95_c, u004, u003, u008]
def k43_c (Q : Type) (F : Nat) (b0 : List Int) (j1 : Int) (k : (Bool × List (List Int)) → Option Q) : Option Q :=
    let z_1 := (k99_p F b0)
    let z_2 := (k104_p F b0 j1)
    let z_3 := (k127_p F b0 j1)
    let z_4 : Nat := (List.length (Option.getD z_3 default))
    let z_5 := (k95_p F (subn z_4 (Option.getD z_3 default) 0 z_4) b0)
    bif (Option.isSome z_1) then
    bif (!(Option.getD z_1 default)) then
    k (false, ([] : List (List Int)))
    else bif (!(k114_v j1)) then
    k (false, ([] : List (List Int)))
    else bif (Option.isSome z_2) then
    bif (decide ((300 : Int) < (Option.getD z_2 default))) then
    k (false, ([] : List (List Int)))
    else bif (Option.isSome z_3) then
    bif (Option.isSome z_5) then
    k (true, (Option.getD z_5 default))
    else none
    else none
    else none
    else none
def k43_p (F : Nat) (b0 : List Int) (j1 : Int) : Option (Bool × List (List Int)) := k43_c _ F b0 j1 some
theorem k43_cp (Q : Type) (F : Nat) (b0 : List Int) (j1 : Int) (k : (Bool × List (List Int)) → Option Q) : k43_c Q F b0 j1 k = (k43_p F b0 j1).bind k := by
  simp only [k43_p, k43_c, u004, u003, u008]
def k49_c (Q : Type) (F : Nat) (b0 : List Int) (j1 : Int) (k : (Int × Bool) → Option Q) : Option Q :=
    let z_1 := (k96_p F b0)
    let z_2 := (k21_p F b0 j1)
    bif (Option.isSome z_1) then
    bif (!(Option.getD z_1 default)) then
    k ((0 : Int), false)
    else bif (!(k50_v j1)) then
    k ((0 : Int), false)
    else bif (Option.isSome z_2) then
    k ((Option.getD z_2 default), true)
    else none
    else none
def k49_p (F : Nat) (b0 : List Int) (j1 : Int) : Option (Int × Bool) := k49_c _ F b0 j1 some
theorem k49_cp (Q : Type) (F : Nat) (b0 : List Int) (j1 : Int) (k : (Int × Bool) → Option Q) : k49_c Q F b0 j1 k = (k49_p F b0 j1).bind k := by
  simp only [k49_p, k49_c, u004, u003, u008]
def k51_c (Q : Type) (F : Nat) (b0 : List Int) (j1 : Int) (k : (Int × Bool) → Option Q) : Option Q :=
    let z_1 := (k99_p F b0)
    let z_2 := (k104_p F b0 j1)
    bif (Option.isSome z_1) then
    bif (!(Option.getD z_1 default)) then
    k ((0 : Int), false)
    else bif (!(k114_v j1)) then
    k ((0 : Int), false)
    else bif (Option.isSome z_2) then
    k ((Option.getD z_2 default), true)
    else none
    else none
def k51_p (F : Nat) (b0 : List Int) (j1 : Int) : Option (Int × Bool) := k51_c _ F b0 j1 some
theorem k51_cp (Q : Type) (F : Nat) (b0 : List Int) (j1 : Int) (k : (Int × Bool) → Option Q) : k51_c Q F b0 j1 k = (k51_p F b0 j1).bind k := by
  simp only [k51_p, k51_c, u004, u003, u008]
def k71_s5 (F : Nat) (b6 : List Int) (Q : Type) : (Int × List Int) → ((Int × List Int) → Option Q) → ((List Int) → Option Q) → Option Q
  | (yx, w5), kn, kx =>
    let z_1 := (k21_p F b6 yx)
    let z_2 : List Int := ((subn (List.length w5) w5 0 (List.length w5)) ++ [yx])
    let z_3 : Int := (IntKind.wrap .i64 (yx + (1 : Int)))
    bif (decide (yx < (4 : Int))) then
    bif (Option.isSome z_1) then
    bif (decide ((0 : Int) < (Option.getD z_1 default))) then
    bif (fits (List.length z_2) 8) then
    kn (z_3, z_2)
    else none
    else kn (z_3, w5)
    else none
    else kx w5
def k71_l5 (F : Nat) (b6 : List Int) (yx : Int) (w5 : List Int) : Option (List Int) := loopC (k71_s5 F b6) F (yx, w5) some
theorem k71_s5_nat (F : Nat) (b6 : List Int) : u028 (k71_s5 F b6) := by
  intro Q Q' s kn kx h
  obtain ⟨yx, w5⟩ := s
  simp only [k71_s5, u004, u003]
def k71_c (Q : Type) (F : Nat) (b0 : List Int) (k : (Bool × List Int) → Option Q) : Option Q :=
    let z_1 := (k96_p F b0)
    let z_2 := (k71_l5 F b0 (0 : Int) ([] : List Int))
    bif (Option.isSome z_1) then
    bif (!(Option.getD z_1 default)) then
    k (false, ([] : List Int))
    else bif (Option.isSome z_2) then
    k (true, (Option.getD z_2 default))
    else none
    else none
def k71_p (F : Nat) (b0 : List Int) : Option (Bool × List Int) := k71_c _ F b0 some
theorem k71_cp (Q : Type) (F : Nat) (b0 : List Int) (k : (Bool × List Int) → Option Q) : k71_c Q F b0 k = (k71_p F b0).bind k := by
  simp only [k71_p, k71_c, u004, u003, u008]
def k106_s3 (F : Nat) (b6 : List Int) (Q : Type) : (Int × List Int) → ((Int × List Int) → Option Q) → ((List Int) → Option Q) → Option Q
  | (d5, w5), kn, kx =>
    let z_1 := (k104_p F b6 d5)
    let z_2 : List Int := ((subn (List.length w5) w5 0 (List.length w5)) ++ [d5])
    let z_3 : Int := (IntKind.wrap .i64 (d5 + (1 : Int)))
    bif (decide (d5 < (4 : Int))) then
    bif (Option.isSome z_1) then
    bif (decide ((0 : Int) < (Option.getD z_1 default))) then
    bif (fits (List.length z_2) 8) then
    kn (z_3, z_2)
    else none
    else kn (z_3, w5)
    else none
    else kx w5
def k106_l3 (F : Nat) (b6 : List Int) (d5 : Int) (w5 : List Int) : Option (List Int) := loopC (k106_s3 F b6) F (d5, w5) some
theorem k106_s3_nat (F : Nat) (b6 : List Int) : u028 (k106_s3 F b6) := by
  intro Q Q' s kn kx h
  obtain ⟨d5, w5⟩ := s
  simp only [k106_s3, u004, u003]
def k106_c (Q : Type) (F : Nat) (b0 : List Int) (k : (List Int) → Option Q) : Option Q :=
    let z_1 := (k106_l3 F b0 (0 : Int) ([] : List Int))
    bif (Option.isSome z_1) then
    k (Option.getD z_1 default)
    else none
def k106_p (F : Nat) (b0 : List Int) : Option (List Int) := k106_c _ F b0 some
theorem k106_cp (Q : Type) (F : Nat) (b0 : List Int) (k : (List Int) → Option Q) : k106_c Q F b0 k = (k106_p F b0).bind k := by
  simp only [k106_p, k106_c, u004, u003, u008]
def k72_c (Q : Type) (F : Nat) (b0 : List Int) (k : (Bool × List Int) → Option Q) : Option Q :=
    let z_1 := (k99_p F b0)
    let z_2 := (k106_p F b0)
    bif (Option.isSome z_1) then
    bif (!(Option.getD z_1 default)) then
    k (false, ([] : List Int))
    else bif (Option.isSome z_2) then
    k (true, (Option.getD z_2 default))
    else none
    else none
def k72_p (F : Nat) (b0 : List Int) : Option (Bool × List Int) := k72_c _ F b0 some
theorem k72_cp (Q : Type) (F : Nat) (b0 : List Int) (k : (Bool × List Int) → Option Q) : k72_c Q F b0 k = (k72_p F b0).bind k := by
  simp only [k72_p, k72_c, u004, u003, u008]
def k122_s4 (F : Nat) (a0 : List Int) (b1 : List Int) (Q : Type) : (Int) → ((Int) → Option Q) → ((Bool) → Option Q) → Option Q
  | i2, kn, kx =>
    bif (decide (i2 < (((List.length a0) : Nat) : Int))) then
    bif (inR i2 (List.length a0)) then
    bif (inR i2 (List.length b1)) then
    bif (!((iget a0 (Int.toNat i2)) == (iget b1 (Int.toNat i2)))) then
    kx true
    else kn (IntKind.wrap .i64 (i2 + (1 : Int)))
    else none
    else none
    else kx false
def k122_l4 (F : Nat) (a0 : List Int) (b1 : List Int) (i2 : Int) : Option (Bool) := loopC (k122_s4 F a0 b1) F i2 some
theorem k122_s4_nat (F : Nat) (a0 : List Int) (b1 : List Int) : u028 (k122_s4 F a0 b1) := by
  intro Q Q' s kn kx h
  simp only [k122_s4, u004, u003]
def k122_c (Q : Type) (F : Nat) (a0 : List Int) (b1 : List Int) (k : (Bool) → Option Q) : Option Q :=
    let z_1 := (k122_l4 F a0 b1 (0 : Int))
    bif (!((((List.length a0) : Nat) : Int) == (((List.length b1) : Nat) : Int))) then
    k false
    else bif (Option.isSome z_1) then
    bif (Option.getD z_1 default) then
    k false
    else k true
    else none
def k122_p (F : Nat) (a0 : List Int) (b1 : List Int) : Option (Bool) := k122_c _ F a0 b1 some
theorem k122_cp (Q : Type) (F : Nat) (a0 : List Int) (b1 : List Int) (k : (Bool) → Option Q) : k122_c Q F a0 b1 k = (k122_p F a0 b1).bind k := by
  simp only [k122_p, k122_c, u004, u003, u008]
def k129_s2 (F : Nat) (list0 : List Int) (x1 : Int) (Q : Type) : (Int) → ((Int) → Option Q) → ((Bool) → Option Q) → Option Q
  | i2, kn, kx =>
    bif (decide (i2 < (((List.length list0) : Nat) : Int))) then
    bif (inR i2 (List.length list0)) then
    bif ((iget list0 (Int.toNat i2)) == x1) then
    kx true
    else kn (IntKind.wrap .i64 (i2 + (1 : Int)))
    else none
    else kx false
def k129_l2 (F : Nat) (list0 : List Int) (x1 : Int) (i2 : Int) : Option (Bool) := loopC (k129_s2 F list0 x1) F i2 some
theorem k129_s2_nat (F : Nat) (list0 : List Int) (x1 : Int) : u028 (k129_s2 F list0 x1) := by
  intro Q Q' s kn kx h
  simp only [k129_s2, u004, u003]
def k129_c (Q : Type) (F : Nat) (list0 : List Int) (x1 : Int) (k : (Bool) → Option Q) : Option Q :=
    let z_1 := (k129_l2 F list0 x1 (0 : Int))
    bif (Option.isSome z_1) then
    bif (Option.getD z_1 default) then
    k true
    else k false
    else none
def k129_p (F : Nat) (list0 : List Int) (x1 : Int) : Option (Bool) := k129_c _ F list0 x1 some
theorem k129_cp (Q : Type) (F : Nat) (list0 : List Int) (x1 : Int) (k : (Bool) → Option Q) : k129_c Q F list0 x1 k = (k129_p F list0 x1).bind k := by
  simp only [k129_p, k129_c, u004, u003, u008]
def k108_c (Q : Type) (F : Nat) (b0 : List Int) (k : (Bool × Bool) → Option Q) : Option Q :=
    let z_1 := (k71_p F b0)
    let z_2 := (Option.getD z_1 default)
    bif (Option.isSome z_1) then
    k ((decide ((0 : Int) < (((List.length z_2.2) : Nat) : Int))), z_2.1)
    else none
def k108_p (F : Nat) (b0 : List Int) : Option (Bool × Bool) := k108_c _ F b0 some
theorem k108_cp (Q : Type) (F : Nat) (b0 : List Int) (k : (Bool × Bool) → Option Q) : k108_c Q F b0 k = (k108_p F b0).bind k := by
  simp only [k108_p, k108_c, u004, u003, u008]
def k112_c (Q : Type) (F : Nat) (b0 : List Int) (k : (Bool × Bool) → Option Q) : Option Q :=
    let z_1 := (k99_p F b0)
    let z_2 := (k106_p F b0)
    bif (Option.isSome z_1) then
    bif (!(Option.getD z_1 default)) then
    k (false, false)
    else bif (Option.isSome z_2) then
    k ((decide ((0 : Int) < (((List.length (Option.getD z_2 default)) : Nat) : Int))), true)
    else none
    else none
def k112_p (F : Nat) (b0 : List Int) : Option (Bool × Bool) := k112_c _ F b0 some
theorem k112_cp (Q : Type) (F : Nat) (b0 : List Int) (k : (Bool × Bool) → Option Q) : k112_c Q F b0 k = (k112_p F b0).bind k := by
  simp only [k112_p, k112_c, u004, u003, u008]
def k81_c (Q : Type) (F : Nat) (b0 : List Int) (k : (List Int × Bool) → Option Q) : Option Q :=
    let z_1 := (k96_p F b0)
    let z_2 := (k21_p F b0 (0 : Int))
    let z_3 := (k21_p F b0 (1 : Int))
    let z_4 := (k21_p F b0 (2 : Int))
    let z_5 := (k21_p F b0 (3 : Int))
    bif (Option.isSome z_1) then
    bif (!(Option.getD z_1 default)) then
    k ([(0 : Int), (0 : Int), (0 : Int), (0 : Int)], false)
    else bif (Option.isSome z_2) then
    bif (Option.isSome z_3) then
    bif (Option.isSome z_4) then
    bif (Option.isSome z_5) then
    k ([(Option.getD z_2 default), (Option.getD z_3 default), (Option.getD z_4 default), (Option.getD z_5 default)], true)
    else none
    else none
    else none
    else none
    else none
def k81_p (F : Nat) (b0 : List Int) : Option (List Int × Bool) := k81_c _ F b0 some
theorem k81_cp (Q : Type) (F : Nat) (b0 : List Int) (k : (List Int × Bool) → Option Q) : k81_c Q F b0 k = (k81_p F b0).bind k := by
  simp only [k81_p, k81_c, u004, u003, u008]
def k91_c (Q : Type) (F : Nat) (b0 : List Int) (k : (List Int × Bool) → Option Q) : Option Q :=
    let z_1 := (k99_p F b0)
    let z_2 := (k104_p F b0 (0 : Int))
    let z_3 := (k104_p F b0 (1 : Int))
    let z_4 := (k104_p F b0 (2 : Int))
    let z_5 := (k104_p F b0 (3 : Int))
    bif (Option.isSome z_1) then
    bif (!(Option.getD z_1 default)) then
    k ([(0 : Int), (0 : Int), (0 : Int), (0 : Int)], false)
    else bif (Option.isSome z_2) then
    bif (Option.isSome z_3) then
    bif (Option.isSome z_4) then
    bif (Option.isSome z_5) then
    k ([(Option.getD z_2 default), (Option.getD z_3 default), (Option.getD z_4 default), (Option.getD z_5 default)], true)
    else none
    else none
    else none
    else none
    else none
def k91_p (F : Nat) (b0 : List Int) : Option (List Int × Bool) := k91_c _ F b0 some
theorem k91_cp (Q : Type) (F : Nat) (b0 : List Int) (k : (List Int × Bool) → Option Q) : k91_c Q F b0 k = (k91_p F b0).bind k := by
  simp only [k91_p, k91_c, u004, u003, u008]
def k100_s6 (F : Nat) (r5 : Int) (b7 : List Int) (Q : Type) : (Int × List (List Int)) → ((Int × List (List Int)) → Option Q) → ((List (List Int)) → Option Q) → Option Q
  | (c6, j7), kn, kx =>
    let z_1 : List (List Int) := ((subn (List.length j7) j7 0 (List.length j7)) ++ [[r5, c6]])
    let z_2 : Int := (IntKind.wrap .i64 (c6 + (1 : Int)))
    bif (decide (c6 < (4 : Int))) then
    bif (inR r5 4) then
    bif (inR c6 4) then
    bif ((iget b7 (((0 : Nat) + ((Int.toNat r5) * (4 : Nat))) + ((Int.toNat c6) * (1 : Nat)))) == (0 : Int)) then
    bif (fits (List.length z_1) 16) then
    kn (z_2, z_1)
    else none
    else kn (z_2, j7)
    else none
    else none
    else kx j7
def k100_l6 (F : Nat) (r5 : Int) (b7 : List Int) (c6 : Int) (j7 : List (List Int)) : Option (List (List Int)) := loopC (k100_s6 F r5 b7) F (c6, j7) some
theorem k100_s6_nat (F : Nat) (r5 : Int) (b7 : List Int) : u028 (k100_s6 F r5 b7) := by
  intro Q Q' s kn kx h
  obtain ⟨c6, j7⟩ := s
  simp only [k100_s6, u004, u003]
def k100_s3 (F : Nat) (b6 : List Int) (Q : Type) : (Int × List (List Int)) → ((Int × List (List Int)) → Option Q) → ((List (List Int)) → Option Q) → Option Q
  | (r5, w5), kn, kx =>
    let z_1 := (k100_l6 F r5 b6 (0 : Int) w5)
    bif (decide (r5 < (4 : Int))) then
    bif ((Nat.beq (List.length w5) (List.length w5)) && (Option.isSome z_1)) then
    kn ((IntKind.wrap .i64 (r5 + (1 : Int))), (Option.getD z_1 default))
    else none
    else kx w5
def k100_l3 (F : Nat) (b6 : List Int) (r5 : Int) (w5 : List (List Int)) : Option (List (List Int)) := loopC (k100_s3 F b6) F (r5, w5) some
theorem k100_s3_nat (F : Nat) (b6 : List Int) : u028 (k100_s3 F b6) := by
  intro Q Q' s kn kx h
  obtain ⟨r5, w5⟩ := s
  simp only [k100_s3, u004, u003]
def k100_c (Q : Type) (F : Nat) (b0 : List Int) (k : (List (List Int)) → Option Q) : Option Q :=
    let z_1 := (k100_l3 F b0 (0 : Int) ([] : List (List Int)))
    bif (Option.isSome z_1) then
    k (Option.getD z_1 default)
    else none
def k100_p (F : Nat) (b0 : List Int) : Option (List (List Int)) := k100_c _ F b0 some
theorem k100_cp (Q : Type) (F : Nat) (b0 : List Int) (k : (List (List Int)) → Option Q) : k100_c Q F b0 k = (k100_p F b0).bind k := by
  simp only [k100_p, k100_c, u004, u003, u008]
def k44_c (Q : Type) (F : Nat) (j2 : List Int) (k : (List Int) → Option Q) : Option Q :=
    let z_1 := (k65_p F j2 (0 : Int) (0 : Int))
    let z_2 := (Option.getD z_1 default)
    let z_3 := (k100_p F z_2.1)
    let z_4 := (k99_p F z_2.1)
    let z_5 : Nat := (List.length (Option.getD z_3 default))
    let z_6 : Int := ((z_5 : Nat) : Int)
    let z_7 := (k67_p z_6 j2 z_2.2.2.1 z_2.2.2.2)
    let z_8 := (Option.getD z_7 default)
    let z_9 := (k67_p (2 : Int) j2 z_8.2.1 z_8.2.2)
    let z_10 := (k124_p z_2.1 (rget (Option.getD z_3 default) ((0 : Nat) + (Int.toNat z_8.1))) (IntKind.wrap .i64 ((1 : Int) + (Option.getD z_9 default).1)))
    bif (Option.isSome z_1) then
    bif (Option.isSome z_3) then
    bif (Option.isSome z_4) then
    bif (Option.getD z_4 default) then
    bif (decide ((0 : Int) < z_6)) then
    bif (Option.isSome z_7) then
    bif (inR z_8.1 z_5) then
    bif (Option.isSome z_9) then
    bif (Option.isSome z_10) then
    k (Option.getD z_10 default)
    else none
    else none
    else none
    else none
    else k z_2.1
    else k z_2.1
    else none
    else none
    else none
def k44_p (F : Nat) (j2 : List Int) : Option (List Int) := k44_c _ F j2 some
theorem k44_cp (Q : Type) (F : Nat) (j2 : List Int) (k : (List Int) → Option Q) : k44_c Q F j2 k = (k44_p F j2).bind k := by
  simp only [k44_p, k44_c, u004, u003, u008]
end Go.Lv.P
