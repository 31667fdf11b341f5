/-
Pure functions and what the code of them does, by program; without conditions.
-/
import Derived.Test.YtabfliifleonaaiQiP0
namespace Go.Lv.P
open Go Go.Lv
set_option linter.unusedVariables false
set_option linter.unusedSimpArgs false
set_option maxRecDepth 100000
/-- loop 6 of (*loop.example/g01194/spec.l1Cur).board -/
def spec_l1Cur_board_s6 (F : Nat) (few9 : Bool) (full10 : Bool) (r11 : Int) (c13 : List Int) (Q : Type) : (Int × Int × Int × List Int) → ((Int × Int × Int × List Int) → Option Q) → ((Int × Int × List Int) → Option Q) → Option Q
  | (k12, c14, c15, b17), kn, kx =>
    let z_1 := (spec_l1Cur_tile_p c13 c14 c15)
    let z_2 := (Option.getD z_1 default)
    let z_3 := (spec_l1Cur_one_p (3 : Int) c13 z_2.2.1 z_2.2.2)
    let z_4 := (Option.getD z_3 default)
    let z_5 := (spec_l1Cur_pick_p (3 : Int) c13 z_4.2.1 z_4.2.2)
    let z_6 : Bool := (Option.isSome z_5)
    let z_7 : Int := (IntKind.wrap .i64 (k12 + (1 : Int)))
    let z_8 := (Option.getD z_5 default)
    let z_9 : Nat := (((0 : Nat) + ((Int.toNat r11) * (4 : Nat))) + ((Int.toNat k12) * (1 : Nat)))
    let z_10 : List Int := (iset b17 z_9 (IntKind.wrap .i64 ((1 : Int) + z_8.1)))
    let z_11 : Bool := (z_2.1 == (0 : Int))
    let z_12 : List Int := (iset b17 z_9 z_2.1)
    let z_13 := (spec_l1Cur_pick_p (3 : Int) c13 z_2.2.1 z_2.2.2)
    let z_14 := (Option.getD z_13 default)
    bif (decide (k12 < (4 : Int))) then
    bif (Option.isSome z_1) then
    bif few9 then
    bif (Option.isSome z_3) then
    bif (!z_4.1) then
    bif full10 then
    bif z_6 then
    bif (inR r11 4) then
    bif (inR k12 4) then
    kn (z_7, z_8.2.1, z_8.2.2, z_10)
    else none
    else none
    else none
    else bif (inR r11 4) then
    bif (inR k12 4) then
    kn (z_7, z_4.2.1, z_4.2.2, (iset b17 z_9 (0 : Int)))
    else none
    else none
    else bif full10 then
    bif z_11 then
    bif z_6 then
    bif (inR r11 4) then
    bif (inR k12 4) then
    kn (z_7, z_8.2.1, z_8.2.2, z_10)
    else none
    else none
    else none
    else bif (inR r11 4) then
    bif (inR k12 4) then
    kn (z_7, z_4.2.1, z_4.2.2, z_12)
    else none
    else none
    else bif (inR r11 4) then
    bif (inR k12 4) then
    kn (z_7, z_4.2.1, z_4.2.2, z_12)
    else none
    else none
    else none
    else bif full10 then
    bif z_11 then
    bif (Option.isSome z_13) then
    bif (inR r11 4) then
    bif (inR k12 4) then
    kn (z_7, z_14.2.1, z_14.2.2, (iset b17 z_9 (IntKind.wrap .i64 ((1 : Int) + z_14.1))))
    else none
    else none
    else none
    else bif (inR r11 4) then
    bif (inR k12 4) then
    kn (z_7, z_2.2.1, z_2.2.2, z_12)
    else none
    else none
    else bif (inR r11 4) then
    bif (inR k12 4) then
    kn (z_7, z_2.2.1, z_2.2.2, z_12)
    else none
    else none
    else none
    else kx (c14, c15, b17)
def spec_l1Cur_board_l6 (F : Nat) (few9 : Bool) (full10 : Bool) (r11 : Int) (c13 : List Int) (k12 : Int) (c14 : Int) (c15 : Int) (b17 : List Int) : Option (Int × Int × List Int) := loopC (spec_l1Cur_board_s6 F few9 full10 r11 c13) F (k12, c14, c15, b17) some
theorem spec_l1Cur_board_s6_nat (F : Nat) (few9 : Bool) (full10 : Bool) (r11 : Int) (c13 : List Int) : Natural (spec_l1Cur_board_s6 F few9 full10 r11 c13) := by
  intro Q Q' s kn kx h
  obtain ⟨k12, c14, c15, b17⟩ := s
  simp only [spec_l1Cur_board_s6, cond_bindL, none_bindL]
/-- loop 3 of (*loop.example/g01194/spec.l1Cur).board -/
def spec_l1Cur_board_s3 (F : Nat) (few9 : Bool) (full10 : Bool) (c12 : List Int) (Q : Type) : (Int × Int × Int × List Int) → ((Int × Int × Int × List Int) → Option Q) → ((Int × Int × List Int) → Option Q) → Option Q
  | (r11, c13, c14, b16), kn, kx =>
    let z_1 := (spec_l1Cur_board_l6 F few9 full10 r11 c12 (0 : Int) c13 c14 b16)
    let z_2 := (Option.getD z_1 default)
    bif (decide (r11 < (4 : Int))) then
    bif (Option.isSome z_1) then
    kn ((IntKind.wrap .i64 (r11 + (1 : Int))), z_2.1, z_2.2.1, z_2.2.2)
    else none
    else kx (c13, c14, b16)
def spec_l1Cur_board_l3 (F : Nat) (few9 : Bool) (full10 : Bool) (c12 : List Int) (r11 : Int) (c13 : Int) (c14 : Int) (b16 : List Int) : Option (Int × Int × List Int) := loopC (spec_l1Cur_board_s3 F few9 full10 c12) F (r11, c13, c14, b16) some
theorem spec_l1Cur_board_s3_nat (F : Nat) (few9 : Bool) (full10 : Bool) (c12 : List Int) : Natural (spec_l1Cur_board_s3 F few9 full10 c12) := by
  intro Q Q' s kn kx h
  obtain ⟨r11, c13, c14, b16⟩ := s
  simp only [spec_l1Cur_board_s3, cond_bindL, none_bindL]
/-- loop 29 of (*loop.example/g01194/spec.l1Cur).board -/
def spec_l1Cur_board_s29 (F : Nat) (r9 : Int) (c11 : List Int) (Q : Type) : (Int × Int × Int × List Int) → ((Int × Int × Int × List Int) → Option Q) → ((Int × Int × List Int) → Option Q) → Option Q
  | (k10, c12, c13, b15), kn, kx =>
    let z_1 := (spec_l1Cur_pick_p (12 : Int) c11 c12 c13)
    let z_2 := (Option.getD z_1 default)
    bif (decide (k10 < (4 : Int))) then
    bif (Option.isSome z_1) then
    bif (inR r9 4) then
    bif (inR k10 4) then
    kn ((IntKind.wrap .i64 (k10 + (1 : Int))), z_2.2.1, z_2.2.2, (iset b15 (((0 : Nat) + ((Int.toNat r9) * (4 : Nat))) + ((Int.toNat k10) * (1 : Nat))) (IntKind.wrap .i64 ((IntKind.wrap .i64 ((1 : Int) + (Int.tmod (IntKind.wrap .i64 (r9 + k10)) (2 : Int)))) + (IntKind.wrap .i64 (Int.tdiv (IntKind.wrap .i64 ((2 : Int) * z_2.1)) (11 : Int)))))))
    else none
    else none
    else none
    else kx (c12, c13, b15)
def spec_l1Cur_board_l29 (F : Nat) (r9 : Int) (c11 : List Int) (k10 : Int) (c12 : Int) (c13 : Int) (b15 : List Int) : Option (Int × Int × List Int) := loopC (spec_l1Cur_board_s29 F r9 c11) F (k10, c12, c13, b15) some
theorem spec_l1Cur_board_s29_nat (F : Nat) (r9 : Int) (c11 : List Int) : Natural (spec_l1Cur_board_s29 F r9 c11) := by
  intro Q Q' s kn kx h
  obtain ⟨k10, c12, c13, b15⟩ := s
  simp only [spec_l1Cur_board_s29, cond_bindL, none_bindL]
/-- loop 26 of (*loop.example/g01194/spec.l1Cur).board -/
def spec_l1Cur_board_s26 (F : Nat) (c10 : List Int) (Q : Type) : (Int × Int × Int × List Int) → ((Int × Int × Int × List Int) → Option Q) → ((Int × Int × List Int) → Option Q) → Option Q
  | (r9, c11, c12, b14), kn, kx =>
    let z_1 := (spec_l1Cur_board_l29 F r9 c10 (0 : Int) c11 c12 b14)
    let z_2 := (Option.getD z_1 default)
    bif (decide (r9 < (4 : Int))) then
    bif (Option.isSome z_1) then
    kn ((IntKind.wrap .i64 (r9 + (1 : Int))), z_2.1, z_2.2.1, z_2.2.2)
    else none
    else kx (c11, c12, b14)
def spec_l1Cur_board_l26 (F : Nat) (c10 : List Int) (r9 : Int) (c11 : Int) (c12 : Int) (b14 : List Int) : Option (Int × Int × List Int) := loopC (spec_l1Cur_board_s26 F c10) F (r9, c11, c12, b14) some
theorem spec_l1Cur_board_s26_nat (F : Nat) (c10 : List Int) : Natural (spec_l1Cur_board_s26 F c10) := by
  intro Q Q' s kn kx h
  obtain ⟨r9, c11, c12, b14⟩ := s
  simp only [spec_l1Cur_board_s26, cond_bindL, none_bindL]
/-- (*loop.example/g01194/spec.l1Cur).board -/
def spec_l1Cur_board_c (Q : Type) (F : Nat) (c3 : List Int) (c4 : Int) (c5 : Int) (k : (List Int × Int × Int) → Option Q) : Option Q :=
    let z_1 := (spec_l1Cur_one_p (4 : Int) c3 c4 c5)
    let z_2 := (Option.getD z_1 default)
    let z_3 := (spec_l1Cur_one_p (4 : Int) c3 z_2.2.1 z_2.2.2)
    let z_4 := (Option.getD z_3 default)
    let z_5 : List Int := [(0 : Int), (0 : Int), (0 : Int), (0 : Int), (0 : Int), (0 : Int), (0 : Int), (0 : Int), (0 : Int), (0 : Int), (0 : Int), (0 : Int), (0 : Int), (0 : Int), (0 : Int), (0 : Int)]
    let z_6 := (spec_l1Cur_board_l3 F z_2.1 z_4.1 c3 (0 : Int) z_4.2.1 z_4.2.2 z_5)
    let z_7 := (Option.getD z_6 default)
    let z_8 := (spec_l1Cur_pick_p (40 : Int) c3 z_7.1 z_7.2.1)
    let z_9 := (Option.getD z_8 default)
    let z_10 := (spec_l1Cur_pick_p (4 : Int) c3 z_9.2.1 z_9.2.2)
    let z_11 := (Option.getD z_10 default)
    let z_12 := (spec_l1Cur_pick_p (4 : Int) c3 z_11.2.1 z_11.2.2)
    let z_13 := (Option.getD z_12 default)
    let z_14 := (spec_l1Cur_among_p [(-1 : Int), (18 : Int), (4611686018427387904 : Int)] c3 z_13.2.1 z_13.2.2)
    let z_15 := (Option.getD z_14 default)
    let z_16 : Bool := (z_9.1 == (1 : Int))
    let z_17 := (spec_l1Cur_among_p [(16 : Int), (17 : Int), (16 : Int)] c3 z_9.2.1 z_9.2.2)
    let z_18 : Bool := (Option.isSome z_17)
    let z_19 := (Option.getD z_17 default)
    let z_20 := (spec_l1Cur_pick_p (3 : Int) c3 z_19.2.1 z_19.2.2)
    let z_21 : Bool := (Option.isSome z_20)
    let z_22 := (Option.getD z_20 default)
    let z_23 := (spec_l1Cur_pick_p (4 : Int) c3 z_22.2.1 z_22.2.2)
    let z_24 : Bool := (Option.isSome z_23)
    let z_25 := (Option.getD z_23 default)
    let z_26 := (spec_l1Cur_pick_p (2 : Int) c3 z_25.2.1 z_25.2.2)
    let z_27 : Bool := (Option.isSome z_26)
    let z_28 : Bool := (inR z_25.1 4)
    let z_29 := (Option.getD z_26 default)
    let z_30 : List Int := (splicen 16 z_7.2.2 ((0 : Nat) + ((Int.toNat z_25.1) * (4 : Nat))) [z_19.1, z_19.1, (IntKind.wrap .i64 ((16 : Int) + z_29.1)), z_22.1] 4)
    let z_31 : Bool := (z_9.1 == (3 : Int))
    let z_32 : Bool := (z_9.1 == (4 : Int))
    let z_33 := (spec_l1Cur_board_l26 F c3 (0 : Int) z_9.2.1 z_9.2.2 z_7.2.2)
    let z_34 : Bool := (Option.isSome z_33)
    let z_35 := (Option.getD z_33 default)
    bif (Option.isSome z_1) then
    bif (Option.isSome z_3) then
    bif (Option.isSome z_6) then
    bif (Option.isSome z_8) then
    bif (z_9.1 == (0 : Int)) then
    bif (Option.isSome z_10) then
    bif (Option.isSome z_12) then
    bif (Option.isSome z_14) then
    bif (inR z_11.1 4) then
    bif (inR z_13.1 4) then
    k ((iset z_7.2.2 (((0 : Nat) + ((Int.toNat z_11.1) * (4 : Nat))) + ((Int.toNat z_13.1) * (1 : Nat))) z_15.1), z_15.2.1, z_15.2.2)
    else none
    else none
    else none
    else none
    else none
    else bif z_16 then
    bif z_16 then
    bif z_18 then
    bif z_21 then
    bif z_24 then
    bif z_27 then
    bif z_28 then
    k (z_30, z_29.2.1, z_29.2.2)
    else none
    else none
    else none
    else none
    else none
    else bif z_31 then
    k (z_5, z_9.2.1, z_9.2.2)
    else bif z_32 then
    bif z_34 then
    k (z_35.2.2, z_35.1, z_35.2.1)
    else none
    else k (z_7.2.2, z_9.2.1, z_9.2.2)
    else bif (z_9.1 == (2 : Int)) then
    bif z_18 then
    bif z_21 then
    bif z_24 then
    bif z_27 then
    bif z_28 then
    k (z_30, z_29.2.1, z_29.2.2)
    else none
    else none
    else none
    else none
    else none
    else bif z_31 then
    k (z_5, z_9.2.1, z_9.2.2)
    else bif z_32 then
    bif z_34 then
    k (z_35.2.2, z_35.1, z_35.2.1)
    else none
    else k (z_7.2.2, z_9.2.1, z_9.2.2)
    else none
    else none
    else none
    else none
def spec_l1Cur_board_p (F : Nat) (c3 : List Int) (c4 : Int) (c5 : Int) : Option (List Int × Int × Int) := spec_l1Cur_board_c _ F c3 c4 c5 some
theorem spec_l1Cur_board_cp (Q : Type) (F : Nat) (c3 : List Int) (c4 : Int) (c5 : Int) (k : (List Int × Int × Int) → Option Q) : spec_l1Cur_board_c Q F c3 c4 c5 k = (spec_l1Cur_board_p F c3 c4 c5).bind k := by
  simp only [spec_l1Cur_board_p, spec_l1Cur_board_c, cond_bindL, none_bindL, some_bindL]

/-- loop 5 of loop.example/g01194/spec.l2Board -/
def spec_l2Board_s5 (F : Nat) (r3 : Int) (b5 : List Int) (Q : Type) : (Int) → ((Int) → Option Q) → ((Bool) → Option Q) → Option Q
  | c4, kn, kx =>
    bif (decide (c4 < (4 : Int))) then
    bif (inR r3 4) then
    bif (inR c4 4) then
    bif (!(spec_l1In_v (iget b5 (((0 : Nat) + ((Int.toNat r3) * (4 : Nat))) + ((Int.toNat c4) * (1 : Nat)))) (0 : Int) (17 : Int))) then
    kx true
    else kn (IntKind.wrap .i64 (c4 + (1 : Int)))
    else none
    else none
    else kx false
def spec_l2Board_l5 (F : Nat) (r3 : Int) (b5 : List Int) (c4 : Int) : Option (Bool) := loopC (spec_l2Board_s5 F r3 b5) F c4 some
theorem spec_l2Board_s5_nat (F : Nat) (r3 : Int) (b5 : List Int) : Natural (spec_l2Board_s5 F r3 b5) := by
  intro Q Q' s kn kx h
  simp only [spec_l2Board_s5, cond_bindL, none_bindL]
/-- loop 2 of loop.example/g01194/spec.l2Board -/
def spec_l2Board_s2 (F : Nat) (b4 : List Int) (Q : Type) : (Int) → ((Int) → Option Q) → ((Bool) → Option Q) → Option Q
  | r3, kn, kx =>
    let z_1 := (spec_l2Board_l5 F r3 b4 (0 : Int))
    bif (decide (r3 < (4 : Int))) then
    bif (Option.isSome z_1) then
    bif (Option.getD z_1 default) then
    kx true
    else kn (IntKind.wrap .i64 (r3 + (1 : Int)))
    else none
    else kx false
def spec_l2Board_l2 (F : Nat) (b4 : List Int) (r3 : Int) : Option (Bool) := loopC (spec_l2Board_s2 F b4) F r3 some
theorem spec_l2Board_s2_nat (F : Nat) (b4 : List Int) : Natural (spec_l2Board_s2 F b4) := by
  intro Q Q' s kn kx h
  simp only [spec_l2Board_s2, cond_bindL, none_bindL]
/-- loop.example/g01194/spec.l2Board -/
def spec_l2Board_c (Q : Type) (F : Nat) (b0 : List Int) (k : (Bool) → Option Q) : Option Q :=
    let z_1 := (spec_l2Board_l2 F b0 (0 : Int))
    bif (Option.isSome z_1) then
    bif (Option.getD z_1 default) then
    k false
    else k true
    else none
def spec_l2Board_p (F : Nat) (b0 : List Int) : Option (Bool) := spec_l2Board_c _ F b0 some
theorem spec_l2Board_cp (Q : Type) (F : Nat) (b0 : List Int) (k : (Bool) → Option Q) : spec_l2Board_c Q F b0 k = (spec_l2Board_p F b0).bind k := by
  simp only [spec_l2Board_p, spec_l2Board_c, cond_bindL, none_bindL, some_bindL]

/-- loop 5 of loop.example/g01194/spec.CountTiles -/
def spec_CountTiles_s5 (F : Nat) (b10 : List Int) (Q : Type) : (Int × List Int) → ((Int × List Int) → Option Q) → ((List Int) → Option Q) → Option Q
  | (r9, out12), kn, kx =>
    let z_1 : Nat := ((0 : Nat) + ((Int.toNat r9) * (4 : Nat)))
    let z_2 : Int := (iget b10 z_1)
    let z_3 : Bool := (inR z_2 18)
    let z_4 : Int := (iget b10 (z_1 + (1 : Nat)))
    let z_5 : Bool := (inR z_4 18)
    let z_6 : Int := (iget b10 (z_1 + (2 : Nat)))
    let z_7 : Bool := (inR z_6 18)
    let z_8 : Int := (iget b10 (z_1 + (3 : Nat)))
    let z_9 : Bool := (inR z_8 18)
    let z_10 : Nat := ((0 : Nat) + ((Int.toNat z_2) * (1 : Nat)))
    let z_11 : List Int := (iset out12 z_10 (IntKind.wrap .i64 ((iget out12 z_10) + (1 : Int))))
    let z_12 : Nat := ((0 : Nat) + ((Int.toNat z_4) * (1 : Nat)))
    let z_13 : List Int := (iset z_11 z_12 (IntKind.wrap .i64 ((iget z_11 z_12) + (1 : Int))))
    let z_14 : Nat := ((0 : Nat) + ((Int.toNat z_6) * (1 : Nat)))
    let z_15 : List Int := (iset z_13 z_14 (IntKind.wrap .i64 ((iget z_13 z_14) + (1 : Int))))
    let z_16 : Nat := ((0 : Nat) + ((Int.toNat z_8) * (1 : Nat)))
    bif (decide (r9 < (4 : Int))) then
    bif (inR r9 4) then
    bif z_3 then
    bif z_3 then
    bif (inR r9 4) then
    bif z_5 then
    bif z_5 then
    bif (inR r9 4) then
    bif z_7 then
    bif z_7 then
    bif (inR r9 4) then
    bif z_9 then
    bif z_9 then
    kn ((IntKind.wrap .i64 (r9 + (1 : Int))), (iset z_15 z_16 (IntKind.wrap .i64 ((iget z_15 z_16) + (1 : Int)))))
    else none
    else none
    else none
    else none
    else none
    else none
    else none
    else none
    else none
    else none
    else none
    else none
    else kx out12
def spec_CountTiles_l5 (F : Nat) (b10 : List Int) (r9 : Int) (out12 : List Int) : Option (List Int) := loopC (spec_CountTiles_s5 F b10) F (r9, out12) some
theorem spec_CountTiles_s5_nat (F : Nat) (b10 : List Int) : Natural (spec_CountTiles_s5 F b10) := by
  intro Q Q' s kn kx h
  obtain ⟨r9, out12⟩ := s
  simp only [spec_CountTiles_s5, cond_bindL, none_bindL]
/-- loop.example/g01194/spec.CountTiles -/
def spec_CountTiles_c (Q : Type) (F : Nat) (b0 : List Int) (k : (List Int × Bool) → Option Q) : Option Q :=
    let z_1 := (spec_l2Board_p F b0)
    let z_2 : List Int := [(0 : Int), (0 : Int), (0 : Int), (0 : Int), (0 : Int), (0 : Int), (0 : Int), (0 : Int), (0 : Int), (0 : Int), (0 : Int), (0 : Int), (0 : Int), (0 : Int), (0 : Int), (0 : Int), (0 : Int), (0 : Int)]
    let z_3 := (spec_CountTiles_l5 F b0 (0 : Int) z_2)
    bif (Option.isSome z_1) then
    bif (!(Option.getD z_1 default)) then
    k (z_2, false)
    else bif (Option.isSome z_3) then
    k ((Option.getD z_3 default), true)
    else none
    else none
def spec_CountTiles_p (F : Nat) (b0 : List Int) : Option (List Int × Bool) := spec_CountTiles_c _ F b0 some
theorem spec_CountTiles_cp (Q : Type) (F : Nat) (b0 : List Int) (k : (List Int × Bool) → Option Q) : spec_CountTiles_c Q F b0 k = (spec_CountTiles_p F b0).bind k := by
  simp only [spec_CountTiles_p, spec_CountTiles_c, cond_bindL, none_bindL, some_bindL]

/-- loop.example/g01194/spec.l2Put -/
def spec_l2Put_c (Q : Type) (b0 : List Int) (cell1 : List Int) (t2 : Int) (k : (List Int) → Option Q) : Option Q :=
    bif (inR (iget cell1 0) 4) then
    bif (inR (iget cell1 1) 4) then
    k (iset b0 (((0 : Nat) + ((Int.toNat (iget cell1 0)) * (4 : Nat))) + ((Int.toNat (iget cell1 1)) * (1 : Nat))) t2)
    else none
    else none
def spec_l2Put_p (b0 : List Int) (cell1 : List Int) (t2 : Int) : Option (List Int) := spec_l2Put_c _ b0 cell1 t2 some
theorem spec_l2Put_cp (Q : Type) (b0 : List Int) (cell1 : List Int) (t2 : Int) (k : (List Int) → Option Q) : spec_l2Put_c Q b0 cell1 t2 k = (spec_l2Put_p b0 cell1 t2).bind k := by
  simp only [spec_l2Put_p, spec_l2Put_c, cond_bindL, none_bindL, some_bindL]

/-- loop 9 of loop.example/g01194/spec.SnakeBoard -/
def spec_SnakeBoard_s9 (F : Nat) (t13 : Int) (counts16 : List Int) (path18 : List Int) (Q : Type) : (Int × Int × List Int) → ((Int × Int × List Int) → Option Q) → ((Int × List Int) → Option Q) → Option Q
  | (n12, i14, out17), kn, kx =>
    let z_1 := (spec_l2Put_p out17 (subn 32 path18 ((0 : Nat) + ((Int.toNat n12) * (2 : Nat))) 2) t13)
    bif (inR t13 18) then
    bif (decide (i14 < (iget counts16 ((0 : Nat) + ((Int.toNat t13) * (1 : Nat)))))) then
    bif (inR n12 16) then
    bif (Option.isSome z_1) then
    kn ((IntKind.wrap .i64 (n12 + (1 : Int))), (IntKind.wrap .i64 (i14 + (1 : Int))), (Option.getD z_1 default))
    else none
    else none
    else kx (n12, out17)
    else none
def spec_SnakeBoard_l9 (F : Nat) (t13 : Int) (counts16 : List Int) (path18 : List Int) (n12 : Int) (i14 : Int) (out17 : List Int) : Option (Int × List Int) := loopC (spec_SnakeBoard_s9 F t13 counts16 path18) F (n12, i14, out17) some
theorem spec_SnakeBoard_s9_nat (F : Nat) (t13 : Int) (counts16 : List Int) (path18 : List Int) : Natural (spec_SnakeBoard_s9 F t13 counts16 path18) := by
  intro Q Q' s kn kx h
  obtain ⟨n12, i14, out17⟩ := s
  simp only [spec_SnakeBoard_s9, cond_bindL, none_bindL]
/-- loop 6 of loop.example/g01194/spec.SnakeBoard -/
def spec_SnakeBoard_s6 (F : Nat) (counts15 : List Int) (path17 : List Int) (Q : Type) : (Int × Int × List Int) → ((Int × Int × List Int) → Option Q) → ((List Int) → Option Q) → Option Q
  | (n12, t13, out16), kn, kx =>
    let z_1 := (spec_SnakeBoard_l9 F t13 counts15 path17 n12 (0 : Int) out16)
    let z_2 := (Option.getD z_1 default)
    bif (decide ((0 : Int) < t13)) then
    bif (Option.isSome z_1) then
    kn (z_2.1, (IntKind.wrap .i64 (t13 - (1 : Int))), z_2.2)
    else none
    else kx out16
def spec_SnakeBoard_l6 (F : Nat) (counts15 : List Int) (path17 : List Int) (n12 : Int) (t13 : Int) (out16 : List Int) : Option (List Int) := loopC (spec_SnakeBoard_s6 F counts15 path17) F (n12, t13, out16) some
theorem spec_SnakeBoard_s6_nat (F : Nat) (counts15 : List Int) (path17 : List Int) : Natural (spec_SnakeBoard_s6 F counts15 path17) := by
  intro Q Q' s kn kx h
  obtain ⟨n12, t13, out16⟩ := s
  simp only [spec_SnakeBoard_s6, cond_bindL, none_bindL]
/-- loop.example/g01194/spec.SnakeBoard -/
def spec_SnakeBoard_c (Q : Type) (F : Nat) (b0 : List Int) (k1 : Int) (k : (List Int × Bool) → Option Q) : Option Q :=
    let z_1 := (spec_CountTiles_p F b0)
    let z_2 := (Option.getD z_1 default)
    let z_3 : List Int := [(0 : Int), (0 : Int), (0 : Int), (0 : Int), (0 : Int), (0 : Int), (0 : Int), (0 : Int), (0 : Int), (0 : Int), (0 : Int), (0 : Int), (0 : Int), (0 : Int), (0 : Int), (0 : Int)]
    let z_4 := (spec_l7Snake_p F k1)
    let z_5 := (spec_SnakeBoard_l6 F z_2.1 (Option.getD z_4 default) (0 : Int) (17 : Int) z_3)
    bif (Option.isSome z_1) then
    bif (!z_2.2) then
    k (z_3, false)
    else bif (!(spec_l3Form_v k1)) then
    k (z_3, false)
    else bif (Option.isSome z_4) then
    bif (Option.isSome z_5) then
    k ((Option.getD z_5 default), true)
    else none
    else none
    else none
def spec_SnakeBoard_p (F : Nat) (b0 : List Int) (k1 : Int) : Option (List Int × Bool) := spec_SnakeBoard_c _ F b0 k1 some
theorem spec_SnakeBoard_cp (Q : Type) (F : Nat) (b0 : List Int) (k1 : Int) (k : (List Int × Bool) → Option Q) : spec_SnakeBoard_c Q F b0 k1 k = (spec_SnakeBoard_p F b0 k1).bind k := by
  simp only [spec_SnakeBoard_p, spec_SnakeBoard_c, cond_bindL, none_bindL, some_bindL]

/-- loop.example/g01194/spec.DrawSnakesOf -/
def spec_DrawSnakesOf_c (Q : Type) (F : Nat) (code0 : List Int) (k : (List Int) → Option Q) : Option Q :=
    let z_1 := (spec_l1Cur_board_p F code0 (0 : Int) (0 : Int))
    let z_2 := (Option.getD z_1 default)
    let z_3 := (spec_l1Cur_pick_p (8 : Int) code0 z_2.2.1 z_2.2.2)
    let z_4 := (Option.getD z_3 default)
    let z_5 := (spec_SnakeBoard_p F z_2.1 z_4.1)
    let z_6 := (Option.getD z_5 default)
    let z_7 := (spec_l1Cur_one_p (3 : Int) code0 z_4.2.1 z_4.2.2)
    let z_8 := (Option.getD z_7 default)
    let z_9 := (spec_l1Cur_one_p (3 : Int) code0 z_8.2.1 z_8.2.2)
    let z_10 := (Option.getD z_9 default)
    let z_11 := (spec_l1Cur_pick_p (4 : Int) code0 z_10.2.1 z_10.2.2)
    let z_12 := (Option.getD z_11 default)
    let z_13 := (spec_l1Cur_pick_p (4 : Int) code0 z_12.2.1 z_12.2.2)
    let z_14 := (Option.getD z_13 default)
    let z_15 := (spec_l1Cur_pick_p (3 : Int) code0 z_14.2.1 z_14.2.2)
    let z_16 := (spec_l2Put_p z_6.1 [z_12.1, z_14.1] (Option.getD z_15 default).1)
    bif (Option.isSome z_1) then
    bif (Option.isSome z_3) then
    bif (Option.isSome z_5) then
    bif z_6.2 then
    bif (Option.isSome z_7) then
    bif (!z_8.1) then
    bif (Option.isSome z_9) then
    bif z_10.1 then
    bif (Option.isSome z_11) then
    bif (Option.isSome z_13) then
    bif (Option.isSome z_15) then
    bif (Option.isSome z_16) then
    k (Option.getD z_16 default)
    else none
    else none
    else none
    else none
    else k z_6.1
    else none
    else k z_2.1
    else none
    else k z_2.1
    else none
    else none
    else none
def spec_DrawSnakesOf_p (F : Nat) (code0 : List Int) : Option (List Int) := spec_DrawSnakesOf_c _ F code0 some
theorem spec_DrawSnakesOf_cp (Q : Type) (F : Nat) (code0 : List Int) (k : (List Int) → Option Q) : spec_DrawSnakesOf_c Q F code0 k = (spec_DrawSnakesOf_p F code0).bind k := by
  simp only [spec_DrawSnakesOf_p, spec_DrawSnakesOf_c, cond_bindL, none_bindL, some_bindL]

/-- loop.example/g01194/impl.IsRow$1 -/
def impl_IsRow_f1_c (Q : Type) (n0 : Int) (k : (Bool) → Option Q) : Option Q :=
    k (!(impl_in_v n0 (0 : Int) (17 : Int)))
def impl_IsRow_f1_v (n0 : Int) : Bool :=
    (!(impl_in_v n0 (0 : Int) (17 : Int)))
theorem impl_IsRow_f1_cv (Q : Type) (n0 : Int) (k : (Bool) → Option Q) : impl_IsRow_f1_c Q n0 k = k (impl_IsRow_f1_v n0) := by
  simp only [impl_IsRow_f1_c, impl_IsRow_f1_v, app_condL k]

/-- loop 2 of slices.IndexFunc[[]int,int] -/
def slices_IndexFunc_intint_impl_IsRow_f1_s2 (F : Nat) (s0 : List Int) (t71 : Int) (Q : Type) : (Int) → ((Int) → Option Q) → ((Bool × Int) → Option Q) → Option Q
  | t82, kn, kx =>
    bif (decide (t82 < t71)) then
    bif (inR t82 (List.length s0)) then
    bif (impl_IsRow_f1_v (iget s0 (Int.toNat t82))) then
    kx (true, t82)
    else kn (IntKind.wrap .i64 (t82 + (1 : Int)))
    else none
    else kx (false, default)
def slices_IndexFunc_intint_impl_IsRow_f1_l2 (F : Nat) (s0 : List Int) (t71 : Int) (t82 : Int) : Option (Bool × Int) := loopC (slices_IndexFunc_intint_impl_IsRow_f1_s2 F s0 t71) F t82 some
theorem slices_IndexFunc_intint_impl_IsRow_f1_s2_nat (F : Nat) (s0 : List Int) (t71 : Int) : Natural (slices_IndexFunc_intint_impl_IsRow_f1_s2 F s0 t71) := by
  intro Q Q' s kn kx h
  simp only [slices_IndexFunc_intint_impl_IsRow_f1_s2, cond_bindL, none_bindL]
/-- slices.IndexFunc[[]int,int] -/
def slices_IndexFunc_intint_impl_IsRow_f1_c (Q : Type) (F : Nat) (s0 : List Int) (k : (Int) → Option Q) : Option Q :=
    let z_1 := (slices_IndexFunc_intint_impl_IsRow_f1_l2 F s0 (((List.length s0) : Nat) : Int) (0 : Int))
    let z_2 := (Option.getD z_1 default)
    bif (Option.isSome z_1) then
    bif z_2.1 then
    k z_2.2
    else k (-1 : Int)
    else none
def slices_IndexFunc_intint_impl_IsRow_f1_p (F : Nat) (s0 : List Int) : Option (Int) := slices_IndexFunc_intint_impl_IsRow_f1_c _ F s0 some
theorem slices_IndexFunc_intint_impl_IsRow_f1_cp (Q : Type) (F : Nat) (s0 : List Int) (k : (Int) → Option Q) : slices_IndexFunc_intint_impl_IsRow_f1_c Q F s0 k = (slices_IndexFunc_intint_impl_IsRow_f1_p F s0).bind k := by
  simp only [slices_IndexFunc_intint_impl_IsRow_f1_p, slices_IndexFunc_intint_impl_IsRow_f1_c, cond_bindL, none_bindL, some_bindL]

/-- slices.ContainsFunc[[]int,int] -/
def slices_ContainsFunc_intint_impl_IsRow_f1_c (Q : Type) (F : Nat) (s0 : List Int) (k : (Bool) → Option Q) : Option Q :=
    let z_1 := (slices_IndexFunc_intint_impl_IsRow_f1_p F s0)
    bif (Option.isSome z_1) then
    k (decide ((0 : Int) ≤ (Option.getD z_1 default)))
    else none
def slices_ContainsFunc_intint_impl_IsRow_f1_p (F : Nat) (s0 : List Int) : Option (Bool) := slices_ContainsFunc_intint_impl_IsRow_f1_c _ F s0 some
theorem slices_ContainsFunc_intint_impl_IsRow_f1_cp (Q : Type) (F : Nat) (s0 : List Int) (k : (Bool) → Option Q) : slices_ContainsFunc_intint_impl_IsRow_f1_c Q F s0 k = (slices_ContainsFunc_intint_impl_IsRow_f1_p F s0).bind k := by
  simp only [slices_ContainsFunc_intint_impl_IsRow_f1_p, slices_ContainsFunc_intint_impl_IsRow_f1_c, cond_bindL, none_bindL, some_bindL]

/-- loop.example/g01194/impl.IsRow -/
def impl_IsRow_c (Q : Type) (F : Nat) (row0 : List Int) (k : (Bool) → Option Q) : Option Q :=
    let z_1 := (slices_ContainsFunc_intint_impl_IsRow_f1_p F (sub row0 0 4))
    bif (Option.isSome z_1) then
    k (!(Option.getD z_1 default))
    else none
def impl_IsRow_p (F : Nat) (row0 : List Int) : Option (Bool) := impl_IsRow_c _ F row0 some
theorem impl_IsRow_cp (Q : Type) (F : Nat) (row0 : List Int) (k : (Bool) → Option Q) : impl_IsRow_c Q F row0 k = (impl_IsRow_p F row0).bind k := by
  simp only [impl_IsRow_p, impl_IsRow_c, cond_bindL, none_bindL, some_bindL]
end Go.Lv.P
