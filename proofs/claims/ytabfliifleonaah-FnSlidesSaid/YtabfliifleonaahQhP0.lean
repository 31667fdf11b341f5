/-
Pure functions and what the code of them does, by program; without conditions.
-/
import Derived.Test.YtabfliifleonaahLv3
import Derived.Lib.BitFns
namespace Go.Lv.P
open Go Go.Lv
set_option linter.unusedVariables false
set_option linter.unusedSimpArgs false
set_option maxRecDepth 100000
/-- loop.example/g01194/laws.vBig -/
def laws_vBig_c (Q : Type) (code0 : List Int) (k : (Bool) → Option Q) : Option Q :=
    k (decide ((65536 : Int) < (((List.length code0) : Nat) : Int)))
def laws_vBig_v (code0 : List Int) : Bool :=
    (decide ((65536 : Int) < (((List.length code0) : Nat) : Int)))
theorem laws_vBig_cv (Q : Type) (code0 : List Int) (k : (Bool) → Option Q) : laws_vBig_c Q code0 k = k (laws_vBig_v code0) := by
  simp only [laws_vBig_c, laws_vBig_v, app_condL k]

/-- (*loop.example/g01194/spec.l1Cur).next -/
def spec_l1Cur_next_c (Q : Type) (c3 : List Int) (c4 : Int) (c5 : Int) (k : (Int × Int × Int) → Option Q) : Option Q :=
    let z_1 : Int := (IntKind.wrap .i64 (c4 + (1 : Int)))
    let z_2 : Bool := (decide (z_1 ≤ (((List.length c3) : Nat) : Int)))
    let z_3 : Int := (IntKind.wrap .i64 (iget c3 (Int.toNat c4)))
    let z_4 : Int := (IntKind.wrap .u64 (c5 * (6364136223846793005 : Int)))
    let z_5 : Int := (IntKind.wrap .u64 ((IntKind.wrap .u64 (z_4 + (IntKind.wrap .u64 z_3))) + (462197 : Int)))
    let z_6 : Int := (IntKind.wrap .u64 ((IntKind.wrap .u64 (z_4 + (0 : Int))) + (462197 : Int)))
    bif (decide (c4 < (((List.length c3) : Nat) : Int))) then
    bif (inR c4 (List.length c3)) then
    bif z_2 then
    k (z_3, z_1, z_5)
    else k ((IntKind.wrap .i64 (IntKind.wrap .u64 (((BitVec.ofInt (IntKind.bits .u64) (Int.fdiv z_5 (2 ^ (min (Int.toNat (40 : Int)) (IntKind.bits .u64)) : Int)) &&& BitVec.ofInt (IntKind.bits .u64) (255 : Int)).toNat : Nat) : Int))), z_1, z_5)
    else none
    else bif z_2 then
    k ((0 : Int), z_1, z_6)
    else k ((IntKind.wrap .i64 (IntKind.wrap .u64 (((BitVec.ofInt (IntKind.bits .u64) (Int.fdiv z_6 (2 ^ (min (Int.toNat (40 : Int)) (IntKind.bits .u64)) : Int)) &&& BitVec.ofInt (IntKind.bits .u64) (255 : Int)).toNat : Nat) : Int))), z_1, z_6)
def spec_l1Cur_next_p (c3 : List Int) (c4 : Int) (c5 : Int) : Option (Int × Int × Int) := spec_l1Cur_next_c _ c3 c4 c5 some
theorem spec_l1Cur_next_cp (Q : Type) (c3 : List Int) (c4 : Int) (c5 : Int) (k : (Int × Int × Int) → Option Q) : spec_l1Cur_next_c Q c3 c4 c5 k = (spec_l1Cur_next_p c3 c4 c5).bind k := by
  simp only [spec_l1Cur_next_p, spec_l1Cur_next_c, cond_bindL, none_bindL, some_bindL]

/-- (*loop.example/g01194/spec.l1Cur).pick -/
def spec_l1Cur_pick_c (Q : Type) (n3 : Int) (c4 : List Int) (c5 : Int) (c6 : Int) (k : (Int × Int × Int) → Option Q) : Option Q :=
    let z_1 := (spec_l1Cur_next_p c4 c5 c6)
    let z_2 := (Option.getD z_1 default)
    let z_3 := (spec_l1Cur_next_p c4 z_2.2.1 z_2.2.2)
    let z_4 := (Option.getD z_3 default)
    bif (decide (n3 ≤ (1 : Int))) then
    k ((0 : Int), c5, c6)
    else bif (Option.isSome z_1) then
    bif (decide ((200 : Int) < n3)) then
    bif (Option.isSome z_3) then
    bif (n3 == (0 : Int)) then
    none
    else k ((Int.tmod (IntKind.wrap .i64 ((IntKind.wrap .i64 (z_2.1 * (256 : Int))) + z_4.1)) n3), z_4.2.1, z_4.2.2)
    else none
    else bif (n3 == (0 : Int)) then
    none
    else k ((Int.tmod z_2.1 n3), z_2.2.1, z_2.2.2)
    else none
def spec_l1Cur_pick_p (n3 : Int) (c4 : List Int) (c5 : Int) (c6 : Int) : Option (Int × Int × Int) := spec_l1Cur_pick_c _ n3 c4 c5 c6 some
theorem spec_l1Cur_pick_cp (Q : Type) (n3 : Int) (c4 : List Int) (c5 : Int) (c6 : Int) (k : (Int × Int × Int) → Option Q) : spec_l1Cur_pick_c Q n3 c4 c5 c6 k = (spec_l1Cur_pick_p n3 c4 c5 c6).bind k := by
  simp only [spec_l1Cur_pick_p, spec_l1Cur_pick_c, cond_bindL, none_bindL, some_bindL]

/-- (*loop.example/g01194/spec.l1Cur).among -/
def spec_l1Cur_among_c (Q : Type) (list3 : List Int) (c4 : List Int) (c5 : Int) (c6 : Int) (k : (Int × Int × Int) → Option Q) : Option Q :=
    let z_1 := (spec_l1Cur_pick_p (((List.length list3) : Nat) : Int) c4 c5 c6)
    let z_2 := (Option.getD z_1 default)
    bif (Option.isSome z_1) then
    bif (inR z_2.1 (List.length list3)) then
    k ((iget list3 (Int.toNat z_2.1)), z_2.2.1, z_2.2.2)
    else none
    else none
def spec_l1Cur_among_p (list3 : List Int) (c4 : List Int) (c5 : Int) (c6 : Int) : Option (Int × Int × Int) := spec_l1Cur_among_c _ list3 c4 c5 c6 some
theorem spec_l1Cur_among_cp (Q : Type) (list3 : List Int) (c4 : List Int) (c5 : Int) (c6 : Int) (k : (Int × Int × Int) → Option Q) : spec_l1Cur_among_c Q list3 c4 c5 c6 k = (spec_l1Cur_among_p list3 c4 c5 c6).bind k := by
  simp only [spec_l1Cur_among_p, spec_l1Cur_among_c, cond_bindL, none_bindL, some_bindL]

/-- (*loop.example/g01194/spec.l1Cur).one -/
def spec_l1Cur_one_c (Q : Type) (n3 : Int) (c4 : List Int) (c5 : Int) (c6 : Int) (k : (Bool × Int × Int) → Option Q) : Option Q :=
    let z_1 := (spec_l1Cur_pick_p n3 c4 c5 c6)
    let z_2 := (Option.getD z_1 default)
    bif (Option.isSome z_1) then
    k ((z_2.1 == (0 : Int)), z_2.2.1, z_2.2.2)
    else none
def spec_l1Cur_one_p (n3 : Int) (c4 : List Int) (c5 : Int) (c6 : Int) : Option (Bool × Int × Int) := spec_l1Cur_one_c _ n3 c4 c5 c6 some
theorem spec_l1Cur_one_cp (Q : Type) (n3 : Int) (c4 : List Int) (c5 : Int) (c6 : Int) (k : (Bool × Int × Int) → Option Q) : spec_l1Cur_one_c Q n3 c4 c5 c6 k = (spec_l1Cur_one_p n3 c4 c5 c6).bind k := by
  simp only [spec_l1Cur_one_p, spec_l1Cur_one_c, cond_bindL, none_bindL, some_bindL]

/-- (*loop.example/g01194/spec.l1Cur).side -/
def spec_l1Cur_side_c (Q : Type) (c3 : List Int) (c4 : Int) (c5 : Int) (k : (Int × Int × Int) → Option Q) : Option Q :=
    let z_1 := (spec_l1Cur_one_p (40 : Int) c3 c4 c5)
    let z_2 := (Option.getD z_1 default)
    let z_3 := (spec_l1Cur_among_p [(-1 : Int), (4 : Int), (4611686018427387904 : Int)] c3 z_2.2.1 z_2.2.2)
    let z_4 := (Option.getD z_3 default)
    let z_5 := (spec_l1Cur_pick_p (4 : Int) c3 z_2.2.1 z_2.2.2)
    let z_6 := (Option.getD z_5 default)
    bif (Option.isSome z_1) then
    bif z_2.1 then
    bif (Option.isSome z_3) then
    k (z_4.1, z_4.2.1, z_4.2.2)
    else none
    else bif (Option.isSome z_5) then
    k (z_6.1, z_6.2.1, z_6.2.2)
    else none
    else none
def spec_l1Cur_side_p (c3 : List Int) (c4 : Int) (c5 : Int) : Option (Int × Int × Int) := spec_l1Cur_side_c _ c3 c4 c5 some
theorem spec_l1Cur_side_cp (Q : Type) (c3 : List Int) (c4 : Int) (c5 : Int) (k : (Int × Int × Int) → Option Q) : spec_l1Cur_side_c Q c3 c4 c5 k = (spec_l1Cur_side_p c3 c4 c5).bind k := by
  simp only [spec_l1Cur_side_p, spec_l1Cur_side_c, cond_bindL, none_bindL, some_bindL]

/-- (*loop.example/g01194/spec.l1Cur).tile -/
def spec_l1Cur_tile_c (Q : Type) (c3 : List Int) (c4 : Int) (c5 : Int) (k : (Int × Int × Int) → Option Q) : Option Q :=
    let z_1 := (spec_l1Cur_among_p [(1 : Int), (2 : Int), (0 : Int), (1 : Int), (3 : Int), (0 : Int), (2 : Int), (1 : Int), (4 : Int), (5 : Int), (0 : Int)] c3 c4 c5)
    let z_2 := (Option.getD z_1 default)
    bif (Option.isSome z_1) then
    k (z_2.1, z_2.2.1, z_2.2.2)
    else none
def spec_l1Cur_tile_p (c3 : List Int) (c4 : Int) (c5 : Int) : Option (Int × Int × Int) := spec_l1Cur_tile_c _ c3 c4 c5 some
theorem spec_l1Cur_tile_cp (Q : Type) (c3 : List Int) (c4 : Int) (c5 : Int) (k : (Int × Int × Int) → Option Q) : spec_l1Cur_tile_c Q c3 c4 c5 k = (spec_l1Cur_tile_p c3 c4 c5).bind k := by
  simp only [spec_l1Cur_tile_p, spec_l1Cur_tile_c, cond_bindL, none_bindL, some_bindL]

/-- loop 6 of (*loop.example/g01194/spec.l1Cur).board -/
def spec_l1Cur_board_s6 (F : Nat) (few9 : Bool) (full10 : Bool) (r11 : Int) (c13 : List Int) (Q : Type) : (Int × Int × Int × List Int) → ((Int × Int × Int × List Int) → Option Q) → ((Int × Int × List Int) → Option Q) → Option Q
  | (k12, c14, c15, b17), kn, kx =>
    let z_1 := (spec_l1Cur_tile_p c13 c14 c15)
    let z_2 := (Option.getD z_1 default)
    let z_3 := (spec_l1Cur_one_p (3 : Int) c13 z_2.2.1 z_2.2.2)
    let z_4 := (Option.getD z_3 default)
    let z_5 := (spec_l1Cur_pick_p (3 : Int) c13 z_4.2.1 z_4.2.2)
    let z_6 : Bool := (Option.isSome z_5)
    let z_7 : Int := (IntKind.wrap .i64 (k12 + (1 : Int)))
    let z_8 := (Option.getD z_5 default)
    let z_9 : Nat := (((0 : Nat) + ((Int.toNat r11) * (4 : Nat))) + ((Int.toNat k12) * (1 : Nat)))
    let z_10 : List Int := (iset b17 z_9 (IntKind.wrap .i64 ((1 : Int) + z_8.1)))
    let z_11 : Bool := (z_2.1 == (0 : Int))
    let z_12 : List Int := (iset b17 z_9 z_2.1)
    let z_13 := (spec_l1Cur_pick_p (3 : Int) c13 z_2.2.1 z_2.2.2)
    let z_14 := (Option.getD z_13 default)
    bif (decide (k12 < (4 : Int))) then
    bif (Option.isSome z_1) then
    bif few9 then
    bif (Option.isSome z_3) then
    bif (!z_4.1) then
    bif full10 then
    bif z_6 then
    bif (inR r11 4) then
    bif (inR k12 4) then
    kn (z_7, z_8.2.1, z_8.2.2, z_10)
    else none
    else none
    else none
    else bif (inR r11 4) then
    bif (inR k12 4) then
    kn (z_7, z_4.2.1, z_4.2.2, (iset b17 z_9 (0 : Int)))
    else none
    else none
    else bif full10 then
    bif z_11 then
    bif z_6 then
    bif (inR r11 4) then
    bif (inR k12 4) then
    kn (z_7, z_8.2.1, z_8.2.2, z_10)
    else none
    else none
    else none
    else bif (inR r11 4) then
    bif (inR k12 4) then
    kn (z_7, z_4.2.1, z_4.2.2, z_12)
    else none
    else none
    else bif (inR r11 4) then
    bif (inR k12 4) then
    kn (z_7, z_4.2.1, z_4.2.2, z_12)
    else none
    else none
    else none
    else bif full10 then
    bif z_11 then
    bif (Option.isSome z_13) then
    bif (inR r11 4) then
    bif (inR k12 4) then
    kn (z_7, z_14.2.1, z_14.2.2, (iset b17 z_9 (IntKind.wrap .i64 ((1 : Int) + z_14.1))))
    else none
    else none
    else none
    else bif (inR r11 4) then
    bif (inR k12 4) then
    kn (z_7, z_2.2.1, z_2.2.2, z_12)
    else none
    else none
    else bif (inR r11 4) then
    bif (inR k12 4) then
    kn (z_7, z_2.2.1, z_2.2.2, z_12)
    else none
    else none
    else none
    else kx (c14, c15, b17)
def spec_l1Cur_board_l6 (F : Nat) (few9 : Bool) (full10 : Bool) (r11 : Int) (c13 : List Int) (k12 : Int) (c14 : Int) (c15 : Int) (b17 : List Int) : Option (Int × Int × List Int) := loopC (spec_l1Cur_board_s6 F few9 full10 r11 c13) F (k12, c14, c15, b17) some
theorem spec_l1Cur_board_s6_nat (F : Nat) (few9 : Bool) (full10 : Bool) (r11 : Int) (c13 : List Int) : Natural (spec_l1Cur_board_s6 F few9 full10 r11 c13) := by
  intro Q Q' s kn kx h
  obtain ⟨k12, c14, c15, b17⟩ := s
  simp only [spec_l1Cur_board_s6, cond_bindL, none_bindL]
/-- loop 3 of (*loop.example/g01194/spec.l1Cur).board -/
def spec_l1Cur_board_s3 (F : Nat) (few9 : Bool) (full10 : Bool) (c12 : List Int) (Q : Type) : (Int × Int × Int × List Int) → ((Int × Int × Int × List Int) → Option Q) → ((Int × Int × List Int) → Option Q) → Option Q
  | (r11, c13, c14, b16), kn, kx =>
    let z_1 := (spec_l1Cur_board_l6 F few9 full10 r11 c12 (0 : Int) c13 c14 b16)
    let z_2 := (Option.getD z_1 default)
    bif (decide (r11 < (4 : Int))) then
    bif (Option.isSome z_1) then
    kn ((IntKind.wrap .i64 (r11 + (1 : Int))), z_2.1, z_2.2.1, z_2.2.2)
    else none
    else kx (c13, c14, b16)
def spec_l1Cur_board_l3 (F : Nat) (few9 : Bool) (full10 : Bool) (c12 : List Int) (r11 : Int) (c13 : Int) (c14 : Int) (b16 : List Int) : Option (Int × Int × List Int) := loopC (spec_l1Cur_board_s3 F few9 full10 c12) F (r11, c13, c14, b16) some
theorem spec_l1Cur_board_s3_nat (F : Nat) (few9 : Bool) (full10 : Bool) (c12 : List Int) : Natural (spec_l1Cur_board_s3 F few9 full10 c12) := by
  intro Q Q' s kn kx h
  obtain ⟨r11, c13, c14, b16⟩ := s
  simp only [spec_l1Cur_board_s3, cond_bindL, none_bindL]
/-- loop 29 of (*loop.example/g01194/spec.l1Cur).board -/
def spec_l1Cur_board_s29 (F : Nat) (r9 : Int) (c11 : List Int) (Q : Type) : (Int × Int × Int × List Int) → ((Int × Int × Int × List Int) → Option Q) → ((Int × Int × List Int) → Option Q) → Option Q
  | (k10, c12, c13, b15), kn, kx =>
    let z_1 := (spec_l1Cur_pick_p (12 : Int) c11 c12 c13)
    let z_2 := (Option.getD z_1 default)
    bif (decide (k10 < (4 : Int))) then
    bif (Option.isSome z_1) then
    bif (inR r9 4) then
    bif (inR k10 4) then
    kn ((IntKind.wrap .i64 (k10 + (1 : Int))), z_2.2.1, z_2.2.2, (iset b15 (((0 : Nat) + ((Int.toNat r9) * (4 : Nat))) + ((Int.toNat k10) * (1 : Nat))) (IntKind.wrap .i64 ((IntKind.wrap .i64 ((1 : Int) + (Int.tmod (IntKind.wrap .i64 (r9 + k10)) (2 : Int)))) + (IntKind.wrap .i64 (Int.tdiv (IntKind.wrap .i64 ((2 : Int) * z_2.1)) (11 : Int)))))))
    else none
    else none
    else none
    else kx (c12, c13, b15)
def spec_l1Cur_board_l29 (F : Nat) (r9 : Int) (c11 : List Int) (k10 : Int) (c12 : Int) (c13 : Int) (b15 : List Int) : Option (Int × Int × List Int) := loopC (spec_l1Cur_board_s29 F r9 c11) F (k10, c12, c13, b15) some
theorem spec_l1Cur_board_s29_nat (F : Nat) (r9 : Int) (c11 : List Int) : Natural (spec_l1Cur_board_s29 F r9 c11) := by
  intro Q Q' s kn kx h
  obtain ⟨k10, c12, c13, b15⟩ := s
  simp only [spec_l1Cur_board_s29, cond_bindL, none_bindL]
/-- loop 26 of (*loop.example/g01194/spec.l1Cur).board -/
def spec_l1Cur_board_s26 (F : Nat) (c10 : List Int) (Q : Type) : (Int × Int × Int × List Int) → ((Int × Int × Int × List Int) → Option Q) → ((Int × Int × List Int) → Option Q) → Option Q
  | (r9, c11, c12, b14), kn, kx =>
    let z_1 := (spec_l1Cur_board_l29 F r9 c10 (0 : Int) c11 c12 b14)
    let z_2 := (Option.getD z_1 default)
    bif (decide (r9 < (4 : Int))) then
    bif (Option.isSome z_1) then
    kn ((IntKind.wrap .i64 (r9 + (1 : Int))), z_2.1, z_2.2.1, z_2.2.2)
    else none
    else kx (c11, c12, b14)
def spec_l1Cur_board_l26 (F : Nat) (c10 : List Int) (r9 : Int) (c11 : Int) (c12 : Int) (b14 : List Int) : Option (Int × Int × List Int) := loopC (spec_l1Cur_board_s26 F c10) F (r9, c11, c12, b14) some
theorem spec_l1Cur_board_s26_nat (F : Nat) (c10 : List Int) : Natural (spec_l1Cur_board_s26 F c10) := by
  intro Q Q' s kn kx h
  obtain ⟨r9, c11, c12, b14⟩ := s
  simp only [spec_l1Cur_board_s26, cond_bindL, none_bindL]
/-- (*loop.example/g01194/spec.l1Cur).board -/
def spec_l1Cur_board_c (Q : Type) (F : Nat) (c3 : List Int) (c4 : Int) (c5 : Int) (k : (List Int × Int × Int) → Option Q) : Option Q :=
    let z_1 := (spec_l1Cur_one_p (4 : Int) c3 c4 c5)
    let z_2 := (Option.getD z_1 default)
    let z_3 := (spec_l1Cur_one_p (4 : Int) c3 z_2.2.1 z_2.2.2)
    let z_4 := (Option.getD z_3 default)
    let z_5 : List Int := [(0 : Int), (0 : Int), (0 : Int), (0 : Int), (0 : Int), (0 : Int), (0 : Int), (0 : Int), (0 : Int), (0 : Int), (0 : Int), (0 : Int), (0 : Int), (0 : Int), (0 : Int), (0 : Int)]
    let z_6 := (spec_l1Cur_board_l3 F z_2.1 z_4.1 c3 (0 : Int) z_4.2.1 z_4.2.2 z_5)
    let z_7 := (Option.getD z_6 default)
    let z_8 := (spec_l1Cur_pick_p (40 : Int) c3 z_7.1 z_7.2.1)
    let z_9 := (Option.getD z_8 default)
    let z_10 := (spec_l1Cur_pick_p (4 : Int) c3 z_9.2.1 z_9.2.2)
    let z_11 := (Option.getD z_10 default)
    let z_12 := (spec_l1Cur_pick_p (4 : Int) c3 z_11.2.1 z_11.2.2)
    let z_13 := (Option.getD z_12 default)
    let z_14 := (spec_l1Cur_among_p [(-1 : Int), (18 : Int), (4611686018427387904 : Int)] c3 z_13.2.1 z_13.2.2)
    let z_15 := (Option.getD z_14 default)
    let z_16 : Bool := (z_9.1 == (1 : Int))
    let z_17 := (spec_l1Cur_among_p [(16 : Int), (17 : Int), (16 : Int)] c3 z_9.2.1 z_9.2.2)
    let z_18 : Bool := (Option.isSome z_17)
    let z_19 := (Option.getD z_17 default)
    let z_20 := (spec_l1Cur_pick_p (3 : Int) c3 z_19.2.1 z_19.2.2)
    let z_21 : Bool := (Option.isSome z_20)
    let z_22 := (Option.getD z_20 default)
    let z_23 := (spec_l1Cur_pick_p (4 : Int) c3 z_22.2.1 z_22.2.2)
    let z_24 : Bool := (Option.isSome z_23)
    let z_25 := (Option.getD z_23 default)
    let z_26 := (spec_l1Cur_pick_p (2 : Int) c3 z_25.2.1 z_25.2.2)
    let z_27 : Bool := (Option.isSome z_26)
    let z_28 : Bool := (inR z_25.1 4)
    let z_29 := (Option.getD z_26 default)
    let z_30 : List Int := (splicen 16 z_7.2.2 ((0 : Nat) + ((Int.toNat z_25.1) * (4 : Nat))) [z_19.1, z_19.1, (IntKind.wrap .i64 ((16 : Int) + z_29.1)), z_22.1] 4)
    let z_31 : Bool := (z_9.1 == (3 : Int))
    let z_32 : Bool := (z_9.1 == (4 : Int))
    let z_33 := (spec_l1Cur_board_l26 F c3 (0 : Int) z_9.2.1 z_9.2.2 z_7.2.2)
    let z_34 : Bool := (Option.isSome z_33)
    let z_35 := (Option.getD z_33 default)
    bif (Option.isSome z_1) then
    bif (Option.isSome z_3) then
    bif (Option.isSome z_6) then
    bif (Option.isSome z_8) then
    bif (z_9.1 == (0 : Int)) then
    bif (Option.isSome z_10) then
    bif (Option.isSome z_12) then
    bif (Option.isSome z_14) then
    bif (inR z_11.1 4) then
    bif (inR z_13.1 4) then
    k ((iset z_7.2.2 (((0 : Nat) + ((Int.toNat z_11.1) * (4 : Nat))) + ((Int.toNat z_13.1) * (1 : Nat))) z_15.1), z_15.2.1, z_15.2.2)
    else none
    else none
    else none
    else none
    else none
    else bif z_16 then
    bif z_16 then
    bif z_18 then
    bif z_21 then
    bif z_24 then
    bif z_27 then
    bif z_28 then
    k (z_30, z_29.2.1, z_29.2.2)
    else none
    else none
    else none
    else none
    else none
    else bif z_31 then
    k (z_5, z_9.2.1, z_9.2.2)
    else bif z_32 then
    bif z_34 then
    k (z_35.2.2, z_35.1, z_35.2.1)
    else none
    else k (z_7.2.2, z_9.2.1, z_9.2.2)
    else bif (z_9.1 == (2 : Int)) then
    bif z_18 then
    bif z_21 then
    bif z_24 then
    bif z_27 then
    bif z_28 then
    k (z_30, z_29.2.1, z_29.2.2)
    else none
    else none
    else none
    else none
    else none
    else bif z_31 then
    k (z_5, z_9.2.1, z_9.2.2)
    else bif z_32 then
    bif z_34 then
    k (z_35.2.2, z_35.1, z_35.2.1)
    else none
    else k (z_7.2.2, z_9.2.1, z_9.2.2)
    else none
    else none
    else none
    else none
def spec_l1Cur_board_p (F : Nat) (c3 : List Int) (c4 : Int) (c5 : Int) : Option (List Int × Int × Int) := spec_l1Cur_board_c _ F c3 c4 c5 some
theorem spec_l1Cur_board_cp (Q : Type) (F : Nat) (c3 : List Int) (c4 : Int) (c5 : Int) (k : (List Int × Int × Int) → Option Q) : spec_l1Cur_board_c Q F c3 c4 c5 k = (spec_l1Cur_board_p F c3 c4 c5).bind k := by
  simp only [spec_l1Cur_board_p, spec_l1Cur_board_c, cond_bindL, none_bindL, some_bindL]

/-- loop 4 of loop.example/g01194/spec.DrawDoSlides -/
def spec_DrawDoSlides_s4 (F : Nat) (c10 : List Int) (Q : Type) : (Int × Int × Int × List Int) → ((Int × Int × Int × List Int) → Option Q) → ((Int × Int × List Int) → Option Q) → Option Q
  | (n8, c11, c12, list13), kn, kx =>
    let z_1 := (spec_l1Cur_side_p c10 c11 c12)
    let z_2 := (Option.getD z_1 default)
    let z_3 : List Int := ((subn (List.length list13) list13 0 (List.length list13)) ++ [z_2.1])
    bif (decide ((0 : Int) < n8)) then
    bif (Option.isSome z_1) then
    bif (fits (List.length z_3) 8) then
    kn ((IntKind.wrap .i64 (n8 - (1 : Int))), z_2.2.1, z_2.2.2, z_3)
    else none
    else none
    else kx (c11, c12, list13)
def spec_DrawDoSlides_l4 (F : Nat) (c10 : List Int) (n8 : Int) (c11 : Int) (c12 : Int) (list13 : List Int) : Option (Int × Int × List Int) := loopC (spec_DrawDoSlides_s4 F c10) F (n8, c11, c12, list13) some
theorem spec_DrawDoSlides_s4_nat (F : Nat) (c10 : List Int) : Natural (spec_DrawDoSlides_s4 F c10) := by
  intro Q Q' s kn kx h
  obtain ⟨n8, c11, c12, list13⟩ := s
  simp only [spec_DrawDoSlides_s4, cond_bindL, none_bindL]
/-- loop.example/g01194/spec.DrawDoSlides -/
def spec_DrawDoSlides_c (Q : Type) (F : Nat) (code0 : List Int) (k : (List Int × List Int) → Option Q) : Option Q :=
    let z_1 := (spec_l1Cur_among_p [(2 : Int), (1 : Int), (3 : Int), (4 : Int), (0 : Int), (5 : Int), (12 : Int)] code0 (0 : Int) (0 : Int))
    let z_2 := (Option.getD z_1 default)
    let z_3 := (spec_DrawDoSlides_l4 F code0 z_2.1 z_2.2.1 z_2.2.2 ([] : List Int))
    let z_4 := (Option.getD z_3 default)
    let z_5 := (spec_l1Cur_board_p F code0 z_4.1 z_4.2.1)
    bif (Option.isSome z_1) then
    bif (Option.isSome z_3) then
    bif (Option.isSome z_5) then
    k ((Option.getD z_5 default).1, z_4.2.2)
    else none
    else none
    else none
def spec_DrawDoSlides_p (F : Nat) (code0 : List Int) : Option (List Int × List Int) := spec_DrawDoSlides_c _ F code0 some
theorem spec_DrawDoSlides_cp (Q : Type) (F : Nat) (code0 : List Int) (k : (List Int × List Int) → Option Q) : spec_DrawDoSlides_c Q F code0 k = (spec_DrawDoSlides_p F code0).bind k := by
  simp only [spec_DrawDoSlides_p, spec_DrawDoSlides_c, cond_bindL, none_bindL, some_bindL]

/-- loop.example/g01194/impl.in -/
def impl_in_c (Q : Type) (n0 : Int) (low1 : Int) (high2 : Int) (k : (Bool) → Option Q) : Option Q :=
    bif (decide (low1 ≤ n0)) then
    k (decide (n0 ≤ high2))
    else k false
def impl_in_v (n0 : Int) (low1 : Int) (high2 : Int) : Bool :=
    bif (decide (low1 ≤ n0)) then
    (decide (n0 ≤ high2))
    else false
theorem impl_in_cv (Q : Type) (n0 : Int) (low1 : Int) (high2 : Int) (k : (Bool) → Option Q) : impl_in_c Q n0 low1 high2 k = k (impl_in_v n0 low1 high2) := by
  simp only [impl_in_c, impl_in_v, app_condL k]

/-- loop.example/g01194/impl.IsRow$1 -/
def impl_IsRow_f1_c (Q : Type) (n0 : Int) (k : (Bool) → Option Q) : Option Q :=
    k (!(impl_in_v n0 (0 : Int) (17 : Int)))
def impl_IsRow_f1_v (n0 : Int) : Bool :=
    (!(impl_in_v n0 (0 : Int) (17 : Int)))
theorem impl_IsRow_f1_cv (Q : Type) (n0 : Int) (k : (Bool) → Option Q) : impl_IsRow_f1_c Q n0 k = k (impl_IsRow_f1_v n0) := by
  simp only [impl_IsRow_f1_c, impl_IsRow_f1_v, app_condL k]

/-- loop 2 of slices.IndexFunc[[]int,int] -/
def slices_IndexFunc_intint_impl_IsRow_f1_s2 (F : Nat) (s0 : List Int) (t71 : Int) (Q : Type) : (Int) → ((Int) → Option Q) → ((Bool × Int) → Option Q) → Option Q
  | t82, kn, kx =>
    bif (decide (t82 < t71)) then
    bif (inR t82 (List.length s0)) then
    bif (impl_IsRow_f1_v (iget s0 (Int.toNat t82))) then
    kx (true, t82)
    else kn (IntKind.wrap .i64 (t82 + (1 : Int)))
    else none
    else kx (false, default)
def slices_IndexFunc_intint_impl_IsRow_f1_l2 (F : Nat) (s0 : List Int) (t71 : Int) (t82 : Int) : Option (Bool × Int) := loopC (slices_IndexFunc_intint_impl_IsRow_f1_s2 F s0 t71) F t82 some
theorem slices_IndexFunc_intint_impl_IsRow_f1_s2_nat (F : Nat) (s0 : List Int) (t71 : Int) : Natural (slices_IndexFunc_intint_impl_IsRow_f1_s2 F s0 t71) := by
  intro Q Q' s kn kx h
  simp only [slices_IndexFunc_intint_impl_IsRow_f1_s2, cond_bindL, none_bindL]
/-- slices.IndexFunc[[]int,int] -/
def slices_IndexFunc_intint_impl_IsRow_f1_c (Q : Type) (F : Nat) (s0 : List Int) (k : (Int) → Option Q) : Option Q :=
    let z_1 := (slices_IndexFunc_intint_impl_IsRow_f1_l2 F s0 (((List.length s0) : Nat) : Int) (0 : Int))
    let z_2 := (Option.getD z_1 default)
    bif (Option.isSome z_1) then
    bif z_2.1 then
    k z_2.2
    else k (-1 : Int)
    else none
def slices_IndexFunc_intint_impl_IsRow_f1_p (F : Nat) (s0 : List Int) : Option (Int) := slices_IndexFunc_intint_impl_IsRow_f1_c _ F s0 some
theorem slices_IndexFunc_intint_impl_IsRow_f1_cp (Q : Type) (F : Nat) (s0 : List Int) (k : (Int) → Option Q) : slices_IndexFunc_intint_impl_IsRow_f1_c Q F s0 k = (slices_IndexFunc_intint_impl_IsRow_f1_p F s0).bind k := by
  simp only [slices_IndexFunc_intint_impl_IsRow_f1_p, slices_IndexFunc_intint_impl_IsRow_f1_c, cond_bindL, none_bindL, some_bindL]

/-- slices.ContainsFunc[[]int,int] -/
def slices_ContainsFunc_intint_impl_IsRow_f1_c (Q : Type) (F : Nat) (s0 : List Int) (k : (Bool) → Option Q) : Option Q :=
    let z_1 := (slices_IndexFunc_intint_impl_IsRow_f1_p F s0)
    bif (Option.isSome z_1) then
    k (decide ((0 : Int) ≤ (Option.getD z_1 default)))
    else none
def slices_ContainsFunc_intint_impl_IsRow_f1_p (F : Nat) (s0 : List Int) : Option (Bool) := slices_ContainsFunc_intint_impl_IsRow_f1_c _ F s0 some
theorem slices_ContainsFunc_intint_impl_IsRow_f1_cp (Q : Type) (F : Nat) (s0 : List Int) (k : (Bool) → Option Q) : slices_ContainsFunc_intint_impl_IsRow_f1_c Q F s0 k = (slices_ContainsFunc_intint_impl_IsRow_f1_p F s0).bind k := by
  simp only [slices_ContainsFunc_intint_impl_IsRow_f1_p, slices_ContainsFunc_intint_impl_IsRow_f1_c, cond_bindL, none_bindL, some_bindL]

/-- loop.example/g01194/impl.IsRow -/
def impl_IsRow_c (Q : Type) (F : Nat) (row0 : List Int) (k : (Bool) → Option Q) : Option Q :=
    let z_1 := (slices_ContainsFunc_intint_impl_IsRow_f1_p F (sub row0 0 4))
    bif (Option.isSome z_1) then
    k (!(Option.getD z_1 default))
    else none
def impl_IsRow_p (F : Nat) (row0 : List Int) : Option (Bool) := impl_IsRow_c _ F row0 some
theorem impl_IsRow_cp (Q : Type) (F : Nat) (row0 : List Int) (k : (Bool) → Option Q) : impl_IsRow_c Q F row0 k = (impl_IsRow_p F row0).bind k := by
  simp only [impl_IsRow_p, impl_IsRow_c, cond_bindL, none_bindL, some_bindL]

/-- loop.example/g01194/impl.IsBoard$1 -/
def impl_IsBoard_f1_c (Q : Type) (F : Nat) (row0 : List Int) (k : (Bool) → Option Q) : Option Q :=
    let z_1 := (impl_IsRow_p F row0)
    bif (Option.isSome z_1) then
    k (!(Option.getD z_1 default))
    else none
def impl_IsBoard_f1_p (F : Nat) (row0 : List Int) : Option (Bool) := impl_IsBoard_f1_c _ F row0 some
theorem impl_IsBoard_f1_cp (Q : Type) (F : Nat) (row0 : List Int) (k : (Bool) → Option Q) : impl_IsBoard_f1_c Q F row0 k = (impl_IsBoard_f1_p F row0).bind k := by
  simp only [impl_IsBoard_f1_p, impl_IsBoard_f1_c, cond_bindL, none_bindL, some_bindL]
end Go.Lv.P
