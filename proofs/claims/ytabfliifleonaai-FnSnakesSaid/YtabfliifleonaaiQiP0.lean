/-
Pure functions and what the code of them does, by program; without conditions.
-/
import Derived.Test.YtabfliifleonaaiLv3
import Derived.Test.YtabfliifleonaaiMvOrd
namespace Go.Lv.P
open Go Go.Lv
set_option linter.unusedVariables false
set_option linter.unusedSimpArgs false
set_option maxRecDepth 100000
/-- loop.example/g01194/laws.vBig -/
def laws_vBig_c (Q : Type) (code0 : List Int) (k : (Bool) → Option Q) : Option Q :=
    k (decide ((65536 : Int) < (((List.length code0) : Nat) : Int)))
def laws_vBig_v (code0 : List Int) : Bool :=
    (decide ((65536 : Int) < (((List.length code0) : Nat) : Int)))
theorem laws_vBig_cv (Q : Type) (code0 : List Int) (k : (Bool) → Option Q) : laws_vBig_c Q code0 k = k (laws_vBig_v code0) := by
  simp only [laws_vBig_c, laws_vBig_v, app_condL k]

/-- (*loop.example/g01194/spec.l1Cur).next -/
def spec_l1Cur_next_c (Q : Type) (c3 : List Int) (c4 : Int) (c5 : Int) (k : (Int × Int × Int) → Option Q) : Option Q :=
    let z_1 : Int := (IntKind.wrap .i64 (c4 + (1 : Int)))
    let z_2 : Bool := (decide (z_1 ≤ (((List.length c3) : Nat) : Int)))
    let z_3 : Int := (IntKind.wrap .i64 (iget c3 (Int.toNat c4)))
    let z_4 : Int := (IntKind.wrap .u64 (c5 * (6364136223846793005 : Int)))
    let z_5 : Int := (IntKind.wrap .u64 ((IntKind.wrap .u64 (z_4 + (IntKind.wrap .u64 z_3))) + (462197 : Int)))
    let z_6 : Int := (IntKind.wrap .u64 ((IntKind.wrap .u64 (z_4 + (0 : Int))) + (462197 : Int)))
    bif (decide (c4 < (((List.length c3) : Nat) : Int))) then
    bif (inR c4 (List.length c3)) then
    bif z_2 then
    k (z_3, z_1, z_5)
    else k ((IntKind.wrap .i64 (IntKind.wrap .u64 (((BitVec.ofInt (IntKind.bits .u64) (Int.fdiv z_5 (2 ^ (min (Int.toNat (40 : Int)) (IntKind.bits .u64)) : Int)) &&& BitVec.ofInt (IntKind.bits .u64) (255 : Int)).toNat : Nat) : Int))), z_1, z_5)
    else none
    else bif z_2 then
    k ((0 : Int), z_1, z_6)
    else k ((IntKind.wrap .i64 (IntKind.wrap .u64 (((BitVec.ofInt (IntKind.bits .u64) (Int.fdiv z_6 (2 ^ (min (Int.toNat (40 : Int)) (IntKind.bits .u64)) : Int)) &&& BitVec.ofInt (IntKind.bits .u64) (255 : Int)).toNat : Nat) : Int))), z_1, z_6)
def spec_l1Cur_next_p (c3 : List Int) (c4 : Int) (c5 : Int) : Option (Int × Int × Int) := spec_l1Cur_next_c _ c3 c4 c5 some
theorem spec_l1Cur_next_cp (Q : Type) (c3 : List Int) (c4 : Int) (c5 : Int) (k : (Int × Int × Int) → Option Q) : spec_l1Cur_next_c Q c3 c4 c5 k = (spec_l1Cur_next_p c3 c4 c5).bind k := by
  simp only [spec_l1Cur_next_p, spec_l1Cur_next_c, cond_bindL, none_bindL, some_bindL]

/-- (*loop.example/g01194/spec.l1Cur).pick -/
def spec_l1Cur_pick_c (Q : Type) (n3 : Int) (c4 : List Int) (c5 : Int) (c6 : Int) (k : (Int × Int × Int) → Option Q) : Option Q :=
    let z_1 := (spec_l1Cur_next_p c4 c5 c6)
    let z_2 := (Option.getD z_1 default)
    let z_3 := (spec_l1Cur_next_p c4 z_2.2.1 z_2.2.2)
    let z_4 := (Option.getD z_3 default)
    bif (decide (n3 ≤ (1 : Int))) then
    k ((0 : Int), c5, c6)
    else bif (Option.isSome z_1) then
    bif (decide ((200 : Int) < n3)) then
    bif (Option.isSome z_3) then
    bif (n3 == (0 : Int)) then
    none
    else k ((Int.tmod (IntKind.wrap .i64 ((IntKind.wrap .i64 (z_2.1 * (256 : Int))) + z_4.1)) n3), z_4.2.1, z_4.2.2)
    else none
    else bif (n3 == (0 : Int)) then
    none
    else k ((Int.tmod z_2.1 n3), z_2.2.1, z_2.2.2)
    else none
def spec_l1Cur_pick_p (n3 : Int) (c4 : List Int) (c5 : Int) (c6 : Int) : Option (Int × Int × Int) := spec_l1Cur_pick_c _ n3 c4 c5 c6 some
theorem spec_l1Cur_pick_cp (Q : Type) (n3 : Int) (c4 : List Int) (c5 : Int) (c6 : Int) (k : (Int × Int × Int) → Option Q) : spec_l1Cur_pick_c Q n3 c4 c5 c6 k = (spec_l1Cur_pick_p n3 c4 c5 c6).bind k := by
  simp only [spec_l1Cur_pick_p, spec_l1Cur_pick_c, cond_bindL, none_bindL, some_bindL]

/-- (*loop.example/g01194/spec.l1Cur).one -/
def spec_l1Cur_one_c (Q : Type) (n3 : Int) (c4 : List Int) (c5 : Int) (c6 : Int) (k : (Bool × Int × Int) → Option Q) : Option Q :=
    let z_1 := (spec_l1Cur_pick_p n3 c4 c5 c6)
    let z_2 := (Option.getD z_1 default)
    bif (Option.isSome z_1) then
    k ((z_2.1 == (0 : Int)), z_2.2.1, z_2.2.2)
    else none
def spec_l1Cur_one_p (n3 : Int) (c4 : List Int) (c5 : Int) (c6 : Int) : Option (Bool × Int × Int) := spec_l1Cur_one_c _ n3 c4 c5 c6 some
theorem spec_l1Cur_one_cp (Q : Type) (n3 : Int) (c4 : List Int) (c5 : Int) (c6 : Int) (k : (Bool × Int × Int) → Option Q) : spec_l1Cur_one_c Q n3 c4 c5 c6 k = (spec_l1Cur_one_p n3 c4 c5 c6).bind k := by
  simp only [spec_l1Cur_one_p, spec_l1Cur_one_c, cond_bindL, none_bindL, some_bindL]

/-- (*loop.example/g01194/spec.l1Cur).among -/
def spec_l1Cur_among_c (Q : Type) (list3 : List Int) (c4 : List Int) (c5 : Int) (c6 : Int) (k : (Int × Int × Int) → Option Q) : Option Q :=
    let z_1 := (spec_l1Cur_pick_p (((List.length list3) : Nat) : Int) c4 c5 c6)
    let z_2 := (Option.getD z_1 default)
    bif (Option.isSome z_1) then
    bif (inR z_2.1 (List.length list3)) then
    k ((iget list3 (Int.toNat z_2.1)), z_2.2.1, z_2.2.2)
    else none
    else none
def spec_l1Cur_among_p (list3 : List Int) (c4 : List Int) (c5 : Int) (c6 : Int) : Option (Int × Int × Int) := spec_l1Cur_among_c _ list3 c4 c5 c6 some
theorem spec_l1Cur_among_cp (Q : Type) (list3 : List Int) (c4 : List Int) (c5 : Int) (c6 : Int) (k : (Int × Int × Int) → Option Q) : spec_l1Cur_among_c Q list3 c4 c5 c6 k = (spec_l1Cur_among_p list3 c4 c5 c6).bind k := by
  simp only [spec_l1Cur_among_p, spec_l1Cur_among_c, cond_bindL, none_bindL, some_bindL]

/-- (*loop.example/g01194/spec.l1Cur).form3 -/
def spec_l1Cur_form3_c (Q : Type) (c3 : List Int) (c4 : Int) (c5 : Int) (k : (Int × Int × Int) → Option Q) : Option Q :=
    let z_1 := (spec_l1Cur_one_p (40 : Int) c3 c4 c5)
    let z_2 := (Option.getD z_1 default)
    let z_3 := (spec_l1Cur_among_p [(-1 : Int), (8 : Int), (4611686018427387904 : Int)] c3 z_2.2.1 z_2.2.2)
    let z_4 := (Option.getD z_3 default)
    let z_5 := (spec_l1Cur_pick_p (8 : Int) c3 z_2.2.1 z_2.2.2)
    let z_6 := (Option.getD z_5 default)
    bif (Option.isSome z_1) then
    bif z_2.1 then
    bif (Option.isSome z_3) then
    k (z_4.1, z_4.2.1, z_4.2.2)
    else none
    else bif (Option.isSome z_5) then
    k (z_6.1, z_6.2.1, z_6.2.2)
    else none
    else none
def spec_l1Cur_form3_p (c3 : List Int) (c4 : Int) (c5 : Int) : Option (Int × Int × Int) := spec_l1Cur_form3_c _ c3 c4 c5 some
theorem spec_l1Cur_form3_cp (Q : Type) (c3 : List Int) (c4 : Int) (c5 : Int) (k : (Int × Int × Int) → Option Q) : spec_l1Cur_form3_c Q c3 c4 c5 k = (spec_l1Cur_form3_p c3 c4 c5).bind k := by
  simp only [spec_l1Cur_form3_p, spec_l1Cur_form3_c, cond_bindL, none_bindL, some_bindL]

/-- loop.example/g01194/spec.DrawSnakePath -/
def spec_DrawSnakePath_c (Q : Type) (code0 : List Int) (k : (Int) → Option Q) : Option Q :=
    bif (Option.isSome (spec_l1Cur_form3_p code0 (0 : Int) (0 : Int))) then
    k (Option.getD (spec_l1Cur_form3_p code0 (0 : Int) (0 : Int)) default).1
    else none
def spec_DrawSnakePath_p (code0 : List Int) : Option (Int) := spec_DrawSnakePath_c _ code0 some
theorem spec_DrawSnakePath_cp (Q : Type) (code0 : List Int) (k : (Int) → Option Q) : spec_DrawSnakePath_c Q code0 k = (spec_DrawSnakePath_p code0).bind k := by
  simp only [spec_DrawSnakePath_p, spec_DrawSnakePath_c, cond_bindL, none_bindL, some_bindL]

/-- loop.example/g01194/impl.in -/
def impl_in_c (Q : Type) (n0 : Int) (low1 : Int) (high2 : Int) (k : (Bool) → Option Q) : Option Q :=
    bif (decide (low1 ≤ n0)) then
    k (decide (n0 ≤ high2))
    else k false
def impl_in_v (n0 : Int) (low1 : Int) (high2 : Int) : Bool :=
    bif (decide (low1 ≤ n0)) then
    (decide (n0 ≤ high2))
    else false
theorem impl_in_cv (Q : Type) (n0 : Int) (low1 : Int) (high2 : Int) (k : (Bool) → Option Q) : impl_in_c Q n0 low1 high2 k = k (impl_in_v n0 low1 high2) := by
  simp only [impl_in_c, impl_in_v, app_condL k]

/-- loop.example/g01194/impl.isForm -/
def impl_isForm_c (Q : Type) (k0 : Int) (k : (Bool) → Option Q) : Option Q :=
    k (impl_in_v k0 (0 : Int) (7 : Int))
def impl_isForm_v (k0 : Int) : Bool :=
    (impl_in_v k0 (0 : Int) (7 : Int))
theorem impl_isForm_cv (Q : Type) (k0 : Int) (k : (Bool) → Option Q) : impl_isForm_c Q k0 k = k (impl_isForm_v k0) := by
  simp only [impl_isForm_c, impl_isForm_v, app_condL k]

/-- loop.example/g01194/impl.cells -/
def impl_cells_c (Q : Type) (k : (Unit) → Option Q) : Option Q :=
    k ()
def impl_cells_v : Unit :=
    ()
theorem impl_cells_cv (Q : Type) (k : (Unit) → Option Q) : impl_cells_c Q k = k (impl_cells_v) := by
  simp only [impl_cells_c, impl_cells_v, app_condL k]

/-- loop 2 of loop.example/g01194/impl.moved -/
def impl_moved_s2 (F : Nat) (k0 : Int) (t67 : Int) (Q : Type) : (Int × List Int) → ((Int × List Int) → Option Q) → ((List Int) → Option Q) → Option Q
  | (t78, cell9), kn, kx =>
    bif (decide (t78 < t67)) then
    kn ((IntKind.wrap .i64 (t78 + (1 : Int))), [(iget cell9 1), (IntKind.wrap .i64 ((3 : Int) - (iget cell9 0)))])
    else kx cell9
def impl_moved_l2 (F : Nat) (k0 : Int) (t67 : Int) (t78 : Int) (cell9 : List Int) : Option (List Int) := loopC (impl_moved_s2 F k0 t67) F (t78, cell9) some
theorem impl_moved_s2_nat (F : Nat) (k0 : Int) (t67 : Int) : Natural (impl_moved_s2 F k0 t67) := by
  intro Q Q' s kn kx h
  obtain ⟨t78, cell9⟩ := s
  simp only [impl_moved_s2, cond_bindL, none_bindL]
/-- loop.example/g01194/impl.moved -/
def impl_moved_c (Q : Type) (F : Nat) (k0 : Int) (cell1 : List Int) (k : (List Int) → Option Q) : Option Q :=
    let z_1 := (impl_moved_l2 F k0 (Int.tmod k0 (4 : Int)) (0 : Int) cell1)
    bif (Option.isSome z_1) then
    bif (decide ((4 : Int) ≤ k0)) then
    k (iset (Option.getD z_1 default) 1 (IntKind.wrap .i64 ((3 : Int) - (iget (Option.getD z_1 default) 1))))
    else k (Option.getD z_1 default)
    else none
def impl_moved_p (F : Nat) (k0 : Int) (cell1 : List Int) : Option (List Int) := impl_moved_c _ F k0 cell1 some
theorem impl_moved_cp (Q : Type) (F : Nat) (k0 : Int) (cell1 : List Int) (k : (List Int) → Option Q) : impl_moved_c Q F k0 cell1 k = (impl_moved_p F k0 cell1).bind k := by
  simp only [impl_moved_p, impl_moved_c, cond_bindL, none_bindL, some_bindL]

/-- loop.example/g01194/impl.snake -/
def impl_snake_c (Q : Type) (F : Nat) (k0 : Int) (k : (List Int) → Option Q) : Option Q :=
    let z_1 := (impl_moved_p F k0 [(0 : Int), (0 : Int)])
    let z_2 := (impl_moved_p F k0 [(0 : Int), (1 : Int)])
    let z_3 := (impl_moved_p F k0 [(0 : Int), (2 : Int)])
    let z_4 := (impl_moved_p F k0 [(0 : Int), (3 : Int)])
    let z_5 := (impl_moved_p F k0 [(1 : Int), (3 : Int)])
    let z_6 := (impl_moved_p F k0 [(1 : Int), (2 : Int)])
    let z_7 := (impl_moved_p F k0 [(1 : Int), (1 : Int)])
    let z_8 := (impl_moved_p F k0 [(1 : Int), (0 : Int)])
    let z_9 := (impl_moved_p F k0 [(2 : Int), (0 : Int)])
    let z_10 := (impl_moved_p F k0 [(2 : Int), (1 : Int)])
    let z_11 := (impl_moved_p F k0 [(2 : Int), (2 : Int)])
    let z_12 := (impl_moved_p F k0 [(2 : Int), (3 : Int)])
    let z_13 := (impl_moved_p F k0 [(3 : Int), (3 : Int)])
    let z_14 := (impl_moved_p F k0 [(3 : Int), (2 : Int)])
    let z_15 := (impl_moved_p F k0 [(3 : Int), (1 : Int)])
    let z_16 := (impl_moved_p F k0 [(3 : Int), (0 : Int)])
    bif (Option.isSome z_1) then
    bif (Option.isSome z_2) then
    bif (Option.isSome z_3) then
    bif (Option.isSome z_4) then
    bif (Option.isSome z_5) then
    bif (Option.isSome z_6) then
    bif (Option.isSome z_7) then
    bif (Option.isSome z_8) then
    bif (Option.isSome z_9) then
    bif (Option.isSome z_10) then
    bif (Option.isSome z_11) then
    bif (Option.isSome z_12) then
    bif (Option.isSome z_13) then
    bif (Option.isSome z_14) then
    bif (Option.isSome z_15) then
    bif (Option.isSome z_16) then
    k (splice (splice (splice (splice (splice (splice (splice (splice (splice (splice (splice (splice (splice (splice (splice (splice [(0 : Int), (0 : Int), (0 : Int), (0 : Int), (0 : Int), (0 : Int), (0 : Int), (0 : Int), (0 : Int), (0 : Int), (0 : Int), (0 : Int), (0 : Int), (0 : Int), (0 : Int), (0 : Int), (0 : Int), (0 : Int), (0 : Int), (0 : Int), (0 : Int), (0 : Int), (0 : Int), (0 : Int), (0 : Int), (0 : Int), (0 : Int), (0 : Int), (0 : Int), (0 : Int), (0 : Int), (0 : Int)] 0 (Option.getD z_1 default) 2) 2 (Option.getD z_2 default) 2) 4 (Option.getD z_3 default) 2) 6 (Option.getD z_4 default) 2) 8 (Option.getD z_5 default) 2) 10 (Option.getD z_6 default) 2) 12 (Option.getD z_7 default) 2) 14 (Option.getD z_8 default) 2) 16 (Option.getD z_9 default) 2) 18 (Option.getD z_10 default) 2) 20 (Option.getD z_11 default) 2) 22 (Option.getD z_12 default) 2) 24 (Option.getD z_13 default) 2) 26 (Option.getD z_14 default) 2) 28 (Option.getD z_15 default) 2) 30 (Option.getD z_16 default) 2)
    else none
    else none
    else none
    else none
    else none
    else none
    else none
    else none
    else none
    else none
    else none
    else none
    else none
    else none
    else none
    else none
def impl_snake_p (F : Nat) (k0 : Int) : Option (List Int) := impl_snake_c _ F k0 some
theorem impl_snake_cp (Q : Type) (F : Nat) (k0 : Int) (k : (List Int) → Option Q) : impl_snake_c Q F k0 k = (impl_snake_p F k0).bind k := by
  simp only [impl_snake_p, impl_snake_c, cond_bindL, none_bindL, some_bindL]

/-- loop.example/g01194/impl.SnakePath -/
def impl_SnakePath_c (Q : Type) (F : Nat) (k0 : Int) (k : (List Int × Bool) → Option Q) : Option Q :=
    let z_1 := (impl_snake_p F k0)
    bif (!(impl_isForm_v k0)) then
    k ([(0 : Int), (0 : Int), (0 : Int), (0 : Int), (0 : Int), (0 : Int), (0 : Int), (0 : Int), (0 : Int), (0 : Int), (0 : Int), (0 : Int), (0 : Int), (0 : Int), (0 : Int), (0 : Int), (0 : Int), (0 : Int), (0 : Int), (0 : Int), (0 : Int), (0 : Int), (0 : Int), (0 : Int), (0 : Int), (0 : Int), (0 : Int), (0 : Int), (0 : Int), (0 : Int), (0 : Int), (0 : Int)], false)
    else bif (Option.isSome z_1) then
    k ((Option.getD z_1 default), true)
    else none
def impl_SnakePath_p (F : Nat) (k0 : Int) : Option (List Int × Bool) := impl_SnakePath_c _ F k0 some
theorem impl_SnakePath_cp (Q : Type) (F : Nat) (k0 : Int) (k : (List Int × Bool) → Option Q) : impl_SnakePath_c Q F k0 k = (impl_SnakePath_p F k0).bind k := by
  simp only [impl_SnakePath_p, impl_SnakePath_c, cond_bindL, none_bindL, some_bindL]

/-- loop.example/g01194/spec.l1In -/
def spec_l1In_c (Q : Type) (x0 : Int) (a1 : Int) (b2 : Int) (k : (Bool) → Option Q) : Option Q :=
    bif (decide (a1 ≤ x0)) then
    k (decide (x0 ≤ b2))
    else k false
def spec_l1In_v (x0 : Int) (a1 : Int) (b2 : Int) : Bool :=
    bif (decide (a1 ≤ x0)) then
    (decide (x0 ≤ b2))
    else false
theorem spec_l1In_cv (Q : Type) (x0 : Int) (a1 : Int) (b2 : Int) (k : (Bool) → Option Q) : spec_l1In_c Q x0 a1 b2 k = k (spec_l1In_v x0 a1 b2) := by
  simp only [spec_l1In_c, spec_l1In_v, app_condL k]

/-- loop.example/g01194/spec.l3Form -/
def spec_l3Form_c (Q : Type) (k0 : Int) (k : (Bool) → Option Q) : Option Q :=
    k (spec_l1In_v k0 (0 : Int) (7 : Int))
def spec_l3Form_v (k0 : Int) : Bool :=
    (spec_l1In_v k0 (0 : Int) (7 : Int))
theorem spec_l3Form_cv (Q : Type) (k0 : Int) (k : (Bool) → Option Q) : spec_l3Form_c Q k0 k = k (spec_l3Form_v k0) := by
  simp only [spec_l3Form_c, spec_l3Form_v, app_condL k]

/-- loop.example/g01194/spec.l3Quarter -/
def spec_l3Quarter_c (Q : Type) (b0 : List Int) (k : (List Int) → Option Q) : Option Q :=
    k [(iget b0 12), (iget b0 8), (iget b0 4), (iget b0 0), (iget b0 13), (iget b0 9), (iget b0 5), (iget b0 1), (iget b0 14), (iget b0 10), (iget b0 6), (iget b0 2), (iget b0 15), (iget b0 11), (iget b0 7), (iget b0 3)]
def spec_l3Quarter_v (b0 : List Int) : List Int :=
    [(iget b0 12), (iget b0 8), (iget b0 4), (iget b0 0), (iget b0 13), (iget b0 9), (iget b0 5), (iget b0 1), (iget b0 14), (iget b0 10), (iget b0 6), (iget b0 2), (iget b0 15), (iget b0 11), (iget b0 7), (iget b0 3)]
theorem spec_l3Quarter_cv (Q : Type) (b0 : List Int) (k : (List Int) → Option Q) : spec_l3Quarter_c Q b0 k = k (spec_l3Quarter_v b0) := by
  simp only [spec_l3Quarter_c, spec_l3Quarter_v, app_condL k]

/-- loop.example/g01194/spec.l3Mirror -/
def spec_l3Mirror_c (Q : Type) (b0 : List Int) (k : (List Int) → Option Q) : Option Q :=
    k [(iget b0 3), (iget b0 2), (iget b0 1), (iget b0 0), (iget b0 7), (iget b0 6), (iget b0 5), (iget b0 4), (iget b0 11), (iget b0 10), (iget b0 9), (iget b0 8), (iget b0 15), (iget b0 14), (iget b0 13), (iget b0 12)]
def spec_l3Mirror_v (b0 : List Int) : List Int :=
    [(iget b0 3), (iget b0 2), (iget b0 1), (iget b0 0), (iget b0 7), (iget b0 6), (iget b0 5), (iget b0 4), (iget b0 11), (iget b0 10), (iget b0 9), (iget b0 8), (iget b0 15), (iget b0 14), (iget b0 13), (iget b0 12)]
theorem spec_l3Mirror_cv (Q : Type) (b0 : List Int) (k : (List Int) → Option Q) : spec_l3Mirror_c Q b0 k = k (spec_l3Mirror_v b0) := by
  simp only [spec_l3Mirror_c, spec_l3Mirror_v, app_condL k]

/-- loop 2 of loop.example/g01194/spec.l3Made -/
def spec_l3Made_s2 (F : Nat) (k0 : Int) (Q : Type) : (Int × List Int) → ((Int × List Int) → Option Q) → ((List Int) → Option Q) → Option Q
  | (i7, b8), kn, kx =>
    bif (decide (i7 < (Int.tmod k0 (4 : Int)))) then
    kn ((IntKind.wrap .i64 (i7 + (1 : Int))), (spec_l3Quarter_v b8))
    else kx b8
def spec_l3Made_l2 (F : Nat) (k0 : Int) (i7 : Int) (b8 : List Int) : Option (List Int) := loopC (spec_l3Made_s2 F k0) F (i7, b8) some
theorem spec_l3Made_s2_nat (F : Nat) (k0 : Int) : Natural (spec_l3Made_s2 F k0) := by
  intro Q Q' s kn kx h
  obtain ⟨i7, b8⟩ := s
  simp only [spec_l3Made_s2, cond_bindL, none_bindL]
/-- loop.example/g01194/spec.l3Made -/
def spec_l3Made_c (Q : Type) (F : Nat) (b0 : List Int) (k1 : Int) (k : (List Int) → Option Q) : Option Q :=
    let z_1 := (spec_l3Made_l2 F k1 (0 : Int) b0)
    bif (Option.isSome z_1) then
    bif (decide ((4 : Int) ≤ k1)) then
    k (spec_l3Mirror_v (Option.getD z_1 default))
    else k (Option.getD z_1 default)
    else none
def spec_l3Made_p (F : Nat) (b0 : List Int) (k1 : Int) : Option (List Int) := spec_l3Made_c _ F b0 k1 some
theorem spec_l3Made_cp (Q : Type) (F : Nat) (b0 : List Int) (k1 : Int) (k : (List Int) → Option Q) : spec_l3Made_c Q F b0 k1 k = (spec_l3Made_p F b0 k1).bind k := by
  simp only [spec_l3Made_p, spec_l3Made_c, cond_bindL, none_bindL, some_bindL]

/-- loop.example/g01194/spec.l7Snake -/
def spec_l7Snake_c (Q : Type) (F : Nat) (k0 : Int) (k : (List Int) → Option Q) : Option Q :=
    let z_1 := (spec_l3Made_p F [(0 : Int), (1 : Int), (2 : Int), (3 : Int), (7 : Int), (6 : Int), (5 : Int), (4 : Int), (8 : Int), (9 : Int), (10 : Int), (11 : Int), (15 : Int), (14 : Int), (13 : Int), (12 : Int)] k0)
    let z_2 : Int := (iget (Option.getD z_1 default) 0)
    let z_3 : Int := (iget (Option.getD z_1 default) 1)
    let z_4 : Int := (iget (Option.getD z_1 default) 2)
    let z_5 : Int := (iget (Option.getD z_1 default) 3)
    let z_6 : Int := (iget (Option.getD z_1 default) 4)
    let z_7 : Int := (iget (Option.getD z_1 default) 5)
    let z_8 : Int := (iget (Option.getD z_1 default) 6)
    let z_9 : Int := (iget (Option.getD z_1 default) 7)
    let z_10 : Int := (iget (Option.getD z_1 default) 8)
    let z_11 : Int := (iget (Option.getD z_1 default) 9)
    let z_12 : Int := (iget (Option.getD z_1 default) 10)
    let z_13 : Int := (iget (Option.getD z_1 default) 11)
    let z_14 : Int := (iget (Option.getD z_1 default) 12)
    let z_15 : Int := (iget (Option.getD z_1 default) 13)
    let z_16 : Int := (iget (Option.getD z_1 default) 14)
    let z_17 : Int := (iget (Option.getD z_1 default) 15)
    bif (Option.isSome z_1) then
    bif (inR z_2 16) then
    bif (inR z_3 16) then
    bif (inR z_4 16) then
    bif (inR z_5 16) then
    bif (inR z_6 16) then
    bif (inR z_7 16) then
    bif (inR z_8 16) then
    bif (inR z_9 16) then
    bif (inR z_10 16) then
    bif (inR z_11 16) then
    bif (inR z_12 16) then
    bif (inR z_13 16) then
    bif (inR z_14 16) then
    bif (inR z_15 16) then
    bif (inR z_16 16) then
    bif (inR z_17 16) then
    k (splicen 32 (splicen 32 (splicen 32 (splicen 32 (splicen 32 (splicen 32 (splicen 32 (splicen 32 (splicen 32 (splicen 32 (splicen 32 (splicen 32 (splicen 32 (splicen 32 (splicen 32 (splicen 32 [(0 : Int), (0 : Int), (0 : Int), (0 : Int), (0 : Int), (0 : Int), (0 : Int), (0 : Int), (0 : Int), (0 : Int), (0 : Int), (0 : Int), (0 : Int), (0 : Int), (0 : Int), (0 : Int), (0 : Int), (0 : Int), (0 : Int), (0 : Int), (0 : Int), (0 : Int), (0 : Int), (0 : Int), (0 : Int), (0 : Int), (0 : Int), (0 : Int), (0 : Int), (0 : Int), (0 : Int), (0 : Int)] ((0 : Nat) + ((Int.toNat z_2) * (2 : Nat))) [(0 : Int), (0 : Int)] 2) ((0 : Nat) + ((Int.toNat z_3) * (2 : Nat))) [(0 : Int), (1 : Int)] 2) ((0 : Nat) + ((Int.toNat z_4) * (2 : Nat))) [(0 : Int), (2 : Int)] 2) ((0 : Nat) + ((Int.toNat z_5) * (2 : Nat))) [(0 : Int), (3 : Int)] 2) ((0 : Nat) + ((Int.toNat z_6) * (2 : Nat))) [(1 : Int), (0 : Int)] 2) ((0 : Nat) + ((Int.toNat z_7) * (2 : Nat))) [(1 : Int), (1 : Int)] 2) ((0 : Nat) + ((Int.toNat z_8) * (2 : Nat))) [(1 : Int), (2 : Int)] 2) ((0 : Nat) + ((Int.toNat z_9) * (2 : Nat))) [(1 : Int), (3 : Int)] 2) ((0 : Nat) + ((Int.toNat z_10) * (2 : Nat))) [(2 : Int), (0 : Int)] 2) ((0 : Nat) + ((Int.toNat z_11) * (2 : Nat))) [(2 : Int), (1 : Int)] 2) ((0 : Nat) + ((Int.toNat z_12) * (2 : Nat))) [(2 : Int), (2 : Int)] 2) ((0 : Nat) + ((Int.toNat z_13) * (2 : Nat))) [(2 : Int), (3 : Int)] 2) ((0 : Nat) + ((Int.toNat z_14) * (2 : Nat))) [(3 : Int), (0 : Int)] 2) ((0 : Nat) + ((Int.toNat z_15) * (2 : Nat))) [(3 : Int), (1 : Int)] 2) ((0 : Nat) + ((Int.toNat z_16) * (2 : Nat))) [(3 : Int), (2 : Int)] 2) ((0 : Nat) + ((Int.toNat z_17) * (2 : Nat))) [(3 : Int), (3 : Int)] 2)
    else none
    else none
    else none
    else none
    else none
    else none
    else none
    else none
    else none
    else none
    else none
    else none
    else none
    else none
    else none
    else none
    else none
def spec_l7Snake_p (F : Nat) (k0 : Int) : Option (List Int) := spec_l7Snake_c _ F k0 some
theorem spec_l7Snake_cp (Q : Type) (F : Nat) (k0 : Int) (k : (List Int) → Option Q) : spec_l7Snake_c Q F k0 k = (spec_l7Snake_p F k0).bind k := by
  simp only [spec_l7Snake_p, spec_l7Snake_c, cond_bindL, none_bindL, some_bindL]

/-- loop.example/g01194/spec.SnakePath -/
def spec_SnakePath_c (Q : Type) (F : Nat) (k0 : Int) (k : (List Int × Bool) → Option Q) : Option Q :=
    let z_1 := (spec_l7Snake_p F k0)
    bif (!(spec_l3Form_v k0)) then
    k ([(0 : Int), (0 : Int), (0 : Int), (0 : Int), (0 : Int), (0 : Int), (0 : Int), (0 : Int), (0 : Int), (0 : Int), (0 : Int), (0 : Int), (0 : Int), (0 : Int), (0 : Int), (0 : Int), (0 : Int), (0 : Int), (0 : Int), (0 : Int), (0 : Int), (0 : Int), (0 : Int), (0 : Int), (0 : Int), (0 : Int), (0 : Int), (0 : Int), (0 : Int), (0 : Int), (0 : Int), (0 : Int)], false)
    else bif (Option.isSome z_1) then
    k ((Option.getD z_1 default), true)
    else none
def spec_SnakePath_p (F : Nat) (k0 : Int) : Option (List Int × Bool) := spec_SnakePath_c _ F k0 some
theorem spec_SnakePath_cp (Q : Type) (F : Nat) (k0 : Int) (k : (List Int × Bool) → Option Q) : spec_SnakePath_c Q F k0 k = (spec_SnakePath_p F k0).bind k := by
  simp only [spec_SnakePath_p, spec_SnakePath_c, cond_bindL, none_bindL, some_bindL]

/-- loop.example/g01194/laws.vCut -/
def laws_vCut_c (Q : Type) (code0 : List Int) (n1 : Int) (k : (List Int) → Option Q) : Option Q :=
    let z_1 : List Int := (subn (List.length code0) code0 (List.length code0) ((List.length code0) - (List.length code0)))
    let z_2 : Nat := (List.length z_1)
    let z_3 : List Int := ((subn z_2 z_1 0 z_2) ++ [(IntKind.wrap .u8 (((List.length code0) : Nat) : Int))])
    let z_4 : List Int := (subn (List.length code0) code0 (Int.toNat n1) ((List.length code0) - (Int.toNat n1)))
    let z_5 : Nat := (List.length z_4)
    let z_6 : List Int := ((subn z_5 z_4 0 z_5) ++ [(IntKind.wrap .u8 n1)])
    bif (decide ((((List.length code0) : Nat) : Int) < n1)) then
    bif (inLe (((List.length code0) : Nat) : Int) (List.length code0)) then
    bif (fits z_2 1) then
    bif (fits (List.length z_3) 1) then
    k z_3
    else none
    else none
    else none
    else bif (inLe n1 (List.length code0)) then
    bif (fits z_5 1) then
    bif (fits (List.length z_6) 1) then
    k z_6
    else none
    else none
    else none
def laws_vCut_p (code0 : List Int) (n1 : Int) : Option (List Int) := laws_vCut_c _ code0 n1 some
theorem laws_vCut_cp (Q : Type) (code0 : List Int) (n1 : Int) (k : (List Int) → Option Q) : laws_vCut_c Q code0 n1 k = (laws_vCut_p code0 n1).bind k := by
  simp only [laws_vCut_p, laws_vCut_c, cond_bindL, none_bindL, some_bindL]

/-- (*loop.example/g01194/spec.l1Cur).tile -/
def spec_l1Cur_tile_c (Q : Type) (c3 : List Int) (c4 : Int) (c5 : Int) (k : (Int × Int × Int) → Option Q) : Option Q :=
    let z_1 := (spec_l1Cur_among_p [(1 : Int), (2 : Int), (0 : Int), (1 : Int), (3 : Int), (0 : Int), (2 : Int), (1 : Int), (4 : Int), (5 : Int), (0 : Int)] c3 c4 c5)
    let z_2 := (Option.getD z_1 default)
    bif (Option.isSome z_1) then
    k (z_2.1, z_2.2.1, z_2.2.2)
    else none
def spec_l1Cur_tile_p (c3 : List Int) (c4 : Int) (c5 : Int) : Option (Int × Int × Int) := spec_l1Cur_tile_c _ c3 c4 c5 some
theorem spec_l1Cur_tile_cp (Q : Type) (c3 : List Int) (c4 : Int) (c5 : Int) (k : (Int × Int × Int) → Option Q) : spec_l1Cur_tile_c Q c3 c4 c5 k = (spec_l1Cur_tile_p c3 c4 c5).bind k := by
  simp only [spec_l1Cur_tile_p, spec_l1Cur_tile_c, cond_bindL, none_bindL, some_bindL]
end Go.Lv.P
