/-
Pure functions and what the code of them does, by program; without conditions.
-/
import Derived.Test.YtabfliifleonaaaLv3
import Derived.Lib.BitFns
namespace Go.Lv.P
open Go Go.Lv
set_option linter.unusedVariables false
set_option linter.unusedSimpArgs false
set_option maxRecDepth 100000
/-- loop.example/g01194/laws.vBig -/
def laws_vBig_c (Q : Type) (code0 : List Int) (k : (Bool) → Option Q) : Option Q :=
    k (decide ((65536 : Int) < (((List.length code0) : Nat) : Int)))
def laws_vBig_v (code0 : List Int) : Bool :=
    (decide ((65536 : Int) < (((List.length code0) : Nat) : Int)))
theorem laws_vBig_cv (Q : Type) (code0 : List Int) (k : (Bool) → Option Q) : laws_vBig_c Q code0 k = k (laws_vBig_v code0) := by
  simp only [laws_vBig_c, laws_vBig_v, app_condL k]

/-- (*loop.example/g01194/spec.l1Cur).next -/
def spec_l1Cur_next_c (Q : Type) (c3 : List Int) (c4 : Int) (c5 : Int) (k : (Int × Int × Int) → Option Q) : Option Q :=
    let z_1 : Int := (IntKind.wrap .i64 (c4 + (1 : Int)))
    let z_2 : Bool := (decide (z_1 ≤ (((List.length c3) : Nat) : Int)))
    let z_3 : Int := (IntKind.wrap .i64 (iget c3 (Int.toNat c4)))
    let z_4 : Int := (IntKind.wrap .u64 (c5 * (6364136223846793005 : Int)))
    let z_5 : Int := (IntKind.wrap .u64 ((IntKind.wrap .u64 (z_4 + (IntKind.wrap .u64 z_3))) + (462197 : Int)))
    let z_6 : Int := (IntKind.wrap .u64 ((IntKind.wrap .u64 (z_4 + (0 : Int))) + (462197 : Int)))
    bif (decide (c4 < (((List.length c3) : Nat) : Int))) then
    bif (inR c4 (List.length c3)) then
    bif z_2 then
    k (z_3, z_1, z_5)
    else k ((IntKind.wrap .i64 (IntKind.wrap .u64 (((BitVec.ofInt (IntKind.bits .u64) (Int.fdiv z_5 (2 ^ (min (Int.toNat (40 : Int)) (IntKind.bits .u64)) : Int)) &&& BitVec.ofInt (IntKind.bits .u64) (255 : Int)).toNat : Nat) : Int))), z_1, z_5)
    else none
    else bif z_2 then
    k ((0 : Int), z_1, z_6)
    else k ((IntKind.wrap .i64 (IntKind.wrap .u64 (((BitVec.ofInt (IntKind.bits .u64) (Int.fdiv z_6 (2 ^ (min (Int.toNat (40 : Int)) (IntKind.bits .u64)) : Int)) &&& BitVec.ofInt (IntKind.bits .u64) (255 : Int)).toNat : Nat) : Int))), z_1, z_6)
def spec_l1Cur_next_p (c3 : List Int) (c4 : Int) (c5 : Int) : Option (Int × Int × Int) := spec_l1Cur_next_c _ c3 c4 c5 some
theorem spec_l1Cur_next_cp (Q : Type) (c3 : List Int) (c4 : Int) (c5 : Int) (k : (Int × Int × Int) → Option Q) : spec_l1Cur_next_c Q c3 c4 c5 k = (spec_l1Cur_next_p c3 c4 c5).bind k := by
  simp only [spec_l1Cur_next_p, spec_l1Cur_next_c, cond_bindL, none_bindL, some_bindL]

/-- (*loop.example/g01194/spec.l1Cur).pick -/
def spec_l1Cur_pick_c (Q : Type) (n3 : Int) (c4 : List Int) (c5 : Int) (c6 : Int) (k : (Int × Int × Int) → Option Q) : Option Q :=
    let z_1 := (spec_l1Cur_next_p c4 c5 c6)
    let z_2 := (Option.getD z_1 default)
    let z_3 := (spec_l1Cur_next_p c4 z_2.2.1 z_2.2.2)
    let z_4 := (Option.getD z_3 default)
    bif (decide (n3 ≤ (1 : Int))) then
    k ((0 : Int), c5, c6)
    else bif (Option.isSome z_1) then
    bif (decide ((200 : Int) < n3)) then
    bif (Option.isSome z_3) then
    bif (n3 == (0 : Int)) then
    none
    else k ((Int.tmod (IntKind.wrap .i64 ((IntKind.wrap .i64 (z_2.1 * (256 : Int))) + z_4.1)) n3), z_4.2.1, z_4.2.2)
    else none
    else bif (n3 == (0 : Int)) then
    none
    else k ((Int.tmod z_2.1 n3), z_2.2.1, z_2.2.2)
    else none
def spec_l1Cur_pick_p (n3 : Int) (c4 : List Int) (c5 : Int) (c6 : Int) : Option (Int × Int × Int) := spec_l1Cur_pick_c _ n3 c4 c5 c6 some
theorem spec_l1Cur_pick_cp (Q : Type) (n3 : Int) (c4 : List Int) (c5 : Int) (c6 : Int) (k : (Int × Int × Int) → Option Q) : spec_l1Cur_pick_c Q n3 c4 c5 c6 k = (spec_l1Cur_pick_p n3 c4 c5 c6).bind k := by
  simp only [spec_l1Cur_pick_p, spec_l1Cur_pick_c, cond_bindL, none_bindL, some_bindL]

/-- (*loop.example/g01194/spec.l1Cur).one -/
def spec_l1Cur_one_c (Q : Type) (n3 : Int) (c4 : List Int) (c5 : Int) (c6 : Int) (k : (Bool × Int × Int) → Option Q) : Option Q :=
    let z_1 := (spec_l1Cur_pick_p n3 c4 c5 c6)
    let z_2 := (Option.getD z_1 default)
    bif (Option.isSome z_1) then
    k ((z_2.1 == (0 : Int)), z_2.2.1, z_2.2.2)
    else none
def spec_l1Cur_one_p (n3 : Int) (c4 : List Int) (c5 : Int) (c6 : Int) : Option (Bool × Int × Int) := spec_l1Cur_one_c _ n3 c4 c5 c6 some
theorem spec_l1Cur_one_cp (Q : Type) (n3 : Int) (c4 : List Int) (c5 : Int) (c6 : Int) (k : (Bool × Int × Int) → Option Q) : spec_l1Cur_one_c Q n3 c4 c5 c6 k = (spec_l1Cur_one_p n3 c4 c5 c6).bind k := by
  simp only [spec_l1Cur_one_p, spec_l1Cur_one_c, cond_bindL, none_bindL, some_bindL]

/-- (*loop.example/g01194/spec.l1Cur).among -/
def spec_l1Cur_among_c (Q : Type) (list3 : List Int) (c4 : List Int) (c5 : Int) (c6 : Int) (k : (Int × Int × Int) → Option Q) : Option Q :=
    let z_1 := (spec_l1Cur_pick_p (((List.length list3) : Nat) : Int) c4 c5 c6)
    let z_2 := (Option.getD z_1 default)
    bif (Option.isSome z_1) then
    bif (inR z_2.1 (List.length list3)) then
    k ((iget list3 (Int.toNat z_2.1)), z_2.2.1, z_2.2.2)
    else none
    else none
def spec_l1Cur_among_p (list3 : List Int) (c4 : List Int) (c5 : Int) (c6 : Int) : Option (Int × Int × Int) := spec_l1Cur_among_c _ list3 c4 c5 c6 some
theorem spec_l1Cur_among_cp (Q : Type) (list3 : List Int) (c4 : List Int) (c5 : Int) (c6 : Int) (k : (Int × Int × Int) → Option Q) : spec_l1Cur_among_c Q list3 c4 c5 c6 k = (spec_l1Cur_among_p list3 c4 c5 c6).bind k := by
  simp only [spec_l1Cur_among_p, spec_l1Cur_among_c, cond_bindL, none_bindL, some_bindL]

/-- (*loop.example/g01194/spec.l1Cur).sum7 -/
def spec_l1Cur_sum7_c (Q : Type) (c3 : List Int) (c4 : Int) (c5 : Int) (k : (Int × Int × Int) → Option Q) : Option Q :=
    let z_1 := (spec_l1Cur_one_p (16 : Int) c3 c4 c5)
    let z_2 := (Option.getD z_1 default)
    let z_3 := (spec_l1Cur_among_p [(-2 : Int), (3 : Int), (2097152 : Int), (2097154 : Int), (4611686018427387904 : Int), (2097150 : Int)] c3 z_2.2.1 z_2.2.2)
    let z_4 := (Option.getD z_3 default)
    let z_5 := (spec_l1Cur_among_p [(2 : Int), (4 : Int), (6 : Int), (14 : Int), (20 : Int), (30 : Int), (62 : Int), (100 : Int), (126 : Int), (254 : Int), (1022 : Int), (2048 : Int), (131072 : Int), (262144 : Int), (0 : Int), (65534 : Int), (393214 : Int), (1048574 : Int)] c3 z_2.2.1 z_2.2.2)
    let z_6 := (Option.getD z_5 default)
    bif (Option.isSome z_1) then
    bif z_2.1 then
    bif (Option.isSome z_3) then
    k (z_4.1, z_4.2.1, z_4.2.2)
    else none
    else bif (Option.isSome z_5) then
    k (z_6.1, z_6.2.1, z_6.2.2)
    else none
    else none
def spec_l1Cur_sum7_p (c3 : List Int) (c4 : Int) (c5 : Int) : Option (Int × Int × Int) := spec_l1Cur_sum7_c _ c3 c4 c5 some
theorem spec_l1Cur_sum7_cp (Q : Type) (c3 : List Int) (c4 : Int) (c5 : Int) (k : (Int × Int × Int) → Option Q) : spec_l1Cur_sum7_c Q c3 c4 c5 k = (spec_l1Cur_sum7_p c3 c4 c5).bind k := by
  simp only [spec_l1Cur_sum7_p, spec_l1Cur_sum7_c, cond_bindL, none_bindL, some_bindL]

/-- loop.example/g01194/spec.DrawLeastTiles -/
def spec_DrawLeastTiles_c (Q : Type) (code0 : List Int) (k : (Int) → Option Q) : Option Q :=
    bif (Option.isSome (spec_l1Cur_sum7_p code0 (0 : Int) (0 : Int))) then
    k (Option.getD (spec_l1Cur_sum7_p code0 (0 : Int) (0 : Int)) default).1
    else none
def spec_DrawLeastTiles_p (code0 : List Int) : Option (Int) := spec_DrawLeastTiles_c _ code0 some
theorem spec_DrawLeastTiles_cp (Q : Type) (code0 : List Int) (k : (Int) → Option Q) : spec_DrawLeastTiles_c Q code0 k = (spec_DrawLeastTiles_p code0).bind k := by
  simp only [spec_DrawLeastTiles_p, spec_DrawLeastTiles_c, cond_bindL, none_bindL, some_bindL]

/-- loop.example/g01194/impl.in -/
def impl_in_c (Q : Type) (n0 : Int) (low1 : Int) (high2 : Int) (k : (Bool) → Option Q) : Option Q :=
    bif (decide (low1 ≤ n0)) then
    k (decide (n0 ≤ high2))
    else k false
def impl_in_v (n0 : Int) (low1 : Int) (high2 : Int) : Bool :=
    bif (decide (low1 ≤ n0)) then
    (decide (n0 ≤ high2))
    else false
theorem impl_in_cv (Q : Type) (n0 : Int) (low1 : Int) (high2 : Int) (k : (Bool) → Option Q) : impl_in_c Q n0 low1 high2 k = k (impl_in_v n0 low1 high2) := by
  simp only [impl_in_c, impl_in_v, app_condL k]

/-- loop.example/g01194/impl.isSum -/
def impl_isSum_c (Q : Type) (sum0 : Int) (k : (Bool) → Option Q) : Option Q :=
    k (impl_in_v sum0 (0 : Int) (2097152 : Int))
def impl_isSum_v (sum0 : Int) : Bool :=
    (impl_in_v sum0 (0 : Int) (2097152 : Int))
theorem impl_isSum_cv (Q : Type) (sum0 : Int) (k : (Bool) → Option Q) : impl_isSum_c Q sum0 k = k (impl_isSum_v sum0) := by
  simp only [impl_isSum_c, impl_isSum_v, app_condL k]

/-- math/bits.OnesCount64 -/
def math_bits_OnesCount64_c (Q : Type) (x0 : Int) (k : (Int) → Option Q) : Option Q :=
    let z_1 : Int := (IntKind.wrap .u64 ((IntKind.wrap .u64 (((BitVec.ofInt (IntKind.bits .u64) (Int.fdiv x0 (2 ^ (min (Int.toNat (1 : Int)) (IntKind.bits .u64)) : Int)) &&& BitVec.ofInt (IntKind.bits .u64) (6148914691236517205 : Int)).toNat : Nat) : Int)) + (IntKind.wrap .u64 (((BitVec.ofInt (IntKind.bits .u64) x0 &&& BitVec.ofInt (IntKind.bits .u64) (6148914691236517205 : Int)).toNat : Nat) : Int))))
    let z_2 : Int := (IntKind.wrap .u64 ((IntKind.wrap .u64 (((BitVec.ofInt (IntKind.bits .u64) (Int.fdiv z_1 (2 ^ (min (Int.toNat (2 : Int)) (IntKind.bits .u64)) : Int)) &&& BitVec.ofInt (IntKind.bits .u64) (3689348814741910323 : Int)).toNat : Nat) : Int)) + (IntKind.wrap .u64 (((BitVec.ofInt (IntKind.bits .u64) z_1 &&& BitVec.ofInt (IntKind.bits .u64) (3689348814741910323 : Int)).toNat : Nat) : Int))))
    let z_3 : Int := (IntKind.wrap .u64 (((BitVec.ofInt (IntKind.bits .u64) (IntKind.wrap .u64 ((Int.fdiv z_2 (2 ^ (min (Int.toNat (4 : Int)) (IntKind.bits .u64)) : Int)) + z_2)) &&& BitVec.ofInt (IntKind.bits .u64) (1085102592571150095 : Int)).toNat : Nat) : Int))
    let z_4 : Int := (IntKind.wrap .u64 (z_3 + (Int.fdiv z_3 (2 ^ (min (Int.toNat (8 : Int)) (IntKind.bits .u64)) : Int))))
    let z_5 : Int := (IntKind.wrap .u64 (z_4 + (Int.fdiv z_4 (2 ^ (min (Int.toNat (16 : Int)) (IntKind.bits .u64)) : Int))))
    k (IntKind.wrap .i64 (((BitVec.ofInt (IntKind.bits .i64) (IntKind.wrap .i64 (IntKind.wrap .u64 (z_5 + (Int.fdiv z_5 (2 ^ (min (Int.toNat (32 : Int)) (IntKind.bits .u64)) : Int))))) &&& BitVec.ofInt (IntKind.bits .i64) (127 : Int)).toNat : Nat) : Int))
def math_bits_OnesCount64_v (x0 : Int) : Int :=
    let z_1 : Int := (IntKind.wrap .u64 ((IntKind.wrap .u64 (((BitVec.ofInt (IntKind.bits .u64) (Int.fdiv x0 (2 ^ (min (Int.toNat (1 : Int)) (IntKind.bits .u64)) : Int)) &&& BitVec.ofInt (IntKind.bits .u64) (6148914691236517205 : Int)).toNat : Nat) : Int)) + (IntKind.wrap .u64 (((BitVec.ofInt (IntKind.bits .u64) x0 &&& BitVec.ofInt (IntKind.bits .u64) (6148914691236517205 : Int)).toNat : Nat) : Int))))
    let z_2 : Int := (IntKind.wrap .u64 ((IntKind.wrap .u64 (((BitVec.ofInt (IntKind.bits .u64) (Int.fdiv z_1 (2 ^ (min (Int.toNat (2 : Int)) (IntKind.bits .u64)) : Int)) &&& BitVec.ofInt (IntKind.bits .u64) (3689348814741910323 : Int)).toNat : Nat) : Int)) + (IntKind.wrap .u64 (((BitVec.ofInt (IntKind.bits .u64) z_1 &&& BitVec.ofInt (IntKind.bits .u64) (3689348814741910323 : Int)).toNat : Nat) : Int))))
    let z_3 : Int := (IntKind.wrap .u64 (((BitVec.ofInt (IntKind.bits .u64) (IntKind.wrap .u64 ((Int.fdiv z_2 (2 ^ (min (Int.toNat (4 : Int)) (IntKind.bits .u64)) : Int)) + z_2)) &&& BitVec.ofInt (IntKind.bits .u64) (1085102592571150095 : Int)).toNat : Nat) : Int))
    let z_4 : Int := (IntKind.wrap .u64 (z_3 + (Int.fdiv z_3 (2 ^ (min (Int.toNat (8 : Int)) (IntKind.bits .u64)) : Int))))
    let z_5 : Int := (IntKind.wrap .u64 (z_4 + (Int.fdiv z_4 (2 ^ (min (Int.toNat (16 : Int)) (IntKind.bits .u64)) : Int))))
    (IntKind.wrap .i64 (((BitVec.ofInt (IntKind.bits .i64) (IntKind.wrap .i64 (IntKind.wrap .u64 (z_5 + (Int.fdiv z_5 (2 ^ (min (Int.toNat (32 : Int)) (IntKind.bits .u64)) : Int))))) &&& BitVec.ofInt (IntKind.bits .i64) (127 : Int)).toNat : Nat) : Int))
theorem math_bits_OnesCount64_cv (Q : Type) (x0 : Int) (k : (Int) → Option Q) : math_bits_OnesCount64_c Q x0 k = k (math_bits_OnesCount64_v x0) := by
  simp only [math_bits_OnesCount64_c, math_bits_OnesCount64_v, app_condL k]

/-- math/bits.OnesCount -/
def math_bits_OnesCount_c (Q : Type) (x0 : Int) (k : (Int) → Option Q) : Option Q :=
    k (math_bits_OnesCount64_v x0)
def math_bits_OnesCount_v (x0 : Int) : Int :=
    (math_bits_OnesCount64_v x0)
theorem math_bits_OnesCount_cv (Q : Type) (x0 : Int) (k : (Int) → Option Q) : math_bits_OnesCount_c Q x0 k = k (math_bits_OnesCount_v x0) := by
  simp only [math_bits_OnesCount_c, math_bits_OnesCount_v, app_condL k]

/-- loop.example/g01194/impl.leastTiles -/
def impl_leastTiles_c (Q : Type) (sum0 : Int) (k : (Int) → Option Q) : Option Q :=
    k (IntKind.wrap .i64 ((Int.fdiv sum0 (2 ^ (min (Int.toNat (17 : Int)) (IntKind.bits .i64)) : Int)) + (math_bits_OnesCount_v (IntKind.wrap .u64 (((BitVec.ofInt (IntKind.bits .u64) (IntKind.wrap .u64 sum0) &&& BitVec.ofInt (IntKind.bits .u64) (131071 : Int)).toNat : Nat) : Int)))))
def impl_leastTiles_v (sum0 : Int) : Int :=
    (IntKind.wrap .i64 ((Int.fdiv sum0 (2 ^ (min (Int.toNat (17 : Int)) (IntKind.bits .i64)) : Int)) + (math_bits_OnesCount_v (IntKind.wrap .u64 (((BitVec.ofInt (IntKind.bits .u64) (IntKind.wrap .u64 sum0) &&& BitVec.ofInt (IntKind.bits .u64) (131071 : Int)).toNat : Nat) : Int)))))
theorem impl_leastTiles_cv (Q : Type) (sum0 : Int) (k : (Int) → Option Q) : impl_leastTiles_c Q sum0 k = k (impl_leastTiles_v sum0) := by
  simp only [impl_leastTiles_c, impl_leastTiles_v, app_condL k]

/-- loop.example/g01194/impl.isFor -/
def impl_isFor_c (Q : Type) (sum0 : Int) (k : (Bool) → Option Q) : Option Q :=
    bif (impl_isSum_v sum0) then
    bif ((Int.tmod sum0 (2 : Int)) == (0 : Int)) then
    k (decide ((impl_leastTiles_v sum0) ≤ (16 : Int)))
    else k false
    else k false
def impl_isFor_v (sum0 : Int) : Bool :=
    bif (impl_isSum_v sum0) then
    bif ((Int.tmod sum0 (2 : Int)) == (0 : Int)) then
    (decide ((impl_leastTiles_v sum0) ≤ (16 : Int)))
    else false
    else false
theorem impl_isFor_cv (Q : Type) (sum0 : Int) (k : (Bool) → Option Q) : impl_isFor_c Q sum0 k = k (impl_isFor_v sum0) := by
  simp only [impl_isFor_c, impl_isFor_v, app_condL k]

/-- loop.example/g01194/impl.LeastTiles -/
def impl_LeastTiles_c (Q : Type) (sum0 : Int) (k : (Int × Bool) → Option Q) : Option Q :=
    bif (!(impl_isFor_v sum0)) then
    k ((0 : Int), false)
    else k ((impl_leastTiles_v sum0), true)
def impl_LeastTiles_v (sum0 : Int) : Int × Bool :=
    bif (!(impl_isFor_v sum0)) then
    ((0 : Int), false)
    else ((impl_leastTiles_v sum0), true)
theorem impl_LeastTiles_cv (Q : Type) (sum0 : Int) (k : (Int × Bool) → Option Q) : impl_LeastTiles_c Q sum0 k = k (impl_LeastTiles_v sum0) := by
  simp only [impl_LeastTiles_c, impl_LeastTiles_v, app_condL k]

/-- loop.example/g01194/spec.l1In -/
def spec_l1In_c (Q : Type) (x0 : Int) (a1 : Int) (b2 : Int) (k : (Bool) → Option Q) : Option Q :=
    bif (decide (a1 ≤ x0)) then
    k (decide (x0 ≤ b2))
    else k false
def spec_l1In_v (x0 : Int) (a1 : Int) (b2 : Int) : Bool :=
    bif (decide (a1 ≤ x0)) then
    (decide (x0 ≤ b2))
    else false
theorem spec_l1In_cv (Q : Type) (x0 : Int) (a1 : Int) (b2 : Int) (k : (Bool) → Option Q) : spec_l1In_c Q x0 a1 b2 k = k (spec_l1In_v x0 a1 b2) := by
  simp only [spec_l1In_c, spec_l1In_v, app_condL k]

/-- loop.example/g01194/spec.l2Worth -/
def spec_l2Worth_c (Q : Type) (t0 : Int) (k : (Int) → Option Q) : Option Q :=
    bif (decide (t0 < (0 : Int))) then
    none
    else k (IntKind.wrap .i64 ((1 : Int) * (2 ^ (min (Int.toNat t0) (IntKind.bits .i64)) : Int)))
def spec_l2Worth_p (t0 : Int) : Option (Int) := spec_l2Worth_c _ t0 some
theorem spec_l2Worth_cp (Q : Type) (t0 : Int) (k : (Int) → Option Q) : spec_l2Worth_c Q t0 k = (spec_l2Worth_p t0).bind k := by
  simp only [spec_l2Worth_p, spec_l2Worth_c, cond_bindL, none_bindL, some_bindL]

/-- loop 5 of loop.example/g01194/spec.l7Least -/
def spec_l7Least_s5 (F : Nat) (t3 : Int) (Q : Type) : (Int × List Int) → ((Int × List Int) → Option Q) → ((Int × List Int) → Option Q) → Option Q
  | (sum0, out4), kn, kx =>
    let z_1 : List Int := ((subn (List.length out4) out4 0 (List.length out4)) ++ [t3])
    bif (Option.isSome (spec_l2Worth_p t3)) then
    bif (decide ((Option.getD (spec_l2Worth_p t3) default) ≤ sum0)) then
    bif (fits (List.length z_1) 8) then
    bif (Option.isSome (spec_l2Worth_p t3)) then
    kn ((IntKind.wrap .i64 (sum0 - (Option.getD (spec_l2Worth_p t3) default))), z_1)
    else none
    else none
    else kx (sum0, out4)
    else none
def spec_l7Least_l5 (F : Nat) (t3 : Int) (sum0 : Int) (out4 : List Int) : Option (Int × List Int) := loopC (spec_l7Least_s5 F t3) F (sum0, out4) some
theorem spec_l7Least_s5_nat (F : Nat) (t3 : Int) : Natural (spec_l7Least_s5 F t3) := by
  intro Q Q' s kn kx h
  obtain ⟨sum0, out4⟩ := s
  simp only [spec_l7Least_s5, cond_bindL, none_bindL]
/-- loop 3 of loop.example/g01194/spec.l7Least -/
def spec_l7Least_s3 (F : Nat) (Q : Type) : (Int × Int × List Int) → ((Int × Int × List Int) → Option Q) → ((List Int) → Option Q) → Option Q
  | (sum0, t3, out4), kn, kx =>
    let z_1 := (spec_l7Least_l5 F t3 sum0 out4)
    let z_2 := (Option.getD z_1 default)
    bif (decide ((0 : Int) < t3)) then
    bif ((Nat.beq (List.length out4) (List.length out4)) && (Option.isSome z_1)) then
    kn (z_2.1, (IntKind.wrap .i64 (t3 - (1 : Int))), z_2.2)
    else none
    else kx out4
def spec_l7Least_l3 (F : Nat) (sum0 : Int) (t3 : Int) (out4 : List Int) : Option (List Int) := loopC (spec_l7Least_s3 F) F (sum0, t3, out4) some
theorem spec_l7Least_s3_nat (F : Nat) : Natural (spec_l7Least_s3 F) := by
  intro Q Q' s kn kx h
  obtain ⟨sum0, t3, out4⟩ := s
  simp only [spec_l7Least_s3, cond_bindL, none_bindL]
/-- loop.example/g01194/spec.l7Least -/
def spec_l7Least_c (Q : Type) (F : Nat) (sum0 : Int) (k : (List Int) → Option Q) : Option Q :=
    let z_1 := (spec_l7Least_l3 F sum0 (17 : Int) ([] : List Int))
    bif (Option.isSome z_1) then
    k (Option.getD z_1 default)
    else none
def spec_l7Least_p (F : Nat) (sum0 : Int) : Option (List Int) := spec_l7Least_c _ F sum0 some
theorem spec_l7Least_cp (Q : Type) (F : Nat) (sum0 : Int) (k : (List Int) → Option Q) : spec_l7Least_c Q F sum0 k = (spec_l7Least_p F sum0).bind k := by
  simp only [spec_l7Least_p, spec_l7Least_c, cond_bindL, none_bindL, some_bindL]

/-- loop.example/g01194/spec.l7Sum -/
def spec_l7Sum_c (Q : Type) (F : Nat) (sum0 : Int) (k : (Bool) → Option Q) : Option Q :=
    let z_1 := (spec_l7Least_p F sum0)
    bif (spec_l1In_v sum0 (0 : Int) (2097152 : Int)) then
    bif ((Int.tmod sum0 (2 : Int)) == (0 : Int)) then
    bif (Option.isSome z_1) then
    k (decide ((((List.length (Option.getD z_1 default)) : Nat) : Int) ≤ (16 : Int)))
    else none
    else k false
    else k false
def spec_l7Sum_p (F : Nat) (sum0 : Int) : Option (Bool) := spec_l7Sum_c _ F sum0 some
theorem spec_l7Sum_cp (Q : Type) (F : Nat) (sum0 : Int) (k : (Bool) → Option Q) : spec_l7Sum_c Q F sum0 k = (spec_l7Sum_p F sum0).bind k := by
  simp only [spec_l7Sum_p, spec_l7Sum_c, cond_bindL, none_bindL, some_bindL]

/-- loop.example/g01194/spec.LeastTiles -/
def spec_LeastTiles_c (Q : Type) (F : Nat) (sum0 : Int) (k : (Int × Bool) → Option Q) : Option Q :=
    let z_1 := (spec_l7Sum_p F sum0)
    let z_2 := (spec_l7Least_p F sum0)
    bif (Option.isSome z_1) then
    bif (!(Option.getD z_1 default)) then
    k ((0 : Int), false)
    else bif (Option.isSome z_2) then
    k ((((List.length (Option.getD z_2 default)) : Nat) : Int), true)
    else none
    else none
def spec_LeastTiles_p (F : Nat) (sum0 : Int) : Option (Int × Bool) := spec_LeastTiles_c _ F sum0 some
theorem spec_LeastTiles_cp (Q : Type) (F : Nat) (sum0 : Int) (k : (Int × Bool) → Option Q) : spec_LeastTiles_c Q F sum0 k = (spec_LeastTiles_p F sum0).bind k := by
  simp only [spec_LeastTiles_p, spec_LeastTiles_c, cond_bindL, none_bindL, some_bindL]

/-- loop.example/g01194/impl.cells -/
def impl_cells_c (Q : Type) (k : (Unit) → Option Q) : Option Q :=
    k ()
def impl_cells_v : Unit :=
    ()
theorem impl_cells_cv (Q : Type) (k : (Unit) → Option Q) : impl_cells_c Q k = k (impl_cells_v) := by
  simp only [impl_cells_c, impl_cells_v, app_condL k]

/-- math/bits.Len64 -/
def math_bits_Len64_v (x : Int) : Int := ((Go.Lib.bitLen x.toNat : Nat) : Int)

/-- math/bits.Len -/
def math_bits_Len_c (Q : Type) (x0 : Int) (k : (Int) → Option Q) : Option Q :=
    bif ((decide ((0 : Int) ≤ x0)) && (decide (x0 ≤ (18446744073709551615 : Int)))) then
    k (math_bits_Len64_v x0)
    else none
def math_bits_Len_p (x0 : Int) : Option (Int) := math_bits_Len_c _ x0 some
theorem math_bits_Len_cp (Q : Type) (x0 : Int) (k : (Int) → Option Q) : math_bits_Len_c Q x0 k = (math_bits_Len_p x0).bind k := by
  simp only [math_bits_Len_p, math_bits_Len_c, cond_bindL, none_bindL, some_bindL]

/-- (*loop.example/g01194/impl.Board).at -/
def impl_Board_at_c (Q : Type) (cell3 : List Int) (b4 : List Int) (k : (Nat) → Option Q) : Option Q :=
    bif (inR (iget cell3 0) 4) then
    bif (inR (iget cell3 1) 4) then
    k (((0 : Nat) + ((Int.toNat (iget cell3 0)) * (4 : Nat))) + ((Int.toNat (iget cell3 1)) * (1 : Nat)))
    else none
    else none
def impl_Board_at_p (cell3 : List Int) (b4 : List Int) : Option (Nat) := impl_Board_at_c _ cell3 b4 some
theorem impl_Board_at_cp (Q : Type) (cell3 : List Int) (b4 : List Int) (k : (Nat) → Option Q) : impl_Board_at_c Q cell3 b4 k = (impl_Board_at_p cell3 b4).bind k := by
  simp only [impl_Board_at_p, impl_Board_at_c, cond_bindL, none_bindL, some_bindL]

/-- loop.example/g01194/impl.worth -/
def impl_worth_c (Q : Type) (t0 : Int) (k : (Int) → Option Q) : Option Q :=
    bif (t0 == (0 : Int)) then
    k (0 : Int)
    else bif (decide (t0 < (0 : Int))) then
    none
    else k (IntKind.wrap .i64 ((1 : Int) * (2 ^ (min (Int.toNat t0) (IntKind.bits .i64)) : Int)))
def impl_worth_p (t0 : Int) : Option (Int) := impl_worth_c _ t0 some
theorem impl_worth_cp (Q : Type) (t0 : Int) (k : (Int) → Option Q) : impl_worth_c Q t0 k = (impl_worth_p t0).bind k := by
  simp only [impl_worth_p, impl_worth_c, cond_bindL, none_bindL, some_bindL]

/-- loop 5 of loop.example/g01194/impl.PackedBoard -/
def impl_PackedBoard_s5 (F : Nat) (Q : Type) : (Int × Int × List Int) → ((Int × Int × List Int) → Option Q) → ((List Int) → Option Q) → Option Q
  | (sum0, t1510, out12), kn, kx =>
    let z_1 := (impl_Board_at_p (rget [[(0 : Int), (0 : Int)], [(0 : Int), (1 : Int)], [(0 : Int), (2 : Int)], [(0 : Int), (3 : Int)], [(1 : Int), (0 : Int)], [(1 : Int), (1 : Int)], [(1 : Int), (2 : Int)], [(1 : Int), (3 : Int)], [(2 : Int), (0 : Int)], [(2 : Int), (1 : Int)], [(2 : Int), (2 : Int)], [(2 : Int), (3 : Int)], [(3 : Int), (0 : Int)], [(3 : Int), (1 : Int)], [(3 : Int), (2 : Int)], [(3 : Int), (3 : Int)]] ((0 : Nat) + (Int.toNat t1510))) out12)
    let z_2 : Int := (if (17 : Int) < (IntKind.wrap .i64 ((Option.getD (math_bits_Len_p (IntKind.wrap .u64 sum0)) default) - (1 : Int))) then (17 : Int) else (IntKind.wrap .i64 ((Option.getD (math_bits_Len_p (IntKind.wrap .u64 sum0)) default) - (1 : Int))))
    let z_3 : Int := (IntKind.wrap .i64 (t1510 + (1 : Int)))
    bif (decide (t1510 < (16 : Int))) then
    bif (inR t1510 16) then
    bif (decide ((0 : Int) < sum0)) then
    bif (Option.isSome (math_bits_Len_p (IntKind.wrap .u64 sum0))) then
    bif (Option.isSome z_1) then
    bif (Option.isSome (impl_worth_p z_2)) then
    kn ((IntKind.wrap .i64 (sum0 - (Option.getD (impl_worth_p z_2) default))), z_3, (iset out12 (Option.getD z_1 default) z_2))
    else none
    else none
    else none
    else kn (sum0, z_3, out12)
    else none
    else kx out12
def impl_PackedBoard_l5 (F : Nat) (sum0 : Int) (t1510 : Int) (out12 : List Int) : Option (List Int) := loopC (impl_PackedBoard_s5 F) F (sum0, t1510, out12) some
theorem impl_PackedBoard_s5_nat (F : Nat) : Natural (impl_PackedBoard_s5 F) := by
  intro Q Q' s kn kx h
  obtain ⟨sum0, t1510, out12⟩ := s
  simp only [impl_PackedBoard_s5, cond_bindL, none_bindL]
/-- loop.example/g01194/impl.PackedBoard -/
def impl_PackedBoard_c (Q : Type) (F : Nat) (sum0 : Int) (k : (List Int × Bool) → Option Q) : Option Q :=
    let z_1 : List Int := [(0 : Int), (0 : Int), (0 : Int), (0 : Int), (0 : Int), (0 : Int), (0 : Int), (0 : Int), (0 : Int), (0 : Int), (0 : Int), (0 : Int), (0 : Int), (0 : Int), (0 : Int), (0 : Int)]
    let z_2 := (impl_PackedBoard_l5 F sum0 (0 : Int) z_1)
    bif (!(impl_isFor_v sum0)) then
    k (z_1, false)
    else bif (Option.isSome z_2) then
    k ((Option.getD z_2 default), true)
    else none
def impl_PackedBoard_p (F : Nat) (sum0 : Int) : Option (List Int × Bool) := impl_PackedBoard_c _ F sum0 some
theorem impl_PackedBoard_cp (Q : Type) (F : Nat) (sum0 : Int) (k : (List Int × Bool) → Option Q) : impl_PackedBoard_c Q F sum0 k = (impl_PackedBoard_p F sum0).bind k := by
  simp only [impl_PackedBoard_p, impl_PackedBoard_c, cond_bindL, none_bindL, some_bindL]

/-- loop.example/g01194/spec.l2Put -/
def spec_l2Put_c (Q : Type) (b0 : List Int) (cell1 : List Int) (t2 : Int) (k : (List Int) → Option Q) : Option Q :=
    bif (inR (iget cell1 0) 4) then
    bif (inR (iget cell1 1) 4) then
    k (iset b0 (((0 : Nat) + ((Int.toNat (iget cell1 0)) * (4 : Nat))) + ((Int.toNat (iget cell1 1)) * (1 : Nat))) t2)
    else none
    else none
def spec_l2Put_p (b0 : List Int) (cell1 : List Int) (t2 : Int) : Option (List Int) := spec_l2Put_c _ b0 cell1 t2 some
theorem spec_l2Put_cp (Q : Type) (b0 : List Int) (cell1 : List Int) (t2 : Int) (k : (List Int) → Option Q) : spec_l2Put_c Q b0 cell1 t2 k = (spec_l2Put_p b0 cell1 t2).bind k := by
  simp only [spec_l2Put_p, spec_l2Put_c, cond_bindL, none_bindL, some_bindL]

/-- loop 5 of loop.example/g01194/spec.PackedBoard -/
def spec_PackedBoard_s5 (F : Nat) (list11 : List Int) (Q : Type) : (Int × List Int) → ((Int × List Int) → Option Q) → ((List Int) → Option Q) → Option Q
  | (i8, b10), kn, kx =>
    let z_1 := (spec_l2Put_p b10 [(IntKind.wrap .i64 (Int.tdiv i8 (4 : Int))), (Int.tmod i8 (4 : Int))] (iget list11 ((0 : Nat) + (Int.toNat i8))))
    bif (decide (i8 < (((List.length list11) : Nat) : Int))) then
    bif (inR i8 (List.length list11)) then
    bif (Option.isSome z_1) then
    kn ((IntKind.wrap .i64 (i8 + (1 : Int))), (Option.getD z_1 default))
    else none
    else none
    else kx b10
def spec_PackedBoard_l5 (F : Nat) (list11 : List Int) (i8 : Int) (b10 : List Int) : Option (List Int) := loopC (spec_PackedBoard_s5 F list11) F (i8, b10) some
theorem spec_PackedBoard_s5_nat (F : Nat) (list11 : List Int) : Natural (spec_PackedBoard_s5 F list11) := by
  intro Q Q' s kn kx h
  obtain ⟨i8, b10⟩ := s
  simp only [spec_PackedBoard_s5, cond_bindL, none_bindL]
/-- loop.example/g01194/spec.PackedBoard -/
def spec_PackedBoard_c (Q : Type) (F : Nat) (sum0 : Int) (k : (List Int × Bool) → Option Q) : Option Q :=
    let z_1 := (spec_l7Sum_p F sum0)
    let z_2 : List Int := [(0 : Int), (0 : Int), (0 : Int), (0 : Int), (0 : Int), (0 : Int), (0 : Int), (0 : Int), (0 : Int), (0 : Int), (0 : Int), (0 : Int), (0 : Int), (0 : Int), (0 : Int), (0 : Int)]
    let z_3 := (spec_l7Least_p F sum0)
    let z_4 : Nat := (List.length (Option.getD z_3 default))
    let z_5 := (spec_PackedBoard_l5 F (Option.getD z_3 default) (0 : Int) z_2)
    bif (Option.isSome z_1) then
    bif (!(Option.getD z_1 default)) then
    k (z_2, false)
    else bif (Option.isSome z_3) then
    bif ((Nat.beq z_4 z_4) && (Option.isSome z_5)) then
    k ((Option.getD z_5 default), true)
    else none
    else none
    else none
def spec_PackedBoard_p (F : Nat) (sum0 : Int) : Option (List Int × Bool) := spec_PackedBoard_c _ F sum0 some
theorem spec_PackedBoard_cp (Q : Type) (F : Nat) (sum0 : Int) (k : (List Int × Bool) → Option Q) : spec_PackedBoard_c Q F sum0 k = (spec_PackedBoard_p F sum0).bind k := by
  simp only [spec_PackedBoard_p, spec_PackedBoard_c, cond_bindL, none_bindL, some_bindL]
end Go.Lv.P
