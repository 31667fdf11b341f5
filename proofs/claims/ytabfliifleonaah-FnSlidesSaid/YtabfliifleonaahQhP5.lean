/-
Pure functions and what the code of them does, by program; without conditions.
-/
import Derived.Test.YtabfliifleonaahQhP4
namespace Go.Lv.P
open Go Go.Lv
set_option linter.unusedVariables false
set_option linter.unusedSimpArgs false
set_option maxRecDepth 100000
/-- (loop.example/g01194/impl.Board).flat -/
def impl_Board_flat_c (Q : Type) (b0 : List Int) (k : (List Int) → Option Q) : Option Q :=
    let z_1 := (slices_Concat_intint_p (sub b0 0 4) (sub b0 4 4) (sub b0 8 4) (sub b0 12 4))
    bif (Option.isSome z_1) then
    k (Option.getD z_1 default)
    else none
def impl_Board_flat_p (b0 : List Int) : Option (List Int) := impl_Board_flat_c _ b0 some
theorem impl_Board_flat_cp (Q : Type) (b0 : List Int) (k : (List Int) → Option Q) : impl_Board_flat_c Q b0 k = (impl_Board_flat_p b0).bind k := by
  simp only [impl_Board_flat_p, impl_Board_flat_c, cond_bindL, none_bindL, some_bindL]

/-- loop 3 of (loop.example/g01194/impl.Board).potential -/
def impl_Board_potential_s3 (F : Nat) (t83 : Int) (t75 : List Int) (Q : Type) : (Int × Int) → ((Int × Int) → Option Q) → ((Int) → Option Q) → Option Q
  | (sum0, t94), kn, kx =>
    let z_1 : Int := (iget t75 ((0 : Nat) + (Int.toNat t94)))
    let z_2 : Int := (IntKind.wrap .i64 (t94 + (1 : Int)))
    bif (decide (t94 < t83)) then
    bif (inR t94 (List.length t75)) then
    bif (decide ((0 : Int) < z_1)) then
    bif (Option.isSome (impl_worth_p z_1)) then
    kn ((IntKind.wrap .i64 (sum0 + (IntKind.wrap .i64 ((IntKind.wrap .i64 (z_1 - (1 : Int))) * (Option.getD (impl_worth_p z_1) default))))), z_2)
    else none
    else kn (sum0, z_2)
    else none
    else kx sum0
def impl_Board_potential_l3 (F : Nat) (t83 : Int) (t75 : List Int) (sum0 : Int) (t94 : Int) : Option (Int) := loopC (impl_Board_potential_s3 F t83 t75) F (sum0, t94) some
theorem impl_Board_potential_s3_nat (F : Nat) (t83 : Int) (t75 : List Int) : Natural (impl_Board_potential_s3 F t83 t75) := by
  intro Q Q' s kn kx h
  obtain ⟨sum0, t94⟩ := s
  simp only [impl_Board_potential_s3, cond_bindL, none_bindL]
/-- (loop.example/g01194/impl.Board).potential -/
def impl_Board_potential_c (Q : Type) (F : Nat) (b0 : List Int) (k : (Int) → Option Q) : Option Q :=
    let z_1 : Nat := (List.length (Option.getD (impl_Board_flat_p b0) default))
    let z_2 := (impl_Board_potential_l3 F ((z_1 : Nat) : Int) (Option.getD (impl_Board_flat_p b0) default) (0 : Int) (0 : Int))
    bif (Option.isSome (impl_Board_flat_p b0)) then
    bif ((Nat.beq z_1 z_1) && (Option.isSome z_2)) then
    k (Option.getD z_2 default)
    else none
    else none
def impl_Board_potential_p (F : Nat) (b0 : List Int) : Option (Int) := impl_Board_potential_c _ F b0 some
theorem impl_Board_potential_cp (Q : Type) (F : Nat) (b0 : List Int) (k : (Int) → Option Q) : impl_Board_potential_c Q F b0 k = (impl_Board_potential_p F b0).bind k := by
  simp only [impl_Board_potential_p, impl_Board_potential_c, cond_bindL, none_bindL, some_bindL]

/-- loop.example/g01194/impl.PotentialOf -/
def impl_PotentialOf_c (Q : Type) (F : Nat) (b0 : List Int) (k : (Int × Bool) → Option Q) : Option Q :=
    let z_1 := (impl_IsBoard_p F b0)
    let z_2 := (impl_Board_potential_p F b0)
    bif (Option.isSome z_1) then
    bif (!(Option.getD z_1 default)) then
    k ((0 : Int), false)
    else bif (Option.isSome z_2) then
    k ((Option.getD z_2 default), true)
    else none
    else none
def impl_PotentialOf_p (F : Nat) (b0 : List Int) : Option (Int × Bool) := impl_PotentialOf_c _ F b0 some
theorem impl_PotentialOf_cp (Q : Type) (F : Nat) (b0 : List Int) (k : (Int × Bool) → Option Q) : impl_PotentialOf_c Q F b0 k = (impl_PotentialOf_p F b0).bind k := by
  simp only [impl_PotentialOf_p, impl_PotentialOf_c, cond_bindL, none_bindL, some_bindL]

/-- loop.example/g01194/impl.HighestTile -/
def impl_HighestTile_c (Q : Type) (F : Nat) (b0 : List Int) (k : (Int × List Int × Bool) → Option Q) : Option Q :=
    let z_1 := (impl_IsBoard_p F b0)
    let z_2 := (impl_Board_highest_p F b0)
    let z_3 := (Option.getD z_2 default)
    bif (Option.isSome z_1) then
    bif (!(Option.getD z_1 default)) then
    k ((0 : Int), [(0 : Int), (0 : Int)], false)
    else bif (b0 == ([(0 : Int), (0 : Int), (0 : Int), (0 : Int), (0 : Int), (0 : Int), (0 : Int), (0 : Int), (0 : Int), (0 : Int), (0 : Int), (0 : Int), (0 : Int), (0 : Int), (0 : Int), (0 : Int)] : List Int)) then
    k ((0 : Int), [(0 : Int), (0 : Int)], false)
    else bif (Option.isSome z_2) then
    k (z_3.1, z_3.2, true)
    else none
    else none
def impl_HighestTile_p (F : Nat) (b0 : List Int) : Option (Int × List Int × Bool) := impl_HighestTile_c _ F b0 some
theorem impl_HighestTile_cp (Q : Type) (F : Nat) (b0 : List Int) (k : (Int × List Int × Bool) → Option Q) : impl_HighestTile_c Q F b0 k = (impl_HighestTile_p F b0).bind k := by
  simp only [impl_HighestTile_p, impl_HighestTile_c, cond_bindL, none_bindL, some_bindL]

/-- (loop.example/g01194/impl.Board).sum -/
def impl_Board_sum_c (Q : Type) (b0 : List Int) (k : (Int) → Option Q) : Option Q :=
    let z_1 := (impl_Board_at_p [(0 : Int), (0 : Int)] b0)
    let z_2 := (impl_Board_at_p [(0 : Int), (1 : Int)] b0)
    let z_3 := (impl_Board_at_p [(0 : Int), (2 : Int)] b0)
    let z_4 := (impl_Board_at_p [(0 : Int), (3 : Int)] b0)
    let z_5 := (impl_Board_at_p [(1 : Int), (0 : Int)] b0)
    let z_6 := (impl_Board_at_p [(1 : Int), (1 : Int)] b0)
    let z_7 := (impl_Board_at_p [(1 : Int), (2 : Int)] b0)
    let z_8 := (impl_Board_at_p [(1 : Int), (3 : Int)] b0)
    let z_9 := (impl_Board_at_p [(2 : Int), (0 : Int)] b0)
    let z_10 := (impl_Board_at_p [(2 : Int), (1 : Int)] b0)
    let z_11 := (impl_Board_at_p [(2 : Int), (2 : Int)] b0)
    let z_12 := (impl_Board_at_p [(2 : Int), (3 : Int)] b0)
    let z_13 := (impl_Board_at_p [(3 : Int), (0 : Int)] b0)
    let z_14 := (impl_Board_at_p [(3 : Int), (1 : Int)] b0)
    let z_15 := (impl_Board_at_p [(3 : Int), (2 : Int)] b0)
    let z_16 := (impl_Board_at_p [(3 : Int), (3 : Int)] b0)
    bif (Option.isSome z_1) then
    bif (Option.isSome (impl_worth_p (iget b0 (Option.getD z_1 default)))) then
    bif (Option.isSome z_2) then
    bif (Option.isSome (impl_worth_p (iget b0 (Option.getD z_2 default)))) then
    bif (Option.isSome z_3) then
    bif (Option.isSome (impl_worth_p (iget b0 (Option.getD z_3 default)))) then
    bif (Option.isSome z_4) then
    bif (Option.isSome (impl_worth_p (iget b0 (Option.getD z_4 default)))) then
    bif (Option.isSome z_5) then
    bif (Option.isSome (impl_worth_p (iget b0 (Option.getD z_5 default)))) then
    bif (Option.isSome z_6) then
    bif (Option.isSome (impl_worth_p (iget b0 (Option.getD z_6 default)))) then
    bif (Option.isSome z_7) then
    bif (Option.isSome (impl_worth_p (iget b0 (Option.getD z_7 default)))) then
    bif (Option.isSome z_8) then
    bif (Option.isSome (impl_worth_p (iget b0 (Option.getD z_8 default)))) then
    bif (Option.isSome z_9) then
    bif (Option.isSome (impl_worth_p (iget b0 (Option.getD z_9 default)))) then
    bif (Option.isSome z_10) then
    bif (Option.isSome (impl_worth_p (iget b0 (Option.getD z_10 default)))) then
    bif (Option.isSome z_11) then
    bif (Option.isSome (impl_worth_p (iget b0 (Option.getD z_11 default)))) then
    bif (Option.isSome z_12) then
    bif (Option.isSome (impl_worth_p (iget b0 (Option.getD z_12 default)))) then
    bif (Option.isSome z_13) then
    bif (Option.isSome (impl_worth_p (iget b0 (Option.getD z_13 default)))) then
    bif (Option.isSome z_14) then
    bif (Option.isSome (impl_worth_p (iget b0 (Option.getD z_14 default)))) then
    bif (Option.isSome z_15) then
    bif (Option.isSome (impl_worth_p (iget b0 (Option.getD z_15 default)))) then
    bif (Option.isSome z_16) then
    bif (Option.isSome (impl_worth_p (iget b0 (Option.getD z_16 default)))) then
    k (IntKind.wrap .i64 ((IntKind.wrap .i64 ((IntKind.wrap .i64 ((IntKind.wrap .i64 ((IntKind.wrap .i64 ((IntKind.wrap .i64 ((IntKind.wrap .i64 ((IntKind.wrap .i64 ((IntKind.wrap .i64 ((IntKind.wrap .i64 ((IntKind.wrap .i64 ((IntKind.wrap .i64 ((IntKind.wrap .i64 ((IntKind.wrap .i64 ((IntKind.wrap .i64 ((IntKind.wrap .i64 ((0 : Int) + (Option.getD (impl_worth_p (iget b0 (Option.getD z_1 default))) default))) + (Option.getD (impl_worth_p (iget b0 (Option.getD z_2 default))) default))) + (Option.getD (impl_worth_p (iget b0 (Option.getD z_3 default))) default))) + (Option.getD (impl_worth_p (iget b0 (Option.getD z_4 default))) default))) + (Option.getD (impl_worth_p (iget b0 (Option.getD z_5 default))) default))) + (Option.getD (impl_worth_p (iget b0 (Option.getD z_6 default))) default))) + (Option.getD (impl_worth_p (iget b0 (Option.getD z_7 default))) default))) + (Option.getD (impl_worth_p (iget b0 (Option.getD z_8 default))) default))) + (Option.getD (impl_worth_p (iget b0 (Option.getD z_9 default))) default))) + (Option.getD (impl_worth_p (iget b0 (Option.getD z_10 default))) default))) + (Option.getD (impl_worth_p (iget b0 (Option.getD z_11 default))) default))) + (Option.getD (impl_worth_p (iget b0 (Option.getD z_12 default))) default))) + (Option.getD (impl_worth_p (iget b0 (Option.getD z_13 default))) default))) + (Option.getD (impl_worth_p (iget b0 (Option.getD z_14 default))) default))) + (Option.getD (impl_worth_p (iget b0 (Option.getD z_15 default))) default))) + (Option.getD (impl_worth_p (iget b0 (Option.getD z_16 default))) default)))
    else none
    else none
    else none
    else none
    else none
    else none
    else none
    else none
    else none
    else none
    else none
    else none
    else none
    else none
    else none
    else none
    else none
    else none
    else none
    else none
    else none
    else none
    else none
    else none
    else none
    else none
    else none
    else none
    else none
    else none
    else none
    else none
def impl_Board_sum_p (b0 : List Int) : Option (Int) := impl_Board_sum_c _ b0 some
theorem impl_Board_sum_cp (Q : Type) (b0 : List Int) (k : (Int) → Option Q) : impl_Board_sum_c Q b0 k = (impl_Board_sum_p b0).bind k := by
  simp only [impl_Board_sum_p, impl_Board_sum_c, cond_bindL, none_bindL, some_bindL]

/-- loop.example/g01194/impl.SumOf -/
def impl_SumOf_c (Q : Type) (F : Nat) (b0 : List Int) (k : (Int × Bool) → Option Q) : Option Q :=
    let z_1 := (impl_IsBoard_p F b0)
    bif (Option.isSome z_1) then
    bif (!(Option.getD z_1 default)) then
    k ((0 : Int), false)
    else bif (Option.isSome (impl_Board_sum_p b0)) then
    k ((Option.getD (impl_Board_sum_p b0) default), true)
    else none
    else none
def impl_SumOf_p (F : Nat) (b0 : List Int) : Option (Int × Bool) := impl_SumOf_c _ F b0 some
theorem impl_SumOf_cp (Q : Type) (F : Nat) (b0 : List Int) (k : (Int × Bool) → Option Q) : impl_SumOf_c Q F b0 k = (impl_SumOf_p F b0).bind k := by
  simp only [impl_SumOf_p, impl_SumOf_c, cond_bindL, none_bindL, some_bindL]

/-- loop.example/g01194/laws.vSum2 -/
def laws_vSum2_c (Q : Type) (F : Nat) (b0 : List Int) (k : (Int) → Option Q) : Option Q :=
    let z_1 := (impl_SumOf_p F b0)
    bif (Option.isSome z_1) then
    k (Option.getD z_1 default).1
    else none
def laws_vSum2_p (F : Nat) (b0 : List Int) : Option (Int) := laws_vSum2_c _ F b0 some
theorem laws_vSum2_cp (Q : Type) (F : Nat) (b0 : List Int) (k : (Int) → Option Q) : laws_vSum2_c Q F b0 k = (laws_vSum2_p F b0).bind k := by
  simp only [laws_vSum2_p, laws_vSum2_c, cond_bindL, none_bindL, some_bindL]

/-- loop.example/g01194/impl.isSum -/
def impl_isSum_c (Q : Type) (sum0 : Int) (k : (Bool) → Option Q) : Option Q :=
    k (impl_in_v sum0 (0 : Int) (2097152 : Int))
def impl_isSum_v (sum0 : Int) : Bool :=
    (impl_in_v sum0 (0 : Int) (2097152 : Int))
theorem impl_isSum_cv (Q : Type) (sum0 : Int) (k : (Bool) → Option Q) : impl_isSum_c Q sum0 k = k (impl_isSum_v sum0) := by
  simp only [impl_isSum_c, impl_isSum_v, app_condL k]

/-- math/bits.OnesCount64 -/
def math_bits_OnesCount64_c (Q : Type) (x0 : Int) (k : (Int) → Option Q) : Option Q :=
    let z_1 : Int := (IntKind.wrap .u64 ((IntKind.wrap .u64 (((BitVec.ofInt (IntKind.bits .u64) (Int.fdiv x0 (2 ^ (min (Int.toNat (1 : Int)) (IntKind.bits .u64)) : Int)) &&& BitVec.ofInt (IntKind.bits .u64) (6148914691236517205 : Int)).toNat : Nat) : Int)) + (IntKind.wrap .u64 (((BitVec.ofInt (IntKind.bits .u64) x0 &&& BitVec.ofInt (IntKind.bits .u64) (6148914691236517205 : Int)).toNat : Nat) : Int))))
    let z_2 : Int := (IntKind.wrap .u64 ((IntKind.wrap .u64 (((BitVec.ofInt (IntKind.bits .u64) (Int.fdiv z_1 (2 ^ (min (Int.toNat (2 : Int)) (IntKind.bits .u64)) : Int)) &&& BitVec.ofInt (IntKind.bits .u64) (3689348814741910323 : Int)).toNat : Nat) : Int)) + (IntKind.wrap .u64 (((BitVec.ofInt (IntKind.bits .u64) z_1 &&& BitVec.ofInt (IntKind.bits .u64) (3689348814741910323 : Int)).toNat : Nat) : Int))))
    let z_3 : Int := (IntKind.wrap .u64 (((BitVec.ofInt (IntKind.bits .u64) (IntKind.wrap .u64 ((Int.fdiv z_2 (2 ^ (min (Int.toNat (4 : Int)) (IntKind.bits .u64)) : Int)) + z_2)) &&& BitVec.ofInt (IntKind.bits .u64) (1085102592571150095 : Int)).toNat : Nat) : Int))
    let z_4 : Int := (IntKind.wrap .u64 (z_3 + (Int.fdiv z_3 (2 ^ (min (Int.toNat (8 : Int)) (IntKind.bits .u64)) : Int))))
    let z_5 : Int := (IntKind.wrap .u64 (z_4 + (Int.fdiv z_4 (2 ^ (min (Int.toNat (16 : Int)) (IntKind.bits .u64)) : Int))))
    k (IntKind.wrap .i64 (((BitVec.ofInt (IntKind.bits .i64) (IntKind.wrap .i64 (IntKind.wrap .u64 (z_5 + (Int.fdiv z_5 (2 ^ (min (Int.toNat (32 : Int)) (IntKind.bits .u64)) : Int))))) &&& BitVec.ofInt (IntKind.bits .i64) (127 : Int)).toNat : Nat) : Int))
def math_bits_OnesCount64_v (x0 : Int) : Int :=
    let z_1 : Int := (IntKind.wrap .u64 ((IntKind.wrap .u64 (((BitVec.ofInt (IntKind.bits .u64) (Int.fdiv x0 (2 ^ (min (Int.toNat (1 : Int)) (IntKind.bits .u64)) : Int)) &&& BitVec.ofInt (IntKind.bits .u64) (6148914691236517205 : Int)).toNat : Nat) : Int)) + (IntKind.wrap .u64 (((BitVec.ofInt (IntKind.bits .u64) x0 &&& BitVec.ofInt (IntKind.bits .u64) (6148914691236517205 : Int)).toNat : Nat) : Int))))
    let z_2 : Int := (IntKind.wrap .u64 ((IntKind.wrap .u64 (((BitVec.ofInt (IntKind.bits .u64) (Int.fdiv z_1 (2 ^ (min (Int.toNat (2 : Int)) (IntKind.bits .u64)) : Int)) &&& BitVec.ofInt (IntKind.bits .u64) (3689348814741910323 : Int)).toNat : Nat) : Int)) + (IntKind.wrap .u64 (((BitVec.ofInt (IntKind.bits .u64) z_1 &&& BitVec.ofInt (IntKind.bits .u64) (3689348814741910323 : Int)).toNat : Nat) : Int))))
    let z_3 : Int := (IntKind.wrap .u64 (((BitVec.ofInt (IntKind.bits .u64) (IntKind.wrap .u64 ((Int.fdiv z_2 (2 ^ (min (Int.toNat (4 : Int)) (IntKind.bits .u64)) : Int)) + z_2)) &&& BitVec.ofInt (IntKind.bits .u64) (1085102592571150095 : Int)).toNat : Nat) : Int))
    let z_4 : Int := (IntKind.wrap .u64 (z_3 + (Int.fdiv z_3 (2 ^ (min (Int.toNat (8 : Int)) (IntKind.bits .u64)) : Int))))
    let z_5 : Int := (IntKind.wrap .u64 (z_4 + (Int.fdiv z_4 (2 ^ (min (Int.toNat (16 : Int)) (IntKind.bits .u64)) : Int))))
    (IntKind.wrap .i64 (((BitVec.ofInt (IntKind.bits .i64) (IntKind.wrap .i64 (IntKind.wrap .u64 (z_5 + (Int.fdiv z_5 (2 ^ (min (Int.toNat (32 : Int)) (IntKind.bits .u64)) : Int))))) &&& BitVec.ofInt (IntKind.bits .i64) (127 : Int)).toNat : Nat) : Int))
theorem math_bits_OnesCount64_cv (Q : Type) (x0 : Int) (k : (Int) → Option Q) : math_bits_OnesCount64_c Q x0 k = k (math_bits_OnesCount64_v x0) := by
  simp only [math_bits_OnesCount64_c, math_bits_OnesCount64_v, app_condL k]

/-- math/bits.OnesCount -/
def math_bits_OnesCount_c (Q : Type) (x0 : Int) (k : (Int) → Option Q) : Option Q :=
    k (math_bits_OnesCount64_v x0)
def math_bits_OnesCount_v (x0 : Int) : Int :=
    (math_bits_OnesCount64_v x0)
theorem math_bits_OnesCount_cv (Q : Type) (x0 : Int) (k : (Int) → Option Q) : math_bits_OnesCount_c Q x0 k = k (math_bits_OnesCount_v x0) := by
  simp only [math_bits_OnesCount_c, math_bits_OnesCount_v, app_condL k]

/-- loop.example/g01194/impl.leastTiles -/
def impl_leastTiles_c (Q : Type) (sum0 : Int) (k : (Int) → Option Q) : Option Q :=
    k (IntKind.wrap .i64 ((Int.fdiv sum0 (2 ^ (min (Int.toNat (17 : Int)) (IntKind.bits .i64)) : Int)) + (math_bits_OnesCount_v (IntKind.wrap .u64 (((BitVec.ofInt (IntKind.bits .u64) (IntKind.wrap .u64 sum0) &&& BitVec.ofInt (IntKind.bits .u64) (131071 : Int)).toNat : Nat) : Int)))))
def impl_leastTiles_v (sum0 : Int) : Int :=
    (IntKind.wrap .i64 ((Int.fdiv sum0 (2 ^ (min (Int.toNat (17 : Int)) (IntKind.bits .i64)) : Int)) + (math_bits_OnesCount_v (IntKind.wrap .u64 (((BitVec.ofInt (IntKind.bits .u64) (IntKind.wrap .u64 sum0) &&& BitVec.ofInt (IntKind.bits .u64) (131071 : Int)).toNat : Nat) : Int)))))
theorem impl_leastTiles_cv (Q : Type) (sum0 : Int) (k : (Int) → Option Q) : impl_leastTiles_c Q sum0 k = k (impl_leastTiles_v sum0) := by
  simp only [impl_leastTiles_c, impl_leastTiles_v, app_condL k]

/-- loop.example/g01194/impl.isFor -/
def impl_isFor_c (Q : Type) (sum0 : Int) (k : (Bool) → Option Q) : Option Q :=
    bif (impl_isSum_v sum0) then
    bif ((Int.tmod sum0 (2 : Int)) == (0 : Int)) then
    k (decide ((impl_leastTiles_v sum0) ≤ (16 : Int)))
    else k false
    else k false
def impl_isFor_v (sum0 : Int) : Bool :=
    bif (impl_isSum_v sum0) then
    bif ((Int.tmod sum0 (2 : Int)) == (0 : Int)) then
    (decide ((impl_leastTiles_v sum0) ≤ (16 : Int)))
    else false
    else false
theorem impl_isFor_cv (Q : Type) (sum0 : Int) (k : (Bool) → Option Q) : impl_isFor_c Q sum0 k = k (impl_isFor_v sum0) := by
  simp only [impl_isFor_c, impl_isFor_v, app_condL k]

/-- math/bits.Len64 -/
def math_bits_Len64_v (x : Int) : Int := ((Go.Lib.bitLen x.toNat : Nat) : Int)

/-- math/bits.Len -/
def math_bits_Len_c (Q : Type) (x0 : Int) (k : (Int) → Option Q) : Option Q :=
    bif ((decide ((0 : Int) ≤ x0)) && (decide (x0 ≤ (18446744073709551615 : Int)))) then
    k (math_bits_Len64_v x0)
    else none
def math_bits_Len_p (x0 : Int) : Option (Int) := math_bits_Len_c _ x0 some
theorem math_bits_Len_cp (Q : Type) (x0 : Int) (k : (Int) → Option Q) : math_bits_Len_c Q x0 k = (math_bits_Len_p x0).bind k := by
  simp only [math_bits_Len_p, math_bits_Len_c, cond_bindL, none_bindL, some_bindL]

/-- loop.example/g01194/impl.HighestFor -/
def impl_HighestFor_c (Q : Type) (sum0 : Int) (k : (Int × Bool) → Option Q) : Option Q :=
    bif (!(impl_isFor_v sum0)) then
    k ((0 : Int), false)
    else bif (Option.isSome (math_bits_Len_p (IntKind.wrap .u64 sum0))) then
    k ((if (0 : Int) > (if (17 : Int) < (IntKind.wrap .i64 ((Option.getD (math_bits_Len_p (IntKind.wrap .u64 sum0)) default) - (1 : Int))) then (17 : Int) else (IntKind.wrap .i64 ((Option.getD (math_bits_Len_p (IntKind.wrap .u64 sum0)) default) - (1 : Int)))) then (0 : Int) else (if (17 : Int) < (IntKind.wrap .i64 ((Option.getD (math_bits_Len_p (IntKind.wrap .u64 sum0)) default) - (1 : Int))) then (17 : Int) else (IntKind.wrap .i64 ((Option.getD (math_bits_Len_p (IntKind.wrap .u64 sum0)) default) - (1 : Int))))), true)
    else none
def impl_HighestFor_p (sum0 : Int) : Option (Int × Bool) := impl_HighestFor_c _ sum0 some
theorem impl_HighestFor_cp (Q : Type) (sum0 : Int) (k : (Int × Bool) → Option Q) : impl_HighestFor_c Q sum0 k = (impl_HighestFor_p sum0).bind k := by
  simp only [impl_HighestFor_p, impl_HighestFor_c, cond_bindL, none_bindL, some_bindL]

/-- loop 17 of loop.example/g01194/laws.FnSlides -/
def laws_FnSlides_s17 (F : Nat) (score8 : Int) (ahead14 : Int) (long15 : Int) (fine16 : Bool) (top20 : Int) (there21 : Bool) (b27 : List Int) (list28 : List Int) (end29 : List Int) (u30 : List Int) (round31 : List Int) (w32 : List Int) (Q : Type) : (Int × Int × List Int) → ((Int × Int × List Int) → Option Q) → ((Bool × Int × List Int) → Option Q) → Option Q
  | (sum25, i26, now33), kn, kx =>
    let z_1 := (impl_SlideBoard_p F now33 (iget list28 ((0 : Nat) + (Int.toNat i26))))
    let z_2 := (Option.getD z_1 default)
    bif (decide (i26 < (((List.length list28) : Nat) : Int))) then
    bif (inR i26 (List.length list28)) then
    bif (Option.isSome z_1) then
    bif (!z_2.2.2) then
    kx (true, default, default)
    else kn ((IntKind.wrap .i64 (sum25 + z_2.2.1)), (IntKind.wrap .i64 (i26 + (1 : Int))), z_2.1)
    else none
    else none
    else kx (false, sum25, now33)
def laws_FnSlides_l17 (F : Nat) (score8 : Int) (ahead14 : Int) (long15 : Int) (fine16 : Bool) (top20 : Int) (there21 : Bool) (b27 : List Int) (list28 : List Int) (end29 : List Int) (u30 : List Int) (round31 : List Int) (w32 : List Int) (sum25 : Int) (i26 : Int) (now33 : List Int) : Option (Bool × Int × List Int) := loopC (laws_FnSlides_s17 F score8 ahead14 long15 fine16 top20 there21 b27 list28 end29 u30 round31 w32) F (sum25, i26, now33) some
theorem laws_FnSlides_s17_nat (F : Nat) (score8 : Int) (ahead14 : Int) (long15 : Int) (fine16 : Bool) (top20 : Int) (there21 : Bool) (b27 : List Int) (list28 : List Int) (end29 : List Int) (u30 : List Int) (round31 : List Int) (w32 : List Int) : Natural (laws_FnSlides_s17 F score8 ahead14 long15 fine16 top20 there21 b27 list28 end29 u30 round31 w32) := by
  intro Q Q' s kn kx h
  obtain ⟨sum25, i26, now33⟩ := s
  simp only [laws_FnSlides_s17, cond_bindL, none_bindL]
/-- loop 31 of loop.example/g01194/laws.FnSlides -/
def laws_FnSlides_s31 (F : Nat) (ahead2 : Int) (long3 : Int) (top7 : Int) (there8 : Bool) (round13 : List Int) (w14 : List Int) (Q : Type) : (Int × List Int) → ((Int × List Int) → Option Q) → ((Bool × List Int) → Option Q) → Option Q
  | (i12, now15), kn, kx =>
    let z_1 := (impl_DoSlides_p F now15 (subn (List.length round13) round13 0 (List.length round13)))
    let z_2 := (Option.getD z_1 default)
    bif (decide (i12 < ahead2)) then
    bif (Option.isSome z_1) then
    bif (!z_2.2.2) then
    kx (true, default)
    else kn ((IntKind.wrap .i64 (i12 + (1 : Int))), z_2.1)
    else none
    else kx (false, now15)
def laws_FnSlides_l31 (F : Nat) (ahead2 : Int) (long3 : Int) (top7 : Int) (there8 : Bool) (round13 : List Int) (w14 : List Int) (i12 : Int) (now15 : List Int) : Option (Bool × List Int) := loopC (laws_FnSlides_s31 F ahead2 long3 top7 there8 round13 w14) F (i12, now15) some
theorem laws_FnSlides_s31_nat (F : Nat) (ahead2 : Int) (long3 : Int) (top7 : Int) (there8 : Bool) (round13 : List Int) (w14 : List Int) : Natural (laws_FnSlides_s31 F ahead2 long3 top7 there8 round13 w14) := by
  intro Q Q' s kn kx h
  obtain ⟨i12, now15⟩ := s
  simp only [laws_FnSlides_s31, cond_bindL, none_bindL]
/-- loop 39 of loop.example/g01194/laws.FnSlides -/
def laws_FnSlides_s39 (F : Nat) (long2 : Int) (top6 : Int) (there7 : Bool) (round15 : List Int) (w16 : List Int) (now17 : List Int) (Q : Type) : (Int × List Int) → ((Int × List Int) → Option Q) → ((Bool × List Int) → Option Q) → Option Q
  | (i14, back18), kn, kx =>
    let z_1 := (impl_DoSlides_p F back18 (subn (List.length round15) round15 0 (List.length round15)))
    let z_2 := (Option.getD z_1 default)
    let z_3 : Int := (IntKind.wrap .i64 (i14 + (1 : Int)))
    bif (decide (i14 < long2)) then
    bif (Option.isSome z_1) then
    bif (!z_2.2.2) then
    kx (true, default)
    else bif (!(z_2.2.1 == (0 : Int))) then
    kx (true, default)
    else bif (decide ((0 : Int) < i14)) then
    bif (back18 == now17) then
    kx (true, default)
    else kn (z_3, z_2.1)
    else kn (z_3, z_2.1)
    else none
    else kx (false, back18)
def laws_FnSlides_l39 (F : Nat) (long2 : Int) (top6 : Int) (there7 : Bool) (round15 : List Int) (w16 : List Int) (now17 : List Int) (i14 : Int) (back18 : List Int) : Option (Bool × List Int) := loopC (laws_FnSlides_s39 F long2 top6 there7 round15 w16 now17) F (i14, back18) some
theorem laws_FnSlides_s39_nat (F : Nat) (long2 : Int) (top6 : Int) (there7 : Bool) (round15 : List Int) (w16 : List Int) (now17 : List Int) : Natural (laws_FnSlides_s39 F long2 top6 there7 round15 w16 now17) := by
  intro Q Q' s kn kx h
  obtain ⟨i14, back18⟩ := s
  simp only [laws_FnSlides_s39, cond_bindL, none_bindL]
/-- loop.example/g01194/laws.FnSlides -/
def laws_FnSlides_c (Q : Type) (F : Nat) (code0 : List Int) (k : (Bool) → Option Q) : Option Q :=
    let z_1 := (spec_DrawDoSlides_p F code0)
    let z_2 := (Option.getD z_1 default)
    let z_3 : Nat := (List.length z_2.2)
    let z_4 : List Int := (subn z_3 z_2.2 0 z_3)
    let z_5 := (impl_DoSlides_p F z_2.1 z_4)
    let z_6 := (spec_DoSlides_p F z_2.1 z_4)
    let z_7 : Nat := (List.length (Option.getD (laws_vCut_p code0 (1 : Int)) default))
    let z_8 := (spec_DrawSlideCycle_p F (subn z_7 (Option.getD (laws_vCut_p code0 (1 : Int)) default) 0 z_7))
    let z_9 := (Option.getD z_8 default)
    let z_10 : Nat := (List.length z_9.2)
    let z_11 : List Int := (subn z_10 z_9.2 0 z_10)
    let z_12 := (impl_SlideCycle_p F z_9.1 z_11)
    let z_13 := (spec_SlideCycle_p F z_9.1 z_11)
    let z_14 : Nat := (List.length (Option.getD (laws_vCut_p code0 (2 : Int)) default))
    let z_15 := (spec_DrawHighestBySlides_p F (subn z_14 (Option.getD (laws_vCut_p code0 (2 : Int)) default) 0 z_14))
    let z_16 := (impl_HighestBySlides_p F (Option.getD z_15 default))
    let z_17 := (spec_HighestBySlides_p F (Option.getD z_15 default))
    let z_18 := (Option.getD z_5 default)
    let z_19 := (Option.getD z_6 default)
    let z_20 := (Option.getD z_12 default)
    let z_21 := (Option.getD z_13 default)
    let z_22 := (Option.getD z_16 default)
    let z_23 := (Option.getD z_17 default)
    let z_24 : Bool := (Nat.beq z_10 z_10)
    let z_25 := (laws_FnSlides_l17 F z_18.2.1 z_20.1 z_20.2.1 z_20.2.2 z_22.1 z_22.2 z_2.1 z_2.2 z_18.1 z_9.1 z_9.2 (Option.getD z_15 default) (0 : Int) (0 : Int) z_2.1)
    let z_26 := (Option.getD z_25 default)
    let z_27 := (impl_PotentialOf_p F z_2.1)
    let z_28 := (impl_PotentialOf_p F z_18.1)
    let z_29 := (Option.getD z_27 default)
    let z_30 := (Option.getD z_28 default)
    let z_31 := (laws_FnSlides_l31 F z_20.1 z_20.2.1 z_22.1 z_22.2 z_9.2 (Option.getD z_15 default) (0 : Int) z_9.1)
    let z_32 : Bool := (z_24 && (Option.isSome z_31))
    let z_33 := (Option.getD z_31 default)
    let z_34 := (laws_FnSlides_l39 F z_20.2.1 z_22.1 z_22.2 z_9.2 (Option.getD z_15 default) z_33.2 (0 : Int) z_33.2)
    let z_35 : Bool := (z_24 && (Option.isSome z_34))
    let z_36 := (Option.getD z_34 default)
    let z_37 : Bool := (decide (z_20.2.1 < (1 : Int)))
    let z_38 : Bool := (!(z_36.2 == z_33.2))
    let z_39 := (impl_HighestTile_p F (Option.getD z_15 default))
    let z_40 : Bool := (Option.isSome z_39)
    let z_41 := (laws_vSum2_p F (Option.getD z_15 default))
    let z_42 : Bool := (Option.isSome z_41)
    let z_43 := (Option.getD z_39 default)
    let z_44 : Bool := (!(z_43.2.2 == (decide ((0 : Int) < z_22.1))))
    let z_45 : Bool := (decide (z_22.1 < z_43.1))
    let z_46 : Bool := (decide ((Option.getD (impl_HighestFor_p (Option.getD z_41 default)) default).1 < z_22.1))
    bif (laws_vBig_v code0) then
    k true
    else bif (Option.isSome z_1) then
    bif (Option.isSome z_5) then
    bif (Option.isSome z_6) then
    bif (Option.isSome (laws_vCut_p code0 (1 : Int))) then
    bif (Option.isSome z_8) then
    bif (Option.isSome z_12) then
    bif (Option.isSome z_13) then
    bif (Option.isSome (laws_vCut_p code0 (2 : Int))) then
    bif (Option.isSome z_15) then
    bif (Option.isSome z_16) then
    bif (Option.isSome z_17) then
    bif (!(z_18.1 == z_19.1)) then
    k false
    else bif (!(z_18.2.1 == z_19.2.1)) then
    k false
    else bif (!(z_18.2.2 == z_19.2.2)) then
    k false
    else bif (!(z_20.1 == z_21.1)) then
    k false
    else bif (!(z_20.2.1 == z_21.2.1)) then
    k false
    else bif (!(z_20.2.2 == z_21.2.2)) then
    k false
    else bif (!(z_22.1 == z_23.1)) then
    k false
    else bif (!(z_22.2 == z_23.2)) then
    k false
    else bif z_18.2.2 then
    bif ((Nat.beq z_3 z_3) && (z_24 && (Option.isSome z_25))) then
    bif z_26.1 then
    k false
    else bif (Option.isSome z_27) then
    bif (Option.isSome z_28) then
    bif (!z_29.2) then
    k false
    else bif (!z_30.2) then
    k false
    else bif (!(z_26.2.2 == z_18.1)) then
    k false
    else bif (!(z_26.2.1 == z_18.2.1)) then
    k false
    else bif (!((IntKind.wrap .i64 (z_30.1 - z_29.1)) == z_18.2.1)) then
    k false
    else bif z_20.2.2 then
    bif z_32 then
    bif z_33.1 then
    k false
    else bif z_35 then
    bif z_36.1 then
    k false
    else bif z_37 then
    k false
    else bif z_38 then
    k false
    else bif z_22.2 then
    bif z_40 then
    bif z_42 then
    bif (Option.isSome (impl_HighestFor_p (Option.getD z_41 default))) then
    bif z_44 then
    k false
    else bif z_43.2.2 then
    bif z_45 then
    k false
    else bif (Option.getD (impl_HighestFor_p (Option.getD z_41 default)) default).2 then
    bif z_46 then
    k false
    else k true
    else k true
    else bif (Option.getD (impl_HighestFor_p (Option.getD z_41 default)) default).2 then
    bif z_46 then
    k false
    else k true
    else k true
    else none
    else none
    else none
    else k true
    else none
    else none
    else bif z_22.2 then
    bif z_40 then
    bif z_42 then
    bif (Option.isSome (impl_HighestFor_p (Option.getD z_41 default))) then
    bif z_44 then
    k false
    else bif z_43.2.2 then
    bif z_45 then
    k false
    else bif (Option.getD (impl_HighestFor_p (Option.getD z_41 default)) default).2 then
    bif z_46 then
    k false
    else k true
    else k true
    else bif (Option.getD (impl_HighestFor_p (Option.getD z_41 default)) default).2 then
    bif z_46 then
    k false
    else k true
    else k true
    else none
    else none
    else none
    else k true
    else none
    else none
    else none
    else bif z_20.2.2 then
    bif z_32 then
    bif z_33.1 then
    k false
    else bif z_35 then
    bif z_36.1 then
    k false
    else bif z_37 then
    k false
    else bif z_38 then
    k false
    else bif z_22.2 then
    bif z_40 then
    bif z_42 then
    bif (Option.isSome (impl_HighestFor_p (Option.getD z_41 default))) then
    bif z_44 then
    k false
    else bif z_43.2.2 then
    bif z_45 then
    k false
    else bif (Option.getD (impl_HighestFor_p (Option.getD z_41 default)) default).2 then
    bif z_46 then
    k false
    else k true
    else k true
    else bif (Option.getD (impl_HighestFor_p (Option.getD z_41 default)) default).2 then
    bif z_46 then
    k false
    else k true
    else k true
    else none
    else none
    else none
    else k true
    else none
    else none
    else bif z_22.2 then
    bif z_40 then
    bif z_42 then
    bif (Option.isSome (impl_HighestFor_p (Option.getD z_41 default))) then
    bif z_44 then
    k false
    else bif z_43.2.2 then
    bif z_45 then
    k false
    else bif (Option.getD (impl_HighestFor_p (Option.getD z_41 default)) default).2 then
    bif z_46 then
    k false
    else k true
    else k true
    else bif (Option.getD (impl_HighestFor_p (Option.getD z_41 default)) default).2 then
    bif z_46 then
    k false
    else k true
    else k true
    else none
    else none
    else none
    else k true
    else none
    else none
    else none
    else none
    else none
    else none
    else none
    else none
    else none
    else none
    else none
def laws_FnSlides_p (F : Nat) (code0 : List Int) : Option (Bool) := laws_FnSlides_c _ F code0 some
theorem laws_FnSlides_cp (Q : Type) (F : Nat) (code0 : List Int) (k : (Bool) → Option Q) : laws_FnSlides_c Q F code0 k = (laws_FnSlides_p F code0).bind k := by
  simp only [laws_FnSlides_p, laws_FnSlides_c, cond_bindL, none_bindL, some_bindL]
end Go.Lv.P
