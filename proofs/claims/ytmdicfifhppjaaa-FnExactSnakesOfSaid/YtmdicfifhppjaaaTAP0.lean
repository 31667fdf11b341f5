/-
Pure functions and what the code of them does, by program; without conditions.
-/
import Derived.Test.YtmdicfifhppjaaaLv3
namespace Go.Lv.P
open Go Go.Lv
set_option linter.unusedVariables false
set_option linter.unusedSimpArgs false
set_option maxRecDepth 100000
/-- loop.example/g01194/spec.l1In -/
def spec_l1In_c (Q : Type) (x0 : Int) (a1 : Int) (b2 : Int) (k : (Bool) → Option Q) : Option Q :=
    bif (decide (a1 ≤ x0)) then
    k (decide (x0 ≤ b2))
    else k false
def spec_l1In_v (x0 : Int) (a1 : Int) (b2 : Int) : Bool :=
    bif (decide (a1 ≤ x0)) then
    (decide (x0 ≤ b2))
    else false
theorem spec_l1In_cv (Q : Type) (x0 : Int) (a1 : Int) (b2 : Int) (k : (Bool) → Option Q) : spec_l1In_c Q x0 a1 b2 k = k (spec_l1In_v x0 a1 b2) := by
  simp only [spec_l1In_c, spec_l1In_v, app_condL k]

/-- loop.example/g01194/spec.l2Worth -/
def spec_l2Worth_c (Q : Type) (t0 : Int) (k : (Int) → Option Q) : Option Q :=
    bif (decide (t0 < (0 : Int))) then
    none
    else k (IntKind.wrap .i64 ((1 : Int) * (2 ^ (min (Int.toNat t0) (IntKind.bits .i64)) : Int)))
def spec_l2Worth_p (t0 : Int) : Option (Int) := spec_l2Worth_c _ t0 some
theorem spec_l2Worth_cp (Q : Type) (t0 : Int) (k : (Int) → Option Q) : spec_l2Worth_c Q t0 k = (spec_l2Worth_p t0).bind k := by
  simp only [spec_l2Worth_p, spec_l2Worth_c, cond_bindL, none_bindL, some_bindL]

/-- loop 5 of loop.example/g01194/spec.l7Least -/
def spec_l7Least_s5 (F : Nat) (t3 : Int) (Q : Type) : (Int × List Int) → ((Int × List Int) → Option Q) → ((Int × List Int) → Option Q) → Option Q
  | (sum0, out4), kn, kx =>
    let z_1 : List Int := ((subn (List.length out4) out4 0 (List.length out4)) ++ [t3])
    bif (Option.isSome (spec_l2Worth_p t3)) then
    bif (decide ((Option.getD (spec_l2Worth_p t3) default) ≤ sum0)) then
    bif (fits (List.length z_1) 8) then
    bif (Option.isSome (spec_l2Worth_p t3)) then
    kn ((IntKind.wrap .i64 (sum0 - (Option.getD (spec_l2Worth_p t3) default))), z_1)
    else none
    else none
    else kx (sum0, out4)
    else none
def spec_l7Least_l5 (F : Nat) (t3 : Int) (sum0 : Int) (out4 : List Int) : Option (Int × List Int) := loopC (spec_l7Least_s5 F t3) F (sum0, out4) some
theorem spec_l7Least_s5_nat (F : Nat) (t3 : Int) : Natural (spec_l7Least_s5 F t3) := by
  intro Q Q' s kn kx h
  obtain ⟨sum0, out4⟩ := s
  simp only [spec_l7Least_s5, cond_bindL, none_bindL]
/-- loop 3 of loop.example/g01194/spec.l7Least -/
def spec_l7Least_s3 (F : Nat) (Q : Type) : (Int × Int × List Int) → ((Int × Int × List Int) → Option Q) → ((List Int) → Option Q) → Option Q
  | (sum0, t3, out4), kn, kx =>
    let z_1 := (spec_l7Least_l5 F t3 sum0 out4)
    let z_2 := (Option.getD z_1 default)
    bif (decide ((0 : Int) < t3)) then
    bif ((Nat.beq (List.length out4) (List.length out4)) && (Option.isSome z_1)) then
    kn (z_2.1, (IntKind.wrap .i64 (t3 - (1 : Int))), z_2.2)
    else none
    else kx out4
def spec_l7Least_l3 (F : Nat) (sum0 : Int) (t3 : Int) (out4 : List Int) : Option (List Int) := loopC (spec_l7Least_s3 F) F (sum0, t3, out4) some
theorem spec_l7Least_s3_nat (F : Nat) : Natural (spec_l7Least_s3 F) := by
  intro Q Q' s kn kx h
  obtain ⟨sum0, t3, out4⟩ := s
  simp only [spec_l7Least_s3, cond_bindL, none_bindL]
/-- loop.example/g01194/spec.l7Least -/
def spec_l7Least_c (Q : Type) (F : Nat) (sum0 : Int) (k : (List Int) → Option Q) : Option Q :=
    let z_1 := (spec_l7Least_l3 F sum0 (17 : Int) ([] : List Int))
    bif (Option.isSome z_1) then
    k (Option.getD z_1 default)
    else none
def spec_l7Least_p (F : Nat) (sum0 : Int) : Option (List Int) := spec_l7Least_c _ F sum0 some
theorem spec_l7Least_cp (Q : Type) (F : Nat) (sum0 : Int) (k : (List Int) → Option Q) : spec_l7Least_c Q F sum0 k = (spec_l7Least_p F sum0).bind k := by
  simp only [spec_l7Least_p, spec_l7Least_c, cond_bindL, none_bindL, some_bindL]

/-- loop.example/g01194/spec.IsPossible -/
def spec_IsPossible_c (Q : Type) (F : Nat) (sum0 : Int) (many1 : Int) (k : (Bool × Bool) → Option Q) : Option Q :=
    let z_1 := (spec_l7Least_p F sum0)
    bif (!(spec_l1In_v sum0 (0 : Int) (2097152 : Int))) then
    k (false, false)
    else bif (!(spec_l1In_v many1 (0 : Int) (16 : Int))) then
    k (false, false)
    else bif ((Int.tmod sum0 (2 : Int)) == (0 : Int)) then
    bif (Option.isSome z_1) then
    bif (decide ((((List.length (Option.getD z_1 default)) : Nat) : Int) ≤ many1)) then
    k ((decide (many1 ≤ (IntKind.wrap .i64 (Int.tdiv sum0 (2 : Int))))), true)
    else k (false, true)
    else none
    else k (false, true)
def spec_IsPossible_p (F : Nat) (sum0 : Int) (many1 : Int) : Option (Bool × Bool) := spec_IsPossible_c _ F sum0 many1 some
theorem spec_IsPossible_cp (Q : Type) (F : Nat) (sum0 : Int) (many1 : Int) (k : (Bool × Bool) → Option Q) : spec_IsPossible_c Q F sum0 many1 k = (spec_IsPossible_p F sum0 many1).bind k := by
  simp only [spec_IsPossible_p, spec_IsPossible_c, cond_bindL, none_bindL, some_bindL]

/-- loop.example/g01194/impl.in -/
def impl_in_c (Q : Type) (n0 : Int) (low1 : Int) (high2 : Int) (k : (Bool) → Option Q) : Option Q :=
    bif (decide (low1 ≤ n0)) then
    k (decide (n0 ≤ high2))
    else k false
def impl_in_v (n0 : Int) (low1 : Int) (high2 : Int) : Bool :=
    bif (decide (low1 ≤ n0)) then
    (decide (n0 ≤ high2))
    else false
theorem impl_in_cv (Q : Type) (n0 : Int) (low1 : Int) (high2 : Int) (k : (Bool) → Option Q) : impl_in_c Q n0 low1 high2 k = k (impl_in_v n0 low1 high2) := by
  simp only [impl_in_c, impl_in_v, app_condL k]

/-- loop.example/g01194/impl.isSum -/
def impl_isSum_c (Q : Type) (sum0 : Int) (k : (Bool) → Option Q) : Option Q :=
    k (impl_in_v sum0 (0 : Int) (2097152 : Int))
def impl_isSum_v (sum0 : Int) : Bool :=
    (impl_in_v sum0 (0 : Int) (2097152 : Int))
theorem impl_isSum_cv (Q : Type) (sum0 : Int) (k : (Bool) → Option Q) : impl_isSum_c Q sum0 k = k (impl_isSum_v sum0) := by
  simp only [impl_isSum_c, impl_isSum_v, app_condL k]

/-- math/bits.OnesCount64 -/
def math_bits_OnesCount64_c (Q : Type) (x0 : Int) (k : (Int) → Option Q) : Option Q :=
    let z_1 : Int := (IntKind.wrap .u64 ((IntKind.wrap .u64 (((BitVec.ofInt (IntKind.bits .u64) (Int.fdiv x0 (2 ^ (min (Int.toNat (1 : Int)) (IntKind.bits .u64)) : Int)) &&& BitVec.ofInt (IntKind.bits .u64) (6148914691236517205 : Int)).toNat : Nat) : Int)) + (IntKind.wrap .u64 (((BitVec.ofInt (IntKind.bits .u64) x0 &&& BitVec.ofInt (IntKind.bits .u64) (6148914691236517205 : Int)).toNat : Nat) : Int))))
    let z_2 : Int := (IntKind.wrap .u64 ((IntKind.wrap .u64 (((BitVec.ofInt (IntKind.bits .u64) (Int.fdiv z_1 (2 ^ (min (Int.toNat (2 : Int)) (IntKind.bits .u64)) : Int)) &&& BitVec.ofInt (IntKind.bits .u64) (3689348814741910323 : Int)).toNat : Nat) : Int)) + (IntKind.wrap .u64 (((BitVec.ofInt (IntKind.bits .u64) z_1 &&& BitVec.ofInt (IntKind.bits .u64) (3689348814741910323 : Int)).toNat : Nat) : Int))))
    let z_3 : Int := (IntKind.wrap .u64 (((BitVec.ofInt (IntKind.bits .u64) (IntKind.wrap .u64 ((Int.fdiv z_2 (2 ^ (min (Int.toNat (4 : Int)) (IntKind.bits .u64)) : Int)) + z_2)) &&& BitVec.ofInt (IntKind.bits .u64) (1085102592571150095 : Int)).toNat : Nat) : Int))
    let z_4 : Int := (IntKind.wrap .u64 (z_3 + (Int.fdiv z_3 (2 ^ (min (Int.toNat (8 : Int)) (IntKind.bits .u64)) : Int))))
    let z_5 : Int := (IntKind.wrap .u64 (z_4 + (Int.fdiv z_4 (2 ^ (min (Int.toNat (16 : Int)) (IntKind.bits .u64)) : Int))))
    k (IntKind.wrap .i64 (((BitVec.ofInt (IntKind.bits .i64) (IntKind.wrap .i64 (IntKind.wrap .u64 (z_5 + (Int.fdiv z_5 (2 ^ (min (Int.toNat (32 : Int)) (IntKind.bits .u64)) : Int))))) &&& BitVec.ofInt (IntKind.bits .i64) (127 : Int)).toNat : Nat) : Int))
def math_bits_OnesCount64_v (x0 : Int) : Int :=
    let z_1 : Int := (IntKind.wrap .u64 ((IntKind.wrap .u64 (((BitVec.ofInt (IntKind.bits .u64) (Int.fdiv x0 (2 ^ (min (Int.toNat (1 : Int)) (IntKind.bits .u64)) : Int)) &&& BitVec.ofInt (IntKind.bits .u64) (6148914691236517205 : Int)).toNat : Nat) : Int)) + (IntKind.wrap .u64 (((BitVec.ofInt (IntKind.bits .u64) x0 &&& BitVec.ofInt (IntKind.bits .u64) (6148914691236517205 : Int)).toNat : Nat) : Int))))
    let z_2 : Int := (IntKind.wrap .u64 ((IntKind.wrap .u64 (((BitVec.ofInt (IntKind.bits .u64) (Int.fdiv z_1 (2 ^ (min (Int.toNat (2 : Int)) (IntKind.bits .u64)) : Int)) &&& BitVec.ofInt (IntKind.bits .u64) (3689348814741910323 : Int)).toNat : Nat) : Int)) + (IntKind.wrap .u64 (((BitVec.ofInt (IntKind.bits .u64) z_1 &&& BitVec.ofInt (IntKind.bits .u64) (3689348814741910323 : Int)).toNat : Nat) : Int))))
    let z_3 : Int := (IntKind.wrap .u64 (((BitVec.ofInt (IntKind.bits .u64) (IntKind.wrap .u64 ((Int.fdiv z_2 (2 ^ (min (Int.toNat (4 : Int)) (IntKind.bits .u64)) : Int)) + z_2)) &&& BitVec.ofInt (IntKind.bits .u64) (1085102592571150095 : Int)).toNat : Nat) : Int))
    let z_4 : Int := (IntKind.wrap .u64 (z_3 + (Int.fdiv z_3 (2 ^ (min (Int.toNat (8 : Int)) (IntKind.bits .u64)) : Int))))
    let z_5 : Int := (IntKind.wrap .u64 (z_4 + (Int.fdiv z_4 (2 ^ (min (Int.toNat (16 : Int)) (IntKind.bits .u64)) : Int))))
    (IntKind.wrap .i64 (((BitVec.ofInt (IntKind.bits .i64) (IntKind.wrap .i64 (IntKind.wrap .u64 (z_5 + (Int.fdiv z_5 (2 ^ (min (Int.toNat (32 : Int)) (IntKind.bits .u64)) : Int))))) &&& BitVec.ofInt (IntKind.bits .i64) (127 : Int)).toNat : Nat) : Int))
theorem math_bits_OnesCount64_cv (Q : Type) (x0 : Int) (k : (Int) → Option Q) : math_bits_OnesCount64_c Q x0 k = k (math_bits_OnesCount64_v x0) := by
  simp only [math_bits_OnesCount64_c, math_bits_OnesCount64_v, app_condL k]

/-- math/bits.OnesCount -/
def math_bits_OnesCount_c (Q : Type) (x0 : Int) (k : (Int) → Option Q) : Option Q :=
    k (math_bits_OnesCount64_v x0)
def math_bits_OnesCount_v (x0 : Int) : Int :=
    (math_bits_OnesCount64_v x0)
theorem math_bits_OnesCount_cv (Q : Type) (x0 : Int) (k : (Int) → Option Q) : math_bits_OnesCount_c Q x0 k = k (math_bits_OnesCount_v x0) := by
  simp only [math_bits_OnesCount_c, math_bits_OnesCount_v, app_condL k]

/-- loop.example/g01194/impl.leastTiles -/
def impl_leastTiles_c (Q : Type) (sum0 : Int) (k : (Int) → Option Q) : Option Q :=
    k (IntKind.wrap .i64 ((Int.fdiv sum0 (2 ^ (min (Int.toNat (17 : Int)) (IntKind.bits .i64)) : Int)) + (math_bits_OnesCount_v (IntKind.wrap .u64 (((BitVec.ofInt (IntKind.bits .u64) (IntKind.wrap .u64 sum0) &&& BitVec.ofInt (IntKind.bits .u64) (131071 : Int)).toNat : Nat) : Int)))))
def impl_leastTiles_v (sum0 : Int) : Int :=
    (IntKind.wrap .i64 ((Int.fdiv sum0 (2 ^ (min (Int.toNat (17 : Int)) (IntKind.bits .i64)) : Int)) + (math_bits_OnesCount_v (IntKind.wrap .u64 (((BitVec.ofInt (IntKind.bits .u64) (IntKind.wrap .u64 sum0) &&& BitVec.ofInt (IntKind.bits .u64) (131071 : Int)).toNat : Nat) : Int)))))
theorem impl_leastTiles_cv (Q : Type) (sum0 : Int) (k : (Int) → Option Q) : impl_leastTiles_c Q sum0 k = k (impl_leastTiles_v sum0) := by
  simp only [impl_leastTiles_c, impl_leastTiles_v, app_condL k]

/-- loop.example/g01194/impl.IsPossible -/
def impl_IsPossible_c (Q : Type) (sum0 : Int) (many1 : Int) (k : (Bool × Bool) → Option Q) : Option Q :=
    bif (!(impl_isSum_v sum0)) then
    k (false, false)
    else bif (!(impl_in_v many1 (0 : Int) (16 : Int))) then
    k (false, false)
    else bif ((Int.tmod sum0 (2 : Int)) == (0 : Int)) then
    k ((impl_in_v many1 (impl_leastTiles_v sum0) (IntKind.wrap .i64 (Int.tdiv sum0 (2 : Int)))), true)
    else k (false, true)
def impl_IsPossible_v (sum0 : Int) (many1 : Int) : Bool × Bool :=
    bif (!(impl_isSum_v sum0)) then
    (false, false)
    else bif (!(impl_in_v many1 (0 : Int) (16 : Int))) then
    (false, false)
    else bif ((Int.tmod sum0 (2 : Int)) == (0 : Int)) then
    ((impl_in_v many1 (impl_leastTiles_v sum0) (IntKind.wrap .i64 (Int.tdiv sum0 (2 : Int)))), true)
    else (false, true)
theorem impl_IsPossible_cv (Q : Type) (sum0 : Int) (many1 : Int) (k : (Bool × Bool) → Option Q) : impl_IsPossible_c Q sum0 many1 k = k (impl_IsPossible_v sum0 many1) := by
  simp only [impl_IsPossible_c, impl_IsPossible_v, app_condL k]

/-- loop.example/g01194/laws.FnExactIsPossible -/
def laws_FnExactIsPossible_c (Q : Type) (F : Nat) (aSum0 : Int) (aMany1 : Int) (k : (Bool) → Option Q) : Option Q :=
    let z_1 := (spec_IsPossible_p F aSum0 aMany1)
    let z_2 := (impl_IsPossible_v aSum0 aMany1)
    let z_3 := (Option.getD z_1 default)
    bif (Option.isSome z_1) then
    bif (!(z_2.1 == z_3.1)) then
    k false
    else bif (!(z_2.2 == z_3.2)) then
    k false
    else k true
    else none
def laws_FnExactIsPossible_p (F : Nat) (aSum0 : Int) (aMany1 : Int) : Option (Bool) := laws_FnExactIsPossible_c _ F aSum0 aMany1 some
theorem laws_FnExactIsPossible_cp (Q : Type) (F : Nat) (aSum0 : Int) (aMany1 : Int) (k : (Bool) → Option Q) : laws_FnExactIsPossible_c Q F aSum0 aMany1 k = (laws_FnExactIsPossible_p F aSum0 aMany1).bind k := by
  simp only [laws_FnExactIsPossible_p, laws_FnExactIsPossible_c, cond_bindL, none_bindL, some_bindL]

/-- loop.example/g01194/spec.l7Sum -/
def spec_l7Sum_c (Q : Type) (F : Nat) (sum0 : Int) (k : (Bool) → Option Q) : Option Q :=
    let z_1 := (spec_l7Least_p F sum0)
    bif (spec_l1In_v sum0 (0 : Int) (2097152 : Int)) then
    bif ((Int.tmod sum0 (2 : Int)) == (0 : Int)) then
    bif (Option.isSome z_1) then
    k (decide ((((List.length (Option.getD z_1 default)) : Nat) : Int) ≤ (16 : Int)))
    else none
    else k false
    else k false
def spec_l7Sum_p (F : Nat) (sum0 : Int) : Option (Bool) := spec_l7Sum_c _ F sum0 some
theorem spec_l7Sum_cp (Q : Type) (F : Nat) (sum0 : Int) (k : (Bool) → Option Q) : spec_l7Sum_c Q F sum0 k = (spec_l7Sum_p F sum0).bind k := by
  simp only [spec_l7Sum_p, spec_l7Sum_c, cond_bindL, none_bindL, some_bindL]

/-- loop.example/g01194/spec.LeastTiles -/
def spec_LeastTiles_c (Q : Type) (F : Nat) (sum0 : Int) (k : (Int × Bool) → Option Q) : Option Q :=
    let z_1 := (spec_l7Sum_p F sum0)
    let z_2 := (spec_l7Least_p F sum0)
    bif (Option.isSome z_1) then
    bif (!(Option.getD z_1 default)) then
    k ((0 : Int), false)
    else bif (Option.isSome z_2) then
    k ((((List.length (Option.getD z_2 default)) : Nat) : Int), true)
    else none
    else none
def spec_LeastTiles_p (F : Nat) (sum0 : Int) : Option (Int × Bool) := spec_LeastTiles_c _ F sum0 some
theorem spec_LeastTiles_cp (Q : Type) (F : Nat) (sum0 : Int) (k : (Int × Bool) → Option Q) : spec_LeastTiles_c Q F sum0 k = (spec_LeastTiles_p F sum0).bind k := by
  simp only [spec_LeastTiles_p, spec_LeastTiles_c, cond_bindL, none_bindL, some_bindL]

/-- loop.example/g01194/impl.isFor -/
def impl_isFor_c (Q : Type) (sum0 : Int) (k : (Bool) → Option Q) : Option Q :=
    bif (impl_isSum_v sum0) then
    bif ((Int.tmod sum0 (2 : Int)) == (0 : Int)) then
    k (decide ((impl_leastTiles_v sum0) ≤ (16 : Int)))
    else k false
    else k false
def impl_isFor_v (sum0 : Int) : Bool :=
    bif (impl_isSum_v sum0) then
    bif ((Int.tmod sum0 (2 : Int)) == (0 : Int)) then
    (decide ((impl_leastTiles_v sum0) ≤ (16 : Int)))
    else false
    else false
theorem impl_isFor_cv (Q : Type) (sum0 : Int) (k : (Bool) → Option Q) : impl_isFor_c Q sum0 k = k (impl_isFor_v sum0) := by
  simp only [impl_isFor_c, impl_isFor_v, app_condL k]

/-- loop.example/g01194/impl.LeastTiles -/
def impl_LeastTiles_c (Q : Type) (sum0 : Int) (k : (Int × Bool) → Option Q) : Option Q :=
    bif (!(impl_isFor_v sum0)) then
    k ((0 : Int), false)
    else k ((impl_leastTiles_v sum0), true)
def impl_LeastTiles_v (sum0 : Int) : Int × Bool :=
    bif (!(impl_isFor_v sum0)) then
    ((0 : Int), false)
    else ((impl_leastTiles_v sum0), true)
theorem impl_LeastTiles_cv (Q : Type) (sum0 : Int) (k : (Int × Bool) → Option Q) : impl_LeastTiles_c Q sum0 k = k (impl_LeastTiles_v sum0) := by
  simp only [impl_LeastTiles_c, impl_LeastTiles_v, app_condL k]

/-- loop.example/g01194/laws.FnExactLeastTiles -/
def laws_FnExactLeastTiles_c (Q : Type) (F : Nat) (aSum0 : Int) (k : (Bool) → Option Q) : Option Q :=
    let z_1 := (spec_LeastTiles_p F aSum0)
    let z_2 := (Option.getD z_1 default)
    bif (Option.isSome z_1) then
    bif (!((impl_LeastTiles_v aSum0).1 == z_2.1)) then
    k false
    else bif (!((impl_LeastTiles_v aSum0).2 == z_2.2)) then
    k false
    else k true
    else none
def laws_FnExactLeastTiles_p (F : Nat) (aSum0 : Int) : Option (Bool) := laws_FnExactLeastTiles_c _ F aSum0 some
theorem laws_FnExactLeastTiles_cp (Q : Type) (F : Nat) (aSum0 : Int) (k : (Bool) → Option Q) : laws_FnExactLeastTiles_c Q F aSum0 k = (laws_FnExactLeastTiles_p F aSum0).bind k := by
  simp only [laws_FnExactLeastTiles_p, laws_FnExactLeastTiles_c, cond_bindL, none_bindL, some_bindL]

/-- loop.example/g01194/laws.toIntA4 -/
def laws_toIntA4_c (Q : Type) (a0 : List Int) (k : (List Int) → Option Q) : Option Q :=
    k [(iget a0 0), (iget a0 1), (iget a0 2), (iget a0 3)]
def laws_toIntA4_v (a0 : List Int) : List Int :=
    [(iget a0 0), (iget a0 1), (iget a0 2), (iget a0 3)]
theorem laws_toIntA4_cv (Q : Type) (a0 : List Int) (k : (List Int) → Option Q) : laws_toIntA4_c Q a0 k = k (laws_toIntA4_v a0) := by
  simp only [laws_toIntA4_c, laws_toIntA4_v, app_condL k]

/-- loop.example/g01194/laws.toIntA4A4 -/
def laws_toIntA4A4_c (Q : Type) (a0 : List Int) (k : (List Int) → Option Q) : Option Q :=
    k (splice (splice (splice (splice [(0 : Int), (0 : Int), (0 : Int), (0 : Int), (0 : Int), (0 : Int), (0 : Int), (0 : Int), (0 : Int), (0 : Int), (0 : Int), (0 : Int), (0 : Int), (0 : Int), (0 : Int), (0 : Int)] 0 (laws_toIntA4_v (sub a0 0 4)) 4) 4 (laws_toIntA4_v (sub a0 4 4)) 4) 8 (laws_toIntA4_v (sub a0 8 4)) 4) 12 (laws_toIntA4_v (sub a0 12 4)) 4)
def laws_toIntA4A4_v (a0 : List Int) : List Int :=
    (splice (splice (splice (splice [(0 : Int), (0 : Int), (0 : Int), (0 : Int), (0 : Int), (0 : Int), (0 : Int), (0 : Int), (0 : Int), (0 : Int), (0 : Int), (0 : Int), (0 : Int), (0 : Int), (0 : Int), (0 : Int)] 0 (laws_toIntA4_v (sub a0 0 4)) 4) 4 (laws_toIntA4_v (sub a0 4 4)) 4) 8 (laws_toIntA4_v (sub a0 8 4)) 4) 12 (laws_toIntA4_v (sub a0 12 4)) 4)
theorem laws_toIntA4A4_cv (Q : Type) (a0 : List Int) (k : (List Int) → Option Q) : laws_toIntA4A4_c Q a0 k = k (laws_toIntA4A4_v a0) := by
  simp only [laws_toIntA4A4_c, laws_toIntA4A4_v, app_condL k]

/-- loop.example/g01194/laws.toBoard -/
def laws_toBoard_c (Q : Type) (a0 : List Int) (k : (List Int) → Option Q) : Option Q :=
    k (laws_toIntA4A4_v a0)
def laws_toBoard_v (a0 : List Int) : List Int :=
    (laws_toIntA4A4_v a0)
theorem laws_toBoard_cv (Q : Type) (a0 : List Int) (k : (List Int) → Option Q) : laws_toBoard_c Q a0 k = k (laws_toBoard_v a0) := by
  simp only [laws_toBoard_c, laws_toBoard_v, app_condL k]

/-- loop 5 of loop.example/g01194/spec.l2Board -/
def spec_l2Board_s5 (F : Nat) (r3 : Int) (b5 : List Int) (Q : Type) : (Int) → ((Int) → Option Q) → ((Bool) → Option Q) → Option Q
  | c4, kn, kx =>
    bif (decide (c4 < (4 : Int))) then
    bif (inR r3 4) then
    bif (inR c4 4) then
    bif (!(spec_l1In_v (iget b5 (((0 : Nat) + ((Int.toNat r3) * (4 : Nat))) + ((Int.toNat c4) * (1 : Nat)))) (0 : Int) (17 : Int))) then
    kx true
    else kn (IntKind.wrap .i64 (c4 + (1 : Int)))
    else none
    else none
    else kx false
def spec_l2Board_l5 (F : Nat) (r3 : Int) (b5 : List Int) (c4 : Int) : Option (Bool) := loopC (spec_l2Board_s5 F r3 b5) F c4 some
theorem spec_l2Board_s5_nat (F : Nat) (r3 : Int) (b5 : List Int) : Natural (spec_l2Board_s5 F r3 b5) := by
  intro Q Q' s kn kx h
  simp only [spec_l2Board_s5, cond_bindL, none_bindL]
/-- loop 2 of loop.example/g01194/spec.l2Board -/
def spec_l2Board_s2 (F : Nat) (b4 : List Int) (Q : Type) : (Int) → ((Int) → Option Q) → ((Bool) → Option Q) → Option Q
  | r3, kn, kx =>
    let z_1 := (spec_l2Board_l5 F r3 b4 (0 : Int))
    bif (decide (r3 < (4 : Int))) then
    bif (Option.isSome z_1) then
    bif (Option.getD z_1 default) then
    kx true
    else kn (IntKind.wrap .i64 (r3 + (1 : Int)))
    else none
    else kx false
def spec_l2Board_l2 (F : Nat) (b4 : List Int) (r3 : Int) : Option (Bool) := loopC (spec_l2Board_s2 F b4) F r3 some
theorem spec_l2Board_s2_nat (F : Nat) (b4 : List Int) : Natural (spec_l2Board_s2 F b4) := by
  intro Q Q' s kn kx h
  simp only [spec_l2Board_s2, cond_bindL, none_bindL]
/-- loop.example/g01194/spec.l2Board -/
def spec_l2Board_c (Q : Type) (F : Nat) (b0 : List Int) (k : (Bool) → Option Q) : Option Q :=
    let z_1 := (spec_l2Board_l2 F b0 (0 : Int))
    bif (Option.isSome z_1) then
    bif (Option.getD z_1 default) then
    k false
    else k true
    else none
def spec_l2Board_p (F : Nat) (b0 : List Int) : Option (Bool) := spec_l2Board_c _ F b0 some
theorem spec_l2Board_cp (Q : Type) (F : Nat) (b0 : List Int) (k : (Bool) → Option Q) : spec_l2Board_c Q F b0 k = (spec_l2Board_p F b0).bind k := by
  simp only [spec_l2Board_p, spec_l2Board_c, cond_bindL, none_bindL, some_bindL]

/-- loop 5 of loop.example/g01194/spec.CountTiles -/
def spec_CountTiles_s5 (F : Nat) (b10 : List Int) (Q : Type) : (Int × List Int) → ((Int × List Int) → Option Q) → ((List Int) → Option Q) → Option Q
  | (r9, out12), kn, kx =>
    let z_1 : Nat := ((0 : Nat) + ((Int.toNat r9) * (4 : Nat)))
    let z_2 : Int := (iget b10 z_1)
    let z_3 : Bool := (inR z_2 18)
    let z_4 : Int := (iget b10 (z_1 + (1 : Nat)))
    let z_5 : Bool := (inR z_4 18)
    let z_6 : Int := (iget b10 (z_1 + (2 : Nat)))
    let z_7 : Bool := (inR z_6 18)
    let z_8 : Int := (iget b10 (z_1 + (3 : Nat)))
    let z_9 : Bool := (inR z_8 18)
    let z_10 : Nat := ((0 : Nat) + ((Int.toNat z_2) * (1 : Nat)))
    let z_11 : List Int := (iset out12 z_10 (IntKind.wrap .i64 ((iget out12 z_10) + (1 : Int))))
    let z_12 : Nat := ((0 : Nat) + ((Int.toNat z_4) * (1 : Nat)))
    let z_13 : List Int := (iset z_11 z_12 (IntKind.wrap .i64 ((iget z_11 z_12) + (1 : Int))))
    let z_14 : Nat := ((0 : Nat) + ((Int.toNat z_6) * (1 : Nat)))
    let z_15 : List Int := (iset z_13 z_14 (IntKind.wrap .i64 ((iget z_13 z_14) + (1 : Int))))
    let z_16 : Nat := ((0 : Nat) + ((Int.toNat z_8) * (1 : Nat)))
    bif (decide (r9 < (4 : Int))) then
    bif (inR r9 4) then
    bif z_3 then
    bif z_3 then
    bif (inR r9 4) then
    bif z_5 then
    bif z_5 then
    bif (inR r9 4) then
    bif z_7 then
    bif z_7 then
    bif (inR r9 4) then
    bif z_9 then
    bif z_9 then
    kn ((IntKind.wrap .i64 (r9 + (1 : Int))), (iset z_15 z_16 (IntKind.wrap .i64 ((iget z_15 z_16) + (1 : Int)))))
    else none
    else none
    else none
    else none
    else none
    else none
    else none
    else none
    else none
    else none
    else none
    else none
    else kx out12
def spec_CountTiles_l5 (F : Nat) (b10 : List Int) (r9 : Int) (out12 : List Int) : Option (List Int) := loopC (spec_CountTiles_s5 F b10) F (r9, out12) some
theorem spec_CountTiles_s5_nat (F : Nat) (b10 : List Int) : Natural (spec_CountTiles_s5 F b10) := by
  intro Q Q' s kn kx h
  obtain ⟨r9, out12⟩ := s
  simp only [spec_CountTiles_s5, cond_bindL, none_bindL]
/-- loop.example/g01194/spec.CountTiles -/
def spec_CountTiles_c (Q : Type) (F : Nat) (b0 : List Int) (k : (List Int × Bool) → Option Q) : Option Q :=
    let z_1 := (spec_l2Board_p F b0)
    let z_2 : List Int := [(0 : Int), (0 : Int), (0 : Int), (0 : Int), (0 : Int), (0 : Int), (0 : Int), (0 : Int), (0 : Int), (0 : Int), (0 : Int), (0 : Int), (0 : Int), (0 : Int), (0 : Int), (0 : Int), (0 : Int), (0 : Int)]
    let z_3 := (spec_CountTiles_l5 F b0 (0 : Int) z_2)
    bif (Option.isSome z_1) then
    bif (!(Option.getD z_1 default)) then
    k (z_2, false)
    else bif (Option.isSome z_3) then
    k ((Option.getD z_3 default), true)
    else none
    else none
def spec_CountTiles_p (F : Nat) (b0 : List Int) : Option (List Int × Bool) := spec_CountTiles_c _ F b0 some
theorem spec_CountTiles_cp (Q : Type) (F : Nat) (b0 : List Int) (k : (List Int × Bool) → Option Q) : spec_CountTiles_c Q F b0 k = (spec_CountTiles_p F b0).bind k := by
  simp only [spec_CountTiles_p, spec_CountTiles_c, cond_bindL, none_bindL, some_bindL]

/-- loop 3 of loop.example/g01194/spec.IsPackedBoard -/
def spec_IsPackedBoard_s3 (F : Nat) (ok3 : Bool) (counts5 : List Int) (Q : Type) : (Int) → ((Int) → Option Q) → ((Bool) → Option Q) → Option Q
  | t4, kn, kx =>
    bif (decide (t4 ≤ (17 : Int))) then
    bif (inR t4 18) then
    bif (decide ((1 : Int) < (iget counts5 ((0 : Nat) + ((Int.toNat t4) * (1 : Nat)))))) then
    kx true
    else kn (IntKind.wrap .i64 (t4 + (1 : Int)))
    else none
    else kx false
def spec_IsPackedBoard_l3 (F : Nat) (ok3 : Bool) (counts5 : List Int) (t4 : Int) : Option (Bool) := loopC (spec_IsPackedBoard_s3 F ok3 counts5) F t4 some
theorem spec_IsPackedBoard_s3_nat (F : Nat) (ok3 : Bool) (counts5 : List Int) : Natural (spec_IsPackedBoard_s3 F ok3 counts5) := by
  intro Q Q' s kn kx h
  simp only [spec_IsPackedBoard_s3, cond_bindL, none_bindL]
/-- loop.example/g01194/spec.IsPackedBoard -/
def spec_IsPackedBoard_c (Q : Type) (F : Nat) (b0 : List Int) (k : (Bool × Bool) → Option Q) : Option Q :=
    let z_1 := (spec_CountTiles_p F b0)
    let z_2 := (Option.getD z_1 default)
    let z_3 := (spec_IsPackedBoard_l3 F z_2.2 z_2.1 (1 : Int))
    bif (Option.isSome z_1) then
    bif (Option.isSome z_3) then
    bif (Option.getD z_3 default) then
    k (false, true)
    else k (z_2.2, z_2.2)
    else none
    else none
def spec_IsPackedBoard_p (F : Nat) (b0 : List Int) : Option (Bool × Bool) := spec_IsPackedBoard_c _ F b0 some
theorem spec_IsPackedBoard_cp (Q : Type) (F : Nat) (b0 : List Int) (k : (Bool × Bool) → Option Q) : spec_IsPackedBoard_c Q F b0 k = (spec_IsPackedBoard_p F b0).bind k := by
  simp only [spec_IsPackedBoard_p, spec_IsPackedBoard_c, cond_bindL, none_bindL, some_bindL]

/-- loop.example/g01194/impl.IsRow$1 -/
def impl_IsRow_f1_c (Q : Type) (n0 : Int) (k : (Bool) → Option Q) : Option Q :=
    k (!(impl_in_v n0 (0 : Int) (17 : Int)))
def impl_IsRow_f1_v (n0 : Int) : Bool :=
    (!(impl_in_v n0 (0 : Int) (17 : Int)))
theorem impl_IsRow_f1_cv (Q : Type) (n0 : Int) (k : (Bool) → Option Q) : impl_IsRow_f1_c Q n0 k = k (impl_IsRow_f1_v n0) := by
  simp only [impl_IsRow_f1_c, impl_IsRow_f1_v, app_condL k]
end Go.Lv.P
