/-
Pure functions and what the code of them does, by program; without conditions.
-/
import Derived.Test.YtloemkielkdegaaTIP6
namespace Go.Lv.P
open Go Go.Lv
set_option linter.unusedVariables false
set_option linter.unusedSimpArgs false
set_option maxRecDepth 100000
/-- loop 6 of loop.example/g01194/spec.l7Potential -/
def spec_l7Potential_s6 (F : Nat) (r4 : Int) (b6 : List Int) (Q : Type) : (Int × Int) → ((Int × Int) → Option Q) → ((Int) → Option Q) → Option Q
  | (sum3, c5), kn, kx =>
    let z_1 : Int := (iget b6 (((0 : Nat) + ((Int.toNat r4) * (4 : Nat))) + ((Int.toNat c5) * (1 : Nat))))
    let z_2 : Int := (IntKind.wrap .i64 (c5 + (1 : Int)))
    bif (decide (c5 < (4 : Int))) then
    bif (inR r4 4) then
    bif (inR c5 4) then
    bif (decide ((0 : Int) < z_1)) then
    bif (Option.isSome (spec_l2Worth_p z_1)) then
    kn ((IntKind.wrap .i64 (sum3 + (IntKind.wrap .i64 ((IntKind.wrap .i64 (z_1 - (1 : Int))) * (Option.getD (spec_l2Worth_p z_1) default))))), z_2)
    else none
    else kn (sum3, z_2)
    else none
    else none
    else kx sum3
def spec_l7Potential_l6 (F : Nat) (r4 : Int) (b6 : List Int) (sum3 : Int) (c5 : Int) : Option (Int) := loopC (spec_l7Potential_s6 F r4 b6) F (sum3, c5) some
theorem spec_l7Potential_s6_nat (F : Nat) (r4 : Int) (b6 : List Int) : Natural (spec_l7Potential_s6 F r4 b6) := by
  intro Q Q' s kn kx h
  obtain ⟨sum3, c5⟩ := s
  simp only [spec_l7Potential_s6, cond_bindL, none_bindL]
/-- loop 3 of loop.example/g01194/spec.l7Potential -/
def spec_l7Potential_s3 (F : Nat) (b5 : List Int) (Q : Type) : (Int × Int) → ((Int × Int) → Option Q) → ((Int) → Option Q) → Option Q
  | (sum3, r4), kn, kx =>
    let z_1 := (spec_l7Potential_l6 F r4 b5 sum3 (0 : Int))
    bif (decide (r4 < (4 : Int))) then
    bif (Option.isSome z_1) then
    kn ((Option.getD z_1 default), (IntKind.wrap .i64 (r4 + (1 : Int))))
    else none
    else kx sum3
def spec_l7Potential_l3 (F : Nat) (b5 : List Int) (sum3 : Int) (r4 : Int) : Option (Int) := loopC (spec_l7Potential_s3 F b5) F (sum3, r4) some
theorem spec_l7Potential_s3_nat (F : Nat) (b5 : List Int) : Natural (spec_l7Potential_s3 F b5) := by
  intro Q Q' s kn kx h
  obtain ⟨sum3, r4⟩ := s
  simp only [spec_l7Potential_s3, cond_bindL, none_bindL]
/-- loop.example/g01194/spec.l7Potential -/
def spec_l7Potential_c (Q : Type) (F : Nat) (b0 : List Int) (k : (Int) → Option Q) : Option Q :=
    let z_1 := (spec_l7Potential_l3 F b0 (0 : Int) (0 : Int))
    bif (Option.isSome z_1) then
    k (Option.getD z_1 default)
    else none
def spec_l7Potential_p (F : Nat) (b0 : List Int) : Option (Int) := spec_l7Potential_c _ F b0 some
theorem spec_l7Potential_cp (Q : Type) (F : Nat) (b0 : List Int) (k : (Int) → Option Q) : spec_l7Potential_c Q F b0 k = (spec_l7Potential_p F b0).bind k := by
  simp only [spec_l7Potential_p, spec_l7Potential_c, cond_bindL, none_bindL, some_bindL]

/-- loop.example/g01194/spec.PotentialOf -/
def spec_PotentialOf_c (Q : Type) (F : Nat) (b0 : List Int) (k : (Int × Bool) → Option Q) : Option Q :=
    let z_1 := (spec_l2Board_p F b0)
    let z_2 := (spec_l7Potential_p F b0)
    bif (Option.isSome z_1) then
    bif (!(Option.getD z_1 default)) then
    k ((0 : Int), false)
    else bif (Option.isSome z_2) then
    k ((Option.getD z_2 default), true)
    else none
    else none
def spec_PotentialOf_p (F : Nat) (b0 : List Int) : Option (Int × Bool) := spec_PotentialOf_c _ F b0 some
theorem spec_PotentialOf_cp (Q : Type) (F : Nat) (b0 : List Int) (k : (Int × Bool) → Option Q) : spec_PotentialOf_c Q F b0 k = (spec_PotentialOf_p F b0).bind k := by
  simp only [spec_PotentialOf_p, spec_PotentialOf_c, cond_bindL, none_bindL, some_bindL]

/-- slices.Grow[[]int,int] -/
def slices_Grow_intint_c (Q : Type) (n0 : Int) (k : (List Int) → Option Q) : Option Q :=
    let z_1 : Int := (IntKind.wrap .i64 (n0 - (0 : Int)))
    let z_2 : Nat := (Int.toNat z_1)
    bif (decide (n0 < (0 : Int))) then
    none
    else bif (decide ((0 : Int) < z_1)) then
    bif ((decide ((1 : Int) ≤ z_1)) && (fits z_2 8)) then
    bif (inLe (0 : Int) z_2) then
    k (List.replicate z_2 (0 : Int))
    else none
    else none
    else k ([] : List Int)
def slices_Grow_intint_p (n0 : Int) : Option (List Int) := slices_Grow_intint_c _ n0 some
theorem slices_Grow_intint_cp (Q : Type) (n0 : Int) (k : (List Int) → Option Q) : slices_Grow_intint_c Q n0 k = (slices_Grow_intint_p n0).bind k := by
  simp only [slices_Grow_intint_p, slices_Grow_intint_c, cond_bindL, none_bindL, some_bindL]

/-- slices.Concat[[]int,int] -/
def slices_Concat_intint_c (Q : Type) (slices0 : List Int) (slices1 : List Int) (slices2 : List Int) (slices3 : List Int) (k : (List Int) → Option Q) : Option Q :=
    let z_1 : Int := (IntKind.wrap .i64 ((0 : Int) + (((List.length slices0) : Nat) : Int)))
    let z_2 : Int := (IntKind.wrap .i64 (z_1 + (((List.length slices1) : Nat) : Int)))
    let z_3 : Int := (IntKind.wrap .i64 (z_2 + (((List.length slices2) : Nat) : Int)))
    let z_4 : Int := (IntKind.wrap .i64 (z_3 + (((List.length slices3) : Nat) : Int)))
    let z_5 : List Int := ((subn (List.length (Option.getD (slices_Grow_intint_p z_4) default)) (Option.getD (slices_Grow_intint_p z_4) default) 0 0) ++ slices0)
    let z_6 : Nat := (List.length z_5)
    let z_7 : List Int := ((subn z_6 z_5 0 z_6) ++ slices1)
    let z_8 : Nat := (List.length z_7)
    let z_9 : List Int := ((subn z_8 z_7 0 z_8) ++ slices2)
    let z_10 : Nat := (List.length z_9)
    let z_11 : List Int := ((subn z_10 z_9 0 z_10) ++ slices3)
    bif (decide (z_1 < (0 : Int))) then
    none
    else bif (decide (z_2 < (0 : Int))) then
    none
    else bif (decide (z_3 < (0 : Int))) then
    none
    else bif (decide (z_4 < (0 : Int))) then
    none
    else bif (Option.isSome (slices_Grow_intint_p z_4)) then
    bif (fits z_6 8) then
    bif (fits z_8 8) then
    bif (fits z_10 8) then
    bif (fits (List.length z_11) 8) then
    k z_11
    else none
    else none
    else none
    else none
    else none
def slices_Concat_intint_p (slices0 : List Int) (slices1 : List Int) (slices2 : List Int) (slices3 : List Int) : Option (List Int) := slices_Concat_intint_c _ slices0 slices1 slices2 slices3 some
theorem slices_Concat_intint_cp (Q : Type) (slices0 : List Int) (slices1 : List Int) (slices2 : List Int) (slices3 : List Int) (k : (List Int) → Option Q) : slices_Concat_intint_c Q slices0 slices1 slices2 slices3 k = (slices_Concat_intint_p slices0 slices1 slices2 slices3).bind k := by
  simp only [slices_Concat_intint_p, slices_Concat_intint_c, cond_bindL, none_bindL, some_bindL]

/-- (loop.example/g01194/impl.Board).flat -/
def impl_Board_flat_c (Q : Type) (b0 : List Int) (k : (List Int) → Option Q) : Option Q :=
    let z_1 := (slices_Concat_intint_p (sub b0 0 4) (sub b0 4 4) (sub b0 8 4) (sub b0 12 4))
    bif (Option.isSome z_1) then
    k (Option.getD z_1 default)
    else none
def impl_Board_flat_p (b0 : List Int) : Option (List Int) := impl_Board_flat_c _ b0 some
theorem impl_Board_flat_cp (Q : Type) (b0 : List Int) (k : (List Int) → Option Q) : impl_Board_flat_c Q b0 k = (impl_Board_flat_p b0).bind k := by
  simp only [impl_Board_flat_p, impl_Board_flat_c, cond_bindL, none_bindL, some_bindL]

/-- loop 3 of (loop.example/g01194/impl.Board).potential -/
def impl_Board_potential_s3 (F : Nat) (t83 : Int) (t75 : List Int) (Q : Type) : (Int × Int) → ((Int × Int) → Option Q) → ((Int) → Option Q) → Option Q
  | (sum0, t94), kn, kx =>
    let z_1 : Int := (iget t75 ((0 : Nat) + (Int.toNat t94)))
    let z_2 : Int := (IntKind.wrap .i64 (t94 + (1 : Int)))
    bif (decide (t94 < t83)) then
    bif (inR t94 (List.length t75)) then
    bif (decide ((0 : Int) < z_1)) then
    bif (Option.isSome (impl_worth_p z_1)) then
    kn ((IntKind.wrap .i64 (sum0 + (IntKind.wrap .i64 ((IntKind.wrap .i64 (z_1 - (1 : Int))) * (Option.getD (impl_worth_p z_1) default))))), z_2)
    else none
    else kn (sum0, z_2)
    else none
    else kx sum0
def impl_Board_potential_l3 (F : Nat) (t83 : Int) (t75 : List Int) (sum0 : Int) (t94 : Int) : Option (Int) := loopC (impl_Board_potential_s3 F t83 t75) F (sum0, t94) some
theorem impl_Board_potential_s3_nat (F : Nat) (t83 : Int) (t75 : List Int) : Natural (impl_Board_potential_s3 F t83 t75) := by
  intro Q Q' s kn kx h
  obtain ⟨sum0, t94⟩ := s
  simp only [impl_Board_potential_s3, cond_bindL, none_bindL]
/-- (loop.example/g01194/impl.Board).potential -/
def impl_Board_potential_c (Q : Type) (F : Nat) (b0 : List Int) (k : (Int) → Option Q) : Option Q :=
    let z_1 : Nat := (List.length (Option.getD (impl_Board_flat_p b0) default))
    let z_2 := (impl_Board_potential_l3 F ((z_1 : Nat) : Int) (Option.getD (impl_Board_flat_p b0) default) (0 : Int) (0 : Int))
    bif (Option.isSome (impl_Board_flat_p b0)) then
    bif ((Nat.beq z_1 z_1) && (Option.isSome z_2)) then
    k (Option.getD z_2 default)
    else none
    else none
def impl_Board_potential_p (F : Nat) (b0 : List Int) : Option (Int) := impl_Board_potential_c _ F b0 some
theorem impl_Board_potential_cp (Q : Type) (F : Nat) (b0 : List Int) (k : (Int) → Option Q) : impl_Board_potential_c Q F b0 k = (impl_Board_potential_p F b0).bind k := by
  simp only [impl_Board_potential_p, impl_Board_potential_c, cond_bindL, none_bindL, some_bindL]

/-- loop.example/g01194/impl.PotentialOf -/
def impl_PotentialOf_c (Q : Type) (F : Nat) (b0 : List Int) (k : (Int × Bool) → Option Q) : Option Q :=
    let z_1 := (impl_IsBoard_p F b0)
    let z_2 := (impl_Board_potential_p F b0)
    bif (Option.isSome z_1) then
    bif (!(Option.getD z_1 default)) then
    k ((0 : Int), false)
    else bif (Option.isSome z_2) then
    k ((Option.getD z_2 default), true)
    else none
    else none
def impl_PotentialOf_p (F : Nat) (b0 : List Int) : Option (Int × Bool) := impl_PotentialOf_c _ F b0 some
theorem impl_PotentialOf_cp (Q : Type) (F : Nat) (b0 : List Int) (k : (Int × Bool) → Option Q) : impl_PotentialOf_c Q F b0 k = (impl_PotentialOf_p F b0).bind k := by
  simp only [impl_PotentialOf_p, impl_PotentialOf_c, cond_bindL, none_bindL, some_bindL]

/-- loop.example/g01194/laws.FnExactPotentialOf -/
def laws_FnExactPotentialOf_c (Q : Type) (F : Nat) (aB0 : List Int) (k : (Bool) → Option Q) : Option Q :=
    let z_1 := (spec_PotentialOf_p F (laws_toBoard_v aB0))
    let z_2 := (impl_PotentialOf_p F (laws_toBoard_v aB0))
    let z_3 := (Option.getD z_2 default)
    let z_4 := (Option.getD z_1 default)
    bif (Option.isSome z_1) then
    bif (Option.isSome z_2) then
    bif (!(z_3.1 == z_4.1)) then
    k false
    else bif (!(z_3.2 == z_4.2)) then
    k false
    else k true
    else none
    else none
def laws_FnExactPotentialOf_p (F : Nat) (aB0 : List Int) : Option (Bool) := laws_FnExactPotentialOf_c _ F aB0 some
theorem laws_FnExactPotentialOf_cp (Q : Type) (F : Nat) (aB0 : List Int) (k : (Bool) → Option Q) : laws_FnExactPotentialOf_c Q F aB0 k = (laws_FnExactPotentialOf_p F aB0).bind k := by
  simp only [laws_FnExactPotentialOf_p, laws_FnExactPotentialOf_c, cond_bindL, none_bindL, some_bindL]

/-- loop.example/g01194/spec.ScoreBetween -/
def spec_ScoreBetween_c (Q : Type) (F : Nat) (a0 : List Int) (b1 : List Int) (twos2 : Int) (k : (Int × Bool) → Option Q) : Option Q :=
    let z_1 := (spec_l2Board_p F a0)
    let z_2 := (spec_l2Board_p F b1)
    let z_3 := (spec_l7Potential_p F b1)
    let z_4 := (spec_l7Potential_p F a0)
    bif (Option.isSome z_1) then
    bif (!(Option.getD z_1 default)) then
    k ((0 : Int), false)
    else bif (Option.isSome z_2) then
    bif (!(Option.getD z_2 default)) then
    k ((0 : Int), false)
    else bif (!(spec_l1In_v twos2 (0 : Int) (2097152 : Int))) then
    k ((0 : Int), false)
    else bif (Option.isSome z_3) then
    bif (Option.isSome z_4) then
    k ((IntKind.wrap .i64 ((IntKind.wrap .i64 ((Option.getD z_3 default) - (Option.getD z_4 default))) - (IntKind.wrap .i64 ((4 : Int) * twos2)))), true)
    else none
    else none
    else none
    else none
def spec_ScoreBetween_p (F : Nat) (a0 : List Int) (b1 : List Int) (twos2 : Int) : Option (Int × Bool) := spec_ScoreBetween_c _ F a0 b1 twos2 some
theorem spec_ScoreBetween_cp (Q : Type) (F : Nat) (a0 : List Int) (b1 : List Int) (twos2 : Int) (k : (Int × Bool) → Option Q) : spec_ScoreBetween_c Q F a0 b1 twos2 k = (spec_ScoreBetween_p F a0 b1 twos2).bind k := by
  simp only [spec_ScoreBetween_p, spec_ScoreBetween_c, cond_bindL, none_bindL, some_bindL]

/-- loop.example/g01194/impl.isSum -/
def impl_isSum_c (Q : Type) (sum0 : Int) (k : (Bool) → Option Q) : Option Q :=
    k (impl_in_v sum0 (0 : Int) (2097152 : Int))
def impl_isSum_v (sum0 : Int) : Bool :=
    (impl_in_v sum0 (0 : Int) (2097152 : Int))
theorem impl_isSum_cv (Q : Type) (sum0 : Int) (k : (Bool) → Option Q) : impl_isSum_c Q sum0 k = k (impl_isSum_v sum0) := by
  simp only [impl_isSum_c, impl_isSum_v, app_condL k]

/-- loop.example/g01194/impl.ScoreBetween -/
def impl_ScoreBetween_c (Q : Type) (F : Nat) (a0 : List Int) (b1 : List Int) (twos2 : Int) (k : (Int × Bool) → Option Q) : Option Q :=
    let z_1 := (impl_IsBoard_p F a0)
    let z_2 := (impl_IsBoard_p F b1)
    let z_3 := (impl_Board_potential_p F b1)
    let z_4 := (impl_Board_potential_p F a0)
    bif (Option.isSome z_1) then
    bif (!(Option.getD z_1 default)) then
    k ((0 : Int), false)
    else bif (Option.isSome z_2) then
    bif (!(Option.getD z_2 default)) then
    k ((0 : Int), false)
    else bif (!(impl_isSum_v twos2)) then
    k ((0 : Int), false)
    else bif (Option.isSome z_3) then
    bif (Option.isSome z_4) then
    k ((IntKind.wrap .i64 ((IntKind.wrap .i64 ((Option.getD z_3 default) - (Option.getD z_4 default))) - (IntKind.wrap .i64 ((4 : Int) * twos2)))), true)
    else none
    else none
    else none
    else none
def impl_ScoreBetween_p (F : Nat) (a0 : List Int) (b1 : List Int) (twos2 : Int) : Option (Int × Bool) := impl_ScoreBetween_c _ F a0 b1 twos2 some
theorem impl_ScoreBetween_cp (Q : Type) (F : Nat) (a0 : List Int) (b1 : List Int) (twos2 : Int) (k : (Int × Bool) → Option Q) : impl_ScoreBetween_c Q F a0 b1 twos2 k = (impl_ScoreBetween_p F a0 b1 twos2).bind k := by
  simp only [impl_ScoreBetween_p, impl_ScoreBetween_c, cond_bindL, none_bindL, some_bindL]

/-- loop.example/g01194/laws.FnExactScoreBetween -/
def laws_FnExactScoreBetween_c (Q : Type) (F : Nat) (aA0 : List Int) (aB1 : List Int) (aTwos2 : Int) (k : (Bool) → Option Q) : Option Q :=
    let z_1 := (spec_ScoreBetween_p F (laws_toBoard_v aA0) (laws_toBoard_v aB1) aTwos2)
    let z_2 := (impl_ScoreBetween_p F (laws_toBoard_v aA0) (laws_toBoard_v aB1) aTwos2)
    let z_3 := (Option.getD z_2 default)
    let z_4 := (Option.getD z_1 default)
    bif (Option.isSome z_1) then
    bif (Option.isSome z_2) then
    bif (!(z_3.1 == z_4.1)) then
    k false
    else bif (!(z_3.2 == z_4.2)) then
    k false
    else k true
    else none
    else none
def laws_FnExactScoreBetween_p (F : Nat) (aA0 : List Int) (aB1 : List Int) (aTwos2 : Int) : Option (Bool) := laws_FnExactScoreBetween_c _ F aA0 aB1 aTwos2 some
theorem laws_FnExactScoreBetween_cp (Q : Type) (F : Nat) (aA0 : List Int) (aB1 : List Int) (aTwos2 : Int) (k : (Bool) → Option Q) : laws_FnExactScoreBetween_c Q F aA0 aB1 aTwos2 k = (laws_FnExactScoreBetween_p F aA0 aB1 aTwos2).bind k := by
  simp only [laws_FnExactScoreBetween_p, laws_FnExactScoreBetween_c, cond_bindL, none_bindL, some_bindL]
end Go.Lv.P
