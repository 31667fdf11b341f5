/-
Pure functions and what the code of them does, by program; without conditions.
-/
import Derived.Test.YtgpadaadcepgaaaTHP3
namespace Go.Lv.P
open Go Go.Lv
set_option linter.unusedVariables false
set_option linter.unusedSimpArgs false
set_option maxRecDepth 100000
/-- loop.example/g01194/impl.ChanceOfTile$1 -/
def impl_ChanceOfTile_f1_c (Q : Type) (own0 : List Int) (a17 : List Int) (a28 : List Int) (k : (Bool) → Option Q) : Option Q :=
    let z_1 := (impl_Board_at_p a17 own0)
    bif (Option.isSome z_1) then
    k ((iget own0 (Option.getD z_1 default)) == (iget a28 0))
    else none
def impl_ChanceOfTile_f1_p (own0 : List Int) (a17 : List Int) (a28 : List Int) : Option (Bool) := impl_ChanceOfTile_f1_c _ own0 a17 a28 some
theorem impl_ChanceOfTile_f1_cp (Q : Type) (own0 : List Int) (a17 : List Int) (a28 : List Int) (k : (Bool) → Option Q) : impl_ChanceOfTile_f1_c Q own0 a17 a28 k = (impl_ChanceOfTile_f1_p own0 a17 a28).bind k := by
  simp only [impl_ChanceOfTile_f1_p, impl_ChanceOfTile_f1_c, cond_bindL, none_bindL, some_bindL]

/-- (loop.example/g01194/impl.Board).chance$1 -/
def impl_Board_chance_f1_2_c (Q : Type) (own0 : List Int) (m110 : List Int) (m211 : List Int) (k : (List Int) → Option Q) : Option Q :=
    let z_1 := (impl_ChanceOfTile_f1_p own0 m110 m211)
    bif (Option.isSome z_1) then
    k (impl_flag_v (Option.getD z_1 default))
    else none
def impl_Board_chance_f1_2_p (own0 : List Int) (m110 : List Int) (m211 : List Int) : Option (List Int) := impl_Board_chance_f1_2_c _ own0 m110 m211 some
theorem impl_Board_chance_f1_2_cp (Q : Type) (own0 : List Int) (m110 : List Int) (m211 : List Int) (k : (List Int) → Option Q) : impl_Board_chance_f1_2_c Q own0 m110 m211 k = (impl_Board_chance_f1_2_p own0 m110 m211).bind k := by
  simp only [impl_Board_chance_f1_2_p, impl_Board_chance_f1_2_c, cond_bindL, none_bindL, some_bindL]

/-- loop 3 of (loop.example/g01194/impl.Board).mean -/
def impl_Board_mean_impl_Board_chance_f1_2_s3 (F : Nat) (t1314 : Int) (m122 : List Int) (m223 : List Int) (b24 : List Int) (t1227 : List (List Int)) (Q : Type) : (Int × List Int) → ((Int × List Int) → Option Q) → ((List Int) → Option Q) → Option Q
  | (t1415, sum26), kn, kx =>
    let z_1 : List Int := (rget t1227 ((0 : Nat) + (Int.toNat t1415)))
    let z_2 := (impl_Board_placed_p b24 z_1)
    let z_3 := (impl_Board_chance_f1_2_p (Option.getD z_2 default) m122 m223)
    let z_4 : Int := (iget (Option.getD z_3 default) 0)
    let z_5 : Int := (iget (Option.getD z_3 default) 1)
    let z_6 := (impl_fraction_p F (IntKind.wrap .i64 ((1 : Int) * z_4)) z_5)
    let z_7 := (impl_plus_p F sum26 (Option.getD z_6 default))
    let z_8 : Int := (IntKind.wrap .i64 (t1415 + (1 : Int)))
    let z_9 := (impl_fraction_p F (IntKind.wrap .i64 ((9 : Int) * z_4)) z_5)
    let z_10 := (impl_plus_p F sum26 (Option.getD z_9 default))
    bif (decide (t1415 < t1314)) then
    bif (inR t1415 (List.length t1227)) then
    bif (Option.isSome z_2) then
    bif (Option.isSome z_3) then
    bif ((iget z_1 2) == (2 : Int)) then
    bif (Option.isSome z_6) then
    bif (Option.isSome z_7) then
    kn (z_8, (Option.getD z_7 default))
    else none
    else none
    else bif (Option.isSome z_9) then
    bif (Option.isSome z_10) then
    kn (z_8, (Option.getD z_10 default))
    else none
    else none
    else none
    else none
    else none
    else kx sum26
def impl_Board_mean_impl_Board_chance_f1_2_l3 (F : Nat) (t1314 : Int) (m122 : List Int) (m223 : List Int) (b24 : List Int) (t1227 : List (List Int)) (t1415 : Int) (sum26 : List Int) : Option (List Int) := loopC (impl_Board_mean_impl_Board_chance_f1_2_s3 F t1314 m122 m223 b24 t1227) F (t1415, sum26) some
theorem impl_Board_mean_impl_Board_chance_f1_2_s3_nat (F : Nat) (t1314 : Int) (m122 : List Int) (m223 : List Int) (b24 : List Int) (t1227 : List (List Int)) : Natural (impl_Board_mean_impl_Board_chance_f1_2_s3 F t1314 m122 m223 b24 t1227) := by
  intro Q Q' s kn kx h
  obtain ⟨t1415, sum26⟩ := s
  simp only [impl_Board_mean_impl_Board_chance_f1_2_s3, cond_bindL, none_bindL]
/-- (loop.example/g01194/impl.Board).mean -/
def impl_Board_mean_impl_Board_chance_f1_2_c (Q : Type) (F : Nat) (b0 : List Int) (m110 : List Int) (m211 : List Int) (k : (List Int) → Option Q) : Option Q :=
    let z_1 := (impl_Board_placements_p F b0)
    let z_2 : Nat := (List.length (Option.getD z_1 default))
    let z_3 := (impl_Board_mean_impl_Board_chance_f1_2_l3 F ((z_2 : Nat) : Int) m110 m211 b0 (Option.getD z_1 default) (0 : Int) [(0 : Int), (1 : Int)])
    let z_4 := (impl_Board_empty_p F b0)
    let z_5 := (impl_fraction_p F (iget (Option.getD z_3 default) 0) (IntKind.wrap .i64 ((IntKind.wrap .i64 ((iget (Option.getD z_3 default) 1) * (10 : Int))) * (((Option.getD z_4 default).1 : Nat) : Int))))
    bif (Option.isSome z_1) then
    bif ((Nat.beq z_2 z_2) && (Option.isSome z_3)) then
    bif (Option.isSome z_4) then
    bif (Option.isSome z_5) then
    k (Option.getD z_5 default)
    else none
    else none
    else none
    else none
def impl_Board_mean_impl_Board_chance_f1_2_p (F : Nat) (b0 : List Int) (m110 : List Int) (m211 : List Int) : Option (List Int) := impl_Board_mean_impl_Board_chance_f1_2_c _ F b0 m110 m211 some
theorem impl_Board_mean_impl_Board_chance_f1_2_cp (Q : Type) (F : Nat) (b0 : List Int) (m110 : List Int) (m211 : List Int) (k : (List Int) → Option Q) : impl_Board_mean_impl_Board_chance_f1_2_c Q F b0 m110 m211 k = (impl_Board_mean_impl_Board_chance_f1_2_p F b0 m110 m211).bind k := by
  simp only [impl_Board_mean_impl_Board_chance_f1_2_p, impl_Board_mean_impl_Board_chance_f1_2_c, cond_bindL, none_bindL, some_bindL]

/-- (loop.example/g01194/impl.Board).chance -/
def impl_Board_chance_impl_ChanceOfTile_f1_c (Q : Type) (F : Nat) (b0 : List Int) (direction1 : Int) (is8 : List Int) (is9 : List Int) (k : (List Int × Bool) → Option Q) : Option Q :=
    let z_1 := (impl_Board_isMove_p F b0 direction1)
    let z_2 := (impl_Board_slides_p F b0 [direction1])
    let z_3 := (impl_Board_mean_impl_Board_chance_f1_2_p F (Option.getD z_2 default) is8 is9)
    bif (Option.isSome z_1) then
    bif (!(Option.getD z_1 default)) then
    k ([(0 : Int), (0 : Int)], false)
    else bif (Option.isSome z_2) then
    bif (Option.isSome z_3) then
    k ((Option.getD z_3 default), true)
    else none
    else none
    else none
def impl_Board_chance_impl_ChanceOfTile_f1_p (F : Nat) (b0 : List Int) (direction1 : Int) (is8 : List Int) (is9 : List Int) : Option (List Int × Bool) := impl_Board_chance_impl_ChanceOfTile_f1_c _ F b0 direction1 is8 is9 some
theorem impl_Board_chance_impl_ChanceOfTile_f1_cp (Q : Type) (F : Nat) (b0 : List Int) (direction1 : Int) (is8 : List Int) (is9 : List Int) (k : (List Int × Bool) → Option Q) : impl_Board_chance_impl_ChanceOfTile_f1_c Q F b0 direction1 is8 is9 k = (impl_Board_chance_impl_ChanceOfTile_f1_p F b0 direction1 is8 is9).bind k := by
  simp only [impl_Board_chance_impl_ChanceOfTile_f1_p, impl_Board_chance_impl_ChanceOfTile_f1_c, cond_bindL, none_bindL, some_bindL]

/-- loop.example/g01194/impl.ChanceOfTile -/
def impl_ChanceOfTile_c (Q : Type) (F : Nat) (b0 : List Int) (direction1 : Int) (cell2 : List Int) (t3 : Int) (k : (List Int × Bool) → Option Q) : Option Q :=
    let z_1 := (impl_Board_chance_impl_ChanceOfTile_f1_p F b0 direction1 cell2 [t3])
    let z_2 := (Option.getD z_1 default)
    bif (!(impl_isCell_v cell2)) then
    k ([(0 : Int), (0 : Int)], false)
    else bif (!(impl_in_v t3 (0 : Int) (17 : Int))) then
    k ([(0 : Int), (0 : Int)], false)
    else bif (Option.isSome z_1) then
    k (z_2.1, z_2.2)
    else none
def impl_ChanceOfTile_p (F : Nat) (b0 : List Int) (direction1 : Int) (cell2 : List Int) (t3 : Int) : Option (List Int × Bool) := impl_ChanceOfTile_c _ F b0 direction1 cell2 t3 some
theorem impl_ChanceOfTile_cp (Q : Type) (F : Nat) (b0 : List Int) (direction1 : Int) (cell2 : List Int) (t3 : Int) (k : (List Int × Bool) → Option Q) : impl_ChanceOfTile_c Q F b0 direction1 cell2 t3 k = (impl_ChanceOfTile_p F b0 direction1 cell2 t3).bind k := by
  simp only [impl_ChanceOfTile_p, impl_ChanceOfTile_c, cond_bindL, none_bindL, some_bindL]

/-- loop.example/g01194/laws.FnExactChanceOfTile -/
def laws_FnExactChanceOfTile_c (Q : Type) (F : Nat) (aB0 : List Int) (aDirection1 : Int) (aCell2 : List Int) (aT3 : Int) (k : (Bool) → Option Q) : Option Q :=
    let z_1 := (spec_ChanceOfTile_p F (laws_toBoard_v aB0) aDirection1 (laws_toIntA2_v aCell2) aT3)
    let z_2 := (impl_ChanceOfTile_p F (laws_toBoard_v aB0) aDirection1 (laws_toIntA2_v aCell2) aT3)
    let z_3 := (Option.getD z_2 default)
    let z_4 := (Option.getD z_1 default)
    let z_5 := (laws_eqIntA2_p F z_3.1 z_4.1)
    bif (Option.isSome z_1) then
    bif (Option.isSome z_2) then
    bif (Option.isSome z_5) then
    bif (!(Option.getD z_5 default)) then
    k false
    else bif (!(z_3.2 == z_4.2)) then
    k false
    else k true
    else none
    else none
    else none
def laws_FnExactChanceOfTile_p (F : Nat) (aB0 : List Int) (aDirection1 : Int) (aCell2 : List Int) (aT3 : Int) : Option (Bool) := laws_FnExactChanceOfTile_c _ F aB0 aDirection1 aCell2 aT3 some
theorem laws_FnExactChanceOfTile_cp (Q : Type) (F : Nat) (aB0 : List Int) (aDirection1 : Int) (aCell2 : List Int) (aT3 : Int) (k : (Bool) → Option Q) : laws_FnExactChanceOfTile_c Q F aB0 aDirection1 aCell2 aT3 k = (laws_FnExactChanceOfTile_p F aB0 aDirection1 aCell2 aT3).bind k := by
  simp only [laws_FnExactChanceOfTile_p, laws_FnExactChanceOfTile_c, cond_bindL, none_bindL, some_bindL]

/-- loop 2 of loop.example/g01194/spec.l9Scores -/
def spec_l9Scores_s2 (F : Nat) (b4 : List Int) (Q : Type) : (Int) → ((Int) → Option Q) → ((Bool) → Option Q) → Option Q
  | d3, kn, kx =>
    let z_1 := (spec_l2Slide_p F b4 d3)
    bif (decide (d3 < (4 : Int))) then
    bif (Option.isSome z_1) then
    bif (decide ((0 : Int) < (Option.getD z_1 default).2)) then
    kx true
    else kn (IntKind.wrap .i64 (d3 + (1 : Int)))
    else none
    else kx false
def spec_l9Scores_l2 (F : Nat) (b4 : List Int) (d3 : Int) : Option (Bool) := loopC (spec_l9Scores_s2 F b4) F d3 some
theorem spec_l9Scores_s2_nat (F : Nat) (b4 : List Int) : Natural (spec_l9Scores_s2 F b4) := by
  intro Q Q' s kn kx h
  simp only [spec_l9Scores_s2, cond_bindL, none_bindL]
/-- loop.example/g01194/spec.l9Scores -/
def spec_l9Scores_c (Q : Type) (F : Nat) (b0 : List Int) (k : (Bool) → Option Q) : Option Q :=
    let z_1 := (spec_l9Scores_l2 F b0 (0 : Int))
    bif (Option.isSome z_1) then
    bif (Option.getD z_1 default) then
    k true
    else k false
    else none
def spec_l9Scores_p (F : Nat) (b0 : List Int) : Option (Bool) := spec_l9Scores_c _ F b0 some
theorem spec_l9Scores_cp (Q : Type) (F : Nat) (b0 : List Int) (k : (Bool) → Option Q) : spec_l9Scores_c Q F b0 k = (spec_l9Scores_p F b0).bind k := by
  simp only [spec_l9Scores_p, spec_l9Scores_c, cond_bindL, none_bindL, some_bindL]

/-- loop 6 of loop.example/g01194/spec.MergeChance -/
def spec_MergeChance_s6 (F : Nat) (steps11 : List (List Int)) (all13 : List (List Int)) (Q : Type) : (Int × List Int) → ((Int × List Int) → Option Q) → ((List Int) → Option Q) → Option Q
  | (i9, numbers12), kn, kx =>
    let z_1 := (spec_l9Scores_p F (rget all13 ((0 : Nat) + (Int.toNat i9))))
    let z_2 : List Int := ((subn (List.length numbers12) numbers12 0 (List.length numbers12)) ++ [(spec_l9One_v (Option.getD z_1 default))])
    bif (decide (i9 < (((List.length all13) : Nat) : Int))) then
    bif (inR i9 (List.length all13)) then
    bif (Option.isSome z_1) then
    bif (fits (List.length z_2) 8) then
    kn ((IntKind.wrap .i64 (i9 + (1 : Int))), z_2)
    else none
    else none
    else none
    else kx numbers12
def spec_MergeChance_l6 (F : Nat) (steps11 : List (List Int)) (all13 : List (List Int)) (i9 : Int) (numbers12 : List Int) : Option (List Int) := loopC (spec_MergeChance_s6 F steps11 all13) F (i9, numbers12) some
theorem spec_MergeChance_s6_nat (F : Nat) (steps11 : List (List Int)) (all13 : List (List Int)) : Natural (spec_MergeChance_s6 F steps11 all13) := by
  intro Q Q' s kn kx h
  obtain ⟨i9, numbers12⟩ := s
  simp only [spec_MergeChance_s6, cond_bindL, none_bindL]
/-- loop.example/g01194/spec.MergeChance -/
def spec_MergeChance_c (Q : Type) (F : Nat) (b0 : List Int) (direction1 : Int) (k : (List Int × Bool) → Option Q) : Option Q :=
    let z_1 := (spec_l9Move_p F b0 direction1)
    let z_2 := (spec_l5Steps_p F b0 direction1)
    let z_3 : Nat := (List.length (Option.getD z_2 default))
    let z_4 : List (List Int) := (subn z_3 (Option.getD z_2 default) 0 z_3)
    let z_5 := (spec_l9Boards_p F b0 z_4)
    let z_6 : Nat := (List.length (Option.getD z_5 default))
    let z_7 := (spec_MergeChance_l6 F (Option.getD z_2 default) (Option.getD z_5 default) (0 : Int) ([] : List Int))
    let z_8 : Nat := (List.length (Option.getD z_7 default))
    let z_9 := (spec_l9Mean_p F z_4 (subn z_8 (Option.getD z_7 default) 0 z_8))
    bif (Option.isSome z_1) then
    bif (!(Option.getD z_1 default)) then
    k ([(0 : Int), (0 : Int)], false)
    else bif (Option.isSome z_2) then
    bif (Option.isSome z_5) then
    bif ((Nat.beq z_3 z_3) && ((Nat.beq z_6 z_6) && (Option.isSome z_7))) then
    bif (Option.isSome z_9) then
    k ((Option.getD z_9 default), true)
    else none
    else none
    else none
    else none
    else none
def spec_MergeChance_p (F : Nat) (b0 : List Int) (direction1 : Int) : Option (List Int × Bool) := spec_MergeChance_c _ F b0 direction1 some
theorem spec_MergeChance_cp (Q : Type) (F : Nat) (b0 : List Int) (direction1 : Int) (k : (List Int × Bool) → Option Q) : spec_MergeChance_c Q F b0 direction1 k = (spec_MergeChance_p F b0 direction1).bind k := by
  simp only [spec_MergeChance_p, spec_MergeChance_c, cond_bindL, none_bindL, some_bindL]

/-- loop 2 of (loop.example/g01194/impl.Board).scores -/
def impl_Board_scores_s2 (F : Nat) (b4 : List Int) (Q : Type) : (Int) → ((Int) → Option Q) → ((Bool) → Option Q) → Option Q
  | t73, kn, kx =>
    let z_1 := (impl_Board_slide_p F b4 t73)
    bif (decide (t73 < (2 : Int))) then
    bif (Option.isSome z_1) then
    bif (decide ((0 : Int) < (Option.getD z_1 default).2.1)) then
    kx true
    else kn (IntKind.wrap .i64 (t73 + (1 : Int)))
    else none
    else kx false
def impl_Board_scores_l2 (F : Nat) (b4 : List Int) (t73 : Int) : Option (Bool) := loopC (impl_Board_scores_s2 F b4) F t73 some
theorem impl_Board_scores_s2_nat (F : Nat) (b4 : List Int) : Natural (impl_Board_scores_s2 F b4) := by
  intro Q Q' s kn kx h
  simp only [impl_Board_scores_s2, cond_bindL, none_bindL]
/-- (loop.example/g01194/impl.Board).scores -/
def impl_Board_scores_c (Q : Type) (F : Nat) (b0 : List Int) (k : (Bool) → Option Q) : Option Q :=
    let z_1 := (impl_Board_scores_l2 F b0 (0 : Int))
    bif (Option.isSome z_1) then
    bif (Option.getD z_1 default) then
    k true
    else k false
    else none
def impl_Board_scores_p (F : Nat) (b0 : List Int) : Option (Bool) := impl_Board_scores_c _ F b0 some
theorem impl_Board_scores_cp (Q : Type) (F : Nat) (b0 : List Int) (k : (Bool) → Option Q) : impl_Board_scores_c Q F b0 k = (impl_Board_scores_p F b0).bind k := by
  simp only [impl_Board_scores_p, impl_Board_scores_c, cond_bindL, none_bindL, some_bindL]

/-- (loop.example/g01194/impl.Board).chance$1 -/
def impl_Board_chance_f1_3_c (Q : Type) (F : Nat) (own0 : List Int) (k : (List Int) → Option Q) : Option Q :=
    let z_1 := (impl_Board_scores_p F own0)
    bif (Option.isSome z_1) then
    k (impl_flag_v (Option.getD z_1 default))
    else none
def impl_Board_chance_f1_3_p (F : Nat) (own0 : List Int) : Option (List Int) := impl_Board_chance_f1_3_c _ F own0 some
theorem impl_Board_chance_f1_3_cp (Q : Type) (F : Nat) (own0 : List Int) (k : (List Int) → Option Q) : impl_Board_chance_f1_3_c Q F own0 k = (impl_Board_chance_f1_3_p F own0).bind k := by
  simp only [impl_Board_chance_f1_3_p, impl_Board_chance_f1_3_c, cond_bindL, none_bindL, some_bindL]

/-- loop 3 of (loop.example/g01194/impl.Board).mean -/
def impl_Board_mean_impl_Board_chance_f1_3_s3 (F : Nat) (t1314 : Int) (b16 : List Int) (t1219 : List (List Int)) (Q : Type) : (Int × List Int) → ((Int × List Int) → Option Q) → ((List Int) → Option Q) → Option Q
  | (t1415, sum18), kn, kx =>
    let z_1 : List Int := (rget t1219 ((0 : Nat) + (Int.toNat t1415)))
    let z_2 := (impl_Board_placed_p b16 z_1)
    let z_3 := (impl_Board_chance_f1_3_p F (Option.getD z_2 default))
    let z_4 : Int := (iget (Option.getD z_3 default) 0)
    let z_5 : Int := (iget (Option.getD z_3 default) 1)
    let z_6 := (impl_fraction_p F (IntKind.wrap .i64 ((1 : Int) * z_4)) z_5)
    let z_7 := (impl_plus_p F sum18 (Option.getD z_6 default))
    let z_8 : Int := (IntKind.wrap .i64 (t1415 + (1 : Int)))
    let z_9 := (impl_fraction_p F (IntKind.wrap .i64 ((9 : Int) * z_4)) z_5)
    let z_10 := (impl_plus_p F sum18 (Option.getD z_9 default))
    bif (decide (t1415 < t1314)) then
    bif (inR t1415 (List.length t1219)) then
    bif (Option.isSome z_2) then
    bif (Option.isSome z_3) then
    bif ((iget z_1 2) == (2 : Int)) then
    bif (Option.isSome z_6) then
    bif (Option.isSome z_7) then
    kn (z_8, (Option.getD z_7 default))
    else none
    else none
    else bif (Option.isSome z_9) then
    bif (Option.isSome z_10) then
    kn (z_8, (Option.getD z_10 default))
    else none
    else none
    else none
    else none
    else none
    else kx sum18
def impl_Board_mean_impl_Board_chance_f1_3_l3 (F : Nat) (t1314 : Int) (b16 : List Int) (t1219 : List (List Int)) (t1415 : Int) (sum18 : List Int) : Option (List Int) := loopC (impl_Board_mean_impl_Board_chance_f1_3_s3 F t1314 b16 t1219) F (t1415, sum18) some
theorem impl_Board_mean_impl_Board_chance_f1_3_s3_nat (F : Nat) (t1314 : Int) (b16 : List Int) (t1219 : List (List Int)) : Natural (impl_Board_mean_impl_Board_chance_f1_3_s3 F t1314 b16 t1219) := by
  intro Q Q' s kn kx h
  obtain ⟨t1415, sum18⟩ := s
  simp only [impl_Board_mean_impl_Board_chance_f1_3_s3, cond_bindL, none_bindL]
/-- (loop.example/g01194/impl.Board).mean -/
def impl_Board_mean_impl_Board_chance_f1_3_c (Q : Type) (F : Nat) (b0 : List Int) (k : (List Int) → Option Q) : Option Q :=
    let z_1 := (impl_Board_placements_p F b0)
    let z_2 : Nat := (List.length (Option.getD z_1 default))
    let z_3 := (impl_Board_mean_impl_Board_chance_f1_3_l3 F ((z_2 : Nat) : Int) b0 (Option.getD z_1 default) (0 : Int) [(0 : Int), (1 : Int)])
    let z_4 := (impl_Board_empty_p F b0)
    let z_5 := (impl_fraction_p F (iget (Option.getD z_3 default) 0) (IntKind.wrap .i64 ((IntKind.wrap .i64 ((iget (Option.getD z_3 default) 1) * (10 : Int))) * (((Option.getD z_4 default).1 : Nat) : Int))))
    bif (Option.isSome z_1) then
    bif ((Nat.beq z_2 z_2) && (Option.isSome z_3)) then
    bif (Option.isSome z_4) then
    bif (Option.isSome z_5) then
    k (Option.getD z_5 default)
    else none
    else none
    else none
    else none
def impl_Board_mean_impl_Board_chance_f1_3_p (F : Nat) (b0 : List Int) : Option (List Int) := impl_Board_mean_impl_Board_chance_f1_3_c _ F b0 some
theorem impl_Board_mean_impl_Board_chance_f1_3_cp (Q : Type) (F : Nat) (b0 : List Int) (k : (List Int) → Option Q) : impl_Board_mean_impl_Board_chance_f1_3_c Q F b0 k = (impl_Board_mean_impl_Board_chance_f1_3_p F b0).bind k := by
  simp only [impl_Board_mean_impl_Board_chance_f1_3_p, impl_Board_mean_impl_Board_chance_f1_3_c, cond_bindL, none_bindL, some_bindL]

/-- (loop.example/g01194/impl.Board).chance -/
def impl_Board_chance_impl_Board_scores_c (Q : Type) (F : Nat) (b0 : List Int) (direction1 : Int) (k : (List Int × Bool) → Option Q) : Option Q :=
    let z_1 := (impl_Board_isMove_p F b0 direction1)
    let z_2 := (impl_Board_slides_p F b0 [direction1])
    let z_3 := (impl_Board_mean_impl_Board_chance_f1_3_p F (Option.getD z_2 default))
    bif (Option.isSome z_1) then
    bif (!(Option.getD z_1 default)) then
    k ([(0 : Int), (0 : Int)], false)
    else bif (Option.isSome z_2) then
    bif (Option.isSome z_3) then
    k ((Option.getD z_3 default), true)
    else none
    else none
    else none
def impl_Board_chance_impl_Board_scores_p (F : Nat) (b0 : List Int) (direction1 : Int) : Option (List Int × Bool) := impl_Board_chance_impl_Board_scores_c _ F b0 direction1 some
theorem impl_Board_chance_impl_Board_scores_cp (Q : Type) (F : Nat) (b0 : List Int) (direction1 : Int) (k : (List Int × Bool) → Option Q) : impl_Board_chance_impl_Board_scores_c Q F b0 direction1 k = (impl_Board_chance_impl_Board_scores_p F b0 direction1).bind k := by
  simp only [impl_Board_chance_impl_Board_scores_p, impl_Board_chance_impl_Board_scores_c, cond_bindL, none_bindL, some_bindL]

/-- loop.example/g01194/impl.MergeChance -/
def impl_MergeChance_c (Q : Type) (F : Nat) (b0 : List Int) (direction1 : Int) (k : (List Int × Bool) → Option Q) : Option Q :=
    let z_1 := (impl_Board_chance_impl_Board_scores_p F b0 direction1)
    let z_2 := (Option.getD z_1 default)
    bif (Option.isSome z_1) then
    k (z_2.1, z_2.2)
    else none
def impl_MergeChance_p (F : Nat) (b0 : List Int) (direction1 : Int) : Option (List Int × Bool) := impl_MergeChance_c _ F b0 direction1 some
theorem impl_MergeChance_cp (Q : Type) (F : Nat) (b0 : List Int) (direction1 : Int) (k : (List Int × Bool) → Option Q) : impl_MergeChance_c Q F b0 direction1 k = (impl_MergeChance_p F b0 direction1).bind k := by
  simp only [impl_MergeChance_p, impl_MergeChance_c, cond_bindL, none_bindL, some_bindL]

/-- loop.example/g01194/laws.FnExactMergeChance -/
def laws_FnExactMergeChance_c (Q : Type) (F : Nat) (aB0 : List Int) (aDirection1 : Int) (k : (Bool) → Option Q) : Option Q :=
    let z_1 := (spec_MergeChance_p F (laws_toBoard_v aB0) aDirection1)
    let z_2 := (impl_MergeChance_p F (laws_toBoard_v aB0) aDirection1)
    let z_3 := (Option.getD z_2 default)
    let z_4 := (Option.getD z_1 default)
    let z_5 := (laws_eqIntA2_p F z_3.1 z_4.1)
    bif (Option.isSome z_1) then
    bif (Option.isSome z_2) then
    bif (Option.isSome z_5) then
    bif (!(Option.getD z_5 default)) then
    k false
    else bif (!(z_3.2 == z_4.2)) then
    k false
    else k true
    else none
    else none
    else none
def laws_FnExactMergeChance_p (F : Nat) (aB0 : List Int) (aDirection1 : Int) : Option (Bool) := laws_FnExactMergeChance_c _ F aB0 aDirection1 some
theorem laws_FnExactMergeChance_cp (Q : Type) (F : Nat) (aB0 : List Int) (aDirection1 : Int) (k : (Bool) → Option Q) : laws_FnExactMergeChance_c Q F aB0 aDirection1 k = (laws_FnExactMergeChance_p F aB0 aDirection1).bind k := by
  simp only [laws_FnExactMergeChance_p, laws_FnExactMergeChance_c, cond_bindL, none_bindL, some_bindL]

/-- loop 3 of loop.example/g01194/spec.l2Moves -/
def spec_l2Moves_s3 (F : Nat) (b6 : List Int) (Q : Type) : (Int × List Int) → ((Int × List Int) → Option Q) → ((List Int) → Option Q) → Option Q
  | (d5, out7), kn, kx =>
    let z_1 := (spec_l2Slide_p F b6 d5)
    let z_2 : List Int := ((subn (List.length out7) out7 0 (List.length out7)) ++ [d5])
    let z_3 : Int := (IntKind.wrap .i64 (d5 + (1 : Int)))
    bif (decide (d5 < (4 : Int))) then
    bif (Option.isSome z_1) then
    bif (!((Option.getD z_1 default).1 == b6)) then
    bif (fits (List.length z_2) 8) then
    kn (z_3, z_2)
    else none
    else kn (z_3, out7)
    else none
    else kx out7
def spec_l2Moves_l3 (F : Nat) (b6 : List Int) (d5 : Int) (out7 : List Int) : Option (List Int) := loopC (spec_l2Moves_s3 F b6) F (d5, out7) some
theorem spec_l2Moves_s3_nat (F : Nat) (b6 : List Int) : Natural (spec_l2Moves_s3 F b6) := by
  intro Q Q' s kn kx h
  obtain ⟨d5, out7⟩ := s
  simp only [spec_l2Moves_s3, cond_bindL, none_bindL]
/-- loop.example/g01194/spec.l2Moves -/
def spec_l2Moves_c (Q : Type) (F : Nat) (b0 : List Int) (k : (List Int) → Option Q) : Option Q :=
    let z_1 := (spec_l2Moves_l3 F b0 (0 : Int) ([] : List Int))
    bif (Option.isSome z_1) then
    k (Option.getD z_1 default)
    else none
def spec_l2Moves_p (F : Nat) (b0 : List Int) : Option (List Int) := spec_l2Moves_c _ F b0 some
theorem spec_l2Moves_cp (Q : Type) (F : Nat) (b0 : List Int) (k : (List Int) → Option Q) : spec_l2Moves_c Q F b0 k = (spec_l2Moves_p F b0).bind k := by
  simp only [spec_l2Moves_p, spec_l2Moves_c, cond_bindL, none_bindL, some_bindL]
end Go.Lv.P
