/-
Pure functions and what the code of them does, by program; without conditions.
-/
import Derived.Test.YtloemkielkdegaaTIP3
namespace Go.Lv.P
open Go Go.Lv
set_option linter.unusedVariables false
set_option linter.unusedSimpArgs false
set_option maxRecDepth 100000
/-- (loop.example/g01194/impl.Board).meanScore$1$1 -/
def impl_Board_meanScore_f1_f1_n2_c (Q : Type) (F : Nat) (own0 : List Int) (k : (List Int) → Option Q) : Option Q :=
    let z_1 := (impl_Board_meanScore_n1_p F own0)
    bif (Option.isSome z_1) then
    k (Option.getD z_1 default)
    else none
def impl_Board_meanScore_f1_f1_n2_p (F : Nat) (own0 : List Int) : Option (List Int) := impl_Board_meanScore_f1_f1_n2_c _ F own0 some
theorem impl_Board_meanScore_f1_f1_n2_cp (Q : Type) (F : Nat) (own0 : List Int) (k : (List Int) → Option Q) : impl_Board_meanScore_f1_f1_n2_c Q F own0 k = (impl_Board_meanScore_f1_f1_n2_p F own0).bind k := by
  simp only [impl_Board_meanScore_f1_f1_n2_p, impl_Board_meanScore_f1_f1_n2_c, cond_bindL, none_bindL, some_bindL]

/-- loop 2 of loop.example/g01194/impl.fraction -/
def impl_fraction_s2 (F : Nat) (num0 : Int) (den1 : Int) (Q : Type) : (Int × Int) → ((Int × Int) → Option Q) → ((Int) → Option Q) → Option Q
  | (a5, b6), kn, kx =>
    bif (!(b6 == (0 : Int))) then
    bif (b6 == (0 : Int)) then
    none
    else kn (b6, (Int.tmod a5 b6))
    else kx a5
def impl_fraction_l2 (F : Nat) (num0 : Int) (den1 : Int) (a5 : Int) (b6 : Int) : Option (Int) := loopC (impl_fraction_s2 F num0 den1) F (a5, b6) some
theorem impl_fraction_s2_nat (F : Nat) (num0 : Int) (den1 : Int) : Natural (impl_fraction_s2 F num0 den1) := by
  intro Q Q' s kn kx h
  obtain ⟨a5, b6⟩ := s
  simp only [impl_fraction_s2, cond_bindL, none_bindL]
/-- loop.example/g01194/impl.fraction -/
def impl_fraction_c (Q : Type) (F : Nat) (num0 : Int) (den1 : Int) (k : (List Int) → Option Q) : Option Q :=
    let z_1 := (impl_fraction_l2 F num0 den1 num0 den1)
    let z_2 : Bool := ((Option.getD z_1 default) == (0 : Int))
    bif (Option.isSome z_1) then
    bif z_2 then
    none
    else bif z_2 then
    none
    else k [(IntKind.wrap .i64 (Int.tdiv num0 (Option.getD z_1 default))), (IntKind.wrap .i64 (Int.tdiv den1 (Option.getD z_1 default)))]
    else none
def impl_fraction_p (F : Nat) (num0 : Int) (den1 : Int) : Option (List Int) := impl_fraction_c _ F num0 den1 some
theorem impl_fraction_cp (Q : Type) (F : Nat) (num0 : Int) (den1 : Int) (k : (List Int) → Option Q) : impl_fraction_c Q F num0 den1 k = (impl_fraction_p F num0 den1).bind k := by
  simp only [impl_fraction_p, impl_fraction_c, cond_bindL, none_bindL, some_bindL]

/-- loop.example/g01194/impl.plus -/
def impl_plus_c (Q : Type) (F : Nat) (a0 : List Int) (b1 : List Int) (k : (List Int) → Option Q) : Option Q :=
    let z_1 := (impl_fraction_p F (IntKind.wrap .i64 ((IntKind.wrap .i64 ((iget a0 0) * (iget b1 1))) + (IntKind.wrap .i64 ((iget b1 0) * (iget a0 1))))) (IntKind.wrap .i64 ((iget a0 1) * (iget b1 1))))
    bif (Option.isSome z_1) then
    k (Option.getD z_1 default)
    else none
def impl_plus_p (F : Nat) (a0 : List Int) (b1 : List Int) : Option (List Int) := impl_plus_c _ F a0 b1 some
theorem impl_plus_cp (Q : Type) (F : Nat) (a0 : List Int) (b1 : List Int) (k : (List Int) → Option Q) : impl_plus_c Q F a0 b1 k = (impl_plus_p F a0 b1).bind k := by
  simp only [impl_plus_p, impl_plus_c, cond_bindL, none_bindL, some_bindL]

/-- loop 3 of (loop.example/g01194/impl.Board).mean -/
def impl_Board_mean_impl_Board_meanScore_f1_f1_n2_s3 (F : Nat) (t1314 : Int) (b17 : List Int) (t1220 : List (List Int)) (Q : Type) : (Int × List Int) → ((Int × List Int) → Option Q) → ((List Int) → Option Q) → Option Q
  | (t1415, sum19), kn, kx =>
    let z_1 : List Int := (rget t1220 ((0 : Nat) + (Int.toNat t1415)))
    let z_2 := (impl_Board_placed_p b17 z_1)
    let z_3 := (impl_Board_meanScore_f1_f1_n2_p F (Option.getD z_2 default))
    let z_4 : Int := (iget (Option.getD z_3 default) 0)
    let z_5 : Int := (iget (Option.getD z_3 default) 1)
    let z_6 := (impl_fraction_p F (IntKind.wrap .i64 ((1 : Int) * z_4)) z_5)
    let z_7 := (impl_plus_p F sum19 (Option.getD z_6 default))
    let z_8 : Int := (IntKind.wrap .i64 (t1415 + (1 : Int)))
    let z_9 := (impl_fraction_p F (IntKind.wrap .i64 ((9 : Int) * z_4)) z_5)
    let z_10 := (impl_plus_p F sum19 (Option.getD z_9 default))
    bif (decide (t1415 < t1314)) then
    bif (inR t1415 (List.length t1220)) then
    bif (Option.isSome z_2) then
    bif (Option.isSome z_3) then
    bif ((iget z_1 2) == (2 : Int)) then
    bif (Option.isSome z_6) then
    bif (Option.isSome z_7) then
    kn (z_8, (Option.getD z_7 default))
    else none
    else none
    else bif (Option.isSome z_9) then
    bif (Option.isSome z_10) then
    kn (z_8, (Option.getD z_10 default))
    else none
    else none
    else none
    else none
    else none
    else kx sum19
def impl_Board_mean_impl_Board_meanScore_f1_f1_n2_l3 (F : Nat) (t1314 : Int) (b17 : List Int) (t1220 : List (List Int)) (t1415 : Int) (sum19 : List Int) : Option (List Int) := loopC (impl_Board_mean_impl_Board_meanScore_f1_f1_n2_s3 F t1314 b17 t1220) F (t1415, sum19) some
theorem impl_Board_mean_impl_Board_meanScore_f1_f1_n2_s3_nat (F : Nat) (t1314 : Int) (b17 : List Int) (t1220 : List (List Int)) : Natural (impl_Board_mean_impl_Board_meanScore_f1_f1_n2_s3 F t1314 b17 t1220) := by
  intro Q Q' s kn kx h
  obtain ⟨t1415, sum19⟩ := s
  simp only [impl_Board_mean_impl_Board_meanScore_f1_f1_n2_s3, cond_bindL, none_bindL]
/-- (loop.example/g01194/impl.Board).mean -/
def impl_Board_mean_impl_Board_meanScore_f1_f1_n2_c (Q : Type) (F : Nat) (b0 : List Int) (k : (List Int) → Option Q) : Option Q :=
    let z_1 := (impl_Board_placements_p F b0)
    let z_2 : Nat := (List.length (Option.getD z_1 default))
    let z_3 := (impl_Board_mean_impl_Board_meanScore_f1_f1_n2_l3 F ((z_2 : Nat) : Int) b0 (Option.getD z_1 default) (0 : Int) [(0 : Int), (1 : Int)])
    let z_4 := (impl_Board_empty_p F b0)
    let z_5 := (impl_fraction_p F (iget (Option.getD z_3 default) 0) (IntKind.wrap .i64 ((IntKind.wrap .i64 ((iget (Option.getD z_3 default) 1) * (10 : Int))) * (((Option.getD z_4 default).1 : Nat) : Int))))
    bif (Option.isSome z_1) then
    bif ((Nat.beq z_2 z_2) && (Option.isSome z_3)) then
    bif (Option.isSome z_4) then
    bif (Option.isSome z_5) then
    k (Option.getD z_5 default)
    else none
    else none
    else none
    else none
def impl_Board_mean_impl_Board_meanScore_f1_f1_n2_p (F : Nat) (b0 : List Int) : Option (List Int) := impl_Board_mean_impl_Board_meanScore_f1_f1_n2_c _ F b0 some
theorem impl_Board_mean_impl_Board_meanScore_f1_f1_n2_cp (Q : Type) (F : Nat) (b0 : List Int) (k : (List Int) → Option Q) : impl_Board_mean_impl_Board_meanScore_f1_f1_n2_c Q F b0 k = (impl_Board_mean_impl_Board_meanScore_f1_f1_n2_p F b0).bind k := by
  simp only [impl_Board_mean_impl_Board_meanScore_f1_f1_n2_p, impl_Board_mean_impl_Board_meanScore_f1_f1_n2_c, cond_bindL, none_bindL, some_bindL]

/-- (loop.example/g01194/impl.Board).meanScore$1 -/
def impl_Board_meanScore_f1_n2_c (Q : Type) (F : Nat) (d0 : Int) (a17 : List Int) (k : (List Int) → Option Q) : Option Q :=
    let z_1 := (impl_Board_slide_p F a17 d0)
    let z_2 := (Option.getD z_1 default)
    let z_3 := (impl_Board_mean_impl_Board_meanScore_f1_f1_n2_p F z_2.1)
    let z_4 := (impl_plus_p F (impl_whole_v z_2.2.1) (Option.getD z_3 default))
    bif (Option.isSome z_1) then
    bif (Option.isSome z_3) then
    bif (Option.isSome z_4) then
    k (Option.getD z_4 default)
    else none
    else none
    else none
def impl_Board_meanScore_f1_n2_p (F : Nat) (d0 : Int) (a17 : List Int) : Option (List Int) := impl_Board_meanScore_f1_n2_c _ F d0 a17 some
theorem impl_Board_meanScore_f1_n2_cp (Q : Type) (F : Nat) (d0 : Int) (a17 : List Int) (k : (List Int) → Option Q) : impl_Board_meanScore_f1_n2_c Q F d0 a17 k = (impl_Board_meanScore_f1_n2_p F d0 a17).bind k := by
  simp only [impl_Board_meanScore_f1_n2_p, impl_Board_meanScore_f1_n2_c, cond_bindL, none_bindL, some_bindL]

/-- loop 3 of (loop.example/g01194/impl.Board).best -/
def impl_Board_best_impl_Board_meanScore_f1_n2_s3 (F : Nat) (t1415 : Int) (of17 : List Int) (t1321 : List Int) (Q : Type) : (Int × Int × List Int) → ((Int × Int × List Int) → Option Q) → ((Int × List Int) → Option Q) → Option Q
  | (at9, t1516, most20), kn, kx =>
    let z_1 : Int := (iget t1321 ((0 : Nat) + (Int.toNat t1516)))
    let z_2 := (impl_Board_meanScore_f1_n2_p F z_1 of17)
    let z_3 : Int := (IntKind.wrap .i64 (t1516 + (1 : Int)))
    bif (decide (t1516 < t1415)) then
    bif (inR t1516 (List.length t1321)) then
    bif (Option.isSome z_2) then
    bif (decide (at9 < (0 : Int))) then
    kn (z_1, z_3, (Option.getD z_2 default))
    else bif (impl_isLess_v most20 (Option.getD z_2 default)) then
    kn (z_1, z_3, (Option.getD z_2 default))
    else kn (at9, z_3, most20)
    else none
    else none
    else kx (at9, most20)
def impl_Board_best_impl_Board_meanScore_f1_n2_l3 (F : Nat) (t1415 : Int) (of17 : List Int) (t1321 : List Int) (at9 : Int) (t1516 : Int) (most20 : List Int) : Option (Int × List Int) := loopC (impl_Board_best_impl_Board_meanScore_f1_n2_s3 F t1415 of17 t1321) F (at9, t1516, most20) some
theorem impl_Board_best_impl_Board_meanScore_f1_n2_s3_nat (F : Nat) (t1415 : Int) (of17 : List Int) (t1321 : List Int) : Natural (impl_Board_best_impl_Board_meanScore_f1_n2_s3 F t1415 of17 t1321) := by
  intro Q Q' s kn kx h
  obtain ⟨at9, t1516, most20⟩ := s
  simp only [impl_Board_best_impl_Board_meanScore_f1_n2_s3, cond_bindL, none_bindL]
/-- (loop.example/g01194/impl.Board).best -/
def impl_Board_best_impl_Board_meanScore_f1_n2_c (Q : Type) (F : Nat) (b0 : List Int) (of7 : List Int) (k : (Int × List Int) → Option Q) : Option Q :=
    let z_1 := (impl_Board_moves_p F b0)
    let z_2 : Nat := (List.length (Option.getD z_1 default))
    let z_3 := (impl_Board_best_impl_Board_meanScore_f1_n2_l3 F ((z_2 : Nat) : Int) of7 (Option.getD z_1 default) (-1 : Int) (0 : Int) (impl_whole_v (0 : Int)))
    let z_4 := (Option.getD z_3 default)
    bif (Option.isSome z_1) then
    bif ((Nat.beq z_2 z_2) && (Option.isSome z_3)) then
    k (z_4.1, z_4.2)
    else none
    else none
def impl_Board_best_impl_Board_meanScore_f1_n2_p (F : Nat) (b0 : List Int) (of7 : List Int) : Option (Int × List Int) := impl_Board_best_impl_Board_meanScore_f1_n2_c _ F b0 of7 some
theorem impl_Board_best_impl_Board_meanScore_f1_n2_cp (Q : Type) (F : Nat) (b0 : List Int) (of7 : List Int) (k : (Int × List Int) → Option Q) : impl_Board_best_impl_Board_meanScore_f1_n2_c Q F b0 of7 k = (impl_Board_best_impl_Board_meanScore_f1_n2_p F b0 of7).bind k := by
  simp only [impl_Board_best_impl_Board_meanScore_f1_n2_p, impl_Board_best_impl_Board_meanScore_f1_n2_c, cond_bindL, none_bindL, some_bindL]

/-- (loop.example/g01194/impl.Board).meanScore -/
def impl_Board_meanScore_n2_c (Q : Type) (F : Nat) (b0 : List Int) (k : (List Int) → Option Q) : Option Q :=
    let z_1 := (impl_Board_best_impl_Board_meanScore_f1_n2_p F b0 b0)
    bif (Option.isSome z_1) then
    k (Option.getD z_1 default).2
    else none
def impl_Board_meanScore_n2_p (F : Nat) (b0 : List Int) : Option (List Int) := impl_Board_meanScore_n2_c _ F b0 some
theorem impl_Board_meanScore_n2_cp (Q : Type) (F : Nat) (b0 : List Int) (k : (List Int) → Option Q) : impl_Board_meanScore_n2_c Q F b0 k = (impl_Board_meanScore_n2_p F b0).bind k := by
  simp only [impl_Board_meanScore_n2_p, impl_Board_meanScore_n2_c, cond_bindL, none_bindL, some_bindL]

/-- (loop.example/g01194/impl.Board).meanScore -/
def impl_Board_meanScore_c (Q : Type) (F : Nat) (b0 : List Int) (n1 : Int) (k : (List Int) → Option Q) : Option Q :=
    let z_1 := (impl_Board_meanScore_n1_p F b0)
    let z_2 := (impl_Board_meanScore_n2_p F b0)
    bif (n1 == (0 : Int)) then
    k (impl_Board_meanScore_n0_v b0)
    else bif (n1 == (1 : Int)) then
    bif (Option.isSome z_1) then
    k (Option.getD z_1 default)
    else none
    else bif (n1 == (2 : Int)) then
    bif (Option.isSome z_2) then
    k (Option.getD z_2 default)
    else none
    else none
def impl_Board_meanScore_p (F : Nat) (b0 : List Int) (n1 : Int) : Option (List Int) := impl_Board_meanScore_c _ F b0 n1 some
theorem impl_Board_meanScore_cp (Q : Type) (F : Nat) (b0 : List Int) (n1 : Int) (k : (List Int) → Option Q) : impl_Board_meanScore_c Q F b0 n1 k = (impl_Board_meanScore_p F b0 n1).bind k := by
  simp only [impl_Board_meanScore_p, impl_Board_meanScore_c, cond_bindL, none_bindL, some_bindL]

/-- loop.example/g01194/impl.MeanScore -/
def impl_MeanScore_c (Q : Type) (F : Nat) (b0 : List Int) (n1 : Int) (k : (List Int × Bool) → Option Q) : Option Q :=
    let z_1 := (impl_IsBoard_p F b0)
    let z_2 := (impl_Board_meanScore_p F b0 n1)
    bif (Option.isSome z_1) then
    bif (!(Option.getD z_1 default)) then
    k ([(0 : Int), (0 : Int)], false)
    else bif (!(impl_in_v n1 (0 : Int) (2 : Int))) then
    k ([(0 : Int), (0 : Int)], false)
    else bif (Option.isSome z_2) then
    k ((Option.getD z_2 default), true)
    else none
    else none
def impl_MeanScore_p (F : Nat) (b0 : List Int) (n1 : Int) : Option (List Int × Bool) := impl_MeanScore_c _ F b0 n1 some
theorem impl_MeanScore_cp (Q : Type) (F : Nat) (b0 : List Int) (n1 : Int) (k : (List Int × Bool) → Option Q) : impl_MeanScore_c Q F b0 n1 k = (impl_MeanScore_p F b0 n1).bind k := by
  simp only [impl_MeanScore_p, impl_MeanScore_c, cond_bindL, none_bindL, some_bindL]

/-- loop 2 of loop.example/g01194/laws.eqIntA2 -/
def laws_eqIntA2_s2 (F : Nat) (a7 : List Int) (b8 : List Int) (Q : Type) : (Int) → ((Int) → Option Q) → ((Bool) → Option Q) → Option Q
  | i6, kn, kx =>
    let z_1 : Nat := ((0 : Nat) + ((Int.toNat i6) * (1 : Nat)))
    bif (decide (i6 < (2 : Int))) then
    bif (inR i6 2) then
    bif (inR i6 2) then
    bif (!((iget a7 z_1) == (iget b8 z_1))) then
    kx true
    else kn (IntKind.wrap .i64 (i6 + (1 : Int)))
    else none
    else none
    else kx false
def laws_eqIntA2_l2 (F : Nat) (a7 : List Int) (b8 : List Int) (i6 : Int) : Option (Bool) := loopC (laws_eqIntA2_s2 F a7 b8) F i6 some
theorem laws_eqIntA2_s2_nat (F : Nat) (a7 : List Int) (b8 : List Int) : Natural (laws_eqIntA2_s2 F a7 b8) := by
  intro Q Q' s kn kx h
  simp only [laws_eqIntA2_s2, cond_bindL, none_bindL]
/-- loop.example/g01194/laws.eqIntA2 -/
def laws_eqIntA2_c (Q : Type) (F : Nat) (a0 : List Int) (b1 : List Int) (k : (Bool) → Option Q) : Option Q :=
    let z_1 := (laws_eqIntA2_l2 F a0 b1 (0 : Int))
    bif (Option.isSome z_1) then
    bif (Option.getD z_1 default) then
    k false
    else k true
    else none
def laws_eqIntA2_p (F : Nat) (a0 : List Int) (b1 : List Int) : Option (Bool) := laws_eqIntA2_c _ F a0 b1 some
theorem laws_eqIntA2_cp (Q : Type) (F : Nat) (a0 : List Int) (b1 : List Int) (k : (Bool) → Option Q) : laws_eqIntA2_c Q F a0 b1 k = (laws_eqIntA2_p F a0 b1).bind k := by
  simp only [laws_eqIntA2_p, laws_eqIntA2_c, cond_bindL, none_bindL, some_bindL]

/-- loop.example/g01194/laws.FnExactMeanScore -/
def laws_FnExactMeanScore_c (Q : Type) (F : Nat) (aB0 : List Int) (aN1 : Int) (k : (Bool) → Option Q) : Option Q :=
    let z_1 := (spec_MeanScore_p F (laws_toBoard_v aB0) aN1)
    let z_2 := (impl_MeanScore_p F (laws_toBoard_v aB0) aN1)
    let z_3 := (Option.getD z_2 default)
    let z_4 := (Option.getD z_1 default)
    let z_5 := (laws_eqIntA2_p F z_3.1 z_4.1)
    bif (Option.isSome z_1) then
    bif (Option.isSome z_2) then
    bif (Option.isSome z_5) then
    bif (!(Option.getD z_5 default)) then
    k false
    else bif (!(z_3.2 == z_4.2)) then
    k false
    else k true
    else none
    else none
    else none
def laws_FnExactMeanScore_p (F : Nat) (aB0 : List Int) (aN1 : Int) : Option (Bool) := laws_FnExactMeanScore_c _ F aB0 aN1 some
theorem laws_FnExactMeanScore_cp (Q : Type) (F : Nat) (aB0 : List Int) (aN1 : Int) (k : (Bool) → Option Q) : laws_FnExactMeanScore_c Q F aB0 aN1 k = (laws_FnExactMeanScore_p F aB0 aN1).bind k := by
  simp only [laws_FnExactMeanScore_p, laws_FnExactMeanScore_c, cond_bindL, none_bindL, some_bindL]

/-- loop.example/g01194/spec.l9KeepBest -/
def spec_l9KeepBest_n0_c (Q : Type) (b0 : List Int) (k : (Unit) → Option Q) : Option Q :=
    k ()
def spec_l9KeepBest_n0_v (b0 : List Int) : Unit :=
    ()
theorem spec_l9KeepBest_n0_cv (Q : Type) (b0 : List Int) (k : (Unit) → Option Q) : spec_l9KeepBest_n0_c Q b0 k = k (spec_l9KeepBest_n0_v b0) := by
  simp only [spec_l9KeepBest_n0_c, spec_l9KeepBest_n0_v, app_condL k]

/-- loop 4 of loop.example/g01194/spec.l9Keep -/
def spec_l9Keep_n1_s4 (F : Nat) (steps13 : List (List Int)) (all15 : List (List Int)) (Q : Type) : (Int × List Int) → ((Int × List Int) → Option Q) → ((List Int) → Option Q) → Option Q
  | (i11, sum14), kn, kx =>
    let z_1 := (spec_l9Part_p F [(1 : Int), (1 : Int)] (spec_l9Weight_v (rget steps13 ((0 : Nat) + (Int.toNat i11)))) (IntKind.wrap .i64 ((5 : Int) * (((List.length steps13) : Nat) : Int))))
    let z_2 := (spec_l9Plus_p F sum14 (Option.getD z_1 default))
    bif (decide (i11 < (((List.length all15) : Nat) : Int))) then
    bif (inR i11 (List.length all15)) then
    bif (inR i11 (List.length steps13)) then
    bif (Option.isSome z_1) then
    bif (Option.isSome z_2) then
    kn ((IntKind.wrap .i64 (i11 + (1 : Int))), (Option.getD z_2 default))
    else none
    else none
    else none
    else none
    else kx sum14
def spec_l9Keep_n1_l4 (F : Nat) (steps13 : List (List Int)) (all15 : List (List Int)) (i11 : Int) (sum14 : List Int) : Option (List Int) := loopC (spec_l9Keep_n1_s4 F steps13 all15) F (i11, sum14) some
theorem spec_l9Keep_n1_s4_nat (F : Nat) (steps13 : List (List Int)) (all15 : List (List Int)) : Natural (spec_l9Keep_n1_s4 F steps13 all15) := by
  intro Q Q' s kn kx h
  obtain ⟨i11, sum14⟩ := s
  simp only [spec_l9Keep_n1_s4, cond_bindL, none_bindL]
/-- loop.example/g01194/spec.l9Keep -/
def spec_l9Keep_n1_c (Q : Type) (F : Nat) (b0 : List Int) (d1 : Int) (k : (List Int) → Option Q) : Option Q :=
    let z_1 := (spec_l5Steps_p F b0 d1)
    let z_2 : Nat := (List.length (Option.getD z_1 default))
    let z_3 := (spec_l9Boards_p F b0 (subn z_2 (Option.getD z_1 default) 0 z_2))
    let z_4 : Nat := (List.length (Option.getD z_3 default))
    let z_5 := (spec_l9Keep_n1_l4 F (Option.getD z_1 default) (Option.getD z_3 default) (0 : Int) [(0 : Int), (1 : Int)])
    bif (Option.isSome z_1) then
    bif (Option.isSome z_3) then
    bif ((Nat.beq z_2 z_2) && ((Nat.beq z_4 z_4) && (Option.isSome z_5))) then
    k (Option.getD z_5 default)
    else none
    else none
    else none
def spec_l9Keep_n1_p (F : Nat) (b0 : List Int) (d1 : Int) : Option (List Int) := spec_l9Keep_n1_c _ F b0 d1 some
theorem spec_l9Keep_n1_cp (Q : Type) (F : Nat) (b0 : List Int) (d1 : Int) (k : (List Int) → Option Q) : spec_l9Keep_n1_c Q F b0 d1 k = (spec_l9Keep_n1_p F b0 d1).bind k := by
  simp only [spec_l9Keep_n1_p, spec_l9Keep_n1_c, cond_bindL, none_bindL, some_bindL]

/-- loop 7 of loop.example/g01194/spec.l9KeepBest -/
def spec_l9KeepBest_n1_s7 (F : Nat) (b13 : List Int) (moves16 : List Int) (Q : Type) : (Int × List Int) → ((Int × List Int) → Option Q) → ((List Int) → Option Q) → Option Q
  | (i12, best15), kn, kx =>
    let z_1 := (spec_l9Keep_n1_p F b13 (iget moves16 ((0 : Nat) + (Int.toNat i12))))
    let z_2 : Int := (IntKind.wrap .i64 (i12 + (1 : Int)))
    bif (decide (i12 < (((List.length moves16) : Nat) : Int))) then
    bif (inR i12 (List.length moves16)) then
    bif (Option.isSome z_1) then
    bif (spec_l9Less_v best15 (Option.getD z_1 default)) then
    kn (z_2, (Option.getD z_1 default))
    else kn (z_2, best15)
    else none
    else none
    else kx best15
def spec_l9KeepBest_n1_l7 (F : Nat) (b13 : List Int) (moves16 : List Int) (i12 : Int) (best15 : List Int) : Option (List Int) := loopC (spec_l9KeepBest_n1_s7 F b13 moves16) F (i12, best15) some
theorem spec_l9KeepBest_n1_s7_nat (F : Nat) (b13 : List Int) (moves16 : List Int) : Natural (spec_l9KeepBest_n1_s7 F b13 moves16) := by
  intro Q Q' s kn kx h
  obtain ⟨i12, best15⟩ := s
  simp only [spec_l9KeepBest_n1_s7, cond_bindL, none_bindL]
/-- loop.example/g01194/spec.l9KeepBest -/
def spec_l9KeepBest_n1_c (Q : Type) (F : Nat) (b0 : List Int) (k : (List Int) → Option Q) : Option Q :=
    let z_1 := (spec_l2Moves_p F b0)
    let z_2 : Nat := (List.length (Option.getD z_1 default))
    let z_3 := (spec_l9KeepBest_n1_l7 F b0 (Option.getD z_1 default) (0 : Int) [(0 : Int), (1 : Int)])
    bif (Option.isSome z_1) then
    bif (decide ((0 : Int) < ((z_2 : Nat) : Int))) then
    k [(1 : Int), (1 : Int)]
    else bif ((Nat.beq z_2 z_2) && (Option.isSome z_3)) then
    k (Option.getD z_3 default)
    else none
    else none
def spec_l9KeepBest_n1_p (F : Nat) (b0 : List Int) : Option (List Int) := spec_l9KeepBest_n1_c _ F b0 some
theorem spec_l9KeepBest_n1_cp (Q : Type) (F : Nat) (b0 : List Int) (k : (List Int) → Option Q) : spec_l9KeepBest_n1_c Q F b0 k = (spec_l9KeepBest_n1_p F b0).bind k := by
  simp only [spec_l9KeepBest_n1_p, spec_l9KeepBest_n1_c, cond_bindL, none_bindL, some_bindL]
end Go.Lv.P
