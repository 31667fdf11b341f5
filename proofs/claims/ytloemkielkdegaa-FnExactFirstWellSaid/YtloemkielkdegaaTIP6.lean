/-
Pure functions and what the code of them does, by program; without conditions.
-/
import Derived.Test.YtloemkielkdegaaTIP5
namespace Go.Lv.P
open Go Go.Lv
set_option linter.unusedVariables false
set_option linter.unusedSimpArgs false
set_option maxRecDepth 100000
/-- (loop.example/g01194/impl.Board).keep -/
def impl_Board_keep_n1_c (Q : Type) (F : Nat) (b0 : List Int) (k : (List Int) → Option Q) : Option Q :=
    let z_1 := (impl_Board_best_impl_Board_keep_f1_n1_p F b0 b0)
    bif (Option.isSome z_1) then
    k (Option.getD z_1 default).2
    else none
def impl_Board_keep_n1_p (F : Nat) (b0 : List Int) : Option (List Int) := impl_Board_keep_n1_c _ F b0 some
theorem impl_Board_keep_n1_cp (Q : Type) (F : Nat) (b0 : List Int) (k : (List Int) → Option Q) : impl_Board_keep_n1_c Q F b0 k = (impl_Board_keep_n1_p F b0).bind k := by
  simp only [impl_Board_keep_n1_p, impl_Board_keep_n1_c, cond_bindL, none_bindL, some_bindL]

/-- (loop.example/g01194/impl.Board).keepOf$1 -/
def impl_Board_keepOf_f1_n2_c (Q : Type) (F : Nat) (own0 : List Int) (k : (List Int) → Option Q) : Option Q :=
    let z_1 := (impl_Board_keep_n1_p F own0)
    bif (Option.isSome z_1) then
    k (Option.getD z_1 default)
    else none
def impl_Board_keepOf_f1_n2_p (F : Nat) (own0 : List Int) : Option (List Int) := impl_Board_keepOf_f1_n2_c _ F own0 some
theorem impl_Board_keepOf_f1_n2_cp (Q : Type) (F : Nat) (own0 : List Int) (k : (List Int) → Option Q) : impl_Board_keepOf_f1_n2_c Q F own0 k = (impl_Board_keepOf_f1_n2_p F own0).bind k := by
  simp only [impl_Board_keepOf_f1_n2_p, impl_Board_keepOf_f1_n2_c, cond_bindL, none_bindL, some_bindL]

/-- loop 3 of (loop.example/g01194/impl.Board).mean -/
def impl_Board_mean_impl_Board_keepOf_f1_n2_s3 (F : Nat) (t1314 : Int) (b17 : List Int) (t1220 : List (List Int)) (Q : Type) : (Int × List Int) → ((Int × List Int) → Option Q) → ((List Int) → Option Q) → Option Q
  | (t1415, sum19), kn, kx =>
    let z_1 : List Int := (rget t1220 ((0 : Nat) + (Int.toNat t1415)))
    let z_2 := (impl_Board_placed_p b17 z_1)
    let z_3 := (impl_Board_keepOf_f1_n2_p F (Option.getD z_2 default))
    let z_4 : Int := (iget (Option.getD z_3 default) 0)
    let z_5 : Int := (iget (Option.getD z_3 default) 1)
    let z_6 := (impl_fraction_p F (IntKind.wrap .i64 ((1 : Int) * z_4)) z_5)
    let z_7 := (impl_plus_p F sum19 (Option.getD z_6 default))
    let z_8 : Int := (IntKind.wrap .i64 (t1415 + (1 : Int)))
    let z_9 := (impl_fraction_p F (IntKind.wrap .i64 ((9 : Int) * z_4)) z_5)
    let z_10 := (impl_plus_p F sum19 (Option.getD z_9 default))
    bif (decide (t1415 < t1314)) then
    bif (inR t1415 (List.length t1220)) then
    bif (Option.isSome z_2) then
    bif (Option.isSome z_3) then
    bif ((iget z_1 2) == (2 : Int)) then
    bif (Option.isSome z_6) then
    bif (Option.isSome z_7) then
    kn (z_8, (Option.getD z_7 default))
    else none
    else none
    else bif (Option.isSome z_9) then
    bif (Option.isSome z_10) then
    kn (z_8, (Option.getD z_10 default))
    else none
    else none
    else none
    else none
    else none
    else kx sum19
def impl_Board_mean_impl_Board_keepOf_f1_n2_l3 (F : Nat) (t1314 : Int) (b17 : List Int) (t1220 : List (List Int)) (t1415 : Int) (sum19 : List Int) : Option (List Int) := loopC (impl_Board_mean_impl_Board_keepOf_f1_n2_s3 F t1314 b17 t1220) F (t1415, sum19) some
theorem impl_Board_mean_impl_Board_keepOf_f1_n2_s3_nat (F : Nat) (t1314 : Int) (b17 : List Int) (t1220 : List (List Int)) : Natural (impl_Board_mean_impl_Board_keepOf_f1_n2_s3 F t1314 b17 t1220) := by
  intro Q Q' s kn kx h
  obtain ⟨t1415, sum19⟩ := s
  simp only [impl_Board_mean_impl_Board_keepOf_f1_n2_s3, cond_bindL, none_bindL]
/-- (loop.example/g01194/impl.Board).mean -/
def impl_Board_mean_impl_Board_keepOf_f1_n2_c (Q : Type) (F : Nat) (b0 : List Int) (k : (List Int) → Option Q) : Option Q :=
    let z_1 := (impl_Board_placements_p F b0)
    let z_2 : Nat := (List.length (Option.getD z_1 default))
    let z_3 := (impl_Board_mean_impl_Board_keepOf_f1_n2_l3 F ((z_2 : Nat) : Int) b0 (Option.getD z_1 default) (0 : Int) [(0 : Int), (1 : Int)])
    let z_4 := (impl_Board_empty_p F b0)
    let z_5 := (impl_fraction_p F (iget (Option.getD z_3 default) 0) (IntKind.wrap .i64 ((IntKind.wrap .i64 ((iget (Option.getD z_3 default) 1) * (10 : Int))) * (((Option.getD z_4 default).1 : Nat) : Int))))
    bif (Option.isSome z_1) then
    bif ((Nat.beq z_2 z_2) && (Option.isSome z_3)) then
    bif (Option.isSome z_4) then
    bif (Option.isSome z_5) then
    k (Option.getD z_5 default)
    else none
    else none
    else none
    else none
def impl_Board_mean_impl_Board_keepOf_f1_n2_p (F : Nat) (b0 : List Int) : Option (List Int) := impl_Board_mean_impl_Board_keepOf_f1_n2_c _ F b0 some
theorem impl_Board_mean_impl_Board_keepOf_f1_n2_cp (Q : Type) (F : Nat) (b0 : List Int) (k : (List Int) → Option Q) : impl_Board_mean_impl_Board_keepOf_f1_n2_c Q F b0 k = (impl_Board_mean_impl_Board_keepOf_f1_n2_p F b0).bind k := by
  simp only [impl_Board_mean_impl_Board_keepOf_f1_n2_p, impl_Board_mean_impl_Board_keepOf_f1_n2_c, cond_bindL, none_bindL, some_bindL]

/-- (loop.example/g01194/impl.Board).keepOf -/
def impl_Board_keepOf_n2_c (Q : Type) (F : Nat) (b0 : List Int) (direction1 : Int) (k : (List Int) → Option Q) : Option Q :=
    let z_1 := (impl_Board_slides_p F b0 [direction1])
    let z_2 := (impl_Board_mean_impl_Board_keepOf_f1_n2_p F (Option.getD z_1 default))
    bif (Option.isSome z_1) then
    bif (Option.isSome z_2) then
    k (Option.getD z_2 default)
    else none
    else none
def impl_Board_keepOf_n2_p (F : Nat) (b0 : List Int) (direction1 : Int) : Option (List Int) := impl_Board_keepOf_n2_c _ F b0 direction1 some
theorem impl_Board_keepOf_n2_cp (Q : Type) (F : Nat) (b0 : List Int) (direction1 : Int) (k : (List Int) → Option Q) : impl_Board_keepOf_n2_c Q F b0 direction1 k = (impl_Board_keepOf_n2_p F b0 direction1).bind k := by
  simp only [impl_Board_keepOf_n2_p, impl_Board_keepOf_n2_c, cond_bindL, none_bindL, some_bindL]

/-- (loop.example/g01194/impl.Board).keep$1 -/
def impl_Board_keep_f1_n2_c (Q : Type) (F : Nat) (d0 : Int) (a17 : List Int) (k : (List Int) → Option Q) : Option Q :=
    let z_1 := (impl_Board_keepOf_n2_p F a17 d0)
    bif (Option.isSome z_1) then
    k (Option.getD z_1 default)
    else none
def impl_Board_keep_f1_n2_p (F : Nat) (d0 : Int) (a17 : List Int) : Option (List Int) := impl_Board_keep_f1_n2_c _ F d0 a17 some
theorem impl_Board_keep_f1_n2_cp (Q : Type) (F : Nat) (d0 : Int) (a17 : List Int) (k : (List Int) → Option Q) : impl_Board_keep_f1_n2_c Q F d0 a17 k = (impl_Board_keep_f1_n2_p F d0 a17).bind k := by
  simp only [impl_Board_keep_f1_n2_p, impl_Board_keep_f1_n2_c, cond_bindL, none_bindL, some_bindL]

/-- loop 3 of (loop.example/g01194/impl.Board).best -/
def impl_Board_best_impl_Board_keep_f1_n2_s3 (F : Nat) (t1415 : Int) (of17 : List Int) (t1321 : List Int) (Q : Type) : (Int × Int × List Int) → ((Int × Int × List Int) → Option Q) → ((Int × List Int) → Option Q) → Option Q
  | (at9, t1516, most20), kn, kx =>
    let z_1 : Int := (iget t1321 ((0 : Nat) + (Int.toNat t1516)))
    let z_2 := (impl_Board_keep_f1_n2_p F z_1 of17)
    let z_3 : Int := (IntKind.wrap .i64 (t1516 + (1 : Int)))
    bif (decide (t1516 < t1415)) then
    bif (inR t1516 (List.length t1321)) then
    bif (Option.isSome z_2) then
    bif (decide (at9 < (0 : Int))) then
    kn (z_1, z_3, (Option.getD z_2 default))
    else bif (impl_isLess_v most20 (Option.getD z_2 default)) then
    kn (z_1, z_3, (Option.getD z_2 default))
    else kn (at9, z_3, most20)
    else none
    else none
    else kx (at9, most20)
def impl_Board_best_impl_Board_keep_f1_n2_l3 (F : Nat) (t1415 : Int) (of17 : List Int) (t1321 : List Int) (at9 : Int) (t1516 : Int) (most20 : List Int) : Option (Int × List Int) := loopC (impl_Board_best_impl_Board_keep_f1_n2_s3 F t1415 of17 t1321) F (at9, t1516, most20) some
theorem impl_Board_best_impl_Board_keep_f1_n2_s3_nat (F : Nat) (t1415 : Int) (of17 : List Int) (t1321 : List Int) : Natural (impl_Board_best_impl_Board_keep_f1_n2_s3 F t1415 of17 t1321) := by
  intro Q Q' s kn kx h
  obtain ⟨at9, t1516, most20⟩ := s
  simp only [impl_Board_best_impl_Board_keep_f1_n2_s3, cond_bindL, none_bindL]
/-- (loop.example/g01194/impl.Board).best -/
def impl_Board_best_impl_Board_keep_f1_n2_c (Q : Type) (F : Nat) (b0 : List Int) (of7 : List Int) (k : (Int × List Int) → Option Q) : Option Q :=
    let z_1 := (impl_Board_moves_p F b0)
    let z_2 : Nat := (List.length (Option.getD z_1 default))
    let z_3 := (impl_Board_best_impl_Board_keep_f1_n2_l3 F ((z_2 : Nat) : Int) of7 (Option.getD z_1 default) (-1 : Int) (0 : Int) (impl_whole_v (0 : Int)))
    let z_4 := (Option.getD z_3 default)
    bif (Option.isSome z_1) then
    bif ((Nat.beq z_2 z_2) && (Option.isSome z_3)) then
    k (z_4.1, z_4.2)
    else none
    else none
def impl_Board_best_impl_Board_keep_f1_n2_p (F : Nat) (b0 : List Int) (of7 : List Int) : Option (Int × List Int) := impl_Board_best_impl_Board_keep_f1_n2_c _ F b0 of7 some
theorem impl_Board_best_impl_Board_keep_f1_n2_cp (Q : Type) (F : Nat) (b0 : List Int) (of7 : List Int) (k : (Int × List Int) → Option Q) : impl_Board_best_impl_Board_keep_f1_n2_c Q F b0 of7 k = (impl_Board_best_impl_Board_keep_f1_n2_p F b0 of7).bind k := by
  simp only [impl_Board_best_impl_Board_keep_f1_n2_p, impl_Board_best_impl_Board_keep_f1_n2_c, cond_bindL, none_bindL, some_bindL]

/-- (loop.example/g01194/impl.Board).keep -/
def impl_Board_keep_n2_c (Q : Type) (F : Nat) (b0 : List Int) (k : (List Int) → Option Q) : Option Q :=
    let z_1 := (impl_Board_best_impl_Board_keep_f1_n2_p F b0 b0)
    bif (Option.isSome z_1) then
    k (Option.getD z_1 default).2
    else none
def impl_Board_keep_n2_p (F : Nat) (b0 : List Int) : Option (List Int) := impl_Board_keep_n2_c _ F b0 some
theorem impl_Board_keep_n2_cp (Q : Type) (F : Nat) (b0 : List Int) (k : (List Int) → Option Q) : impl_Board_keep_n2_c Q F b0 k = (impl_Board_keep_n2_p F b0).bind k := by
  simp only [impl_Board_keep_n2_p, impl_Board_keep_n2_c, cond_bindL, none_bindL, some_bindL]

/-- (loop.example/g01194/impl.Board).keepOf$1 -/
def impl_Board_keepOf_f1_n3_c (Q : Type) (F : Nat) (own0 : List Int) (k : (List Int) → Option Q) : Option Q :=
    let z_1 := (impl_Board_keep_n2_p F own0)
    bif (Option.isSome z_1) then
    k (Option.getD z_1 default)
    else none
def impl_Board_keepOf_f1_n3_p (F : Nat) (own0 : List Int) : Option (List Int) := impl_Board_keepOf_f1_n3_c _ F own0 some
theorem impl_Board_keepOf_f1_n3_cp (Q : Type) (F : Nat) (own0 : List Int) (k : (List Int) → Option Q) : impl_Board_keepOf_f1_n3_c Q F own0 k = (impl_Board_keepOf_f1_n3_p F own0).bind k := by
  simp only [impl_Board_keepOf_f1_n3_p, impl_Board_keepOf_f1_n3_c, cond_bindL, none_bindL, some_bindL]

/-- loop 3 of (loop.example/g01194/impl.Board).mean -/
def impl_Board_mean_impl_Board_keepOf_f1_n3_s3 (F : Nat) (t1314 : Int) (b17 : List Int) (t1220 : List (List Int)) (Q : Type) : (Int × List Int) → ((Int × List Int) → Option Q) → ((List Int) → Option Q) → Option Q
  | (t1415, sum19), kn, kx =>
    let z_1 : List Int := (rget t1220 ((0 : Nat) + (Int.toNat t1415)))
    let z_2 := (impl_Board_placed_p b17 z_1)
    let z_3 := (impl_Board_keepOf_f1_n3_p F (Option.getD z_2 default))
    let z_4 : Int := (iget (Option.getD z_3 default) 0)
    let z_5 : Int := (iget (Option.getD z_3 default) 1)
    let z_6 := (impl_fraction_p F (IntKind.wrap .i64 ((1 : Int) * z_4)) z_5)
    let z_7 := (impl_plus_p F sum19 (Option.getD z_6 default))
    let z_8 : Int := (IntKind.wrap .i64 (t1415 + (1 : Int)))
    let z_9 := (impl_fraction_p F (IntKind.wrap .i64 ((9 : Int) * z_4)) z_5)
    let z_10 := (impl_plus_p F sum19 (Option.getD z_9 default))
    bif (decide (t1415 < t1314)) then
    bif (inR t1415 (List.length t1220)) then
    bif (Option.isSome z_2) then
    bif (Option.isSome z_3) then
    bif ((iget z_1 2) == (2 : Int)) then
    bif (Option.isSome z_6) then
    bif (Option.isSome z_7) then
    kn (z_8, (Option.getD z_7 default))
    else none
    else none
    else bif (Option.isSome z_9) then
    bif (Option.isSome z_10) then
    kn (z_8, (Option.getD z_10 default))
    else none
    else none
    else none
    else none
    else none
    else kx sum19
def impl_Board_mean_impl_Board_keepOf_f1_n3_l3 (F : Nat) (t1314 : Int) (b17 : List Int) (t1220 : List (List Int)) (t1415 : Int) (sum19 : List Int) : Option (List Int) := loopC (impl_Board_mean_impl_Board_keepOf_f1_n3_s3 F t1314 b17 t1220) F (t1415, sum19) some
theorem impl_Board_mean_impl_Board_keepOf_f1_n3_s3_nat (F : Nat) (t1314 : Int) (b17 : List Int) (t1220 : List (List Int)) : Natural (impl_Board_mean_impl_Board_keepOf_f1_n3_s3 F t1314 b17 t1220) := by
  intro Q Q' s kn kx h
  obtain ⟨t1415, sum19⟩ := s
  simp only [impl_Board_mean_impl_Board_keepOf_f1_n3_s3, cond_bindL, none_bindL]
/-- (loop.example/g01194/impl.Board).mean -/
def impl_Board_mean_impl_Board_keepOf_f1_n3_c (Q : Type) (F : Nat) (b0 : List Int) (k : (List Int) → Option Q) : Option Q :=
    let z_1 := (impl_Board_placements_p F b0)
    let z_2 : Nat := (List.length (Option.getD z_1 default))
    let z_3 := (impl_Board_mean_impl_Board_keepOf_f1_n3_l3 F ((z_2 : Nat) : Int) b0 (Option.getD z_1 default) (0 : Int) [(0 : Int), (1 : Int)])
    let z_4 := (impl_Board_empty_p F b0)
    let z_5 := (impl_fraction_p F (iget (Option.getD z_3 default) 0) (IntKind.wrap .i64 ((IntKind.wrap .i64 ((iget (Option.getD z_3 default) 1) * (10 : Int))) * (((Option.getD z_4 default).1 : Nat) : Int))))
    bif (Option.isSome z_1) then
    bif ((Nat.beq z_2 z_2) && (Option.isSome z_3)) then
    bif (Option.isSome z_4) then
    bif (Option.isSome z_5) then
    k (Option.getD z_5 default)
    else none
    else none
    else none
    else none
def impl_Board_mean_impl_Board_keepOf_f1_n3_p (F : Nat) (b0 : List Int) : Option (List Int) := impl_Board_mean_impl_Board_keepOf_f1_n3_c _ F b0 some
theorem impl_Board_mean_impl_Board_keepOf_f1_n3_cp (Q : Type) (F : Nat) (b0 : List Int) (k : (List Int) → Option Q) : impl_Board_mean_impl_Board_keepOf_f1_n3_c Q F b0 k = (impl_Board_mean_impl_Board_keepOf_f1_n3_p F b0).bind k := by
  simp only [impl_Board_mean_impl_Board_keepOf_f1_n3_p, impl_Board_mean_impl_Board_keepOf_f1_n3_c, cond_bindL, none_bindL, some_bindL]

/-- (loop.example/g01194/impl.Board).keepOf -/
def impl_Board_keepOf_n3_c (Q : Type) (F : Nat) (b0 : List Int) (direction1 : Int) (k : (List Int) → Option Q) : Option Q :=
    let z_1 := (impl_Board_slides_p F b0 [direction1])
    let z_2 := (impl_Board_mean_impl_Board_keepOf_f1_n3_p F (Option.getD z_1 default))
    bif (Option.isSome z_1) then
    bif (Option.isSome z_2) then
    k (Option.getD z_2 default)
    else none
    else none
def impl_Board_keepOf_n3_p (F : Nat) (b0 : List Int) (direction1 : Int) : Option (List Int) := impl_Board_keepOf_n3_c _ F b0 direction1 some
theorem impl_Board_keepOf_n3_cp (Q : Type) (F : Nat) (b0 : List Int) (direction1 : Int) (k : (List Int) → Option Q) : impl_Board_keepOf_n3_c Q F b0 direction1 k = (impl_Board_keepOf_n3_p F b0 direction1).bind k := by
  simp only [impl_Board_keepOf_n3_p, impl_Board_keepOf_n3_c, cond_bindL, none_bindL, some_bindL]

/-- (loop.example/g01194/impl.Board).keepOf -/
def impl_Board_keepOf_c (Q : Type) (F : Nat) (b0 : List Int) (direction1 : Int) (n2 : Int) (k : (List Int) → Option Q) : Option Q :=
    let z_1 := (impl_Board_keepOf_n2_p F b0 direction1)
    let z_2 := (impl_Board_keepOf_n3_p F b0 direction1)
    bif (n2 == (1 : Int)) then
    k (impl_Board_keepOf_n1_v b0 direction1)
    else bif (n2 == (2 : Int)) then
    bif (Option.isSome z_1) then
    k (Option.getD z_1 default)
    else none
    else bif (n2 == (3 : Int)) then
    bif (Option.isSome z_2) then
    k (Option.getD z_2 default)
    else none
    else none
def impl_Board_keepOf_p (F : Nat) (b0 : List Int) (direction1 : Int) (n2 : Int) : Option (List Int) := impl_Board_keepOf_c _ F b0 direction1 n2 some
theorem impl_Board_keepOf_cp (Q : Type) (F : Nat) (b0 : List Int) (direction1 : Int) (n2 : Int) (k : (List Int) → Option Q) : impl_Board_keepOf_c Q F b0 direction1 n2 k = (impl_Board_keepOf_p F b0 direction1 n2).bind k := by
  simp only [impl_Board_keepOf_p, impl_Board_keepOf_c, cond_bindL, none_bindL, some_bindL]

/-- loop.example/g01194/impl.FirstWell$1 -/
def impl_FirstWell_f1_c (Q : Type) (F : Nat) (d0 : Int) (a17 : List Int) (a28 : List Int) (k : (List Int) → Option Q) : Option Q :=
    let z_1 := (impl_Board_keepOf_p F a17 d0 (iget a28 0))
    bif (Option.isSome z_1) then
    k (Option.getD z_1 default)
    else none
def impl_FirstWell_f1_p (F : Nat) (d0 : Int) (a17 : List Int) (a28 : List Int) : Option (List Int) := impl_FirstWell_f1_c _ F d0 a17 a28 some
theorem impl_FirstWell_f1_cp (Q : Type) (F : Nat) (d0 : Int) (a17 : List Int) (a28 : List Int) (k : (List Int) → Option Q) : impl_FirstWell_f1_c Q F d0 a17 a28 k = (impl_FirstWell_f1_p F d0 a17 a28).bind k := by
  simp only [impl_FirstWell_f1_p, impl_FirstWell_f1_c, cond_bindL, none_bindL, some_bindL]

/-- loop 3 of (loop.example/g01194/impl.Board).best -/
def impl_Board_best_impl_FirstWell_f1_s3 (F : Nat) (t1415 : Int) (of17 : List Int) (of18 : List Int) (t1321 : List Int) (Q : Type) : (Int × Int × List Int) → ((Int × Int × List Int) → Option Q) → ((Int × List Int) → Option Q) → Option Q
  | (at9, t1516, most20), kn, kx =>
    let z_1 : Int := (iget t1321 ((0 : Nat) + (Int.toNat t1516)))
    let z_2 := (impl_FirstWell_f1_p F z_1 of17 of18)
    let z_3 : Int := (IntKind.wrap .i64 (t1516 + (1 : Int)))
    bif (decide (t1516 < t1415)) then
    bif (inR t1516 (List.length t1321)) then
    bif (Option.isSome z_2) then
    bif (decide (at9 < (0 : Int))) then
    kn (z_1, z_3, (Option.getD z_2 default))
    else bif (impl_isLess_v most20 (Option.getD z_2 default)) then
    kn (z_1, z_3, (Option.getD z_2 default))
    else kn (at9, z_3, most20)
    else none
    else none
    else kx (at9, most20)
def impl_Board_best_impl_FirstWell_f1_l3 (F : Nat) (t1415 : Int) (of17 : List Int) (of18 : List Int) (t1321 : List Int) (at9 : Int) (t1516 : Int) (most20 : List Int) : Option (Int × List Int) := loopC (impl_Board_best_impl_FirstWell_f1_s3 F t1415 of17 of18 t1321) F (at9, t1516, most20) some
theorem impl_Board_best_impl_FirstWell_f1_s3_nat (F : Nat) (t1415 : Int) (of17 : List Int) (of18 : List Int) (t1321 : List Int) : Natural (impl_Board_best_impl_FirstWell_f1_s3 F t1415 of17 of18 t1321) := by
  intro Q Q' s kn kx h
  obtain ⟨at9, t1516, most20⟩ := s
  simp only [impl_Board_best_impl_FirstWell_f1_s3, cond_bindL, none_bindL]
/-- (loop.example/g01194/impl.Board).best -/
def impl_Board_best_impl_FirstWell_f1_c (Q : Type) (F : Nat) (b0 : List Int) (of7 : List Int) (of8 : List Int) (k : (Int × List Int) → Option Q) : Option Q :=
    let z_1 := (impl_Board_moves_p F b0)
    let z_2 : Nat := (List.length (Option.getD z_1 default))
    let z_3 := (impl_Board_best_impl_FirstWell_f1_l3 F ((z_2 : Nat) : Int) of7 of8 (Option.getD z_1 default) (-1 : Int) (0 : Int) (impl_whole_v (0 : Int)))
    let z_4 := (Option.getD z_3 default)
    bif (Option.isSome z_1) then
    bif ((Nat.beq z_2 z_2) && (Option.isSome z_3)) then
    k (z_4.1, z_4.2)
    else none
    else none
def impl_Board_best_impl_FirstWell_f1_p (F : Nat) (b0 : List Int) (of7 : List Int) (of8 : List Int) : Option (Int × List Int) := impl_Board_best_impl_FirstWell_f1_c _ F b0 of7 of8 some
theorem impl_Board_best_impl_FirstWell_f1_cp (Q : Type) (F : Nat) (b0 : List Int) (of7 : List Int) (of8 : List Int) (k : (Int × List Int) → Option Q) : impl_Board_best_impl_FirstWell_f1_c Q F b0 of7 of8 k = (impl_Board_best_impl_FirstWell_f1_p F b0 of7 of8).bind k := by
  simp only [impl_Board_best_impl_FirstWell_f1_p, impl_Board_best_impl_FirstWell_f1_c, cond_bindL, none_bindL, some_bindL]

/-- loop.example/g01194/impl.FirstWell -/
def impl_FirstWell_c (Q : Type) (F : Nat) (b0 : List Int) (n1 : Int) (k : (Int × Bool) → Option Q) : Option Q :=
    let z_1 := (impl_IsBoard_p F b0)
    let z_2 := (impl_Board_isOver_p F b0)
    let z_3 := (impl_Board_best_impl_FirstWell_f1_p F b0 b0 [n1])
    bif (Option.isSome z_1) then
    bif (!(Option.getD z_1 default)) then
    k ((0 : Int), false)
    else bif (!(impl_in_v n1 (1 : Int) (3 : Int))) then
    k ((0 : Int), false)
    else bif (Option.isSome z_2) then
    bif (Option.getD z_2 default) then
    k ((0 : Int), false)
    else bif (Option.isSome z_3) then
    k ((Option.getD z_3 default).1, true)
    else none
    else none
    else none
def impl_FirstWell_p (F : Nat) (b0 : List Int) (n1 : Int) : Option (Int × Bool) := impl_FirstWell_c _ F b0 n1 some
theorem impl_FirstWell_cp (Q : Type) (F : Nat) (b0 : List Int) (n1 : Int) (k : (Int × Bool) → Option Q) : impl_FirstWell_c Q F b0 n1 k = (impl_FirstWell_p F b0 n1).bind k := by
  simp only [impl_FirstWell_p, impl_FirstWell_c, cond_bindL, none_bindL, some_bindL]

/-- loop.example/g01194/laws.FnExactFirstWell -/
def laws_FnExactFirstWell_c (Q : Type) (F : Nat) (aB0 : List Int) (aN1 : Int) (k : (Bool) → Option Q) : Option Q :=
    let z_1 := (spec_FirstWell_p F (laws_toBoard_v aB0) aN1)
    let z_2 := (impl_FirstWell_p F (laws_toBoard_v aB0) aN1)
    let z_3 := (Option.getD z_2 default)
    let z_4 := (Option.getD z_1 default)
    bif (Option.isSome z_1) then
    bif (Option.isSome z_2) then
    bif (!(z_3.1 == z_4.1)) then
    k false
    else bif (!(z_3.2 == z_4.2)) then
    k false
    else k true
    else none
    else none
def laws_FnExactFirstWell_p (F : Nat) (aB0 : List Int) (aN1 : Int) : Option (Bool) := laws_FnExactFirstWell_c _ F aB0 aN1 some
theorem laws_FnExactFirstWell_cp (Q : Type) (F : Nat) (aB0 : List Int) (aN1 : Int) (k : (Bool) → Option Q) : laws_FnExactFirstWell_c Q F aB0 aN1 k = (laws_FnExactFirstWell_p F aB0 aN1).bind k := by
  simp only [laws_FnExactFirstWell_p, laws_FnExactFirstWell_c, cond_bindL, none_bindL, some_bindL]
end Go.Lv.P
