/-
Pure functions and what the code of them does, by program; without conditions.
-/
import Derived.Test.YtgpadaadcepgaaaTHP4
namespace Go.Lv.P
open Go Go.Lv
set_option linter.unusedVariables false
set_option linter.unusedSimpArgs false
set_option maxRecDepth 100000
/-- loop 6 of loop.example/g01194/spec.ChanceOver -/
def spec_ChanceOver_s6 (F : Nat) (steps11 : List (List Int)) (all13 : List (List Int)) (Q : Type) : (Int × List Int) → ((Int × List Int) → Option Q) → ((List Int) → Option Q) → Option Q
  | (i9, numbers12), kn, kx =>
    let z_1 := (spec_l2Moves_p F (rget all13 ((0 : Nat) + (Int.toNat i9))))
    let z_2 : List Int := ((subn (List.length numbers12) numbers12 0 (List.length numbers12)) ++ [(spec_l9One_v ((((List.length (Option.getD z_1 default)) : Nat) : Int) == (0 : Int)))])
    bif (decide (i9 < (((List.length all13) : Nat) : Int))) then
    bif (inR i9 (List.length all13)) then
    bif (Option.isSome z_1) then
    bif (fits (List.length z_2) 8) then
    kn ((IntKind.wrap .i64 (i9 + (1 : Int))), z_2)
    else none
    else none
    else none
    else kx numbers12
def spec_ChanceOver_l6 (F : Nat) (steps11 : List (List Int)) (all13 : List (List Int)) (i9 : Int) (numbers12 : List Int) : Option (List Int) := loopC (spec_ChanceOver_s6 F steps11 all13) F (i9, numbers12) some
theorem spec_ChanceOver_s6_nat (F : Nat) (steps11 : List (List Int)) (all13 : List (List Int)) : Natural (spec_ChanceOver_s6 F steps11 all13) := by
  intro Q Q' s kn kx h
  obtain ⟨i9, numbers12⟩ := s
  simp only [spec_ChanceOver_s6, cond_bindL, none_bindL]
/-- loop.example/g01194/spec.ChanceOver -/
def spec_ChanceOver_c (Q : Type) (F : Nat) (b0 : List Int) (direction1 : Int) (k : (List Int × Bool) → Option Q) : Option Q :=
    let z_1 := (spec_l9Move_p F b0 direction1)
    let z_2 := (spec_l5Steps_p F b0 direction1)
    let z_3 : Nat := (List.length (Option.getD z_2 default))
    let z_4 : List (List Int) := (subn z_3 (Option.getD z_2 default) 0 z_3)
    let z_5 := (spec_l9Boards_p F b0 z_4)
    let z_6 : Nat := (List.length (Option.getD z_5 default))
    let z_7 := (spec_ChanceOver_l6 F (Option.getD z_2 default) (Option.getD z_5 default) (0 : Int) ([] : List Int))
    let z_8 : Nat := (List.length (Option.getD z_7 default))
    let z_9 := (spec_l9Mean_p F z_4 (subn z_8 (Option.getD z_7 default) 0 z_8))
    bif (Option.isSome z_1) then
    bif (!(Option.getD z_1 default)) then
    k ([(0 : Int), (0 : Int)], false)
    else bif (Option.isSome z_2) then
    bif (Option.isSome z_5) then
    bif ((Nat.beq z_3 z_3) && ((Nat.beq z_6 z_6) && (Option.isSome z_7))) then
    bif (Option.isSome z_9) then
    k ((Option.getD z_9 default), true)
    else none
    else none
    else none
    else none
    else none
def spec_ChanceOver_p (F : Nat) (b0 : List Int) (direction1 : Int) : Option (List Int × Bool) := spec_ChanceOver_c _ F b0 direction1 some
theorem spec_ChanceOver_cp (Q : Type) (F : Nat) (b0 : List Int) (direction1 : Int) (k : (List Int × Bool) → Option Q) : spec_ChanceOver_c Q F b0 direction1 k = (spec_ChanceOver_p F b0 direction1).bind k := by
  simp only [spec_ChanceOver_p, spec_ChanceOver_c, cond_bindL, none_bindL, some_bindL]

/-- loop 3 of (loop.example/g01194/impl.Board).moves -/
def impl_Board_moves_s3 (F : Nat) (b6 : List Int) (Q : Type) : (Int × List Int) → ((Int × List Int) → Option Q) → ((List Int) → Option Q) → Option Q
  | (t95, out7), kn, kx =>
    let z_1 := (impl_Board_slide_p F b6 t95)
    let z_2 : List Int := ((subn (List.length out7) out7 0 (List.length out7)) ++ [t95])
    let z_3 : Int := (IntKind.wrap .i64 (t95 + (1 : Int)))
    bif (decide (t95 < (4 : Int))) then
    bif (Option.isSome z_1) then
    bif (!((Option.getD z_1 default).1 == b6)) then
    bif (fits (List.length z_2) 8) then
    kn (z_3, z_2)
    else none
    else kn (z_3, out7)
    else none
    else kx out7
def impl_Board_moves_l3 (F : Nat) (b6 : List Int) (t95 : Int) (out7 : List Int) : Option (List Int) := loopC (impl_Board_moves_s3 F b6) F (t95, out7) some
theorem impl_Board_moves_s3_nat (F : Nat) (b6 : List Int) : Natural (impl_Board_moves_s3 F b6) := by
  intro Q Q' s kn kx h
  obtain ⟨t95, out7⟩ := s
  simp only [impl_Board_moves_s3, cond_bindL, none_bindL]
/-- (loop.example/g01194/impl.Board).moves -/
def impl_Board_moves_c (Q : Type) (F : Nat) (b0 : List Int) (k : (List Int) → Option Q) : Option Q :=
    let z_1 := (impl_Board_moves_l3 F b0 (0 : Int) ([] : List Int))
    bif (Option.isSome z_1) then
    k (Option.getD z_1 default)
    else none
def impl_Board_moves_p (F : Nat) (b0 : List Int) : Option (List Int) := impl_Board_moves_c _ F b0 some
theorem impl_Board_moves_cp (Q : Type) (F : Nat) (b0 : List Int) (k : (List Int) → Option Q) : impl_Board_moves_c Q F b0 k = (impl_Board_moves_p F b0).bind k := by
  simp only [impl_Board_moves_p, impl_Board_moves_c, cond_bindL, none_bindL, some_bindL]

/-- (loop.example/g01194/impl.Board).isOver -/
def impl_Board_isOver_c (Q : Type) (F : Nat) (b0 : List Int) (k : (Bool) → Option Q) : Option Q :=
    let z_1 := (impl_Board_moves_p F b0)
    bif (Option.isSome z_1) then
    k ((((List.length (Option.getD z_1 default)) : Nat) : Int) == (0 : Int))
    else none
def impl_Board_isOver_p (F : Nat) (b0 : List Int) : Option (Bool) := impl_Board_isOver_c _ F b0 some
theorem impl_Board_isOver_cp (Q : Type) (F : Nat) (b0 : List Int) (k : (Bool) → Option Q) : impl_Board_isOver_c Q F b0 k = (impl_Board_isOver_p F b0).bind k := by
  simp only [impl_Board_isOver_p, impl_Board_isOver_c, cond_bindL, none_bindL, some_bindL]

/-- (loop.example/g01194/impl.Board).chance$1 -/
def impl_Board_chance_f1_4_c (Q : Type) (F : Nat) (own0 : List Int) (k : (List Int) → Option Q) : Option Q :=
    let z_1 := (impl_Board_isOver_p F own0)
    bif (Option.isSome z_1) then
    k (impl_flag_v (Option.getD z_1 default))
    else none
def impl_Board_chance_f1_4_p (F : Nat) (own0 : List Int) : Option (List Int) := impl_Board_chance_f1_4_c _ F own0 some
theorem impl_Board_chance_f1_4_cp (Q : Type) (F : Nat) (own0 : List Int) (k : (List Int) → Option Q) : impl_Board_chance_f1_4_c Q F own0 k = (impl_Board_chance_f1_4_p F own0).bind k := by
  simp only [impl_Board_chance_f1_4_p, impl_Board_chance_f1_4_c, cond_bindL, none_bindL, some_bindL]

/-- loop 3 of (loop.example/g01194/impl.Board).mean -/
def impl_Board_mean_impl_Board_chance_f1_4_s3 (F : Nat) (t1314 : Int) (b16 : List Int) (t1219 : List (List Int)) (Q : Type) : (Int × List Int) → ((Int × List Int) → Option Q) → ((List Int) → Option Q) → Option Q
  | (t1415, sum18), kn, kx =>
    let z_1 : List Int := (rget t1219 ((0 : Nat) + (Int.toNat t1415)))
    let z_2 := (impl_Board_placed_p b16 z_1)
    let z_3 := (impl_Board_chance_f1_4_p F (Option.getD z_2 default))
    let z_4 : Int := (iget (Option.getD z_3 default) 0)
    let z_5 : Int := (iget (Option.getD z_3 default) 1)
    let z_6 := (impl_fraction_p F (IntKind.wrap .i64 ((1 : Int) * z_4)) z_5)
    let z_7 := (impl_plus_p F sum18 (Option.getD z_6 default))
    let z_8 : Int := (IntKind.wrap .i64 (t1415 + (1 : Int)))
    let z_9 := (impl_fraction_p F (IntKind.wrap .i64 ((9 : Int) * z_4)) z_5)
    let z_10 := (impl_plus_p F sum18 (Option.getD z_9 default))
    bif (decide (t1415 < t1314)) then
    bif (inR t1415 (List.length t1219)) then
    bif (Option.isSome z_2) then
    bif (Option.isSome z_3) then
    bif ((iget z_1 2) == (2 : Int)) then
    bif (Option.isSome z_6) then
    bif (Option.isSome z_7) then
    kn (z_8, (Option.getD z_7 default))
    else none
    else none
    else bif (Option.isSome z_9) then
    bif (Option.isSome z_10) then
    kn (z_8, (Option.getD z_10 default))
    else none
    else none
    else none
    else none
    else none
    else kx sum18
def impl_Board_mean_impl_Board_chance_f1_4_l3 (F : Nat) (t1314 : Int) (b16 : List Int) (t1219 : List (List Int)) (t1415 : Int) (sum18 : List Int) : Option (List Int) := loopC (impl_Board_mean_impl_Board_chance_f1_4_s3 F t1314 b16 t1219) F (t1415, sum18) some
theorem impl_Board_mean_impl_Board_chance_f1_4_s3_nat (F : Nat) (t1314 : Int) (b16 : List Int) (t1219 : List (List Int)) : Natural (impl_Board_mean_impl_Board_chance_f1_4_s3 F t1314 b16 t1219) := by
  intro Q Q' s kn kx h
  obtain ⟨t1415, sum18⟩ := s
  simp only [impl_Board_mean_impl_Board_chance_f1_4_s3, cond_bindL, none_bindL]
/-- (loop.example/g01194/impl.Board).mean -/
def impl_Board_mean_impl_Board_chance_f1_4_c (Q : Type) (F : Nat) (b0 : List Int) (k : (List Int) → Option Q) : Option Q :=
    let z_1 := (impl_Board_placements_p F b0)
    let z_2 : Nat := (List.length (Option.getD z_1 default))
    let z_3 := (impl_Board_mean_impl_Board_chance_f1_4_l3 F ((z_2 : Nat) : Int) b0 (Option.getD z_1 default) (0 : Int) [(0 : Int), (1 : Int)])
    let z_4 := (impl_Board_empty_p F b0)
    let z_5 := (impl_fraction_p F (iget (Option.getD z_3 default) 0) (IntKind.wrap .i64 ((IntKind.wrap .i64 ((iget (Option.getD z_3 default) 1) * (10 : Int))) * (((Option.getD z_4 default).1 : Nat) : Int))))
    bif (Option.isSome z_1) then
    bif ((Nat.beq z_2 z_2) && (Option.isSome z_3)) then
    bif (Option.isSome z_4) then
    bif (Option.isSome z_5) then
    k (Option.getD z_5 default)
    else none
    else none
    else none
    else none
def impl_Board_mean_impl_Board_chance_f1_4_p (F : Nat) (b0 : List Int) : Option (List Int) := impl_Board_mean_impl_Board_chance_f1_4_c _ F b0 some
theorem impl_Board_mean_impl_Board_chance_f1_4_cp (Q : Type) (F : Nat) (b0 : List Int) (k : (List Int) → Option Q) : impl_Board_mean_impl_Board_chance_f1_4_c Q F b0 k = (impl_Board_mean_impl_Board_chance_f1_4_p F b0).bind k := by
  simp only [impl_Board_mean_impl_Board_chance_f1_4_p, impl_Board_mean_impl_Board_chance_f1_4_c, cond_bindL, none_bindL, some_bindL]

/-- (loop.example/g01194/impl.Board).chance -/
def impl_Board_chance_impl_Board_isOver_c (Q : Type) (F : Nat) (b0 : List Int) (direction1 : Int) (k : (List Int × Bool) → Option Q) : Option Q :=
    let z_1 := (impl_Board_isMove_p F b0 direction1)
    let z_2 := (impl_Board_slides_p F b0 [direction1])
    let z_3 := (impl_Board_mean_impl_Board_chance_f1_4_p F (Option.getD z_2 default))
    bif (Option.isSome z_1) then
    bif (!(Option.getD z_1 default)) then
    k ([(0 : Int), (0 : Int)], false)
    else bif (Option.isSome z_2) then
    bif (Option.isSome z_3) then
    k ((Option.getD z_3 default), true)
    else none
    else none
    else none
def impl_Board_chance_impl_Board_isOver_p (F : Nat) (b0 : List Int) (direction1 : Int) : Option (List Int × Bool) := impl_Board_chance_impl_Board_isOver_c _ F b0 direction1 some
theorem impl_Board_chance_impl_Board_isOver_cp (Q : Type) (F : Nat) (b0 : List Int) (direction1 : Int) (k : (List Int × Bool) → Option Q) : impl_Board_chance_impl_Board_isOver_c Q F b0 direction1 k = (impl_Board_chance_impl_Board_isOver_p F b0 direction1).bind k := by
  simp only [impl_Board_chance_impl_Board_isOver_p, impl_Board_chance_impl_Board_isOver_c, cond_bindL, none_bindL, some_bindL]

/-- loop.example/g01194/impl.ChanceOver -/
def impl_ChanceOver_c (Q : Type) (F : Nat) (b0 : List Int) (direction1 : Int) (k : (List Int × Bool) → Option Q) : Option Q :=
    let z_1 := (impl_Board_chance_impl_Board_isOver_p F b0 direction1)
    let z_2 := (Option.getD z_1 default)
    bif (Option.isSome z_1) then
    k (z_2.1, z_2.2)
    else none
def impl_ChanceOver_p (F : Nat) (b0 : List Int) (direction1 : Int) : Option (List Int × Bool) := impl_ChanceOver_c _ F b0 direction1 some
theorem impl_ChanceOver_cp (Q : Type) (F : Nat) (b0 : List Int) (direction1 : Int) (k : (List Int × Bool) → Option Q) : impl_ChanceOver_c Q F b0 direction1 k = (impl_ChanceOver_p F b0 direction1).bind k := by
  simp only [impl_ChanceOver_p, impl_ChanceOver_c, cond_bindL, none_bindL, some_bindL]

/-- loop.example/g01194/laws.FnExactChanceOver -/
def laws_FnExactChanceOver_c (Q : Type) (F : Nat) (aB0 : List Int) (aDirection1 : Int) (k : (Bool) → Option Q) : Option Q :=
    let z_1 := (spec_ChanceOver_p F (laws_toBoard_v aB0) aDirection1)
    let z_2 := (impl_ChanceOver_p F (laws_toBoard_v aB0) aDirection1)
    let z_3 := (Option.getD z_2 default)
    let z_4 := (Option.getD z_1 default)
    let z_5 := (laws_eqIntA2_p F z_3.1 z_4.1)
    bif (Option.isSome z_1) then
    bif (Option.isSome z_2) then
    bif (Option.isSome z_5) then
    bif (!(Option.getD z_5 default)) then
    k false
    else bif (!(z_3.2 == z_4.2)) then
    k false
    else k true
    else none
    else none
    else none
def laws_FnExactChanceOver_p (F : Nat) (aB0 : List Int) (aDirection1 : Int) : Option (Bool) := laws_FnExactChanceOver_c _ F aB0 aDirection1 some
theorem laws_FnExactChanceOver_cp (Q : Type) (F : Nat) (aB0 : List Int) (aDirection1 : Int) (k : (Bool) → Option Q) : laws_FnExactChanceOver_c Q F aB0 aDirection1 k = (laws_FnExactChanceOver_p F aB0 aDirection1).bind k := by
  simp only [laws_FnExactChanceOver_p, laws_FnExactChanceOver_c, cond_bindL, none_bindL, some_bindL]

/-- loop 3 of loop.example/g01194/spec.l5All -/
def spec_l5All_s3 (F : Nat) (b6 : List Int) (Q : Type) : (Int × List (List Int)) → ((Int × List (List Int)) → Option Q) → ((List (List Int)) → Option Q) → Option Q
  | (d5, out7), kn, kx =>
    let z_1 := (spec_l5Steps_p F b6 d5)
    let z_2 : Nat := (List.length (Option.getD z_1 default))
    let z_3 : List (List Int) := ((subn (List.length out7) out7 0 (List.length out7)) ++ (subn z_2 (Option.getD z_1 default) 0 z_2))
    bif (decide (d5 < (4 : Int))) then
    bif (Option.isSome z_1) then
    bif (fits (List.length z_3) 32) then
    kn ((IntKind.wrap .i64 (d5 + (1 : Int))), z_3)
    else none
    else none
    else kx out7
def spec_l5All_l3 (F : Nat) (b6 : List Int) (d5 : Int) (out7 : List (List Int)) : Option (List (List Int)) := loopC (spec_l5All_s3 F b6) F (d5, out7) some
theorem spec_l5All_s3_nat (F : Nat) (b6 : List Int) : Natural (spec_l5All_s3 F b6) := by
  intro Q Q' s kn kx h
  obtain ⟨d5, out7⟩ := s
  simp only [spec_l5All_s3, cond_bindL, none_bindL]
/-- loop.example/g01194/spec.l5All -/
def spec_l5All_c (Q : Type) (F : Nat) (b0 : List Int) (k : (List (List Int)) → Option Q) : Option Q :=
    let z_1 := (spec_l5All_l3 F b0 (0 : Int) ([] : List (List Int)))
    bif (Option.isSome z_1) then
    k (Option.getD z_1 default)
    else none
def spec_l5All_p (F : Nat) (b0 : List Int) : Option (List (List Int)) := spec_l5All_c _ F b0 some
theorem spec_l5All_cp (Q : Type) (F : Nat) (b0 : List Int) (k : (List (List Int)) → Option Q) : spec_l5All_c Q F b0 k = (spec_l5All_p F b0).bind k := by
  simp only [spec_l5All_p, spec_l5All_c, cond_bindL, none_bindL, some_bindL]

/-- loop 5 of loop.example/g01194/spec.IsTrapped -/
def spec_IsTrapped_s5 (F : Nat) (b6 : List Int) (all7 : List (List Int)) (Q : Type) : (Int) → ((Int) → Option Q) → ((Bool) → Option Q) → Option Q
  | i5, kn, kx =>
    let z_1 := (spec_l5Do_p F b6 (rget all7 ((0 : Nat) + (Int.toNat i5))))
    let z_2 := (spec_l2Moves_p F (Option.getD z_1 default).1)
    bif (decide (i5 < (((List.length all7) : Nat) : Int))) then
    bif (inR i5 (List.length all7)) then
    bif (Option.isSome z_1) then
    bif (Option.isSome z_2) then
    bif (decide ((0 : Int) < (((List.length (Option.getD z_2 default)) : Nat) : Int))) then
    kx true
    else kn (IntKind.wrap .i64 (i5 + (1 : Int)))
    else none
    else none
    else none
    else kx false
def spec_IsTrapped_l5 (F : Nat) (b6 : List Int) (all7 : List (List Int)) (i5 : Int) : Option (Bool) := loopC (spec_IsTrapped_s5 F b6 all7) F i5 some
theorem spec_IsTrapped_s5_nat (F : Nat) (b6 : List Int) (all7 : List (List Int)) : Natural (spec_IsTrapped_s5 F b6 all7) := by
  intro Q Q' s kn kx h
  simp only [spec_IsTrapped_s5, cond_bindL, none_bindL]
/-- loop.example/g01194/spec.IsTrapped -/
def spec_IsTrapped_c (Q : Type) (F : Nat) (b0 : List Int) (k : (Bool × Bool) → Option Q) : Option Q :=
    let z_1 := (spec_l2Board_p F b0)
    let z_2 := (spec_l5All_p F b0)
    let z_3 : Nat := (List.length (Option.getD z_2 default))
    let z_4 := (spec_IsTrapped_l5 F b0 (Option.getD z_2 default) (0 : Int))
    bif (Option.isSome z_1) then
    bif (!(Option.getD z_1 default)) then
    k (false, false)
    else bif (Option.isSome z_2) then
    bif ((Nat.beq z_3 z_3) && (Option.isSome z_4)) then
    bif (Option.getD z_4 default) then
    k (false, true)
    else k ((decide ((0 : Int) < ((z_3 : Nat) : Int))), true)
    else none
    else none
    else none
def spec_IsTrapped_p (F : Nat) (b0 : List Int) : Option (Bool × Bool) := spec_IsTrapped_c _ F b0 some
theorem spec_IsTrapped_cp (Q : Type) (F : Nat) (b0 : List Int) (k : (Bool × Bool) → Option Q) : spec_IsTrapped_c Q F b0 k = (spec_IsTrapped_p F b0).bind k := by
  simp only [spec_IsTrapped_p, spec_IsTrapped_c, cond_bindL, none_bindL, some_bindL]

/-- loop 5 of (loop.example/g01194/impl.Board).steps -/
def impl_Board_steps_s5 (F : Nat) (direction0 : Int) (t194 : Nat) (t205 : Int) (t198 : List (List Int)) (Q : Type) : (Int × List (List Int)) → ((Int × List (List Int)) → Option Q) → ((List (List Int)) → Option Q) → Option Q
  | (t216, out7), kn, kx =>
    let z_1 : List Int := (splice [direction0, (0 : Int), (0 : Int), (0 : Int)] 1 (rget t198 ((0 : Nat) + (Int.toNat t216))) 2)
    let z_2 : List (List Int) := ((subn (List.length out7) out7 0 (List.length out7)) ++ [(iset z_1 3 (1 : Int)), (iset z_1 3 (2 : Int))])
    bif (decide (t216 < t205)) then
    bif (inR t216 t194) then
    bif (fits (List.length z_2) 32) then
    kn ((IntKind.wrap .i64 (t216 + (1 : Int))), z_2)
    else none
    else none
    else kx out7
def impl_Board_steps_l5 (F : Nat) (direction0 : Int) (t194 : Nat) (t205 : Int) (t198 : List (List Int)) (t216 : Int) (out7 : List (List Int)) : Option (List (List Int)) := loopC (impl_Board_steps_s5 F direction0 t194 t205 t198) F (t216, out7) some
theorem impl_Board_steps_s5_nat (F : Nat) (direction0 : Int) (t194 : Nat) (t205 : Int) (t198 : List (List Int)) : Natural (impl_Board_steps_s5 F direction0 t194 t205 t198) := by
  intro Q Q' s kn kx h
  obtain ⟨t216, out7⟩ := s
  simp only [impl_Board_steps_s5, cond_bindL, none_bindL]
/-- (loop.example/g01194/impl.Board).steps -/
def impl_Board_steps_c (Q : Type) (F : Nat) (b0 : List Int) (direction1 : Int) (k : (List (List Int)) → Option Q) : Option Q :=
    let z_1 := (impl_Board_slides_p F b0 [direction1])
    let z_2 := (impl_Board_empty_p F (Option.getD z_1 default))
    let z_3 := (Option.getD z_2 default)
    let z_4 := (impl_Board_steps_l5 F direction1 z_3.1 ((z_3.1 : Nat) : Int) z_3.2 (0 : Int) ([] : List (List Int)))
    bif (Option.isSome z_1) then
    bif ((Option.getD z_1 default) == b0) then
    k ([] : List (List Int))
    else bif (Option.isSome z_2) then
    bif (Option.isSome z_4) then
    k (Option.getD z_4 default)
    else none
    else none
    else none
def impl_Board_steps_p (F : Nat) (b0 : List Int) (direction1 : Int) : Option (List (List Int)) := impl_Board_steps_c _ F b0 direction1 some
theorem impl_Board_steps_cp (Q : Type) (F : Nat) (b0 : List Int) (direction1 : Int) (k : (List (List Int)) → Option Q) : impl_Board_steps_c Q F b0 direction1 k = (impl_Board_steps_p F b0 direction1).bind k := by
  simp only [impl_Board_steps_p, impl_Board_steps_c, cond_bindL, none_bindL, some_bindL]

/-- slices.Grow[[]loop.example/g01194/impl.Step,loop.example/g01194/impl.Step] -/
def slices_Grow_implStepimplStep_c (Q : Type) (n0 : Int) (k : (List (List Int)) → Option Q) : Option Q :=
    let z_1 : Int := (IntKind.wrap .i64 (n0 - (0 : Int)))
    let z_2 : Nat := (Int.toNat z_1)
    bif (decide (n0 < (0 : Int))) then
    none
    else bif (decide ((0 : Int) < z_1)) then
    bif ((decide ((1 : Int) ≤ z_1)) && (fits z_2 32)) then
    bif (inLe (0 : Int) z_2) then
    k (List.replicate z_2 [(0 : Int), (0 : Int), (0 : Int), (0 : Int)])
    else none
    else none
    else k ([] : List (List Int))
def slices_Grow_implStepimplStep_p (n0 : Int) : Option (List (List Int)) := slices_Grow_implStepimplStep_c _ n0 some
theorem slices_Grow_implStepimplStep_cp (Q : Type) (n0 : Int) (k : (List (List Int)) → Option Q) : slices_Grow_implStepimplStep_c Q n0 k = (slices_Grow_implStepimplStep_p n0).bind k := by
  simp only [slices_Grow_implStepimplStep_p, slices_Grow_implStepimplStep_c, cond_bindL, none_bindL, some_bindL]

/-- slices.Concat[[]loop.example/g01194/impl.Step,loop.example/g01194/impl.Step] -/
def slices_Concat_implStepimplStep_c (Q : Type) (slices0 : List (List Int)) (slices1 : List (List Int)) (slices2 : List (List Int)) (slices3 : List (List Int)) (k : (List (List Int)) → Option Q) : Option Q :=
    let z_1 : Int := (IntKind.wrap .i64 ((0 : Int) + (((List.length slices0) : Nat) : Int)))
    let z_2 : Int := (IntKind.wrap .i64 (z_1 + (((List.length slices1) : Nat) : Int)))
    let z_3 : Int := (IntKind.wrap .i64 (z_2 + (((List.length slices2) : Nat) : Int)))
    let z_4 : Int := (IntKind.wrap .i64 (z_3 + (((List.length slices3) : Nat) : Int)))
    let z_5 : List (List Int) := ((subn (List.length (Option.getD (slices_Grow_implStepimplStep_p z_4) default)) (Option.getD (slices_Grow_implStepimplStep_p z_4) default) 0 0) ++ slices0)
    let z_6 : Nat := (List.length z_5)
    let z_7 : List (List Int) := ((subn z_6 z_5 0 z_6) ++ slices1)
    let z_8 : Nat := (List.length z_7)
    let z_9 : List (List Int) := ((subn z_8 z_7 0 z_8) ++ slices2)
    let z_10 : Nat := (List.length z_9)
    let z_11 : List (List Int) := ((subn z_10 z_9 0 z_10) ++ slices3)
    bif (decide (z_1 < (0 : Int))) then
    none
    else bif (decide (z_2 < (0 : Int))) then
    none
    else bif (decide (z_3 < (0 : Int))) then
    none
    else bif (decide (z_4 < (0 : Int))) then
    none
    else bif (Option.isSome (slices_Grow_implStepimplStep_p z_4)) then
    bif (fits z_6 32) then
    bif (fits z_8 32) then
    bif (fits z_10 32) then
    bif (fits (List.length z_11) 32) then
    k z_11
    else none
    else none
    else none
    else none
    else none
def slices_Concat_implStepimplStep_p (slices0 : List (List Int)) (slices1 : List (List Int)) (slices2 : List (List Int)) (slices3 : List (List Int)) : Option (List (List Int)) := slices_Concat_implStepimplStep_c _ slices0 slices1 slices2 slices3 some
theorem slices_Concat_implStepimplStep_cp (Q : Type) (slices0 : List (List Int)) (slices1 : List (List Int)) (slices2 : List (List Int)) (slices3 : List (List Int)) (k : (List (List Int)) → Option Q) : slices_Concat_implStepimplStep_c Q slices0 slices1 slices2 slices3 k = (slices_Concat_implStepimplStep_p slices0 slices1 slices2 slices3).bind k := by
  simp only [slices_Concat_implStepimplStep_p, slices_Concat_implStepimplStep_c, cond_bindL, none_bindL, some_bindL]

/-- (loop.example/g01194/impl.Board).allSteps -/
def impl_Board_allSteps_c (Q : Type) (F : Nat) (b0 : List Int) (k : (List (List Int)) → Option Q) : Option Q :=
    let z_1 := (impl_Board_steps_p F b0 (0 : Int))
    let z_2 := (impl_Board_steps_p F b0 (1 : Int))
    let z_3 := (impl_Board_steps_p F b0 (2 : Int))
    let z_4 := (impl_Board_steps_p F b0 (3 : Int))
    let z_5 : Nat := (List.length (Option.getD z_1 default))
    let z_6 : Nat := (List.length (Option.getD z_2 default))
    let z_7 : Nat := (List.length (Option.getD z_3 default))
    let z_8 : Nat := (List.length (Option.getD z_4 default))
    let z_9 := (slices_Concat_implStepimplStep_p (subn z_5 (Option.getD z_1 default) 0 z_5) (subn z_6 (Option.getD z_2 default) 0 z_6) (subn z_7 (Option.getD z_3 default) 0 z_7) (subn z_8 (Option.getD z_4 default) 0 z_8))
    bif (Option.isSome z_1) then
    bif (Option.isSome z_2) then
    bif (Option.isSome z_3) then
    bif (Option.isSome z_4) then
    bif (Option.isSome z_9) then
    k (Option.getD z_9 default)
    else none
    else none
    else none
    else none
    else none
def impl_Board_allSteps_p (F : Nat) (b0 : List Int) : Option (List (List Int)) := impl_Board_allSteps_c _ F b0 some
theorem impl_Board_allSteps_cp (Q : Type) (F : Nat) (b0 : List Int) (k : (List (List Int)) → Option Q) : impl_Board_allSteps_c Q F b0 k = (impl_Board_allSteps_p F b0).bind k := by
  simp only [impl_Board_allSteps_p, impl_Board_allSteps_c, cond_bindL, none_bindL, some_bindL]

/-- (loop.example/g01194/impl.Board).behind -/
def impl_Board_behind_c (Q : Type) (F : Nat) (b0 : List Int) (s1 : List Int) (k : (List Int × Int) → Option Q) : Option Q :=
    let z_1 := (impl_Board_slide_p F b0 (iget s1 0))
    let z_2 := (Option.getD z_1 default)
    let z_3 := (impl_Board_at_p (sub s1 1 2) z_2.1)
    bif (Option.isSome z_1) then
    bif (Option.isSome z_3) then
    k ((iset z_2.1 (Option.getD z_3 default) (iget s1 3)), z_2.2.1)
    else none
    else none
def impl_Board_behind_p (F : Nat) (b0 : List Int) (s1 : List Int) : Option (List Int × Int) := impl_Board_behind_c _ F b0 s1 some
theorem impl_Board_behind_cp (Q : Type) (F : Nat) (b0 : List Int) (s1 : List Int) (k : (List Int × Int) → Option Q) : impl_Board_behind_c Q F b0 s1 k = (impl_Board_behind_p F b0 s1).bind k := by
  simp only [impl_Board_behind_p, impl_Board_behind_c, cond_bindL, none_bindL, some_bindL]

/-- loop.example/g01194/impl.IsTrapped$1 -/
def impl_IsTrapped_f1_c (Q : Type) (F : Nat) (s0 : List Int) (a14 : List Int) (k : (Bool) → Option Q) : Option Q :=
    let z_1 := (impl_Board_behind_p F a14 s0)
    let z_2 := (impl_Board_isOver_p F (Option.getD z_1 default).1)
    bif (Option.isSome z_1) then
    bif (Option.isSome z_2) then
    k (!(Option.getD z_2 default))
    else none
    else none
def impl_IsTrapped_f1_p (F : Nat) (s0 : List Int) (a14 : List Int) : Option (Bool) := impl_IsTrapped_f1_c _ F s0 a14 some
theorem impl_IsTrapped_f1_cp (Q : Type) (F : Nat) (s0 : List Int) (a14 : List Int) (k : (Bool) → Option Q) : impl_IsTrapped_f1_c Q F s0 a14 k = (impl_IsTrapped_f1_p F s0 a14).bind k := by
  simp only [impl_IsTrapped_f1_p, impl_IsTrapped_f1_c, cond_bindL, none_bindL, some_bindL]
end Go.Lv.P
