/-
Pure functions and what the code of them does, by program; without conditions.
-/
import Derived.Test.YtgpadaadcepgaaaTHP2
namespace Go.Lv.P
open Go Go.Lv
set_option linter.unusedVariables false
set_option linter.unusedSimpArgs false
set_option maxRecDepth 100000
/-- loop 5 of slices.DeleteFunc[[][2]int,[2]int] -/
def slices_DeleteFunc_2int2int_impl_Board_empty_f1_s5 (F : Nat) (s1 : Nat) (del8 : List Int) (Q : Type) : (Int × Int × List (List Int)) → ((Int × Int × List (List Int)) → Option Q) → ((Int × List (List Int)) → Option Q) → Option Q
  | (i5, j6, s7), kn, kx =>
    let z_1 : List Int := (rget s7 ((0 : Nat) + (Int.toNat j6)))
    let z_2 := (impl_Board_empty_f1_p z_1 del8)
    let z_3 : Int := (IntKind.wrap .i64 (j6 + (1 : Int)))
    bif (decide (j6 < ((s1 : Nat) : Int))) then
    bif (inR j6 s1) then
    bif (Option.isSome z_2) then
    bif (!(Option.getD z_2 default)) then
    bif (inR i5 s1) then
    kn ((IntKind.wrap .i64 (i5 + (1 : Int))), z_3, (rset s7 ((0 : Nat) + (Int.toNat i5)) z_1))
    else none
    else kn (i5, z_3, s7)
    else none
    else none
    else kx (i5, s7)
def slices_DeleteFunc_2int2int_impl_Board_empty_f1_l5 (F : Nat) (s1 : Nat) (del8 : List Int) (i5 : Int) (j6 : Int) (s7 : List (List Int)) : Option (Int × List (List Int)) := loopC (slices_DeleteFunc_2int2int_impl_Board_empty_f1_s5 F s1 del8) F (i5, j6, s7) some
theorem slices_DeleteFunc_2int2int_impl_Board_empty_f1_s5_nat (F : Nat) (s1 : Nat) (del8 : List Int) : Natural (slices_DeleteFunc_2int2int_impl_Board_empty_f1_s5 F s1 del8) := by
  intro Q Q' s kn kx h
  obtain ⟨i5, j6, s7⟩ := s
  simp only [slices_DeleteFunc_2int2int_impl_Board_empty_f1_s5, cond_bindL, none_bindL]
/-- slices.DeleteFunc[[][2]int,[2]int] -/
def slices_DeleteFunc_2int2int_impl_Board_empty_f1_c (Q : Type) (F : Nat) (s5 : List (List Int)) (del6 : List Int) (k : (Nat × List (List Int)) → Option Q) : Option Q :=
    let z_1 := (slices_IndexFunc_2int2int_impl_Board_empty_f1_p F (subn (List.length s5) s5 0 (List.length s5)) del6)
    let z_2 := (slices_DeleteFunc_2int2int_impl_Board_empty_f1_l5 F (List.length s5) del6 (Option.getD z_1 default) (IntKind.wrap .i64 ((Option.getD z_1 default) + (1 : Int))) s5)
    let z_3 := (Option.getD z_2 default)
    let z_4 : Bool := (inLe z_3.1 (List.length s5))
    let z_5 : Nat := (Int.toNat z_3.1)
    let z_6 : Nat := ((List.length s5) - z_5)
    bif (Option.isSome z_1) then
    bif ((Option.getD z_1 default) == (-1 : Int)) then
    k ((List.length s5), s5)
    else bif (Option.isSome z_2) then
    bif z_4 then
    bif z_4 then
    k ((z_5 - (0 : Nat)), (splice z_3.2 ((0 : Nat) + z_5) (List.replicate z_6 [(0 : Int), (0 : Int)]) z_6))
    else none
    else none
    else none
    else none
def slices_DeleteFunc_2int2int_impl_Board_empty_f1_p (F : Nat) (s5 : List (List Int)) (del6 : List Int) : Option (Nat × List (List Int)) := slices_DeleteFunc_2int2int_impl_Board_empty_f1_c _ F s5 del6 some
theorem slices_DeleteFunc_2int2int_impl_Board_empty_f1_cp (Q : Type) (F : Nat) (s5 : List (List Int)) (del6 : List Int) (k : (Nat × List (List Int)) → Option Q) : slices_DeleteFunc_2int2int_impl_Board_empty_f1_c Q F s5 del6 k = (slices_DeleteFunc_2int2int_impl_Board_empty_f1_p F s5 del6).bind k := by
  simp only [slices_DeleteFunc_2int2int_impl_Board_empty_f1_p, slices_DeleteFunc_2int2int_impl_Board_empty_f1_c, cond_bindL, none_bindL, some_bindL]

/-- (loop.example/g01194/impl.Board).empty -/
def impl_Board_empty_c (Q : Type) (F : Nat) (b0 : List Int) (k : (Nat × List (List Int)) → Option Q) : Option Q :=
    let z_1 := (slices_DeleteFunc_2int2int_impl_Board_empty_f1_p F [[(0 : Int), (0 : Int)], [(0 : Int), (1 : Int)], [(0 : Int), (2 : Int)], [(0 : Int), (3 : Int)], [(1 : Int), (0 : Int)], [(1 : Int), (1 : Int)], [(1 : Int), (2 : Int)], [(1 : Int), (3 : Int)], [(2 : Int), (0 : Int)], [(2 : Int), (1 : Int)], [(2 : Int), (2 : Int)], [(2 : Int), (3 : Int)], [(3 : Int), (0 : Int)], [(3 : Int), (1 : Int)], [(3 : Int), (2 : Int)], [(3 : Int), (3 : Int)]] b0)
    let z_2 := (Option.getD z_1 default)
    bif (Option.isSome z_1) then
    k (z_2.1, z_2.2)
    else none
def impl_Board_empty_p (F : Nat) (b0 : List Int) : Option (Nat × List (List Int)) := impl_Board_empty_c _ F b0 some
theorem impl_Board_empty_cp (Q : Type) (F : Nat) (b0 : List Int) (k : (Nat × List (List Int)) → Option Q) : impl_Board_empty_c Q F b0 k = (impl_Board_empty_p F b0).bind k := by
  simp only [impl_Board_empty_p, impl_Board_empty_c, cond_bindL, none_bindL, some_bindL]

/-- loop 3 of (loop.example/g01194/impl.Board).placements -/
def impl_Board_placements_s3 (F : Nat) (t83 : Nat) (t94 : Int) (t87 : List (List Int)) (Q : Type) : (Int × List (List Int)) → ((Int × List (List Int)) → Option Q) → ((List (List Int)) → Option Q) → Option Q
  | (t105, out6), kn, kx =>
    let z_1 : List Int := (rget t87 ((0 : Nat) + (Int.toNat t105)))
    let z_2 : Int := (iget z_1 0)
    let z_3 : Int := (iget z_1 1)
    let z_4 : List (List Int) := ((subn (List.length out6) out6 0 (List.length out6)) ++ [[z_2, z_3, (1 : Int)], [z_2, z_3, (2 : Int)]])
    bif (decide (t105 < t94)) then
    bif (inR t105 t83) then
    bif (fits (List.length z_4) 24) then
    kn ((IntKind.wrap .i64 (t105 + (1 : Int))), z_4)
    else none
    else none
    else kx out6
def impl_Board_placements_l3 (F : Nat) (t83 : Nat) (t94 : Int) (t87 : List (List Int)) (t105 : Int) (out6 : List (List Int)) : Option (List (List Int)) := loopC (impl_Board_placements_s3 F t83 t94 t87) F (t105, out6) some
theorem impl_Board_placements_s3_nat (F : Nat) (t83 : Nat) (t94 : Int) (t87 : List (List Int)) : Natural (impl_Board_placements_s3 F t83 t94 t87) := by
  intro Q Q' s kn kx h
  obtain ⟨t105, out6⟩ := s
  simp only [impl_Board_placements_s3, cond_bindL, none_bindL]
/-- (loop.example/g01194/impl.Board).placements -/
def impl_Board_placements_c (Q : Type) (F : Nat) (b0 : List Int) (k : (List (List Int)) → Option Q) : Option Q :=
    let z_1 := (impl_Board_empty_p F b0)
    let z_2 := (Option.getD z_1 default)
    let z_3 := (impl_Board_placements_l3 F z_2.1 ((z_2.1 : Nat) : Int) z_2.2 (0 : Int) ([] : List (List Int)))
    bif (Option.isSome z_1) then
    bif (Option.isSome z_3) then
    k (Option.getD z_3 default)
    else none
    else none
def impl_Board_placements_p (F : Nat) (b0 : List Int) : Option (List (List Int)) := impl_Board_placements_c _ F b0 some
theorem impl_Board_placements_cp (Q : Type) (F : Nat) (b0 : List Int) (k : (List (List Int)) → Option Q) : impl_Board_placements_c Q F b0 k = (impl_Board_placements_p F b0).bind k := by
  simp only [impl_Board_placements_p, impl_Board_placements_c, cond_bindL, none_bindL, some_bindL]

/-- (loop.example/g01194/impl.Board).placed -/
def impl_Board_placed_c (Q : Type) (b0 : List Int) (p1 : List Int) (k : (List Int) → Option Q) : Option Q :=
    bif (inR (iget p1 0) 4) then
    bif (inR (iget p1 1) 4) then
    k (iset b0 (((0 : Nat) + ((Int.toNat (iget p1 0)) * (4 : Nat))) + ((Int.toNat (iget p1 1)) * (1 : Nat))) (iget p1 2))
    else none
    else none
def impl_Board_placed_p (b0 : List Int) (p1 : List Int) : Option (List Int) := impl_Board_placed_c _ b0 p1 some
theorem impl_Board_placed_cp (Q : Type) (b0 : List Int) (p1 : List Int) (k : (List Int) → Option Q) : impl_Board_placed_c Q b0 p1 k = (impl_Board_placed_p b0 p1).bind k := by
  simp only [impl_Board_placed_p, impl_Board_placed_c, cond_bindL, none_bindL, some_bindL]

/-- loop.example/g01194/impl.ChanceOfNext$1 -/
def impl_ChanceOfNext_f1_c (Q : Type) (own0 : List Int) (a14 : List Int) (k : (Bool) → Option Q) : Option Q :=
    k (own0 == a14)
def impl_ChanceOfNext_f1_v (own0 : List Int) (a14 : List Int) : Bool :=
    (own0 == a14)
theorem impl_ChanceOfNext_f1_cv (Q : Type) (own0 : List Int) (a14 : List Int) (k : (Bool) → Option Q) : impl_ChanceOfNext_f1_c Q own0 a14 k = k (impl_ChanceOfNext_f1_v own0 a14) := by
  simp only [impl_ChanceOfNext_f1_c, impl_ChanceOfNext_f1_v, app_condL k]

/-- loop.example/g01194/impl.whole -/
def impl_whole_c (Q : Type) (n0 : Int) (k : (List Int) → Option Q) : Option Q :=
    k [n0, (1 : Int)]
def impl_whole_v (n0 : Int) : List Int :=
    [n0, (1 : Int)]
theorem impl_whole_cv (Q : Type) (n0 : Int) (k : (List Int) → Option Q) : impl_whole_c Q n0 k = k (impl_whole_v n0) := by
  simp only [impl_whole_c, impl_whole_v, app_condL k]

/-- loop.example/g01194/impl.flag -/
def impl_flag_c (Q : Type) (is0 : Bool) (k : (List Int) → Option Q) : Option Q :=
    bif is0 then
    k (impl_whole_v (1 : Int))
    else k (impl_whole_v (0 : Int))
def impl_flag_v (is0 : Bool) : List Int :=
    bif is0 then
    (impl_whole_v (1 : Int))
    else (impl_whole_v (0 : Int))
theorem impl_flag_cv (Q : Type) (is0 : Bool) (k : (List Int) → Option Q) : impl_flag_c Q is0 k = k (impl_flag_v is0) := by
  simp only [impl_flag_c, impl_flag_v, app_condL k]

/-- (loop.example/g01194/impl.Board).chance$1 -/
def impl_Board_chance_f1_c (Q : Type) (own0 : List Int) (m17 : List Int) (k : (List Int) → Option Q) : Option Q :=
    k (impl_flag_v (impl_ChanceOfNext_f1_v own0 m17))
def impl_Board_chance_f1_v (own0 : List Int) (m17 : List Int) : List Int :=
    (impl_flag_v (impl_ChanceOfNext_f1_v own0 m17))
theorem impl_Board_chance_f1_cv (Q : Type) (own0 : List Int) (m17 : List Int) (k : (List Int) → Option Q) : impl_Board_chance_f1_c Q own0 m17 k = k (impl_Board_chance_f1_v own0 m17) := by
  simp only [impl_Board_chance_f1_c, impl_Board_chance_f1_v, app_condL k]

/-- loop 2 of loop.example/g01194/impl.fraction -/
def impl_fraction_s2 (F : Nat) (num0 : Int) (den1 : Int) (Q : Type) : (Int × Int) → ((Int × Int) → Option Q) → ((Int) → Option Q) → Option Q
  | (a5, b6), kn, kx =>
    bif (!(b6 == (0 : Int))) then
    bif (b6 == (0 : Int)) then
    none
    else kn (b6, (Int.tmod a5 b6))
    else kx a5
def impl_fraction_l2 (F : Nat) (num0 : Int) (den1 : Int) (a5 : Int) (b6 : Int) : Option (Int) := loopC (impl_fraction_s2 F num0 den1) F (a5, b6) some
theorem impl_fraction_s2_nat (F : Nat) (num0 : Int) (den1 : Int) : Natural (impl_fraction_s2 F num0 den1) := by
  intro Q Q' s kn kx h
  obtain ⟨a5, b6⟩ := s
  simp only [impl_fraction_s2, cond_bindL, none_bindL]
/-- loop.example/g01194/impl.fraction -/
def impl_fraction_c (Q : Type) (F : Nat) (num0 : Int) (den1 : Int) (k : (List Int) → Option Q) : Option Q :=
    let z_1 := (impl_fraction_l2 F num0 den1 num0 den1)
    let z_2 : Bool := ((Option.getD z_1 default) == (0 : Int))
    bif (Option.isSome z_1) then
    bif z_2 then
    none
    else bif z_2 then
    none
    else k [(IntKind.wrap .i64 (Int.tdiv num0 (Option.getD z_1 default))), (IntKind.wrap .i64 (Int.tdiv den1 (Option.getD z_1 default)))]
    else none
def impl_fraction_p (F : Nat) (num0 : Int) (den1 : Int) : Option (List Int) := impl_fraction_c _ F num0 den1 some
theorem impl_fraction_cp (Q : Type) (F : Nat) (num0 : Int) (den1 : Int) (k : (List Int) → Option Q) : impl_fraction_c Q F num0 den1 k = (impl_fraction_p F num0 den1).bind k := by
  simp only [impl_fraction_p, impl_fraction_c, cond_bindL, none_bindL, some_bindL]

/-- loop.example/g01194/impl.plus -/
def impl_plus_c (Q : Type) (F : Nat) (a0 : List Int) (b1 : List Int) (k : (List Int) → Option Q) : Option Q :=
    let z_1 := (impl_fraction_p F (IntKind.wrap .i64 ((IntKind.wrap .i64 ((iget a0 0) * (iget b1 1))) + (IntKind.wrap .i64 ((iget b1 0) * (iget a0 1))))) (IntKind.wrap .i64 ((iget a0 1) * (iget b1 1))))
    bif (Option.isSome z_1) then
    k (Option.getD z_1 default)
    else none
def impl_plus_p (F : Nat) (a0 : List Int) (b1 : List Int) : Option (List Int) := impl_plus_c _ F a0 b1 some
theorem impl_plus_cp (Q : Type) (F : Nat) (a0 : List Int) (b1 : List Int) (k : (List Int) → Option Q) : impl_plus_c Q F a0 b1 k = (impl_plus_p F a0 b1).bind k := by
  simp only [impl_plus_p, impl_plus_c, cond_bindL, none_bindL, some_bindL]

/-- loop 3 of (loop.example/g01194/impl.Board).mean -/
def impl_Board_mean_impl_Board_chance_f1_s3 (F : Nat) (t1314 : Int) (m119 : List Int) (b20 : List Int) (t1223 : List (List Int)) (Q : Type) : (Int × List Int) → ((Int × List Int) → Option Q) → ((List Int) → Option Q) → Option Q
  | (t1415, sum22), kn, kx =>
    let z_1 : List Int := (rget t1223 ((0 : Nat) + (Int.toNat t1415)))
    let z_2 := (impl_Board_placed_p b20 z_1)
    let z_3 : Int := (iget (impl_Board_chance_f1_v (Option.getD z_2 default) m119) 0)
    let z_4 : Int := (iget (impl_Board_chance_f1_v (Option.getD z_2 default) m119) 1)
    let z_5 := (impl_fraction_p F (IntKind.wrap .i64 ((1 : Int) * z_3)) z_4)
    let z_6 := (impl_plus_p F sum22 (Option.getD z_5 default))
    let z_7 : Int := (IntKind.wrap .i64 (t1415 + (1 : Int)))
    let z_8 := (impl_fraction_p F (IntKind.wrap .i64 ((9 : Int) * z_3)) z_4)
    let z_9 := (impl_plus_p F sum22 (Option.getD z_8 default))
    bif (decide (t1415 < t1314)) then
    bif (inR t1415 (List.length t1223)) then
    bif (Option.isSome z_2) then
    bif ((iget z_1 2) == (2 : Int)) then
    bif (Option.isSome z_5) then
    bif (Option.isSome z_6) then
    kn (z_7, (Option.getD z_6 default))
    else none
    else none
    else bif (Option.isSome z_8) then
    bif (Option.isSome z_9) then
    kn (z_7, (Option.getD z_9 default))
    else none
    else none
    else none
    else none
    else kx sum22
def impl_Board_mean_impl_Board_chance_f1_l3 (F : Nat) (t1314 : Int) (m119 : List Int) (b20 : List Int) (t1223 : List (List Int)) (t1415 : Int) (sum22 : List Int) : Option (List Int) := loopC (impl_Board_mean_impl_Board_chance_f1_s3 F t1314 m119 b20 t1223) F (t1415, sum22) some
theorem impl_Board_mean_impl_Board_chance_f1_s3_nat (F : Nat) (t1314 : Int) (m119 : List Int) (b20 : List Int) (t1223 : List (List Int)) : Natural (impl_Board_mean_impl_Board_chance_f1_s3 F t1314 m119 b20 t1223) := by
  intro Q Q' s kn kx h
  obtain ⟨t1415, sum22⟩ := s
  simp only [impl_Board_mean_impl_Board_chance_f1_s3, cond_bindL, none_bindL]
/-- (loop.example/g01194/impl.Board).mean -/
def impl_Board_mean_impl_Board_chance_f1_c (Q : Type) (F : Nat) (b0 : List Int) (m17 : List Int) (k : (List Int) → Option Q) : Option Q :=
    let z_1 := (impl_Board_placements_p F b0)
    let z_2 : Nat := (List.length (Option.getD z_1 default))
    let z_3 := (impl_Board_mean_impl_Board_chance_f1_l3 F ((z_2 : Nat) : Int) m17 b0 (Option.getD z_1 default) (0 : Int) [(0 : Int), (1 : Int)])
    let z_4 := (impl_Board_empty_p F b0)
    let z_5 := (impl_fraction_p F (iget (Option.getD z_3 default) 0) (IntKind.wrap .i64 ((IntKind.wrap .i64 ((iget (Option.getD z_3 default) 1) * (10 : Int))) * (((Option.getD z_4 default).1 : Nat) : Int))))
    bif (Option.isSome z_1) then
    bif ((Nat.beq z_2 z_2) && (Option.isSome z_3)) then
    bif (Option.isSome z_4) then
    bif (Option.isSome z_5) then
    k (Option.getD z_5 default)
    else none
    else none
    else none
    else none
def impl_Board_mean_impl_Board_chance_f1_p (F : Nat) (b0 : List Int) (m17 : List Int) : Option (List Int) := impl_Board_mean_impl_Board_chance_f1_c _ F b0 m17 some
theorem impl_Board_mean_impl_Board_chance_f1_cp (Q : Type) (F : Nat) (b0 : List Int) (m17 : List Int) (k : (List Int) → Option Q) : impl_Board_mean_impl_Board_chance_f1_c Q F b0 m17 k = (impl_Board_mean_impl_Board_chance_f1_p F b0 m17).bind k := by
  simp only [impl_Board_mean_impl_Board_chance_f1_p, impl_Board_mean_impl_Board_chance_f1_c, cond_bindL, none_bindL, some_bindL]

/-- (loop.example/g01194/impl.Board).chance -/
def impl_Board_chance_impl_ChanceOfNext_f1_c (Q : Type) (F : Nat) (b0 : List Int) (direction1 : Int) (is5 : List Int) (k : (List Int × Bool) → Option Q) : Option Q :=
    let z_1 := (impl_Board_isMove_p F b0 direction1)
    let z_2 := (impl_Board_slides_p F b0 [direction1])
    let z_3 := (impl_Board_mean_impl_Board_chance_f1_p F (Option.getD z_2 default) is5)
    bif (Option.isSome z_1) then
    bif (!(Option.getD z_1 default)) then
    k ([(0 : Int), (0 : Int)], false)
    else bif (Option.isSome z_2) then
    bif (Option.isSome z_3) then
    k ((Option.getD z_3 default), true)
    else none
    else none
    else none
def impl_Board_chance_impl_ChanceOfNext_f1_p (F : Nat) (b0 : List Int) (direction1 : Int) (is5 : List Int) : Option (List Int × Bool) := impl_Board_chance_impl_ChanceOfNext_f1_c _ F b0 direction1 is5 some
theorem impl_Board_chance_impl_ChanceOfNext_f1_cp (Q : Type) (F : Nat) (b0 : List Int) (direction1 : Int) (is5 : List Int) (k : (List Int × Bool) → Option Q) : impl_Board_chance_impl_ChanceOfNext_f1_c Q F b0 direction1 is5 k = (impl_Board_chance_impl_ChanceOfNext_f1_p F b0 direction1 is5).bind k := by
  simp only [impl_Board_chance_impl_ChanceOfNext_f1_p, impl_Board_chance_impl_ChanceOfNext_f1_c, cond_bindL, none_bindL, some_bindL]

/-- loop.example/g01194/impl.ChanceOfNext -/
def impl_ChanceOfNext_c (Q : Type) (F : Nat) (a0 : List Int) (direction1 : Int) (b2 : List Int) (k : (List Int × Bool) → Option Q) : Option Q :=
    let z_1 := (impl_IsBoard_p F b2)
    let z_2 := (impl_Board_chance_impl_ChanceOfNext_f1_p F a0 direction1 b2)
    let z_3 := (Option.getD z_2 default)
    bif (Option.isSome z_1) then
    bif (!(Option.getD z_1 default)) then
    k ([(0 : Int), (0 : Int)], false)
    else bif (Option.isSome z_2) then
    k (z_3.1, z_3.2)
    else none
    else none
def impl_ChanceOfNext_p (F : Nat) (a0 : List Int) (direction1 : Int) (b2 : List Int) : Option (List Int × Bool) := impl_ChanceOfNext_c _ F a0 direction1 b2 some
theorem impl_ChanceOfNext_cp (Q : Type) (F : Nat) (a0 : List Int) (direction1 : Int) (b2 : List Int) (k : (List Int × Bool) → Option Q) : impl_ChanceOfNext_c Q F a0 direction1 b2 k = (impl_ChanceOfNext_p F a0 direction1 b2).bind k := by
  simp only [impl_ChanceOfNext_p, impl_ChanceOfNext_c, cond_bindL, none_bindL, some_bindL]

/-- loop 2 of loop.example/g01194/laws.eqIntA2 -/
def laws_eqIntA2_s2 (F : Nat) (a7 : List Int) (b8 : List Int) (Q : Type) : (Int) → ((Int) → Option Q) → ((Bool) → Option Q) → Option Q
  | i6, kn, kx =>
    let z_1 : Nat := ((0 : Nat) + ((Int.toNat i6) * (1 : Nat)))
    bif (decide (i6 < (2 : Int))) then
    bif (inR i6 2) then
    bif (inR i6 2) then
    bif (!((iget a7 z_1) == (iget b8 z_1))) then
    kx true
    else kn (IntKind.wrap .i64 (i6 + (1 : Int)))
    else none
    else none
    else kx false
def laws_eqIntA2_l2 (F : Nat) (a7 : List Int) (b8 : List Int) (i6 : Int) : Option (Bool) := loopC (laws_eqIntA2_s2 F a7 b8) F i6 some
theorem laws_eqIntA2_s2_nat (F : Nat) (a7 : List Int) (b8 : List Int) : Natural (laws_eqIntA2_s2 F a7 b8) := by
  intro Q Q' s kn kx h
  simp only [laws_eqIntA2_s2, cond_bindL, none_bindL]
/-- loop.example/g01194/laws.eqIntA2 -/
def laws_eqIntA2_c (Q : Type) (F : Nat) (a0 : List Int) (b1 : List Int) (k : (Bool) → Option Q) : Option Q :=
    let z_1 := (laws_eqIntA2_l2 F a0 b1 (0 : Int))
    bif (Option.isSome z_1) then
    bif (Option.getD z_1 default) then
    k false
    else k true
    else none
def laws_eqIntA2_p (F : Nat) (a0 : List Int) (b1 : List Int) : Option (Bool) := laws_eqIntA2_c _ F a0 b1 some
theorem laws_eqIntA2_cp (Q : Type) (F : Nat) (a0 : List Int) (b1 : List Int) (k : (Bool) → Option Q) : laws_eqIntA2_c Q F a0 b1 k = (laws_eqIntA2_p F a0 b1).bind k := by
  simp only [laws_eqIntA2_p, laws_eqIntA2_c, cond_bindL, none_bindL, some_bindL]

/-- loop.example/g01194/laws.FnExactChanceOfNext -/
def laws_FnExactChanceOfNext_c (Q : Type) (F : Nat) (aA0 : List Int) (aDirection1 : Int) (aB2 : List Int) (k : (Bool) → Option Q) : Option Q :=
    let z_1 := (spec_ChanceOfNext_p F (laws_toBoard_v aA0) aDirection1 (laws_toBoard_v aB2))
    let z_2 := (impl_ChanceOfNext_p F (laws_toBoard_v aA0) aDirection1 (laws_toBoard_v aB2))
    let z_3 := (Option.getD z_2 default)
    let z_4 := (Option.getD z_1 default)
    let z_5 := (laws_eqIntA2_p F z_3.1 z_4.1)
    bif (Option.isSome z_1) then
    bif (Option.isSome z_2) then
    bif (Option.isSome z_5) then
    bif (!(Option.getD z_5 default)) then
    k false
    else bif (!(z_3.2 == z_4.2)) then
    k false
    else k true
    else none
    else none
    else none
def laws_FnExactChanceOfNext_p (F : Nat) (aA0 : List Int) (aDirection1 : Int) (aB2 : List Int) : Option (Bool) := laws_FnExactChanceOfNext_c _ F aA0 aDirection1 aB2 some
theorem laws_FnExactChanceOfNext_cp (Q : Type) (F : Nat) (aA0 : List Int) (aDirection1 : Int) (aB2 : List Int) (k : (Bool) → Option Q) : laws_FnExactChanceOfNext_c Q F aA0 aDirection1 aB2 k = (laws_FnExactChanceOfNext_p F aA0 aDirection1 aB2).bind k := by
  simp only [laws_FnExactChanceOfNext_p, laws_FnExactChanceOfNext_c, cond_bindL, none_bindL, some_bindL]

/-- loop.example/g01194/laws.toIntA2 -/
def laws_toIntA2_c (Q : Type) (a0 : List Int) (k : (List Int) → Option Q) : Option Q :=
    k [(iget a0 0), (iget a0 1)]
def laws_toIntA2_v (a0 : List Int) : List Int :=
    [(iget a0 0), (iget a0 1)]
theorem laws_toIntA2_cv (Q : Type) (a0 : List Int) (k : (List Int) → Option Q) : laws_toIntA2_c Q a0 k = k (laws_toIntA2_v a0) := by
  simp only [laws_toIntA2_c, laws_toIntA2_v, app_condL k]

/-- loop 6 of loop.example/g01194/spec.ChanceOfTile -/
def spec_ChanceOfTile_s6 (F : Nat) (t0 : Int) (cell14 : List Int) (steps16 : List (List Int)) (all18 : List (List Int)) (Q : Type) : (Int × List Int) → ((Int × List Int) → Option Q) → ((List Int) → Option Q) → Option Q
  | (i13, numbers17), kn, kx =>
    let z_1 := (spec_l2At_p (rget all18 ((0 : Nat) + (Int.toNat i13))) cell14)
    let z_2 : List Int := ((subn (List.length numbers17) numbers17 0 (List.length numbers17)) ++ [(spec_l9One_v ((Option.getD z_1 default) == t0))])
    bif (decide (i13 < (((List.length all18) : Nat) : Int))) then
    bif (inR i13 (List.length all18)) then
    bif (Option.isSome z_1) then
    bif (fits (List.length z_2) 8) then
    kn ((IntKind.wrap .i64 (i13 + (1 : Int))), z_2)
    else none
    else none
    else none
    else kx numbers17
def spec_ChanceOfTile_l6 (F : Nat) (t0 : Int) (cell14 : List Int) (steps16 : List (List Int)) (all18 : List (List Int)) (i13 : Int) (numbers17 : List Int) : Option (List Int) := loopC (spec_ChanceOfTile_s6 F t0 cell14 steps16 all18) F (i13, numbers17) some
theorem spec_ChanceOfTile_s6_nat (F : Nat) (t0 : Int) (cell14 : List Int) (steps16 : List (List Int)) (all18 : List (List Int)) : Natural (spec_ChanceOfTile_s6 F t0 cell14 steps16 all18) := by
  intro Q Q' s kn kx h
  obtain ⟨i13, numbers17⟩ := s
  simp only [spec_ChanceOfTile_s6, cond_bindL, none_bindL]
/-- loop.example/g01194/spec.ChanceOfTile -/
def spec_ChanceOfTile_c (Q : Type) (F : Nat) (b0 : List Int) (direction1 : Int) (cell2 : List Int) (t3 : Int) (k : (List Int × Bool) → Option Q) : Option Q :=
    let z_1 := (spec_l9Move_p F b0 direction1)
    let z_2 := (spec_l5Steps_p F b0 direction1)
    let z_3 : Nat := (List.length (Option.getD z_2 default))
    let z_4 : List (List Int) := (subn z_3 (Option.getD z_2 default) 0 z_3)
    let z_5 := (spec_l9Boards_p F b0 z_4)
    let z_6 : Nat := (List.length (Option.getD z_5 default))
    let z_7 := (spec_ChanceOfTile_l6 F t3 cell2 (Option.getD z_2 default) (Option.getD z_5 default) (0 : Int) ([] : List Int))
    let z_8 : Nat := (List.length (Option.getD z_7 default))
    let z_9 := (spec_l9Mean_p F z_4 (subn z_8 (Option.getD z_7 default) 0 z_8))
    bif (Option.isSome z_1) then
    bif (!(Option.getD z_1 default)) then
    k ([(0 : Int), (0 : Int)], false)
    else bif (!(spec_l2Cell_v cell2)) then
    k ([(0 : Int), (0 : Int)], false)
    else bif (!(spec_l1In_v t3 (0 : Int) (17 : Int))) then
    k ([(0 : Int), (0 : Int)], false)
    else bif (Option.isSome z_2) then
    bif (Option.isSome z_5) then
    bif ((Nat.beq z_3 z_3) && ((Nat.beq z_6 z_6) && (Option.isSome z_7))) then
    bif (Option.isSome z_9) then
    k ((Option.getD z_9 default), true)
    else none
    else none
    else none
    else none
    else none
def spec_ChanceOfTile_p (F : Nat) (b0 : List Int) (direction1 : Int) (cell2 : List Int) (t3 : Int) : Option (List Int × Bool) := spec_ChanceOfTile_c _ F b0 direction1 cell2 t3 some
theorem spec_ChanceOfTile_cp (Q : Type) (F : Nat) (b0 : List Int) (direction1 : Int) (cell2 : List Int) (t3 : Int) (k : (List Int × Bool) → Option Q) : spec_ChanceOfTile_c Q F b0 direction1 cell2 t3 k = (spec_ChanceOfTile_p F b0 direction1 cell2 t3).bind k := by
  simp only [spec_ChanceOfTile_p, spec_ChanceOfTile_c, cond_bindL, none_bindL, some_bindL]

/-- loop.example/g01194/impl.isCell -/
def impl_isCell_c (Q : Type) (cell0 : List Int) (k : (Bool) → Option Q) : Option Q :=
    bif (impl_in_v (iget cell0 0) (0 : Int) (3 : Int)) then
    k (impl_in_v (iget cell0 1) (0 : Int) (3 : Int))
    else k false
def impl_isCell_v (cell0 : List Int) : Bool :=
    bif (impl_in_v (iget cell0 0) (0 : Int) (3 : Int)) then
    (impl_in_v (iget cell0 1) (0 : Int) (3 : Int))
    else false
theorem impl_isCell_cv (Q : Type) (cell0 : List Int) (k : (Bool) → Option Q) : impl_isCell_c Q cell0 k = k (impl_isCell_v cell0) := by
  simp only [impl_isCell_c, impl_isCell_v, app_condL k]
end Go.Lv.P
