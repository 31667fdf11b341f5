/-
Pure functions and what the code of them does, by program; without conditions.
-/
import Derived.Test.YtabfliifleonaaeQeP2
namespace Go.Lv.P
open Go Go.Lv
set_option linter.unusedVariables false
set_option linter.unusedSimpArgs false
set_option maxRecDepth 100000
/-- loop 5 of loop.example/g01194/spec.l7Least -/
def spec_l7Least_s5 (F : Nat) (t3 : Int) (Q : Type) : (Int × List Int) → ((Int × List Int) → Option Q) → ((Int × List Int) → Option Q) → Option Q
  | (sum0, out4), kn, kx =>
    let z_1 : List Int := ((subn (List.length out4) out4 0 (List.length out4)) ++ [t3])
    bif (Option.isSome (spec_l2Worth_p t3)) then
    bif (decide ((Option.getD (spec_l2Worth_p t3) default) ≤ sum0)) then
    bif (fits (List.length z_1) 8) then
    bif (Option.isSome (spec_l2Worth_p t3)) then
    kn ((IntKind.wrap .i64 (sum0 - (Option.getD (spec_l2Worth_p t3) default))), z_1)
    else none
    else none
    else kx (sum0, out4)
    else none
def spec_l7Least_l5 (F : Nat) (t3 : Int) (sum0 : Int) (out4 : List Int) : Option (Int × List Int) := loopC (spec_l7Least_s5 F t3) F (sum0, out4) some
theorem spec_l7Least_s5_nat (F : Nat) (t3 : Int) : Natural (spec_l7Least_s5 F t3) := by
  intro Q Q' s kn kx h
  obtain ⟨sum0, out4⟩ := s
  simp only [spec_l7Least_s5, cond_bindL, none_bindL]
/-- loop 3 of loop.example/g01194/spec.l7Least -/
def spec_l7Least_s3 (F : Nat) (Q : Type) : (Int × Int × List Int) → ((Int × Int × List Int) → Option Q) → ((List Int) → Option Q) → Option Q
  | (sum0, t3, out4), kn, kx =>
    let z_1 := (spec_l7Least_l5 F t3 sum0 out4)
    let z_2 := (Option.getD z_1 default)
    bif (decide ((0 : Int) < t3)) then
    bif ((Nat.beq (List.length out4) (List.length out4)) && (Option.isSome z_1)) then
    kn (z_2.1, (IntKind.wrap .i64 (t3 - (1 : Int))), z_2.2)
    else none
    else kx out4
def spec_l7Least_l3 (F : Nat) (sum0 : Int) (t3 : Int) (out4 : List Int) : Option (List Int) := loopC (spec_l7Least_s3 F) F (sum0, t3, out4) some
theorem spec_l7Least_s3_nat (F : Nat) : Natural (spec_l7Least_s3 F) := by
  intro Q Q' s kn kx h
  obtain ⟨sum0, t3, out4⟩ := s
  simp only [spec_l7Least_s3, cond_bindL, none_bindL]
/-- loop.example/g01194/spec.l7Least -/
def spec_l7Least_c (Q : Type) (F : Nat) (sum0 : Int) (k : (List Int) → Option Q) : Option Q :=
    let z_1 := (spec_l7Least_l3 F sum0 (17 : Int) ([] : List Int))
    bif (Option.isSome z_1) then
    k (Option.getD z_1 default)
    else none
def spec_l7Least_p (F : Nat) (sum0 : Int) : Option (List Int) := spec_l7Least_c _ F sum0 some
theorem spec_l7Least_cp (Q : Type) (F : Nat) (sum0 : Int) (k : (List Int) → Option Q) : spec_l7Least_c Q F sum0 k = (spec_l7Least_p F sum0).bind k := by
  simp only [spec_l7Least_p, spec_l7Least_c, cond_bindL, none_bindL, some_bindL]

/-- loop.example/g01194/spec.l7Sum -/
def spec_l7Sum_c (Q : Type) (F : Nat) (sum0 : Int) (k : (Bool) → Option Q) : Option Q :=
    let z_1 := (spec_l7Least_p F sum0)
    bif (spec_l1In_v sum0 (0 : Int) (2097152 : Int)) then
    bif ((Int.tmod sum0 (2 : Int)) == (0 : Int)) then
    bif (Option.isSome z_1) then
    k (decide ((((List.length (Option.getD z_1 default)) : Nat) : Int) ≤ (16 : Int)))
    else none
    else k false
    else k false
def spec_l7Sum_p (F : Nat) (sum0 : Int) : Option (Bool) := spec_l7Sum_c _ F sum0 some
theorem spec_l7Sum_cp (Q : Type) (F : Nat) (sum0 : Int) (k : (Bool) → Option Q) : spec_l7Sum_c Q F sum0 k = (spec_l7Sum_p F sum0).bind k := by
  simp only [spec_l7Sum_p, spec_l7Sum_c, cond_bindL, none_bindL, some_bindL]

/-- loop 5 of loop.example/g01194/spec.PackedBoard -/
def spec_PackedBoard_s5 (F : Nat) (list11 : List Int) (Q : Type) : (Int × List Int) → ((Int × List Int) → Option Q) → ((List Int) → Option Q) → Option Q
  | (i8, b10), kn, kx =>
    let z_1 := (spec_l2Put_p b10 [(IntKind.wrap .i64 (Int.tdiv i8 (4 : Int))), (Int.tmod i8 (4 : Int))] (iget list11 ((0 : Nat) + (Int.toNat i8))))
    bif (decide (i8 < (((List.length list11) : Nat) : Int))) then
    bif (inR i8 (List.length list11)) then
    bif (Option.isSome z_1) then
    kn ((IntKind.wrap .i64 (i8 + (1 : Int))), (Option.getD z_1 default))
    else none
    else none
    else kx b10
def spec_PackedBoard_l5 (F : Nat) (list11 : List Int) (i8 : Int) (b10 : List Int) : Option (List Int) := loopC (spec_PackedBoard_s5 F list11) F (i8, b10) some
theorem spec_PackedBoard_s5_nat (F : Nat) (list11 : List Int) : Natural (spec_PackedBoard_s5 F list11) := by
  intro Q Q' s kn kx h
  obtain ⟨i8, b10⟩ := s
  simp only [spec_PackedBoard_s5, cond_bindL, none_bindL]
/-- loop.example/g01194/spec.PackedBoard -/
def spec_PackedBoard_c (Q : Type) (F : Nat) (sum0 : Int) (k : (List Int × Bool) → Option Q) : Option Q :=
    let z_1 := (spec_l7Sum_p F sum0)
    let z_2 : List Int := [(0 : Int), (0 : Int), (0 : Int), (0 : Int), (0 : Int), (0 : Int), (0 : Int), (0 : Int), (0 : Int), (0 : Int), (0 : Int), (0 : Int), (0 : Int), (0 : Int), (0 : Int), (0 : Int)]
    let z_3 := (spec_l7Least_p F sum0)
    let z_4 : Nat := (List.length (Option.getD z_3 default))
    let z_5 := (spec_PackedBoard_l5 F (Option.getD z_3 default) (0 : Int) z_2)
    bif (Option.isSome z_1) then
    bif (!(Option.getD z_1 default)) then
    k (z_2, false)
    else bif (Option.isSome z_3) then
    bif ((Nat.beq z_4 z_4) && (Option.isSome z_5)) then
    k ((Option.getD z_5 default), true)
    else none
    else none
    else none
def spec_PackedBoard_p (F : Nat) (sum0 : Int) : Option (List Int × Bool) := spec_PackedBoard_c _ F sum0 some
theorem spec_PackedBoard_cp (Q : Type) (F : Nat) (sum0 : Int) (k : (List Int × Bool) → Option Q) : spec_PackedBoard_c Q F sum0 k = (spec_PackedBoard_p F sum0).bind k := by
  simp only [spec_PackedBoard_p, spec_PackedBoard_c, cond_bindL, none_bindL, some_bindL]

/-- loop.example/g01194/spec.DrawIsPackedBoard -/
def spec_DrawIsPackedBoard_c (Q : Type) (F : Nat) (code0 : List Int) (k : (List Int) → Option Q) : Option Q :=
    let z_1 := (spec_l1Cur_board_p F code0 (0 : Int) (0 : Int))
    let z_2 := (Option.getD z_1 default)
    let z_3 := (spec_l1Cur_one_p (2 : Int) code0 z_2.2.1 z_2.2.2)
    let z_4 := (Option.getD z_3 default)
    let z_5 := (spec_l1Cur_sum7_p code0 z_4.2.1 z_4.2.2)
    let z_6 := (spec_PackedBoard_p F (Option.getD z_5 default).1)
    bif (Option.isSome z_1) then
    bif (Option.isSome z_3) then
    bif z_4.1 then
    bif (Option.isSome z_5) then
    bif (Option.isSome z_6) then
    k (Option.getD z_6 default).1
    else none
    else none
    else k z_2.1
    else none
    else none
def spec_DrawIsPackedBoard_p (F : Nat) (code0 : List Int) : Option (List Int) := spec_DrawIsPackedBoard_c _ F code0 some
theorem spec_DrawIsPackedBoard_cp (Q : Type) (F : Nat) (code0 : List Int) (k : (List Int) → Option Q) : spec_DrawIsPackedBoard_c Q F code0 k = (spec_DrawIsPackedBoard_p F code0).bind k := by
  simp only [spec_DrawIsPackedBoard_p, spec_DrawIsPackedBoard_c, cond_bindL, none_bindL, some_bindL]

/-- loop 5 of loop.example/g01194/impl.CountTiles -/
def impl_CountTiles_s5 (F : Nat) (b13 : List Int) (Q : Type) : (Int × List Int) → ((Int × List Int) → Option Q) → ((List Int) → Option Q) → Option Q
  | (t1412, out15), kn, kx =>
    let z_1 := (impl_Board_at_p (rget [[(0 : Int), (0 : Int)], [(0 : Int), (1 : Int)], [(0 : Int), (2 : Int)], [(0 : Int), (3 : Int)], [(1 : Int), (0 : Int)], [(1 : Int), (1 : Int)], [(1 : Int), (2 : Int)], [(1 : Int), (3 : Int)], [(2 : Int), (0 : Int)], [(2 : Int), (1 : Int)], [(2 : Int), (2 : Int)], [(2 : Int), (3 : Int)], [(3 : Int), (0 : Int)], [(3 : Int), (1 : Int)], [(3 : Int), (2 : Int)], [(3 : Int), (3 : Int)]] ((0 : Nat) + (Int.toNat t1412))) b13)
    let z_2 : Int := (iget b13 (Option.getD z_1 default))
    let z_3 : Bool := (inR z_2 18)
    let z_4 : Nat := ((0 : Nat) + ((Int.toNat z_2) * (1 : Nat)))
    bif (decide (t1412 < (16 : Int))) then
    bif (inR t1412 16) then
    bif (Option.isSome z_1) then
    bif z_3 then
    bif z_3 then
    kn ((IntKind.wrap .i64 (t1412 + (1 : Int))), (iset out15 z_4 (IntKind.wrap .i64 ((iget out15 z_4) + (1 : Int)))))
    else none
    else none
    else none
    else none
    else kx out15
def impl_CountTiles_l5 (F : Nat) (b13 : List Int) (t1412 : Int) (out15 : List Int) : Option (List Int) := loopC (impl_CountTiles_s5 F b13) F (t1412, out15) some
theorem impl_CountTiles_s5_nat (F : Nat) (b13 : List Int) : Natural (impl_CountTiles_s5 F b13) := by
  intro Q Q' s kn kx h
  obtain ⟨t1412, out15⟩ := s
  simp only [impl_CountTiles_s5, cond_bindL, none_bindL]
/-- loop.example/g01194/impl.CountTiles -/
def impl_CountTiles_c (Q : Type) (F : Nat) (b0 : List Int) (k : (List Int × Bool) → Option Q) : Option Q :=
    let z_1 := (impl_IsBoard_p F b0)
    let z_2 : List Int := [(0 : Int), (0 : Int), (0 : Int), (0 : Int), (0 : Int), (0 : Int), (0 : Int), (0 : Int), (0 : Int), (0 : Int), (0 : Int), (0 : Int), (0 : Int), (0 : Int), (0 : Int), (0 : Int), (0 : Int), (0 : Int)]
    let z_3 := (impl_CountTiles_l5 F b0 (0 : Int) z_2)
    bif (Option.isSome z_1) then
    bif (!(Option.getD z_1 default)) then
    k (z_2, false)
    else bif (Option.isSome z_3) then
    k ((Option.getD z_3 default), true)
    else none
    else none
def impl_CountTiles_p (F : Nat) (b0 : List Int) : Option (List Int × Bool) := impl_CountTiles_c _ F b0 some
theorem impl_CountTiles_cp (Q : Type) (F : Nat) (b0 : List Int) (k : (List Int × Bool) → Option Q) : impl_CountTiles_c Q F b0 k = (impl_CountTiles_p F b0).bind k := by
  simp only [impl_CountTiles_p, impl_CountTiles_c, cond_bindL, none_bindL, some_bindL]

/-- loop.example/g01194/impl.IsPackedBoard$1 -/
def impl_IsPackedBoard_f1_c (Q : Type) (n0 : Int) (k : (Bool) → Option Q) : Option Q :=
    k (decide ((1 : Int) < n0))
def impl_IsPackedBoard_f1_v (n0 : Int) : Bool :=
    (decide ((1 : Int) < n0))
theorem impl_IsPackedBoard_f1_cv (Q : Type) (n0 : Int) (k : (Bool) → Option Q) : impl_IsPackedBoard_f1_c Q n0 k = k (impl_IsPackedBoard_f1_v n0) := by
  simp only [impl_IsPackedBoard_f1_c, impl_IsPackedBoard_f1_v, app_condL k]

/-- loop 2 of slices.IndexFunc[[]int,int] -/
def slices_IndexFunc_intint_impl_IsPackedBoard_f1_s2 (F : Nat) (s0 : List Int) (t71 : Int) (Q : Type) : (Int) → ((Int) → Option Q) → ((Bool × Int) → Option Q) → Option Q
  | t82, kn, kx =>
    bif (decide (t82 < t71)) then
    bif (inR t82 (List.length s0)) then
    bif (impl_IsPackedBoard_f1_v (iget s0 (Int.toNat t82))) then
    kx (true, t82)
    else kn (IntKind.wrap .i64 (t82 + (1 : Int)))
    else none
    else kx (false, default)
def slices_IndexFunc_intint_impl_IsPackedBoard_f1_l2 (F : Nat) (s0 : List Int) (t71 : Int) (t82 : Int) : Option (Bool × Int) := loopC (slices_IndexFunc_intint_impl_IsPackedBoard_f1_s2 F s0 t71) F t82 some
theorem slices_IndexFunc_intint_impl_IsPackedBoard_f1_s2_nat (F : Nat) (s0 : List Int) (t71 : Int) : Natural (slices_IndexFunc_intint_impl_IsPackedBoard_f1_s2 F s0 t71) := by
  intro Q Q' s kn kx h
  simp only [slices_IndexFunc_intint_impl_IsPackedBoard_f1_s2, cond_bindL, none_bindL]
/-- slices.IndexFunc[[]int,int] -/
def slices_IndexFunc_intint_impl_IsPackedBoard_f1_c (Q : Type) (F : Nat) (s0 : List Int) (k : (Int) → Option Q) : Option Q :=
    let z_1 := (slices_IndexFunc_intint_impl_IsPackedBoard_f1_l2 F s0 (((List.length s0) : Nat) : Int) (0 : Int))
    let z_2 := (Option.getD z_1 default)
    bif (Option.isSome z_1) then
    bif z_2.1 then
    k z_2.2
    else k (-1 : Int)
    else none
def slices_IndexFunc_intint_impl_IsPackedBoard_f1_p (F : Nat) (s0 : List Int) : Option (Int) := slices_IndexFunc_intint_impl_IsPackedBoard_f1_c _ F s0 some
theorem slices_IndexFunc_intint_impl_IsPackedBoard_f1_cp (Q : Type) (F : Nat) (s0 : List Int) (k : (Int) → Option Q) : slices_IndexFunc_intint_impl_IsPackedBoard_f1_c Q F s0 k = (slices_IndexFunc_intint_impl_IsPackedBoard_f1_p F s0).bind k := by
  simp only [slices_IndexFunc_intint_impl_IsPackedBoard_f1_p, slices_IndexFunc_intint_impl_IsPackedBoard_f1_c, cond_bindL, none_bindL, some_bindL]

/-- slices.ContainsFunc[[]int,int] -/
def slices_ContainsFunc_intint_impl_IsPackedBoard_f1_c (Q : Type) (F : Nat) (s0 : List Int) (k : (Bool) → Option Q) : Option Q :=
    let z_1 := (slices_IndexFunc_intint_impl_IsPackedBoard_f1_p F s0)
    bif (Option.isSome z_1) then
    k (decide ((0 : Int) ≤ (Option.getD z_1 default)))
    else none
def slices_ContainsFunc_intint_impl_IsPackedBoard_f1_p (F : Nat) (s0 : List Int) : Option (Bool) := slices_ContainsFunc_intint_impl_IsPackedBoard_f1_c _ F s0 some
theorem slices_ContainsFunc_intint_impl_IsPackedBoard_f1_cp (Q : Type) (F : Nat) (s0 : List Int) (k : (Bool) → Option Q) : slices_ContainsFunc_intint_impl_IsPackedBoard_f1_c Q F s0 k = (slices_ContainsFunc_intint_impl_IsPackedBoard_f1_p F s0).bind k := by
  simp only [slices_ContainsFunc_intint_impl_IsPackedBoard_f1_p, slices_ContainsFunc_intint_impl_IsPackedBoard_f1_c, cond_bindL, none_bindL, some_bindL]

/-- loop.example/g01194/impl.IsPackedBoard -/
def impl_IsPackedBoard_c (Q : Type) (F : Nat) (b0 : List Int) (k : (Bool × Bool) → Option Q) : Option Q :=
    let z_1 := (impl_CountTiles_p F b0)
    let z_2 := (Option.getD z_1 default)
    let z_3 := (slices_ContainsFunc_intint_impl_IsPackedBoard_f1_p F (sub z_2.1 1 17))
    bif (Option.isSome z_1) then
    bif z_2.2 then
    bif (Option.isSome z_3) then
    k ((!(Option.getD z_3 default)), z_2.2)
    else none
    else k (false, z_2.2)
    else none
def impl_IsPackedBoard_p (F : Nat) (b0 : List Int) : Option (Bool × Bool) := impl_IsPackedBoard_c _ F b0 some
theorem impl_IsPackedBoard_cp (Q : Type) (F : Nat) (b0 : List Int) (k : (Bool × Bool) → Option Q) : impl_IsPackedBoard_c Q F b0 k = (impl_IsPackedBoard_p F b0).bind k := by
  simp only [impl_IsPackedBoard_p, impl_IsPackedBoard_c, cond_bindL, none_bindL, some_bindL]

/-- loop 5 of loop.example/g01194/spec.CountTiles -/
def spec_CountTiles_s5 (F : Nat) (b10 : List Int) (Q : Type) : (Int × List Int) → ((Int × List Int) → Option Q) → ((List Int) → Option Q) → Option Q
  | (r9, out12), kn, kx =>
    let z_1 : Nat := ((0 : Nat) + ((Int.toNat r9) * (4 : Nat)))
    let z_2 : Int := (iget b10 z_1)
    let z_3 : Bool := (inR z_2 18)
    let z_4 : Int := (iget b10 (z_1 + (1 : Nat)))
    let z_5 : Bool := (inR z_4 18)
    let z_6 : Int := (iget b10 (z_1 + (2 : Nat)))
    let z_7 : Bool := (inR z_6 18)
    let z_8 : Int := (iget b10 (z_1 + (3 : Nat)))
    let z_9 : Bool := (inR z_8 18)
    let z_10 : Nat := ((0 : Nat) + ((Int.toNat z_2) * (1 : Nat)))
    let z_11 : List Int := (iset out12 z_10 (IntKind.wrap .i64 ((iget out12 z_10) + (1 : Int))))
    let z_12 : Nat := ((0 : Nat) + ((Int.toNat z_4) * (1 : Nat)))
    let z_13 : List Int := (iset z_11 z_12 (IntKind.wrap .i64 ((iget z_11 z_12) + (1 : Int))))
    let z_14 : Nat := ((0 : Nat) + ((Int.toNat z_6) * (1 : Nat)))
    let z_15 : List Int := (iset z_13 z_14 (IntKind.wrap .i64 ((iget z_13 z_14) + (1 : Int))))
    let z_16 : Nat := ((0 : Nat) + ((Int.toNat z_8) * (1 : Nat)))
    bif (decide (r9 < (4 : Int))) then
    bif (inR r9 4) then
    bif z_3 then
    bif z_3 then
    bif (inR r9 4) then
    bif z_5 then
    bif z_5 then
    bif (inR r9 4) then
    bif z_7 then
    bif z_7 then
    bif (inR r9 4) then
    bif z_9 then
    bif z_9 then
    kn ((IntKind.wrap .i64 (r9 + (1 : Int))), (iset z_15 z_16 (IntKind.wrap .i64 ((iget z_15 z_16) + (1 : Int)))))
    else none
    else none
    else none
    else none
    else none
    else none
    else none
    else none
    else none
    else none
    else none
    else none
    else kx out12
def spec_CountTiles_l5 (F : Nat) (b10 : List Int) (r9 : Int) (out12 : List Int) : Option (List Int) := loopC (spec_CountTiles_s5 F b10) F (r9, out12) some
theorem spec_CountTiles_s5_nat (F : Nat) (b10 : List Int) : Natural (spec_CountTiles_s5 F b10) := by
  intro Q Q' s kn kx h
  obtain ⟨r9, out12⟩ := s
  simp only [spec_CountTiles_s5, cond_bindL, none_bindL]
/-- loop.example/g01194/spec.CountTiles -/
def spec_CountTiles_c (Q : Type) (F : Nat) (b0 : List Int) (k : (List Int × Bool) → Option Q) : Option Q :=
    let z_1 := (spec_l2Board_p F b0)
    let z_2 : List Int := [(0 : Int), (0 : Int), (0 : Int), (0 : Int), (0 : Int), (0 : Int), (0 : Int), (0 : Int), (0 : Int), (0 : Int), (0 : Int), (0 : Int), (0 : Int), (0 : Int), (0 : Int), (0 : Int), (0 : Int), (0 : Int)]
    let z_3 := (spec_CountTiles_l5 F b0 (0 : Int) z_2)
    bif (Option.isSome z_1) then
    bif (!(Option.getD z_1 default)) then
    k (z_2, false)
    else bif (Option.isSome z_3) then
    k ((Option.getD z_3 default), true)
    else none
    else none
def spec_CountTiles_p (F : Nat) (b0 : List Int) : Option (List Int × Bool) := spec_CountTiles_c _ F b0 some
theorem spec_CountTiles_cp (Q : Type) (F : Nat) (b0 : List Int) (k : (List Int × Bool) → Option Q) : spec_CountTiles_c Q F b0 k = (spec_CountTiles_p F b0).bind k := by
  simp only [spec_CountTiles_p, spec_CountTiles_c, cond_bindL, none_bindL, some_bindL]

/-- loop 3 of loop.example/g01194/spec.IsPackedBoard -/
def spec_IsPackedBoard_s3 (F : Nat) (ok3 : Bool) (counts5 : List Int) (Q : Type) : (Int) → ((Int) → Option Q) → ((Bool) → Option Q) → Option Q
  | t4, kn, kx =>
    bif (decide (t4 ≤ (17 : Int))) then
    bif (inR t4 18) then
    bif (decide ((1 : Int) < (iget counts5 ((0 : Nat) + ((Int.toNat t4) * (1 : Nat)))))) then
    kx true
    else kn (IntKind.wrap .i64 (t4 + (1 : Int)))
    else none
    else kx false
def spec_IsPackedBoard_l3 (F : Nat) (ok3 : Bool) (counts5 : List Int) (t4 : Int) : Option (Bool) := loopC (spec_IsPackedBoard_s3 F ok3 counts5) F t4 some
theorem spec_IsPackedBoard_s3_nat (F : Nat) (ok3 : Bool) (counts5 : List Int) : Natural (spec_IsPackedBoard_s3 F ok3 counts5) := by
  intro Q Q' s kn kx h
  simp only [spec_IsPackedBoard_s3, cond_bindL, none_bindL]
/-- loop.example/g01194/spec.IsPackedBoard -/
def spec_IsPackedBoard_c (Q : Type) (F : Nat) (b0 : List Int) (k : (Bool × Bool) → Option Q) : Option Q :=
    let z_1 := (spec_CountTiles_p F b0)
    let z_2 := (Option.getD z_1 default)
    let z_3 := (spec_IsPackedBoard_l3 F z_2.2 z_2.1 (1 : Int))
    bif (Option.isSome z_1) then
    bif (Option.isSome z_3) then
    bif (Option.getD z_3 default) then
    k (false, true)
    else k (z_2.2, z_2.2)
    else none
    else none
def spec_IsPackedBoard_p (F : Nat) (b0 : List Int) : Option (Bool × Bool) := spec_IsPackedBoard_c _ F b0 some
theorem spec_IsPackedBoard_cp (Q : Type) (F : Nat) (b0 : List Int) (k : (Bool × Bool) → Option Q) : spec_IsPackedBoard_c Q F b0 k = (spec_IsPackedBoard_p F b0).bind k := by
  simp only [spec_IsPackedBoard_p, spec_IsPackedBoard_c, cond_bindL, none_bindL, some_bindL]

/-- loop.example/g01194/impl.lineCell -/
def impl_lineCell_c (Q : Type) (direction0 : Int) (i1 : Int) (k2 : Int) (k : (List Int) → Option Q) : Option Q :=
    let z_1 : Int := (IntKind.wrap .i64 ((3 : Int) - k2))
    bif (direction0 == (0 : Int)) then
    k [i1, k2]
    else bif (direction0 == (1 : Int)) then
    k [k2, i1]
    else bif (direction0 == (2 : Int)) then
    k [i1, z_1]
    else k [z_1, i1]
def impl_lineCell_v (direction0 : Int) (i1 : Int) (k2 : Int) : List Int :=
    let z_1 : Int := (IntKind.wrap .i64 ((3 : Int) - k2))
    bif (direction0 == (0 : Int)) then
    [i1, k2]
    else bif (direction0 == (1 : Int)) then
    [k2, i1]
    else bif (direction0 == (2 : Int)) then
    [i1, z_1]
    else [z_1, i1]
theorem impl_lineCell_cv (Q : Type) (direction0 : Int) (i1 : Int) (k2 : Int) (k : (List Int) → Option Q) : impl_lineCell_c Q direction0 i1 k2 k = k (impl_lineCell_v direction0 i1 k2) := by
  simp only [impl_lineCell_c, impl_lineCell_v, app_condL k]

/-- (loop.example/g01194/impl.Board).line -/
def impl_Board_line_c (Q : Type) (b0 : List Int) (direction1 : Int) (i2 : Int) (k : (List Int) → Option Q) : Option Q :=
    let z_1 := (impl_Board_at_p (impl_lineCell_v direction1 i2 (0 : Int)) b0)
    let z_2 := (impl_Board_at_p (impl_lineCell_v direction1 i2 (1 : Int)) b0)
    let z_3 := (impl_Board_at_p (impl_lineCell_v direction1 i2 (2 : Int)) b0)
    let z_4 := (impl_Board_at_p (impl_lineCell_v direction1 i2 (3 : Int)) b0)
    bif (Option.isSome z_1) then
    bif (Option.isSome z_2) then
    bif (Option.isSome z_3) then
    bif (Option.isSome z_4) then
    k [(iget b0 (Option.getD z_1 default)), (iget b0 (Option.getD z_2 default)), (iget b0 (Option.getD z_3 default)), (iget b0 (Option.getD z_4 default))]
    else none
    else none
    else none
    else none
def impl_Board_line_p (b0 : List Int) (direction1 : Int) (i2 : Int) : Option (List Int) := impl_Board_line_c _ b0 direction1 i2 some
theorem impl_Board_line_cp (Q : Type) (b0 : List Int) (direction1 : Int) (i2 : Int) (k : (List Int) → Option Q) : impl_Board_line_c Q b0 direction1 i2 k = (impl_Board_line_p b0 direction1 i2).bind k := by
  simp only [impl_Board_line_p, impl_Board_line_c, cond_bindL, none_bindL, some_bindL]
end Go.Lv.P
