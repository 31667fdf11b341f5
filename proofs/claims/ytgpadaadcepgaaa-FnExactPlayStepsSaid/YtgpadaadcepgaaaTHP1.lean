/-
Pure functions and what the code of them does, by program; without conditions.
-/
import Derived.Test.YtgpadaadcepgaaaTHP0
namespace Go.Lv.P
open Go Go.Lv
set_option linter.unusedVariables false
set_option linter.unusedSimpArgs false
set_option maxRecDepth 100000
/-- loop.example/g01194/spec.l9One -/
def spec_l9One_c (Q : Type) (is0 : Bool) (k : (Int) → Option Q) : Option Q :=
    bif is0 then
    k (1 : Int)
    else k (0 : Int)
def spec_l9One_v (is0 : Bool) : Int :=
    bif is0 then
    (1 : Int)
    else (0 : Int)
theorem spec_l9One_cv (Q : Type) (is0 : Bool) (k : (Int) → Option Q) : spec_l9One_c Q is0 k = k (spec_l9One_v is0) := by
  simp only [spec_l9One_c, spec_l9One_v, app_condL k]

/-- loop.example/g01194/spec.l9Weight -/
def spec_l9Weight_c (Q : Type) (s0 : List Int) (k : (Int) → Option Q) : Option Q :=
    bif ((iget s0 3) == (1 : Int)) then
    k (9 : Int)
    else k (1 : Int)
def spec_l9Weight_v (s0 : List Int) : Int :=
    bif ((iget s0 3) == (1 : Int)) then
    (9 : Int)
    else (1 : Int)
theorem spec_l9Weight_cv (Q : Type) (s0 : List Int) (k : (Int) → Option Q) : spec_l9Weight_c Q s0 k = k (spec_l9Weight_v s0) := by
  simp only [spec_l9Weight_c, spec_l9Weight_v, app_condL k]

/-- loop.example/g01194/spec.l1Most -/
def spec_l1Most_c (Q : Type) (a0 : Int) (b1 : Int) (k : (Int) → Option Q) : Option Q :=
    bif (decide (b1 < a0)) then
    k a0
    else k b1
def spec_l1Most_v (a0 : Int) (b1 : Int) : Int :=
    bif (decide (b1 < a0)) then
    a0
    else b1
theorem spec_l1Most_cv (Q : Type) (a0 : Int) (b1 : Int) (k : (Int) → Option Q) : spec_l1Most_c Q a0 b1 k = k (spec_l1Most_v a0 b1) := by
  simp only [spec_l1Most_c, spec_l1Most_v, app_condL k]

/-- loop 2 of loop.example/g01194/spec.l9Cut -/
def spec_l9Cut_s2 (F : Nat) (a0 : Int) (b1 : Int) (Q : Type) : (Int × Int) → ((Int × Int) → Option Q) → ((Int) → Option Q) → Option Q
  | (x5, y6), kn, kx =>
    bif (decide ((0 : Int) < y6)) then
    bif (y6 == (0 : Int)) then
    none
    else kn (y6, (Int.tmod x5 y6))
    else kx x5
def spec_l9Cut_l2 (F : Nat) (a0 : Int) (b1 : Int) (x5 : Int) (y6 : Int) : Option (Int) := loopC (spec_l9Cut_s2 F a0 b1) F (x5, y6) some
theorem spec_l9Cut_s2_nat (F : Nat) (a0 : Int) (b1 : Int) : Natural (spec_l9Cut_s2 F a0 b1) := by
  intro Q Q' s kn kx h
  obtain ⟨x5, y6⟩ := s
  simp only [spec_l9Cut_s2, cond_bindL, none_bindL]
/-- loop.example/g01194/spec.l9Cut -/
def spec_l9Cut_c (Q : Type) (F : Nat) (a0 : Int) (b1 : Int) (k : (List Int) → Option Q) : Option Q :=
    let z_1 := (spec_l9Cut_l2 F a0 b1 a0 b1)
    let z_2 : Bool := ((spec_l1Most_v (Option.getD z_1 default) (1 : Int)) == (0 : Int))
    bif (Option.isSome z_1) then
    bif z_2 then
    none
    else bif z_2 then
    none
    else k [(IntKind.wrap .i64 (Int.tdiv a0 (spec_l1Most_v (Option.getD z_1 default) (1 : Int)))), (IntKind.wrap .i64 (Int.tdiv b1 (spec_l1Most_v (Option.getD z_1 default) (1 : Int))))]
    else none
def spec_l9Cut_p (F : Nat) (a0 : Int) (b1 : Int) : Option (List Int) := spec_l9Cut_c _ F a0 b1 some
theorem spec_l9Cut_cp (Q : Type) (F : Nat) (a0 : Int) (b1 : Int) (k : (List Int) → Option Q) : spec_l9Cut_c Q F a0 b1 k = (spec_l9Cut_p F a0 b1).bind k := by
  simp only [spec_l9Cut_p, spec_l9Cut_c, cond_bindL, none_bindL, some_bindL]

/-- loop 3 of loop.example/g01194/spec.l9Mean -/
def spec_l9Mean_s3 (F : Nat) (steps0 : List (List Int)) (numbers1 : List Int) (Q : Type) : (Int × Int × Int) → ((Int × Int × Int) → Option Q) → ((Int × Int) → Option Q) → Option Q
  | (sum5, all6, i7), kn, kx =>
    let z_1 : Bool := (inR i7 (List.length steps0))
    bif (decide (i7 < (((List.length steps0) : Nat) : Int))) then
    bif z_1 then
    bif (inR i7 (List.length numbers1)) then
    bif z_1 then
    kn ((IntKind.wrap .i64 (sum5 + (IntKind.wrap .i64 ((spec_l9Weight_v (rget steps0 (Int.toNat i7))) * (iget numbers1 (Int.toNat i7)))))), (IntKind.wrap .i64 (all6 + (spec_l9Weight_v (rget steps0 (Int.toNat i7))))), (IntKind.wrap .i64 (i7 + (1 : Int))))
    else none
    else none
    else none
    else kx (sum5, all6)
def spec_l9Mean_l3 (F : Nat) (steps0 : List (List Int)) (numbers1 : List Int) (sum5 : Int) (all6 : Int) (i7 : Int) : Option (Int × Int) := loopC (spec_l9Mean_s3 F steps0 numbers1) F (sum5, all6, i7) some
theorem spec_l9Mean_s3_nat (F : Nat) (steps0 : List (List Int)) (numbers1 : List Int) : Natural (spec_l9Mean_s3 F steps0 numbers1) := by
  intro Q Q' s kn kx h
  obtain ⟨sum5, all6, i7⟩ := s
  simp only [spec_l9Mean_s3, cond_bindL, none_bindL]
/-- loop.example/g01194/spec.l9Mean -/
def spec_l9Mean_c (Q : Type) (F : Nat) (steps0 : List (List Int)) (numbers1 : List Int) (k : (List Int) → Option Q) : Option Q :=
    let z_1 := (spec_l9Mean_l3 F steps0 numbers1 (0 : Int) (0 : Int) (0 : Int))
    let z_2 := (Option.getD z_1 default)
    let z_3 := (spec_l9Cut_p F z_2.1 z_2.2)
    bif (Option.isSome z_1) then
    bif (Option.isSome z_3) then
    k (Option.getD z_3 default)
    else none
    else none
def spec_l9Mean_p (F : Nat) (steps0 : List (List Int)) (numbers1 : List Int) : Option (List Int) := spec_l9Mean_c _ F steps0 numbers1 some
theorem spec_l9Mean_cp (Q : Type) (F : Nat) (steps0 : List (List Int)) (numbers1 : List Int) (k : (List Int) → Option Q) : spec_l9Mean_c Q F steps0 numbers1 k = (spec_l9Mean_p F steps0 numbers1).bind k := by
  simp only [spec_l9Mean_p, spec_l9Mean_c, cond_bindL, none_bindL, some_bindL]

/-- loop 6 of loop.example/g01194/spec.ChanceOfNext -/
def spec_ChanceOfNext_s6 (F : Nat) (b13 : List Int) (steps15 : List (List Int)) (all17 : List (List Int)) (Q : Type) : (Int × List Int) → ((Int × List Int) → Option Q) → ((List Int) → Option Q) → Option Q
  | (i12, numbers16), kn, kx =>
    let z_1 : List Int := ((subn (List.length numbers16) numbers16 0 (List.length numbers16)) ++ [(spec_l9One_v ((rget all17 ((0 : Nat) + (Int.toNat i12))) == b13))])
    bif (decide (i12 < (((List.length all17) : Nat) : Int))) then
    bif (inR i12 (List.length all17)) then
    bif (fits (List.length z_1) 8) then
    kn ((IntKind.wrap .i64 (i12 + (1 : Int))), z_1)
    else none
    else none
    else kx numbers16
def spec_ChanceOfNext_l6 (F : Nat) (b13 : List Int) (steps15 : List (List Int)) (all17 : List (List Int)) (i12 : Int) (numbers16 : List Int) : Option (List Int) := loopC (spec_ChanceOfNext_s6 F b13 steps15 all17) F (i12, numbers16) some
theorem spec_ChanceOfNext_s6_nat (F : Nat) (b13 : List Int) (steps15 : List (List Int)) (all17 : List (List Int)) : Natural (spec_ChanceOfNext_s6 F b13 steps15 all17) := by
  intro Q Q' s kn kx h
  obtain ⟨i12, numbers16⟩ := s
  simp only [spec_ChanceOfNext_s6, cond_bindL, none_bindL]
/-- loop.example/g01194/spec.ChanceOfNext -/
def spec_ChanceOfNext_c (Q : Type) (F : Nat) (a0 : List Int) (direction1 : Int) (b2 : List Int) (k : (List Int × Bool) → Option Q) : Option Q :=
    let z_1 := (spec_l9Move_p F a0 direction1)
    let z_2 := (spec_l2Board_p F b2)
    let z_3 := (spec_l5Steps_p F a0 direction1)
    let z_4 : Nat := (List.length (Option.getD z_3 default))
    let z_5 : List (List Int) := (subn z_4 (Option.getD z_3 default) 0 z_4)
    let z_6 := (spec_l9Boards_p F a0 z_5)
    let z_7 : Nat := (List.length (Option.getD z_6 default))
    let z_8 := (spec_ChanceOfNext_l6 F b2 (Option.getD z_3 default) (Option.getD z_6 default) (0 : Int) ([] : List Int))
    let z_9 : Nat := (List.length (Option.getD z_8 default))
    let z_10 := (spec_l9Mean_p F z_5 (subn z_9 (Option.getD z_8 default) 0 z_9))
    bif (Option.isSome z_1) then
    bif (!(Option.getD z_1 default)) then
    k ([(0 : Int), (0 : Int)], false)
    else bif (Option.isSome z_2) then
    bif (!(Option.getD z_2 default)) then
    k ([(0 : Int), (0 : Int)], false)
    else bif (Option.isSome z_3) then
    bif (Option.isSome z_6) then
    bif ((Nat.beq z_4 z_4) && ((Nat.beq z_7 z_7) && (Option.isSome z_8))) then
    bif (Option.isSome z_10) then
    k ((Option.getD z_10 default), true)
    else none
    else none
    else none
    else none
    else none
    else none
def spec_ChanceOfNext_p (F : Nat) (a0 : List Int) (direction1 : Int) (b2 : List Int) : Option (List Int × Bool) := spec_ChanceOfNext_c _ F a0 direction1 b2 some
theorem spec_ChanceOfNext_cp (Q : Type) (F : Nat) (a0 : List Int) (direction1 : Int) (b2 : List Int) (k : (List Int × Bool) → Option Q) : spec_ChanceOfNext_c Q F a0 direction1 b2 k = (spec_ChanceOfNext_p F a0 direction1 b2).bind k := by
  simp only [spec_ChanceOfNext_p, spec_ChanceOfNext_c, cond_bindL, none_bindL, some_bindL]

/-- loop.example/g01194/impl.in -/
def impl_in_c (Q : Type) (n0 : Int) (low1 : Int) (high2 : Int) (k : (Bool) → Option Q) : Option Q :=
    bif (decide (low1 ≤ n0)) then
    k (decide (n0 ≤ high2))
    else k false
def impl_in_v (n0 : Int) (low1 : Int) (high2 : Int) : Bool :=
    bif (decide (low1 ≤ n0)) then
    (decide (n0 ≤ high2))
    else false
theorem impl_in_cv (Q : Type) (n0 : Int) (low1 : Int) (high2 : Int) (k : (Bool) → Option Q) : impl_in_c Q n0 low1 high2 k = k (impl_in_v n0 low1 high2) := by
  simp only [impl_in_c, impl_in_v, app_condL k]

/-- loop.example/g01194/impl.IsRow$1 -/
def impl_IsRow_f1_c (Q : Type) (n0 : Int) (k : (Bool) → Option Q) : Option Q :=
    k (!(impl_in_v n0 (0 : Int) (17 : Int)))
def impl_IsRow_f1_v (n0 : Int) : Bool :=
    (!(impl_in_v n0 (0 : Int) (17 : Int)))
theorem impl_IsRow_f1_cv (Q : Type) (n0 : Int) (k : (Bool) → Option Q) : impl_IsRow_f1_c Q n0 k = k (impl_IsRow_f1_v n0) := by
  simp only [impl_IsRow_f1_c, impl_IsRow_f1_v, app_condL k]

/-- loop 2 of slices.IndexFunc[[]int,int] -/
def slices_IndexFunc_intint_impl_IsRow_f1_s2 (F : Nat) (s0 : List Int) (t71 : Int) (Q : Type) : (Int) → ((Int) → Option Q) → ((Bool × Int) → Option Q) → Option Q
  | t82, kn, kx =>
    bif (decide (t82 < t71)) then
    bif (inR t82 (List.length s0)) then
    bif (impl_IsRow_f1_v (iget s0 (Int.toNat t82))) then
    kx (true, t82)
    else kn (IntKind.wrap .i64 (t82 + (1 : Int)))
    else none
    else kx (false, default)
def slices_IndexFunc_intint_impl_IsRow_f1_l2 (F : Nat) (s0 : List Int) (t71 : Int) (t82 : Int) : Option (Bool × Int) := loopC (slices_IndexFunc_intint_impl_IsRow_f1_s2 F s0 t71) F t82 some
theorem slices_IndexFunc_intint_impl_IsRow_f1_s2_nat (F : Nat) (s0 : List Int) (t71 : Int) : Natural (slices_IndexFunc_intint_impl_IsRow_f1_s2 F s0 t71) := by
  intro Q Q' s kn kx h
  simp only [slices_IndexFunc_intint_impl_IsRow_f1_s2, cond_bindL, none_bindL]
/-- slices.IndexFunc[[]int,int] -/
def slices_IndexFunc_intint_impl_IsRow_f1_c (Q : Type) (F : Nat) (s0 : List Int) (k : (Int) → Option Q) : Option Q :=
    let z_1 := (slices_IndexFunc_intint_impl_IsRow_f1_l2 F s0 (((List.length s0) : Nat) : Int) (0 : Int))
    let z_2 := (Option.getD z_1 default)
    bif (Option.isSome z_1) then
    bif z_2.1 then
    k z_2.2
    else k (-1 : Int)
    else none
def slices_IndexFunc_intint_impl_IsRow_f1_p (F : Nat) (s0 : List Int) : Option (Int) := slices_IndexFunc_intint_impl_IsRow_f1_c _ F s0 some
theorem slices_IndexFunc_intint_impl_IsRow_f1_cp (Q : Type) (F : Nat) (s0 : List Int) (k : (Int) → Option Q) : slices_IndexFunc_intint_impl_IsRow_f1_c Q F s0 k = (slices_IndexFunc_intint_impl_IsRow_f1_p F s0).bind k := by
  simp only [slices_IndexFunc_intint_impl_IsRow_f1_p, slices_IndexFunc_intint_impl_IsRow_f1_c, cond_bindL, none_bindL, some_bindL]

/-- slices.ContainsFunc[[]int,int] -/
def slices_ContainsFunc_intint_impl_IsRow_f1_c (Q : Type) (F : Nat) (s0 : List Int) (k : (Bool) → Option Q) : Option Q :=
    let z_1 := (slices_IndexFunc_intint_impl_IsRow_f1_p F s0)
    bif (Option.isSome z_1) then
    k (decide ((0 : Int) ≤ (Option.getD z_1 default)))
    else none
def slices_ContainsFunc_intint_impl_IsRow_f1_p (F : Nat) (s0 : List Int) : Option (Bool) := slices_ContainsFunc_intint_impl_IsRow_f1_c _ F s0 some
theorem slices_ContainsFunc_intint_impl_IsRow_f1_cp (Q : Type) (F : Nat) (s0 : List Int) (k : (Bool) → Option Q) : slices_ContainsFunc_intint_impl_IsRow_f1_c Q F s0 k = (slices_ContainsFunc_intint_impl_IsRow_f1_p F s0).bind k := by
  simp only [slices_ContainsFunc_intint_impl_IsRow_f1_p, slices_ContainsFunc_intint_impl_IsRow_f1_c, cond_bindL, none_bindL, some_bindL]

/-- loop.example/g01194/impl.IsRow -/
def impl_IsRow_c (Q : Type) (F : Nat) (row0 : List Int) (k : (Bool) → Option Q) : Option Q :=
    let z_1 := (slices_ContainsFunc_intint_impl_IsRow_f1_p F (sub row0 0 4))
    bif (Option.isSome z_1) then
    k (!(Option.getD z_1 default))
    else none
def impl_IsRow_p (F : Nat) (row0 : List Int) : Option (Bool) := impl_IsRow_c _ F row0 some
theorem impl_IsRow_cp (Q : Type) (F : Nat) (row0 : List Int) (k : (Bool) → Option Q) : impl_IsRow_c Q F row0 k = (impl_IsRow_p F row0).bind k := by
  simp only [impl_IsRow_p, impl_IsRow_c, cond_bindL, none_bindL, some_bindL]

/-- loop.example/g01194/impl.IsBoard$1 -/
def impl_IsBoard_f1_c (Q : Type) (F : Nat) (row0 : List Int) (k : (Bool) → Option Q) : Option Q :=
    let z_1 := (impl_IsRow_p F row0)
    bif (Option.isSome z_1) then
    k (!(Option.getD z_1 default))
    else none
def impl_IsBoard_f1_p (F : Nat) (row0 : List Int) : Option (Bool) := impl_IsBoard_f1_c _ F row0 some
theorem impl_IsBoard_f1_cp (Q : Type) (F : Nat) (row0 : List Int) (k : (Bool) → Option Q) : impl_IsBoard_f1_c Q F row0 k = (impl_IsBoard_f1_p F row0).bind k := by
  simp only [impl_IsBoard_f1_p, impl_IsBoard_f1_c, cond_bindL, none_bindL, some_bindL]

/-- loop 2 of slices.IndexFunc[[][4]int,[4]int] -/
def slices_IndexFunc_4int4int_impl_IsBoard_f1_s2 (F : Nat) (s0 : List (List Int)) (t71 : Int) (Q : Type) : (Int) → ((Int) → Option Q) → ((Bool × Int) → Option Q) → Option Q
  | t82, kn, kx =>
    let z_1 := (impl_IsBoard_f1_p F (rget s0 (Int.toNat t82)))
    bif (decide (t82 < t71)) then
    bif (inR t82 (List.length s0)) then
    bif (Option.isSome z_1) then
    bif (Option.getD z_1 default) then
    kx (true, t82)
    else kn (IntKind.wrap .i64 (t82 + (1 : Int)))
    else none
    else none
    else kx (false, default)
def slices_IndexFunc_4int4int_impl_IsBoard_f1_l2 (F : Nat) (s0 : List (List Int)) (t71 : Int) (t82 : Int) : Option (Bool × Int) := loopC (slices_IndexFunc_4int4int_impl_IsBoard_f1_s2 F s0 t71) F t82 some
theorem slices_IndexFunc_4int4int_impl_IsBoard_f1_s2_nat (F : Nat) (s0 : List (List Int)) (t71 : Int) : Natural (slices_IndexFunc_4int4int_impl_IsBoard_f1_s2 F s0 t71) := by
  intro Q Q' s kn kx h
  simp only [slices_IndexFunc_4int4int_impl_IsBoard_f1_s2, cond_bindL, none_bindL]
/-- slices.IndexFunc[[][4]int,[4]int] -/
def slices_IndexFunc_4int4int_impl_IsBoard_f1_c (Q : Type) (F : Nat) (s0 : List (List Int)) (k : (Int) → Option Q) : Option Q :=
    let z_1 := (slices_IndexFunc_4int4int_impl_IsBoard_f1_l2 F s0 (((List.length s0) : Nat) : Int) (0 : Int))
    let z_2 := (Option.getD z_1 default)
    bif (Option.isSome z_1) then
    bif z_2.1 then
    k z_2.2
    else k (-1 : Int)
    else none
def slices_IndexFunc_4int4int_impl_IsBoard_f1_p (F : Nat) (s0 : List (List Int)) : Option (Int) := slices_IndexFunc_4int4int_impl_IsBoard_f1_c _ F s0 some
theorem slices_IndexFunc_4int4int_impl_IsBoard_f1_cp (Q : Type) (F : Nat) (s0 : List (List Int)) (k : (Int) → Option Q) : slices_IndexFunc_4int4int_impl_IsBoard_f1_c Q F s0 k = (slices_IndexFunc_4int4int_impl_IsBoard_f1_p F s0).bind k := by
  simp only [slices_IndexFunc_4int4int_impl_IsBoard_f1_p, slices_IndexFunc_4int4int_impl_IsBoard_f1_c, cond_bindL, none_bindL, some_bindL]

/-- slices.ContainsFunc[[][4]int,[4]int] -/
def slices_ContainsFunc_4int4int_impl_IsBoard_f1_c (Q : Type) (F : Nat) (s0 : List (List Int)) (k : (Bool) → Option Q) : Option Q :=
    let z_1 := (slices_IndexFunc_4int4int_impl_IsBoard_f1_p F s0)
    bif (Option.isSome z_1) then
    k (decide ((0 : Int) ≤ (Option.getD z_1 default)))
    else none
def slices_ContainsFunc_4int4int_impl_IsBoard_f1_p (F : Nat) (s0 : List (List Int)) : Option (Bool) := slices_ContainsFunc_4int4int_impl_IsBoard_f1_c _ F s0 some
theorem slices_ContainsFunc_4int4int_impl_IsBoard_f1_cp (Q : Type) (F : Nat) (s0 : List (List Int)) (k : (Bool) → Option Q) : slices_ContainsFunc_4int4int_impl_IsBoard_f1_c Q F s0 k = (slices_ContainsFunc_4int4int_impl_IsBoard_f1_p F s0).bind k := by
  simp only [slices_ContainsFunc_4int4int_impl_IsBoard_f1_p, slices_ContainsFunc_4int4int_impl_IsBoard_f1_c, cond_bindL, none_bindL, some_bindL]

/-- loop.example/g01194/impl.IsBoard -/
def impl_IsBoard_c (Q : Type) (F : Nat) (b0 : List Int) (k : (Bool) → Option Q) : Option Q :=
    let z_1 := (slices_ContainsFunc_4int4int_impl_IsBoard_f1_p F [(sub b0 0 4), (sub b0 4 4), (sub b0 8 4), (sub b0 12 4)])
    bif (Option.isSome z_1) then
    k (!(Option.getD z_1 default))
    else none
def impl_IsBoard_p (F : Nat) (b0 : List Int) : Option (Bool) := impl_IsBoard_c _ F b0 some
theorem impl_IsBoard_cp (Q : Type) (F : Nat) (b0 : List Int) (k : (Bool) → Option Q) : impl_IsBoard_c Q F b0 k = (impl_IsBoard_p F b0).bind k := by
  simp only [impl_IsBoard_p, impl_IsBoard_c, cond_bindL, none_bindL, some_bindL]

/-- loop.example/g01194/impl.isDirection -/
def impl_isDirection_c (Q : Type) (d0 : Int) (k : (Bool) → Option Q) : Option Q :=
    k (impl_in_v d0 (0 : Int) (3 : Int))
def impl_isDirection_v (d0 : Int) : Bool :=
    (impl_in_v d0 (0 : Int) (3 : Int))
theorem impl_isDirection_cv (Q : Type) (d0 : Int) (k : (Bool) → Option Q) : impl_isDirection_c Q d0 k = k (impl_isDirection_v d0) := by
  simp only [impl_isDirection_c, impl_isDirection_v, app_condL k]

/-- loop.example/g01194/impl.lineCell -/
def impl_lineCell_c (Q : Type) (direction0 : Int) (i1 : Int) (k2 : Int) (k : (List Int) → Option Q) : Option Q :=
    let z_1 : Int := (IntKind.wrap .i64 ((3 : Int) - k2))
    bif (direction0 == (0 : Int)) then
    k [i1, k2]
    else bif (direction0 == (1 : Int)) then
    k [k2, i1]
    else bif (direction0 == (2 : Int)) then
    k [i1, z_1]
    else k [z_1, i1]
def impl_lineCell_v (direction0 : Int) (i1 : Int) (k2 : Int) : List Int :=
    let z_1 : Int := (IntKind.wrap .i64 ((3 : Int) - k2))
    bif (direction0 == (0 : Int)) then
    [i1, k2]
    else bif (direction0 == (1 : Int)) then
    [k2, i1]
    else bif (direction0 == (2 : Int)) then
    [i1, z_1]
    else [z_1, i1]
theorem impl_lineCell_cv (Q : Type) (direction0 : Int) (i1 : Int) (k2 : Int) (k : (List Int) → Option Q) : impl_lineCell_c Q direction0 i1 k2 k = k (impl_lineCell_v direction0 i1 k2) := by
  simp only [impl_lineCell_c, impl_lineCell_v, app_condL k]

/-- (*loop.example/g01194/impl.Board).at -/
def impl_Board_at_c (Q : Type) (cell3 : List Int) (b4 : List Int) (k : (Nat) → Option Q) : Option Q :=
    bif (inR (iget cell3 0) 4) then
    bif (inR (iget cell3 1) 4) then
    k (((0 : Nat) + ((Int.toNat (iget cell3 0)) * (4 : Nat))) + ((Int.toNat (iget cell3 1)) * (1 : Nat)))
    else none
    else none
def impl_Board_at_p (cell3 : List Int) (b4 : List Int) : Option (Nat) := impl_Board_at_c _ cell3 b4 some
theorem impl_Board_at_cp (Q : Type) (cell3 : List Int) (b4 : List Int) (k : (Nat) → Option Q) : impl_Board_at_c Q cell3 b4 k = (impl_Board_at_p cell3 b4).bind k := by
  simp only [impl_Board_at_p, impl_Board_at_c, cond_bindL, none_bindL, some_bindL]

/-- (loop.example/g01194/impl.Board).line -/
def impl_Board_line_c (Q : Type) (b0 : List Int) (direction1 : Int) (i2 : Int) (k : (List Int) → Option Q) : Option Q :=
    let z_1 := (impl_Board_at_p (impl_lineCell_v direction1 i2 (0 : Int)) b0)
    let z_2 := (impl_Board_at_p (impl_lineCell_v direction1 i2 (1 : Int)) b0)
    let z_3 := (impl_Board_at_p (impl_lineCell_v direction1 i2 (2 : Int)) b0)
    let z_4 := (impl_Board_at_p (impl_lineCell_v direction1 i2 (3 : Int)) b0)
    bif (Option.isSome z_1) then
    bif (Option.isSome z_2) then
    bif (Option.isSome z_3) then
    bif (Option.isSome z_4) then
    k [(iget b0 (Option.getD z_1 default)), (iget b0 (Option.getD z_2 default)), (iget b0 (Option.getD z_3 default)), (iget b0 (Option.getD z_4 default))]
    else none
    else none
    else none
    else none
def impl_Board_line_p (b0 : List Int) (direction1 : Int) (i2 : Int) : Option (List Int) := impl_Board_line_c _ b0 direction1 i2 some
theorem impl_Board_line_cp (Q : Type) (b0 : List Int) (direction1 : Int) (i2 : Int) (k : (List Int) → Option Q) : impl_Board_line_c Q b0 direction1 i2 k = (impl_Board_line_p b0 direction1 i2).bind k := by
  simp only [impl_Board_line_p, impl_Board_line_c, cond_bindL, none_bindL, some_bindL]


/-- loop.example/g01194/impl.tiles$1 -/
def impl_tiles_f1_c (Q : Type) (n0 : Int) (k : (Bool) → Option Q) : Option Q :=
    k (n0 == (0 : Int))
def impl_tiles_f1_v (n0 : Int) : Bool :=
    (n0 == (0 : Int))
theorem impl_tiles_f1_cv (Q : Type) (n0 : Int) (k : (Bool) → Option Q) : impl_tiles_f1_c Q n0 k = k (impl_tiles_f1_v n0) := by
  simp only [impl_tiles_f1_c, impl_tiles_f1_v, app_condL k]
end Go.Lv.P
