/-
Pure functions and what the code of them does, by program; without conditions.
-/
import Derived.Test.YtkhccaoancfeoaaQsP3
namespace Go.Lv.P
open Go Go.Lv
set_option linter.unusedVariables false
set_option linter.unusedSimpArgs false
set_option maxRecDepth 100000
/-- loop 12 of loop.example/g01194/impl.rowsBefore -/
def impl_rowsBefore_s12 (F : Nat) (list5 : List Int) (places6 : Int) (t2113 : Int) (t2214 : Int) (t2615 : Int) (row17 : List Int) (out18 : List (List Int)) (t2020 : List (List Int)) (Q : Type) : (Int × Int × List Int) → ((Int × Int × List Int) → Option Q) → ((Int × List Int) → Option Q) → Option Q
  | (k10, t3016, own19), kn, kx =>
    let z_1 : Int := (IntKind.wrap .i64 (k10 + (1 : Int)))
    let z_2 : Int := (IntKind.wrap .i64 (t3016 + (1 : Int)))
    bif (decide (t3016 < (4 : Int))) then
    bif (decide (t3016 < (0 : Int))) then
    none
    else bif ((IntKind.wrap .i64 (((BitVec.ofInt (IntKind.bits .i64) (Int.fdiv places6 (2 ^ (min (Int.toNat t3016) (IntKind.bits .i64)) : Int)) &&& BitVec.ofInt (IntKind.bits .i64) (1 : Int)).toNat : Nat) : Int)) == (1 : Int)) then
    bif (decide (k10 < (((List.length list5) : Nat) : Int))) then
    bif (inR k10 (List.length list5)) then
    bif (inR t3016 4) then
    kn (z_1, z_2, (iset own19 ((0 : Nat) + ((Int.toNat t3016) * (1 : Nat))) (iget list5 (Int.toNat k10))))
    else none
    else none
    else kn (z_1, z_2, own19)
    else kn (k10, z_2, own19)
    else kx (k10, own19)
def impl_rowsBefore_l12 (F : Nat) (list5 : List Int) (places6 : Int) (t2113 : Int) (t2214 : Int) (t2615 : Int) (row17 : List Int) (out18 : List (List Int)) (t2020 : List (List Int)) (k10 : Int) (t3016 : Int) (own19 : List Int) : Option (Int × List Int) := loopC (impl_rowsBefore_s12 F list5 places6 t2113 t2214 t2615 row17 out18 t2020) F (k10, t3016, own19) some
theorem impl_rowsBefore_s12_nat (F : Nat) (list5 : List Int) (places6 : Int) (t2113 : Int) (t2214 : Int) (t2615 : Int) (row17 : List Int) (out18 : List (List Int)) (t2020 : List (List Int)) : Natural (impl_rowsBefore_s12 F list5 places6 t2113 t2214 t2615 row17 out18 t2020) := by
  intro Q Q' s kn kx h
  obtain ⟨k10, t3016, own19⟩ := s
  simp only [impl_rowsBefore_s12, cond_bindL, none_bindL]
/-- loop 8 of loop.example/g01194/impl.rowsBefore -/
def impl_rowsBefore_s8 (F : Nat) (list5 : List Int) (t218 : Int) (t229 : Int) (row11 : List Int) (t2013 : List (List Int)) (Q : Type) : (Int × List (List Int)) → ((Int × List (List Int)) → Option Q) → ((List (List Int)) → Option Q) → Option Q
  | (t2610, out12), kn, kx =>
    let z_1 := (impl_rowsBefore_l12 F list5 t2610 t218 t229 t2610 row11 out12 t2013 (0 : Int) (0 : Int) [(0 : Int), (0 : Int), (0 : Int), (0 : Int)])
    let z_2 := (Option.getD z_1 default)
    let z_3 : Int := (IntKind.wrap .i64 (t2610 + (1 : Int)))
    let z_4 := (impl_slideRow_p F z_2.2)
    let z_5 : List (List Int) := ((subn (List.length out12) out12 0 (List.length out12)) ++ [z_2.2])
    bif (decide (t2610 < (16 : Int))) then
    bif ((Nat.beq (List.length out12) (List.length out12)) && ((Nat.beq (List.length t2013) (List.length t2013)) && (Option.isSome z_1))) then
    bif (!(z_2.1 == (((List.length list5) : Nat) : Int))) then
    kn (z_3, out12)
    else bif (Option.isSome z_4) then
    bif ((Option.getD z_4 default).1 == row11) then
    bif (fits (List.length z_5) 32) then
    kn (z_3, z_5)
    else none
    else kn (z_3, out12)
    else none
    else none
    else kx out12
def impl_rowsBefore_l8 (F : Nat) (list5 : List Int) (t218 : Int) (t229 : Int) (row11 : List Int) (t2013 : List (List Int)) (t2610 : Int) (out12 : List (List Int)) : Option (List (List Int)) := loopC (impl_rowsBefore_s8 F list5 t218 t229 row11 t2013) F (t2610, out12) some
theorem impl_rowsBefore_s8_nat (F : Nat) (list5 : List Int) (t218 : Int) (t229 : Int) (row11 : List Int) (t2013 : List (List Int)) : Natural (impl_rowsBefore_s8 F list5 t218 t229 row11 t2013) := by
  intro Q Q' s kn kx h
  obtain ⟨t2610, out12⟩ := s
  simp only [impl_rowsBefore_s8, cond_bindL, none_bindL]
/-- loop 5 of loop.example/g01194/impl.rowsBefore -/
def impl_rowsBefore_s5 (F : Nat) (t217 : Int) (row9 : List Int) (t2011 : List (List Int)) (Q : Type) : (Int × List (List Int)) → ((Int × List (List Int)) → Option Q) → ((List (List Int)) → Option Q) → Option Q
  | (t228, out10), kn, kx =>
    let z_1 := (impl_rowsBefore_l8 F (rget t2011 ((0 : Nat) + (Int.toNat t228))) t217 t228 row9 t2011 (0 : Int) out10)
    bif (decide (t228 < t217)) then
    bif (inR t228 (List.length t2011)) then
    bif ((Nat.beq (List.length out10) (List.length out10)) && ((Nat.beq (List.length t2011) (List.length t2011)) && (Option.isSome z_1))) then
    kn ((IntKind.wrap .i64 (t228 + (1 : Int))), (Option.getD z_1 default))
    else none
    else none
    else kx out10
def impl_rowsBefore_l5 (F : Nat) (t217 : Int) (row9 : List Int) (t2011 : List (List Int)) (t228 : Int) (out10 : List (List Int)) : Option (List (List Int)) := loopC (impl_rowsBefore_s5 F t217 row9 t2011) F (t228, out10) some
theorem impl_rowsBefore_s5_nat (F : Nat) (t217 : Int) (row9 : List Int) (t2011 : List (List Int)) : Natural (impl_rowsBefore_s5 F t217 row9 t2011) := by
  intro Q Q' s kn kx h
  obtain ⟨t228, out10⟩ := s
  simp only [impl_rowsBefore_s5, cond_bindL, none_bindL]
/-- loop.example/g01194/impl.rowsBefore -/
def impl_rowsBefore_c (Q : Type) (F : Nat) (row0 : List Int) (k : (Nat × List (List Int)) → Option Q) : Option Q :=
    let z_1 := (impl_isFlush_p F row0)
    let z_2 := (impl_tiles_p F row0)
    let z_3 := (Option.getD z_2 default)
    let z_4 : Nat := (List.length (Option.getD (impl_apart_p (subn (List.length z_3.2) z_3.2 0 z_3.1)) default))
    let z_5 := (impl_rowsBefore_l5 F ((z_4 : Nat) : Int) row0 (Option.getD (impl_apart_p (subn (List.length z_3.2) z_3.2 0 z_3.1)) default) (0 : Int) ([] : List (List Int)))
    let z_6 : Nat := (List.length (Option.getD z_5 default))
    let z_7 := (slices_Compact_4int4int_p F z_6 (sortP z_6 (Option.getD z_5 default)))
    let z_8 := (Option.getD z_7 default)
    bif (Option.isSome z_1) then
    bif (!(Option.getD z_1 default)) then
    k ((0 : Nat), ([] : List (List Int)))
    else bif (Option.isSome z_2) then
    bif (Option.isSome (impl_apart_p (subn (List.length z_3.2) z_3.2 0 z_3.1))) then
    bif ((Nat.beq z_4 z_4) && (Option.isSome z_5)) then
    bif ((Nat.ble z_6 z_6) && ((Nat.blt 1000 F) && (Nat.ble z_6 1000000000))) then
    bif (Option.isSome z_7) then
    k (z_8.1, z_8.2)
    else none
    else none
    else none
    else none
    else none
    else none
def impl_rowsBefore_p (F : Nat) (row0 : List Int) : Option (Nat × List (List Int)) := impl_rowsBefore_c _ F row0 some
theorem impl_rowsBefore_cp (Q : Type) (F : Nat) (row0 : List Int) (k : (Nat × List (List Int)) → Option Q) : impl_rowsBefore_c Q F row0 k = (impl_rowsBefore_p F row0).bind k := by
  simp only [impl_rowsBefore_p, impl_rowsBefore_c, cond_bindL, none_bindL, some_bindL]

/-- (loop.example/g01194/impl.Board).linesBefore -/
def impl_Board_linesBefore_c (Q : Type) (F : Nat) (b0 : List Int) (direction1 : Int) (k : (List (List Int) × List (List Int) × List (List Int) × List (List Int)) → Option Q) : Option Q :=
    let z_1 := (impl_Board_line_p b0 direction1 (0 : Int))
    let z_2 := (impl_rowsBefore_p F (Option.getD z_1 default))
    let z_3 := (impl_Board_line_p b0 direction1 (1 : Int))
    let z_4 := (impl_rowsBefore_p F (Option.getD z_3 default))
    let z_5 := (impl_Board_line_p b0 direction1 (2 : Int))
    let z_6 := (impl_rowsBefore_p F (Option.getD z_5 default))
    let z_7 := (impl_Board_line_p b0 direction1 (3 : Int))
    let z_8 := (impl_rowsBefore_p F (Option.getD z_7 default))
    let z_9 := (Option.getD z_2 default)
    let z_10 := (Option.getD z_4 default)
    let z_11 := (Option.getD z_6 default)
    let z_12 := (Option.getD z_8 default)
    bif (Option.isSome z_1) then
    bif (Option.isSome z_2) then
    bif (Option.isSome z_3) then
    bif (Option.isSome z_4) then
    bif (Option.isSome z_5) then
    bif (Option.isSome z_6) then
    bif (Option.isSome z_7) then
    bif (Option.isSome z_8) then
    k ((subn (List.length z_9.2) z_9.2 0 z_9.1), (subn (List.length z_10.2) z_10.2 0 z_10.1), (subn (List.length z_11.2) z_11.2 0 z_11.1), (subn (List.length z_12.2) z_12.2 0 z_12.1))
    else none
    else none
    else none
    else none
    else none
    else none
    else none
    else none
def impl_Board_linesBefore_p (F : Nat) (b0 : List Int) (direction1 : Int) : Option (List (List Int) × List (List Int) × List (List Int) × List (List Int)) := impl_Board_linesBefore_c _ F b0 direction1 some
theorem impl_Board_linesBefore_cp (Q : Type) (F : Nat) (b0 : List Int) (direction1 : Int) (k : (List (List Int) × List (List Int) × List (List Int) × List (List Int)) → Option Q) : impl_Board_linesBefore_c Q F b0 direction1 k = (impl_Board_linesBefore_p F b0 direction1).bind k := by
  simp only [impl_Board_linesBefore_p, impl_Board_linesBefore_c, cond_bindL, none_bindL, some_bindL]

/-- (loop.example/g01194/impl.Board).withLine -/
def impl_Board_withLine_c (Q : Type) (b0 : List Int) (direction1 : Int) (i2 : Int) (row3 : List Int) (k : (List Int) → Option Q) : Option Q :=
    let z_1 := (impl_Board_at_p (impl_lineCell_v direction1 i2 (0 : Int)) b0)
    let z_2 : List Int := (iset b0 (Option.getD z_1 default) (iget row3 0))
    let z_3 := (impl_Board_at_p (impl_lineCell_v direction1 i2 (1 : Int)) z_2)
    let z_4 : List Int := (iset z_2 (Option.getD z_3 default) (iget row3 1))
    let z_5 := (impl_Board_at_p (impl_lineCell_v direction1 i2 (2 : Int)) z_4)
    let z_6 : List Int := (iset z_4 (Option.getD z_5 default) (iget row3 2))
    let z_7 := (impl_Board_at_p (impl_lineCell_v direction1 i2 (3 : Int)) z_6)
    bif (Option.isSome z_1) then
    bif (Option.isSome z_3) then
    bif (Option.isSome z_5) then
    bif (Option.isSome z_7) then
    k (iset z_6 (Option.getD z_7 default) (iget row3 3))
    else none
    else none
    else none
    else none
def impl_Board_withLine_p (b0 : List Int) (direction1 : Int) (i2 : Int) (row3 : List Int) : Option (List Int) := impl_Board_withLine_c _ b0 direction1 i2 row3 some
theorem impl_Board_withLine_cp (Q : Type) (b0 : List Int) (direction1 : Int) (i2 : Int) (row3 : List Int) (k : (List Int) → Option Q) : impl_Board_withLine_c Q b0 direction1 i2 row3 k = (impl_Board_withLine_p b0 direction1 i2 row3).bind k := by
  simp only [impl_Board_withLine_p, impl_Board_withLine_c, cond_bindL, none_bindL, some_bindL]

/-- loop 8 of (loop.example/g01194/impl.Board).slide -/
def impl_Board_slide_s8 (F : Nat) (direction0 : Int) (score10 : Int) (t1712 : Int) (t3713 : List Bool) (b15 : List Int) (out17 : List Int) (Q : Type) : (Int × Int) → ((Int × Int) → Option Q) → ((Int) → Option Q) → Option Q
  | (mergers11, t3814), kn, kx =>
    let z_1 : Int := (IntKind.wrap .i64 (t3814 + (1 : Int)))
    bif (decide (t3814 < (4 : Int))) then
    bif (inR t3814 4) then
    bif (bget t3713 ((Int.toNat t3814) * (1 : Nat))) then
    kn ((IntKind.wrap .i64 (mergers11 + (1 : Int))), z_1)
    else kn (mergers11, z_1)
    else none
    else kx mergers11
def impl_Board_slide_l8 (F : Nat) (direction0 : Int) (score10 : Int) (t1712 : Int) (t3713 : List Bool) (b15 : List Int) (out17 : List Int) (mergers11 : Int) (t3814 : Int) : Option (Int) := loopC (impl_Board_slide_s8 F direction0 score10 t1712 t3713 b15 out17) F (mergers11, t3814) some
theorem impl_Board_slide_s8_nat (F : Nat) (direction0 : Int) (score10 : Int) (t1712 : Int) (t3713 : List Bool) (b15 : List Int) (out17 : List Int) : Natural (impl_Board_slide_s8 F direction0 score10 t1712 t3713 b15 out17) := by
  intro Q Q' s kn kx h
  obtain ⟨mergers11, t3814⟩ := s
  simp only [impl_Board_slide_s8, cond_bindL, none_bindL]
/-- loop 3 of (loop.example/g01194/impl.Board).slide -/
def impl_Board_slide_s3 (F : Nat) (direction0 : Int) (b13 : List Int) (Q : Type) : (Int × Int × Int × List Int) → ((Int × Int × Int × List Int) → Option Q) → ((Int × Int × List Int) → Option Q) → Option Q
  | (score10, mergers11, t1712, out15), kn, kx =>
    let z_1 := (impl_Board_line_p b13 direction0 t1712)
    let z_2 := (impl_slideRow_p F (Option.getD z_1 default))
    let z_3 := (Option.getD z_2 default)
    let z_4 := (impl_Board_withLine_p out15 direction0 t1712 z_3.1)
    let z_5 : Int := (IntKind.wrap .i64 (score10 + z_3.2.1))
    let z_6 := (impl_Board_slide_l8 F direction0 z_5 t1712 z_3.2.2 b13 (Option.getD z_4 default) mergers11 (0 : Int))
    bif (decide (t1712 < (4 : Int))) then
    bif (Option.isSome z_1) then
    bif (Option.isSome z_2) then
    bif (Option.isSome z_4) then
    bif (Option.isSome z_6) then
    kn (z_5, (Option.getD z_6 default), (IntKind.wrap .i64 (t1712 + (1 : Int))), (Option.getD z_4 default))
    else none
    else none
    else none
    else none
    else kx (score10, mergers11, out15)
def impl_Board_slide_l3 (F : Nat) (direction0 : Int) (b13 : List Int) (score10 : Int) (mergers11 : Int) (t1712 : Int) (out15 : List Int) : Option (Int × Int × List Int) := loopC (impl_Board_slide_s3 F direction0 b13) F (score10, mergers11, t1712, out15) some
theorem impl_Board_slide_s3_nat (F : Nat) (direction0 : Int) (b13 : List Int) : Natural (impl_Board_slide_s3 F direction0 b13) := by
  intro Q Q' s kn kx h
  obtain ⟨score10, mergers11, t1712, out15⟩ := s
  simp only [impl_Board_slide_s3, cond_bindL, none_bindL]
/-- (loop.example/g01194/impl.Board).slide -/
def impl_Board_slide_c (Q : Type) (F : Nat) (b0 : List Int) (direction1 : Int) (k : (List Int × Int × Int) → Option Q) : Option Q :=
    let z_1 := (impl_Board_slide_l3 F direction1 b0 (0 : Int) (0 : Int) (0 : Int) b0)
    let z_2 := (Option.getD z_1 default)
    bif (Option.isSome z_1) then
    k (z_2.2.2, z_2.1, z_2.2.1)
    else none
def impl_Board_slide_p (F : Nat) (b0 : List Int) (direction1 : Int) : Option (List Int × Int × Int) := impl_Board_slide_c _ F b0 direction1 some
theorem impl_Board_slide_cp (Q : Type) (F : Nat) (b0 : List Int) (direction1 : Int) (k : (List Int × Int × Int) → Option Q) : impl_Board_slide_c Q F b0 direction1 k = (impl_Board_slide_p F b0 direction1).bind k := by
  simp only [impl_Board_slide_p, impl_Board_slide_c, cond_bindL, none_bindL, some_bindL]

/-- loop 2 of (loop.example/g01194/impl.Board).slides -/
def impl_Board_slides_s2 (F : Nat) (t76 : List Int) (t87 : Int) (Q : Type) : (Int × List Int) → ((Int × List Int) → Option Q) → ((List Int) → Option Q) → Option Q
  | (t98, b9), kn, kx =>
    let z_1 := (impl_Board_slide_p F b9 (iget t76 (Int.toNat t98)))
    bif (decide (t98 < t87)) then
    bif (inR t98 (List.length t76)) then
    bif (Option.isSome z_1) then
    kn ((IntKind.wrap .i64 (t98 + (1 : Int))), (Option.getD z_1 default).1)
    else none
    else none
    else kx b9
def impl_Board_slides_l2 (F : Nat) (t76 : List Int) (t87 : Int) (t98 : Int) (b9 : List Int) : Option (List Int) := loopC (impl_Board_slides_s2 F t76 t87) F (t98, b9) some
theorem impl_Board_slides_s2_nat (F : Nat) (t76 : List Int) (t87 : Int) : Natural (impl_Board_slides_s2 F t76 t87) := by
  intro Q Q' s kn kx h
  obtain ⟨t98, b9⟩ := s
  simp only [impl_Board_slides_s2, cond_bindL, none_bindL]
/-- (loop.example/g01194/impl.Board).slides -/
def impl_Board_slides_c (Q : Type) (F : Nat) (b0 : List Int) (list1 : List Int) (k : (List Int) → Option Q) : Option Q :=
    let z_1 := (impl_Board_slides_l2 F list1 (((List.length list1) : Nat) : Int) (0 : Int) b0)
    bif (Option.isSome z_1) then
    k (Option.getD z_1 default)
    else none
def impl_Board_slides_p (F : Nat) (b0 : List Int) (list1 : List Int) : Option (List Int) := impl_Board_slides_c _ F b0 list1 some
theorem impl_Board_slides_cp (Q : Type) (F : Nat) (b0 : List Int) (list1 : List Int) (k : (List Int) → Option Q) : impl_Board_slides_c Q F b0 list1 k = (impl_Board_slides_p F b0 list1).bind k := by
  simp only [impl_Board_slides_p, impl_Board_slides_c, cond_bindL, none_bindL, some_bindL]

/-- (loop.example/g01194/impl.Board).countBefore -/
def impl_Board_countBefore_c (Q : Type) (F : Nat) (b0 : List Int) (direction1 : Int) (k : (Int) → Option Q) : Option Q :=
    let z_1 := (impl_Board_linesBefore_p F b0 direction1)
    let z_2 := (impl_Board_slides_p F b0 [direction1])
    let z_3 := (Option.getD z_1 default)
    let z_4 : Int := (IntKind.wrap .i64 ((IntKind.wrap .i64 ((IntKind.wrap .i64 ((IntKind.wrap .i64 ((1 : Int) * (((List.length z_3.1) : Nat) : Int))) * (((List.length z_3.2.1) : Nat) : Int))) * (((List.length z_3.2.2.1) : Nat) : Int))) * (((List.length z_3.2.2.2) : Nat) : Int)))
    bif (Option.isSome z_1) then
    bif (Option.isSome z_2) then
    bif ((Option.getD z_2 default) == b0) then
    k (IntKind.wrap .i64 (z_4 - (1 : Int)))
    else k z_4
    else none
    else none
def impl_Board_countBefore_p (F : Nat) (b0 : List Int) (direction1 : Int) : Option (Int) := impl_Board_countBefore_c _ F b0 direction1 some
theorem impl_Board_countBefore_cp (Q : Type) (F : Nat) (b0 : List Int) (direction1 : Int) (k : (Int) → Option Q) : impl_Board_countBefore_c Q F b0 direction1 k = (impl_Board_countBefore_p F b0 direction1).bind k := by
  simp only [impl_Board_countBefore_p, impl_Board_countBefore_c, cond_bindL, none_bindL, some_bindL]


/-- (loop.example/g01194/impl.Board).merged$1 -/
def impl_Board_merged_f1_c (Q : Type) (row0 : List Int) (a14 : List Int) (k : (Bool) → Option Q) : Option Q :=
    k (row0 == a14)
def impl_Board_merged_f1_v (row0 : List Int) (a14 : List Int) : Bool :=
    (row0 == a14)
theorem impl_Board_merged_f1_cv (Q : Type) (row0 : List Int) (a14 : List Int) (k : (Bool) → Option Q) : impl_Board_merged_f1_c Q row0 a14 k = k (impl_Board_merged_f1_v row0 a14) := by
  simp only [impl_Board_merged_f1_c, impl_Board_merged_f1_v, app_condL k]

/-- loop 2 of slices.IndexFunc[[][4]int,[4]int] -/
def slices_IndexFunc_4int4int_impl_Board_merged_f1_s2 (F : Nat) (s0 : List (List Int)) (t74 : Int) (f6 : List Int) (Q : Type) : (Int) → ((Int) → Option Q) → ((Bool × Int) → Option Q) → Option Q
  | t85, kn, kx =>
    bif (decide (t85 < t74)) then
    bif (inR t85 (List.length s0)) then
    bif (impl_Board_merged_f1_v (rget s0 (Int.toNat t85)) f6) then
    kx (true, t85)
    else kn (IntKind.wrap .i64 (t85 + (1 : Int)))
    else none
    else kx (false, default)
def slices_IndexFunc_4int4int_impl_Board_merged_f1_l2 (F : Nat) (s0 : List (List Int)) (t74 : Int) (f6 : List Int) (t85 : Int) : Option (Bool × Int) := loopC (slices_IndexFunc_4int4int_impl_Board_merged_f1_s2 F s0 t74 f6) F t85 some
theorem slices_IndexFunc_4int4int_impl_Board_merged_f1_s2_nat (F : Nat) (s0 : List (List Int)) (t74 : Int) (f6 : List Int) : Natural (slices_IndexFunc_4int4int_impl_Board_merged_f1_s2 F s0 t74 f6) := by
  intro Q Q' s kn kx h
  simp only [slices_IndexFunc_4int4int_impl_Board_merged_f1_s2, cond_bindL, none_bindL]
/-- slices.IndexFunc[[][4]int,[4]int] -/
def slices_IndexFunc_4int4int_impl_Board_merged_f1_c (Q : Type) (F : Nat) (s0 : List (List Int)) (f4 : List Int) (k : (Int) → Option Q) : Option Q :=
    let z_1 := (slices_IndexFunc_4int4int_impl_Board_merged_f1_l2 F s0 (((List.length s0) : Nat) : Int) f4 (0 : Int))
    let z_2 := (Option.getD z_1 default)
    bif (Option.isSome z_1) then
    bif z_2.1 then
    k z_2.2
    else k (-1 : Int)
    else none
def slices_IndexFunc_4int4int_impl_Board_merged_f1_p (F : Nat) (s0 : List (List Int)) (f4 : List Int) : Option (Int) := slices_IndexFunc_4int4int_impl_Board_merged_f1_c _ F s0 f4 some
theorem slices_IndexFunc_4int4int_impl_Board_merged_f1_cp (Q : Type) (F : Nat) (s0 : List (List Int)) (f4 : List Int) (k : (Int) → Option Q) : slices_IndexFunc_4int4int_impl_Board_merged_f1_c Q F s0 f4 k = (slices_IndexFunc_4int4int_impl_Board_merged_f1_p F s0 f4).bind k := by
  simp only [slices_IndexFunc_4int4int_impl_Board_merged_f1_p, slices_IndexFunc_4int4int_impl_Board_merged_f1_c, cond_bindL, none_bindL, some_bindL]

/-- loop 5 of slices.DeleteFunc[[][4]int,[4]int] -/
def slices_DeleteFunc_4int4int_impl_Board_merged_f1_s5 (F : Nat) (s1 : Nat) (del8 : List Int) (Q : Type) : (Int × Int × List (List Int)) → ((Int × Int × List (List Int)) → Option Q) → ((Int × List (List Int)) → Option Q) → Option Q
  | (i5, j6, s7), kn, kx =>
    let z_1 : List Int := (rget s7 ((0 : Nat) + (Int.toNat j6)))
    let z_2 : Int := (IntKind.wrap .i64 (j6 + (1 : Int)))
    bif (decide (j6 < ((s1 : Nat) : Int))) then
    bif (inR j6 s1) then
    bif (!(impl_Board_merged_f1_v z_1 del8)) then
    bif (inR i5 s1) then
    kn ((IntKind.wrap .i64 (i5 + (1 : Int))), z_2, (rset s7 ((0 : Nat) + (Int.toNat i5)) z_1))
    else none
    else kn (i5, z_2, s7)
    else none
    else kx (i5, s7)
def slices_DeleteFunc_4int4int_impl_Board_merged_f1_l5 (F : Nat) (s1 : Nat) (del8 : List Int) (i5 : Int) (j6 : Int) (s7 : List (List Int)) : Option (Int × List (List Int)) := loopC (slices_DeleteFunc_4int4int_impl_Board_merged_f1_s5 F s1 del8) F (i5, j6, s7) some
theorem slices_DeleteFunc_4int4int_impl_Board_merged_f1_s5_nat (F : Nat) (s1 : Nat) (del8 : List Int) : Natural (slices_DeleteFunc_4int4int_impl_Board_merged_f1_s5 F s1 del8) := by
  intro Q Q' s kn kx h
  obtain ⟨i5, j6, s7⟩ := s
  simp only [slices_DeleteFunc_4int4int_impl_Board_merged_f1_s5, cond_bindL, none_bindL]
/-- slices.DeleteFunc[[][4]int,[4]int] -/
def slices_DeleteFunc_4int4int_impl_Board_merged_f1_c (Q : Type) (F : Nat) (s5 : List (List Int)) (del6 : List Int) (k : (Nat × List (List Int)) → Option Q) : Option Q :=
    let z_1 := (slices_IndexFunc_4int4int_impl_Board_merged_f1_p F (subn (List.length s5) s5 0 (List.length s5)) del6)
    let z_2 := (slices_DeleteFunc_4int4int_impl_Board_merged_f1_l5 F (List.length s5) del6 (Option.getD z_1 default) (IntKind.wrap .i64 ((Option.getD z_1 default) + (1 : Int))) s5)
    let z_3 := (Option.getD z_2 default)
    let z_4 : Bool := (inLe z_3.1 (List.length s5))
    let z_5 : Nat := (Int.toNat z_3.1)
    let z_6 : Nat := ((List.length s5) - z_5)
    bif (Option.isSome z_1) then
    bif ((Option.getD z_1 default) == (-1 : Int)) then
    k ((List.length s5), s5)
    else bif (Option.isSome z_2) then
    bif z_4 then
    bif z_4 then
    k ((z_5 - (0 : Nat)), (splice z_3.2 ((0 : Nat) + z_5) (List.replicate z_6 [(0 : Int), (0 : Int), (0 : Int), (0 : Int)]) z_6))
    else none
    else none
    else none
    else none
def slices_DeleteFunc_4int4int_impl_Board_merged_f1_p (F : Nat) (s5 : List (List Int)) (del6 : List Int) : Option (Nat × List (List Int)) := slices_DeleteFunc_4int4int_impl_Board_merged_f1_c _ F s5 del6 some
theorem slices_DeleteFunc_4int4int_impl_Board_merged_f1_cp (Q : Type) (F : Nat) (s5 : List (List Int)) (del6 : List Int) (k : (Nat × List (List Int)) → Option Q) : slices_DeleteFunc_4int4int_impl_Board_merged_f1_c Q F s5 del6 k = (slices_DeleteFunc_4int4int_impl_Board_merged_f1_p F s5 del6).bind k := by
  simp only [slices_DeleteFunc_4int4int_impl_Board_merged_f1_p, slices_DeleteFunc_4int4int_impl_Board_merged_f1_c, cond_bindL, none_bindL, some_bindL]
end Go.Lv.P
