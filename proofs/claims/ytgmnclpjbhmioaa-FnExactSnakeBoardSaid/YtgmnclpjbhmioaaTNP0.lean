/-
Pure functions and what the code of them does, by program; without conditions.
-/
import Derived.Test.YtgmnclpjbhmioaaLv3
import Derived.Test.YtgmnclpjbhmioaaMvOrd
namespace Go.Lv.P
open Go Go.Lv
set_option linter.unusedVariables false
set_option linter.unusedSimpArgs false
set_option maxRecDepth 100000
/-- loop.example/g01194/laws.toIntA4 -/
def laws_toIntA4_c (Q : Type) (a0 : List Int) (k : (List Int) → Option Q) : Option Q :=
    k [(iget a0 0), (iget a0 1), (iget a0 2), (iget a0 3)]
def laws_toIntA4_v (a0 : List Int) : List Int :=
    [(iget a0 0), (iget a0 1), (iget a0 2), (iget a0 3)]
theorem laws_toIntA4_cv (Q : Type) (a0 : List Int) (k : (List Int) → Option Q) : laws_toIntA4_c Q a0 k = k (laws_toIntA4_v a0) := by
  simp only [laws_toIntA4_c, laws_toIntA4_v, app_condL k]

/-- loop.example/g01194/laws.toIntA4A4 -/
def laws_toIntA4A4_c (Q : Type) (a0 : List Int) (k : (List Int) → Option Q) : Option Q :=
    k (splice (splice (splice (splice [(0 : Int), (0 : Int), (0 : Int), (0 : Int), (0 : Int), (0 : Int), (0 : Int), (0 : Int), (0 : Int), (0 : Int), (0 : Int), (0 : Int), (0 : Int), (0 : Int), (0 : Int), (0 : Int)] 0 (laws_toIntA4_v (sub a0 0 4)) 4) 4 (laws_toIntA4_v (sub a0 4 4)) 4) 8 (laws_toIntA4_v (sub a0 8 4)) 4) 12 (laws_toIntA4_v (sub a0 12 4)) 4)
def laws_toIntA4A4_v (a0 : List Int) : List Int :=
    (splice (splice (splice (splice [(0 : Int), (0 : Int), (0 : Int), (0 : Int), (0 : Int), (0 : Int), (0 : Int), (0 : Int), (0 : Int), (0 : Int), (0 : Int), (0 : Int), (0 : Int), (0 : Int), (0 : Int), (0 : Int)] 0 (laws_toIntA4_v (sub a0 0 4)) 4) 4 (laws_toIntA4_v (sub a0 4 4)) 4) 8 (laws_toIntA4_v (sub a0 8 4)) 4) 12 (laws_toIntA4_v (sub a0 12 4)) 4)
theorem laws_toIntA4A4_cv (Q : Type) (a0 : List Int) (k : (List Int) → Option Q) : laws_toIntA4A4_c Q a0 k = k (laws_toIntA4A4_v a0) := by
  simp only [laws_toIntA4A4_c, laws_toIntA4A4_v, app_condL k]

/-- loop.example/g01194/laws.toBoard -/
def laws_toBoard_c (Q : Type) (a0 : List Int) (k : (List Int) → Option Q) : Option Q :=
    k (laws_toIntA4A4_v a0)
def laws_toBoard_v (a0 : List Int) : List Int :=
    (laws_toIntA4A4_v a0)
theorem laws_toBoard_cv (Q : Type) (a0 : List Int) (k : (List Int) → Option Q) : laws_toBoard_c Q a0 k = k (laws_toBoard_v a0) := by
  simp only [laws_toBoard_c, laws_toBoard_v, app_condL k]

/-- loop.example/g01194/spec.l1In -/
def spec_l1In_c (Q : Type) (x0 : Int) (a1 : Int) (b2 : Int) (k : (Bool) → Option Q) : Option Q :=
    bif (decide (a1 ≤ x0)) then
    k (decide (x0 ≤ b2))
    else k false
def spec_l1In_v (x0 : Int) (a1 : Int) (b2 : Int) : Bool :=
    bif (decide (a1 ≤ x0)) then
    (decide (x0 ≤ b2))
    else false
theorem spec_l1In_cv (Q : Type) (x0 : Int) (a1 : Int) (b2 : Int) (k : (Bool) → Option Q) : spec_l1In_c Q x0 a1 b2 k = k (spec_l1In_v x0 a1 b2) := by
  simp only [spec_l1In_c, spec_l1In_v, app_condL k]

/-- loop 5 of loop.example/g01194/spec.l2Board -/
def spec_l2Board_s5 (F : Nat) (r3 : Int) (b5 : List Int) (Q : Type) : (Int) → ((Int) → Option Q) → ((Bool) → Option Q) → Option Q
  | c4, kn, kx =>
    bif (decide (c4 < (4 : Int))) then
    bif (inR r3 4) then
    bif (inR c4 4) then
    bif (!(spec_l1In_v (iget b5 (((0 : Nat) + ((Int.toNat r3) * (4 : Nat))) + ((Int.toNat c4) * (1 : Nat)))) (0 : Int) (17 : Int))) then
    kx true
    else kn (IntKind.wrap .i64 (c4 + (1 : Int)))
    else none
    else none
    else kx false
def spec_l2Board_l5 (F : Nat) (r3 : Int) (b5 : List Int) (c4 : Int) : Option (Bool) := loopC (spec_l2Board_s5 F r3 b5) F c4 some
theorem spec_l2Board_s5_nat (F : Nat) (r3 : Int) (b5 : List Int) : Natural (spec_l2Board_s5 F r3 b5) := by
  intro Q Q' s kn kx h
  simp only [spec_l2Board_s5, cond_bindL, none_bindL]
/-- loop 2 of loop.example/g01194/spec.l2Board -/
def spec_l2Board_s2 (F : Nat) (b4 : List Int) (Q : Type) : (Int) → ((Int) → Option Q) → ((Bool) → Option Q) → Option Q
  | r3, kn, kx =>
    let z_1 := (spec_l2Board_l5 F r3 b4 (0 : Int))
    bif (decide (r3 < (4 : Int))) then
    bif (Option.isSome z_1) then
    bif (Option.getD z_1 default) then
    kx true
    else kn (IntKind.wrap .i64 (r3 + (1 : Int)))
    else none
    else kx false
def spec_l2Board_l2 (F : Nat) (b4 : List Int) (r3 : Int) : Option (Bool) := loopC (spec_l2Board_s2 F b4) F r3 some
theorem spec_l2Board_s2_nat (F : Nat) (b4 : List Int) : Natural (spec_l2Board_s2 F b4) := by
  intro Q Q' s kn kx h
  simp only [spec_l2Board_s2, cond_bindL, none_bindL]
/-- loop.example/g01194/spec.l2Board -/
def spec_l2Board_c (Q : Type) (F : Nat) (b0 : List Int) (k : (Bool) → Option Q) : Option Q :=
    let z_1 := (spec_l2Board_l2 F b0 (0 : Int))
    bif (Option.isSome z_1) then
    bif (Option.getD z_1 default) then
    k false
    else k true
    else none
def spec_l2Board_p (F : Nat) (b0 : List Int) : Option (Bool) := spec_l2Board_c _ F b0 some
theorem spec_l2Board_cp (Q : Type) (F : Nat) (b0 : List Int) (k : (Bool) → Option Q) : spec_l2Board_c Q F b0 k = (spec_l2Board_p F b0).bind k := by
  simp only [spec_l2Board_p, spec_l2Board_c, cond_bindL, none_bindL, some_bindL]

/-- loop 5 of loop.example/g01194/spec.CountTiles -/
def spec_CountTiles_s5 (F : Nat) (b10 : List Int) (Q : Type) : (Int × List Int) → ((Int × List Int) → Option Q) → ((List Int) → Option Q) → Option Q
  | (r9, out12), kn, kx =>
    let z_1 : Nat := ((0 : Nat) + ((Int.toNat r9) * (4 : Nat)))
    let z_2 : Int := (iget b10 z_1)
    let z_3 : Bool := (inR z_2 18)
    let z_4 : Int := (iget b10 (z_1 + (1 : Nat)))
    let z_5 : Bool := (inR z_4 18)
    let z_6 : Int := (iget b10 (z_1 + (2 : Nat)))
    let z_7 : Bool := (inR z_6 18)
    let z_8 : Int := (iget b10 (z_1 + (3 : Nat)))
    let z_9 : Bool := (inR z_8 18)
    let z_10 : Nat := ((0 : Nat) + ((Int.toNat z_2) * (1 : Nat)))
    let z_11 : List Int := (iset out12 z_10 (IntKind.wrap .i64 ((iget out12 z_10) + (1 : Int))))
    let z_12 : Nat := ((0 : Nat) + ((Int.toNat z_4) * (1 : Nat)))
    let z_13 : List Int := (iset z_11 z_12 (IntKind.wrap .i64 ((iget z_11 z_12) + (1 : Int))))
    let z_14 : Nat := ((0 : Nat) + ((Int.toNat z_6) * (1 : Nat)))
    let z_15 : List Int := (iset z_13 z_14 (IntKind.wrap .i64 ((iget z_13 z_14) + (1 : Int))))
    let z_16 : Nat := ((0 : Nat) + ((Int.toNat z_8) * (1 : Nat)))
    bif (decide (r9 < (4 : Int))) then
    bif (inR r9 4) then
    bif z_3 then
    bif z_3 then
    bif (inR r9 4) then
    bif z_5 then
    bif z_5 then
    bif (inR r9 4) then
    bif z_7 then
    bif z_7 then
    bif (inR r9 4) then
    bif z_9 then
    bif z_9 then
    kn ((IntKind.wrap .i64 (r9 + (1 : Int))), (iset z_15 z_16 (IntKind.wrap .i64 ((iget z_15 z_16) + (1 : Int)))))
    else none
    else none
    else none
    else none
    else none
    else none
    else none
    else none
    else none
    else none
    else none
    else none
    else kx out12
def spec_CountTiles_l5 (F : Nat) (b10 : List Int) (r9 : Int) (out12 : List Int) : Option (List Int) := loopC (spec_CountTiles_s5 F b10) F (r9, out12) some
theorem spec_CountTiles_s5_nat (F : Nat) (b10 : List Int) : Natural (spec_CountTiles_s5 F b10) := by
  intro Q Q' s kn kx h
  obtain ⟨r9, out12⟩ := s
  simp only [spec_CountTiles_s5, cond_bindL, none_bindL]
/-- loop.example/g01194/spec.CountTiles -/
def spec_CountTiles_c (Q : Type) (F : Nat) (b0 : List Int) (k : (List Int × Bool) → Option Q) : Option Q :=
    let z_1 := (spec_l2Board_p F b0)
    let z_2 : List Int := [(0 : Int), (0 : Int), (0 : Int), (0 : Int), (0 : Int), (0 : Int), (0 : Int), (0 : Int), (0 : Int), (0 : Int), (0 : Int), (0 : Int), (0 : Int), (0 : Int), (0 : Int), (0 : Int), (0 : Int), (0 : Int)]
    let z_3 := (spec_CountTiles_l5 F b0 (0 : Int) z_2)
    bif (Option.isSome z_1) then
    bif (!(Option.getD z_1 default)) then
    k (z_2, false)
    else bif (Option.isSome z_3) then
    k ((Option.getD z_3 default), true)
    else none
    else none
def spec_CountTiles_p (F : Nat) (b0 : List Int) : Option (List Int × Bool) := spec_CountTiles_c _ F b0 some
theorem spec_CountTiles_cp (Q : Type) (F : Nat) (b0 : List Int) (k : (List Int × Bool) → Option Q) : spec_CountTiles_c Q F b0 k = (spec_CountTiles_p F b0).bind k := by
  simp only [spec_CountTiles_p, spec_CountTiles_c, cond_bindL, none_bindL, some_bindL]

/-- loop.example/g01194/spec.l3Form -/
def spec_l3Form_c (Q : Type) (k0 : Int) (k : (Bool) → Option Q) : Option Q :=
    k (spec_l1In_v k0 (0 : Int) (7 : Int))
def spec_l3Form_v (k0 : Int) : Bool :=
    (spec_l1In_v k0 (0 : Int) (7 : Int))
theorem spec_l3Form_cv (Q : Type) (k0 : Int) (k : (Bool) → Option Q) : spec_l3Form_c Q k0 k = k (spec_l3Form_v k0) := by
  simp only [spec_l3Form_c, spec_l3Form_v, app_condL k]

/-- loop.example/g01194/spec.l3Quarter -/
def spec_l3Quarter_c (Q : Type) (b0 : List Int) (k : (List Int) → Option Q) : Option Q :=
    k [(iget b0 12), (iget b0 8), (iget b0 4), (iget b0 0), (iget b0 13), (iget b0 9), (iget b0 5), (iget b0 1), (iget b0 14), (iget b0 10), (iget b0 6), (iget b0 2), (iget b0 15), (iget b0 11), (iget b0 7), (iget b0 3)]
def spec_l3Quarter_v (b0 : List Int) : List Int :=
    [(iget b0 12), (iget b0 8), (iget b0 4), (iget b0 0), (iget b0 13), (iget b0 9), (iget b0 5), (iget b0 1), (iget b0 14), (iget b0 10), (iget b0 6), (iget b0 2), (iget b0 15), (iget b0 11), (iget b0 7), (iget b0 3)]
theorem spec_l3Quarter_cv (Q : Type) (b0 : List Int) (k : (List Int) → Option Q) : spec_l3Quarter_c Q b0 k = k (spec_l3Quarter_v b0) := by
  simp only [spec_l3Quarter_c, spec_l3Quarter_v, app_condL k]

/-- loop.example/g01194/spec.l3Mirror -/
def spec_l3Mirror_c (Q : Type) (b0 : List Int) (k : (List Int) → Option Q) : Option Q :=
    k [(iget b0 3), (iget b0 2), (iget b0 1), (iget b0 0), (iget b0 7), (iget b0 6), (iget b0 5), (iget b0 4), (iget b0 11), (iget b0 10), (iget b0 9), (iget b0 8), (iget b0 15), (iget b0 14), (iget b0 13), (iget b0 12)]
def spec_l3Mirror_v (b0 : List Int) : List Int :=
    [(iget b0 3), (iget b0 2), (iget b0 1), (iget b0 0), (iget b0 7), (iget b0 6), (iget b0 5), (iget b0 4), (iget b0 11), (iget b0 10), (iget b0 9), (iget b0 8), (iget b0 15), (iget b0 14), (iget b0 13), (iget b0 12)]
theorem spec_l3Mirror_cv (Q : Type) (b0 : List Int) (k : (List Int) → Option Q) : spec_l3Mirror_c Q b0 k = k (spec_l3Mirror_v b0) := by
  simp only [spec_l3Mirror_c, spec_l3Mirror_v, app_condL k]

/-- loop 2 of loop.example/g01194/spec.l3Made -/
def spec_l3Made_s2 (F : Nat) (k0 : Int) (Q : Type) : (Int × List Int) → ((Int × List Int) → Option Q) → ((List Int) → Option Q) → Option Q
  | (i7, b8), kn, kx =>
    bif (decide (i7 < (Int.tmod k0 (4 : Int)))) then
    kn ((IntKind.wrap .i64 (i7 + (1 : Int))), (spec_l3Quarter_v b8))
    else kx b8
def spec_l3Made_l2 (F : Nat) (k0 : Int) (i7 : Int) (b8 : List Int) : Option (List Int) := loopC (spec_l3Made_s2 F k0) F (i7, b8) some
theorem spec_l3Made_s2_nat (F : Nat) (k0 : Int) : Natural (spec_l3Made_s2 F k0) := by
  intro Q Q' s kn kx h
  obtain ⟨i7, b8⟩ := s
  simp only [spec_l3Made_s2, cond_bindL, none_bindL]
/-- loop.example/g01194/spec.l3Made -/
def spec_l3Made_c (Q : Type) (F : Nat) (b0 : List Int) (k1 : Int) (k : (List Int) → Option Q) : Option Q :=
    let z_1 := (spec_l3Made_l2 F k1 (0 : Int) b0)
    bif (Option.isSome z_1) then
    bif (decide ((4 : Int) ≤ k1)) then
    k (spec_l3Mirror_v (Option.getD z_1 default))
    else k (Option.getD z_1 default)
    else none
def spec_l3Made_p (F : Nat) (b0 : List Int) (k1 : Int) : Option (List Int) := spec_l3Made_c _ F b0 k1 some
theorem spec_l3Made_cp (Q : Type) (F : Nat) (b0 : List Int) (k1 : Int) (k : (List Int) → Option Q) : spec_l3Made_c Q F b0 k1 k = (spec_l3Made_p F b0 k1).bind k := by
  simp only [spec_l3Made_p, spec_l3Made_c, cond_bindL, none_bindL, some_bindL]

/-- loop.example/g01194/spec.l7Snake -/
def spec_l7Snake_c (Q : Type) (F : Nat) (k0 : Int) (k : (List Int) → Option Q) : Option Q :=
    let z_1 := (spec_l3Made_p F [(0 : Int), (1 : Int), (2 : Int), (3 : Int), (7 : Int), (6 : Int), (5 : Int), (4 : Int), (8 : Int), (9 : Int), (10 : Int), (11 : Int), (15 : Int), (14 : Int), (13 : Int), (12 : Int)] k0)
    let z_2 : Int := (iget (Option.getD z_1 default) 0)
    let z_3 : Int := (iget (Option.getD z_1 default) 1)
    let z_4 : Int := (iget (Option.getD z_1 default) 2)
    let z_5 : Int := (iget (Option.getD z_1 default) 3)
    let z_6 : Int := (iget (Option.getD z_1 default) 4)
    let z_7 : Int := (iget (Option.getD z_1 default) 5)
    let z_8 : Int := (iget (Option.getD z_1 default) 6)
    let z_9 : Int := (iget (Option.getD z_1 default) 7)
    let z_10 : Int := (iget (Option.getD z_1 default) 8)
    let z_11 : Int := (iget (Option.getD z_1 default) 9)
    let z_12 : Int := (iget (Option.getD z_1 default) 10)
    let z_13 : Int := (iget (Option.getD z_1 default) 11)
    let z_14 : Int := (iget (Option.getD z_1 default) 12)
    let z_15 : Int := (iget (Option.getD z_1 default) 13)
    let z_16 : Int := (iget (Option.getD z_1 default) 14)
    let z_17 : Int := (iget (Option.getD z_1 default) 15)
    bif (Option.isSome z_1) then
    bif (inR z_2 16) then
    bif (inR z_3 16) then
    bif (inR z_4 16) then
    bif (inR z_5 16) then
    bif (inR z_6 16) then
    bif (inR z_7 16) then
    bif (inR z_8 16) then
    bif (inR z_9 16) then
    bif (inR z_10 16) then
    bif (inR z_11 16) then
    bif (inR z_12 16) then
    bif (inR z_13 16) then
    bif (inR z_14 16) then
    bif (inR z_15 16) then
    bif (inR z_16 16) then
    bif (inR z_17 16) then
    k (splicen 32 (splicen 32 (splicen 32 (splicen 32 (splicen 32 (splicen 32 (splicen 32 (splicen 32 (splicen 32 (splicen 32 (splicen 32 (splicen 32 (splicen 32 (splicen 32 (splicen 32 (splicen 32 [(0 : Int), (0 : Int), (0 : Int), (0 : Int), (0 : Int), (0 : Int), (0 : Int), (0 : Int), (0 : Int), (0 : Int), (0 : Int), (0 : Int), (0 : Int), (0 : Int), (0 : Int), (0 : Int), (0 : Int), (0 : Int), (0 : Int), (0 : Int), (0 : Int), (0 : Int), (0 : Int), (0 : Int), (0 : Int), (0 : Int), (0 : Int), (0 : Int), (0 : Int), (0 : Int), (0 : Int), (0 : Int)] ((0 : Nat) + ((Int.toNat z_2) * (2 : Nat))) [(0 : Int), (0 : Int)] 2) ((0 : Nat) + ((Int.toNat z_3) * (2 : Nat))) [(0 : Int), (1 : Int)] 2) ((0 : Nat) + ((Int.toNat z_4) * (2 : Nat))) [(0 : Int), (2 : Int)] 2) ((0 : Nat) + ((Int.toNat z_5) * (2 : Nat))) [(0 : Int), (3 : Int)] 2) ((0 : Nat) + ((Int.toNat z_6) * (2 : Nat))) [(1 : Int), (0 : Int)] 2) ((0 : Nat) + ((Int.toNat z_7) * (2 : Nat))) [(1 : Int), (1 : Int)] 2) ((0 : Nat) + ((Int.toNat z_8) * (2 : Nat))) [(1 : Int), (2 : Int)] 2) ((0 : Nat) + ((Int.toNat z_9) * (2 : Nat))) [(1 : Int), (3 : Int)] 2) ((0 : Nat) + ((Int.toNat z_10) * (2 : Nat))) [(2 : Int), (0 : Int)] 2) ((0 : Nat) + ((Int.toNat z_11) * (2 : Nat))) [(2 : Int), (1 : Int)] 2) ((0 : Nat) + ((Int.toNat z_12) * (2 : Nat))) [(2 : Int), (2 : Int)] 2) ((0 : Nat) + ((Int.toNat z_13) * (2 : Nat))) [(2 : Int), (3 : Int)] 2) ((0 : Nat) + ((Int.toNat z_14) * (2 : Nat))) [(3 : Int), (0 : Int)] 2) ((0 : Nat) + ((Int.toNat z_15) * (2 : Nat))) [(3 : Int), (1 : Int)] 2) ((0 : Nat) + ((Int.toNat z_16) * (2 : Nat))) [(3 : Int), (2 : Int)] 2) ((0 : Nat) + ((Int.toNat z_17) * (2 : Nat))) [(3 : Int), (3 : Int)] 2)
    else none
    else none
    else none
    else none
    else none
    else none
    else none
    else none
    else none
    else none
    else none
    else none
    else none
    else none
    else none
    else none
    else none
def spec_l7Snake_p (F : Nat) (k0 : Int) : Option (List Int) := spec_l7Snake_c _ F k0 some
theorem spec_l7Snake_cp (Q : Type) (F : Nat) (k0 : Int) (k : (List Int) → Option Q) : spec_l7Snake_c Q F k0 k = (spec_l7Snake_p F k0).bind k := by
  simp only [spec_l7Snake_p, spec_l7Snake_c, cond_bindL, none_bindL, some_bindL]

/-- loop.example/g01194/spec.l2Put -/
def spec_l2Put_c (Q : Type) (b0 : List Int) (cell1 : List Int) (t2 : Int) (k : (List Int) → Option Q) : Option Q :=
    bif (inR (iget cell1 0) 4) then
    bif (inR (iget cell1 1) 4) then
    k (iset b0 (((0 : Nat) + ((Int.toNat (iget cell1 0)) * (4 : Nat))) + ((Int.toNat (iget cell1 1)) * (1 : Nat))) t2)
    else none
    else none
def spec_l2Put_p (b0 : List Int) (cell1 : List Int) (t2 : Int) : Option (List Int) := spec_l2Put_c _ b0 cell1 t2 some
theorem spec_l2Put_cp (Q : Type) (b0 : List Int) (cell1 : List Int) (t2 : Int) (k : (List Int) → Option Q) : spec_l2Put_c Q b0 cell1 t2 k = (spec_l2Put_p b0 cell1 t2).bind k := by
  simp only [spec_l2Put_p, spec_l2Put_c, cond_bindL, none_bindL, some_bindL]

/-- loop 9 of loop.example/g01194/spec.SnakeBoard -/
def spec_SnakeBoard_s9 (F : Nat) (t13 : Int) (counts16 : List Int) (path18 : List Int) (Q : Type) : (Int × Int × List Int) → ((Int × Int × List Int) → Option Q) → ((Int × List Int) → Option Q) → Option Q
  | (n12, i14, out17), kn, kx =>
    let z_1 := (spec_l2Put_p out17 (subn 32 path18 ((0 : Nat) + ((Int.toNat n12) * (2 : Nat))) 2) t13)
    bif (inR t13 18) then
    bif (decide (i14 < (iget counts16 ((0 : Nat) + ((Int.toNat t13) * (1 : Nat)))))) then
    bif (inR n12 16) then
    bif (Option.isSome z_1) then
    kn ((IntKind.wrap .i64 (n12 + (1 : Int))), (IntKind.wrap .i64 (i14 + (1 : Int))), (Option.getD z_1 default))
    else none
    else none
    else kx (n12, out17)
    else none
def spec_SnakeBoard_l9 (F : Nat) (t13 : Int) (counts16 : List Int) (path18 : List Int) (n12 : Int) (i14 : Int) (out17 : List Int) : Option (Int × List Int) := loopC (spec_SnakeBoard_s9 F t13 counts16 path18) F (n12, i14, out17) some
theorem spec_SnakeBoard_s9_nat (F : Nat) (t13 : Int) (counts16 : List Int) (path18 : List Int) : Natural (spec_SnakeBoard_s9 F t13 counts16 path18) := by
  intro Q Q' s kn kx h
  obtain ⟨n12, i14, out17⟩ := s
  simp only [spec_SnakeBoard_s9, cond_bindL, none_bindL]
/-- loop 6 of loop.example/g01194/spec.SnakeBoard -/
def spec_SnakeBoard_s6 (F : Nat) (counts15 : List Int) (path17 : List Int) (Q : Type) : (Int × Int × List Int) → ((Int × Int × List Int) → Option Q) → ((List Int) → Option Q) → Option Q
  | (n12, t13, out16), kn, kx =>
    let z_1 := (spec_SnakeBoard_l9 F t13 counts15 path17 n12 (0 : Int) out16)
    let z_2 := (Option.getD z_1 default)
    bif (decide ((0 : Int) < t13)) then
    bif (Option.isSome z_1) then
    kn (z_2.1, (IntKind.wrap .i64 (t13 - (1 : Int))), z_2.2)
    else none
    else kx out16
def spec_SnakeBoard_l6 (F : Nat) (counts15 : List Int) (path17 : List Int) (n12 : Int) (t13 : Int) (out16 : List Int) : Option (List Int) := loopC (spec_SnakeBoard_s6 F counts15 path17) F (n12, t13, out16) some
theorem spec_SnakeBoard_s6_nat (F : Nat) (counts15 : List Int) (path17 : List Int) : Natural (spec_SnakeBoard_s6 F counts15 path17) := by
  intro Q Q' s kn kx h
  obtain ⟨n12, t13, out16⟩ := s
  simp only [spec_SnakeBoard_s6, cond_bindL, none_bindL]
/-- loop.example/g01194/spec.SnakeBoard -/
def spec_SnakeBoard_c (Q : Type) (F : Nat) (b0 : List Int) (k1 : Int) (k : (List Int × Bool) → Option Q) : Option Q :=
    let z_1 := (spec_CountTiles_p F b0)
    let z_2 := (Option.getD z_1 default)
    let z_3 : List Int := [(0 : Int), (0 : Int), (0 : Int), (0 : Int), (0 : Int), (0 : Int), (0 : Int), (0 : Int), (0 : Int), (0 : Int), (0 : Int), (0 : Int), (0 : Int), (0 : Int), (0 : Int), (0 : Int)]
    let z_4 := (spec_l7Snake_p F k1)
    let z_5 := (spec_SnakeBoard_l6 F z_2.1 (Option.getD z_4 default) (0 : Int) (17 : Int) z_3)
    bif (Option.isSome z_1) then
    bif (!z_2.2) then
    k (z_3, false)
    else bif (!(spec_l3Form_v k1)) then
    k (z_3, false)
    else bif (Option.isSome z_4) then
    bif (Option.isSome z_5) then
    k ((Option.getD z_5 default), true)
    else none
    else none
    else none
def spec_SnakeBoard_p (F : Nat) (b0 : List Int) (k1 : Int) : Option (List Int × Bool) := spec_SnakeBoard_c _ F b0 k1 some
theorem spec_SnakeBoard_cp (Q : Type) (F : Nat) (b0 : List Int) (k1 : Int) (k : (List Int × Bool) → Option Q) : spec_SnakeBoard_c Q F b0 k1 k = (spec_SnakeBoard_p F b0 k1).bind k := by
  simp only [spec_SnakeBoard_p, spec_SnakeBoard_c, cond_bindL, none_bindL, some_bindL]

/-- loop.example/g01194/impl.in -/
def impl_in_c (Q : Type) (n0 : Int) (low1 : Int) (high2 : Int) (k : (Bool) → Option Q) : Option Q :=
    bif (decide (low1 ≤ n0)) then
    k (decide (n0 ≤ high2))
    else k false
def impl_in_v (n0 : Int) (low1 : Int) (high2 : Int) : Bool :=
    bif (decide (low1 ≤ n0)) then
    (decide (n0 ≤ high2))
    else false
theorem impl_in_cv (Q : Type) (n0 : Int) (low1 : Int) (high2 : Int) (k : (Bool) → Option Q) : impl_in_c Q n0 low1 high2 k = k (impl_in_v n0 low1 high2) := by
  simp only [impl_in_c, impl_in_v, app_condL k]

/-- loop.example/g01194/impl.IsRow$1 -/
def impl_IsRow_f1_c (Q : Type) (n0 : Int) (k : (Bool) → Option Q) : Option Q :=
    k (!(impl_in_v n0 (0 : Int) (17 : Int)))
def impl_IsRow_f1_v (n0 : Int) : Bool :=
    (!(impl_in_v n0 (0 : Int) (17 : Int)))
theorem impl_IsRow_f1_cv (Q : Type) (n0 : Int) (k : (Bool) → Option Q) : impl_IsRow_f1_c Q n0 k = k (impl_IsRow_f1_v n0) := by
  simp only [impl_IsRow_f1_c, impl_IsRow_f1_v, app_condL k]

/-- loop 2 of slices.IndexFunc[[]int,int] -/
def slices_IndexFunc_intint_impl_IsRow_f1_s2 (F : Nat) (s0 : List Int) (t71 : Int) (Q : Type) : (Int) → ((Int) → Option Q) → ((Bool × Int) → Option Q) → Option Q
  | t82, kn, kx =>
    bif (decide (t82 < t71)) then
    bif (inR t82 (List.length s0)) then
    bif (impl_IsRow_f1_v (iget s0 (Int.toNat t82))) then
    kx (true, t82)
    else kn (IntKind.wrap .i64 (t82 + (1 : Int)))
    else none
    else kx (false, default)
def slices_IndexFunc_intint_impl_IsRow_f1_l2 (F : Nat) (s0 : List Int) (t71 : Int) (t82 : Int) : Option (Bool × Int) := loopC (slices_IndexFunc_intint_impl_IsRow_f1_s2 F s0 t71) F t82 some
theorem slices_IndexFunc_intint_impl_IsRow_f1_s2_nat (F : Nat) (s0 : List Int) (t71 : Int) : Natural (slices_IndexFunc_intint_impl_IsRow_f1_s2 F s0 t71) := by
  intro Q Q' s kn kx h
  simp only [slices_IndexFunc_intint_impl_IsRow_f1_s2, cond_bindL, none_bindL]
/-- slices.IndexFunc[[]int,int] -/
def slices_IndexFunc_intint_impl_IsRow_f1_c (Q : Type) (F : Nat) (s0 : List Int) (k : (Int) → Option Q) : Option Q :=
    let z_1 := (slices_IndexFunc_intint_impl_IsRow_f1_l2 F s0 (((List.length s0) : Nat) : Int) (0 : Int))
    let z_2 := (Option.getD z_1 default)
    bif (Option.isSome z_1) then
    bif z_2.1 then
    k z_2.2
    else k (-1 : Int)
    else none
def slices_IndexFunc_intint_impl_IsRow_f1_p (F : Nat) (s0 : List Int) : Option (Int) := slices_IndexFunc_intint_impl_IsRow_f1_c _ F s0 some
theorem slices_IndexFunc_intint_impl_IsRow_f1_cp (Q : Type) (F : Nat) (s0 : List Int) (k : (Int) → Option Q) : slices_IndexFunc_intint_impl_IsRow_f1_c Q F s0 k = (slices_IndexFunc_intint_impl_IsRow_f1_p F s0).bind k := by
  simp only [slices_IndexFunc_intint_impl_IsRow_f1_p, slices_IndexFunc_intint_impl_IsRow_f1_c, cond_bindL, none_bindL, some_bindL]

/-- slices.ContainsFunc[[]int,int] -/
def slices_ContainsFunc_intint_impl_IsRow_f1_c (Q : Type) (F : Nat) (s0 : List Int) (k : (Bool) → Option Q) : Option Q :=
    let z_1 := (slices_IndexFunc_intint_impl_IsRow_f1_p F s0)
    bif (Option.isSome z_1) then
    k (decide ((0 : Int) ≤ (Option.getD z_1 default)))
    else none
def slices_ContainsFunc_intint_impl_IsRow_f1_p (F : Nat) (s0 : List Int) : Option (Bool) := slices_ContainsFunc_intint_impl_IsRow_f1_c _ F s0 some
theorem slices_ContainsFunc_intint_impl_IsRow_f1_cp (Q : Type) (F : Nat) (s0 : List Int) (k : (Bool) → Option Q) : slices_ContainsFunc_intint_impl_IsRow_f1_c Q F s0 k = (slices_ContainsFunc_intint_impl_IsRow_f1_p F s0).bind k := by
  simp only [slices_ContainsFunc_intint_impl_IsRow_f1_p, slices_ContainsFunc_intint_impl_IsRow_f1_c, cond_bindL, none_bindL, some_bindL]

/-- loop.example/g01194/impl.IsRow -/
def impl_IsRow_c (Q : Type) (F : Nat) (row0 : List Int) (k : (Bool) → Option Q) : Option Q :=
    let z_1 := (slices_ContainsFunc_intint_impl_IsRow_f1_p F (sub row0 0 4))
    bif (Option.isSome z_1) then
    k (!(Option.getD z_1 default))
    else none
def impl_IsRow_p (F : Nat) (row0 : List Int) : Option (Bool) := impl_IsRow_c _ F row0 some
theorem impl_IsRow_cp (Q : Type) (F : Nat) (row0 : List Int) (k : (Bool) → Option Q) : impl_IsRow_c Q F row0 k = (impl_IsRow_p F row0).bind k := by
  simp only [impl_IsRow_p, impl_IsRow_c, cond_bindL, none_bindL, some_bindL]

/-- loop.example/g01194/impl.IsBoard$1 -/
def impl_IsBoard_f1_c (Q : Type) (F : Nat) (row0 : List Int) (k : (Bool) → Option Q) : Option Q :=
    let z_1 := (impl_IsRow_p F row0)
    bif (Option.isSome z_1) then
    k (!(Option.getD z_1 default))
    else none
def impl_IsBoard_f1_p (F : Nat) (row0 : List Int) : Option (Bool) := impl_IsBoard_f1_c _ F row0 some
theorem impl_IsBoard_f1_cp (Q : Type) (F : Nat) (row0 : List Int) (k : (Bool) → Option Q) : impl_IsBoard_f1_c Q F row0 k = (impl_IsBoard_f1_p F row0).bind k := by
  simp only [impl_IsBoard_f1_p, impl_IsBoard_f1_c, cond_bindL, none_bindL, some_bindL]
end Go.Lv.P
