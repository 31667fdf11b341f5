/-
Pure functions and what the code of them does, by program; without conditions.
-/
import Derived.Test.YtgmnclpjbhmioaaTKP4
namespace Go.Lv.P
open Go Go.Lv
set_option linter.unusedVariables false
set_option linter.unusedSimpArgs false
set_option maxRecDepth 100000
/-- loop 9 of loop.example/g01194/impl.MostBefore -/
def impl_MostBefore_s9 (F : Nat) (sum0 : Int) (t282 : List (List Int)) (t283 : List (List Int)) (t284 : List (List Int)) (t285 : List (List Int)) (t296 : Int) (t327 : List (List Int)) (t338 : Int) (Q : Type) : (Int × Int) → ((Int × Int) → Option Q) → ((Int) → Option Q) → Option Q
  | (most1, t349), kn, kx =>
    let z_1 := (impl_tiles_p F (rget t327 (Int.toNat t349)))
    bif (decide (t349 < t338)) then
    bif (inR t349 (List.length t327)) then
    bif (Option.isSome z_1) then
    kn ((if (((Option.getD z_1 default).1 : Nat) : Int) > most1 then (((Option.getD z_1 default).1 : Nat) : Int) else most1), (IntKind.wrap .i64 (t349 + (1 : Int))))
    else none
    else none
    else kx most1
def impl_MostBefore_l9 (F : Nat) (sum0 : Int) (t282 : List (List Int)) (t283 : List (List Int)) (t284 : List (List Int)) (t285 : List (List Int)) (t296 : Int) (t327 : List (List Int)) (t338 : Int) (most1 : Int) (t349 : Int) : Option (Int) := loopC (impl_MostBefore_s9 F sum0 t282 t283 t284 t285 t296 t327 t338) F (most1, t349) some
theorem impl_MostBefore_s9_nat (F : Nat) (sum0 : Int) (t282 : List (List Int)) (t283 : List (List Int)) (t284 : List (List Int)) (t285 : List (List Int)) (t296 : Int) (t327 : List (List Int)) (t338 : Int) : Natural (impl_MostBefore_s9 F sum0 t282 t283 t284 t285 t296 t327 t338) := by
  intro Q Q' s kn kx h
  obtain ⟨most1, t349⟩ := s
  simp only [impl_MostBefore_s9, cond_bindL, none_bindL]
/-- loop 5 of loop.example/g01194/impl.MostBefore -/
def impl_MostBefore_s5 (F : Nat) (t281 : List (List Int)) (t282 : List (List Int)) (t283 : List (List Int)) (t284 : List (List Int)) (Q : Type) : (Int × Int) → ((Int × Int) → Option Q) → ((Int) → Option Q) → Option Q
  | (sum0, t295), kn, kx =>
    let z_1 : List (List Int) := (llget [t281, t282, t283, t284] ((Int.toNat t295) * (1 : Nat)))
    let z_2 := (impl_MostBefore_l9 F sum0 t281 t282 t283 t284 t295 z_1 (((List.length z_1) : Nat) : Int) (0 : Int) (0 : Int))
    bif (decide (t295 < (4 : Int))) then
    bif (inR t295 4) then
    bif (Option.isSome z_2) then
    kn ((IntKind.wrap .i64 (sum0 + (Option.getD z_2 default))), (IntKind.wrap .i64 (t295 + (1 : Int))))
    else none
    else none
    else kx sum0
def impl_MostBefore_l5 (F : Nat) (t281 : List (List Int)) (t282 : List (List Int)) (t283 : List (List Int)) (t284 : List (List Int)) (sum0 : Int) (t295 : Int) : Option (Int) := loopC (impl_MostBefore_s5 F t281 t282 t283 t284) F (sum0, t295) some
theorem impl_MostBefore_s5_nat (F : Nat) (t281 : List (List Int)) (t282 : List (List Int)) (t283 : List (List Int)) (t284 : List (List Int)) : Natural (impl_MostBefore_s5 F t281 t282 t283 t284) := by
  intro Q Q' s kn kx h
  obtain ⟨sum0, t295⟩ := s
  simp only [impl_MostBefore_s5, cond_bindL, none_bindL]
/-- loop.example/g01194/impl.MostBefore -/
def impl_MostBefore_c (Q : Type) (F : Nat) (b0 : List Int) (direction1 : Int) (k : (Int × Bool) → Option Q) : Option Q :=
    let z_1 := (impl_IsBoard_p F b0)
    let z_2 := (impl_Board_countBefore_p F b0 direction1)
    let z_3 := (impl_Board_linesBefore_p F b0 direction1)
    let z_4 := (Option.getD z_3 default)
    let z_5 := (impl_MostBefore_l5 F z_4.1 z_4.2.1 z_4.2.2.1 z_4.2.2.2 (0 : Int) (0 : Int))
    bif (Option.isSome z_1) then
    bif (!(Option.getD z_1 default)) then
    k ((0 : Int), false)
    else bif (!(impl_isDirection_v direction1)) then
    k ((0 : Int), false)
    else bif (Option.isSome z_2) then
    bif ((Option.getD z_2 default) == (0 : Int)) then
    k ((0 : Int), false)
    else bif (Option.isSome z_3) then
    bif (Option.isSome z_5) then
    k ((Option.getD z_5 default), true)
    else none
    else none
    else none
    else none
def impl_MostBefore_p (F : Nat) (b0 : List Int) (direction1 : Int) : Option (Int × Bool) := impl_MostBefore_c _ F b0 direction1 some
theorem impl_MostBefore_cp (Q : Type) (F : Nat) (b0 : List Int) (direction1 : Int) (k : (Int × Bool) → Option Q) : impl_MostBefore_c Q F b0 direction1 k = (impl_MostBefore_p F b0 direction1).bind k := by
  simp only [impl_MostBefore_p, impl_MostBefore_c, cond_bindL, none_bindL, some_bindL]

/-- loop.example/g01194/laws.FnExactMostBefore -/
def laws_FnExactMostBefore_c (Q : Type) (F : Nat) (aB0 : List Int) (aDirection1 : Int) (k : (Bool) → Option Q) : Option Q :=
    let z_1 := (spec_MostBefore_p F (laws_toBoard_v aB0) aDirection1)
    let z_2 := (impl_MostBefore_p F (laws_toBoard_v aB0) aDirection1)
    let z_3 := (Option.getD z_2 default)
    let z_4 := (Option.getD z_1 default)
    bif (Option.isSome z_1) then
    bif (Option.isSome z_2) then
    bif (!(z_3.1 == z_4.1)) then
    k false
    else bif (!(z_3.2 == z_4.2)) then
    k false
    else k true
    else none
    else none
def laws_FnExactMostBefore_p (F : Nat) (aB0 : List Int) (aDirection1 : Int) : Option (Bool) := laws_FnExactMostBefore_c _ F aB0 aDirection1 some
theorem laws_FnExactMostBefore_cp (Q : Type) (F : Nat) (aB0 : List Int) (aDirection1 : Int) (k : (Bool) → Option Q) : laws_FnExactMostBefore_c Q F aB0 aDirection1 k = (laws_FnExactMostBefore_p F aB0 aDirection1).bind k := by
  simp only [laws_FnExactMostBefore_p, laws_FnExactMostBefore_c, cond_bindL, none_bindL, some_bindL]

/-- loop.example/g01194/spec.SidesInto -/
def spec_SidesInto_c (Q : Type) (F : Nat) (b0 : List Int) (k : (Bool × List Int) → Option Q) : Option Q :=
    let z_1 := (spec_l2Board_p F b0)
    let z_2 := (spec_l6Sides_p F b0)
    bif (Option.isSome z_1) then
    bif (!(Option.getD z_1 default)) then
    k (false, ([] : List Int))
    else bif (Option.isSome z_2) then
    k (true, (Option.getD z_2 default))
    else none
    else none
def spec_SidesInto_p (F : Nat) (b0 : List Int) : Option (Bool × List Int) := spec_SidesInto_c _ F b0 some
theorem spec_SidesInto_cp (Q : Type) (F : Nat) (b0 : List Int) (k : (Bool × List Int) → Option Q) : spec_SidesInto_c Q F b0 k = (spec_SidesInto_p F b0).bind k := by
  simp only [spec_SidesInto_p, spec_SidesInto_c, cond_bindL, none_bindL, some_bindL]

/-- loop 4 of loop.example/g01194/laws.eqIntS -/
def laws_eqIntS_s4 (F : Nat) (a0 : List Int) (b1 : List Int) (Q : Type) : (Int) → ((Int) → Option Q) → ((Bool) → Option Q) → Option Q
  | i2, kn, kx =>
    bif (decide (i2 < (((List.length a0) : Nat) : Int))) then
    bif (inR i2 (List.length a0)) then
    bif (inR i2 (List.length b1)) then
    bif (!((iget a0 (Int.toNat i2)) == (iget b1 (Int.toNat i2)))) then
    kx true
    else kn (IntKind.wrap .i64 (i2 + (1 : Int)))
    else none
    else none
    else kx false
def laws_eqIntS_l4 (F : Nat) (a0 : List Int) (b1 : List Int) (i2 : Int) : Option (Bool) := loopC (laws_eqIntS_s4 F a0 b1) F i2 some
theorem laws_eqIntS_s4_nat (F : Nat) (a0 : List Int) (b1 : List Int) : Natural (laws_eqIntS_s4 F a0 b1) := by
  intro Q Q' s kn kx h
  simp only [laws_eqIntS_s4, cond_bindL, none_bindL]
/-- loop.example/g01194/laws.eqIntS -/
def laws_eqIntS_c (Q : Type) (F : Nat) (a0 : List Int) (b1 : List Int) (k : (Bool) → Option Q) : Option Q :=
    let z_1 := (laws_eqIntS_l4 F a0 b1 (0 : Int))
    bif (!((((List.length a0) : Nat) : Int) == (((List.length b1) : Nat) : Int))) then
    k false
    else bif (Option.isSome z_1) then
    bif (Option.getD z_1 default) then
    k false
    else k true
    else none
def laws_eqIntS_p (F : Nat) (a0 : List Int) (b1 : List Int) : Option (Bool) := laws_eqIntS_c _ F a0 b1 some
theorem laws_eqIntS_cp (Q : Type) (F : Nat) (a0 : List Int) (b1 : List Int) (k : (Bool) → Option Q) : laws_eqIntS_c Q F a0 b1 k = (laws_eqIntS_p F a0 b1).bind k := by
  simp only [laws_eqIntS_p, laws_eqIntS_c, cond_bindL, none_bindL, some_bindL]

/-- loop 2 of loop.example/g01194/laws.markIntS -/
def laws_markIntS_s2 (F : Nat) (a1 : Nat) (Q : Type) : (Int × Int × List Int) → ((Int × Int × List Int) → Option Q) → ((Int × List Int) → Option Q) → Option Q
  | (k2, i3, a4), kn, kx =>
    bif (decide (i3 < ((a1 : Nat) : Int))) then
    bif (inR i3 a1) then
    kn ((IntKind.wrap .i64 (k2 + (1 : Int))), (IntKind.wrap .i64 (i3 + (1 : Int))), (iset a4 ((0 : Nat) + (Int.toNat i3)) k2))
    else none
    else kx (k2, a4)
def laws_markIntS_l2 (F : Nat) (a1 : Nat) (k2 : Int) (i3 : Int) (a4 : List Int) : Option (Int × List Int) := loopC (laws_markIntS_s2 F a1) F (k2, i3, a4) some
theorem laws_markIntS_s2_nat (F : Nat) (a1 : Nat) : Natural (laws_markIntS_s2 F a1) := by
  intro Q Q' s kn kx h
  obtain ⟨k2, i3, a4⟩ := s
  simp only [laws_markIntS_s2, cond_bindL, none_bindL]
/-- loop.example/g01194/laws.markIntS -/
def laws_markIntS_c (Q : Type) (F : Nat) (a1 : Nat) (k2 : Int) (a3 : List Int) (k : (Int × List Int) → Option Q) : Option Q :=
    let z_1 := (laws_markIntS_l2 F a1 k2 (0 : Int) a3)
    let z_2 := (Option.getD z_1 default)
    bif (Option.isSome z_1) then
    k (z_2.1, z_2.2)
    else none
def laws_markIntS_p (F : Nat) (a1 : Nat) (k2 : Int) (a3 : List Int) : Option (Int × List Int) := laws_markIntS_c _ F a1 k2 a3 some
theorem laws_markIntS_cp (Q : Type) (F : Nat) (a1 : Nat) (k2 : Int) (a3 : List Int) (k : (Int × List Int) → Option Q) : laws_markIntS_c Q F a1 k2 a3 k = (laws_markIntS_p F a1 k2 a3).bind k := by
  simp only [laws_markIntS_p, laws_markIntS_c, cond_bindL, none_bindL, some_bindL]

/-- loop 2 of loop.example/g01194/laws.heldIntS -/
def laws_heldIntS_s2 (F : Nat) (a0 : List Int) (Q : Type) : (Int × Int) → ((Int × Int) → Option Q) → ((Bool × Int) → Option Q) → Option Q
  | (k1, i2), kn, kx =>
    bif (decide (i2 < (((List.length a0) : Nat) : Int))) then
    bif (inR i2 (List.length a0)) then
    bif (!((iget a0 (Int.toNat i2)) == k1)) then
    kx (true, default)
    else kn ((IntKind.wrap .i64 (k1 + (1 : Int))), (IntKind.wrap .i64 (i2 + (1 : Int))))
    else none
    else kx (false, k1)
def laws_heldIntS_l2 (F : Nat) (a0 : List Int) (k1 : Int) (i2 : Int) : Option (Bool × Int) := loopC (laws_heldIntS_s2 F a0) F (k1, i2) some
theorem laws_heldIntS_s2_nat (F : Nat) (a0 : List Int) : Natural (laws_heldIntS_s2 F a0) := by
  intro Q Q' s kn kx h
  obtain ⟨k1, i2⟩ := s
  simp only [laws_heldIntS_s2, cond_bindL, none_bindL]
/-- loop.example/g01194/laws.heldIntS -/
def laws_heldIntS_c (Q : Type) (F : Nat) (a0 : List Int) (k1 : Int) (k : (Int) → Option Q) : Option Q :=
    let z_1 := (laws_heldIntS_l2 F a0 k1 (0 : Int))
    let z_2 := (Option.getD z_1 default)
    bif (Option.isSome z_1) then
    bif z_2.1 then
    k (-1 : Int)
    else k z_2.2
    else none
def laws_heldIntS_p (F : Nat) (a0 : List Int) (k1 : Int) : Option (Int) := laws_heldIntS_c _ F a0 k1 some
theorem laws_heldIntS_cp (Q : Type) (F : Nat) (a0 : List Int) (k1 : Int) (k : (Int) → Option Q) : laws_heldIntS_c Q F a0 k1 k = (laws_heldIntS_p F a0 k1).bind k := by
  simp only [laws_heldIntS_p, laws_heldIntS_c, cond_bindL, none_bindL, some_bindL]

/-- loop.example/g01194/laws.FnExactSidesInto -/
def laws_FnExactSidesInto_c (Q : Type) (F : Nat) (aB0 : List Int) (k : (Bool) → Option Q) : Option Q :=
    let z_1 := (spec_SidesInto_p F (laws_toBoard_v aB0))
    let z_2 := (impl_SidesInto_p F (laws_toBoard_v aB0))
    let z_3 : Bool := (Option.isSome z_2)
    let z_4 := (Option.getD z_2 default)
    let z_5 : Nat := (List.length z_4.2)
    let z_6 := (Option.getD z_1 default)
    let z_7 : Nat := (List.length z_6.2)
    let z_8 := (laws_eqIntS_p F (subn z_5 z_4.2 0 z_5) (subn z_7 z_6.2 0 z_7))
    let z_9 : Bool := (Option.isSome z_8)
    let z_10 : Bool := (!(Option.getD z_8 default))
    let z_11 : Bool := (!(z_4.1 == z_6.1))
    let z_12 := (laws_markIntS_p F z_5 (1 : Int) z_4.2)
    let z_13 := (Option.getD z_12 default)
    let z_14 := (laws_heldIntS_p F (subn (List.length z_13.2) z_13.2 0 z_5) (1 : Int))
    let z_15 : Bool := (Option.isSome z_14)
    let z_16 : Bool := (decide ((Option.getD z_14 default) < (0 : Int)))
    let z_17 : Bool := (!((Option.getD z_14 default) == z_13.1))
    bif (Option.isSome z_1) then
    bif z_3 then
    bif z_9 then
    bif z_10 then
    k false
    else bif z_11 then
    k false
    else bif (Option.isSome z_12) then
    bif z_15 then
    bif z_16 then
    k false
    else bif z_17 then
    k false
    else bif z_3 then
    bif z_9 then
    bif z_10 then
    k false
    else bif z_11 then
    k false
    else bif z_15 then
    bif z_16 then
    k false
    else bif z_17 then
    k false
    else k true
    else none
    else none
    else none
    else none
    else none
    else none
    else none
    else none
def laws_FnExactSidesInto_p (F : Nat) (aB0 : List Int) : Option (Bool) := laws_FnExactSidesInto_c _ F aB0 some
theorem laws_FnExactSidesInto_cp (Q : Type) (F : Nat) (aB0 : List Int) (k : (Bool) → Option Q) : laws_FnExactSidesInto_c Q F aB0 k = (laws_FnExactSidesInto_p F aB0).bind k := by
  simp only [laws_FnExactSidesInto_p, laws_FnExactSidesInto_c, cond_bindL, none_bindL, some_bindL]

/-- loop 8 of loop.example/g01194/spec.ArisesBy -/
def spec_ArisesBy_s8 (F : Nat) (r5 : Int) (b7 : List Int) (Q : Type) : (Int × List (List Int)) → ((Int × List (List Int)) → Option Q) → ((List (List Int)) → Option Q) → Option Q
  | (c6, out8), kn, kx =>
    let z_1 := (spec_l2At_p b7 [r5, c6])
    let z_2 := (spec_l2Put_p b7 [r5, c6] (0 : Int))
    let z_3 := (spec_l6Sides_p F (Option.getD z_2 default))
    let z_4 : List (List Int) := ((subn (List.length out8) out8 0 (List.length out8)) ++ [[r5, c6]])
    let z_5 : Int := (IntKind.wrap .i64 (c6 + (1 : Int)))
    bif (decide (c6 < (4 : Int))) then
    bif (Option.isSome z_1) then
    bif (spec_l1In_v (Option.getD z_1 default) (1 : Int) (2 : Int)) then
    bif (Option.isSome z_2) then
    bif (Option.isSome z_3) then
    bif (decide ((0 : Int) < (((List.length (Option.getD z_3 default)) : Nat) : Int))) then
    bif (fits (List.length z_4) 16) then
    kn (z_5, z_4)
    else none
    else kn (z_5, out8)
    else none
    else none
    else kn (z_5, out8)
    else none
    else kx out8
def spec_ArisesBy_l8 (F : Nat) (r5 : Int) (b7 : List Int) (c6 : Int) (out8 : List (List Int)) : Option (List (List Int)) := loopC (spec_ArisesBy_s8 F r5 b7) F (c6, out8) some
theorem spec_ArisesBy_s8_nat (F : Nat) (r5 : Int) (b7 : List Int) : Natural (spec_ArisesBy_s8 F r5 b7) := by
  intro Q Q' s kn kx h
  obtain ⟨c6, out8⟩ := s
  simp only [spec_ArisesBy_s8, cond_bindL, none_bindL]
/-- loop 5 of loop.example/g01194/spec.ArisesBy -/
def spec_ArisesBy_s5 (F : Nat) (b6 : List Int) (Q : Type) : (Int × List (List Int)) → ((Int × List (List Int)) → Option Q) → ((List (List Int)) → Option Q) → Option Q
  | (r5, out7), kn, kx =>
    let z_1 := (spec_ArisesBy_l8 F r5 b6 (0 : Int) out7)
    bif (decide (r5 < (4 : Int))) then
    bif ((Nat.beq (List.length out7) (List.length out7)) && (Option.isSome z_1)) then
    kn ((IntKind.wrap .i64 (r5 + (1 : Int))), (Option.getD z_1 default))
    else none
    else kx out7
def spec_ArisesBy_l5 (F : Nat) (b6 : List Int) (r5 : Int) (out7 : List (List Int)) : Option (List (List Int)) := loopC (spec_ArisesBy_s5 F b6) F (r5, out7) some
theorem spec_ArisesBy_s5_nat (F : Nat) (b6 : List Int) : Natural (spec_ArisesBy_s5 F b6) := by
  intro Q Q' s kn kx h
  obtain ⟨r5, out7⟩ := s
  simp only [spec_ArisesBy_s5, cond_bindL, none_bindL]
/-- loop.example/g01194/spec.ArisesBy -/
def spec_ArisesBy_c (Q : Type) (F : Nat) (b0 : List Int) (k : (Bool × List (List Int)) → Option Q) : Option Q :=
    let z_1 := (spec_l2Board_p F b0)
    let z_2 := (spec_ArisesBy_l5 F b0 (0 : Int) ([] : List (List Int)))
    bif (Option.isSome z_1) then
    bif (!(Option.getD z_1 default)) then
    k (false, ([] : List (List Int)))
    else bif (Option.isSome z_2) then
    k (true, (Option.getD z_2 default))
    else none
    else none
def spec_ArisesBy_p (F : Nat) (b0 : List Int) : Option (Bool × List (List Int)) := spec_ArisesBy_c _ F b0 some
theorem spec_ArisesBy_cp (Q : Type) (F : Nat) (b0 : List Int) (k : (Bool × List (List Int)) → Option Q) : spec_ArisesBy_c Q F b0 k = (spec_ArisesBy_p F b0).bind k := by
  simp only [spec_ArisesBy_p, spec_ArisesBy_c, cond_bindL, none_bindL, some_bindL]

/-- loop.example/g01194/impl.cells -/
def impl_cells_c (Q : Type) (k : (Unit) → Option Q) : Option Q :=
    k ()
def impl_cells_v : Unit :=
    ()
theorem impl_cells_cv (Q : Type) (k : (Unit) → Option Q) : impl_cells_c Q k = k (impl_cells_v) := by
  simp only [impl_cells_c, impl_cells_v, app_condL k]

/-- loop.example/g01194/impl.ArisesBy$1 -/
def impl_ArisesBy_f1_c (Q : Type) (F : Nat) (cell0 : List Int) (a14 : List Int) (k : (Bool) → Option Q) : Option Q :=
    let z_1 := (impl_Board_at_p cell0 a14)
    let z_2 : Bool := (Option.isSome z_1)
    let z_3 := (impl_IsMade_p F (iset a14 (Option.getD z_1 default) (0 : Int)))
    bif z_2 then
    bif z_2 then
    bif (Option.isSome z_3) then
    bif (!(impl_in_v (iget a14 (Option.getD z_1 default)) (1 : Int) (2 : Int))) then
    k true
    else k (!(Option.getD z_3 default).1)
    else none
    else none
    else none
def impl_ArisesBy_f1_p (F : Nat) (cell0 : List Int) (a14 : List Int) : Option (Bool) := impl_ArisesBy_f1_c _ F cell0 a14 some
theorem impl_ArisesBy_f1_cp (Q : Type) (F : Nat) (cell0 : List Int) (a14 : List Int) (k : (Bool) → Option Q) : impl_ArisesBy_f1_c Q F cell0 a14 k = (impl_ArisesBy_f1_p F cell0 a14).bind k := by
  simp only [impl_ArisesBy_f1_p, impl_ArisesBy_f1_c, cond_bindL, none_bindL, some_bindL]

/-- loop 2 of slices.IndexFunc[[][2]int,[2]int] -/
def slices_IndexFunc_2int2int_impl_ArisesBy_f1_s2 (F : Nat) (s0 : List (List Int)) (t74 : Int) (f6 : List Int) (Q : Type) : (Int) → ((Int) → Option Q) → ((Bool × Int) → Option Q) → Option Q
  | t85, kn, kx =>
    let z_1 := (impl_ArisesBy_f1_p F (rget s0 (Int.toNat t85)) f6)
    bif (decide (t85 < t74)) then
    bif (inR t85 (List.length s0)) then
    bif (Option.isSome z_1) then
    bif (Option.getD z_1 default) then
    kx (true, t85)
    else kn (IntKind.wrap .i64 (t85 + (1 : Int)))
    else none
    else none
    else kx (false, default)
def slices_IndexFunc_2int2int_impl_ArisesBy_f1_l2 (F : Nat) (s0 : List (List Int)) (t74 : Int) (f6 : List Int) (t85 : Int) : Option (Bool × Int) := loopC (slices_IndexFunc_2int2int_impl_ArisesBy_f1_s2 F s0 t74 f6) F t85 some
theorem slices_IndexFunc_2int2int_impl_ArisesBy_f1_s2_nat (F : Nat) (s0 : List (List Int)) (t74 : Int) (f6 : List Int) : Natural (slices_IndexFunc_2int2int_impl_ArisesBy_f1_s2 F s0 t74 f6) := by
  intro Q Q' s kn kx h
  simp only [slices_IndexFunc_2int2int_impl_ArisesBy_f1_s2, cond_bindL, none_bindL]
/-- slices.IndexFunc[[][2]int,[2]int] -/
def slices_IndexFunc_2int2int_impl_ArisesBy_f1_c (Q : Type) (F : Nat) (s0 : List (List Int)) (f4 : List Int) (k : (Int) → Option Q) : Option Q :=
    let z_1 := (slices_IndexFunc_2int2int_impl_ArisesBy_f1_l2 F s0 (((List.length s0) : Nat) : Int) f4 (0 : Int))
    let z_2 := (Option.getD z_1 default)
    bif (Option.isSome z_1) then
    bif z_2.1 then
    k z_2.2
    else k (-1 : Int)
    else none
def slices_IndexFunc_2int2int_impl_ArisesBy_f1_p (F : Nat) (s0 : List (List Int)) (f4 : List Int) : Option (Int) := slices_IndexFunc_2int2int_impl_ArisesBy_f1_c _ F s0 f4 some
theorem slices_IndexFunc_2int2int_impl_ArisesBy_f1_cp (Q : Type) (F : Nat) (s0 : List (List Int)) (f4 : List Int) (k : (Int) → Option Q) : slices_IndexFunc_2int2int_impl_ArisesBy_f1_c Q F s0 f4 k = (slices_IndexFunc_2int2int_impl_ArisesBy_f1_p F s0 f4).bind k := by
  simp only [slices_IndexFunc_2int2int_impl_ArisesBy_f1_p, slices_IndexFunc_2int2int_impl_ArisesBy_f1_c, cond_bindL, none_bindL, some_bindL]

/-- loop 5 of slices.DeleteFunc[[][2]int,[2]int] -/
def slices_DeleteFunc_2int2int_impl_ArisesBy_f1_s5 (F : Nat) (s1 : Nat) (del8 : List Int) (Q : Type) : (Int × Int × List (List Int)) → ((Int × Int × List (List Int)) → Option Q) → ((Int × List (List Int)) → Option Q) → Option Q
  | (i5, j6, s7), kn, kx =>
    let z_1 : List Int := (rget s7 ((0 : Nat) + (Int.toNat j6)))
    let z_2 := (impl_ArisesBy_f1_p F z_1 del8)
    let z_3 : Int := (IntKind.wrap .i64 (j6 + (1 : Int)))
    bif (decide (j6 < ((s1 : Nat) : Int))) then
    bif (inR j6 s1) then
    bif (Option.isSome z_2) then
    bif (!(Option.getD z_2 default)) then
    bif (inR i5 s1) then
    kn ((IntKind.wrap .i64 (i5 + (1 : Int))), z_3, (rset s7 ((0 : Nat) + (Int.toNat i5)) z_1))
    else none
    else kn (i5, z_3, s7)
    else none
    else none
    else kx (i5, s7)
def slices_DeleteFunc_2int2int_impl_ArisesBy_f1_l5 (F : Nat) (s1 : Nat) (del8 : List Int) (i5 : Int) (j6 : Int) (s7 : List (List Int)) : Option (Int × List (List Int)) := loopC (slices_DeleteFunc_2int2int_impl_ArisesBy_f1_s5 F s1 del8) F (i5, j6, s7) some
theorem slices_DeleteFunc_2int2int_impl_ArisesBy_f1_s5_nat (F : Nat) (s1 : Nat) (del8 : List Int) : Natural (slices_DeleteFunc_2int2int_impl_ArisesBy_f1_s5 F s1 del8) := by
  intro Q Q' s kn kx h
  obtain ⟨i5, j6, s7⟩ := s
  simp only [slices_DeleteFunc_2int2int_impl_ArisesBy_f1_s5, cond_bindL, none_bindL]
/-- slices.DeleteFunc[[][2]int,[2]int] -/
def slices_DeleteFunc_2int2int_impl_ArisesBy_f1_c (Q : Type) (F : Nat) (s5 : List (List Int)) (del6 : List Int) (k : (Nat × List (List Int)) → Option Q) : Option Q :=
    let z_1 := (slices_IndexFunc_2int2int_impl_ArisesBy_f1_p F (subn (List.length s5) s5 0 (List.length s5)) del6)
    let z_2 := (slices_DeleteFunc_2int2int_impl_ArisesBy_f1_l5 F (List.length s5) del6 (Option.getD z_1 default) (IntKind.wrap .i64 ((Option.getD z_1 default) + (1 : Int))) s5)
    let z_3 := (Option.getD z_2 default)
    let z_4 : Bool := (inLe z_3.1 (List.length s5))
    let z_5 : Nat := (Int.toNat z_3.1)
    let z_6 : Nat := ((List.length s5) - z_5)
    bif (Option.isSome z_1) then
    bif ((Option.getD z_1 default) == (-1 : Int)) then
    k ((List.length s5), s5)
    else bif (Option.isSome z_2) then
    bif z_4 then
    bif z_4 then
    k ((z_5 - (0 : Nat)), (splice z_3.2 ((0 : Nat) + z_5) (List.replicate z_6 [(0 : Int), (0 : Int)]) z_6))
    else none
    else none
    else none
    else none
def slices_DeleteFunc_2int2int_impl_ArisesBy_f1_p (F : Nat) (s5 : List (List Int)) (del6 : List Int) : Option (Nat × List (List Int)) := slices_DeleteFunc_2int2int_impl_ArisesBy_f1_c _ F s5 del6 some
theorem slices_DeleteFunc_2int2int_impl_ArisesBy_f1_cp (Q : Type) (F : Nat) (s5 : List (List Int)) (del6 : List Int) (k : (Nat × List (List Int)) → Option Q) : slices_DeleteFunc_2int2int_impl_ArisesBy_f1_c Q F s5 del6 k = (slices_DeleteFunc_2int2int_impl_ArisesBy_f1_p F s5 del6).bind k := by
  simp only [slices_DeleteFunc_2int2int_impl_ArisesBy_f1_p, slices_DeleteFunc_2int2int_impl_ArisesBy_f1_c, cond_bindL, none_bindL, some_bindL]

/-- loop.example/g01194/impl.ArisesBy -/
def impl_ArisesBy_c (Q : Type) (F : Nat) (b0 : List Int) (k : (Nat × Bool × List (List Int)) → Option Q) : Option Q :=
    let z_1 := (impl_IsBoard_p F b0)
    let z_2 := (slices_DeleteFunc_2int2int_impl_ArisesBy_f1_p F [[(0 : Int), (0 : Int)], [(0 : Int), (1 : Int)], [(0 : Int), (2 : Int)], [(0 : Int), (3 : Int)], [(1 : Int), (0 : Int)], [(1 : Int), (1 : Int)], [(1 : Int), (2 : Int)], [(1 : Int), (3 : Int)], [(2 : Int), (0 : Int)], [(2 : Int), (1 : Int)], [(2 : Int), (2 : Int)], [(2 : Int), (3 : Int)], [(3 : Int), (0 : Int)], [(3 : Int), (1 : Int)], [(3 : Int), (2 : Int)], [(3 : Int), (3 : Int)]] b0)
    let z_3 := (Option.getD z_2 default)
    bif (Option.isSome z_1) then
    bif (!(Option.getD z_1 default)) then
    k ((0 : Nat), false, ([] : List (List Int)))
    else bif (Option.isSome z_2) then
    k (z_3.1, true, z_3.2)
    else none
    else none
def impl_ArisesBy_p (F : Nat) (b0 : List Int) : Option (Nat × Bool × List (List Int)) := impl_ArisesBy_c _ F b0 some
theorem impl_ArisesBy_cp (Q : Type) (F : Nat) (b0 : List Int) (k : (Nat × Bool × List (List Int)) → Option Q) : impl_ArisesBy_c Q F b0 k = (impl_ArisesBy_p F b0).bind k := by
  simp only [impl_ArisesBy_p, impl_ArisesBy_c, cond_bindL, none_bindL, some_bindL]
end Go.Lv.P
