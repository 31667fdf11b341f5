/-
Pure functions and what the code of them does, by program; without conditions.
-/
import Derived.Test.YtabfliifleonaaiQiP2
namespace Go.Lv.P
open Go Go.Lv
set_option linter.unusedVariables false
set_option linter.unusedSimpArgs false
set_option maxRecDepth 100000
/-- loop 5 of loop.example/g01194/impl.CountTiles -/
def impl_CountTiles_s5 (F : Nat) (b13 : List Int) (Q : Type) : (Int × List Int) → ((Int × List Int) → Option Q) → ((List Int) → Option Q) → Option Q
  | (t1412, out15), kn, kx =>
    let z_1 := (impl_Board_at_p (rget [[(0 : Int), (0 : Int)], [(0 : Int), (1 : Int)], [(0 : Int), (2 : Int)], [(0 : Int), (3 : Int)], [(1 : Int), (0 : Int)], [(1 : Int), (1 : Int)], [(1 : Int), (2 : Int)], [(1 : Int), (3 : Int)], [(2 : Int), (0 : Int)], [(2 : Int), (1 : Int)], [(2 : Int), (2 : Int)], [(2 : Int), (3 : Int)], [(3 : Int), (0 : Int)], [(3 : Int), (1 : Int)], [(3 : Int), (2 : Int)], [(3 : Int), (3 : Int)]] ((0 : Nat) + (Int.toNat t1412))) b13)
    let z_2 : Int := (iget b13 (Option.getD z_1 default))
    let z_3 : Bool := (inR z_2 18)
    let z_4 : Nat := ((0 : Nat) + ((Int.toNat z_2) * (1 : Nat)))
    bif (decide (t1412 < (16 : Int))) then
    bif (inR t1412 16) then
    bif (Option.isSome z_1) then
    bif z_3 then
    bif z_3 then
    kn ((IntKind.wrap .i64 (t1412 + (1 : Int))), (iset out15 z_4 (IntKind.wrap .i64 ((iget out15 z_4) + (1 : Int)))))
    else none
    else none
    else none
    else none
    else kx out15
def impl_CountTiles_l5 (F : Nat) (b13 : List Int) (t1412 : Int) (out15 : List Int) : Option (List Int) := loopC (impl_CountTiles_s5 F b13) F (t1412, out15) some
theorem impl_CountTiles_s5_nat (F : Nat) (b13 : List Int) : Natural (impl_CountTiles_s5 F b13) := by
  intro Q Q' s kn kx h
  obtain ⟨t1412, out15⟩ := s
  simp only [impl_CountTiles_s5, cond_bindL, none_bindL]
/-- loop.example/g01194/impl.CountTiles -/
def impl_CountTiles_c (Q : Type) (F : Nat) (b0 : List Int) (k : (List Int × Bool) → Option Q) : Option Q :=
    let z_1 := (impl_IsBoard_p F b0)
    let z_2 : List Int := [(0 : Int), (0 : Int), (0 : Int), (0 : Int), (0 : Int), (0 : Int), (0 : Int), (0 : Int), (0 : Int), (0 : Int), (0 : Int), (0 : Int), (0 : Int), (0 : Int), (0 : Int), (0 : Int), (0 : Int), (0 : Int)]
    let z_3 := (impl_CountTiles_l5 F b0 (0 : Int) z_2)
    bif (Option.isSome z_1) then
    bif (!(Option.getD z_1 default)) then
    k (z_2, false)
    else bif (Option.isSome z_3) then
    k ((Option.getD z_3 default), true)
    else none
    else none
def impl_CountTiles_p (F : Nat) (b0 : List Int) : Option (List Int × Bool) := impl_CountTiles_c _ F b0 some
theorem impl_CountTiles_cp (Q : Type) (F : Nat) (b0 : List Int) (k : (List Int × Bool) → Option Q) : impl_CountTiles_c Q F b0 k = (impl_CountTiles_p F b0).bind k := by
  simp only [impl_CountTiles_p, impl_CountTiles_c, cond_bindL, none_bindL, some_bindL]

/-- loop 2 of loop.example/g01194/laws.vHas -/
def laws_vHas_s2 (F : Nat) (l0 : List Int) (x1 : Int) (Q : Type) : (Int) → ((Int) → Option Q) → ((Bool) → Option Q) → Option Q
  | i2, kn, kx =>
    bif (decide (i2 < (((List.length l0) : Nat) : Int))) then
    bif (inR i2 (List.length l0)) then
    bif ((iget l0 (Int.toNat i2)) == x1) then
    kx true
    else kn (IntKind.wrap .i64 (i2 + (1 : Int)))
    else none
    else kx false
def laws_vHas_l2 (F : Nat) (l0 : List Int) (x1 : Int) (i2 : Int) : Option (Bool) := loopC (laws_vHas_s2 F l0 x1) F i2 some
theorem laws_vHas_s2_nat (F : Nat) (l0 : List Int) (x1 : Int) : Natural (laws_vHas_s2 F l0 x1) := by
  intro Q Q' s kn kx h
  simp only [laws_vHas_s2, cond_bindL, none_bindL]
/-- loop.example/g01194/laws.vHas -/
def laws_vHas_c (Q : Type) (F : Nat) (l0 : List Int) (x1 : Int) (k : (Bool) → Option Q) : Option Q :=
    let z_1 := (laws_vHas_l2 F l0 x1 (0 : Int))
    bif (Option.isSome z_1) then
    bif (Option.getD z_1 default) then
    k true
    else k false
    else none
def laws_vHas_p (F : Nat) (l0 : List Int) (x1 : Int) : Option (Bool) := laws_vHas_c _ F l0 x1 some
theorem laws_vHas_cp (Q : Type) (F : Nat) (l0 : List Int) (x1 : Int) (k : (Bool) → Option Q) : laws_vHas_c Q F l0 x1 k = (laws_vHas_p F l0 x1).bind k := by
  simp only [laws_vHas_p, laws_vHas_c, cond_bindL, none_bindL, some_bindL]

/-- loop 22 of loop.example/g01194/laws.FnSnakes -/
def laws_FnSnakes_s22 (F : Nat) (ok3 : Bool) (list8 : Nat) (fine9 : Bool) (path11 : List Int) (b12 : List Int) (list13 : List Int) (Q : Type) : (Int) → ((Int) → Option Q) → ((Bool) → Option Q) → Option Q
  | i10, kn, kx =>
    let z_1 := (impl_SnakeBoard_p F b12 (iget list13 ((0 : Nat) + (Int.toNat i10))))
    let z_2 := (Option.getD z_1 default)
    bif fine9 then
    bif (decide (i10 < ((list8 : Nat) : Int))) then
    bif (inR i10 list8) then
    bif (Option.isSome z_1) then
    bif (!z_2.2) then
    kx true
    else bif (!(z_2.1 == b12)) then
    kx true
    else kn (IntKind.wrap .i64 (i10 + (1 : Int)))
    else none
    else none
    else kx false
    else kx false
def laws_FnSnakes_l22 (F : Nat) (ok3 : Bool) (list8 : Nat) (fine9 : Bool) (path11 : List Int) (b12 : List Int) (list13 : List Int) (i10 : Int) : Option (Bool) := loopC (laws_FnSnakes_s22 F ok3 list8 fine9 path11 b12 list13) F i10 some
theorem laws_FnSnakes_s22_nat (F : Nat) (ok3 : Bool) (list8 : Nat) (fine9 : Bool) (path11 : List Int) (b12 : List Int) (list13 : List Int) : Natural (laws_FnSnakes_s22 F ok3 list8 fine9 path11 b12 list13) := by
  intro Q Q' s kn kx h
  simp only [laws_FnSnakes_s22, cond_bindL, none_bindL]
/-- loop 31 of loop.example/g01194/laws.FnSnakes -/
def laws_FnSnakes_s31 (F : Nat) (path7 : List Int) (Q : Type) : (Int × List Bool) → ((Int × List Bool) → Option Q) → ((Bool) → Option Q) → Option Q
  | (i6, seen8), kn, kx =>
    let z_1 : Nat := ((0 : Nat) + ((Int.toNat i6) * (2 : Nat)))
    let z_2 : Int := (iget path7 z_1)
    let z_3 : Int := (iget path7 (z_1 + (1 : Nat)))
    let z_4 : Bool := (inR z_2 4)
    let z_5 : Bool := (inR z_3 4)
    let z_6 : Nat := (((0 : Nat) + ((Int.toNat z_2) * (4 : Nat))) + ((Int.toNat z_3) * (1 : Nat)))
    let z_7 : Int := (IntKind.wrap .i64 (i6 - (1 : Int)))
    let z_8 : Bool := (inR z_7 16)
    let z_9 : Nat := ((0 : Nat) + ((Int.toNat z_7) * (2 : Nat)))
    let z_10 : Int := (IntKind.wrap .i64 (z_2 - (iget path7 z_9)))
    let z_11 : Int := (IntKind.wrap .i64 (z_3 - (iget path7 (z_9 + (1 : Nat)))))
    let z_12 : Int := (IntKind.wrap .i64 (i6 + (1 : Int)))
    let z_13 : List Bool := (bset seen8 z_6 true)
    bif (decide (i6 < (16 : Int))) then
    bif (inR i6 16) then
    bif (inR i6 16) then
    bif (decide (z_2 < (0 : Int))) then
    kx true
    else bif (decide ((3 : Int) < z_2)) then
    kx true
    else bif (decide (z_3 < (0 : Int))) then
    kx true
    else bif (decide ((3 : Int) < z_3)) then
    kx true
    else bif z_4 then
    bif z_5 then
    bif (bget seen8 z_6) then
    kx true
    else bif z_4 then
    bif z_5 then
    bif (decide ((0 : Int) < i6)) then
    bif z_8 then
    bif z_8 then
    bif (!((IntKind.wrap .i64 ((IntKind.wrap .i64 (z_10 * z_10)) + (IntKind.wrap .i64 (z_11 * z_11)))) == (1 : Int))) then
    kx true
    else kn (z_12, z_13)
    else none
    else none
    else kn (z_12, z_13)
    else none
    else none
    else none
    else none
    else none
    else none
    else kx false
def laws_FnSnakes_l31 (F : Nat) (path7 : List Int) (i6 : Int) (seen8 : List Bool) : Option (Bool) := loopC (laws_FnSnakes_s31 F path7) F (i6, seen8) some
theorem laws_FnSnakes_s31_nat (F : Nat) (path7 : List Int) : Natural (laws_FnSnakes_s31 F path7) := by
  intro Q Q' s kn kx h
  obtain ⟨i6, seen8⟩ := s
  simp only [laws_FnSnakes_s31, cond_bindL, none_bindL]
/-- loop.example/g01194/laws.FnSnakes -/
def laws_FnSnakes_c (Q : Type) (F : Nat) (code0 : List Int) (k : (Bool) → Option Q) : Option Q :=
    let z_1 := (impl_SnakePath_p F (Option.getD (spec_DrawSnakePath_p code0) default))
    let z_2 := (spec_SnakePath_p F (Option.getD (spec_DrawSnakePath_p code0) default))
    let z_3 : Nat := (List.length (Option.getD (laws_vCut_p code0 (1 : Int)) default))
    let z_4 := (spec_DrawSnakesOf_p F (subn z_3 (Option.getD (laws_vCut_p code0 (1 : Int)) default) 0 z_3))
    let z_5 := (impl_SnakesOf_p F (Option.getD z_4 default))
    let z_6 := (spec_SnakesOf_p F (Option.getD z_4 default))
    let z_7 : Nat := (List.length (Option.getD (laws_vCut_p code0 (2 : Int)) default))
    let z_8 := (spec_DrawSnakeBoard_p F (subn z_7 (Option.getD (laws_vCut_p code0 (2 : Int)) default) 0 z_7))
    let z_9 := (Option.getD z_8 default)
    let z_10 := (impl_SnakeBoard_p F z_9.1 z_9.2)
    let z_11 := (spec_SnakeBoard_p F z_9.1 z_9.2)
    let z_12 := (Option.getD z_1 default)
    let z_13 := (Option.getD z_2 default)
    let z_14 := (Option.getD z_5 default)
    let z_15 := (Option.getD z_6 default)
    let z_16 : Nat := (List.length z_15.2)
    let z_17 := (laws_vInts_p F (subn (List.length z_14.2.2) z_14.2.2 0 z_14.1) (subn z_16 z_15.2 0 z_16))
    let z_18 := (Option.getD z_10 default)
    let z_19 := (Option.getD z_11 default)
    let z_20 := (impl_CountTiles_p F z_9.1)
    let z_21 := (impl_CountTiles_p F z_18.1)
    let z_22 := (impl_SnakesOf_p F z_18.1)
    let z_23 := (impl_SnakeBoard_p F z_18.1 z_9.2)
    let z_24 := (Option.getD z_20 default)
    let z_25 := (Option.getD z_21 default)
    let z_26 := (Option.getD z_22 default)
    let z_27 := (Option.getD z_23 default)
    let z_28 := (laws_vHas_p F (subn (List.length z_26.2.2) z_26.2.2 0 z_26.1) z_9.2)
    let z_29 := (laws_FnSnakes_l22 F z_12.2 z_14.1 z_14.2.1 z_12.1 (Option.getD z_4 default) z_14.2.2 (0 : Int))
    let z_30 : Bool := (Option.isSome z_29)
    let z_31 : Bool := (!z_12.2)
    let z_32 := (laws_FnSnakes_l31 F z_12.1 (0 : Int) [false, false, false, false, false, false, false, false, false, false, false, false, false, false, false, false])
    let z_33 : Bool := (Option.isSome z_32)
    bif (laws_vBig_v code0) then
    k true
    else bif (Option.isSome (spec_DrawSnakePath_p code0)) then
    bif (Option.isSome z_1) then
    bif (Option.isSome z_2) then
    bif (Option.isSome (laws_vCut_p code0 (1 : Int))) then
    bif (Option.isSome z_4) then
    bif (Option.isSome z_5) then
    bif (Option.isSome z_6) then
    bif (Option.isSome (laws_vCut_p code0 (2 : Int))) then
    bif (Option.isSome z_8) then
    bif (Option.isSome z_10) then
    bif (Option.isSome z_11) then
    bif (!(z_12.1 == z_13.1)) then
    k false
    else bif (!(z_12.2 == z_13.2)) then
    k false
    else bif (!(z_14.2.1 == z_15.1)) then
    k false
    else bif (Option.isSome z_17) then
    bif (!(Option.getD z_17 default)) then
    k false
    else bif (!(z_18.1 == z_19.1)) then
    k false
    else bif (!(z_18.2 == z_19.2)) then
    k false
    else bif z_18.2 then
    bif (Option.isSome z_20) then
    bif (Option.isSome z_21) then
    bif (Option.isSome z_22) then
    bif (Option.isSome z_23) then
    bif (!z_24.2) then
    k false
    else bif (!z_25.2) then
    k false
    else bif (!z_26.2.1) then
    k false
    else bif (!z_27.2) then
    k false
    else bif (!(z_24.1 == z_25.1)) then
    k false
    else bif (Option.isSome z_28) then
    bif (!(Option.getD z_28 default)) then
    k false
    else bif (!(z_27.1 == z_18.1)) then
    k false
    else bif z_30 then
    bif (Option.getD z_29 default) then
    k false
    else bif z_31 then
    k true
    else bif z_33 then
    bif (Option.getD z_32 default) then
    k false
    else k true
    else none
    else none
    else none
    else none
    else none
    else none
    else none
    else bif z_30 then
    bif (Option.getD z_29 default) then
    k false
    else bif z_31 then
    k true
    else bif z_33 then
    bif (Option.getD z_32 default) then
    k false
    else k true
    else none
    else none
    else none
    else none
    else none
    else none
    else none
    else none
    else none
    else none
    else none
    else none
    else none
    else none
def laws_FnSnakes_p (F : Nat) (code0 : List Int) : Option (Bool) := laws_FnSnakes_c _ F code0 some
theorem laws_FnSnakes_cp (Q : Type) (F : Nat) (code0 : List Int) (k : (Bool) → Option Q) : laws_FnSnakes_c Q F code0 k = (laws_FnSnakes_p F code0).bind k := by
  simp only [laws_FnSnakes_p, laws_FnSnakes_c, cond_bindL, none_bindL, some_bindL]
end Go.Lv.P
