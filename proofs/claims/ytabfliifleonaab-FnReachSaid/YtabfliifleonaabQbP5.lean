/-
Pure functions and what the code of them does, by program; without conditions.
-/
import Derived.Test.YtabfliifleonaabQbP4
namespace Go.Lv.P
open Go Go.Lv
set_option linter.unusedVariables false
set_option linter.unusedSimpArgs false
set_option maxRecDepth 100000
/-- loop 18 of loop.example/g01194/laws.FnReach -/
def laws_FnReach_s18 (F : Nat) (n3 : Int) (all5 : Nat) (ok6 : Bool) (few13 : Int) (known19 : Bool) (within21 : Nat) (told22 : Bool) (b25 : List Int) (all26 : List (List Int)) (x27 : List Int) (y28 : List Int) (first29 : List Int) (end30 : List Int) (within31 : List (List Int)) (Q : Type) : (Bool × Int) → ((Bool × Int) → Option Q) → ((Bool) → Option Q) → Option Q
  | (some23, i24), kn, kx =>
    let z_1 : Int := (IntKind.wrap .i64 (i24 + (1 : Int)))
    bif (decide (i24 < ((within21 : Nat) : Int))) then
    bif some23 then
    kn (true, z_1)
    else bif (inR i24 within21) then
    kn (((rget within31 ((0 : Nat) + (Int.toNat i24))) == y28), z_1)
    else none
    else kx some23
def laws_FnReach_l18 (F : Nat) (n3 : Int) (all5 : Nat) (ok6 : Bool) (few13 : Int) (known19 : Bool) (within21 : Nat) (told22 : Bool) (b25 : List Int) (all26 : List (List Int)) (x27 : List Int) (y28 : List Int) (first29 : List Int) (end30 : List Int) (within31 : List (List Int)) (some23 : Bool) (i24 : Int) : Option (Bool) := loopC (laws_FnReach_s18 F n3 all5 ok6 few13 known19 within21 told22 b25 all26 x27 y28 first29 end30 within31) F (some23, i24) some
theorem laws_FnReach_s18_nat (F : Nat) (n3 : Int) (all5 : Nat) (ok6 : Bool) (few13 : Int) (known19 : Bool) (within21 : Nat) (told22 : Bool) (b25 : List Int) (all26 : List (List Int)) (x27 : List Int) (y28 : List Int) (first29 : List Int) (end30 : List Int) (within31 : List (List Int)) : Natural (laws_FnReach_s18 F n3 all5 ok6 few13 known19 within21 told22 b25 all26 x27 y28 first29 end30 within31) := by
  intro Q Q' s kn kx h
  obtain ⟨some23, i24⟩ := s
  simp only [laws_FnReach_s18, cond_bindL, none_bindL]
/-- loop 28 of loop.example/g01194/laws.FnReach -/
def laws_FnReach_s28 (F : Nat) (n3 : Int) (all5 : Nat) (ok6 : Bool) (less11 : Nat) (b13 : List Int) (all14 : List (List Int)) (y15 : List Int) (less16 : List (List Int)) (Q : Type) : (Int) → ((Int) → Option Q) → ((Bool) → Option Q) → Option Q
  | i12, kn, kx =>
    bif (decide (i12 < ((less11 : Nat) : Int))) then
    bif (inR i12 less11) then
    bif ((rget less16 ((0 : Nat) + (Int.toNat i12))) == y15) then
    kx true
    else kn (IntKind.wrap .i64 (i12 + (1 : Int)))
    else none
    else kx false
def laws_FnReach_l28 (F : Nat) (n3 : Int) (all5 : Nat) (ok6 : Bool) (less11 : Nat) (b13 : List Int) (all14 : List (List Int)) (y15 : List Int) (less16 : List (List Int)) (i12 : Int) : Option (Bool) := loopC (laws_FnReach_s28 F n3 all5 ok6 less11 b13 all14 y15 less16) F i12 some
theorem laws_FnReach_s28_nat (F : Nat) (n3 : Int) (all5 : Nat) (ok6 : Bool) (less11 : Nat) (b13 : List Int) (all14 : List (List Int)) (y15 : List Int) (less16 : List (List Int)) : Natural (laws_FnReach_s28 F n3 all5 ok6 less11 b13 all14 y15 less16) := by
  intro Q Q' s kn kx h
  simp only [laws_FnReach_s28, cond_bindL, none_bindL]
/-- loop 38 of loop.example/g01194/laws.FnReach -/
def laws_FnReach_s38 (F : Nat) (all1 : Nat) (sum2 : Int) (all4 : List (List Int)) (Q : Type) : (Int) → ((Int) → Option Q) → ((Bool) → Option Q) → Option Q
  | i3, kn, kx =>
    let z_1 : List Int := (rget all4 ((0 : Nat) + (Int.toNat i3)))
    let z_2 := (impl_SumOf_p F z_1)
    let z_3 := (Option.getD z_2 default)
    let z_4 : Int := (IntKind.wrap .i64 (i3 - (1 : Int)))
    let z_5 := (impl_LessBoard_p F (rget all4 ((0 : Nat) + (Int.toNat z_4))) z_1)
    let z_6 := (Option.getD z_5 default)
    let z_7 : Int := (IntKind.wrap .i64 (i3 + (1 : Int)))
    bif (decide (i3 < ((all1 : Nat) : Int))) then
    bif (inR i3 all1) then
    bif (Option.isSome z_2) then
    bif (!z_3.2) then
    kx true
    else bif (!(z_3.1 == sum2)) then
    kx true
    else bif (decide ((0 : Int) < i3)) then
    bif (inR z_4 all1) then
    bif (inR i3 all1) then
    bif (Option.isSome z_5) then
    bif (!z_6.2) then
    kx true
    else bif (!z_6.1) then
    kx true
    else kn z_7
    else none
    else none
    else none
    else kn z_7
    else none
    else none
    else kx false
def laws_FnReach_l38 (F : Nat) (all1 : Nat) (sum2 : Int) (all4 : List (List Int)) (i3 : Int) : Option (Bool) := loopC (laws_FnReach_s38 F all1 sum2 all4) F i3 some
theorem laws_FnReach_s38_nat (F : Nat) (all1 : Nat) (sum2 : Int) (all4 : List (List Int)) : Natural (laws_FnReach_s38 F all1 sum2 all4) := by
  intro Q Q' s kn kx h
  simp only [laws_FnReach_s38, cond_bindL, none_bindL]
/-- loop.example/g01194/laws.FnReach -/
def laws_FnReach_c (Q : Type) (F : Nat) (code0 : List Int) (k : (Bool) → Option Q) : Option Q :=
    let z_1 := (spec_DrawReachBySlides_p F code0)
    let z_2 := (Option.getD z_1 default)
    let z_3 := (impl_ReachBySlides_p F z_2.1 z_2.2)
    let z_4 := (spec_ReachBySlides_p F z_2.1 z_2.2)
    let z_5 : Nat := (List.length (Option.getD (laws_vCut_p code0 (1 : Int)) default))
    let z_6 := (spec_DrawFewestSlides_p F (subn z_5 (Option.getD (laws_vCut_p code0 (1 : Int)) default) 0 z_5))
    let z_7 := (Option.getD z_6 default)
    let z_8 := (impl_FewestSlides_p F z_7.1 z_7.2)
    let z_9 := (spec_FewestSlides_p F z_7.1 z_7.2)
    let z_10 := (impl_FirstSlides_p F z_7.1 z_7.2)
    let z_11 := (spec_FirstSlides_p F z_7.1 z_7.2)
    let z_12 := (Option.getD z_3 default)
    let z_13 := (Option.getD z_4 default)
    let z_14 := (laws_vBoards_p F (subn (List.length z_12.2.2) z_12.2.2 0 z_12.1) z_13.1)
    let z_15 := (Option.getD z_8 default)
    let z_16 := (Option.getD z_9 default)
    let z_17 := (Option.getD z_10 default)
    let z_18 := (Option.getD z_11 default)
    let z_19 : Nat := (List.length z_17.2)
    let z_20 : List Int := (subn z_19 z_17.2 0 z_19)
    let z_21 : Nat := (List.length z_18.2)
    let z_22 := (laws_vInts_p F z_20 (subn z_21 z_18.2 0 z_21))
    let z_23 := (impl_DoSlides_p F z_7.1 z_20)
    let z_24 := (impl_ReachBySlides_p F z_7.1 z_15.1)
    let z_25 := (Option.getD z_23 default)
    let z_26 := (Option.getD z_24 default)
    let z_27 := (laws_FnReach_l18 F z_2.2 z_12.1 z_12.2.1 z_15.1 z_25.2.2 z_26.1 z_26.2.1 z_2.1 z_12.2.2 z_7.1 z_7.2 z_17.2 z_25.1 z_26.2.2 false (0 : Int))
    let z_28 := (impl_ReachBySlides_p F z_7.1 (IntKind.wrap .i64 (z_15.1 - (1 : Int))))
    let z_29 := (Option.getD z_28 default)
    let z_30 := (laws_FnReach_l28 F z_2.2 z_12.1 z_12.2.1 z_29.1 z_2.1 z_12.2.2 z_7.2 z_29.2.2 (0 : Int))
    let z_31 : Bool := (!z_12.2.1)
    let z_32 := (impl_SumOf_p F z_2.1)
    let z_33 : Bool := (Option.isSome z_32)
    let z_34 := (Option.getD z_32 default)
    let z_35 : Bool := (!z_34.2)
    let z_36 : Int := ((z_12.1 : Nat) : Int)
    let z_37 : Bool := (decide (z_36 < (1 : Int)))
    let z_38 : Bool := (z_2.2 == (0 : Int))
    let z_39 : Bool := (!(z_36 == (1 : Int)))
    let z_40 := (laws_FnReach_l38 F z_12.1 z_34.1 z_12.2.2 (0 : Int))
    let z_41 : Bool := (Option.isSome z_40)
    bif (laws_vBig_v code0) then
    k true
    else bif (Option.isSome z_1) then
    bif (Option.isSome z_3) then
    bif (Option.isSome z_4) then
    bif (Option.isSome (laws_vCut_p code0 (1 : Int))) then
    bif (Option.isSome z_6) then
    bif (Option.isSome z_8) then
    bif (Option.isSome z_9) then
    bif (Option.isSome z_10) then
    bif (Option.isSome z_11) then
    bif (!(z_12.2.1 == z_13.2)) then
    k false
    else bif (Option.isSome z_14) then
    bif (!(Option.getD z_14 default)) then
    k false
    else bif (!(z_15.1 == z_16.1)) then
    k false
    else bif (!(z_15.2 == z_16.2)) then
    k false
    else bif (!(z_17.1 == z_18.1)) then
    k false
    else bif (Option.isSome z_22) then
    bif (!(Option.getD z_22 default)) then
    k false
    else bif (!(z_15.2 == z_17.1)) then
    k false
    else bif z_15.2 then
    bif (Option.isSome z_23) then
    bif (Option.isSome z_24) then
    bif ((Nat.beq z_19 z_19) && (Option.isSome z_27)) then
    bif (!z_25.2.2) then
    k false
    else bif (!z_26.2.1) then
    k false
    else bif (!(z_25.1 == z_7.2)) then
    k false
    else bif (!(((z_19 : Nat) : Int) == z_15.1)) then
    k false
    else bif (!(Option.getD z_27 default)) then
    k false
    else bif (decide ((0 : Int) < z_15.1)) then
    bif (Option.isSome z_28) then
    bif (!z_29.2.1) then
    k false
    else bif (Option.isSome z_30) then
    bif (Option.getD z_30 default) then
    k false
    else bif z_31 then
    k true
    else bif z_33 then
    bif z_35 then
    k false
    else bif z_37 then
    k false
    else bif z_38 then
    bif z_39 then
    k false
    else bif z_41 then
    bif (Option.getD z_40 default) then
    k false
    else k true
    else none
    else bif z_41 then
    bif (Option.getD z_40 default) then
    k false
    else k true
    else none
    else none
    else none
    else none
    else bif z_31 then
    k true
    else bif z_33 then
    bif z_35 then
    k false
    else bif z_37 then
    k false
    else bif z_38 then
    bif z_39 then
    k false
    else bif z_41 then
    bif (Option.getD z_40 default) then
    k false
    else k true
    else none
    else bif z_41 then
    bif (Option.getD z_40 default) then
    k false
    else k true
    else none
    else none
    else none
    else none
    else none
    else bif z_31 then
    k true
    else bif z_33 then
    bif z_35 then
    k false
    else bif z_37 then
    k false
    else bif z_38 then
    bif z_39 then
    k false
    else bif z_41 then
    bif (Option.getD z_40 default) then
    k false
    else k true
    else none
    else bif z_41 then
    bif (Option.getD z_40 default) then
    k false
    else k true
    else none
    else none
    else none
    else none
    else none
    else none
    else none
    else none
    else none
    else none
    else none
    else none
    else none
def laws_FnReach_p (F : Nat) (code0 : List Int) : Option (Bool) := laws_FnReach_c _ F code0 some
theorem laws_FnReach_cp (Q : Type) (F : Nat) (code0 : List Int) (k : (Bool) → Option Q) : laws_FnReach_c Q F code0 k = (laws_FnReach_p F code0).bind k := by
  simp only [laws_FnReach_p, laws_FnReach_c, cond_bindL, none_bindL, some_bindL]
end Go.Lv.P
