/-
FnExactPlaceTile: both put the same.
-/
import Derived.Test.YtgdokdkcbgkekaeGeP1
import Derived.Test.YtgdokdkcbgkekaeGeP3
import Derived.Test.YtgdokdkcbgkekaeGeP4
import Derived.Test.YtgdokdkcbgkekaeGeP5
import Derived.Test.YtgdokdkcbgkekaeGePBoard
import Derived.Test.YtgdokdkcbgkekaeGePPlm
namespace Go.Lv.P
open Go Go.Lv
set_option linter.unusedVariables false
set_option linter.unusedSimpArgs false
set_option linter.unusedSectionVars false

theorem inR_of {x : Int} (h : inB x 0 3 = true) : inR x 4 = true := by
  simp [inB] at h
  exact inR_true h.1 (by omega)
theorem isCell_eq (c : List Int) : impl_isCell_v c = (inB (iget c 0) 0 3 && inB (iget c 1) 0 3) := by
  simp only [impl_isCell_v, in_eq, cond_and]
theorem l2Cell_eq (c : List Int) : spec_l2Cell_v c = (inB (iget c 0) 0 3 && inB (iget c 1) 0 3) := by
  simp only [spec_l2Cell_v, l1In_eq, cond_and]
/-- the place of a cell -/
def pos (c : List Int) : Nat := 0 + (iget c 0).toNat * 4 + (iget c 1).toNat * 1
theorem at_eq {c b : List Int} (h0 : inB (iget c 0) 0 3 = true) (h1 : inB (iget c 1) 0 3 = true) : impl_Board_at_p c b = some (pos c) := by
  simp only [impl_Board_at_p, impl_Board_at_c, inR_of h0, inR_of h1, cond_true, pos]
theorem l2At_eq {c b : List Int} (h0 : inB (iget c 0) 0 3 = true) (h1 : inB (iget c 1) 0 3 = true) : spec_l2At_p b c = some (iget b (pos c)) := by
  simp only [spec_l2At_p, spec_l2At_c, inR_of h0, inR_of h1, cond_true, pos]
theorem l2Put_eq {c b : List Int} {t : Int} (h0 : inB (iget c 0) 0 3 = true) (h1 : inB (iget c 1) 0 3 = true) : spec_l2Put_p b c t = some (iset b (pos c) t) := by
  simp only [spec_l2Put_p, spec_l2Put_c, inR_of h0, inR_of h1, cond_true, pos]
theorem place_same (F : Nat) (b p : List Int) (hb : b.length = 16) (hF : 1000 < F) : ∃ v, spec_PlaceTile_p F b p = some v ∧ impl_PlaceTile_p F b p = some v := by
  simp only [spec_PlaceTile_p, spec_PlaceTile_c, impl_PlaceTile_p, impl_PlaceTile_c, impl_PutTile_p, impl_PutTile_c, spec_l8Can_p, spec_l8Can_c, spec_l8Put_p, spec_l8Put_c, spec_l2Board_eq F b hb hF, impl_IsBoard_eq F b hb hF, Option.isSome_some, Option.getD_some, cond_true, isCell_eq, l2Cell_eq, in_eq, l1In_eq]
  cases hB : okB b with
  | false => cases inB (iget p 2) 1 2 <;> exact ⟨_, rfl, rfl⟩
  | true =>
    cases h2 : inB (iget p 2) 1 2 with
    | false =>
      refine ⟨_, ?_, rfl⟩
      cases h0 : inB (iget [iget p 0, iget p 1] 0) 0 3 <;> cases h1 : inB (iget [iget p 0, iget p 1] 1) 0 3 <;> rfl
    | true =>
      have h17 : inB (iget p 2) 1 17 = true := by
        simp [inB] at h2 ⊢
        omega
      cases h0 : inB (iget [iget p 0, iget p 1] 0) 0 3 with
      | false => exact ⟨_, rfl, rfl⟩
      | true =>
        cases h1 : inB (iget [iget p 0, iget p 1] 1) 0 3 with
        | false => exact ⟨_, rfl, rfl⟩
        | true =>
          simp only [at_eq h0 h1, l2At_eq h0 h1, l2Put_eq h0 h1, Option.isSome_some, Option.getD_some, cond_true, h17, Bool.not_true, cond_false, Bool.and_self]
          cases iget b (pos [iget p 0, iget p 1]) == 0 <;> exact ⟨_, rfl, rfl⟩

/-- a placement is put -/
theorem place_plm (F : Nat) (hF : 1000 < F) {b : List Int} (hb : b.length = 16) (ok : okB b = true) {p : List Int} (hp : p ∈ plm b) : impl_PlaceTile_p F b p = some (putP b p, true) := by
  obtain ⟨r, c, t, rfl, hr, hc, ht, hz⟩ := plm_is hp
  have g0 : iget [(r : Int), (c : Int), t] 0 = r := rfl
  have g1 : iget [(r : Int), (c : Int), t] 1 = c := rfl
  have g2 : iget [(r : Int), (c : Int), t] 2 = t := rfl
  have h2 : inB t 1 2 = true := by rcases ht with rfl | rfl <;> rfl
  have h17 : inB t 1 17 = true := by rcases ht with rfl | rfl <;> rfl
  have h0 : inB (iget [(r : Int), (c : Int)] 0) 0 3 = true := by show inB (r : Int) 0 3 = true; simp [inB]; omega
  have h1 : inB (iget [(r : Int), (c : Int)] 1) 0 3 = true := by show inB (c : Int) 0 3 = true; simp [inB]; omega
  have hpos : pos [(r : Int), (c : Int)] = r * 4 + c := by
    show 0 + (r : Int).toNat * 4 + (c : Int).toNat * 1 = r * 4 + c
    simp only [Int.toNat_natCast]; omega
  have hput : putP b [(r : Int), (c : Int), t] = iset b (r * 4 + c) t := by
    show iset b (0 + (r : Int).toNat * 4 + (c : Int).toNat * 1) t = _
    rw [show 0 + (r : Int).toNat * 4 + (c : Int).toNat * 1 = r * 4 + c by simp only [Int.toNat_natCast]; omega]
  have hz2 : (iget b (r * 4 + c) == 0) = true := by rw [hz]; rfl
  simp only [impl_PlaceTile_p, impl_PlaceTile_c, impl_PutTile_p, impl_PutTile_c, impl_IsBoard_eq F b hb hF, ok, isCell_eq, in_eq, g0, g1, g2, h0, h1, h2, h17, at_eq h0 h1, hpos, hz2, hput, Option.isSome_some, Option.getD_some, cond_true, cond_false, Bool.not_true, Bool.and_self]
end Go.Lv.P
