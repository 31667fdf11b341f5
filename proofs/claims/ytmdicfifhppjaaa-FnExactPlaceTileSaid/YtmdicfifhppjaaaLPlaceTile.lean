/-
FnExactPlaceTile: both say the same.
-/
import Derived.Test.YtmdicfifhppjaaaTAP2
import Derived.Test.YtmdicfifhppjaaaPEq
namespace Go.Lv.P
open Go Go.Lv
set_option linter.unusedVariables false
set_option linter.unusedSimpArgs false

theorem inR_of {x : Int} (h : inB x 0 3 = true) : inR x 4 = true := by
  simp [inB] at h
  exact inR_true h.1 (by omega)
theorem isCell_eq (c : List Int) : impl_isCell_v c = (inB (iget c 0) 0 3 && inB (iget c 1) 0 3) := by
  simp only [impl_isCell_v, in_eq, cond_and]
theorem l2Cell_eq (c : List Int) : spec_l2Cell_v c = (inB (iget c 0) 0 3 && inB (iget c 1) 0 3) := by
  simp only [spec_l2Cell_v, l1In_eq, cond_and]
/-- the place of a cell -/
def pos (c : List Int) : Nat := 0 + (iget c 0).toNat * 4 + (iget c 1).toNat * 1
theorem at_eq {c b : List Int} (h0 : inB (iget c 0) 0 3 = true) (h1 : inB (iget c 1) 0 3 = true) : impl_Board_at_p c b = some (pos c) := by
  simp only [impl_Board_at_p, impl_Board_at_c, inR_of h0, inR_of h1, cond_true, pos]
theorem l2At_eq {c b : List Int} (h0 : inB (iget c 0) 0 3 = true) (h1 : inB (iget c 1) 0 3 = true) : spec_l2At_p b c = some (iget b (pos c)) := by
  simp only [spec_l2At_p, spec_l2At_c, inR_of h0, inR_of h1, cond_true, pos]
theorem l2Put_eq {c b : List Int} {t : Int} (h0 : inB (iget c 0) 0 3 = true) (h1 : inB (iget c 1) 0 3 = true) : spec_l2Put_p b c t = some (iset b (pos c) t) := by
  simp only [spec_l2Put_p, spec_l2Put_c, inR_of h0, inR_of h1, cond_true, pos]
theorem toIntA3_eq {a : List Int} (h : a.length = 3) : laws_toIntA3_v a = a := by
  obtain ⟨a, b, c, rfl⟩ := list3 h; rfl

theorem place_same (F : Nat) (b p : List Int) (hb : b.length = 16) (hF : 1000 < F) : ∃ v, spec_PlaceTile_p F b p = some v ∧ impl_PlaceTile_p F b p = some v := by
  simp only [spec_PlaceTile_p, spec_PlaceTile_c, impl_PlaceTile_p, impl_PlaceTile_c, impl_PutTile_p, impl_PutTile_c, spec_l8Can_p, spec_l8Can_c, spec_l8Put_p, spec_l8Put_c, spec_l2Board_eq F b hb hF, impl_IsBoard_eq F b hb hF, Option.isSome_some, Option.getD_some, cond_true, isCell_eq, l2Cell_eq, in_eq, l1In_eq]
  cases hB : okB b with
  | false => cases inB (iget p 2) 1 2 <;> exact ⟨_, rfl, rfl⟩
  | true =>
    cases h2 : inB (iget p 2) 1 2 with
    | false =>
      refine ⟨_, ?_, rfl⟩
      cases h0 : inB (iget [iget p 0, iget p 1] 0) 0 3 <;> cases h1 : inB (iget [iget p 0, iget p 1] 1) 0 3 <;> rfl
    | true =>
      have h17 : inB (iget p 2) 1 17 = true := by
        simp [inB] at h2 ⊢
        omega
      cases h0 : inB (iget [iget p 0, iget p 1] 0) 0 3 with
      | false => exact ⟨_, rfl, rfl⟩
      | true =>
        cases h1 : inB (iget [iget p 0, iget p 1] 1) 0 3 with
        | false => exact ⟨_, rfl, rfl⟩
        | true =>
          simp only [at_eq h0 h1, l2At_eq h0 h1, l2Put_eq h0 h1, Option.isSome_some, Option.getD_some, cond_true, h17, Bool.not_true, cond_false, Bool.and_self]
          cases iget b (pos [iget p 0, iget p 1]) == 0 <;> exact ⟨_, rfl, rfl⟩

theorem law_PlaceTile (F : Nat) (b : List Int) (hb : b.length = 16) (_ : ∀ x ∈ b, Rng x) (p : List Int) (hp : p.length = 3) (_ : ∀ x ∈ p, Rng x) (hF : 1000 < F) : laws_FnExactPlaceTile_p F b p = some true := by
  obtain ⟨v, h1, h2⟩ := place_same F b p hb hF
  simp only [laws_FnExactPlaceTile_p, laws_FnExactPlaceTile_c, toBoard_eq hb, toIntA3_eq hp, h1, h2, Option.isSome_some, Option.getD_some, cond_true, eqBoard_refl F _ hF, Bool.not_true, cond_false, beq_self_eq_true]
end Go.Lv.P
