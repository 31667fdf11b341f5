/-
FnExactLastsHow: both say the same.
-/
import Derived.Test.YtidmlibanopfhaaTGP6
import Derived.Test.YtidmlibanopfhaaTGPLastS
import Derived.Test.YtidmlibanopfhaaTGPLastI
import Derived.Test.YtidmlibanopfhaaTGPToBoard
import Derived.Test.YtidmlibanopfhaaTGPBoard
namespace Go.Lv.P
open Go Go.Lv
set_option linter.unusedVariables false
set_option linter.unusedSimpArgs false

theorem how_loop {step : (Q : Type) → Int → (Int → Option Q) → (Int → Option Q) → Option Q} (L : Nat → Bool) (F : Nat) (hF : 1000 < F)
    (hs : ∀ n : Nat, n < 3 → ∀ (Q : Type) kn kx, step Q (n : Int) kn kx = bif L (n + 1) then kn (IntKind.wrap .i64 ((n : Int) + 1)) else kx (n : Int)) (he : ∀ (Q : Type) kn kx, step Q 3 kn kx = kx 3) :
    loopC step F 0 some = some (bif L 1 then (bif L 2 then (bif L 3 then 3 else 2) else 1) else 0) := by
  obtain ⟨G, rfl⟩ : ∃ G, F = G + 4 := ⟨F - 4, by omega⟩
  have w : ∀ n : Nat, n < 4 → IntKind.wrap .i64 ((n : Int) + 1) = ((n + 1 : Nat) : Int) := fun n hn => wrap_succ hn (by omega)
  have h0 := hs 0 (by omega); have h1 := hs 1 (by omega); have h2 := hs 2 (by omega)
  rw [w 0 (by omega)] at h0; rw [w 1 (by omega)] at h1; rw [w 2 (by omega)] at h2
  show loopC step (G + 4) ((0 : Nat) : Int) some = _
  simp only [loopC]
  rw [h0]
  cases L (0 + 1) with
  | false => rfl
  | true =>
    simp only [cond_true]
    rw [h1]
    cases L (1 + 1) with
    | false => rfl
    | true =>
      simp only [cond_true]
      rw [h2]
      cases L (2 + 1) with
      | false => rfl
      | true =>
        simp only [cond_true]
        exact he _ _ _

theorem law_LastsHow (F : Nat) (b : List Int) (hb : b.length = 16) (_ : ∀ x ∈ b, Rng x) (hF : 1000 < F) : laws_FnExactLastsHow_p F b = some true := by
  have h : ∃ v, spec_LastsHow_p F b = some v ∧ impl_LastsHow_p F b = some v := by
    simp only [spec_LastsHow_p, spec_LastsHow_c, impl_LastsHow_p, impl_LastsHow_c, spec_l2Board_eq F b hb hF, impl_IsBoard_eq F b hb hF, Option.isSome_some, Option.getD_some, cond_true]
    cases hB : okB b with
    | false => exact ⟨_, rfl, rfl⟩
    | true =>
      have w : ∀ n : Nat, n < 3 → IntKind.wrap .i64 ((n : Int) + 1) = ((n + 1 : Nat) : Int) := fun n hn => wrap_succ hn (by omega)
      have hi : ∀ n : Nat, n < 3 → inB ((n + 1 : Nat) : Int) 0 3 = true := fun n hn => by simp [inB]; omega
      have hs := how_loop (step := spec_LastsHow_s4 F b) (fun n => lastN n b) F hF (fun n hn Q kn kx => by
        have hn' : (n : Int) < 3 := by omega
        simp only [spec_LastsHow_s4, hn', decide_true, cond_true]
        rw [w n hn]
        simp only [spec_lasts hb hB F hF (hi n hn), Option.isSome_some, Option.getD_some, cond_true, Int.toNat_natCast]) (fun Q kn kx => by simp [spec_LastsHow_s4])
      have hm := how_loop (step := impl_LastsHow_s4 F b) (fun n => lastN n b) F hF (fun n hn Q kn kx => by
        have hn' : (n : Int) < 3 := by omega
        simp only [impl_LastsHow_s4, hn', decide_true, cond_true]
        rw [w n hn]
        simp only [impl_lasts hb hB F hF (hi n hn), Option.isSome_some, Option.getD_some, cond_true, Int.toNat_natCast]) (fun Q kn kx => by simp [impl_LastsHow_s4])
      simp only [spec_LastsHow_l4, impl_LastsHow_l4, hs, hm, Option.isSome_some, Option.getD_some, cond_true, Bool.not_true, cond_false]
      exact ⟨_, rfl, rfl⟩
  obtain ⟨v, h1, h2⟩ := h
  simp only [laws_FnExactLastsHow_p, laws_FnExactLastsHow_c, toBoard_eq hb, h1, h2, Option.isSome_some, Option.getD_some, cond_true, beq_self_eq_true, Bool.not_true, cond_false]
end Go.Lv.P
