/-
Pure functions and what the code of them does, by program; without conditions.
-/
import Derived.Test.YtabfliifleonaakGreatQkSRTT
import Derived.Test.YtabfliifleonaakGreatQkSRTF
import Derived.Test.YtabfliifleonaakGreatQkSRFT
import Derived.Test.YtabfliifleonaakGreatQkSRFF
namespace Go.Proofs.YtabfliifleonaakGreat
open Go Go.Lv Go.Lv.P Go.Proofs
set_option linter.unusedVariables false
set_option linter.unusedSimpArgs false
set_option maxRecDepth 100000
def k110_ent (F : Nat) : Ent := ⟨[], .quiet, fun args mem => match args, mem with
  | [(.ri .u8 j2)], [] => some ((k110_p F j2).isSome, ⟨(.bool ((k110_p F j2).getD default)), [], []⟩)
  | _, _ => none⟩
theorem k110_meets (F : Nat) : Meets Tryz.prog 3 (k110_ent F) := by
  intro fr w ρ mem args reals hw ha ret hg
  simp only [k110_ent] at hg
  split at hg
  · rename_i j2
    unfold k110_p at hg
    cases h1 : k110_q1 F j2 with
    | true =>
      cases h2 : k110_q2 F j2 with
      | true =>
        rw [h1, h2] at hg
        refine k110_meetsTT F fr w ρ _ _ reals hw ha ret ?_
        simp only [k110_entTT]; exact hg
      | false =>
        rw [h1, h2] at hg
        refine k110_meetsTF F fr w ρ _ _ reals hw ha ret ?_
        simp only [k110_entTF]; exact hg
    | false =>
      cases h2 : k110_q2 F j2 with
      | true =>
        rw [h1, h2] at hg
        refine k110_meetsFT F fr w ρ _ _ reals hw ha ret ?_
        simp only [k110_entFT]; exact hg
      | false =>
        rw [h1, h2] at hg
        refine k110_meetsFF F fr w ρ _ _ reals hw ha ret ?_
        simp only [k110_entFF]; exact hg
  · cases hg
end Go.Proofs.YtabfliifleonaakGreat
