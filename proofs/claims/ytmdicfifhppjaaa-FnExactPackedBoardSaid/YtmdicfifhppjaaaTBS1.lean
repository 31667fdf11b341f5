/-
Pure functions and what the code of them does, by program; without conditions.
-/
import Derived.Test.YtmdicfifhppjaaaTBP1
import Derived.Test.YtmdicfifhppjaaaTBS0
namespace Go.Proofs.Ytmdicfifhppjaaa
open Go Go.Lv Go.Lv.P Go.Proofs
set_option linter.unusedVariables false
set_option linter.unusedSimpArgs false
set_option maxRecDepth 100000
/-! loop.example/g01194/laws.FnExactPackedBoard -/
noncomputable def laws_FnExactPackedBoard_tab (F : Nat) : Tab := [(43, (spec_PackedBoard_ent F)), (44, (impl_PackedBoard_ent F)), (30, (laws_eqBoard_ent F))]
theorem laws_FnExactPackedBoard_tabok (F : Nat) : TabOK Try.prog (laws_FnExactPackedBoard_tab F) := (tab_cons (spec_PackedBoard_meets F) spec_PackedBoard_fok (tab_cons (impl_PackedBoard_meets F) impl_PackedBoard_fok (tab_cons (laws_eqBoard_meets F) laws_eqBoard_fok tab_nil)))
noncomputable def laws_FnExactPackedBoard_LS0 (F : Nat) : LT := []
theorem laws_FnExactPackedBoard_lsok0 (F : Nat) : LoopsOK Try.prog (laws_FnExactPackedBoard_LS0 F) (bodyOf Try.f13) := loopsOK_nil
theorem laws_FnExactPackedBoard_run (F : Nat) (aSum0 : Int) : runS tt (laws_FnExactPackedBoard_tab F) (laws_FnExactPackedBoard_LS0 F) [] [] Try.f13 (bodyOf Try.f13) 70 [(.int .i64 aSum0)] [] = laws_FnExactPackedBoard_c _ F aSum0 (fun r => some ⟨(.bool r), [], []⟩) := by kernel_rfl
def laws_FnExactPackedBoard_ent (F : Nat) : Ent := ⟨[], .quiet, fun args mem => match args, mem with
  | [(.int .i64 aSum0)], [] => some ((laws_FnExactPackedBoard_p F aSum0).isSome, ⟨(.bool ((laws_FnExactPackedBoard_p F aSum0).getD default)), [], []⟩)
  | _, _ => none⟩
theorem laws_FnExactPackedBoard_fok : FunOK Try.prog 13 := funOK Try.func13 (by kernel_rfl) rfl
theorem laws_FnExactPackedBoard_meets (F : Nat) : Meets Try.prog 13 (laws_FnExactPackedBoard_ent F) := by
  refine meets_of_runS mixed ttok deep (laws_FnExactPackedBoard_tabok F) Try.func13 (body_some rfl) (laws_FnExactPackedBoard_lsok0 F) fun args mem hfit ret h => ?_
  clear hfit
  simp only [laws_FnExactPackedBoard_ent] at h
  split at h
  · rename_i aSum0
    simp only [Option.some.injEq, Prod.mk.injEq] at h
    obtain ⟨hc, rfl⟩ := h
    exact ⟨[], [], 70, _, (laws_FnExactPackedBoard_run F aSum0).trans ((laws_FnExactPackedBoard_cp _ F aSum0 _).trans (bind_use hc _)), rfl, rfl, rfl⟩
  · cases h
end Go.Proofs.Ytmdicfifhppjaaa
