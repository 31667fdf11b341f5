/-
The boards that slides reach: both lists hold the same.
-/
import Derived.Test.YtgmnclpjbhmioaaTRP0
import Derived.Test.YtgmnclpjbhmioaaTRPReachI
namespace Go.Lv.P
open Go Go.Lv
set_option linter.unusedVariables false
set_option linter.unusedSimpArgs false
set_option linter.unusedSectionVars false

theorem spec_reach (F : Nat) {b : List Int} (hb : GoodB b) {n : Nat} (hn : n ≤ 6) (hF : 1000000 < F) : spec_l5Reach_p F b n = some (reachL b n) := by
  have h := loop_fold (step := spec_l5Reach_s3 F n) (fun i (s : LL) => (s, i)) n (fun i s => nextL s) (fun s => s) (fun i s => s = reachL b i) (F := F) (by omega) (by omega) (a := [b]) rfl
    (fun i s hi hI => by
      refine ⟨by rw [hI]; rfl, fun Q kn kx => ?_⟩
      have hs := reachL_small b (n := i) (by omega)
      rw [hI]
      simp only [spec_l5Reach_s3, Int.ofNat_lt, hi, decide_true, cond_true, spec_next F (reachL_ok hb i) (by omega) hF, Option.isSome_some, Option.getD_some])
    (fun s _ Q kn kx => by simp [spec_l5Reach_s3])
  have h1 : spec_l5Reach_l3 F n [b] 0 = some (reachL b n) := h.1.trans (congrArg some h.2)
  simp only [spec_l5Reach_p, spec_l5Reach_c, h1, Option.isSome_some, Option.getD_some, cond_true]

theorem keys_reach (a : List Int) (n : Nat) (x : List Int) : x ∈ keysE (TW sl a (n + 1)) ↔ x ∈ reachL a n := by
  unfold keysE
  rw [TW_mem, reachL_mem]
  constructor
  · rintro ⟨w, h, h2⟩; exact ⟨w, by omega, h2⟩
  · rintro ⟨w, h, h2⟩; exact ⟨w, by omega, h2⟩
end Go.Lv.P
