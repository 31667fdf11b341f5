/-
Pure functions and what the code of them does, by program; without conditions.
-/
import Derived.Test.YtabfliifleonaaeQeP5
import Derived.Test.YtabfliifleonaaeQeS4
namespace Go.Proofs.Ytabfliifleonaae
open Go Go.Lv Go.Lv.P Go.Proofs
set_option linter.unusedVariables false
set_option linter.unusedSimpArgs false
set_option maxRecDepth 100000
/-! loop.example/g01194/laws.FnBetween -/
noncomputable def laws_FnBetween_tab (F : Nat) : Tab := [(4, (laws_vBig_ent F)), (5, (spec_DrawMovesBetween_ent F)), (6, (impl_MovesBetween_ent F)), (7, (spec_MovesBetween_ent F)), (9, (laws_vCut_ent F)), (8, (spec_DrawScoreBetween_ent F)), (10, (impl_ScoreBetween_ent F)), (11, (spec_ScoreBetween_ent F)), (12, (spec_DrawIsPackedBoard_ent F)), (13, (impl_IsPackedBoard_ent F)), (14, (spec_IsPackedBoard_ent F)), (15, (impl_EqualPairs_ent F)), (16, (impl_SlideBoard_ent F)), (17, (impl_SumOf_ent F))]
theorem laws_FnBetween_tabok (F : Nat) : TabOK Try.prog (laws_FnBetween_tab F) := (tab_cons (laws_vBig_meets F) laws_vBig_fok (tab_cons (spec_DrawMovesBetween_meets F) spec_DrawMovesBetween_fok (tab_cons (impl_MovesBetween_meets F) impl_MovesBetween_fok (tab_cons (spec_MovesBetween_meets F) spec_MovesBetween_fok (tab_cons (laws_vCut_meets F) laws_vCut_fok (tab_cons (spec_DrawScoreBetween_meets F) spec_DrawScoreBetween_fok (tab_cons (impl_ScoreBetween_meets F) impl_ScoreBetween_fok (tab_cons (spec_ScoreBetween_meets F) spec_ScoreBetween_fok (tab_cons (spec_DrawIsPackedBoard_meets F) spec_DrawIsPackedBoard_fok (tab_cons (impl_IsPackedBoard_meets F) impl_IsPackedBoard_fok (tab_cons (spec_IsPackedBoard_meets F) spec_IsPackedBoard_fok (tab_cons (impl_EqualPairs_meets F) impl_EqualPairs_fok (tab_cons (impl_SlideBoard_meets F) impl_SlideBoard_fok (tab_cons (impl_SumOf_meets F) impl_SumOf_fok tab_nil))))))))))))))
noncomputable def laws_FnBetween_LS0 (F : Nat) : LT := []
theorem laws_FnBetween_lsok0 (F : Nat) : LoopsOK Try.prog (laws_FnBetween_LS0 F) (bodyOf Try.f3) := loopsOK_nil
theorem laws_FnBetween_keys : keysOK (bodyOf Try.f3) = true := by kernel_rfl
def laws_FnBetween_st19 (least6 : Int) (most7 : Int) (ok8 : Bool) (twos15 : Int) (score16 : Int) (fine17 : Bool) (is21 : Bool) (a23 : List Int) (b24 : List Int) (x25 : List Int) (y26 : List Int) (u27 : List Int) (d22 : Int) : St := ⟨expand 221 0 [3, 4, 5, 6, 7, 11, 12, 13, 14, 15, 18, 19, 25] [(.ptr 0 0 0 16), (.ptr 1 0 0 16), (.int .i64 least6), (.int .i64 most7), (.bool ok8), (.ptr 2 0 0 16), (.ptr 3 0 0 16), (.int .i64 twos15), (.int .i64 score16), (.bool fine17), (.ptr 4 0 0 16), (.bool is21), (.int .i64 d22)], [(.var 16 (.ri .i64 a23)), (.var 16 (.ri .i64 b24)), (.var 16 (.ri .i64 x25)), (.var 16 (.ri .i64 y26)), (.var 16 (.ri .i64 u27))], 0, []⟩
def laws_FnBetween_o19 (least6 : Int) (most7 : Int) (ok8 : Bool) (twos15 : Int) (score16 : Int) (fine17 : Bool) (is21 : Bool) (a23 : List Int) (b24 : List Int) (x25 : List Int) (y26 : List Int) (u27 : List Int) (x : Bool) : GT := (.br x (.out (.ret ⟨expand 221 0 [2] [(.bool false)], [], 0, []⟩)) (.out (.exit 0 ⟨expand 221 0 [3, 4, 5, 6, 7, 11, 12, 13, 14, 15] [(.ptr 0 0 0 16), (.ptr 1 0 0 16), (.int .i64 least6), (.int .i64 most7), (.bool ok8), (.ptr 2 0 0 16), (.ptr 3 0 0 16), (.int .i64 twos15), (.int .i64 score16), (.bool fine17)], [(.var 16 (.ri .i64 a23)), (.var 16 (.ri .i64 b24)), (.var 16 (.ri .i64 x25)), (.var 16 (.ri .i64 y26))], 0, []⟩)))
def laws_FnBetween_ls19 (F : Nat) : LoopS := ⟨221, [3, 4, 5, 6, 7, 11, 12, 13, 14, 15, 18, 19, 25], [], [3, 4, 5, 6, 7, 11, 12, 13, 14, 15], [], [2], [], [], fun vals mem np killed => match vals, mem, np, killed with
  | [(.ptr 0 0 0 16), (.ptr 1 0 0 16), (.int .i64 least6), (.int .i64 most7), (.bool ok8), (.ptr 2 0 0 16), (.ptr 3 0 0 16), (.int .i64 twos15), (.int .i64 score16), (.bool fine17), (.ptr 4 0 0 16), (.bool is21), (.int .i64 d22)], [(.var 16 (.ri .i64 a23)), (.var 16 (.ri .i64 b24)), (.var 16 (.ri .i64 x25)), (.var 16 (.ri .i64 y26)), (.var 16 (.ri .i64 u27))], 0, [] => .br (laws_FnBetween_l19 F least6 most7 ok8 twos15 score16 fine17 is21 a23 b24 x25 y26 u27 d22).isSome (laws_FnBetween_o19 least6 most7 ok8 twos15 score16 fine17 is21 a23 b24 x25 y26 u27 ((laws_FnBetween_l19 F least6 most7 ok8 twos15 score16 fine17 is21 a23 b24 x25 y26 u27 d22).getD default)) .fail
  | _, _, _, _ => .fail⟩
theorem laws_FnBetween_step19 (F : Nat) (least6 : Int) (most7 : Int) (ok8 : Bool) (twos15 : Int) (score16 : Int) (fine17 : Bool) (is21 : Bool) (a23 : List Int) (b24 : List Int) (x25 : List Int) (y26 : List Int) (u27 : List Int) (d22 : Int) {R : Type} (k : Out → Option R) : stepS tt (laws_FnBetween_tab F) (laws_FnBetween_LS0 F) 70 (laws_FnBetween_ls19 F) (loopAt 19 (bodyOf Try.f3)) (laws_FnBetween_st19 least6 most7 ok8 twos15 score16 fine17 is21 a23 b24 x25 y26 u27 d22) k = laws_FnBetween_s19 F least6 most7 ok8 twos15 score16 fine17 is21 a23 b24 x25 y26 u27 R d22 (fun s => k (.norm (laws_FnBetween_st19 least6 most7 ok8 twos15 score16 fine17 is21 a23 b24 x25 y26 u27 s))) (fun x => (laws_FnBetween_o19 least6 most7 ok8 twos15 score16 fine17 is21 a23 b24 x25 y26 u27 x).run k) := by kernel_rfl
theorem laws_FnBetween_iter19 (F : Nat) (least6 : Int) (most7 : Int) (ok8 : Bool) (twos15 : Int) (score16 : Int) (fine17 : Bool) (is21 : Bool) (a23 : List Int) (b24 : List Int) (x25 : List Int) (y26 : List Int) (u27 : List Int) {R : Type} (k : Out → Option R) : ∀ (n : Nat) (d22 : Int), iterS tt (laws_FnBetween_tab F) (laws_FnBetween_LS0 F) 70 (laws_FnBetween_ls19 F) (loopAt 19 (bodyOf Try.f3)) n (laws_FnBetween_st19 least6 most7 ok8 twos15 score16 fine17 is21 a23 b24 x25 y26 u27 d22) k = loopC (laws_FnBetween_s19 F least6 most7 ok8 twos15 score16 fine17 is21 a23 b24 x25 y26 u27) n d22 (fun x => (laws_FnBetween_o19 least6 most7 ok8 twos15 score16 fine17 is21 a23 b24 x25 y26 u27 x).run k)
  | 0, d22 => rfl
  | n + 1, d22 => (iterS_succ tt (laws_FnBetween_tab F) (laws_FnBetween_LS0 F) 70 (laws_FnBetween_ls19 F) (loopAt 19 (bodyOf Try.f3)) n (laws_FnBetween_st19 least6 most7 ok8 twos15 score16 fine17 is21 a23 b24 x25 y26 u27 d22) k).trans ((laws_FnBetween_step19 F least6 most7 ok8 twos15 score16 fine17 is21 a23 b24 x25 y26 u27 d22 (nextK (iterS tt (laws_FnBetween_tab F) (laws_FnBetween_LS0 F) 70 (laws_FnBetween_ls19 F) (loopAt 19 (bodyOf Try.f3)) n) k)).trans (congrArg (fun kn => laws_FnBetween_s19 F least6 most7 ok8 twos15 score16 fine17 is21 a23 b24 x25 y26 u27 R d22 kn _) (funext (fun d22 => laws_FnBetween_iter19 F least6 most7 ok8 twos15 score16 fine17 is21 a23 b24 x25 y26 u27 k n d22))))
theorem laws_FnBetween_lok19 (F : Nat) : LoopOK Try.prog (loopAt 19 (bodyOf Try.f3)) (laws_FnBetween_ls19 F) := by
  refine loopOK_of mixed ttok deep (laws_FnBetween_tabok F) (loopsOK_at (laws_FnBetween_lsok0 F) 19) (fuel := 70) fun R vals mem np killed k x h => ?_
  simp only [laws_FnBetween_ls19] at h
  split at h
  · rename_i least6 most7 ok8 twos15 score16 fine17 is21 d22 a23 b24 x25 y26 u27
    simp only [GT.run] at h
    have hc := (cond_noneL h).1
    replace h := (cond_noneL h).2
    refine ⟨F, (laws_FnBetween_iter19 F least6 most7 ok8 twos15 score16 fine17 is21 a23 b24 x25 y26 u27 k F d22).trans ((loopC_use (laws_FnBetween_s19_nat F least6 most7 ok8 twos15 score16 fine17 is21 a23 b24 x25 y26 u27) hc _).trans h)⟩
  · simp only [GT.run] at h
    cases h
noncomputable def laws_FnBetween_LS1 (F : Nat) : LT := (19, laws_FnBetween_ls19 F) :: laws_FnBetween_LS0 F
theorem laws_FnBetween_lsok1 (F : Nat) : LoopsOK Try.prog (laws_FnBetween_LS1 F) (bodyOf Try.f3) := loopsOK_cons laws_FnBetween_keys (laws_FnBetween_lok19 F) (laws_FnBetween_lsok0 F)
theorem laws_FnBetween_run (F : Nat) (code0 : List Int) : runS tt (laws_FnBetween_tab F) (laws_FnBetween_LS1 F) [] [] Try.f3 (bodyOf Try.f3) 70 [(.ri .u8 code0)] [] = laws_FnBetween_c _ F code0 (fun r => some ⟨(.bool r), [], []⟩) := by kernel_rfl
def laws_FnBetween_ent (F : Nat) : Ent := ⟨[], .quiet, fun args mem => match args, mem with
  | [(.ri .u8 code0)], [] => some ((laws_FnBetween_p F code0).isSome, ⟨(.bool ((laws_FnBetween_p F code0).getD default)), [], []⟩)
  | _, _ => none⟩
theorem laws_FnBetween_fok : FunOK Try.prog 3 := funOK Try.func3 (by kernel_rfl) rfl
theorem laws_FnBetween_meets (F : Nat) : Meets Try.prog 3 (laws_FnBetween_ent F) := by
  refine meets_of_runS mixed ttok deep (laws_FnBetween_tabok F) Try.func3 (body_some rfl) (laws_FnBetween_lsok1 F) fun args mem hfit ret h => ?_
  clear hfit
  simp only [laws_FnBetween_ent] at h
  split at h
  · rename_i code0
    simp only [Option.some.injEq, Prod.mk.injEq] at h
    obtain ⟨hc, rfl⟩ := h
    exact ⟨[], [], 70, _, (laws_FnBetween_run F code0).trans ((laws_FnBetween_cp _ F code0 _).trans (bind_use hc _)), rfl, rfl, rfl⟩
  · cases h
end Go.Proofs.Ytabfliifleonaae
