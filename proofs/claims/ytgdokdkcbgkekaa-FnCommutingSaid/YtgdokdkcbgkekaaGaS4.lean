/-
Pure functions and what the code of them does, by program; without conditions.
-/
import Derived.Test.YtgdokdkcbgkekaaGaP4
import Derived.Test.YtgdokdkcbgkekaaGaS3
namespace Go.Proofs.Ytgdokdkcbgkekaa
open Go Go.Lv Go.Lv.P Go.Proofs
set_option linter.unusedVariables false
set_option linter.unusedSimpArgs false
set_option maxRecDepth 100000
/-! loop.example/g01194/laws.FnCommuting -/
noncomputable def laws_FnCommuting_tab (F : Nat) : Tab := [(4, (laws_vBig_ent F)), (5, (spec_DrawDoCommute_ent F)), (6, (impl_DoCommute_ent F)), (7, (spec_DoCommute_ent F)), (9, (laws_vCut_ent F)), (8, (spec_DrawCommutingPairs_ent F)), (10, (impl_CommutingPairs_ent F)), (11, (spec_CommutingPairs_ent F)), (12, (laws_vPairs_ent F)), (13, (impl_DoSlides_ent F)), (14, (impl_FormBoard_ent F))]
theorem laws_FnCommuting_tabok (F : Nat) : TabOK Try.prog (laws_FnCommuting_tab F) := (tab_cons (laws_vBig_meets F) laws_vBig_fok (tab_cons (spec_DrawDoCommute_meets F) spec_DrawDoCommute_fok (tab_cons (impl_DoCommute_meets F) impl_DoCommute_fok (tab_cons (spec_DoCommute_meets F) spec_DoCommute_fok (tab_cons (laws_vCut_meets F) laws_vCut_fok (tab_cons (spec_DrawCommutingPairs_meets F) spec_DrawCommutingPairs_fok (tab_cons (impl_CommutingPairs_meets F) impl_CommutingPairs_fok (tab_cons (spec_CommutingPairs_meets F) spec_CommutingPairs_fok (tab_cons (laws_vPairs_meets F) laws_vPairs_fok (tab_cons (impl_DoSlides_meets F) impl_DoSlides_fok (tab_cons (impl_FormBoard_meets F) impl_FormBoard_fok tab_nil)))))))))))
noncomputable def laws_FnCommuting_LS0 (F : Nat) : LT := []
theorem laws_FnCommuting_lsok0 (F : Nat) : LoopsOK Try.prog (laws_FnCommuting_LS0 F) (bodyOf Try.f3) := loopsOK_nil
theorem laws_FnCommuting_keys : keysOK (bodyOf Try.f3) = true := by kernel_rfl
def laws_FnCommuting_st24 (u6 : List Int) (pairs7 : List (List Int)) (i5 : Int) : St := ⟨expand 211 0 [10, 11, 27] [(.ptr 0 0 0 16), (.sl 1 0 (List.length pairs7)), (.int .i64 i5)], [(.var 16 (.ri .i64 u6)), (.vec 43 (.rr 2 pairs7))], 0, []⟩
def laws_FnCommuting_o24 (u6 : List Int) (pairs7 : List (List Int)) (x : Bool) : GT := (.br x (.out (.ret ⟨expand 211 0 [2] [(.bool false)], [], 0, []⟩)) (.out (.exit 0 ⟨expand 211 0 [] [], [], 0, []⟩)))
def laws_FnCommuting_ls24 (F : Nat) : LoopS := ⟨211, [10, 11, 27], [], [], [], [2], [], [], fun vals mem np killed => match vals, mem, np, killed with
  | [(.ptr 0 0 0 16), (.sl 1 0 q_pairs4), (.int .i64 i5)], [(.var 16 (.ri .i64 u6)), (.vec 43 (.rr 2 pairs7))], 0, [] => .br ((Nat.beq q_pairs4 (List.length pairs7)) && (laws_FnCommuting_l24 F u6 pairs7 i5).isSome) (laws_FnCommuting_o24 u6 pairs7 ((laws_FnCommuting_l24 F u6 pairs7 i5).getD default)) .fail
  | _, _, _, _ => .fail⟩
theorem laws_FnCommuting_step24 (F : Nat) (u6 : List Int) (pairs7 : List (List Int)) (i5 : Int) {R : Type} (k : Out → Option R) : stepS tt (laws_FnCommuting_tab F) (laws_FnCommuting_LS0 F) 70 (laws_FnCommuting_ls24 F) (loopAt 24 (bodyOf Try.f3)) (laws_FnCommuting_st24 u6 pairs7 i5) k = laws_FnCommuting_s24 F u6 pairs7 R i5 (fun s => k (.norm (laws_FnCommuting_st24 u6 pairs7 s))) (fun x => (laws_FnCommuting_o24 u6 pairs7 x).run k) := by kernel_rfl
theorem laws_FnCommuting_iter24 (F : Nat) (u6 : List Int) (pairs7 : List (List Int)) {R : Type} (k : Out → Option R) : ∀ (n : Nat) (i5 : Int), iterS tt (laws_FnCommuting_tab F) (laws_FnCommuting_LS0 F) 70 (laws_FnCommuting_ls24 F) (loopAt 24 (bodyOf Try.f3)) n (laws_FnCommuting_st24 u6 pairs7 i5) k = loopC (laws_FnCommuting_s24 F u6 pairs7) n i5 (fun x => (laws_FnCommuting_o24 u6 pairs7 x).run k)
  | 0, i5 => rfl
  | n + 1, i5 => (iterS_succ tt (laws_FnCommuting_tab F) (laws_FnCommuting_LS0 F) 70 (laws_FnCommuting_ls24 F) (loopAt 24 (bodyOf Try.f3)) n (laws_FnCommuting_st24 u6 pairs7 i5) k).trans ((laws_FnCommuting_step24 F u6 pairs7 i5 (nextK (iterS tt (laws_FnCommuting_tab F) (laws_FnCommuting_LS0 F) 70 (laws_FnCommuting_ls24 F) (loopAt 24 (bodyOf Try.f3)) n) k)).trans (congrArg (fun kn => laws_FnCommuting_s24 F u6 pairs7 R i5 kn _) (funext (fun i5 => laws_FnCommuting_iter24 F u6 pairs7 k n i5))))
theorem laws_FnCommuting_lok24 (F : Nat) : LoopOK Try.prog (loopAt 24 (bodyOf Try.f3)) (laws_FnCommuting_ls24 F) := by
  refine loopOK_of mixed ttok deep (laws_FnCommuting_tabok F) (loopsOK_at (laws_FnCommuting_lsok0 F) 24) (fuel := 70) fun R vals mem np killed k x h => ?_
  simp only [laws_FnCommuting_ls24] at h
  split at h
  · rename_i q_pairs4 i5 u6 pairs7
    simp only [GT.run] at h
    have hc := (cond_noneL h).1
    replace h := (cond_noneL h).2
    have hg := (and_split hc).1
    replace hc := (and_split hc).2
    obtain rfl := nbeq_nat hg
    refine ⟨F, (laws_FnCommuting_iter24 F u6 pairs7 k F i5).trans ((loopC_use (laws_FnCommuting_s24_nat F u6 pairs7) hc _).trans h)⟩
  · simp only [GT.run] at h
    cases h
noncomputable def laws_FnCommuting_LS1 (F : Nat) : LT := (24, laws_FnCommuting_ls24 F) :: laws_FnCommuting_LS0 F
theorem laws_FnCommuting_lsok1 (F : Nat) : LoopsOK Try.prog (laws_FnCommuting_LS1 F) (bodyOf Try.f3) := loopsOK_cons laws_FnCommuting_keys (laws_FnCommuting_lok24 F) (laws_FnCommuting_lsok0 F)
theorem laws_FnCommuting_run (F : Nat) (code0 : List Int) : runS tt (laws_FnCommuting_tab F) (laws_FnCommuting_LS1 F) [] [] Try.f3 (bodyOf Try.f3) 70 [(.ri .u8 code0)] [] = laws_FnCommuting_c _ F code0 (fun r => some ⟨(.bool r), [], []⟩) := by kernel_rfl
def laws_FnCommuting_ent (F : Nat) : Ent := ⟨[], .quiet, fun args mem => match args, mem with
  | [(.ri .u8 code0)], [] => some ((laws_FnCommuting_p F code0).isSome, ⟨(.bool ((laws_FnCommuting_p F code0).getD default)), [], []⟩)
  | _, _ => none⟩
theorem laws_FnCommuting_fok : FunOK Try.prog 3 := funOK Try.func3 (by kernel_rfl) rfl
theorem laws_FnCommuting_meets (F : Nat) : Meets Try.prog 3 (laws_FnCommuting_ent F) := by
  refine meets_of_runS mixed ttok deep (laws_FnCommuting_tabok F) Try.func3 (body_some rfl) (laws_FnCommuting_lsok1 F) fun args mem hfit ret h => ?_
  clear hfit
  simp only [laws_FnCommuting_ent] at h
  split at h
  · rename_i code0
    simp only [Option.some.injEq, Prod.mk.injEq] at h
    obtain ⟨hc, rfl⟩ := h
    exact ⟨[], [], 70, _, (laws_FnCommuting_run F code0).trans ((laws_FnCommuting_cp _ F code0 _).trans (bind_use hc _)), rfl, rfl, rfl⟩
  · cases h
end Go.Proofs.Ytgdokdkcbgkekaa
