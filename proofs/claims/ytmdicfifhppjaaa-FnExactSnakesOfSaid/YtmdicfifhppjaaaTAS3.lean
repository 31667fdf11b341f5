/-
Pure functions and what the code of them does, by program; without conditions.
-/
import Derived.Test.YtmdicfifhppjaaaTAP3
import Derived.Test.YtmdicfifhppjaaaTAS2
namespace Go.Proofs.Ytmdicfifhppjaaa
open Go Go.Lv Go.Lv.P Go.Proofs
set_option linter.unusedVariables false
set_option linter.unusedSimpArgs false
set_option maxRecDepth 100000
/-! loop.example/g01194/impl.MeanSum -/
noncomputable def impl_MeanSum_tab (F : Nat) : Tab := [(66, (impl_IsBoard_ent F)), (55, (impl_in_ent F)), (67, (impl_Board_sum_ent F)), (77, (impl_fraction_ent F))]
theorem impl_MeanSum_tabok (F : Nat) : TabOK Try.prog (impl_MeanSum_tab F) := (tab_cons (impl_IsBoard_meets F) impl_IsBoard_fok (tab_cons (impl_in_meets F) impl_in_fok (tab_cons (impl_Board_sum_meets F) impl_Board_sum_fok (tab_cons (impl_fraction_meets F) impl_fraction_fok tab_nil))))
noncomputable def impl_MeanSum_LS0 (F : Nat) : LT := []
theorem impl_MeanSum_lsok0 (F : Nat) : LoopsOK Try.prog (impl_MeanSum_LS0 F) (bodyOf Try.f36) := loopsOK_nil
theorem impl_MeanSum_run (F : Nat) (b0 : List Int) (n1 : Int) : runS tt (impl_MeanSum_tab F) (impl_MeanSum_LS0 F) [] [] Try.f36 (bodyOf Try.f36) 70 [(.ints 16 b0), (.int .i64 n1)] [] = impl_MeanSum_c _ F b0 n1 (fun r => some ⟨(.tup [(.ints 2 r.1), (.bool r.2)]), [], []⟩) := by kernel_rfl
def impl_MeanSum_ent (F : Nat) : Ent := ⟨[], .quiet, fun args mem => match args, mem with
  | [(.ints 16 b0), (.int .i64 n1)], [] => some ((impl_MeanSum_p F b0 n1).isSome, ⟨(.tup [(.ints 2 ((impl_MeanSum_p F b0 n1).getD default).1), (.bool ((impl_MeanSum_p F b0 n1).getD default).2)]), [], []⟩)
  | _, _ => none⟩
theorem impl_MeanSum_fok : FunOK Try.prog 36 := funOK Try.func36 (by kernel_rfl) rfl
theorem impl_MeanSum_meets (F : Nat) : Meets Try.prog 36 (impl_MeanSum_ent F) := by
  refine meets_of_runS mixed ttok deep (impl_MeanSum_tabok F) Try.func36 (body_some rfl) (impl_MeanSum_lsok0 F) fun args mem hfit ret h => ?_
  clear hfit
  simp only [impl_MeanSum_ent] at h
  split at h
  · rename_i b0 n1
    simp only [Option.some.injEq, Prod.mk.injEq] at h
    obtain ⟨hc, rfl⟩ := h
    exact ⟨[], [], 70, _, (impl_MeanSum_run F b0 n1).trans ((impl_MeanSum_cp _ F b0 n1 _).trans (bind_use hc _)), rfl, rfl, rfl⟩
  · cases h

/-! loop.example/g01194/laws.eqIntA2 -/
noncomputable def laws_eqIntA2_tab (F : Nat) : Tab := []
theorem laws_eqIntA2_tabok (F : Nat) : TabOK Try.prog (laws_eqIntA2_tab F) := tab_nil
noncomputable def laws_eqIntA2_LS0 (F : Nat) : LT := []
theorem laws_eqIntA2_lsok0 (F : Nat) : LoopsOK Try.prog (laws_eqIntA2_LS0 F) (bodyOf Try.f37) := loopsOK_nil
theorem laws_eqIntA2_keys : keysOK (bodyOf Try.f37) = true := by kernel_rfl
def laws_eqIntA2_st2 (a7 : List Int) (b8 : List Int) (i6 : Int) : St := ⟨expand 17 0 [2, 3, 5] [(.ptr 0 0 0 2), (.ptr 1 0 0 2), (.int .i64 i6)], [(.var 2 (.ri .i64 a7)), (.var 2 (.ri .i64 b8))], 0, []⟩
def laws_eqIntA2_o2 (a7 : List Int) (b8 : List Int) (x : Bool) : GT := (.br x (.out (.ret ⟨expand 17 0 [4] [(.bool false)], [], 0, []⟩)) (.out (.exit 0 ⟨expand 17 0 [] [], [], 0, []⟩)))
def laws_eqIntA2_ls2 (F : Nat) : LoopS := ⟨17, [2, 3, 5], [], [], [], [4], [], [], fun vals mem np killed => match vals, mem, np, killed with
  | [(.ptr 0 0 0 2), (.ptr 1 0 0 2), (.int .i64 i6)], [(.var 2 (.ri .i64 a7)), (.var 2 (.ri .i64 b8))], 0, [] => .br (laws_eqIntA2_l2 F a7 b8 i6).isSome (laws_eqIntA2_o2 a7 b8 ((laws_eqIntA2_l2 F a7 b8 i6).getD default)) .fail
  | _, _, _, _ => .fail⟩
theorem laws_eqIntA2_step2 (F : Nat) (a7 : List Int) (b8 : List Int) (i6 : Int) {R : Type} (k : Out → Option R) : stepS tt (laws_eqIntA2_tab F) (laws_eqIntA2_LS0 F) 70 (laws_eqIntA2_ls2 F) (loopAt 2 (bodyOf Try.f37)) (laws_eqIntA2_st2 a7 b8 i6) k = laws_eqIntA2_s2 F a7 b8 R i6 (fun s => k (.norm (laws_eqIntA2_st2 a7 b8 s))) (fun x => (laws_eqIntA2_o2 a7 b8 x).run k) := by kernel_rfl
theorem laws_eqIntA2_iter2 (F : Nat) (a7 : List Int) (b8 : List Int) {R : Type} (k : Out → Option R) : ∀ (n : Nat) (i6 : Int), iterS tt (laws_eqIntA2_tab F) (laws_eqIntA2_LS0 F) 70 (laws_eqIntA2_ls2 F) (loopAt 2 (bodyOf Try.f37)) n (laws_eqIntA2_st2 a7 b8 i6) k = loopC (laws_eqIntA2_s2 F a7 b8) n i6 (fun x => (laws_eqIntA2_o2 a7 b8 x).run k)
  | 0, i6 => rfl
  | n + 1, i6 => (iterS_succ tt (laws_eqIntA2_tab F) (laws_eqIntA2_LS0 F) 70 (laws_eqIntA2_ls2 F) (loopAt 2 (bodyOf Try.f37)) n (laws_eqIntA2_st2 a7 b8 i6) k).trans ((laws_eqIntA2_step2 F a7 b8 i6 (nextK (iterS tt (laws_eqIntA2_tab F) (laws_eqIntA2_LS0 F) 70 (laws_eqIntA2_ls2 F) (loopAt 2 (bodyOf Try.f37)) n) k)).trans (congrArg (fun kn => laws_eqIntA2_s2 F a7 b8 R i6 kn _) (funext (fun i6 => laws_eqIntA2_iter2 F a7 b8 k n i6))))
theorem laws_eqIntA2_lok2 (F : Nat) : LoopOK Try.prog (loopAt 2 (bodyOf Try.f37)) (laws_eqIntA2_ls2 F) := by
  refine loopOK_of mixed ttok deep (laws_eqIntA2_tabok F) (loopsOK_at (laws_eqIntA2_lsok0 F) 2) (fuel := 70) fun R vals mem np killed k x h => ?_
  simp only [laws_eqIntA2_ls2] at h
  split at h
  · rename_i i6 a7 b8
    simp only [GT.run] at h
    have hc := (cond_noneL h).1
    replace h := (cond_noneL h).2
    refine ⟨F, (laws_eqIntA2_iter2 F a7 b8 k F i6).trans ((loopC_use (laws_eqIntA2_s2_nat F a7 b8) hc _).trans h)⟩
  · simp only [GT.run] at h
    cases h
noncomputable def laws_eqIntA2_LS1 (F : Nat) : LT := (2, laws_eqIntA2_ls2 F) :: laws_eqIntA2_LS0 F
theorem laws_eqIntA2_lsok1 (F : Nat) : LoopsOK Try.prog (laws_eqIntA2_LS1 F) (bodyOf Try.f37) := loopsOK_cons laws_eqIntA2_keys (laws_eqIntA2_lok2 F) (laws_eqIntA2_lsok0 F)
theorem laws_eqIntA2_run (F : Nat) (a0 : List Int) (b1 : List Int) : runS tt (laws_eqIntA2_tab F) (laws_eqIntA2_LS1 F) [] [] Try.f37 (bodyOf Try.f37) 70 [(.ints 2 a0), (.ints 2 b1)] [] = laws_eqIntA2_c _ F a0 b1 (fun r => some ⟨(.bool r), [], []⟩) := by kernel_rfl
def laws_eqIntA2_ent (F : Nat) : Ent := ⟨[], .quiet, fun args mem => match args, mem with
  | [(.ints 2 a0), (.ints 2 b1)], [] => some ((laws_eqIntA2_p F a0 b1).isSome, ⟨(.bool ((laws_eqIntA2_p F a0 b1).getD default)), [], []⟩)
  | _, _ => none⟩
theorem laws_eqIntA2_fok : FunOK Try.prog 37 := funOK Try.func37 (by kernel_rfl) rfl
theorem laws_eqIntA2_meets (F : Nat) : Meets Try.prog 37 (laws_eqIntA2_ent F) := by
  refine meets_of_runS mixed ttok deep (laws_eqIntA2_tabok F) Try.func37 (body_some rfl) (laws_eqIntA2_lsok1 F) fun args mem hfit ret h => ?_
  clear hfit
  simp only [laws_eqIntA2_ent] at h
  split at h
  · rename_i a0 b1
    simp only [Option.some.injEq, Prod.mk.injEq] at h
    obtain ⟨hc, rfl⟩ := h
    exact ⟨[], [], 70, _, (laws_eqIntA2_run F a0 b1).trans ((laws_eqIntA2_cp _ F a0 b1 _).trans (bind_use hc _)), rfl, rfl, rfl⟩
  · cases h

/-! loop.example/g01194/laws.FnExactMeanSum -/
noncomputable def laws_FnExactMeanSum_tab (F : Nat) : Tab := [(21, (laws_toBoard_ent F)), (35, (spec_MeanSum_ent F)), (36, (impl_MeanSum_ent F)), (37, (laws_eqIntA2_ent F))]
theorem laws_FnExactMeanSum_tabok (F : Nat) : TabOK Try.prog (laws_FnExactMeanSum_tab F) := (tab_cons (laws_toBoard_meets F) laws_toBoard_fok (tab_cons (spec_MeanSum_meets F) spec_MeanSum_fok (tab_cons (impl_MeanSum_meets F) impl_MeanSum_fok (tab_cons (laws_eqIntA2_meets F) laws_eqIntA2_fok tab_nil))))
noncomputable def laws_FnExactMeanSum_LS0 (F : Nat) : LT := []
theorem laws_FnExactMeanSum_lsok0 (F : Nat) : LoopsOK Try.prog (laws_FnExactMeanSum_LS0 F) (bodyOf Try.f11) := loopsOK_nil
theorem laws_FnExactMeanSum_run (F : Nat) (aB0 : List Int) (aN1 : Int) : runS tt (laws_FnExactMeanSum_tab F) (laws_FnExactMeanSum_LS0 F) [] [] Try.f11 (bodyOf Try.f11) 70 [(.ints 16 aB0), (.int .i64 aN1)] [] = laws_FnExactMeanSum_c _ F aB0 aN1 (fun r => some ⟨(.bool r), [], []⟩) := by kernel_rfl
def laws_FnExactMeanSum_ent (F : Nat) : Ent := ⟨[], .quiet, fun args mem => match args, mem with
  | [(.ints 16 aB0), (.int .i64 aN1)], [] => some ((laws_FnExactMeanSum_p F aB0 aN1).isSome, ⟨(.bool ((laws_FnExactMeanSum_p F aB0 aN1).getD default)), [], []⟩)
  | _, _ => none⟩
theorem laws_FnExactMeanSum_fok : FunOK Try.prog 11 := funOK Try.func11 (by kernel_rfl) rfl
theorem laws_FnExactMeanSum_meets (F : Nat) : Meets Try.prog 11 (laws_FnExactMeanSum_ent F) := by
  refine meets_of_runS mixed ttok deep (laws_FnExactMeanSum_tabok F) Try.func11 (body_some rfl) (laws_FnExactMeanSum_lsok0 F) fun args mem hfit ret h => ?_
  clear hfit
  simp only [laws_FnExactMeanSum_ent] at h
  split at h
  · rename_i aB0 aN1
    simp only [Option.some.injEq, Prod.mk.injEq] at h
    obtain ⟨hc, rfl⟩ := h
    exact ⟨[], [], 70, _, (laws_FnExactMeanSum_run F aB0 aN1).trans ((laws_FnExactMeanSum_cp _ F aB0 aN1 _).trans (bind_use hc _)), rfl, rfl, rfl⟩
  · cases h

/-! loop.example/g01194/spec.l2Empty -/
noncomputable def spec_l2Empty_tab (F : Nat) : Tab := []
theorem spec_l2Empty_tabok (F : Nat) : TabOK Try.prog (spec_l2Empty_tab F) := tab_nil
noncomputable def spec_l2Empty_LS0 (F : Nat) : LT := []
theorem spec_l2Empty_lsok0 (F : Nat) : LoopsOK Try.prog (spec_l2Empty_LS0 F) (bodyOf Try.f105) := loopsOK_nil
theorem spec_l2Empty_keys : keysOK (bodyOf Try.f105) = true := by kernel_rfl
def spec_l2Empty_st6 (r5 : Int) (b7 : List Int) (c6 : Int) (out8 : List (List Int)) : St := ⟨expand 29 0 [1, 3, 4, 5] [(.ptr 0 0 0 16), (.sl 1 0 (List.length out8)), (.int .i64 r5), (.int .i64 c6)], [(.var 16 (.ri .i64 b7)), (.vec 48 (.rr 2 out8))], 0, []⟩
def spec_l2Empty_o6 (r5 : Int) (b7 : List Int) (x : List (List Int)) : GT := (.out (.exit 2 ⟨expand 29 0 [1, 3, 4] [(.ptr 0 0 0 16), (.sl 1 0 (List.length x)), (.int .i64 r5)], [(.var 16 (.ri .i64 b7)), (.vec 48 (.rr 2 x))], 0, []⟩))
def spec_l2Empty_ls6 (F : Nat) : LoopS := ⟨29, [1, 3, 4, 5], [], [1, 3, 4], [], [2], [], [], fun vals mem np killed => match vals, mem, np, killed with
  | [(.ptr 0 0 0 16), (.sl 1 0 q_out4), (.int .i64 r5), (.int .i64 c6)], [(.var 16 (.ri .i64 b7)), (.vec 48 (.rr 2 out8))], 0, [] => .br ((Nat.beq q_out4 (List.length out8)) && (spec_l2Empty_l6 F r5 b7 c6 out8).isSome) (spec_l2Empty_o6 r5 b7 ((spec_l2Empty_l6 F r5 b7 c6 out8).getD default)) .fail
  | _, _, _, _ => .fail⟩
theorem spec_l2Empty_step6 (F : Nat) (r5 : Int) (b7 : List Int) (c6 : Int) (out8 : List (List Int)) {R : Type} (k : Out → Option R) : stepS tt (spec_l2Empty_tab F) (spec_l2Empty_LS0 F) 70 (spec_l2Empty_ls6 F) (loopAt 6 (bodyOf Try.f105)) (spec_l2Empty_st6 r5 b7 c6 out8) k = spec_l2Empty_s6 F r5 b7 R (c6, out8) (fun s => k (.norm (spec_l2Empty_st6 r5 b7 s.1 s.2))) (fun x => (spec_l2Empty_o6 r5 b7 x).run k) := by kernel_rfl
theorem spec_l2Empty_iter6 (F : Nat) (r5 : Int) (b7 : List Int) {R : Type} (k : Out → Option R) : ∀ (n : Nat) (c6 : Int) (out8 : List (List Int)), iterS tt (spec_l2Empty_tab F) (spec_l2Empty_LS0 F) 70 (spec_l2Empty_ls6 F) (loopAt 6 (bodyOf Try.f105)) n (spec_l2Empty_st6 r5 b7 c6 out8) k = loopC (spec_l2Empty_s6 F r5 b7) n (c6, out8) (fun x => (spec_l2Empty_o6 r5 b7 x).run k)
  | 0, c6, out8 => rfl
  | n + 1, c6, out8 => (iterS_succ tt (spec_l2Empty_tab F) (spec_l2Empty_LS0 F) 70 (spec_l2Empty_ls6 F) (loopAt 6 (bodyOf Try.f105)) n (spec_l2Empty_st6 r5 b7 c6 out8) k).trans ((spec_l2Empty_step6 F r5 b7 c6 out8 (nextK (iterS tt (spec_l2Empty_tab F) (spec_l2Empty_LS0 F) 70 (spec_l2Empty_ls6 F) (loopAt 6 (bodyOf Try.f105)) n) k)).trans (congrArg (fun kn => spec_l2Empty_s6 F r5 b7 R (c6, out8) kn _) (funext (fun ⟨c6, out8⟩ => spec_l2Empty_iter6 F r5 b7 k n c6 out8))))
theorem spec_l2Empty_lok6 (F : Nat) : LoopOK Try.prog (loopAt 6 (bodyOf Try.f105)) (spec_l2Empty_ls6 F) := by
  refine loopOK_of mixed ttok deep (spec_l2Empty_tabok F) (loopsOK_at (spec_l2Empty_lsok0 F) 6) (fuel := 70) fun R vals mem np killed k x h => ?_
  simp only [spec_l2Empty_ls6] at h
  split at h
  · rename_i q_out4 r5 c6 b7 out8
    simp only [GT.run] at h
    have hc := (cond_noneL h).1
    replace h := (cond_noneL h).2
    have hg := (and_split hc).1
    replace hc := (and_split hc).2
    obtain rfl := nbeq_nat hg
    refine ⟨F, (spec_l2Empty_iter6 F r5 b7 k F c6 out8).trans ((loopC_use (spec_l2Empty_s6_nat F r5 b7) hc _).trans h)⟩
  · simp only [GT.run] at h
    cases h
noncomputable def spec_l2Empty_LS1 (F : Nat) : LT := (6, spec_l2Empty_ls6 F) :: spec_l2Empty_LS0 F
theorem spec_l2Empty_lsok1 (F : Nat) : LoopsOK Try.prog (spec_l2Empty_LS1 F) (bodyOf Try.f105) := loopsOK_cons spec_l2Empty_keys (spec_l2Empty_lok6 F) (spec_l2Empty_lsok0 F)
def spec_l2Empty_st3 (b6 : List Int) (r5 : Int) (out7 : List (List Int)) : St := ⟨expand 29 0 [1, 3, 4] [(.ptr 0 0 0 16), (.sl 1 0 (List.length out7)), (.int .i64 r5)], [(.var 16 (.ri .i64 b6)), (.vec 48 (.rr 2 out7))], 0, []⟩
def spec_l2Empty_o3 (b6 : List Int) (x : List (List Int)) : GT := (.out (.exit 0 ⟨expand 29 0 [3] [(.sl 0 0 (List.length x))], [(.vec 48 (.rr 2 x))], 0, []⟩))
def spec_l2Empty_ls3 (F : Nat) : LoopS := ⟨29, [1, 3, 4], [], [3], [], [2], [], [], fun vals mem np killed => match vals, mem, np, killed with
  | [(.ptr 0 0 0 16), (.sl 1 0 q_out4), (.int .i64 r5)], [(.var 16 (.ri .i64 b6)), (.vec 48 (.rr 2 out7))], 0, [] => .br ((Nat.beq q_out4 (List.length out7)) && (spec_l2Empty_l3 F b6 r5 out7).isSome) (spec_l2Empty_o3 b6 ((spec_l2Empty_l3 F b6 r5 out7).getD default)) .fail
  | _, _, _, _ => .fail⟩
theorem spec_l2Empty_step3 (F : Nat) (b6 : List Int) (r5 : Int) (out7 : List (List Int)) {R : Type} (k : Out → Option R) : stepS tt (spec_l2Empty_tab F) (spec_l2Empty_LS1 F) 70 (spec_l2Empty_ls3 F) (loopAt 3 (bodyOf Try.f105)) (spec_l2Empty_st3 b6 r5 out7) k = spec_l2Empty_s3 F b6 R (r5, out7) (fun s => k (.norm (spec_l2Empty_st3 b6 s.1 s.2))) (fun x => (spec_l2Empty_o3 b6 x).run k) := by kernel_rfl
theorem spec_l2Empty_iter3 (F : Nat) (b6 : List Int) {R : Type} (k : Out → Option R) : ∀ (n : Nat) (r5 : Int) (out7 : List (List Int)), iterS tt (spec_l2Empty_tab F) (spec_l2Empty_LS1 F) 70 (spec_l2Empty_ls3 F) (loopAt 3 (bodyOf Try.f105)) n (spec_l2Empty_st3 b6 r5 out7) k = loopC (spec_l2Empty_s3 F b6) n (r5, out7) (fun x => (spec_l2Empty_o3 b6 x).run k)
  | 0, r5, out7 => rfl
  | n + 1, r5, out7 => (iterS_succ tt (spec_l2Empty_tab F) (spec_l2Empty_LS1 F) 70 (spec_l2Empty_ls3 F) (loopAt 3 (bodyOf Try.f105)) n (spec_l2Empty_st3 b6 r5 out7) k).trans ((spec_l2Empty_step3 F b6 r5 out7 (nextK (iterS tt (spec_l2Empty_tab F) (spec_l2Empty_LS1 F) 70 (spec_l2Empty_ls3 F) (loopAt 3 (bodyOf Try.f105)) n) k)).trans (congrArg (fun kn => spec_l2Empty_s3 F b6 R (r5, out7) kn _) (funext (fun ⟨r5, out7⟩ => spec_l2Empty_iter3 F b6 k n r5 out7))))
theorem spec_l2Empty_lok3 (F : Nat) : LoopOK Try.prog (loopAt 3 (bodyOf Try.f105)) (spec_l2Empty_ls3 F) := by
  refine loopOK_of mixed ttok deep (spec_l2Empty_tabok F) (loopsOK_at (spec_l2Empty_lsok1 F) 3) (fuel := 70) fun R vals mem np killed k x h => ?_
  simp only [spec_l2Empty_ls3] at h
  split at h
  · rename_i q_out4 r5 b6 out7
    simp only [GT.run] at h
    have hc := (cond_noneL h).1
    replace h := (cond_noneL h).2
    have hg := (and_split hc).1
    replace hc := (and_split hc).2
    obtain rfl := nbeq_nat hg
    refine ⟨F, (spec_l2Empty_iter3 F b6 k F r5 out7).trans ((loopC_use (spec_l2Empty_s3_nat F b6) hc _).trans h)⟩
  · simp only [GT.run] at h
    cases h
noncomputable def spec_l2Empty_LS2 (F : Nat) : LT := (3, spec_l2Empty_ls3 F) :: spec_l2Empty_LS1 F
theorem spec_l2Empty_lsok2 (F : Nat) : LoopsOK Try.prog (spec_l2Empty_LS2 F) (bodyOf Try.f105) := loopsOK_cons spec_l2Empty_keys (spec_l2Empty_lok3 F) (spec_l2Empty_lsok1 F)
theorem spec_l2Empty_run (F : Nat) (b0 : List Int) : runS tt (spec_l2Empty_tab F) (spec_l2Empty_LS2 F) [] [] Try.f105 (bodyOf Try.f105) 70 [(.ints 16 b0)] [] = spec_l2Empty_c _ F b0 (fun r => some ⟨(.sl 0 0 (List.length r)), [(.vec 48 (.rr 2 r))], []⟩) := by kernel_rfl
def spec_l2Empty_ent (F : Nat) : Ent := ⟨[], .fresh, fun args mem => match args, mem with
  | [(.ints 16 b0)], [] => some ((spec_l2Empty_p F b0).isSome, ⟨(.sl 0 0 (List.length ((spec_l2Empty_p F b0).getD default))), [(.vec 48 (.rr 2 ((spec_l2Empty_p F b0).getD default)))], []⟩)
  | _, _ => none⟩
theorem spec_l2Empty_fok : FunOK Try.prog 105 := funOK Try.func105 (by kernel_rfl) rfl
theorem spec_l2Empty_meets (F : Nat) : Meets Try.prog 105 (spec_l2Empty_ent F) := by
  refine meets_of_runS mixed ttok deep (spec_l2Empty_tabok F) Try.func105 (body_some rfl) (spec_l2Empty_lsok2 F) fun args mem hfit ret h => ?_
  clear hfit
  simp only [spec_l2Empty_ent] at h
  split at h
  · rename_i b0
    simp only [Option.some.injEq, Prod.mk.injEq] at h
    obtain ⟨hc, rfl⟩ := h
    exact ⟨[], [], 70, _, (spec_l2Empty_run F b0).trans ((spec_l2Empty_cp _ F b0 _).trans (bind_use hc _)), rfl, rfl, rfl⟩
  · cases h

/-! loop.example/g01194/spec.l8Places -/
noncomputable def spec_l8Places_tab (F : Nat) : Tab := [(105, (spec_l2Empty_ent F))]
theorem spec_l8Places_tabok (F : Nat) : TabOK Try.prog (spec_l8Places_tab F) := (tab_cons (spec_l2Empty_meets F) spec_l2Empty_fok tab_nil)
noncomputable def spec_l8Places_LS0 (F : Nat) : LT := []
theorem spec_l8Places_lsok0 (F : Nat) : LoopsOK Try.prog (spec_l8Places_LS0 F) (bodyOf Try.f78) := loopsOK_nil
theorem spec_l8Places_keys : keysOK (bodyOf Try.f78) = true := by kernel_rfl
def spec_l8Places_st3 (empty6 : List (List Int)) (i4 : Int) (out5 : List (List Int)) : St := ⟨expand 41 0 [3, 4, 5] [(.sl 0 0 (List.length out5)), (.sl 1 0 (List.length empty6)), (.int .i64 i4)], [(.vec 39 (.rr 3 out5)), (.vec 48 (.rr 2 empty6))], 0, []⟩
def spec_l8Places_o3 (empty6 : List (List Int)) (x : List (List Int)) : GT := (.out (.exit 0 ⟨expand 41 0 [3] [(.sl 0 0 (List.length x))], [(.vec 39 (.rr 3 x))], 0, []⟩))
def spec_l8Places_ls3 (F : Nat) : LoopS := ⟨41, [3, 4, 5], [], [3], [], [2], [], [], fun vals mem np killed => match vals, mem, np, killed with
  | [(.sl 0 0 q_out1), (.sl 1 0 q_empty3), (.int .i64 i4)], [(.vec 39 (.rr 3 out5)), (.vec 48 (.rr 2 empty6))], 0, [] => .br ((Nat.beq q_out1 (List.length out5)) && ((Nat.beq q_empty3 (List.length empty6)) && (spec_l8Places_l3 F empty6 i4 out5).isSome)) (spec_l8Places_o3 empty6 ((spec_l8Places_l3 F empty6 i4 out5).getD default)) .fail
  | _, _, _, _ => .fail⟩
theorem spec_l8Places_step3 (F : Nat) (empty6 : List (List Int)) (i4 : Int) (out5 : List (List Int)) {R : Type} (k : Out → Option R) : stepS tt (spec_l8Places_tab F) (spec_l8Places_LS0 F) 70 (spec_l8Places_ls3 F) (loopAt 3 (bodyOf Try.f78)) (spec_l8Places_st3 empty6 i4 out5) k = spec_l8Places_s3 F empty6 R (i4, out5) (fun s => k (.norm (spec_l8Places_st3 empty6 s.1 s.2))) (fun x => (spec_l8Places_o3 empty6 x).run k) := by kernel_rfl
theorem spec_l8Places_iter3 (F : Nat) (empty6 : List (List Int)) {R : Type} (k : Out → Option R) : ∀ (n : Nat) (i4 : Int) (out5 : List (List Int)), iterS tt (spec_l8Places_tab F) (spec_l8Places_LS0 F) 70 (spec_l8Places_ls3 F) (loopAt 3 (bodyOf Try.f78)) n (spec_l8Places_st3 empty6 i4 out5) k = loopC (spec_l8Places_s3 F empty6) n (i4, out5) (fun x => (spec_l8Places_o3 empty6 x).run k)
  | 0, i4, out5 => rfl
  | n + 1, i4, out5 => (iterS_succ tt (spec_l8Places_tab F) (spec_l8Places_LS0 F) 70 (spec_l8Places_ls3 F) (loopAt 3 (bodyOf Try.f78)) n (spec_l8Places_st3 empty6 i4 out5) k).trans ((spec_l8Places_step3 F empty6 i4 out5 (nextK (iterS tt (spec_l8Places_tab F) (spec_l8Places_LS0 F) 70 (spec_l8Places_ls3 F) (loopAt 3 (bodyOf Try.f78)) n) k)).trans (congrArg (fun kn => spec_l8Places_s3 F empty6 R (i4, out5) kn _) (funext (fun ⟨i4, out5⟩ => spec_l8Places_iter3 F empty6 k n i4 out5))))
theorem spec_l8Places_lok3 (F : Nat) : LoopOK Try.prog (loopAt 3 (bodyOf Try.f78)) (spec_l8Places_ls3 F) := by
  refine loopOK_of mixed ttok deep (spec_l8Places_tabok F) (loopsOK_at (spec_l8Places_lsok0 F) 3) (fuel := 70) fun R vals mem np killed k x h => ?_
  simp only [spec_l8Places_ls3] at h
  split at h
  · rename_i q_out1 q_empty3 i4 out5 empty6
    simp only [GT.run] at h
    have hc := (cond_noneL h).1
    replace h := (cond_noneL h).2
    have hg := (and_split hc).1
    replace hc := (and_split hc).2
    obtain rfl := nbeq_nat hg
    have hg := (and_split hc).1
    replace hc := (and_split hc).2
    obtain rfl := nbeq_nat hg
    refine ⟨F, (spec_l8Places_iter3 F empty6 k F i4 out5).trans ((loopC_use (spec_l8Places_s3_nat F empty6) hc _).trans h)⟩
  · simp only [GT.run] at h
    cases h
noncomputable def spec_l8Places_LS1 (F : Nat) : LT := (3, spec_l8Places_ls3 F) :: spec_l8Places_LS0 F
theorem spec_l8Places_lsok1 (F : Nat) : LoopsOK Try.prog (spec_l8Places_LS1 F) (bodyOf Try.f78) := loopsOK_cons spec_l8Places_keys (spec_l8Places_lok3 F) (spec_l8Places_lsok0 F)
theorem spec_l8Places_run (F : Nat) (b0 : List Int) : runS tt (spec_l8Places_tab F) (spec_l8Places_LS1 F) [] [] Try.f78 (bodyOf Try.f78) 70 [(.ints 16 b0)] [] = spec_l8Places_c _ F b0 (fun r => some ⟨(.sl 0 0 (List.length r)), [(.vec 39 (.rr 3 r))], []⟩) := by kernel_rfl
def spec_l8Places_ent (F : Nat) : Ent := ⟨[], .fresh, fun args mem => match args, mem with
  | [(.ints 16 b0)], [] => some ((spec_l8Places_p F b0).isSome, ⟨(.sl 0 0 (List.length ((spec_l8Places_p F b0).getD default))), [(.vec 39 (.rr 3 ((spec_l8Places_p F b0).getD default)))], []⟩)
  | _, _ => none⟩
theorem spec_l8Places_fok : FunOK Try.prog 78 := funOK Try.func78 (by kernel_rfl) rfl
theorem spec_l8Places_meets (F : Nat) : Meets Try.prog 78 (spec_l8Places_ent F) := by
  refine meets_of_runS mixed ttok deep (spec_l8Places_tabok F) Try.func78 (body_some rfl) (spec_l8Places_lsok1 F) fun args mem hfit ret h => ?_
  clear hfit
  simp only [spec_l8Places_ent] at h
  split at h
  · rename_i b0
    simp only [Option.some.injEq, Prod.mk.injEq] at h
    obtain ⟨hc, rfl⟩ := h
    exact ⟨[], [], 70, _, (spec_l8Places_run F b0).trans ((spec_l8Places_cp _ F b0 _).trans (bind_use hc _)), rfl, rfl, rfl⟩
  · cases h

/-! loop.example/g01194/spec.PlacementsOf -/
noncomputable def spec_PlacementsOf_tab (F : Nat) : Tab := [(64, (spec_l2Board_ent F)), (78, (spec_l8Places_ent F))]
theorem spec_PlacementsOf_tabok (F : Nat) : TabOK Try.prog (spec_PlacementsOf_tab F) := (tab_cons (spec_l2Board_meets F) spec_l2Board_fok (tab_cons (spec_l8Places_meets F) spec_l8Places_fok tab_nil))
noncomputable def spec_PlacementsOf_LS0 (F : Nat) : LT := []
theorem spec_PlacementsOf_lsok0 (F : Nat) : LoopsOK Try.prog (spec_PlacementsOf_LS0 F) (bodyOf Try.f38) := loopsOK_nil
theorem spec_PlacementsOf_run (F : Nat) (b0 : List Int) : runS tt (spec_PlacementsOf_tab F) (spec_PlacementsOf_LS0 F) [] [] Try.f38 (bodyOf Try.f38) 70 [(.ints 16 b0)] [] = spec_PlacementsOf_c _ F b0 (fun r => some ⟨(.tup [(.sl 0 0 (List.length r.2)), (.bool r.1)]), [(.vec 39 (.rr 3 r.2))], []⟩) := by kernel_rfl
def spec_PlacementsOf_ent (F : Nat) : Ent := ⟨[], .fresh, fun args mem => match args, mem with
  | [(.ints 16 b0)], [] => some ((spec_PlacementsOf_p F b0).isSome, ⟨(.tup [(.sl 0 0 (List.length ((spec_PlacementsOf_p F b0).getD default).2)), (.bool ((spec_PlacementsOf_p F b0).getD default).1)]), [(.vec 39 (.rr 3 ((spec_PlacementsOf_p F b0).getD default).2))], []⟩)
  | _, _ => none⟩
theorem spec_PlacementsOf_fok : FunOK Try.prog 38 := funOK Try.func38 (by kernel_rfl) rfl
theorem spec_PlacementsOf_meets (F : Nat) : Meets Try.prog 38 (spec_PlacementsOf_ent F) := by
  refine meets_of_runS mixed ttok deep (spec_PlacementsOf_tabok F) Try.func38 (body_some rfl) (spec_PlacementsOf_lsok0 F) fun args mem hfit ret h => ?_
  clear hfit
  simp only [spec_PlacementsOf_ent] at h
  split at h
  · rename_i b0
    simp only [Option.some.injEq, Prod.mk.injEq] at h
    obtain ⟨hc, rfl⟩ := h
    exact ⟨[], [], 70, _, (spec_PlacementsOf_run F b0).trans ((spec_PlacementsOf_cp _ F b0 _).trans (bind_use hc _)), rfl, rfl, rfl⟩
  · cases h

/-! (loop.example/g01194/impl.Board).empty$1 -/
noncomputable def impl_Board_empty_f1_tab (F : Nat) : Tab := [(83, (impl_Board_at_ent F))]
theorem impl_Board_empty_f1_tabok (F : Nat) : TabOK Try.prog (impl_Board_empty_f1_tab F) := (tab_cons (impl_Board_at_meets F) impl_Board_at_fok tab_nil)
noncomputable def impl_Board_empty_f1_LS0 (F : Nat) : LT := []
theorem impl_Board_empty_f1_lsok0 (F : Nat) : LoopsOK Try.prog (impl_Board_empty_f1_LS0 F) (bodyOf Try.f107) := loopsOK_nil
theorem impl_Board_empty_f1_run (F : Nat) (cell0 : List Int) (a14 : List Int) : runS tt (impl_Board_empty_f1_tab F) (impl_Board_empty_f1_LS0 F) [] [] Try.f107 (bodyOf Try.f107) 70 [(.ints 2 cell0), (.ptr 0 0 0 16)] [(.var 16 (.ri .i64 a14))] = impl_Board_empty_f1_c _ cell0 a14 (fun r => some ⟨(.bool r), [(.var 16 (.ri .i64 a14))], []⟩) := by kernel_rfl
def impl_Board_empty_f1_ent (F : Nat) : Ent := ⟨[], .quiet, fun args mem => match args, mem with
  | [(.ints 2 cell0), (.ptr 0 0 0 16)], [(.var 16 (.ri .i64 a14))] => some ((impl_Board_empty_f1_p cell0 a14).isSome, ⟨(.bool ((impl_Board_empty_f1_p cell0 a14).getD default)), [], []⟩)
  | _, _ => none⟩
theorem impl_Board_empty_f1_fok : FunOK Try.prog 107 := funOK Try.func107 (by kernel_rfl) rfl
theorem impl_Board_empty_f1_meets (F : Nat) : Meets Try.prog 107 (impl_Board_empty_f1_ent F) := by
  refine meets_of_runS mixed ttok deep (impl_Board_empty_f1_tabok F) Try.func107 (body_some rfl) (impl_Board_empty_f1_lsok0 F) fun args mem hfit ret h => ?_
  clear hfit
  simp only [impl_Board_empty_f1_ent] at h
  split at h
  · rename_i cell0 a14
    simp only [Option.some.injEq, Prod.mk.injEq] at h
    obtain ⟨hc, rfl⟩ := h
    exact ⟨[], [], 70, _, (impl_Board_empty_f1_run F cell0 a14).trans ((impl_Board_empty_f1_cp _ cell0 a14 _).trans (bind_use hc _)), rfl, rfl, rfl⟩
  · cases h

/-! slices.IndexFunc[[][2]int,[2]int] -/
noncomputable def slices_IndexFunc_2int2int_impl_Board_empty_f1_tab (F : Nat) : Tab := [(107, (impl_Board_empty_f1_ent F))]
theorem slices_IndexFunc_2int2int_impl_Board_empty_f1_tabok (F : Nat) : TabOK Try.prog (slices_IndexFunc_2int2int_impl_Board_empty_f1_tab F) := (tab_cons (impl_Board_empty_f1_meets F) impl_Board_empty_f1_fok tab_nil)
noncomputable def slices_IndexFunc_2int2int_impl_Board_empty_f1_LS0 (F : Nat) : LT := []
theorem slices_IndexFunc_2int2int_impl_Board_empty_f1_lsok0 (F : Nat) : LoopsOK Try.prog (slices_IndexFunc_2int2int_impl_Board_empty_f1_LS0 F) (bodyOf Try.f116) := loopsOK_nil
theorem slices_IndexFunc_2int2int_impl_Board_empty_f1_keys : keysOK (bodyOf Try.f116) = true := by kernel_rfl
def slices_IndexFunc_2int2int_impl_Board_empty_f1_st2 (s0 : List (List Int)) (t74 : Int) (f6 : List Int) (t85 : Int) : St := ⟨expand 19 0 [0, 1, 7, 8] [(.rr 2 s0), (.fn 107 [] [(.ptr 0 0 0 16)]), (.int .i64 t74), (.int .i64 t85)], [(.var 16 (.ri .i64 f6))], 1, []⟩
def slices_IndexFunc_2int2int_impl_Board_empty_f1_o2 (s0 : List (List Int)) (t74 : Int) (f6 : List Int) (x : Bool × Int) : GT := (.br x.1 (.out (.ret ⟨expand 19 0 [4] [(.int .i64 x.2)], [(.var 16 (.ri .i64 f6))], 1, []⟩)) (.out (.exit 0 ⟨expand 19 0 [] [], [(.var 16 (.ri .i64 f6))], 1, []⟩)))
def slices_IndexFunc_2int2int_impl_Board_empty_f1_ls2 (F : Nat) : LoopS := ⟨19, [0, 1, 7, 8], [], [], [], [4], [], [], fun vals mem np killed => match vals, mem, np, killed with
  | [(.rr 2 s0), (.fn 107 [] [(.ptr 0 0 0 16)]), (.int .i64 t74), (.int .i64 t85)], [(.var 16 (.ri .i64 f6))], 1, [] => .br (slices_IndexFunc_2int2int_impl_Board_empty_f1_l2 F s0 t74 f6 t85).isSome (slices_IndexFunc_2int2int_impl_Board_empty_f1_o2 s0 t74 f6 ((slices_IndexFunc_2int2int_impl_Board_empty_f1_l2 F s0 t74 f6 t85).getD default)) .fail
  | _, _, _, _ => .fail⟩
theorem slices_IndexFunc_2int2int_impl_Board_empty_f1_step2 (F : Nat) (s0 : List (List Int)) (t74 : Int) (f6 : List Int) (t85 : Int) {R : Type} (k : Out → Option R) : stepS tt (slices_IndexFunc_2int2int_impl_Board_empty_f1_tab F) (slices_IndexFunc_2int2int_impl_Board_empty_f1_LS0 F) 70 (slices_IndexFunc_2int2int_impl_Board_empty_f1_ls2 F) (loopAt 2 (bodyOf Try.f116)) (slices_IndexFunc_2int2int_impl_Board_empty_f1_st2 s0 t74 f6 t85) k = slices_IndexFunc_2int2int_impl_Board_empty_f1_s2 F s0 t74 f6 R t85 (fun s => k (.norm (slices_IndexFunc_2int2int_impl_Board_empty_f1_st2 s0 t74 f6 s))) (fun x => (slices_IndexFunc_2int2int_impl_Board_empty_f1_o2 s0 t74 f6 x).run k) := by kernel_rfl
theorem slices_IndexFunc_2int2int_impl_Board_empty_f1_iter2 (F : Nat) (s0 : List (List Int)) (t74 : Int) (f6 : List Int) {R : Type} (k : Out → Option R) : ∀ (n : Nat) (t85 : Int), iterS tt (slices_IndexFunc_2int2int_impl_Board_empty_f1_tab F) (slices_IndexFunc_2int2int_impl_Board_empty_f1_LS0 F) 70 (slices_IndexFunc_2int2int_impl_Board_empty_f1_ls2 F) (loopAt 2 (bodyOf Try.f116)) n (slices_IndexFunc_2int2int_impl_Board_empty_f1_st2 s0 t74 f6 t85) k = loopC (slices_IndexFunc_2int2int_impl_Board_empty_f1_s2 F s0 t74 f6) n t85 (fun x => (slices_IndexFunc_2int2int_impl_Board_empty_f1_o2 s0 t74 f6 x).run k)
  | 0, t85 => rfl
  | n + 1, t85 => (iterS_succ tt (slices_IndexFunc_2int2int_impl_Board_empty_f1_tab F) (slices_IndexFunc_2int2int_impl_Board_empty_f1_LS0 F) 70 (slices_IndexFunc_2int2int_impl_Board_empty_f1_ls2 F) (loopAt 2 (bodyOf Try.f116)) n (slices_IndexFunc_2int2int_impl_Board_empty_f1_st2 s0 t74 f6 t85) k).trans ((slices_IndexFunc_2int2int_impl_Board_empty_f1_step2 F s0 t74 f6 t85 (nextK (iterS tt (slices_IndexFunc_2int2int_impl_Board_empty_f1_tab F) (slices_IndexFunc_2int2int_impl_Board_empty_f1_LS0 F) 70 (slices_IndexFunc_2int2int_impl_Board_empty_f1_ls2 F) (loopAt 2 (bodyOf Try.f116)) n) k)).trans (congrArg (fun kn => slices_IndexFunc_2int2int_impl_Board_empty_f1_s2 F s0 t74 f6 R t85 kn _) (funext (fun t85 => slices_IndexFunc_2int2int_impl_Board_empty_f1_iter2 F s0 t74 f6 k n t85))))
theorem slices_IndexFunc_2int2int_impl_Board_empty_f1_lok2 (F : Nat) : LoopOK Try.prog (loopAt 2 (bodyOf Try.f116)) (slices_IndexFunc_2int2int_impl_Board_empty_f1_ls2 F) := by
  refine loopOK_of mixed ttok deep (slices_IndexFunc_2int2int_impl_Board_empty_f1_tabok F) (loopsOK_at (slices_IndexFunc_2int2int_impl_Board_empty_f1_lsok0 F) 2) (fuel := 70) fun R vals mem np killed k x h => ?_
  simp only [slices_IndexFunc_2int2int_impl_Board_empty_f1_ls2] at h
  split at h
  · rename_i s0 t74 t85 f6
    simp only [GT.run] at h
    have hc := (cond_noneL h).1
    replace h := (cond_noneL h).2
    refine ⟨F, (slices_IndexFunc_2int2int_impl_Board_empty_f1_iter2 F s0 t74 f6 k F t85).trans ((loopC_use (slices_IndexFunc_2int2int_impl_Board_empty_f1_s2_nat F s0 t74 f6) hc _).trans h)⟩
  · simp only [GT.run] at h
    cases h
noncomputable def slices_IndexFunc_2int2int_impl_Board_empty_f1_LS1 (F : Nat) : LT := (2, slices_IndexFunc_2int2int_impl_Board_empty_f1_ls2 F) :: slices_IndexFunc_2int2int_impl_Board_empty_f1_LS0 F
theorem slices_IndexFunc_2int2int_impl_Board_empty_f1_lsok1 (F : Nat) : LoopsOK Try.prog (slices_IndexFunc_2int2int_impl_Board_empty_f1_LS1 F) (bodyOf Try.f116) := loopsOK_cons slices_IndexFunc_2int2int_impl_Board_empty_f1_keys (slices_IndexFunc_2int2int_impl_Board_empty_f1_lok2 F) (slices_IndexFunc_2int2int_impl_Board_empty_f1_lsok0 F)
theorem slices_IndexFunc_2int2int_impl_Board_empty_f1_run (F : Nat) (s0 : List (List Int)) (f4 : List Int) : runS tt (slices_IndexFunc_2int2int_impl_Board_empty_f1_tab F) (slices_IndexFunc_2int2int_impl_Board_empty_f1_LS1 F) [] [] Try.f116 (bodyOf Try.f116) 70 [(.rr 2 s0), (.fn 107 [] [(.ptr 0 0 0 16)])] [(.var 16 (.ri .i64 f4))] = slices_IndexFunc_2int2int_impl_Board_empty_f1_c _ F s0 f4 (fun r => some ⟨(.int .i64 r), [(.var 16 (.ri .i64 f4))], []⟩) := by kernel_rfl
def slices_IndexFunc_2int2int_impl_Board_empty_f1_ent (F : Nat) : Ent := ⟨[], .quiet, fun args mem => match args, mem with
  | [(.rr 2 s0), (.fn 107 [] [(.ptr 0 0 0 16)])], [(.var 16 (.ri .i64 f4))] => some ((slices_IndexFunc_2int2int_impl_Board_empty_f1_p F s0 f4).isSome, ⟨(.int .i64 ((slices_IndexFunc_2int2int_impl_Board_empty_f1_p F s0 f4).getD default)), [], []⟩)
  | _, _ => none⟩
theorem slices_IndexFunc_2int2int_impl_Board_empty_f1_fok : FunOK Try.prog 116 := funOK Try.func116 (by kernel_rfl) rfl
theorem slices_IndexFunc_2int2int_impl_Board_empty_f1_meets (F : Nat) : Meets Try.prog 116 (slices_IndexFunc_2int2int_impl_Board_empty_f1_ent F) := by
  refine meets_of_runS mixed ttok deep (slices_IndexFunc_2int2int_impl_Board_empty_f1_tabok F) Try.func116 (body_some rfl) (slices_IndexFunc_2int2int_impl_Board_empty_f1_lsok1 F) fun args mem hfit ret h => ?_
  clear hfit
  simp only [slices_IndexFunc_2int2int_impl_Board_empty_f1_ent] at h
  split at h
  · rename_i s0 f4
    simp only [Option.some.injEq, Prod.mk.injEq] at h
    obtain ⟨hc, rfl⟩ := h
    exact ⟨[], [], 70, _, (slices_IndexFunc_2int2int_impl_Board_empty_f1_run F s0 f4).trans ((slices_IndexFunc_2int2int_impl_Board_empty_f1_cp _ F s0 f4 _).trans (bind_use hc _)), rfl, rfl, rfl⟩
  · cases h

/-! slices.DeleteFunc[[][2]int,[2]int] -/
noncomputable def slices_DeleteFunc_2int2int_impl_Board_empty_f1_tab (F : Nat) : Tab := [(116, (slices_IndexFunc_2int2int_impl_Board_empty_f1_ent F)), (107, (impl_Board_empty_f1_ent F))]
theorem slices_DeleteFunc_2int2int_impl_Board_empty_f1_tabok (F : Nat) : TabOK Try.prog (slices_DeleteFunc_2int2int_impl_Board_empty_f1_tab F) := (tab_cons (slices_IndexFunc_2int2int_impl_Board_empty_f1_meets F) slices_IndexFunc_2int2int_impl_Board_empty_f1_fok (tab_cons (impl_Board_empty_f1_meets F) impl_Board_empty_f1_fok tab_nil))
noncomputable def slices_DeleteFunc_2int2int_impl_Board_empty_f1_LS0 (F : Nat) : LT := []
theorem slices_DeleteFunc_2int2int_impl_Board_empty_f1_lsok0 (F : Nat) : LoopsOK Try.prog (slices_DeleteFunc_2int2int_impl_Board_empty_f1_LS0 F) (bodyOf Try.f106) := loopsOK_nil
theorem slices_DeleteFunc_2int2int_impl_Board_empty_f1_keys : keysOK (bodyOf Try.f106) = true := by kernel_rfl
def slices_DeleteFunc_2int2int_impl_Board_empty_f1_st5 (s1 : Nat) (del8 : List Int) (i5 : Int) (j6 : Int) (s7 : List (List Int)) : St := ⟨expand 42 0 [0, 1, 5, 6] [(.sl 0 0 s1), (.fn 107 [] [(.ptr 1 0 0 16)]), (.int .i64 i5), (.int .i64 j6)], [(.vec 48 (.rr 2 s7)), (.var 16 (.ri .i64 del8))], 2, []⟩
def slices_DeleteFunc_2int2int_impl_Board_empty_f1_o5 (s1 : Nat) (del8 : List Int) (x : Int × List (List Int)) : GT := (.out (.exit 0 ⟨expand 42 0 [0, 5] [(.sl 0 0 s1), (.int .i64 x.1)], [(.vec 48 (.rr 2 x.2)), (.var 16 (.ri .i64 del8))], 2, []⟩))
def slices_DeleteFunc_2int2int_impl_Board_empty_f1_ls5 (F : Nat) : LoopS := ⟨42, [0, 1, 5, 6], [], [0, 5], [], [4], [], [], fun vals mem np killed => match vals, mem, np, killed with
  | [(.sl 0 0 s1), (.fn 107 [] [(.ptr 1 0 0 16)]), (.int .i64 i5), (.int .i64 j6)], [(.vec 48 (.rr 2 s7)), (.var 16 (.ri .i64 del8))], 2, [] => .br (slices_DeleteFunc_2int2int_impl_Board_empty_f1_l5 F s1 del8 i5 j6 s7).isSome (slices_DeleteFunc_2int2int_impl_Board_empty_f1_o5 s1 del8 ((slices_DeleteFunc_2int2int_impl_Board_empty_f1_l5 F s1 del8 i5 j6 s7).getD default)) .fail
  | _, _, _, _ => .fail⟩
theorem slices_DeleteFunc_2int2int_impl_Board_empty_f1_step5 (F : Nat) (s1 : Nat) (del8 : List Int) (i5 : Int) (j6 : Int) (s7 : List (List Int)) {R : Type} (k : Out → Option R) : stepS tt (slices_DeleteFunc_2int2int_impl_Board_empty_f1_tab F) (slices_DeleteFunc_2int2int_impl_Board_empty_f1_LS0 F) 70 (slices_DeleteFunc_2int2int_impl_Board_empty_f1_ls5 F) (loopAt 5 (bodyOf Try.f106)) (slices_DeleteFunc_2int2int_impl_Board_empty_f1_st5 s1 del8 i5 j6 s7) k = slices_DeleteFunc_2int2int_impl_Board_empty_f1_s5 F s1 del8 R (i5, j6, s7) (fun s => k (.norm (slices_DeleteFunc_2int2int_impl_Board_empty_f1_st5 s1 del8 s.1 s.2.1 s.2.2))) (fun x => (slices_DeleteFunc_2int2int_impl_Board_empty_f1_o5 s1 del8 x).run k) := by kernel_rfl
theorem slices_DeleteFunc_2int2int_impl_Board_empty_f1_iter5 (F : Nat) (s1 : Nat) (del8 : List Int) {R : Type} (k : Out → Option R) : ∀ (n : Nat) (i5 : Int) (j6 : Int) (s7 : List (List Int)), iterS tt (slices_DeleteFunc_2int2int_impl_Board_empty_f1_tab F) (slices_DeleteFunc_2int2int_impl_Board_empty_f1_LS0 F) 70 (slices_DeleteFunc_2int2int_impl_Board_empty_f1_ls5 F) (loopAt 5 (bodyOf Try.f106)) n (slices_DeleteFunc_2int2int_impl_Board_empty_f1_st5 s1 del8 i5 j6 s7) k = loopC (slices_DeleteFunc_2int2int_impl_Board_empty_f1_s5 F s1 del8) n (i5, j6, s7) (fun x => (slices_DeleteFunc_2int2int_impl_Board_empty_f1_o5 s1 del8 x).run k)
  | 0, i5, j6, s7 => rfl
  | n + 1, i5, j6, s7 => (iterS_succ tt (slices_DeleteFunc_2int2int_impl_Board_empty_f1_tab F) (slices_DeleteFunc_2int2int_impl_Board_empty_f1_LS0 F) 70 (slices_DeleteFunc_2int2int_impl_Board_empty_f1_ls5 F) (loopAt 5 (bodyOf Try.f106)) n (slices_DeleteFunc_2int2int_impl_Board_empty_f1_st5 s1 del8 i5 j6 s7) k).trans ((slices_DeleteFunc_2int2int_impl_Board_empty_f1_step5 F s1 del8 i5 j6 s7 (nextK (iterS tt (slices_DeleteFunc_2int2int_impl_Board_empty_f1_tab F) (slices_DeleteFunc_2int2int_impl_Board_empty_f1_LS0 F) 70 (slices_DeleteFunc_2int2int_impl_Board_empty_f1_ls5 F) (loopAt 5 (bodyOf Try.f106)) n) k)).trans (congrArg (fun kn => slices_DeleteFunc_2int2int_impl_Board_empty_f1_s5 F s1 del8 R (i5, j6, s7) kn _) (funext (fun ⟨i5, j6, s7⟩ => slices_DeleteFunc_2int2int_impl_Board_empty_f1_iter5 F s1 del8 k n i5 j6 s7))))
theorem slices_DeleteFunc_2int2int_impl_Board_empty_f1_lok5 (F : Nat) : LoopOK Try.prog (loopAt 5 (bodyOf Try.f106)) (slices_DeleteFunc_2int2int_impl_Board_empty_f1_ls5 F) := by
  refine loopOK_of mixed ttok deep (slices_DeleteFunc_2int2int_impl_Board_empty_f1_tabok F) (loopsOK_at (slices_DeleteFunc_2int2int_impl_Board_empty_f1_lsok0 F) 5) (fuel := 70) fun R vals mem np killed k x h => ?_
  simp only [slices_DeleteFunc_2int2int_impl_Board_empty_f1_ls5] at h
  split at h
  · rename_i s1 i5 j6 s7 del8
    simp only [GT.run] at h
    have hc := (cond_noneL h).1
    replace h := (cond_noneL h).2
    refine ⟨F, (slices_DeleteFunc_2int2int_impl_Board_empty_f1_iter5 F s1 del8 k F i5 j6 s7).trans ((loopC_use (slices_DeleteFunc_2int2int_impl_Board_empty_f1_s5_nat F s1 del8) hc _).trans h)⟩
  · simp only [GT.run] at h
    cases h
noncomputable def slices_DeleteFunc_2int2int_impl_Board_empty_f1_LS1 (F : Nat) : LT := (5, slices_DeleteFunc_2int2int_impl_Board_empty_f1_ls5 F) :: slices_DeleteFunc_2int2int_impl_Board_empty_f1_LS0 F
theorem slices_DeleteFunc_2int2int_impl_Board_empty_f1_lsok1 (F : Nat) : LoopsOK Try.prog (slices_DeleteFunc_2int2int_impl_Board_empty_f1_LS1 F) (bodyOf Try.f106) := loopsOK_cons slices_DeleteFunc_2int2int_impl_Board_empty_f1_keys (slices_DeleteFunc_2int2int_impl_Board_empty_f1_lok5 F) (slices_DeleteFunc_2int2int_impl_Board_empty_f1_lsok0 F)
theorem slices_DeleteFunc_2int2int_impl_Board_empty_f1_run (F : Nat) (s5 : List (List Int)) (del6 : List Int) : runS tt (slices_DeleteFunc_2int2int_impl_Board_empty_f1_tab F) (slices_DeleteFunc_2int2int_impl_Board_empty_f1_LS1 F) [] [] Try.f106 (bodyOf Try.f106) 70 [(.sl 0 0 (List.length s5)), (.fn 107 [] [(.ptr 1 0 0 16)])] [(.vec 48 (.rr 2 s5)), (.var 16 (.ri .i64 del6))] = slices_DeleteFunc_2int2int_impl_Board_empty_f1_c _ F s5 del6 (fun r => some ⟨(.sl 0 0 r.1), [(.vec 48 (.rr 2 r.2)), (.var 16 (.ri .i64 del6))], []⟩) := by kernel_rfl
def slices_DeleteFunc_2int2int_impl_Board_empty_f1_ent (F : Nat) : Ent := ⟨[true], .loud, fun args mem => match args, mem with
  | [(.sl 0 0 q_s1), (.fn 107 [] [(.ptr 1 0 0 16)])], [(.vec 48 (.rr 2 s5)), (.var 16 (.ri .i64 del6))] => some (((Nat.beq q_s1 (List.length s5)) && (slices_DeleteFunc_2int2int_impl_Board_empty_f1_p F s5 del6).isSome), ⟨(.sl 0 0 ((slices_DeleteFunc_2int2int_impl_Board_empty_f1_p F s5 del6).getD default).1), [(.vec 48 (.rr 2 ((slices_DeleteFunc_2int2int_impl_Board_empty_f1_p F s5 del6).getD default).2)), (.var 16 (.ri .i64 del6))], []⟩)
  | _, _ => none⟩
theorem slices_DeleteFunc_2int2int_impl_Board_empty_f1_fok : FunOK Try.prog 106 := funOK Try.func106 (by kernel_rfl) rfl
theorem slices_DeleteFunc_2int2int_impl_Board_empty_f1_meets (F : Nat) : Meets Try.prog 106 (slices_DeleteFunc_2int2int_impl_Board_empty_f1_ent F) := by
  refine meets_of_runS mixed ttok deep (slices_DeleteFunc_2int2int_impl_Board_empty_f1_tabok F) Try.func106 (body_some rfl) (slices_DeleteFunc_2int2int_impl_Board_empty_f1_lsok1 F) fun args mem hfit ret h => ?_
  clear hfit
  simp only [slices_DeleteFunc_2int2int_impl_Board_empty_f1_ent] at h
  split at h
  · rename_i q_s1 s5 del6
    simp only [Option.some.injEq, Prod.mk.injEq] at h
    obtain ⟨hc, rfl⟩ := h
    have hg := (and_split hc).1
    replace hc := (and_split hc).2
    obtain rfl := nbeq_nat hg
    exact ⟨[], [], 70, _, (slices_DeleteFunc_2int2int_impl_Board_empty_f1_run F s5 del6).trans ((slices_DeleteFunc_2int2int_impl_Board_empty_f1_cp _ F s5 del6 _).trans (bind_use hc _)), rfl, rfl, rfl⟩
  · cases h

/-! (loop.example/g01194/impl.Board).empty -/
noncomputable def impl_Board_empty_tab (F : Nat) : Tab := [(82, (impl_cells_ent F)), (106, (slices_DeleteFunc_2int2int_impl_Board_empty_f1_ent F))]
theorem impl_Board_empty_tabok (F : Nat) : TabOK Try.prog (impl_Board_empty_tab F) := (tab_cons (impl_cells_meets F) impl_cells_fok (tab_cons (slices_DeleteFunc_2int2int_impl_Board_empty_f1_meets F) slices_DeleteFunc_2int2int_impl_Board_empty_f1_fok tab_nil))
noncomputable def impl_Board_empty_LS0 (F : Nat) : LT := []
theorem impl_Board_empty_lsok0 (F : Nat) : LoopsOK Try.prog (impl_Board_empty_LS0 F) (bodyOf Try.f86) := loopsOK_nil
theorem impl_Board_empty_run (F : Nat) (b0 : List Int) : runS tt (impl_Board_empty_tab F) (impl_Board_empty_LS0 F) [] [] Try.f86 (bodyOf Try.f86) 70 [(.ints 16 b0)] [] = impl_Board_empty_c _ F b0 (fun r => some ⟨(.sl 0 0 r.1), [(.vec 48 (.rr 2 r.2))], []⟩) := by kernel_rfl
def impl_Board_empty_ent (F : Nat) : Ent := ⟨[], .fresh, fun args mem => match args, mem with
  | [(.ints 16 b0)], [] => some ((impl_Board_empty_p F b0).isSome, ⟨(.sl 0 0 ((impl_Board_empty_p F b0).getD default).1), [(.vec 48 (.rr 2 ((impl_Board_empty_p F b0).getD default).2))], []⟩)
  | _, _ => none⟩
theorem impl_Board_empty_fok : FunOK Try.prog 86 := funOK Try.func86 (by kernel_rfl) rfl
theorem impl_Board_empty_meets (F : Nat) : Meets Try.prog 86 (impl_Board_empty_ent F) := by
  refine meets_of_runS mixed ttok deep (impl_Board_empty_tabok F) Try.func86 (body_some rfl) (impl_Board_empty_lsok0 F) fun args mem hfit ret h => ?_
  clear hfit
  simp only [impl_Board_empty_ent] at h
  split at h
  · rename_i b0
    simp only [Option.some.injEq, Prod.mk.injEq] at h
    obtain ⟨hc, rfl⟩ := h
    exact ⟨[], [], 70, _, (impl_Board_empty_run F b0).trans ((impl_Board_empty_cp _ F b0 _).trans (bind_use hc _)), rfl, rfl, rfl⟩
  · cases h

/-! (loop.example/g01194/impl.Board).placements -/
noncomputable def impl_Board_placements_tab (F : Nat) : Tab := [(86, (impl_Board_empty_ent F))]
theorem impl_Board_placements_tabok (F : Nat) : TabOK Try.prog (impl_Board_placements_tab F) := (tab_cons (impl_Board_empty_meets F) impl_Board_empty_fok tab_nil)
noncomputable def impl_Board_placements_LS0 (F : Nat) : LT := []
theorem impl_Board_placements_lsok0 (F : Nat) : LoopsOK Try.prog (impl_Board_placements_LS0 F) (bodyOf Try.f79) := loopsOK_nil
theorem impl_Board_placements_keys : keysOK (bodyOf Try.f79) = true := by kernel_rfl
def impl_Board_placements_st3 (t83 : Nat) (t94 : Int) (t87 : List (List Int)) (t105 : Int) (out6 : List (List Int)) : St := ⟨expand 29 0 [3, 8, 9, 10] [(.sl 0 0 (List.length out6)), (.sl 1 0 t83), (.int .i64 t94), (.int .i64 t105)], [(.vec 39 (.rr 3 out6)), (.vec 48 (.rr 2 t87))], 0, []⟩
def impl_Board_placements_o3 (t83 : Nat) (t94 : Int) (t87 : List (List Int)) (x : List (List Int)) : GT := (.out (.exit 0 ⟨expand 29 0 [3] [(.sl 0 0 (List.length x))], [(.vec 39 (.rr 3 x))], 0, []⟩))
def impl_Board_placements_ls3 (F : Nat) : LoopS := ⟨29, [3, 8, 9, 10], [], [3], [], [2], [], [], fun vals mem np killed => match vals, mem, np, killed with
  | [(.sl 0 0 q_out1), (.sl 1 0 t83), (.int .i64 t94), (.int .i64 t105)], [(.vec 39 (.rr 3 out6)), (.vec 48 (.rr 2 t87))], 0, [] => .br ((Nat.beq q_out1 (List.length out6)) && (impl_Board_placements_l3 F t83 t94 t87 t105 out6).isSome) (impl_Board_placements_o3 t83 t94 t87 ((impl_Board_placements_l3 F t83 t94 t87 t105 out6).getD default)) .fail
  | _, _, _, _ => .fail⟩
theorem impl_Board_placements_step3 (F : Nat) (t83 : Nat) (t94 : Int) (t87 : List (List Int)) (t105 : Int) (out6 : List (List Int)) {R : Type} (k : Out → Option R) : stepS tt (impl_Board_placements_tab F) (impl_Board_placements_LS0 F) 70 (impl_Board_placements_ls3 F) (loopAt 3 (bodyOf Try.f79)) (impl_Board_placements_st3 t83 t94 t87 t105 out6) k = impl_Board_placements_s3 F t83 t94 t87 R (t105, out6) (fun s => k (.norm (impl_Board_placements_st3 t83 t94 t87 s.1 s.2))) (fun x => (impl_Board_placements_o3 t83 t94 t87 x).run k) := by kernel_rfl
theorem impl_Board_placements_iter3 (F : Nat) (t83 : Nat) (t94 : Int) (t87 : List (List Int)) {R : Type} (k : Out → Option R) : ∀ (n : Nat) (t105 : Int) (out6 : List (List Int)), iterS tt (impl_Board_placements_tab F) (impl_Board_placements_LS0 F) 70 (impl_Board_placements_ls3 F) (loopAt 3 (bodyOf Try.f79)) n (impl_Board_placements_st3 t83 t94 t87 t105 out6) k = loopC (impl_Board_placements_s3 F t83 t94 t87) n (t105, out6) (fun x => (impl_Board_placements_o3 t83 t94 t87 x).run k)
  | 0, t105, out6 => rfl
  | n + 1, t105, out6 => (iterS_succ tt (impl_Board_placements_tab F) (impl_Board_placements_LS0 F) 70 (impl_Board_placements_ls3 F) (loopAt 3 (bodyOf Try.f79)) n (impl_Board_placements_st3 t83 t94 t87 t105 out6) k).trans ((impl_Board_placements_step3 F t83 t94 t87 t105 out6 (nextK (iterS tt (impl_Board_placements_tab F) (impl_Board_placements_LS0 F) 70 (impl_Board_placements_ls3 F) (loopAt 3 (bodyOf Try.f79)) n) k)).trans (congrArg (fun kn => impl_Board_placements_s3 F t83 t94 t87 R (t105, out6) kn _) (funext (fun ⟨t105, out6⟩ => impl_Board_placements_iter3 F t83 t94 t87 k n t105 out6))))
theorem impl_Board_placements_lok3 (F : Nat) : LoopOK Try.prog (loopAt 3 (bodyOf Try.f79)) (impl_Board_placements_ls3 F) := by
  refine loopOK_of mixed ttok deep (impl_Board_placements_tabok F) (loopsOK_at (impl_Board_placements_lsok0 F) 3) (fuel := 70) fun R vals mem np killed k x h => ?_
  simp only [impl_Board_placements_ls3] at h
  split at h
  · rename_i q_out1 t83 t94 t105 out6 t87
    simp only [GT.run] at h
    have hc := (cond_noneL h).1
    replace h := (cond_noneL h).2
    have hg := (and_split hc).1
    replace hc := (and_split hc).2
    obtain rfl := nbeq_nat hg
    refine ⟨F, (impl_Board_placements_iter3 F t83 t94 t87 k F t105 out6).trans ((loopC_use (impl_Board_placements_s3_nat F t83 t94 t87) hc _).trans h)⟩
  · simp only [GT.run] at h
    cases h
noncomputable def impl_Board_placements_LS1 (F : Nat) : LT := (3, impl_Board_placements_ls3 F) :: impl_Board_placements_LS0 F
theorem impl_Board_placements_lsok1 (F : Nat) : LoopsOK Try.prog (impl_Board_placements_LS1 F) (bodyOf Try.f79) := loopsOK_cons impl_Board_placements_keys (impl_Board_placements_lok3 F) (impl_Board_placements_lsok0 F)
theorem impl_Board_placements_run (F : Nat) (b0 : List Int) : runS tt (impl_Board_placements_tab F) (impl_Board_placements_LS1 F) [] [] Try.f79 (bodyOf Try.f79) 70 [(.ints 16 b0)] [] = impl_Board_placements_c _ F b0 (fun r => some ⟨(.sl 0 0 (List.length r)), [(.vec 39 (.rr 3 r))], []⟩) := by kernel_rfl
def impl_Board_placements_ent (F : Nat) : Ent := ⟨[], .fresh, fun args mem => match args, mem with
  | [(.ints 16 b0)], [] => some ((impl_Board_placements_p F b0).isSome, ⟨(.sl 0 0 (List.length ((impl_Board_placements_p F b0).getD default))), [(.vec 39 (.rr 3 ((impl_Board_placements_p F b0).getD default)))], []⟩)
  | _, _ => none⟩
theorem impl_Board_placements_fok : FunOK Try.prog 79 := funOK Try.func79 (by kernel_rfl) rfl
theorem impl_Board_placements_meets (F : Nat) : Meets Try.prog 79 (impl_Board_placements_ent F) := by
  refine meets_of_runS mixed ttok deep (impl_Board_placements_tabok F) Try.func79 (body_some rfl) (impl_Board_placements_lsok1 F) fun args mem hfit ret h => ?_
  clear hfit
  simp only [impl_Board_placements_ent] at h
  split at h
  · rename_i b0
    simp only [Option.some.injEq, Prod.mk.injEq] at h
    obtain ⟨hc, rfl⟩ := h
    exact ⟨[], [], 70, _, (impl_Board_placements_run F b0).trans ((impl_Board_placements_cp _ F b0 _).trans (bind_use hc _)), rfl, rfl, rfl⟩
  · cases h

/-! loop.example/g01194/impl.PlacementsOf -/
noncomputable def impl_PlacementsOf_tab (F : Nat) : Tab := [(66, (impl_IsBoard_ent F)), (79, (impl_Board_placements_ent F))]
theorem impl_PlacementsOf_tabok (F : Nat) : TabOK Try.prog (impl_PlacementsOf_tab F) := (tab_cons (impl_IsBoard_meets F) impl_IsBoard_fok (tab_cons (impl_Board_placements_meets F) impl_Board_placements_fok tab_nil))
noncomputable def impl_PlacementsOf_LS0 (F : Nat) : LT := []
theorem impl_PlacementsOf_lsok0 (F : Nat) : LoopsOK Try.prog (impl_PlacementsOf_LS0 F) (bodyOf Try.f39) := loopsOK_nil
theorem impl_PlacementsOf_run (F : Nat) (b0 : List Int) : runS tt (impl_PlacementsOf_tab F) (impl_PlacementsOf_LS0 F) [⟨2, 39, (.rr 3 ([] : List (List Int)))⟩] [] Try.f39 (bodyOf Try.f39) 70 [(.ints 16 b0)] [] = impl_PlacementsOf_c _ F b0 (fun r => some ⟨(.tup [(.sl 0 0 (List.length r.2)), (.bool r.1)]), [(.vec 39 (.rr 3 r.2))], []⟩) := by kernel_rfl
def impl_PlacementsOf_ent (F : Nat) : Ent := ⟨[], .fresh, fun args mem => match args, mem with
  | [(.ints 16 b0)], [] => some ((impl_PlacementsOf_p F b0).isSome, ⟨(.tup [(.sl 0 0 (List.length ((impl_PlacementsOf_p F b0).getD default).2)), (.bool ((impl_PlacementsOf_p F b0).getD default).1)]), [(.vec 39 (.rr 3 ((impl_PlacementsOf_p F b0).getD default).2))], []⟩)
  | _, _ => none⟩
theorem impl_PlacementsOf_fok : FunOK Try.prog 39 := funOK Try.func39 (by kernel_rfl) rfl
theorem impl_PlacementsOf_meets (F : Nat) : Meets Try.prog 39 (impl_PlacementsOf_ent F) := by
  refine meets_of_runS mixed ttok deep (impl_PlacementsOf_tabok F) Try.func39 (body_some rfl) (impl_PlacementsOf_lsok0 F) fun args mem hfit ret h => ?_
  clear hfit
  simp only [impl_PlacementsOf_ent] at h
  split at h
  · rename_i b0
    simp only [Option.some.injEq, Prod.mk.injEq] at h
    obtain ⟨hc, rfl⟩ := h
    exact ⟨[⟨2, 39, (.rr 3 ([] : List (List Int)))⟩], [], 70, _, (impl_PlacementsOf_run F b0).trans ((impl_PlacementsOf_cp _ F b0 _).trans (bind_use hc _)), rfl, rfl, rfl⟩
  · cases h

/-! loop.example/g01194/laws.eqIntA3 -/
noncomputable def laws_eqIntA3_tab (F : Nat) : Tab := []
theorem laws_eqIntA3_tabok (F : Nat) : TabOK Try.prog (laws_eqIntA3_tab F) := tab_nil
noncomputable def laws_eqIntA3_LS0 (F : Nat) : LT := []
theorem laws_eqIntA3_lsok0 (F : Nat) : LoopsOK Try.prog (laws_eqIntA3_LS0 F) (bodyOf Try.f80) := loopsOK_nil
theorem laws_eqIntA3_keys : keysOK (bodyOf Try.f80) = true := by kernel_rfl
def laws_eqIntA3_st2 (a7 : List Int) (b8 : List Int) (i6 : Int) : St := ⟨expand 17 0 [2, 3, 5] [(.ptr 0 0 0 3), (.ptr 1 0 0 3), (.int .i64 i6)], [(.var 3 (.ri .i64 a7)), (.var 3 (.ri .i64 b8))], 0, []⟩
def laws_eqIntA3_o2 (a7 : List Int) (b8 : List Int) (x : Bool) : GT := (.br x (.out (.ret ⟨expand 17 0 [4] [(.bool false)], [], 0, []⟩)) (.out (.exit 0 ⟨expand 17 0 [] [], [], 0, []⟩)))
def laws_eqIntA3_ls2 (F : Nat) : LoopS := ⟨17, [2, 3, 5], [], [], [], [4], [], [], fun vals mem np killed => match vals, mem, np, killed with
  | [(.ptr 0 0 0 3), (.ptr 1 0 0 3), (.int .i64 i6)], [(.var 3 (.ri .i64 a7)), (.var 3 (.ri .i64 b8))], 0, [] => .br (laws_eqIntA3_l2 F a7 b8 i6).isSome (laws_eqIntA3_o2 a7 b8 ((laws_eqIntA3_l2 F a7 b8 i6).getD default)) .fail
  | _, _, _, _ => .fail⟩
theorem laws_eqIntA3_step2 (F : Nat) (a7 : List Int) (b8 : List Int) (i6 : Int) {R : Type} (k : Out → Option R) : stepS tt (laws_eqIntA3_tab F) (laws_eqIntA3_LS0 F) 70 (laws_eqIntA3_ls2 F) (loopAt 2 (bodyOf Try.f80)) (laws_eqIntA3_st2 a7 b8 i6) k = laws_eqIntA3_s2 F a7 b8 R i6 (fun s => k (.norm (laws_eqIntA3_st2 a7 b8 s))) (fun x => (laws_eqIntA3_o2 a7 b8 x).run k) := by kernel_rfl
theorem laws_eqIntA3_iter2 (F : Nat) (a7 : List Int) (b8 : List Int) {R : Type} (k : Out → Option R) : ∀ (n : Nat) (i6 : Int), iterS tt (laws_eqIntA3_tab F) (laws_eqIntA3_LS0 F) 70 (laws_eqIntA3_ls2 F) (loopAt 2 (bodyOf Try.f80)) n (laws_eqIntA3_st2 a7 b8 i6) k = loopC (laws_eqIntA3_s2 F a7 b8) n i6 (fun x => (laws_eqIntA3_o2 a7 b8 x).run k)
  | 0, i6 => rfl
  | n + 1, i6 => (iterS_succ tt (laws_eqIntA3_tab F) (laws_eqIntA3_LS0 F) 70 (laws_eqIntA3_ls2 F) (loopAt 2 (bodyOf Try.f80)) n (laws_eqIntA3_st2 a7 b8 i6) k).trans ((laws_eqIntA3_step2 F a7 b8 i6 (nextK (iterS tt (laws_eqIntA3_tab F) (laws_eqIntA3_LS0 F) 70 (laws_eqIntA3_ls2 F) (loopAt 2 (bodyOf Try.f80)) n) k)).trans (congrArg (fun kn => laws_eqIntA3_s2 F a7 b8 R i6 kn _) (funext (fun i6 => laws_eqIntA3_iter2 F a7 b8 k n i6))))
theorem laws_eqIntA3_lok2 (F : Nat) : LoopOK Try.prog (loopAt 2 (bodyOf Try.f80)) (laws_eqIntA3_ls2 F) := by
  refine loopOK_of mixed ttok deep (laws_eqIntA3_tabok F) (loopsOK_at (laws_eqIntA3_lsok0 F) 2) (fuel := 70) fun R vals mem np killed k x h => ?_
  simp only [laws_eqIntA3_ls2] at h
  split at h
  · rename_i i6 a7 b8
    simp only [GT.run] at h
    have hc := (cond_noneL h).1
    replace h := (cond_noneL h).2
    refine ⟨F, (laws_eqIntA3_iter2 F a7 b8 k F i6).trans ((loopC_use (laws_eqIntA3_s2_nat F a7 b8) hc _).trans h)⟩
  · simp only [GT.run] at h
    cases h
noncomputable def laws_eqIntA3_LS1 (F : Nat) : LT := (2, laws_eqIntA3_ls2 F) :: laws_eqIntA3_LS0 F
theorem laws_eqIntA3_lsok1 (F : Nat) : LoopsOK Try.prog (laws_eqIntA3_LS1 F) (bodyOf Try.f80) := loopsOK_cons laws_eqIntA3_keys (laws_eqIntA3_lok2 F) (laws_eqIntA3_lsok0 F)
theorem laws_eqIntA3_run (F : Nat) (a0 : List Int) (b1 : List Int) : runS tt (laws_eqIntA3_tab F) (laws_eqIntA3_LS1 F) [] [] Try.f80 (bodyOf Try.f80) 70 [(.ints 3 a0), (.ints 3 b1)] [] = laws_eqIntA3_c _ F a0 b1 (fun r => some ⟨(.bool r), [], []⟩) := by kernel_rfl
def laws_eqIntA3_ent (F : Nat) : Ent := ⟨[], .quiet, fun args mem => match args, mem with
  | [(.ints 3 a0), (.ints 3 b1)], [] => some ((laws_eqIntA3_p F a0 b1).isSome, ⟨(.bool ((laws_eqIntA3_p F a0 b1).getD default)), [], []⟩)
  | _, _ => none⟩
theorem laws_eqIntA3_fok : FunOK Try.prog 80 := funOK Try.func80 (by kernel_rfl) rfl
theorem laws_eqIntA3_meets (F : Nat) : Meets Try.prog 80 (laws_eqIntA3_ent F) := by
  refine meets_of_runS mixed ttok deep (laws_eqIntA3_tabok F) Try.func80 (body_some rfl) (laws_eqIntA3_lsok1 F) fun args mem hfit ret h => ?_
  clear hfit
  simp only [laws_eqIntA3_ent] at h
  split at h
  · rename_i a0 b1
    simp only [Option.some.injEq, Prod.mk.injEq] at h
    obtain ⟨hc, rfl⟩ := h
    exact ⟨[], [], 70, _, (laws_eqIntA3_run F a0 b1).trans ((laws_eqIntA3_cp _ F a0 b1 _).trans (bind_use hc _)), rfl, rfl, rfl⟩
  · cases h

/-! loop.example/g01194/laws.eqIntA3S -/
noncomputable def laws_eqIntA3S_tab (F : Nat) : Tab := [(80, (laws_eqIntA3_ent F))]
theorem laws_eqIntA3S_tabok (F : Nat) : TabOK Try.prog (laws_eqIntA3S_tab F) := (tab_cons (laws_eqIntA3_meets F) laws_eqIntA3_fok tab_nil)
noncomputable def laws_eqIntA3S_LS0 (F : Nat) : LT := []
theorem laws_eqIntA3S_lsok0 (F : Nat) : LoopsOK Try.prog (laws_eqIntA3S_LS0 F) (bodyOf Try.f40) := loopsOK_nil
theorem laws_eqIntA3S_keys : keysOK (bodyOf Try.f40) = true := by kernel_rfl
def laws_eqIntA3S_st4 (a0 : List (List Int)) (b1 : List (List Int)) (i2 : Int) : St := ⟨expand 27 0 [0, 1, 5] [(.rr 3 a0), (.rr 3 b1), (.int .i64 i2)], [], 0, []⟩
def laws_eqIntA3S_o4 (a0 : List (List Int)) (b1 : List (List Int)) (x : Bool) : GT := (.br x (.out (.ret ⟨expand 27 0 [4] [(.bool false)], [], 0, []⟩)) (.out (.exit 0 ⟨expand 27 0 [] [], [], 0, []⟩)))
def laws_eqIntA3S_ls4 (F : Nat) : LoopS := ⟨27, [0, 1, 5], [], [], [], [4], [], [], fun vals mem np killed => match vals, mem, np, killed with
  | [(.rr 3 a0), (.rr 3 b1), (.int .i64 i2)], [], 0, [] => .br (laws_eqIntA3S_l4 F a0 b1 i2).isSome (laws_eqIntA3S_o4 a0 b1 ((laws_eqIntA3S_l4 F a0 b1 i2).getD default)) .fail
  | _, _, _, _ => .fail⟩
theorem laws_eqIntA3S_step4 (F : Nat) (a0 : List (List Int)) (b1 : List (List Int)) (i2 : Int) {R : Type} (k : Out → Option R) : stepS tt (laws_eqIntA3S_tab F) (laws_eqIntA3S_LS0 F) 70 (laws_eqIntA3S_ls4 F) (loopAt 4 (bodyOf Try.f40)) (laws_eqIntA3S_st4 a0 b1 i2) k = laws_eqIntA3S_s4 F a0 b1 R i2 (fun s => k (.norm (laws_eqIntA3S_st4 a0 b1 s))) (fun x => (laws_eqIntA3S_o4 a0 b1 x).run k) := by kernel_rfl
theorem laws_eqIntA3S_iter4 (F : Nat) (a0 : List (List Int)) (b1 : List (List Int)) {R : Type} (k : Out → Option R) : ∀ (n : Nat) (i2 : Int), iterS tt (laws_eqIntA3S_tab F) (laws_eqIntA3S_LS0 F) 70 (laws_eqIntA3S_ls4 F) (loopAt 4 (bodyOf Try.f40)) n (laws_eqIntA3S_st4 a0 b1 i2) k = loopC (laws_eqIntA3S_s4 F a0 b1) n i2 (fun x => (laws_eqIntA3S_o4 a0 b1 x).run k)
  | 0, i2 => rfl
  | n + 1, i2 => (iterS_succ tt (laws_eqIntA3S_tab F) (laws_eqIntA3S_LS0 F) 70 (laws_eqIntA3S_ls4 F) (loopAt 4 (bodyOf Try.f40)) n (laws_eqIntA3S_st4 a0 b1 i2) k).trans ((laws_eqIntA3S_step4 F a0 b1 i2 (nextK (iterS tt (laws_eqIntA3S_tab F) (laws_eqIntA3S_LS0 F) 70 (laws_eqIntA3S_ls4 F) (loopAt 4 (bodyOf Try.f40)) n) k)).trans (congrArg (fun kn => laws_eqIntA3S_s4 F a0 b1 R i2 kn _) (funext (fun i2 => laws_eqIntA3S_iter4 F a0 b1 k n i2))))
theorem laws_eqIntA3S_lok4 (F : Nat) : LoopOK Try.prog (loopAt 4 (bodyOf Try.f40)) (laws_eqIntA3S_ls4 F) := by
  refine loopOK_of mixed ttok deep (laws_eqIntA3S_tabok F) (loopsOK_at (laws_eqIntA3S_lsok0 F) 4) (fuel := 70) fun R vals mem np killed k x h => ?_
  simp only [laws_eqIntA3S_ls4] at h
  split at h
  · rename_i a0 b1 i2
    simp only [GT.run] at h
    have hc := (cond_noneL h).1
    replace h := (cond_noneL h).2
    refine ⟨F, (laws_eqIntA3S_iter4 F a0 b1 k F i2).trans ((loopC_use (laws_eqIntA3S_s4_nat F a0 b1) hc _).trans h)⟩
  · simp only [GT.run] at h
    cases h
noncomputable def laws_eqIntA3S_LS1 (F : Nat) : LT := (4, laws_eqIntA3S_ls4 F) :: laws_eqIntA3S_LS0 F
theorem laws_eqIntA3S_lsok1 (F : Nat) : LoopsOK Try.prog (laws_eqIntA3S_LS1 F) (bodyOf Try.f40) := loopsOK_cons laws_eqIntA3S_keys (laws_eqIntA3S_lok4 F) (laws_eqIntA3S_lsok0 F)
theorem laws_eqIntA3S_run (F : Nat) (a0 : List (List Int)) (b1 : List (List Int)) : runS tt (laws_eqIntA3S_tab F) (laws_eqIntA3S_LS1 F) [] [] Try.f40 (bodyOf Try.f40) 70 [(.rr 3 a0), (.rr 3 b1)] [] = laws_eqIntA3S_c _ F a0 b1 (fun r => some ⟨(.bool r), [], []⟩) := by kernel_rfl
def laws_eqIntA3S_ent (F : Nat) : Ent := ⟨[], .quiet, fun args mem => match args, mem with
  | [(.rr 3 a0), (.rr 3 b1)], [] => some ((laws_eqIntA3S_p F a0 b1).isSome, ⟨(.bool ((laws_eqIntA3S_p F a0 b1).getD default)), [], []⟩)
  | _, _ => none⟩
theorem laws_eqIntA3S_fok : FunOK Try.prog 40 := funOK Try.func40 (by kernel_rfl) rfl
theorem laws_eqIntA3S_meets (F : Nat) : Meets Try.prog 40 (laws_eqIntA3S_ent F) := by
  refine meets_of_runS mixed ttok deep (laws_eqIntA3S_tabok F) Try.func40 (body_some rfl) (laws_eqIntA3S_lsok1 F) fun args mem hfit ret h => ?_
  clear hfit
  simp only [laws_eqIntA3S_ent] at h
  split at h
  · rename_i a0 b1
    simp only [Option.some.injEq, Prod.mk.injEq] at h
    obtain ⟨hc, rfl⟩ := h
    exact ⟨[], [], 70, _, (laws_eqIntA3S_run F a0 b1).trans ((laws_eqIntA3S_cp _ F a0 b1 _).trans (bind_use hc _)), rfl, rfl, rfl⟩
  · cases h
end Go.Proofs.Ytmdicfifhppjaaa
