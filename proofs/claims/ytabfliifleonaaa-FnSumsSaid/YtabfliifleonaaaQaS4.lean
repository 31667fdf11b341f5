/-
Pure functions and what the code of them does, by program; without conditions.
-/
import Derived.Test.YtabfliifleonaaaQaP4
import Derived.Test.YtabfliifleonaaaQaS3
namespace Go.Proofs.Ytabfliifleonaaa
open Go Go.Lv Go.Lv.P Go.Proofs
set_option linter.unusedVariables false
set_option linter.unusedSimpArgs false
set_option maxRecDepth 100000
/-! (loop.example/g01194/impl.Board).withLine -/
noncomputable def impl_Board_withLine_tab (F : Nat) : Tab := [(79, (impl_lineCell_ent F)), (33, (impl_Board_at_ent F))]
theorem impl_Board_withLine_tabok (F : Nat) : TabOK Try.prog (impl_Board_withLine_tab F) := (tab_cons (impl_lineCell_meets F) impl_lineCell_fok (tab_cons (impl_Board_at_meets F) impl_Board_at_fok tab_nil))
noncomputable def impl_Board_withLine_LS0 (F : Nat) : LT := []
theorem impl_Board_withLine_lsok0 (F : Nat) : LoopsOK Try.prog (impl_Board_withLine_LS0 F) (bodyOf Try.f69) := loopsOK_nil
theorem impl_Board_withLine_run (F : Nat) (b0 : List Int) (direction1 : Int) (i2 : Int) (row3 : List Int) : runS tt (impl_Board_withLine_tab F) (impl_Board_withLine_LS0 F) [] [] Try.f69 (bodyOf Try.f69) 70 [(.ints 16 b0), (.int .i64 direction1), (.int .i64 i2), (.ints 4 row3)] [] = impl_Board_withLine_c _ b0 direction1 i2 row3 (fun r => some ⟨(.ints 16 r), [], []⟩) := by kernel_rfl
def impl_Board_withLine_ent (F : Nat) : Ent := ⟨[], .quiet, fun args mem => match args, mem with
  | [(.ints 16 b0), (.int .i64 direction1), (.int .i64 i2), (.ints 4 row3)], [] => some ((impl_Board_withLine_p b0 direction1 i2 row3).isSome, ⟨(.ints 16 ((impl_Board_withLine_p b0 direction1 i2 row3).getD default)), [], []⟩)
  | _, _ => none⟩
theorem impl_Board_withLine_fok : FunOK Try.prog 69 := funOK Try.func69 (by kernel_rfl) rfl
theorem impl_Board_withLine_meets (F : Nat) : Meets Try.prog 69 (impl_Board_withLine_ent F) := by
  refine meets_of_runS mixed ttok deep (impl_Board_withLine_tabok F) Try.func69 (body_some rfl) (impl_Board_withLine_lsok0 F) fun args mem hfit ret h => ?_
  clear hfit
  simp only [impl_Board_withLine_ent] at h
  split at h
  · rename_i b0 direction1 i2 row3
    simp only [Option.some.injEq, Prod.mk.injEq] at h
    obtain ⟨hc, rfl⟩ := h
    exact ⟨[], [], 70, _, (impl_Board_withLine_run F b0 direction1 i2 row3).trans ((impl_Board_withLine_cp _ b0 direction1 i2 row3 _).trans (bind_use hc _)), rfl, rfl, rfl⟩
  · cases h

/-! (loop.example/g01194/impl.Board).slide -/
noncomputable def impl_Board_slide_tab (F : Nat) : Tab := [(68, (impl_Board_line_ent F)), (67, (impl_slideRow_ent F)), (69, (impl_Board_withLine_ent F))]
theorem impl_Board_slide_tabok (F : Nat) : TabOK Try.prog (impl_Board_slide_tab F) := (tab_cons (impl_Board_line_meets F) impl_Board_line_fok (tab_cons (impl_slideRow_meets F) impl_slideRow_fok (tab_cons (impl_Board_withLine_meets F) impl_Board_withLine_fok tab_nil)))
noncomputable def impl_Board_slide_LS0 (F : Nat) : LT := []
theorem impl_Board_slide_lsok0 (F : Nat) : LoopsOK Try.prog (impl_Board_slide_LS0 F) (bodyOf Try.f52) := loopsOK_nil
theorem impl_Board_slide_keys : keysOK (bodyOf Try.f52) = true := by kernel_rfl
def impl_Board_slide_st8 (direction0 : Int) (score10 : Int) (t1712 : Int) (t3713 : List Bool) (b15 : List Int) (out17 : List Int) (mergers11 : Int) (t3814 : Int) : St := ⟨expand 49 0 [1, 2, 4, 7, 8, 9, 17, 37, 38] [(.int .i64 direction0), (.ptr 0 0 0 16), (.ptr 1 0 0 16), (.ptr 2 0 0 16), (.int .i64 score10), (.int .i64 mergers11), (.int .i64 t1712), (.bools 4 t3713), (.int .i64 t3814)], [(.var 16 (.ri .i64 b15)), (.var 16 (.ri .i64 [(0 : Int), (0 : Int), (0 : Int), (0 : Int), (0 : Int), (0 : Int), (0 : Int), (0 : Int), (0 : Int), (0 : Int), (0 : Int), (0 : Int), (0 : Int), (0 : Int), (0 : Int), (0 : Int)])), (.var 16 (.ri .i64 out17))], 0, []⟩
def impl_Board_slide_o8 (direction0 : Int) (score10 : Int) (t1712 : Int) (t3713 : List Bool) (b15 : List Int) (out17 : List Int) (x : Int) : GT := (.out (.exit 2 ⟨expand 49 0 [1, 2, 4, 7, 8, 9, 17] [(.int .i64 direction0), (.ptr 0 0 0 16), (.ptr 1 0 0 16), (.ptr 2 0 0 16), (.int .i64 score10), (.int .i64 x), (.int .i64 t1712)], [(.var 16 (.ri .i64 b15)), (.var 16 (.ri .i64 [(0 : Int), (0 : Int), (0 : Int), (0 : Int), (0 : Int), (0 : Int), (0 : Int), (0 : Int), (0 : Int), (0 : Int), (0 : Int), (0 : Int), (0 : Int), (0 : Int), (0 : Int), (0 : Int)])), (.var 16 (.ri .i64 out17))], 0, []⟩))
def impl_Board_slide_ls8 (F : Nat) : LoopS := ⟨49, [1, 2, 4, 7, 8, 9, 17, 37, 38], [], [1, 2, 4, 7, 8, 9, 17], [], [4, 5, 6], [], [], fun vals mem np killed => match vals, mem, np, killed with
  | [(.int .i64 direction0), (.ptr 0 0 0 16), (.ptr 1 0 0 16), (.ptr 2 0 0 16), (.int .i64 score10), (.int .i64 mergers11), (.int .i64 t1712), (.bools 4 t3713), (.int .i64 t3814)], [(.var 16 (.ri .i64 b15)), (.var 16 (.ri .i64 q_t416)), (.var 16 (.ri .i64 out17))], 0, [] => .br ((q_t416 == ([(0 : Int), (0 : Int), (0 : Int), (0 : Int), (0 : Int), (0 : Int), (0 : Int), (0 : Int), (0 : Int), (0 : Int), (0 : Int), (0 : Int), (0 : Int), (0 : Int), (0 : Int), (0 : Int)] : List Int)) && (impl_Board_slide_l8 F direction0 score10 t1712 t3713 b15 out17 mergers11 t3814).isSome) (impl_Board_slide_o8 direction0 score10 t1712 t3713 b15 out17 ((impl_Board_slide_l8 F direction0 score10 t1712 t3713 b15 out17 mergers11 t3814).getD default)) .fail
  | _, _, _, _ => .fail⟩
theorem impl_Board_slide_step8 (F : Nat) (direction0 : Int) (score10 : Int) (t1712 : Int) (t3713 : List Bool) (b15 : List Int) (out17 : List Int) (mergers11 : Int) (t3814 : Int) {R : Type} (k : Out → Option R) : stepS tt (impl_Board_slide_tab F) (impl_Board_slide_LS0 F) 70 (impl_Board_slide_ls8 F) (loopAt 8 (bodyOf Try.f52)) (impl_Board_slide_st8 direction0 score10 t1712 t3713 b15 out17 mergers11 t3814) k = impl_Board_slide_s8 F direction0 score10 t1712 t3713 b15 out17 R (mergers11, t3814) (fun s => k (.norm (impl_Board_slide_st8 direction0 score10 t1712 t3713 b15 out17 s.1 s.2))) (fun x => (impl_Board_slide_o8 direction0 score10 t1712 t3713 b15 out17 x).run k) := by kernel_rfl
theorem impl_Board_slide_iter8 (F : Nat) (direction0 : Int) (score10 : Int) (t1712 : Int) (t3713 : List Bool) (b15 : List Int) (out17 : List Int) {R : Type} (k : Out → Option R) : ∀ (n : Nat) (mergers11 : Int) (t3814 : Int), iterS tt (impl_Board_slide_tab F) (impl_Board_slide_LS0 F) 70 (impl_Board_slide_ls8 F) (loopAt 8 (bodyOf Try.f52)) n (impl_Board_slide_st8 direction0 score10 t1712 t3713 b15 out17 mergers11 t3814) k = loopC (impl_Board_slide_s8 F direction0 score10 t1712 t3713 b15 out17) n (mergers11, t3814) (fun x => (impl_Board_slide_o8 direction0 score10 t1712 t3713 b15 out17 x).run k)
  | 0, mergers11, t3814 => rfl
  | n + 1, mergers11, t3814 => (iterS_succ tt (impl_Board_slide_tab F) (impl_Board_slide_LS0 F) 70 (impl_Board_slide_ls8 F) (loopAt 8 (bodyOf Try.f52)) n (impl_Board_slide_st8 direction0 score10 t1712 t3713 b15 out17 mergers11 t3814) k).trans ((impl_Board_slide_step8 F direction0 score10 t1712 t3713 b15 out17 mergers11 t3814 (nextK (iterS tt (impl_Board_slide_tab F) (impl_Board_slide_LS0 F) 70 (impl_Board_slide_ls8 F) (loopAt 8 (bodyOf Try.f52)) n) k)).trans (congrArg (fun kn => impl_Board_slide_s8 F direction0 score10 t1712 t3713 b15 out17 R (mergers11, t3814) kn _) (funext (fun ⟨mergers11, t3814⟩ => impl_Board_slide_iter8 F direction0 score10 t1712 t3713 b15 out17 k n mergers11 t3814))))
theorem impl_Board_slide_lok8 (F : Nat) : LoopOK Try.prog (loopAt 8 (bodyOf Try.f52)) (impl_Board_slide_ls8 F) := by
  refine loopOK_of mixed ttok deep (impl_Board_slide_tabok F) (loopsOK_at (impl_Board_slide_lsok0 F) 8) (fuel := 70) fun R vals mem np killed k x h => ?_
  simp only [impl_Board_slide_ls8] at h
  split at h
  · rename_i direction0 score10 mergers11 t1712 t3713 t3814 b15 q_t416 out17
    simp only [GT.run] at h
    have hc := (cond_noneL h).1
    replace h := (cond_noneL h).2
    have hg := (and_split hc).1
    replace hc := (and_split hc).2
    obtain rfl := beq_li hg
    refine ⟨F, (impl_Board_slide_iter8 F direction0 score10 t1712 t3713 b15 out17 k F mergers11 t3814).trans ((loopC_use (impl_Board_slide_s8_nat F direction0 score10 t1712 t3713 b15 out17) hc _).trans h)⟩
  · simp only [GT.run] at h
    cases h
noncomputable def impl_Board_slide_LS1 (F : Nat) : LT := (8, impl_Board_slide_ls8 F) :: impl_Board_slide_LS0 F
theorem impl_Board_slide_lsok1 (F : Nat) : LoopsOK Try.prog (impl_Board_slide_LS1 F) (bodyOf Try.f52) := loopsOK_cons impl_Board_slide_keys (impl_Board_slide_lok8 F) (impl_Board_slide_lsok0 F)
def impl_Board_slide_st3 (direction0 : Int) (b13 : List Int) (score10 : Int) (mergers11 : Int) (t1712 : Int) (out15 : List Int) : St := ⟨expand 49 0 [1, 2, 4, 7, 8, 9, 17] [(.int .i64 direction0), (.ptr 0 0 0 16), (.ptr 1 0 0 16), (.ptr 2 0 0 16), (.int .i64 score10), (.int .i64 mergers11), (.int .i64 t1712)], [(.var 16 (.ri .i64 b13)), (.var 16 (.ri .i64 [(0 : Int), (0 : Int), (0 : Int), (0 : Int), (0 : Int), (0 : Int), (0 : Int), (0 : Int), (0 : Int), (0 : Int), (0 : Int), (0 : Int), (0 : Int), (0 : Int), (0 : Int), (0 : Int)])), (.var 16 (.ri .i64 out15))], 0, []⟩
def impl_Board_slide_o3 (direction0 : Int) (b13 : List Int) (x : Int × Int × List Int) : GT := (.out (.exit 0 ⟨expand 49 0 [4, 7, 8, 9] [(.ptr 0 0 0 16), (.ptr 1 0 0 16), (.int .i64 x.1), (.int .i64 x.2.1)], [(.var 16 (.ri .i64 [(0 : Int), (0 : Int), (0 : Int), (0 : Int), (0 : Int), (0 : Int), (0 : Int), (0 : Int), (0 : Int), (0 : Int), (0 : Int), (0 : Int), (0 : Int), (0 : Int), (0 : Int), (0 : Int)])), (.var 16 (.ri .i64 x.2.2))], 0, []⟩))
def impl_Board_slide_ls3 (F : Nat) : LoopS := ⟨49, [1, 2, 4, 7, 8, 9, 17], [], [4, 7, 8, 9], [], [4, 5, 6], [], [], fun vals mem np killed => match vals, mem, np, killed with
  | [(.int .i64 direction0), (.ptr 0 0 0 16), (.ptr 1 0 0 16), (.ptr 2 0 0 16), (.int .i64 score10), (.int .i64 mergers11), (.int .i64 t1712)], [(.var 16 (.ri .i64 b13)), (.var 16 (.ri .i64 q_t414)), (.var 16 (.ri .i64 out15))], 0, [] => .br ((q_t414 == ([(0 : Int), (0 : Int), (0 : Int), (0 : Int), (0 : Int), (0 : Int), (0 : Int), (0 : Int), (0 : Int), (0 : Int), (0 : Int), (0 : Int), (0 : Int), (0 : Int), (0 : Int), (0 : Int)] : List Int)) && (impl_Board_slide_l3 F direction0 b13 score10 mergers11 t1712 out15).isSome) (impl_Board_slide_o3 direction0 b13 ((impl_Board_slide_l3 F direction0 b13 score10 mergers11 t1712 out15).getD default)) .fail
  | _, _, _, _ => .fail⟩
theorem impl_Board_slide_step3 (F : Nat) (direction0 : Int) (b13 : List Int) (score10 : Int) (mergers11 : Int) (t1712 : Int) (out15 : List Int) {R : Type} (k : Out → Option R) : stepS tt (impl_Board_slide_tab F) (impl_Board_slide_LS1 F) 70 (impl_Board_slide_ls3 F) (loopAt 3 (bodyOf Try.f52)) (impl_Board_slide_st3 direction0 b13 score10 mergers11 t1712 out15) k = impl_Board_slide_s3 F direction0 b13 R (score10, mergers11, t1712, out15) (fun s => k (.norm (impl_Board_slide_st3 direction0 b13 s.1 s.2.1 s.2.2.1 s.2.2.2))) (fun x => (impl_Board_slide_o3 direction0 b13 x).run k) := by kernel_rfl
theorem impl_Board_slide_iter3 (F : Nat) (direction0 : Int) (b13 : List Int) {R : Type} (k : Out → Option R) : ∀ (n : Nat) (score10 : Int) (mergers11 : Int) (t1712 : Int) (out15 : List Int), iterS tt (impl_Board_slide_tab F) (impl_Board_slide_LS1 F) 70 (impl_Board_slide_ls3 F) (loopAt 3 (bodyOf Try.f52)) n (impl_Board_slide_st3 direction0 b13 score10 mergers11 t1712 out15) k = loopC (impl_Board_slide_s3 F direction0 b13) n (score10, mergers11, t1712, out15) (fun x => (impl_Board_slide_o3 direction0 b13 x).run k)
  | 0, score10, mergers11, t1712, out15 => rfl
  | n + 1, score10, mergers11, t1712, out15 => (iterS_succ tt (impl_Board_slide_tab F) (impl_Board_slide_LS1 F) 70 (impl_Board_slide_ls3 F) (loopAt 3 (bodyOf Try.f52)) n (impl_Board_slide_st3 direction0 b13 score10 mergers11 t1712 out15) k).trans ((impl_Board_slide_step3 F direction0 b13 score10 mergers11 t1712 out15 (nextK (iterS tt (impl_Board_slide_tab F) (impl_Board_slide_LS1 F) 70 (impl_Board_slide_ls3 F) (loopAt 3 (bodyOf Try.f52)) n) k)).trans (congrArg (fun kn => impl_Board_slide_s3 F direction0 b13 R (score10, mergers11, t1712, out15) kn _) (funext (fun ⟨score10, mergers11, t1712, out15⟩ => impl_Board_slide_iter3 F direction0 b13 k n score10 mergers11 t1712 out15))))
theorem impl_Board_slide_lok3 (F : Nat) : LoopOK Try.prog (loopAt 3 (bodyOf Try.f52)) (impl_Board_slide_ls3 F) := by
  refine loopOK_of mixed ttok deep (impl_Board_slide_tabok F) (loopsOK_at (impl_Board_slide_lsok1 F) 3) (fuel := 70) fun R vals mem np killed k x h => ?_
  simp only [impl_Board_slide_ls3] at h
  split at h
  · rename_i direction0 score10 mergers11 t1712 b13 q_t414 out15
    simp only [GT.run] at h
    have hc := (cond_noneL h).1
    replace h := (cond_noneL h).2
    have hg := (and_split hc).1
    replace hc := (and_split hc).2
    obtain rfl := beq_li hg
    refine ⟨F, (impl_Board_slide_iter3 F direction0 b13 k F score10 mergers11 t1712 out15).trans ((loopC_use (impl_Board_slide_s3_nat F direction0 b13) hc _).trans h)⟩
  · simp only [GT.run] at h
    cases h
noncomputable def impl_Board_slide_LS2 (F : Nat) : LT := (3, impl_Board_slide_ls3 F) :: impl_Board_slide_LS1 F
theorem impl_Board_slide_lsok2 (F : Nat) : LoopsOK Try.prog (impl_Board_slide_LS2 F) (bodyOf Try.f52) := loopsOK_cons impl_Board_slide_keys (impl_Board_slide_lok3 F) (impl_Board_slide_lsok1 F)
theorem impl_Board_slide_run (F : Nat) (b0 : List Int) (direction1 : Int) : runS tt (impl_Board_slide_tab F) (impl_Board_slide_LS2 F) [] [] Try.f52 (bodyOf Try.f52) 70 [(.ints 16 b0), (.int .i64 direction1)] [] = impl_Board_slide_c _ F b0 direction1 (fun r => some ⟨(.tup [(.ints 16 r.1), (.int .i64 r.2.1), (.int .i64 r.2.2)]), [], []⟩) := by kernel_rfl
def impl_Board_slide_ent (F : Nat) : Ent := ⟨[], .quiet, fun args mem => match args, mem with
  | [(.ints 16 b0), (.int .i64 direction1)], [] => some ((impl_Board_slide_p F b0 direction1).isSome, ⟨(.tup [(.ints 16 ((impl_Board_slide_p F b0 direction1).getD default).1), (.int .i64 ((impl_Board_slide_p F b0 direction1).getD default).2.1), (.int .i64 ((impl_Board_slide_p F b0 direction1).getD default).2.2)]), [], []⟩)
  | _, _ => none⟩
theorem impl_Board_slide_fok : FunOK Try.prog 52 := funOK Try.func52 (by kernel_rfl) rfl
theorem impl_Board_slide_meets (F : Nat) : Meets Try.prog 52 (impl_Board_slide_ent F) := by
  refine meets_of_runS mixed ttok deep (impl_Board_slide_tabok F) Try.func52 (body_some rfl) (impl_Board_slide_lsok2 F) fun args mem hfit ret h => ?_
  clear hfit
  simp only [impl_Board_slide_ent] at h
  split at h
  · rename_i b0 direction1
    simp only [Option.some.injEq, Prod.mk.injEq] at h
    obtain ⟨hc, rfl⟩ := h
    exact ⟨[], [], 70, _, (impl_Board_slide_run F b0 direction1).trans ((impl_Board_slide_cp _ F b0 direction1 _).trans (bind_use hc _)), rfl, rfl, rfl⟩
  · cases h

/-! loop.example/g01194/impl.MergersOf -/
noncomputable def impl_MergersOf_tab (F : Nat) : Tab := [(42, (impl_IsBoard_ent F)), (51, (impl_isDirection_ent F)), (52, (impl_Board_slide_ent F))]
theorem impl_MergersOf_tabok (F : Nat) : TabOK Try.prog (impl_MergersOf_tab F) := (tab_cons (impl_IsBoard_meets F) impl_IsBoard_fok (tab_cons (impl_isDirection_meets F) impl_isDirection_fok (tab_cons (impl_Board_slide_meets F) impl_Board_slide_fok tab_nil)))
noncomputable def impl_MergersOf_LS0 (F : Nat) : LT := []
theorem impl_MergersOf_lsok0 (F : Nat) : LoopsOK Try.prog (impl_MergersOf_LS0 F) (bodyOf Try.f25) := loopsOK_nil
theorem impl_MergersOf_run (F : Nat) (b0 : List Int) (direction1 : Int) : runS tt (impl_MergersOf_tab F) (impl_MergersOf_LS0 F) [] [] Try.f25 (bodyOf Try.f25) 70 [(.ints 16 b0), (.int .i64 direction1)] [] = impl_MergersOf_c _ F b0 direction1 (fun r => some ⟨(.tup [(.int .i64 r.1), (.bool r.2)]), [], []⟩) := by kernel_rfl
def impl_MergersOf_ent (F : Nat) : Ent := ⟨[], .quiet, fun args mem => match args, mem with
  | [(.ints 16 b0), (.int .i64 direction1)], [] => some ((impl_MergersOf_p F b0 direction1).isSome, ⟨(.tup [(.int .i64 ((impl_MergersOf_p F b0 direction1).getD default).1), (.bool ((impl_MergersOf_p F b0 direction1).getD default).2)]), [], []⟩)
  | _, _ => none⟩
theorem impl_MergersOf_fok : FunOK Try.prog 25 := funOK Try.func25 (by kernel_rfl) rfl
theorem impl_MergersOf_meets (F : Nat) : Meets Try.prog 25 (impl_MergersOf_ent F) := by
  refine meets_of_runS mixed ttok deep (impl_MergersOf_tabok F) Try.func25 (body_some rfl) (impl_MergersOf_lsok0 F) fun args mem hfit ret h => ?_
  clear hfit
  simp only [impl_MergersOf_ent] at h
  split at h
  · rename_i b0 direction1
    simp only [Option.some.injEq, Prod.mk.injEq] at h
    obtain ⟨hc, rfl⟩ := h
    exact ⟨[], [], 70, _, (impl_MergersOf_run F b0 direction1).trans ((impl_MergersOf_cp _ F b0 direction1 _).trans (bind_use hc _)), rfl, rfl, rfl⟩
  · cases h

/-! loop.example/g01194/laws.FnSums -/
noncomputable def laws_FnSums_tab (F : Nat) : Tab := [(4, (laws_vBig_ent F)), (5, (spec_DrawLeastTiles_ent F)), (6, (impl_LeastTiles_ent F)), (7, (spec_LeastTiles_ent F)), (8, (impl_PackedBoard_ent F)), (9, (spec_PackedBoard_ent F)), (10, (impl_HighestFor_ent F)), (11, (spec_HighestFor_ent F)), (13, (laws_vCut_ent F)), (12, (spec_DrawIsPossible_ent F)), (14, (impl_IsPossible_ent F)), (15, (spec_IsPossible_ent F)), (16, (spec_DrawMergersLeft_ent F)), (17, (impl_MergersLeft_ent F)), (18, (spec_MergersLeft_ent F)), (19, (impl_PotentialOf_ent F)), (20, (spec_PotentialOf_ent F)), (21, (impl_SumOf_ent F)), (22, (impl_CountTiles_ent F)), (23, (impl_HighestTile_ent F)), (24, (impl_EmptyCells_ent F)), (25, (impl_MergersOf_ent F))]
theorem laws_FnSums_tabok (F : Nat) : TabOK Try.prog (laws_FnSums_tab F) := (tab_cons (laws_vBig_meets F) laws_vBig_fok (tab_cons (spec_DrawLeastTiles_meets F) spec_DrawLeastTiles_fok (tab_cons (impl_LeastTiles_meets F) impl_LeastTiles_fok (tab_cons (spec_LeastTiles_meets F) spec_LeastTiles_fok (tab_cons (impl_PackedBoard_meets F) impl_PackedBoard_fok (tab_cons (spec_PackedBoard_meets F) spec_PackedBoard_fok (tab_cons (impl_HighestFor_meets F) impl_HighestFor_fok (tab_cons (spec_HighestFor_meets F) spec_HighestFor_fok (tab_cons (laws_vCut_meets F) laws_vCut_fok (tab_cons (spec_DrawIsPossible_meets F) spec_DrawIsPossible_fok (tab_cons (impl_IsPossible_meets F) impl_IsPossible_fok (tab_cons (spec_IsPossible_meets F) spec_IsPossible_fok (tab_cons (spec_DrawMergersLeft_meets F) spec_DrawMergersLeft_fok (tab_cons (impl_MergersLeft_meets F) impl_MergersLeft_fok (tab_cons (spec_MergersLeft_meets F) spec_MergersLeft_fok (tab_cons (impl_PotentialOf_meets F) impl_PotentialOf_fok (tab_cons (spec_PotentialOf_meets F) spec_PotentialOf_fok (tab_cons (impl_SumOf_meets F) impl_SumOf_fok (tab_cons (impl_CountTiles_meets F) impl_CountTiles_fok (tab_cons (impl_HighestTile_meets F) impl_HighestTile_fok (tab_cons (impl_EmptyCells_meets F) impl_EmptyCells_fok (tab_cons (impl_MergersOf_meets F) impl_MergersOf_fok tab_nil))))))))))))))))))))))
noncomputable def laws_FnSums_LS0 (F : Nat) : LT := []
theorem laws_FnSums_lsok0 (F : Nat) : LoopsOK Try.prog (laws_FnSums_LS0 F) (bodyOf Try.f3) := loopsOK_nil
theorem laws_FnSums_keys : keysOK (bodyOf Try.f3) = true := by kernel_rfl
def laws_FnSums_st32 (n0 : Int) (many1 : Int) (may2 : Bool) (one3 : Bool) (left7 : Int) (two8 : Bool) (p9 : Int) (b14 : List Int) (counts15 : List Int) (t13 : Int) : St := ⟨expand 363 0 [16, 17, 18, 19, 22, 23, 24, 27, 33, 42] [(.int .i64 n0), (.int .i64 many1), (.bool may2), (.bool one3), (.ptr 0 0 0 16), (.int .i64 left7), (.bool two8), (.int .i64 p9), (.ptr 1 0 0 18), (.int .i64 t13)], [(.var 16 (.ri .i64 b14)), (.var 18 (.ri .i64 counts15))], 0, []⟩
def laws_FnSums_o32 (n0 : Int) (many1 : Int) (may2 : Bool) (one3 : Bool) (left7 : Int) (two8 : Bool) (p9 : Int) (b14 : List Int) (counts15 : List Int) (x : Bool) : GT := (.br x (.out (.ret ⟨expand 363 0 [2] [(.bool false)], [], 0, []⟩)) (.out (.exit 0 ⟨expand 363 0 [16, 17, 18, 19, 22, 23, 24, 27] [(.int .i64 n0), (.int .i64 many1), (.bool may2), (.bool one3), (.ptr 0 0 0 16), (.int .i64 left7), (.bool two8), (.int .i64 p9)], [(.var 16 (.ri .i64 b14))], 0, []⟩)))
def laws_FnSums_ls32 (F : Nat) : LoopS := ⟨363, [16, 17, 18, 19, 22, 23, 24, 27, 33, 42], [], [16, 17, 18, 19, 22, 23, 24, 27], [], [2], [], [], fun vals mem np killed => match vals, mem, np, killed with
  | [(.int .i64 n0), (.int .i64 many1), (.bool may2), (.bool one3), (.ptr 0 0 0 16), (.int .i64 left7), (.bool two8), (.int .i64 p9), (.ptr 1 0 0 18), (.int .i64 t13)], [(.var 16 (.ri .i64 b14)), (.var 18 (.ri .i64 counts15))], 0, [] => .br (laws_FnSums_l32 F n0 many1 may2 one3 left7 two8 p9 b14 counts15 t13).isSome (laws_FnSums_o32 n0 many1 may2 one3 left7 two8 p9 b14 counts15 ((laws_FnSums_l32 F n0 many1 may2 one3 left7 two8 p9 b14 counts15 t13).getD default)) .fail
  | _, _, _, _ => .fail⟩
theorem laws_FnSums_step32 (F : Nat) (n0 : Int) (many1 : Int) (may2 : Bool) (one3 : Bool) (left7 : Int) (two8 : Bool) (p9 : Int) (b14 : List Int) (counts15 : List Int) (t13 : Int) {R : Type} (k : Out → Option R) : stepS tt (laws_FnSums_tab F) (laws_FnSums_LS0 F) 70 (laws_FnSums_ls32 F) (loopAt 32 (bodyOf Try.f3)) (laws_FnSums_st32 n0 many1 may2 one3 left7 two8 p9 b14 counts15 t13) k = laws_FnSums_s32 F n0 many1 may2 one3 left7 two8 p9 b14 counts15 R t13 (fun s => k (.norm (laws_FnSums_st32 n0 many1 may2 one3 left7 two8 p9 b14 counts15 s))) (fun x => (laws_FnSums_o32 n0 many1 may2 one3 left7 two8 p9 b14 counts15 x).run k) := by kernel_rfl
theorem laws_FnSums_iter32 (F : Nat) (n0 : Int) (many1 : Int) (may2 : Bool) (one3 : Bool) (left7 : Int) (two8 : Bool) (p9 : Int) (b14 : List Int) (counts15 : List Int) {R : Type} (k : Out → Option R) : ∀ (n : Nat) (t13 : Int), iterS tt (laws_FnSums_tab F) (laws_FnSums_LS0 F) 70 (laws_FnSums_ls32 F) (loopAt 32 (bodyOf Try.f3)) n (laws_FnSums_st32 n0 many1 may2 one3 left7 two8 p9 b14 counts15 t13) k = loopC (laws_FnSums_s32 F n0 many1 may2 one3 left7 two8 p9 b14 counts15) n t13 (fun x => (laws_FnSums_o32 n0 many1 may2 one3 left7 two8 p9 b14 counts15 x).run k)
  | 0, t13 => rfl
  | n + 1, t13 => (iterS_succ tt (laws_FnSums_tab F) (laws_FnSums_LS0 F) 70 (laws_FnSums_ls32 F) (loopAt 32 (bodyOf Try.f3)) n (laws_FnSums_st32 n0 many1 may2 one3 left7 two8 p9 b14 counts15 t13) k).trans ((laws_FnSums_step32 F n0 many1 may2 one3 left7 two8 p9 b14 counts15 t13 (nextK (iterS tt (laws_FnSums_tab F) (laws_FnSums_LS0 F) 70 (laws_FnSums_ls32 F) (loopAt 32 (bodyOf Try.f3)) n) k)).trans (congrArg (fun kn => laws_FnSums_s32 F n0 many1 may2 one3 left7 two8 p9 b14 counts15 R t13 kn _) (funext (fun t13 => laws_FnSums_iter32 F n0 many1 may2 one3 left7 two8 p9 b14 counts15 k n t13))))
theorem laws_FnSums_lok32 (F : Nat) : LoopOK Try.prog (loopAt 32 (bodyOf Try.f3)) (laws_FnSums_ls32 F) := by
  refine loopOK_of mixed ttok deep (laws_FnSums_tabok F) (loopsOK_at (laws_FnSums_lsok0 F) 32) (fuel := 70) fun R vals mem np killed k x h => ?_
  simp only [laws_FnSums_ls32] at h
  split at h
  · rename_i n0 many1 may2 one3 left7 two8 p9 t13 b14 counts15
    simp only [GT.run] at h
    have hc := (cond_noneL h).1
    replace h := (cond_noneL h).2
    refine ⟨F, (laws_FnSums_iter32 F n0 many1 may2 one3 left7 two8 p9 b14 counts15 k F t13).trans ((loopC_use (laws_FnSums_s32_nat F n0 many1 may2 one3 left7 two8 p9 b14 counts15) hc _).trans h)⟩
  · simp only [GT.run] at h
    cases h
noncomputable def laws_FnSums_LS1 (F : Nat) : LT := (32, laws_FnSums_ls32 F) :: laws_FnSums_LS0 F
theorem laws_FnSums_lsok1 (F : Nat) : LoopsOK Try.prog (laws_FnSums_LS1 F) (bodyOf Try.f3) := loopsOK_cons laws_FnSums_keys (laws_FnSums_lok32 F) (laws_FnSums_lsok0 F)
def laws_FnSums_st46 (left3 : Int) (p4 : Int) (known5 : Bool) (empty7 : Nat) (told8 : Bool) (own9 : Int) (said10 : Bool) (b12 : List Int) (empty13 : List (List Int)) (d11 : Int) : St := ⟨expand 363 0 [22, 23, 27, 46, 47, 48, 49, 50, 51] [(.ptr 0 0 0 16), (.int .i64 left3), (.int .i64 p4), (.bool known5), (.sl 1 0 empty7), (.bool told8), (.int .i64 own9), (.bool said10), (.int .i64 d11)], [(.var 16 (.ri .i64 b12)), (.vec 43 (.rr 2 empty13))], 0, []⟩
def laws_FnSums_o46 (left3 : Int) (p4 : Int) (known5 : Bool) (empty7 : Nat) (told8 : Bool) (own9 : Int) (said10 : Bool) (b12 : List Int) (empty13 : List (List Int)) (x : Bool) : GT := (.br x (.out (.ret ⟨expand 363 0 [2] [(.bool false)], [], 0, []⟩)) (.out (.exit 2 ⟨expand 363 0 [23, 27, 46, 47, 48, 49, 50] [(.int .i64 left3), (.int .i64 p4), (.bool known5), (.sl 0 0 empty7), (.bool told8), (.int .i64 own9), (.bool said10)], [(.vec 43 (.rr 2 empty13))], 0, []⟩)))
def laws_FnSums_ls46 (F : Nat) : LoopS := ⟨363, [22, 23, 27, 46, 47, 48, 49, 50, 51], [], [23, 27, 46, 47, 48, 49, 50], [], [2], [], [], fun vals mem np killed => match vals, mem, np, killed with
  | [(.ptr 0 0 0 16), (.int .i64 left3), (.int .i64 p4), (.bool known5), (.sl 1 0 empty7), (.bool told8), (.int .i64 own9), (.bool said10), (.int .i64 d11)], [(.var 16 (.ri .i64 b12)), (.vec 43 (.rr 2 empty13))], 0, [] => .br (laws_FnSums_l46 F left3 p4 known5 empty7 told8 own9 said10 b12 empty13 d11).isSome (laws_FnSums_o46 left3 p4 known5 empty7 told8 own9 said10 b12 empty13 ((laws_FnSums_l46 F left3 p4 known5 empty7 told8 own9 said10 b12 empty13 d11).getD default)) .fail
  | _, _, _, _ => .fail⟩
theorem laws_FnSums_step46 (F : Nat) (left3 : Int) (p4 : Int) (known5 : Bool) (empty7 : Nat) (told8 : Bool) (own9 : Int) (said10 : Bool) (b12 : List Int) (empty13 : List (List Int)) (d11 : Int) {R : Type} (k : Out → Option R) : stepS tt (laws_FnSums_tab F) (laws_FnSums_LS1 F) 70 (laws_FnSums_ls46 F) (loopAt 46 (bodyOf Try.f3)) (laws_FnSums_st46 left3 p4 known5 empty7 told8 own9 said10 b12 empty13 d11) k = laws_FnSums_s46 F left3 p4 known5 empty7 told8 own9 said10 b12 empty13 R d11 (fun s => k (.norm (laws_FnSums_st46 left3 p4 known5 empty7 told8 own9 said10 b12 empty13 s))) (fun x => (laws_FnSums_o46 left3 p4 known5 empty7 told8 own9 said10 b12 empty13 x).run k) := by kernel_rfl
theorem laws_FnSums_iter46 (F : Nat) (left3 : Int) (p4 : Int) (known5 : Bool) (empty7 : Nat) (told8 : Bool) (own9 : Int) (said10 : Bool) (b12 : List Int) (empty13 : List (List Int)) {R : Type} (k : Out → Option R) : ∀ (n : Nat) (d11 : Int), iterS tt (laws_FnSums_tab F) (laws_FnSums_LS1 F) 70 (laws_FnSums_ls46 F) (loopAt 46 (bodyOf Try.f3)) n (laws_FnSums_st46 left3 p4 known5 empty7 told8 own9 said10 b12 empty13 d11) k = loopC (laws_FnSums_s46 F left3 p4 known5 empty7 told8 own9 said10 b12 empty13) n d11 (fun x => (laws_FnSums_o46 left3 p4 known5 empty7 told8 own9 said10 b12 empty13 x).run k)
  | 0, d11 => rfl
  | n + 1, d11 => (iterS_succ tt (laws_FnSums_tab F) (laws_FnSums_LS1 F) 70 (laws_FnSums_ls46 F) (loopAt 46 (bodyOf Try.f3)) n (laws_FnSums_st46 left3 p4 known5 empty7 told8 own9 said10 b12 empty13 d11) k).trans ((laws_FnSums_step46 F left3 p4 known5 empty7 told8 own9 said10 b12 empty13 d11 (nextK (iterS tt (laws_FnSums_tab F) (laws_FnSums_LS1 F) 70 (laws_FnSums_ls46 F) (loopAt 46 (bodyOf Try.f3)) n) k)).trans (congrArg (fun kn => laws_FnSums_s46 F left3 p4 known5 empty7 told8 own9 said10 b12 empty13 R d11 kn _) (funext (fun d11 => laws_FnSums_iter46 F left3 p4 known5 empty7 told8 own9 said10 b12 empty13 k n d11))))
theorem laws_FnSums_lok46 (F : Nat) : LoopOK Try.prog (loopAt 46 (bodyOf Try.f3)) (laws_FnSums_ls46 F) := by
  refine loopOK_of mixed ttok deep (laws_FnSums_tabok F) (loopsOK_at (laws_FnSums_lsok1 F) 46) (fuel := 70) fun R vals mem np killed k x h => ?_
  simp only [laws_FnSums_ls46] at h
  split at h
  · rename_i left3 p4 known5 empty7 told8 own9 said10 d11 b12 empty13
    simp only [GT.run] at h
    have hc := (cond_noneL h).1
    replace h := (cond_noneL h).2
    refine ⟨F, (laws_FnSums_iter46 F left3 p4 known5 empty7 told8 own9 said10 b12 empty13 k F d11).trans ((loopC_use (laws_FnSums_s46_nat F left3 p4 known5 empty7 told8 own9 said10 b12 empty13) hc _).trans h)⟩
  · simp only [GT.run] at h
    cases h
noncomputable def laws_FnSums_LS2 (F : Nat) : LT := (46, laws_FnSums_ls46 F) :: laws_FnSums_LS1 F
theorem laws_FnSums_lsok2 (F : Nat) : LoopsOK Try.prog (laws_FnSums_LS2 F) (bodyOf Try.f3) := loopsOK_cons laws_FnSums_keys (laws_FnSums_lok46 F) (laws_FnSums_lsok1 F)
theorem laws_FnSums_run (F : Nat) (code0 : List Int) : runS tt (laws_FnSums_tab F) (laws_FnSums_LS2 F) [] [] Try.f3 (bodyOf Try.f3) 70 [(.ri .u8 code0)] [] = laws_FnSums_c _ F code0 (fun r => some ⟨(.bool r), [], []⟩) := by kernel_rfl
def laws_FnSums_ent (F : Nat) : Ent := ⟨[], .quiet, fun args mem => match args, mem with
  | [(.ri .u8 code0)], [] => some ((laws_FnSums_p F code0).isSome, ⟨(.bool ((laws_FnSums_p F code0).getD default)), [], []⟩)
  | _, _ => none⟩
theorem laws_FnSums_fok : FunOK Try.prog 3 := funOK Try.func3 (by kernel_rfl) rfl
theorem laws_FnSums_meets (F : Nat) : Meets Try.prog 3 (laws_FnSums_ent F) := by
  refine meets_of_runS mixed ttok deep (laws_FnSums_tabok F) Try.func3 (body_some rfl) (laws_FnSums_lsok2 F) fun args mem hfit ret h => ?_
  clear hfit
  simp only [laws_FnSums_ent] at h
  split at h
  · rename_i code0
    simp only [Option.some.injEq, Prod.mk.injEq] at h
    obtain ⟨hc, rfl⟩ := h
    exact ⟨[], [], 70, _, (laws_FnSums_run F code0).trans ((laws_FnSums_cp _ F code0 _).trans (bind_use hc _)), rfl, rfl, rfl⟩
  · cases h
end Go.Proofs.Ytabfliifleonaaa
