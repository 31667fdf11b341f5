/-
Pure functions and what the code of them does, by program; without conditions.
-/
import Derived.Test.YtkclnchkemacgaaTJP2
import Derived.Test.YtkclnchkemacgaaTJS1
namespace Go.Proofs.Ytkclnchkemacgaa
open Go Go.Lv Go.Lv.P Go.Proofs
set_option linter.unusedVariables false
set_option linter.unusedSimpArgs false
set_option maxRecDepth 100000
/-! loop.example/g01194/impl.tiles -/
noncomputable def impl_tiles_tab (F : Nat) : Tab := [(30, (slices_Clone_intint_ent F)), (78, (slices_DeleteFunc_intint_impl_tiles_f1_ent F))]
theorem impl_tiles_tabok (F : Nat) : TabOK Try.prog (impl_tiles_tab F) := (tab_cons (slices_Clone_intint_meets F) slices_Clone_intint_fok (tab_cons (slices_DeleteFunc_intint_impl_tiles_f1_meets F) slices_DeleteFunc_intint_impl_tiles_f1_fok tab_nil))
noncomputable def impl_tiles_LS0 (F : Nat) : LT := []
theorem impl_tiles_lsok0 (F : Nat) : LoopsOK Try.prog (impl_tiles_LS0 F) (bodyOf Try.f75) := loopsOK_nil
theorem impl_tiles_run (F : Nat) (row0 : List Int) : runS tt (impl_tiles_tab F) (impl_tiles_LS0 F) [] [] Try.f75 (bodyOf Try.f75) 70 [(.ints 4 row0)] [] = impl_tiles_c _ F row0 (fun r => some ⟨(.sl 0 0 r.1), [(.vec 3 (.ri .i64 r.2))], []⟩) := by kernel_rfl
def impl_tiles_ent (F : Nat) : Ent := ⟨[], .fresh, fun args mem => match args, mem with
  | [(.ints 4 row0)], [] => some ((impl_tiles_p F row0).isSome, ⟨(.sl 0 0 ((impl_tiles_p F row0).getD default).1), [(.vec 3 (.ri .i64 ((impl_tiles_p F row0).getD default).2))], []⟩)
  | _, _ => none⟩
theorem impl_tiles_fok : FunOK Try.prog 75 := funOK Try.func75 (by kernel_rfl) rfl
theorem impl_tiles_meets (F : Nat) : Meets Try.prog 75 (impl_tiles_ent F) := by
  refine meets_of_runS mixed ttok deep (impl_tiles_tabok F) Try.func75 (body_some rfl) (impl_tiles_lsok0 F) fun args mem hfit ret h => ?_
  clear hfit
  simp only [impl_tiles_ent] at h
  split at h
  · rename_i row0
    simp only [Option.some.injEq, Prod.mk.injEq] at h
    obtain ⟨hc, rfl⟩ := h
    exact ⟨[], [], 70, _, (impl_tiles_run F row0).trans ((impl_tiles_cp _ F row0 _).trans (bind_use hc _)), rfl, rfl, rfl⟩
  · cases h

/-! loop.example/g01194/impl.slideRow -/
noncomputable def impl_slideRow_tab (F : Nat) : Tab := [(75, (impl_tiles_ent F)), (60, (impl_worth_ent F))]
theorem impl_slideRow_tabok (F : Nat) : TabOK Try.prog (impl_slideRow_tab F) := (tab_cons (impl_tiles_meets F) impl_tiles_fok (tab_cons (impl_worth_meets F) impl_worth_fok tab_nil))
noncomputable def impl_slideRow_LS0 (F : Nat) : LT := []
theorem impl_slideRow_lsok0 (F : Nat) : LoopsOK Try.prog (impl_slideRow_LS0 F) (bodyOf Try.f69) := loopsOK_nil
theorem impl_slideRow_keys : keysOK (bodyOf Try.f69) = true := by kernel_rfl
def impl_slideRow_st3 (t1415 : Nat) (t1516 : Int) (t1422 : List Int) (score12 : Int) (many13 : Int) (t1617 : Int) (out20 : List Int) (merged21 : List Bool) : St := ⟨expand 63 0 [2, 4, 5, 6, 7, 8, 14, 15, 16] [(.ptr 0 0 0 4), (.ptr 1 0 0 4), (.ptr 2 0 0 4), (.ptr 3 0 0 4), (.int .i64 score12), (.int .i64 many13), (.sl 4 0 t1415), (.int .i64 t1516), (.int .i64 t1617)], [(.var 4 (.ri .i64 [(0 : Int), (0 : Int), (0 : Int), (0 : Int)])), (.var 4 (.rb [false, false, false, false])), (.var 4 (.ri .i64 out20)), (.var 4 (.rb merged21)), (.vec 3 (.ri .i64 t1422))], 0, []⟩
def impl_slideRow_o3 (t1415 : Nat) (t1516 : Int) (t1422 : List Int) (x : Int × List Int × List Bool) : GT := (.out (.exit 0 ⟨expand 63 0 [2, 4, 5, 6, 7] [(.ptr 0 0 0 4), (.ptr 1 0 0 4), (.ptr 2 0 0 4), (.ptr 3 0 0 4), (.int .i64 x.1)], [(.var 4 (.ri .i64 [(0 : Int), (0 : Int), (0 : Int), (0 : Int)])), (.var 4 (.rb [false, false, false, false])), (.var 4 (.ri .i64 x.2.1)), (.var 4 (.rb x.2.2))], 0, []⟩))
def impl_slideRow_ls3 (F : Nat) : LoopS := ⟨63, [2, 4, 5, 6, 7, 8, 14, 15, 16], [], [2, 4, 5, 6, 7], [], [2, 3, 4], [], [], fun vals mem np killed => match vals, mem, np, killed with
  | [(.ptr 0 0 0 4), (.ptr 1 0 0 4), (.ptr 2 0 0 4), (.ptr 3 0 0 4), (.int .i64 score12), (.int .i64 many13), (.sl 4 0 t1415), (.int .i64 t1516), (.int .i64 t1617)], [(.var 4 (.ri .i64 q_t218)), (.var 4 (.rb q_t419)), (.var 4 (.ri .i64 out20)), (.var 4 (.rb merged21)), (.vec 3 (.ri .i64 t1422))], 0, [] => .br ((q_t218 == ([(0 : Int), (0 : Int), (0 : Int), (0 : Int)] : List Int)) && ((q_t419 == ([false, false, false, false] : List Bool)) && (impl_slideRow_l3 F t1415 t1516 t1422 score12 many13 t1617 out20 merged21).isSome)) (impl_slideRow_o3 t1415 t1516 t1422 ((impl_slideRow_l3 F t1415 t1516 t1422 score12 many13 t1617 out20 merged21).getD default)) .fail
  | _, _, _, _ => .fail⟩
theorem impl_slideRow_step3 (F : Nat) (t1415 : Nat) (t1516 : Int) (t1422 : List Int) (score12 : Int) (many13 : Int) (t1617 : Int) (out20 : List Int) (merged21 : List Bool) {R : Type} (k : Out → Option R) : stepS tt (impl_slideRow_tab F) (impl_slideRow_LS0 F) 70 (impl_slideRow_ls3 F) (loopAt 3 (bodyOf Try.f69)) (impl_slideRow_st3 t1415 t1516 t1422 score12 many13 t1617 out20 merged21) k = impl_slideRow_s3 F t1415 t1516 t1422 R (score12, many13, t1617, out20, merged21) (fun s => k (.norm (impl_slideRow_st3 t1415 t1516 t1422 s.1 s.2.1 s.2.2.1 s.2.2.2.1 s.2.2.2.2))) (fun x => (impl_slideRow_o3 t1415 t1516 t1422 x).run k) := by kernel_rfl
theorem impl_slideRow_iter3 (F : Nat) (t1415 : Nat) (t1516 : Int) (t1422 : List Int) {R : Type} (k : Out → Option R) : ∀ (n : Nat) (score12 : Int) (many13 : Int) (t1617 : Int) (out20 : List Int) (merged21 : List Bool), iterS tt (impl_slideRow_tab F) (impl_slideRow_LS0 F) 70 (impl_slideRow_ls3 F) (loopAt 3 (bodyOf Try.f69)) n (impl_slideRow_st3 t1415 t1516 t1422 score12 many13 t1617 out20 merged21) k = loopC (impl_slideRow_s3 F t1415 t1516 t1422) n (score12, many13, t1617, out20, merged21) (fun x => (impl_slideRow_o3 t1415 t1516 t1422 x).run k)
  | 0, score12, many13, t1617, out20, merged21 => rfl
  | n + 1, score12, many13, t1617, out20, merged21 => (iterS_succ tt (impl_slideRow_tab F) (impl_slideRow_LS0 F) 70 (impl_slideRow_ls3 F) (loopAt 3 (bodyOf Try.f69)) n (impl_slideRow_st3 t1415 t1516 t1422 score12 many13 t1617 out20 merged21) k).trans ((impl_slideRow_step3 F t1415 t1516 t1422 score12 many13 t1617 out20 merged21 (nextK (iterS tt (impl_slideRow_tab F) (impl_slideRow_LS0 F) 70 (impl_slideRow_ls3 F) (loopAt 3 (bodyOf Try.f69)) n) k)).trans (congrArg (fun kn => impl_slideRow_s3 F t1415 t1516 t1422 R (score12, many13, t1617, out20, merged21) kn _) (funext (fun ⟨score12, many13, t1617, out20, merged21⟩ => impl_slideRow_iter3 F t1415 t1516 t1422 k n score12 many13 t1617 out20 merged21))))
theorem impl_slideRow_lok3 (F : Nat) : LoopOK Try.prog (loopAt 3 (bodyOf Try.f69)) (impl_slideRow_ls3 F) := by
  refine loopOK_of mixed ttok deep (impl_slideRow_tabok F) (loopsOK_at (impl_slideRow_lsok0 F) 3) (fuel := 70) fun R vals mem np killed k x h => ?_
  simp only [impl_slideRow_ls3] at h
  split at h
  · rename_i score12 many13 t1415 t1516 t1617 q_t218 q_t419 out20 merged21 t1422
    simp only [GT.run] at h
    have hc := (cond_noneL h).1
    replace h := (cond_noneL h).2
    have hg := (and_split hc).1
    replace hc := (and_split hc).2
    obtain rfl := beq_li hg
    have hg := (and_split hc).1
    replace hc := (and_split hc).2
    obtain rfl := beq_lb hg
    refine ⟨F, (impl_slideRow_iter3 F t1415 t1516 t1422 k F score12 many13 t1617 out20 merged21).trans ((loopC_use (impl_slideRow_s3_nat F t1415 t1516 t1422) hc _).trans h)⟩
  · simp only [GT.run] at h
    cases h
noncomputable def impl_slideRow_LS1 (F : Nat) : LT := (3, impl_slideRow_ls3 F) :: impl_slideRow_LS0 F
theorem impl_slideRow_lsok1 (F : Nat) : LoopsOK Try.prog (impl_slideRow_LS1 F) (bodyOf Try.f69) := loopsOK_cons impl_slideRow_keys (impl_slideRow_lok3 F) (impl_slideRow_lsok0 F)
theorem impl_slideRow_run (F : Nat) (row0 : List Int) : runS tt (impl_slideRow_tab F) (impl_slideRow_LS1 F) [] [] Try.f69 (bodyOf Try.f69) 70 [(.ints 4 row0)] [] = impl_slideRow_c _ F row0 (fun r => some ⟨(.tup [(.ints 4 r.1), (.int .i64 r.2.1), (.bools 4 r.2.2)]), [], []⟩) := by kernel_rfl
def impl_slideRow_ent (F : Nat) : Ent := ⟨[], .quiet, fun args mem => match args, mem with
  | [(.ints 4 row0)], [] => some ((impl_slideRow_p F row0).isSome, ⟨(.tup [(.ints 4 ((impl_slideRow_p F row0).getD default).1), (.int .i64 ((impl_slideRow_p F row0).getD default).2.1), (.bools 4 ((impl_slideRow_p F row0).getD default).2.2)]), [], []⟩)
  | _, _ => none⟩
theorem impl_slideRow_fok : FunOK Try.prog 69 := funOK Try.func69 (by kernel_rfl) rfl
theorem impl_slideRow_meets (F : Nat) : Meets Try.prog 69 (impl_slideRow_ent F) := by
  refine meets_of_runS mixed ttok deep (impl_slideRow_tabok F) Try.func69 (body_some rfl) (impl_slideRow_lsok1 F) fun args mem hfit ret h => ?_
  clear hfit
  simp only [impl_slideRow_ent] at h
  split at h
  · rename_i row0
    simp only [Option.some.injEq, Prod.mk.injEq] at h
    obtain ⟨hc, rfl⟩ := h
    exact ⟨[], [], 70, _, (impl_slideRow_run F row0).trans ((impl_slideRow_cp _ F row0 _).trans (bind_use hc _)), rfl, rfl, rfl⟩
  · cases h

/-! (loop.example/g01194/impl.Board).withLine -/
noncomputable def impl_Board_withLine_tab (F : Nat) : Tab := [(76, (impl_lineCell_ent F)), (47, (impl_Board_at_ent F))]
theorem impl_Board_withLine_tabok (F : Nat) : TabOK Try.prog (impl_Board_withLine_tab F) := (tab_cons (impl_lineCell_meets F) impl_lineCell_fok (tab_cons (impl_Board_at_meets F) impl_Board_at_fok tab_nil))
noncomputable def impl_Board_withLine_LS0 (F : Nat) : LT := []
theorem impl_Board_withLine_lsok0 (F : Nat) : LoopsOK Try.prog (impl_Board_withLine_LS0 F) (bodyOf Try.f71) := loopsOK_nil
theorem impl_Board_withLine_run (F : Nat) (b0 : List Int) (direction1 : Int) (i2 : Int) (row3 : List Int) : runS tt (impl_Board_withLine_tab F) (impl_Board_withLine_LS0 F) [] [] Try.f71 (bodyOf Try.f71) 70 [(.ints 16 b0), (.int .i64 direction1), (.int .i64 i2), (.ints 4 row3)] [] = impl_Board_withLine_c _ b0 direction1 i2 row3 (fun r => some ⟨(.ints 16 r), [], []⟩) := by kernel_rfl
def impl_Board_withLine_ent (F : Nat) : Ent := ⟨[], .quiet, fun args mem => match args, mem with
  | [(.ints 16 b0), (.int .i64 direction1), (.int .i64 i2), (.ints 4 row3)], [] => some ((impl_Board_withLine_p b0 direction1 i2 row3).isSome, ⟨(.ints 16 ((impl_Board_withLine_p b0 direction1 i2 row3).getD default)), [], []⟩)
  | _, _ => none⟩
theorem impl_Board_withLine_fok : FunOK Try.prog 71 := funOK Try.func71 (by kernel_rfl) rfl
theorem impl_Board_withLine_meets (F : Nat) : Meets Try.prog 71 (impl_Board_withLine_ent F) := by
  refine meets_of_runS mixed ttok deep (impl_Board_withLine_tabok F) Try.func71 (body_some rfl) (impl_Board_withLine_lsok0 F) fun args mem hfit ret h => ?_
  clear hfit
  simp only [impl_Board_withLine_ent] at h
  split at h
  · rename_i b0 direction1 i2 row3
    simp only [Option.some.injEq, Prod.mk.injEq] at h
    obtain ⟨hc, rfl⟩ := h
    exact ⟨[], [], 70, _, (impl_Board_withLine_run F b0 direction1 i2 row3).trans ((impl_Board_withLine_cp _ b0 direction1 i2 row3 _).trans (bind_use hc _)), rfl, rfl, rfl⟩
  · cases h

/-! (loop.example/g01194/impl.Board).slide -/
noncomputable def impl_Board_slide_tab (F : Nat) : Tab := [(70, (impl_Board_line_ent F)), (69, (impl_slideRow_ent F)), (71, (impl_Board_withLine_ent F))]
theorem impl_Board_slide_tabok (F : Nat) : TabOK Try.prog (impl_Board_slide_tab F) := (tab_cons (impl_Board_line_meets F) impl_Board_line_fok (tab_cons (impl_slideRow_meets F) impl_slideRow_fok (tab_cons (impl_Board_withLine_meets F) impl_Board_withLine_fok tab_nil)))
noncomputable def impl_Board_slide_LS0 (F : Nat) : LT := []
theorem impl_Board_slide_lsok0 (F : Nat) : LoopsOK Try.prog (impl_Board_slide_LS0 F) (bodyOf Try.f59) := loopsOK_nil
theorem impl_Board_slide_keys : keysOK (bodyOf Try.f59) = true := by kernel_rfl
def impl_Board_slide_st8 (direction0 : Int) (score10 : Int) (t1712 : Int) (t3713 : List Bool) (b15 : List Int) (out17 : List Int) (mergers11 : Int) (t3814 : Int) : St := ⟨expand 49 0 [1, 2, 4, 7, 8, 9, 17, 37, 38] [(.int .i64 direction0), (.ptr 0 0 0 16), (.ptr 1 0 0 16), (.ptr 2 0 0 16), (.int .i64 score10), (.int .i64 mergers11), (.int .i64 t1712), (.bools 4 t3713), (.int .i64 t3814)], [(.var 16 (.ri .i64 b15)), (.var 16 (.ri .i64 [(0 : Int), (0 : Int), (0 : Int), (0 : Int), (0 : Int), (0 : Int), (0 : Int), (0 : Int), (0 : Int), (0 : Int), (0 : Int), (0 : Int), (0 : Int), (0 : Int), (0 : Int), (0 : Int)])), (.var 16 (.ri .i64 out17))], 0, []⟩
def impl_Board_slide_o8 (direction0 : Int) (score10 : Int) (t1712 : Int) (t3713 : List Bool) (b15 : List Int) (out17 : List Int) (x : Int) : GT := (.out (.exit 2 ⟨expand 49 0 [1, 2, 4, 7, 8, 9, 17] [(.int .i64 direction0), (.ptr 0 0 0 16), (.ptr 1 0 0 16), (.ptr 2 0 0 16), (.int .i64 score10), (.int .i64 x), (.int .i64 t1712)], [(.var 16 (.ri .i64 b15)), (.var 16 (.ri .i64 [(0 : Int), (0 : Int), (0 : Int), (0 : Int), (0 : Int), (0 : Int), (0 : Int), (0 : Int), (0 : Int), (0 : Int), (0 : Int), (0 : Int), (0 : Int), (0 : Int), (0 : Int), (0 : Int)])), (.var 16 (.ri .i64 out17))], 0, []⟩))
def impl_Board_slide_ls8 (F : Nat) : LoopS := ⟨49, [1, 2, 4, 7, 8, 9, 17, 37, 38], [], [1, 2, 4, 7, 8, 9, 17], [], [4, 5, 6], [], [], fun vals mem np killed => match vals, mem, np, killed with
  | [(.int .i64 direction0), (.ptr 0 0 0 16), (.ptr 1 0 0 16), (.ptr 2 0 0 16), (.int .i64 score10), (.int .i64 mergers11), (.int .i64 t1712), (.bools 4 t3713), (.int .i64 t3814)], [(.var 16 (.ri .i64 b15)), (.var 16 (.ri .i64 q_t416)), (.var 16 (.ri .i64 out17))], 0, [] => .br ((q_t416 == ([(0 : Int), (0 : Int), (0 : Int), (0 : Int), (0 : Int), (0 : Int), (0 : Int), (0 : Int), (0 : Int), (0 : Int), (0 : Int), (0 : Int), (0 : Int), (0 : Int), (0 : Int), (0 : Int)] : List Int)) && (impl_Board_slide_l8 F direction0 score10 t1712 t3713 b15 out17 mergers11 t3814).isSome) (impl_Board_slide_o8 direction0 score10 t1712 t3713 b15 out17 ((impl_Board_slide_l8 F direction0 score10 t1712 t3713 b15 out17 mergers11 t3814).getD default)) .fail
  | _, _, _, _ => .fail⟩
theorem impl_Board_slide_step8 (F : Nat) (direction0 : Int) (score10 : Int) (t1712 : Int) (t3713 : List Bool) (b15 : List Int) (out17 : List Int) (mergers11 : Int) (t3814 : Int) {R : Type} (k : Out → Option R) : stepS tt (impl_Board_slide_tab F) (impl_Board_slide_LS0 F) 70 (impl_Board_slide_ls8 F) (loopAt 8 (bodyOf Try.f59)) (impl_Board_slide_st8 direction0 score10 t1712 t3713 b15 out17 mergers11 t3814) k = impl_Board_slide_s8 F direction0 score10 t1712 t3713 b15 out17 R (mergers11, t3814) (fun s => k (.norm (impl_Board_slide_st8 direction0 score10 t1712 t3713 b15 out17 s.1 s.2))) (fun x => (impl_Board_slide_o8 direction0 score10 t1712 t3713 b15 out17 x).run k) := by kernel_rfl
theorem impl_Board_slide_iter8 (F : Nat) (direction0 : Int) (score10 : Int) (t1712 : Int) (t3713 : List Bool) (b15 : List Int) (out17 : List Int) {R : Type} (k : Out → Option R) : ∀ (n : Nat) (mergers11 : Int) (t3814 : Int), iterS tt (impl_Board_slide_tab F) (impl_Board_slide_LS0 F) 70 (impl_Board_slide_ls8 F) (loopAt 8 (bodyOf Try.f59)) n (impl_Board_slide_st8 direction0 score10 t1712 t3713 b15 out17 mergers11 t3814) k = loopC (impl_Board_slide_s8 F direction0 score10 t1712 t3713 b15 out17) n (mergers11, t3814) (fun x => (impl_Board_slide_o8 direction0 score10 t1712 t3713 b15 out17 x).run k)
  | 0, mergers11, t3814 => rfl
  | n + 1, mergers11, t3814 => (iterS_succ tt (impl_Board_slide_tab F) (impl_Board_slide_LS0 F) 70 (impl_Board_slide_ls8 F) (loopAt 8 (bodyOf Try.f59)) n (impl_Board_slide_st8 direction0 score10 t1712 t3713 b15 out17 mergers11 t3814) k).trans ((impl_Board_slide_step8 F direction0 score10 t1712 t3713 b15 out17 mergers11 t3814 (nextK (iterS tt (impl_Board_slide_tab F) (impl_Board_slide_LS0 F) 70 (impl_Board_slide_ls8 F) (loopAt 8 (bodyOf Try.f59)) n) k)).trans (congrArg (fun kn => impl_Board_slide_s8 F direction0 score10 t1712 t3713 b15 out17 R (mergers11, t3814) kn _) (funext (fun ⟨mergers11, t3814⟩ => impl_Board_slide_iter8 F direction0 score10 t1712 t3713 b15 out17 k n mergers11 t3814))))
theorem impl_Board_slide_lok8 (F : Nat) : LoopOK Try.prog (loopAt 8 (bodyOf Try.f59)) (impl_Board_slide_ls8 F) := by
  refine loopOK_of mixed ttok deep (impl_Board_slide_tabok F) (loopsOK_at (impl_Board_slide_lsok0 F) 8) (fuel := 70) fun R vals mem np killed k x h => ?_
  simp only [impl_Board_slide_ls8] at h
  split at h
  · rename_i direction0 score10 mergers11 t1712 t3713 t3814 b15 q_t416 out17
    simp only [GT.run] at h
    have hc := (cond_noneL h).1
    replace h := (cond_noneL h).2
    have hg := (and_split hc).1
    replace hc := (and_split hc).2
    obtain rfl := beq_li hg
    refine ⟨F, (impl_Board_slide_iter8 F direction0 score10 t1712 t3713 b15 out17 k F mergers11 t3814).trans ((loopC_use (impl_Board_slide_s8_nat F direction0 score10 t1712 t3713 b15 out17) hc _).trans h)⟩
  · simp only [GT.run] at h
    cases h
noncomputable def impl_Board_slide_LS1 (F : Nat) : LT := (8, impl_Board_slide_ls8 F) :: impl_Board_slide_LS0 F
theorem impl_Board_slide_lsok1 (F : Nat) : LoopsOK Try.prog (impl_Board_slide_LS1 F) (bodyOf Try.f59) := loopsOK_cons impl_Board_slide_keys (impl_Board_slide_lok8 F) (impl_Board_slide_lsok0 F)
def impl_Board_slide_st3 (direction0 : Int) (b13 : List Int) (score10 : Int) (mergers11 : Int) (t1712 : Int) (out15 : List Int) : St := ⟨expand 49 0 [1, 2, 4, 7, 8, 9, 17] [(.int .i64 direction0), (.ptr 0 0 0 16), (.ptr 1 0 0 16), (.ptr 2 0 0 16), (.int .i64 score10), (.int .i64 mergers11), (.int .i64 t1712)], [(.var 16 (.ri .i64 b13)), (.var 16 (.ri .i64 [(0 : Int), (0 : Int), (0 : Int), (0 : Int), (0 : Int), (0 : Int), (0 : Int), (0 : Int), (0 : Int), (0 : Int), (0 : Int), (0 : Int), (0 : Int), (0 : Int), (0 : Int), (0 : Int)])), (.var 16 (.ri .i64 out15))], 0, []⟩
def impl_Board_slide_o3 (direction0 : Int) (b13 : List Int) (x : Int × Int × List Int) : GT := (.out (.exit 0 ⟨expand 49 0 [4, 7, 8, 9] [(.ptr 0 0 0 16), (.ptr 1 0 0 16), (.int .i64 x.1), (.int .i64 x.2.1)], [(.var 16 (.ri .i64 [(0 : Int), (0 : Int), (0 : Int), (0 : Int), (0 : Int), (0 : Int), (0 : Int), (0 : Int), (0 : Int), (0 : Int), (0 : Int), (0 : Int), (0 : Int), (0 : Int), (0 : Int), (0 : Int)])), (.var 16 (.ri .i64 x.2.2))], 0, []⟩))
def impl_Board_slide_ls3 (F : Nat) : LoopS := ⟨49, [1, 2, 4, 7, 8, 9, 17], [], [4, 7, 8, 9], [], [4, 5, 6], [], [], fun vals mem np killed => match vals, mem, np, killed with
  | [(.int .i64 direction0), (.ptr 0 0 0 16), (.ptr 1 0 0 16), (.ptr 2 0 0 16), (.int .i64 score10), (.int .i64 mergers11), (.int .i64 t1712)], [(.var 16 (.ri .i64 b13)), (.var 16 (.ri .i64 q_t414)), (.var 16 (.ri .i64 out15))], 0, [] => .br ((q_t414 == ([(0 : Int), (0 : Int), (0 : Int), (0 : Int), (0 : Int), (0 : Int), (0 : Int), (0 : Int), (0 : Int), (0 : Int), (0 : Int), (0 : Int), (0 : Int), (0 : Int), (0 : Int), (0 : Int)] : List Int)) && (impl_Board_slide_l3 F direction0 b13 score10 mergers11 t1712 out15).isSome) (impl_Board_slide_o3 direction0 b13 ((impl_Board_slide_l3 F direction0 b13 score10 mergers11 t1712 out15).getD default)) .fail
  | _, _, _, _ => .fail⟩
theorem impl_Board_slide_step3 (F : Nat) (direction0 : Int) (b13 : List Int) (score10 : Int) (mergers11 : Int) (t1712 : Int) (out15 : List Int) {R : Type} (k : Out → Option R) : stepS tt (impl_Board_slide_tab F) (impl_Board_slide_LS1 F) 70 (impl_Board_slide_ls3 F) (loopAt 3 (bodyOf Try.f59)) (impl_Board_slide_st3 direction0 b13 score10 mergers11 t1712 out15) k = impl_Board_slide_s3 F direction0 b13 R (score10, mergers11, t1712, out15) (fun s => k (.norm (impl_Board_slide_st3 direction0 b13 s.1 s.2.1 s.2.2.1 s.2.2.2))) (fun x => (impl_Board_slide_o3 direction0 b13 x).run k) := by kernel_rfl
theorem impl_Board_slide_iter3 (F : Nat) (direction0 : Int) (b13 : List Int) {R : Type} (k : Out → Option R) : ∀ (n : Nat) (score10 : Int) (mergers11 : Int) (t1712 : Int) (out15 : List Int), iterS tt (impl_Board_slide_tab F) (impl_Board_slide_LS1 F) 70 (impl_Board_slide_ls3 F) (loopAt 3 (bodyOf Try.f59)) n (impl_Board_slide_st3 direction0 b13 score10 mergers11 t1712 out15) k = loopC (impl_Board_slide_s3 F direction0 b13) n (score10, mergers11, t1712, out15) (fun x => (impl_Board_slide_o3 direction0 b13 x).run k)
  | 0, score10, mergers11, t1712, out15 => rfl
  | n + 1, score10, mergers11, t1712, out15 => (iterS_succ tt (impl_Board_slide_tab F) (impl_Board_slide_LS1 F) 70 (impl_Board_slide_ls3 F) (loopAt 3 (bodyOf Try.f59)) n (impl_Board_slide_st3 direction0 b13 score10 mergers11 t1712 out15) k).trans ((impl_Board_slide_step3 F direction0 b13 score10 mergers11 t1712 out15 (nextK (iterS tt (impl_Board_slide_tab F) (impl_Board_slide_LS1 F) 70 (impl_Board_slide_ls3 F) (loopAt 3 (bodyOf Try.f59)) n) k)).trans (congrArg (fun kn => impl_Board_slide_s3 F direction0 b13 R (score10, mergers11, t1712, out15) kn _) (funext (fun ⟨score10, mergers11, t1712, out15⟩ => impl_Board_slide_iter3 F direction0 b13 k n score10 mergers11 t1712 out15))))
theorem impl_Board_slide_lok3 (F : Nat) : LoopOK Try.prog (loopAt 3 (bodyOf Try.f59)) (impl_Board_slide_ls3 F) := by
  refine loopOK_of mixed ttok deep (impl_Board_slide_tabok F) (loopsOK_at (impl_Board_slide_lsok1 F) 3) (fuel := 70) fun R vals mem np killed k x h => ?_
  simp only [impl_Board_slide_ls3] at h
  split at h
  · rename_i direction0 score10 mergers11 t1712 b13 q_t414 out15
    simp only [GT.run] at h
    have hc := (cond_noneL h).1
    replace h := (cond_noneL h).2
    have hg := (and_split hc).1
    replace hc := (and_split hc).2
    obtain rfl := beq_li hg
    refine ⟨F, (impl_Board_slide_iter3 F direction0 b13 k F score10 mergers11 t1712 out15).trans ((loopC_use (impl_Board_slide_s3_nat F direction0 b13) hc _).trans h)⟩
  · simp only [GT.run] at h
    cases h
noncomputable def impl_Board_slide_LS2 (F : Nat) : LT := (3, impl_Board_slide_ls3 F) :: impl_Board_slide_LS1 F
theorem impl_Board_slide_lsok2 (F : Nat) : LoopsOK Try.prog (impl_Board_slide_LS2 F) (bodyOf Try.f59) := loopsOK_cons impl_Board_slide_keys (impl_Board_slide_lok3 F) (impl_Board_slide_lsok1 F)
theorem impl_Board_slide_run (F : Nat) (b0 : List Int) (direction1 : Int) : runS tt (impl_Board_slide_tab F) (impl_Board_slide_LS2 F) [] [] Try.f59 (bodyOf Try.f59) 70 [(.ints 16 b0), (.int .i64 direction1)] [] = impl_Board_slide_c _ F b0 direction1 (fun r => some ⟨(.tup [(.ints 16 r.1), (.int .i64 r.2.1), (.int .i64 r.2.2)]), [], []⟩) := by kernel_rfl
def impl_Board_slide_ent (F : Nat) : Ent := ⟨[], .quiet, fun args mem => match args, mem with
  | [(.ints 16 b0), (.int .i64 direction1)], [] => some ((impl_Board_slide_p F b0 direction1).isSome, ⟨(.tup [(.ints 16 ((impl_Board_slide_p F b0 direction1).getD default).1), (.int .i64 ((impl_Board_slide_p F b0 direction1).getD default).2.1), (.int .i64 ((impl_Board_slide_p F b0 direction1).getD default).2.2)]), [], []⟩)
  | _, _ => none⟩
theorem impl_Board_slide_fok : FunOK Try.prog 59 := funOK Try.func59 (by kernel_rfl) rfl
theorem impl_Board_slide_meets (F : Nat) : Meets Try.prog 59 (impl_Board_slide_ent F) := by
  refine meets_of_runS mixed ttok deep (impl_Board_slide_tabok F) Try.func59 (body_some rfl) (impl_Board_slide_lsok2 F) fun args mem hfit ret h => ?_
  clear hfit
  simp only [impl_Board_slide_ent] at h
  split at h
  · rename_i b0 direction1
    simp only [Option.some.injEq, Prod.mk.injEq] at h
    obtain ⟨hc, rfl⟩ := h
    exact ⟨[], [], 70, _, (impl_Board_slide_run F b0 direction1).trans ((impl_Board_slide_cp _ F b0 direction1 _).trans (bind_use hc _)), rfl, rfl, rfl⟩
  · cases h

/-! (loop.example/g01194/impl.Board).slides -/
noncomputable def impl_Board_slides_tab (F : Nat) : Tab := [(59, (impl_Board_slide_ent F))]
theorem impl_Board_slides_tabok (F : Nat) : TabOK Try.prog (impl_Board_slides_tab F) := (tab_cons (impl_Board_slide_meets F) impl_Board_slide_fok tab_nil)
noncomputable def impl_Board_slides_LS0 (F : Nat) : LT := []
theorem impl_Board_slides_lsok0 (F : Nat) : LoopsOK Try.prog (impl_Board_slides_LS0 F) (bodyOf Try.f45) := loopsOK_nil
theorem impl_Board_slides_keys : keysOK (bodyOf Try.f45) = true := by kernel_rfl
def impl_Board_slides_st2 (t76 : List Int) (t87 : Int) (t98 : Int) (b9 : List Int) : St := ⟨expand 22 0 [2, 4, 7, 8, 9] [(.ptr 0 0 0 16), (.ptr 1 0 0 16), (.ri .i64 t76), (.int .i64 t87), (.int .i64 t98)], [(.var 16 (.ri .i64 b9)), (.var 16 (.ri .i64 [(0 : Int), (0 : Int), (0 : Int), (0 : Int), (0 : Int), (0 : Int), (0 : Int), (0 : Int), (0 : Int), (0 : Int), (0 : Int), (0 : Int), (0 : Int), (0 : Int), (0 : Int), (0 : Int)]))], 0, []⟩
def impl_Board_slides_o2 (t76 : List Int) (t87 : Int) (x : List Int) : GT := (.out (.exit 0 ⟨expand 22 0 [2, 4] [(.ptr 0 0 0 16), (.ptr 1 0 0 16)], [(.var 16 (.ri .i64 x)), (.var 16 (.ri .i64 [(0 : Int), (0 : Int), (0 : Int), (0 : Int), (0 : Int), (0 : Int), (0 : Int), (0 : Int), (0 : Int), (0 : Int), (0 : Int), (0 : Int), (0 : Int), (0 : Int), (0 : Int), (0 : Int)]))], 0, []⟩))
def impl_Board_slides_ls2 (F : Nat) : LoopS := ⟨22, [2, 4, 7, 8, 9], [], [2, 4], [], [4], [], [], fun vals mem np killed => match vals, mem, np, killed with
  | [(.ptr 0 0 0 16), (.ptr 1 0 0 16), (.ri .i64 t76), (.int .i64 t87), (.int .i64 t98)], [(.var 16 (.ri .i64 b9)), (.var 16 (.ri .i64 q_t410))], 0, [] => .br ((q_t410 == ([(0 : Int), (0 : Int), (0 : Int), (0 : Int), (0 : Int), (0 : Int), (0 : Int), (0 : Int), (0 : Int), (0 : Int), (0 : Int), (0 : Int), (0 : Int), (0 : Int), (0 : Int), (0 : Int)] : List Int)) && (impl_Board_slides_l2 F t76 t87 t98 b9).isSome) (impl_Board_slides_o2 t76 t87 ((impl_Board_slides_l2 F t76 t87 t98 b9).getD default)) .fail
  | _, _, _, _ => .fail⟩
theorem impl_Board_slides_step2 (F : Nat) (t76 : List Int) (t87 : Int) (t98 : Int) (b9 : List Int) {R : Type} (k : Out → Option R) : stepS tt (impl_Board_slides_tab F) (impl_Board_slides_LS0 F) 70 (impl_Board_slides_ls2 F) (loopAt 2 (bodyOf Try.f45)) (impl_Board_slides_st2 t76 t87 t98 b9) k = impl_Board_slides_s2 F t76 t87 R (t98, b9) (fun s => k (.norm (impl_Board_slides_st2 t76 t87 s.1 s.2))) (fun x => (impl_Board_slides_o2 t76 t87 x).run k) := by kernel_rfl
theorem impl_Board_slides_iter2 (F : Nat) (t76 : List Int) (t87 : Int) {R : Type} (k : Out → Option R) : ∀ (n : Nat) (t98 : Int) (b9 : List Int), iterS tt (impl_Board_slides_tab F) (impl_Board_slides_LS0 F) 70 (impl_Board_slides_ls2 F) (loopAt 2 (bodyOf Try.f45)) n (impl_Board_slides_st2 t76 t87 t98 b9) k = loopC (impl_Board_slides_s2 F t76 t87) n (t98, b9) (fun x => (impl_Board_slides_o2 t76 t87 x).run k)
  | 0, t98, b9 => rfl
  | n + 1, t98, b9 => (iterS_succ tt (impl_Board_slides_tab F) (impl_Board_slides_LS0 F) 70 (impl_Board_slides_ls2 F) (loopAt 2 (bodyOf Try.f45)) n (impl_Board_slides_st2 t76 t87 t98 b9) k).trans ((impl_Board_slides_step2 F t76 t87 t98 b9 (nextK (iterS tt (impl_Board_slides_tab F) (impl_Board_slides_LS0 F) 70 (impl_Board_slides_ls2 F) (loopAt 2 (bodyOf Try.f45)) n) k)).trans (congrArg (fun kn => impl_Board_slides_s2 F t76 t87 R (t98, b9) kn _) (funext (fun ⟨t98, b9⟩ => impl_Board_slides_iter2 F t76 t87 k n t98 b9))))
theorem impl_Board_slides_lok2 (F : Nat) : LoopOK Try.prog (loopAt 2 (bodyOf Try.f45)) (impl_Board_slides_ls2 F) := by
  refine loopOK_of mixed ttok deep (impl_Board_slides_tabok F) (loopsOK_at (impl_Board_slides_lsok0 F) 2) (fuel := 70) fun R vals mem np killed k x h => ?_
  simp only [impl_Board_slides_ls2] at h
  split at h
  · rename_i t76 t87 t98 b9 q_t410
    simp only [GT.run] at h
    have hc := (cond_noneL h).1
    replace h := (cond_noneL h).2
    have hg := (and_split hc).1
    replace hc := (and_split hc).2
    obtain rfl := beq_li hg
    refine ⟨F, (impl_Board_slides_iter2 F t76 t87 k F t98 b9).trans ((loopC_use (impl_Board_slides_s2_nat F t76 t87) hc _).trans h)⟩
  · simp only [GT.run] at h
    cases h
noncomputable def impl_Board_slides_LS1 (F : Nat) : LT := (2, impl_Board_slides_ls2 F) :: impl_Board_slides_LS0 F
theorem impl_Board_slides_lsok1 (F : Nat) : LoopsOK Try.prog (impl_Board_slides_LS1 F) (bodyOf Try.f45) := loopsOK_cons impl_Board_slides_keys (impl_Board_slides_lok2 F) (impl_Board_slides_lsok0 F)
theorem impl_Board_slides_run (F : Nat) (b0 : List Int) (list1 : List Int) : runS tt (impl_Board_slides_tab F) (impl_Board_slides_LS1 F) [] [] Try.f45 (bodyOf Try.f45) 70 [(.ints 16 b0), (.ri .i64 list1)] [] = impl_Board_slides_c _ F b0 list1 (fun r => some ⟨(.ints 16 r), [], []⟩) := by kernel_rfl
def impl_Board_slides_ent (F : Nat) : Ent := ⟨[], .quiet, fun args mem => match args, mem with
  | [(.ints 16 b0), (.ri .i64 list1)], [] => some ((impl_Board_slides_p F b0 list1).isSome, ⟨(.ints 16 ((impl_Board_slides_p F b0 list1).getD default)), [], []⟩)
  | _, _ => none⟩
theorem impl_Board_slides_fok : FunOK Try.prog 45 := funOK Try.func45 (by kernel_rfl) rfl
theorem impl_Board_slides_meets (F : Nat) : Meets Try.prog 45 (impl_Board_slides_ent F) := by
  refine meets_of_runS mixed ttok deep (impl_Board_slides_tabok F) Try.func45 (body_some rfl) (impl_Board_slides_lsok1 F) fun args mem hfit ret h => ?_
  clear hfit
  simp only [impl_Board_slides_ent] at h
  split at h
  · rename_i b0 list1
    simp only [Option.some.injEq, Prod.mk.injEq] at h
    obtain ⟨hc, rfl⟩ := h
    exact ⟨[], [], 70, _, (impl_Board_slides_run F b0 list1).trans ((impl_Board_slides_cp _ F b0 list1 _).trans (bind_use hc _)), rfl, rfl, rfl⟩
  · cases h

/-! (loop.example/g01194/impl.Board).reach -/
noncomputable def impl_Board_reach_tab (F : Nat) : Tab := [(45, (impl_Board_slides_ent F)), (30, (slices_Clone_intint_ent F))]
theorem impl_Board_reach_tabok (F : Nat) : TabOK Try.prog (impl_Board_reach_tab F) := (tab_cons (impl_Board_slides_meets F) impl_Board_slides_fok (tab_cons (slices_Clone_intint_meets F) slices_Clone_intint_fok tab_nil))
noncomputable def impl_Board_reach_LS0 (F : Nat) : LT := []
theorem impl_Board_reach_lsok0 (F : Nat) : LoopsOK Try.prog (impl_Board_reach_LS0 F) (bodyOf Try.f27) := loopsOK_nil
theorem impl_Board_reach_keys : keysOK (bodyOf Try.f27) = true := by kernel_rfl
def impl_Board_reach_st8 (n0 : Int) (from3 : Int) (own10 : List Int) (t367 : Int) (lists8 : List (List Int × List Int)) (order9 : List (List Int)) : St := ⟨expand 67 0 [1, 6, 7, 8, 9, 36] [(.int .i64 n0), (.map 0), (.sl 1 0 (List.length order9)), (.int .i64 from3), (.ptr 2 0 0 16), (.int .i64 t367)], [(.map 16 (.ls .i64 lists8)), (.vec 28 (.rr 16 order9)), (.var 16 (.ri .i64 own10))], 0, []⟩
def impl_Board_reach_o8 (n0 : Int) (from3 : Int) (own10 : List Int) (x : List (List Int × List Int) × List (List Int)) : GT := (.out (.exit 2 ⟨expand 67 0 [1, 6, 7, 8] [(.int .i64 n0), (.map 0), (.sl 1 0 (List.length x.2)), (.int .i64 from3)], [(.map 16 (.ls .i64 x.1)), (.vec 28 (.rr 16 x.2))], 0, []⟩))
def impl_Board_reach_ls8 (F : Nat) : LoopS := ⟨67, [1, 6, 7, 8, 9, 36], [], [1, 6, 7, 8], [], [4, 5], [], [], fun vals mem np killed => match vals, mem, np, killed with
  | [(.int .i64 n0), (.map 0), (.sl 1 0 q_order2), (.int .i64 from3), (.ptr 2 0 0 16), (.int .i64 t367)], [(.map 16 (.ls .i64 lists8)), (.vec 28 (.rr 16 order9)), (.var 16 (.ri .i64 own10))], 0, [] => .br ((Nat.beq q_order2 (List.length order9)) && (impl_Board_reach_l8 F n0 from3 own10 t367 lists8 order9).isSome) (impl_Board_reach_o8 n0 from3 own10 ((impl_Board_reach_l8 F n0 from3 own10 t367 lists8 order9).getD default)) .fail
  | _, _, _, _ => .fail⟩
theorem impl_Board_reach_step8 (F : Nat) (n0 : Int) (from3 : Int) (own10 : List Int) (t367 : Int) (lists8 : List (List Int × List Int)) (order9 : List (List Int)) {R : Type} (k : Out → Option R) : stepS tt (impl_Board_reach_tab F) (impl_Board_reach_LS0 F) 70 (impl_Board_reach_ls8 F) (loopAt 8 (bodyOf Try.f27)) (impl_Board_reach_st8 n0 from3 own10 t367 lists8 order9) k = impl_Board_reach_s8 F n0 from3 own10 R (t367, lists8, order9) (fun s => k (.norm (impl_Board_reach_st8 n0 from3 own10 s.1 s.2.1 s.2.2))) (fun x => (impl_Board_reach_o8 n0 from3 own10 x).run k) := by kernel_rfl
theorem impl_Board_reach_iter8 (F : Nat) (n0 : Int) (from3 : Int) (own10 : List Int) {R : Type} (k : Out → Option R) : ∀ (n : Nat) (t367 : Int) (lists8 : List (List Int × List Int)) (order9 : List (List Int)), iterS tt (impl_Board_reach_tab F) (impl_Board_reach_LS0 F) 70 (impl_Board_reach_ls8 F) (loopAt 8 (bodyOf Try.f27)) n (impl_Board_reach_st8 n0 from3 own10 t367 lists8 order9) k = loopC (impl_Board_reach_s8 F n0 from3 own10) n (t367, lists8, order9) (fun x => (impl_Board_reach_o8 n0 from3 own10 x).run k)
  | 0, t367, lists8, order9 => rfl
  | n + 1, t367, lists8, order9 => (iterS_succ tt (impl_Board_reach_tab F) (impl_Board_reach_LS0 F) 70 (impl_Board_reach_ls8 F) (loopAt 8 (bodyOf Try.f27)) n (impl_Board_reach_st8 n0 from3 own10 t367 lists8 order9) k).trans ((impl_Board_reach_step8 F n0 from3 own10 t367 lists8 order9 (nextK (iterS tt (impl_Board_reach_tab F) (impl_Board_reach_LS0 F) 70 (impl_Board_reach_ls8 F) (loopAt 8 (bodyOf Try.f27)) n) k)).trans (congrArg (fun kn => impl_Board_reach_s8 F n0 from3 own10 R (t367, lists8, order9) kn _) (funext (fun ⟨t367, lists8, order9⟩ => impl_Board_reach_iter8 F n0 from3 own10 k n t367 lists8 order9))))
theorem impl_Board_reach_lok8 (F : Nat) : LoopOK Try.prog (loopAt 8 (bodyOf Try.f27)) (impl_Board_reach_ls8 F) := by
  refine loopOK_of mixed ttok deep (impl_Board_reach_tabok F) (loopsOK_at (impl_Board_reach_lsok0 F) 8) (fuel := 70) fun R vals mem np killed k x h => ?_
  simp only [impl_Board_reach_ls8] at h
  split at h
  · rename_i n0 q_order2 from3 t367 lists8 order9 own10
    simp only [GT.run] at h
    have hc := (cond_noneL h).1
    replace h := (cond_noneL h).2
    have hg := (and_split hc).1
    replace hc := (and_split hc).2
    obtain rfl := nbeq_nat hg
    refine ⟨F, (impl_Board_reach_iter8 F n0 from3 own10 k F t367 lists8 order9).trans ((loopC_use (impl_Board_reach_s8_nat F n0 from3 own10) hc _).trans h)⟩
  · simp only [GT.run] at h
    cases h
noncomputable def impl_Board_reach_LS1 (F : Nat) : LT := (8, impl_Board_reach_ls8 F) :: impl_Board_reach_LS0 F
theorem impl_Board_reach_lsok1 (F : Nat) : LoopsOK Try.prog (impl_Board_reach_LS1 F) (bodyOf Try.f27) := loopsOK_cons impl_Board_reach_keys (impl_Board_reach_lok8 F) (impl_Board_reach_lsok0 F)
def impl_Board_reach_st3 (n0 : Int) (from3 : Int) (lists4 : List (List Int × List Int)) (order5 : List (List Int)) : St := ⟨expand 67 0 [1, 6, 7, 8] [(.int .i64 n0), (.map 0), (.sl 1 0 (List.length order5)), (.int .i64 from3)], [(.map 16 (.ls .i64 lists4)), (.vec 28 (.rr 16 order5))], 0, []⟩
def impl_Board_reach_o3 (n0 : Int) (x : List (List Int × List Int) × List (List Int)) : GT := (.out (.exit 0 ⟨expand 67 0 [6, 7] [(.map 0), (.sl 1 0 (List.length x.2))], [(.map 16 (.ls .i64 x.1)), (.vec 28 (.rr 16 x.2))], 0, []⟩))
def impl_Board_reach_ls3 (F : Nat) : LoopS := ⟨67, [1, 6, 7, 8], [], [6, 7], [], [4, 5], [], [], fun vals mem np killed => match vals, mem, np, killed with
  | [(.int .i64 n0), (.map 0), (.sl 1 0 q_order2), (.int .i64 from3)], [(.map 16 (.ls .i64 lists4)), (.vec 28 (.rr 16 order5))], 0, [] => .br ((Nat.beq q_order2 (List.length order5)) && (impl_Board_reach_l3 F n0 from3 lists4 order5).isSome) (impl_Board_reach_o3 n0 ((impl_Board_reach_l3 F n0 from3 lists4 order5).getD default)) .fail
  | _, _, _, _ => .fail⟩
theorem impl_Board_reach_step3 (F : Nat) (n0 : Int) (from3 : Int) (lists4 : List (List Int × List Int)) (order5 : List (List Int)) {R : Type} (k : Out → Option R) : stepS tt (impl_Board_reach_tab F) (impl_Board_reach_LS1 F) 70 (impl_Board_reach_ls3 F) (loopAt 3 (bodyOf Try.f27)) (impl_Board_reach_st3 n0 from3 lists4 order5) k = impl_Board_reach_s3 F n0 R (from3, lists4, order5) (fun s => k (.norm (impl_Board_reach_st3 n0 s.1 s.2.1 s.2.2))) (fun x => (impl_Board_reach_o3 n0 x).run k) := by kernel_rfl
theorem impl_Board_reach_iter3 (F : Nat) (n0 : Int) {R : Type} (k : Out → Option R) : ∀ (n : Nat) (from3 : Int) (lists4 : List (List Int × List Int)) (order5 : List (List Int)), iterS tt (impl_Board_reach_tab F) (impl_Board_reach_LS1 F) 70 (impl_Board_reach_ls3 F) (loopAt 3 (bodyOf Try.f27)) n (impl_Board_reach_st3 n0 from3 lists4 order5) k = loopC (impl_Board_reach_s3 F n0) n (from3, lists4, order5) (fun x => (impl_Board_reach_o3 n0 x).run k)
  | 0, from3, lists4, order5 => rfl
  | n + 1, from3, lists4, order5 => (iterS_succ tt (impl_Board_reach_tab F) (impl_Board_reach_LS1 F) 70 (impl_Board_reach_ls3 F) (loopAt 3 (bodyOf Try.f27)) n (impl_Board_reach_st3 n0 from3 lists4 order5) k).trans ((impl_Board_reach_step3 F n0 from3 lists4 order5 (nextK (iterS tt (impl_Board_reach_tab F) (impl_Board_reach_LS1 F) 70 (impl_Board_reach_ls3 F) (loopAt 3 (bodyOf Try.f27)) n) k)).trans (congrArg (fun kn => impl_Board_reach_s3 F n0 R (from3, lists4, order5) kn _) (funext (fun ⟨from3, lists4, order5⟩ => impl_Board_reach_iter3 F n0 k n from3 lists4 order5))))
theorem impl_Board_reach_lok3 (F : Nat) : LoopOK Try.prog (loopAt 3 (bodyOf Try.f27)) (impl_Board_reach_ls3 F) := by
  refine loopOK_of mixed ttok deep (impl_Board_reach_tabok F) (loopsOK_at (impl_Board_reach_lsok1 F) 3) (fuel := 70) fun R vals mem np killed k x h => ?_
  simp only [impl_Board_reach_ls3] at h
  split at h
  · rename_i n0 q_order2 from3 lists4 order5
    simp only [GT.run] at h
    have hc := (cond_noneL h).1
    replace h := (cond_noneL h).2
    have hg := (and_split hc).1
    replace hc := (and_split hc).2
    obtain rfl := nbeq_nat hg
    refine ⟨F, (impl_Board_reach_iter3 F n0 k F from3 lists4 order5).trans ((loopC_use (impl_Board_reach_s3_nat F n0) hc _).trans h)⟩
  · simp only [GT.run] at h
    cases h
noncomputable def impl_Board_reach_LS2 (F : Nat) : LT := (3, impl_Board_reach_ls3 F) :: impl_Board_reach_LS1 F
theorem impl_Board_reach_lsok2 (F : Nat) : LoopsOK Try.prog (impl_Board_reach_LS2 F) (bodyOf Try.f27) := loopsOK_cons impl_Board_reach_keys (impl_Board_reach_lok3 F) (impl_Board_reach_lsok1 F)
theorem impl_Board_reach_run (F : Nat) (b0 : List Int) (n1 : Int) : runS tt (impl_Board_reach_tab F) (impl_Board_reach_LS2 F) [] [] Try.f27 (bodyOf Try.f27) 70 [(.ints 16 b0), (.int .i64 n1)] [] = impl_Board_reach_c _ F b0 n1 (fun r => some ⟨(.tup [(.map 0), (.sl 1 0 (List.length r.2))]), [(.map 16 (.ls .i64 r.1)), (.vec 28 (.rr 16 r.2))], []⟩) := by kernel_rfl
def impl_Board_reach_ent (F : Nat) : Ent := ⟨[], .fresh, fun args mem => match args, mem with
  | [(.ints 16 b0), (.int .i64 n1)], [] => some ((impl_Board_reach_p F b0 n1).isSome, ⟨(.tup [(.map 0), (.sl 1 0 (List.length ((impl_Board_reach_p F b0 n1).getD default).2))]), [(.map 16 (.ls .i64 ((impl_Board_reach_p F b0 n1).getD default).1)), (.vec 28 (.rr 16 ((impl_Board_reach_p F b0 n1).getD default).2))], []⟩)
  | _, _ => none⟩
theorem impl_Board_reach_fok : FunOK Try.prog 27 := funOK Try.func27 (by kernel_rfl) rfl
theorem impl_Board_reach_meets (F : Nat) : Meets Try.prog 27 (impl_Board_reach_ent F) := by
  refine meets_of_runS mixed ttok deep (impl_Board_reach_tabok F) Try.func27 (body_some rfl) (impl_Board_reach_lsok2 F) fun args mem hfit ret h => ?_
  clear hfit
  simp only [impl_Board_reach_ent] at h
  split at h
  · rename_i b0 n1
    simp only [Option.some.injEq, Prod.mk.injEq] at h
    obtain ⟨hc, rfl⟩ := h
    exact ⟨[], [], 70, _, (impl_Board_reach_run F b0 n1).trans ((impl_Board_reach_cp _ F b0 n1 _).trans (bind_use hc _)), rfl, rfl, rfl⟩
  · cases h

/-! (loop.example/g01194/impl.Board).roadTo -/
noncomputable def impl_Board_roadTo_tab (F : Nat) : Tab := [(26, (impl_IsBoard_ent F)), (40, (impl_Board_sum_ent F)), (27, (impl_Board_reach_ent F))]
theorem impl_Board_roadTo_tabok (F : Nat) : TabOK Try.prog (impl_Board_roadTo_tab F) := (tab_cons (impl_IsBoard_meets F) impl_IsBoard_fok (tab_cons (impl_Board_sum_meets F) impl_Board_sum_fok (tab_cons (impl_Board_reach_meets F) impl_Board_reach_fok tab_nil)))
noncomputable def impl_Board_roadTo_LS0 (F : Nat) : LT := []
theorem impl_Board_roadTo_lsok0 (F : Nat) : LoopsOK Try.prog (impl_Board_roadTo_LS0 F) (bodyOf Try.f23) := loopsOK_nil
theorem impl_Board_roadTo_run (F : Nat) (b0 : List Int) (c1 : List Int) : runS tt (impl_Board_roadTo_tab F) (impl_Board_roadTo_LS0 F) [⟨4, 0, (.tup [(.ri .i64 ([] : List Int))])⟩] [] Try.f23 (bodyOf Try.f23) 70 [(.ints 16 b0), (.ints 16 c1)] [] = impl_Board_roadTo_c _ F b0 c1 (fun r => some ⟨(.tup [(.ri .i64 r.1), (.bool r.2)]), [], []⟩) := by kernel_rfl
def impl_Board_roadTo_ent (F : Nat) : Ent := ⟨[], .quiet, fun args mem => match args, mem with
  | [(.ints 16 b0), (.ints 16 c1)], [] => some ((impl_Board_roadTo_p F b0 c1).isSome, ⟨(.tup [(.ri .i64 ((impl_Board_roadTo_p F b0 c1).getD default).1), (.bool ((impl_Board_roadTo_p F b0 c1).getD default).2)]), [], []⟩)
  | _, _ => none⟩
theorem impl_Board_roadTo_fok : FunOK Try.prog 23 := funOK Try.func23 (by kernel_rfl) rfl
theorem impl_Board_roadTo_meets (F : Nat) : Meets Try.prog 23 (impl_Board_roadTo_ent F) := by
  refine meets_of_runS mixed ttok deep (impl_Board_roadTo_tabok F) Try.func23 (body_some rfl) (impl_Board_roadTo_lsok0 F) fun args mem hfit ret h => ?_
  clear hfit
  simp only [impl_Board_roadTo_ent] at h
  split at h
  · rename_i b0 c1
    simp only [Option.some.injEq, Prod.mk.injEq] at h
    obtain ⟨hc, rfl⟩ := h
    exact ⟨[⟨4, 0, (.tup [(.ri .i64 ([] : List Int))])⟩], [], 70, _, (impl_Board_roadTo_run F b0 c1).trans ((impl_Board_roadTo_cp _ F b0 c1 _).trans (bind_use hc _)), rfl, rfl, rfl⟩
  · cases h

/-! loop.example/g01194/impl.FewestSlides -/
noncomputable def impl_FewestSlides_tab (F : Nat) : Tab := [(23, (impl_Board_roadTo_ent F))]
theorem impl_FewestSlides_tabok (F : Nat) : TabOK Try.prog (impl_FewestSlides_tab F) := (tab_cons (impl_Board_roadTo_meets F) impl_Board_roadTo_fok tab_nil)
noncomputable def impl_FewestSlides_LS0 (F : Nat) : LT := []
theorem impl_FewestSlides_lsok0 (F : Nat) : LoopsOK Try.prog (impl_FewestSlides_LS0 F) (bodyOf Try.f9) := loopsOK_nil
theorem impl_FewestSlides_run (F : Nat) (a0 : List Int) (b1 : List Int) : runS tt (impl_FewestSlides_tab F) (impl_FewestSlides_LS0 F) [] [] Try.f9 (bodyOf Try.f9) 70 [(.ints 16 a0), (.ints 16 b1)] [] = impl_FewestSlides_c _ F a0 b1 (fun r => some ⟨(.tup [(.int .i64 r.1), (.bool r.2)]), [], []⟩) := by kernel_rfl
def impl_FewestSlides_ent (F : Nat) : Ent := ⟨[], .quiet, fun args mem => match args, mem with
  | [(.ints 16 a0), (.ints 16 b1)], [] => some ((impl_FewestSlides_p F a0 b1).isSome, ⟨(.tup [(.int .i64 ((impl_FewestSlides_p F a0 b1).getD default).1), (.bool ((impl_FewestSlides_p F a0 b1).getD default).2)]), [], []⟩)
  | _, _ => none⟩
theorem impl_FewestSlides_fok : FunOK Try.prog 9 := funOK Try.func9 (by kernel_rfl) rfl
theorem impl_FewestSlides_meets (F : Nat) : Meets Try.prog 9 (impl_FewestSlides_ent F) := by
  refine meets_of_runS mixed ttok deep (impl_FewestSlides_tabok F) Try.func9 (body_some rfl) (impl_FewestSlides_lsok0 F) fun args mem hfit ret h => ?_
  clear hfit
  simp only [impl_FewestSlides_ent] at h
  split at h
  · rename_i a0 b1
    simp only [Option.some.injEq, Prod.mk.injEq] at h
    obtain ⟨hc, rfl⟩ := h
    exact ⟨[], [], 70, _, (impl_FewestSlides_run F a0 b1).trans ((impl_FewestSlides_cp _ F a0 b1 _).trans (bind_use hc _)), rfl, rfl, rfl⟩
  · cases h

/-! loop.example/g01194/laws.FnExactFewestSlides -/
noncomputable def laws_FnExactFewestSlides_tab (F : Nat) : Tab := [(8, (laws_toBoard_ent F)), (7, (spec_FewestSlides_ent F)), (9, (impl_FewestSlides_ent F))]
theorem laws_FnExactFewestSlides_tabok (F : Nat) : TabOK Try.prog (laws_FnExactFewestSlides_tab F) := (tab_cons (laws_toBoard_meets F) laws_toBoard_fok (tab_cons (spec_FewestSlides_meets F) spec_FewestSlides_fok (tab_cons (impl_FewestSlides_meets F) impl_FewestSlides_fok tab_nil)))
noncomputable def laws_FnExactFewestSlides_LS0 (F : Nat) : LT := []
theorem laws_FnExactFewestSlides_lsok0 (F : Nat) : LoopsOK Try.prog (laws_FnExactFewestSlides_LS0 F) (bodyOf Try.f3) := loopsOK_nil
theorem laws_FnExactFewestSlides_run (F : Nat) (aA0 : List Int) (aB1 : List Int) : runS tt (laws_FnExactFewestSlides_tab F) (laws_FnExactFewestSlides_LS0 F) [] [] Try.f3 (bodyOf Try.f3) 70 [(.ints 16 aA0), (.ints 16 aB1)] [] = laws_FnExactFewestSlides_c _ F aA0 aB1 (fun r => some ⟨(.bool r), [], []⟩) := by kernel_rfl
def laws_FnExactFewestSlides_ent (F : Nat) : Ent := ⟨[], .quiet, fun args mem => match args, mem with
  | [(.ints 16 aA0), (.ints 16 aB1)], [] => some ((laws_FnExactFewestSlides_p F aA0 aB1).isSome, ⟨(.bool ((laws_FnExactFewestSlides_p F aA0 aB1).getD default)), [], []⟩)
  | _, _ => none⟩
theorem laws_FnExactFewestSlides_fok : FunOK Try.prog 3 := funOK Try.func3 (by kernel_rfl) rfl
theorem laws_FnExactFewestSlides_meets (F : Nat) : Meets Try.prog 3 (laws_FnExactFewestSlides_ent F) := by
  refine meets_of_runS mixed ttok deep (laws_FnExactFewestSlides_tabok F) Try.func3 (body_some rfl) (laws_FnExactFewestSlides_lsok0 F) fun args mem hfit ret h => ?_
  clear hfit
  simp only [laws_FnExactFewestSlides_ent] at h
  split at h
  · rename_i aA0 aB1
    simp only [Option.some.injEq, Prod.mk.injEq] at h
    obtain ⟨hc, rfl⟩ := h
    exact ⟨[], [], 70, _, (laws_FnExactFewestSlides_run F aA0 aB1).trans ((laws_FnExactFewestSlides_cp _ F aA0 aB1 _).trans (bind_use hc _)), rfl, rfl, rfl⟩
  · cases h

/-! loop.example/g01194/spec.l5Reach -/
noncomputable def spec_l5Reach_tab (F : Nat) : Tab := [(38, (spec_l5Next_ent F))]
theorem spec_l5Reach_tabok (F : Nat) : TabOK Try.prog (spec_l5Reach_tab F) := (tab_cons (spec_l5Next_meets F) spec_l5Next_fok tab_nil)
noncomputable def spec_l5Reach_LS0 (F : Nat) : LT := []
theorem spec_l5Reach_lsok0 (F : Nat) : LoopsOK Try.prog (spec_l5Reach_LS0 F) (bodyOf Try.f24) := loopsOK_nil
theorem spec_l5Reach_keys : keysOK (bodyOf Try.f24) = true := by kernel_rfl
def spec_l5Reach_st3 (n0 : Int) (all1 : List (List Int)) (i2 : Int) : St := ⟨expand 17 0 [1, 5, 6] [(.int .i64 n0), (.rr 16 all1), (.int .i64 i2)], [], 0, []⟩
def spec_l5Reach_o3 (n0 : Int) (x : List (List Int)) : GT := (.out (.exit 0 ⟨expand 17 0 [5] [(.rr 16 x)], [], 0, []⟩))
def spec_l5Reach_ls3 (F : Nat) : LoopS := ⟨17, [1, 5, 6], [⟨5, 0, (.tup [])⟩], [5], [], [4], [], [], fun vals mem np killed => match vals, mem, np, killed with
  | [(.int .i64 n0), (.rr 16 all1), (.int .i64 i2)], [], 0, [] => .br (spec_l5Reach_l3 F n0 all1 i2).isSome (spec_l5Reach_o3 n0 ((spec_l5Reach_l3 F n0 all1 i2).getD default)) .fail
  | _, _, _, _ => .fail⟩
theorem spec_l5Reach_step3 (F : Nat) (n0 : Int) (all1 : List (List Int)) (i2 : Int) {R : Type} (k : Out → Option R) : stepS tt (spec_l5Reach_tab F) (spec_l5Reach_LS0 F) 70 (spec_l5Reach_ls3 F) (loopAt 3 (bodyOf Try.f24)) (spec_l5Reach_st3 n0 all1 i2) k = spec_l5Reach_s3 F n0 R (all1, i2) (fun s => k (.norm (spec_l5Reach_st3 n0 s.1 s.2))) (fun x => (spec_l5Reach_o3 n0 x).run k) := by kernel_rfl
theorem spec_l5Reach_iter3 (F : Nat) (n0 : Int) {R : Type} (k : Out → Option R) : ∀ (n : Nat) (all1 : List (List Int)) (i2 : Int), iterS tt (spec_l5Reach_tab F) (spec_l5Reach_LS0 F) 70 (spec_l5Reach_ls3 F) (loopAt 3 (bodyOf Try.f24)) n (spec_l5Reach_st3 n0 all1 i2) k = loopC (spec_l5Reach_s3 F n0) n (all1, i2) (fun x => (spec_l5Reach_o3 n0 x).run k)
  | 0, all1, i2 => rfl
  | n + 1, all1, i2 => (iterS_succ tt (spec_l5Reach_tab F) (spec_l5Reach_LS0 F) 70 (spec_l5Reach_ls3 F) (loopAt 3 (bodyOf Try.f24)) n (spec_l5Reach_st3 n0 all1 i2) k).trans ((spec_l5Reach_step3 F n0 all1 i2 (nextK (iterS tt (spec_l5Reach_tab F) (spec_l5Reach_LS0 F) 70 (spec_l5Reach_ls3 F) (loopAt 3 (bodyOf Try.f24)) n) k)).trans (congrArg (fun kn => spec_l5Reach_s3 F n0 R (all1, i2) kn _) (funext (fun ⟨all1, i2⟩ => spec_l5Reach_iter3 F n0 k n all1 i2))))
theorem spec_l5Reach_lok3 (F : Nat) : LoopOK Try.prog (loopAt 3 (bodyOf Try.f24)) (spec_l5Reach_ls3 F) := by
  refine loopOK_of mixed ttok deep (spec_l5Reach_tabok F) (loopsOK_at (spec_l5Reach_lsok0 F) 3) (fuel := 70) fun R vals mem np killed k x h => ?_
  simp only [spec_l5Reach_ls3] at h
  split at h
  · rename_i n0 all1 i2
    simp only [GT.run] at h
    have hc := (cond_noneL h).1
    replace h := (cond_noneL h).2
    refine ⟨F, (spec_l5Reach_iter3 F n0 k F all1 i2).trans ((loopC_use (spec_l5Reach_s3_nat F n0) hc _).trans h)⟩
  · simp only [GT.run] at h
    cases h
noncomputable def spec_l5Reach_LS1 (F : Nat) : LT := (3, spec_l5Reach_ls3 F) :: spec_l5Reach_LS0 F
theorem spec_l5Reach_lsok1 (F : Nat) : LoopsOK Try.prog (spec_l5Reach_LS1 F) (bodyOf Try.f24) := loopsOK_cons spec_l5Reach_keys (spec_l5Reach_lok3 F) (spec_l5Reach_lsok0 F)
theorem spec_l5Reach_run (F : Nat) (b0 : List Int) (n1 : Int) : runS tt (spec_l5Reach_tab F) (spec_l5Reach_LS1 F) [] [] Try.f24 (bodyOf Try.f24) 70 [(.ints 16 b0), (.int .i64 n1)] [] = spec_l5Reach_c _ F b0 n1 (fun r => some ⟨(.rr 16 r), [], []⟩) := by kernel_rfl
def spec_l5Reach_ent (F : Nat) : Ent := ⟨[], .quiet, fun args mem => match args, mem with
  | [(.ints 16 b0), (.int .i64 n1)], [] => some ((spec_l5Reach_p F b0 n1).isSome, ⟨(.rr 16 ((spec_l5Reach_p F b0 n1).getD default)), [], []⟩)
  | _, _ => none⟩
theorem spec_l5Reach_fok : FunOK Try.prog 24 := funOK Try.func24 (by kernel_rfl) rfl
theorem spec_l5Reach_meets (F : Nat) : Meets Try.prog 24 (spec_l5Reach_ent F) := by
  refine meets_of_runS mixed ttok deep (spec_l5Reach_tabok F) Try.func24 (body_some rfl) (spec_l5Reach_lsok1 F) fun args mem hfit ret h => ?_
  clear hfit
  simp only [spec_l5Reach_ent] at h
  split at h
  · rename_i b0 n1
    simp only [Option.some.injEq, Prod.mk.injEq] at h
    obtain ⟨hc, rfl⟩ := h
    exact ⟨[], [], 70, _, (spec_l5Reach_run F b0 n1).trans ((spec_l5Reach_cp _ F b0 n1 _).trans (bind_use hc _)), rfl, rfl, rfl⟩
  · cases h

/-! loop.example/g01194/spec.HighestTile -/
noncomputable def spec_HighestTile_tab (F : Nat) : Tab := [(19, (spec_l2Board_ent F))]
theorem spec_HighestTile_tabok (F : Nat) : TabOK Try.prog (spec_HighestTile_tab F) := (tab_cons (spec_l2Board_meets F) spec_l2Board_fok tab_nil)
noncomputable def spec_HighestTile_LS0 (F : Nat) : LT := []
theorem spec_HighestTile_lsok0 (F : Nat) : LoopsOK Try.prog (spec_HighestTile_LS0 F) (bodyOf Try.f41) := loopsOK_nil
theorem spec_HighestTile_keys : keysOK (bodyOf Try.f41) = true := by kernel_rfl
def spec_HighestTile_st8 (r10 : Int) (b12 : List Int) (best6 : Int) (c11 : Int) (cell14 : List Int) : St := ⟨expand 43 0 [1, 3, 5, 6, 7, 8] [(.ptr 0 0 0 16), (.ptr 1 0 0 2), (.int .i64 best6), (.ptr 2 0 0 2), (.int .i64 r10), (.int .i64 c11)], [(.var 16 (.ri .i64 b12)), (.var 2 (.ri .i64 [(0 : Int), (0 : Int)])), (.var 2 (.ri .i64 cell14))], 0, []⟩
def spec_HighestTile_o8 (r10 : Int) (b12 : List Int) (x : Int × List Int) : GT := (.out (.exit 2 ⟨expand 43 0 [1, 3, 5, 6, 7] [(.ptr 0 0 0 16), (.ptr 1 0 0 2), (.int .i64 x.1), (.ptr 2 0 0 2), (.int .i64 r10)], [(.var 16 (.ri .i64 b12)), (.var 2 (.ri .i64 [(0 : Int), (0 : Int)])), (.var 2 (.ri .i64 x.2))], 0, []⟩))
def spec_HighestTile_ls8 (F : Nat) : LoopS := ⟨43, [1, 3, 5, 6, 7, 8], [], [1, 3, 5, 6, 7], [], [2, 3, 4], [], [], fun vals mem np killed => match vals, mem, np, killed with
  | [(.ptr 0 0 0 16), (.ptr 1 0 0 2), (.int .i64 best6), (.ptr 2 0 0 2), (.int .i64 r10), (.int .i64 c11)], [(.var 16 (.ri .i64 b12)), (.var 2 (.ri .i64 q_t313)), (.var 2 (.ri .i64 cell14))], 0, [] => .br ((q_t313 == ([(0 : Int), (0 : Int)] : List Int)) && (spec_HighestTile_l8 F r10 b12 best6 c11 cell14).isSome) (spec_HighestTile_o8 r10 b12 ((spec_HighestTile_l8 F r10 b12 best6 c11 cell14).getD default)) .fail
  | _, _, _, _ => .fail⟩
theorem spec_HighestTile_step8 (F : Nat) (r10 : Int) (b12 : List Int) (best6 : Int) (c11 : Int) (cell14 : List Int) {R : Type} (k : Out → Option R) : stepS tt (spec_HighestTile_tab F) (spec_HighestTile_LS0 F) 70 (spec_HighestTile_ls8 F) (loopAt 8 (bodyOf Try.f41)) (spec_HighestTile_st8 r10 b12 best6 c11 cell14) k = spec_HighestTile_s8 F r10 b12 R (best6, c11, cell14) (fun s => k (.norm (spec_HighestTile_st8 r10 b12 s.1 s.2.1 s.2.2))) (fun x => (spec_HighestTile_o8 r10 b12 x).run k) := by kernel_rfl
theorem spec_HighestTile_iter8 (F : Nat) (r10 : Int) (b12 : List Int) {R : Type} (k : Out → Option R) : ∀ (n : Nat) (best6 : Int) (c11 : Int) (cell14 : List Int), iterS tt (spec_HighestTile_tab F) (spec_HighestTile_LS0 F) 70 (spec_HighestTile_ls8 F) (loopAt 8 (bodyOf Try.f41)) n (spec_HighestTile_st8 r10 b12 best6 c11 cell14) k = loopC (spec_HighestTile_s8 F r10 b12) n (best6, c11, cell14) (fun x => (spec_HighestTile_o8 r10 b12 x).run k)
  | 0, best6, c11, cell14 => rfl
  | n + 1, best6, c11, cell14 => (iterS_succ tt (spec_HighestTile_tab F) (spec_HighestTile_LS0 F) 70 (spec_HighestTile_ls8 F) (loopAt 8 (bodyOf Try.f41)) n (spec_HighestTile_st8 r10 b12 best6 c11 cell14) k).trans ((spec_HighestTile_step8 F r10 b12 best6 c11 cell14 (nextK (iterS tt (spec_HighestTile_tab F) (spec_HighestTile_LS0 F) 70 (spec_HighestTile_ls8 F) (loopAt 8 (bodyOf Try.f41)) n) k)).trans (congrArg (fun kn => spec_HighestTile_s8 F r10 b12 R (best6, c11, cell14) kn _) (funext (fun ⟨best6, c11, cell14⟩ => spec_HighestTile_iter8 F r10 b12 k n best6 c11 cell14))))
theorem spec_HighestTile_lok8 (F : Nat) : LoopOK Try.prog (loopAt 8 (bodyOf Try.f41)) (spec_HighestTile_ls8 F) := by
  refine loopOK_of mixed ttok deep (spec_HighestTile_tabok F) (loopsOK_at (spec_HighestTile_lsok0 F) 8) (fuel := 70) fun R vals mem np killed k x h => ?_
  simp only [spec_HighestTile_ls8] at h
  split at h
  · rename_i best6 r10 c11 b12 q_t313 cell14
    simp only [GT.run] at h
    have hc := (cond_noneL h).1
    replace h := (cond_noneL h).2
    have hg := (and_split hc).1
    replace hc := (and_split hc).2
    obtain rfl := beq_li hg
    refine ⟨F, (spec_HighestTile_iter8 F r10 b12 k F best6 c11 cell14).trans ((loopC_use (spec_HighestTile_s8_nat F r10 b12) hc _).trans h)⟩
  · simp only [GT.run] at h
    cases h
noncomputable def spec_HighestTile_LS1 (F : Nat) : LT := (8, spec_HighestTile_ls8 F) :: spec_HighestTile_LS0 F
theorem spec_HighestTile_lsok1 (F : Nat) : LoopsOK Try.prog (spec_HighestTile_LS1 F) (bodyOf Try.f41) := loopsOK_cons spec_HighestTile_keys (spec_HighestTile_lok8 F) (spec_HighestTile_lsok0 F)
def spec_HighestTile_st5 (b11 : List Int) (best6 : Int) (r10 : Int) (cell13 : List Int) : St := ⟨expand 43 0 [1, 3, 5, 6, 7] [(.ptr 0 0 0 16), (.ptr 1 0 0 2), (.int .i64 best6), (.ptr 2 0 0 2), (.int .i64 r10)], [(.var 16 (.ri .i64 b11)), (.var 2 (.ri .i64 [(0 : Int), (0 : Int)])), (.var 2 (.ri .i64 cell13))], 0, []⟩
def spec_HighestTile_o5 (b11 : List Int) (x : Int × List Int) : GT := (.out (.exit 0 ⟨expand 43 0 [3, 5, 6] [(.ptr 0 0 0 2), (.int .i64 x.1), (.ptr 1 0 0 2)], [(.var 2 (.ri .i64 [(0 : Int), (0 : Int)])), (.var 2 (.ri .i64 x.2))], 0, []⟩))
def spec_HighestTile_ls5 (F : Nat) : LoopS := ⟨43, [1, 3, 5, 6, 7], [], [3, 5, 6], [], [2, 3, 4], [], [], fun vals mem np killed => match vals, mem, np, killed with
  | [(.ptr 0 0 0 16), (.ptr 1 0 0 2), (.int .i64 best6), (.ptr 2 0 0 2), (.int .i64 r10)], [(.var 16 (.ri .i64 b11)), (.var 2 (.ri .i64 q_t312)), (.var 2 (.ri .i64 cell13))], 0, [] => .br ((q_t312 == ([(0 : Int), (0 : Int)] : List Int)) && (spec_HighestTile_l5 F b11 best6 r10 cell13).isSome) (spec_HighestTile_o5 b11 ((spec_HighestTile_l5 F b11 best6 r10 cell13).getD default)) .fail
  | _, _, _, _ => .fail⟩
theorem spec_HighestTile_step5 (F : Nat) (b11 : List Int) (best6 : Int) (r10 : Int) (cell13 : List Int) {R : Type} (k : Out → Option R) : stepS tt (spec_HighestTile_tab F) (spec_HighestTile_LS1 F) 70 (spec_HighestTile_ls5 F) (loopAt 5 (bodyOf Try.f41)) (spec_HighestTile_st5 b11 best6 r10 cell13) k = spec_HighestTile_s5 F b11 R (best6, r10, cell13) (fun s => k (.norm (spec_HighestTile_st5 b11 s.1 s.2.1 s.2.2))) (fun x => (spec_HighestTile_o5 b11 x).run k) := by kernel_rfl
theorem spec_HighestTile_iter5 (F : Nat) (b11 : List Int) {R : Type} (k : Out → Option R) : ∀ (n : Nat) (best6 : Int) (r10 : Int) (cell13 : List Int), iterS tt (spec_HighestTile_tab F) (spec_HighestTile_LS1 F) 70 (spec_HighestTile_ls5 F) (loopAt 5 (bodyOf Try.f41)) n (spec_HighestTile_st5 b11 best6 r10 cell13) k = loopC (spec_HighestTile_s5 F b11) n (best6, r10, cell13) (fun x => (spec_HighestTile_o5 b11 x).run k)
  | 0, best6, r10, cell13 => rfl
  | n + 1, best6, r10, cell13 => (iterS_succ tt (spec_HighestTile_tab F) (spec_HighestTile_LS1 F) 70 (spec_HighestTile_ls5 F) (loopAt 5 (bodyOf Try.f41)) n (spec_HighestTile_st5 b11 best6 r10 cell13) k).trans ((spec_HighestTile_step5 F b11 best6 r10 cell13 (nextK (iterS tt (spec_HighestTile_tab F) (spec_HighestTile_LS1 F) 70 (spec_HighestTile_ls5 F) (loopAt 5 (bodyOf Try.f41)) n) k)).trans (congrArg (fun kn => spec_HighestTile_s5 F b11 R (best6, r10, cell13) kn _) (funext (fun ⟨best6, r10, cell13⟩ => spec_HighestTile_iter5 F b11 k n best6 r10 cell13))))
theorem spec_HighestTile_lok5 (F : Nat) : LoopOK Try.prog (loopAt 5 (bodyOf Try.f41)) (spec_HighestTile_ls5 F) := by
  refine loopOK_of mixed ttok deep (spec_HighestTile_tabok F) (loopsOK_at (spec_HighestTile_lsok1 F) 5) (fuel := 70) fun R vals mem np killed k x h => ?_
  simp only [spec_HighestTile_ls5] at h
  split at h
  · rename_i best6 r10 b11 q_t312 cell13
    simp only [GT.run] at h
    have hc := (cond_noneL h).1
    replace h := (cond_noneL h).2
    have hg := (and_split hc).1
    replace hc := (and_split hc).2
    obtain rfl := beq_li hg
    refine ⟨F, (spec_HighestTile_iter5 F b11 k F best6 r10 cell13).trans ((loopC_use (spec_HighestTile_s5_nat F b11) hc _).trans h)⟩
  · simp only [GT.run] at h
    cases h
noncomputable def spec_HighestTile_LS2 (F : Nat) : LT := (5, spec_HighestTile_ls5 F) :: spec_HighestTile_LS1 F
theorem spec_HighestTile_lsok2 (F : Nat) : LoopsOK Try.prog (spec_HighestTile_LS2 F) (bodyOf Try.f41) := loopsOK_cons spec_HighestTile_keys (spec_HighestTile_lok5 F) (spec_HighestTile_lsok1 F)
theorem spec_HighestTile_run (F : Nat) (b0 : List Int) : runS tt (spec_HighestTile_tab F) (spec_HighestTile_LS2 F) [] [] Try.f41 (bodyOf Try.f41) 70 [(.ints 16 b0)] [] = spec_HighestTile_c _ F b0 (fun r => some ⟨(.tup [(.int .i64 r.1), (.ints 2 r.2.1), (.bool r.2.2)]), [], []⟩) := by kernel_rfl
def spec_HighestTile_ent (F : Nat) : Ent := ⟨[], .quiet, fun args mem => match args, mem with
  | [(.ints 16 b0)], [] => some ((spec_HighestTile_p F b0).isSome, ⟨(.tup [(.int .i64 ((spec_HighestTile_p F b0).getD default).1), (.ints 2 ((spec_HighestTile_p F b0).getD default).2.1), (.bool ((spec_HighestTile_p F b0).getD default).2.2)]), [], []⟩)
  | _, _ => none⟩
theorem spec_HighestTile_fok : FunOK Try.prog 41 := funOK Try.func41 (by kernel_rfl) rfl
theorem spec_HighestTile_meets (F : Nat) : Meets Try.prog 41 (spec_HighestTile_ent F) := by
  refine meets_of_runS mixed ttok deep (spec_HighestTile_tabok F) Try.func41 (body_some rfl) (spec_HighestTile_lsok2 F) fun args mem hfit ret h => ?_
  clear hfit
  simp only [spec_HighestTile_ent] at h
  split at h
  · rename_i b0
    simp only [Option.some.injEq, Prod.mk.injEq] at h
    obtain ⟨hc, rfl⟩ := h
    exact ⟨[], [], 70, _, (spec_HighestTile_run F b0).trans ((spec_HighestTile_cp _ F b0 _).trans (bind_use hc _)), rfl, rfl, rfl⟩
  · cases h

/-! loop.example/g01194/spec.l5Highest -/
noncomputable def spec_l5Highest_tab (F : Nat) : Tab := [(41, (spec_HighestTile_ent F))]
theorem spec_l5Highest_tabok (F : Nat) : TabOK Try.prog (spec_l5Highest_tab F) := (tab_cons (spec_HighestTile_meets F) spec_HighestTile_fok tab_nil)
noncomputable def spec_l5Highest_LS0 (F : Nat) : LT := []
theorem spec_l5Highest_lsok0 (F : Nat) : LoopsOK Try.prog (spec_l5Highest_LS0 F) (bodyOf Try.f25) := loopsOK_nil
theorem spec_l5Highest_run (F : Nat) (b0 : List Int) : runS tt (spec_l5Highest_tab F) (spec_l5Highest_LS0 F) [] [] Try.f25 (bodyOf Try.f25) 70 [(.ints 16 b0)] [] = spec_l5Highest_c _ F b0 (fun r => some ⟨(.int .i64 r), [], []⟩) := by kernel_rfl
def spec_l5Highest_ent (F : Nat) : Ent := ⟨[], .quiet, fun args mem => match args, mem with
  | [(.ints 16 b0)], [] => some ((spec_l5Highest_p F b0).isSome, ⟨(.int .i64 ((spec_l5Highest_p F b0).getD default)), [], []⟩)
  | _, _ => none⟩
theorem spec_l5Highest_fok : FunOK Try.prog 25 := funOK Try.func25 (by kernel_rfl) rfl
theorem spec_l5Highest_meets (F : Nat) : Meets Try.prog 25 (spec_l5Highest_ent F) := by
  refine meets_of_runS mixed ttok deep (spec_l5Highest_tabok F) Try.func25 (body_some rfl) (spec_l5Highest_lsok0 F) fun args mem hfit ret h => ?_
  clear hfit
  simp only [spec_l5Highest_ent] at h
  split at h
  · rename_i b0
    simp only [Option.some.injEq, Prod.mk.injEq] at h
    obtain ⟨hc, rfl⟩ := h
    exact ⟨[], [], 70, _, (spec_l5Highest_run F b0).trans ((spec_l5Highest_cp _ F b0 _).trans (bind_use hc _)), rfl, rfl, rfl⟩
  · cases h
end Go.Proofs.Ytkclnchkemacgaa
