/-
Pure functions and what the code of them does, by program; without conditions.
-/
import Derived.Test.YtabfliifleonaafQfP2
import Derived.Test.YtabfliifleonaafQfS1
namespace Go.Proofs.Ytabfliifleonaaf
open Go Go.Lv Go.Lv.P Go.Proofs
set_option linter.unusedVariables false
set_option linter.unusedSimpArgs false
set_option maxRecDepth 100000
/-! (loop.example/g01194/impl.Board).slide -/
noncomputable def impl_Board_slide_tab (F : Nat) : Tab := [(68, (impl_Board_line_ent F)), (67, (impl_slideRow_ent F)), (69, (impl_Board_withLine_ent F))]
theorem impl_Board_slide_tabok (F : Nat) : TabOK Try.prog (impl_Board_slide_tab F) := (tab_cons (impl_Board_line_meets F) impl_Board_line_fok (tab_cons (impl_slideRow_meets F) impl_slideRow_fok (tab_cons (impl_Board_withLine_meets F) impl_Board_withLine_fok tab_nil)))
noncomputable def impl_Board_slide_LS0 (F : Nat) : LT := []
theorem impl_Board_slide_lsok0 (F : Nat) : LoopsOK Try.prog (impl_Board_slide_LS0 F) (bodyOf Try.f42) := loopsOK_nil
theorem impl_Board_slide_keys : keysOK (bodyOf Try.f42) = true := by kernel_rfl
def impl_Board_slide_st8 (direction0 : Int) (score10 : Int) (t1712 : Int) (t3713 : List Bool) (b15 : List Int) (out17 : List Int) (mergers11 : Int) (t3814 : Int) : St := ⟨expand 49 0 [1, 2, 4, 7, 8, 9, 17, 37, 38] [(.int .i64 direction0), (.ptr 0 0 0 16), (.ptr 1 0 0 16), (.ptr 2 0 0 16), (.int .i64 score10), (.int .i64 mergers11), (.int .i64 t1712), (.bools 4 t3713), (.int .i64 t3814)], [(.var 16 (.ri .i64 b15)), (.var 16 (.ri .i64 [(0 : Int), (0 : Int), (0 : Int), (0 : Int), (0 : Int), (0 : Int), (0 : Int), (0 : Int), (0 : Int), (0 : Int), (0 : Int), (0 : Int), (0 : Int), (0 : Int), (0 : Int), (0 : Int)])), (.var 16 (.ri .i64 out17))], 0, []⟩
def impl_Board_slide_o8 (direction0 : Int) (score10 : Int) (t1712 : Int) (t3713 : List Bool) (b15 : List Int) (out17 : List Int) (x : Int) : GT := (.out (.exit 2 ⟨expand 49 0 [1, 2, 4, 7, 8, 9, 17] [(.int .i64 direction0), (.ptr 0 0 0 16), (.ptr 1 0 0 16), (.ptr 2 0 0 16), (.int .i64 score10), (.int .i64 x), (.int .i64 t1712)], [(.var 16 (.ri .i64 b15)), (.var 16 (.ri .i64 [(0 : Int), (0 : Int), (0 : Int), (0 : Int), (0 : Int), (0 : Int), (0 : Int), (0 : Int), (0 : Int), (0 : Int), (0 : Int), (0 : Int), (0 : Int), (0 : Int), (0 : Int), (0 : Int)])), (.var 16 (.ri .i64 out17))], 0, []⟩))
def impl_Board_slide_ls8 (F : Nat) : LoopS := ⟨49, [1, 2, 4, 7, 8, 9, 17, 37, 38], [], [1, 2, 4, 7, 8, 9, 17], [], [4, 5, 6], [], [], fun vals mem np killed => match vals, mem, np, killed with
  | [(.int .i64 direction0), (.ptr 0 0 0 16), (.ptr 1 0 0 16), (.ptr 2 0 0 16), (.int .i64 score10), (.int .i64 mergers11), (.int .i64 t1712), (.bools 4 t3713), (.int .i64 t3814)], [(.var 16 (.ri .i64 b15)), (.var 16 (.ri .i64 q_t416)), (.var 16 (.ri .i64 out17))], 0, [] => .br ((q_t416 == ([(0 : Int), (0 : Int), (0 : Int), (0 : Int), (0 : Int), (0 : Int), (0 : Int), (0 : Int), (0 : Int), (0 : Int), (0 : Int), (0 : Int), (0 : Int), (0 : Int), (0 : Int), (0 : Int)] : List Int)) && (impl_Board_slide_l8 F direction0 score10 t1712 t3713 b15 out17 mergers11 t3814).isSome) (impl_Board_slide_o8 direction0 score10 t1712 t3713 b15 out17 ((impl_Board_slide_l8 F direction0 score10 t1712 t3713 b15 out17 mergers11 t3814).getD default)) .fail
  | _, _, _, _ => .fail⟩
theorem impl_Board_slide_step8 (F : Nat) (direction0 : Int) (score10 : Int) (t1712 : Int) (t3713 : List Bool) (b15 : List Int) (out17 : List Int) (mergers11 : Int) (t3814 : Int) {R : Type} (k : Out → Option R) : stepS tt (impl_Board_slide_tab F) (impl_Board_slide_LS0 F) 70 (impl_Board_slide_ls8 F) (loopAt 8 (bodyOf Try.f42)) (impl_Board_slide_st8 direction0 score10 t1712 t3713 b15 out17 mergers11 t3814) k = impl_Board_slide_s8 F direction0 score10 t1712 t3713 b15 out17 R (mergers11, t3814) (fun s => k (.norm (impl_Board_slide_st8 direction0 score10 t1712 t3713 b15 out17 s.1 s.2))) (fun x => (impl_Board_slide_o8 direction0 score10 t1712 t3713 b15 out17 x).run k) := by kernel_rfl
theorem impl_Board_slide_iter8 (F : Nat) (direction0 : Int) (score10 : Int) (t1712 : Int) (t3713 : List Bool) (b15 : List Int) (out17 : List Int) {R : Type} (k : Out → Option R) : ∀ (n : Nat) (mergers11 : Int) (t3814 : Int), iterS tt (impl_Board_slide_tab F) (impl_Board_slide_LS0 F) 70 (impl_Board_slide_ls8 F) (loopAt 8 (bodyOf Try.f42)) n (impl_Board_slide_st8 direction0 score10 t1712 t3713 b15 out17 mergers11 t3814) k = loopC (impl_Board_slide_s8 F direction0 score10 t1712 t3713 b15 out17) n (mergers11, t3814) (fun x => (impl_Board_slide_o8 direction0 score10 t1712 t3713 b15 out17 x).run k)
  | 0, mergers11, t3814 => rfl
  | n + 1, mergers11, t3814 => (iterS_succ tt (impl_Board_slide_tab F) (impl_Board_slide_LS0 F) 70 (impl_Board_slide_ls8 F) (loopAt 8 (bodyOf Try.f42)) n (impl_Board_slide_st8 direction0 score10 t1712 t3713 b15 out17 mergers11 t3814) k).trans ((impl_Board_slide_step8 F direction0 score10 t1712 t3713 b15 out17 mergers11 t3814 (nextK (iterS tt (impl_Board_slide_tab F) (impl_Board_slide_LS0 F) 70 (impl_Board_slide_ls8 F) (loopAt 8 (bodyOf Try.f42)) n) k)).trans (congrArg (fun kn => impl_Board_slide_s8 F direction0 score10 t1712 t3713 b15 out17 R (mergers11, t3814) kn _) (funext (fun ⟨mergers11, t3814⟩ => impl_Board_slide_iter8 F direction0 score10 t1712 t3713 b15 out17 k n mergers11 t3814))))
theorem impl_Board_slide_lok8 (F : Nat) : LoopOK Try.prog (loopAt 8 (bodyOf Try.f42)) (impl_Board_slide_ls8 F) := by
  refine loopOK_of mixed ttok deep (impl_Board_slide_tabok F) (loopsOK_at (impl_Board_slide_lsok0 F) 8) (fuel := 70) fun R vals mem np killed k x h => ?_
  simp only [impl_Board_slide_ls8] at h
  split at h
  · rename_i direction0 score10 mergers11 t1712 t3713 t3814 b15 q_t416 out17
    simp only [GT.run] at h
    have hc := (cond_noneL h).1
    replace h := (cond_noneL h).2
    have hg := (and_split hc).1
    replace hc := (and_split hc).2
    obtain rfl := beq_li hg
    refine ⟨F, (impl_Board_slide_iter8 F direction0 score10 t1712 t3713 b15 out17 k F mergers11 t3814).trans ((loopC_use (impl_Board_slide_s8_nat F direction0 score10 t1712 t3713 b15 out17) hc _).trans h)⟩
  · simp only [GT.run] at h
    cases h
noncomputable def impl_Board_slide_LS1 (F : Nat) : LT := (8, impl_Board_slide_ls8 F) :: impl_Board_slide_LS0 F
theorem impl_Board_slide_lsok1 (F : Nat) : LoopsOK Try.prog (impl_Board_slide_LS1 F) (bodyOf Try.f42) := loopsOK_cons impl_Board_slide_keys (impl_Board_slide_lok8 F) (impl_Board_slide_lsok0 F)
def impl_Board_slide_st3 (direction0 : Int) (b13 : List Int) (score10 : Int) (mergers11 : Int) (t1712 : Int) (out15 : List Int) : St := ⟨expand 49 0 [1, 2, 4, 7, 8, 9, 17] [(.int .i64 direction0), (.ptr 0 0 0 16), (.ptr 1 0 0 16), (.ptr 2 0 0 16), (.int .i64 score10), (.int .i64 mergers11), (.int .i64 t1712)], [(.var 16 (.ri .i64 b13)), (.var 16 (.ri .i64 [(0 : Int), (0 : Int), (0 : Int), (0 : Int), (0 : Int), (0 : Int), (0 : Int), (0 : Int), (0 : Int), (0 : Int), (0 : Int), (0 : Int), (0 : Int), (0 : Int), (0 : Int), (0 : Int)])), (.var 16 (.ri .i64 out15))], 0, []⟩
def impl_Board_slide_o3 (direction0 : Int) (b13 : List Int) (x : Int × Int × List Int) : GT := (.out (.exit 0 ⟨expand 49 0 [4, 7, 8, 9] [(.ptr 0 0 0 16), (.ptr 1 0 0 16), (.int .i64 x.1), (.int .i64 x.2.1)], [(.var 16 (.ri .i64 [(0 : Int), (0 : Int), (0 : Int), (0 : Int), (0 : Int), (0 : Int), (0 : Int), (0 : Int), (0 : Int), (0 : Int), (0 : Int), (0 : Int), (0 : Int), (0 : Int), (0 : Int), (0 : Int)])), (.var 16 (.ri .i64 x.2.2))], 0, []⟩))
def impl_Board_slide_ls3 (F : Nat) : LoopS := ⟨49, [1, 2, 4, 7, 8, 9, 17], [], [4, 7, 8, 9], [], [4, 5, 6], [], [], fun vals mem np killed => match vals, mem, np, killed with
  | [(.int .i64 direction0), (.ptr 0 0 0 16), (.ptr 1 0 0 16), (.ptr 2 0 0 16), (.int .i64 score10), (.int .i64 mergers11), (.int .i64 t1712)], [(.var 16 (.ri .i64 b13)), (.var 16 (.ri .i64 q_t414)), (.var 16 (.ri .i64 out15))], 0, [] => .br ((q_t414 == ([(0 : Int), (0 : Int), (0 : Int), (0 : Int), (0 : Int), (0 : Int), (0 : Int), (0 : Int), (0 : Int), (0 : Int), (0 : Int), (0 : Int), (0 : Int), (0 : Int), (0 : Int), (0 : Int)] : List Int)) && (impl_Board_slide_l3 F direction0 b13 score10 mergers11 t1712 out15).isSome) (impl_Board_slide_o3 direction0 b13 ((impl_Board_slide_l3 F direction0 b13 score10 mergers11 t1712 out15).getD default)) .fail
  | _, _, _, _ => .fail⟩
theorem impl_Board_slide_step3 (F : Nat) (direction0 : Int) (b13 : List Int) (score10 : Int) (mergers11 : Int) (t1712 : Int) (out15 : List Int) {R : Type} (k : Out → Option R) : stepS tt (impl_Board_slide_tab F) (impl_Board_slide_LS1 F) 70 (impl_Board_slide_ls3 F) (loopAt 3 (bodyOf Try.f42)) (impl_Board_slide_st3 direction0 b13 score10 mergers11 t1712 out15) k = impl_Board_slide_s3 F direction0 b13 R (score10, mergers11, t1712, out15) (fun s => k (.norm (impl_Board_slide_st3 direction0 b13 s.1 s.2.1 s.2.2.1 s.2.2.2))) (fun x => (impl_Board_slide_o3 direction0 b13 x).run k) := by kernel_rfl
theorem impl_Board_slide_iter3 (F : Nat) (direction0 : Int) (b13 : List Int) {R : Type} (k : Out → Option R) : ∀ (n : Nat) (score10 : Int) (mergers11 : Int) (t1712 : Int) (out15 : List Int), iterS tt (impl_Board_slide_tab F) (impl_Board_slide_LS1 F) 70 (impl_Board_slide_ls3 F) (loopAt 3 (bodyOf Try.f42)) n (impl_Board_slide_st3 direction0 b13 score10 mergers11 t1712 out15) k = loopC (impl_Board_slide_s3 F direction0 b13) n (score10, mergers11, t1712, out15) (fun x => (impl_Board_slide_o3 direction0 b13 x).run k)
  | 0, score10, mergers11, t1712, out15 => rfl
  | n + 1, score10, mergers11, t1712, out15 => (iterS_succ tt (impl_Board_slide_tab F) (impl_Board_slide_LS1 F) 70 (impl_Board_slide_ls3 F) (loopAt 3 (bodyOf Try.f42)) n (impl_Board_slide_st3 direction0 b13 score10 mergers11 t1712 out15) k).trans ((impl_Board_slide_step3 F direction0 b13 score10 mergers11 t1712 out15 (nextK (iterS tt (impl_Board_slide_tab F) (impl_Board_slide_LS1 F) 70 (impl_Board_slide_ls3 F) (loopAt 3 (bodyOf Try.f42)) n) k)).trans (congrArg (fun kn => impl_Board_slide_s3 F direction0 b13 R (score10, mergers11, t1712, out15) kn _) (funext (fun ⟨score10, mergers11, t1712, out15⟩ => impl_Board_slide_iter3 F direction0 b13 k n score10 mergers11 t1712 out15))))
theorem impl_Board_slide_lok3 (F : Nat) : LoopOK Try.prog (loopAt 3 (bodyOf Try.f42)) (impl_Board_slide_ls3 F) := by
  refine loopOK_of mixed ttok deep (impl_Board_slide_tabok F) (loopsOK_at (impl_Board_slide_lsok1 F) 3) (fuel := 70) fun R vals mem np killed k x h => ?_
  simp only [impl_Board_slide_ls3] at h
  split at h
  · rename_i direction0 score10 mergers11 t1712 b13 q_t414 out15
    simp only [GT.run] at h
    have hc := (cond_noneL h).1
    replace h := (cond_noneL h).2
    have hg := (and_split hc).1
    replace hc := (and_split hc).2
    obtain rfl := beq_li hg
    refine ⟨F, (impl_Board_slide_iter3 F direction0 b13 k F score10 mergers11 t1712 out15).trans ((loopC_use (impl_Board_slide_s3_nat F direction0 b13) hc _).trans h)⟩
  · simp only [GT.run] at h
    cases h
noncomputable def impl_Board_slide_LS2 (F : Nat) : LT := (3, impl_Board_slide_ls3 F) :: impl_Board_slide_LS1 F
theorem impl_Board_slide_lsok2 (F : Nat) : LoopsOK Try.prog (impl_Board_slide_LS2 F) (bodyOf Try.f42) := loopsOK_cons impl_Board_slide_keys (impl_Board_slide_lok3 F) (impl_Board_slide_lsok1 F)
theorem impl_Board_slide_run (F : Nat) (b0 : List Int) (direction1 : Int) : runS tt (impl_Board_slide_tab F) (impl_Board_slide_LS2 F) [] [] Try.f42 (bodyOf Try.f42) 70 [(.ints 16 b0), (.int .i64 direction1)] [] = impl_Board_slide_c _ F b0 direction1 (fun r => some ⟨(.tup [(.ints 16 r.1), (.int .i64 r.2.1), (.int .i64 r.2.2)]), [], []⟩) := by kernel_rfl
def impl_Board_slide_ent (F : Nat) : Ent := ⟨[], .quiet, fun args mem => match args, mem with
  | [(.ints 16 b0), (.int .i64 direction1)], [] => some ((impl_Board_slide_p F b0 direction1).isSome, ⟨(.tup [(.ints 16 ((impl_Board_slide_p F b0 direction1).getD default).1), (.int .i64 ((impl_Board_slide_p F b0 direction1).getD default).2.1), (.int .i64 ((impl_Board_slide_p F b0 direction1).getD default).2.2)]), [], []⟩)
  | _, _ => none⟩
theorem impl_Board_slide_fok : FunOK Try.prog 42 := funOK Try.func42 (by kernel_rfl) rfl
theorem impl_Board_slide_meets (F : Nat) : Meets Try.prog 42 (impl_Board_slide_ent F) := by
  refine meets_of_runS mixed ttok deep (impl_Board_slide_tabok F) Try.func42 (body_some rfl) (impl_Board_slide_lsok2 F) fun args mem hfit ret h => ?_
  clear hfit
  simp only [impl_Board_slide_ent] at h
  split at h
  · rename_i b0 direction1
    simp only [Option.some.injEq, Prod.mk.injEq] at h
    obtain ⟨hc, rfl⟩ := h
    exact ⟨[], [], 70, _, (impl_Board_slide_run F b0 direction1).trans ((impl_Board_slide_cp _ F b0 direction1 _).trans (bind_use hc _)), rfl, rfl, rfl⟩
  · cases h

/-! (loop.example/g01194/impl.Board).slides -/
noncomputable def impl_Board_slides_tab (F : Nat) : Tab := [(42, (impl_Board_slide_ent F))]
theorem impl_Board_slides_tabok (F : Nat) : TabOK Try.prog (impl_Board_slides_tab F) := (tab_cons (impl_Board_slide_meets F) impl_Board_slide_fok tab_nil)
noncomputable def impl_Board_slides_LS0 (F : Nat) : LT := []
theorem impl_Board_slides_lsok0 (F : Nat) : LoopsOK Try.prog (impl_Board_slides_LS0 F) (bodyOf Try.f53) := loopsOK_nil
theorem impl_Board_slides_keys : keysOK (bodyOf Try.f53) = true := by kernel_rfl
def impl_Board_slides_st2 (t76 : List Int) (t87 : Int) (t98 : Int) (b9 : List Int) : St := ⟨expand 22 0 [2, 4, 7, 8, 9] [(.ptr 0 0 0 16), (.ptr 1 0 0 16), (.ri .i64 t76), (.int .i64 t87), (.int .i64 t98)], [(.var 16 (.ri .i64 b9)), (.var 16 (.ri .i64 [(0 : Int), (0 : Int), (0 : Int), (0 : Int), (0 : Int), (0 : Int), (0 : Int), (0 : Int), (0 : Int), (0 : Int), (0 : Int), (0 : Int), (0 : Int), (0 : Int), (0 : Int), (0 : Int)]))], 0, []⟩
def impl_Board_slides_o2 (t76 : List Int) (t87 : Int) (x : List Int) : GT := (.out (.exit 0 ⟨expand 22 0 [2, 4] [(.ptr 0 0 0 16), (.ptr 1 0 0 16)], [(.var 16 (.ri .i64 x)), (.var 16 (.ri .i64 [(0 : Int), (0 : Int), (0 : Int), (0 : Int), (0 : Int), (0 : Int), (0 : Int), (0 : Int), (0 : Int), (0 : Int), (0 : Int), (0 : Int), (0 : Int), (0 : Int), (0 : Int), (0 : Int)]))], 0, []⟩))
def impl_Board_slides_ls2 (F : Nat) : LoopS := ⟨22, [2, 4, 7, 8, 9], [], [2, 4], [], [4], [], [], fun vals mem np killed => match vals, mem, np, killed with
  | [(.ptr 0 0 0 16), (.ptr 1 0 0 16), (.ri .i64 t76), (.int .i64 t87), (.int .i64 t98)], [(.var 16 (.ri .i64 b9)), (.var 16 (.ri .i64 q_t410))], 0, [] => .br ((q_t410 == ([(0 : Int), (0 : Int), (0 : Int), (0 : Int), (0 : Int), (0 : Int), (0 : Int), (0 : Int), (0 : Int), (0 : Int), (0 : Int), (0 : Int), (0 : Int), (0 : Int), (0 : Int), (0 : Int)] : List Int)) && (impl_Board_slides_l2 F t76 t87 t98 b9).isSome) (impl_Board_slides_o2 t76 t87 ((impl_Board_slides_l2 F t76 t87 t98 b9).getD default)) .fail
  | _, _, _, _ => .fail⟩
theorem impl_Board_slides_step2 (F : Nat) (t76 : List Int) (t87 : Int) (t98 : Int) (b9 : List Int) {R : Type} (k : Out → Option R) : stepS tt (impl_Board_slides_tab F) (impl_Board_slides_LS0 F) 70 (impl_Board_slides_ls2 F) (loopAt 2 (bodyOf Try.f53)) (impl_Board_slides_st2 t76 t87 t98 b9) k = impl_Board_slides_s2 F t76 t87 R (t98, b9) (fun s => k (.norm (impl_Board_slides_st2 t76 t87 s.1 s.2))) (fun x => (impl_Board_slides_o2 t76 t87 x).run k) := by kernel_rfl
theorem impl_Board_slides_iter2 (F : Nat) (t76 : List Int) (t87 : Int) {R : Type} (k : Out → Option R) : ∀ (n : Nat) (t98 : Int) (b9 : List Int), iterS tt (impl_Board_slides_tab F) (impl_Board_slides_LS0 F) 70 (impl_Board_slides_ls2 F) (loopAt 2 (bodyOf Try.f53)) n (impl_Board_slides_st2 t76 t87 t98 b9) k = loopC (impl_Board_slides_s2 F t76 t87) n (t98, b9) (fun x => (impl_Board_slides_o2 t76 t87 x).run k)
  | 0, t98, b9 => rfl
  | n + 1, t98, b9 => (iterS_succ tt (impl_Board_slides_tab F) (impl_Board_slides_LS0 F) 70 (impl_Board_slides_ls2 F) (loopAt 2 (bodyOf Try.f53)) n (impl_Board_slides_st2 t76 t87 t98 b9) k).trans ((impl_Board_slides_step2 F t76 t87 t98 b9 (nextK (iterS tt (impl_Board_slides_tab F) (impl_Board_slides_LS0 F) 70 (impl_Board_slides_ls2 F) (loopAt 2 (bodyOf Try.f53)) n) k)).trans (congrArg (fun kn => impl_Board_slides_s2 F t76 t87 R (t98, b9) kn _) (funext (fun ⟨t98, b9⟩ => impl_Board_slides_iter2 F t76 t87 k n t98 b9))))
theorem impl_Board_slides_lok2 (F : Nat) : LoopOK Try.prog (loopAt 2 (bodyOf Try.f53)) (impl_Board_slides_ls2 F) := by
  refine loopOK_of mixed ttok deep (impl_Board_slides_tabok F) (loopsOK_at (impl_Board_slides_lsok0 F) 2) (fuel := 70) fun R vals mem np killed k x h => ?_
  simp only [impl_Board_slides_ls2] at h
  split at h
  · rename_i t76 t87 t98 b9 q_t410
    simp only [GT.run] at h
    have hc := (cond_noneL h).1
    replace h := (cond_noneL h).2
    have hg := (and_split hc).1
    replace hc := (and_split hc).2
    obtain rfl := beq_li hg
    refine ⟨F, (impl_Board_slides_iter2 F t76 t87 k F t98 b9).trans ((loopC_use (impl_Board_slides_s2_nat F t76 t87) hc _).trans h)⟩
  · simp only [GT.run] at h
    cases h
noncomputable def impl_Board_slides_LS1 (F : Nat) : LT := (2, impl_Board_slides_ls2 F) :: impl_Board_slides_LS0 F
theorem impl_Board_slides_lsok1 (F : Nat) : LoopsOK Try.prog (impl_Board_slides_LS1 F) (bodyOf Try.f53) := loopsOK_cons impl_Board_slides_keys (impl_Board_slides_lok2 F) (impl_Board_slides_lsok0 F)
theorem impl_Board_slides_run (F : Nat) (b0 : List Int) (list1 : List Int) : runS tt (impl_Board_slides_tab F) (impl_Board_slides_LS1 F) [] [] Try.f53 (bodyOf Try.f53) 70 [(.ints 16 b0), (.ri .i64 list1)] [] = impl_Board_slides_c _ F b0 list1 (fun r => some ⟨(.ints 16 r), [], []⟩) := by kernel_rfl
def impl_Board_slides_ent (F : Nat) : Ent := ⟨[], .quiet, fun args mem => match args, mem with
  | [(.ints 16 b0), (.ri .i64 list1)], [] => some ((impl_Board_slides_p F b0 list1).isSome, ⟨(.ints 16 ((impl_Board_slides_p F b0 list1).getD default)), [], []⟩)
  | _, _ => none⟩
theorem impl_Board_slides_fok : FunOK Try.prog 53 := funOK Try.func53 (by kernel_rfl) rfl
theorem impl_Board_slides_meets (F : Nat) : Meets Try.prog 53 (impl_Board_slides_ent F) := by
  refine meets_of_runS mixed ttok deep (impl_Board_slides_tabok F) Try.func53 (body_some rfl) (impl_Board_slides_lsok1 F) fun args mem hfit ret h => ?_
  clear hfit
  simp only [impl_Board_slides_ent] at h
  split at h
  · rename_i b0 list1
    simp only [Option.some.injEq, Prod.mk.injEq] at h
    obtain ⟨hc, rfl⟩ := h
    exact ⟨[], [], 70, _, (impl_Board_slides_run F b0 list1).trans ((impl_Board_slides_cp _ F b0 list1 _).trans (bind_use hc _)), rfl, rfl, rfl⟩
  · cases h

/-! loop.example/g01194/impl.cells -/
noncomputable def impl_cells_tab (F : Nat) : Tab := []
theorem impl_cells_tabok (F : Nat) : TabOK Try.prog (impl_cells_tab F) := tab_nil
noncomputable def impl_cells_LS0 (F : Nat) : LT := []
theorem impl_cells_lsok0 (F : Nat) : LoopsOK Try.prog (impl_cells_LS0 F) (bodyOf Try.f65) := loopsOK_nil
theorem impl_cells_run (F : Nat) : runS tt (impl_cells_tab F) (impl_cells_LS0 F) [] [] Try.f65 (bodyOf Try.f65) 70 [] [] = impl_cells_c _ (fun r => some ⟨(.sl 0 0 16), [(.vec 33 (.rr 2 [[(0 : Int), (0 : Int)], [(0 : Int), (1 : Int)], [(0 : Int), (2 : Int)], [(0 : Int), (3 : Int)], [(1 : Int), (0 : Int)], [(1 : Int), (1 : Int)], [(1 : Int), (2 : Int)], [(1 : Int), (3 : Int)], [(2 : Int), (0 : Int)], [(2 : Int), (1 : Int)], [(2 : Int), (2 : Int)], [(2 : Int), (3 : Int)], [(3 : Int), (0 : Int)], [(3 : Int), (1 : Int)], [(3 : Int), (2 : Int)], [(3 : Int), (3 : Int)]]))], []⟩) := by kernel_rfl
def impl_cells_ent (F : Nat) : Ent := ⟨[], .fresh, fun args mem => match args, mem with
  | [], [] => some (true, ⟨(.sl 0 0 16), [(.vec 33 (.rr 2 [[(0 : Int), (0 : Int)], [(0 : Int), (1 : Int)], [(0 : Int), (2 : Int)], [(0 : Int), (3 : Int)], [(1 : Int), (0 : Int)], [(1 : Int), (1 : Int)], [(1 : Int), (2 : Int)], [(1 : Int), (3 : Int)], [(2 : Int), (0 : Int)], [(2 : Int), (1 : Int)], [(2 : Int), (2 : Int)], [(2 : Int), (3 : Int)], [(3 : Int), (0 : Int)], [(3 : Int), (1 : Int)], [(3 : Int), (2 : Int)], [(3 : Int), (3 : Int)]]))], []⟩)
  | _, _ => none⟩
theorem impl_cells_fok : FunOK Try.prog 65 := funOK Try.func65 (by kernel_rfl) rfl
theorem impl_cells_meets (F : Nat) : Meets Try.prog 65 (impl_cells_ent F) := by
  refine meets_of_runS mixed ttok deep (impl_cells_tabok F) Try.func65 (body_some rfl) (impl_cells_lsok0 F) fun args mem hfit ret h => ?_
  clear hfit
  simp only [impl_cells_ent] at h
  split at h
  · simp only [Option.some.injEq, Prod.mk.injEq] at h
    obtain ⟨hc, rfl⟩ := h
    exact ⟨[], [], 70, _, (impl_cells_run F).trans (impl_cells_cv _ _), rfl, rfl, rfl⟩
  · cases h

/-! (loop.example/g01194/impl.Board).empty$1 -/
noncomputable def impl_Board_empty_f1_tab (F : Nat) : Tab := [(44, (impl_Board_at_ent F))]
theorem impl_Board_empty_f1_tabok (F : Nat) : TabOK Try.prog (impl_Board_empty_f1_tab F) := (tab_cons (impl_Board_at_meets F) impl_Board_at_fok tab_nil)
noncomputable def impl_Board_empty_f1_LS0 (F : Nat) : LT := []
theorem impl_Board_empty_f1_lsok0 (F : Nat) : LoopsOK Try.prog (impl_Board_empty_f1_LS0 F) (bodyOf Try.f71) := loopsOK_nil
theorem impl_Board_empty_f1_run (F : Nat) (cell0 : List Int) (a14 : List Int) : runS tt (impl_Board_empty_f1_tab F) (impl_Board_empty_f1_LS0 F) [] [] Try.f71 (bodyOf Try.f71) 70 [(.ints 2 cell0), (.ptr 0 0 0 16)] [(.var 16 (.ri .i64 a14))] = impl_Board_empty_f1_c _ cell0 a14 (fun r => some ⟨(.bool r), [(.var 16 (.ri .i64 a14))], []⟩) := by kernel_rfl
def impl_Board_empty_f1_ent (F : Nat) : Ent := ⟨[], .quiet, fun args mem => match args, mem with
  | [(.ints 2 cell0), (.ptr 0 0 0 16)], [(.var 16 (.ri .i64 a14))] => some ((impl_Board_empty_f1_p cell0 a14).isSome, ⟨(.bool ((impl_Board_empty_f1_p cell0 a14).getD default)), [], []⟩)
  | _, _ => none⟩
theorem impl_Board_empty_f1_fok : FunOK Try.prog 71 := funOK Try.func71 (by kernel_rfl) rfl
theorem impl_Board_empty_f1_meets (F : Nat) : Meets Try.prog 71 (impl_Board_empty_f1_ent F) := by
  refine meets_of_runS mixed ttok deep (impl_Board_empty_f1_tabok F) Try.func71 (body_some rfl) (impl_Board_empty_f1_lsok0 F) fun args mem hfit ret h => ?_
  clear hfit
  simp only [impl_Board_empty_f1_ent] at h
  split at h
  · rename_i cell0 a14
    simp only [Option.some.injEq, Prod.mk.injEq] at h
    obtain ⟨hc, rfl⟩ := h
    exact ⟨[], [], 70, _, (impl_Board_empty_f1_run F cell0 a14).trans ((impl_Board_empty_f1_cp _ cell0 a14 _).trans (bind_use hc _)), rfl, rfl, rfl⟩
  · cases h

/-! slices.IndexFunc[[][2]int,[2]int] -/
noncomputable def slices_IndexFunc_2int2int_impl_Board_empty_f1_tab (F : Nat) : Tab := [(71, (impl_Board_empty_f1_ent F))]
theorem slices_IndexFunc_2int2int_impl_Board_empty_f1_tabok (F : Nat) : TabOK Try.prog (slices_IndexFunc_2int2int_impl_Board_empty_f1_tab F) := (tab_cons (impl_Board_empty_f1_meets F) impl_Board_empty_f1_fok tab_nil)
noncomputable def slices_IndexFunc_2int2int_impl_Board_empty_f1_LS0 (F : Nat) : LT := []
theorem slices_IndexFunc_2int2int_impl_Board_empty_f1_lsok0 (F : Nat) : LoopsOK Try.prog (slices_IndexFunc_2int2int_impl_Board_empty_f1_LS0 F) (bodyOf Try.f83) := loopsOK_nil
theorem slices_IndexFunc_2int2int_impl_Board_empty_f1_keys : keysOK (bodyOf Try.f83) = true := by kernel_rfl
def slices_IndexFunc_2int2int_impl_Board_empty_f1_st2 (s0 : List (List Int)) (t74 : Int) (f6 : List Int) (t85 : Int) : St := ⟨expand 19 0 [0, 1, 7, 8] [(.rr 2 s0), (.fn 71 [] [(.ptr 0 0 0 16)]), (.int .i64 t74), (.int .i64 t85)], [(.var 16 (.ri .i64 f6))], 1, []⟩
def slices_IndexFunc_2int2int_impl_Board_empty_f1_o2 (s0 : List (List Int)) (t74 : Int) (f6 : List Int) (x : Bool × Int) : GT := (.br x.1 (.out (.ret ⟨expand 19 0 [4] [(.int .i64 x.2)], [(.var 16 (.ri .i64 f6))], 1, []⟩)) (.out (.exit 0 ⟨expand 19 0 [] [], [(.var 16 (.ri .i64 f6))], 1, []⟩)))
def slices_IndexFunc_2int2int_impl_Board_empty_f1_ls2 (F : Nat) : LoopS := ⟨19, [0, 1, 7, 8], [], [], [], [4], [], [], fun vals mem np killed => match vals, mem, np, killed with
  | [(.rr 2 s0), (.fn 71 [] [(.ptr 0 0 0 16)]), (.int .i64 t74), (.int .i64 t85)], [(.var 16 (.ri .i64 f6))], 1, [] => .br (slices_IndexFunc_2int2int_impl_Board_empty_f1_l2 F s0 t74 f6 t85).isSome (slices_IndexFunc_2int2int_impl_Board_empty_f1_o2 s0 t74 f6 ((slices_IndexFunc_2int2int_impl_Board_empty_f1_l2 F s0 t74 f6 t85).getD default)) .fail
  | _, _, _, _ => .fail⟩
theorem slices_IndexFunc_2int2int_impl_Board_empty_f1_step2 (F : Nat) (s0 : List (List Int)) (t74 : Int) (f6 : List Int) (t85 : Int) {R : Type} (k : Out → Option R) : stepS tt (slices_IndexFunc_2int2int_impl_Board_empty_f1_tab F) (slices_IndexFunc_2int2int_impl_Board_empty_f1_LS0 F) 70 (slices_IndexFunc_2int2int_impl_Board_empty_f1_ls2 F) (loopAt 2 (bodyOf Try.f83)) (slices_IndexFunc_2int2int_impl_Board_empty_f1_st2 s0 t74 f6 t85) k = slices_IndexFunc_2int2int_impl_Board_empty_f1_s2 F s0 t74 f6 R t85 (fun s => k (.norm (slices_IndexFunc_2int2int_impl_Board_empty_f1_st2 s0 t74 f6 s))) (fun x => (slices_IndexFunc_2int2int_impl_Board_empty_f1_o2 s0 t74 f6 x).run k) := by kernel_rfl
theorem slices_IndexFunc_2int2int_impl_Board_empty_f1_iter2 (F : Nat) (s0 : List (List Int)) (t74 : Int) (f6 : List Int) {R : Type} (k : Out → Option R) : ∀ (n : Nat) (t85 : Int), iterS tt (slices_IndexFunc_2int2int_impl_Board_empty_f1_tab F) (slices_IndexFunc_2int2int_impl_Board_empty_f1_LS0 F) 70 (slices_IndexFunc_2int2int_impl_Board_empty_f1_ls2 F) (loopAt 2 (bodyOf Try.f83)) n (slices_IndexFunc_2int2int_impl_Board_empty_f1_st2 s0 t74 f6 t85) k = loopC (slices_IndexFunc_2int2int_impl_Board_empty_f1_s2 F s0 t74 f6) n t85 (fun x => (slices_IndexFunc_2int2int_impl_Board_empty_f1_o2 s0 t74 f6 x).run k)
  | 0, t85 => rfl
  | n + 1, t85 => (iterS_succ tt (slices_IndexFunc_2int2int_impl_Board_empty_f1_tab F) (slices_IndexFunc_2int2int_impl_Board_empty_f1_LS0 F) 70 (slices_IndexFunc_2int2int_impl_Board_empty_f1_ls2 F) (loopAt 2 (bodyOf Try.f83)) n (slices_IndexFunc_2int2int_impl_Board_empty_f1_st2 s0 t74 f6 t85) k).trans ((slices_IndexFunc_2int2int_impl_Board_empty_f1_step2 F s0 t74 f6 t85 (nextK (iterS tt (slices_IndexFunc_2int2int_impl_Board_empty_f1_tab F) (slices_IndexFunc_2int2int_impl_Board_empty_f1_LS0 F) 70 (slices_IndexFunc_2int2int_impl_Board_empty_f1_ls2 F) (loopAt 2 (bodyOf Try.f83)) n) k)).trans (congrArg (fun kn => slices_IndexFunc_2int2int_impl_Board_empty_f1_s2 F s0 t74 f6 R t85 kn _) (funext (fun t85 => slices_IndexFunc_2int2int_impl_Board_empty_f1_iter2 F s0 t74 f6 k n t85))))
theorem slices_IndexFunc_2int2int_impl_Board_empty_f1_lok2 (F : Nat) : LoopOK Try.prog (loopAt 2 (bodyOf Try.f83)) (slices_IndexFunc_2int2int_impl_Board_empty_f1_ls2 F) := by
  refine loopOK_of mixed ttok deep (slices_IndexFunc_2int2int_impl_Board_empty_f1_tabok F) (loopsOK_at (slices_IndexFunc_2int2int_impl_Board_empty_f1_lsok0 F) 2) (fuel := 70) fun R vals mem np killed k x h => ?_
  simp only [slices_IndexFunc_2int2int_impl_Board_empty_f1_ls2] at h
  split at h
  · rename_i s0 t74 t85 f6
    simp only [GT.run] at h
    have hc := (cond_noneL h).1
    replace h := (cond_noneL h).2
    refine ⟨F, (slices_IndexFunc_2int2int_impl_Board_empty_f1_iter2 F s0 t74 f6 k F t85).trans ((loopC_use (slices_IndexFunc_2int2int_impl_Board_empty_f1_s2_nat F s0 t74 f6) hc _).trans h)⟩
  · simp only [GT.run] at h
    cases h
noncomputable def slices_IndexFunc_2int2int_impl_Board_empty_f1_LS1 (F : Nat) : LT := (2, slices_IndexFunc_2int2int_impl_Board_empty_f1_ls2 F) :: slices_IndexFunc_2int2int_impl_Board_empty_f1_LS0 F
theorem slices_IndexFunc_2int2int_impl_Board_empty_f1_lsok1 (F : Nat) : LoopsOK Try.prog (slices_IndexFunc_2int2int_impl_Board_empty_f1_LS1 F) (bodyOf Try.f83) := loopsOK_cons slices_IndexFunc_2int2int_impl_Board_empty_f1_keys (slices_IndexFunc_2int2int_impl_Board_empty_f1_lok2 F) (slices_IndexFunc_2int2int_impl_Board_empty_f1_lsok0 F)
theorem slices_IndexFunc_2int2int_impl_Board_empty_f1_run (F : Nat) (s0 : List (List Int)) (f4 : List Int) : runS tt (slices_IndexFunc_2int2int_impl_Board_empty_f1_tab F) (slices_IndexFunc_2int2int_impl_Board_empty_f1_LS1 F) [] [] Try.f83 (bodyOf Try.f83) 70 [(.rr 2 s0), (.fn 71 [] [(.ptr 0 0 0 16)])] [(.var 16 (.ri .i64 f4))] = slices_IndexFunc_2int2int_impl_Board_empty_f1_c _ F s0 f4 (fun r => some ⟨(.int .i64 r), [(.var 16 (.ri .i64 f4))], []⟩) := by kernel_rfl
def slices_IndexFunc_2int2int_impl_Board_empty_f1_ent (F : Nat) : Ent := ⟨[], .quiet, fun args mem => match args, mem with
  | [(.rr 2 s0), (.fn 71 [] [(.ptr 0 0 0 16)])], [(.var 16 (.ri .i64 f4))] => some ((slices_IndexFunc_2int2int_impl_Board_empty_f1_p F s0 f4).isSome, ⟨(.int .i64 ((slices_IndexFunc_2int2int_impl_Board_empty_f1_p F s0 f4).getD default)), [], []⟩)
  | _, _ => none⟩
theorem slices_IndexFunc_2int2int_impl_Board_empty_f1_fok : FunOK Try.prog 83 := funOK Try.func83 (by kernel_rfl) rfl
theorem slices_IndexFunc_2int2int_impl_Board_empty_f1_meets (F : Nat) : Meets Try.prog 83 (slices_IndexFunc_2int2int_impl_Board_empty_f1_ent F) := by
  refine meets_of_runS mixed ttok deep (slices_IndexFunc_2int2int_impl_Board_empty_f1_tabok F) Try.func83 (body_some rfl) (slices_IndexFunc_2int2int_impl_Board_empty_f1_lsok1 F) fun args mem hfit ret h => ?_
  clear hfit
  simp only [slices_IndexFunc_2int2int_impl_Board_empty_f1_ent] at h
  split at h
  · rename_i s0 f4
    simp only [Option.some.injEq, Prod.mk.injEq] at h
    obtain ⟨hc, rfl⟩ := h
    exact ⟨[], [], 70, _, (slices_IndexFunc_2int2int_impl_Board_empty_f1_run F s0 f4).trans ((slices_IndexFunc_2int2int_impl_Board_empty_f1_cp _ F s0 f4 _).trans (bind_use hc _)), rfl, rfl, rfl⟩
  · cases h

/-! slices.DeleteFunc[[][2]int,[2]int] -/
noncomputable def slices_DeleteFunc_2int2int_impl_Board_empty_f1_tab (F : Nat) : Tab := [(83, (slices_IndexFunc_2int2int_impl_Board_empty_f1_ent F)), (71, (impl_Board_empty_f1_ent F))]
theorem slices_DeleteFunc_2int2int_impl_Board_empty_f1_tabok (F : Nat) : TabOK Try.prog (slices_DeleteFunc_2int2int_impl_Board_empty_f1_tab F) := (tab_cons (slices_IndexFunc_2int2int_impl_Board_empty_f1_meets F) slices_IndexFunc_2int2int_impl_Board_empty_f1_fok (tab_cons (impl_Board_empty_f1_meets F) impl_Board_empty_f1_fok tab_nil))
noncomputable def slices_DeleteFunc_2int2int_impl_Board_empty_f1_LS0 (F : Nat) : LT := []
theorem slices_DeleteFunc_2int2int_impl_Board_empty_f1_lsok0 (F : Nat) : LoopsOK Try.prog (slices_DeleteFunc_2int2int_impl_Board_empty_f1_LS0 F) (bodyOf Try.f70) := loopsOK_nil
theorem slices_DeleteFunc_2int2int_impl_Board_empty_f1_keys : keysOK (bodyOf Try.f70) = true := by kernel_rfl
def slices_DeleteFunc_2int2int_impl_Board_empty_f1_st5 (s1 : Nat) (del8 : List Int) (i5 : Int) (j6 : Int) (s7 : List (List Int)) : St := ⟨expand 42 0 [0, 1, 5, 6] [(.sl 0 0 s1), (.fn 71 [] [(.ptr 1 0 0 16)]), (.int .i64 i5), (.int .i64 j6)], [(.vec 33 (.rr 2 s7)), (.var 16 (.ri .i64 del8))], 2, []⟩
def slices_DeleteFunc_2int2int_impl_Board_empty_f1_o5 (s1 : Nat) (del8 : List Int) (x : Int × List (List Int)) : GT := (.out (.exit 0 ⟨expand 42 0 [0, 5] [(.sl 0 0 s1), (.int .i64 x.1)], [(.vec 33 (.rr 2 x.2)), (.var 16 (.ri .i64 del8))], 2, []⟩))
def slices_DeleteFunc_2int2int_impl_Board_empty_f1_ls5 (F : Nat) : LoopS := ⟨42, [0, 1, 5, 6], [], [0, 5], [], [4], [], [], fun vals mem np killed => match vals, mem, np, killed with
  | [(.sl 0 0 s1), (.fn 71 [] [(.ptr 1 0 0 16)]), (.int .i64 i5), (.int .i64 j6)], [(.vec 33 (.rr 2 s7)), (.var 16 (.ri .i64 del8))], 2, [] => .br (slices_DeleteFunc_2int2int_impl_Board_empty_f1_l5 F s1 del8 i5 j6 s7).isSome (slices_DeleteFunc_2int2int_impl_Board_empty_f1_o5 s1 del8 ((slices_DeleteFunc_2int2int_impl_Board_empty_f1_l5 F s1 del8 i5 j6 s7).getD default)) .fail
  | _, _, _, _ => .fail⟩
theorem slices_DeleteFunc_2int2int_impl_Board_empty_f1_step5 (F : Nat) (s1 : Nat) (del8 : List Int) (i5 : Int) (j6 : Int) (s7 : List (List Int)) {R : Type} (k : Out → Option R) : stepS tt (slices_DeleteFunc_2int2int_impl_Board_empty_f1_tab F) (slices_DeleteFunc_2int2int_impl_Board_empty_f1_LS0 F) 70 (slices_DeleteFunc_2int2int_impl_Board_empty_f1_ls5 F) (loopAt 5 (bodyOf Try.f70)) (slices_DeleteFunc_2int2int_impl_Board_empty_f1_st5 s1 del8 i5 j6 s7) k = slices_DeleteFunc_2int2int_impl_Board_empty_f1_s5 F s1 del8 R (i5, j6, s7) (fun s => k (.norm (slices_DeleteFunc_2int2int_impl_Board_empty_f1_st5 s1 del8 s.1 s.2.1 s.2.2))) (fun x => (slices_DeleteFunc_2int2int_impl_Board_empty_f1_o5 s1 del8 x).run k) := by kernel_rfl
theorem slices_DeleteFunc_2int2int_impl_Board_empty_f1_iter5 (F : Nat) (s1 : Nat) (del8 : List Int) {R : Type} (k : Out → Option R) : ∀ (n : Nat) (i5 : Int) (j6 : Int) (s7 : List (List Int)), iterS tt (slices_DeleteFunc_2int2int_impl_Board_empty_f1_tab F) (slices_DeleteFunc_2int2int_impl_Board_empty_f1_LS0 F) 70 (slices_DeleteFunc_2int2int_impl_Board_empty_f1_ls5 F) (loopAt 5 (bodyOf Try.f70)) n (slices_DeleteFunc_2int2int_impl_Board_empty_f1_st5 s1 del8 i5 j6 s7) k = loopC (slices_DeleteFunc_2int2int_impl_Board_empty_f1_s5 F s1 del8) n (i5, j6, s7) (fun x => (slices_DeleteFunc_2int2int_impl_Board_empty_f1_o5 s1 del8 x).run k)
  | 0, i5, j6, s7 => rfl
  | n + 1, i5, j6, s7 => (iterS_succ tt (slices_DeleteFunc_2int2int_impl_Board_empty_f1_tab F) (slices_DeleteFunc_2int2int_impl_Board_empty_f1_LS0 F) 70 (slices_DeleteFunc_2int2int_impl_Board_empty_f1_ls5 F) (loopAt 5 (bodyOf Try.f70)) n (slices_DeleteFunc_2int2int_impl_Board_empty_f1_st5 s1 del8 i5 j6 s7) k).trans ((slices_DeleteFunc_2int2int_impl_Board_empty_f1_step5 F s1 del8 i5 j6 s7 (nextK (iterS tt (slices_DeleteFunc_2int2int_impl_Board_empty_f1_tab F) (slices_DeleteFunc_2int2int_impl_Board_empty_f1_LS0 F) 70 (slices_DeleteFunc_2int2int_impl_Board_empty_f1_ls5 F) (loopAt 5 (bodyOf Try.f70)) n) k)).trans (congrArg (fun kn => slices_DeleteFunc_2int2int_impl_Board_empty_f1_s5 F s1 del8 R (i5, j6, s7) kn _) (funext (fun ⟨i5, j6, s7⟩ => slices_DeleteFunc_2int2int_impl_Board_empty_f1_iter5 F s1 del8 k n i5 j6 s7))))
theorem slices_DeleteFunc_2int2int_impl_Board_empty_f1_lok5 (F : Nat) : LoopOK Try.prog (loopAt 5 (bodyOf Try.f70)) (slices_DeleteFunc_2int2int_impl_Board_empty_f1_ls5 F) := by
  refine loopOK_of mixed ttok deep (slices_DeleteFunc_2int2int_impl_Board_empty_f1_tabok F) (loopsOK_at (slices_DeleteFunc_2int2int_impl_Board_empty_f1_lsok0 F) 5) (fuel := 70) fun R vals mem np killed k x h => ?_
  simp only [slices_DeleteFunc_2int2int_impl_Board_empty_f1_ls5] at h
  split at h
  · rename_i s1 i5 j6 s7 del8
    simp only [GT.run] at h
    have hc := (cond_noneL h).1
    replace h := (cond_noneL h).2
    refine ⟨F, (slices_DeleteFunc_2int2int_impl_Board_empty_f1_iter5 F s1 del8 k F i5 j6 s7).trans ((loopC_use (slices_DeleteFunc_2int2int_impl_Board_empty_f1_s5_nat F s1 del8) hc _).trans h)⟩
  · simp only [GT.run] at h
    cases h
noncomputable def slices_DeleteFunc_2int2int_impl_Board_empty_f1_LS1 (F : Nat) : LT := (5, slices_DeleteFunc_2int2int_impl_Board_empty_f1_ls5 F) :: slices_DeleteFunc_2int2int_impl_Board_empty_f1_LS0 F
theorem slices_DeleteFunc_2int2int_impl_Board_empty_f1_lsok1 (F : Nat) : LoopsOK Try.prog (slices_DeleteFunc_2int2int_impl_Board_empty_f1_LS1 F) (bodyOf Try.f70) := loopsOK_cons slices_DeleteFunc_2int2int_impl_Board_empty_f1_keys (slices_DeleteFunc_2int2int_impl_Board_empty_f1_lok5 F) (slices_DeleteFunc_2int2int_impl_Board_empty_f1_lsok0 F)
theorem slices_DeleteFunc_2int2int_impl_Board_empty_f1_run (F : Nat) (s5 : List (List Int)) (del6 : List Int) : runS tt (slices_DeleteFunc_2int2int_impl_Board_empty_f1_tab F) (slices_DeleteFunc_2int2int_impl_Board_empty_f1_LS1 F) [] [] Try.f70 (bodyOf Try.f70) 70 [(.sl 0 0 (List.length s5)), (.fn 71 [] [(.ptr 1 0 0 16)])] [(.vec 33 (.rr 2 s5)), (.var 16 (.ri .i64 del6))] = slices_DeleteFunc_2int2int_impl_Board_empty_f1_c _ F s5 del6 (fun r => some ⟨(.sl 0 0 r.1), [(.vec 33 (.rr 2 r.2)), (.var 16 (.ri .i64 del6))], []⟩) := by kernel_rfl
def slices_DeleteFunc_2int2int_impl_Board_empty_f1_ent (F : Nat) : Ent := ⟨[true], .loud, fun args mem => match args, mem with
  | [(.sl 0 0 q_s1), (.fn 71 [] [(.ptr 1 0 0 16)])], [(.vec 33 (.rr 2 s5)), (.var 16 (.ri .i64 del6))] => some (((Nat.beq q_s1 (List.length s5)) && (slices_DeleteFunc_2int2int_impl_Board_empty_f1_p F s5 del6).isSome), ⟨(.sl 0 0 ((slices_DeleteFunc_2int2int_impl_Board_empty_f1_p F s5 del6).getD default).1), [(.vec 33 (.rr 2 ((slices_DeleteFunc_2int2int_impl_Board_empty_f1_p F s5 del6).getD default).2)), (.var 16 (.ri .i64 del6))], []⟩)
  | _, _ => none⟩
theorem slices_DeleteFunc_2int2int_impl_Board_empty_f1_fok : FunOK Try.prog 70 := funOK Try.func70 (by kernel_rfl) rfl
theorem slices_DeleteFunc_2int2int_impl_Board_empty_f1_meets (F : Nat) : Meets Try.prog 70 (slices_DeleteFunc_2int2int_impl_Board_empty_f1_ent F) := by
  refine meets_of_runS mixed ttok deep (slices_DeleteFunc_2int2int_impl_Board_empty_f1_tabok F) Try.func70 (body_some rfl) (slices_DeleteFunc_2int2int_impl_Board_empty_f1_lsok1 F) fun args mem hfit ret h => ?_
  clear hfit
  simp only [slices_DeleteFunc_2int2int_impl_Board_empty_f1_ent] at h
  split at h
  · rename_i q_s1 s5 del6
    simp only [Option.some.injEq, Prod.mk.injEq] at h
    obtain ⟨hc, rfl⟩ := h
    have hg := (and_split hc).1
    replace hc := (and_split hc).2
    obtain rfl := nbeq_nat hg
    exact ⟨[], [], 70, _, (slices_DeleteFunc_2int2int_impl_Board_empty_f1_run F s5 del6).trans ((slices_DeleteFunc_2int2int_impl_Board_empty_f1_cp _ F s5 del6 _).trans (bind_use hc _)), rfl, rfl, rfl⟩
  · cases h

/-! (loop.example/g01194/impl.Board).empty -/
noncomputable def impl_Board_empty_tab (F : Nat) : Tab := [(65, (impl_cells_ent F)), (70, (slices_DeleteFunc_2int2int_impl_Board_empty_f1_ent F))]
theorem impl_Board_empty_tabok (F : Nat) : TabOK Try.prog (impl_Board_empty_tab F) := (tab_cons (impl_cells_meets F) impl_cells_fok (tab_cons (slices_DeleteFunc_2int2int_impl_Board_empty_f1_meets F) slices_DeleteFunc_2int2int_impl_Board_empty_f1_fok tab_nil))
noncomputable def impl_Board_empty_LS0 (F : Nat) : LT := []
theorem impl_Board_empty_lsok0 (F : Nat) : LoopsOK Try.prog (impl_Board_empty_LS0 F) (bodyOf Try.f45) := loopsOK_nil
theorem impl_Board_empty_run (F : Nat) (b0 : List Int) : runS tt (impl_Board_empty_tab F) (impl_Board_empty_LS0 F) [] [] Try.f45 (bodyOf Try.f45) 70 [(.ints 16 b0)] [] = impl_Board_empty_c _ F b0 (fun r => some ⟨(.sl 0 0 r.1), [(.vec 33 (.rr 2 r.2))], []⟩) := by kernel_rfl
def impl_Board_empty_ent (F : Nat) : Ent := ⟨[], .fresh, fun args mem => match args, mem with
  | [(.ints 16 b0)], [] => some ((impl_Board_empty_p F b0).isSome, ⟨(.sl 0 0 ((impl_Board_empty_p F b0).getD default).1), [(.vec 33 (.rr 2 ((impl_Board_empty_p F b0).getD default).2))], []⟩)
  | _, _ => none⟩
theorem impl_Board_empty_fok : FunOK Try.prog 45 := funOK Try.func45 (by kernel_rfl) rfl
theorem impl_Board_empty_meets (F : Nat) : Meets Try.prog 45 (impl_Board_empty_ent F) := by
  refine meets_of_runS mixed ttok deep (impl_Board_empty_tabok F) Try.func45 (body_some rfl) (impl_Board_empty_lsok0 F) fun args mem hfit ret h => ?_
  clear hfit
  simp only [impl_Board_empty_ent] at h
  split at h
  · rename_i b0
    simp only [Option.some.injEq, Prod.mk.injEq] at h
    obtain ⟨hc, rfl⟩ := h
    exact ⟨[], [], 70, _, (impl_Board_empty_run F b0).trans ((impl_Board_empty_cp _ F b0 _).trans (bind_use hc _)), rfl, rfl, rfl⟩
  · cases h

/-! (loop.example/g01194/impl.Board).steps -/
noncomputable def impl_Board_steps_tab (F : Nat) : Tab := [(53, (impl_Board_slides_ent F)), (45, (impl_Board_empty_ent F))]
theorem impl_Board_steps_tabok (F : Nat) : TabOK Try.prog (impl_Board_steps_tab F) := (tab_cons (impl_Board_slides_meets F) impl_Board_slides_fok (tab_cons (impl_Board_empty_meets F) impl_Board_empty_fok tab_nil))
noncomputable def impl_Board_steps_LS0 (F : Nat) : LT := []
theorem impl_Board_steps_lsok0 (F : Nat) : LoopsOK Try.prog (impl_Board_steps_LS0 F) (bodyOf Try.f26) := loopsOK_nil
theorem impl_Board_steps_keys : keysOK (bodyOf Try.f26) = true := by kernel_rfl
def impl_Board_steps_st5 (direction0 : Int) (t194 : Nat) (t205 : Int) (t198 : List (List Int)) (t216 : Int) (out7 : List (List Int)) : St := ⟨expand 36 0 [1, 5, 19, 20, 21] [(.int .i64 direction0), (.sl 0 0 (List.length out7)), (.sl 1 0 t194), (.int .i64 t205), (.int .i64 t216)], [(.vec 35 (.rr 4 out7)), (.vec 33 (.rr 2 t198))], 0, []⟩
def impl_Board_steps_o5 (direction0 : Int) (t194 : Nat) (t205 : Int) (t198 : List (List Int)) (x : List (List Int)) : GT := (.out (.exit 0 ⟨expand 36 0 [5] [(.sl 0 0 (List.length x))], [(.vec 35 (.rr 4 x))], 0, []⟩))
def impl_Board_steps_ls5 (F : Nat) : LoopS := ⟨36, [1, 5, 19, 20, 21], [], [5], [], [4], [], [], fun vals mem np killed => match vals, mem, np, killed with
  | [(.int .i64 direction0), (.sl 0 0 q_out2), (.sl 1 0 t194), (.int .i64 t205), (.int .i64 t216)], [(.vec 35 (.rr 4 out7)), (.vec 33 (.rr 2 t198))], 0, [] => .br ((Nat.beq q_out2 (List.length out7)) && (impl_Board_steps_l5 F direction0 t194 t205 t198 t216 out7).isSome) (impl_Board_steps_o5 direction0 t194 t205 t198 ((impl_Board_steps_l5 F direction0 t194 t205 t198 t216 out7).getD default)) .fail
  | _, _, _, _ => .fail⟩
theorem impl_Board_steps_step5 (F : Nat) (direction0 : Int) (t194 : Nat) (t205 : Int) (t198 : List (List Int)) (t216 : Int) (out7 : List (List Int)) {R : Type} (k : Out → Option R) : stepS tt (impl_Board_steps_tab F) (impl_Board_steps_LS0 F) 70 (impl_Board_steps_ls5 F) (loopAt 5 (bodyOf Try.f26)) (impl_Board_steps_st5 direction0 t194 t205 t198 t216 out7) k = impl_Board_steps_s5 F direction0 t194 t205 t198 R (t216, out7) (fun s => k (.norm (impl_Board_steps_st5 direction0 t194 t205 t198 s.1 s.2))) (fun x => (impl_Board_steps_o5 direction0 t194 t205 t198 x).run k) := by kernel_rfl
theorem impl_Board_steps_iter5 (F : Nat) (direction0 : Int) (t194 : Nat) (t205 : Int) (t198 : List (List Int)) {R : Type} (k : Out → Option R) : ∀ (n : Nat) (t216 : Int) (out7 : List (List Int)), iterS tt (impl_Board_steps_tab F) (impl_Board_steps_LS0 F) 70 (impl_Board_steps_ls5 F) (loopAt 5 (bodyOf Try.f26)) n (impl_Board_steps_st5 direction0 t194 t205 t198 t216 out7) k = loopC (impl_Board_steps_s5 F direction0 t194 t205 t198) n (t216, out7) (fun x => (impl_Board_steps_o5 direction0 t194 t205 t198 x).run k)
  | 0, t216, out7 => rfl
  | n + 1, t216, out7 => (iterS_succ tt (impl_Board_steps_tab F) (impl_Board_steps_LS0 F) 70 (impl_Board_steps_ls5 F) (loopAt 5 (bodyOf Try.f26)) n (impl_Board_steps_st5 direction0 t194 t205 t198 t216 out7) k).trans ((impl_Board_steps_step5 F direction0 t194 t205 t198 t216 out7 (nextK (iterS tt (impl_Board_steps_tab F) (impl_Board_steps_LS0 F) 70 (impl_Board_steps_ls5 F) (loopAt 5 (bodyOf Try.f26)) n) k)).trans (congrArg (fun kn => impl_Board_steps_s5 F direction0 t194 t205 t198 R (t216, out7) kn _) (funext (fun ⟨t216, out7⟩ => impl_Board_steps_iter5 F direction0 t194 t205 t198 k n t216 out7))))
theorem impl_Board_steps_lok5 (F : Nat) : LoopOK Try.prog (loopAt 5 (bodyOf Try.f26)) (impl_Board_steps_ls5 F) := by
  refine loopOK_of mixed ttok deep (impl_Board_steps_tabok F) (loopsOK_at (impl_Board_steps_lsok0 F) 5) (fuel := 70) fun R vals mem np killed k x h => ?_
  simp only [impl_Board_steps_ls5] at h
  split at h
  · rename_i direction0 q_out2 t194 t205 t216 out7 t198
    simp only [GT.run] at h
    have hc := (cond_noneL h).1
    replace h := (cond_noneL h).2
    have hg := (and_split hc).1
    replace hc := (and_split hc).2
    obtain rfl := nbeq_nat hg
    refine ⟨F, (impl_Board_steps_iter5 F direction0 t194 t205 t198 k F t216 out7).trans ((loopC_use (impl_Board_steps_s5_nat F direction0 t194 t205 t198) hc _).trans h)⟩
  · simp only [GT.run] at h
    cases h
noncomputable def impl_Board_steps_LS1 (F : Nat) : LT := (5, impl_Board_steps_ls5 F) :: impl_Board_steps_LS0 F
theorem impl_Board_steps_lsok1 (F : Nat) : LoopsOK Try.prog (impl_Board_steps_LS1 F) (bodyOf Try.f26) := loopsOK_cons impl_Board_steps_keys (impl_Board_steps_lok5 F) (impl_Board_steps_lsok0 F)
theorem impl_Board_steps_run (F : Nat) (b0 : List Int) (direction1 : Int) : runS tt (impl_Board_steps_tab F) (impl_Board_steps_LS1 F) [] [] Try.f26 (bodyOf Try.f26) 70 [(.ints 16 b0), (.int .i64 direction1)] [] = impl_Board_steps_c _ F b0 direction1 (fun r => some ⟨(.sl 0 0 (List.length r)), [(.vec 35 (.rr 4 r))], []⟩) := by kernel_rfl
def impl_Board_steps_ent (F : Nat) : Ent := ⟨[], .fresh, fun args mem => match args, mem with
  | [(.ints 16 b0), (.int .i64 direction1)], [] => some ((impl_Board_steps_p F b0 direction1).isSome, ⟨(.sl 0 0 (List.length ((impl_Board_steps_p F b0 direction1).getD default))), [(.vec 35 (.rr 4 ((impl_Board_steps_p F b0 direction1).getD default)))], []⟩)
  | _, _ => none⟩
theorem impl_Board_steps_fok : FunOK Try.prog 26 := funOK Try.func26 (by kernel_rfl) rfl
theorem impl_Board_steps_meets (F : Nat) : Meets Try.prog 26 (impl_Board_steps_ent F) := by
  refine meets_of_runS mixed ttok deep (impl_Board_steps_tabok F) Try.func26 (body_some rfl) (impl_Board_steps_lsok1 F) fun args mem hfit ret h => ?_
  clear hfit
  simp only [impl_Board_steps_ent] at h
  split at h
  · rename_i b0 direction1
    simp only [Option.some.injEq, Prod.mk.injEq] at h
    obtain ⟨hc, rfl⟩ := h
    exact ⟨[], [], 70, _, (impl_Board_steps_run F b0 direction1).trans ((impl_Board_steps_cp _ F b0 direction1 _).trans (bind_use hc _)), rfl, rfl, rfl⟩
  · cases h

/-! loop.example/g01194/impl.StepsOf -/
noncomputable def impl_StepsOf_tab (F : Nat) : Tab := [(24, (impl_IsBoard_ent F)), (25, (impl_isDirection_ent F)), (26, (impl_Board_steps_ent F))]
theorem impl_StepsOf_tabok (F : Nat) : TabOK Try.prog (impl_StepsOf_tab F) := (tab_cons (impl_IsBoard_meets F) impl_IsBoard_fok (tab_cons (impl_isDirection_meets F) impl_isDirection_fok (tab_cons (impl_Board_steps_meets F) impl_Board_steps_fok tab_nil)))
noncomputable def impl_StepsOf_LS0 (F : Nat) : LT := []
theorem impl_StepsOf_lsok0 (F : Nat) : LoopsOK Try.prog (impl_StepsOf_LS0 F) (bodyOf Try.f6) := loopsOK_nil
theorem impl_StepsOf_run (F : Nat) (b0 : List Int) (direction1 : Int) : runS tt (impl_StepsOf_tab F) (impl_StepsOf_LS0 F) [⟨4, 35, (.rr 4 ([] : List (List Int)))⟩] [] Try.f6 (bodyOf Try.f6) 70 [(.ints 16 b0), (.int .i64 direction1)] [] = impl_StepsOf_c _ F b0 direction1 (fun r => some ⟨(.tup [(.sl 0 0 (List.length r.2)), (.bool r.1)]), [(.vec 35 (.rr 4 r.2))], []⟩) := by kernel_rfl
def impl_StepsOf_ent (F : Nat) : Ent := ⟨[], .fresh, fun args mem => match args, mem with
  | [(.ints 16 b0), (.int .i64 direction1)], [] => some ((impl_StepsOf_p F b0 direction1).isSome, ⟨(.tup [(.sl 0 0 (List.length ((impl_StepsOf_p F b0 direction1).getD default).2)), (.bool ((impl_StepsOf_p F b0 direction1).getD default).1)]), [(.vec 35 (.rr 4 ((impl_StepsOf_p F b0 direction1).getD default).2))], []⟩)
  | _, _ => none⟩
theorem impl_StepsOf_fok : FunOK Try.prog 6 := funOK Try.func6 (by kernel_rfl) rfl
theorem impl_StepsOf_meets (F : Nat) : Meets Try.prog 6 (impl_StepsOf_ent F) := by
  refine meets_of_runS mixed ttok deep (impl_StepsOf_tabok F) Try.func6 (body_some rfl) (impl_StepsOf_lsok0 F) fun args mem hfit ret h => ?_
  clear hfit
  simp only [impl_StepsOf_ent] at h
  split at h
  · rename_i b0 direction1
    simp only [Option.some.injEq, Prod.mk.injEq] at h
    obtain ⟨hc, rfl⟩ := h
    exact ⟨[⟨4, 35, (.rr 4 ([] : List (List Int)))⟩], [], 70, _, (impl_StepsOf_run F b0 direction1).trans ((impl_StepsOf_cp _ F b0 direction1 _).trans (bind_use hc _)), rfl, rfl, rfl⟩
  · cases h

/-! loop.example/g01194/spec.l2Side -/
noncomputable def spec_l2Side_tab (F : Nat) : Tab := [(54, (spec_l1In_ent F))]
theorem spec_l2Side_tabok (F : Nat) : TabOK Try.prog (spec_l2Side_tab F) := (tab_cons (spec_l1In_meets F) spec_l1In_fok tab_nil)
noncomputable def spec_l2Side_LS0 (F : Nat) : LT := []
theorem spec_l2Side_lsok0 (F : Nat) : LoopsOK Try.prog (spec_l2Side_LS0 F) (bodyOf Try.f28) := loopsOK_nil
theorem spec_l2Side_run (F : Nat) (d0 : Int) : runS tt (spec_l2Side_tab F) (spec_l2Side_LS0 F) [] [] Try.f28 (bodyOf Try.f28) 70 [(.int .i64 d0)] [] = spec_l2Side_c _ d0 (fun r => some ⟨(.bool r), [], []⟩) := by kernel_rfl
def spec_l2Side_ent (F : Nat) : Ent := ⟨[], .quiet, fun args mem => match args, mem with
  | [(.int .i64 d0)], [] => some (true, ⟨(.bool (spec_l2Side_v d0)), [], []⟩)
  | _, _ => none⟩
theorem spec_l2Side_fok : FunOK Try.prog 28 := funOK Try.func28 (by kernel_rfl) rfl
theorem spec_l2Side_meets (F : Nat) : Meets Try.prog 28 (spec_l2Side_ent F) := by
  refine meets_of_runS mixed ttok deep (spec_l2Side_tabok F) Try.func28 (body_some rfl) (spec_l2Side_lsok0 F) fun args mem hfit ret h => ?_
  clear hfit
  simp only [spec_l2Side_ent] at h
  split at h
  · rename_i d0
    simp only [Option.some.injEq, Prod.mk.injEq] at h
    obtain ⟨hc, rfl⟩ := h
    exact ⟨[], [], 70, _, (spec_l2Side_run F d0).trans (spec_l2Side_cv _ d0 _), rfl, rfl, rfl⟩
  · cases h

/-! loop.example/g01194/spec.l2Line -/
noncomputable def spec_l2Line_tab (F : Nat) : Tab := []
theorem spec_l2Line_tabok (F : Nat) : TabOK Try.prog (spec_l2Line_tab F) := tab_nil
noncomputable def spec_l2Line_LS0 (F : Nat) : LT := []
theorem spec_l2Line_lsok0 (F : Nat) : LoopsOK Try.prog (spec_l2Line_LS0 F) (bodyOf Try.f78) := loopsOK_nil
theorem spec_l2Line_keys : keysOK (bodyOf Try.f78) = true := by kernel_rfl
def spec_l2Line_st3 (d0 : Int) (i1 : Int) (k8 : Int) (out10 : List Int) : St := ⟨expand 42 0 [0, 1, 4, 5, 6] [(.int .i64 d0), (.int .i64 i1), (.ptr 0 0 0 8), (.ptr 1 0 0 8), (.int .i64 k8)], [(.var 8 (.ri .i64 [(0 : Int), (0 : Int), (0 : Int), (0 : Int), (0 : Int), (0 : Int), (0 : Int), (0 : Int)])), (.var 8 (.ri .i64 out10))], 0, []⟩
def spec_l2Line_o3 (d0 : Int) (i1 : Int) (x : List Int) : GT := (.out (.exit 0 ⟨expand 42 0 [4, 5] [(.ptr 0 0 0 8), (.ptr 1 0 0 8)], [(.var 8 (.ri .i64 [(0 : Int), (0 : Int), (0 : Int), (0 : Int), (0 : Int), (0 : Int), (0 : Int), (0 : Int)])), (.var 8 (.ri .i64 x))], 0, []⟩))
def spec_l2Line_ls3 (F : Nat) : LoopS := ⟨42, [0, 1, 4, 5, 6], [], [4, 5], [], [4], [], [], fun vals mem np killed => match vals, mem, np, killed with
  | [(.int .i64 d0), (.int .i64 i1), (.ptr 0 0 0 8), (.ptr 1 0 0 8), (.int .i64 k8)], [(.var 8 (.ri .i64 q_t49)), (.var 8 (.ri .i64 out10))], 0, [] => .br ((q_t49 == ([(0 : Int), (0 : Int), (0 : Int), (0 : Int), (0 : Int), (0 : Int), (0 : Int), (0 : Int)] : List Int)) && (spec_l2Line_l3 F d0 i1 k8 out10).isSome) (spec_l2Line_o3 d0 i1 ((spec_l2Line_l3 F d0 i1 k8 out10).getD default)) .fail
  | _, _, _, _ => .fail⟩
theorem spec_l2Line_step3 (F : Nat) (d0 : Int) (i1 : Int) (k8 : Int) (out10 : List Int) {R : Type} (k : Out → Option R) : stepS tt (spec_l2Line_tab F) (spec_l2Line_LS0 F) 70 (spec_l2Line_ls3 F) (loopAt 3 (bodyOf Try.f78)) (spec_l2Line_st3 d0 i1 k8 out10) k = spec_l2Line_s3 F d0 i1 R (k8, out10) (fun s => k (.norm (spec_l2Line_st3 d0 i1 s.1 s.2))) (fun x => (spec_l2Line_o3 d0 i1 x).run k) := by kernel_rfl
theorem spec_l2Line_iter3 (F : Nat) (d0 : Int) (i1 : Int) {R : Type} (k : Out → Option R) : ∀ (n : Nat) (k8 : Int) (out10 : List Int), iterS tt (spec_l2Line_tab F) (spec_l2Line_LS0 F) 70 (spec_l2Line_ls3 F) (loopAt 3 (bodyOf Try.f78)) n (spec_l2Line_st3 d0 i1 k8 out10) k = loopC (spec_l2Line_s3 F d0 i1) n (k8, out10) (fun x => (spec_l2Line_o3 d0 i1 x).run k)
  | 0, k8, out10 => rfl
  | n + 1, k8, out10 => (iterS_succ tt (spec_l2Line_tab F) (spec_l2Line_LS0 F) 70 (spec_l2Line_ls3 F) (loopAt 3 (bodyOf Try.f78)) n (spec_l2Line_st3 d0 i1 k8 out10) k).trans ((spec_l2Line_step3 F d0 i1 k8 out10 (nextK (iterS tt (spec_l2Line_tab F) (spec_l2Line_LS0 F) 70 (spec_l2Line_ls3 F) (loopAt 3 (bodyOf Try.f78)) n) k)).trans (congrArg (fun kn => spec_l2Line_s3 F d0 i1 R (k8, out10) kn _) (funext (fun ⟨k8, out10⟩ => spec_l2Line_iter3 F d0 i1 k n k8 out10))))
theorem spec_l2Line_lok3 (F : Nat) : LoopOK Try.prog (loopAt 3 (bodyOf Try.f78)) (spec_l2Line_ls3 F) := by
  refine loopOK_of mixed ttok deep (spec_l2Line_tabok F) (loopsOK_at (spec_l2Line_lsok0 F) 3) (fuel := 70) fun R vals mem np killed k x h => ?_
  simp only [spec_l2Line_ls3] at h
  split at h
  · rename_i d0 i1 k8 q_t49 out10
    simp only [GT.run] at h
    have hc := (cond_noneL h).1
    replace h := (cond_noneL h).2
    have hg := (and_split hc).1
    replace hc := (and_split hc).2
    obtain rfl := beq_li hg
    refine ⟨F, (spec_l2Line_iter3 F d0 i1 k F k8 out10).trans ((loopC_use (spec_l2Line_s3_nat F d0 i1) hc _).trans h)⟩
  · simp only [GT.run] at h
    cases h
noncomputable def spec_l2Line_LS1 (F : Nat) : LT := (3, spec_l2Line_ls3 F) :: spec_l2Line_LS0 F
theorem spec_l2Line_lsok1 (F : Nat) : LoopsOK Try.prog (spec_l2Line_LS1 F) (bodyOf Try.f78) := loopsOK_cons spec_l2Line_keys (spec_l2Line_lok3 F) (spec_l2Line_lsok0 F)
theorem spec_l2Line_run (F : Nat) (d0 : Int) (i1 : Int) : runS tt (spec_l2Line_tab F) (spec_l2Line_LS1 F) [] [] Try.f78 (bodyOf Try.f78) 70 [(.int .i64 d0), (.int .i64 i1)] [] = spec_l2Line_c _ F d0 i1 (fun r => some ⟨(.ints 8 r), [], []⟩) := by kernel_rfl
def spec_l2Line_ent (F : Nat) : Ent := ⟨[], .quiet, fun args mem => match args, mem with
  | [(.int .i64 d0), (.int .i64 i1)], [] => some ((spec_l2Line_p F d0 i1).isSome, ⟨(.ints 8 ((spec_l2Line_p F d0 i1).getD default)), [], []⟩)
  | _, _ => none⟩
theorem spec_l2Line_fok : FunOK Try.prog 78 := funOK Try.func78 (by kernel_rfl) rfl
theorem spec_l2Line_meets (F : Nat) : Meets Try.prog 78 (spec_l2Line_ent F) := by
  refine meets_of_runS mixed ttok deep (spec_l2Line_tabok F) Try.func78 (body_some rfl) (spec_l2Line_lsok1 F) fun args mem hfit ret h => ?_
  clear hfit
  simp only [spec_l2Line_ent] at h
  split at h
  · rename_i d0 i1
    simp only [Option.some.injEq, Prod.mk.injEq] at h
    obtain ⟨hc, rfl⟩ := h
    exact ⟨[], [], 70, _, (spec_l2Line_run F d0 i1).trans ((spec_l2Line_cp _ F d0 i1 _).trans (bind_use hc _)), rfl, rfl, rfl⟩
  · cases h

/-! loop.example/g01194/spec.l2At -/
noncomputable def spec_l2At_tab (F : Nat) : Tab := []
theorem spec_l2At_tabok (F : Nat) : TabOK Try.prog (spec_l2At_tab F) := tab_nil
noncomputable def spec_l2At_LS0 (F : Nat) : LT := []
theorem spec_l2At_lsok0 (F : Nat) : LoopsOK Try.prog (spec_l2At_LS0 F) (bodyOf Try.f60) := loopsOK_nil
theorem spec_l2At_run (F : Nat) (b0 : List Int) (cell1 : List Int) : runS tt (spec_l2At_tab F) (spec_l2At_LS0 F) [] [] Try.f60 (bodyOf Try.f60) 70 [(.ints 16 b0), (.ints 2 cell1)] [] = spec_l2At_c _ b0 cell1 (fun r => some ⟨(.int .i64 r), [], []⟩) := by kernel_rfl
def spec_l2At_ent (F : Nat) : Ent := ⟨[], .quiet, fun args mem => match args, mem with
  | [(.ints 16 b0), (.ints 2 cell1)], [] => some ((spec_l2At_p b0 cell1).isSome, ⟨(.int .i64 ((spec_l2At_p b0 cell1).getD default)), [], []⟩)
  | _, _ => none⟩
theorem spec_l2At_fok : FunOK Try.prog 60 := funOK Try.func60 (by kernel_rfl) rfl
theorem spec_l2At_meets (F : Nat) : Meets Try.prog 60 (spec_l2At_ent F) := by
  refine meets_of_runS mixed ttok deep (spec_l2At_tabok F) Try.func60 (body_some rfl) (spec_l2At_lsok0 F) fun args mem hfit ret h => ?_
  clear hfit
  simp only [spec_l2At_ent] at h
  split at h
  · rename_i b0 cell1
    simp only [Option.some.injEq, Prod.mk.injEq] at h
    obtain ⟨hc, rfl⟩ := h
    exact ⟨[], [], 70, _, (spec_l2At_run F b0 cell1).trans ((spec_l2At_cp _ b0 cell1 _).trans (bind_use hc _)), rfl, rfl, rfl⟩
  · cases h

/-! loop.example/g01194/spec.l2Numbers -/
noncomputable def spec_l2Numbers_tab (F : Nat) : Tab := [(78, (spec_l2Line_ent F)), (60, (spec_l2At_ent F))]
theorem spec_l2Numbers_tabok (F : Nat) : TabOK Try.prog (spec_l2Numbers_tab F) := (tab_cons (spec_l2Line_meets F) spec_l2Line_fok (tab_cons (spec_l2At_meets F) spec_l2At_fok tab_nil))
noncomputable def spec_l2Numbers_LS0 (F : Nat) : LT := []
theorem spec_l2Numbers_lsok0 (F : Nat) : LoopsOK Try.prog (spec_l2Numbers_LS0 F) (bodyOf Try.f77) := loopsOK_nil
theorem spec_l2Numbers_run (F : Nat) (b0 : List Int) (d1 : Int) (i2 : Int) : runS tt (spec_l2Numbers_tab F) (spec_l2Numbers_LS0 F) [] [] Try.f77 (bodyOf Try.f77) 70 [(.ints 16 b0), (.int .i64 d1), (.int .i64 i2)] [] = spec_l2Numbers_c _ F b0 d1 i2 (fun r => some ⟨(.ints 4 r), [], []⟩) := by kernel_rfl
def spec_l2Numbers_ent (F : Nat) : Ent := ⟨[], .quiet, fun args mem => match args, mem with
  | [(.ints 16 b0), (.int .i64 d1), (.int .i64 i2)], [] => some ((spec_l2Numbers_p F b0 d1 i2).isSome, ⟨(.ints 4 ((spec_l2Numbers_p F b0 d1 i2).getD default)), [], []⟩)
  | _, _ => none⟩
theorem spec_l2Numbers_fok : FunOK Try.prog 77 := funOK Try.func77 (by kernel_rfl) rfl
theorem spec_l2Numbers_meets (F : Nat) : Meets Try.prog 77 (spec_l2Numbers_ent F) := by
  refine meets_of_runS mixed ttok deep (spec_l2Numbers_tabok F) Try.func77 (body_some rfl) (spec_l2Numbers_lsok0 F) fun args mem hfit ret h => ?_
  clear hfit
  simp only [spec_l2Numbers_ent] at h
  split at h
  · rename_i b0 d1 i2
    simp only [Option.some.injEq, Prod.mk.injEq] at h
    obtain ⟨hc, rfl⟩ := h
    exact ⟨[], [], 70, _, (spec_l2Numbers_run F b0 d1 i2).trans ((spec_l2Numbers_cp _ F b0 d1 i2 _).trans (bind_use hc _)), rfl, rfl, rfl⟩
  · cases h

/-! loop.example/g01194/spec.l2Worth -/
noncomputable def spec_l2Worth_tab (F : Nat) : Tab := []
theorem spec_l2Worth_tabok (F : Nat) : TabOK Try.prog (spec_l2Worth_tab F) := tab_nil
noncomputable def spec_l2Worth_LS0 (F : Nat) : LT := []
theorem spec_l2Worth_lsok0 (F : Nat) : LoopsOK Try.prog (spec_l2Worth_LS0 F) (bodyOf Try.f85) := loopsOK_nil
theorem spec_l2Worth_run (F : Nat) (t0 : Int) : runS tt (spec_l2Worth_tab F) (spec_l2Worth_LS0 F) [] [] Try.f85 (bodyOf Try.f85) 70 [(.int .i64 t0)] [] = spec_l2Worth_c _ t0 (fun r => some ⟨(.int .i64 r), [], []⟩) := by kernel_rfl
def spec_l2Worth_ent (F : Nat) : Ent := ⟨[], .quiet, fun args mem => match args, mem with
  | [(.int .i64 t0)], [] => some ((spec_l2Worth_p t0).isSome, ⟨(.int .i64 ((spec_l2Worth_p t0).getD default)), [], []⟩)
  | _, _ => none⟩
theorem spec_l2Worth_fok : FunOK Try.prog 85 := funOK Try.func85 (by kernel_rfl) rfl
theorem spec_l2Worth_meets (F : Nat) : Meets Try.prog 85 (spec_l2Worth_ent F) := by
  refine meets_of_runS mixed ttok deep (spec_l2Worth_tabok F) Try.func85 (body_some rfl) (spec_l2Worth_lsok0 F) fun args mem hfit ret h => ?_
  clear hfit
  simp only [spec_l2Worth_ent] at h
  split at h
  · rename_i t0
    simp only [Option.some.injEq, Prod.mk.injEq] at h
    obtain ⟨hc, rfl⟩ := h
    exact ⟨[], [], 70, _, (spec_l2Worth_run F t0).trans ((spec_l2Worth_cp _ t0 _).trans (bind_use hc _)), rfl, rfl, rfl⟩
  · cases h
end Go.Proofs.Ytabfliifleonaaf
