/-
Pure functions and what the code of them does, by program; without conditions.
-/
import Derived.Test.YtabfliifleonaahQhP2
import Derived.Test.YtabfliifleonaahQhS1
namespace Go.Proofs.Ytabfliifleonaah
open Go Go.Lv Go.Lv.P Go.Proofs
set_option linter.unusedVariables false
set_option linter.unusedSimpArgs false
set_option maxRecDepth 100000
/-! (loop.example/g01194/impl.Board).slide -/
noncomputable def impl_Board_slide_tab (F : Nat) : Tab := [(52, (impl_Board_line_ent F)), (51, (impl_slideRow_ent F)), (53, (impl_Board_withLine_ent F))]
theorem impl_Board_slide_tabok (F : Nat) : TabOK Try.prog (impl_Board_slide_tab F) := (tab_cons (impl_Board_line_meets F) impl_Board_line_fok (tab_cons (impl_slideRow_meets F) impl_slideRow_fok (tab_cons (impl_Board_withLine_meets F) impl_Board_withLine_fok tab_nil)))
noncomputable def impl_Board_slide_LS0 (F : Nat) : LT := []
theorem impl_Board_slide_lsok0 (F : Nat) : LoopsOK Try.prog (impl_Board_slide_LS0 F) (bodyOf Try.f25) := loopsOK_nil
theorem impl_Board_slide_keys : keysOK (bodyOf Try.f25) = true := by kernel_rfl
def impl_Board_slide_st8 (direction0 : Int) (score10 : Int) (t1712 : Int) (t3713 : List Bool) (b15 : List Int) (out17 : List Int) (mergers11 : Int) (t3814 : Int) : St := ⟨expand 49 0 [1, 2, 4, 7, 8, 9, 17, 37, 38] [(.int .i64 direction0), (.ptr 0 0 0 16), (.ptr 1 0 0 16), (.ptr 2 0 0 16), (.int .i64 score10), (.int .i64 mergers11), (.int .i64 t1712), (.bools 4 t3713), (.int .i64 t3814)], [(.var 16 (.ri .i64 b15)), (.var 16 (.ri .i64 [(0 : Int), (0 : Int), (0 : Int), (0 : Int), (0 : Int), (0 : Int), (0 : Int), (0 : Int), (0 : Int), (0 : Int), (0 : Int), (0 : Int), (0 : Int), (0 : Int), (0 : Int), (0 : Int)])), (.var 16 (.ri .i64 out17))], 0, []⟩
def impl_Board_slide_o8 (direction0 : Int) (score10 : Int) (t1712 : Int) (t3713 : List Bool) (b15 : List Int) (out17 : List Int) (x : Int) : GT := (.out (.exit 2 ⟨expand 49 0 [1, 2, 4, 7, 8, 9, 17] [(.int .i64 direction0), (.ptr 0 0 0 16), (.ptr 1 0 0 16), (.ptr 2 0 0 16), (.int .i64 score10), (.int .i64 x), (.int .i64 t1712)], [(.var 16 (.ri .i64 b15)), (.var 16 (.ri .i64 [(0 : Int), (0 : Int), (0 : Int), (0 : Int), (0 : Int), (0 : Int), (0 : Int), (0 : Int), (0 : Int), (0 : Int), (0 : Int), (0 : Int), (0 : Int), (0 : Int), (0 : Int), (0 : Int)])), (.var 16 (.ri .i64 out17))], 0, []⟩))
def impl_Board_slide_ls8 (F : Nat) : LoopS := ⟨49, [1, 2, 4, 7, 8, 9, 17, 37, 38], [], [1, 2, 4, 7, 8, 9, 17], [], [4, 5, 6], [], [], fun vals mem np killed => match vals, mem, np, killed with
  | [(.int .i64 direction0), (.ptr 0 0 0 16), (.ptr 1 0 0 16), (.ptr 2 0 0 16), (.int .i64 score10), (.int .i64 mergers11), (.int .i64 t1712), (.bools 4 t3713), (.int .i64 t3814)], [(.var 16 (.ri .i64 b15)), (.var 16 (.ri .i64 q_t416)), (.var 16 (.ri .i64 out17))], 0, [] => .br ((q_t416 == ([(0 : Int), (0 : Int), (0 : Int), (0 : Int), (0 : Int), (0 : Int), (0 : Int), (0 : Int), (0 : Int), (0 : Int), (0 : Int), (0 : Int), (0 : Int), (0 : Int), (0 : Int), (0 : Int)] : List Int)) && (impl_Board_slide_l8 F direction0 score10 t1712 t3713 b15 out17 mergers11 t3814).isSome) (impl_Board_slide_o8 direction0 score10 t1712 t3713 b15 out17 ((impl_Board_slide_l8 F direction0 score10 t1712 t3713 b15 out17 mergers11 t3814).getD default)) .fail
  | _, _, _, _ => .fail⟩
theorem impl_Board_slide_step8 (F : Nat) (direction0 : Int) (score10 : Int) (t1712 : Int) (t3713 : List Bool) (b15 : List Int) (out17 : List Int) (mergers11 : Int) (t3814 : Int) {R : Type} (k : Out → Option R) : stepS tt (impl_Board_slide_tab F) (impl_Board_slide_LS0 F) 70 (impl_Board_slide_ls8 F) (loopAt 8 (bodyOf Try.f25)) (impl_Board_slide_st8 direction0 score10 t1712 t3713 b15 out17 mergers11 t3814) k = impl_Board_slide_s8 F direction0 score10 t1712 t3713 b15 out17 R (mergers11, t3814) (fun s => k (.norm (impl_Board_slide_st8 direction0 score10 t1712 t3713 b15 out17 s.1 s.2))) (fun x => (impl_Board_slide_o8 direction0 score10 t1712 t3713 b15 out17 x).run k) := by kernel_rfl
theorem impl_Board_slide_iter8 (F : Nat) (direction0 : Int) (score10 : Int) (t1712 : Int) (t3713 : List Bool) (b15 : List Int) (out17 : List Int) {R : Type} (k : Out → Option R) : ∀ (n : Nat) (mergers11 : Int) (t3814 : Int), iterS tt (impl_Board_slide_tab F) (impl_Board_slide_LS0 F) 70 (impl_Board_slide_ls8 F) (loopAt 8 (bodyOf Try.f25)) n (impl_Board_slide_st8 direction0 score10 t1712 t3713 b15 out17 mergers11 t3814) k = loopC (impl_Board_slide_s8 F direction0 score10 t1712 t3713 b15 out17) n (mergers11, t3814) (fun x => (impl_Board_slide_o8 direction0 score10 t1712 t3713 b15 out17 x).run k)
  | 0, mergers11, t3814 => rfl
  | n + 1, mergers11, t3814 => (iterS_succ tt (impl_Board_slide_tab F) (impl_Board_slide_LS0 F) 70 (impl_Board_slide_ls8 F) (loopAt 8 (bodyOf Try.f25)) n (impl_Board_slide_st8 direction0 score10 t1712 t3713 b15 out17 mergers11 t3814) k).trans ((impl_Board_slide_step8 F direction0 score10 t1712 t3713 b15 out17 mergers11 t3814 (nextK (iterS tt (impl_Board_slide_tab F) (impl_Board_slide_LS0 F) 70 (impl_Board_slide_ls8 F) (loopAt 8 (bodyOf Try.f25)) n) k)).trans (congrArg (fun kn => impl_Board_slide_s8 F direction0 score10 t1712 t3713 b15 out17 R (mergers11, t3814) kn _) (funext (fun ⟨mergers11, t3814⟩ => impl_Board_slide_iter8 F direction0 score10 t1712 t3713 b15 out17 k n mergers11 t3814))))
theorem impl_Board_slide_lok8 (F : Nat) : LoopOK Try.prog (loopAt 8 (bodyOf Try.f25)) (impl_Board_slide_ls8 F) := by
  refine loopOK_of mixed ttok deep (impl_Board_slide_tabok F) (loopsOK_at (impl_Board_slide_lsok0 F) 8) (fuel := 70) fun R vals mem np killed k x h => ?_
  simp only [impl_Board_slide_ls8] at h
  split at h
  · rename_i direction0 score10 mergers11 t1712 t3713 t3814 b15 q_t416 out17
    simp only [GT.run] at h
    have hc := (cond_noneL h).1
    replace h := (cond_noneL h).2
    have hg := (and_split hc).1
    replace hc := (and_split hc).2
    obtain rfl := beq_li hg
    refine ⟨F, (impl_Board_slide_iter8 F direction0 score10 t1712 t3713 b15 out17 k F mergers11 t3814).trans ((loopC_use (impl_Board_slide_s8_nat F direction0 score10 t1712 t3713 b15 out17) hc _).trans h)⟩
  · simp only [GT.run] at h
    cases h
noncomputable def impl_Board_slide_LS1 (F : Nat) : LT := (8, impl_Board_slide_ls8 F) :: impl_Board_slide_LS0 F
theorem impl_Board_slide_lsok1 (F : Nat) : LoopsOK Try.prog (impl_Board_slide_LS1 F) (bodyOf Try.f25) := loopsOK_cons impl_Board_slide_keys (impl_Board_slide_lok8 F) (impl_Board_slide_lsok0 F)
def impl_Board_slide_st3 (direction0 : Int) (b13 : List Int) (score10 : Int) (mergers11 : Int) (t1712 : Int) (out15 : List Int) : St := ⟨expand 49 0 [1, 2, 4, 7, 8, 9, 17] [(.int .i64 direction0), (.ptr 0 0 0 16), (.ptr 1 0 0 16), (.ptr 2 0 0 16), (.int .i64 score10), (.int .i64 mergers11), (.int .i64 t1712)], [(.var 16 (.ri .i64 b13)), (.var 16 (.ri .i64 [(0 : Int), (0 : Int), (0 : Int), (0 : Int), (0 : Int), (0 : Int), (0 : Int), (0 : Int), (0 : Int), (0 : Int), (0 : Int), (0 : Int), (0 : Int), (0 : Int), (0 : Int), (0 : Int)])), (.var 16 (.ri .i64 out15))], 0, []⟩
def impl_Board_slide_o3 (direction0 : Int) (b13 : List Int) (x : Int × Int × List Int) : GT := (.out (.exit 0 ⟨expand 49 0 [4, 7, 8, 9] [(.ptr 0 0 0 16), (.ptr 1 0 0 16), (.int .i64 x.1), (.int .i64 x.2.1)], [(.var 16 (.ri .i64 [(0 : Int), (0 : Int), (0 : Int), (0 : Int), (0 : Int), (0 : Int), (0 : Int), (0 : Int), (0 : Int), (0 : Int), (0 : Int), (0 : Int), (0 : Int), (0 : Int), (0 : Int), (0 : Int)])), (.var 16 (.ri .i64 x.2.2))], 0, []⟩))
def impl_Board_slide_ls3 (F : Nat) : LoopS := ⟨49, [1, 2, 4, 7, 8, 9, 17], [], [4, 7, 8, 9], [], [4, 5, 6], [], [], fun vals mem np killed => match vals, mem, np, killed with
  | [(.int .i64 direction0), (.ptr 0 0 0 16), (.ptr 1 0 0 16), (.ptr 2 0 0 16), (.int .i64 score10), (.int .i64 mergers11), (.int .i64 t1712)], [(.var 16 (.ri .i64 b13)), (.var 16 (.ri .i64 q_t414)), (.var 16 (.ri .i64 out15))], 0, [] => .br ((q_t414 == ([(0 : Int), (0 : Int), (0 : Int), (0 : Int), (0 : Int), (0 : Int), (0 : Int), (0 : Int), (0 : Int), (0 : Int), (0 : Int), (0 : Int), (0 : Int), (0 : Int), (0 : Int), (0 : Int)] : List Int)) && (impl_Board_slide_l3 F direction0 b13 score10 mergers11 t1712 out15).isSome) (impl_Board_slide_o3 direction0 b13 ((impl_Board_slide_l3 F direction0 b13 score10 mergers11 t1712 out15).getD default)) .fail
  | _, _, _, _ => .fail⟩
theorem impl_Board_slide_step3 (F : Nat) (direction0 : Int) (b13 : List Int) (score10 : Int) (mergers11 : Int) (t1712 : Int) (out15 : List Int) {R : Type} (k : Out → Option R) : stepS tt (impl_Board_slide_tab F) (impl_Board_slide_LS1 F) 70 (impl_Board_slide_ls3 F) (loopAt 3 (bodyOf Try.f25)) (impl_Board_slide_st3 direction0 b13 score10 mergers11 t1712 out15) k = impl_Board_slide_s3 F direction0 b13 R (score10, mergers11, t1712, out15) (fun s => k (.norm (impl_Board_slide_st3 direction0 b13 s.1 s.2.1 s.2.2.1 s.2.2.2))) (fun x => (impl_Board_slide_o3 direction0 b13 x).run k) := by kernel_rfl
theorem impl_Board_slide_iter3 (F : Nat) (direction0 : Int) (b13 : List Int) {R : Type} (k : Out → Option R) : ∀ (n : Nat) (score10 : Int) (mergers11 : Int) (t1712 : Int) (out15 : List Int), iterS tt (impl_Board_slide_tab F) (impl_Board_slide_LS1 F) 70 (impl_Board_slide_ls3 F) (loopAt 3 (bodyOf Try.f25)) n (impl_Board_slide_st3 direction0 b13 score10 mergers11 t1712 out15) k = loopC (impl_Board_slide_s3 F direction0 b13) n (score10, mergers11, t1712, out15) (fun x => (impl_Board_slide_o3 direction0 b13 x).run k)
  | 0, score10, mergers11, t1712, out15 => rfl
  | n + 1, score10, mergers11, t1712, out15 => (iterS_succ tt (impl_Board_slide_tab F) (impl_Board_slide_LS1 F) 70 (impl_Board_slide_ls3 F) (loopAt 3 (bodyOf Try.f25)) n (impl_Board_slide_st3 direction0 b13 score10 mergers11 t1712 out15) k).trans ((impl_Board_slide_step3 F direction0 b13 score10 mergers11 t1712 out15 (nextK (iterS tt (impl_Board_slide_tab F) (impl_Board_slide_LS1 F) 70 (impl_Board_slide_ls3 F) (loopAt 3 (bodyOf Try.f25)) n) k)).trans (congrArg (fun kn => impl_Board_slide_s3 F direction0 b13 R (score10, mergers11, t1712, out15) kn _) (funext (fun ⟨score10, mergers11, t1712, out15⟩ => impl_Board_slide_iter3 F direction0 b13 k n score10 mergers11 t1712 out15))))
theorem impl_Board_slide_lok3 (F : Nat) : LoopOK Try.prog (loopAt 3 (bodyOf Try.f25)) (impl_Board_slide_ls3 F) := by
  refine loopOK_of mixed ttok deep (impl_Board_slide_tabok F) (loopsOK_at (impl_Board_slide_lsok1 F) 3) (fuel := 70) fun R vals mem np killed k x h => ?_
  simp only [impl_Board_slide_ls3] at h
  split at h
  · rename_i direction0 score10 mergers11 t1712 b13 q_t414 out15
    simp only [GT.run] at h
    have hc := (cond_noneL h).1
    replace h := (cond_noneL h).2
    have hg := (and_split hc).1
    replace hc := (and_split hc).2
    obtain rfl := beq_li hg
    refine ⟨F, (impl_Board_slide_iter3 F direction0 b13 k F score10 mergers11 t1712 out15).trans ((loopC_use (impl_Board_slide_s3_nat F direction0 b13) hc _).trans h)⟩
  · simp only [GT.run] at h
    cases h
noncomputable def impl_Board_slide_LS2 (F : Nat) : LT := (3, impl_Board_slide_ls3 F) :: impl_Board_slide_LS1 F
theorem impl_Board_slide_lsok2 (F : Nat) : LoopsOK Try.prog (impl_Board_slide_LS2 F) (bodyOf Try.f25) := loopsOK_cons impl_Board_slide_keys (impl_Board_slide_lok3 F) (impl_Board_slide_lsok1 F)
theorem impl_Board_slide_run (F : Nat) (b0 : List Int) (direction1 : Int) : runS tt (impl_Board_slide_tab F) (impl_Board_slide_LS2 F) [] [] Try.f25 (bodyOf Try.f25) 70 [(.ints 16 b0), (.int .i64 direction1)] [] = impl_Board_slide_c _ F b0 direction1 (fun r => some ⟨(.tup [(.ints 16 r.1), (.int .i64 r.2.1), (.int .i64 r.2.2)]), [], []⟩) := by kernel_rfl
def impl_Board_slide_ent (F : Nat) : Ent := ⟨[], .quiet, fun args mem => match args, mem with
  | [(.ints 16 b0), (.int .i64 direction1)], [] => some ((impl_Board_slide_p F b0 direction1).isSome, ⟨(.tup [(.ints 16 ((impl_Board_slide_p F b0 direction1).getD default).1), (.int .i64 ((impl_Board_slide_p F b0 direction1).getD default).2.1), (.int .i64 ((impl_Board_slide_p F b0 direction1).getD default).2.2)]), [], []⟩)
  | _, _ => none⟩
theorem impl_Board_slide_fok : FunOK Try.prog 25 := funOK Try.func25 (by kernel_rfl) rfl
theorem impl_Board_slide_meets (F : Nat) : Meets Try.prog 25 (impl_Board_slide_ent F) := by
  refine meets_of_runS mixed ttok deep (impl_Board_slide_tabok F) Try.func25 (body_some rfl) (impl_Board_slide_lsok2 F) fun args mem hfit ret h => ?_
  clear hfit
  simp only [impl_Board_slide_ent] at h
  split at h
  · rename_i b0 direction1
    simp only [Option.some.injEq, Prod.mk.injEq] at h
    obtain ⟨hc, rfl⟩ := h
    exact ⟨[], [], 70, _, (impl_Board_slide_run F b0 direction1).trans ((impl_Board_slide_cp _ F b0 direction1 _).trans (bind_use hc _)), rfl, rfl, rfl⟩
  · cases h

/-! loop.example/g01194/impl.DoSlides -/
noncomputable def impl_DoSlides_tab (F : Nat) : Tab := [(23, (impl_IsBoard_ent F)), (24, (impl_areDirections_ent F)), (25, (impl_Board_slide_ent F))]
theorem impl_DoSlides_tabok (F : Nat) : TabOK Try.prog (impl_DoSlides_tab F) := (tab_cons (impl_IsBoard_meets F) impl_IsBoard_fok (tab_cons (impl_areDirections_meets F) impl_areDirections_fok (tab_cons (impl_Board_slide_meets F) impl_Board_slide_fok tab_nil)))
noncomputable def impl_DoSlides_LS0 (F : Nat) : LT := []
theorem impl_DoSlides_lsok0 (F : Nat) : LoopsOK Try.prog (impl_DoSlides_LS0 F) (bodyOf Try.f6) := loopsOK_nil
theorem impl_DoSlides_keys : keysOK (bodyOf Try.f6) = true := by kernel_rfl
def impl_DoSlides_st5 (t227 : List Int) (t238 : Int) (sum6 : Int) (t249 : Int) (b10 : List Int) : St := ⟨expand 42 0 [2, 4, 7, 22, 23, 24] [(.ptr 0 0 0 16), (.ptr 1 0 0 16), (.int .i64 sum6), (.ri .i64 t227), (.int .i64 t238), (.int .i64 t249)], [(.var 16 (.ri .i64 b10)), (.var 16 (.ri .i64 [(0 : Int), (0 : Int), (0 : Int), (0 : Int), (0 : Int), (0 : Int), (0 : Int), (0 : Int), (0 : Int), (0 : Int), (0 : Int), (0 : Int), (0 : Int), (0 : Int), (0 : Int), (0 : Int)]))], 0, []⟩
def impl_DoSlides_o5 (t227 : List Int) (t238 : Int) (x : Int × List Int) : GT := (.out (.exit 0 ⟨expand 42 0 [2, 4, 7] [(.ptr 0 0 0 16), (.ptr 1 0 0 16), (.int .i64 x.1)], [(.var 16 (.ri .i64 x.2)), (.var 16 (.ri .i64 [(0 : Int), (0 : Int), (0 : Int), (0 : Int), (0 : Int), (0 : Int), (0 : Int), (0 : Int), (0 : Int), (0 : Int), (0 : Int), (0 : Int), (0 : Int), (0 : Int), (0 : Int), (0 : Int)]))], 0, []⟩))
def impl_DoSlides_ls5 (F : Nat) : LoopS := ⟨42, [2, 4, 7, 22, 23, 24], [], [2, 4, 7], [], [4, 5, 6], [], [], fun vals mem np killed => match vals, mem, np, killed with
  | [(.ptr 0 0 0 16), (.ptr 1 0 0 16), (.int .i64 sum6), (.ri .i64 t227), (.int .i64 t238), (.int .i64 t249)], [(.var 16 (.ri .i64 b10)), (.var 16 (.ri .i64 q_t411))], 0, [] => .br ((q_t411 == ([(0 : Int), (0 : Int), (0 : Int), (0 : Int), (0 : Int), (0 : Int), (0 : Int), (0 : Int), (0 : Int), (0 : Int), (0 : Int), (0 : Int), (0 : Int), (0 : Int), (0 : Int), (0 : Int)] : List Int)) && (impl_DoSlides_l5 F t227 t238 sum6 t249 b10).isSome) (impl_DoSlides_o5 t227 t238 ((impl_DoSlides_l5 F t227 t238 sum6 t249 b10).getD default)) .fail
  | _, _, _, _ => .fail⟩
theorem impl_DoSlides_step5 (F : Nat) (t227 : List Int) (t238 : Int) (sum6 : Int) (t249 : Int) (b10 : List Int) {R : Type} (k : Out → Option R) : stepS tt (impl_DoSlides_tab F) (impl_DoSlides_LS0 F) 70 (impl_DoSlides_ls5 F) (loopAt 5 (bodyOf Try.f6)) (impl_DoSlides_st5 t227 t238 sum6 t249 b10) k = impl_DoSlides_s5 F t227 t238 R (sum6, t249, b10) (fun s => k (.norm (impl_DoSlides_st5 t227 t238 s.1 s.2.1 s.2.2))) (fun x => (impl_DoSlides_o5 t227 t238 x).run k) := by kernel_rfl
theorem impl_DoSlides_iter5 (F : Nat) (t227 : List Int) (t238 : Int) {R : Type} (k : Out → Option R) : ∀ (n : Nat) (sum6 : Int) (t249 : Int) (b10 : List Int), iterS tt (impl_DoSlides_tab F) (impl_DoSlides_LS0 F) 70 (impl_DoSlides_ls5 F) (loopAt 5 (bodyOf Try.f6)) n (impl_DoSlides_st5 t227 t238 sum6 t249 b10) k = loopC (impl_DoSlides_s5 F t227 t238) n (sum6, t249, b10) (fun x => (impl_DoSlides_o5 t227 t238 x).run k)
  | 0, sum6, t249, b10 => rfl
  | n + 1, sum6, t249, b10 => (iterS_succ tt (impl_DoSlides_tab F) (impl_DoSlides_LS0 F) 70 (impl_DoSlides_ls5 F) (loopAt 5 (bodyOf Try.f6)) n (impl_DoSlides_st5 t227 t238 sum6 t249 b10) k).trans ((impl_DoSlides_step5 F t227 t238 sum6 t249 b10 (nextK (iterS tt (impl_DoSlides_tab F) (impl_DoSlides_LS0 F) 70 (impl_DoSlides_ls5 F) (loopAt 5 (bodyOf Try.f6)) n) k)).trans (congrArg (fun kn => impl_DoSlides_s5 F t227 t238 R (sum6, t249, b10) kn _) (funext (fun ⟨sum6, t249, b10⟩ => impl_DoSlides_iter5 F t227 t238 k n sum6 t249 b10))))
theorem impl_DoSlides_lok5 (F : Nat) : LoopOK Try.prog (loopAt 5 (bodyOf Try.f6)) (impl_DoSlides_ls5 F) := by
  refine loopOK_of mixed ttok deep (impl_DoSlides_tabok F) (loopsOK_at (impl_DoSlides_lsok0 F) 5) (fuel := 70) fun R vals mem np killed k x h => ?_
  simp only [impl_DoSlides_ls5] at h
  split at h
  · rename_i sum6 t227 t238 t249 b10 q_t411
    simp only [GT.run] at h
    have hc := (cond_noneL h).1
    replace h := (cond_noneL h).2
    have hg := (and_split hc).1
    replace hc := (and_split hc).2
    obtain rfl := beq_li hg
    refine ⟨F, (impl_DoSlides_iter5 F t227 t238 k F sum6 t249 b10).trans ((loopC_use (impl_DoSlides_s5_nat F t227 t238) hc _).trans h)⟩
  · simp only [GT.run] at h
    cases h
noncomputable def impl_DoSlides_LS1 (F : Nat) : LT := (5, impl_DoSlides_ls5 F) :: impl_DoSlides_LS0 F
theorem impl_DoSlides_lsok1 (F : Nat) : LoopsOK Try.prog (impl_DoSlides_LS1 F) (bodyOf Try.f6) := loopsOK_cons impl_DoSlides_keys (impl_DoSlides_lok5 F) (impl_DoSlides_lsok0 F)
theorem impl_DoSlides_run (F : Nat) (b0 : List Int) (list1 : List Int) : runS tt (impl_DoSlides_tab F) (impl_DoSlides_LS1 F) [] [] Try.f6 (bodyOf Try.f6) 70 [(.ints 16 b0), (.ri .i64 list1)] [] = impl_DoSlides_c _ F b0 list1 (fun r => some ⟨(.tup [(.ints 16 r.1), (.int .i64 r.2.1), (.bool r.2.2)]), [], []⟩) := by kernel_rfl
def impl_DoSlides_ent (F : Nat) : Ent := ⟨[], .quiet, fun args mem => match args, mem with
  | [(.ints 16 b0), (.ri .i64 list1)], [] => some ((impl_DoSlides_p F b0 list1).isSome, ⟨(.tup [(.ints 16 ((impl_DoSlides_p F b0 list1).getD default).1), (.int .i64 ((impl_DoSlides_p F b0 list1).getD default).2.1), (.bool ((impl_DoSlides_p F b0 list1).getD default).2.2)]), [], []⟩)
  | _, _ => none⟩
theorem impl_DoSlides_fok : FunOK Try.prog 6 := funOK Try.func6 (by kernel_rfl) rfl
theorem impl_DoSlides_meets (F : Nat) : Meets Try.prog 6 (impl_DoSlides_ent F) := by
  refine meets_of_runS mixed ttok deep (impl_DoSlides_tabok F) Try.func6 (body_some rfl) (impl_DoSlides_lsok1 F) fun args mem hfit ret h => ?_
  clear hfit
  simp only [impl_DoSlides_ent] at h
  split at h
  · rename_i b0 list1
    simp only [Option.some.injEq, Prod.mk.injEq] at h
    obtain ⟨hc, rfl⟩ := h
    exact ⟨[], [], 70, _, (impl_DoSlides_run F b0 list1).trans ((impl_DoSlides_cp _ F b0 list1 _).trans (bind_use hc _)), rfl, rfl, rfl⟩
  · cases h

/-! loop.example/g01194/spec.l1In -/
noncomputable def spec_l1In_tab (F : Nat) : Tab := []
theorem spec_l1In_tabok (F : Nat) : TabOK Try.prog (spec_l1In_tab F) := tab_nil
noncomputable def spec_l1In_LS0 (F : Nat) : LT := []
theorem spec_l1In_lsok0 (F : Nat) : LoopsOK Try.prog (spec_l1In_LS0 F) (bodyOf Try.f32) := loopsOK_nil
theorem spec_l1In_run (F : Nat) (x0 : Int) (a1 : Int) (b2 : Int) : runS tt (spec_l1In_tab F) (spec_l1In_LS0 F) [] [] Try.f32 (bodyOf Try.f32) 70 [(.int .i64 x0), (.int .i64 a1), (.int .i64 b2)] [] = spec_l1In_c _ x0 a1 b2 (fun r => some ⟨(.bool r), [], []⟩) := by kernel_rfl
def spec_l1In_ent (F : Nat) : Ent := ⟨[], .quiet, fun args mem => match args, mem with
  | [(.int .i64 x0), (.int .i64 a1), (.int .i64 b2)], [] => some (true, ⟨(.bool (spec_l1In_v x0 a1 b2)), [], []⟩)
  | _, _ => none⟩
theorem spec_l1In_fok : FunOK Try.prog 32 := funOK Try.func32 (by kernel_rfl) rfl
theorem spec_l1In_meets (F : Nat) : Meets Try.prog 32 (spec_l1In_ent F) := by
  refine meets_of_runS mixed ttok deep (spec_l1In_tabok F) Try.func32 (body_some rfl) (spec_l1In_lsok0 F) fun args mem hfit ret h => ?_
  clear hfit
  simp only [spec_l1In_ent] at h
  split at h
  · rename_i x0 a1 b2
    simp only [Option.some.injEq, Prod.mk.injEq] at h
    obtain ⟨hc, rfl⟩ := h
    exact ⟨[], [], 70, _, (spec_l1In_run F x0 a1 b2).trans (spec_l1In_cv _ x0 a1 b2 _), rfl, rfl, rfl⟩
  · cases h

/-! loop.example/g01194/spec.l2Board -/
noncomputable def spec_l2Board_tab (F : Nat) : Tab := [(32, (spec_l1In_ent F))]
theorem spec_l2Board_tabok (F : Nat) : TabOK Try.prog (spec_l2Board_tab F) := (tab_cons (spec_l1In_meets F) spec_l1In_fok tab_nil)
noncomputable def spec_l2Board_LS0 (F : Nat) : LT := []
theorem spec_l2Board_lsok0 (F : Nat) : LoopsOK Try.prog (spec_l2Board_LS0 F) (bodyOf Try.f26) := loopsOK_nil
theorem spec_l2Board_keys : keysOK (bodyOf Try.f26) = true := by kernel_rfl
def spec_l2Board_st5 (r3 : Int) (b5 : List Int) (c4 : Int) : St := ⟨expand 21 0 [1, 3, 4] [(.ptr 0 0 0 16), (.int .i64 r3), (.int .i64 c4)], [(.var 16 (.ri .i64 b5))], 0, []⟩
def spec_l2Board_o5 (r3 : Int) (b5 : List Int) (x : Bool) : GT := (.br x (.out (.ret ⟨expand 21 0 [2] [(.bool false)], [], 0, []⟩)) (.out (.exit 2 ⟨expand 21 0 [1, 3] [(.ptr 0 0 0 16), (.int .i64 r3)], [(.var 16 (.ri .i64 b5))], 0, []⟩)))
def spec_l2Board_ls5 (F : Nat) : LoopS := ⟨21, [1, 3, 4], [], [1, 3], [], [2], [], [], fun vals mem np killed => match vals, mem, np, killed with
  | [(.ptr 0 0 0 16), (.int .i64 r3), (.int .i64 c4)], [(.var 16 (.ri .i64 b5))], 0, [] => .br (spec_l2Board_l5 F r3 b5 c4).isSome (spec_l2Board_o5 r3 b5 ((spec_l2Board_l5 F r3 b5 c4).getD default)) .fail
  | _, _, _, _ => .fail⟩
theorem spec_l2Board_step5 (F : Nat) (r3 : Int) (b5 : List Int) (c4 : Int) {R : Type} (k : Out → Option R) : stepS tt (spec_l2Board_tab F) (spec_l2Board_LS0 F) 70 (spec_l2Board_ls5 F) (loopAt 5 (bodyOf Try.f26)) (spec_l2Board_st5 r3 b5 c4) k = spec_l2Board_s5 F r3 b5 R c4 (fun s => k (.norm (spec_l2Board_st5 r3 b5 s))) (fun x => (spec_l2Board_o5 r3 b5 x).run k) := by kernel_rfl
theorem spec_l2Board_iter5 (F : Nat) (r3 : Int) (b5 : List Int) {R : Type} (k : Out → Option R) : ∀ (n : Nat) (c4 : Int), iterS tt (spec_l2Board_tab F) (spec_l2Board_LS0 F) 70 (spec_l2Board_ls5 F) (loopAt 5 (bodyOf Try.f26)) n (spec_l2Board_st5 r3 b5 c4) k = loopC (spec_l2Board_s5 F r3 b5) n c4 (fun x => (spec_l2Board_o5 r3 b5 x).run k)
  | 0, c4 => rfl
  | n + 1, c4 => (iterS_succ tt (spec_l2Board_tab F) (spec_l2Board_LS0 F) 70 (spec_l2Board_ls5 F) (loopAt 5 (bodyOf Try.f26)) n (spec_l2Board_st5 r3 b5 c4) k).trans ((spec_l2Board_step5 F r3 b5 c4 (nextK (iterS tt (spec_l2Board_tab F) (spec_l2Board_LS0 F) 70 (spec_l2Board_ls5 F) (loopAt 5 (bodyOf Try.f26)) n) k)).trans (congrArg (fun kn => spec_l2Board_s5 F r3 b5 R c4 kn _) (funext (fun c4 => spec_l2Board_iter5 F r3 b5 k n c4))))
theorem spec_l2Board_lok5 (F : Nat) : LoopOK Try.prog (loopAt 5 (bodyOf Try.f26)) (spec_l2Board_ls5 F) := by
  refine loopOK_of mixed ttok deep (spec_l2Board_tabok F) (loopsOK_at (spec_l2Board_lsok0 F) 5) (fuel := 70) fun R vals mem np killed k x h => ?_
  simp only [spec_l2Board_ls5] at h
  split at h
  · rename_i r3 c4 b5
    simp only [GT.run] at h
    have hc := (cond_noneL h).1
    replace h := (cond_noneL h).2
    refine ⟨F, (spec_l2Board_iter5 F r3 b5 k F c4).trans ((loopC_use (spec_l2Board_s5_nat F r3 b5) hc _).trans h)⟩
  · simp only [GT.run] at h
    cases h
noncomputable def spec_l2Board_LS1 (F : Nat) : LT := (5, spec_l2Board_ls5 F) :: spec_l2Board_LS0 F
theorem spec_l2Board_lsok1 (F : Nat) : LoopsOK Try.prog (spec_l2Board_LS1 F) (bodyOf Try.f26) := loopsOK_cons spec_l2Board_keys (spec_l2Board_lok5 F) (spec_l2Board_lsok0 F)
def spec_l2Board_st2 (b4 : List Int) (r3 : Int) : St := ⟨expand 21 0 [1, 3] [(.ptr 0 0 0 16), (.int .i64 r3)], [(.var 16 (.ri .i64 b4))], 0, []⟩
def spec_l2Board_o2 (b4 : List Int) (x : Bool) : GT := (.br x (.out (.ret ⟨expand 21 0 [2] [(.bool false)], [], 0, []⟩)) (.out (.exit 0 ⟨expand 21 0 [] [], [], 0, []⟩)))
def spec_l2Board_ls2 (F : Nat) : LoopS := ⟨21, [1, 3], [], [], [], [2], [], [], fun vals mem np killed => match vals, mem, np, killed with
  | [(.ptr 0 0 0 16), (.int .i64 r3)], [(.var 16 (.ri .i64 b4))], 0, [] => .br (spec_l2Board_l2 F b4 r3).isSome (spec_l2Board_o2 b4 ((spec_l2Board_l2 F b4 r3).getD default)) .fail
  | _, _, _, _ => .fail⟩
theorem spec_l2Board_step2 (F : Nat) (b4 : List Int) (r3 : Int) {R : Type} (k : Out → Option R) : stepS tt (spec_l2Board_tab F) (spec_l2Board_LS1 F) 70 (spec_l2Board_ls2 F) (loopAt 2 (bodyOf Try.f26)) (spec_l2Board_st2 b4 r3) k = spec_l2Board_s2 F b4 R r3 (fun s => k (.norm (spec_l2Board_st2 b4 s))) (fun x => (spec_l2Board_o2 b4 x).run k) := by kernel_rfl
theorem spec_l2Board_iter2 (F : Nat) (b4 : List Int) {R : Type} (k : Out → Option R) : ∀ (n : Nat) (r3 : Int), iterS tt (spec_l2Board_tab F) (spec_l2Board_LS1 F) 70 (spec_l2Board_ls2 F) (loopAt 2 (bodyOf Try.f26)) n (spec_l2Board_st2 b4 r3) k = loopC (spec_l2Board_s2 F b4) n r3 (fun x => (spec_l2Board_o2 b4 x).run k)
  | 0, r3 => rfl
  | n + 1, r3 => (iterS_succ tt (spec_l2Board_tab F) (spec_l2Board_LS1 F) 70 (spec_l2Board_ls2 F) (loopAt 2 (bodyOf Try.f26)) n (spec_l2Board_st2 b4 r3) k).trans ((spec_l2Board_step2 F b4 r3 (nextK (iterS tt (spec_l2Board_tab F) (spec_l2Board_LS1 F) 70 (spec_l2Board_ls2 F) (loopAt 2 (bodyOf Try.f26)) n) k)).trans (congrArg (fun kn => spec_l2Board_s2 F b4 R r3 kn _) (funext (fun r3 => spec_l2Board_iter2 F b4 k n r3))))
theorem spec_l2Board_lok2 (F : Nat) : LoopOK Try.prog (loopAt 2 (bodyOf Try.f26)) (spec_l2Board_ls2 F) := by
  refine loopOK_of mixed ttok deep (spec_l2Board_tabok F) (loopsOK_at (spec_l2Board_lsok1 F) 2) (fuel := 70) fun R vals mem np killed k x h => ?_
  simp only [spec_l2Board_ls2] at h
  split at h
  · rename_i r3 b4
    simp only [GT.run] at h
    have hc := (cond_noneL h).1
    replace h := (cond_noneL h).2
    refine ⟨F, (spec_l2Board_iter2 F b4 k F r3).trans ((loopC_use (spec_l2Board_s2_nat F b4) hc _).trans h)⟩
  · simp only [GT.run] at h
    cases h
noncomputable def spec_l2Board_LS2 (F : Nat) : LT := (2, spec_l2Board_ls2 F) :: spec_l2Board_LS1 F
theorem spec_l2Board_lsok2 (F : Nat) : LoopsOK Try.prog (spec_l2Board_LS2 F) (bodyOf Try.f26) := loopsOK_cons spec_l2Board_keys (spec_l2Board_lok2 F) (spec_l2Board_lsok1 F)
theorem spec_l2Board_run (F : Nat) (b0 : List Int) : runS tt (spec_l2Board_tab F) (spec_l2Board_LS2 F) [] [] Try.f26 (bodyOf Try.f26) 70 [(.ints 16 b0)] [] = spec_l2Board_c _ F b0 (fun r => some ⟨(.bool r), [], []⟩) := by kernel_rfl
def spec_l2Board_ent (F : Nat) : Ent := ⟨[], .quiet, fun args mem => match args, mem with
  | [(.ints 16 b0)], [] => some ((spec_l2Board_p F b0).isSome, ⟨(.bool ((spec_l2Board_p F b0).getD default)), [], []⟩)
  | _, _ => none⟩
theorem spec_l2Board_fok : FunOK Try.prog 26 := funOK Try.func26 (by kernel_rfl) rfl
theorem spec_l2Board_meets (F : Nat) : Meets Try.prog 26 (spec_l2Board_ent F) := by
  refine meets_of_runS mixed ttok deep (spec_l2Board_tabok F) Try.func26 (body_some rfl) (spec_l2Board_lsok2 F) fun args mem hfit ret h => ?_
  clear hfit
  simp only [spec_l2Board_ent] at h
  split at h
  · rename_i b0
    simp only [Option.some.injEq, Prod.mk.injEq] at h
    obtain ⟨hc, rfl⟩ := h
    exact ⟨[], [], 70, _, (spec_l2Board_run F b0).trans ((spec_l2Board_cp _ F b0 _).trans (bind_use hc _)), rfl, rfl, rfl⟩
  · cases h

/-! loop.example/g01194/spec.l2Side -/
noncomputable def spec_l2Side_tab (F : Nat) : Tab := [(32, (spec_l1In_ent F))]
theorem spec_l2Side_tabok (F : Nat) : TabOK Try.prog (spec_l2Side_tab F) := (tab_cons (spec_l1In_meets F) spec_l1In_fok tab_nil)
noncomputable def spec_l2Side_LS0 (F : Nat) : LT := []
theorem spec_l2Side_lsok0 (F : Nat) : LoopsOK Try.prog (spec_l2Side_LS0 F) (bodyOf Try.f54) := loopsOK_nil
theorem spec_l2Side_run (F : Nat) (d0 : Int) : runS tt (spec_l2Side_tab F) (spec_l2Side_LS0 F) [] [] Try.f54 (bodyOf Try.f54) 70 [(.int .i64 d0)] [] = spec_l2Side_c _ d0 (fun r => some ⟨(.bool r), [], []⟩) := by kernel_rfl
def spec_l2Side_ent (F : Nat) : Ent := ⟨[], .quiet, fun args mem => match args, mem with
  | [(.int .i64 d0)], [] => some (true, ⟨(.bool (spec_l2Side_v d0)), [], []⟩)
  | _, _ => none⟩
theorem spec_l2Side_fok : FunOK Try.prog 54 := funOK Try.func54 (by kernel_rfl) rfl
theorem spec_l2Side_meets (F : Nat) : Meets Try.prog 54 (spec_l2Side_ent F) := by
  refine meets_of_runS mixed ttok deep (spec_l2Side_tabok F) Try.func54 (body_some rfl) (spec_l2Side_lsok0 F) fun args mem hfit ret h => ?_
  clear hfit
  simp only [spec_l2Side_ent] at h
  split at h
  · rename_i d0
    simp only [Option.some.injEq, Prod.mk.injEq] at h
    obtain ⟨hc, rfl⟩ := h
    exact ⟨[], [], 70, _, (spec_l2Side_run F d0).trans (spec_l2Side_cv _ d0 _), rfl, rfl, rfl⟩
  · cases h

/-! loop.example/g01194/spec.l5Sides -/
noncomputable def spec_l5Sides_tab (F : Nat) : Tab := [(54, (spec_l2Side_ent F))]
theorem spec_l5Sides_tabok (F : Nat) : TabOK Try.prog (spec_l5Sides_tab F) := (tab_cons (spec_l2Side_meets F) spec_l2Side_fok tab_nil)
noncomputable def spec_l5Sides_LS0 (F : Nat) : LT := []
theorem spec_l5Sides_lsok0 (F : Nat) : LoopsOK Try.prog (spec_l5Sides_LS0 F) (bodyOf Try.f27) := loopsOK_nil
theorem spec_l5Sides_keys : keysOK (bodyOf Try.f27) = true := by kernel_rfl
def spec_l5Sides_st2 (list0 : List Int) (i1 : Int) : St := ⟨expand 16 0 [0, 3] [(.ri .i64 list0), (.int .i64 i1)], [], 0, []⟩
def spec_l5Sides_o2 (list0 : List Int) (x : Bool) : GT := (.br x (.out (.ret ⟨expand 16 0 [2] [(.bool false)], [], 0, []⟩)) (.out (.exit 0 ⟨expand 16 0 [] [], [], 0, []⟩)))
def spec_l5Sides_ls2 (F : Nat) : LoopS := ⟨16, [0, 3], [], [], [], [2], [], [], fun vals mem np killed => match vals, mem, np, killed with
  | [(.ri .i64 list0), (.int .i64 i1)], [], 0, [] => .br (spec_l5Sides_l2 F list0 i1).isSome (spec_l5Sides_o2 list0 ((spec_l5Sides_l2 F list0 i1).getD default)) .fail
  | _, _, _, _ => .fail⟩
theorem spec_l5Sides_step2 (F : Nat) (list0 : List Int) (i1 : Int) {R : Type} (k : Out → Option R) : stepS tt (spec_l5Sides_tab F) (spec_l5Sides_LS0 F) 70 (spec_l5Sides_ls2 F) (loopAt 2 (bodyOf Try.f27)) (spec_l5Sides_st2 list0 i1) k = spec_l5Sides_s2 F list0 R i1 (fun s => k (.norm (spec_l5Sides_st2 list0 s))) (fun x => (spec_l5Sides_o2 list0 x).run k) := by kernel_rfl
theorem spec_l5Sides_iter2 (F : Nat) (list0 : List Int) {R : Type} (k : Out → Option R) : ∀ (n : Nat) (i1 : Int), iterS tt (spec_l5Sides_tab F) (spec_l5Sides_LS0 F) 70 (spec_l5Sides_ls2 F) (loopAt 2 (bodyOf Try.f27)) n (spec_l5Sides_st2 list0 i1) k = loopC (spec_l5Sides_s2 F list0) n i1 (fun x => (spec_l5Sides_o2 list0 x).run k)
  | 0, i1 => rfl
  | n + 1, i1 => (iterS_succ tt (spec_l5Sides_tab F) (spec_l5Sides_LS0 F) 70 (spec_l5Sides_ls2 F) (loopAt 2 (bodyOf Try.f27)) n (spec_l5Sides_st2 list0 i1) k).trans ((spec_l5Sides_step2 F list0 i1 (nextK (iterS tt (spec_l5Sides_tab F) (spec_l5Sides_LS0 F) 70 (spec_l5Sides_ls2 F) (loopAt 2 (bodyOf Try.f27)) n) k)).trans (congrArg (fun kn => spec_l5Sides_s2 F list0 R i1 kn _) (funext (fun i1 => spec_l5Sides_iter2 F list0 k n i1))))
theorem spec_l5Sides_lok2 (F : Nat) : LoopOK Try.prog (loopAt 2 (bodyOf Try.f27)) (spec_l5Sides_ls2 F) := by
  refine loopOK_of mixed ttok deep (spec_l5Sides_tabok F) (loopsOK_at (spec_l5Sides_lsok0 F) 2) (fuel := 70) fun R vals mem np killed k x h => ?_
  simp only [spec_l5Sides_ls2] at h
  split at h
  · rename_i list0 i1
    simp only [GT.run] at h
    have hc := (cond_noneL h).1
    replace h := (cond_noneL h).2
    refine ⟨F, (spec_l5Sides_iter2 F list0 k F i1).trans ((loopC_use (spec_l5Sides_s2_nat F list0) hc _).trans h)⟩
  · simp only [GT.run] at h
    cases h
noncomputable def spec_l5Sides_LS1 (F : Nat) : LT := (2, spec_l5Sides_ls2 F) :: spec_l5Sides_LS0 F
theorem spec_l5Sides_lsok1 (F : Nat) : LoopsOK Try.prog (spec_l5Sides_LS1 F) (bodyOf Try.f27) := loopsOK_cons spec_l5Sides_keys (spec_l5Sides_lok2 F) (spec_l5Sides_lsok0 F)
theorem spec_l5Sides_run (F : Nat) (list0 : List Int) : runS tt (spec_l5Sides_tab F) (spec_l5Sides_LS1 F) [] [] Try.f27 (bodyOf Try.f27) 70 [(.ri .i64 list0)] [] = spec_l5Sides_c _ F list0 (fun r => some ⟨(.bool r), [], []⟩) := by kernel_rfl
def spec_l5Sides_ent (F : Nat) : Ent := ⟨[], .quiet, fun args mem => match args, mem with
  | [(.ri .i64 list0)], [] => some ((spec_l5Sides_p F list0).isSome, ⟨(.bool ((spec_l5Sides_p F list0).getD default)), [], []⟩)
  | _, _ => none⟩
theorem spec_l5Sides_fok : FunOK Try.prog 27 := funOK Try.func27 (by kernel_rfl) rfl
theorem spec_l5Sides_meets (F : Nat) : Meets Try.prog 27 (spec_l5Sides_ent F) := by
  refine meets_of_runS mixed ttok deep (spec_l5Sides_tabok F) Try.func27 (body_some rfl) (spec_l5Sides_lsok1 F) fun args mem hfit ret h => ?_
  clear hfit
  simp only [spec_l5Sides_ent] at h
  split at h
  · rename_i list0
    simp only [Option.some.injEq, Prod.mk.injEq] at h
    obtain ⟨hc, rfl⟩ := h
    exact ⟨[], [], 70, _, (spec_l5Sides_run F list0).trans ((spec_l5Sides_cp _ F list0 _).trans (bind_use hc _)), rfl, rfl, rfl⟩
  · cases h

/-! loop.example/g01194/spec.l2Line -/
noncomputable def spec_l2Line_tab (F : Nat) : Tab := []
theorem spec_l2Line_tabok (F : Nat) : TabOK Try.prog (spec_l2Line_tab F) := tab_nil
noncomputable def spec_l2Line_LS0 (F : Nat) : LT := []
theorem spec_l2Line_lsok0 (F : Nat) : LoopsOK Try.prog (spec_l2Line_LS0 F) (bodyOf Try.f76) := loopsOK_nil
theorem spec_l2Line_keys : keysOK (bodyOf Try.f76) = true := by kernel_rfl
def spec_l2Line_st3 (d0 : Int) (i1 : Int) (k8 : Int) (out10 : List Int) : St := ⟨expand 42 0 [0, 1, 4, 5, 6] [(.int .i64 d0), (.int .i64 i1), (.ptr 0 0 0 8), (.ptr 1 0 0 8), (.int .i64 k8)], [(.var 8 (.ri .i64 [(0 : Int), (0 : Int), (0 : Int), (0 : Int), (0 : Int), (0 : Int), (0 : Int), (0 : Int)])), (.var 8 (.ri .i64 out10))], 0, []⟩
def spec_l2Line_o3 (d0 : Int) (i1 : Int) (x : List Int) : GT := (.out (.exit 0 ⟨expand 42 0 [4, 5] [(.ptr 0 0 0 8), (.ptr 1 0 0 8)], [(.var 8 (.ri .i64 [(0 : Int), (0 : Int), (0 : Int), (0 : Int), (0 : Int), (0 : Int), (0 : Int), (0 : Int)])), (.var 8 (.ri .i64 x))], 0, []⟩))
def spec_l2Line_ls3 (F : Nat) : LoopS := ⟨42, [0, 1, 4, 5, 6], [], [4, 5], [], [4], [], [], fun vals mem np killed => match vals, mem, np, killed with
  | [(.int .i64 d0), (.int .i64 i1), (.ptr 0 0 0 8), (.ptr 1 0 0 8), (.int .i64 k8)], [(.var 8 (.ri .i64 q_t49)), (.var 8 (.ri .i64 out10))], 0, [] => .br ((q_t49 == ([(0 : Int), (0 : Int), (0 : Int), (0 : Int), (0 : Int), (0 : Int), (0 : Int), (0 : Int)] : List Int)) && (spec_l2Line_l3 F d0 i1 k8 out10).isSome) (spec_l2Line_o3 d0 i1 ((spec_l2Line_l3 F d0 i1 k8 out10).getD default)) .fail
  | _, _, _, _ => .fail⟩
theorem spec_l2Line_step3 (F : Nat) (d0 : Int) (i1 : Int) (k8 : Int) (out10 : List Int) {R : Type} (k : Out → Option R) : stepS tt (spec_l2Line_tab F) (spec_l2Line_LS0 F) 70 (spec_l2Line_ls3 F) (loopAt 3 (bodyOf Try.f76)) (spec_l2Line_st3 d0 i1 k8 out10) k = spec_l2Line_s3 F d0 i1 R (k8, out10) (fun s => k (.norm (spec_l2Line_st3 d0 i1 s.1 s.2))) (fun x => (spec_l2Line_o3 d0 i1 x).run k) := by kernel_rfl
theorem spec_l2Line_iter3 (F : Nat) (d0 : Int) (i1 : Int) {R : Type} (k : Out → Option R) : ∀ (n : Nat) (k8 : Int) (out10 : List Int), iterS tt (spec_l2Line_tab F) (spec_l2Line_LS0 F) 70 (spec_l2Line_ls3 F) (loopAt 3 (bodyOf Try.f76)) n (spec_l2Line_st3 d0 i1 k8 out10) k = loopC (spec_l2Line_s3 F d0 i1) n (k8, out10) (fun x => (spec_l2Line_o3 d0 i1 x).run k)
  | 0, k8, out10 => rfl
  | n + 1, k8, out10 => (iterS_succ tt (spec_l2Line_tab F) (spec_l2Line_LS0 F) 70 (spec_l2Line_ls3 F) (loopAt 3 (bodyOf Try.f76)) n (spec_l2Line_st3 d0 i1 k8 out10) k).trans ((spec_l2Line_step3 F d0 i1 k8 out10 (nextK (iterS tt (spec_l2Line_tab F) (spec_l2Line_LS0 F) 70 (spec_l2Line_ls3 F) (loopAt 3 (bodyOf Try.f76)) n) k)).trans (congrArg (fun kn => spec_l2Line_s3 F d0 i1 R (k8, out10) kn _) (funext (fun ⟨k8, out10⟩ => spec_l2Line_iter3 F d0 i1 k n k8 out10))))
theorem spec_l2Line_lok3 (F : Nat) : LoopOK Try.prog (loopAt 3 (bodyOf Try.f76)) (spec_l2Line_ls3 F) := by
  refine loopOK_of mixed ttok deep (spec_l2Line_tabok F) (loopsOK_at (spec_l2Line_lsok0 F) 3) (fuel := 70) fun R vals mem np killed k x h => ?_
  simp only [spec_l2Line_ls3] at h
  split at h
  · rename_i d0 i1 k8 q_t49 out10
    simp only [GT.run] at h
    have hc := (cond_noneL h).1
    replace h := (cond_noneL h).2
    have hg := (and_split hc).1
    replace hc := (and_split hc).2
    obtain rfl := beq_li hg
    refine ⟨F, (spec_l2Line_iter3 F d0 i1 k F k8 out10).trans ((loopC_use (spec_l2Line_s3_nat F d0 i1) hc _).trans h)⟩
  · simp only [GT.run] at h
    cases h
noncomputable def spec_l2Line_LS1 (F : Nat) : LT := (3, spec_l2Line_ls3 F) :: spec_l2Line_LS0 F
theorem spec_l2Line_lsok1 (F : Nat) : LoopsOK Try.prog (spec_l2Line_LS1 F) (bodyOf Try.f76) := loopsOK_cons spec_l2Line_keys (spec_l2Line_lok3 F) (spec_l2Line_lsok0 F)
theorem spec_l2Line_run (F : Nat) (d0 : Int) (i1 : Int) : runS tt (spec_l2Line_tab F) (spec_l2Line_LS1 F) [] [] Try.f76 (bodyOf Try.f76) 70 [(.int .i64 d0), (.int .i64 i1)] [] = spec_l2Line_c _ F d0 i1 (fun r => some ⟨(.ints 8 r), [], []⟩) := by kernel_rfl
def spec_l2Line_ent (F : Nat) : Ent := ⟨[], .quiet, fun args mem => match args, mem with
  | [(.int .i64 d0), (.int .i64 i1)], [] => some ((spec_l2Line_p F d0 i1).isSome, ⟨(.ints 8 ((spec_l2Line_p F d0 i1).getD default)), [], []⟩)
  | _, _ => none⟩
theorem spec_l2Line_fok : FunOK Try.prog 76 := funOK Try.func76 (by kernel_rfl) rfl
theorem spec_l2Line_meets (F : Nat) : Meets Try.prog 76 (spec_l2Line_ent F) := by
  refine meets_of_runS mixed ttok deep (spec_l2Line_tabok F) Try.func76 (body_some rfl) (spec_l2Line_lsok1 F) fun args mem hfit ret h => ?_
  clear hfit
  simp only [spec_l2Line_ent] at h
  split at h
  · rename_i d0 i1
    simp only [Option.some.injEq, Prod.mk.injEq] at h
    obtain ⟨hc, rfl⟩ := h
    exact ⟨[], [], 70, _, (spec_l2Line_run F d0 i1).trans ((spec_l2Line_cp _ F d0 i1 _).trans (bind_use hc _)), rfl, rfl, rfl⟩
  · cases h

/-! loop.example/g01194/spec.l2At -/
noncomputable def spec_l2At_tab (F : Nat) : Tab := []
theorem spec_l2At_tabok (F : Nat) : TabOK Try.prog (spec_l2At_tab F) := tab_nil
noncomputable def spec_l2At_LS0 (F : Nat) : LT := []
theorem spec_l2At_lsok0 (F : Nat) : LoopsOK Try.prog (spec_l2At_LS0 F) (bodyOf Try.f84) := loopsOK_nil
theorem spec_l2At_run (F : Nat) (b0 : List Int) (cell1 : List Int) : runS tt (spec_l2At_tab F) (spec_l2At_LS0 F) [] [] Try.f84 (bodyOf Try.f84) 70 [(.ints 16 b0), (.ints 2 cell1)] [] = spec_l2At_c _ b0 cell1 (fun r => some ⟨(.int .i64 r), [], []⟩) := by kernel_rfl
def spec_l2At_ent (F : Nat) : Ent := ⟨[], .quiet, fun args mem => match args, mem with
  | [(.ints 16 b0), (.ints 2 cell1)], [] => some ((spec_l2At_p b0 cell1).isSome, ⟨(.int .i64 ((spec_l2At_p b0 cell1).getD default)), [], []⟩)
  | _, _ => none⟩
theorem spec_l2At_fok : FunOK Try.prog 84 := funOK Try.func84 (by kernel_rfl) rfl
theorem spec_l2At_meets (F : Nat) : Meets Try.prog 84 (spec_l2At_ent F) := by
  refine meets_of_runS mixed ttok deep (spec_l2At_tabok F) Try.func84 (body_some rfl) (spec_l2At_lsok0 F) fun args mem hfit ret h => ?_
  clear hfit
  simp only [spec_l2At_ent] at h
  split at h
  · rename_i b0 cell1
    simp only [Option.some.injEq, Prod.mk.injEq] at h
    obtain ⟨hc, rfl⟩ := h
    exact ⟨[], [], 70, _, (spec_l2At_run F b0 cell1).trans ((spec_l2At_cp _ b0 cell1 _).trans (bind_use hc _)), rfl, rfl, rfl⟩
  · cases h

/-! loop.example/g01194/spec.l2Numbers -/
noncomputable def spec_l2Numbers_tab (F : Nat) : Tab := [(76, (spec_l2Line_ent F)), (84, (spec_l2At_ent F))]
theorem spec_l2Numbers_tabok (F : Nat) : TabOK Try.prog (spec_l2Numbers_tab F) := (tab_cons (spec_l2Line_meets F) spec_l2Line_fok (tab_cons (spec_l2At_meets F) spec_l2At_fok tab_nil))
noncomputable def spec_l2Numbers_LS0 (F : Nat) : LT := []
theorem spec_l2Numbers_lsok0 (F : Nat) : LoopsOK Try.prog (spec_l2Numbers_LS0 F) (bodyOf Try.f75) := loopsOK_nil
theorem spec_l2Numbers_run (F : Nat) (b0 : List Int) (d1 : Int) (i2 : Int) : runS tt (spec_l2Numbers_tab F) (spec_l2Numbers_LS0 F) [] [] Try.f75 (bodyOf Try.f75) 70 [(.ints 16 b0), (.int .i64 d1), (.int .i64 i2)] [] = spec_l2Numbers_c _ F b0 d1 i2 (fun r => some ⟨(.ints 4 r), [], []⟩) := by kernel_rfl
def spec_l2Numbers_ent (F : Nat) : Ent := ⟨[], .quiet, fun args mem => match args, mem with
  | [(.ints 16 b0), (.int .i64 d1), (.int .i64 i2)], [] => some ((spec_l2Numbers_p F b0 d1 i2).isSome, ⟨(.ints 4 ((spec_l2Numbers_p F b0 d1 i2).getD default)), [], []⟩)
  | _, _ => none⟩
theorem spec_l2Numbers_fok : FunOK Try.prog 75 := funOK Try.func75 (by kernel_rfl) rfl
theorem spec_l2Numbers_meets (F : Nat) : Meets Try.prog 75 (spec_l2Numbers_ent F) := by
  refine meets_of_runS mixed ttok deep (spec_l2Numbers_tabok F) Try.func75 (body_some rfl) (spec_l2Numbers_lsok0 F) fun args mem hfit ret h => ?_
  clear hfit
  simp only [spec_l2Numbers_ent] at h
  split at h
  · rename_i b0 d1 i2
    simp only [Option.some.injEq, Prod.mk.injEq] at h
    obtain ⟨hc, rfl⟩ := h
    exact ⟨[], [], 70, _, (spec_l2Numbers_run F b0 d1 i2).trans ((spec_l2Numbers_cp _ F b0 d1 i2 _).trans (bind_use hc _)), rfl, rfl, rfl⟩
  · cases h

/-! loop.example/g01194/spec.l2Worth -/
noncomputable def spec_l2Worth_tab (F : Nat) : Tab := []
theorem spec_l2Worth_tabok (F : Nat) : TabOK Try.prog (spec_l2Worth_tab F) := tab_nil
noncomputable def spec_l2Worth_LS0 (F : Nat) : LT := []
theorem spec_l2Worth_lsok0 (F : Nat) : LoopsOK Try.prog (spec_l2Worth_LS0 F) (bodyOf Try.f83) := loopsOK_nil
theorem spec_l2Worth_run (F : Nat) (t0 : Int) : runS tt (spec_l2Worth_tab F) (spec_l2Worth_LS0 F) [] [] Try.f83 (bodyOf Try.f83) 70 [(.int .i64 t0)] [] = spec_l2Worth_c _ t0 (fun r => some ⟨(.int .i64 r), [], []⟩) := by kernel_rfl
def spec_l2Worth_ent (F : Nat) : Ent := ⟨[], .quiet, fun args mem => match args, mem with
  | [(.int .i64 t0)], [] => some ((spec_l2Worth_p t0).isSome, ⟨(.int .i64 ((spec_l2Worth_p t0).getD default)), [], []⟩)
  | _, _ => none⟩
theorem spec_l2Worth_fok : FunOK Try.prog 83 := funOK Try.func83 (by kernel_rfl) rfl
theorem spec_l2Worth_meets (F : Nat) : Meets Try.prog 83 (spec_l2Worth_ent F) := by
  refine meets_of_runS mixed ttok deep (spec_l2Worth_tabok F) Try.func83 (body_some rfl) (spec_l2Worth_lsok0 F) fun args mem hfit ret h => ?_
  clear hfit
  simp only [spec_l2Worth_ent] at h
  split at h
  · rename_i t0
    simp only [Option.some.injEq, Prod.mk.injEq] at h
    obtain ⟨hc, rfl⟩ := h
    exact ⟨[], [], 70, _, (spec_l2Worth_run F t0).trans ((spec_l2Worth_cp _ t0 _).trans (bind_use hc _)), rfl, rfl, rfl⟩
  · cases h

/-! loop.example/g01194/spec.l2Row -/
noncomputable def spec_l2Row_tab (F : Nat) : Tab := [(83, (spec_l2Worth_ent F))]
theorem spec_l2Row_tabok (F : Nat) : TabOK Try.prog (spec_l2Row_tab F) := (tab_cons (spec_l2Worth_meets F) spec_l2Worth_fok tab_nil)
noncomputable def spec_l2Row_LS0 (F : Nat) : LT := []
theorem spec_l2Row_lsok0 (F : Nat) : LoopsOK Try.prog (spec_l2Row_LS0 F) (bodyOf Try.f74) := loopsOK_nil
theorem spec_l2Row_keys : keysOK (bodyOf Try.f74) = true := by kernel_rfl
def spec_l2Row_st3 (row13 : List Int) (n9 : Int) (score10 : Int) (merged11 : Bool) (k12 : Int) (out15 : List Int) : St := ⟨expand 63 0 [1, 2, 4, 5, 6, 7, 8] [(.ptr 0 0 0 4), (.ptr 1 0 0 4), (.ptr 2 0 0 4), (.int .i64 n9), (.int .i64 score10), (.bool merged11), (.int .i64 k12)], [(.var 4 (.ri .i64 row13)), (.var 4 (.ri .i64 [(0 : Int), (0 : Int), (0 : Int), (0 : Int)])), (.var 4 (.ri .i64 out15))], 0, []⟩
def spec_l2Row_o3 (row13 : List Int) (x : Int × List Int) : GT := (.out (.exit 0 ⟨expand 63 0 [2, 4, 6] [(.ptr 0 0 0 4), (.ptr 1 0 0 4), (.int .i64 x.1)], [(.var 4 (.ri .i64 [(0 : Int), (0 : Int), (0 : Int), (0 : Int)])), (.var 4 (.ri .i64 x.2))], 0, []⟩))
def spec_l2Row_ls3 (F : Nat) : LoopS := ⟨63, [1, 2, 4, 5, 6, 7, 8], [], [2, 4, 6], [], [2, 3], [], [], fun vals mem np killed => match vals, mem, np, killed with
  | [(.ptr 0 0 0 4), (.ptr 1 0 0 4), (.ptr 2 0 0 4), (.int .i64 n9), (.int .i64 score10), (.bool merged11), (.int .i64 k12)], [(.var 4 (.ri .i64 row13)), (.var 4 (.ri .i64 q_t214)), (.var 4 (.ri .i64 out15))], 0, [] => .br ((q_t214 == ([(0 : Int), (0 : Int), (0 : Int), (0 : Int)] : List Int)) && (spec_l2Row_l3 F row13 n9 score10 merged11 k12 out15).isSome) (spec_l2Row_o3 row13 ((spec_l2Row_l3 F row13 n9 score10 merged11 k12 out15).getD default)) .fail
  | _, _, _, _ => .fail⟩
theorem spec_l2Row_step3 (F : Nat) (row13 : List Int) (n9 : Int) (score10 : Int) (merged11 : Bool) (k12 : Int) (out15 : List Int) {R : Type} (k : Out → Option R) : stepS tt (spec_l2Row_tab F) (spec_l2Row_LS0 F) 70 (spec_l2Row_ls3 F) (loopAt 3 (bodyOf Try.f74)) (spec_l2Row_st3 row13 n9 score10 merged11 k12 out15) k = spec_l2Row_s3 F row13 R (n9, score10, merged11, k12, out15) (fun s => k (.norm (spec_l2Row_st3 row13 s.1 s.2.1 s.2.2.1 s.2.2.2.1 s.2.2.2.2))) (fun x => (spec_l2Row_o3 row13 x).run k) := by kernel_rfl
theorem spec_l2Row_iter3 (F : Nat) (row13 : List Int) {R : Type} (k : Out → Option R) : ∀ (n : Nat) (n9 : Int) (score10 : Int) (merged11 : Bool) (k12 : Int) (out15 : List Int), iterS tt (spec_l2Row_tab F) (spec_l2Row_LS0 F) 70 (spec_l2Row_ls3 F) (loopAt 3 (bodyOf Try.f74)) n (spec_l2Row_st3 row13 n9 score10 merged11 k12 out15) k = loopC (spec_l2Row_s3 F row13) n (n9, score10, merged11, k12, out15) (fun x => (spec_l2Row_o3 row13 x).run k)
  | 0, n9, score10, merged11, k12, out15 => rfl
  | n + 1, n9, score10, merged11, k12, out15 => (iterS_succ tt (spec_l2Row_tab F) (spec_l2Row_LS0 F) 70 (spec_l2Row_ls3 F) (loopAt 3 (bodyOf Try.f74)) n (spec_l2Row_st3 row13 n9 score10 merged11 k12 out15) k).trans ((spec_l2Row_step3 F row13 n9 score10 merged11 k12 out15 (nextK (iterS tt (spec_l2Row_tab F) (spec_l2Row_LS0 F) 70 (spec_l2Row_ls3 F) (loopAt 3 (bodyOf Try.f74)) n) k)).trans (congrArg (fun kn => spec_l2Row_s3 F row13 R (n9, score10, merged11, k12, out15) kn _) (funext (fun ⟨n9, score10, merged11, k12, out15⟩ => spec_l2Row_iter3 F row13 k n n9 score10 merged11 k12 out15))))
theorem spec_l2Row_lok3 (F : Nat) : LoopOK Try.prog (loopAt 3 (bodyOf Try.f74)) (spec_l2Row_ls3 F) := by
  refine loopOK_of mixed ttok deep (spec_l2Row_tabok F) (loopsOK_at (spec_l2Row_lsok0 F) 3) (fuel := 70) fun R vals mem np killed k x h => ?_
  simp only [spec_l2Row_ls3] at h
  split at h
  · rename_i n9 score10 merged11 k12 row13 q_t214 out15
    simp only [GT.run] at h
    have hc := (cond_noneL h).1
    replace h := (cond_noneL h).2
    have hg := (and_split hc).1
    replace hc := (and_split hc).2
    obtain rfl := beq_li hg
    refine ⟨F, (spec_l2Row_iter3 F row13 k F n9 score10 merged11 k12 out15).trans ((loopC_use (spec_l2Row_s3_nat F row13) hc _).trans h)⟩
  · simp only [GT.run] at h
    cases h
noncomputable def spec_l2Row_LS1 (F : Nat) : LT := (3, spec_l2Row_ls3 F) :: spec_l2Row_LS0 F
theorem spec_l2Row_lsok1 (F : Nat) : LoopsOK Try.prog (spec_l2Row_LS1 F) (bodyOf Try.f74) := loopsOK_cons spec_l2Row_keys (spec_l2Row_lok3 F) (spec_l2Row_lsok0 F)
theorem spec_l2Row_run (F : Nat) (row0 : List Int) : runS tt (spec_l2Row_tab F) (spec_l2Row_LS1 F) [] [] Try.f74 (bodyOf Try.f74) 70 [(.ints 4 row0)] [] = spec_l2Row_c _ F row0 (fun r => some ⟨(.tup [(.ints 4 r.1), (.int .i64 r.2)]), [], []⟩) := by kernel_rfl
def spec_l2Row_ent (F : Nat) : Ent := ⟨[], .quiet, fun args mem => match args, mem with
  | [(.ints 4 row0)], [] => some ((spec_l2Row_p F row0).isSome, ⟨(.tup [(.ints 4 ((spec_l2Row_p F row0).getD default).1), (.int .i64 ((spec_l2Row_p F row0).getD default).2)]), [], []⟩)
  | _, _ => none⟩
theorem spec_l2Row_fok : FunOK Try.prog 74 := funOK Try.func74 (by kernel_rfl) rfl
theorem spec_l2Row_meets (F : Nat) : Meets Try.prog 74 (spec_l2Row_ent F) := by
  refine meets_of_runS mixed ttok deep (spec_l2Row_tabok F) Try.func74 (body_some rfl) (spec_l2Row_lsok1 F) fun args mem hfit ret h => ?_
  clear hfit
  simp only [spec_l2Row_ent] at h
  split at h
  · rename_i row0
    simp only [Option.some.injEq, Prod.mk.injEq] at h
    obtain ⟨hc, rfl⟩ := h
    exact ⟨[], [], 70, _, (spec_l2Row_run F row0).trans ((spec_l2Row_cp _ F row0 _).trans (bind_use hc _)), rfl, rfl, rfl⟩
  · cases h

/-! loop.example/g01194/spec.l2Put -/
noncomputable def spec_l2Put_tab (F : Nat) : Tab := []
theorem spec_l2Put_tabok (F : Nat) : TabOK Try.prog (spec_l2Put_tab F) := tab_nil
noncomputable def spec_l2Put_LS0 (F : Nat) : LT := []
theorem spec_l2Put_lsok0 (F : Nat) : LoopsOK Try.prog (spec_l2Put_LS0 F) (bodyOf Try.f77) := loopsOK_nil
theorem spec_l2Put_run (F : Nat) (b0 : List Int) (cell1 : List Int) (t2 : Int) : runS tt (spec_l2Put_tab F) (spec_l2Put_LS0 F) [] [] Try.f77 (bodyOf Try.f77) 70 [(.ints 16 b0), (.ints 2 cell1), (.int .i64 t2)] [] = spec_l2Put_c _ b0 cell1 t2 (fun r => some ⟨(.ints 16 r), [], []⟩) := by kernel_rfl
def spec_l2Put_ent (F : Nat) : Ent := ⟨[], .quiet, fun args mem => match args, mem with
  | [(.ints 16 b0), (.ints 2 cell1), (.int .i64 t2)], [] => some ((spec_l2Put_p b0 cell1 t2).isSome, ⟨(.ints 16 ((spec_l2Put_p b0 cell1 t2).getD default)), [], []⟩)
  | _, _ => none⟩
theorem spec_l2Put_fok : FunOK Try.prog 77 := funOK Try.func77 (by kernel_rfl) rfl
theorem spec_l2Put_meets (F : Nat) : Meets Try.prog 77 (spec_l2Put_ent F) := by
  refine meets_of_runS mixed ttok deep (spec_l2Put_tabok F) Try.func77 (body_some rfl) (spec_l2Put_lsok0 F) fun args mem hfit ret h => ?_
  clear hfit
  simp only [spec_l2Put_ent] at h
  split at h
  · rename_i b0 cell1 t2
    simp only [Option.some.injEq, Prod.mk.injEq] at h
    obtain ⟨hc, rfl⟩ := h
    exact ⟨[], [], 70, _, (spec_l2Put_run F b0 cell1 t2).trans ((spec_l2Put_cp _ b0 cell1 t2 _).trans (bind_use hc _)), rfl, rfl, rfl⟩
  · cases h

/-! loop.example/g01194/spec.l2Slide -/
noncomputable def spec_l2Slide_tab (F : Nat) : Tab := [(75, (spec_l2Numbers_ent F)), (74, (spec_l2Row_ent F)), (76, (spec_l2Line_ent F)), (77, (spec_l2Put_ent F))]
theorem spec_l2Slide_tabok (F : Nat) : TabOK Try.prog (spec_l2Slide_tab F) := (tab_cons (spec_l2Numbers_meets F) spec_l2Numbers_fok (tab_cons (spec_l2Row_meets F) spec_l2Row_fok (tab_cons (spec_l2Line_meets F) spec_l2Line_fok (tab_cons (spec_l2Put_meets F) spec_l2Put_fok tab_nil))))
noncomputable def spec_l2Slide_LS0 (F : Nat) : LT := []
theorem spec_l2Slide_lsok0 (F : Nat) : LoopsOK Try.prog (spec_l2Slide_LS0 F) (bodyOf Try.f55) := loopsOK_nil
theorem spec_l2Slide_keys : keysOK (bodyOf Try.f55) = true := by kernel_rfl
def spec_l2Slide_st3 (d0 : Int) (b12 : List Int) (sum10 : Int) (i11 : Int) (out14 : List Int) : St := ⟨expand 46 0 [1, 2, 4, 6, 7, 8] [(.int .i64 d0), (.ptr 0 0 0 16), (.ptr 1 0 0 16), (.ptr 2 0 0 16), (.int .i64 sum10), (.int .i64 i11)], [(.var 16 (.ri .i64 b12)), (.var 16 (.ri .i64 [(0 : Int), (0 : Int), (0 : Int), (0 : Int), (0 : Int), (0 : Int), (0 : Int), (0 : Int), (0 : Int), (0 : Int), (0 : Int), (0 : Int), (0 : Int), (0 : Int), (0 : Int), (0 : Int)])), (.var 16 (.ri .i64 out14))], 0, []⟩
def spec_l2Slide_o3 (d0 : Int) (b12 : List Int) (x : Int × List Int) : GT := (.out (.exit 0 ⟨expand 46 0 [4, 6, 7] [(.ptr 0 0 0 16), (.ptr 1 0 0 16), (.int .i64 x.1)], [(.var 16 (.ri .i64 [(0 : Int), (0 : Int), (0 : Int), (0 : Int), (0 : Int), (0 : Int), (0 : Int), (0 : Int), (0 : Int), (0 : Int), (0 : Int), (0 : Int), (0 : Int), (0 : Int), (0 : Int), (0 : Int)])), (.var 16 (.ri .i64 x.2))], 0, []⟩))
def spec_l2Slide_ls3 (F : Nat) : LoopS := ⟨46, [1, 2, 4, 6, 7, 8], [], [4, 6, 7], [], [4, 5], [], [], fun vals mem np killed => match vals, mem, np, killed with
  | [(.int .i64 d0), (.ptr 0 0 0 16), (.ptr 1 0 0 16), (.ptr 2 0 0 16), (.int .i64 sum10), (.int .i64 i11)], [(.var 16 (.ri .i64 b12)), (.var 16 (.ri .i64 q_t413)), (.var 16 (.ri .i64 out14))], 0, [] => .br ((q_t413 == ([(0 : Int), (0 : Int), (0 : Int), (0 : Int), (0 : Int), (0 : Int), (0 : Int), (0 : Int), (0 : Int), (0 : Int), (0 : Int), (0 : Int), (0 : Int), (0 : Int), (0 : Int), (0 : Int)] : List Int)) && (spec_l2Slide_l3 F d0 b12 sum10 i11 out14).isSome) (spec_l2Slide_o3 d0 b12 ((spec_l2Slide_l3 F d0 b12 sum10 i11 out14).getD default)) .fail
  | _, _, _, _ => .fail⟩
theorem spec_l2Slide_step3 (F : Nat) (d0 : Int) (b12 : List Int) (sum10 : Int) (i11 : Int) (out14 : List Int) {R : Type} (k : Out → Option R) : stepS tt (spec_l2Slide_tab F) (spec_l2Slide_LS0 F) 70 (spec_l2Slide_ls3 F) (loopAt 3 (bodyOf Try.f55)) (spec_l2Slide_st3 d0 b12 sum10 i11 out14) k = spec_l2Slide_s3 F d0 b12 R (sum10, i11, out14) (fun s => k (.norm (spec_l2Slide_st3 d0 b12 s.1 s.2.1 s.2.2))) (fun x => (spec_l2Slide_o3 d0 b12 x).run k) := by kernel_rfl
theorem spec_l2Slide_iter3 (F : Nat) (d0 : Int) (b12 : List Int) {R : Type} (k : Out → Option R) : ∀ (n : Nat) (sum10 : Int) (i11 : Int) (out14 : List Int), iterS tt (spec_l2Slide_tab F) (spec_l2Slide_LS0 F) 70 (spec_l2Slide_ls3 F) (loopAt 3 (bodyOf Try.f55)) n (spec_l2Slide_st3 d0 b12 sum10 i11 out14) k = loopC (spec_l2Slide_s3 F d0 b12) n (sum10, i11, out14) (fun x => (spec_l2Slide_o3 d0 b12 x).run k)
  | 0, sum10, i11, out14 => rfl
  | n + 1, sum10, i11, out14 => (iterS_succ tt (spec_l2Slide_tab F) (spec_l2Slide_LS0 F) 70 (spec_l2Slide_ls3 F) (loopAt 3 (bodyOf Try.f55)) n (spec_l2Slide_st3 d0 b12 sum10 i11 out14) k).trans ((spec_l2Slide_step3 F d0 b12 sum10 i11 out14 (nextK (iterS tt (spec_l2Slide_tab F) (spec_l2Slide_LS0 F) 70 (spec_l2Slide_ls3 F) (loopAt 3 (bodyOf Try.f55)) n) k)).trans (congrArg (fun kn => spec_l2Slide_s3 F d0 b12 R (sum10, i11, out14) kn _) (funext (fun ⟨sum10, i11, out14⟩ => spec_l2Slide_iter3 F d0 b12 k n sum10 i11 out14))))
theorem spec_l2Slide_lok3 (F : Nat) : LoopOK Try.prog (loopAt 3 (bodyOf Try.f55)) (spec_l2Slide_ls3 F) := by
  refine loopOK_of mixed ttok deep (spec_l2Slide_tabok F) (loopsOK_at (spec_l2Slide_lsok0 F) 3) (fuel := 70) fun R vals mem np killed k x h => ?_
  simp only [spec_l2Slide_ls3] at h
  split at h
  · rename_i d0 sum10 i11 b12 q_t413 out14
    simp only [GT.run] at h
    have hc := (cond_noneL h).1
    replace h := (cond_noneL h).2
    have hg := (and_split hc).1
    replace hc := (and_split hc).2
    obtain rfl := beq_li hg
    refine ⟨F, (spec_l2Slide_iter3 F d0 b12 k F sum10 i11 out14).trans ((loopC_use (spec_l2Slide_s3_nat F d0 b12) hc _).trans h)⟩
  · simp only [GT.run] at h
    cases h
noncomputable def spec_l2Slide_LS1 (F : Nat) : LT := (3, spec_l2Slide_ls3 F) :: spec_l2Slide_LS0 F
theorem spec_l2Slide_lsok1 (F : Nat) : LoopsOK Try.prog (spec_l2Slide_LS1 F) (bodyOf Try.f55) := loopsOK_cons spec_l2Slide_keys (spec_l2Slide_lok3 F) (spec_l2Slide_lsok0 F)
theorem spec_l2Slide_run (F : Nat) (b0 : List Int) (d1 : Int) : runS tt (spec_l2Slide_tab F) (spec_l2Slide_LS1 F) [] [] Try.f55 (bodyOf Try.f55) 70 [(.ints 16 b0), (.int .i64 d1)] [] = spec_l2Slide_c _ F b0 d1 (fun r => some ⟨(.tup [(.ints 16 r.1), (.int .i64 r.2)]), [], []⟩) := by kernel_rfl
def spec_l2Slide_ent (F : Nat) : Ent := ⟨[], .quiet, fun args mem => match args, mem with
  | [(.ints 16 b0), (.int .i64 d1)], [] => some ((spec_l2Slide_p F b0 d1).isSome, ⟨(.tup [(.ints 16 ((spec_l2Slide_p F b0 d1).getD default).1), (.int .i64 ((spec_l2Slide_p F b0 d1).getD default).2)]), [], []⟩)
  | _, _ => none⟩
theorem spec_l2Slide_fok : FunOK Try.prog 55 := funOK Try.func55 (by kernel_rfl) rfl
theorem spec_l2Slide_meets (F : Nat) : Meets Try.prog 55 (spec_l2Slide_ent F) := by
  refine meets_of_runS mixed ttok deep (spec_l2Slide_tabok F) Try.func55 (body_some rfl) (spec_l2Slide_lsok1 F) fun args mem hfit ret h => ?_
  clear hfit
  simp only [spec_l2Slide_ent] at h
  split at h
  · rename_i b0 d1
    simp only [Option.some.injEq, Prod.mk.injEq] at h
    obtain ⟨hc, rfl⟩ := h
    exact ⟨[], [], 70, _, (spec_l2Slide_run F b0 d1).trans ((spec_l2Slide_cp _ F b0 d1 _).trans (bind_use hc _)), rfl, rfl, rfl⟩
  · cases h
end Go.Proofs.Ytabfliifleonaah
