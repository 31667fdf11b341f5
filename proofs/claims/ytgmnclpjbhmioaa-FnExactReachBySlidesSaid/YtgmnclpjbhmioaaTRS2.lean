/-
Pure functions and what the code of them does, by program; without conditions.
-/
import Derived.Test.YtgmnclpjbhmioaaTRPCmp16
import Derived.Test.YtgmnclpjbhmioaaTRP2
import Derived.Test.YtgmnclpjbhmioaaTRS1
namespace Go.Proofs.Ytgmnclpjbhmioaa
open Go Go.Lv Go.Lv.P Go.Proofs
set_option linter.unusedVariables false
set_option linter.unusedSimpArgs false
set_option maxRecDepth 100000
/-! (loop.example/g01194/impl.Board).slide -/
noncomputable def impl_Board_slide_tab (F : Nat) : Tab := [(89, (impl_Board_line_ent F)), (99, (impl_slideRow_ent F)), (144, (impl_Board_withLine_ent F))]
theorem impl_Board_slide_tabok (F : Nat) : TabOK Try.prog (impl_Board_slide_tab F) := (tab_cons (impl_Board_line_meets F) impl_Board_line_fok (tab_cons (impl_slideRow_meets F) impl_slideRow_fok (tab_cons (impl_Board_withLine_meets F) impl_Board_withLine_fok tab_nil)))
noncomputable def impl_Board_slide_LS0 (F : Nat) : LT := []
theorem impl_Board_slide_lsok0 (F : Nat) : LoopsOK Try.prog (impl_Board_slide_LS0 F) (bodyOf Try.f115) := loopsOK_nil
theorem impl_Board_slide_keys : keysOK (bodyOf Try.f115) = true := by kernel_rfl
def impl_Board_slide_st8 (direction0 : Int) (score10 : Int) (t1712 : Int) (t3713 : List Bool) (b15 : List Int) (out17 : List Int) (mergers11 : Int) (t3814 : Int) : St := ⟨expand 49 0 [1, 2, 4, 7, 8, 9, 17, 37, 38] [(.int .i64 direction0), (.ptr 0 0 0 16), (.ptr 1 0 0 16), (.ptr 2 0 0 16), (.int .i64 score10), (.int .i64 mergers11), (.int .i64 t1712), (.bools 4 t3713), (.int .i64 t3814)], [(.var 16 (.ri .i64 b15)), (.var 16 (.ri .i64 [(0 : Int), (0 : Int), (0 : Int), (0 : Int), (0 : Int), (0 : Int), (0 : Int), (0 : Int), (0 : Int), (0 : Int), (0 : Int), (0 : Int), (0 : Int), (0 : Int), (0 : Int), (0 : Int)])), (.var 16 (.ri .i64 out17))], 0, []⟩
def impl_Board_slide_o8 (direction0 : Int) (score10 : Int) (t1712 : Int) (t3713 : List Bool) (b15 : List Int) (out17 : List Int) (x : Int) : GT := (.out (.exit 2 ⟨expand 49 0 [1, 2, 4, 7, 8, 9, 17] [(.int .i64 direction0), (.ptr 0 0 0 16), (.ptr 1 0 0 16), (.ptr 2 0 0 16), (.int .i64 score10), (.int .i64 x), (.int .i64 t1712)], [(.var 16 (.ri .i64 b15)), (.var 16 (.ri .i64 [(0 : Int), (0 : Int), (0 : Int), (0 : Int), (0 : Int), (0 : Int), (0 : Int), (0 : Int), (0 : Int), (0 : Int), (0 : Int), (0 : Int), (0 : Int), (0 : Int), (0 : Int), (0 : Int)])), (.var 16 (.ri .i64 out17))], 0, []⟩))
def impl_Board_slide_ls8 (F : Nat) : LoopS := ⟨49, [1, 2, 4, 7, 8, 9, 17, 37, 38], [], [1, 2, 4, 7, 8, 9, 17], [], [4, 5, 6], [], [], fun vals mem np killed => match vals, mem, np, killed with
  | [(.int .i64 direction0), (.ptr 0 0 0 16), (.ptr 1 0 0 16), (.ptr 2 0 0 16), (.int .i64 score10), (.int .i64 mergers11), (.int .i64 t1712), (.bools 4 t3713), (.int .i64 t3814)], [(.var 16 (.ri .i64 b15)), (.var 16 (.ri .i64 q_t416)), (.var 16 (.ri .i64 out17))], 0, [] => .br ((q_t416 == ([(0 : Int), (0 : Int), (0 : Int), (0 : Int), (0 : Int), (0 : Int), (0 : Int), (0 : Int), (0 : Int), (0 : Int), (0 : Int), (0 : Int), (0 : Int), (0 : Int), (0 : Int), (0 : Int)] : List Int)) && (impl_Board_slide_l8 F direction0 score10 t1712 t3713 b15 out17 mergers11 t3814).isSome) (impl_Board_slide_o8 direction0 score10 t1712 t3713 b15 out17 ((impl_Board_slide_l8 F direction0 score10 t1712 t3713 b15 out17 mergers11 t3814).getD default)) .fail
  | _, _, _, _ => .fail⟩
theorem impl_Board_slide_step8 (F : Nat) (direction0 : Int) (score10 : Int) (t1712 : Int) (t3713 : List Bool) (b15 : List Int) (out17 : List Int) (mergers11 : Int) (t3814 : Int) {R : Type} (k : Out → Option R) : stepS tt (impl_Board_slide_tab F) (impl_Board_slide_LS0 F) 70 (impl_Board_slide_ls8 F) (loopAt 8 (bodyOf Try.f115)) (impl_Board_slide_st8 direction0 score10 t1712 t3713 b15 out17 mergers11 t3814) k = impl_Board_slide_s8 F direction0 score10 t1712 t3713 b15 out17 R (mergers11, t3814) (fun s => k (.norm (impl_Board_slide_st8 direction0 score10 t1712 t3713 b15 out17 s.1 s.2))) (fun x => (impl_Board_slide_o8 direction0 score10 t1712 t3713 b15 out17 x).run k) := by kernel_rfl
theorem impl_Board_slide_iter8 (F : Nat) (direction0 : Int) (score10 : Int) (t1712 : Int) (t3713 : List Bool) (b15 : List Int) (out17 : List Int) {R : Type} (k : Out → Option R) : ∀ (n : Nat) (mergers11 : Int) (t3814 : Int), iterS tt (impl_Board_slide_tab F) (impl_Board_slide_LS0 F) 70 (impl_Board_slide_ls8 F) (loopAt 8 (bodyOf Try.f115)) n (impl_Board_slide_st8 direction0 score10 t1712 t3713 b15 out17 mergers11 t3814) k = loopC (impl_Board_slide_s8 F direction0 score10 t1712 t3713 b15 out17) n (mergers11, t3814) (fun x => (impl_Board_slide_o8 direction0 score10 t1712 t3713 b15 out17 x).run k)
  | 0, mergers11, t3814 => rfl
  | n + 1, mergers11, t3814 => (iterS_succ tt (impl_Board_slide_tab F) (impl_Board_slide_LS0 F) 70 (impl_Board_slide_ls8 F) (loopAt 8 (bodyOf Try.f115)) n (impl_Board_slide_st8 direction0 score10 t1712 t3713 b15 out17 mergers11 t3814) k).trans ((impl_Board_slide_step8 F direction0 score10 t1712 t3713 b15 out17 mergers11 t3814 (nextK (iterS tt (impl_Board_slide_tab F) (impl_Board_slide_LS0 F) 70 (impl_Board_slide_ls8 F) (loopAt 8 (bodyOf Try.f115)) n) k)).trans (congrArg (fun kn => impl_Board_slide_s8 F direction0 score10 t1712 t3713 b15 out17 R (mergers11, t3814) kn _) (funext (fun ⟨mergers11, t3814⟩ => impl_Board_slide_iter8 F direction0 score10 t1712 t3713 b15 out17 k n mergers11 t3814))))
theorem impl_Board_slide_lok8 (F : Nat) : LoopOK Try.prog (loopAt 8 (bodyOf Try.f115)) (impl_Board_slide_ls8 F) := by
  refine loopOK_of mixed ttok deep (impl_Board_slide_tabok F) (loopsOK_at (impl_Board_slide_lsok0 F) 8) (fuel := 70) fun R vals mem np killed k x h => ?_
  simp only [impl_Board_slide_ls8] at h
  split at h
  · rename_i direction0 score10 mergers11 t1712 t3713 t3814 b15 q_t416 out17
    simp only [GT.run] at h
    have hc := (cond_noneL h).1
    replace h := (cond_noneL h).2
    have hg := (and_split hc).1
    replace hc := (and_split hc).2
    obtain rfl := beq_li hg
    refine ⟨F, (impl_Board_slide_iter8 F direction0 score10 t1712 t3713 b15 out17 k F mergers11 t3814).trans ((loopC_use (impl_Board_slide_s8_nat F direction0 score10 t1712 t3713 b15 out17) hc _).trans h)⟩
  · simp only [GT.run] at h
    cases h
noncomputable def impl_Board_slide_LS1 (F : Nat) : LT := (8, impl_Board_slide_ls8 F) :: impl_Board_slide_LS0 F
theorem impl_Board_slide_lsok1 (F : Nat) : LoopsOK Try.prog (impl_Board_slide_LS1 F) (bodyOf Try.f115) := loopsOK_cons impl_Board_slide_keys (impl_Board_slide_lok8 F) (impl_Board_slide_lsok0 F)
def impl_Board_slide_st3 (direction0 : Int) (b13 : List Int) (score10 : Int) (mergers11 : Int) (t1712 : Int) (out15 : List Int) : St := ⟨expand 49 0 [1, 2, 4, 7, 8, 9, 17] [(.int .i64 direction0), (.ptr 0 0 0 16), (.ptr 1 0 0 16), (.ptr 2 0 0 16), (.int .i64 score10), (.int .i64 mergers11), (.int .i64 t1712)], [(.var 16 (.ri .i64 b13)), (.var 16 (.ri .i64 [(0 : Int), (0 : Int), (0 : Int), (0 : Int), (0 : Int), (0 : Int), (0 : Int), (0 : Int), (0 : Int), (0 : Int), (0 : Int), (0 : Int), (0 : Int), (0 : Int), (0 : Int), (0 : Int)])), (.var 16 (.ri .i64 out15))], 0, []⟩
def impl_Board_slide_o3 (direction0 : Int) (b13 : List Int) (x : Int × Int × List Int) : GT := (.out (.exit 0 ⟨expand 49 0 [4, 7, 8, 9] [(.ptr 0 0 0 16), (.ptr 1 0 0 16), (.int .i64 x.1), (.int .i64 x.2.1)], [(.var 16 (.ri .i64 [(0 : Int), (0 : Int), (0 : Int), (0 : Int), (0 : Int), (0 : Int), (0 : Int), (0 : Int), (0 : Int), (0 : Int), (0 : Int), (0 : Int), (0 : Int), (0 : Int), (0 : Int), (0 : Int)])), (.var 16 (.ri .i64 x.2.2))], 0, []⟩))
def impl_Board_slide_ls3 (F : Nat) : LoopS := ⟨49, [1, 2, 4, 7, 8, 9, 17], [], [4, 7, 8, 9], [], [4, 5, 6], [], [], fun vals mem np killed => match vals, mem, np, killed with
  | [(.int .i64 direction0), (.ptr 0 0 0 16), (.ptr 1 0 0 16), (.ptr 2 0 0 16), (.int .i64 score10), (.int .i64 mergers11), (.int .i64 t1712)], [(.var 16 (.ri .i64 b13)), (.var 16 (.ri .i64 q_t414)), (.var 16 (.ri .i64 out15))], 0, [] => .br ((q_t414 == ([(0 : Int), (0 : Int), (0 : Int), (0 : Int), (0 : Int), (0 : Int), (0 : Int), (0 : Int), (0 : Int), (0 : Int), (0 : Int), (0 : Int), (0 : Int), (0 : Int), (0 : Int), (0 : Int)] : List Int)) && (impl_Board_slide_l3 F direction0 b13 score10 mergers11 t1712 out15).isSome) (impl_Board_slide_o3 direction0 b13 ((impl_Board_slide_l3 F direction0 b13 score10 mergers11 t1712 out15).getD default)) .fail
  | _, _, _, _ => .fail⟩
theorem impl_Board_slide_step3 (F : Nat) (direction0 : Int) (b13 : List Int) (score10 : Int) (mergers11 : Int) (t1712 : Int) (out15 : List Int) {R : Type} (k : Out → Option R) : stepS tt (impl_Board_slide_tab F) (impl_Board_slide_LS1 F) 70 (impl_Board_slide_ls3 F) (loopAt 3 (bodyOf Try.f115)) (impl_Board_slide_st3 direction0 b13 score10 mergers11 t1712 out15) k = impl_Board_slide_s3 F direction0 b13 R (score10, mergers11, t1712, out15) (fun s => k (.norm (impl_Board_slide_st3 direction0 b13 s.1 s.2.1 s.2.2.1 s.2.2.2))) (fun x => (impl_Board_slide_o3 direction0 b13 x).run k) := by kernel_rfl
theorem impl_Board_slide_iter3 (F : Nat) (direction0 : Int) (b13 : List Int) {R : Type} (k : Out → Option R) : ∀ (n : Nat) (score10 : Int) (mergers11 : Int) (t1712 : Int) (out15 : List Int), iterS tt (impl_Board_slide_tab F) (impl_Board_slide_LS1 F) 70 (impl_Board_slide_ls3 F) (loopAt 3 (bodyOf Try.f115)) n (impl_Board_slide_st3 direction0 b13 score10 mergers11 t1712 out15) k = loopC (impl_Board_slide_s3 F direction0 b13) n (score10, mergers11, t1712, out15) (fun x => (impl_Board_slide_o3 direction0 b13 x).run k)
  | 0, score10, mergers11, t1712, out15 => rfl
  | n + 1, score10, mergers11, t1712, out15 => (iterS_succ tt (impl_Board_slide_tab F) (impl_Board_slide_LS1 F) 70 (impl_Board_slide_ls3 F) (loopAt 3 (bodyOf Try.f115)) n (impl_Board_slide_st3 direction0 b13 score10 mergers11 t1712 out15) k).trans ((impl_Board_slide_step3 F direction0 b13 score10 mergers11 t1712 out15 (nextK (iterS tt (impl_Board_slide_tab F) (impl_Board_slide_LS1 F) 70 (impl_Board_slide_ls3 F) (loopAt 3 (bodyOf Try.f115)) n) k)).trans (congrArg (fun kn => impl_Board_slide_s3 F direction0 b13 R (score10, mergers11, t1712, out15) kn _) (funext (fun ⟨score10, mergers11, t1712, out15⟩ => impl_Board_slide_iter3 F direction0 b13 k n score10 mergers11 t1712 out15))))
theorem impl_Board_slide_lok3 (F : Nat) : LoopOK Try.prog (loopAt 3 (bodyOf Try.f115)) (impl_Board_slide_ls3 F) := by
  refine loopOK_of mixed ttok deep (impl_Board_slide_tabok F) (loopsOK_at (impl_Board_slide_lsok1 F) 3) (fuel := 70) fun R vals mem np killed k x h => ?_
  simp only [impl_Board_slide_ls3] at h
  split at h
  · rename_i direction0 score10 mergers11 t1712 b13 q_t414 out15
    simp only [GT.run] at h
    have hc := (cond_noneL h).1
    replace h := (cond_noneL h).2
    have hg := (and_split hc).1
    replace hc := (and_split hc).2
    obtain rfl := beq_li hg
    refine ⟨F, (impl_Board_slide_iter3 F direction0 b13 k F score10 mergers11 t1712 out15).trans ((loopC_use (impl_Board_slide_s3_nat F direction0 b13) hc _).trans h)⟩
  · simp only [GT.run] at h
    cases h
noncomputable def impl_Board_slide_LS2 (F : Nat) : LT := (3, impl_Board_slide_ls3 F) :: impl_Board_slide_LS1 F
theorem impl_Board_slide_lsok2 (F : Nat) : LoopsOK Try.prog (impl_Board_slide_LS2 F) (bodyOf Try.f115) := loopsOK_cons impl_Board_slide_keys (impl_Board_slide_lok3 F) (impl_Board_slide_lsok1 F)
theorem impl_Board_slide_run (F : Nat) (b0 : List Int) (direction1 : Int) : runS tt (impl_Board_slide_tab F) (impl_Board_slide_LS2 F) [] [] Try.f115 (bodyOf Try.f115) 70 [(.ints 16 b0), (.int .i64 direction1)] [] = impl_Board_slide_c _ F b0 direction1 (fun r => some ⟨(.tup [(.ints 16 r.1), (.int .i64 r.2.1), (.int .i64 r.2.2)]), [], []⟩) := by kernel_rfl
def impl_Board_slide_ent (F : Nat) : Ent := ⟨[], .quiet, fun args mem => match args, mem with
  | [(.ints 16 b0), (.int .i64 direction1)], [] => some ((impl_Board_slide_p F b0 direction1).isSome, ⟨(.tup [(.ints 16 ((impl_Board_slide_p F b0 direction1).getD default).1), (.int .i64 ((impl_Board_slide_p F b0 direction1).getD default).2.1), (.int .i64 ((impl_Board_slide_p F b0 direction1).getD default).2.2)]), [], []⟩)
  | _, _ => none⟩
theorem impl_Board_slide_fok : FunOK Try.prog 115 := funOK Try.func115 (by kernel_rfl) rfl
theorem impl_Board_slide_meets (F : Nat) : Meets Try.prog 115 (impl_Board_slide_ent F) := by
  refine meets_of_runS mixed ttok deep (impl_Board_slide_tabok F) Try.func115 (body_some rfl) (impl_Board_slide_lsok2 F) fun args mem hfit ret h => ?_
  clear hfit
  simp only [impl_Board_slide_ent] at h
  split at h
  · rename_i b0 direction1
    simp only [Option.some.injEq, Prod.mk.injEq] at h
    obtain ⟨hc, rfl⟩ := h
    exact ⟨[], [], 70, _, (impl_Board_slide_run F b0 direction1).trans ((impl_Board_slide_cp _ F b0 direction1 _).trans (bind_use hc _)), rfl, rfl, rfl⟩
  · cases h

/-! (loop.example/g01194/impl.Board).slides -/
noncomputable def impl_Board_slides_tab (F : Nat) : Tab := [(115, (impl_Board_slide_ent F))]
theorem impl_Board_slides_tabok (F : Nat) : TabOK Try.prog (impl_Board_slides_tab F) := (tab_cons (impl_Board_slide_meets F) impl_Board_slide_fok tab_nil)
noncomputable def impl_Board_slides_LS0 (F : Nat) : LT := []
theorem impl_Board_slides_lsok0 (F : Nat) : LoopsOK Try.prog (impl_Board_slides_LS0 F) (bodyOf Try.f85) := loopsOK_nil
theorem impl_Board_slides_keys : keysOK (bodyOf Try.f85) = true := by kernel_rfl
def impl_Board_slides_st2 (t76 : List Int) (t87 : Int) (t98 : Int) (b9 : List Int) : St := ⟨expand 22 0 [2, 4, 7, 8, 9] [(.ptr 0 0 0 16), (.ptr 1 0 0 16), (.ri .i64 t76), (.int .i64 t87), (.int .i64 t98)], [(.var 16 (.ri .i64 b9)), (.var 16 (.ri .i64 [(0 : Int), (0 : Int), (0 : Int), (0 : Int), (0 : Int), (0 : Int), (0 : Int), (0 : Int), (0 : Int), (0 : Int), (0 : Int), (0 : Int), (0 : Int), (0 : Int), (0 : Int), (0 : Int)]))], 0, []⟩
def impl_Board_slides_o2 (t76 : List Int) (t87 : Int) (x : List Int) : GT := (.out (.exit 0 ⟨expand 22 0 [2, 4] [(.ptr 0 0 0 16), (.ptr 1 0 0 16)], [(.var 16 (.ri .i64 x)), (.var 16 (.ri .i64 [(0 : Int), (0 : Int), (0 : Int), (0 : Int), (0 : Int), (0 : Int), (0 : Int), (0 : Int), (0 : Int), (0 : Int), (0 : Int), (0 : Int), (0 : Int), (0 : Int), (0 : Int), (0 : Int)]))], 0, []⟩))
def impl_Board_slides_ls2 (F : Nat) : LoopS := ⟨22, [2, 4, 7, 8, 9], [], [2, 4], [], [4], [], [], fun vals mem np killed => match vals, mem, np, killed with
  | [(.ptr 0 0 0 16), (.ptr 1 0 0 16), (.ri .i64 t76), (.int .i64 t87), (.int .i64 t98)], [(.var 16 (.ri .i64 b9)), (.var 16 (.ri .i64 q_t410))], 0, [] => .br ((q_t410 == ([(0 : Int), (0 : Int), (0 : Int), (0 : Int), (0 : Int), (0 : Int), (0 : Int), (0 : Int), (0 : Int), (0 : Int), (0 : Int), (0 : Int), (0 : Int), (0 : Int), (0 : Int), (0 : Int)] : List Int)) && (impl_Board_slides_l2 F t76 t87 t98 b9).isSome) (impl_Board_slides_o2 t76 t87 ((impl_Board_slides_l2 F t76 t87 t98 b9).getD default)) .fail
  | _, _, _, _ => .fail⟩
theorem impl_Board_slides_step2 (F : Nat) (t76 : List Int) (t87 : Int) (t98 : Int) (b9 : List Int) {R : Type} (k : Out → Option R) : stepS tt (impl_Board_slides_tab F) (impl_Board_slides_LS0 F) 70 (impl_Board_slides_ls2 F) (loopAt 2 (bodyOf Try.f85)) (impl_Board_slides_st2 t76 t87 t98 b9) k = impl_Board_slides_s2 F t76 t87 R (t98, b9) (fun s => k (.norm (impl_Board_slides_st2 t76 t87 s.1 s.2))) (fun x => (impl_Board_slides_o2 t76 t87 x).run k) := by kernel_rfl
theorem impl_Board_slides_iter2 (F : Nat) (t76 : List Int) (t87 : Int) {R : Type} (k : Out → Option R) : ∀ (n : Nat) (t98 : Int) (b9 : List Int), iterS tt (impl_Board_slides_tab F) (impl_Board_slides_LS0 F) 70 (impl_Board_slides_ls2 F) (loopAt 2 (bodyOf Try.f85)) n (impl_Board_slides_st2 t76 t87 t98 b9) k = loopC (impl_Board_slides_s2 F t76 t87) n (t98, b9) (fun x => (impl_Board_slides_o2 t76 t87 x).run k)
  | 0, t98, b9 => rfl
  | n + 1, t98, b9 => (iterS_succ tt (impl_Board_slides_tab F) (impl_Board_slides_LS0 F) 70 (impl_Board_slides_ls2 F) (loopAt 2 (bodyOf Try.f85)) n (impl_Board_slides_st2 t76 t87 t98 b9) k).trans ((impl_Board_slides_step2 F t76 t87 t98 b9 (nextK (iterS tt (impl_Board_slides_tab F) (impl_Board_slides_LS0 F) 70 (impl_Board_slides_ls2 F) (loopAt 2 (bodyOf Try.f85)) n) k)).trans (congrArg (fun kn => impl_Board_slides_s2 F t76 t87 R (t98, b9) kn _) (funext (fun ⟨t98, b9⟩ => impl_Board_slides_iter2 F t76 t87 k n t98 b9))))
theorem impl_Board_slides_lok2 (F : Nat) : LoopOK Try.prog (loopAt 2 (bodyOf Try.f85)) (impl_Board_slides_ls2 F) := by
  refine loopOK_of mixed ttok deep (impl_Board_slides_tabok F) (loopsOK_at (impl_Board_slides_lsok0 F) 2) (fuel := 70) fun R vals mem np killed k x h => ?_
  simp only [impl_Board_slides_ls2] at h
  split at h
  · rename_i t76 t87 t98 b9 q_t410
    simp only [GT.run] at h
    have hc := (cond_noneL h).1
    replace h := (cond_noneL h).2
    have hg := (and_split hc).1
    replace hc := (and_split hc).2
    obtain rfl := beq_li hg
    refine ⟨F, (impl_Board_slides_iter2 F t76 t87 k F t98 b9).trans ((loopC_use (impl_Board_slides_s2_nat F t76 t87) hc _).trans h)⟩
  · simp only [GT.run] at h
    cases h
noncomputable def impl_Board_slides_LS1 (F : Nat) : LT := (2, impl_Board_slides_ls2 F) :: impl_Board_slides_LS0 F
theorem impl_Board_slides_lsok1 (F : Nat) : LoopsOK Try.prog (impl_Board_slides_LS1 F) (bodyOf Try.f85) := loopsOK_cons impl_Board_slides_keys (impl_Board_slides_lok2 F) (impl_Board_slides_lsok0 F)
theorem impl_Board_slides_run (F : Nat) (b0 : List Int) (list1 : List Int) : runS tt (impl_Board_slides_tab F) (impl_Board_slides_LS1 F) [] [] Try.f85 (bodyOf Try.f85) 70 [(.ints 16 b0), (.ri .i64 list1)] [] = impl_Board_slides_c _ F b0 list1 (fun r => some ⟨(.ints 16 r), [], []⟩) := by kernel_rfl
def impl_Board_slides_ent (F : Nat) : Ent := ⟨[], .quiet, fun args mem => match args, mem with
  | [(.ints 16 b0), (.ri .i64 list1)], [] => some ((impl_Board_slides_p F b0 list1).isSome, ⟨(.ints 16 ((impl_Board_slides_p F b0 list1).getD default)), [], []⟩)
  | _, _ => none⟩
theorem impl_Board_slides_fok : FunOK Try.prog 85 := funOK Try.func85 (by kernel_rfl) rfl
theorem impl_Board_slides_meets (F : Nat) : Meets Try.prog 85 (impl_Board_slides_ent F) := by
  refine meets_of_runS mixed ttok deep (impl_Board_slides_tabok F) Try.func85 (body_some rfl) (impl_Board_slides_lsok1 F) fun args mem hfit ret h => ?_
  clear hfit
  simp only [impl_Board_slides_ent] at h
  split at h
  · rename_i b0 list1
    simp only [Option.some.injEq, Prod.mk.injEq] at h
    obtain ⟨hc, rfl⟩ := h
    exact ⟨[], [], 70, _, (impl_Board_slides_run F b0 list1).trans ((impl_Board_slides_cp _ F b0 list1 _).trans (bind_use hc _)), rfl, rfl, rfl⟩
  · cases h

/-! (loop.example/g01194/impl.Board).reach -/
noncomputable def impl_Board_reach_tab (F : Nat) : Tab := [(85, (impl_Board_slides_ent F)), (91, (slices_Clone_intint_ent F))]
theorem impl_Board_reach_tabok (F : Nat) : TabOK Try.prog (impl_Board_reach_tab F) := (tab_cons (impl_Board_slides_meets F) impl_Board_slides_fok (tab_cons (slices_Clone_intint_meets F) slices_Clone_intint_fok tab_nil))
noncomputable def impl_Board_reach_LS0 (F : Nat) : LT := []
theorem impl_Board_reach_lsok0 (F : Nat) : LoopsOK Try.prog (impl_Board_reach_LS0 F) (bodyOf Try.f70) := loopsOK_nil
theorem impl_Board_reach_keys : keysOK (bodyOf Try.f70) = true := by kernel_rfl
def impl_Board_reach_st8 (n0 : Int) (from3 : Int) (own10 : List Int) (t367 : Int) (lists8 : List (List Int × List Int)) (order9 : List (List Int)) : St := ⟨expand 67 0 [1, 6, 7, 8, 9, 36] [(.int .i64 n0), (.map 0), (.sl 1 0 (List.length order9)), (.int .i64 from3), (.ptr 2 0 0 16), (.int .i64 t367)], [(.map 16 (.ls .i64 lists8)), (.vec 28 (.rr 16 order9)), (.var 16 (.ri .i64 own10))], 0, []⟩
def impl_Board_reach_o8 (n0 : Int) (from3 : Int) (own10 : List Int) (x : List (List Int × List Int) × List (List Int)) : GT := (.out (.exit 2 ⟨expand 67 0 [1, 6, 7, 8] [(.int .i64 n0), (.map 0), (.sl 1 0 (List.length x.2)), (.int .i64 from3)], [(.map 16 (.ls .i64 x.1)), (.vec 28 (.rr 16 x.2))], 0, []⟩))
def impl_Board_reach_ls8 (F : Nat) : LoopS := ⟨67, [1, 6, 7, 8, 9, 36], [], [1, 6, 7, 8], [], [4, 5], [], [], fun vals mem np killed => match vals, mem, np, killed with
  | [(.int .i64 n0), (.map 0), (.sl 1 0 q_order2), (.int .i64 from3), (.ptr 2 0 0 16), (.int .i64 t367)], [(.map 16 (.ls .i64 lists8)), (.vec 28 (.rr 16 order9)), (.var 16 (.ri .i64 own10))], 0, [] => .br ((Nat.beq q_order2 (List.length order9)) && (impl_Board_reach_l8 F n0 from3 own10 t367 lists8 order9).isSome) (impl_Board_reach_o8 n0 from3 own10 ((impl_Board_reach_l8 F n0 from3 own10 t367 lists8 order9).getD default)) .fail
  | _, _, _, _ => .fail⟩
theorem impl_Board_reach_step8 (F : Nat) (n0 : Int) (from3 : Int) (own10 : List Int) (t367 : Int) (lists8 : List (List Int × List Int)) (order9 : List (List Int)) {R : Type} (k : Out → Option R) : stepS tt (impl_Board_reach_tab F) (impl_Board_reach_LS0 F) 70 (impl_Board_reach_ls8 F) (loopAt 8 (bodyOf Try.f70)) (impl_Board_reach_st8 n0 from3 own10 t367 lists8 order9) k = impl_Board_reach_s8 F n0 from3 own10 R (t367, lists8, order9) (fun s => k (.norm (impl_Board_reach_st8 n0 from3 own10 s.1 s.2.1 s.2.2))) (fun x => (impl_Board_reach_o8 n0 from3 own10 x).run k) := by kernel_rfl
theorem impl_Board_reach_iter8 (F : Nat) (n0 : Int) (from3 : Int) (own10 : List Int) {R : Type} (k : Out → Option R) : ∀ (n : Nat) (t367 : Int) (lists8 : List (List Int × List Int)) (order9 : List (List Int)), iterS tt (impl_Board_reach_tab F) (impl_Board_reach_LS0 F) 70 (impl_Board_reach_ls8 F) (loopAt 8 (bodyOf Try.f70)) n (impl_Board_reach_st8 n0 from3 own10 t367 lists8 order9) k = loopC (impl_Board_reach_s8 F n0 from3 own10) n (t367, lists8, order9) (fun x => (impl_Board_reach_o8 n0 from3 own10 x).run k)
  | 0, t367, lists8, order9 => rfl
  | n + 1, t367, lists8, order9 => (iterS_succ tt (impl_Board_reach_tab F) (impl_Board_reach_LS0 F) 70 (impl_Board_reach_ls8 F) (loopAt 8 (bodyOf Try.f70)) n (impl_Board_reach_st8 n0 from3 own10 t367 lists8 order9) k).trans ((impl_Board_reach_step8 F n0 from3 own10 t367 lists8 order9 (nextK (iterS tt (impl_Board_reach_tab F) (impl_Board_reach_LS0 F) 70 (impl_Board_reach_ls8 F) (loopAt 8 (bodyOf Try.f70)) n) k)).trans (congrArg (fun kn => impl_Board_reach_s8 F n0 from3 own10 R (t367, lists8, order9) kn _) (funext (fun ⟨t367, lists8, order9⟩ => impl_Board_reach_iter8 F n0 from3 own10 k n t367 lists8 order9))))
theorem impl_Board_reach_lok8 (F : Nat) : LoopOK Try.prog (loopAt 8 (bodyOf Try.f70)) (impl_Board_reach_ls8 F) := by
  refine loopOK_of mixed ttok deep (impl_Board_reach_tabok F) (loopsOK_at (impl_Board_reach_lsok0 F) 8) (fuel := 70) fun R vals mem np killed k x h => ?_
  simp only [impl_Board_reach_ls8] at h
  split at h
  · rename_i n0 q_order2 from3 t367 lists8 order9 own10
    simp only [GT.run] at h
    have hc := (cond_noneL h).1
    replace h := (cond_noneL h).2
    have hg := (and_split hc).1
    replace hc := (and_split hc).2
    obtain rfl := nbeq_nat hg
    refine ⟨F, (impl_Board_reach_iter8 F n0 from3 own10 k F t367 lists8 order9).trans ((loopC_use (impl_Board_reach_s8_nat F n0 from3 own10) hc _).trans h)⟩
  · simp only [GT.run] at h
    cases h
noncomputable def impl_Board_reach_LS1 (F : Nat) : LT := (8, impl_Board_reach_ls8 F) :: impl_Board_reach_LS0 F
theorem impl_Board_reach_lsok1 (F : Nat) : LoopsOK Try.prog (impl_Board_reach_LS1 F) (bodyOf Try.f70) := loopsOK_cons impl_Board_reach_keys (impl_Board_reach_lok8 F) (impl_Board_reach_lsok0 F)
def impl_Board_reach_st3 (n0 : Int) (from3 : Int) (lists4 : List (List Int × List Int)) (order5 : List (List Int)) : St := ⟨expand 67 0 [1, 6, 7, 8] [(.int .i64 n0), (.map 0), (.sl 1 0 (List.length order5)), (.int .i64 from3)], [(.map 16 (.ls .i64 lists4)), (.vec 28 (.rr 16 order5))], 0, []⟩
def impl_Board_reach_o3 (n0 : Int) (x : List (List Int × List Int) × List (List Int)) : GT := (.out (.exit 0 ⟨expand 67 0 [6, 7] [(.map 0), (.sl 1 0 (List.length x.2))], [(.map 16 (.ls .i64 x.1)), (.vec 28 (.rr 16 x.2))], 0, []⟩))
def impl_Board_reach_ls3 (F : Nat) : LoopS := ⟨67, [1, 6, 7, 8], [], [6, 7], [], [4, 5], [], [], fun vals mem np killed => match vals, mem, np, killed with
  | [(.int .i64 n0), (.map 0), (.sl 1 0 q_order2), (.int .i64 from3)], [(.map 16 (.ls .i64 lists4)), (.vec 28 (.rr 16 order5))], 0, [] => .br ((Nat.beq q_order2 (List.length order5)) && (impl_Board_reach_l3 F n0 from3 lists4 order5).isSome) (impl_Board_reach_o3 n0 ((impl_Board_reach_l3 F n0 from3 lists4 order5).getD default)) .fail
  | _, _, _, _ => .fail⟩
theorem impl_Board_reach_step3 (F : Nat) (n0 : Int) (from3 : Int) (lists4 : List (List Int × List Int)) (order5 : List (List Int)) {R : Type} (k : Out → Option R) : stepS tt (impl_Board_reach_tab F) (impl_Board_reach_LS1 F) 70 (impl_Board_reach_ls3 F) (loopAt 3 (bodyOf Try.f70)) (impl_Board_reach_st3 n0 from3 lists4 order5) k = impl_Board_reach_s3 F n0 R (from3, lists4, order5) (fun s => k (.norm (impl_Board_reach_st3 n0 s.1 s.2.1 s.2.2))) (fun x => (impl_Board_reach_o3 n0 x).run k) := by kernel_rfl
theorem impl_Board_reach_iter3 (F : Nat) (n0 : Int) {R : Type} (k : Out → Option R) : ∀ (n : Nat) (from3 : Int) (lists4 : List (List Int × List Int)) (order5 : List (List Int)), iterS tt (impl_Board_reach_tab F) (impl_Board_reach_LS1 F) 70 (impl_Board_reach_ls3 F) (loopAt 3 (bodyOf Try.f70)) n (impl_Board_reach_st3 n0 from3 lists4 order5) k = loopC (impl_Board_reach_s3 F n0) n (from3, lists4, order5) (fun x => (impl_Board_reach_o3 n0 x).run k)
  | 0, from3, lists4, order5 => rfl
  | n + 1, from3, lists4, order5 => (iterS_succ tt (impl_Board_reach_tab F) (impl_Board_reach_LS1 F) 70 (impl_Board_reach_ls3 F) (loopAt 3 (bodyOf Try.f70)) n (impl_Board_reach_st3 n0 from3 lists4 order5) k).trans ((impl_Board_reach_step3 F n0 from3 lists4 order5 (nextK (iterS tt (impl_Board_reach_tab F) (impl_Board_reach_LS1 F) 70 (impl_Board_reach_ls3 F) (loopAt 3 (bodyOf Try.f70)) n) k)).trans (congrArg (fun kn => impl_Board_reach_s3 F n0 R (from3, lists4, order5) kn _) (funext (fun ⟨from3, lists4, order5⟩ => impl_Board_reach_iter3 F n0 k n from3 lists4 order5))))
theorem impl_Board_reach_lok3 (F : Nat) : LoopOK Try.prog (loopAt 3 (bodyOf Try.f70)) (impl_Board_reach_ls3 F) := by
  refine loopOK_of mixed ttok deep (impl_Board_reach_tabok F) (loopsOK_at (impl_Board_reach_lsok1 F) 3) (fuel := 70) fun R vals mem np killed k x h => ?_
  simp only [impl_Board_reach_ls3] at h
  split at h
  · rename_i n0 q_order2 from3 lists4 order5
    simp only [GT.run] at h
    have hc := (cond_noneL h).1
    replace h := (cond_noneL h).2
    have hg := (and_split hc).1
    replace hc := (and_split hc).2
    obtain rfl := nbeq_nat hg
    refine ⟨F, (impl_Board_reach_iter3 F n0 k F from3 lists4 order5).trans ((loopC_use (impl_Board_reach_s3_nat F n0) hc _).trans h)⟩
  · simp only [GT.run] at h
    cases h
noncomputable def impl_Board_reach_LS2 (F : Nat) : LT := (3, impl_Board_reach_ls3 F) :: impl_Board_reach_LS1 F
theorem impl_Board_reach_lsok2 (F : Nat) : LoopsOK Try.prog (impl_Board_reach_LS2 F) (bodyOf Try.f70) := loopsOK_cons impl_Board_reach_keys (impl_Board_reach_lok3 F) (impl_Board_reach_lsok1 F)
theorem impl_Board_reach_run (F : Nat) (b0 : List Int) (n1 : Int) : runS tt (impl_Board_reach_tab F) (impl_Board_reach_LS2 F) [] [] Try.f70 (bodyOf Try.f70) 70 [(.ints 16 b0), (.int .i64 n1)] [] = impl_Board_reach_c _ F b0 n1 (fun r => some ⟨(.tup [(.map 0), (.sl 1 0 (List.length r.2))]), [(.map 16 (.ls .i64 r.1)), (.vec 28 (.rr 16 r.2))], []⟩) := by kernel_rfl
def impl_Board_reach_ent (F : Nat) : Ent := ⟨[], .fresh, fun args mem => match args, mem with
  | [(.ints 16 b0), (.int .i64 n1)], [] => some ((impl_Board_reach_p F b0 n1).isSome, ⟨(.tup [(.map 0), (.sl 1 0 (List.length ((impl_Board_reach_p F b0 n1).getD default).2))]), [(.map 16 (.ls .i64 ((impl_Board_reach_p F b0 n1).getD default).1)), (.vec 28 (.rr 16 ((impl_Board_reach_p F b0 n1).getD default).2))], []⟩)
  | _, _ => none⟩
theorem impl_Board_reach_fok : FunOK Try.prog 70 := funOK Try.func70 (by kernel_rfl) rfl
theorem impl_Board_reach_meets (F : Nat) : Meets Try.prog 70 (impl_Board_reach_ent F) := by
  refine meets_of_runS mixed ttok deep (impl_Board_reach_tabok F) Try.func70 (body_some rfl) (impl_Board_reach_lsok2 F) fun args mem hfit ret h => ?_
  clear hfit
  simp only [impl_Board_reach_ent] at h
  split at h
  · rename_i b0 n1
    simp only [Option.some.injEq, Prod.mk.injEq] at h
    obtain ⟨hc, rfl⟩ := h
    exact ⟨[], [], 70, _, (impl_Board_reach_run F b0 n1).trans ((impl_Board_reach_cp _ F b0 n1 _).trans (bind_use hc _)), rfl, rfl, rfl⟩
  · cases h

/-! slices.Grow[[]int,int] -/
noncomputable def slices_Grow_intint_tab (F : Nat) : Tab := []
theorem slices_Grow_intint_tabok (F : Nat) : TabOK Try.prog (slices_Grow_intint_tab F) := tab_nil
noncomputable def slices_Grow_intint_LS0 (F : Nat) : LT := []
theorem slices_Grow_intint_lsok0 (F : Nat) : LoopsOK Try.prog (slices_Grow_intint_LS0 F) (bodyOf Try.f132) := loopsOK_nil
theorem slices_Grow_intint_run (F : Nat) (n0 : Int) : runS tt (slices_Grow_intint_tab F) (slices_Grow_intint_LS0 F) [⟨4, 3, (.ri .i64 ([] : List Int))⟩] [] Try.f132 (bodyOf Try.f132) 70 [.z0, (.int .i64 n0)] [] = slices_Grow_intint_c _ n0 (fun r => some ⟨(.sl 0 0 0), [(.vec 3 (.ri .i64 r))], []⟩) := by kernel_rfl
def slices_Grow_intint_ent (F : Nat) : Ent := ⟨[true], .fresh, fun args mem => match args, mem with
  | [.z0, (.int .i64 n0)], [] => some ((slices_Grow_intint_p n0).isSome, ⟨(.sl 0 0 0), [(.vec 3 (.ri .i64 ((slices_Grow_intint_p n0).getD default)))], []⟩)
  | _, _ => none⟩
theorem slices_Grow_intint_fok : FunOK Try.prog 132 := funOK Try.func132 (by kernel_rfl) rfl
theorem slices_Grow_intint_meets (F : Nat) : Meets Try.prog 132 (slices_Grow_intint_ent F) := by
  refine meets_of_runS mixed ttok deep (slices_Grow_intint_tabok F) Try.func132 (body_some rfl) (slices_Grow_intint_lsok0 F) fun args mem hfit ret h => ?_
  clear hfit
  simp only [slices_Grow_intint_ent] at h
  split at h
  · rename_i n0
    simp only [Option.some.injEq, Prod.mk.injEq] at h
    obtain ⟨hc, rfl⟩ := h
    exact ⟨[⟨4, 3, (.ri .i64 ([] : List Int))⟩], [], 70, _, (slices_Grow_intint_run F n0).trans ((slices_Grow_intint_cp _ n0 _).trans (bind_use hc _)), rfl, rfl, rfl⟩
  · cases h

/-! slices.Concat[[]int,int] -/
noncomputable def slices_Concat_intint_tab (F : Nat) : Tab := [(132, (slices_Grow_intint_ent F))]
theorem slices_Concat_intint_tabok (F : Nat) : TabOK Try.prog (slices_Concat_intint_tab F) := (tab_cons (slices_Grow_intint_meets F) slices_Grow_intint_fok tab_nil)
noncomputable def slices_Concat_intint_LS0 (F : Nat) : LT := []
theorem slices_Concat_intint_lsok0 (F : Nat) : LoopsOK Try.prog (slices_Concat_intint_LS0 F) (bodyOf Try.f107) := loopsOK_nil
theorem slices_Concat_intint_run (F : Nat) (slices0 : List Int) (slices1 : List Int) (slices2 : List Int) (slices3 : List Int) : runS tt (slices_Concat_intint_tab F) (slices_Concat_intint_LS0 F) [] [] Try.f107 (bodyOf Try.f107) 70 [(.rv [(.ri .i64 slices0), (.ri .i64 slices1), (.ri .i64 slices2), (.ri .i64 slices3)])] [] = slices_Concat_intint_c _ slices0 slices1 slices2 slices3 (fun r => some ⟨(.sl 0 0 (List.length r)), [(.vec 3 (.ri .i64 r))], []⟩) := by kernel_rfl
def slices_Concat_intint_ent (F : Nat) : Ent := ⟨[], .fresh, fun args mem => match args, mem with
  | [(.rv [(.ri .i64 slices0), (.ri .i64 slices1), (.ri .i64 slices2), (.ri .i64 slices3)])], [] => some ((slices_Concat_intint_p slices0 slices1 slices2 slices3).isSome, ⟨(.sl 0 0 (List.length ((slices_Concat_intint_p slices0 slices1 slices2 slices3).getD default))), [(.vec 3 (.ri .i64 ((slices_Concat_intint_p slices0 slices1 slices2 slices3).getD default)))], []⟩)
  | _, _ => none⟩
theorem slices_Concat_intint_fok : FunOK Try.prog 107 := funOK Try.func107 (by kernel_rfl) rfl
theorem slices_Concat_intint_meets (F : Nat) : Meets Try.prog 107 (slices_Concat_intint_ent F) := by
  refine meets_of_runS mixed ttok deep (slices_Concat_intint_tabok F) Try.func107 (body_some rfl) (slices_Concat_intint_lsok0 F) fun args mem hfit ret h => ?_
  clear hfit
  simp only [slices_Concat_intint_ent] at h
  split at h
  · rename_i slices0 slices1 slices2 slices3
    simp only [Option.some.injEq, Prod.mk.injEq] at h
    obtain ⟨hc, rfl⟩ := h
    exact ⟨[], [], 70, _, (slices_Concat_intint_run F slices0 slices1 slices2 slices3).trans ((slices_Concat_intint_cp _ slices0 slices1 slices2 slices3 _).trans (bind_use hc _)), rfl, rfl, rfl⟩
  · cases h

/-! (loop.example/g01194/impl.Board).flat -/
noncomputable def impl_Board_flat_tab (F : Nat) : Tab := [(107, (slices_Concat_intint_ent F))]
theorem impl_Board_flat_tabok (F : Nat) : TabOK Try.prog (impl_Board_flat_tab F) := (tab_cons (slices_Concat_intint_meets F) slices_Concat_intint_fok tab_nil)
noncomputable def impl_Board_flat_LS0 (F : Nat) : LT := []
theorem impl_Board_flat_lsok0 (F : Nat) : LoopsOK Try.prog (impl_Board_flat_LS0 F) (bodyOf Try.f76) := loopsOK_nil
theorem impl_Board_flat_run (F : Nat) (b0 : List Int) : runS tt (impl_Board_flat_tab F) (impl_Board_flat_LS0 F) [] [] Try.f76 (bodyOf Try.f76) 70 [(.ints 16 b0)] [] = impl_Board_flat_c _ b0 (fun r => some ⟨(.sl 0 0 (List.length r)), [(.vec 3 (.ri .i64 r))], []⟩) := by kernel_rfl
def impl_Board_flat_ent (F : Nat) : Ent := ⟨[], .fresh, fun args mem => match args, mem with
  | [(.ints 16 b0)], [] => some ((impl_Board_flat_p b0).isSome, ⟨(.sl 0 0 (List.length ((impl_Board_flat_p b0).getD default))), [(.vec 3 (.ri .i64 ((impl_Board_flat_p b0).getD default)))], []⟩)
  | _, _ => none⟩
theorem impl_Board_flat_fok : FunOK Try.prog 76 := funOK Try.func76 (by kernel_rfl) rfl
theorem impl_Board_flat_meets (F : Nat) : Meets Try.prog 76 (impl_Board_flat_ent F) := by
  refine meets_of_runS mixed ttok deep (impl_Board_flat_tabok F) Try.func76 (body_some rfl) (impl_Board_flat_lsok0 F) fun args mem hfit ret h => ?_
  clear hfit
  simp only [impl_Board_flat_ent] at h
  split at h
  · rename_i b0
    simp only [Option.some.injEq, Prod.mk.injEq] at h
    obtain ⟨hc, rfl⟩ := h
    exact ⟨[], [], 70, _, (impl_Board_flat_run F b0).trans ((impl_Board_flat_cp _ b0 _).trans (bind_use hc _)), rfl, rfl, rfl⟩
  · cases h

/-! cmp.isNaN[int] -/
noncomputable def cmp_isNaN_int_tab (F : Nat) : Tab := []
theorem cmp_isNaN_int_tabok (F : Nat) : TabOK Try.prog (cmp_isNaN_int_tab F) := tab_nil
noncomputable def cmp_isNaN_int_LS0 (F : Nat) : LT := []
theorem cmp_isNaN_int_lsok0 (F : Nat) : LoopsOK Try.prog (cmp_isNaN_int_LS0 F) (bodyOf Try.f164) := loopsOK_nil
theorem cmp_isNaN_int_run (F : Nat) (x0 : Int) : runS tt (cmp_isNaN_int_tab F) (cmp_isNaN_int_LS0 F) [] [] Try.f164 (bodyOf Try.f164) 70 [(.int .i64 x0)] [] = cmp_isNaN_int_c _ x0 (fun r => some ⟨(.bool r), [], []⟩) := by kernel_rfl
def cmp_isNaN_int_ent (F : Nat) : Ent := ⟨[], .quiet, fun args mem => match args, mem with
  | [(.int .i64 x0)], [] => some (true, ⟨(.bool (cmp_isNaN_int_v x0)), [], []⟩)
  | _, _ => none⟩
theorem cmp_isNaN_int_fok : FunOK Try.prog 164 := funOK Try.func164 (by kernel_rfl) rfl
theorem cmp_isNaN_int_meets (F : Nat) : Meets Try.prog 164 (cmp_isNaN_int_ent F) := by
  refine meets_of_runS mixed ttok deep (cmp_isNaN_int_tabok F) Try.func164 (body_some rfl) (cmp_isNaN_int_lsok0 F) fun args mem hfit ret h => ?_
  clear hfit
  simp only [cmp_isNaN_int_ent] at h
  split at h
  · rename_i x0
    simp only [Option.some.injEq, Prod.mk.injEq] at h
    obtain ⟨hc, rfl⟩ := h
    exact ⟨[], [], 70, _, (cmp_isNaN_int_run F x0).trans (cmp_isNaN_int_cv _ x0 _), rfl, rfl, rfl⟩
  · cases h

/-! cmp.Compare[int] -/
noncomputable def cmp_Compare_int_tab (F : Nat) : Tab := [(164, (cmp_isNaN_int_ent F))]
theorem cmp_Compare_int_tabok (F : Nat) : TabOK Try.prog (cmp_Compare_int_tab F) := (tab_cons (cmp_isNaN_int_meets F) cmp_isNaN_int_fok tab_nil)
noncomputable def cmp_Compare_int_LS0 (F : Nat) : LT := []
theorem cmp_Compare_int_lsok0 (F : Nat) : LoopsOK Try.prog (cmp_Compare_int_LS0 F) (bodyOf Try.f149) := loopsOK_nil
theorem cmp_Compare_int_run (F : Nat) (x0 : Int) (y1 : Int) : runS tt (cmp_Compare_int_tab F) (cmp_Compare_int_LS0 F) [] [] Try.f149 (bodyOf Try.f149) 70 [(.int .i64 x0), (.int .i64 y1)] [] = cmp_Compare_int_c _ x0 y1 (fun r => some ⟨(.int .i64 r), [], []⟩) := by kernel_rfl
def cmp_Compare_int_ent (F : Nat) : Ent := ⟨[], .quiet, fun args mem => match args, mem with
  | [(.int .i64 x0), (.int .i64 y1)], [] => some (true, ⟨(.int .i64 (cmp_Compare_int_v x0 y1)), [], []⟩)
  | _, _ => none⟩
theorem cmp_Compare_int_fok : FunOK Try.prog 149 := funOK Try.func149 (by kernel_rfl) rfl
theorem cmp_Compare_int_meets (F : Nat) : Meets Try.prog 149 (cmp_Compare_int_ent F) := by
  refine meets_of_runS mixed ttok deep (cmp_Compare_int_tabok F) Try.func149 (body_some rfl) (cmp_Compare_int_lsok0 F) fun args mem hfit ret h => ?_
  clear hfit
  simp only [cmp_Compare_int_ent] at h
  split at h
  · rename_i x0 y1
    simp only [Option.some.injEq, Prod.mk.injEq] at h
    obtain ⟨hc, rfl⟩ := h
    exact ⟨[], [], 70, _, (cmp_Compare_int_run F x0 y1).trans (cmp_Compare_int_cv _ x0 y1 _), rfl, rfl, rfl⟩
  · cases h

/-! slices.Compare[[]int,int] -/
noncomputable def slices_Compare_intint_tab (F : Nat) : Tab := [(149, (cmp_Compare_int_ent F))]
theorem slices_Compare_intint_tabok (F : Nat) : TabOK Try.prog (slices_Compare_intint_tab F) := (tab_cons (cmp_Compare_int_meets F) cmp_Compare_int_fok tab_nil)
noncomputable def slices_Compare_intint_LS0 (F : Nat) : LT := []
theorem slices_Compare_intint_lsok0 (F : Nat) : LoopsOK Try.prog (slices_Compare_intint_LS0 F) (bodyOf Try.f124) := loopsOK_nil
theorem slices_Compare_intint_keys : keysOK (bodyOf Try.f124) = true := by kernel_rfl
def slices_Compare_intint_st2 (s10 : List Int) (s21 : List Int) (t92 : List Int) (t103 : Int) (t114 : Int) : St := ⟨expand 36 0 [0, 1, 9, 10, 11] [(.ri .i64 s10), (.ri .i64 s21), (.ri .i64 t92), (.int .i64 t103), (.int .i64 t114)], [], 0, []⟩
def slices_Compare_intint_o2 (s10 : List Int) (s21 : List Int) (t92 : List Int) (t103 : Int) (x : Bool × Int) : GT := (.br x.1 (.out (.ret ⟨expand 36 0 [4] [(.int .i64 x.2)], [], 0, []⟩)) (.out (.exit 0 ⟨expand 36 0 [0, 1] [(.ri .i64 s10), (.ri .i64 s21)], [], 0, []⟩)))
def slices_Compare_intint_ls2 (F : Nat) : LoopS := ⟨36, [0, 1, 9, 10, 11], [], [0, 1], [], [4], [], [], fun vals mem np killed => match vals, mem, np, killed with
  | [(.ri .i64 s10), (.ri .i64 s21), (.ri .i64 t92), (.int .i64 t103), (.int .i64 t114)], [], 0, [] => .br (slices_Compare_intint_l2 F s10 s21 t92 t103 t114).isSome (slices_Compare_intint_o2 s10 s21 t92 t103 ((slices_Compare_intint_l2 F s10 s21 t92 t103 t114).getD default)) .fail
  | _, _, _, _ => .fail⟩
theorem slices_Compare_intint_step2 (F : Nat) (s10 : List Int) (s21 : List Int) (t92 : List Int) (t103 : Int) (t114 : Int) {R : Type} (k : Out → Option R) : stepS tt (slices_Compare_intint_tab F) (slices_Compare_intint_LS0 F) 70 (slices_Compare_intint_ls2 F) (loopAt 2 (bodyOf Try.f124)) (slices_Compare_intint_st2 s10 s21 t92 t103 t114) k = slices_Compare_intint_s2 F s10 s21 t92 t103 R t114 (fun s => k (.norm (slices_Compare_intint_st2 s10 s21 t92 t103 s))) (fun x => (slices_Compare_intint_o2 s10 s21 t92 t103 x).run k) := by kernel_rfl
theorem slices_Compare_intint_iter2 (F : Nat) (s10 : List Int) (s21 : List Int) (t92 : List Int) (t103 : Int) {R : Type} (k : Out → Option R) : ∀ (n : Nat) (t114 : Int), iterS tt (slices_Compare_intint_tab F) (slices_Compare_intint_LS0 F) 70 (slices_Compare_intint_ls2 F) (loopAt 2 (bodyOf Try.f124)) n (slices_Compare_intint_st2 s10 s21 t92 t103 t114) k = loopC (slices_Compare_intint_s2 F s10 s21 t92 t103) n t114 (fun x => (slices_Compare_intint_o2 s10 s21 t92 t103 x).run k)
  | 0, t114 => rfl
  | n + 1, t114 => (iterS_succ tt (slices_Compare_intint_tab F) (slices_Compare_intint_LS0 F) 70 (slices_Compare_intint_ls2 F) (loopAt 2 (bodyOf Try.f124)) n (slices_Compare_intint_st2 s10 s21 t92 t103 t114) k).trans ((slices_Compare_intint_step2 F s10 s21 t92 t103 t114 (nextK (iterS tt (slices_Compare_intint_tab F) (slices_Compare_intint_LS0 F) 70 (slices_Compare_intint_ls2 F) (loopAt 2 (bodyOf Try.f124)) n) k)).trans (congrArg (fun kn => slices_Compare_intint_s2 F s10 s21 t92 t103 R t114 kn _) (funext (fun t114 => slices_Compare_intint_iter2 F s10 s21 t92 t103 k n t114))))
theorem slices_Compare_intint_lok2 (F : Nat) : LoopOK Try.prog (loopAt 2 (bodyOf Try.f124)) (slices_Compare_intint_ls2 F) := by
  refine loopOK_of mixed ttok deep (slices_Compare_intint_tabok F) (loopsOK_at (slices_Compare_intint_lsok0 F) 2) (fuel := 70) fun R vals mem np killed k x h => ?_
  simp only [slices_Compare_intint_ls2] at h
  split at h
  · rename_i s10 s21 t92 t103 t114
    simp only [GT.run] at h
    have hc := (cond_noneL h).1
    replace h := (cond_noneL h).2
    refine ⟨F, (slices_Compare_intint_iter2 F s10 s21 t92 t103 k F t114).trans ((loopC_use (slices_Compare_intint_s2_nat F s10 s21 t92 t103) hc _).trans h)⟩
  · simp only [GT.run] at h
    cases h
noncomputable def slices_Compare_intint_LS1 (F : Nat) : LT := (2, slices_Compare_intint_ls2 F) :: slices_Compare_intint_LS0 F
theorem slices_Compare_intint_lsok1 (F : Nat) : LoopsOK Try.prog (slices_Compare_intint_LS1 F) (bodyOf Try.f124) := loopsOK_cons slices_Compare_intint_keys (slices_Compare_intint_lok2 F) (slices_Compare_intint_lsok0 F)
theorem slices_Compare_intint_run (F : Nat) (s10 : List Int) (s21 : List Int) : runS tt (slices_Compare_intint_tab F) (slices_Compare_intint_LS1 F) [] [] Try.f124 (bodyOf Try.f124) 70 [(.ri .i64 s10), (.ri .i64 s21)] [] = slices_Compare_intint_c _ F s10 s21 (fun r => some ⟨(.int .i64 r), [], []⟩) := by kernel_rfl
def slices_Compare_intint_ent (F : Nat) : Ent := ⟨[], .quiet, fun args mem => match args, mem with
  | [(.ri .i64 s10), (.ri .i64 s21)], [] => some ((slices_Compare_intint_p F s10 s21).isSome, ⟨(.int .i64 ((slices_Compare_intint_p F s10 s21).getD default)), [], []⟩)
  | _, _ => none⟩
theorem slices_Compare_intint_fok : FunOK Try.prog 124 := funOK Try.func124 (by kernel_rfl) rfl
theorem slices_Compare_intint_meets (F : Nat) : Meets Try.prog 124 (slices_Compare_intint_ent F) := by
  refine meets_of_runS mixed ttok deep (slices_Compare_intint_tabok F) Try.func124 (body_some rfl) (slices_Compare_intint_lsok1 F) fun args mem hfit ret h => ?_
  clear hfit
  simp only [slices_Compare_intint_ent] at h
  split at h
  · rename_i s10 s21
    simp only [Option.some.injEq, Prod.mk.injEq] at h
    obtain ⟨hc, rfl⟩ := h
    exact ⟨[], [], 70, _, (slices_Compare_intint_run F s10 s21).trans ((slices_Compare_intint_cp _ F s10 s21 _).trans (bind_use hc _)), rfl, rfl, rfl⟩
  · cases h

/-! (loop.example/g01194/impl.Board).order -/
noncomputable def impl_Board_order_tab (F : Nat) : Tab := [(76, (impl_Board_flat_ent F)), (124, (slices_Compare_intint_ent F))]
theorem impl_Board_order_tabok (F : Nat) : TabOK Try.prog (impl_Board_order_tab F) := (tab_cons (impl_Board_flat_meets F) impl_Board_flat_fok (tab_cons (slices_Compare_intint_meets F) slices_Compare_intint_fok tab_nil))
noncomputable def impl_Board_order_LS0 (F : Nat) : LT := []
theorem impl_Board_order_lsok0 (F : Nat) : LoopsOK Try.prog (impl_Board_order_LS0 F) (bodyOf Try.f104) := loopsOK_nil
theorem impl_Board_order_run (F : Nat) (b0 : List Int) (c1 : List Int) : runS tt (impl_Board_order_tab F) (impl_Board_order_LS0 F) [] [] Try.f104 (bodyOf Try.f104) 70 [(.ints 16 b0), (.ints 16 c1)] [] = impl_Board_order_c _ F b0 c1 (fun r => some ⟨(.int .i64 r), [], []⟩) := by kernel_rfl
def impl_Board_order_ent (F : Nat) : Ent := ⟨[], .quiet, fun args mem => match args, mem with
  | [(.ints 16 b0), (.ints 16 c1)], [] => some ((impl_Board_order_p F b0 c1).isSome, ⟨(.int .i64 ((impl_Board_order_p F b0 c1).getD default)), [], []⟩)
  | _, _ => none⟩
theorem impl_Board_order_fok : FunOK Try.prog 104 := funOK Try.func104 (by kernel_rfl) rfl
theorem impl_Board_order_meets (F : Nat) : Meets Try.prog 104 (impl_Board_order_ent F) := by
  refine meets_of_runS mixed ttok deep (impl_Board_order_tabok F) Try.func104 (body_some rfl) (impl_Board_order_lsok0 F) fun args mem hfit ret h => ?_
  clear hfit
  simp only [impl_Board_order_ent] at h
  split at h
  · rename_i b0 c1
    simp only [Option.some.injEq, Prod.mk.injEq] at h
    obtain ⟨hc, rfl⟩ := h
    exact ⟨[], [], 70, _, (impl_Board_order_run F b0 c1).trans ((impl_Board_order_cp _ F b0 c1 _).trans (bind_use hc _)), rfl, rfl, rfl⟩
  · cases h

/-! slices.SortFunc[[]loop.example/g01194/impl.Board,loop.example/g01194/impl.Board] -/
def slices_SortFunc_implBoardimplBoard_impl_Board_order_ent (F : Nat) : Ent := sortEnt 104 16 28 F
theorem slices_SortFunc_implBoardimplBoard_impl_Board_order_fok : FunOK Try.prog 103 := funOK Try.func103 (by kernel_rfl) rfl
theorem slices_SortFunc_implBoardimplBoard_impl_Board_order_meets (F : Nat) : Meets Try.prog 103 (slices_SortFunc_implBoardimplBoard_impl_Board_order_ent F) := by
  refine meets_sortK Try.sort103 16 28 F Try.isAgg28 Try.sizeOf28 104 (enters_of Try.func104 (by kernel_rfl) rfl) (impl_Board_order_ent F) (impl_Board_order_meets F) rfl fun hF x y hx hy => ?_
  simp only [impl_Board_order_ent, impl_Board_order_cmp F hF hx hy, Option.isSome_some, Option.getD_some]

/-! slices.Compact[[]loop.example/g01194/impl.Board,loop.example/g01194/impl.Board] -/
noncomputable def slices_Compact_implBoardimplBoard_tab (F : Nat) : Tab := []
theorem slices_Compact_implBoardimplBoard_tabok (F : Nat) : TabOK Try.prog (slices_Compact_implBoardimplBoard_tab F) := tab_nil
noncomputable def slices_Compact_implBoardimplBoard_LS0 (F : Nat) : LT := []
theorem slices_Compact_implBoardimplBoard_lsok0 (F : Nat) : LoopsOK Try.prog (slices_Compact_implBoardimplBoard_LS0 F) (bodyOf Try.f105) := loopsOK_nil
theorem slices_Compact_implBoardimplBoard_keys : keysOK (bodyOf Try.f105) = true := by kernel_rfl
def slices_Compact_implBoardimplBoard_st9 (s1 : Nat) (s23 : Nat) (s24 : Nat) (k2 : Int) (k25 : Int) (s6 : List (List Int)) : St := ⟨expand 61 0 [0, 3, 4, 5] [(.sl 0 0 s1), (.int .i64 k2), (.sl 0 s23 s24), (.int .i64 k25)], [(.vec 28 (.rr 16 s6))], 1, []⟩
def slices_Compact_implBoardimplBoard_o9 (s1 : Nat) (s23 : Nat) (s24 : Nat) (x : Int × List (List Int)) : GT := (.out (.exit 2 ⟨expand 61 0 [0, 3] [(.sl 0 0 s1), (.int .i64 x.1)], [(.vec 28 (.rr 16 x.2))], 1, []⟩))
def slices_Compact_implBoardimplBoard_ls9 (F : Nat) : LoopS := ⟨61, [0, 3, 4, 5], [], [0, 3], [], [2], [], [], fun vals mem np killed => match vals, mem, np, killed with
  | [(.sl 0 0 s1), (.int .i64 k2), (.sl 0 s23 s24), (.int .i64 k25)], [(.vec 28 (.rr 16 s6))], 1, [] => .br (slices_Compact_implBoardimplBoard_l9 F s1 s23 s24 k2 k25 s6).isSome (slices_Compact_implBoardimplBoard_o9 s1 s23 s24 ((slices_Compact_implBoardimplBoard_l9 F s1 s23 s24 k2 k25 s6).getD default)) .fail
  | _, _, _, _ => .fail⟩
theorem slices_Compact_implBoardimplBoard_step9 (F : Nat) (s1 : Nat) (s23 : Nat) (s24 : Nat) (k2 : Int) (k25 : Int) (s6 : List (List Int)) {R : Type} (k : Out → Option R) : stepS tt (slices_Compact_implBoardimplBoard_tab F) (slices_Compact_implBoardimplBoard_LS0 F) 70 (slices_Compact_implBoardimplBoard_ls9 F) (loopAt 9 (bodyOf Try.f105)) (slices_Compact_implBoardimplBoard_st9 s1 s23 s24 k2 k25 s6) k = slices_Compact_implBoardimplBoard_s9 F s1 s23 s24 R (k2, k25, s6) (fun s => k (.norm (slices_Compact_implBoardimplBoard_st9 s1 s23 s24 s.1 s.2.1 s.2.2))) (fun x => (slices_Compact_implBoardimplBoard_o9 s1 s23 s24 x).run k) := by kernel_rfl
theorem slices_Compact_implBoardimplBoard_iter9 (F : Nat) (s1 : Nat) (s23 : Nat) (s24 : Nat) {R : Type} (k : Out → Option R) : ∀ (n : Nat) (k2 : Int) (k25 : Int) (s6 : List (List Int)), iterS tt (slices_Compact_implBoardimplBoard_tab F) (slices_Compact_implBoardimplBoard_LS0 F) 70 (slices_Compact_implBoardimplBoard_ls9 F) (loopAt 9 (bodyOf Try.f105)) n (slices_Compact_implBoardimplBoard_st9 s1 s23 s24 k2 k25 s6) k = loopC (slices_Compact_implBoardimplBoard_s9 F s1 s23 s24) n (k2, k25, s6) (fun x => (slices_Compact_implBoardimplBoard_o9 s1 s23 s24 x).run k)
  | 0, k2, k25, s6 => rfl
  | n + 1, k2, k25, s6 => (iterS_succ tt (slices_Compact_implBoardimplBoard_tab F) (slices_Compact_implBoardimplBoard_LS0 F) 70 (slices_Compact_implBoardimplBoard_ls9 F) (loopAt 9 (bodyOf Try.f105)) n (slices_Compact_implBoardimplBoard_st9 s1 s23 s24 k2 k25 s6) k).trans ((slices_Compact_implBoardimplBoard_step9 F s1 s23 s24 k2 k25 s6 (nextK (iterS tt (slices_Compact_implBoardimplBoard_tab F) (slices_Compact_implBoardimplBoard_LS0 F) 70 (slices_Compact_implBoardimplBoard_ls9 F) (loopAt 9 (bodyOf Try.f105)) n) k)).trans (congrArg (fun kn => slices_Compact_implBoardimplBoard_s9 F s1 s23 s24 R (k2, k25, s6) kn _) (funext (fun ⟨k2, k25, s6⟩ => slices_Compact_implBoardimplBoard_iter9 F s1 s23 s24 k n k2 k25 s6))))
theorem slices_Compact_implBoardimplBoard_lok9 (F : Nat) : LoopOK Try.prog (loopAt 9 (bodyOf Try.f105)) (slices_Compact_implBoardimplBoard_ls9 F) := by
  refine loopOK_of mixed ttok deep (slices_Compact_implBoardimplBoard_tabok F) (loopsOK_at (slices_Compact_implBoardimplBoard_lsok0 F) 9) (fuel := 70) fun R vals mem np killed k x h => ?_
  simp only [slices_Compact_implBoardimplBoard_ls9] at h
  split at h
  · rename_i s1 k2 s23 s24 k25 s6
    simp only [GT.run] at h
    have hc := (cond_noneL h).1
    replace h := (cond_noneL h).2
    refine ⟨F, (slices_Compact_implBoardimplBoard_iter9 F s1 s23 s24 k F k2 k25 s6).trans ((loopC_use (slices_Compact_implBoardimplBoard_s9_nat F s1 s23 s24) hc _).trans h)⟩
  · simp only [GT.run] at h
    cases h
noncomputable def slices_Compact_implBoardimplBoard_LS1 (F : Nat) : LT := (9, slices_Compact_implBoardimplBoard_ls9 F) :: slices_Compact_implBoardimplBoard_LS0 F
theorem slices_Compact_implBoardimplBoard_lsok1 (F : Nat) : LoopsOK Try.prog (slices_Compact_implBoardimplBoard_LS1 F) (bodyOf Try.f105) := loopsOK_cons slices_Compact_implBoardimplBoard_keys (slices_Compact_implBoardimplBoard_lok9 F) (slices_Compact_implBoardimplBoard_lsok0 F)
def slices_Compact_implBoardimplBoard_st4 (s1 : Nat) (s3 : List (List Int)) (k2 : Int) : St := ⟨expand 61 0 [0, 3] [(.sl 0 0 s1), (.int .i64 k2)], [(.vec 28 (.rr 16 s3))], 1, []⟩
def slices_Compact_implBoardimplBoard_o4 (s1 : Nat) (s3 : List (List Int)) (x : Bool × Nat × List (List Int)) : GT := (.br x.1 (.out (.ret ⟨expand 61 0 [2] [(.sl 0 0 x.2.1)], [(.vec 28 (.rr 16 x.2.2))], 1, []⟩)) (.out (.exit 0 ⟨expand 61 0 [0] [(.sl 0 0 s1)], [(.vec 28 (.rr 16 s3))], 1, []⟩)))
def slices_Compact_implBoardimplBoard_ls4 (F : Nat) : LoopS := ⟨61, [0, 3], [], [0], [], [2], [], [], fun vals mem np killed => match vals, mem, np, killed with
  | [(.sl 0 0 s1), (.int .i64 k2)], [(.vec 28 (.rr 16 s3))], 1, [] => .br (slices_Compact_implBoardimplBoard_l4 F s1 s3 k2).isSome (slices_Compact_implBoardimplBoard_o4 s1 s3 ((slices_Compact_implBoardimplBoard_l4 F s1 s3 k2).getD default)) .fail
  | _, _, _, _ => .fail⟩
theorem slices_Compact_implBoardimplBoard_step4 (F : Nat) (s1 : Nat) (s3 : List (List Int)) (k2 : Int) {R : Type} (k : Out → Option R) : stepS tt (slices_Compact_implBoardimplBoard_tab F) (slices_Compact_implBoardimplBoard_LS1 F) 70 (slices_Compact_implBoardimplBoard_ls4 F) (loopAt 4 (bodyOf Try.f105)) (slices_Compact_implBoardimplBoard_st4 s1 s3 k2) k = slices_Compact_implBoardimplBoard_s4 F s1 s3 R k2 (fun s => k (.norm (slices_Compact_implBoardimplBoard_st4 s1 s3 s))) (fun x => (slices_Compact_implBoardimplBoard_o4 s1 s3 x).run k) := by kernel_rfl
theorem slices_Compact_implBoardimplBoard_iter4 (F : Nat) (s1 : Nat) (s3 : List (List Int)) {R : Type} (k : Out → Option R) : ∀ (n : Nat) (k2 : Int), iterS tt (slices_Compact_implBoardimplBoard_tab F) (slices_Compact_implBoardimplBoard_LS1 F) 70 (slices_Compact_implBoardimplBoard_ls4 F) (loopAt 4 (bodyOf Try.f105)) n (slices_Compact_implBoardimplBoard_st4 s1 s3 k2) k = loopC (slices_Compact_implBoardimplBoard_s4 F s1 s3) n k2 (fun x => (slices_Compact_implBoardimplBoard_o4 s1 s3 x).run k)
  | 0, k2 => rfl
  | n + 1, k2 => (iterS_succ tt (slices_Compact_implBoardimplBoard_tab F) (slices_Compact_implBoardimplBoard_LS1 F) 70 (slices_Compact_implBoardimplBoard_ls4 F) (loopAt 4 (bodyOf Try.f105)) n (slices_Compact_implBoardimplBoard_st4 s1 s3 k2) k).trans ((slices_Compact_implBoardimplBoard_step4 F s1 s3 k2 (nextK (iterS tt (slices_Compact_implBoardimplBoard_tab F) (slices_Compact_implBoardimplBoard_LS1 F) 70 (slices_Compact_implBoardimplBoard_ls4 F) (loopAt 4 (bodyOf Try.f105)) n) k)).trans (congrArg (fun kn => slices_Compact_implBoardimplBoard_s4 F s1 s3 R k2 kn _) (funext (fun k2 => slices_Compact_implBoardimplBoard_iter4 F s1 s3 k n k2))))
theorem slices_Compact_implBoardimplBoard_lok4 (F : Nat) : LoopOK Try.prog (loopAt 4 (bodyOf Try.f105)) (slices_Compact_implBoardimplBoard_ls4 F) := by
  refine loopOK_of mixed ttok deep (slices_Compact_implBoardimplBoard_tabok F) (loopsOK_at (slices_Compact_implBoardimplBoard_lsok1 F) 4) (fuel := 70) fun R vals mem np killed k x h => ?_
  simp only [slices_Compact_implBoardimplBoard_ls4] at h
  split at h
  · rename_i s1 k2 s3
    simp only [GT.run] at h
    have hc := (cond_noneL h).1
    replace h := (cond_noneL h).2
    refine ⟨F, (slices_Compact_implBoardimplBoard_iter4 F s1 s3 k F k2).trans ((loopC_use (slices_Compact_implBoardimplBoard_s4_nat F s1 s3) hc _).trans h)⟩
  · simp only [GT.run] at h
    cases h
noncomputable def slices_Compact_implBoardimplBoard_LS2 (F : Nat) : LT := (4, slices_Compact_implBoardimplBoard_ls4 F) :: slices_Compact_implBoardimplBoard_LS1 F
theorem slices_Compact_implBoardimplBoard_lsok2 (F : Nat) : LoopsOK Try.prog (slices_Compact_implBoardimplBoard_LS2 F) (bodyOf Try.f105) := loopsOK_cons slices_Compact_implBoardimplBoard_keys (slices_Compact_implBoardimplBoard_lok4 F) (slices_Compact_implBoardimplBoard_lsok1 F)
theorem slices_Compact_implBoardimplBoard_run (F : Nat) (s1 : Nat) (s2 : List (List Int)) : runS tt (slices_Compact_implBoardimplBoard_tab F) (slices_Compact_implBoardimplBoard_LS2 F) [] [] Try.f105 (bodyOf Try.f105) 70 [(.sl 0 0 s1)] [(.vec 28 (.rr 16 s2))] = slices_Compact_implBoardimplBoard_c _ F s1 s2 (fun r => some ⟨(.sl 0 0 r.1), [(.vec 28 (.rr 16 r.2))], []⟩) := by kernel_rfl
def slices_Compact_implBoardimplBoard_ent (F : Nat) : Ent := ⟨[true], .loud, fun args mem => match args, mem with
  | [(.sl 0 0 s1)], [(.vec 28 (.rr 16 s2))] => some ((slices_Compact_implBoardimplBoard_p F s1 s2).isSome, ⟨(.sl 0 0 ((slices_Compact_implBoardimplBoard_p F s1 s2).getD default).1), [(.vec 28 (.rr 16 ((slices_Compact_implBoardimplBoard_p F s1 s2).getD default).2))], []⟩)
  | _, _ => none⟩
theorem slices_Compact_implBoardimplBoard_fok : FunOK Try.prog 105 := funOK Try.func105 (by kernel_rfl) rfl
theorem slices_Compact_implBoardimplBoard_meets (F : Nat) : Meets Try.prog 105 (slices_Compact_implBoardimplBoard_ent F) := by
  refine meets_of_runS mixed ttok deep (slices_Compact_implBoardimplBoard_tabok F) Try.func105 (body_some rfl) (slices_Compact_implBoardimplBoard_lsok2 F) fun args mem hfit ret h => ?_
  clear hfit
  simp only [slices_Compact_implBoardimplBoard_ent] at h
  split at h
  · rename_i s1 s2
    simp only [Option.some.injEq, Prod.mk.injEq] at h
    obtain ⟨hc, rfl⟩ := h
    exact ⟨[], [], 70, _, (slices_Compact_implBoardimplBoard_run F s1 s2).trans ((slices_Compact_implBoardimplBoard_cp _ F s1 s2 _).trans (bind_use hc _)), rfl, rfl, rfl⟩
  · cases h

/-! loop.example/g01194/impl.ordered -/
noncomputable def impl_ordered_tab (F : Nat) : Tab := [(103, (slices_SortFunc_implBoardimplBoard_impl_Board_order_ent F)), (105, (slices_Compact_implBoardimplBoard_ent F))]
theorem impl_ordered_tabok (F : Nat) : TabOK Try.prog (impl_ordered_tab F) := (tab_cons (slices_SortFunc_implBoardimplBoard_impl_Board_order_meets F) slices_SortFunc_implBoardimplBoard_impl_Board_order_fok (tab_cons (slices_Compact_implBoardimplBoard_meets F) slices_Compact_implBoardimplBoard_fok tab_nil))
noncomputable def impl_ordered_LS0 (F : Nat) : LT := []
theorem impl_ordered_lsok0 (F : Nat) : LoopsOK Try.prog (impl_ordered_LS0 F) (bodyOf Try.f71) := loopsOK_nil
theorem impl_ordered_run (F : Nat) (list2 : List (List Int)) : runS tt (impl_ordered_tab F) (impl_ordered_LS0 F) [] [] Try.f71 (bodyOf Try.f71) 70 [(.sl 0 0 (List.length list2))] [(.vec 28 (.rr 16 list2))] = impl_ordered_c _ F list2 (fun r => some ⟨(.sl 0 0 r.1), [(.vec 28 (.rr 16 r.2))], []⟩) := by kernel_rfl
def impl_ordered_ent (F : Nat) : Ent := ⟨[true], .loud, fun args mem => match args, mem with
  | [(.sl 0 0 q_list1)], [(.vec 28 (.rr 16 list2))] => some (((Nat.beq q_list1 (List.length list2)) && (impl_ordered_p F list2).isSome), ⟨(.sl 0 0 ((impl_ordered_p F list2).getD default).1), [(.vec 28 (.rr 16 ((impl_ordered_p F list2).getD default).2))], []⟩)
  | _, _ => none⟩
theorem impl_ordered_fok : FunOK Try.prog 71 := funOK Try.func71 (by kernel_rfl) rfl
theorem impl_ordered_meets (F : Nat) : Meets Try.prog 71 (impl_ordered_ent F) := by
  refine meets_of_runS mixed ttok deep (impl_ordered_tabok F) Try.func71 (body_some rfl) (impl_ordered_lsok0 F) fun args mem hfit ret h => ?_
  clear hfit
  simp only [impl_ordered_ent] at h
  split at h
  · rename_i q_list1 list2
    simp only [Option.some.injEq, Prod.mk.injEq] at h
    obtain ⟨hc, rfl⟩ := h
    have hg := (and_split hc).1
    replace hc := (and_split hc).2
    obtain rfl := nbeq_nat hg
    exact ⟨[], [], 70, _, (impl_ordered_run F list2).trans ((impl_ordered_cp _ F list2 _).trans (bind_use hc _)), rfl, rfl, rfl⟩
  · cases h

/-! loop.example/g01194/impl.ReachBySlides -/
noncomputable def impl_ReachBySlides_tab (F : Nat) : Tab := [(49, (impl_IsBoard_ent F)), (65, (impl_in_ent F)), (70, (impl_Board_reach_ent F)), (71, (impl_ordered_ent F))]
theorem impl_ReachBySlides_tabok (F : Nat) : TabOK Try.prog (impl_ReachBySlides_tab F) := (tab_cons (impl_IsBoard_meets F) impl_IsBoard_fok (tab_cons (impl_in_meets F) impl_in_fok (tab_cons (impl_Board_reach_meets F) impl_Board_reach_fok (tab_cons (impl_ordered_meets F) impl_ordered_fok tab_nil))))
noncomputable def impl_ReachBySlides_LS0 (F : Nat) : LT := []
theorem impl_ReachBySlides_lsok0 (F : Nat) : LoopsOK Try.prog (impl_ReachBySlides_LS0 F) (bodyOf Try.f38) := loopsOK_nil
theorem impl_ReachBySlides_run (F : Nat) (b0 : List Int) (n1 : Int) : runS tt (impl_ReachBySlides_tab F) (impl_ReachBySlides_LS0 F) [⟨4, 28, (.rr 16 ([] : List (List Int)))⟩] [] Try.f38 (bodyOf Try.f38) 70 [(.ints 16 b0), (.int .i64 n1)] [] = impl_ReachBySlides_c _ F b0 n1 (fun r => some ⟨(.tup [(.sl 0 0 r.1), (.bool r.2.1)]), [(.vec 28 (.rr 16 r.2.2))], []⟩) := by kernel_rfl
def impl_ReachBySlides_ent (F : Nat) : Ent := ⟨[], .fresh, fun args mem => match args, mem with
  | [(.ints 16 b0), (.int .i64 n1)], [] => some ((impl_ReachBySlides_p F b0 n1).isSome, ⟨(.tup [(.sl 0 0 ((impl_ReachBySlides_p F b0 n1).getD default).1), (.bool ((impl_ReachBySlides_p F b0 n1).getD default).2.1)]), [(.vec 28 (.rr 16 ((impl_ReachBySlides_p F b0 n1).getD default).2.2))], []⟩)
  | _, _ => none⟩
theorem impl_ReachBySlides_fok : FunOK Try.prog 38 := funOK Try.func38 (by kernel_rfl) rfl
theorem impl_ReachBySlides_meets (F : Nat) : Meets Try.prog 38 (impl_ReachBySlides_ent F) := by
  refine meets_of_runS mixed ttok deep (impl_ReachBySlides_tabok F) Try.func38 (body_some rfl) (impl_ReachBySlides_lsok0 F) fun args mem hfit ret h => ?_
  clear hfit
  simp only [impl_ReachBySlides_ent] at h
  split at h
  · rename_i b0 n1
    simp only [Option.some.injEq, Prod.mk.injEq] at h
    obtain ⟨hc, rfl⟩ := h
    exact ⟨[⟨4, 28, (.rr 16 ([] : List (List Int)))⟩], [], 70, _, (impl_ReachBySlides_run F b0 n1).trans ((impl_ReachBySlides_cp _ F b0 n1 _).trans (bind_use hc _)), rfl, rfl, rfl⟩
  · cases h
end Go.Proofs.Ytgmnclpjbhmioaa
