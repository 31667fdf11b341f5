/-
Pure functions and what the code of them does, by program; without conditions.
-/
import Derived.Test.YtgdokdkcbgkekaeGeP2
import Derived.Test.YtgdokdkcbgkekaeGeS1
namespace Go.Proofs.Ytgdokdkcbgkekae
open Go Go.Lv Go.Lv.P Go.Proofs
set_option linter.unusedVariables false
set_option linter.unusedSimpArgs false
set_option maxRecDepth 100000
/-! (loop.example/g01194/impl.Board).slide -/
noncomputable def impl_Board_slide_tab (F : Nat) : Tab := [(67, (impl_Board_line_ent F)), (66, (impl_slideRow_ent F)), (68, (impl_Board_withLine_ent F))]
theorem impl_Board_slide_tabok (F : Nat) : TabOK Try.prog (impl_Board_slide_tab F) := (tab_cons (impl_Board_line_meets F) impl_Board_line_fok (tab_cons (impl_slideRow_meets F) impl_slideRow_fok (tab_cons (impl_Board_withLine_meets F) impl_Board_withLine_fok tab_nil)))
noncomputable def impl_Board_slide_LS0 (F : Nat) : LT := []
theorem impl_Board_slide_lsok0 (F : Nat) : LoopsOK Try.prog (impl_Board_slide_LS0 F) (bodyOf Try.f49) := loopsOK_nil
theorem impl_Board_slide_keys : keysOK (bodyOf Try.f49) = true := by kernel_rfl
def impl_Board_slide_st8 (direction0 : Int) (score10 : Int) (t1712 : Int) (t3713 : List Bool) (b15 : List Int) (out17 : List Int) (mergers11 : Int) (t3814 : Int) : St := ⟨expand 49 0 [1, 2, 4, 7, 8, 9, 17, 37, 38] [(.int .i64 direction0), (.ptr 0 0 0 16), (.ptr 1 0 0 16), (.ptr 2 0 0 16), (.int .i64 score10), (.int .i64 mergers11), (.int .i64 t1712), (.bools 4 t3713), (.int .i64 t3814)], [(.var 16 (.ri .i64 b15)), (.var 16 (.ri .i64 [(0 : Int), (0 : Int), (0 : Int), (0 : Int), (0 : Int), (0 : Int), (0 : Int), (0 : Int), (0 : Int), (0 : Int), (0 : Int), (0 : Int), (0 : Int), (0 : Int), (0 : Int), (0 : Int)])), (.var 16 (.ri .i64 out17))], 0, []⟩
def impl_Board_slide_o8 (direction0 : Int) (score10 : Int) (t1712 : Int) (t3713 : List Bool) (b15 : List Int) (out17 : List Int) (x : Int) : GT := (.out (.exit 2 ⟨expand 49 0 [1, 2, 4, 7, 8, 9, 17] [(.int .i64 direction0), (.ptr 0 0 0 16), (.ptr 1 0 0 16), (.ptr 2 0 0 16), (.int .i64 score10), (.int .i64 x), (.int .i64 t1712)], [(.var 16 (.ri .i64 b15)), (.var 16 (.ri .i64 [(0 : Int), (0 : Int), (0 : Int), (0 : Int), (0 : Int), (0 : Int), (0 : Int), (0 : Int), (0 : Int), (0 : Int), (0 : Int), (0 : Int), (0 : Int), (0 : Int), (0 : Int), (0 : Int)])), (.var 16 (.ri .i64 out17))], 0, []⟩))
def impl_Board_slide_ls8 (F : Nat) : LoopS := ⟨49, [1, 2, 4, 7, 8, 9, 17, 37, 38], [], [1, 2, 4, 7, 8, 9, 17], [], [4, 5, 6], [], [], fun vals mem np killed => match vals, mem, np, killed with
  | [(.int .i64 direction0), (.ptr 0 0 0 16), (.ptr 1 0 0 16), (.ptr 2 0 0 16), (.int .i64 score10), (.int .i64 mergers11), (.int .i64 t1712), (.bools 4 t3713), (.int .i64 t3814)], [(.var 16 (.ri .i64 b15)), (.var 16 (.ri .i64 q_t416)), (.var 16 (.ri .i64 out17))], 0, [] => .br ((q_t416 == ([(0 : Int), (0 : Int), (0 : Int), (0 : Int), (0 : Int), (0 : Int), (0 : Int), (0 : Int), (0 : Int), (0 : Int), (0 : Int), (0 : Int), (0 : Int), (0 : Int), (0 : Int), (0 : Int)] : List Int)) && (impl_Board_slide_l8 F direction0 score10 t1712 t3713 b15 out17 mergers11 t3814).isSome) (impl_Board_slide_o8 direction0 score10 t1712 t3713 b15 out17 ((impl_Board_slide_l8 F direction0 score10 t1712 t3713 b15 out17 mergers11 t3814).getD default)) .fail
  | _, _, _, _ => .fail⟩
theorem impl_Board_slide_step8 (F : Nat) (direction0 : Int) (score10 : Int) (t1712 : Int) (t3713 : List Bool) (b15 : List Int) (out17 : List Int) (mergers11 : Int) (t3814 : Int) {R : Type} (k : Out → Option R) : stepS tt (impl_Board_slide_tab F) (impl_Board_slide_LS0 F) 70 (impl_Board_slide_ls8 F) (loopAt 8 (bodyOf Try.f49)) (impl_Board_slide_st8 direction0 score10 t1712 t3713 b15 out17 mergers11 t3814) k = impl_Board_slide_s8 F direction0 score10 t1712 t3713 b15 out17 R (mergers11, t3814) (fun s => k (.norm (impl_Board_slide_st8 direction0 score10 t1712 t3713 b15 out17 s.1 s.2))) (fun x => (impl_Board_slide_o8 direction0 score10 t1712 t3713 b15 out17 x).run k) := by kernel_rfl
theorem impl_Board_slide_iter8 (F : Nat) (direction0 : Int) (score10 : Int) (t1712 : Int) (t3713 : List Bool) (b15 : List Int) (out17 : List Int) {R : Type} (k : Out → Option R) : ∀ (n : Nat) (mergers11 : Int) (t3814 : Int), iterS tt (impl_Board_slide_tab F) (impl_Board_slide_LS0 F) 70 (impl_Board_slide_ls8 F) (loopAt 8 (bodyOf Try.f49)) n (impl_Board_slide_st8 direction0 score10 t1712 t3713 b15 out17 mergers11 t3814) k = loopC (impl_Board_slide_s8 F direction0 score10 t1712 t3713 b15 out17) n (mergers11, t3814) (fun x => (impl_Board_slide_o8 direction0 score10 t1712 t3713 b15 out17 x).run k)
  | 0, mergers11, t3814 => rfl
  | n + 1, mergers11, t3814 => (iterS_succ tt (impl_Board_slide_tab F) (impl_Board_slide_LS0 F) 70 (impl_Board_slide_ls8 F) (loopAt 8 (bodyOf Try.f49)) n (impl_Board_slide_st8 direction0 score10 t1712 t3713 b15 out17 mergers11 t3814) k).trans ((impl_Board_slide_step8 F direction0 score10 t1712 t3713 b15 out17 mergers11 t3814 (nextK (iterS tt (impl_Board_slide_tab F) (impl_Board_slide_LS0 F) 70 (impl_Board_slide_ls8 F) (loopAt 8 (bodyOf Try.f49)) n) k)).trans (congrArg (fun kn => impl_Board_slide_s8 F direction0 score10 t1712 t3713 b15 out17 R (mergers11, t3814) kn _) (funext (fun ⟨mergers11, t3814⟩ => impl_Board_slide_iter8 F direction0 score10 t1712 t3713 b15 out17 k n mergers11 t3814))))
theorem impl_Board_slide_lok8 (F : Nat) : LoopOK Try.prog (loopAt 8 (bodyOf Try.f49)) (impl_Board_slide_ls8 F) := by
  refine loopOK_of mixed ttok deep (impl_Board_slide_tabok F) (loopsOK_at (impl_Board_slide_lsok0 F) 8) (fuel := 70) fun R vals mem np killed k x h => ?_
  simp only [impl_Board_slide_ls8] at h
  split at h
  · rename_i direction0 score10 mergers11 t1712 t3713 t3814 b15 q_t416 out17
    simp only [GT.run] at h
    have hc := (cond_noneL h).1
    replace h := (cond_noneL h).2
    have hg := (and_split hc).1
    replace hc := (and_split hc).2
    obtain rfl := beq_li hg
    refine ⟨F, (impl_Board_slide_iter8 F direction0 score10 t1712 t3713 b15 out17 k F mergers11 t3814).trans ((loopC_use (impl_Board_slide_s8_nat F direction0 score10 t1712 t3713 b15 out17) hc _).trans h)⟩
  · simp only [GT.run] at h
    cases h
noncomputable def impl_Board_slide_LS1 (F : Nat) : LT := (8, impl_Board_slide_ls8 F) :: impl_Board_slide_LS0 F
theorem impl_Board_slide_lsok1 (F : Nat) : LoopsOK Try.prog (impl_Board_slide_LS1 F) (bodyOf Try.f49) := loopsOK_cons impl_Board_slide_keys (impl_Board_slide_lok8 F) (impl_Board_slide_lsok0 F)
def impl_Board_slide_st3 (direction0 : Int) (b13 : List Int) (score10 : Int) (mergers11 : Int) (t1712 : Int) (out15 : List Int) : St := ⟨expand 49 0 [1, 2, 4, 7, 8, 9, 17] [(.int .i64 direction0), (.ptr 0 0 0 16), (.ptr 1 0 0 16), (.ptr 2 0 0 16), (.int .i64 score10), (.int .i64 mergers11), (.int .i64 t1712)], [(.var 16 (.ri .i64 b13)), (.var 16 (.ri .i64 [(0 : Int), (0 : Int), (0 : Int), (0 : Int), (0 : Int), (0 : Int), (0 : Int), (0 : Int), (0 : Int), (0 : Int), (0 : Int), (0 : Int), (0 : Int), (0 : Int), (0 : Int), (0 : Int)])), (.var 16 (.ri .i64 out15))], 0, []⟩
def impl_Board_slide_o3 (direction0 : Int) (b13 : List Int) (x : Int × Int × List Int) : GT := (.out (.exit 0 ⟨expand 49 0 [4, 7, 8, 9] [(.ptr 0 0 0 16), (.ptr 1 0 0 16), (.int .i64 x.1), (.int .i64 x.2.1)], [(.var 16 (.ri .i64 [(0 : Int), (0 : Int), (0 : Int), (0 : Int), (0 : Int), (0 : Int), (0 : Int), (0 : Int), (0 : Int), (0 : Int), (0 : Int), (0 : Int), (0 : Int), (0 : Int), (0 : Int), (0 : Int)])), (.var 16 (.ri .i64 x.2.2))], 0, []⟩))
def impl_Board_slide_ls3 (F : Nat) : LoopS := ⟨49, [1, 2, 4, 7, 8, 9, 17], [], [4, 7, 8, 9], [], [4, 5, 6], [], [], fun vals mem np killed => match vals, mem, np, killed with
  | [(.int .i64 direction0), (.ptr 0 0 0 16), (.ptr 1 0 0 16), (.ptr 2 0 0 16), (.int .i64 score10), (.int .i64 mergers11), (.int .i64 t1712)], [(.var 16 (.ri .i64 b13)), (.var 16 (.ri .i64 q_t414)), (.var 16 (.ri .i64 out15))], 0, [] => .br ((q_t414 == ([(0 : Int), (0 : Int), (0 : Int), (0 : Int), (0 : Int), (0 : Int), (0 : Int), (0 : Int), (0 : Int), (0 : Int), (0 : Int), (0 : Int), (0 : Int), (0 : Int), (0 : Int), (0 : Int)] : List Int)) && (impl_Board_slide_l3 F direction0 b13 score10 mergers11 t1712 out15).isSome) (impl_Board_slide_o3 direction0 b13 ((impl_Board_slide_l3 F direction0 b13 score10 mergers11 t1712 out15).getD default)) .fail
  | _, _, _, _ => .fail⟩
theorem impl_Board_slide_step3 (F : Nat) (direction0 : Int) (b13 : List Int) (score10 : Int) (mergers11 : Int) (t1712 : Int) (out15 : List Int) {R : Type} (k : Out → Option R) : stepS tt (impl_Board_slide_tab F) (impl_Board_slide_LS1 F) 70 (impl_Board_slide_ls3 F) (loopAt 3 (bodyOf Try.f49)) (impl_Board_slide_st3 direction0 b13 score10 mergers11 t1712 out15) k = impl_Board_slide_s3 F direction0 b13 R (score10, mergers11, t1712, out15) (fun s => k (.norm (impl_Board_slide_st3 direction0 b13 s.1 s.2.1 s.2.2.1 s.2.2.2))) (fun x => (impl_Board_slide_o3 direction0 b13 x).run k) := by kernel_rfl
theorem impl_Board_slide_iter3 (F : Nat) (direction0 : Int) (b13 : List Int) {R : Type} (k : Out → Option R) : ∀ (n : Nat) (score10 : Int) (mergers11 : Int) (t1712 : Int) (out15 : List Int), iterS tt (impl_Board_slide_tab F) (impl_Board_slide_LS1 F) 70 (impl_Board_slide_ls3 F) (loopAt 3 (bodyOf Try.f49)) n (impl_Board_slide_st3 direction0 b13 score10 mergers11 t1712 out15) k = loopC (impl_Board_slide_s3 F direction0 b13) n (score10, mergers11, t1712, out15) (fun x => (impl_Board_slide_o3 direction0 b13 x).run k)
  | 0, score10, mergers11, t1712, out15 => rfl
  | n + 1, score10, mergers11, t1712, out15 => (iterS_succ tt (impl_Board_slide_tab F) (impl_Board_slide_LS1 F) 70 (impl_Board_slide_ls3 F) (loopAt 3 (bodyOf Try.f49)) n (impl_Board_slide_st3 direction0 b13 score10 mergers11 t1712 out15) k).trans ((impl_Board_slide_step3 F direction0 b13 score10 mergers11 t1712 out15 (nextK (iterS tt (impl_Board_slide_tab F) (impl_Board_slide_LS1 F) 70 (impl_Board_slide_ls3 F) (loopAt 3 (bodyOf Try.f49)) n) k)).trans (congrArg (fun kn => impl_Board_slide_s3 F direction0 b13 R (score10, mergers11, t1712, out15) kn _) (funext (fun ⟨score10, mergers11, t1712, out15⟩ => impl_Board_slide_iter3 F direction0 b13 k n score10 mergers11 t1712 out15))))
theorem impl_Board_slide_lok3 (F : Nat) : LoopOK Try.prog (loopAt 3 (bodyOf Try.f49)) (impl_Board_slide_ls3 F) := by
  refine loopOK_of mixed ttok deep (impl_Board_slide_tabok F) (loopsOK_at (impl_Board_slide_lsok1 F) 3) (fuel := 70) fun R vals mem np killed k x h => ?_
  simp only [impl_Board_slide_ls3] at h
  split at h
  · rename_i direction0 score10 mergers11 t1712 b13 q_t414 out15
    simp only [GT.run] at h
    have hc := (cond_noneL h).1
    replace h := (cond_noneL h).2
    have hg := (and_split hc).1
    replace hc := (and_split hc).2
    obtain rfl := beq_li hg
    refine ⟨F, (impl_Board_slide_iter3 F direction0 b13 k F score10 mergers11 t1712 out15).trans ((loopC_use (impl_Board_slide_s3_nat F direction0 b13) hc _).trans h)⟩
  · simp only [GT.run] at h
    cases h
noncomputable def impl_Board_slide_LS2 (F : Nat) : LT := (3, impl_Board_slide_ls3 F) :: impl_Board_slide_LS1 F
theorem impl_Board_slide_lsok2 (F : Nat) : LoopsOK Try.prog (impl_Board_slide_LS2 F) (bodyOf Try.f49) := loopsOK_cons impl_Board_slide_keys (impl_Board_slide_lok3 F) (impl_Board_slide_lsok1 F)
theorem impl_Board_slide_run (F : Nat) (b0 : List Int) (direction1 : Int) : runS tt (impl_Board_slide_tab F) (impl_Board_slide_LS2 F) [] [] Try.f49 (bodyOf Try.f49) 70 [(.ints 16 b0), (.int .i64 direction1)] [] = impl_Board_slide_c _ F b0 direction1 (fun r => some ⟨(.tup [(.ints 16 r.1), (.int .i64 r.2.1), (.int .i64 r.2.2)]), [], []⟩) := by kernel_rfl
def impl_Board_slide_ent (F : Nat) : Ent := ⟨[], .quiet, fun args mem => match args, mem with
  | [(.ints 16 b0), (.int .i64 direction1)], [] => some ((impl_Board_slide_p F b0 direction1).isSome, ⟨(.tup [(.ints 16 ((impl_Board_slide_p F b0 direction1).getD default).1), (.int .i64 ((impl_Board_slide_p F b0 direction1).getD default).2.1), (.int .i64 ((impl_Board_slide_p F b0 direction1).getD default).2.2)]), [], []⟩)
  | _, _ => none⟩
theorem impl_Board_slide_fok : FunOK Try.prog 49 := funOK Try.func49 (by kernel_rfl) rfl
theorem impl_Board_slide_meets (F : Nat) : Meets Try.prog 49 (impl_Board_slide_ent F) := by
  refine meets_of_runS mixed ttok deep (impl_Board_slide_tabok F) Try.func49 (body_some rfl) (impl_Board_slide_lsok2 F) fun args mem hfit ret h => ?_
  clear hfit
  simp only [impl_Board_slide_ent] at h
  split at h
  · rename_i b0 direction1
    simp only [Option.some.injEq, Prod.mk.injEq] at h
    obtain ⟨hc, rfl⟩ := h
    exact ⟨[], [], 70, _, (impl_Board_slide_run F b0 direction1).trans ((impl_Board_slide_cp _ F b0 direction1 _).trans (bind_use hc _)), rfl, rfl, rfl⟩
  · cases h

/-! (loop.example/g01194/impl.Board).moves -/
noncomputable def impl_Board_moves_tab (F : Nat) : Tab := [(49, (impl_Board_slide_ent F))]
theorem impl_Board_moves_tabok (F : Nat) : TabOK Try.prog (impl_Board_moves_tab F) := (tab_cons (impl_Board_slide_meets F) impl_Board_slide_fok tab_nil)
noncomputable def impl_Board_moves_LS0 (F : Nat) : LT := []
theorem impl_Board_moves_lsok0 (F : Nat) : LoopsOK Try.prog (impl_Board_moves_LS0 F) (bodyOf Try.f26) := loopsOK_nil
theorem impl_Board_moves_keys : keysOK (bodyOf Try.f26) = true := by kernel_rfl
def impl_Board_moves_st3 (b6 : List Int) (t95 : Int) (out7 : List Int) : St := ⟨expand 28 0 [1, 3, 9] [(.ptr 0 0 0 16), (.sl 1 0 (List.length out7)), (.int .i64 t95)], [(.var 16 (.ri .i64 b6)), (.vec 3 (.ri .i64 out7))], 0, []⟩
def impl_Board_moves_o3 (b6 : List Int) (x : List Int) : GT := (.out (.exit 0 ⟨expand 28 0 [3] [(.sl 0 0 (List.length x))], [(.vec 3 (.ri .i64 x))], 0, []⟩))
def impl_Board_moves_ls3 (F : Nat) : LoopS := ⟨28, [1, 3, 9], [], [3], [], [2], [], [], fun vals mem np killed => match vals, mem, np, killed with
  | [(.ptr 0 0 0 16), (.sl 1 0 q_out4), (.int .i64 t95)], [(.var 16 (.ri .i64 b6)), (.vec 3 (.ri .i64 out7))], 0, [] => .br ((Nat.beq q_out4 (List.length out7)) && (impl_Board_moves_l3 F b6 t95 out7).isSome) (impl_Board_moves_o3 b6 ((impl_Board_moves_l3 F b6 t95 out7).getD default)) .fail
  | _, _, _, _ => .fail⟩
theorem impl_Board_moves_step3 (F : Nat) (b6 : List Int) (t95 : Int) (out7 : List Int) {R : Type} (k : Out → Option R) : stepS tt (impl_Board_moves_tab F) (impl_Board_moves_LS0 F) 70 (impl_Board_moves_ls3 F) (loopAt 3 (bodyOf Try.f26)) (impl_Board_moves_st3 b6 t95 out7) k = impl_Board_moves_s3 F b6 R (t95, out7) (fun s => k (.norm (impl_Board_moves_st3 b6 s.1 s.2))) (fun x => (impl_Board_moves_o3 b6 x).run k) := by kernel_rfl
theorem impl_Board_moves_iter3 (F : Nat) (b6 : List Int) {R : Type} (k : Out → Option R) : ∀ (n : Nat) (t95 : Int) (out7 : List Int), iterS tt (impl_Board_moves_tab F) (impl_Board_moves_LS0 F) 70 (impl_Board_moves_ls3 F) (loopAt 3 (bodyOf Try.f26)) n (impl_Board_moves_st3 b6 t95 out7) k = loopC (impl_Board_moves_s3 F b6) n (t95, out7) (fun x => (impl_Board_moves_o3 b6 x).run k)
  | 0, t95, out7 => rfl
  | n + 1, t95, out7 => (iterS_succ tt (impl_Board_moves_tab F) (impl_Board_moves_LS0 F) 70 (impl_Board_moves_ls3 F) (loopAt 3 (bodyOf Try.f26)) n (impl_Board_moves_st3 b6 t95 out7) k).trans ((impl_Board_moves_step3 F b6 t95 out7 (nextK (iterS tt (impl_Board_moves_tab F) (impl_Board_moves_LS0 F) 70 (impl_Board_moves_ls3 F) (loopAt 3 (bodyOf Try.f26)) n) k)).trans (congrArg (fun kn => impl_Board_moves_s3 F b6 R (t95, out7) kn _) (funext (fun ⟨t95, out7⟩ => impl_Board_moves_iter3 F b6 k n t95 out7))))
theorem impl_Board_moves_lok3 (F : Nat) : LoopOK Try.prog (loopAt 3 (bodyOf Try.f26)) (impl_Board_moves_ls3 F) := by
  refine loopOK_of mixed ttok deep (impl_Board_moves_tabok F) (loopsOK_at (impl_Board_moves_lsok0 F) 3) (fuel := 70) fun R vals mem np killed k x h => ?_
  simp only [impl_Board_moves_ls3] at h
  split at h
  · rename_i q_out4 t95 b6 out7
    simp only [GT.run] at h
    have hc := (cond_noneL h).1
    replace h := (cond_noneL h).2
    have hg := (and_split hc).1
    replace hc := (and_split hc).2
    obtain rfl := nbeq_nat hg
    refine ⟨F, (impl_Board_moves_iter3 F b6 k F t95 out7).trans ((loopC_use (impl_Board_moves_s3_nat F b6) hc _).trans h)⟩
  · simp only [GT.run] at h
    cases h
noncomputable def impl_Board_moves_LS1 (F : Nat) : LT := (3, impl_Board_moves_ls3 F) :: impl_Board_moves_LS0 F
theorem impl_Board_moves_lsok1 (F : Nat) : LoopsOK Try.prog (impl_Board_moves_LS1 F) (bodyOf Try.f26) := loopsOK_cons impl_Board_moves_keys (impl_Board_moves_lok3 F) (impl_Board_moves_lsok0 F)
theorem impl_Board_moves_run (F : Nat) (b0 : List Int) : runS tt (impl_Board_moves_tab F) (impl_Board_moves_LS1 F) [] [] Try.f26 (bodyOf Try.f26) 70 [(.ints 16 b0)] [] = impl_Board_moves_c _ F b0 (fun r => some ⟨(.sl 0 0 (List.length r)), [(.vec 3 (.ri .i64 r))], []⟩) := by kernel_rfl
def impl_Board_moves_ent (F : Nat) : Ent := ⟨[], .fresh, fun args mem => match args, mem with
  | [(.ints 16 b0)], [] => some ((impl_Board_moves_p F b0).isSome, ⟨(.sl 0 0 (List.length ((impl_Board_moves_p F b0).getD default))), [(.vec 3 (.ri .i64 ((impl_Board_moves_p F b0).getD default)))], []⟩)
  | _, _ => none⟩
theorem impl_Board_moves_fok : FunOK Try.prog 26 := funOK Try.func26 (by kernel_rfl) rfl
theorem impl_Board_moves_meets (F : Nat) : Meets Try.prog 26 (impl_Board_moves_ent F) := by
  refine meets_of_runS mixed ttok deep (impl_Board_moves_tabok F) Try.func26 (body_some rfl) (impl_Board_moves_lsok1 F) fun args mem hfit ret h => ?_
  clear hfit
  simp only [impl_Board_moves_ent] at h
  split at h
  · rename_i b0
    simp only [Option.some.injEq, Prod.mk.injEq] at h
    obtain ⟨hc, rfl⟩ := h
    exact ⟨[], [], 70, _, (impl_Board_moves_run F b0).trans ((impl_Board_moves_cp _ F b0 _).trans (bind_use hc _)), rfl, rfl, rfl⟩
  · cases h

/-! (loop.example/g01194/impl.Board).sureOf -/
noncomputable def impl_Board_sureOf_n1_tab (F : Nat) : Tab := [(49, (impl_Board_slide_ent F))]
theorem impl_Board_sureOf_n1_tabok (F : Nat) : TabOK Try.prog (impl_Board_sureOf_n1_tab F) := (tab_cons (impl_Board_slide_meets F) impl_Board_slide_fok tab_nil)
noncomputable def impl_Board_sureOf_n1_LS0 (F : Nat) : LT := []
theorem impl_Board_sureOf_n1_lsok0 (F : Nat) : LoopsOK Try.prog (impl_Board_sureOf_n1_LS0 F) (bodyOf Try.f27) := loopsOK_nil
theorem impl_Board_sureOf_n1_run (F : Nat) (b0 : List Int) (direction1 : Int) : runS tt (impl_Board_sureOf_n1_tab F) (impl_Board_sureOf_n1_LS0 F) [] [] Try.f27 (bodyOf Try.f27) 70 [(.ints 16 b0), (.int .i64 direction1), (.int .i64 (1 : Int))] [] = impl_Board_sureOf_n1_c _ F b0 direction1 (fun r => some ⟨(.int .i64 r), [], []⟩) := by kernel_rfl
def impl_Board_sureOf_n1_ent (F : Nat) : Ent := ⟨[], .quiet, fun args mem => match args, mem with
  | [(.ints 16 b0), (.int .i64 direction1), (.int .i64 q_n2)], [] => bif (q_n2 == (1 : Int)) then some ((impl_Board_sureOf_n1_p F b0 direction1).isSome, ⟨(.int .i64 ((impl_Board_sureOf_n1_p F b0 direction1).getD default)), [], []⟩) else none
  | _, _ => none⟩
theorem impl_Board_sureOf_n1_fok : FunOK Try.prog 27 := funOK Try.func27 (by kernel_rfl) rfl
theorem impl_Board_sureOf_n1_meets (F : Nat) : Meets Try.prog 27 (impl_Board_sureOf_n1_ent F) := by
  refine meets_of_runS mixed ttok deep (impl_Board_sureOf_n1_tabok F) Try.func27 (body_some rfl) (impl_Board_sureOf_n1_lsok0 F) fun args mem hfit ret h => ?_
  clear hfit
  simp only [impl_Board_sureOf_n1_ent] at h
  split at h
  · rename_i b0 direction1 q_n2
    have hg0 := (cond_noneL h).1
    replace h := (cond_noneL h).2
    obtain rfl := beq_int hg0
    simp only [Option.some.injEq, Prod.mk.injEq] at h
    obtain ⟨hc, rfl⟩ := h
    exact ⟨[], [], 70, _, (impl_Board_sureOf_n1_run F b0 direction1).trans ((impl_Board_sureOf_n1_cp _ F b0 direction1 _).trans (bind_use hc _)), rfl, rfl, rfl⟩
  · cases h

/-! (loop.example/g01194/impl.Board).sure -/
noncomputable def impl_Board_sure_n1_tab (F : Nat) : Tab := [(26, (impl_Board_moves_ent F)), (27, (impl_Board_sureOf_n1_ent F))]
theorem impl_Board_sure_n1_tabok (F : Nat) : TabOK Try.prog (impl_Board_sure_n1_tab F) := (tab_cons (impl_Board_moves_meets F) impl_Board_moves_fok (tab_cons (impl_Board_sureOf_n1_meets F) impl_Board_sureOf_n1_fok tab_nil))
noncomputable def impl_Board_sure_n1_LS0 (F : Nat) : LT := []
theorem impl_Board_sure_n1_lsok0 (F : Nat) : LoopsOK Try.prog (impl_Board_sure_n1_LS0 F) (bodyOf Try.f22) := loopsOK_nil
theorem impl_Board_sure_n1_keys : keysOK (bodyOf Try.f22) = true := by kernel_rfl
def impl_Board_sure_n1_st4 (t127 : Int) (b9 : List Int) (t1110 : List Int) (most4 : Int) (t138 : Int) : St := ⟨expand 25 0 [1, 2, 5, 11, 12, 13] [(.int .i64 (1 : Int)), (.ptr 0 0 0 16), (.int .i64 most4), (.sl 1 0 (List.length t1110)), (.int .i64 t127), (.int .i64 t138)], [(.var 16 (.ri .i64 b9)), (.vec 3 (.ri .i64 t1110))], 0, []⟩
def impl_Board_sure_n1_o4 (t127 : Int) (b9 : List Int) (t1110 : List Int) (x : Int) : GT := (.out (.exit 0 ⟨expand 25 0 [5] [(.int .i64 x)], [], 0, []⟩))
def impl_Board_sure_n1_ls4 (F : Nat) : LoopS := ⟨25, [1, 2, 5, 11, 12, 13], [], [5], [], [4], [], [], fun vals mem np killed => match vals, mem, np, killed with
  | [(.int .i64 q_n0), (.ptr 0 0 0 16), (.int .i64 most4), (.sl 1 0 q_t116), (.int .i64 t127), (.int .i64 t138)], [(.var 16 (.ri .i64 b9)), (.vec 3 (.ri .i64 t1110))], 0, [] => .br ((q_n0 == (1 : Int)) && ((Nat.beq q_t116 (List.length t1110)) && (impl_Board_sure_n1_l4 F t127 b9 t1110 most4 t138).isSome)) (impl_Board_sure_n1_o4 t127 b9 t1110 ((impl_Board_sure_n1_l4 F t127 b9 t1110 most4 t138).getD default)) .fail
  | _, _, _, _ => .fail⟩
theorem impl_Board_sure_n1_step4 (F : Nat) (t127 : Int) (b9 : List Int) (t1110 : List Int) (most4 : Int) (t138 : Int) {R : Type} (k : Out → Option R) : stepS tt (impl_Board_sure_n1_tab F) (impl_Board_sure_n1_LS0 F) 70 (impl_Board_sure_n1_ls4 F) (loopAt 4 (bodyOf Try.f22)) (impl_Board_sure_n1_st4 t127 b9 t1110 most4 t138) k = impl_Board_sure_n1_s4 F t127 b9 t1110 R (most4, t138) (fun s => k (.norm (impl_Board_sure_n1_st4 t127 b9 t1110 s.1 s.2))) (fun x => (impl_Board_sure_n1_o4 t127 b9 t1110 x).run k) := by kernel_rfl
theorem impl_Board_sure_n1_iter4 (F : Nat) (t127 : Int) (b9 : List Int) (t1110 : List Int) {R : Type} (k : Out → Option R) : ∀ (n : Nat) (most4 : Int) (t138 : Int), iterS tt (impl_Board_sure_n1_tab F) (impl_Board_sure_n1_LS0 F) 70 (impl_Board_sure_n1_ls4 F) (loopAt 4 (bodyOf Try.f22)) n (impl_Board_sure_n1_st4 t127 b9 t1110 most4 t138) k = loopC (impl_Board_sure_n1_s4 F t127 b9 t1110) n (most4, t138) (fun x => (impl_Board_sure_n1_o4 t127 b9 t1110 x).run k)
  | 0, most4, t138 => rfl
  | n + 1, most4, t138 => (iterS_succ tt (impl_Board_sure_n1_tab F) (impl_Board_sure_n1_LS0 F) 70 (impl_Board_sure_n1_ls4 F) (loopAt 4 (bodyOf Try.f22)) n (impl_Board_sure_n1_st4 t127 b9 t1110 most4 t138) k).trans ((impl_Board_sure_n1_step4 F t127 b9 t1110 most4 t138 (nextK (iterS tt (impl_Board_sure_n1_tab F) (impl_Board_sure_n1_LS0 F) 70 (impl_Board_sure_n1_ls4 F) (loopAt 4 (bodyOf Try.f22)) n) k)).trans (congrArg (fun kn => impl_Board_sure_n1_s4 F t127 b9 t1110 R (most4, t138) kn _) (funext (fun ⟨most4, t138⟩ => impl_Board_sure_n1_iter4 F t127 b9 t1110 k n most4 t138))))
theorem impl_Board_sure_n1_lok4 (F : Nat) : LoopOK Try.prog (loopAt 4 (bodyOf Try.f22)) (impl_Board_sure_n1_ls4 F) := by
  refine loopOK_of mixed ttok deep (impl_Board_sure_n1_tabok F) (loopsOK_at (impl_Board_sure_n1_lsok0 F) 4) (fuel := 70) fun R vals mem np killed k x h => ?_
  simp only [impl_Board_sure_n1_ls4] at h
  split at h
  · rename_i q_n0 most4 q_t116 t127 t138 b9 t1110
    simp only [GT.run] at h
    have hc := (cond_noneL h).1
    replace h := (cond_noneL h).2
    have hg := (and_split hc).1
    replace hc := (and_split hc).2
    obtain rfl := beq_int hg
    have hg := (and_split hc).1
    replace hc := (and_split hc).2
    obtain rfl := nbeq_nat hg
    refine ⟨F, (impl_Board_sure_n1_iter4 F t127 b9 t1110 k F most4 t138).trans ((loopC_use (impl_Board_sure_n1_s4_nat F t127 b9 t1110) hc _).trans h)⟩
  · simp only [GT.run] at h
    cases h
noncomputable def impl_Board_sure_n1_LS1 (F : Nat) : LT := (4, impl_Board_sure_n1_ls4 F) :: impl_Board_sure_n1_LS0 F
theorem impl_Board_sure_n1_lsok1 (F : Nat) : LoopsOK Try.prog (impl_Board_sure_n1_LS1 F) (bodyOf Try.f22) := loopsOK_cons impl_Board_sure_n1_keys (impl_Board_sure_n1_lok4 F) (impl_Board_sure_n1_lsok0 F)
theorem impl_Board_sure_n1_run (F : Nat) (b0 : List Int) : runS tt (impl_Board_sure_n1_tab F) (impl_Board_sure_n1_LS1 F) [] [] Try.f22 (bodyOf Try.f22) 70 [(.ints 16 b0), (.int .i64 (1 : Int))] [] = impl_Board_sure_n1_c _ F b0 (fun r => some ⟨(.int .i64 r), [], []⟩) := by kernel_rfl
def impl_Board_sure_n1_ent (F : Nat) : Ent := ⟨[], .quiet, fun args mem => match args, mem with
  | [(.ints 16 b0), (.int .i64 q_n1)], [] => bif (q_n1 == (1 : Int)) then some ((impl_Board_sure_n1_p F b0).isSome, ⟨(.int .i64 ((impl_Board_sure_n1_p F b0).getD default)), [], []⟩) else none
  | _, _ => none⟩
theorem impl_Board_sure_n1_fok : FunOK Try.prog 22 := funOK Try.func22 (by kernel_rfl) rfl
theorem impl_Board_sure_n1_meets (F : Nat) : Meets Try.prog 22 (impl_Board_sure_n1_ent F) := by
  refine meets_of_runS mixed ttok deep (impl_Board_sure_n1_tabok F) Try.func22 (body_some rfl) (impl_Board_sure_n1_lsok1 F) fun args mem hfit ret h => ?_
  clear hfit
  simp only [impl_Board_sure_n1_ent] at h
  split at h
  · rename_i b0 q_n1
    have hg0 := (cond_noneL h).1
    replace h := (cond_noneL h).2
    obtain rfl := beq_int hg0
    simp only [Option.some.injEq, Prod.mk.injEq] at h
    obtain ⟨hc, rfl⟩ := h
    exact ⟨[], [], 70, _, (impl_Board_sure_n1_run F b0).trans ((impl_Board_sure_n1_cp _ F b0 _).trans (bind_use hc _)), rfl, rfl, rfl⟩
  · cases h

/-! loop.example/g01194/impl.cells -/
noncomputable def impl_cells_tab (F : Nat) : Tab := []
theorem impl_cells_tabok (F : Nat) : TabOK Try.prog (impl_cells_tab F) := tab_nil
noncomputable def impl_cells_LS0 (F : Nat) : LT := []
theorem impl_cells_lsok0 (F : Nat) : LoopsOK Try.prog (impl_cells_LS0 F) (bodyOf Try.f75) := loopsOK_nil
theorem impl_cells_run (F : Nat) : runS tt (impl_cells_tab F) (impl_cells_LS0 F) [] [] Try.f75 (bodyOf Try.f75) 70 [] [] = impl_cells_c _ (fun r => some ⟨(.sl 0 0 16), [(.vec 70 (.rr 2 [[(0 : Int), (0 : Int)], [(0 : Int), (1 : Int)], [(0 : Int), (2 : Int)], [(0 : Int), (3 : Int)], [(1 : Int), (0 : Int)], [(1 : Int), (1 : Int)], [(1 : Int), (2 : Int)], [(1 : Int), (3 : Int)], [(2 : Int), (0 : Int)], [(2 : Int), (1 : Int)], [(2 : Int), (2 : Int)], [(2 : Int), (3 : Int)], [(3 : Int), (0 : Int)], [(3 : Int), (1 : Int)], [(3 : Int), (2 : Int)], [(3 : Int), (3 : Int)]]))], []⟩) := by kernel_rfl
def impl_cells_ent (F : Nat) : Ent := ⟨[], .fresh, fun args mem => match args, mem with
  | [], [] => some (true, ⟨(.sl 0 0 16), [(.vec 70 (.rr 2 [[(0 : Int), (0 : Int)], [(0 : Int), (1 : Int)], [(0 : Int), (2 : Int)], [(0 : Int), (3 : Int)], [(1 : Int), (0 : Int)], [(1 : Int), (1 : Int)], [(1 : Int), (2 : Int)], [(1 : Int), (3 : Int)], [(2 : Int), (0 : Int)], [(2 : Int), (1 : Int)], [(2 : Int), (2 : Int)], [(2 : Int), (3 : Int)], [(3 : Int), (0 : Int)], [(3 : Int), (1 : Int)], [(3 : Int), (2 : Int)], [(3 : Int), (3 : Int)]]))], []⟩)
  | _, _ => none⟩
theorem impl_cells_fok : FunOK Try.prog 75 := funOK Try.func75 (by kernel_rfl) rfl
theorem impl_cells_meets (F : Nat) : Meets Try.prog 75 (impl_cells_ent F) := by
  refine meets_of_runS mixed ttok deep (impl_cells_tabok F) Try.func75 (body_some rfl) (impl_cells_lsok0 F) fun args mem hfit ret h => ?_
  clear hfit
  simp only [impl_cells_ent] at h
  split at h
  · simp only [Option.some.injEq, Prod.mk.injEq] at h
    obtain ⟨hc, rfl⟩ := h
    exact ⟨[], [], 70, _, (impl_cells_run F).trans (impl_cells_cv _ _), rfl, rfl, rfl⟩
  · cases h

/-! (loop.example/g01194/impl.Board).empty$1 -/
noncomputable def impl_Board_empty_f1_tab (F : Nat) : Tab := [(63, (impl_Board_at_ent F))]
theorem impl_Board_empty_f1_tabok (F : Nat) : TabOK Try.prog (impl_Board_empty_f1_tab F) := (tab_cons (impl_Board_at_meets F) impl_Board_at_fok tab_nil)
noncomputable def impl_Board_empty_f1_LS0 (F : Nat) : LT := []
theorem impl_Board_empty_f1_lsok0 (F : Nat) : LoopsOK Try.prog (impl_Board_empty_f1_LS0 F) (bodyOf Try.f76) := loopsOK_nil
theorem impl_Board_empty_f1_run (F : Nat) (cell0 : List Int) (a14 : List Int) : runS tt (impl_Board_empty_f1_tab F) (impl_Board_empty_f1_LS0 F) [] [] Try.f76 (bodyOf Try.f76) 70 [(.ints 2 cell0), (.ptr 0 0 0 16)] [(.var 16 (.ri .i64 a14))] = impl_Board_empty_f1_c _ cell0 a14 (fun r => some ⟨(.bool r), [(.var 16 (.ri .i64 a14))], []⟩) := by kernel_rfl
def impl_Board_empty_f1_ent (F : Nat) : Ent := ⟨[], .quiet, fun args mem => match args, mem with
  | [(.ints 2 cell0), (.ptr 0 0 0 16)], [(.var 16 (.ri .i64 a14))] => some ((impl_Board_empty_f1_p cell0 a14).isSome, ⟨(.bool ((impl_Board_empty_f1_p cell0 a14).getD default)), [], []⟩)
  | _, _ => none⟩
theorem impl_Board_empty_f1_fok : FunOK Try.prog 76 := funOK Try.func76 (by kernel_rfl) rfl
theorem impl_Board_empty_f1_meets (F : Nat) : Meets Try.prog 76 (impl_Board_empty_f1_ent F) := by
  refine meets_of_runS mixed ttok deep (impl_Board_empty_f1_tabok F) Try.func76 (body_some rfl) (impl_Board_empty_f1_lsok0 F) fun args mem hfit ret h => ?_
  clear hfit
  simp only [impl_Board_empty_f1_ent] at h
  split at h
  · rename_i cell0 a14
    simp only [Option.some.injEq, Prod.mk.injEq] at h
    obtain ⟨hc, rfl⟩ := h
    exact ⟨[], [], 70, _, (impl_Board_empty_f1_run F cell0 a14).trans ((impl_Board_empty_f1_cp _ cell0 a14 _).trans (bind_use hc _)), rfl, rfl, rfl⟩
  · cases h

/-! slices.IndexFunc[[][2]int,[2]int] -/
noncomputable def slices_IndexFunc_2int2int_impl_Board_empty_f1_tab (F : Nat) : Tab := [(76, (impl_Board_empty_f1_ent F))]
theorem slices_IndexFunc_2int2int_impl_Board_empty_f1_tabok (F : Nat) : TabOK Try.prog (slices_IndexFunc_2int2int_impl_Board_empty_f1_tab F) := (tab_cons (impl_Board_empty_f1_meets F) impl_Board_empty_f1_fok tab_nil)
noncomputable def slices_IndexFunc_2int2int_impl_Board_empty_f1_LS0 (F : Nat) : LT := []
theorem slices_IndexFunc_2int2int_impl_Board_empty_f1_lsok0 (F : Nat) : LoopsOK Try.prog (slices_IndexFunc_2int2int_impl_Board_empty_f1_LS0 F) (bodyOf Try.f81) := loopsOK_nil
theorem slices_IndexFunc_2int2int_impl_Board_empty_f1_keys : keysOK (bodyOf Try.f81) = true := by kernel_rfl
def slices_IndexFunc_2int2int_impl_Board_empty_f1_st2 (s0 : List (List Int)) (t74 : Int) (f6 : List Int) (t85 : Int) : St := ⟨expand 19 0 [0, 1, 7, 8] [(.rr 2 s0), (.fn 76 [] [(.ptr 0 0 0 16)]), (.int .i64 t74), (.int .i64 t85)], [(.var 16 (.ri .i64 f6))], 1, []⟩
def slices_IndexFunc_2int2int_impl_Board_empty_f1_o2 (s0 : List (List Int)) (t74 : Int) (f6 : List Int) (x : Bool × Int) : GT := (.br x.1 (.out (.ret ⟨expand 19 0 [4] [(.int .i64 x.2)], [(.var 16 (.ri .i64 f6))], 1, []⟩)) (.out (.exit 0 ⟨expand 19 0 [] [], [(.var 16 (.ri .i64 f6))], 1, []⟩)))
def slices_IndexFunc_2int2int_impl_Board_empty_f1_ls2 (F : Nat) : LoopS := ⟨19, [0, 1, 7, 8], [], [], [], [4], [], [], fun vals mem np killed => match vals, mem, np, killed with
  | [(.rr 2 s0), (.fn 76 [] [(.ptr 0 0 0 16)]), (.int .i64 t74), (.int .i64 t85)], [(.var 16 (.ri .i64 f6))], 1, [] => .br (slices_IndexFunc_2int2int_impl_Board_empty_f1_l2 F s0 t74 f6 t85).isSome (slices_IndexFunc_2int2int_impl_Board_empty_f1_o2 s0 t74 f6 ((slices_IndexFunc_2int2int_impl_Board_empty_f1_l2 F s0 t74 f6 t85).getD default)) .fail
  | _, _, _, _ => .fail⟩
theorem slices_IndexFunc_2int2int_impl_Board_empty_f1_step2 (F : Nat) (s0 : List (List Int)) (t74 : Int) (f6 : List Int) (t85 : Int) {R : Type} (k : Out → Option R) : stepS tt (slices_IndexFunc_2int2int_impl_Board_empty_f1_tab F) (slices_IndexFunc_2int2int_impl_Board_empty_f1_LS0 F) 70 (slices_IndexFunc_2int2int_impl_Board_empty_f1_ls2 F) (loopAt 2 (bodyOf Try.f81)) (slices_IndexFunc_2int2int_impl_Board_empty_f1_st2 s0 t74 f6 t85) k = slices_IndexFunc_2int2int_impl_Board_empty_f1_s2 F s0 t74 f6 R t85 (fun s => k (.norm (slices_IndexFunc_2int2int_impl_Board_empty_f1_st2 s0 t74 f6 s))) (fun x => (slices_IndexFunc_2int2int_impl_Board_empty_f1_o2 s0 t74 f6 x).run k) := by kernel_rfl
theorem slices_IndexFunc_2int2int_impl_Board_empty_f1_iter2 (F : Nat) (s0 : List (List Int)) (t74 : Int) (f6 : List Int) {R : Type} (k : Out → Option R) : ∀ (n : Nat) (t85 : Int), iterS tt (slices_IndexFunc_2int2int_impl_Board_empty_f1_tab F) (slices_IndexFunc_2int2int_impl_Board_empty_f1_LS0 F) 70 (slices_IndexFunc_2int2int_impl_Board_empty_f1_ls2 F) (loopAt 2 (bodyOf Try.f81)) n (slices_IndexFunc_2int2int_impl_Board_empty_f1_st2 s0 t74 f6 t85) k = loopC (slices_IndexFunc_2int2int_impl_Board_empty_f1_s2 F s0 t74 f6) n t85 (fun x => (slices_IndexFunc_2int2int_impl_Board_empty_f1_o2 s0 t74 f6 x).run k)
  | 0, t85 => rfl
  | n + 1, t85 => (iterS_succ tt (slices_IndexFunc_2int2int_impl_Board_empty_f1_tab F) (slices_IndexFunc_2int2int_impl_Board_empty_f1_LS0 F) 70 (slices_IndexFunc_2int2int_impl_Board_empty_f1_ls2 F) (loopAt 2 (bodyOf Try.f81)) n (slices_IndexFunc_2int2int_impl_Board_empty_f1_st2 s0 t74 f6 t85) k).trans ((slices_IndexFunc_2int2int_impl_Board_empty_f1_step2 F s0 t74 f6 t85 (nextK (iterS tt (slices_IndexFunc_2int2int_impl_Board_empty_f1_tab F) (slices_IndexFunc_2int2int_impl_Board_empty_f1_LS0 F) 70 (slices_IndexFunc_2int2int_impl_Board_empty_f1_ls2 F) (loopAt 2 (bodyOf Try.f81)) n) k)).trans (congrArg (fun kn => slices_IndexFunc_2int2int_impl_Board_empty_f1_s2 F s0 t74 f6 R t85 kn _) (funext (fun t85 => slices_IndexFunc_2int2int_impl_Board_empty_f1_iter2 F s0 t74 f6 k n t85))))
theorem slices_IndexFunc_2int2int_impl_Board_empty_f1_lok2 (F : Nat) : LoopOK Try.prog (loopAt 2 (bodyOf Try.f81)) (slices_IndexFunc_2int2int_impl_Board_empty_f1_ls2 F) := by
  refine loopOK_of mixed ttok deep (slices_IndexFunc_2int2int_impl_Board_empty_f1_tabok F) (loopsOK_at (slices_IndexFunc_2int2int_impl_Board_empty_f1_lsok0 F) 2) (fuel := 70) fun R vals mem np killed k x h => ?_
  simp only [slices_IndexFunc_2int2int_impl_Board_empty_f1_ls2] at h
  split at h
  · rename_i s0 t74 t85 f6
    simp only [GT.run] at h
    have hc := (cond_noneL h).1
    replace h := (cond_noneL h).2
    refine ⟨F, (slices_IndexFunc_2int2int_impl_Board_empty_f1_iter2 F s0 t74 f6 k F t85).trans ((loopC_use (slices_IndexFunc_2int2int_impl_Board_empty_f1_s2_nat F s0 t74 f6) hc _).trans h)⟩
  · simp only [GT.run] at h
    cases h
noncomputable def slices_IndexFunc_2int2int_impl_Board_empty_f1_LS1 (F : Nat) : LT := (2, slices_IndexFunc_2int2int_impl_Board_empty_f1_ls2 F) :: slices_IndexFunc_2int2int_impl_Board_empty_f1_LS0 F
theorem slices_IndexFunc_2int2int_impl_Board_empty_f1_lsok1 (F : Nat) : LoopsOK Try.prog (slices_IndexFunc_2int2int_impl_Board_empty_f1_LS1 F) (bodyOf Try.f81) := loopsOK_cons slices_IndexFunc_2int2int_impl_Board_empty_f1_keys (slices_IndexFunc_2int2int_impl_Board_empty_f1_lok2 F) (slices_IndexFunc_2int2int_impl_Board_empty_f1_lsok0 F)
theorem slices_IndexFunc_2int2int_impl_Board_empty_f1_run (F : Nat) (s0 : List (List Int)) (f4 : List Int) : runS tt (slices_IndexFunc_2int2int_impl_Board_empty_f1_tab F) (slices_IndexFunc_2int2int_impl_Board_empty_f1_LS1 F) [] [] Try.f81 (bodyOf Try.f81) 70 [(.rr 2 s0), (.fn 76 [] [(.ptr 0 0 0 16)])] [(.var 16 (.ri .i64 f4))] = slices_IndexFunc_2int2int_impl_Board_empty_f1_c _ F s0 f4 (fun r => some ⟨(.int .i64 r), [(.var 16 (.ri .i64 f4))], []⟩) := by kernel_rfl
def slices_IndexFunc_2int2int_impl_Board_empty_f1_ent (F : Nat) : Ent := ⟨[], .quiet, fun args mem => match args, mem with
  | [(.rr 2 s0), (.fn 76 [] [(.ptr 0 0 0 16)])], [(.var 16 (.ri .i64 f4))] => some ((slices_IndexFunc_2int2int_impl_Board_empty_f1_p F s0 f4).isSome, ⟨(.int .i64 ((slices_IndexFunc_2int2int_impl_Board_empty_f1_p F s0 f4).getD default)), [], []⟩)
  | _, _ => none⟩
theorem slices_IndexFunc_2int2int_impl_Board_empty_f1_fok : FunOK Try.prog 81 := funOK Try.func81 (by kernel_rfl) rfl
theorem slices_IndexFunc_2int2int_impl_Board_empty_f1_meets (F : Nat) : Meets Try.prog 81 (slices_IndexFunc_2int2int_impl_Board_empty_f1_ent F) := by
  refine meets_of_runS mixed ttok deep (slices_IndexFunc_2int2int_impl_Board_empty_f1_tabok F) Try.func81 (body_some rfl) (slices_IndexFunc_2int2int_impl_Board_empty_f1_lsok1 F) fun args mem hfit ret h => ?_
  clear hfit
  simp only [slices_IndexFunc_2int2int_impl_Board_empty_f1_ent] at h
  split at h
  · rename_i s0 f4
    simp only [Option.some.injEq, Prod.mk.injEq] at h
    obtain ⟨hc, rfl⟩ := h
    exact ⟨[], [], 70, _, (slices_IndexFunc_2int2int_impl_Board_empty_f1_run F s0 f4).trans ((slices_IndexFunc_2int2int_impl_Board_empty_f1_cp _ F s0 f4 _).trans (bind_use hc _)), rfl, rfl, rfl⟩
  · cases h

/-! slices.DeleteFunc[[][2]int,[2]int] -/
noncomputable def slices_DeleteFunc_2int2int_impl_Board_empty_f1_tab (F : Nat) : Tab := [(81, (slices_IndexFunc_2int2int_impl_Board_empty_f1_ent F)), (76, (impl_Board_empty_f1_ent F))]
theorem slices_DeleteFunc_2int2int_impl_Board_empty_f1_tabok (F : Nat) : TabOK Try.prog (slices_DeleteFunc_2int2int_impl_Board_empty_f1_tab F) := (tab_cons (slices_IndexFunc_2int2int_impl_Board_empty_f1_meets F) slices_IndexFunc_2int2int_impl_Board_empty_f1_fok (tab_cons (impl_Board_empty_f1_meets F) impl_Board_empty_f1_fok tab_nil))
noncomputable def slices_DeleteFunc_2int2int_impl_Board_empty_f1_LS0 (F : Nat) : LT := []
theorem slices_DeleteFunc_2int2int_impl_Board_empty_f1_lsok0 (F : Nat) : LoopsOK Try.prog (slices_DeleteFunc_2int2int_impl_Board_empty_f1_LS0 F) (bodyOf Try.f74) := loopsOK_nil
theorem slices_DeleteFunc_2int2int_impl_Board_empty_f1_keys : keysOK (bodyOf Try.f74) = true := by kernel_rfl
def slices_DeleteFunc_2int2int_impl_Board_empty_f1_st5 (s1 : Nat) (del8 : List Int) (i5 : Int) (j6 : Int) (s7 : List (List Int)) : St := ⟨expand 42 0 [0, 1, 5, 6] [(.sl 0 0 s1), (.fn 76 [] [(.ptr 1 0 0 16)]), (.int .i64 i5), (.int .i64 j6)], [(.vec 70 (.rr 2 s7)), (.var 16 (.ri .i64 del8))], 2, []⟩
def slices_DeleteFunc_2int2int_impl_Board_empty_f1_o5 (s1 : Nat) (del8 : List Int) (x : Int × List (List Int)) : GT := (.out (.exit 0 ⟨expand 42 0 [0, 5] [(.sl 0 0 s1), (.int .i64 x.1)], [(.vec 70 (.rr 2 x.2)), (.var 16 (.ri .i64 del8))], 2, []⟩))
def slices_DeleteFunc_2int2int_impl_Board_empty_f1_ls5 (F : Nat) : LoopS := ⟨42, [0, 1, 5, 6], [], [0, 5], [], [4], [], [], fun vals mem np killed => match vals, mem, np, killed with
  | [(.sl 0 0 s1), (.fn 76 [] [(.ptr 1 0 0 16)]), (.int .i64 i5), (.int .i64 j6)], [(.vec 70 (.rr 2 s7)), (.var 16 (.ri .i64 del8))], 2, [] => .br (slices_DeleteFunc_2int2int_impl_Board_empty_f1_l5 F s1 del8 i5 j6 s7).isSome (slices_DeleteFunc_2int2int_impl_Board_empty_f1_o5 s1 del8 ((slices_DeleteFunc_2int2int_impl_Board_empty_f1_l5 F s1 del8 i5 j6 s7).getD default)) .fail
  | _, _, _, _ => .fail⟩
theorem slices_DeleteFunc_2int2int_impl_Board_empty_f1_step5 (F : Nat) (s1 : Nat) (del8 : List Int) (i5 : Int) (j6 : Int) (s7 : List (List Int)) {R : Type} (k : Out → Option R) : stepS tt (slices_DeleteFunc_2int2int_impl_Board_empty_f1_tab F) (slices_DeleteFunc_2int2int_impl_Board_empty_f1_LS0 F) 70 (slices_DeleteFunc_2int2int_impl_Board_empty_f1_ls5 F) (loopAt 5 (bodyOf Try.f74)) (slices_DeleteFunc_2int2int_impl_Board_empty_f1_st5 s1 del8 i5 j6 s7) k = slices_DeleteFunc_2int2int_impl_Board_empty_f1_s5 F s1 del8 R (i5, j6, s7) (fun s => k (.norm (slices_DeleteFunc_2int2int_impl_Board_empty_f1_st5 s1 del8 s.1 s.2.1 s.2.2))) (fun x => (slices_DeleteFunc_2int2int_impl_Board_empty_f1_o5 s1 del8 x).run k) := by kernel_rfl
theorem slices_DeleteFunc_2int2int_impl_Board_empty_f1_iter5 (F : Nat) (s1 : Nat) (del8 : List Int) {R : Type} (k : Out → Option R) : ∀ (n : Nat) (i5 : Int) (j6 : Int) (s7 : List (List Int)), iterS tt (slices_DeleteFunc_2int2int_impl_Board_empty_f1_tab F) (slices_DeleteFunc_2int2int_impl_Board_empty_f1_LS0 F) 70 (slices_DeleteFunc_2int2int_impl_Board_empty_f1_ls5 F) (loopAt 5 (bodyOf Try.f74)) n (slices_DeleteFunc_2int2int_impl_Board_empty_f1_st5 s1 del8 i5 j6 s7) k = loopC (slices_DeleteFunc_2int2int_impl_Board_empty_f1_s5 F s1 del8) n (i5, j6, s7) (fun x => (slices_DeleteFunc_2int2int_impl_Board_empty_f1_o5 s1 del8 x).run k)
  | 0, i5, j6, s7 => rfl
  | n + 1, i5, j6, s7 => (iterS_succ tt (slices_DeleteFunc_2int2int_impl_Board_empty_f1_tab F) (slices_DeleteFunc_2int2int_impl_Board_empty_f1_LS0 F) 70 (slices_DeleteFunc_2int2int_impl_Board_empty_f1_ls5 F) (loopAt 5 (bodyOf Try.f74)) n (slices_DeleteFunc_2int2int_impl_Board_empty_f1_st5 s1 del8 i5 j6 s7) k).trans ((slices_DeleteFunc_2int2int_impl_Board_empty_f1_step5 F s1 del8 i5 j6 s7 (nextK (iterS tt (slices_DeleteFunc_2int2int_impl_Board_empty_f1_tab F) (slices_DeleteFunc_2int2int_impl_Board_empty_f1_LS0 F) 70 (slices_DeleteFunc_2int2int_impl_Board_empty_f1_ls5 F) (loopAt 5 (bodyOf Try.f74)) n) k)).trans (congrArg (fun kn => slices_DeleteFunc_2int2int_impl_Board_empty_f1_s5 F s1 del8 R (i5, j6, s7) kn _) (funext (fun ⟨i5, j6, s7⟩ => slices_DeleteFunc_2int2int_impl_Board_empty_f1_iter5 F s1 del8 k n i5 j6 s7))))
theorem slices_DeleteFunc_2int2int_impl_Board_empty_f1_lok5 (F : Nat) : LoopOK Try.prog (loopAt 5 (bodyOf Try.f74)) (slices_DeleteFunc_2int2int_impl_Board_empty_f1_ls5 F) := by
  refine loopOK_of mixed ttok deep (slices_DeleteFunc_2int2int_impl_Board_empty_f1_tabok F) (loopsOK_at (slices_DeleteFunc_2int2int_impl_Board_empty_f1_lsok0 F) 5) (fuel := 70) fun R vals mem np killed k x h => ?_
  simp only [slices_DeleteFunc_2int2int_impl_Board_empty_f1_ls5] at h
  split at h
  · rename_i s1 i5 j6 s7 del8
    simp only [GT.run] at h
    have hc := (cond_noneL h).1
    replace h := (cond_noneL h).2
    refine ⟨F, (slices_DeleteFunc_2int2int_impl_Board_empty_f1_iter5 F s1 del8 k F i5 j6 s7).trans ((loopC_use (slices_DeleteFunc_2int2int_impl_Board_empty_f1_s5_nat F s1 del8) hc _).trans h)⟩
  · simp only [GT.run] at h
    cases h
noncomputable def slices_DeleteFunc_2int2int_impl_Board_empty_f1_LS1 (F : Nat) : LT := (5, slices_DeleteFunc_2int2int_impl_Board_empty_f1_ls5 F) :: slices_DeleteFunc_2int2int_impl_Board_empty_f1_LS0 F
theorem slices_DeleteFunc_2int2int_impl_Board_empty_f1_lsok1 (F : Nat) : LoopsOK Try.prog (slices_DeleteFunc_2int2int_impl_Board_empty_f1_LS1 F) (bodyOf Try.f74) := loopsOK_cons slices_DeleteFunc_2int2int_impl_Board_empty_f1_keys (slices_DeleteFunc_2int2int_impl_Board_empty_f1_lok5 F) (slices_DeleteFunc_2int2int_impl_Board_empty_f1_lsok0 F)
theorem slices_DeleteFunc_2int2int_impl_Board_empty_f1_run (F : Nat) (s5 : List (List Int)) (del6 : List Int) : runS tt (slices_DeleteFunc_2int2int_impl_Board_empty_f1_tab F) (slices_DeleteFunc_2int2int_impl_Board_empty_f1_LS1 F) [] [] Try.f74 (bodyOf Try.f74) 70 [(.sl 0 0 (List.length s5)), (.fn 76 [] [(.ptr 1 0 0 16)])] [(.vec 70 (.rr 2 s5)), (.var 16 (.ri .i64 del6))] = slices_DeleteFunc_2int2int_impl_Board_empty_f1_c _ F s5 del6 (fun r => some ⟨(.sl 0 0 r.1), [(.vec 70 (.rr 2 r.2)), (.var 16 (.ri .i64 del6))], []⟩) := by kernel_rfl
def slices_DeleteFunc_2int2int_impl_Board_empty_f1_ent (F : Nat) : Ent := ⟨[true], .loud, fun args mem => match args, mem with
  | [(.sl 0 0 q_s1), (.fn 76 [] [(.ptr 1 0 0 16)])], [(.vec 70 (.rr 2 s5)), (.var 16 (.ri .i64 del6))] => some (((Nat.beq q_s1 (List.length s5)) && (slices_DeleteFunc_2int2int_impl_Board_empty_f1_p F s5 del6).isSome), ⟨(.sl 0 0 ((slices_DeleteFunc_2int2int_impl_Board_empty_f1_p F s5 del6).getD default).1), [(.vec 70 (.rr 2 ((slices_DeleteFunc_2int2int_impl_Board_empty_f1_p F s5 del6).getD default).2)), (.var 16 (.ri .i64 del6))], []⟩)
  | _, _ => none⟩
theorem slices_DeleteFunc_2int2int_impl_Board_empty_f1_fok : FunOK Try.prog 74 := funOK Try.func74 (by kernel_rfl) rfl
theorem slices_DeleteFunc_2int2int_impl_Board_empty_f1_meets (F : Nat) : Meets Try.prog 74 (slices_DeleteFunc_2int2int_impl_Board_empty_f1_ent F) := by
  refine meets_of_runS mixed ttok deep (slices_DeleteFunc_2int2int_impl_Board_empty_f1_tabok F) Try.func74 (body_some rfl) (slices_DeleteFunc_2int2int_impl_Board_empty_f1_lsok1 F) fun args mem hfit ret h => ?_
  clear hfit
  simp only [slices_DeleteFunc_2int2int_impl_Board_empty_f1_ent] at h
  split at h
  · rename_i q_s1 s5 del6
    simp only [Option.some.injEq, Prod.mk.injEq] at h
    obtain ⟨hc, rfl⟩ := h
    have hg := (and_split hc).1
    replace hc := (and_split hc).2
    obtain rfl := nbeq_nat hg
    exact ⟨[], [], 70, _, (slices_DeleteFunc_2int2int_impl_Board_empty_f1_run F s5 del6).trans ((slices_DeleteFunc_2int2int_impl_Board_empty_f1_cp _ F s5 del6 _).trans (bind_use hc _)), rfl, rfl, rfl⟩
  · cases h

/-! (loop.example/g01194/impl.Board).empty -/
noncomputable def impl_Board_empty_tab (F : Nat) : Tab := [(75, (impl_cells_ent F)), (74, (slices_DeleteFunc_2int2int_impl_Board_empty_f1_ent F))]
theorem impl_Board_empty_tabok (F : Nat) : TabOK Try.prog (impl_Board_empty_tab F) := (tab_cons (impl_cells_meets F) impl_cells_fok (tab_cons (slices_DeleteFunc_2int2int_impl_Board_empty_f1_meets F) slices_DeleteFunc_2int2int_impl_Board_empty_f1_fok tab_nil))
noncomputable def impl_Board_empty_LS0 (F : Nat) : LT := []
theorem impl_Board_empty_lsok0 (F : Nat) : LoopsOK Try.prog (impl_Board_empty_LS0 F) (bodyOf Try.f60) := loopsOK_nil
theorem impl_Board_empty_run (F : Nat) (b0 : List Int) : runS tt (impl_Board_empty_tab F) (impl_Board_empty_LS0 F) [] [] Try.f60 (bodyOf Try.f60) 70 [(.ints 16 b0)] [] = impl_Board_empty_c _ F b0 (fun r => some ⟨(.sl 0 0 r.1), [(.vec 70 (.rr 2 r.2))], []⟩) := by kernel_rfl
def impl_Board_empty_ent (F : Nat) : Ent := ⟨[], .fresh, fun args mem => match args, mem with
  | [(.ints 16 b0)], [] => some ((impl_Board_empty_p F b0).isSome, ⟨(.sl 0 0 ((impl_Board_empty_p F b0).getD default).1), [(.vec 70 (.rr 2 ((impl_Board_empty_p F b0).getD default).2))], []⟩)
  | _, _ => none⟩
theorem impl_Board_empty_fok : FunOK Try.prog 60 := funOK Try.func60 (by kernel_rfl) rfl
theorem impl_Board_empty_meets (F : Nat) : Meets Try.prog 60 (impl_Board_empty_ent F) := by
  refine meets_of_runS mixed ttok deep (impl_Board_empty_tabok F) Try.func60 (body_some rfl) (impl_Board_empty_lsok0 F) fun args mem hfit ret h => ?_
  clear hfit
  simp only [impl_Board_empty_ent] at h
  split at h
  · rename_i b0
    simp only [Option.some.injEq, Prod.mk.injEq] at h
    obtain ⟨hc, rfl⟩ := h
    exact ⟨[], [], 70, _, (impl_Board_empty_run F b0).trans ((impl_Board_empty_cp _ F b0 _).trans (bind_use hc _)), rfl, rfl, rfl⟩
  · cases h

/-! (loop.example/g01194/impl.Board).placements -/
noncomputable def impl_Board_placements_tab (F : Nat) : Tab := [(60, (impl_Board_empty_ent F))]
theorem impl_Board_placements_tabok (F : Nat) : TabOK Try.prog (impl_Board_placements_tab F) := (tab_cons (impl_Board_empty_meets F) impl_Board_empty_fok tab_nil)
noncomputable def impl_Board_placements_LS0 (F : Nat) : LT := []
theorem impl_Board_placements_lsok0 (F : Nat) : LoopsOK Try.prog (impl_Board_placements_LS0 F) (bodyOf Try.f39) := loopsOK_nil
theorem impl_Board_placements_keys : keysOK (bodyOf Try.f39) = true := by kernel_rfl
def impl_Board_placements_st3 (t83 : Nat) (t94 : Int) (t87 : List (List Int)) (t105 : Int) (out6 : List (List Int)) : St := ⟨expand 29 0 [3, 8, 9, 10] [(.sl 0 0 (List.length out6)), (.sl 1 0 t83), (.int .i64 t94), (.int .i64 t105)], [(.vec 34 (.rr 3 out6)), (.vec 70 (.rr 2 t87))], 0, []⟩
def impl_Board_placements_o3 (t83 : Nat) (t94 : Int) (t87 : List (List Int)) (x : List (List Int)) : GT := (.out (.exit 0 ⟨expand 29 0 [3] [(.sl 0 0 (List.length x))], [(.vec 34 (.rr 3 x))], 0, []⟩))
def impl_Board_placements_ls3 (F : Nat) : LoopS := ⟨29, [3, 8, 9, 10], [], [3], [], [2], [], [], fun vals mem np killed => match vals, mem, np, killed with
  | [(.sl 0 0 q_out1), (.sl 1 0 t83), (.int .i64 t94), (.int .i64 t105)], [(.vec 34 (.rr 3 out6)), (.vec 70 (.rr 2 t87))], 0, [] => .br ((Nat.beq q_out1 (List.length out6)) && (impl_Board_placements_l3 F t83 t94 t87 t105 out6).isSome) (impl_Board_placements_o3 t83 t94 t87 ((impl_Board_placements_l3 F t83 t94 t87 t105 out6).getD default)) .fail
  | _, _, _, _ => .fail⟩
theorem impl_Board_placements_step3 (F : Nat) (t83 : Nat) (t94 : Int) (t87 : List (List Int)) (t105 : Int) (out6 : List (List Int)) {R : Type} (k : Out → Option R) : stepS tt (impl_Board_placements_tab F) (impl_Board_placements_LS0 F) 70 (impl_Board_placements_ls3 F) (loopAt 3 (bodyOf Try.f39)) (impl_Board_placements_st3 t83 t94 t87 t105 out6) k = impl_Board_placements_s3 F t83 t94 t87 R (t105, out6) (fun s => k (.norm (impl_Board_placements_st3 t83 t94 t87 s.1 s.2))) (fun x => (impl_Board_placements_o3 t83 t94 t87 x).run k) := by kernel_rfl
theorem impl_Board_placements_iter3 (F : Nat) (t83 : Nat) (t94 : Int) (t87 : List (List Int)) {R : Type} (k : Out → Option R) : ∀ (n : Nat) (t105 : Int) (out6 : List (List Int)), iterS tt (impl_Board_placements_tab F) (impl_Board_placements_LS0 F) 70 (impl_Board_placements_ls3 F) (loopAt 3 (bodyOf Try.f39)) n (impl_Board_placements_st3 t83 t94 t87 t105 out6) k = loopC (impl_Board_placements_s3 F t83 t94 t87) n (t105, out6) (fun x => (impl_Board_placements_o3 t83 t94 t87 x).run k)
  | 0, t105, out6 => rfl
  | n + 1, t105, out6 => (iterS_succ tt (impl_Board_placements_tab F) (impl_Board_placements_LS0 F) 70 (impl_Board_placements_ls3 F) (loopAt 3 (bodyOf Try.f39)) n (impl_Board_placements_st3 t83 t94 t87 t105 out6) k).trans ((impl_Board_placements_step3 F t83 t94 t87 t105 out6 (nextK (iterS tt (impl_Board_placements_tab F) (impl_Board_placements_LS0 F) 70 (impl_Board_placements_ls3 F) (loopAt 3 (bodyOf Try.f39)) n) k)).trans (congrArg (fun kn => impl_Board_placements_s3 F t83 t94 t87 R (t105, out6) kn _) (funext (fun ⟨t105, out6⟩ => impl_Board_placements_iter3 F t83 t94 t87 k n t105 out6))))
theorem impl_Board_placements_lok3 (F : Nat) : LoopOK Try.prog (loopAt 3 (bodyOf Try.f39)) (impl_Board_placements_ls3 F) := by
  refine loopOK_of mixed ttok deep (impl_Board_placements_tabok F) (loopsOK_at (impl_Board_placements_lsok0 F) 3) (fuel := 70) fun R vals mem np killed k x h => ?_
  simp only [impl_Board_placements_ls3] at h
  split at h
  · rename_i q_out1 t83 t94 t105 out6 t87
    simp only [GT.run] at h
    have hc := (cond_noneL h).1
    replace h := (cond_noneL h).2
    have hg := (and_split hc).1
    replace hc := (and_split hc).2
    obtain rfl := nbeq_nat hg
    refine ⟨F, (impl_Board_placements_iter3 F t83 t94 t87 k F t105 out6).trans ((loopC_use (impl_Board_placements_s3_nat F t83 t94 t87) hc _).trans h)⟩
  · simp only [GT.run] at h
    cases h
noncomputable def impl_Board_placements_LS1 (F : Nat) : LT := (3, impl_Board_placements_ls3 F) :: impl_Board_placements_LS0 F
theorem impl_Board_placements_lsok1 (F : Nat) : LoopsOK Try.prog (impl_Board_placements_LS1 F) (bodyOf Try.f39) := loopsOK_cons impl_Board_placements_keys (impl_Board_placements_lok3 F) (impl_Board_placements_lsok0 F)
theorem impl_Board_placements_run (F : Nat) (b0 : List Int) : runS tt (impl_Board_placements_tab F) (impl_Board_placements_LS1 F) [] [] Try.f39 (bodyOf Try.f39) 70 [(.ints 16 b0)] [] = impl_Board_placements_c _ F b0 (fun r => some ⟨(.sl 0 0 (List.length r)), [(.vec 34 (.rr 3 r))], []⟩) := by kernel_rfl
def impl_Board_placements_ent (F : Nat) : Ent := ⟨[], .fresh, fun args mem => match args, mem with
  | [(.ints 16 b0)], [] => some ((impl_Board_placements_p F b0).isSome, ⟨(.sl 0 0 (List.length ((impl_Board_placements_p F b0).getD default))), [(.vec 34 (.rr 3 ((impl_Board_placements_p F b0).getD default)))], []⟩)
  | _, _ => none⟩
theorem impl_Board_placements_fok : FunOK Try.prog 39 := funOK Try.func39 (by kernel_rfl) rfl
theorem impl_Board_placements_meets (F : Nat) : Meets Try.prog 39 (impl_Board_placements_ent F) := by
  refine meets_of_runS mixed ttok deep (impl_Board_placements_tabok F) Try.func39 (body_some rfl) (impl_Board_placements_lsok1 F) fun args mem hfit ret h => ?_
  clear hfit
  simp only [impl_Board_placements_ent] at h
  split at h
  · rename_i b0
    simp only [Option.some.injEq, Prod.mk.injEq] at h
    obtain ⟨hc, rfl⟩ := h
    exact ⟨[], [], 70, _, (impl_Board_placements_run F b0).trans ((impl_Board_placements_cp _ F b0 _).trans (bind_use hc _)), rfl, rfl, rfl⟩
  · cases h

/-! (loop.example/g01194/impl.Board).placed -/
noncomputable def impl_Board_placed_tab (F : Nat) : Tab := []
theorem impl_Board_placed_tabok (F : Nat) : TabOK Try.prog (impl_Board_placed_tab F) := tab_nil
noncomputable def impl_Board_placed_LS0 (F : Nat) : LT := []
theorem impl_Board_placed_lsok0 (F : Nat) : LoopsOK Try.prog (impl_Board_placed_LS0 F) (bodyOf Try.f55) := loopsOK_nil
theorem impl_Board_placed_run (F : Nat) (b0 : List Int) (p1 : List Int) : runS tt (impl_Board_placed_tab F) (impl_Board_placed_LS0 F) [] [] Try.f55 (bodyOf Try.f55) 70 [(.ints 16 b0), (.ints 3 p1)] [] = impl_Board_placed_c _ b0 p1 (fun r => some ⟨(.ints 16 r), [], []⟩) := by kernel_rfl
def impl_Board_placed_ent (F : Nat) : Ent := ⟨[], .quiet, fun args mem => match args, mem with
  | [(.ints 16 b0), (.ints 3 p1)], [] => some ((impl_Board_placed_p b0 p1).isSome, ⟨(.ints 16 ((impl_Board_placed_p b0 p1).getD default)), [], []⟩)
  | _, _ => none⟩
theorem impl_Board_placed_fok : FunOK Try.prog 55 := funOK Try.func55 (by kernel_rfl) rfl
theorem impl_Board_placed_meets (F : Nat) : Meets Try.prog 55 (impl_Board_placed_ent F) := by
  refine meets_of_runS mixed ttok deep (impl_Board_placed_tabok F) Try.func55 (body_some rfl) (impl_Board_placed_lsok0 F) fun args mem hfit ret h => ?_
  clear hfit
  simp only [impl_Board_placed_ent] at h
  split at h
  · rename_i b0 p1
    simp only [Option.some.injEq, Prod.mk.injEq] at h
    obtain ⟨hc, rfl⟩ := h
    exact ⟨[], [], 70, _, (impl_Board_placed_run F b0 p1).trans ((impl_Board_placed_cp _ b0 p1 _).trans (bind_use hc _)), rfl, rfl, rfl⟩
  · cases h

/-! (loop.example/g01194/impl.Board).sureOf$1 -/
noncomputable def impl_Board_sureOf_f1_n2_tab (F : Nat) : Tab := [(22, (impl_Board_sure_n1_ent F))]
theorem impl_Board_sureOf_f1_n2_tabok (F : Nat) : TabOK Try.prog (impl_Board_sureOf_f1_n2_tab F) := (tab_cons (impl_Board_sure_n1_meets F) impl_Board_sure_n1_fok tab_nil)
noncomputable def impl_Board_sureOf_f1_n2_LS0 (F : Nat) : LT := []
theorem impl_Board_sureOf_f1_n2_lsok0 (F : Nat) : LoopsOK Try.prog (impl_Board_sureOf_f1_n2_LS0 F) (bodyOf Try.f53) := loopsOK_nil
theorem impl_Board_sureOf_f1_n2_run (F : Nat) (own0 : List Int) : runS tt (impl_Board_sureOf_f1_n2_tab F) (impl_Board_sureOf_f1_n2_LS0 F) [] [] Try.f53 (bodyOf Try.f53) 70 [(.ints 16 own0), (.ptr 0 0 0 1)] [(.var 1 (.ri .i64 [(2 : Int)]))] = impl_Board_sureOf_f1_n2_c _ F own0 (fun r => some ⟨(.int .i64 r), [(.var 1 (.ri .i64 [(2 : Int)]))], []⟩) := by kernel_rfl
def impl_Board_sureOf_f1_n2_ent (F : Nat) : Ent := ⟨[], .quiet, fun args mem => match args, mem with
  | [(.ints 16 own0), (.ptr 0 0 0 1)], [(.var 1 (.ri .i64 q_a14))] => bif (q_a14 == ([(2 : Int)] : List Int)) then some ((impl_Board_sureOf_f1_n2_p F own0).isSome, ⟨(.int .i64 ((impl_Board_sureOf_f1_n2_p F own0).getD default)), [], []⟩) else none
  | _, _ => none⟩
theorem impl_Board_sureOf_f1_n2_fok : FunOK Try.prog 53 := funOK Try.func53 (by kernel_rfl) rfl
theorem impl_Board_sureOf_f1_n2_meets (F : Nat) : Meets Try.prog 53 (impl_Board_sureOf_f1_n2_ent F) := by
  refine meets_of_runS mixed ttok deep (impl_Board_sureOf_f1_n2_tabok F) Try.func53 (body_some rfl) (impl_Board_sureOf_f1_n2_lsok0 F) fun args mem hfit ret h => ?_
  clear hfit
  simp only [impl_Board_sureOf_f1_n2_ent] at h
  split at h
  · rename_i own0 q_a14
    have hg0 := (cond_noneL h).1
    replace h := (cond_noneL h).2
    obtain rfl := beq_li hg0
    simp only [Option.some.injEq, Prod.mk.injEq] at h
    obtain ⟨hc, rfl⟩ := h
    exact ⟨[], [], 70, _, (impl_Board_sureOf_f1_n2_run F own0).trans ((impl_Board_sureOf_f1_n2_cp _ F own0 _).trans (bind_use hc _)), rfl, rfl, rfl⟩
  · cases h
end Go.Proofs.Ytgdokdkcbgkekae
