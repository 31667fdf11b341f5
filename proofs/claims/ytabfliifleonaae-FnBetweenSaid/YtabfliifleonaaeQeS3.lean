/-
Pure functions and what the code of them does, by program; without conditions.
-/
import Derived.Test.YtabfliifleonaaeQeP3
import Derived.Test.YtabfliifleonaaeQeS2
namespace Go.Proofs.Ytabfliifleonaae
open Go Go.Lv Go.Lv.P Go.Proofs
set_option linter.unusedVariables false
set_option linter.unusedSimpArgs false
set_option maxRecDepth 100000
/-! loop.example/g01194/spec.l7Least -/
noncomputable def spec_l7Least_tab (F : Nat) : Tab := [(53, (spec_l2Worth_ent F))]
theorem spec_l7Least_tabok (F : Nat) : TabOK Try.prog (spec_l7Least_tab F) := (tab_cons (spec_l2Worth_meets F) spec_l2Worth_fok tab_nil)
noncomputable def spec_l7Least_LS0 (F : Nat) : LT := []
theorem spec_l7Least_lsok0 (F : Nat) : LoopsOK Try.prog (spec_l7Least_LS0 F) (bodyOf Try.f57) := loopsOK_nil
theorem spec_l7Least_keys : keysOK (bodyOf Try.f57) = true := by kernel_rfl
def spec_l7Least_st5 (t3 : Int) (sum0 : Int) (out4 : List Int) : St := ⟨expand 23 0 [0, 3, 4] [(.int .i64 sum0), (.sl 0 0 (List.length out4)), (.int .i64 t3)], [(.vec 3 (.ri .i64 out4))], 0, []⟩
def spec_l7Least_o5 (t3 : Int) (x : Int × List Int) : GT := (.out (.exit 2 ⟨expand 23 0 [0, 3, 4] [(.int .i64 x.1), (.sl 0 0 (List.length x.2)), (.int .i64 t3)], [(.vec 3 (.ri .i64 x.2))], 0, []⟩))
def spec_l7Least_ls5 (F : Nat) : LoopS := ⟨23, [0, 3, 4], [], [0, 3, 4], [], [2], [], [], fun vals mem np killed => match vals, mem, np, killed with
  | [(.int .i64 sum0), (.sl 0 0 q_out2), (.int .i64 t3)], [(.vec 3 (.ri .i64 out4))], 0, [] => .br ((Nat.beq q_out2 (List.length out4)) && (spec_l7Least_l5 F t3 sum0 out4).isSome) (spec_l7Least_o5 t3 ((spec_l7Least_l5 F t3 sum0 out4).getD default)) .fail
  | _, _, _, _ => .fail⟩
theorem spec_l7Least_step5 (F : Nat) (t3 : Int) (sum0 : Int) (out4 : List Int) {R : Type} (k : Out → Option R) : stepS tt (spec_l7Least_tab F) (spec_l7Least_LS0 F) 70 (spec_l7Least_ls5 F) (loopAt 5 (bodyOf Try.f57)) (spec_l7Least_st5 t3 sum0 out4) k = spec_l7Least_s5 F t3 R (sum0, out4) (fun s => k (.norm (spec_l7Least_st5 t3 s.1 s.2))) (fun x => (spec_l7Least_o5 t3 x).run k) := by kernel_rfl
theorem spec_l7Least_iter5 (F : Nat) (t3 : Int) {R : Type} (k : Out → Option R) : ∀ (n : Nat) (sum0 : Int) (out4 : List Int), iterS tt (spec_l7Least_tab F) (spec_l7Least_LS0 F) 70 (spec_l7Least_ls5 F) (loopAt 5 (bodyOf Try.f57)) n (spec_l7Least_st5 t3 sum0 out4) k = loopC (spec_l7Least_s5 F t3) n (sum0, out4) (fun x => (spec_l7Least_o5 t3 x).run k)
  | 0, sum0, out4 => rfl
  | n + 1, sum0, out4 => (iterS_succ tt (spec_l7Least_tab F) (spec_l7Least_LS0 F) 70 (spec_l7Least_ls5 F) (loopAt 5 (bodyOf Try.f57)) n (spec_l7Least_st5 t3 sum0 out4) k).trans ((spec_l7Least_step5 F t3 sum0 out4 (nextK (iterS tt (spec_l7Least_tab F) (spec_l7Least_LS0 F) 70 (spec_l7Least_ls5 F) (loopAt 5 (bodyOf Try.f57)) n) k)).trans (congrArg (fun kn => spec_l7Least_s5 F t3 R (sum0, out4) kn _) (funext (fun ⟨sum0, out4⟩ => spec_l7Least_iter5 F t3 k n sum0 out4))))
theorem spec_l7Least_lok5 (F : Nat) : LoopOK Try.prog (loopAt 5 (bodyOf Try.f57)) (spec_l7Least_ls5 F) := by
  refine loopOK_of mixed ttok deep (spec_l7Least_tabok F) (loopsOK_at (spec_l7Least_lsok0 F) 5) (fuel := 70) fun R vals mem np killed k x h => ?_
  simp only [spec_l7Least_ls5] at h
  split at h
  · rename_i sum0 q_out2 t3 out4
    simp only [GT.run] at h
    have hc := (cond_noneL h).1
    replace h := (cond_noneL h).2
    have hg := (and_split hc).1
    replace hc := (and_split hc).2
    obtain rfl := nbeq_nat hg
    refine ⟨F, (spec_l7Least_iter5 F t3 k F sum0 out4).trans ((loopC_use (spec_l7Least_s5_nat F t3) hc _).trans h)⟩
  · simp only [GT.run] at h
    cases h
noncomputable def spec_l7Least_LS1 (F : Nat) : LT := (5, spec_l7Least_ls5 F) :: spec_l7Least_LS0 F
theorem spec_l7Least_lsok1 (F : Nat) : LoopsOK Try.prog (spec_l7Least_LS1 F) (bodyOf Try.f57) := loopsOK_cons spec_l7Least_keys (spec_l7Least_lok5 F) (spec_l7Least_lsok0 F)
def spec_l7Least_st3 (sum0 : Int) (t3 : Int) (out4 : List Int) : St := ⟨expand 23 0 [0, 3, 4] [(.int .i64 sum0), (.sl 0 0 (List.length out4)), (.int .i64 t3)], [(.vec 3 (.ri .i64 out4))], 0, []⟩
def spec_l7Least_o3 (x : List Int) : GT := (.out (.exit 0 ⟨expand 23 0 [3] [(.sl 0 0 (List.length x))], [(.vec 3 (.ri .i64 x))], 0, []⟩))
def spec_l7Least_ls3 (F : Nat) : LoopS := ⟨23, [0, 3, 4], [], [3], [], [2], [], [], fun vals mem np killed => match vals, mem, np, killed with
  | [(.int .i64 sum0), (.sl 0 0 q_out2), (.int .i64 t3)], [(.vec 3 (.ri .i64 out4))], 0, [] => .br ((Nat.beq q_out2 (List.length out4)) && (spec_l7Least_l3 F sum0 t3 out4).isSome) (spec_l7Least_o3 ((spec_l7Least_l3 F sum0 t3 out4).getD default)) .fail
  | _, _, _, _ => .fail⟩
theorem spec_l7Least_step3 (F : Nat) (sum0 : Int) (t3 : Int) (out4 : List Int) {R : Type} (k : Out → Option R) : stepS tt (spec_l7Least_tab F) (spec_l7Least_LS1 F) 70 (spec_l7Least_ls3 F) (loopAt 3 (bodyOf Try.f57)) (spec_l7Least_st3 sum0 t3 out4) k = spec_l7Least_s3 F R (sum0, t3, out4) (fun s => k (.norm (spec_l7Least_st3 s.1 s.2.1 s.2.2))) (fun x => (spec_l7Least_o3 x).run k) := by kernel_rfl
theorem spec_l7Least_iter3 (F : Nat) {R : Type} (k : Out → Option R) : ∀ (n : Nat) (sum0 : Int) (t3 : Int) (out4 : List Int), iterS tt (spec_l7Least_tab F) (spec_l7Least_LS1 F) 70 (spec_l7Least_ls3 F) (loopAt 3 (bodyOf Try.f57)) n (spec_l7Least_st3 sum0 t3 out4) k = loopC (spec_l7Least_s3 F) n (sum0, t3, out4) (fun x => (spec_l7Least_o3 x).run k)
  | 0, sum0, t3, out4 => rfl
  | n + 1, sum0, t3, out4 => (iterS_succ tt (spec_l7Least_tab F) (spec_l7Least_LS1 F) 70 (spec_l7Least_ls3 F) (loopAt 3 (bodyOf Try.f57)) n (spec_l7Least_st3 sum0 t3 out4) k).trans ((spec_l7Least_step3 F sum0 t3 out4 (nextK (iterS tt (spec_l7Least_tab F) (spec_l7Least_LS1 F) 70 (spec_l7Least_ls3 F) (loopAt 3 (bodyOf Try.f57)) n) k)).trans (congrArg (fun kn => spec_l7Least_s3 F R (sum0, t3, out4) kn _) (funext (fun ⟨sum0, t3, out4⟩ => spec_l7Least_iter3 F k n sum0 t3 out4))))
theorem spec_l7Least_lok3 (F : Nat) : LoopOK Try.prog (loopAt 3 (bodyOf Try.f57)) (spec_l7Least_ls3 F) := by
  refine loopOK_of mixed ttok deep (spec_l7Least_tabok F) (loopsOK_at (spec_l7Least_lsok1 F) 3) (fuel := 70) fun R vals mem np killed k x h => ?_
  simp only [spec_l7Least_ls3] at h
  split at h
  · rename_i sum0 q_out2 t3 out4
    simp only [GT.run] at h
    have hc := (cond_noneL h).1
    replace h := (cond_noneL h).2
    have hg := (and_split hc).1
    replace hc := (and_split hc).2
    obtain rfl := nbeq_nat hg
    refine ⟨F, (spec_l7Least_iter3 F k F sum0 t3 out4).trans ((loopC_use (spec_l7Least_s3_nat F) hc _).trans h)⟩
  · simp only [GT.run] at h
    cases h
noncomputable def spec_l7Least_LS2 (F : Nat) : LT := (3, spec_l7Least_ls3 F) :: spec_l7Least_LS1 F
theorem spec_l7Least_lsok2 (F : Nat) : LoopsOK Try.prog (spec_l7Least_LS2 F) (bodyOf Try.f57) := loopsOK_cons spec_l7Least_keys (spec_l7Least_lok3 F) (spec_l7Least_lsok1 F)
theorem spec_l7Least_run (F : Nat) (sum0 : Int) : runS tt (spec_l7Least_tab F) (spec_l7Least_LS2 F) [] [] Try.f57 (bodyOf Try.f57) 70 [(.int .i64 sum0)] [] = spec_l7Least_c _ F sum0 (fun r => some ⟨(.sl 0 0 (List.length r)), [(.vec 3 (.ri .i64 r))], []⟩) := by kernel_rfl
def spec_l7Least_ent (F : Nat) : Ent := ⟨[], .fresh, fun args mem => match args, mem with
  | [(.int .i64 sum0)], [] => some ((spec_l7Least_p F sum0).isSome, ⟨(.sl 0 0 (List.length ((spec_l7Least_p F sum0).getD default))), [(.vec 3 (.ri .i64 ((spec_l7Least_p F sum0).getD default)))], []⟩)
  | _, _ => none⟩
theorem spec_l7Least_fok : FunOK Try.prog 57 := funOK Try.func57 (by kernel_rfl) rfl
theorem spec_l7Least_meets (F : Nat) : Meets Try.prog 57 (spec_l7Least_ent F) := by
  refine meets_of_runS mixed ttok deep (spec_l7Least_tabok F) Try.func57 (body_some rfl) (spec_l7Least_lsok2 F) fun args mem hfit ret h => ?_
  clear hfit
  simp only [spec_l7Least_ent] at h
  split at h
  · rename_i sum0
    simp only [Option.some.injEq, Prod.mk.injEq] at h
    obtain ⟨hc, rfl⟩ := h
    exact ⟨[], [], 70, _, (spec_l7Least_run F sum0).trans ((spec_l7Least_cp _ F sum0 _).trans (bind_use hc _)), rfl, rfl, rfl⟩
  · cases h

/-! loop.example/g01194/spec.l7Sum -/
noncomputable def spec_l7Sum_tab (F : Nat) : Tab := [(30, (spec_l1In_ent F)), (57, (spec_l7Least_ent F))]
theorem spec_l7Sum_tabok (F : Nat) : TabOK Try.prog (spec_l7Sum_tab F) := (tab_cons (spec_l1In_meets F) spec_l1In_fok (tab_cons (spec_l7Least_meets F) spec_l7Least_fok tab_nil))
noncomputable def spec_l7Sum_LS0 (F : Nat) : LT := []
theorem spec_l7Sum_lsok0 (F : Nat) : LoopsOK Try.prog (spec_l7Sum_LS0 F) (bodyOf Try.f56) := loopsOK_nil
theorem spec_l7Sum_run (F : Nat) (sum0 : Int) : runS tt (spec_l7Sum_tab F) (spec_l7Sum_LS0 F) [] [] Try.f56 (bodyOf Try.f56) 70 [(.int .i64 sum0)] [] = spec_l7Sum_c _ F sum0 (fun r => some ⟨(.bool r), [], []⟩) := by kernel_rfl
def spec_l7Sum_ent (F : Nat) : Ent := ⟨[], .quiet, fun args mem => match args, mem with
  | [(.int .i64 sum0)], [] => some ((spec_l7Sum_p F sum0).isSome, ⟨(.bool ((spec_l7Sum_p F sum0).getD default)), [], []⟩)
  | _, _ => none⟩
theorem spec_l7Sum_fok : FunOK Try.prog 56 := funOK Try.func56 (by kernel_rfl) rfl
theorem spec_l7Sum_meets (F : Nat) : Meets Try.prog 56 (spec_l7Sum_ent F) := by
  refine meets_of_runS mixed ttok deep (spec_l7Sum_tabok F) Try.func56 (body_some rfl) (spec_l7Sum_lsok0 F) fun args mem hfit ret h => ?_
  clear hfit
  simp only [spec_l7Sum_ent] at h
  split at h
  · rename_i sum0
    simp only [Option.some.injEq, Prod.mk.injEq] at h
    obtain ⟨hc, rfl⟩ := h
    exact ⟨[], [], 70, _, (spec_l7Sum_run F sum0).trans ((spec_l7Sum_cp _ F sum0 _).trans (bind_use hc _)), rfl, rfl, rfl⟩
  · cases h

/-! loop.example/g01194/spec.PackedBoard -/
noncomputable def spec_PackedBoard_tab (F : Nat) : Tab := [(56, (spec_l7Sum_ent F)), (57, (spec_l7Least_ent F)), (58, (spec_l2Put_ent F))]
theorem spec_PackedBoard_tabok (F : Nat) : TabOK Try.prog (spec_PackedBoard_tab F) := (tab_cons (spec_l7Sum_meets F) spec_l7Sum_fok (tab_cons (spec_l7Least_meets F) spec_l7Least_fok (tab_cons (spec_l2Put_meets F) spec_l2Put_fok tab_nil)))
noncomputable def spec_PackedBoard_LS0 (F : Nat) : LT := []
theorem spec_PackedBoard_lsok0 (F : Nat) : LoopsOK Try.prog (spec_PackedBoard_LS0 F) (bodyOf Try.f32) := loopsOK_nil
theorem spec_PackedBoard_keys : keysOK (bodyOf Try.f32) = true := by kernel_rfl
def spec_PackedBoard_st5 (list11 : List Int) (i8 : Int) (b10 : List Int) : St := ⟨expand 32 0 [2, 4, 5, 6] [(.ptr 0 0 0 16), (.ptr 1 0 0 16), (.sl 2 0 (List.length list11)), (.int .i64 i8)], [(.var 16 (.ri .i64 [(0 : Int), (0 : Int), (0 : Int), (0 : Int), (0 : Int), (0 : Int), (0 : Int), (0 : Int), (0 : Int), (0 : Int), (0 : Int), (0 : Int), (0 : Int), (0 : Int), (0 : Int), (0 : Int)])), (.var 16 (.ri .i64 b10)), (.vec 3 (.ri .i64 list11))], 0, []⟩
def spec_PackedBoard_o5 (list11 : List Int) (x : List Int) : GT := (.out (.exit 0 ⟨expand 32 0 [2, 4] [(.ptr 0 0 0 16), (.ptr 1 0 0 16)], [(.var 16 (.ri .i64 [(0 : Int), (0 : Int), (0 : Int), (0 : Int), (0 : Int), (0 : Int), (0 : Int), (0 : Int), (0 : Int), (0 : Int), (0 : Int), (0 : Int), (0 : Int), (0 : Int), (0 : Int), (0 : Int)])), (.var 16 (.ri .i64 x))], 0, []⟩))
def spec_PackedBoard_ls5 (F : Nat) : LoopS := ⟨32, [2, 4, 5, 6], [], [2, 4], [], [2, 3], [], [], fun vals mem np killed => match vals, mem, np, killed with
  | [(.ptr 0 0 0 16), (.ptr 1 0 0 16), (.sl 2 0 q_list7), (.int .i64 i8)], [(.var 16 (.ri .i64 q_t29)), (.var 16 (.ri .i64 b10)), (.vec 3 (.ri .i64 list11))], 0, [] => .br ((q_t29 == ([(0 : Int), (0 : Int), (0 : Int), (0 : Int), (0 : Int), (0 : Int), (0 : Int), (0 : Int), (0 : Int), (0 : Int), (0 : Int), (0 : Int), (0 : Int), (0 : Int), (0 : Int), (0 : Int)] : List Int)) && ((Nat.beq q_list7 (List.length list11)) && (spec_PackedBoard_l5 F list11 i8 b10).isSome)) (spec_PackedBoard_o5 list11 ((spec_PackedBoard_l5 F list11 i8 b10).getD default)) .fail
  | _, _, _, _ => .fail⟩
theorem spec_PackedBoard_step5 (F : Nat) (list11 : List Int) (i8 : Int) (b10 : List Int) {R : Type} (k : Out → Option R) : stepS tt (spec_PackedBoard_tab F) (spec_PackedBoard_LS0 F) 70 (spec_PackedBoard_ls5 F) (loopAt 5 (bodyOf Try.f32)) (spec_PackedBoard_st5 list11 i8 b10) k = spec_PackedBoard_s5 F list11 R (i8, b10) (fun s => k (.norm (spec_PackedBoard_st5 list11 s.1 s.2))) (fun x => (spec_PackedBoard_o5 list11 x).run k) := by kernel_rfl
theorem spec_PackedBoard_iter5 (F : Nat) (list11 : List Int) {R : Type} (k : Out → Option R) : ∀ (n : Nat) (i8 : Int) (b10 : List Int), iterS tt (spec_PackedBoard_tab F) (spec_PackedBoard_LS0 F) 70 (spec_PackedBoard_ls5 F) (loopAt 5 (bodyOf Try.f32)) n (spec_PackedBoard_st5 list11 i8 b10) k = loopC (spec_PackedBoard_s5 F list11) n (i8, b10) (fun x => (spec_PackedBoard_o5 list11 x).run k)
  | 0, i8, b10 => rfl
  | n + 1, i8, b10 => (iterS_succ tt (spec_PackedBoard_tab F) (spec_PackedBoard_LS0 F) 70 (spec_PackedBoard_ls5 F) (loopAt 5 (bodyOf Try.f32)) n (spec_PackedBoard_st5 list11 i8 b10) k).trans ((spec_PackedBoard_step5 F list11 i8 b10 (nextK (iterS tt (spec_PackedBoard_tab F) (spec_PackedBoard_LS0 F) 70 (spec_PackedBoard_ls5 F) (loopAt 5 (bodyOf Try.f32)) n) k)).trans (congrArg (fun kn => spec_PackedBoard_s5 F list11 R (i8, b10) kn _) (funext (fun ⟨i8, b10⟩ => spec_PackedBoard_iter5 F list11 k n i8 b10))))
theorem spec_PackedBoard_lok5 (F : Nat) : LoopOK Try.prog (loopAt 5 (bodyOf Try.f32)) (spec_PackedBoard_ls5 F) := by
  refine loopOK_of mixed ttok deep (spec_PackedBoard_tabok F) (loopsOK_at (spec_PackedBoard_lsok0 F) 5) (fuel := 70) fun R vals mem np killed k x h => ?_
  simp only [spec_PackedBoard_ls5] at h
  split at h
  · rename_i q_list7 i8 q_t29 b10 list11
    simp only [GT.run] at h
    have hc := (cond_noneL h).1
    replace h := (cond_noneL h).2
    have hg := (and_split hc).1
    replace hc := (and_split hc).2
    obtain rfl := beq_li hg
    have hg := (and_split hc).1
    replace hc := (and_split hc).2
    obtain rfl := nbeq_nat hg
    refine ⟨F, (spec_PackedBoard_iter5 F list11 k F i8 b10).trans ((loopC_use (spec_PackedBoard_s5_nat F list11) hc _).trans h)⟩
  · simp only [GT.run] at h
    cases h
noncomputable def spec_PackedBoard_LS1 (F : Nat) : LT := (5, spec_PackedBoard_ls5 F) :: spec_PackedBoard_LS0 F
theorem spec_PackedBoard_lsok1 (F : Nat) : LoopsOK Try.prog (spec_PackedBoard_LS1 F) (bodyOf Try.f32) := loopsOK_cons spec_PackedBoard_keys (spec_PackedBoard_lok5 F) (spec_PackedBoard_lsok0 F)
theorem spec_PackedBoard_run (F : Nat) (sum0 : Int) : runS tt (spec_PackedBoard_tab F) (spec_PackedBoard_LS1 F) [] [] Try.f32 (bodyOf Try.f32) 70 [(.int .i64 sum0)] [] = spec_PackedBoard_c _ F sum0 (fun r => some ⟨(.tup [(.ints 16 r.1), (.bool r.2)]), [], []⟩) := by kernel_rfl
def spec_PackedBoard_ent (F : Nat) : Ent := ⟨[], .quiet, fun args mem => match args, mem with
  | [(.int .i64 sum0)], [] => some ((spec_PackedBoard_p F sum0).isSome, ⟨(.tup [(.ints 16 ((spec_PackedBoard_p F sum0).getD default).1), (.bool ((spec_PackedBoard_p F sum0).getD default).2)]), [], []⟩)
  | _, _ => none⟩
theorem spec_PackedBoard_fok : FunOK Try.prog 32 := funOK Try.func32 (by kernel_rfl) rfl
theorem spec_PackedBoard_meets (F : Nat) : Meets Try.prog 32 (spec_PackedBoard_ent F) := by
  refine meets_of_runS mixed ttok deep (spec_PackedBoard_tabok F) Try.func32 (body_some rfl) (spec_PackedBoard_lsok1 F) fun args mem hfit ret h => ?_
  clear hfit
  simp only [spec_PackedBoard_ent] at h
  split at h
  · rename_i sum0
    simp only [Option.some.injEq, Prod.mk.injEq] at h
    obtain ⟨hc, rfl⟩ := h
    exact ⟨[], [], 70, _, (spec_PackedBoard_run F sum0).trans ((spec_PackedBoard_cp _ F sum0 _).trans (bind_use hc _)), rfl, rfl, rfl⟩
  · cases h

/-! loop.example/g01194/spec.DrawIsPackedBoard -/
noncomputable def spec_DrawIsPackedBoard_tab (F : Nat) : Tab := [(18, (spec_l1Cur_board_ent F)), (19, (spec_l1Cur_one_ent F)), (33, (spec_l1Cur_sum7_ent F)), (32, (spec_PackedBoard_ent F))]
theorem spec_DrawIsPackedBoard_tabok (F : Nat) : TabOK Try.prog (spec_DrawIsPackedBoard_tab F) := (tab_cons (spec_l1Cur_board_meets F) spec_l1Cur_board_fok (tab_cons (spec_l1Cur_one_meets F) spec_l1Cur_one_fok (tab_cons (spec_l1Cur_sum7_meets F) spec_l1Cur_sum7_fok (tab_cons (spec_PackedBoard_meets F) spec_PackedBoard_fok tab_nil))))
noncomputable def spec_DrawIsPackedBoard_LS0 (F : Nat) : LT := []
theorem spec_DrawIsPackedBoard_lsok0 (F : Nat) : LoopsOK Try.prog (spec_DrawIsPackedBoard_LS0 F) (bodyOf Try.f12) := loopsOK_nil
theorem spec_DrawIsPackedBoard_run (F : Nat) (code0 : List Int) : runS tt (spec_DrawIsPackedBoard_tab F) (spec_DrawIsPackedBoard_LS0 F) [] [] Try.f12 (bodyOf Try.f12) 70 [(.ri .u8 code0)] [] = spec_DrawIsPackedBoard_c _ F code0 (fun r => some ⟨(.ints 16 r), [], []⟩) := by kernel_rfl
def spec_DrawIsPackedBoard_ent (F : Nat) : Ent := ⟨[], .quiet, fun args mem => match args, mem with
  | [(.ri .u8 code0)], [] => some ((spec_DrawIsPackedBoard_p F code0).isSome, ⟨(.ints 16 ((spec_DrawIsPackedBoard_p F code0).getD default)), [], []⟩)
  | _, _ => none⟩
theorem spec_DrawIsPackedBoard_fok : FunOK Try.prog 12 := funOK Try.func12 (by kernel_rfl) rfl
theorem spec_DrawIsPackedBoard_meets (F : Nat) : Meets Try.prog 12 (spec_DrawIsPackedBoard_ent F) := by
  refine meets_of_runS mixed ttok deep (spec_DrawIsPackedBoard_tabok F) Try.func12 (body_some rfl) (spec_DrawIsPackedBoard_lsok0 F) fun args mem hfit ret h => ?_
  clear hfit
  simp only [spec_DrawIsPackedBoard_ent] at h
  split at h
  · rename_i code0
    simp only [Option.some.injEq, Prod.mk.injEq] at h
    obtain ⟨hc, rfl⟩ := h
    exact ⟨[], [], 70, _, (spec_DrawIsPackedBoard_run F code0).trans ((spec_DrawIsPackedBoard_cp _ F code0 _).trans (bind_use hc _)), rfl, rfl, rfl⟩
  · cases h

/-! loop.example/g01194/impl.CountTiles -/
noncomputable def impl_CountTiles_tab (F : Nat) : Tab := [(22, (impl_IsBoard_ent F)), (50, (impl_cells_ent F)), (52, (impl_Board_at_ent F))]
theorem impl_CountTiles_tabok (F : Nat) : TabOK Try.prog (impl_CountTiles_tab F) := (tab_cons (impl_IsBoard_meets F) impl_IsBoard_fok (tab_cons (impl_cells_meets F) impl_cells_fok (tab_cons (impl_Board_at_meets F) impl_Board_at_fok tab_nil)))
noncomputable def impl_CountTiles_LS0 (F : Nat) : LT := []
theorem impl_CountTiles_lsok0 (F : Nat) : LoopsOK Try.prog (impl_CountTiles_LS0 F) (bodyOf Try.f34) := loopsOK_nil
theorem impl_CountTiles_keys : keysOK (bodyOf Try.f34) = true := by kernel_rfl
def impl_CountTiles_st5 (b13 : List Int) (t1412 : Int) (out15 : List Int) : St := ⟨expand 28 0 [1, 2, 4, 12, 13, 14] [(.ptr 0 0 0 16), (.ptr 1 0 0 18), (.ptr 2 0 0 18), (.sl 3 0 16), (.int .i64 (16 : Int)), (.int .i64 t1412)], [(.var 16 (.ri .i64 b13)), (.var 18 (.ri .i64 [(0 : Int), (0 : Int), (0 : Int), (0 : Int), (0 : Int), (0 : Int), (0 : Int), (0 : Int), (0 : Int), (0 : Int), (0 : Int), (0 : Int), (0 : Int), (0 : Int), (0 : Int), (0 : Int), (0 : Int), (0 : Int)])), (.var 18 (.ri .i64 out15)), (.vec 51 (.rr 2 [[(0 : Int), (0 : Int)], [(0 : Int), (1 : Int)], [(0 : Int), (2 : Int)], [(0 : Int), (3 : Int)], [(1 : Int), (0 : Int)], [(1 : Int), (1 : Int)], [(1 : Int), (2 : Int)], [(1 : Int), (3 : Int)], [(2 : Int), (0 : Int)], [(2 : Int), (1 : Int)], [(2 : Int), (2 : Int)], [(2 : Int), (3 : Int)], [(3 : Int), (0 : Int)], [(3 : Int), (1 : Int)], [(3 : Int), (2 : Int)], [(3 : Int), (3 : Int)]]))], 0, []⟩
def impl_CountTiles_o5 (b13 : List Int) (x : List Int) : GT := (.out (.exit 0 ⟨expand 28 0 [2, 4] [(.ptr 0 0 0 18), (.ptr 1 0 0 18)], [(.var 18 (.ri .i64 [(0 : Int), (0 : Int), (0 : Int), (0 : Int), (0 : Int), (0 : Int), (0 : Int), (0 : Int), (0 : Int), (0 : Int), (0 : Int), (0 : Int), (0 : Int), (0 : Int), (0 : Int), (0 : Int), (0 : Int), (0 : Int)])), (.var 18 (.ri .i64 x))], 0, []⟩))
def impl_CountTiles_ls5 (F : Nat) : LoopS := ⟨28, [1, 2, 4, 12, 13, 14], [], [2, 4], [], [2, 3], [], [], fun vals mem np killed => match vals, mem, np, killed with
  | [(.ptr 0 0 0 16), (.ptr 1 0 0 18), (.ptr 2 0 0 18), (.sl 3 0 q_t1210), (.int .i64 q_t1311), (.int .i64 t1412)], [(.var 16 (.ri .i64 b13)), (.var 18 (.ri .i64 q_t214)), (.var 18 (.ri .i64 out15)), (.vec 51 (.rr 2 q_t1216))], 0, [] => .br ((q_t1311 == (16 : Int)) && ((q_t214 == ([(0 : Int), (0 : Int), (0 : Int), (0 : Int), (0 : Int), (0 : Int), (0 : Int), (0 : Int), (0 : Int), (0 : Int), (0 : Int), (0 : Int), (0 : Int), (0 : Int), (0 : Int), (0 : Int), (0 : Int), (0 : Int)] : List Int)) && ((q_t1216 == ([[(0 : Int), (0 : Int)], [(0 : Int), (1 : Int)], [(0 : Int), (2 : Int)], [(0 : Int), (3 : Int)], [(1 : Int), (0 : Int)], [(1 : Int), (1 : Int)], [(1 : Int), (2 : Int)], [(1 : Int), (3 : Int)], [(2 : Int), (0 : Int)], [(2 : Int), (1 : Int)], [(2 : Int), (2 : Int)], [(2 : Int), (3 : Int)], [(3 : Int), (0 : Int)], [(3 : Int), (1 : Int)], [(3 : Int), (2 : Int)], [(3 : Int), (3 : Int)]] : List (List Int))) && ((Nat.beq q_t1210 16) && (impl_CountTiles_l5 F b13 t1412 out15).isSome)))) (impl_CountTiles_o5 b13 ((impl_CountTiles_l5 F b13 t1412 out15).getD default)) .fail
  | _, _, _, _ => .fail⟩
theorem impl_CountTiles_step5 (F : Nat) (b13 : List Int) (t1412 : Int) (out15 : List Int) {R : Type} (k : Out → Option R) : stepS tt (impl_CountTiles_tab F) (impl_CountTiles_LS0 F) 70 (impl_CountTiles_ls5 F) (loopAt 5 (bodyOf Try.f34)) (impl_CountTiles_st5 b13 t1412 out15) k = impl_CountTiles_s5 F b13 R (t1412, out15) (fun s => k (.norm (impl_CountTiles_st5 b13 s.1 s.2))) (fun x => (impl_CountTiles_o5 b13 x).run k) := by kernel_rfl
theorem impl_CountTiles_iter5 (F : Nat) (b13 : List Int) {R : Type} (k : Out → Option R) : ∀ (n : Nat) (t1412 : Int) (out15 : List Int), iterS tt (impl_CountTiles_tab F) (impl_CountTiles_LS0 F) 70 (impl_CountTiles_ls5 F) (loopAt 5 (bodyOf Try.f34)) n (impl_CountTiles_st5 b13 t1412 out15) k = loopC (impl_CountTiles_s5 F b13) n (t1412, out15) (fun x => (impl_CountTiles_o5 b13 x).run k)
  | 0, t1412, out15 => rfl
  | n + 1, t1412, out15 => (iterS_succ tt (impl_CountTiles_tab F) (impl_CountTiles_LS0 F) 70 (impl_CountTiles_ls5 F) (loopAt 5 (bodyOf Try.f34)) n (impl_CountTiles_st5 b13 t1412 out15) k).trans ((impl_CountTiles_step5 F b13 t1412 out15 (nextK (iterS tt (impl_CountTiles_tab F) (impl_CountTiles_LS0 F) 70 (impl_CountTiles_ls5 F) (loopAt 5 (bodyOf Try.f34)) n) k)).trans (congrArg (fun kn => impl_CountTiles_s5 F b13 R (t1412, out15) kn _) (funext (fun ⟨t1412, out15⟩ => impl_CountTiles_iter5 F b13 k n t1412 out15))))
theorem impl_CountTiles_lok5 (F : Nat) : LoopOK Try.prog (loopAt 5 (bodyOf Try.f34)) (impl_CountTiles_ls5 F) := by
  refine loopOK_of mixed ttok deep (impl_CountTiles_tabok F) (loopsOK_at (impl_CountTiles_lsok0 F) 5) (fuel := 70) fun R vals mem np killed k x h => ?_
  simp only [impl_CountTiles_ls5] at h
  split at h
  · rename_i q_t1210 q_t1311 t1412 b13 q_t214 out15 q_t1216
    simp only [GT.run] at h
    have hc := (cond_noneL h).1
    replace h := (cond_noneL h).2
    have hg := (and_split hc).1
    replace hc := (and_split hc).2
    obtain rfl := beq_int hg
    have hg := (and_split hc).1
    replace hc := (and_split hc).2
    obtain rfl := beq_li hg
    have hg := (and_split hc).1
    replace hc := (and_split hc).2
    obtain rfl := beq_lli hg
    have hg := (and_split hc).1
    replace hc := (and_split hc).2
    obtain rfl := nbeq_nat hg
    refine ⟨F, (impl_CountTiles_iter5 F b13 k F t1412 out15).trans ((loopC_use (impl_CountTiles_s5_nat F b13) hc _).trans h)⟩
  · simp only [GT.run] at h
    cases h
noncomputable def impl_CountTiles_LS1 (F : Nat) : LT := (5, impl_CountTiles_ls5 F) :: impl_CountTiles_LS0 F
theorem impl_CountTiles_lsok1 (F : Nat) : LoopsOK Try.prog (impl_CountTiles_LS1 F) (bodyOf Try.f34) := loopsOK_cons impl_CountTiles_keys (impl_CountTiles_lok5 F) (impl_CountTiles_lsok0 F)
theorem impl_CountTiles_run (F : Nat) (b0 : List Int) : runS tt (impl_CountTiles_tab F) (impl_CountTiles_LS1 F) [] [] Try.f34 (bodyOf Try.f34) 70 [(.ints 16 b0)] [] = impl_CountTiles_c _ F b0 (fun r => some ⟨(.tup [(.ints 18 r.1), (.bool r.2)]), [], []⟩) := by kernel_rfl
def impl_CountTiles_ent (F : Nat) : Ent := ⟨[], .quiet, fun args mem => match args, mem with
  | [(.ints 16 b0)], [] => some ((impl_CountTiles_p F b0).isSome, ⟨(.tup [(.ints 18 ((impl_CountTiles_p F b0).getD default).1), (.bool ((impl_CountTiles_p F b0).getD default).2)]), [], []⟩)
  | _, _ => none⟩
theorem impl_CountTiles_fok : FunOK Try.prog 34 := funOK Try.func34 (by kernel_rfl) rfl
theorem impl_CountTiles_meets (F : Nat) : Meets Try.prog 34 (impl_CountTiles_ent F) := by
  refine meets_of_runS mixed ttok deep (impl_CountTiles_tabok F) Try.func34 (body_some rfl) (impl_CountTiles_lsok1 F) fun args mem hfit ret h => ?_
  clear hfit
  simp only [impl_CountTiles_ent] at h
  split at h
  · rename_i b0
    simp only [Option.some.injEq, Prod.mk.injEq] at h
    obtain ⟨hc, rfl⟩ := h
    exact ⟨[], [], 70, _, (impl_CountTiles_run F b0).trans ((impl_CountTiles_cp _ F b0 _).trans (bind_use hc _)), rfl, rfl, rfl⟩
  · cases h

/-! loop.example/g01194/impl.IsPackedBoard$1 -/
noncomputable def impl_IsPackedBoard_f1_tab (F : Nat) : Tab := []
theorem impl_IsPackedBoard_f1_tabok (F : Nat) : TabOK Try.prog (impl_IsPackedBoard_f1_tab F) := tab_nil
noncomputable def impl_IsPackedBoard_f1_LS0 (F : Nat) : LT := []
theorem impl_IsPackedBoard_f1_lsok0 (F : Nat) : LoopsOK Try.prog (impl_IsPackedBoard_f1_LS0 F) (bodyOf Try.f36) := loopsOK_nil
theorem impl_IsPackedBoard_f1_run (F : Nat) (n0 : Int) : runS tt (impl_IsPackedBoard_f1_tab F) (impl_IsPackedBoard_f1_LS0 F) [] [] Try.f36 (bodyOf Try.f36) 70 [(.int .i64 n0)] [] = impl_IsPackedBoard_f1_c _ n0 (fun r => some ⟨(.bool r), [], []⟩) := by kernel_rfl
def impl_IsPackedBoard_f1_ent (F : Nat) : Ent := ⟨[], .quiet, fun args mem => match args, mem with
  | [(.int .i64 n0)], [] => some (true, ⟨(.bool (impl_IsPackedBoard_f1_v n0)), [], []⟩)
  | _, _ => none⟩
theorem impl_IsPackedBoard_f1_fok : FunOK Try.prog 36 := funOK Try.func36 (by kernel_rfl) rfl
theorem impl_IsPackedBoard_f1_meets (F : Nat) : Meets Try.prog 36 (impl_IsPackedBoard_f1_ent F) := by
  refine meets_of_runS mixed ttok deep (impl_IsPackedBoard_f1_tabok F) Try.func36 (body_some rfl) (impl_IsPackedBoard_f1_lsok0 F) fun args mem hfit ret h => ?_
  clear hfit
  simp only [impl_IsPackedBoard_f1_ent] at h
  split at h
  · rename_i n0
    simp only [Option.some.injEq, Prod.mk.injEq] at h
    obtain ⟨hc, rfl⟩ := h
    exact ⟨[], [], 70, _, (impl_IsPackedBoard_f1_run F n0).trans (impl_IsPackedBoard_f1_cv _ n0 _), rfl, rfl, rfl⟩
  · cases h

/-! slices.IndexFunc[[]int,int] -/
noncomputable def slices_IndexFunc_intint_impl_IsPackedBoard_f1_tab (F : Nat) : Tab := [(36, (impl_IsPackedBoard_f1_ent F))]
theorem slices_IndexFunc_intint_impl_IsPackedBoard_f1_tabok (F : Nat) : TabOK Try.prog (slices_IndexFunc_intint_impl_IsPackedBoard_f1_tab F) := (tab_cons (impl_IsPackedBoard_f1_meets F) impl_IsPackedBoard_f1_fok tab_nil)
noncomputable def slices_IndexFunc_intint_impl_IsPackedBoard_f1_LS0 (F : Nat) : LT := []
theorem slices_IndexFunc_intint_impl_IsPackedBoard_f1_lsok0 (F : Nat) : LoopsOK Try.prog (slices_IndexFunc_intint_impl_IsPackedBoard_f1_LS0 F) (bodyOf Try.f59) := loopsOK_nil
theorem slices_IndexFunc_intint_impl_IsPackedBoard_f1_keys : keysOK (bodyOf Try.f59) = true := by kernel_rfl
def slices_IndexFunc_intint_impl_IsPackedBoard_f1_st2 (s0 : List Int) (t71 : Int) (t82 : Int) : St := ⟨expand 19 0 [0, 1, 7, 8] [(.ri .i64 s0), (.fn 36 [] []), (.int .i64 t71), (.int .i64 t82)], [], 0, []⟩
def slices_IndexFunc_intint_impl_IsPackedBoard_f1_o2 (s0 : List Int) (t71 : Int) (x : Bool × Int) : GT := (.br x.1 (.out (.ret ⟨expand 19 0 [4] [(.int .i64 x.2)], [], 0, []⟩)) (.out (.exit 0 ⟨expand 19 0 [] [], [], 0, []⟩)))
def slices_IndexFunc_intint_impl_IsPackedBoard_f1_ls2 (F : Nat) : LoopS := ⟨19, [0, 1, 7, 8], [], [], [], [4], [], [], fun vals mem np killed => match vals, mem, np, killed with
  | [(.ri .i64 s0), (.fn 36 [] []), (.int .i64 t71), (.int .i64 t82)], [], 0, [] => .br (slices_IndexFunc_intint_impl_IsPackedBoard_f1_l2 F s0 t71 t82).isSome (slices_IndexFunc_intint_impl_IsPackedBoard_f1_o2 s0 t71 ((slices_IndexFunc_intint_impl_IsPackedBoard_f1_l2 F s0 t71 t82).getD default)) .fail
  | _, _, _, _ => .fail⟩
theorem slices_IndexFunc_intint_impl_IsPackedBoard_f1_step2 (F : Nat) (s0 : List Int) (t71 : Int) (t82 : Int) {R : Type} (k : Out → Option R) : stepS tt (slices_IndexFunc_intint_impl_IsPackedBoard_f1_tab F) (slices_IndexFunc_intint_impl_IsPackedBoard_f1_LS0 F) 70 (slices_IndexFunc_intint_impl_IsPackedBoard_f1_ls2 F) (loopAt 2 (bodyOf Try.f59)) (slices_IndexFunc_intint_impl_IsPackedBoard_f1_st2 s0 t71 t82) k = slices_IndexFunc_intint_impl_IsPackedBoard_f1_s2 F s0 t71 R t82 (fun s => k (.norm (slices_IndexFunc_intint_impl_IsPackedBoard_f1_st2 s0 t71 s))) (fun x => (slices_IndexFunc_intint_impl_IsPackedBoard_f1_o2 s0 t71 x).run k) := by kernel_rfl
theorem slices_IndexFunc_intint_impl_IsPackedBoard_f1_iter2 (F : Nat) (s0 : List Int) (t71 : Int) {R : Type} (k : Out → Option R) : ∀ (n : Nat) (t82 : Int), iterS tt (slices_IndexFunc_intint_impl_IsPackedBoard_f1_tab F) (slices_IndexFunc_intint_impl_IsPackedBoard_f1_LS0 F) 70 (slices_IndexFunc_intint_impl_IsPackedBoard_f1_ls2 F) (loopAt 2 (bodyOf Try.f59)) n (slices_IndexFunc_intint_impl_IsPackedBoard_f1_st2 s0 t71 t82) k = loopC (slices_IndexFunc_intint_impl_IsPackedBoard_f1_s2 F s0 t71) n t82 (fun x => (slices_IndexFunc_intint_impl_IsPackedBoard_f1_o2 s0 t71 x).run k)
  | 0, t82 => rfl
  | n + 1, t82 => (iterS_succ tt (slices_IndexFunc_intint_impl_IsPackedBoard_f1_tab F) (slices_IndexFunc_intint_impl_IsPackedBoard_f1_LS0 F) 70 (slices_IndexFunc_intint_impl_IsPackedBoard_f1_ls2 F) (loopAt 2 (bodyOf Try.f59)) n (slices_IndexFunc_intint_impl_IsPackedBoard_f1_st2 s0 t71 t82) k).trans ((slices_IndexFunc_intint_impl_IsPackedBoard_f1_step2 F s0 t71 t82 (nextK (iterS tt (slices_IndexFunc_intint_impl_IsPackedBoard_f1_tab F) (slices_IndexFunc_intint_impl_IsPackedBoard_f1_LS0 F) 70 (slices_IndexFunc_intint_impl_IsPackedBoard_f1_ls2 F) (loopAt 2 (bodyOf Try.f59)) n) k)).trans (congrArg (fun kn => slices_IndexFunc_intint_impl_IsPackedBoard_f1_s2 F s0 t71 R t82 kn _) (funext (fun t82 => slices_IndexFunc_intint_impl_IsPackedBoard_f1_iter2 F s0 t71 k n t82))))
theorem slices_IndexFunc_intint_impl_IsPackedBoard_f1_lok2 (F : Nat) : LoopOK Try.prog (loopAt 2 (bodyOf Try.f59)) (slices_IndexFunc_intint_impl_IsPackedBoard_f1_ls2 F) := by
  refine loopOK_of mixed ttok deep (slices_IndexFunc_intint_impl_IsPackedBoard_f1_tabok F) (loopsOK_at (slices_IndexFunc_intint_impl_IsPackedBoard_f1_lsok0 F) 2) (fuel := 70) fun R vals mem np killed k x h => ?_
  simp only [slices_IndexFunc_intint_impl_IsPackedBoard_f1_ls2] at h
  split at h
  · rename_i s0 t71 t82
    simp only [GT.run] at h
    have hc := (cond_noneL h).1
    replace h := (cond_noneL h).2
    refine ⟨F, (slices_IndexFunc_intint_impl_IsPackedBoard_f1_iter2 F s0 t71 k F t82).trans ((loopC_use (slices_IndexFunc_intint_impl_IsPackedBoard_f1_s2_nat F s0 t71) hc _).trans h)⟩
  · simp only [GT.run] at h
    cases h
noncomputable def slices_IndexFunc_intint_impl_IsPackedBoard_f1_LS1 (F : Nat) : LT := (2, slices_IndexFunc_intint_impl_IsPackedBoard_f1_ls2 F) :: slices_IndexFunc_intint_impl_IsPackedBoard_f1_LS0 F
theorem slices_IndexFunc_intint_impl_IsPackedBoard_f1_lsok1 (F : Nat) : LoopsOK Try.prog (slices_IndexFunc_intint_impl_IsPackedBoard_f1_LS1 F) (bodyOf Try.f59) := loopsOK_cons slices_IndexFunc_intint_impl_IsPackedBoard_f1_keys (slices_IndexFunc_intint_impl_IsPackedBoard_f1_lok2 F) (slices_IndexFunc_intint_impl_IsPackedBoard_f1_lsok0 F)
theorem slices_IndexFunc_intint_impl_IsPackedBoard_f1_run (F : Nat) (s0 : List Int) : runS tt (slices_IndexFunc_intint_impl_IsPackedBoard_f1_tab F) (slices_IndexFunc_intint_impl_IsPackedBoard_f1_LS1 F) [] [] Try.f59 (bodyOf Try.f59) 70 [(.ri .i64 s0), (.fn 36 [] [])] [] = slices_IndexFunc_intint_impl_IsPackedBoard_f1_c _ F s0 (fun r => some ⟨(.int .i64 r), [], []⟩) := by kernel_rfl
def slices_IndexFunc_intint_impl_IsPackedBoard_f1_ent (F : Nat) : Ent := ⟨[], .quiet, fun args mem => match args, mem with
  | [(.ri .i64 s0), (.fn 36 [] [])], [] => some ((slices_IndexFunc_intint_impl_IsPackedBoard_f1_p F s0).isSome, ⟨(.int .i64 ((slices_IndexFunc_intint_impl_IsPackedBoard_f1_p F s0).getD default)), [], []⟩)
  | _, _ => none⟩
theorem slices_IndexFunc_intint_impl_IsPackedBoard_f1_fok : FunOK Try.prog 59 := funOK Try.func59 (by kernel_rfl) rfl
theorem slices_IndexFunc_intint_impl_IsPackedBoard_f1_meets (F : Nat) : Meets Try.prog 59 (slices_IndexFunc_intint_impl_IsPackedBoard_f1_ent F) := by
  refine meets_of_runS mixed ttok deep (slices_IndexFunc_intint_impl_IsPackedBoard_f1_tabok F) Try.func59 (body_some rfl) (slices_IndexFunc_intint_impl_IsPackedBoard_f1_lsok1 F) fun args mem hfit ret h => ?_
  clear hfit
  simp only [slices_IndexFunc_intint_impl_IsPackedBoard_f1_ent] at h
  split at h
  · rename_i s0
    simp only [Option.some.injEq, Prod.mk.injEq] at h
    obtain ⟨hc, rfl⟩ := h
    exact ⟨[], [], 70, _, (slices_IndexFunc_intint_impl_IsPackedBoard_f1_run F s0).trans ((slices_IndexFunc_intint_impl_IsPackedBoard_f1_cp _ F s0 _).trans (bind_use hc _)), rfl, rfl, rfl⟩
  · cases h

/-! slices.ContainsFunc[[]int,int] -/
noncomputable def slices_ContainsFunc_intint_impl_IsPackedBoard_f1_tab (F : Nat) : Tab := [(59, (slices_IndexFunc_intint_impl_IsPackedBoard_f1_ent F))]
theorem slices_ContainsFunc_intint_impl_IsPackedBoard_f1_tabok (F : Nat) : TabOK Try.prog (slices_ContainsFunc_intint_impl_IsPackedBoard_f1_tab F) := (tab_cons (slices_IndexFunc_intint_impl_IsPackedBoard_f1_meets F) slices_IndexFunc_intint_impl_IsPackedBoard_f1_fok tab_nil)
noncomputable def slices_ContainsFunc_intint_impl_IsPackedBoard_f1_LS0 (F : Nat) : LT := []
theorem slices_ContainsFunc_intint_impl_IsPackedBoard_f1_lsok0 (F : Nat) : LoopsOK Try.prog (slices_ContainsFunc_intint_impl_IsPackedBoard_f1_LS0 F) (bodyOf Try.f35) := loopsOK_nil
theorem slices_ContainsFunc_intint_impl_IsPackedBoard_f1_run (F : Nat) (s0 : List Int) : runS tt (slices_ContainsFunc_intint_impl_IsPackedBoard_f1_tab F) (slices_ContainsFunc_intint_impl_IsPackedBoard_f1_LS0 F) [] [] Try.f35 (bodyOf Try.f35) 70 [(.ri .i64 s0), (.fn 36 [] [])] [] = slices_ContainsFunc_intint_impl_IsPackedBoard_f1_c _ F s0 (fun r => some ⟨(.bool r), [], []⟩) := by kernel_rfl
def slices_ContainsFunc_intint_impl_IsPackedBoard_f1_ent (F : Nat) : Ent := ⟨[], .quiet, fun args mem => match args, mem with
  | [(.ri .i64 s0), (.fn 36 [] [])], [] => some ((slices_ContainsFunc_intint_impl_IsPackedBoard_f1_p F s0).isSome, ⟨(.bool ((slices_ContainsFunc_intint_impl_IsPackedBoard_f1_p F s0).getD default)), [], []⟩)
  | _, _ => none⟩
theorem slices_ContainsFunc_intint_impl_IsPackedBoard_f1_fok : FunOK Try.prog 35 := funOK Try.func35 (by kernel_rfl) rfl
theorem slices_ContainsFunc_intint_impl_IsPackedBoard_f1_meets (F : Nat) : Meets Try.prog 35 (slices_ContainsFunc_intint_impl_IsPackedBoard_f1_ent F) := by
  refine meets_of_runS mixed ttok deep (slices_ContainsFunc_intint_impl_IsPackedBoard_f1_tabok F) Try.func35 (body_some rfl) (slices_ContainsFunc_intint_impl_IsPackedBoard_f1_lsok0 F) fun args mem hfit ret h => ?_
  clear hfit
  simp only [slices_ContainsFunc_intint_impl_IsPackedBoard_f1_ent] at h
  split at h
  · rename_i s0
    simp only [Option.some.injEq, Prod.mk.injEq] at h
    obtain ⟨hc, rfl⟩ := h
    exact ⟨[], [], 70, _, (slices_ContainsFunc_intint_impl_IsPackedBoard_f1_run F s0).trans ((slices_ContainsFunc_intint_impl_IsPackedBoard_f1_cp _ F s0 _).trans (bind_use hc _)), rfl, rfl, rfl⟩
  · cases h

/-! loop.example/g01194/impl.IsPackedBoard -/
noncomputable def impl_IsPackedBoard_tab (F : Nat) : Tab := [(34, (impl_CountTiles_ent F)), (35, (slices_ContainsFunc_intint_impl_IsPackedBoard_f1_ent F))]
theorem impl_IsPackedBoard_tabok (F : Nat) : TabOK Try.prog (impl_IsPackedBoard_tab F) := (tab_cons (impl_CountTiles_meets F) impl_CountTiles_fok (tab_cons (slices_ContainsFunc_intint_impl_IsPackedBoard_f1_meets F) slices_ContainsFunc_intint_impl_IsPackedBoard_f1_fok tab_nil))
noncomputable def impl_IsPackedBoard_LS0 (F : Nat) : LT := []
theorem impl_IsPackedBoard_lsok0 (F : Nat) : LoopsOK Try.prog (impl_IsPackedBoard_LS0 F) (bodyOf Try.f13) := loopsOK_nil
theorem impl_IsPackedBoard_run (F : Nat) (b0 : List Int) : runS tt (impl_IsPackedBoard_tab F) (impl_IsPackedBoard_LS0 F) [] [] Try.f13 (bodyOf Try.f13) 70 [(.ints 16 b0)] [] = impl_IsPackedBoard_c _ F b0 (fun r => some ⟨(.tup [(.bool r.1), (.bool r.2)]), [], []⟩) := by kernel_rfl
def impl_IsPackedBoard_ent (F : Nat) : Ent := ⟨[], .quiet, fun args mem => match args, mem with
  | [(.ints 16 b0)], [] => some ((impl_IsPackedBoard_p F b0).isSome, ⟨(.tup [(.bool ((impl_IsPackedBoard_p F b0).getD default).1), (.bool ((impl_IsPackedBoard_p F b0).getD default).2)]), [], []⟩)
  | _, _ => none⟩
theorem impl_IsPackedBoard_fok : FunOK Try.prog 13 := funOK Try.func13 (by kernel_rfl) rfl
theorem impl_IsPackedBoard_meets (F : Nat) : Meets Try.prog 13 (impl_IsPackedBoard_ent F) := by
  refine meets_of_runS mixed ttok deep (impl_IsPackedBoard_tabok F) Try.func13 (body_some rfl) (impl_IsPackedBoard_lsok0 F) fun args mem hfit ret h => ?_
  clear hfit
  simp only [impl_IsPackedBoard_ent] at h
  split at h
  · rename_i b0
    simp only [Option.some.injEq, Prod.mk.injEq] at h
    obtain ⟨hc, rfl⟩ := h
    exact ⟨[], [], 70, _, (impl_IsPackedBoard_run F b0).trans ((impl_IsPackedBoard_cp _ F b0 _).trans (bind_use hc _)), rfl, rfl, rfl⟩
  · cases h

/-! loop.example/g01194/spec.CountTiles -/
noncomputable def spec_CountTiles_tab (F : Nat) : Tab := [(24, (spec_l2Board_ent F))]
theorem spec_CountTiles_tabok (F : Nat) : TabOK Try.prog (spec_CountTiles_tab F) := (tab_cons (spec_l2Board_meets F) spec_l2Board_fok tab_nil)
noncomputable def spec_CountTiles_LS0 (F : Nat) : LT := []
theorem spec_CountTiles_lsok0 (F : Nat) : LoopsOK Try.prog (spec_CountTiles_LS0 F) (bodyOf Try.f37) := loopsOK_nil
theorem spec_CountTiles_keys : keysOK (bodyOf Try.f37) = true := by kernel_rfl
def spec_CountTiles_st5 (b10 : List Int) (r9 : Int) (out12 : List Int) : St := ⟨expand 31 0 [1, 2, 4, 5] [(.ptr 0 0 0 16), (.ptr 1 0 0 18), (.ptr 2 0 0 18), (.int .i64 r9)], [(.var 16 (.ri .i64 b10)), (.var 18 (.ri .i64 [(0 : Int), (0 : Int), (0 : Int), (0 : Int), (0 : Int), (0 : Int), (0 : Int), (0 : Int), (0 : Int), (0 : Int), (0 : Int), (0 : Int), (0 : Int), (0 : Int), (0 : Int), (0 : Int), (0 : Int), (0 : Int)])), (.var 18 (.ri .i64 out12))], 0, []⟩
def spec_CountTiles_o5 (b10 : List Int) (x : List Int) : GT := (.out (.exit 0 ⟨expand 31 0 [2, 4] [(.ptr 0 0 0 18), (.ptr 1 0 0 18)], [(.var 18 (.ri .i64 [(0 : Int), (0 : Int), (0 : Int), (0 : Int), (0 : Int), (0 : Int), (0 : Int), (0 : Int), (0 : Int), (0 : Int), (0 : Int), (0 : Int), (0 : Int), (0 : Int), (0 : Int), (0 : Int), (0 : Int), (0 : Int)])), (.var 18 (.ri .i64 x))], 0, []⟩))
def spec_CountTiles_ls5 (F : Nat) : LoopS := ⟨31, [1, 2, 4, 5], [], [2, 4], [], [2, 3], [], [], fun vals mem np killed => match vals, mem, np, killed with
  | [(.ptr 0 0 0 16), (.ptr 1 0 0 18), (.ptr 2 0 0 18), (.int .i64 r9)], [(.var 16 (.ri .i64 b10)), (.var 18 (.ri .i64 q_t211)), (.var 18 (.ri .i64 out12))], 0, [] => .br ((q_t211 == ([(0 : Int), (0 : Int), (0 : Int), (0 : Int), (0 : Int), (0 : Int), (0 : Int), (0 : Int), (0 : Int), (0 : Int), (0 : Int), (0 : Int), (0 : Int), (0 : Int), (0 : Int), (0 : Int), (0 : Int), (0 : Int)] : List Int)) && (spec_CountTiles_l5 F b10 r9 out12).isSome) (spec_CountTiles_o5 b10 ((spec_CountTiles_l5 F b10 r9 out12).getD default)) .fail
  | _, _, _, _ => .fail⟩
theorem spec_CountTiles_step5 (F : Nat) (b10 : List Int) (r9 : Int) (out12 : List Int) {R : Type} (k : Out → Option R) : stepS tt (spec_CountTiles_tab F) (spec_CountTiles_LS0 F) 70 (spec_CountTiles_ls5 F) (loopAt 5 (bodyOf Try.f37)) (spec_CountTiles_st5 b10 r9 out12) k = spec_CountTiles_s5 F b10 R (r9, out12) (fun s => k (.norm (spec_CountTiles_st5 b10 s.1 s.2))) (fun x => (spec_CountTiles_o5 b10 x).run k) := by kernel_rfl
theorem spec_CountTiles_iter5 (F : Nat) (b10 : List Int) {R : Type} (k : Out → Option R) : ∀ (n : Nat) (r9 : Int) (out12 : List Int), iterS tt (spec_CountTiles_tab F) (spec_CountTiles_LS0 F) 70 (spec_CountTiles_ls5 F) (loopAt 5 (bodyOf Try.f37)) n (spec_CountTiles_st5 b10 r9 out12) k = loopC (spec_CountTiles_s5 F b10) n (r9, out12) (fun x => (spec_CountTiles_o5 b10 x).run k)
  | 0, r9, out12 => rfl
  | n + 1, r9, out12 => (iterS_succ tt (spec_CountTiles_tab F) (spec_CountTiles_LS0 F) 70 (spec_CountTiles_ls5 F) (loopAt 5 (bodyOf Try.f37)) n (spec_CountTiles_st5 b10 r9 out12) k).trans ((spec_CountTiles_step5 F b10 r9 out12 (nextK (iterS tt (spec_CountTiles_tab F) (spec_CountTiles_LS0 F) 70 (spec_CountTiles_ls5 F) (loopAt 5 (bodyOf Try.f37)) n) k)).trans (congrArg (fun kn => spec_CountTiles_s5 F b10 R (r9, out12) kn _) (funext (fun ⟨r9, out12⟩ => spec_CountTiles_iter5 F b10 k n r9 out12))))
theorem spec_CountTiles_lok5 (F : Nat) : LoopOK Try.prog (loopAt 5 (bodyOf Try.f37)) (spec_CountTiles_ls5 F) := by
  refine loopOK_of mixed ttok deep (spec_CountTiles_tabok F) (loopsOK_at (spec_CountTiles_lsok0 F) 5) (fuel := 70) fun R vals mem np killed k x h => ?_
  simp only [spec_CountTiles_ls5] at h
  split at h
  · rename_i r9 b10 q_t211 out12
    simp only [GT.run] at h
    have hc := (cond_noneL h).1
    replace h := (cond_noneL h).2
    have hg := (and_split hc).1
    replace hc := (and_split hc).2
    obtain rfl := beq_li hg
    refine ⟨F, (spec_CountTiles_iter5 F b10 k F r9 out12).trans ((loopC_use (spec_CountTiles_s5_nat F b10) hc _).trans h)⟩
  · simp only [GT.run] at h
    cases h
noncomputable def spec_CountTiles_LS1 (F : Nat) : LT := (5, spec_CountTiles_ls5 F) :: spec_CountTiles_LS0 F
theorem spec_CountTiles_lsok1 (F : Nat) : LoopsOK Try.prog (spec_CountTiles_LS1 F) (bodyOf Try.f37) := loopsOK_cons spec_CountTiles_keys (spec_CountTiles_lok5 F) (spec_CountTiles_lsok0 F)
theorem spec_CountTiles_run (F : Nat) (b0 : List Int) : runS tt (spec_CountTiles_tab F) (spec_CountTiles_LS1 F) [] [] Try.f37 (bodyOf Try.f37) 70 [(.ints 16 b0)] [] = spec_CountTiles_c _ F b0 (fun r => some ⟨(.tup [(.ints 18 r.1), (.bool r.2)]), [], []⟩) := by kernel_rfl
def spec_CountTiles_ent (F : Nat) : Ent := ⟨[], .quiet, fun args mem => match args, mem with
  | [(.ints 16 b0)], [] => some ((spec_CountTiles_p F b0).isSome, ⟨(.tup [(.ints 18 ((spec_CountTiles_p F b0).getD default).1), (.bool ((spec_CountTiles_p F b0).getD default).2)]), [], []⟩)
  | _, _ => none⟩
theorem spec_CountTiles_fok : FunOK Try.prog 37 := funOK Try.func37 (by kernel_rfl) rfl
theorem spec_CountTiles_meets (F : Nat) : Meets Try.prog 37 (spec_CountTiles_ent F) := by
  refine meets_of_runS mixed ttok deep (spec_CountTiles_tabok F) Try.func37 (body_some rfl) (spec_CountTiles_lsok1 F) fun args mem hfit ret h => ?_
  clear hfit
  simp only [spec_CountTiles_ent] at h
  split at h
  · rename_i b0
    simp only [Option.some.injEq, Prod.mk.injEq] at h
    obtain ⟨hc, rfl⟩ := h
    exact ⟨[], [], 70, _, (spec_CountTiles_run F b0).trans ((spec_CountTiles_cp _ F b0 _).trans (bind_use hc _)), rfl, rfl, rfl⟩
  · cases h

/-! loop.example/g01194/spec.IsPackedBoard -/
noncomputable def spec_IsPackedBoard_tab (F : Nat) : Tab := [(37, (spec_CountTiles_ent F))]
theorem spec_IsPackedBoard_tabok (F : Nat) : TabOK Try.prog (spec_IsPackedBoard_tab F) := (tab_cons (spec_CountTiles_meets F) spec_CountTiles_fok tab_nil)
noncomputable def spec_IsPackedBoard_LS0 (F : Nat) : LT := []
theorem spec_IsPackedBoard_lsok0 (F : Nat) : LoopsOK Try.prog (spec_IsPackedBoard_LS0 F) (bodyOf Try.f14) := loopsOK_nil
theorem spec_IsPackedBoard_keys : keysOK (bodyOf Try.f14) = true := by kernel_rfl
def spec_IsPackedBoard_st3 (ok3 : Bool) (counts5 : List Int) (t4 : Int) : St := ⟨expand 22 0 [4, 5, 6] [(.ptr 0 0 0 18), (.bool ok3), (.int .i64 t4)], [(.var 18 (.ri .i64 counts5))], 0, []⟩
def spec_IsPackedBoard_o3 (ok3 : Bool) (counts5 : List Int) (x : Bool) : GT := (.br x (.out (.ret ⟨expand 22 0 [2, 3] [(.bool false), (.bool true)], [], 0, []⟩)) (.out (.exit 0 ⟨expand 22 0 [5] [(.bool ok3)], [], 0, []⟩)))
def spec_IsPackedBoard_ls3 (F : Nat) : LoopS := ⟨22, [4, 5, 6], [], [5], [], [2, 3], [], [], fun vals mem np killed => match vals, mem, np, killed with
  | [(.ptr 0 0 0 18), (.bool ok3), (.int .i64 t4)], [(.var 18 (.ri .i64 counts5))], 0, [] => .br (spec_IsPackedBoard_l3 F ok3 counts5 t4).isSome (spec_IsPackedBoard_o3 ok3 counts5 ((spec_IsPackedBoard_l3 F ok3 counts5 t4).getD default)) .fail
  | _, _, _, _ => .fail⟩
theorem spec_IsPackedBoard_step3 (F : Nat) (ok3 : Bool) (counts5 : List Int) (t4 : Int) {R : Type} (k : Out → Option R) : stepS tt (spec_IsPackedBoard_tab F) (spec_IsPackedBoard_LS0 F) 70 (spec_IsPackedBoard_ls3 F) (loopAt 3 (bodyOf Try.f14)) (spec_IsPackedBoard_st3 ok3 counts5 t4) k = spec_IsPackedBoard_s3 F ok3 counts5 R t4 (fun s => k (.norm (spec_IsPackedBoard_st3 ok3 counts5 s))) (fun x => (spec_IsPackedBoard_o3 ok3 counts5 x).run k) := by kernel_rfl
theorem spec_IsPackedBoard_iter3 (F : Nat) (ok3 : Bool) (counts5 : List Int) {R : Type} (k : Out → Option R) : ∀ (n : Nat) (t4 : Int), iterS tt (spec_IsPackedBoard_tab F) (spec_IsPackedBoard_LS0 F) 70 (spec_IsPackedBoard_ls3 F) (loopAt 3 (bodyOf Try.f14)) n (spec_IsPackedBoard_st3 ok3 counts5 t4) k = loopC (spec_IsPackedBoard_s3 F ok3 counts5) n t4 (fun x => (spec_IsPackedBoard_o3 ok3 counts5 x).run k)
  | 0, t4 => rfl
  | n + 1, t4 => (iterS_succ tt (spec_IsPackedBoard_tab F) (spec_IsPackedBoard_LS0 F) 70 (spec_IsPackedBoard_ls3 F) (loopAt 3 (bodyOf Try.f14)) n (spec_IsPackedBoard_st3 ok3 counts5 t4) k).trans ((spec_IsPackedBoard_step3 F ok3 counts5 t4 (nextK (iterS tt (spec_IsPackedBoard_tab F) (spec_IsPackedBoard_LS0 F) 70 (spec_IsPackedBoard_ls3 F) (loopAt 3 (bodyOf Try.f14)) n) k)).trans (congrArg (fun kn => spec_IsPackedBoard_s3 F ok3 counts5 R t4 kn _) (funext (fun t4 => spec_IsPackedBoard_iter3 F ok3 counts5 k n t4))))
theorem spec_IsPackedBoard_lok3 (F : Nat) : LoopOK Try.prog (loopAt 3 (bodyOf Try.f14)) (spec_IsPackedBoard_ls3 F) := by
  refine loopOK_of mixed ttok deep (spec_IsPackedBoard_tabok F) (loopsOK_at (spec_IsPackedBoard_lsok0 F) 3) (fuel := 70) fun R vals mem np killed k x h => ?_
  simp only [spec_IsPackedBoard_ls3] at h
  split at h
  · rename_i ok3 t4 counts5
    simp only [GT.run] at h
    have hc := (cond_noneL h).1
    replace h := (cond_noneL h).2
    refine ⟨F, (spec_IsPackedBoard_iter3 F ok3 counts5 k F t4).trans ((loopC_use (spec_IsPackedBoard_s3_nat F ok3 counts5) hc _).trans h)⟩
  · simp only [GT.run] at h
    cases h
noncomputable def spec_IsPackedBoard_LS1 (F : Nat) : LT := (3, spec_IsPackedBoard_ls3 F) :: spec_IsPackedBoard_LS0 F
theorem spec_IsPackedBoard_lsok1 (F : Nat) : LoopsOK Try.prog (spec_IsPackedBoard_LS1 F) (bodyOf Try.f14) := loopsOK_cons spec_IsPackedBoard_keys (spec_IsPackedBoard_lok3 F) (spec_IsPackedBoard_lsok0 F)
theorem spec_IsPackedBoard_run (F : Nat) (b0 : List Int) : runS tt (spec_IsPackedBoard_tab F) (spec_IsPackedBoard_LS1 F) [] [] Try.f14 (bodyOf Try.f14) 70 [(.ints 16 b0)] [] = spec_IsPackedBoard_c _ F b0 (fun r => some ⟨(.tup [(.bool r.1), (.bool r.2)]), [], []⟩) := by kernel_rfl
def spec_IsPackedBoard_ent (F : Nat) : Ent := ⟨[], .quiet, fun args mem => match args, mem with
  | [(.ints 16 b0)], [] => some ((spec_IsPackedBoard_p F b0).isSome, ⟨(.tup [(.bool ((spec_IsPackedBoard_p F b0).getD default).1), (.bool ((spec_IsPackedBoard_p F b0).getD default).2)]), [], []⟩)
  | _, _ => none⟩
theorem spec_IsPackedBoard_fok : FunOK Try.prog 14 := funOK Try.func14 (by kernel_rfl) rfl
theorem spec_IsPackedBoard_meets (F : Nat) : Meets Try.prog 14 (spec_IsPackedBoard_ent F) := by
  refine meets_of_runS mixed ttok deep (spec_IsPackedBoard_tabok F) Try.func14 (body_some rfl) (spec_IsPackedBoard_lsok1 F) fun args mem hfit ret h => ?_
  clear hfit
  simp only [spec_IsPackedBoard_ent] at h
  split at h
  · rename_i b0
    simp only [Option.some.injEq, Prod.mk.injEq] at h
    obtain ⟨hc, rfl⟩ := h
    exact ⟨[], [], 70, _, (spec_IsPackedBoard_run F b0).trans ((spec_IsPackedBoard_cp _ F b0 _).trans (bind_use hc _)), rfl, rfl, rfl⟩
  · cases h

/-! loop.example/g01194/impl.lineCell -/
noncomputable def impl_lineCell_tab (F : Nat) : Tab := []
theorem impl_lineCell_tabok (F : Nat) : TabOK Try.prog (impl_lineCell_tab F) := tab_nil
noncomputable def impl_lineCell_LS0 (F : Nat) : LT := []
theorem impl_lineCell_lsok0 (F : Nat) : LoopsOK Try.prog (impl_lineCell_LS0 F) (bodyOf Try.f60) := loopsOK_nil
theorem impl_lineCell_run (F : Nat) (direction0 : Int) (i1 : Int) (k2 : Int) : runS tt (impl_lineCell_tab F) (impl_lineCell_LS0 F) [] [] Try.f60 (bodyOf Try.f60) 70 [(.int .i64 direction0), (.int .i64 i1), (.int .i64 k2)] [] = impl_lineCell_c _ direction0 i1 k2 (fun r => some ⟨(.ints 2 r), [], []⟩) := by kernel_rfl
def impl_lineCell_ent (F : Nat) : Ent := ⟨[], .quiet, fun args mem => match args, mem with
  | [(.int .i64 direction0), (.int .i64 i1), (.int .i64 k2)], [] => some (true, ⟨(.ints 2 (impl_lineCell_v direction0 i1 k2)), [], []⟩)
  | _, _ => none⟩
theorem impl_lineCell_fok : FunOK Try.prog 60 := funOK Try.func60 (by kernel_rfl) rfl
theorem impl_lineCell_meets (F : Nat) : Meets Try.prog 60 (impl_lineCell_ent F) := by
  refine meets_of_runS mixed ttok deep (impl_lineCell_tabok F) Try.func60 (body_some rfl) (impl_lineCell_lsok0 F) fun args mem hfit ret h => ?_
  clear hfit
  simp only [impl_lineCell_ent] at h
  split at h
  · rename_i direction0 i1 k2
    simp only [Option.some.injEq, Prod.mk.injEq] at h
    obtain ⟨hc, rfl⟩ := h
    exact ⟨[], [], 70, _, (impl_lineCell_run F direction0 i1 k2).trans (impl_lineCell_cv _ direction0 i1 k2 _), rfl, rfl, rfl⟩
  · cases h

/-! (loop.example/g01194/impl.Board).line -/
noncomputable def impl_Board_line_tab (F : Nat) : Tab := [(60, (impl_lineCell_ent F)), (52, (impl_Board_at_ent F))]
theorem impl_Board_line_tabok (F : Nat) : TabOK Try.prog (impl_Board_line_tab F) := (tab_cons (impl_lineCell_meets F) impl_lineCell_fok (tab_cons (impl_Board_at_meets F) impl_Board_at_fok tab_nil))
noncomputable def impl_Board_line_LS0 (F : Nat) : LT := []
theorem impl_Board_line_lsok0 (F : Nat) : LoopsOK Try.prog (impl_Board_line_LS0 F) (bodyOf Try.f38) := loopsOK_nil
theorem impl_Board_line_run (F : Nat) (b0 : List Int) (direction1 : Int) (i2 : Int) : runS tt (impl_Board_line_tab F) (impl_Board_line_LS0 F) [] [] Try.f38 (bodyOf Try.f38) 70 [(.ints 16 b0), (.int .i64 direction1), (.int .i64 i2)] [] = impl_Board_line_c _ b0 direction1 i2 (fun r => some ⟨(.ints 4 r), [], []⟩) := by kernel_rfl
def impl_Board_line_ent (F : Nat) : Ent := ⟨[], .quiet, fun args mem => match args, mem with
  | [(.ints 16 b0), (.int .i64 direction1), (.int .i64 i2)], [] => some ((impl_Board_line_p b0 direction1 i2).isSome, ⟨(.ints 4 ((impl_Board_line_p b0 direction1 i2).getD default)), [], []⟩)
  | _, _ => none⟩
theorem impl_Board_line_fok : FunOK Try.prog 38 := funOK Try.func38 (by kernel_rfl) rfl
theorem impl_Board_line_meets (F : Nat) : Meets Try.prog 38 (impl_Board_line_ent F) := by
  refine meets_of_runS mixed ttok deep (impl_Board_line_tabok F) Try.func38 (body_some rfl) (impl_Board_line_lsok0 F) fun args mem hfit ret h => ?_
  clear hfit
  simp only [impl_Board_line_ent] at h
  split at h
  · rename_i b0 direction1 i2
    simp only [Option.some.injEq, Prod.mk.injEq] at h
    obtain ⟨hc, rfl⟩ := h
    exact ⟨[], [], 70, _, (impl_Board_line_run F b0 direction1 i2).trans ((impl_Board_line_cp _ b0 direction1 i2 _).trans (bind_use hc _)), rfl, rfl, rfl⟩
  · cases h
end Go.Proofs.Ytabfliifleonaae
