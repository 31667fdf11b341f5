/-
Pure functions and what the code of them does, by program; without conditions.
-/
import Derived.Test.YtabfliifleonaahQhP3
import Derived.Test.YtabfliifleonaahQhS2
namespace Go.Proofs.Ytabfliifleonaah
open Go Go.Lv Go.Lv.P Go.Proofs
set_option linter.unusedVariables false
set_option linter.unusedSimpArgs false
set_option maxRecDepth 100000
/-! loop.example/g01194/spec.l5Made -/
noncomputable def spec_l5Made_tab (F : Nat) : Tab := [(55, (spec_l2Slide_ent F))]
theorem spec_l5Made_tabok (F : Nat) : TabOK Try.prog (spec_l5Made_tab F) := (tab_cons (spec_l2Slide_meets F) spec_l2Slide_fok tab_nil)
noncomputable def spec_l5Made_LS0 (F : Nat) : LT := []
theorem spec_l5Made_lsok0 (F : Nat) : LoopsOK Try.prog (spec_l5Made_LS0 F) (bodyOf Try.f28) := loopsOK_nil
theorem spec_l5Made_keys : keysOK (bodyOf Try.f28) = true := by kernel_rfl
def spec_l5Made_st3 (list0 : List Int) (sum7 : Int) (i8 : Int) (b9 : List Int) : St := ⟨expand 31 0 [1, 2, 4, 6, 7] [(.ri .i64 list0), (.ptr 0 0 0 16), (.ptr 1 0 0 16), (.int .i64 sum7), (.int .i64 i8)], [(.var 16 (.ri .i64 b9)), (.var 16 (.ri .i64 [(0 : Int), (0 : Int), (0 : Int), (0 : Int), (0 : Int), (0 : Int), (0 : Int), (0 : Int), (0 : Int), (0 : Int), (0 : Int), (0 : Int), (0 : Int), (0 : Int), (0 : Int), (0 : Int)]))], 0, []⟩
def spec_l5Made_o3 (list0 : List Int) (x : Int × List Int) : GT := (.out (.exit 0 ⟨expand 31 0 [2, 4, 6] [(.ptr 0 0 0 16), (.ptr 1 0 0 16), (.int .i64 x.1)], [(.var 16 (.ri .i64 x.2)), (.var 16 (.ri .i64 [(0 : Int), (0 : Int), (0 : Int), (0 : Int), (0 : Int), (0 : Int), (0 : Int), (0 : Int), (0 : Int), (0 : Int), (0 : Int), (0 : Int), (0 : Int), (0 : Int), (0 : Int), (0 : Int)]))], 0, []⟩))
def spec_l5Made_ls3 (F : Nat) : LoopS := ⟨31, [1, 2, 4, 6, 7], [], [2, 4, 6], [], [4, 5], [], [], fun vals mem np killed => match vals, mem, np, killed with
  | [(.ri .i64 list0), (.ptr 0 0 0 16), (.ptr 1 0 0 16), (.int .i64 sum7), (.int .i64 i8)], [(.var 16 (.ri .i64 b9)), (.var 16 (.ri .i64 q_t410))], 0, [] => .br ((q_t410 == ([(0 : Int), (0 : Int), (0 : Int), (0 : Int), (0 : Int), (0 : Int), (0 : Int), (0 : Int), (0 : Int), (0 : Int), (0 : Int), (0 : Int), (0 : Int), (0 : Int), (0 : Int), (0 : Int)] : List Int)) && (spec_l5Made_l3 F list0 sum7 i8 b9).isSome) (spec_l5Made_o3 list0 ((spec_l5Made_l3 F list0 sum7 i8 b9).getD default)) .fail
  | _, _, _, _ => .fail⟩
theorem spec_l5Made_step3 (F : Nat) (list0 : List Int) (sum7 : Int) (i8 : Int) (b9 : List Int) {R : Type} (k : Out → Option R) : stepS tt (spec_l5Made_tab F) (spec_l5Made_LS0 F) 70 (spec_l5Made_ls3 F) (loopAt 3 (bodyOf Try.f28)) (spec_l5Made_st3 list0 sum7 i8 b9) k = spec_l5Made_s3 F list0 R (sum7, i8, b9) (fun s => k (.norm (spec_l5Made_st3 list0 s.1 s.2.1 s.2.2))) (fun x => (spec_l5Made_o3 list0 x).run k) := by kernel_rfl
theorem spec_l5Made_iter3 (F : Nat) (list0 : List Int) {R : Type} (k : Out → Option R) : ∀ (n : Nat) (sum7 : Int) (i8 : Int) (b9 : List Int), iterS tt (spec_l5Made_tab F) (spec_l5Made_LS0 F) 70 (spec_l5Made_ls3 F) (loopAt 3 (bodyOf Try.f28)) n (spec_l5Made_st3 list0 sum7 i8 b9) k = loopC (spec_l5Made_s3 F list0) n (sum7, i8, b9) (fun x => (spec_l5Made_o3 list0 x).run k)
  | 0, sum7, i8, b9 => rfl
  | n + 1, sum7, i8, b9 => (iterS_succ tt (spec_l5Made_tab F) (spec_l5Made_LS0 F) 70 (spec_l5Made_ls3 F) (loopAt 3 (bodyOf Try.f28)) n (spec_l5Made_st3 list0 sum7 i8 b9) k).trans ((spec_l5Made_step3 F list0 sum7 i8 b9 (nextK (iterS tt (spec_l5Made_tab F) (spec_l5Made_LS0 F) 70 (spec_l5Made_ls3 F) (loopAt 3 (bodyOf Try.f28)) n) k)).trans (congrArg (fun kn => spec_l5Made_s3 F list0 R (sum7, i8, b9) kn _) (funext (fun ⟨sum7, i8, b9⟩ => spec_l5Made_iter3 F list0 k n sum7 i8 b9))))
theorem spec_l5Made_lok3 (F : Nat) : LoopOK Try.prog (loopAt 3 (bodyOf Try.f28)) (spec_l5Made_ls3 F) := by
  refine loopOK_of mixed ttok deep (spec_l5Made_tabok F) (loopsOK_at (spec_l5Made_lsok0 F) 3) (fuel := 70) fun R vals mem np killed k x h => ?_
  simp only [spec_l5Made_ls3] at h
  split at h
  · rename_i list0 sum7 i8 b9 q_t410
    simp only [GT.run] at h
    have hc := (cond_noneL h).1
    replace h := (cond_noneL h).2
    have hg := (and_split hc).1
    replace hc := (and_split hc).2
    obtain rfl := beq_li hg
    refine ⟨F, (spec_l5Made_iter3 F list0 k F sum7 i8 b9).trans ((loopC_use (spec_l5Made_s3_nat F list0) hc _).trans h)⟩
  · simp only [GT.run] at h
    cases h
noncomputable def spec_l5Made_LS1 (F : Nat) : LT := (3, spec_l5Made_ls3 F) :: spec_l5Made_LS0 F
theorem spec_l5Made_lsok1 (F : Nat) : LoopsOK Try.prog (spec_l5Made_LS1 F) (bodyOf Try.f28) := loopsOK_cons spec_l5Made_keys (spec_l5Made_lok3 F) (spec_l5Made_lsok0 F)
theorem spec_l5Made_run (F : Nat) (b0 : List Int) (list1 : List Int) : runS tt (spec_l5Made_tab F) (spec_l5Made_LS1 F) [] [] Try.f28 (bodyOf Try.f28) 70 [(.ints 16 b0), (.ri .i64 list1)] [] = spec_l5Made_c _ F b0 list1 (fun r => some ⟨(.tup [(.ints 16 r.1), (.int .i64 r.2)]), [], []⟩) := by kernel_rfl
def spec_l5Made_ent (F : Nat) : Ent := ⟨[], .quiet, fun args mem => match args, mem with
  | [(.ints 16 b0), (.ri .i64 list1)], [] => some ((spec_l5Made_p F b0 list1).isSome, ⟨(.tup [(.ints 16 ((spec_l5Made_p F b0 list1).getD default).1), (.int .i64 ((spec_l5Made_p F b0 list1).getD default).2)]), [], []⟩)
  | _, _ => none⟩
theorem spec_l5Made_fok : FunOK Try.prog 28 := funOK Try.func28 (by kernel_rfl) rfl
theorem spec_l5Made_meets (F : Nat) : Meets Try.prog 28 (spec_l5Made_ent F) := by
  refine meets_of_runS mixed ttok deep (spec_l5Made_tabok F) Try.func28 (body_some rfl) (spec_l5Made_lsok1 F) fun args mem hfit ret h => ?_
  clear hfit
  simp only [spec_l5Made_ent] at h
  split at h
  · rename_i b0 list1
    simp only [Option.some.injEq, Prod.mk.injEq] at h
    obtain ⟨hc, rfl⟩ := h
    exact ⟨[], [], 70, _, (spec_l5Made_run F b0 list1).trans ((spec_l5Made_cp _ F b0 list1 _).trans (bind_use hc _)), rfl, rfl, rfl⟩
  · cases h

/-! loop.example/g01194/spec.DoSlides -/
noncomputable def spec_DoSlides_tab (F : Nat) : Tab := [(26, (spec_l2Board_ent F)), (27, (spec_l5Sides_ent F)), (28, (spec_l5Made_ent F))]
theorem spec_DoSlides_tabok (F : Nat) : TabOK Try.prog (spec_DoSlides_tab F) := (tab_cons (spec_l2Board_meets F) spec_l2Board_fok (tab_cons (spec_l5Sides_meets F) spec_l5Sides_fok (tab_cons (spec_l5Made_meets F) spec_l5Made_fok tab_nil)))
noncomputable def spec_DoSlides_LS0 (F : Nat) : LT := []
theorem spec_DoSlides_lsok0 (F : Nat) : LoopsOK Try.prog (spec_DoSlides_LS0 F) (bodyOf Try.f7) := loopsOK_nil
theorem spec_DoSlides_run (F : Nat) (b0 : List Int) (list1 : List Int) : runS tt (spec_DoSlides_tab F) (spec_DoSlides_LS0 F) [] [] Try.f7 (bodyOf Try.f7) 70 [(.ints 16 b0), (.ri .i64 list1)] [] = spec_DoSlides_c _ F b0 list1 (fun r => some ⟨(.tup [(.ints 16 r.1), (.int .i64 r.2.1), (.bool r.2.2)]), [], []⟩) := by kernel_rfl
def spec_DoSlides_ent (F : Nat) : Ent := ⟨[], .quiet, fun args mem => match args, mem with
  | [(.ints 16 b0), (.ri .i64 list1)], [] => some ((spec_DoSlides_p F b0 list1).isSome, ⟨(.tup [(.ints 16 ((spec_DoSlides_p F b0 list1).getD default).1), (.int .i64 ((spec_DoSlides_p F b0 list1).getD default).2.1), (.bool ((spec_DoSlides_p F b0 list1).getD default).2.2)]), [], []⟩)
  | _, _ => none⟩
theorem spec_DoSlides_fok : FunOK Try.prog 7 := funOK Try.func7 (by kernel_rfl) rfl
theorem spec_DoSlides_meets (F : Nat) : Meets Try.prog 7 (spec_DoSlides_ent F) := by
  refine meets_of_runS mixed ttok deep (spec_DoSlides_tabok F) Try.func7 (body_some rfl) (spec_DoSlides_lsok0 F) fun args mem hfit ret h => ?_
  clear hfit
  simp only [spec_DoSlides_ent] at h
  split at h
  · rename_i b0 list1
    simp only [Option.some.injEq, Prod.mk.injEq] at h
    obtain ⟨hc, rfl⟩ := h
    exact ⟨[], [], 70, _, (spec_DoSlides_run F b0 list1).trans ((spec_DoSlides_cp _ F b0 list1 _).trans (bind_use hc _)), rfl, rfl, rfl⟩
  · cases h

/-! loop.example/g01194/laws.vCut -/
noncomputable def laws_vCut_tab (F : Nat) : Tab := []
theorem laws_vCut_tabok (F : Nat) : TabOK Try.prog (laws_vCut_tab F) := tab_nil
noncomputable def laws_vCut_LS0 (F : Nat) : LT := []
theorem laws_vCut_lsok0 (F : Nat) : LoopsOK Try.prog (laws_vCut_LS0 F) (bodyOf Try.f9) := loopsOK_nil
theorem laws_vCut_run (F : Nat) (code0 : List Int) (n1 : Int) : runS tt (laws_vCut_tab F) (laws_vCut_LS0 F) [] [] Try.f9 (bodyOf Try.f9) 70 [(.ri .u8 code0), (.int .i64 n1)] [] = laws_vCut_c _ code0 n1 (fun r => some ⟨(.sl 0 0 (List.length r)), [(.vec 5 (.ri .u8 r))], []⟩) := by kernel_rfl
def laws_vCut_ent (F : Nat) : Ent := ⟨[], .fresh, fun args mem => match args, mem with
  | [(.ri .u8 code0), (.int .i64 n1)], [] => some ((laws_vCut_p code0 n1).isSome, ⟨(.sl 0 0 (List.length ((laws_vCut_p code0 n1).getD default))), [(.vec 5 (.ri .u8 ((laws_vCut_p code0 n1).getD default)))], []⟩)
  | _, _ => none⟩
theorem laws_vCut_fok : FunOK Try.prog 9 := funOK Try.func9 (by kernel_rfl) rfl
theorem laws_vCut_meets (F : Nat) : Meets Try.prog 9 (laws_vCut_ent F) := by
  refine meets_of_runS mixed ttok deep (laws_vCut_tabok F) Try.func9 (body_some rfl) (laws_vCut_lsok0 F) fun args mem hfit ret h => ?_
  clear hfit
  simp only [laws_vCut_ent] at h
  split at h
  · rename_i code0 n1
    simp only [Option.some.injEq, Prod.mk.injEq] at h
    obtain ⟨hc, rfl⟩ := h
    exact ⟨[], [], 70, _, (laws_vCut_run F code0 n1).trans ((laws_vCut_cp _ code0 n1 _).trans (bind_use hc _)), rfl, rfl, rfl⟩
  · cases h

/-! loop.example/g01194/spec.DrawSlideCycle -/
noncomputable def spec_DrawSlideCycle_tab (F : Nat) : Tab := [(20, (spec_l1Cur_among_ent F)), (21, (spec_l1Cur_side_ent F)), (22, (spec_l1Cur_board_ent F))]
theorem spec_DrawSlideCycle_tabok (F : Nat) : TabOK Try.prog (spec_DrawSlideCycle_tab F) := (tab_cons (spec_l1Cur_among_meets F) spec_l1Cur_among_fok (tab_cons (spec_l1Cur_side_meets F) spec_l1Cur_side_fok (tab_cons (spec_l1Cur_board_meets F) spec_l1Cur_board_fok tab_nil)))
noncomputable def spec_DrawSlideCycle_LS0 (F : Nat) : LT := []
theorem spec_DrawSlideCycle_lsok0 (F : Nat) : LoopsOK Try.prog (spec_DrawSlideCycle_LS0 F) (bodyOf Try.f8) := loopsOK_nil
theorem spec_DrawSlideCycle_keys : keysOK (bodyOf Try.f8) = true := by kernel_rfl
def spec_DrawSlideCycle_st4 (c10 : List Int) (n8 : Int) (c11 : Int) (c12 : Int) (list13 : List Int) : St := ⟨expand 26 0 [2, 4, 5, 6] [(.ptr 0 0 0 16), (.ptr 1 0 0 3), (.sl 2 0 (List.length list13)), (.int .i64 n8)], [(.var 16 (.ri .i64 [(0 : Int), (0 : Int), (0 : Int), (0 : Int), (0 : Int), (0 : Int), (0 : Int), (0 : Int), (0 : Int), (0 : Int), (0 : Int), (0 : Int), (0 : Int), (0 : Int), (0 : Int), (0 : Int)])), (.var 3 (.rv [(.ri .u8 c10), (.int .i64 c11), (.int .u64 c12)])), (.vec 3 (.ri .i64 list13))], 0, []⟩
def spec_DrawSlideCycle_o4 (c10 : List Int) (x : Int × Int × List Int) : GT := (.out (.exit 0 ⟨expand 26 0 [2, 4, 5] [(.ptr 0 0 0 16), (.ptr 1 0 0 3), (.sl 2 0 (List.length x.2.2))], [(.var 16 (.ri .i64 [(0 : Int), (0 : Int), (0 : Int), (0 : Int), (0 : Int), (0 : Int), (0 : Int), (0 : Int), (0 : Int), (0 : Int), (0 : Int), (0 : Int), (0 : Int), (0 : Int), (0 : Int), (0 : Int)])), (.var 3 (.rv [(.ri .u8 c10), (.int .i64 x.1), (.int .u64 x.2.1)])), (.vec 3 (.ri .i64 x.2.2))], 0, []⟩))
def spec_DrawSlideCycle_ls4 (F : Nat) : LoopS := ⟨26, [2, 4, 5, 6], [], [2, 4, 5], [], [2, 3], [], [], fun vals mem np killed => match vals, mem, np, killed with
  | [(.ptr 0 0 0 16), (.ptr 1 0 0 3), (.sl 2 0 q_list7), (.int .i64 n8)], [(.var 16 (.ri .i64 q_t29)), (.var 3 (.rv [(.ri .u8 c10), (.int .i64 c11), (.int .u64 c12)])), (.vec 3 (.ri .i64 list13))], 0, [] => .br ((q_t29 == ([(0 : Int), (0 : Int), (0 : Int), (0 : Int), (0 : Int), (0 : Int), (0 : Int), (0 : Int), (0 : Int), (0 : Int), (0 : Int), (0 : Int), (0 : Int), (0 : Int), (0 : Int), (0 : Int)] : List Int)) && ((Nat.beq q_list7 (List.length list13)) && (spec_DrawSlideCycle_l4 F c10 n8 c11 c12 list13).isSome)) (spec_DrawSlideCycle_o4 c10 ((spec_DrawSlideCycle_l4 F c10 n8 c11 c12 list13).getD default)) .fail
  | _, _, _, _ => .fail⟩
theorem spec_DrawSlideCycle_step4 (F : Nat) (c10 : List Int) (n8 : Int) (c11 : Int) (c12 : Int) (list13 : List Int) {R : Type} (k : Out → Option R) : stepS tt (spec_DrawSlideCycle_tab F) (spec_DrawSlideCycle_LS0 F) 70 (spec_DrawSlideCycle_ls4 F) (loopAt 4 (bodyOf Try.f8)) (spec_DrawSlideCycle_st4 c10 n8 c11 c12 list13) k = spec_DrawSlideCycle_s4 F c10 R (n8, c11, c12, list13) (fun s => k (.norm (spec_DrawSlideCycle_st4 c10 s.1 s.2.1 s.2.2.1 s.2.2.2))) (fun x => (spec_DrawSlideCycle_o4 c10 x).run k) := by kernel_rfl
theorem spec_DrawSlideCycle_iter4 (F : Nat) (c10 : List Int) {R : Type} (k : Out → Option R) : ∀ (n : Nat) (n8 : Int) (c11 : Int) (c12 : Int) (list13 : List Int), iterS tt (spec_DrawSlideCycle_tab F) (spec_DrawSlideCycle_LS0 F) 70 (spec_DrawSlideCycle_ls4 F) (loopAt 4 (bodyOf Try.f8)) n (spec_DrawSlideCycle_st4 c10 n8 c11 c12 list13) k = loopC (spec_DrawSlideCycle_s4 F c10) n (n8, c11, c12, list13) (fun x => (spec_DrawSlideCycle_o4 c10 x).run k)
  | 0, n8, c11, c12, list13 => rfl
  | n + 1, n8, c11, c12, list13 => (iterS_succ tt (spec_DrawSlideCycle_tab F) (spec_DrawSlideCycle_LS0 F) 70 (spec_DrawSlideCycle_ls4 F) (loopAt 4 (bodyOf Try.f8)) n (spec_DrawSlideCycle_st4 c10 n8 c11 c12 list13) k).trans ((spec_DrawSlideCycle_step4 F c10 n8 c11 c12 list13 (nextK (iterS tt (spec_DrawSlideCycle_tab F) (spec_DrawSlideCycle_LS0 F) 70 (spec_DrawSlideCycle_ls4 F) (loopAt 4 (bodyOf Try.f8)) n) k)).trans (congrArg (fun kn => spec_DrawSlideCycle_s4 F c10 R (n8, c11, c12, list13) kn _) (funext (fun ⟨n8, c11, c12, list13⟩ => spec_DrawSlideCycle_iter4 F c10 k n n8 c11 c12 list13))))
theorem spec_DrawSlideCycle_lok4 (F : Nat) : LoopOK Try.prog (loopAt 4 (bodyOf Try.f8)) (spec_DrawSlideCycle_ls4 F) := by
  refine loopOK_of mixed ttok deep (spec_DrawSlideCycle_tabok F) (loopsOK_at (spec_DrawSlideCycle_lsok0 F) 4) (fuel := 70) fun R vals mem np killed k x h => ?_
  simp only [spec_DrawSlideCycle_ls4] at h
  split at h
  · rename_i q_list7 n8 q_t29 c10 c11 c12 list13
    simp only [GT.run] at h
    have hc := (cond_noneL h).1
    replace h := (cond_noneL h).2
    have hg := (and_split hc).1
    replace hc := (and_split hc).2
    obtain rfl := beq_li hg
    have hg := (and_split hc).1
    replace hc := (and_split hc).2
    obtain rfl := nbeq_nat hg
    refine ⟨F, (spec_DrawSlideCycle_iter4 F c10 k F n8 c11 c12 list13).trans ((loopC_use (spec_DrawSlideCycle_s4_nat F c10) hc _).trans h)⟩
  · simp only [GT.run] at h
    cases h
noncomputable def spec_DrawSlideCycle_LS1 (F : Nat) : LT := (4, spec_DrawSlideCycle_ls4 F) :: spec_DrawSlideCycle_LS0 F
theorem spec_DrawSlideCycle_lsok1 (F : Nat) : LoopsOK Try.prog (spec_DrawSlideCycle_LS1 F) (bodyOf Try.f8) := loopsOK_cons spec_DrawSlideCycle_keys (spec_DrawSlideCycle_lok4 F) (spec_DrawSlideCycle_lsok0 F)
theorem spec_DrawSlideCycle_run (F : Nat) (code0 : List Int) : runS tt (spec_DrawSlideCycle_tab F) (spec_DrawSlideCycle_LS1 F) [] [] Try.f8 (bodyOf Try.f8) 70 [(.ri .u8 code0)] [] = spec_DrawSlideCycle_c _ F code0 (fun r => some ⟨(.tup [(.ints 16 r.1), (.sl 0 0 (List.length r.2))]), [(.vec 3 (.ri .i64 r.2))], []⟩) := by kernel_rfl
def spec_DrawSlideCycle_ent (F : Nat) : Ent := ⟨[], .fresh, fun args mem => match args, mem with
  | [(.ri .u8 code0)], [] => some ((spec_DrawSlideCycle_p F code0).isSome, ⟨(.tup [(.ints 16 ((spec_DrawSlideCycle_p F code0).getD default).1), (.sl 0 0 (List.length ((spec_DrawSlideCycle_p F code0).getD default).2))]), [(.vec 3 (.ri .i64 ((spec_DrawSlideCycle_p F code0).getD default).2))], []⟩)
  | _, _ => none⟩
theorem spec_DrawSlideCycle_fok : FunOK Try.prog 8 := funOK Try.func8 (by kernel_rfl) rfl
theorem spec_DrawSlideCycle_meets (F : Nat) : Meets Try.prog 8 (spec_DrawSlideCycle_ent F) := by
  refine meets_of_runS mixed ttok deep (spec_DrawSlideCycle_tabok F) Try.func8 (body_some rfl) (spec_DrawSlideCycle_lsok1 F) fun args mem hfit ret h => ?_
  clear hfit
  simp only [spec_DrawSlideCycle_ent] at h
  split at h
  · rename_i code0
    simp only [Option.some.injEq, Prod.mk.injEq] at h
    obtain ⟨hc, rfl⟩ := h
    exact ⟨[], [], 70, _, (spec_DrawSlideCycle_run F code0).trans ((spec_DrawSlideCycle_cp _ F code0 _).trans (bind_use hc _)), rfl, rfl, rfl⟩
  · cases h

/-! slices.Index[[]loop.example/g01194/impl.Board,loop.example/g01194/impl.Board] -/
noncomputable def slices_Index_implBoardimplBoard_tab (F : Nat) : Tab := []
theorem slices_Index_implBoardimplBoard_tabok (F : Nat) : TabOK Try.prog (slices_Index_implBoardimplBoard_tab F) := tab_nil
noncomputable def slices_Index_implBoardimplBoard_LS0 (F : Nat) : LT := []
theorem slices_Index_implBoardimplBoard_lsok0 (F : Nat) : LoopsOK Try.prog (slices_Index_implBoardimplBoard_LS0 F) (bodyOf Try.f31) := loopsOK_nil
theorem slices_Index_implBoardimplBoard_keys : keysOK (bodyOf Try.f31) = true := by kernel_rfl
def slices_Index_implBoardimplBoard_st2 (s0 : List (List Int)) (t74 : Int) (v6 : List Int) (t85 : Int) : St := ⟨expand 19 0 [0, 3, 7, 8] [(.rr 16 s0), (.ptr 0 0 0 16), (.int .i64 t74), (.int .i64 t85)], [(.var 16 (.ri .i64 v6))], 0, []⟩
def slices_Index_implBoardimplBoard_o2 (s0 : List (List Int)) (t74 : Int) (v6 : List Int) (x : Bool × Int) : GT := (.br x.1 (.out (.ret ⟨expand 19 0 [4] [(.int .i64 x.2)], [], 0, []⟩)) (.out (.exit 0 ⟨expand 19 0 [] [], [], 0, []⟩)))
def slices_Index_implBoardimplBoard_ls2 (F : Nat) : LoopS := ⟨19, [0, 3, 7, 8], [], [], [], [4], [], [], fun vals mem np killed => match vals, mem, np, killed with
  | [(.rr 16 s0), (.ptr 0 0 0 16), (.int .i64 t74), (.int .i64 t85)], [(.var 16 (.ri .i64 v6))], 0, [] => .br (slices_Index_implBoardimplBoard_l2 F s0 t74 v6 t85).isSome (slices_Index_implBoardimplBoard_o2 s0 t74 v6 ((slices_Index_implBoardimplBoard_l2 F s0 t74 v6 t85).getD default)) .fail
  | _, _, _, _ => .fail⟩
theorem slices_Index_implBoardimplBoard_step2 (F : Nat) (s0 : List (List Int)) (t74 : Int) (v6 : List Int) (t85 : Int) {R : Type} (k : Out → Option R) : stepS tt (slices_Index_implBoardimplBoard_tab F) (slices_Index_implBoardimplBoard_LS0 F) 70 (slices_Index_implBoardimplBoard_ls2 F) (loopAt 2 (bodyOf Try.f31)) (slices_Index_implBoardimplBoard_st2 s0 t74 v6 t85) k = slices_Index_implBoardimplBoard_s2 F s0 t74 v6 R t85 (fun s => k (.norm (slices_Index_implBoardimplBoard_st2 s0 t74 v6 s))) (fun x => (slices_Index_implBoardimplBoard_o2 s0 t74 v6 x).run k) := by kernel_rfl
theorem slices_Index_implBoardimplBoard_iter2 (F : Nat) (s0 : List (List Int)) (t74 : Int) (v6 : List Int) {R : Type} (k : Out → Option R) : ∀ (n : Nat) (t85 : Int), iterS tt (slices_Index_implBoardimplBoard_tab F) (slices_Index_implBoardimplBoard_LS0 F) 70 (slices_Index_implBoardimplBoard_ls2 F) (loopAt 2 (bodyOf Try.f31)) n (slices_Index_implBoardimplBoard_st2 s0 t74 v6 t85) k = loopC (slices_Index_implBoardimplBoard_s2 F s0 t74 v6) n t85 (fun x => (slices_Index_implBoardimplBoard_o2 s0 t74 v6 x).run k)
  | 0, t85 => rfl
  | n + 1, t85 => (iterS_succ tt (slices_Index_implBoardimplBoard_tab F) (slices_Index_implBoardimplBoard_LS0 F) 70 (slices_Index_implBoardimplBoard_ls2 F) (loopAt 2 (bodyOf Try.f31)) n (slices_Index_implBoardimplBoard_st2 s0 t74 v6 t85) k).trans ((slices_Index_implBoardimplBoard_step2 F s0 t74 v6 t85 (nextK (iterS tt (slices_Index_implBoardimplBoard_tab F) (slices_Index_implBoardimplBoard_LS0 F) 70 (slices_Index_implBoardimplBoard_ls2 F) (loopAt 2 (bodyOf Try.f31)) n) k)).trans (congrArg (fun kn => slices_Index_implBoardimplBoard_s2 F s0 t74 v6 R t85 kn _) (funext (fun t85 => slices_Index_implBoardimplBoard_iter2 F s0 t74 v6 k n t85))))
theorem slices_Index_implBoardimplBoard_lok2 (F : Nat) : LoopOK Try.prog (loopAt 2 (bodyOf Try.f31)) (slices_Index_implBoardimplBoard_ls2 F) := by
  refine loopOK_of mixed ttok deep (slices_Index_implBoardimplBoard_tabok F) (loopsOK_at (slices_Index_implBoardimplBoard_lsok0 F) 2) (fuel := 70) fun R vals mem np killed k x h => ?_
  simp only [slices_Index_implBoardimplBoard_ls2] at h
  split at h
  · rename_i s0 t74 t85 v6
    simp only [GT.run] at h
    have hc := (cond_noneL h).1
    replace h := (cond_noneL h).2
    refine ⟨F, (slices_Index_implBoardimplBoard_iter2 F s0 t74 v6 k F t85).trans ((loopC_use (slices_Index_implBoardimplBoard_s2_nat F s0 t74 v6) hc _).trans h)⟩
  · simp only [GT.run] at h
    cases h
noncomputable def slices_Index_implBoardimplBoard_LS1 (F : Nat) : LT := (2, slices_Index_implBoardimplBoard_ls2 F) :: slices_Index_implBoardimplBoard_LS0 F
theorem slices_Index_implBoardimplBoard_lsok1 (F : Nat) : LoopsOK Try.prog (slices_Index_implBoardimplBoard_LS1 F) (bodyOf Try.f31) := loopsOK_cons slices_Index_implBoardimplBoard_keys (slices_Index_implBoardimplBoard_lok2 F) (slices_Index_implBoardimplBoard_lsok0 F)
theorem slices_Index_implBoardimplBoard_run (F : Nat) (s0 : List (List Int)) (v1 : List Int) : runS tt (slices_Index_implBoardimplBoard_tab F) (slices_Index_implBoardimplBoard_LS1 F) [] [] Try.f31 (bodyOf Try.f31) 70 [(.rr 16 s0), (.ints 16 v1)] [] = slices_Index_implBoardimplBoard_c _ F s0 v1 (fun r => some ⟨(.int .i64 r), [], []⟩) := by kernel_rfl
def slices_Index_implBoardimplBoard_ent (F : Nat) : Ent := ⟨[], .quiet, fun args mem => match args, mem with
  | [(.rr 16 s0), (.ints 16 v1)], [] => some ((slices_Index_implBoardimplBoard_p F s0 v1).isSome, ⟨(.int .i64 ((slices_Index_implBoardimplBoard_p F s0 v1).getD default)), [], []⟩)
  | _, _ => none⟩
theorem slices_Index_implBoardimplBoard_fok : FunOK Try.prog 31 := funOK Try.func31 (by kernel_rfl) rfl
theorem slices_Index_implBoardimplBoard_meets (F : Nat) : Meets Try.prog 31 (slices_Index_implBoardimplBoard_ent F) := by
  refine meets_of_runS mixed ttok deep (slices_Index_implBoardimplBoard_tabok F) Try.func31 (body_some rfl) (slices_Index_implBoardimplBoard_lsok1 F) fun args mem hfit ret h => ?_
  clear hfit
  simp only [slices_Index_implBoardimplBoard_ent] at h
  split at h
  · rename_i s0 v1
    simp only [Option.some.injEq, Prod.mk.injEq] at h
    obtain ⟨hc, rfl⟩ := h
    exact ⟨[], [], 70, _, (slices_Index_implBoardimplBoard_run F s0 v1).trans ((slices_Index_implBoardimplBoard_cp _ F s0 v1 _).trans (bind_use hc _)), rfl, rfl, rfl⟩
  · cases h

/-! (loop.example/g01194/impl.Board).slides -/
noncomputable def impl_Board_slides_tab (F : Nat) : Tab := [(25, (impl_Board_slide_ent F))]
theorem impl_Board_slides_tabok (F : Nat) : TabOK Try.prog (impl_Board_slides_tab F) := (tab_cons (impl_Board_slide_meets F) impl_Board_slide_fok tab_nil)
noncomputable def impl_Board_slides_LS0 (F : Nat) : LT := []
theorem impl_Board_slides_lsok0 (F : Nat) : LoopsOK Try.prog (impl_Board_slides_LS0 F) (bodyOf Try.f30) := loopsOK_nil
theorem impl_Board_slides_keys : keysOK (bodyOf Try.f30) = true := by kernel_rfl
def impl_Board_slides_st2 (t76 : List Int) (t87 : Int) (t98 : Int) (b9 : List Int) : St := ⟨expand 22 0 [2, 4, 7, 8, 9] [(.ptr 0 0 0 16), (.ptr 1 0 0 16), (.ri .i64 t76), (.int .i64 t87), (.int .i64 t98)], [(.var 16 (.ri .i64 b9)), (.var 16 (.ri .i64 [(0 : Int), (0 : Int), (0 : Int), (0 : Int), (0 : Int), (0 : Int), (0 : Int), (0 : Int), (0 : Int), (0 : Int), (0 : Int), (0 : Int), (0 : Int), (0 : Int), (0 : Int), (0 : Int)]))], 0, []⟩
def impl_Board_slides_o2 (t76 : List Int) (t87 : Int) (x : List Int) : GT := (.out (.exit 0 ⟨expand 22 0 [2, 4] [(.ptr 0 0 0 16), (.ptr 1 0 0 16)], [(.var 16 (.ri .i64 x)), (.var 16 (.ri .i64 [(0 : Int), (0 : Int), (0 : Int), (0 : Int), (0 : Int), (0 : Int), (0 : Int), (0 : Int), (0 : Int), (0 : Int), (0 : Int), (0 : Int), (0 : Int), (0 : Int), (0 : Int), (0 : Int)]))], 0, []⟩))
def impl_Board_slides_ls2 (F : Nat) : LoopS := ⟨22, [2, 4, 7, 8, 9], [], [2, 4], [], [4], [], [], fun vals mem np killed => match vals, mem, np, killed with
  | [(.ptr 0 0 0 16), (.ptr 1 0 0 16), (.ri .i64 t76), (.int .i64 t87), (.int .i64 t98)], [(.var 16 (.ri .i64 b9)), (.var 16 (.ri .i64 q_t410))], 0, [] => .br ((q_t410 == ([(0 : Int), (0 : Int), (0 : Int), (0 : Int), (0 : Int), (0 : Int), (0 : Int), (0 : Int), (0 : Int), (0 : Int), (0 : Int), (0 : Int), (0 : Int), (0 : Int), (0 : Int), (0 : Int)] : List Int)) && (impl_Board_slides_l2 F t76 t87 t98 b9).isSome) (impl_Board_slides_o2 t76 t87 ((impl_Board_slides_l2 F t76 t87 t98 b9).getD default)) .fail
  | _, _, _, _ => .fail⟩
theorem impl_Board_slides_step2 (F : Nat) (t76 : List Int) (t87 : Int) (t98 : Int) (b9 : List Int) {R : Type} (k : Out → Option R) : stepS tt (impl_Board_slides_tab F) (impl_Board_slides_LS0 F) 70 (impl_Board_slides_ls2 F) (loopAt 2 (bodyOf Try.f30)) (impl_Board_slides_st2 t76 t87 t98 b9) k = impl_Board_slides_s2 F t76 t87 R (t98, b9) (fun s => k (.norm (impl_Board_slides_st2 t76 t87 s.1 s.2))) (fun x => (impl_Board_slides_o2 t76 t87 x).run k) := by kernel_rfl
theorem impl_Board_slides_iter2 (F : Nat) (t76 : List Int) (t87 : Int) {R : Type} (k : Out → Option R) : ∀ (n : Nat) (t98 : Int) (b9 : List Int), iterS tt (impl_Board_slides_tab F) (impl_Board_slides_LS0 F) 70 (impl_Board_slides_ls2 F) (loopAt 2 (bodyOf Try.f30)) n (impl_Board_slides_st2 t76 t87 t98 b9) k = loopC (impl_Board_slides_s2 F t76 t87) n (t98, b9) (fun x => (impl_Board_slides_o2 t76 t87 x).run k)
  | 0, t98, b9 => rfl
  | n + 1, t98, b9 => (iterS_succ tt (impl_Board_slides_tab F) (impl_Board_slides_LS0 F) 70 (impl_Board_slides_ls2 F) (loopAt 2 (bodyOf Try.f30)) n (impl_Board_slides_st2 t76 t87 t98 b9) k).trans ((impl_Board_slides_step2 F t76 t87 t98 b9 (nextK (iterS tt (impl_Board_slides_tab F) (impl_Board_slides_LS0 F) 70 (impl_Board_slides_ls2 F) (loopAt 2 (bodyOf Try.f30)) n) k)).trans (congrArg (fun kn => impl_Board_slides_s2 F t76 t87 R (t98, b9) kn _) (funext (fun ⟨t98, b9⟩ => impl_Board_slides_iter2 F t76 t87 k n t98 b9))))
theorem impl_Board_slides_lok2 (F : Nat) : LoopOK Try.prog (loopAt 2 (bodyOf Try.f30)) (impl_Board_slides_ls2 F) := by
  refine loopOK_of mixed ttok deep (impl_Board_slides_tabok F) (loopsOK_at (impl_Board_slides_lsok0 F) 2) (fuel := 70) fun R vals mem np killed k x h => ?_
  simp only [impl_Board_slides_ls2] at h
  split at h
  · rename_i t76 t87 t98 b9 q_t410
    simp only [GT.run] at h
    have hc := (cond_noneL h).1
    replace h := (cond_noneL h).2
    have hg := (and_split hc).1
    replace hc := (and_split hc).2
    obtain rfl := beq_li hg
    refine ⟨F, (impl_Board_slides_iter2 F t76 t87 k F t98 b9).trans ((loopC_use (impl_Board_slides_s2_nat F t76 t87) hc _).trans h)⟩
  · simp only [GT.run] at h
    cases h
noncomputable def impl_Board_slides_LS1 (F : Nat) : LT := (2, impl_Board_slides_ls2 F) :: impl_Board_slides_LS0 F
theorem impl_Board_slides_lsok1 (F : Nat) : LoopsOK Try.prog (impl_Board_slides_LS1 F) (bodyOf Try.f30) := loopsOK_cons impl_Board_slides_keys (impl_Board_slides_lok2 F) (impl_Board_slides_lsok0 F)
theorem impl_Board_slides_run (F : Nat) (b0 : List Int) (list1 : List Int) : runS tt (impl_Board_slides_tab F) (impl_Board_slides_LS1 F) [] [] Try.f30 (bodyOf Try.f30) 70 [(.ints 16 b0), (.ri .i64 list1)] [] = impl_Board_slides_c _ F b0 list1 (fun r => some ⟨(.ints 16 r), [], []⟩) := by kernel_rfl
def impl_Board_slides_ent (F : Nat) : Ent := ⟨[], .quiet, fun args mem => match args, mem with
  | [(.ints 16 b0), (.ri .i64 list1)], [] => some ((impl_Board_slides_p F b0 list1).isSome, ⟨(.ints 16 ((impl_Board_slides_p F b0 list1).getD default)), [], []⟩)
  | _, _ => none⟩
theorem impl_Board_slides_fok : FunOK Try.prog 30 := funOK Try.func30 (by kernel_rfl) rfl
theorem impl_Board_slides_meets (F : Nat) : Meets Try.prog 30 (impl_Board_slides_ent F) := by
  refine meets_of_runS mixed ttok deep (impl_Board_slides_tabok F) Try.func30 (body_some rfl) (impl_Board_slides_lsok1 F) fun args mem hfit ret h => ?_
  clear hfit
  simp only [impl_Board_slides_ent] at h
  split at h
  · rename_i b0 list1
    simp only [Option.some.injEq, Prod.mk.injEq] at h
    obtain ⟨hc, rfl⟩ := h
    exact ⟨[], [], 70, _, (impl_Board_slides_run F b0 list1).trans ((impl_Board_slides_cp _ F b0 list1 _).trans (bind_use hc _)), rfl, rfl, rfl⟩
  · cases h

/-! loop.example/g01194/impl.SlideCycle -/
noncomputable def impl_SlideCycle_tab (F : Nat) : Tab := [(23, (impl_IsBoard_ent F)), (29, (impl_in_ent F)), (24, (impl_areDirections_ent F)), (31, (slices_Index_implBoardimplBoard_ent F)), (30, (impl_Board_slides_ent F))]
theorem impl_SlideCycle_tabok (F : Nat) : TabOK Try.prog (impl_SlideCycle_tab F) := (tab_cons (impl_IsBoard_meets F) impl_IsBoard_fok (tab_cons (impl_in_meets F) impl_in_fok (tab_cons (impl_areDirections_meets F) impl_areDirections_fok (tab_cons (slices_Index_implBoardimplBoard_meets F) slices_Index_implBoardimplBoard_fok (tab_cons (impl_Board_slides_meets F) impl_Board_slides_fok tab_nil)))))
noncomputable def impl_SlideCycle_LS0 (F : Nat) : LT := []
theorem impl_SlideCycle_lsok0 (F : Nat) : LoopsOK Try.prog (impl_SlideCycle_LS0 F) (bodyOf Try.f10) := loopsOK_nil
theorem impl_SlideCycle_keys : keysOK (bodyOf Try.f10) = true := by kernel_rfl
def impl_SlideCycle_st5 (list0 : List Int) (b6 : List Int) (seen7 : List (List Int)) : St := ⟨expand 41 0 [1, 2, 7] [(.ri .i64 list0), (.ptr 0 0 0 16), (.sl 1 0 (List.length seen7))], [(.var 16 (.ri .i64 b6)), (.vec 27 (.rr 16 seen7))], 0, []⟩
def impl_SlideCycle_o5 (list0 : List Int) (x : Int × Int) : GT := (.out (.ret ⟨expand 41 0 [4, 5, 6] [(.int .i64 x.1), (.int .i64 x.2), (.bool true)], [], 0, []⟩))
def impl_SlideCycle_ls5 (F : Nat) : LoopS := ⟨41, [1, 2, 7], [], [], [], [4, 5, 6], [], [], fun vals mem np killed => match vals, mem, np, killed with
  | [(.ri .i64 list0), (.ptr 0 0 0 16), (.sl 1 0 q_seen5)], [(.var 16 (.ri .i64 b6)), (.vec 27 (.rr 16 seen7))], 0, [] => .br ((Nat.beq q_seen5 (List.length seen7)) && (impl_SlideCycle_l5 F list0 b6 seen7).isSome) (impl_SlideCycle_o5 list0 ((impl_SlideCycle_l5 F list0 b6 seen7).getD default)) .fail
  | _, _, _, _ => .fail⟩
theorem impl_SlideCycle_step5 (F : Nat) (list0 : List Int) (b6 : List Int) (seen7 : List (List Int)) {R : Type} (k : Out → Option R) : stepS tt (impl_SlideCycle_tab F) (impl_SlideCycle_LS0 F) 70 (impl_SlideCycle_ls5 F) (loopAt 5 (bodyOf Try.f10)) (impl_SlideCycle_st5 list0 b6 seen7) k = impl_SlideCycle_s5 F list0 R (b6, seen7) (fun s => k (.norm (impl_SlideCycle_st5 list0 s.1 s.2))) (fun x => (impl_SlideCycle_o5 list0 x).run k) := by kernel_rfl
theorem impl_SlideCycle_iter5 (F : Nat) (list0 : List Int) {R : Type} (k : Out → Option R) : ∀ (n : Nat) (b6 : List Int) (seen7 : List (List Int)), iterS tt (impl_SlideCycle_tab F) (impl_SlideCycle_LS0 F) 70 (impl_SlideCycle_ls5 F) (loopAt 5 (bodyOf Try.f10)) n (impl_SlideCycle_st5 list0 b6 seen7) k = loopC (impl_SlideCycle_s5 F list0) n (b6, seen7) (fun x => (impl_SlideCycle_o5 list0 x).run k)
  | 0, b6, seen7 => rfl
  | n + 1, b6, seen7 => (iterS_succ tt (impl_SlideCycle_tab F) (impl_SlideCycle_LS0 F) 70 (impl_SlideCycle_ls5 F) (loopAt 5 (bodyOf Try.f10)) n (impl_SlideCycle_st5 list0 b6 seen7) k).trans ((impl_SlideCycle_step5 F list0 b6 seen7 (nextK (iterS tt (impl_SlideCycle_tab F) (impl_SlideCycle_LS0 F) 70 (impl_SlideCycle_ls5 F) (loopAt 5 (bodyOf Try.f10)) n) k)).trans (congrArg (fun kn => impl_SlideCycle_s5 F list0 R (b6, seen7) kn _) (funext (fun ⟨b6, seen7⟩ => impl_SlideCycle_iter5 F list0 k n b6 seen7))))
theorem impl_SlideCycle_lok5 (F : Nat) : LoopOK Try.prog (loopAt 5 (bodyOf Try.f10)) (impl_SlideCycle_ls5 F) := by
  refine loopOK_of mixed ttok deep (impl_SlideCycle_tabok F) (loopsOK_at (impl_SlideCycle_lsok0 F) 5) (fuel := 70) fun R vals mem np killed k x h => ?_
  simp only [impl_SlideCycle_ls5] at h
  split at h
  · rename_i list0 q_seen5 b6 seen7
    simp only [GT.run] at h
    have hc := (cond_noneL h).1
    replace h := (cond_noneL h).2
    have hg := (and_split hc).1
    replace hc := (and_split hc).2
    obtain rfl := nbeq_nat hg
    refine ⟨F, (impl_SlideCycle_iter5 F list0 k F b6 seen7).trans ((loopC_use (impl_SlideCycle_s5_nat F list0) hc _).trans h)⟩
  · simp only [GT.run] at h
    cases h
noncomputable def impl_SlideCycle_LS1 (F : Nat) : LT := (5, impl_SlideCycle_ls5 F) :: impl_SlideCycle_LS0 F
theorem impl_SlideCycle_lsok1 (F : Nat) : LoopsOK Try.prog (impl_SlideCycle_LS1 F) (bodyOf Try.f10) := loopsOK_cons impl_SlideCycle_keys (impl_SlideCycle_lok5 F) (impl_SlideCycle_lsok0 F)
theorem impl_SlideCycle_run (F : Nat) (b0 : List Int) (list1 : List Int) : runS tt (impl_SlideCycle_tab F) (impl_SlideCycle_LS1 F) [] [] Try.f10 (bodyOf Try.f10) 70 [(.ints 16 b0), (.ri .i64 list1)] [] = impl_SlideCycle_c _ F b0 list1 (fun r => some ⟨(.tup [(.int .i64 r.1), (.int .i64 r.2.1), (.bool r.2.2)]), [], []⟩) := by kernel_rfl
def impl_SlideCycle_ent (F : Nat) : Ent := ⟨[], .quiet, fun args mem => match args, mem with
  | [(.ints 16 b0), (.ri .i64 list1)], [] => some ((impl_SlideCycle_p F b0 list1).isSome, ⟨(.tup [(.int .i64 ((impl_SlideCycle_p F b0 list1).getD default).1), (.int .i64 ((impl_SlideCycle_p F b0 list1).getD default).2.1), (.bool ((impl_SlideCycle_p F b0 list1).getD default).2.2)]), [], []⟩)
  | _, _ => none⟩
theorem impl_SlideCycle_fok : FunOK Try.prog 10 := funOK Try.func10 (by kernel_rfl) rfl
theorem impl_SlideCycle_meets (F : Nat) : Meets Try.prog 10 (impl_SlideCycle_ent F) := by
  refine meets_of_runS mixed ttok deep (impl_SlideCycle_tabok F) Try.func10 (body_some rfl) (impl_SlideCycle_lsok1 F) fun args mem hfit ret h => ?_
  clear hfit
  simp only [impl_SlideCycle_ent] at h
  split at h
  · rename_i b0 list1
    simp only [Option.some.injEq, Prod.mk.injEq] at h
    obtain ⟨hc, rfl⟩ := h
    exact ⟨[], [], 70, _, (impl_SlideCycle_run F b0 list1).trans ((impl_SlideCycle_cp _ F b0 list1 _).trans (bind_use hc _)), rfl, rfl, rfl⟩
  · cases h

/-! loop.example/g01194/spec.SlideCycle -/
noncomputable def spec_SlideCycle_tab (F : Nat) : Tab := [(26, (spec_l2Board_ent F)), (32, (spec_l1In_ent F)), (27, (spec_l5Sides_ent F)), (28, (spec_l5Made_ent F))]
theorem spec_SlideCycle_tabok (F : Nat) : TabOK Try.prog (spec_SlideCycle_tab F) := (tab_cons (spec_l2Board_meets F) spec_l2Board_fok (tab_cons (spec_l1In_meets F) spec_l1In_fok (tab_cons (spec_l5Sides_meets F) spec_l5Sides_fok (tab_cons (spec_l5Made_meets F) spec_l5Made_fok tab_nil))))
noncomputable def spec_SlideCycle_LS0 (F : Nat) : LT := []
theorem spec_SlideCycle_lsok0 (F : Nat) : LoopsOK Try.prog (spec_SlideCycle_LS0 F) (bodyOf Try.f11) := loopsOK_nil
theorem spec_SlideCycle_keys : keysOK (bodyOf Try.f11) = true := by kernel_rfl
def spec_SlideCycle_st6 (list0 : List Int) (seen7 : List (List Int)) (next8 : List Int) (i6 : Int) : St := ⟨expand 59 0 [1, 7, 8, 10] [(.ri .i64 list0), (.sl 0 0 (List.length seen7)), (.ptr 1 0 0 16), (.int .i64 i6)], [(.vec 27 (.rr 16 seen7)), (.var 16 (.ri .i64 next8))], 0, []⟩
def spec_SlideCycle_o6 (list0 : List Int) (seen7 : List (List Int)) (next8 : List Int) (x : Bool × Int × Int) : GT := (.br x.1 (.out (.ret ⟨expand 59 0 [4, 5, 6] [(.int .i64 x.2.1), (.int .i64 x.2.2), (.bool true)], [], 0, []⟩)) (.out (.exit 2 ⟨expand 59 0 [1, 7, 8] [(.ri .i64 list0), (.sl 0 0 (List.length seen7)), (.ptr 1 0 0 16)], [(.vec 27 (.rr 16 seen7)), (.var 16 (.ri .i64 next8))], 0, []⟩)))
def spec_SlideCycle_ls6 (F : Nat) : LoopS := ⟨59, [1, 7, 8, 10], [], [1, 7, 8], [], [4, 5, 6], [], [], fun vals mem np killed => match vals, mem, np, killed with
  | [(.ri .i64 list0), (.sl 0 0 q_seen2), (.ptr 1 0 0 16), (.int .i64 i6)], [(.vec 27 (.rr 16 seen7)), (.var 16 (.ri .i64 next8))], 0, [] => .br ((Nat.beq q_seen2 (List.length seen7)) && (spec_SlideCycle_l6 F list0 seen7 next8 i6).isSome) (spec_SlideCycle_o6 list0 seen7 next8 ((spec_SlideCycle_l6 F list0 seen7 next8 i6).getD default)) .fail
  | _, _, _, _ => .fail⟩
theorem spec_SlideCycle_step6 (F : Nat) (list0 : List Int) (seen7 : List (List Int)) (next8 : List Int) (i6 : Int) {R : Type} (k : Out → Option R) : stepS tt (spec_SlideCycle_tab F) (spec_SlideCycle_LS0 F) 70 (spec_SlideCycle_ls6 F) (loopAt 6 (bodyOf Try.f11)) (spec_SlideCycle_st6 list0 seen7 next8 i6) k = spec_SlideCycle_s6 F list0 seen7 next8 R i6 (fun s => k (.norm (spec_SlideCycle_st6 list0 seen7 next8 s))) (fun x => (spec_SlideCycle_o6 list0 seen7 next8 x).run k) := by kernel_rfl
theorem spec_SlideCycle_iter6 (F : Nat) (list0 : List Int) (seen7 : List (List Int)) (next8 : List Int) {R : Type} (k : Out → Option R) : ∀ (n : Nat) (i6 : Int), iterS tt (spec_SlideCycle_tab F) (spec_SlideCycle_LS0 F) 70 (spec_SlideCycle_ls6 F) (loopAt 6 (bodyOf Try.f11)) n (spec_SlideCycle_st6 list0 seen7 next8 i6) k = loopC (spec_SlideCycle_s6 F list0 seen7 next8) n i6 (fun x => (spec_SlideCycle_o6 list0 seen7 next8 x).run k)
  | 0, i6 => rfl
  | n + 1, i6 => (iterS_succ tt (spec_SlideCycle_tab F) (spec_SlideCycle_LS0 F) 70 (spec_SlideCycle_ls6 F) (loopAt 6 (bodyOf Try.f11)) n (spec_SlideCycle_st6 list0 seen7 next8 i6) k).trans ((spec_SlideCycle_step6 F list0 seen7 next8 i6 (nextK (iterS tt (spec_SlideCycle_tab F) (spec_SlideCycle_LS0 F) 70 (spec_SlideCycle_ls6 F) (loopAt 6 (bodyOf Try.f11)) n) k)).trans (congrArg (fun kn => spec_SlideCycle_s6 F list0 seen7 next8 R i6 kn _) (funext (fun i6 => spec_SlideCycle_iter6 F list0 seen7 next8 k n i6))))
theorem spec_SlideCycle_lok6 (F : Nat) : LoopOK Try.prog (loopAt 6 (bodyOf Try.f11)) (spec_SlideCycle_ls6 F) := by
  refine loopOK_of mixed ttok deep (spec_SlideCycle_tabok F) (loopsOK_at (spec_SlideCycle_lsok0 F) 6) (fuel := 70) fun R vals mem np killed k x h => ?_
  simp only [spec_SlideCycle_ls6] at h
  split at h
  · rename_i list0 q_seen2 i6 seen7 next8
    simp only [GT.run] at h
    have hc := (cond_noneL h).1
    replace h := (cond_noneL h).2
    have hg := (and_split hc).1
    replace hc := (and_split hc).2
    obtain rfl := nbeq_nat hg
    refine ⟨F, (spec_SlideCycle_iter6 F list0 seen7 next8 k F i6).trans ((loopC_use (spec_SlideCycle_s6_nat F list0 seen7 next8) hc _).trans h)⟩
  · simp only [GT.run] at h
    cases h
noncomputable def spec_SlideCycle_LS1 (F : Nat) : LT := (6, spec_SlideCycle_ls6 F) :: spec_SlideCycle_LS0 F
theorem spec_SlideCycle_lsok1 (F : Nat) : LoopsOK Try.prog (spec_SlideCycle_LS1 F) (bodyOf Try.f11) := loopsOK_cons spec_SlideCycle_keys (spec_SlideCycle_lok6 F) (spec_SlideCycle_lsok0 F)
def spec_SlideCycle_st4 (list0 : List Int) (seen3 : List (List Int)) : St := ⟨expand 59 0 [1, 7] [(.ri .i64 list0), (.sl 0 0 (List.length seen3))], [(.vec 27 (.rr 16 seen3))], 0, []⟩
def spec_SlideCycle_o4 (list0 : List Int) (x : Int × Int) : GT := (.out (.ret ⟨expand 59 0 [4, 5, 6] [(.int .i64 x.1), (.int .i64 x.2), (.bool true)], [], 0, []⟩))
def spec_SlideCycle_ls4 (F : Nat) : LoopS := ⟨59, [1, 7], [], [], [], [4, 5, 6], [], [], fun vals mem np killed => match vals, mem, np, killed with
  | [(.ri .i64 list0), (.sl 0 0 q_seen2)], [(.vec 27 (.rr 16 seen3))], 0, [] => .br ((Nat.beq q_seen2 (List.length seen3)) && (spec_SlideCycle_l4 F list0 seen3).isSome) (spec_SlideCycle_o4 list0 ((spec_SlideCycle_l4 F list0 seen3).getD default)) .fail
  | _, _, _, _ => .fail⟩
theorem spec_SlideCycle_step4 (F : Nat) (list0 : List Int) (seen3 : List (List Int)) {R : Type} (k : Out → Option R) : stepS tt (spec_SlideCycle_tab F) (spec_SlideCycle_LS1 F) 70 (spec_SlideCycle_ls4 F) (loopAt 4 (bodyOf Try.f11)) (spec_SlideCycle_st4 list0 seen3) k = spec_SlideCycle_s4 F list0 R seen3 (fun s => k (.norm (spec_SlideCycle_st4 list0 s))) (fun x => (spec_SlideCycle_o4 list0 x).run k) := by kernel_rfl
theorem spec_SlideCycle_iter4 (F : Nat) (list0 : List Int) {R : Type} (k : Out → Option R) : ∀ (n : Nat) (seen3 : List (List Int)), iterS tt (spec_SlideCycle_tab F) (spec_SlideCycle_LS1 F) 70 (spec_SlideCycle_ls4 F) (loopAt 4 (bodyOf Try.f11)) n (spec_SlideCycle_st4 list0 seen3) k = loopC (spec_SlideCycle_s4 F list0) n seen3 (fun x => (spec_SlideCycle_o4 list0 x).run k)
  | 0, seen3 => rfl
  | n + 1, seen3 => (iterS_succ tt (spec_SlideCycle_tab F) (spec_SlideCycle_LS1 F) 70 (spec_SlideCycle_ls4 F) (loopAt 4 (bodyOf Try.f11)) n (spec_SlideCycle_st4 list0 seen3) k).trans ((spec_SlideCycle_step4 F list0 seen3 (nextK (iterS tt (spec_SlideCycle_tab F) (spec_SlideCycle_LS1 F) 70 (spec_SlideCycle_ls4 F) (loopAt 4 (bodyOf Try.f11)) n) k)).trans (congrArg (fun kn => spec_SlideCycle_s4 F list0 R seen3 kn _) (funext (fun seen3 => spec_SlideCycle_iter4 F list0 k n seen3))))
theorem spec_SlideCycle_lok4 (F : Nat) : LoopOK Try.prog (loopAt 4 (bodyOf Try.f11)) (spec_SlideCycle_ls4 F) := by
  refine loopOK_of mixed ttok deep (spec_SlideCycle_tabok F) (loopsOK_at (spec_SlideCycle_lsok1 F) 4) (fuel := 70) fun R vals mem np killed k x h => ?_
  simp only [spec_SlideCycle_ls4] at h
  split at h
  · rename_i list0 q_seen2 seen3
    simp only [GT.run] at h
    have hc := (cond_noneL h).1
    replace h := (cond_noneL h).2
    have hg := (and_split hc).1
    replace hc := (and_split hc).2
    obtain rfl := nbeq_nat hg
    refine ⟨F, (spec_SlideCycle_iter4 F list0 k F seen3).trans ((loopC_use (spec_SlideCycle_s4_nat F list0) hc _).trans h)⟩
  · simp only [GT.run] at h
    cases h
noncomputable def spec_SlideCycle_LS2 (F : Nat) : LT := (4, spec_SlideCycle_ls4 F) :: spec_SlideCycle_LS1 F
theorem spec_SlideCycle_lsok2 (F : Nat) : LoopsOK Try.prog (spec_SlideCycle_LS2 F) (bodyOf Try.f11) := loopsOK_cons spec_SlideCycle_keys (spec_SlideCycle_lok4 F) (spec_SlideCycle_lsok1 F)
theorem spec_SlideCycle_run (F : Nat) (b0 : List Int) (list1 : List Int) : runS tt (spec_SlideCycle_tab F) (spec_SlideCycle_LS2 F) [] [] Try.f11 (bodyOf Try.f11) 70 [(.ints 16 b0), (.ri .i64 list1)] [] = spec_SlideCycle_c _ F b0 list1 (fun r => some ⟨(.tup [(.int .i64 r.1), (.int .i64 r.2.1), (.bool r.2.2)]), [], []⟩) := by kernel_rfl
def spec_SlideCycle_ent (F : Nat) : Ent := ⟨[], .quiet, fun args mem => match args, mem with
  | [(.ints 16 b0), (.ri .i64 list1)], [] => some ((spec_SlideCycle_p F b0 list1).isSome, ⟨(.tup [(.int .i64 ((spec_SlideCycle_p F b0 list1).getD default).1), (.int .i64 ((spec_SlideCycle_p F b0 list1).getD default).2.1), (.bool ((spec_SlideCycle_p F b0 list1).getD default).2.2)]), [], []⟩)
  | _, _ => none⟩
theorem spec_SlideCycle_fok : FunOK Try.prog 11 := funOK Try.func11 (by kernel_rfl) rfl
theorem spec_SlideCycle_meets (F : Nat) : Meets Try.prog 11 (spec_SlideCycle_ent F) := by
  refine meets_of_runS mixed ttok deep (spec_SlideCycle_tabok F) Try.func11 (body_some rfl) (spec_SlideCycle_lsok2 F) fun args mem hfit ret h => ?_
  clear hfit
  simp only [spec_SlideCycle_ent] at h
  split at h
  · rename_i b0 list1
    simp only [Option.some.injEq, Prod.mk.injEq] at h
    obtain ⟨hc, rfl⟩ := h
    exact ⟨[], [], 70, _, (spec_SlideCycle_run F b0 list1).trans ((spec_SlideCycle_cp _ F b0 list1 _).trans (bind_use hc _)), rfl, rfl, rfl⟩
  · cases h

/-! loop.example/g01194/spec.DrawHighestBySlides -/
noncomputable def spec_DrawHighestBySlides_tab (F : Nat) : Tab := [(22, (spec_l1Cur_board_ent F))]
theorem spec_DrawHighestBySlides_tabok (F : Nat) : TabOK Try.prog (spec_DrawHighestBySlides_tab F) := (tab_cons (spec_l1Cur_board_meets F) spec_l1Cur_board_fok tab_nil)
noncomputable def spec_DrawHighestBySlides_LS0 (F : Nat) : LT := []
theorem spec_DrawHighestBySlides_lsok0 (F : Nat) : LoopsOK Try.prog (spec_DrawHighestBySlides_LS0 F) (bodyOf Try.f12) := loopsOK_nil
theorem spec_DrawHighestBySlides_run (F : Nat) (code0 : List Int) : runS tt (spec_DrawHighestBySlides_tab F) (spec_DrawHighestBySlides_LS0 F) [] [] Try.f12 (bodyOf Try.f12) 70 [(.ri .u8 code0)] [] = spec_DrawHighestBySlides_c _ F code0 (fun r => some ⟨(.ints 16 r), [], []⟩) := by kernel_rfl
def spec_DrawHighestBySlides_ent (F : Nat) : Ent := ⟨[], .quiet, fun args mem => match args, mem with
  | [(.ri .u8 code0)], [] => some ((spec_DrawHighestBySlides_p F code0).isSome, ⟨(.ints 16 ((spec_DrawHighestBySlides_p F code0).getD default)), [], []⟩)
  | _, _ => none⟩
theorem spec_DrawHighestBySlides_fok : FunOK Try.prog 12 := funOK Try.func12 (by kernel_rfl) rfl
theorem spec_DrawHighestBySlides_meets (F : Nat) : Meets Try.prog 12 (spec_DrawHighestBySlides_ent F) := by
  refine meets_of_runS mixed ttok deep (spec_DrawHighestBySlides_tabok F) Try.func12 (body_some rfl) (spec_DrawHighestBySlides_lsok0 F) fun args mem hfit ret h => ?_
  clear hfit
  simp only [spec_DrawHighestBySlides_ent] at h
  split at h
  · rename_i code0
    simp only [Option.some.injEq, Prod.mk.injEq] at h
    obtain ⟨hc, rfl⟩ := h
    exact ⟨[], [], 70, _, (spec_DrawHighestBySlides_run F code0).trans ((spec_DrawHighestBySlides_cp _ F code0 _).trans (bind_use hc _)), rfl, rfl, rfl⟩
  · cases h

/-! (loop.example/g01194/impl.Board).reach -/
noncomputable def impl_Board_reach_tab (F : Nat) : Tab := [(30, (impl_Board_slides_ent F)), (56, (slices_Clone_intint_ent F))]
theorem impl_Board_reach_tabok (F : Nat) : TabOK Try.prog (impl_Board_reach_tab F) := (tab_cons (impl_Board_slides_meets F) impl_Board_slides_fok (tab_cons (slices_Clone_intint_meets F) slices_Clone_intint_fok tab_nil))
noncomputable def impl_Board_reach_LS0 (F : Nat) : LT := []
theorem impl_Board_reach_lsok0 (F : Nat) : LoopsOK Try.prog (impl_Board_reach_LS0 F) (bodyOf Try.f33) := loopsOK_nil
theorem impl_Board_reach_keys : keysOK (bodyOf Try.f33) = true := by kernel_rfl
def impl_Board_reach_st8 (n0 : Int) (from3 : Int) (own10 : List Int) (t367 : Int) (lists8 : List (List Int × List Int)) (order9 : List (List Int)) : St := ⟨expand 67 0 [1, 6, 7, 8, 9, 36] [(.int .i64 n0), (.map 0), (.sl 1 0 (List.length order9)), (.int .i64 from3), (.ptr 2 0 0 16), (.int .i64 t367)], [(.map 16 (.ls .i64 lists8)), (.vec 27 (.rr 16 order9)), (.var 16 (.ri .i64 own10))], 0, []⟩
def impl_Board_reach_o8 (n0 : Int) (from3 : Int) (own10 : List Int) (x : List (List Int × List Int) × List (List Int)) : GT := (.out (.exit 2 ⟨expand 67 0 [1, 6, 7, 8] [(.int .i64 n0), (.map 0), (.sl 1 0 (List.length x.2)), (.int .i64 from3)], [(.map 16 (.ls .i64 x.1)), (.vec 27 (.rr 16 x.2))], 0, []⟩))
def impl_Board_reach_ls8 (F : Nat) : LoopS := ⟨67, [1, 6, 7, 8, 9, 36], [], [1, 6, 7, 8], [], [4, 5], [], [], fun vals mem np killed => match vals, mem, np, killed with
  | [(.int .i64 n0), (.map 0), (.sl 1 0 q_order2), (.int .i64 from3), (.ptr 2 0 0 16), (.int .i64 t367)], [(.map 16 (.ls .i64 lists8)), (.vec 27 (.rr 16 order9)), (.var 16 (.ri .i64 own10))], 0, [] => .br ((Nat.beq q_order2 (List.length order9)) && (impl_Board_reach_l8 F n0 from3 own10 t367 lists8 order9).isSome) (impl_Board_reach_o8 n0 from3 own10 ((impl_Board_reach_l8 F n0 from3 own10 t367 lists8 order9).getD default)) .fail
  | _, _, _, _ => .fail⟩
theorem impl_Board_reach_step8 (F : Nat) (n0 : Int) (from3 : Int) (own10 : List Int) (t367 : Int) (lists8 : List (List Int × List Int)) (order9 : List (List Int)) {R : Type} (k : Out → Option R) : stepS tt (impl_Board_reach_tab F) (impl_Board_reach_LS0 F) 70 (impl_Board_reach_ls8 F) (loopAt 8 (bodyOf Try.f33)) (impl_Board_reach_st8 n0 from3 own10 t367 lists8 order9) k = impl_Board_reach_s8 F n0 from3 own10 R (t367, lists8, order9) (fun s => k (.norm (impl_Board_reach_st8 n0 from3 own10 s.1 s.2.1 s.2.2))) (fun x => (impl_Board_reach_o8 n0 from3 own10 x).run k) := by kernel_rfl
theorem impl_Board_reach_iter8 (F : Nat) (n0 : Int) (from3 : Int) (own10 : List Int) {R : Type} (k : Out → Option R) : ∀ (n : Nat) (t367 : Int) (lists8 : List (List Int × List Int)) (order9 : List (List Int)), iterS tt (impl_Board_reach_tab F) (impl_Board_reach_LS0 F) 70 (impl_Board_reach_ls8 F) (loopAt 8 (bodyOf Try.f33)) n (impl_Board_reach_st8 n0 from3 own10 t367 lists8 order9) k = loopC (impl_Board_reach_s8 F n0 from3 own10) n (t367, lists8, order9) (fun x => (impl_Board_reach_o8 n0 from3 own10 x).run k)
  | 0, t367, lists8, order9 => rfl
  | n + 1, t367, lists8, order9 => (iterS_succ tt (impl_Board_reach_tab F) (impl_Board_reach_LS0 F) 70 (impl_Board_reach_ls8 F) (loopAt 8 (bodyOf Try.f33)) n (impl_Board_reach_st8 n0 from3 own10 t367 lists8 order9) k).trans ((impl_Board_reach_step8 F n0 from3 own10 t367 lists8 order9 (nextK (iterS tt (impl_Board_reach_tab F) (impl_Board_reach_LS0 F) 70 (impl_Board_reach_ls8 F) (loopAt 8 (bodyOf Try.f33)) n) k)).trans (congrArg (fun kn => impl_Board_reach_s8 F n0 from3 own10 R (t367, lists8, order9) kn _) (funext (fun ⟨t367, lists8, order9⟩ => impl_Board_reach_iter8 F n0 from3 own10 k n t367 lists8 order9))))
theorem impl_Board_reach_lok8 (F : Nat) : LoopOK Try.prog (loopAt 8 (bodyOf Try.f33)) (impl_Board_reach_ls8 F) := by
  refine loopOK_of mixed ttok deep (impl_Board_reach_tabok F) (loopsOK_at (impl_Board_reach_lsok0 F) 8) (fuel := 70) fun R vals mem np killed k x h => ?_
  simp only [impl_Board_reach_ls8] at h
  split at h
  · rename_i n0 q_order2 from3 t367 lists8 order9 own10
    simp only [GT.run] at h
    have hc := (cond_noneL h).1
    replace h := (cond_noneL h).2
    have hg := (and_split hc).1
    replace hc := (and_split hc).2
    obtain rfl := nbeq_nat hg
    refine ⟨F, (impl_Board_reach_iter8 F n0 from3 own10 k F t367 lists8 order9).trans ((loopC_use (impl_Board_reach_s8_nat F n0 from3 own10) hc _).trans h)⟩
  · simp only [GT.run] at h
    cases h
noncomputable def impl_Board_reach_LS1 (F : Nat) : LT := (8, impl_Board_reach_ls8 F) :: impl_Board_reach_LS0 F
theorem impl_Board_reach_lsok1 (F : Nat) : LoopsOK Try.prog (impl_Board_reach_LS1 F) (bodyOf Try.f33) := loopsOK_cons impl_Board_reach_keys (impl_Board_reach_lok8 F) (impl_Board_reach_lsok0 F)
def impl_Board_reach_st3 (n0 : Int) (from3 : Int) (lists4 : List (List Int × List Int)) (order5 : List (List Int)) : St := ⟨expand 67 0 [1, 6, 7, 8] [(.int .i64 n0), (.map 0), (.sl 1 0 (List.length order5)), (.int .i64 from3)], [(.map 16 (.ls .i64 lists4)), (.vec 27 (.rr 16 order5))], 0, []⟩
def impl_Board_reach_o3 (n0 : Int) (x : List (List Int × List Int) × List (List Int)) : GT := (.out (.exit 0 ⟨expand 67 0 [6, 7] [(.map 0), (.sl 1 0 (List.length x.2))], [(.map 16 (.ls .i64 x.1)), (.vec 27 (.rr 16 x.2))], 0, []⟩))
def impl_Board_reach_ls3 (F : Nat) : LoopS := ⟨67, [1, 6, 7, 8], [], [6, 7], [], [4, 5], [], [], fun vals mem np killed => match vals, mem, np, killed with
  | [(.int .i64 n0), (.map 0), (.sl 1 0 q_order2), (.int .i64 from3)], [(.map 16 (.ls .i64 lists4)), (.vec 27 (.rr 16 order5))], 0, [] => .br ((Nat.beq q_order2 (List.length order5)) && (impl_Board_reach_l3 F n0 from3 lists4 order5).isSome) (impl_Board_reach_o3 n0 ((impl_Board_reach_l3 F n0 from3 lists4 order5).getD default)) .fail
  | _, _, _, _ => .fail⟩
theorem impl_Board_reach_step3 (F : Nat) (n0 : Int) (from3 : Int) (lists4 : List (List Int × List Int)) (order5 : List (List Int)) {R : Type} (k : Out → Option R) : stepS tt (impl_Board_reach_tab F) (impl_Board_reach_LS1 F) 70 (impl_Board_reach_ls3 F) (loopAt 3 (bodyOf Try.f33)) (impl_Board_reach_st3 n0 from3 lists4 order5) k = impl_Board_reach_s3 F n0 R (from3, lists4, order5) (fun s => k (.norm (impl_Board_reach_st3 n0 s.1 s.2.1 s.2.2))) (fun x => (impl_Board_reach_o3 n0 x).run k) := by kernel_rfl
theorem impl_Board_reach_iter3 (F : Nat) (n0 : Int) {R : Type} (k : Out → Option R) : ∀ (n : Nat) (from3 : Int) (lists4 : List (List Int × List Int)) (order5 : List (List Int)), iterS tt (impl_Board_reach_tab F) (impl_Board_reach_LS1 F) 70 (impl_Board_reach_ls3 F) (loopAt 3 (bodyOf Try.f33)) n (impl_Board_reach_st3 n0 from3 lists4 order5) k = loopC (impl_Board_reach_s3 F n0) n (from3, lists4, order5) (fun x => (impl_Board_reach_o3 n0 x).run k)
  | 0, from3, lists4, order5 => rfl
  | n + 1, from3, lists4, order5 => (iterS_succ tt (impl_Board_reach_tab F) (impl_Board_reach_LS1 F) 70 (impl_Board_reach_ls3 F) (loopAt 3 (bodyOf Try.f33)) n (impl_Board_reach_st3 n0 from3 lists4 order5) k).trans ((impl_Board_reach_step3 F n0 from3 lists4 order5 (nextK (iterS tt (impl_Board_reach_tab F) (impl_Board_reach_LS1 F) 70 (impl_Board_reach_ls3 F) (loopAt 3 (bodyOf Try.f33)) n) k)).trans (congrArg (fun kn => impl_Board_reach_s3 F n0 R (from3, lists4, order5) kn _) (funext (fun ⟨from3, lists4, order5⟩ => impl_Board_reach_iter3 F n0 k n from3 lists4 order5))))
theorem impl_Board_reach_lok3 (F : Nat) : LoopOK Try.prog (loopAt 3 (bodyOf Try.f33)) (impl_Board_reach_ls3 F) := by
  refine loopOK_of mixed ttok deep (impl_Board_reach_tabok F) (loopsOK_at (impl_Board_reach_lsok1 F) 3) (fuel := 70) fun R vals mem np killed k x h => ?_
  simp only [impl_Board_reach_ls3] at h
  split at h
  · rename_i n0 q_order2 from3 lists4 order5
    simp only [GT.run] at h
    have hc := (cond_noneL h).1
    replace h := (cond_noneL h).2
    have hg := (and_split hc).1
    replace hc := (and_split hc).2
    obtain rfl := nbeq_nat hg
    refine ⟨F, (impl_Board_reach_iter3 F n0 k F from3 lists4 order5).trans ((loopC_use (impl_Board_reach_s3_nat F n0) hc _).trans h)⟩
  · simp only [GT.run] at h
    cases h
noncomputable def impl_Board_reach_LS2 (F : Nat) : LT := (3, impl_Board_reach_ls3 F) :: impl_Board_reach_LS1 F
theorem impl_Board_reach_lsok2 (F : Nat) : LoopsOK Try.prog (impl_Board_reach_LS2 F) (bodyOf Try.f33) := loopsOK_cons impl_Board_reach_keys (impl_Board_reach_lok3 F) (impl_Board_reach_lsok1 F)
theorem impl_Board_reach_run (F : Nat) (b0 : List Int) (n1 : Int) : runS tt (impl_Board_reach_tab F) (impl_Board_reach_LS2 F) [] [] Try.f33 (bodyOf Try.f33) 70 [(.ints 16 b0), (.int .i64 n1)] [] = impl_Board_reach_c _ F b0 n1 (fun r => some ⟨(.tup [(.map 0), (.sl 1 0 (List.length r.2))]), [(.map 16 (.ls .i64 r.1)), (.vec 27 (.rr 16 r.2))], []⟩) := by kernel_rfl
def impl_Board_reach_ent (F : Nat) : Ent := ⟨[], .fresh, fun args mem => match args, mem with
  | [(.ints 16 b0), (.int .i64 n1)], [] => some ((impl_Board_reach_p F b0 n1).isSome, ⟨(.tup [(.map 0), (.sl 1 0 (List.length ((impl_Board_reach_p F b0 n1).getD default).2))]), [(.map 16 (.ls .i64 ((impl_Board_reach_p F b0 n1).getD default).1)), (.vec 27 (.rr 16 ((impl_Board_reach_p F b0 n1).getD default).2))], []⟩)
  | _, _ => none⟩
theorem impl_Board_reach_fok : FunOK Try.prog 33 := funOK Try.func33 (by kernel_rfl) rfl
theorem impl_Board_reach_meets (F : Nat) : Meets Try.prog 33 (impl_Board_reach_ent F) := by
  refine meets_of_runS mixed ttok deep (impl_Board_reach_tabok F) Try.func33 (body_some rfl) (impl_Board_reach_lsok2 F) fun args mem hfit ret h => ?_
  clear hfit
  simp only [impl_Board_reach_ent] at h
  split at h
  · rename_i b0 n1
    simp only [Option.some.injEq, Prod.mk.injEq] at h
    obtain ⟨hc, rfl⟩ := h
    exact ⟨[], [], 70, _, (impl_Board_reach_run F b0 n1).trans ((impl_Board_reach_cp _ F b0 n1 _).trans (bind_use hc _)), rfl, rfl, rfl⟩
  · cases h

/-! loop.example/g01194/impl.cells -/
noncomputable def impl_cells_tab (F : Nat) : Tab := []
theorem impl_cells_tabok (F : Nat) : TabOK Try.prog (impl_cells_tab F) := tab_nil
noncomputable def impl_cells_LS0 (F : Nat) : LT := []
theorem impl_cells_lsok0 (F : Nat) : LoopsOK Try.prog (impl_cells_LS0 F) (bodyOf Try.f57) := loopsOK_nil
theorem impl_cells_run (F : Nat) : runS tt (impl_cells_tab F) (impl_cells_LS0 F) [] [] Try.f57 (bodyOf Try.f57) 70 [] [] = impl_cells_c _ (fun r => some ⟨(.sl 0 0 16), [(.vec 40 (.rr 2 [[(0 : Int), (0 : Int)], [(0 : Int), (1 : Int)], [(0 : Int), (2 : Int)], [(0 : Int), (3 : Int)], [(1 : Int), (0 : Int)], [(1 : Int), (1 : Int)], [(1 : Int), (2 : Int)], [(1 : Int), (3 : Int)], [(2 : Int), (0 : Int)], [(2 : Int), (1 : Int)], [(2 : Int), (2 : Int)], [(2 : Int), (3 : Int)], [(3 : Int), (0 : Int)], [(3 : Int), (1 : Int)], [(3 : Int), (2 : Int)], [(3 : Int), (3 : Int)]]))], []⟩) := by kernel_rfl
def impl_cells_ent (F : Nat) : Ent := ⟨[], .fresh, fun args mem => match args, mem with
  | [], [] => some (true, ⟨(.sl 0 0 16), [(.vec 40 (.rr 2 [[(0 : Int), (0 : Int)], [(0 : Int), (1 : Int)], [(0 : Int), (2 : Int)], [(0 : Int), (3 : Int)], [(1 : Int), (0 : Int)], [(1 : Int), (1 : Int)], [(1 : Int), (2 : Int)], [(1 : Int), (3 : Int)], [(2 : Int), (0 : Int)], [(2 : Int), (1 : Int)], [(2 : Int), (2 : Int)], [(2 : Int), (3 : Int)], [(3 : Int), (0 : Int)], [(3 : Int), (1 : Int)], [(3 : Int), (2 : Int)], [(3 : Int), (3 : Int)]]))], []⟩)
  | _, _ => none⟩
theorem impl_cells_fok : FunOK Try.prog 57 := funOK Try.func57 (by kernel_rfl) rfl
theorem impl_cells_meets (F : Nat) : Meets Try.prog 57 (impl_cells_ent F) := by
  refine meets_of_runS mixed ttok deep (impl_cells_tabok F) Try.func57 (body_some rfl) (impl_cells_lsok0 F) fun args mem hfit ret h => ?_
  clear hfit
  simp only [impl_cells_ent] at h
  split at h
  · simp only [Option.some.injEq, Prod.mk.injEq] at h
    obtain ⟨hc, rfl⟩ := h
    exact ⟨[], [], 70, _, (impl_cells_run F).trans (impl_cells_cv _ _), rfl, rfl, rfl⟩
  · cases h
end Go.Proofs.Ytabfliifleonaah
