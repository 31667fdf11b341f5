/-
Pure functions and what the code of them does, by program; without conditions.
-/
import Derived.Test.YtgdokdkcbgkekafGfP7
import Derived.Test.YtgdokdkcbgkekafGfS6
namespace Go.Proofs.Ytgdokdkcbgkekaf
open Go Go.Lv Go.Lv.P Go.Proofs
set_option linter.unusedVariables false
set_option linter.unusedSimpArgs false
set_option maxRecDepth 100000
/-! loop.example/g01194/impl.IsOver -/
noncomputable def impl_IsOver_tab (F : Nat) : Tab := [(27, (impl_IsBoard_ent F)), (49, (impl_Board_isOver_ent F))]
theorem impl_IsOver_tabok (F : Nat) : TabOK Try.prog (impl_IsOver_tab F) := (tab_cons (impl_IsBoard_meets F) impl_IsBoard_fok (tab_cons (impl_Board_isOver_meets F) impl_Board_isOver_fok tab_nil))
noncomputable def impl_IsOver_LS0 (F : Nat) : LT := []
theorem impl_IsOver_lsok0 (F : Nat) : LoopsOK Try.prog (impl_IsOver_LS0 F) (bodyOf Try.f19) := loopsOK_nil
theorem impl_IsOver_run (F : Nat) (b0 : List Int) : runS tt (impl_IsOver_tab F) (impl_IsOver_LS0 F) [] [] Try.f19 (bodyOf Try.f19) 70 [(.ints 16 b0)] [] = impl_IsOver_c _ F b0 (fun r => some ⟨(.tup [(.bool r.1), (.bool r.2)]), [], []⟩) := by kernel_rfl
def impl_IsOver_ent (F : Nat) : Ent := ⟨[], .quiet, fun args mem => match args, mem with
  | [(.ints 16 b0)], [] => some ((impl_IsOver_p F b0).isSome, ⟨(.tup [(.bool ((impl_IsOver_p F b0).getD default).1), (.bool ((impl_IsOver_p F b0).getD default).2)]), [], []⟩)
  | _, _ => none⟩
theorem impl_IsOver_fok : FunOK Try.prog 19 := funOK Try.func19 (by kernel_rfl) rfl
theorem impl_IsOver_meets (F : Nat) : Meets Try.prog 19 (impl_IsOver_ent F) := by
  refine meets_of_runS mixed ttok deep (impl_IsOver_tabok F) Try.func19 (body_some rfl) (impl_IsOver_lsok0 F) fun args mem hfit ret h => ?_
  clear hfit
  simp only [impl_IsOver_ent] at h
  split at h
  · rename_i b0
    simp only [Option.some.injEq, Prod.mk.injEq] at h
    obtain ⟨hc, rfl⟩ := h
    exact ⟨[], [], 70, _, (impl_IsOver_run F b0).trans ((impl_IsOver_cp _ F b0 _).trans (bind_use hc _)), rfl, rfl, rfl⟩
  · cases h

/-! loop.example/g01194/impl.WorstTile$1 -/
noncomputable def impl_WorstTile_f1_tab (F : Nat) : Tab := [(34, (impl_Board_moves_ent F))]
theorem impl_WorstTile_f1_tabok (F : Nat) : TabOK Try.prog (impl_WorstTile_f1_tab F) := (tab_cons (impl_Board_moves_meets F) impl_Board_moves_fok tab_nil)
noncomputable def impl_WorstTile_f1_LS0 (F : Nat) : LT := []
theorem impl_WorstTile_f1_lsok0 (F : Nat) : LoopsOK Try.prog (impl_WorstTile_f1_LS0 F) (bodyOf Try.f56) := loopsOK_nil
theorem impl_WorstTile_f1_run (F : Nat) (own0 : List Int) : runS tt (impl_WorstTile_f1_tab F) (impl_WorstTile_f1_LS0 F) [] [] Try.f56 (bodyOf Try.f56) 70 [(.ints 16 own0)] [] = impl_WorstTile_f1_c _ F own0 (fun r => some ⟨(.int .i64 r), [], []⟩) := by kernel_rfl
def impl_WorstTile_f1_ent (F : Nat) : Ent := ⟨[], .quiet, fun args mem => match args, mem with
  | [(.ints 16 own0)], [] => some ((impl_WorstTile_f1_p F own0).isSome, ⟨(.int .i64 ((impl_WorstTile_f1_p F own0).getD default)), [], []⟩)
  | _, _ => none⟩
theorem impl_WorstTile_f1_fok : FunOK Try.prog 56 := funOK Try.func56 (by kernel_rfl) rfl
theorem impl_WorstTile_f1_meets (F : Nat) : Meets Try.prog 56 (impl_WorstTile_f1_ent F) := by
  refine meets_of_runS mixed ttok deep (impl_WorstTile_f1_tabok F) Try.func56 (body_some rfl) (impl_WorstTile_f1_lsok0 F) fun args mem hfit ret h => ?_
  clear hfit
  simp only [impl_WorstTile_f1_ent] at h
  split at h
  · rename_i own0
    simp only [Option.some.injEq, Prod.mk.injEq] at h
    obtain ⟨hc, rfl⟩ := h
    exact ⟨[], [], 70, _, (impl_WorstTile_f1_run F own0).trans ((impl_WorstTile_f1_cp _ F own0 _).trans (bind_use hc _)), rfl, rfl, rfl⟩
  · cases h

/-! (loop.example/g01194/impl.Board).worst -/
noncomputable def impl_Board_worst_impl_WorstTile_f1_tab (F : Nat) : Tab := [(46, (impl_Board_placements_ent F)), (48, (impl_Board_placed_ent F)), (56, (impl_WorstTile_f1_ent F))]
theorem impl_Board_worst_impl_WorstTile_f1_tabok (F : Nat) : TabOK Try.prog (impl_Board_worst_impl_WorstTile_f1_tab F) := (tab_cons (impl_Board_placements_meets F) impl_Board_placements_fok (tab_cons (impl_Board_placed_meets F) impl_Board_placed_fok (tab_cons (impl_WorstTile_f1_meets F) impl_WorstTile_f1_fok tab_nil)))
noncomputable def impl_Board_worst_impl_WorstTile_f1_LS0 (F : Nat) : LT := []
theorem impl_Board_worst_impl_WorstTile_f1_lsok0 (F : Nat) : LoopsOK Try.prog (impl_Board_worst_impl_WorstTile_f1_LS0 F) (bodyOf Try.f55) := loopsOK_nil
theorem impl_Board_worst_impl_WorstTile_f1_keys : keysOK (bodyOf Try.f55) = true := by kernel_rfl
def impl_Board_worst_impl_WorstTile_f1_st3 (t1412 : Int) (b14 : List Int) (t1317 : List (List Int)) (least9 : Int) (t1513 : Int) (out16 : List Int) : St := ⟨expand 36 0 [1, 2, 4, 6, 7, 13, 14, 15] [(.fn 56 [] []), (.ptr 0 0 0 16), (.ptr 1 0 0 3), (.ptr 2 0 0 3), (.int .i64 least9), (.sl 3 0 (List.length t1317)), (.int .i64 t1412), (.int .i64 t1513)], [(.var 16 (.ri .i64 b14)), (.var 3 (.ri .i64 [(0 : Int), (0 : Int), (0 : Int)])), (.var 3 (.ri .i64 out16)), (.vec 40 (.rr 3 t1317))], 0, []⟩
def impl_Board_worst_impl_WorstTile_f1_o3 (t1412 : Int) (b14 : List Int) (t1317 : List (List Int)) (x : Int × List Int) : GT := (.out (.exit 0 ⟨expand 36 0 [4, 6, 7] [(.ptr 0 0 0 3), (.ptr 1 0 0 3), (.int .i64 x.1)], [(.var 3 (.ri .i64 [(0 : Int), (0 : Int), (0 : Int)])), (.var 3 (.ri .i64 x.2))], 0, []⟩))
def impl_Board_worst_impl_WorstTile_f1_ls3 (F : Nat) : LoopS := ⟨36, [1, 2, 4, 6, 7, 13, 14, 15], [], [4, 6, 7], [], [4, 5], [], [], fun vals mem np killed => match vals, mem, np, killed with
  | [(.fn 56 [] []), (.ptr 0 0 0 16), (.ptr 1 0 0 3), (.ptr 2 0 0 3), (.int .i64 least9), (.sl 3 0 q_t1311), (.int .i64 t1412), (.int .i64 t1513)], [(.var 16 (.ri .i64 b14)), (.var 3 (.ri .i64 q_t415)), (.var 3 (.ri .i64 out16)), (.vec 40 (.rr 3 t1317))], 0, [] => .br ((q_t415 == ([(0 : Int), (0 : Int), (0 : Int)] : List Int)) && ((Nat.beq q_t1311 (List.length t1317)) && (impl_Board_worst_impl_WorstTile_f1_l3 F t1412 b14 t1317 least9 t1513 out16).isSome)) (impl_Board_worst_impl_WorstTile_f1_o3 t1412 b14 t1317 ((impl_Board_worst_impl_WorstTile_f1_l3 F t1412 b14 t1317 least9 t1513 out16).getD default)) .fail
  | _, _, _, _ => .fail⟩
theorem impl_Board_worst_impl_WorstTile_f1_step3 (F : Nat) (t1412 : Int) (b14 : List Int) (t1317 : List (List Int)) (least9 : Int) (t1513 : Int) (out16 : List Int) {R : Type} (k : Out → Option R) : stepS tt (impl_Board_worst_impl_WorstTile_f1_tab F) (impl_Board_worst_impl_WorstTile_f1_LS0 F) 70 (impl_Board_worst_impl_WorstTile_f1_ls3 F) (loopAt 3 (bodyOf Try.f55)) (impl_Board_worst_impl_WorstTile_f1_st3 t1412 b14 t1317 least9 t1513 out16) k = impl_Board_worst_impl_WorstTile_f1_s3 F t1412 b14 t1317 R (least9, t1513, out16) (fun s => k (.norm (impl_Board_worst_impl_WorstTile_f1_st3 t1412 b14 t1317 s.1 s.2.1 s.2.2))) (fun x => (impl_Board_worst_impl_WorstTile_f1_o3 t1412 b14 t1317 x).run k) := by kernel_rfl
theorem impl_Board_worst_impl_WorstTile_f1_iter3 (F : Nat) (t1412 : Int) (b14 : List Int) (t1317 : List (List Int)) {R : Type} (k : Out → Option R) : ∀ (n : Nat) (least9 : Int) (t1513 : Int) (out16 : List Int), iterS tt (impl_Board_worst_impl_WorstTile_f1_tab F) (impl_Board_worst_impl_WorstTile_f1_LS0 F) 70 (impl_Board_worst_impl_WorstTile_f1_ls3 F) (loopAt 3 (bodyOf Try.f55)) n (impl_Board_worst_impl_WorstTile_f1_st3 t1412 b14 t1317 least9 t1513 out16) k = loopC (impl_Board_worst_impl_WorstTile_f1_s3 F t1412 b14 t1317) n (least9, t1513, out16) (fun x => (impl_Board_worst_impl_WorstTile_f1_o3 t1412 b14 t1317 x).run k)
  | 0, least9, t1513, out16 => rfl
  | n + 1, least9, t1513, out16 => (iterS_succ tt (impl_Board_worst_impl_WorstTile_f1_tab F) (impl_Board_worst_impl_WorstTile_f1_LS0 F) 70 (impl_Board_worst_impl_WorstTile_f1_ls3 F) (loopAt 3 (bodyOf Try.f55)) n (impl_Board_worst_impl_WorstTile_f1_st3 t1412 b14 t1317 least9 t1513 out16) k).trans ((impl_Board_worst_impl_WorstTile_f1_step3 F t1412 b14 t1317 least9 t1513 out16 (nextK (iterS tt (impl_Board_worst_impl_WorstTile_f1_tab F) (impl_Board_worst_impl_WorstTile_f1_LS0 F) 70 (impl_Board_worst_impl_WorstTile_f1_ls3 F) (loopAt 3 (bodyOf Try.f55)) n) k)).trans (congrArg (fun kn => impl_Board_worst_impl_WorstTile_f1_s3 F t1412 b14 t1317 R (least9, t1513, out16) kn _) (funext (fun ⟨least9, t1513, out16⟩ => impl_Board_worst_impl_WorstTile_f1_iter3 F t1412 b14 t1317 k n least9 t1513 out16))))
theorem impl_Board_worst_impl_WorstTile_f1_lok3 (F : Nat) : LoopOK Try.prog (loopAt 3 (bodyOf Try.f55)) (impl_Board_worst_impl_WorstTile_f1_ls3 F) := by
  refine loopOK_of mixed ttok deep (impl_Board_worst_impl_WorstTile_f1_tabok F) (loopsOK_at (impl_Board_worst_impl_WorstTile_f1_lsok0 F) 3) (fuel := 70) fun R vals mem np killed k x h => ?_
  simp only [impl_Board_worst_impl_WorstTile_f1_ls3] at h
  split at h
  · rename_i least9 q_t1311 t1412 t1513 b14 q_t415 out16 t1317
    simp only [GT.run] at h
    have hc := (cond_noneL h).1
    replace h := (cond_noneL h).2
    have hg := (and_split hc).1
    replace hc := (and_split hc).2
    obtain rfl := beq_li hg
    have hg := (and_split hc).1
    replace hc := (and_split hc).2
    obtain rfl := nbeq_nat hg
    refine ⟨F, (impl_Board_worst_impl_WorstTile_f1_iter3 F t1412 b14 t1317 k F least9 t1513 out16).trans ((loopC_use (impl_Board_worst_impl_WorstTile_f1_s3_nat F t1412 b14 t1317) hc _).trans h)⟩
  · simp only [GT.run] at h
    cases h
noncomputable def impl_Board_worst_impl_WorstTile_f1_LS1 (F : Nat) : LT := (3, impl_Board_worst_impl_WorstTile_f1_ls3 F) :: impl_Board_worst_impl_WorstTile_f1_LS0 F
theorem impl_Board_worst_impl_WorstTile_f1_lsok1 (F : Nat) : LoopsOK Try.prog (impl_Board_worst_impl_WorstTile_f1_LS1 F) (bodyOf Try.f55) := loopsOK_cons impl_Board_worst_impl_WorstTile_f1_keys (impl_Board_worst_impl_WorstTile_f1_lok3 F) (impl_Board_worst_impl_WorstTile_f1_lsok0 F)
theorem impl_Board_worst_impl_WorstTile_f1_run (F : Nat) (b0 : List Int) : runS tt (impl_Board_worst_impl_WorstTile_f1_tab F) (impl_Board_worst_impl_WorstTile_f1_LS1 F) [] [] Try.f55 (bodyOf Try.f55) 70 [(.ints 16 b0), (.fn 56 [] [])] [] = impl_Board_worst_impl_WorstTile_f1_c _ F b0 (fun r => some ⟨(.tup [(.ints 3 r.1), (.int .i64 r.2)]), [], []⟩) := by kernel_rfl
def impl_Board_worst_impl_WorstTile_f1_ent (F : Nat) : Ent := ⟨[], .quiet, fun args mem => match args, mem with
  | [(.ints 16 b0), (.fn 56 [] [])], [] => some ((impl_Board_worst_impl_WorstTile_f1_p F b0).isSome, ⟨(.tup [(.ints 3 ((impl_Board_worst_impl_WorstTile_f1_p F b0).getD default).1), (.int .i64 ((impl_Board_worst_impl_WorstTile_f1_p F b0).getD default).2)]), [], []⟩)
  | _, _ => none⟩
theorem impl_Board_worst_impl_WorstTile_f1_fok : FunOK Try.prog 55 := funOK Try.func55 (by kernel_rfl) rfl
theorem impl_Board_worst_impl_WorstTile_f1_meets (F : Nat) : Meets Try.prog 55 (impl_Board_worst_impl_WorstTile_f1_ent F) := by
  refine meets_of_runS mixed ttok deep (impl_Board_worst_impl_WorstTile_f1_tabok F) Try.func55 (body_some rfl) (impl_Board_worst_impl_WorstTile_f1_lsok1 F) fun args mem hfit ret h => ?_
  clear hfit
  simp only [impl_Board_worst_impl_WorstTile_f1_ent] at h
  split at h
  · rename_i b0
    simp only [Option.some.injEq, Prod.mk.injEq] at h
    obtain ⟨hc, rfl⟩ := h
    exact ⟨[], [], 70, _, (impl_Board_worst_impl_WorstTile_f1_run F b0).trans ((impl_Board_worst_impl_WorstTile_f1_cp _ F b0 _).trans (bind_use hc _)), rfl, rfl, rfl⟩
  · cases h

/-! loop.example/g01194/impl.WorstTile -/
noncomputable def impl_WorstTile_tab (F : Nat) : Tab := [(27, (impl_IsBoard_ent F)), (54, (impl_Board_empty_ent F)), (55, (impl_Board_worst_impl_WorstTile_f1_ent F))]
theorem impl_WorstTile_tabok (F : Nat) : TabOK Try.prog (impl_WorstTile_tab F) := (tab_cons (impl_IsBoard_meets F) impl_IsBoard_fok (tab_cons (impl_Board_empty_meets F) impl_Board_empty_fok (tab_cons (impl_Board_worst_impl_WorstTile_f1_meets F) impl_Board_worst_impl_WorstTile_f1_fok tab_nil)))
noncomputable def impl_WorstTile_LS0 (F : Nat) : LT := []
theorem impl_WorstTile_lsok0 (F : Nat) : LoopsOK Try.prog (impl_WorstTile_LS0 F) (bodyOf Try.f20) := loopsOK_nil
theorem impl_WorstTile_run (F : Nat) (b0 : List Int) : runS tt (impl_WorstTile_tab F) (impl_WorstTile_LS0 F) [] [] Try.f20 (bodyOf Try.f20) 70 [(.ints 16 b0)] [] = impl_WorstTile_c _ F b0 (fun r => some ⟨(.tup [(.ints 3 r.1), (.int .i64 r.2.1), (.bool r.2.2)]), [], []⟩) := by kernel_rfl
def impl_WorstTile_ent (F : Nat) : Ent := ⟨[], .quiet, fun args mem => match args, mem with
  | [(.ints 16 b0)], [] => some ((impl_WorstTile_p F b0).isSome, ⟨(.tup [(.ints 3 ((impl_WorstTile_p F b0).getD default).1), (.int .i64 ((impl_WorstTile_p F b0).getD default).2.1), (.bool ((impl_WorstTile_p F b0).getD default).2.2)]), [], []⟩)
  | _, _ => none⟩
theorem impl_WorstTile_fok : FunOK Try.prog 20 := funOK Try.func20 (by kernel_rfl) rfl
theorem impl_WorstTile_meets (F : Nat) : Meets Try.prog 20 (impl_WorstTile_ent F) := by
  refine meets_of_runS mixed ttok deep (impl_WorstTile_tabok F) Try.func20 (body_some rfl) (impl_WorstTile_lsok0 F) fun args mem hfit ret h => ?_
  clear hfit
  simp only [impl_WorstTile_ent] at h
  split at h
  · rename_i b0
    simp only [Option.some.injEq, Prod.mk.injEq] at h
    obtain ⟨hc, rfl⟩ := h
    exact ⟨[], [], 70, _, (impl_WorstTile_run F b0).trans ((impl_WorstTile_cp _ F b0 _).trans (bind_use hc _)), rfl, rfl, rfl⟩
  · cases h

/-! loop.example/g01194/spec.WorstTile -/
noncomputable def spec_WorstTile_tab (F : Nat) : Tab := [(30, (spec_l2Board_ent F)), (57, (spec_l2Empty_ent F)), (50, (spec_l8Places_ent F)), (52, (spec_l8Put_ent F)), (51, (spec_l2Moves_ent F))]
theorem spec_WorstTile_tabok (F : Nat) : TabOK Try.prog (spec_WorstTile_tab F) := (tab_cons (spec_l2Board_meets F) spec_l2Board_fok (tab_cons (spec_l2Empty_meets F) spec_l2Empty_fok (tab_cons (spec_l8Places_meets F) spec_l8Places_fok (tab_cons (spec_l8Put_meets F) spec_l8Put_fok (tab_cons (spec_l2Moves_meets F) spec_l2Moves_fok tab_nil)))))
noncomputable def spec_WorstTile_LS0 (F : Nat) : LT := []
theorem spec_WorstTile_lsok0 (F : Nat) : LoopsOK Try.prog (spec_WorstTile_LS0 F) (bodyOf Try.f21) := loopsOK_nil
theorem spec_WorstTile_keys : keysOK (bodyOf Try.f21) = true := by kernel_rfl
def spec_WorstTile_st6 (b13 : List Int) (all15 : List (List Int)) (best8 : Int) (i12 : Int) (first16 : List Int) : St := ⟨expand 47 0 [1, 2, 5, 6, 7, 8] [(.ptr 0 0 0 16), (.ptr 1 0 0 3), (.sl 2 0 (List.length all15)), (.int .i64 best8), (.ptr 3 0 0 3), (.int .i64 i12)], [(.var 16 (.ri .i64 b13)), (.var 3 (.ri .i64 [(0 : Int), (0 : Int), (0 : Int)])), (.vec 40 (.rr 3 all15)), (.var 3 (.ri .i64 first16))], 0, []⟩
def spec_WorstTile_o6 (b13 : List Int) (all15 : List (List Int)) (x : Int × List Int) : GT := (.out (.exit 0 ⟨expand 47 0 [2, 6, 7] [(.ptr 0 0 0 3), (.int .i64 x.1), (.ptr 1 0 0 3)], [(.var 3 (.ri .i64 [(0 : Int), (0 : Int), (0 : Int)])), (.var 3 (.ri .i64 x.2))], 0, []⟩))
def spec_WorstTile_ls6 (F : Nat) : LoopS := ⟨47, [1, 2, 5, 6, 7, 8], [], [2, 6, 7], [], [2, 3, 4], [], [], fun vals mem np killed => match vals, mem, np, killed with
  | [(.ptr 0 0 0 16), (.ptr 1 0 0 3), (.sl 2 0 q_all7), (.int .i64 best8), (.ptr 3 0 0 3), (.int .i64 i12)], [(.var 16 (.ri .i64 b13)), (.var 3 (.ri .i64 q_t214)), (.vec 40 (.rr 3 all15)), (.var 3 (.ri .i64 first16))], 0, [] => .br ((q_t214 == ([(0 : Int), (0 : Int), (0 : Int)] : List Int)) && ((Nat.beq q_all7 (List.length all15)) && (spec_WorstTile_l6 F b13 all15 best8 i12 first16).isSome)) (spec_WorstTile_o6 b13 all15 ((spec_WorstTile_l6 F b13 all15 best8 i12 first16).getD default)) .fail
  | _, _, _, _ => .fail⟩
theorem spec_WorstTile_step6 (F : Nat) (b13 : List Int) (all15 : List (List Int)) (best8 : Int) (i12 : Int) (first16 : List Int) {R : Type} (k : Out → Option R) : stepS tt (spec_WorstTile_tab F) (spec_WorstTile_LS0 F) 70 (spec_WorstTile_ls6 F) (loopAt 6 (bodyOf Try.f21)) (spec_WorstTile_st6 b13 all15 best8 i12 first16) k = spec_WorstTile_s6 F b13 all15 R (best8, i12, first16) (fun s => k (.norm (spec_WorstTile_st6 b13 all15 s.1 s.2.1 s.2.2))) (fun x => (spec_WorstTile_o6 b13 all15 x).run k) := by kernel_rfl
theorem spec_WorstTile_iter6 (F : Nat) (b13 : List Int) (all15 : List (List Int)) {R : Type} (k : Out → Option R) : ∀ (n : Nat) (best8 : Int) (i12 : Int) (first16 : List Int), iterS tt (spec_WorstTile_tab F) (spec_WorstTile_LS0 F) 70 (spec_WorstTile_ls6 F) (loopAt 6 (bodyOf Try.f21)) n (spec_WorstTile_st6 b13 all15 best8 i12 first16) k = loopC (spec_WorstTile_s6 F b13 all15) n (best8, i12, first16) (fun x => (spec_WorstTile_o6 b13 all15 x).run k)
  | 0, best8, i12, first16 => rfl
  | n + 1, best8, i12, first16 => (iterS_succ tt (spec_WorstTile_tab F) (spec_WorstTile_LS0 F) 70 (spec_WorstTile_ls6 F) (loopAt 6 (bodyOf Try.f21)) n (spec_WorstTile_st6 b13 all15 best8 i12 first16) k).trans ((spec_WorstTile_step6 F b13 all15 best8 i12 first16 (nextK (iterS tt (spec_WorstTile_tab F) (spec_WorstTile_LS0 F) 70 (spec_WorstTile_ls6 F) (loopAt 6 (bodyOf Try.f21)) n) k)).trans (congrArg (fun kn => spec_WorstTile_s6 F b13 all15 R (best8, i12, first16) kn _) (funext (fun ⟨best8, i12, first16⟩ => spec_WorstTile_iter6 F b13 all15 k n best8 i12 first16))))
theorem spec_WorstTile_lok6 (F : Nat) : LoopOK Try.prog (loopAt 6 (bodyOf Try.f21)) (spec_WorstTile_ls6 F) := by
  refine loopOK_of mixed ttok deep (spec_WorstTile_tabok F) (loopsOK_at (spec_WorstTile_lsok0 F) 6) (fuel := 70) fun R vals mem np killed k x h => ?_
  simp only [spec_WorstTile_ls6] at h
  split at h
  · rename_i q_all7 best8 i12 b13 q_t214 all15 first16
    simp only [GT.run] at h
    have hc := (cond_noneL h).1
    replace h := (cond_noneL h).2
    have hg := (and_split hc).1
    replace hc := (and_split hc).2
    obtain rfl := beq_li hg
    have hg := (and_split hc).1
    replace hc := (and_split hc).2
    obtain rfl := nbeq_nat hg
    refine ⟨F, (spec_WorstTile_iter6 F b13 all15 k F best8 i12 first16).trans ((loopC_use (spec_WorstTile_s6_nat F b13 all15) hc _).trans h)⟩
  · simp only [GT.run] at h
    cases h
noncomputable def spec_WorstTile_LS1 (F : Nat) : LT := (6, spec_WorstTile_ls6 F) :: spec_WorstTile_LS0 F
theorem spec_WorstTile_lsok1 (F : Nat) : LoopsOK Try.prog (spec_WorstTile_LS1 F) (bodyOf Try.f21) := loopsOK_cons spec_WorstTile_keys (spec_WorstTile_lok6 F) (spec_WorstTile_lsok0 F)
theorem spec_WorstTile_run (F : Nat) (b0 : List Int) : runS tt (spec_WorstTile_tab F) (spec_WorstTile_LS1 F) [] [] Try.f21 (bodyOf Try.f21) 70 [(.ints 16 b0)] [] = spec_WorstTile_c _ F b0 (fun r => some ⟨(.tup [(.ints 3 r.1), (.int .i64 r.2.1), (.bool r.2.2)]), [], []⟩) := by kernel_rfl
def spec_WorstTile_ent (F : Nat) : Ent := ⟨[], .quiet, fun args mem => match args, mem with
  | [(.ints 16 b0)], [] => some ((spec_WorstTile_p F b0).isSome, ⟨(.tup [(.ints 3 ((spec_WorstTile_p F b0).getD default).1), (.int .i64 ((spec_WorstTile_p F b0).getD default).2.1), (.bool ((spec_WorstTile_p F b0).getD default).2.2)]), [], []⟩)
  | _, _ => none⟩
theorem spec_WorstTile_fok : FunOK Try.prog 21 := funOK Try.func21 (by kernel_rfl) rfl
theorem spec_WorstTile_meets (F : Nat) : Meets Try.prog 21 (spec_WorstTile_ent F) := by
  refine meets_of_runS mixed ttok deep (spec_WorstTile_tabok F) Try.func21 (body_some rfl) (spec_WorstTile_lsok1 F) fun args mem hfit ret h => ?_
  clear hfit
  simp only [spec_WorstTile_ent] at h
  split at h
  · rename_i b0
    simp only [Option.some.injEq, Prod.mk.injEq] at h
    obtain ⟨hc, rfl⟩ := h
    exact ⟨[], [], 70, _, (spec_WorstTile_run F b0).trans ((spec_WorstTile_cp _ F b0 _).trans (bind_use hc _)), rfl, rfl, rfl⟩
  · cases h

/-! loop.example/g01194/impl.SlideBoard -/
noncomputable def impl_SlideBoard_tab (F : Nat) : Tab := [(27, (impl_IsBoard_ent F)), (58, (impl_isDirection_ent F)), (59, (impl_Board_slide_ent F))]
theorem impl_SlideBoard_tabok (F : Nat) : TabOK Try.prog (impl_SlideBoard_tab F) := (tab_cons (impl_IsBoard_meets F) impl_IsBoard_fok (tab_cons (impl_isDirection_meets F) impl_isDirection_fok (tab_cons (impl_Board_slide_meets F) impl_Board_slide_fok tab_nil)))
noncomputable def impl_SlideBoard_LS0 (F : Nat) : LT := []
theorem impl_SlideBoard_lsok0 (F : Nat) : LoopsOK Try.prog (impl_SlideBoard_LS0 F) (bodyOf Try.f22) := loopsOK_nil
theorem impl_SlideBoard_run (F : Nat) (b0 : List Int) (direction1 : Int) : runS tt (impl_SlideBoard_tab F) (impl_SlideBoard_LS0 F) [] [] Try.f22 (bodyOf Try.f22) 70 [(.ints 16 b0), (.int .i64 direction1)] [] = impl_SlideBoard_c _ F b0 direction1 (fun r => some ⟨(.tup [(.ints 16 r.1), (.int .i64 r.2.1), (.bool r.2.2)]), [], []⟩) := by kernel_rfl
def impl_SlideBoard_ent (F : Nat) : Ent := ⟨[], .quiet, fun args mem => match args, mem with
  | [(.ints 16 b0), (.int .i64 direction1)], [] => some ((impl_SlideBoard_p F b0 direction1).isSome, ⟨(.tup [(.ints 16 ((impl_SlideBoard_p F b0 direction1).getD default).1), (.int .i64 ((impl_SlideBoard_p F b0 direction1).getD default).2.1), (.bool ((impl_SlideBoard_p F b0 direction1).getD default).2.2)]), [], []⟩)
  | _, _ => none⟩
theorem impl_SlideBoard_fok : FunOK Try.prog 22 := funOK Try.func22 (by kernel_rfl) rfl
theorem impl_SlideBoard_meets (F : Nat) : Meets Try.prog 22 (impl_SlideBoard_ent F) := by
  refine meets_of_runS mixed ttok deep (impl_SlideBoard_tabok F) Try.func22 (body_some rfl) (impl_SlideBoard_lsok0 F) fun args mem hfit ret h => ?_
  clear hfit
  simp only [impl_SlideBoard_ent] at h
  split at h
  · rename_i b0 direction1
    simp only [Option.some.injEq, Prod.mk.injEq] at h
    obtain ⟨hc, rfl⟩ := h
    exact ⟨[], [], 70, _, (impl_SlideBoard_run F b0 direction1).trans ((impl_SlideBoard_cp _ F b0 direction1 _).trans (bind_use hc _)), rfl, rfl, rfl⟩
  · cases h

/-! loop.example/g01194/impl.MovesOf -/
noncomputable def impl_MovesOf_tab (F : Nat) : Tab := [(27, (impl_IsBoard_ent F)), (34, (impl_Board_moves_ent F))]
theorem impl_MovesOf_tabok (F : Nat) : TabOK Try.prog (impl_MovesOf_tab F) := (tab_cons (impl_IsBoard_meets F) impl_IsBoard_fok (tab_cons (impl_Board_moves_meets F) impl_Board_moves_fok tab_nil))
noncomputable def impl_MovesOf_LS0 (F : Nat) : LT := []
theorem impl_MovesOf_lsok0 (F : Nat) : LoopsOK Try.prog (impl_MovesOf_LS0 F) (bodyOf Try.f23) := loopsOK_nil
theorem impl_MovesOf_run (F : Nat) (b0 : List Int) : runS tt (impl_MovesOf_tab F) (impl_MovesOf_LS0 F) [⟨2, 3, (.ri .i64 ([] : List Int))⟩] [] Try.f23 (bodyOf Try.f23) 70 [(.ints 16 b0)] [] = impl_MovesOf_c _ F b0 (fun r => some ⟨(.tup [(.sl 0 0 (List.length r.2)), (.bool r.1)]), [(.vec 3 (.ri .i64 r.2))], []⟩) := by kernel_rfl
def impl_MovesOf_ent (F : Nat) : Ent := ⟨[], .fresh, fun args mem => match args, mem with
  | [(.ints 16 b0)], [] => some ((impl_MovesOf_p F b0).isSome, ⟨(.tup [(.sl 0 0 (List.length ((impl_MovesOf_p F b0).getD default).2)), (.bool ((impl_MovesOf_p F b0).getD default).1)]), [(.vec 3 (.ri .i64 ((impl_MovesOf_p F b0).getD default).2))], []⟩)
  | _, _ => none⟩
theorem impl_MovesOf_fok : FunOK Try.prog 23 := funOK Try.func23 (by kernel_rfl) rfl
theorem impl_MovesOf_meets (F : Nat) : Meets Try.prog 23 (impl_MovesOf_ent F) := by
  refine meets_of_runS mixed ttok deep (impl_MovesOf_tabok F) Try.func23 (body_some rfl) (impl_MovesOf_lsok0 F) fun args mem hfit ret h => ?_
  clear hfit
  simp only [impl_MovesOf_ent] at h
  split at h
  · rename_i b0
    simp only [Option.some.injEq, Prod.mk.injEq] at h
    obtain ⟨hc, rfl⟩ := h
    exact ⟨[⟨2, 3, (.ri .i64 ([] : List Int))⟩], [], 70, _, (impl_MovesOf_run F b0).trans ((impl_MovesOf_cp _ F b0 _).trans (bind_use hc _)), rfl, rfl, rfl⟩
  · cases h

/-! loop.example/g01194/laws.rHas -/
noncomputable def laws_rHas_tab (F : Nat) : Tab := []
theorem laws_rHas_tabok (F : Nat) : TabOK Try.prog (laws_rHas_tab F) := tab_nil
noncomputable def laws_rHas_LS0 (F : Nat) : LT := []
theorem laws_rHas_lsok0 (F : Nat) : LoopsOK Try.prog (laws_rHas_LS0 F) (bodyOf Try.f24) := loopsOK_nil
theorem laws_rHas_keys : keysOK (bodyOf Try.f24) = true := by kernel_rfl
def laws_rHas_st2 (list0 : List Int) (x1 : Int) (i2 : Int) : St := ⟨expand 18 0 [0, 1, 5] [(.ri .i64 list0), (.int .i64 x1), (.int .i64 i2)], [], 0, []⟩
def laws_rHas_o2 (list0 : List Int) (x1 : Int) (x : Bool) : GT := (.br x (.out (.ret ⟨expand 18 0 [4] [(.bool true)], [], 0, []⟩)) (.out (.exit 0 ⟨expand 18 0 [] [], [], 0, []⟩)))
def laws_rHas_ls2 (F : Nat) : LoopS := ⟨18, [0, 1, 5], [], [], [], [4], [], [], fun vals mem np killed => match vals, mem, np, killed with
  | [(.ri .i64 list0), (.int .i64 x1), (.int .i64 i2)], [], 0, [] => .br (laws_rHas_l2 F list0 x1 i2).isSome (laws_rHas_o2 list0 x1 ((laws_rHas_l2 F list0 x1 i2).getD default)) .fail
  | _, _, _, _ => .fail⟩
theorem laws_rHas_step2 (F : Nat) (list0 : List Int) (x1 : Int) (i2 : Int) {R : Type} (k : Out → Option R) : stepS tt (laws_rHas_tab F) (laws_rHas_LS0 F) 70 (laws_rHas_ls2 F) (loopAt 2 (bodyOf Try.f24)) (laws_rHas_st2 list0 x1 i2) k = laws_rHas_s2 F list0 x1 R i2 (fun s => k (.norm (laws_rHas_st2 list0 x1 s))) (fun x => (laws_rHas_o2 list0 x1 x).run k) := by kernel_rfl
theorem laws_rHas_iter2 (F : Nat) (list0 : List Int) (x1 : Int) {R : Type} (k : Out → Option R) : ∀ (n : Nat) (i2 : Int), iterS tt (laws_rHas_tab F) (laws_rHas_LS0 F) 70 (laws_rHas_ls2 F) (loopAt 2 (bodyOf Try.f24)) n (laws_rHas_st2 list0 x1 i2) k = loopC (laws_rHas_s2 F list0 x1) n i2 (fun x => (laws_rHas_o2 list0 x1 x).run k)
  | 0, i2 => rfl
  | n + 1, i2 => (iterS_succ tt (laws_rHas_tab F) (laws_rHas_LS0 F) 70 (laws_rHas_ls2 F) (loopAt 2 (bodyOf Try.f24)) n (laws_rHas_st2 list0 x1 i2) k).trans ((laws_rHas_step2 F list0 x1 i2 (nextK (iterS tt (laws_rHas_tab F) (laws_rHas_LS0 F) 70 (laws_rHas_ls2 F) (loopAt 2 (bodyOf Try.f24)) n) k)).trans (congrArg (fun kn => laws_rHas_s2 F list0 x1 R i2 kn _) (funext (fun i2 => laws_rHas_iter2 F list0 x1 k n i2))))
theorem laws_rHas_lok2 (F : Nat) : LoopOK Try.prog (loopAt 2 (bodyOf Try.f24)) (laws_rHas_ls2 F) := by
  refine loopOK_of mixed ttok deep (laws_rHas_tabok F) (loopsOK_at (laws_rHas_lsok0 F) 2) (fuel := 70) fun R vals mem np killed k x h => ?_
  simp only [laws_rHas_ls2] at h
  split at h
  · rename_i list0 x1 i2
    simp only [GT.run] at h
    have hc := (cond_noneL h).1
    replace h := (cond_noneL h).2
    refine ⟨F, (laws_rHas_iter2 F list0 x1 k F i2).trans ((loopC_use (laws_rHas_s2_nat F list0 x1) hc _).trans h)⟩
  · simp only [GT.run] at h
    cases h
noncomputable def laws_rHas_LS1 (F : Nat) : LT := (2, laws_rHas_ls2 F) :: laws_rHas_LS0 F
theorem laws_rHas_lsok1 (F : Nat) : LoopsOK Try.prog (laws_rHas_LS1 F) (bodyOf Try.f24) := loopsOK_cons laws_rHas_keys (laws_rHas_lok2 F) (laws_rHas_lsok0 F)
theorem laws_rHas_run (F : Nat) (list0 : List Int) (x1 : Int) : runS tt (laws_rHas_tab F) (laws_rHas_LS1 F) [] [] Try.f24 (bodyOf Try.f24) 70 [(.ri .i64 list0), (.int .i64 x1)] [] = laws_rHas_c _ F list0 x1 (fun r => some ⟨(.bool r), [], []⟩) := by kernel_rfl
def laws_rHas_ent (F : Nat) : Ent := ⟨[], .quiet, fun args mem => match args, mem with
  | [(.ri .i64 list0), (.int .i64 x1)], [] => some ((laws_rHas_p F list0 x1).isSome, ⟨(.bool ((laws_rHas_p F list0 x1).getD default)), [], []⟩)
  | _, _ => none⟩
theorem laws_rHas_fok : FunOK Try.prog 24 := funOK Try.func24 (by kernel_rfl) rfl
theorem laws_rHas_meets (F : Nat) : Meets Try.prog 24 (laws_rHas_ent F) := by
  refine meets_of_runS mixed ttok deep (laws_rHas_tabok F) Try.func24 (body_some rfl) (laws_rHas_lsok1 F) fun args mem hfit ret h => ?_
  clear hfit
  simp only [laws_rHas_ent] at h
  split at h
  · rename_i list0 x1
    simp only [Option.some.injEq, Prod.mk.injEq] at h
    obtain ⟨hc, rfl⟩ := h
    exact ⟨[], [], 70, _, (laws_rHas_run F list0 x1).trans ((laws_rHas_cp _ F list0 x1 _).trans (bind_use hc _)), rfl, rfl, rfl⟩
  · cases h

/-! loop.example/g01194/laws.FnLasting -/
noncomputable def laws_FnLasting_tab (F : Nat) : Tab := [(4, (laws_rBig_ent F)), (5, (spec_DrawLasts_ent F)), (6, (impl_Lasts_ent F)), (7, (spec_Lasts_ent F)), (8, (impl_LastsHow_ent F)), (9, (spec_LastsHow_ent F)), (10, (impl_SafeMoves_ent F)), (11, (spec_SafeMoves_ent F)), (12, (laws_rInts_ent F)), (13, (spec_DrawRefuteMove_ent F)), (14, (impl_RefuteMove_ent F)), (15, (spec_RefuteMove_ent F)), (16, (impl_DeadPlaces_ent F)), (17, (spec_DeadPlaces_ent F)), (18, (impl_PlaceTile_ent F)), (19, (impl_IsOver_ent F)), (20, (impl_WorstTile_ent F)), (21, (spec_WorstTile_ent F)), (22, (impl_SlideBoard_ent F)), (23, (impl_MovesOf_ent F)), (24, (laws_rHas_ent F))]
theorem laws_FnLasting_tabok (F : Nat) : TabOK Try.prog (laws_FnLasting_tab F) := (tab_cons (laws_rBig_meets F) laws_rBig_fok (tab_cons (spec_DrawLasts_meets F) spec_DrawLasts_fok (tab_cons (impl_Lasts_meets F) impl_Lasts_fok (tab_cons (spec_Lasts_meets F) spec_Lasts_fok (tab_cons (impl_LastsHow_meets F) impl_LastsHow_fok (tab_cons (spec_LastsHow_meets F) spec_LastsHow_fok (tab_cons (impl_SafeMoves_meets F) impl_SafeMoves_fok (tab_cons (spec_SafeMoves_meets F) spec_SafeMoves_fok (tab_cons (laws_rInts_meets F) laws_rInts_fok (tab_cons (spec_DrawRefuteMove_meets F) spec_DrawRefuteMove_fok (tab_cons (impl_RefuteMove_meets F) impl_RefuteMove_fok (tab_cons (spec_RefuteMove_meets F) spec_RefuteMove_fok (tab_cons (impl_DeadPlaces_meets F) impl_DeadPlaces_fok (tab_cons (spec_DeadPlaces_meets F) spec_DeadPlaces_fok (tab_cons (impl_PlaceTile_meets F) impl_PlaceTile_fok (tab_cons (impl_IsOver_meets F) impl_IsOver_fok (tab_cons (impl_WorstTile_meets F) impl_WorstTile_fok (tab_cons (spec_WorstTile_meets F) spec_WorstTile_fok (tab_cons (impl_SlideBoard_meets F) impl_SlideBoard_fok (tab_cons (impl_MovesOf_meets F) impl_MovesOf_fok (tab_cons (laws_rHas_meets F) laws_rHas_fok tab_nil)))))))))))))))))))))
noncomputable def laws_FnLasting_LS0 (F : Nat) : LT := []
theorem laws_FnLasting_lsok0 (F : Nat) : LoopsOK Try.prog (laws_FnLasting_LS0 F) (bodyOf Try.f3) := loopsOK_nil
theorem laws_FnLasting_keys : keysOK (bodyOf Try.f3) = true := by kernel_rfl
def laws_FnLasting_st26 (n3 : Int) (safe5 : Nat) (two6 : Bool) (d10 : Int) (m11 : Int) (three15 : Bool) (dead17 : Nat) (b21 : List Int) (safe22 : List Int) (c23 : List Int) (p24 : List Int) (dead25 : List (List Int)) (want26 : List (List Int)) (i20 : Int) : St := ⟨expand 332 0 [3, 4, 13, 14, 17, 18, 19, 20, 21, 24, 26, 28] [(.ptr 0 0 0 16), (.int .i64 n3), (.sl 1 0 safe5), (.bool two6), (.ptr 2 0 0 16), (.int .i64 d10), (.int .i64 m11), (.ptr 3 0 0 3), (.bool three15), (.sl 4 0 dead17), (.sl 5 0 (List.length want26)), (.int .i64 i20)], [(.var 16 (.ri .i64 b21)), (.vec 3 (.ri .i64 safe22)), (.var 16 (.ri .i64 c23)), (.var 3 (.ri .i64 p24)), (.vec 40 (.rr 3 dead25)), (.vec 40 (.rr 3 want26))], 0, []⟩
def laws_FnLasting_o26 (n3 : Int) (safe5 : Nat) (two6 : Bool) (d10 : Int) (m11 : Int) (three15 : Bool) (dead17 : Nat) (b21 : List Int) (safe22 : List Int) (c23 : List Int) (p24 : List Int) (dead25 : List (List Int)) (want26 : List (List Int)) (x : Bool) : GT := (.br x (.out (.ret ⟨expand 332 0 [2] [(.bool false)], [], 0, []⟩)) (.out (.exit 0 ⟨expand 332 0 [3, 4, 13, 14, 17, 18, 19, 20, 21, 24] [(.ptr 0 0 0 16), (.int .i64 n3), (.sl 1 0 safe5), (.bool two6), (.ptr 2 0 0 16), (.int .i64 d10), (.int .i64 m11), (.ptr 3 0 0 3), (.bool three15), (.sl 4 0 dead17)], [(.var 16 (.ri .i64 b21)), (.vec 3 (.ri .i64 safe22)), (.var 16 (.ri .i64 c23)), (.var 3 (.ri .i64 p24)), (.vec 40 (.rr 3 dead25))], 0, []⟩)))
def laws_FnLasting_ls26 (F : Nat) : LoopS := ⟨332, [3, 4, 13, 14, 17, 18, 19, 20, 21, 24, 26, 28], [], [3, 4, 13, 14, 17, 18, 19, 20, 21, 24], [], [2], [], [], fun vals mem np killed => match vals, mem, np, killed with
  | [(.ptr 0 0 0 16), (.int .i64 n3), (.sl 1 0 safe5), (.bool two6), (.ptr 2 0 0 16), (.int .i64 d10), (.int .i64 m11), (.ptr 3 0 0 3), (.bool three15), (.sl 4 0 dead17), (.sl 5 0 q_want19), (.int .i64 i20)], [(.var 16 (.ri .i64 b21)), (.vec 3 (.ri .i64 safe22)), (.var 16 (.ri .i64 c23)), (.var 3 (.ri .i64 p24)), (.vec 40 (.rr 3 dead25)), (.vec 40 (.rr 3 want26))], 0, [] => .br ((Nat.beq q_want19 (List.length want26)) && (laws_FnLasting_l26 F n3 safe5 two6 d10 m11 three15 dead17 b21 safe22 c23 p24 dead25 want26 i20).isSome) (laws_FnLasting_o26 n3 safe5 two6 d10 m11 three15 dead17 b21 safe22 c23 p24 dead25 want26 ((laws_FnLasting_l26 F n3 safe5 two6 d10 m11 three15 dead17 b21 safe22 c23 p24 dead25 want26 i20).getD default)) .fail
  | _, _, _, _ => .fail⟩
theorem laws_FnLasting_step26 (F : Nat) (n3 : Int) (safe5 : Nat) (two6 : Bool) (d10 : Int) (m11 : Int) (three15 : Bool) (dead17 : Nat) (b21 : List Int) (safe22 : List Int) (c23 : List Int) (p24 : List Int) (dead25 : List (List Int)) (want26 : List (List Int)) (i20 : Int) {R : Type} (k : Out → Option R) : stepS tt (laws_FnLasting_tab F) (laws_FnLasting_LS0 F) 70 (laws_FnLasting_ls26 F) (loopAt 26 (bodyOf Try.f3)) (laws_FnLasting_st26 n3 safe5 two6 d10 m11 three15 dead17 b21 safe22 c23 p24 dead25 want26 i20) k = laws_FnLasting_s26 F n3 safe5 two6 d10 m11 three15 dead17 b21 safe22 c23 p24 dead25 want26 R i20 (fun s => k (.norm (laws_FnLasting_st26 n3 safe5 two6 d10 m11 three15 dead17 b21 safe22 c23 p24 dead25 want26 s))) (fun x => (laws_FnLasting_o26 n3 safe5 two6 d10 m11 three15 dead17 b21 safe22 c23 p24 dead25 want26 x).run k) := by kernel_rfl
theorem laws_FnLasting_iter26 (F : Nat) (n3 : Int) (safe5 : Nat) (two6 : Bool) (d10 : Int) (m11 : Int) (three15 : Bool) (dead17 : Nat) (b21 : List Int) (safe22 : List Int) (c23 : List Int) (p24 : List Int) (dead25 : List (List Int)) (want26 : List (List Int)) {R : Type} (k : Out → Option R) : ∀ (n : Nat) (i20 : Int), iterS tt (laws_FnLasting_tab F) (laws_FnLasting_LS0 F) 70 (laws_FnLasting_ls26 F) (loopAt 26 (bodyOf Try.f3)) n (laws_FnLasting_st26 n3 safe5 two6 d10 m11 three15 dead17 b21 safe22 c23 p24 dead25 want26 i20) k = loopC (laws_FnLasting_s26 F n3 safe5 two6 d10 m11 three15 dead17 b21 safe22 c23 p24 dead25 want26) n i20 (fun x => (laws_FnLasting_o26 n3 safe5 two6 d10 m11 three15 dead17 b21 safe22 c23 p24 dead25 want26 x).run k)
  | 0, i20 => rfl
  | n + 1, i20 => (iterS_succ tt (laws_FnLasting_tab F) (laws_FnLasting_LS0 F) 70 (laws_FnLasting_ls26 F) (loopAt 26 (bodyOf Try.f3)) n (laws_FnLasting_st26 n3 safe5 two6 d10 m11 three15 dead17 b21 safe22 c23 p24 dead25 want26 i20) k).trans ((laws_FnLasting_step26 F n3 safe5 two6 d10 m11 three15 dead17 b21 safe22 c23 p24 dead25 want26 i20 (nextK (iterS tt (laws_FnLasting_tab F) (laws_FnLasting_LS0 F) 70 (laws_FnLasting_ls26 F) (loopAt 26 (bodyOf Try.f3)) n) k)).trans (congrArg (fun kn => laws_FnLasting_s26 F n3 safe5 two6 d10 m11 three15 dead17 b21 safe22 c23 p24 dead25 want26 R i20 kn _) (funext (fun i20 => laws_FnLasting_iter26 F n3 safe5 two6 d10 m11 three15 dead17 b21 safe22 c23 p24 dead25 want26 k n i20))))
theorem laws_FnLasting_lok26 (F : Nat) : LoopOK Try.prog (loopAt 26 (bodyOf Try.f3)) (laws_FnLasting_ls26 F) := by
  refine loopOK_of mixed ttok deep (laws_FnLasting_tabok F) (loopsOK_at (laws_FnLasting_lsok0 F) 26) (fuel := 70) fun R vals mem np killed k x h => ?_
  simp only [laws_FnLasting_ls26] at h
  split at h
  · rename_i n3 safe5 two6 d10 m11 three15 dead17 q_want19 i20 b21 safe22 c23 p24 dead25 want26
    simp only [GT.run] at h
    have hc := (cond_noneL h).1
    replace h := (cond_noneL h).2
    have hg := (and_split hc).1
    replace hc := (and_split hc).2
    obtain rfl := nbeq_nat hg
    refine ⟨F, (laws_FnLasting_iter26 F n3 safe5 two6 d10 m11 three15 dead17 b21 safe22 c23 p24 dead25 want26 k F i20).trans ((loopC_use (laws_FnLasting_s26_nat F n3 safe5 two6 d10 m11 three15 dead17 b21 safe22 c23 p24 dead25 want26) hc _).trans h)⟩
  · simp only [GT.run] at h
    cases h
noncomputable def laws_FnLasting_LS1 (F : Nat) : LT := (26, laws_FnLasting_ls26 F) :: laws_FnLasting_LS0 F
theorem laws_FnLasting_lsok1 (F : Nat) : LoopsOK Try.prog (laws_FnLasting_LS1 F) (bodyOf Try.f3) := loopsOK_cons laws_FnLasting_keys (laws_FnLasting_lok26 F) (laws_FnLasting_lsok0 F)
def laws_FnLasting_st50 (n3 : Int) (safe5 : Nat) (b9 : List Int) (safe10 : List Int) (moves11 : List Int) (i8 : Int) : St := ⟨expand 332 0 [3, 4, 13, 46, 48] [(.ptr 0 0 0 16), (.int .i64 n3), (.sl 1 0 safe5), (.sl 2 0 (List.length moves11)), (.int .i64 i8)], [(.var 16 (.ri .i64 b9)), (.vec 3 (.ri .i64 safe10)), (.vec 3 (.ri .i64 moves11))], 0, []⟩
def laws_FnLasting_o50 (n3 : Int) (safe5 : Nat) (b9 : List Int) (safe10 : List Int) (moves11 : List Int) (x : Bool) : GT := (.br x (.out (.ret ⟨expand 332 0 [2] [(.bool false)], [], 0, []⟩)) (.out (.exit 2 ⟨expand 332 0 [] [], [], 0, []⟩)))
def laws_FnLasting_ls50 (F : Nat) : LoopS := ⟨332, [3, 4, 13, 46, 48], [], [], [], [2], [], [], fun vals mem np killed => match vals, mem, np, killed with
  | [(.ptr 0 0 0 16), (.int .i64 n3), (.sl 1 0 safe5), (.sl 2 0 q_moves7), (.int .i64 i8)], [(.var 16 (.ri .i64 b9)), (.vec 3 (.ri .i64 safe10)), (.vec 3 (.ri .i64 moves11))], 0, [] => .br ((Nat.beq q_moves7 (List.length moves11)) && (laws_FnLasting_l50 F n3 safe5 b9 safe10 moves11 i8).isSome) (laws_FnLasting_o50 n3 safe5 b9 safe10 moves11 ((laws_FnLasting_l50 F n3 safe5 b9 safe10 moves11 i8).getD default)) .fail
  | _, _, _, _ => .fail⟩
theorem laws_FnLasting_step50 (F : Nat) (n3 : Int) (safe5 : Nat) (b9 : List Int) (safe10 : List Int) (moves11 : List Int) (i8 : Int) {R : Type} (k : Out → Option R) : stepS tt (laws_FnLasting_tab F) (laws_FnLasting_LS1 F) 70 (laws_FnLasting_ls50 F) (loopAt 50 (bodyOf Try.f3)) (laws_FnLasting_st50 n3 safe5 b9 safe10 moves11 i8) k = laws_FnLasting_s50 F n3 safe5 b9 safe10 moves11 R i8 (fun s => k (.norm (laws_FnLasting_st50 n3 safe5 b9 safe10 moves11 s))) (fun x => (laws_FnLasting_o50 n3 safe5 b9 safe10 moves11 x).run k) := by kernel_rfl
theorem laws_FnLasting_iter50 (F : Nat) (n3 : Int) (safe5 : Nat) (b9 : List Int) (safe10 : List Int) (moves11 : List Int) {R : Type} (k : Out → Option R) : ∀ (n : Nat) (i8 : Int), iterS tt (laws_FnLasting_tab F) (laws_FnLasting_LS1 F) 70 (laws_FnLasting_ls50 F) (loopAt 50 (bodyOf Try.f3)) n (laws_FnLasting_st50 n3 safe5 b9 safe10 moves11 i8) k = loopC (laws_FnLasting_s50 F n3 safe5 b9 safe10 moves11) n i8 (fun x => (laws_FnLasting_o50 n3 safe5 b9 safe10 moves11 x).run k)
  | 0, i8 => rfl
  | n + 1, i8 => (iterS_succ tt (laws_FnLasting_tab F) (laws_FnLasting_LS1 F) 70 (laws_FnLasting_ls50 F) (loopAt 50 (bodyOf Try.f3)) n (laws_FnLasting_st50 n3 safe5 b9 safe10 moves11 i8) k).trans ((laws_FnLasting_step50 F n3 safe5 b9 safe10 moves11 i8 (nextK (iterS tt (laws_FnLasting_tab F) (laws_FnLasting_LS1 F) 70 (laws_FnLasting_ls50 F) (loopAt 50 (bodyOf Try.f3)) n) k)).trans (congrArg (fun kn => laws_FnLasting_s50 F n3 safe5 b9 safe10 moves11 R i8 kn _) (funext (fun i8 => laws_FnLasting_iter50 F n3 safe5 b9 safe10 moves11 k n i8))))
theorem laws_FnLasting_lok50 (F : Nat) : LoopOK Try.prog (loopAt 50 (bodyOf Try.f3)) (laws_FnLasting_ls50 F) := by
  refine loopOK_of mixed ttok deep (laws_FnLasting_tabok F) (loopsOK_at (laws_FnLasting_lsok1 F) 50) (fuel := 70) fun R vals mem np killed k x h => ?_
  simp only [laws_FnLasting_ls50] at h
  split at h
  · rename_i n3 safe5 q_moves7 i8 b9 safe10 moves11
    simp only [GT.run] at h
    have hc := (cond_noneL h).1
    replace h := (cond_noneL h).2
    have hg := (and_split hc).1
    replace hc := (and_split hc).2
    obtain rfl := nbeq_nat hg
    refine ⟨F, (laws_FnLasting_iter50 F n3 safe5 b9 safe10 moves11 k F i8).trans ((loopC_use (laws_FnLasting_s50_nat F n3 safe5 b9 safe10 moves11) hc _).trans h)⟩
  · simp only [GT.run] at h
    cases h
noncomputable def laws_FnLasting_LS2 (F : Nat) : LT := (50, laws_FnLasting_ls50 F) :: laws_FnLasting_LS1 F
theorem laws_FnLasting_lsok2 (F : Nat) : LoopsOK Try.prog (laws_FnLasting_LS2 F) (bodyOf Try.f3) := loopsOK_cons laws_FnLasting_keys (laws_FnLasting_lok50 F) (laws_FnLasting_lsok1 F)
theorem laws_FnLasting_run (F : Nat) (code0 : List Int) : runS tt (laws_FnLasting_tab F) (laws_FnLasting_LS2 F) [] [] Try.f3 (bodyOf Try.f3) 70 [(.ri .u8 code0)] [] = laws_FnLasting_c _ F code0 (fun r => some ⟨(.bool r), [], []⟩) := by kernel_rfl
def laws_FnLasting_ent (F : Nat) : Ent := ⟨[], .quiet, fun args mem => match args, mem with
  | [(.ri .u8 code0)], [] => some ((laws_FnLasting_p F code0).isSome, ⟨(.bool ((laws_FnLasting_p F code0).getD default)), [], []⟩)
  | _, _ => none⟩
theorem laws_FnLasting_fok : FunOK Try.prog 3 := funOK Try.func3 (by kernel_rfl) rfl
theorem laws_FnLasting_meets (F : Nat) : Meets Try.prog 3 (laws_FnLasting_ent F) := by
  refine meets_of_runS mixed ttok deep (laws_FnLasting_tabok F) Try.func3 (body_some rfl) (laws_FnLasting_lsok2 F) fun args mem hfit ret h => ?_
  clear hfit
  simp only [laws_FnLasting_ent] at h
  split at h
  · rename_i code0
    simp only [Option.some.injEq, Prod.mk.injEq] at h
    obtain ⟨hc, rfl⟩ := h
    exact ⟨[], [], 70, _, (laws_FnLasting_run F code0).trans ((laws_FnLasting_cp _ F code0 _).trans (bind_use hc _)), rfl, rfl, rfl⟩
  · cases h
end Go.Proofs.Ytgdokdkcbgkekaf
