/-
Pure functions and what the code of them does, by program; without conditions.
-/
import Derived.Test.YtabfliifleonaaeQeP2
import Derived.Test.YtabfliifleonaaeQeS1
namespace Go.Proofs.Ytabfliifleonaae
open Go Go.Lv Go.Lv.P Go.Proofs
set_option linter.unusedVariables false
set_option linter.unusedSimpArgs false
set_option maxRecDepth 100000
/-! slices.IndexFunc[[][4]int,[4]int] -/
noncomputable def slices_IndexFunc_4int4int_impl_IsBoard_f1_tab (F : Nat) : Tab := [(48, (impl_IsBoard_f1_ent F))]
theorem slices_IndexFunc_4int4int_impl_IsBoard_f1_tabok (F : Nat) : TabOK Try.prog (slices_IndexFunc_4int4int_impl_IsBoard_f1_tab F) := (tab_cons (impl_IsBoard_f1_meets F) impl_IsBoard_f1_fok tab_nil)
noncomputable def slices_IndexFunc_4int4int_impl_IsBoard_f1_LS0 (F : Nat) : LT := []
theorem slices_IndexFunc_4int4int_impl_IsBoard_f1_lsok0 (F : Nat) : LoopsOK Try.prog (slices_IndexFunc_4int4int_impl_IsBoard_f1_LS0 F) (bodyOf Try.f68) := loopsOK_nil
theorem slices_IndexFunc_4int4int_impl_IsBoard_f1_keys : keysOK (bodyOf Try.f68) = true := by kernel_rfl
def slices_IndexFunc_4int4int_impl_IsBoard_f1_st2 (s0 : List (List Int)) (t71 : Int) (t82 : Int) : St := ⟨expand 19 0 [0, 1, 7, 8] [(.rr 4 s0), (.fn 48 [] []), (.int .i64 t71), (.int .i64 t82)], [], 0, []⟩
def slices_IndexFunc_4int4int_impl_IsBoard_f1_o2 (s0 : List (List Int)) (t71 : Int) (x : Bool × Int) : GT := (.br x.1 (.out (.ret ⟨expand 19 0 [4] [(.int .i64 x.2)], [], 0, []⟩)) (.out (.exit 0 ⟨expand 19 0 [] [], [], 0, []⟩)))
def slices_IndexFunc_4int4int_impl_IsBoard_f1_ls2 (F : Nat) : LoopS := ⟨19, [0, 1, 7, 8], [], [], [], [4], [], [], fun vals mem np killed => match vals, mem, np, killed with
  | [(.rr 4 s0), (.fn 48 [] []), (.int .i64 t71), (.int .i64 t82)], [], 0, [] => .br (slices_IndexFunc_4int4int_impl_IsBoard_f1_l2 F s0 t71 t82).isSome (slices_IndexFunc_4int4int_impl_IsBoard_f1_o2 s0 t71 ((slices_IndexFunc_4int4int_impl_IsBoard_f1_l2 F s0 t71 t82).getD default)) .fail
  | _, _, _, _ => .fail⟩
theorem slices_IndexFunc_4int4int_impl_IsBoard_f1_step2 (F : Nat) (s0 : List (List Int)) (t71 : Int) (t82 : Int) {R : Type} (k : Out → Option R) : stepS tt (slices_IndexFunc_4int4int_impl_IsBoard_f1_tab F) (slices_IndexFunc_4int4int_impl_IsBoard_f1_LS0 F) 70 (slices_IndexFunc_4int4int_impl_IsBoard_f1_ls2 F) (loopAt 2 (bodyOf Try.f68)) (slices_IndexFunc_4int4int_impl_IsBoard_f1_st2 s0 t71 t82) k = slices_IndexFunc_4int4int_impl_IsBoard_f1_s2 F s0 t71 R t82 (fun s => k (.norm (slices_IndexFunc_4int4int_impl_IsBoard_f1_st2 s0 t71 s))) (fun x => (slices_IndexFunc_4int4int_impl_IsBoard_f1_o2 s0 t71 x).run k) := by kernel_rfl
theorem slices_IndexFunc_4int4int_impl_IsBoard_f1_iter2 (F : Nat) (s0 : List (List Int)) (t71 : Int) {R : Type} (k : Out → Option R) : ∀ (n : Nat) (t82 : Int), iterS tt (slices_IndexFunc_4int4int_impl_IsBoard_f1_tab F) (slices_IndexFunc_4int4int_impl_IsBoard_f1_LS0 F) 70 (slices_IndexFunc_4int4int_impl_IsBoard_f1_ls2 F) (loopAt 2 (bodyOf Try.f68)) n (slices_IndexFunc_4int4int_impl_IsBoard_f1_st2 s0 t71 t82) k = loopC (slices_IndexFunc_4int4int_impl_IsBoard_f1_s2 F s0 t71) n t82 (fun x => (slices_IndexFunc_4int4int_impl_IsBoard_f1_o2 s0 t71 x).run k)
  | 0, t82 => rfl
  | n + 1, t82 => (iterS_succ tt (slices_IndexFunc_4int4int_impl_IsBoard_f1_tab F) (slices_IndexFunc_4int4int_impl_IsBoard_f1_LS0 F) 70 (slices_IndexFunc_4int4int_impl_IsBoard_f1_ls2 F) (loopAt 2 (bodyOf Try.f68)) n (slices_IndexFunc_4int4int_impl_IsBoard_f1_st2 s0 t71 t82) k).trans ((slices_IndexFunc_4int4int_impl_IsBoard_f1_step2 F s0 t71 t82 (nextK (iterS tt (slices_IndexFunc_4int4int_impl_IsBoard_f1_tab F) (slices_IndexFunc_4int4int_impl_IsBoard_f1_LS0 F) 70 (slices_IndexFunc_4int4int_impl_IsBoard_f1_ls2 F) (loopAt 2 (bodyOf Try.f68)) n) k)).trans (congrArg (fun kn => slices_IndexFunc_4int4int_impl_IsBoard_f1_s2 F s0 t71 R t82 kn _) (funext (fun t82 => slices_IndexFunc_4int4int_impl_IsBoard_f1_iter2 F s0 t71 k n t82))))
theorem slices_IndexFunc_4int4int_impl_IsBoard_f1_lok2 (F : Nat) : LoopOK Try.prog (loopAt 2 (bodyOf Try.f68)) (slices_IndexFunc_4int4int_impl_IsBoard_f1_ls2 F) := by
  refine loopOK_of mixed ttok deep (slices_IndexFunc_4int4int_impl_IsBoard_f1_tabok F) (loopsOK_at (slices_IndexFunc_4int4int_impl_IsBoard_f1_lsok0 F) 2) (fuel := 70) fun R vals mem np killed k x h => ?_
  simp only [slices_IndexFunc_4int4int_impl_IsBoard_f1_ls2] at h
  split at h
  · rename_i s0 t71 t82
    simp only [GT.run] at h
    have hc := (cond_noneL h).1
    replace h := (cond_noneL h).2
    refine ⟨F, (slices_IndexFunc_4int4int_impl_IsBoard_f1_iter2 F s0 t71 k F t82).trans ((loopC_use (slices_IndexFunc_4int4int_impl_IsBoard_f1_s2_nat F s0 t71) hc _).trans h)⟩
  · simp only [GT.run] at h
    cases h
noncomputable def slices_IndexFunc_4int4int_impl_IsBoard_f1_LS1 (F : Nat) : LT := (2, slices_IndexFunc_4int4int_impl_IsBoard_f1_ls2 F) :: slices_IndexFunc_4int4int_impl_IsBoard_f1_LS0 F
theorem slices_IndexFunc_4int4int_impl_IsBoard_f1_lsok1 (F : Nat) : LoopsOK Try.prog (slices_IndexFunc_4int4int_impl_IsBoard_f1_LS1 F) (bodyOf Try.f68) := loopsOK_cons slices_IndexFunc_4int4int_impl_IsBoard_f1_keys (slices_IndexFunc_4int4int_impl_IsBoard_f1_lok2 F) (slices_IndexFunc_4int4int_impl_IsBoard_f1_lsok0 F)
theorem slices_IndexFunc_4int4int_impl_IsBoard_f1_run (F : Nat) (s0 : List (List Int)) : runS tt (slices_IndexFunc_4int4int_impl_IsBoard_f1_tab F) (slices_IndexFunc_4int4int_impl_IsBoard_f1_LS1 F) [] [] Try.f68 (bodyOf Try.f68) 70 [(.rr 4 s0), (.fn 48 [] [])] [] = slices_IndexFunc_4int4int_impl_IsBoard_f1_c _ F s0 (fun r => some ⟨(.int .i64 r), [], []⟩) := by kernel_rfl
def slices_IndexFunc_4int4int_impl_IsBoard_f1_ent (F : Nat) : Ent := ⟨[], .quiet, fun args mem => match args, mem with
  | [(.rr 4 s0), (.fn 48 [] [])], [] => some ((slices_IndexFunc_4int4int_impl_IsBoard_f1_p F s0).isSome, ⟨(.int .i64 ((slices_IndexFunc_4int4int_impl_IsBoard_f1_p F s0).getD default)), [], []⟩)
  | _, _ => none⟩
theorem slices_IndexFunc_4int4int_impl_IsBoard_f1_fok : FunOK Try.prog 68 := funOK Try.func68 (by kernel_rfl) rfl
theorem slices_IndexFunc_4int4int_impl_IsBoard_f1_meets (F : Nat) : Meets Try.prog 68 (slices_IndexFunc_4int4int_impl_IsBoard_f1_ent F) := by
  refine meets_of_runS mixed ttok deep (slices_IndexFunc_4int4int_impl_IsBoard_f1_tabok F) Try.func68 (body_some rfl) (slices_IndexFunc_4int4int_impl_IsBoard_f1_lsok1 F) fun args mem hfit ret h => ?_
  clear hfit
  simp only [slices_IndexFunc_4int4int_impl_IsBoard_f1_ent] at h
  split at h
  · rename_i s0
    simp only [Option.some.injEq, Prod.mk.injEq] at h
    obtain ⟨hc, rfl⟩ := h
    exact ⟨[], [], 70, _, (slices_IndexFunc_4int4int_impl_IsBoard_f1_run F s0).trans ((slices_IndexFunc_4int4int_impl_IsBoard_f1_cp _ F s0 _).trans (bind_use hc _)), rfl, rfl, rfl⟩
  · cases h

/-! slices.ContainsFunc[[][4]int,[4]int] -/
noncomputable def slices_ContainsFunc_4int4int_impl_IsBoard_f1_tab (F : Nat) : Tab := [(68, (slices_IndexFunc_4int4int_impl_IsBoard_f1_ent F))]
theorem slices_ContainsFunc_4int4int_impl_IsBoard_f1_tabok (F : Nat) : TabOK Try.prog (slices_ContainsFunc_4int4int_impl_IsBoard_f1_tab F) := (tab_cons (slices_IndexFunc_4int4int_impl_IsBoard_f1_meets F) slices_IndexFunc_4int4int_impl_IsBoard_f1_fok tab_nil)
noncomputable def slices_ContainsFunc_4int4int_impl_IsBoard_f1_LS0 (F : Nat) : LT := []
theorem slices_ContainsFunc_4int4int_impl_IsBoard_f1_lsok0 (F : Nat) : LoopsOK Try.prog (slices_ContainsFunc_4int4int_impl_IsBoard_f1_LS0 F) (bodyOf Try.f47) := loopsOK_nil
theorem slices_ContainsFunc_4int4int_impl_IsBoard_f1_run (F : Nat) (s0 : List (List Int)) : runS tt (slices_ContainsFunc_4int4int_impl_IsBoard_f1_tab F) (slices_ContainsFunc_4int4int_impl_IsBoard_f1_LS0 F) [] [] Try.f47 (bodyOf Try.f47) 70 [(.rr 4 s0), (.fn 48 [] [])] [] = slices_ContainsFunc_4int4int_impl_IsBoard_f1_c _ F s0 (fun r => some ⟨(.bool r), [], []⟩) := by kernel_rfl
def slices_ContainsFunc_4int4int_impl_IsBoard_f1_ent (F : Nat) : Ent := ⟨[], .quiet, fun args mem => match args, mem with
  | [(.rr 4 s0), (.fn 48 [] [])], [] => some ((slices_ContainsFunc_4int4int_impl_IsBoard_f1_p F s0).isSome, ⟨(.bool ((slices_ContainsFunc_4int4int_impl_IsBoard_f1_p F s0).getD default)), [], []⟩)
  | _, _ => none⟩
theorem slices_ContainsFunc_4int4int_impl_IsBoard_f1_fok : FunOK Try.prog 47 := funOK Try.func47 (by kernel_rfl) rfl
theorem slices_ContainsFunc_4int4int_impl_IsBoard_f1_meets (F : Nat) : Meets Try.prog 47 (slices_ContainsFunc_4int4int_impl_IsBoard_f1_ent F) := by
  refine meets_of_runS mixed ttok deep (slices_ContainsFunc_4int4int_impl_IsBoard_f1_tabok F) Try.func47 (body_some rfl) (slices_ContainsFunc_4int4int_impl_IsBoard_f1_lsok0 F) fun args mem hfit ret h => ?_
  clear hfit
  simp only [slices_ContainsFunc_4int4int_impl_IsBoard_f1_ent] at h
  split at h
  · rename_i s0
    simp only [Option.some.injEq, Prod.mk.injEq] at h
    obtain ⟨hc, rfl⟩ := h
    exact ⟨[], [], 70, _, (slices_ContainsFunc_4int4int_impl_IsBoard_f1_run F s0).trans ((slices_ContainsFunc_4int4int_impl_IsBoard_f1_cp _ F s0 _).trans (bind_use hc _)), rfl, rfl, rfl⟩
  · cases h

/-! loop.example/g01194/impl.IsBoard -/
noncomputable def impl_IsBoard_tab (F : Nat) : Tab := [(47, (slices_ContainsFunc_4int4int_impl_IsBoard_f1_ent F))]
theorem impl_IsBoard_tabok (F : Nat) : TabOK Try.prog (impl_IsBoard_tab F) := (tab_cons (slices_ContainsFunc_4int4int_impl_IsBoard_f1_meets F) slices_ContainsFunc_4int4int_impl_IsBoard_f1_fok tab_nil)
noncomputable def impl_IsBoard_LS0 (F : Nat) : LT := []
theorem impl_IsBoard_lsok0 (F : Nat) : LoopsOK Try.prog (impl_IsBoard_LS0 F) (bodyOf Try.f22) := loopsOK_nil
theorem impl_IsBoard_run (F : Nat) (b0 : List Int) : runS tt (impl_IsBoard_tab F) (impl_IsBoard_LS0 F) [] [] Try.f22 (bodyOf Try.f22) 70 [(.ints 16 b0)] [] = impl_IsBoard_c _ F b0 (fun r => some ⟨(.bool r), [], []⟩) := by kernel_rfl
def impl_IsBoard_ent (F : Nat) : Ent := ⟨[], .quiet, fun args mem => match args, mem with
  | [(.ints 16 b0)], [] => some ((impl_IsBoard_p F b0).isSome, ⟨(.bool ((impl_IsBoard_p F b0).getD default)), [], []⟩)
  | _, _ => none⟩
theorem impl_IsBoard_fok : FunOK Try.prog 22 := funOK Try.func22 (by kernel_rfl) rfl
theorem impl_IsBoard_meets (F : Nat) : Meets Try.prog 22 (impl_IsBoard_ent F) := by
  refine meets_of_runS mixed ttok deep (impl_IsBoard_tabok F) Try.func22 (body_some rfl) (impl_IsBoard_lsok0 F) fun args mem hfit ret h => ?_
  clear hfit
  simp only [impl_IsBoard_ent] at h
  split at h
  · rename_i b0
    simp only [Option.some.injEq, Prod.mk.injEq] at h
    obtain ⟨hc, rfl⟩ := h
    exact ⟨[], [], 70, _, (impl_IsBoard_run F b0).trans ((impl_IsBoard_cp _ F b0 _).trans (bind_use hc _)), rfl, rfl, rfl⟩
  · cases h

/-! loop.example/g01194/impl.cells -/
noncomputable def impl_cells_tab (F : Nat) : Tab := []
theorem impl_cells_tabok (F : Nat) : TabOK Try.prog (impl_cells_tab F) := tab_nil
noncomputable def impl_cells_LS0 (F : Nat) : LT := []
theorem impl_cells_lsok0 (F : Nat) : LoopsOK Try.prog (impl_cells_LS0 F) (bodyOf Try.f50) := loopsOK_nil
theorem impl_cells_run (F : Nat) : runS tt (impl_cells_tab F) (impl_cells_LS0 F) [] [] Try.f50 (bodyOf Try.f50) 70 [] [] = impl_cells_c _ (fun r => some ⟨(.sl 0 0 16), [(.vec 51 (.rr 2 [[(0 : Int), (0 : Int)], [(0 : Int), (1 : Int)], [(0 : Int), (2 : Int)], [(0 : Int), (3 : Int)], [(1 : Int), (0 : Int)], [(1 : Int), (1 : Int)], [(1 : Int), (2 : Int)], [(1 : Int), (3 : Int)], [(2 : Int), (0 : Int)], [(2 : Int), (1 : Int)], [(2 : Int), (2 : Int)], [(2 : Int), (3 : Int)], [(3 : Int), (0 : Int)], [(3 : Int), (1 : Int)], [(3 : Int), (2 : Int)], [(3 : Int), (3 : Int)]]))], []⟩) := by kernel_rfl
def impl_cells_ent (F : Nat) : Ent := ⟨[], .fresh, fun args mem => match args, mem with
  | [], [] => some (true, ⟨(.sl 0 0 16), [(.vec 51 (.rr 2 [[(0 : Int), (0 : Int)], [(0 : Int), (1 : Int)], [(0 : Int), (2 : Int)], [(0 : Int), (3 : Int)], [(1 : Int), (0 : Int)], [(1 : Int), (1 : Int)], [(1 : Int), (2 : Int)], [(1 : Int), (3 : Int)], [(2 : Int), (0 : Int)], [(2 : Int), (1 : Int)], [(2 : Int), (2 : Int)], [(2 : Int), (3 : Int)], [(3 : Int), (0 : Int)], [(3 : Int), (1 : Int)], [(3 : Int), (2 : Int)], [(3 : Int), (3 : Int)]]))], []⟩)
  | _, _ => none⟩
theorem impl_cells_fok : FunOK Try.prog 50 := funOK Try.func50 (by kernel_rfl) rfl
theorem impl_cells_meets (F : Nat) : Meets Try.prog 50 (impl_cells_ent F) := by
  refine meets_of_runS mixed ttok deep (impl_cells_tabok F) Try.func50 (body_some rfl) (impl_cells_lsok0 F) fun args mem hfit ret h => ?_
  clear hfit
  simp only [impl_cells_ent] at h
  split at h
  · simp only [Option.some.injEq, Prod.mk.injEq] at h
    obtain ⟨hc, rfl⟩ := h
    exact ⟨[], [], 70, _, (impl_cells_run F).trans (impl_cells_cv _ _), rfl, rfl, rfl⟩
  · cases h

/-! (*loop.example/g01194/impl.Board).at -/
noncomputable def impl_Board_at_tab (F : Nat) : Tab := []
theorem impl_Board_at_tabok (F : Nat) : TabOK Try.prog (impl_Board_at_tab F) := tab_nil
noncomputable def impl_Board_at_LS0 (F : Nat) : LT := []
theorem impl_Board_at_lsok0 (F : Nat) : LoopsOK Try.prog (impl_Board_at_LS0 F) (bodyOf Try.f52) := loopsOK_nil
theorem impl_Board_at_run (F : Nat) (cell3 : List Int) (b4 : List Int) : runS tt (impl_Board_at_tab F) (impl_Board_at_LS0 F) [] [] Try.f52 (bodyOf Try.f52) 70 [(.ptr 0 0 0 16), (.ints 2 cell3)] [(.var 16 (.ri .i64 b4))] = impl_Board_at_c _ cell3 b4 (fun r => some ⟨(.ptr 0 0 r 1), [(.var 16 (.ri .i64 b4))], []⟩) := by kernel_rfl
def impl_Board_at_ent (F : Nat) : Ent := ⟨[], .quiet, fun args mem => match args, mem with
  | [(.ptr 0 0 0 16), (.ints 2 cell3)], [(.var 16 (.ri .i64 b4))] => some ((impl_Board_at_p cell3 b4).isSome, ⟨(.ptr 0 0 ((impl_Board_at_p cell3 b4).getD default) 1), [], []⟩)
  | _, _ => none⟩
theorem impl_Board_at_fok : FunOK Try.prog 52 := funOK Try.func52 (by kernel_rfl) rfl
theorem impl_Board_at_meets (F : Nat) : Meets Try.prog 52 (impl_Board_at_ent F) := by
  refine meets_of_runS mixed ttok deep (impl_Board_at_tabok F) Try.func52 (body_some rfl) (impl_Board_at_lsok0 F) fun args mem hfit ret h => ?_
  clear hfit
  simp only [impl_Board_at_ent] at h
  split at h
  · rename_i cell3 b4
    simp only [Option.some.injEq, Prod.mk.injEq] at h
    obtain ⟨hc, rfl⟩ := h
    exact ⟨[], [], 70, _, (impl_Board_at_run F cell3 b4).trans ((impl_Board_at_cp _ cell3 b4 _).trans (bind_use hc _)), rfl, rfl, rfl⟩
  · cases h

/-! loop.example/g01194/impl.worth -/
noncomputable def impl_worth_tab (F : Nat) : Tab := []
theorem impl_worth_tabok (F : Nat) : TabOK Try.prog (impl_worth_tab F) := tab_nil
noncomputable def impl_worth_LS0 (F : Nat) : LT := []
theorem impl_worth_lsok0 (F : Nat) : LoopsOK Try.prog (impl_worth_LS0 F) (bodyOf Try.f51) := loopsOK_nil
theorem impl_worth_run (F : Nat) (t0 : Int) : runS tt (impl_worth_tab F) (impl_worth_LS0 F) [] [] Try.f51 (bodyOf Try.f51) 70 [(.int .i64 t0)] [] = impl_worth_c _ t0 (fun r => some ⟨(.int .i64 r), [], []⟩) := by kernel_rfl
def impl_worth_ent (F : Nat) : Ent := ⟨[], .quiet, fun args mem => match args, mem with
  | [(.int .i64 t0)], [] => some ((impl_worth_p t0).isSome, ⟨(.int .i64 ((impl_worth_p t0).getD default)), [], []⟩)
  | _, _ => none⟩
theorem impl_worth_fok : FunOK Try.prog 51 := funOK Try.func51 (by kernel_rfl) rfl
theorem impl_worth_meets (F : Nat) : Meets Try.prog 51 (impl_worth_ent F) := by
  refine meets_of_runS mixed ttok deep (impl_worth_tabok F) Try.func51 (body_some rfl) (impl_worth_lsok0 F) fun args mem hfit ret h => ?_
  clear hfit
  simp only [impl_worth_ent] at h
  split at h
  · rename_i t0
    simp only [Option.some.injEq, Prod.mk.injEq] at h
    obtain ⟨hc, rfl⟩ := h
    exact ⟨[], [], 70, _, (impl_worth_run F t0).trans ((impl_worth_cp _ t0 _).trans (bind_use hc _)), rfl, rfl, rfl⟩
  · cases h

/-! (loop.example/g01194/impl.Board).sum -/
noncomputable def impl_Board_sum_tab (F : Nat) : Tab := [(50, (impl_cells_ent F)), (52, (impl_Board_at_ent F)), (51, (impl_worth_ent F))]
theorem impl_Board_sum_tabok (F : Nat) : TabOK Try.prog (impl_Board_sum_tab F) := (tab_cons (impl_cells_meets F) impl_cells_fok (tab_cons (impl_Board_at_meets F) impl_Board_at_fok (tab_cons (impl_worth_meets F) impl_worth_fok tab_nil)))
noncomputable def impl_Board_sum_LS0 (F : Nat) : LT := []
theorem impl_Board_sum_lsok0 (F : Nat) : LoopsOK Try.prog (impl_Board_sum_LS0 F) (bodyOf Try.f23) := loopsOK_nil
theorem impl_Board_sum_run (F : Nat) (b0 : List Int) : runS tt (impl_Board_sum_tab F) (impl_Board_sum_LS0 F) [] [] Try.f23 (bodyOf Try.f23) 70 [(.ints 16 b0)] [] = impl_Board_sum_c _ b0 (fun r => some ⟨(.int .i64 r), [], []⟩) := by kernel_rfl
def impl_Board_sum_ent (F : Nat) : Ent := ⟨[], .quiet, fun args mem => match args, mem with
  | [(.ints 16 b0)], [] => some ((impl_Board_sum_p b0).isSome, ⟨(.int .i64 ((impl_Board_sum_p b0).getD default)), [], []⟩)
  | _, _ => none⟩
theorem impl_Board_sum_fok : FunOK Try.prog 23 := funOK Try.func23 (by kernel_rfl) rfl
theorem impl_Board_sum_meets (F : Nat) : Meets Try.prog 23 (impl_Board_sum_ent F) := by
  refine meets_of_runS mixed ttok deep (impl_Board_sum_tabok F) Try.func23 (body_some rfl) (impl_Board_sum_lsok0 F) fun args mem hfit ret h => ?_
  clear hfit
  simp only [impl_Board_sum_ent] at h
  split at h
  · rename_i b0
    simp only [Option.some.injEq, Prod.mk.injEq] at h
    obtain ⟨hc, rfl⟩ := h
    exact ⟨[], [], 70, _, (impl_Board_sum_run F b0).trans ((impl_Board_sum_cp _ b0 _).trans (bind_use hc _)), rfl, rfl, rfl⟩
  · cases h

/-! loop.example/g01194/impl.MovesBetween -/
noncomputable def impl_MovesBetween_tab (F : Nat) : Tab := [(22, (impl_IsBoard_ent F)), (23, (impl_Board_sum_ent F))]
theorem impl_MovesBetween_tabok (F : Nat) : TabOK Try.prog (impl_MovesBetween_tab F) := (tab_cons (impl_IsBoard_meets F) impl_IsBoard_fok (tab_cons (impl_Board_sum_meets F) impl_Board_sum_fok tab_nil))
noncomputable def impl_MovesBetween_LS0 (F : Nat) : LT := []
theorem impl_MovesBetween_lsok0 (F : Nat) : LoopsOK Try.prog (impl_MovesBetween_LS0 F) (bodyOf Try.f6) := loopsOK_nil
theorem impl_MovesBetween_run (F : Nat) (a0 : List Int) (b1 : List Int) : runS tt (impl_MovesBetween_tab F) (impl_MovesBetween_LS0 F) [] [] Try.f6 (bodyOf Try.f6) 70 [(.ints 16 a0), (.ints 16 b1)] [] = impl_MovesBetween_c _ F a0 b1 (fun r => some ⟨(.tup [(.int .i64 r.1), (.int .i64 r.2.1), (.bool r.2.2)]), [], []⟩) := by kernel_rfl
def impl_MovesBetween_ent (F : Nat) : Ent := ⟨[], .quiet, fun args mem => match args, mem with
  | [(.ints 16 a0), (.ints 16 b1)], [] => some ((impl_MovesBetween_p F a0 b1).isSome, ⟨(.tup [(.int .i64 ((impl_MovesBetween_p F a0 b1).getD default).1), (.int .i64 ((impl_MovesBetween_p F a0 b1).getD default).2.1), (.bool ((impl_MovesBetween_p F a0 b1).getD default).2.2)]), [], []⟩)
  | _, _ => none⟩
theorem impl_MovesBetween_fok : FunOK Try.prog 6 := funOK Try.func6 (by kernel_rfl) rfl
theorem impl_MovesBetween_meets (F : Nat) : Meets Try.prog 6 (impl_MovesBetween_ent F) := by
  refine meets_of_runS mixed ttok deep (impl_MovesBetween_tabok F) Try.func6 (body_some rfl) (impl_MovesBetween_lsok0 F) fun args mem hfit ret h => ?_
  clear hfit
  simp only [impl_MovesBetween_ent] at h
  split at h
  · rename_i a0 b1
    simp only [Option.some.injEq, Prod.mk.injEq] at h
    obtain ⟨hc, rfl⟩ := h
    exact ⟨[], [], 70, _, (impl_MovesBetween_run F a0 b1).trans ((impl_MovesBetween_cp _ F a0 b1 _).trans (bind_use hc _)), rfl, rfl, rfl⟩
  · cases h

/-! loop.example/g01194/spec.l2Sum -/
noncomputable def spec_l2Sum_tab (F : Nat) : Tab := [(53, (spec_l2Worth_ent F))]
theorem spec_l2Sum_tabok (F : Nat) : TabOK Try.prog (spec_l2Sum_tab F) := (tab_cons (spec_l2Worth_meets F) spec_l2Worth_fok tab_nil)
noncomputable def spec_l2Sum_LS0 (F : Nat) : LT := []
theorem spec_l2Sum_lsok0 (F : Nat) : LoopsOK Try.prog (spec_l2Sum_LS0 F) (bodyOf Try.f25) := loopsOK_nil
theorem spec_l2Sum_keys : keysOK (bodyOf Try.f25) = true := by kernel_rfl
def spec_l2Sum_st6 (r4 : Int) (b6 : List Int) (sum3 : Int) (c5 : Int) : St := ⟨expand 28 0 [1, 3, 4, 5] [(.ptr 0 0 0 16), (.int .i64 sum3), (.int .i64 r4), (.int .i64 c5)], [(.var 16 (.ri .i64 b6))], 0, []⟩
def spec_l2Sum_o6 (r4 : Int) (b6 : List Int) (x : Int) : GT := (.out (.exit 2 ⟨expand 28 0 [1, 3, 4] [(.ptr 0 0 0 16), (.int .i64 x), (.int .i64 r4)], [(.var 16 (.ri .i64 b6))], 0, []⟩))
def spec_l2Sum_ls6 (F : Nat) : LoopS := ⟨28, [1, 3, 4, 5], [], [1, 3, 4], [], [2], [], [], fun vals mem np killed => match vals, mem, np, killed with
  | [(.ptr 0 0 0 16), (.int .i64 sum3), (.int .i64 r4), (.int .i64 c5)], [(.var 16 (.ri .i64 b6))], 0, [] => .br (spec_l2Sum_l6 F r4 b6 sum3 c5).isSome (spec_l2Sum_o6 r4 b6 ((spec_l2Sum_l6 F r4 b6 sum3 c5).getD default)) .fail
  | _, _, _, _ => .fail⟩
theorem spec_l2Sum_step6 (F : Nat) (r4 : Int) (b6 : List Int) (sum3 : Int) (c5 : Int) {R : Type} (k : Out → Option R) : stepS tt (spec_l2Sum_tab F) (spec_l2Sum_LS0 F) 70 (spec_l2Sum_ls6 F) (loopAt 6 (bodyOf Try.f25)) (spec_l2Sum_st6 r4 b6 sum3 c5) k = spec_l2Sum_s6 F r4 b6 R (sum3, c5) (fun s => k (.norm (spec_l2Sum_st6 r4 b6 s.1 s.2))) (fun x => (spec_l2Sum_o6 r4 b6 x).run k) := by kernel_rfl
theorem spec_l2Sum_iter6 (F : Nat) (r4 : Int) (b6 : List Int) {R : Type} (k : Out → Option R) : ∀ (n : Nat) (sum3 : Int) (c5 : Int), iterS tt (spec_l2Sum_tab F) (spec_l2Sum_LS0 F) 70 (spec_l2Sum_ls6 F) (loopAt 6 (bodyOf Try.f25)) n (spec_l2Sum_st6 r4 b6 sum3 c5) k = loopC (spec_l2Sum_s6 F r4 b6) n (sum3, c5) (fun x => (spec_l2Sum_o6 r4 b6 x).run k)
  | 0, sum3, c5 => rfl
  | n + 1, sum3, c5 => (iterS_succ tt (spec_l2Sum_tab F) (spec_l2Sum_LS0 F) 70 (spec_l2Sum_ls6 F) (loopAt 6 (bodyOf Try.f25)) n (spec_l2Sum_st6 r4 b6 sum3 c5) k).trans ((spec_l2Sum_step6 F r4 b6 sum3 c5 (nextK (iterS tt (spec_l2Sum_tab F) (spec_l2Sum_LS0 F) 70 (spec_l2Sum_ls6 F) (loopAt 6 (bodyOf Try.f25)) n) k)).trans (congrArg (fun kn => spec_l2Sum_s6 F r4 b6 R (sum3, c5) kn _) (funext (fun ⟨sum3, c5⟩ => spec_l2Sum_iter6 F r4 b6 k n sum3 c5))))
theorem spec_l2Sum_lok6 (F : Nat) : LoopOK Try.prog (loopAt 6 (bodyOf Try.f25)) (spec_l2Sum_ls6 F) := by
  refine loopOK_of mixed ttok deep (spec_l2Sum_tabok F) (loopsOK_at (spec_l2Sum_lsok0 F) 6) (fuel := 70) fun R vals mem np killed k x h => ?_
  simp only [spec_l2Sum_ls6] at h
  split at h
  · rename_i sum3 r4 c5 b6
    simp only [GT.run] at h
    have hc := (cond_noneL h).1
    replace h := (cond_noneL h).2
    refine ⟨F, (spec_l2Sum_iter6 F r4 b6 k F sum3 c5).trans ((loopC_use (spec_l2Sum_s6_nat F r4 b6) hc _).trans h)⟩
  · simp only [GT.run] at h
    cases h
noncomputable def spec_l2Sum_LS1 (F : Nat) : LT := (6, spec_l2Sum_ls6 F) :: spec_l2Sum_LS0 F
theorem spec_l2Sum_lsok1 (F : Nat) : LoopsOK Try.prog (spec_l2Sum_LS1 F) (bodyOf Try.f25) := loopsOK_cons spec_l2Sum_keys (spec_l2Sum_lok6 F) (spec_l2Sum_lsok0 F)
def spec_l2Sum_st3 (b5 : List Int) (sum3 : Int) (r4 : Int) : St := ⟨expand 28 0 [1, 3, 4] [(.ptr 0 0 0 16), (.int .i64 sum3), (.int .i64 r4)], [(.var 16 (.ri .i64 b5))], 0, []⟩
def spec_l2Sum_o3 (b5 : List Int) (x : Int) : GT := (.out (.exit 0 ⟨expand 28 0 [3] [(.int .i64 x)], [], 0, []⟩))
def spec_l2Sum_ls3 (F : Nat) : LoopS := ⟨28, [1, 3, 4], [], [3], [], [2], [], [], fun vals mem np killed => match vals, mem, np, killed with
  | [(.ptr 0 0 0 16), (.int .i64 sum3), (.int .i64 r4)], [(.var 16 (.ri .i64 b5))], 0, [] => .br (spec_l2Sum_l3 F b5 sum3 r4).isSome (spec_l2Sum_o3 b5 ((spec_l2Sum_l3 F b5 sum3 r4).getD default)) .fail
  | _, _, _, _ => .fail⟩
theorem spec_l2Sum_step3 (F : Nat) (b5 : List Int) (sum3 : Int) (r4 : Int) {R : Type} (k : Out → Option R) : stepS tt (spec_l2Sum_tab F) (spec_l2Sum_LS1 F) 70 (spec_l2Sum_ls3 F) (loopAt 3 (bodyOf Try.f25)) (spec_l2Sum_st3 b5 sum3 r4) k = spec_l2Sum_s3 F b5 R (sum3, r4) (fun s => k (.norm (spec_l2Sum_st3 b5 s.1 s.2))) (fun x => (spec_l2Sum_o3 b5 x).run k) := by kernel_rfl
theorem spec_l2Sum_iter3 (F : Nat) (b5 : List Int) {R : Type} (k : Out → Option R) : ∀ (n : Nat) (sum3 : Int) (r4 : Int), iterS tt (spec_l2Sum_tab F) (spec_l2Sum_LS1 F) 70 (spec_l2Sum_ls3 F) (loopAt 3 (bodyOf Try.f25)) n (spec_l2Sum_st3 b5 sum3 r4) k = loopC (spec_l2Sum_s3 F b5) n (sum3, r4) (fun x => (spec_l2Sum_o3 b5 x).run k)
  | 0, sum3, r4 => rfl
  | n + 1, sum3, r4 => (iterS_succ tt (spec_l2Sum_tab F) (spec_l2Sum_LS1 F) 70 (spec_l2Sum_ls3 F) (loopAt 3 (bodyOf Try.f25)) n (spec_l2Sum_st3 b5 sum3 r4) k).trans ((spec_l2Sum_step3 F b5 sum3 r4 (nextK (iterS tt (spec_l2Sum_tab F) (spec_l2Sum_LS1 F) 70 (spec_l2Sum_ls3 F) (loopAt 3 (bodyOf Try.f25)) n) k)).trans (congrArg (fun kn => spec_l2Sum_s3 F b5 R (sum3, r4) kn _) (funext (fun ⟨sum3, r4⟩ => spec_l2Sum_iter3 F b5 k n sum3 r4))))
theorem spec_l2Sum_lok3 (F : Nat) : LoopOK Try.prog (loopAt 3 (bodyOf Try.f25)) (spec_l2Sum_ls3 F) := by
  refine loopOK_of mixed ttok deep (spec_l2Sum_tabok F) (loopsOK_at (spec_l2Sum_lsok1 F) 3) (fuel := 70) fun R vals mem np killed k x h => ?_
  simp only [spec_l2Sum_ls3] at h
  split at h
  · rename_i sum3 r4 b5
    simp only [GT.run] at h
    have hc := (cond_noneL h).1
    replace h := (cond_noneL h).2
    refine ⟨F, (spec_l2Sum_iter3 F b5 k F sum3 r4).trans ((loopC_use (spec_l2Sum_s3_nat F b5) hc _).trans h)⟩
  · simp only [GT.run] at h
    cases h
noncomputable def spec_l2Sum_LS2 (F : Nat) : LT := (3, spec_l2Sum_ls3 F) :: spec_l2Sum_LS1 F
theorem spec_l2Sum_lsok2 (F : Nat) : LoopsOK Try.prog (spec_l2Sum_LS2 F) (bodyOf Try.f25) := loopsOK_cons spec_l2Sum_keys (spec_l2Sum_lok3 F) (spec_l2Sum_lsok1 F)
theorem spec_l2Sum_run (F : Nat) (b0 : List Int) : runS tt (spec_l2Sum_tab F) (spec_l2Sum_LS2 F) [] [] Try.f25 (bodyOf Try.f25) 70 [(.ints 16 b0)] [] = spec_l2Sum_c _ F b0 (fun r => some ⟨(.int .i64 r), [], []⟩) := by kernel_rfl
def spec_l2Sum_ent (F : Nat) : Ent := ⟨[], .quiet, fun args mem => match args, mem with
  | [(.ints 16 b0)], [] => some ((spec_l2Sum_p F b0).isSome, ⟨(.int .i64 ((spec_l2Sum_p F b0).getD default)), [], []⟩)
  | _, _ => none⟩
theorem spec_l2Sum_fok : FunOK Try.prog 25 := funOK Try.func25 (by kernel_rfl) rfl
theorem spec_l2Sum_meets (F : Nat) : Meets Try.prog 25 (spec_l2Sum_ent F) := by
  refine meets_of_runS mixed ttok deep (spec_l2Sum_tabok F) Try.func25 (body_some rfl) (spec_l2Sum_lsok2 F) fun args mem hfit ret h => ?_
  clear hfit
  simp only [spec_l2Sum_ent] at h
  split at h
  · rename_i b0
    simp only [Option.some.injEq, Prod.mk.injEq] at h
    obtain ⟨hc, rfl⟩ := h
    exact ⟨[], [], 70, _, (spec_l2Sum_run F b0).trans ((spec_l2Sum_cp _ F b0 _).trans (bind_use hc _)), rfl, rfl, rfl⟩
  · cases h

/-! loop.example/g01194/spec.MovesBetween -/
noncomputable def spec_MovesBetween_tab (F : Nat) : Tab := [(24, (spec_l2Board_ent F)), (25, (spec_l2Sum_ent F))]
theorem spec_MovesBetween_tabok (F : Nat) : TabOK Try.prog (spec_MovesBetween_tab F) := (tab_cons (spec_l2Board_meets F) spec_l2Board_fok (tab_cons (spec_l2Sum_meets F) spec_l2Sum_fok tab_nil))
noncomputable def spec_MovesBetween_LS0 (F : Nat) : LT := []
theorem spec_MovesBetween_lsok0 (F : Nat) : LoopsOK Try.prog (spec_MovesBetween_LS0 F) (bodyOf Try.f7) := loopsOK_nil
theorem spec_MovesBetween_run (F : Nat) (a0 : List Int) (b1 : List Int) : runS tt (spec_MovesBetween_tab F) (spec_MovesBetween_LS0 F) [] [] Try.f7 (bodyOf Try.f7) 70 [(.ints 16 a0), (.ints 16 b1)] [] = spec_MovesBetween_c _ F a0 b1 (fun r => some ⟨(.tup [(.int .i64 r.1), (.int .i64 r.2.1), (.bool r.2.2)]), [], []⟩) := by kernel_rfl
def spec_MovesBetween_ent (F : Nat) : Ent := ⟨[], .quiet, fun args mem => match args, mem with
  | [(.ints 16 a0), (.ints 16 b1)], [] => some ((spec_MovesBetween_p F a0 b1).isSome, ⟨(.tup [(.int .i64 ((spec_MovesBetween_p F a0 b1).getD default).1), (.int .i64 ((spec_MovesBetween_p F a0 b1).getD default).2.1), (.bool ((spec_MovesBetween_p F a0 b1).getD default).2.2)]), [], []⟩)
  | _, _ => none⟩
theorem spec_MovesBetween_fok : FunOK Try.prog 7 := funOK Try.func7 (by kernel_rfl) rfl
theorem spec_MovesBetween_meets (F : Nat) : Meets Try.prog 7 (spec_MovesBetween_ent F) := by
  refine meets_of_runS mixed ttok deep (spec_MovesBetween_tabok F) Try.func7 (body_some rfl) (spec_MovesBetween_lsok0 F) fun args mem hfit ret h => ?_
  clear hfit
  simp only [spec_MovesBetween_ent] at h
  split at h
  · rename_i a0 b1
    simp only [Option.some.injEq, Prod.mk.injEq] at h
    obtain ⟨hc, rfl⟩ := h
    exact ⟨[], [], 70, _, (spec_MovesBetween_run F a0 b1).trans ((spec_MovesBetween_cp _ F a0 b1 _).trans (bind_use hc _)), rfl, rfl, rfl⟩
  · cases h

/-! loop.example/g01194/laws.vCut -/
noncomputable def laws_vCut_tab (F : Nat) : Tab := []
theorem laws_vCut_tabok (F : Nat) : TabOK Try.prog (laws_vCut_tab F) := tab_nil
noncomputable def laws_vCut_LS0 (F : Nat) : LT := []
theorem laws_vCut_lsok0 (F : Nat) : LoopsOK Try.prog (laws_vCut_LS0 F) (bodyOf Try.f9) := loopsOK_nil
theorem laws_vCut_run (F : Nat) (code0 : List Int) (n1 : Int) : runS tt (laws_vCut_tab F) (laws_vCut_LS0 F) [] [] Try.f9 (bodyOf Try.f9) 70 [(.ri .u8 code0), (.int .i64 n1)] [] = laws_vCut_c _ code0 n1 (fun r => some ⟨(.sl 0 0 (List.length r)), [(.vec 5 (.ri .u8 r))], []⟩) := by kernel_rfl
def laws_vCut_ent (F : Nat) : Ent := ⟨[], .fresh, fun args mem => match args, mem with
  | [(.ri .u8 code0), (.int .i64 n1)], [] => some ((laws_vCut_p code0 n1).isSome, ⟨(.sl 0 0 (List.length ((laws_vCut_p code0 n1).getD default))), [(.vec 5 (.ri .u8 ((laws_vCut_p code0 n1).getD default)))], []⟩)
  | _, _ => none⟩
theorem laws_vCut_fok : FunOK Try.prog 9 := funOK Try.func9 (by kernel_rfl) rfl
theorem laws_vCut_meets (F : Nat) : Meets Try.prog 9 (laws_vCut_ent F) := by
  refine meets_of_runS mixed ttok deep (laws_vCut_tabok F) Try.func9 (body_some rfl) (laws_vCut_lsok0 F) fun args mem hfit ret h => ?_
  clear hfit
  simp only [laws_vCut_ent] at h
  split at h
  · rename_i code0 n1
    simp only [Option.some.injEq, Prod.mk.injEq] at h
    obtain ⟨hc, rfl⟩ := h
    exact ⟨[], [], 70, _, (laws_vCut_run F code0 n1).trans ((laws_vCut_cp _ code0 n1 _).trans (bind_use hc _)), rfl, rfl, rfl⟩
  · cases h

/-! loop.example/g01194/spec.DrawScoreBetween -/
noncomputable def spec_DrawScoreBetween_tab (F : Nat) : Tab := [(5, (spec_DrawMovesBetween_ent F)), (27, (spec_l1Cur_pick_ent F)), (26, (spec_l1Cur_among_ent F))]
theorem spec_DrawScoreBetween_tabok (F : Nat) : TabOK Try.prog (spec_DrawScoreBetween_tab F) := (tab_cons (spec_DrawMovesBetween_meets F) spec_DrawMovesBetween_fok (tab_cons (spec_l1Cur_pick_meets F) spec_l1Cur_pick_fok (tab_cons (spec_l1Cur_among_meets F) spec_l1Cur_among_fok tab_nil)))
noncomputable def spec_DrawScoreBetween_LS0 (F : Nat) : LT := []
theorem spec_DrawScoreBetween_lsok0 (F : Nat) : LoopsOK Try.prog (spec_DrawScoreBetween_LS0 F) (bodyOf Try.f8) := loopsOK_nil
theorem spec_DrawScoreBetween_run (F : Nat) (code0 : List Int) : runS tt (spec_DrawScoreBetween_tab F) (spec_DrawScoreBetween_LS0 F) [] [] Try.f8 (bodyOf Try.f8) 70 [(.ri .u8 code0)] [] = spec_DrawScoreBetween_c _ F code0 (fun r => some ⟨(.tup [(.ints 16 r.1), (.ints 16 r.2.1), (.int .i64 r.2.2)]), [], []⟩) := by kernel_rfl
def spec_DrawScoreBetween_ent (F : Nat) : Ent := ⟨[], .quiet, fun args mem => match args, mem with
  | [(.ri .u8 code0)], [] => some ((spec_DrawScoreBetween_p F code0).isSome, ⟨(.tup [(.ints 16 ((spec_DrawScoreBetween_p F code0).getD default).1), (.ints 16 ((spec_DrawScoreBetween_p F code0).getD default).2.1), (.int .i64 ((spec_DrawScoreBetween_p F code0).getD default).2.2)]), [], []⟩)
  | _, _ => none⟩
theorem spec_DrawScoreBetween_fok : FunOK Try.prog 8 := funOK Try.func8 (by kernel_rfl) rfl
theorem spec_DrawScoreBetween_meets (F : Nat) : Meets Try.prog 8 (spec_DrawScoreBetween_ent F) := by
  refine meets_of_runS mixed ttok deep (spec_DrawScoreBetween_tabok F) Try.func8 (body_some rfl) (spec_DrawScoreBetween_lsok0 F) fun args mem hfit ret h => ?_
  clear hfit
  simp only [spec_DrawScoreBetween_ent] at h
  split at h
  · rename_i code0
    simp only [Option.some.injEq, Prod.mk.injEq] at h
    obtain ⟨hc, rfl⟩ := h
    exact ⟨[], [], 70, _, (spec_DrawScoreBetween_run F code0).trans ((spec_DrawScoreBetween_cp _ F code0 _).trans (bind_use hc _)), rfl, rfl, rfl⟩
  · cases h

/-! loop.example/g01194/impl.isSum -/
noncomputable def impl_isSum_tab (F : Nat) : Tab := [(39, (impl_in_ent F))]
theorem impl_isSum_tabok (F : Nat) : TabOK Try.prog (impl_isSum_tab F) := (tab_cons (impl_in_meets F) impl_in_fok tab_nil)
noncomputable def impl_isSum_LS0 (F : Nat) : LT := []
theorem impl_isSum_lsok0 (F : Nat) : LoopsOK Try.prog (impl_isSum_LS0 F) (bodyOf Try.f28) := loopsOK_nil
theorem impl_isSum_run (F : Nat) (sum0 : Int) : runS tt (impl_isSum_tab F) (impl_isSum_LS0 F) [] [] Try.f28 (bodyOf Try.f28) 70 [(.int .i64 sum0)] [] = impl_isSum_c _ sum0 (fun r => some ⟨(.bool r), [], []⟩) := by kernel_rfl
def impl_isSum_ent (F : Nat) : Ent := ⟨[], .quiet, fun args mem => match args, mem with
  | [(.int .i64 sum0)], [] => some (true, ⟨(.bool (impl_isSum_v sum0)), [], []⟩)
  | _, _ => none⟩
theorem impl_isSum_fok : FunOK Try.prog 28 := funOK Try.func28 (by kernel_rfl) rfl
theorem impl_isSum_meets (F : Nat) : Meets Try.prog 28 (impl_isSum_ent F) := by
  refine meets_of_runS mixed ttok deep (impl_isSum_tabok F) Try.func28 (body_some rfl) (impl_isSum_lsok0 F) fun args mem hfit ret h => ?_
  clear hfit
  simp only [impl_isSum_ent] at h
  split at h
  · rename_i sum0
    simp only [Option.some.injEq, Prod.mk.injEq] at h
    obtain ⟨hc, rfl⟩ := h
    exact ⟨[], [], 70, _, (impl_isSum_run F sum0).trans (impl_isSum_cv _ sum0 _), rfl, rfl, rfl⟩
  · cases h

/-! slices.Grow[[]int,int] -/
noncomputable def slices_Grow_intint_tab (F : Nat) : Tab := []
theorem slices_Grow_intint_tabok (F : Nat) : TabOK Try.prog (slices_Grow_intint_tab F) := tab_nil
noncomputable def slices_Grow_intint_LS0 (F : Nat) : LT := []
theorem slices_Grow_intint_lsok0 (F : Nat) : LoopsOK Try.prog (slices_Grow_intint_LS0 F) (bodyOf Try.f76) := loopsOK_nil
theorem slices_Grow_intint_run (F : Nat) (n0 : Int) : runS tt (slices_Grow_intint_tab F) (slices_Grow_intint_LS0 F) [⟨4, 3, (.ri .i64 ([] : List Int))⟩] [] Try.f76 (bodyOf Try.f76) 70 [.z0, (.int .i64 n0)] [] = slices_Grow_intint_c _ n0 (fun r => some ⟨(.sl 0 0 0), [(.vec 3 (.ri .i64 r))], []⟩) := by kernel_rfl
def slices_Grow_intint_ent (F : Nat) : Ent := ⟨[true], .fresh, fun args mem => match args, mem with
  | [.z0, (.int .i64 n0)], [] => some ((slices_Grow_intint_p n0).isSome, ⟨(.sl 0 0 0), [(.vec 3 (.ri .i64 ((slices_Grow_intint_p n0).getD default)))], []⟩)
  | _, _ => none⟩
theorem slices_Grow_intint_fok : FunOK Try.prog 76 := funOK Try.func76 (by kernel_rfl) rfl
theorem slices_Grow_intint_meets (F : Nat) : Meets Try.prog 76 (slices_Grow_intint_ent F) := by
  refine meets_of_runS mixed ttok deep (slices_Grow_intint_tabok F) Try.func76 (body_some rfl) (slices_Grow_intint_lsok0 F) fun args mem hfit ret h => ?_
  clear hfit
  simp only [slices_Grow_intint_ent] at h
  split at h
  · rename_i n0
    simp only [Option.some.injEq, Prod.mk.injEq] at h
    obtain ⟨hc, rfl⟩ := h
    exact ⟨[⟨4, 3, (.ri .i64 ([] : List Int))⟩], [], 70, _, (slices_Grow_intint_run F n0).trans ((slices_Grow_intint_cp _ n0 _).trans (bind_use hc _)), rfl, rfl, rfl⟩
  · cases h

/-! slices.Concat[[]int,int] -/
noncomputable def slices_Concat_intint_tab (F : Nat) : Tab := [(76, (slices_Grow_intint_ent F))]
theorem slices_Concat_intint_tabok (F : Nat) : TabOK Try.prog (slices_Concat_intint_tab F) := (tab_cons (slices_Grow_intint_meets F) slices_Grow_intint_fok tab_nil)
noncomputable def slices_Concat_intint_LS0 (F : Nat) : LT := []
theorem slices_Concat_intint_lsok0 (F : Nat) : LoopsOK Try.prog (slices_Concat_intint_LS0 F) (bodyOf Try.f70) := loopsOK_nil
theorem slices_Concat_intint_run (F : Nat) (slices0 : List Int) (slices1 : List Int) (slices2 : List Int) (slices3 : List Int) : runS tt (slices_Concat_intint_tab F) (slices_Concat_intint_LS0 F) [] [] Try.f70 (bodyOf Try.f70) 70 [(.rv [(.ri .i64 slices0), (.ri .i64 slices1), (.ri .i64 slices2), (.ri .i64 slices3)])] [] = slices_Concat_intint_c _ slices0 slices1 slices2 slices3 (fun r => some ⟨(.sl 0 0 (List.length r)), [(.vec 3 (.ri .i64 r))], []⟩) := by kernel_rfl
def slices_Concat_intint_ent (F : Nat) : Ent := ⟨[], .fresh, fun args mem => match args, mem with
  | [(.rv [(.ri .i64 slices0), (.ri .i64 slices1), (.ri .i64 slices2), (.ri .i64 slices3)])], [] => some ((slices_Concat_intint_p slices0 slices1 slices2 slices3).isSome, ⟨(.sl 0 0 (List.length ((slices_Concat_intint_p slices0 slices1 slices2 slices3).getD default))), [(.vec 3 (.ri .i64 ((slices_Concat_intint_p slices0 slices1 slices2 slices3).getD default)))], []⟩)
  | _, _ => none⟩
theorem slices_Concat_intint_fok : FunOK Try.prog 70 := funOK Try.func70 (by kernel_rfl) rfl
theorem slices_Concat_intint_meets (F : Nat) : Meets Try.prog 70 (slices_Concat_intint_ent F) := by
  refine meets_of_runS mixed ttok deep (slices_Concat_intint_tabok F) Try.func70 (body_some rfl) (slices_Concat_intint_lsok0 F) fun args mem hfit ret h => ?_
  clear hfit
  simp only [slices_Concat_intint_ent] at h
  split at h
  · rename_i slices0 slices1 slices2 slices3
    simp only [Option.some.injEq, Prod.mk.injEq] at h
    obtain ⟨hc, rfl⟩ := h
    exact ⟨[], [], 70, _, (slices_Concat_intint_run F slices0 slices1 slices2 slices3).trans ((slices_Concat_intint_cp _ slices0 slices1 slices2 slices3 _).trans (bind_use hc _)), rfl, rfl, rfl⟩
  · cases h

/-! (loop.example/g01194/impl.Board).flat -/
noncomputable def impl_Board_flat_tab (F : Nat) : Tab := [(70, (slices_Concat_intint_ent F))]
theorem impl_Board_flat_tabok (F : Nat) : TabOK Try.prog (impl_Board_flat_tab F) := (tab_cons (slices_Concat_intint_meets F) slices_Concat_intint_fok tab_nil)
noncomputable def impl_Board_flat_LS0 (F : Nat) : LT := []
theorem impl_Board_flat_lsok0 (F : Nat) : LoopsOK Try.prog (impl_Board_flat_LS0 F) (bodyOf Try.f55) := loopsOK_nil
theorem impl_Board_flat_run (F : Nat) (b0 : List Int) : runS tt (impl_Board_flat_tab F) (impl_Board_flat_LS0 F) [] [] Try.f55 (bodyOf Try.f55) 70 [(.ints 16 b0)] [] = impl_Board_flat_c _ b0 (fun r => some ⟨(.sl 0 0 (List.length r)), [(.vec 3 (.ri .i64 r))], []⟩) := by kernel_rfl
def impl_Board_flat_ent (F : Nat) : Ent := ⟨[], .fresh, fun args mem => match args, mem with
  | [(.ints 16 b0)], [] => some ((impl_Board_flat_p b0).isSome, ⟨(.sl 0 0 (List.length ((impl_Board_flat_p b0).getD default))), [(.vec 3 (.ri .i64 ((impl_Board_flat_p b0).getD default)))], []⟩)
  | _, _ => none⟩
theorem impl_Board_flat_fok : FunOK Try.prog 55 := funOK Try.func55 (by kernel_rfl) rfl
theorem impl_Board_flat_meets (F : Nat) : Meets Try.prog 55 (impl_Board_flat_ent F) := by
  refine meets_of_runS mixed ttok deep (impl_Board_flat_tabok F) Try.func55 (body_some rfl) (impl_Board_flat_lsok0 F) fun args mem hfit ret h => ?_
  clear hfit
  simp only [impl_Board_flat_ent] at h
  split at h
  · rename_i b0
    simp only [Option.some.injEq, Prod.mk.injEq] at h
    obtain ⟨hc, rfl⟩ := h
    exact ⟨[], [], 70, _, (impl_Board_flat_run F b0).trans ((impl_Board_flat_cp _ b0 _).trans (bind_use hc _)), rfl, rfl, rfl⟩
  · cases h

/-! (loop.example/g01194/impl.Board).potential -/
noncomputable def impl_Board_potential_tab (F : Nat) : Tab := [(55, (impl_Board_flat_ent F)), (51, (impl_worth_ent F))]
theorem impl_Board_potential_tabok (F : Nat) : TabOK Try.prog (impl_Board_potential_tab F) := (tab_cons (impl_Board_flat_meets F) impl_Board_flat_fok (tab_cons (impl_worth_meets F) impl_worth_fok tab_nil))
noncomputable def impl_Board_potential_LS0 (F : Nat) : LT := []
theorem impl_Board_potential_lsok0 (F : Nat) : LoopsOK Try.prog (impl_Board_potential_LS0 F) (bodyOf Try.f29) := loopsOK_nil
theorem impl_Board_potential_keys : keysOK (bodyOf Try.f29) = true := by kernel_rfl
def impl_Board_potential_st3 (t83 : Int) (t75 : List Int) (sum0 : Int) (t94 : Int) : St := ⟨expand 24 0 [3, 7, 8, 9] [(.int .i64 sum0), (.sl 0 0 (List.length t75)), (.int .i64 t83), (.int .i64 t94)], [(.vec 3 (.ri .i64 t75))], 0, []⟩
def impl_Board_potential_o3 (t83 : Int) (t75 : List Int) (x : Int) : GT := (.out (.exit 0 ⟨expand 24 0 [3] [(.int .i64 x)], [], 0, []⟩))
def impl_Board_potential_ls3 (F : Nat) : LoopS := ⟨24, [3, 7, 8, 9], [], [3], [], [2], [], [], fun vals mem np killed => match vals, mem, np, killed with
  | [(.int .i64 sum0), (.sl 0 0 q_t72), (.int .i64 t83), (.int .i64 t94)], [(.vec 3 (.ri .i64 t75))], 0, [] => .br ((Nat.beq q_t72 (List.length t75)) && (impl_Board_potential_l3 F t83 t75 sum0 t94).isSome) (impl_Board_potential_o3 t83 t75 ((impl_Board_potential_l3 F t83 t75 sum0 t94).getD default)) .fail
  | _, _, _, _ => .fail⟩
theorem impl_Board_potential_step3 (F : Nat) (t83 : Int) (t75 : List Int) (sum0 : Int) (t94 : Int) {R : Type} (k : Out → Option R) : stepS tt (impl_Board_potential_tab F) (impl_Board_potential_LS0 F) 70 (impl_Board_potential_ls3 F) (loopAt 3 (bodyOf Try.f29)) (impl_Board_potential_st3 t83 t75 sum0 t94) k = impl_Board_potential_s3 F t83 t75 R (sum0, t94) (fun s => k (.norm (impl_Board_potential_st3 t83 t75 s.1 s.2))) (fun x => (impl_Board_potential_o3 t83 t75 x).run k) := by kernel_rfl
theorem impl_Board_potential_iter3 (F : Nat) (t83 : Int) (t75 : List Int) {R : Type} (k : Out → Option R) : ∀ (n : Nat) (sum0 : Int) (t94 : Int), iterS tt (impl_Board_potential_tab F) (impl_Board_potential_LS0 F) 70 (impl_Board_potential_ls3 F) (loopAt 3 (bodyOf Try.f29)) n (impl_Board_potential_st3 t83 t75 sum0 t94) k = loopC (impl_Board_potential_s3 F t83 t75) n (sum0, t94) (fun x => (impl_Board_potential_o3 t83 t75 x).run k)
  | 0, sum0, t94 => rfl
  | n + 1, sum0, t94 => (iterS_succ tt (impl_Board_potential_tab F) (impl_Board_potential_LS0 F) 70 (impl_Board_potential_ls3 F) (loopAt 3 (bodyOf Try.f29)) n (impl_Board_potential_st3 t83 t75 sum0 t94) k).trans ((impl_Board_potential_step3 F t83 t75 sum0 t94 (nextK (iterS tt (impl_Board_potential_tab F) (impl_Board_potential_LS0 F) 70 (impl_Board_potential_ls3 F) (loopAt 3 (bodyOf Try.f29)) n) k)).trans (congrArg (fun kn => impl_Board_potential_s3 F t83 t75 R (sum0, t94) kn _) (funext (fun ⟨sum0, t94⟩ => impl_Board_potential_iter3 F t83 t75 k n sum0 t94))))
theorem impl_Board_potential_lok3 (F : Nat) : LoopOK Try.prog (loopAt 3 (bodyOf Try.f29)) (impl_Board_potential_ls3 F) := by
  refine loopOK_of mixed ttok deep (impl_Board_potential_tabok F) (loopsOK_at (impl_Board_potential_lsok0 F) 3) (fuel := 70) fun R vals mem np killed k x h => ?_
  simp only [impl_Board_potential_ls3] at h
  split at h
  · rename_i sum0 q_t72 t83 t94 t75
    simp only [GT.run] at h
    have hc := (cond_noneL h).1
    replace h := (cond_noneL h).2
    have hg := (and_split hc).1
    replace hc := (and_split hc).2
    obtain rfl := nbeq_nat hg
    refine ⟨F, (impl_Board_potential_iter3 F t83 t75 k F sum0 t94).trans ((loopC_use (impl_Board_potential_s3_nat F t83 t75) hc _).trans h)⟩
  · simp only [GT.run] at h
    cases h
noncomputable def impl_Board_potential_LS1 (F : Nat) : LT := (3, impl_Board_potential_ls3 F) :: impl_Board_potential_LS0 F
theorem impl_Board_potential_lsok1 (F : Nat) : LoopsOK Try.prog (impl_Board_potential_LS1 F) (bodyOf Try.f29) := loopsOK_cons impl_Board_potential_keys (impl_Board_potential_lok3 F) (impl_Board_potential_lsok0 F)
theorem impl_Board_potential_run (F : Nat) (b0 : List Int) : runS tt (impl_Board_potential_tab F) (impl_Board_potential_LS1 F) [] [] Try.f29 (bodyOf Try.f29) 70 [(.ints 16 b0)] [] = impl_Board_potential_c _ F b0 (fun r => some ⟨(.int .i64 r), [], []⟩) := by kernel_rfl
def impl_Board_potential_ent (F : Nat) : Ent := ⟨[], .quiet, fun args mem => match args, mem with
  | [(.ints 16 b0)], [] => some ((impl_Board_potential_p F b0).isSome, ⟨(.int .i64 ((impl_Board_potential_p F b0).getD default)), [], []⟩)
  | _, _ => none⟩
theorem impl_Board_potential_fok : FunOK Try.prog 29 := funOK Try.func29 (by kernel_rfl) rfl
theorem impl_Board_potential_meets (F : Nat) : Meets Try.prog 29 (impl_Board_potential_ent F) := by
  refine meets_of_runS mixed ttok deep (impl_Board_potential_tabok F) Try.func29 (body_some rfl) (impl_Board_potential_lsok1 F) fun args mem hfit ret h => ?_
  clear hfit
  simp only [impl_Board_potential_ent] at h
  split at h
  · rename_i b0
    simp only [Option.some.injEq, Prod.mk.injEq] at h
    obtain ⟨hc, rfl⟩ := h
    exact ⟨[], [], 70, _, (impl_Board_potential_run F b0).trans ((impl_Board_potential_cp _ F b0 _).trans (bind_use hc _)), rfl, rfl, rfl⟩
  · cases h

/-! loop.example/g01194/impl.ScoreBetween -/
noncomputable def impl_ScoreBetween_tab (F : Nat) : Tab := [(22, (impl_IsBoard_ent F)), (28, (impl_isSum_ent F)), (29, (impl_Board_potential_ent F))]
theorem impl_ScoreBetween_tabok (F : Nat) : TabOK Try.prog (impl_ScoreBetween_tab F) := (tab_cons (impl_IsBoard_meets F) impl_IsBoard_fok (tab_cons (impl_isSum_meets F) impl_isSum_fok (tab_cons (impl_Board_potential_meets F) impl_Board_potential_fok tab_nil)))
noncomputable def impl_ScoreBetween_LS0 (F : Nat) : LT := []
theorem impl_ScoreBetween_lsok0 (F : Nat) : LoopsOK Try.prog (impl_ScoreBetween_LS0 F) (bodyOf Try.f10) := loopsOK_nil
theorem impl_ScoreBetween_run (F : Nat) (a0 : List Int) (b1 : List Int) (twos2 : Int) : runS tt (impl_ScoreBetween_tab F) (impl_ScoreBetween_LS0 F) [] [] Try.f10 (bodyOf Try.f10) 70 [(.ints 16 a0), (.ints 16 b1), (.int .i64 twos2)] [] = impl_ScoreBetween_c _ F a0 b1 twos2 (fun r => some ⟨(.tup [(.int .i64 r.1), (.bool r.2)]), [], []⟩) := by kernel_rfl
def impl_ScoreBetween_ent (F : Nat) : Ent := ⟨[], .quiet, fun args mem => match args, mem with
  | [(.ints 16 a0), (.ints 16 b1), (.int .i64 twos2)], [] => some ((impl_ScoreBetween_p F a0 b1 twos2).isSome, ⟨(.tup [(.int .i64 ((impl_ScoreBetween_p F a0 b1 twos2).getD default).1), (.bool ((impl_ScoreBetween_p F a0 b1 twos2).getD default).2)]), [], []⟩)
  | _, _ => none⟩
theorem impl_ScoreBetween_fok : FunOK Try.prog 10 := funOK Try.func10 (by kernel_rfl) rfl
theorem impl_ScoreBetween_meets (F : Nat) : Meets Try.prog 10 (impl_ScoreBetween_ent F) := by
  refine meets_of_runS mixed ttok deep (impl_ScoreBetween_tabok F) Try.func10 (body_some rfl) (impl_ScoreBetween_lsok0 F) fun args mem hfit ret h => ?_
  clear hfit
  simp only [impl_ScoreBetween_ent] at h
  split at h
  · rename_i a0 b1 twos2
    simp only [Option.some.injEq, Prod.mk.injEq] at h
    obtain ⟨hc, rfl⟩ := h
    exact ⟨[], [], 70, _, (impl_ScoreBetween_run F a0 b1 twos2).trans ((impl_ScoreBetween_cp _ F a0 b1 twos2 _).trans (bind_use hc _)), rfl, rfl, rfl⟩
  · cases h

/-! loop.example/g01194/spec.l7Potential -/
noncomputable def spec_l7Potential_tab (F : Nat) : Tab := [(53, (spec_l2Worth_ent F))]
theorem spec_l7Potential_tabok (F : Nat) : TabOK Try.prog (spec_l7Potential_tab F) := (tab_cons (spec_l2Worth_meets F) spec_l2Worth_fok tab_nil)
noncomputable def spec_l7Potential_LS0 (F : Nat) : LT := []
theorem spec_l7Potential_lsok0 (F : Nat) : LoopsOK Try.prog (spec_l7Potential_LS0 F) (bodyOf Try.f31) := loopsOK_nil
theorem spec_l7Potential_keys : keysOK (bodyOf Try.f31) = true := by kernel_rfl
def spec_l7Potential_st6 (r4 : Int) (b6 : List Int) (sum3 : Int) (c5 : Int) : St := ⟨expand 31 0 [1, 3, 4, 5] [(.ptr 0 0 0 16), (.int .i64 sum3), (.int .i64 r4), (.int .i64 c5)], [(.var 16 (.ri .i64 b6))], 0, []⟩
def spec_l7Potential_o6 (r4 : Int) (b6 : List Int) (x : Int) : GT := (.out (.exit 2 ⟨expand 31 0 [1, 3, 4] [(.ptr 0 0 0 16), (.int .i64 x), (.int .i64 r4)], [(.var 16 (.ri .i64 b6))], 0, []⟩))
def spec_l7Potential_ls6 (F : Nat) : LoopS := ⟨31, [1, 3, 4, 5], [], [1, 3, 4], [], [2], [], [], fun vals mem np killed => match vals, mem, np, killed with
  | [(.ptr 0 0 0 16), (.int .i64 sum3), (.int .i64 r4), (.int .i64 c5)], [(.var 16 (.ri .i64 b6))], 0, [] => .br (spec_l7Potential_l6 F r4 b6 sum3 c5).isSome (spec_l7Potential_o6 r4 b6 ((spec_l7Potential_l6 F r4 b6 sum3 c5).getD default)) .fail
  | _, _, _, _ => .fail⟩
theorem spec_l7Potential_step6 (F : Nat) (r4 : Int) (b6 : List Int) (sum3 : Int) (c5 : Int) {R : Type} (k : Out → Option R) : stepS tt (spec_l7Potential_tab F) (spec_l7Potential_LS0 F) 70 (spec_l7Potential_ls6 F) (loopAt 6 (bodyOf Try.f31)) (spec_l7Potential_st6 r4 b6 sum3 c5) k = spec_l7Potential_s6 F r4 b6 R (sum3, c5) (fun s => k (.norm (spec_l7Potential_st6 r4 b6 s.1 s.2))) (fun x => (spec_l7Potential_o6 r4 b6 x).run k) := by kernel_rfl
theorem spec_l7Potential_iter6 (F : Nat) (r4 : Int) (b6 : List Int) {R : Type} (k : Out → Option R) : ∀ (n : Nat) (sum3 : Int) (c5 : Int), iterS tt (spec_l7Potential_tab F) (spec_l7Potential_LS0 F) 70 (spec_l7Potential_ls6 F) (loopAt 6 (bodyOf Try.f31)) n (spec_l7Potential_st6 r4 b6 sum3 c5) k = loopC (spec_l7Potential_s6 F r4 b6) n (sum3, c5) (fun x => (spec_l7Potential_o6 r4 b6 x).run k)
  | 0, sum3, c5 => rfl
  | n + 1, sum3, c5 => (iterS_succ tt (spec_l7Potential_tab F) (spec_l7Potential_LS0 F) 70 (spec_l7Potential_ls6 F) (loopAt 6 (bodyOf Try.f31)) n (spec_l7Potential_st6 r4 b6 sum3 c5) k).trans ((spec_l7Potential_step6 F r4 b6 sum3 c5 (nextK (iterS tt (spec_l7Potential_tab F) (spec_l7Potential_LS0 F) 70 (spec_l7Potential_ls6 F) (loopAt 6 (bodyOf Try.f31)) n) k)).trans (congrArg (fun kn => spec_l7Potential_s6 F r4 b6 R (sum3, c5) kn _) (funext (fun ⟨sum3, c5⟩ => spec_l7Potential_iter6 F r4 b6 k n sum3 c5))))
theorem spec_l7Potential_lok6 (F : Nat) : LoopOK Try.prog (loopAt 6 (bodyOf Try.f31)) (spec_l7Potential_ls6 F) := by
  refine loopOK_of mixed ttok deep (spec_l7Potential_tabok F) (loopsOK_at (spec_l7Potential_lsok0 F) 6) (fuel := 70) fun R vals mem np killed k x h => ?_
  simp only [spec_l7Potential_ls6] at h
  split at h
  · rename_i sum3 r4 c5 b6
    simp only [GT.run] at h
    have hc := (cond_noneL h).1
    replace h := (cond_noneL h).2
    refine ⟨F, (spec_l7Potential_iter6 F r4 b6 k F sum3 c5).trans ((loopC_use (spec_l7Potential_s6_nat F r4 b6) hc _).trans h)⟩
  · simp only [GT.run] at h
    cases h
noncomputable def spec_l7Potential_LS1 (F : Nat) : LT := (6, spec_l7Potential_ls6 F) :: spec_l7Potential_LS0 F
theorem spec_l7Potential_lsok1 (F : Nat) : LoopsOK Try.prog (spec_l7Potential_LS1 F) (bodyOf Try.f31) := loopsOK_cons spec_l7Potential_keys (spec_l7Potential_lok6 F) (spec_l7Potential_lsok0 F)
def spec_l7Potential_st3 (b5 : List Int) (sum3 : Int) (r4 : Int) : St := ⟨expand 31 0 [1, 3, 4] [(.ptr 0 0 0 16), (.int .i64 sum3), (.int .i64 r4)], [(.var 16 (.ri .i64 b5))], 0, []⟩
def spec_l7Potential_o3 (b5 : List Int) (x : Int) : GT := (.out (.exit 0 ⟨expand 31 0 [3] [(.int .i64 x)], [], 0, []⟩))
def spec_l7Potential_ls3 (F : Nat) : LoopS := ⟨31, [1, 3, 4], [], [3], [], [2], [], [], fun vals mem np killed => match vals, mem, np, killed with
  | [(.ptr 0 0 0 16), (.int .i64 sum3), (.int .i64 r4)], [(.var 16 (.ri .i64 b5))], 0, [] => .br (spec_l7Potential_l3 F b5 sum3 r4).isSome (spec_l7Potential_o3 b5 ((spec_l7Potential_l3 F b5 sum3 r4).getD default)) .fail
  | _, _, _, _ => .fail⟩
theorem spec_l7Potential_step3 (F : Nat) (b5 : List Int) (sum3 : Int) (r4 : Int) {R : Type} (k : Out → Option R) : stepS tt (spec_l7Potential_tab F) (spec_l7Potential_LS1 F) 70 (spec_l7Potential_ls3 F) (loopAt 3 (bodyOf Try.f31)) (spec_l7Potential_st3 b5 sum3 r4) k = spec_l7Potential_s3 F b5 R (sum3, r4) (fun s => k (.norm (spec_l7Potential_st3 b5 s.1 s.2))) (fun x => (spec_l7Potential_o3 b5 x).run k) := by kernel_rfl
theorem spec_l7Potential_iter3 (F : Nat) (b5 : List Int) {R : Type} (k : Out → Option R) : ∀ (n : Nat) (sum3 : Int) (r4 : Int), iterS tt (spec_l7Potential_tab F) (spec_l7Potential_LS1 F) 70 (spec_l7Potential_ls3 F) (loopAt 3 (bodyOf Try.f31)) n (spec_l7Potential_st3 b5 sum3 r4) k = loopC (spec_l7Potential_s3 F b5) n (sum3, r4) (fun x => (spec_l7Potential_o3 b5 x).run k)
  | 0, sum3, r4 => rfl
  | n + 1, sum3, r4 => (iterS_succ tt (spec_l7Potential_tab F) (spec_l7Potential_LS1 F) 70 (spec_l7Potential_ls3 F) (loopAt 3 (bodyOf Try.f31)) n (spec_l7Potential_st3 b5 sum3 r4) k).trans ((spec_l7Potential_step3 F b5 sum3 r4 (nextK (iterS tt (spec_l7Potential_tab F) (spec_l7Potential_LS1 F) 70 (spec_l7Potential_ls3 F) (loopAt 3 (bodyOf Try.f31)) n) k)).trans (congrArg (fun kn => spec_l7Potential_s3 F b5 R (sum3, r4) kn _) (funext (fun ⟨sum3, r4⟩ => spec_l7Potential_iter3 F b5 k n sum3 r4))))
theorem spec_l7Potential_lok3 (F : Nat) : LoopOK Try.prog (loopAt 3 (bodyOf Try.f31)) (spec_l7Potential_ls3 F) := by
  refine loopOK_of mixed ttok deep (spec_l7Potential_tabok F) (loopsOK_at (spec_l7Potential_lsok1 F) 3) (fuel := 70) fun R vals mem np killed k x h => ?_
  simp only [spec_l7Potential_ls3] at h
  split at h
  · rename_i sum3 r4 b5
    simp only [GT.run] at h
    have hc := (cond_noneL h).1
    replace h := (cond_noneL h).2
    refine ⟨F, (spec_l7Potential_iter3 F b5 k F sum3 r4).trans ((loopC_use (spec_l7Potential_s3_nat F b5) hc _).trans h)⟩
  · simp only [GT.run] at h
    cases h
noncomputable def spec_l7Potential_LS2 (F : Nat) : LT := (3, spec_l7Potential_ls3 F) :: spec_l7Potential_LS1 F
theorem spec_l7Potential_lsok2 (F : Nat) : LoopsOK Try.prog (spec_l7Potential_LS2 F) (bodyOf Try.f31) := loopsOK_cons spec_l7Potential_keys (spec_l7Potential_lok3 F) (spec_l7Potential_lsok1 F)
theorem spec_l7Potential_run (F : Nat) (b0 : List Int) : runS tt (spec_l7Potential_tab F) (spec_l7Potential_LS2 F) [] [] Try.f31 (bodyOf Try.f31) 70 [(.ints 16 b0)] [] = spec_l7Potential_c _ F b0 (fun r => some ⟨(.int .i64 r), [], []⟩) := by kernel_rfl
def spec_l7Potential_ent (F : Nat) : Ent := ⟨[], .quiet, fun args mem => match args, mem with
  | [(.ints 16 b0)], [] => some ((spec_l7Potential_p F b0).isSome, ⟨(.int .i64 ((spec_l7Potential_p F b0).getD default)), [], []⟩)
  | _, _ => none⟩
theorem spec_l7Potential_fok : FunOK Try.prog 31 := funOK Try.func31 (by kernel_rfl) rfl
theorem spec_l7Potential_meets (F : Nat) : Meets Try.prog 31 (spec_l7Potential_ent F) := by
  refine meets_of_runS mixed ttok deep (spec_l7Potential_tabok F) Try.func31 (body_some rfl) (spec_l7Potential_lsok2 F) fun args mem hfit ret h => ?_
  clear hfit
  simp only [spec_l7Potential_ent] at h
  split at h
  · rename_i b0
    simp only [Option.some.injEq, Prod.mk.injEq] at h
    obtain ⟨hc, rfl⟩ := h
    exact ⟨[], [], 70, _, (spec_l7Potential_run F b0).trans ((spec_l7Potential_cp _ F b0 _).trans (bind_use hc _)), rfl, rfl, rfl⟩
  · cases h

/-! loop.example/g01194/spec.ScoreBetween -/
noncomputable def spec_ScoreBetween_tab (F : Nat) : Tab := [(24, (spec_l2Board_ent F)), (30, (spec_l1In_ent F)), (31, (spec_l7Potential_ent F))]
theorem spec_ScoreBetween_tabok (F : Nat) : TabOK Try.prog (spec_ScoreBetween_tab F) := (tab_cons (spec_l2Board_meets F) spec_l2Board_fok (tab_cons (spec_l1In_meets F) spec_l1In_fok (tab_cons (spec_l7Potential_meets F) spec_l7Potential_fok tab_nil)))
noncomputable def spec_ScoreBetween_LS0 (F : Nat) : LT := []
theorem spec_ScoreBetween_lsok0 (F : Nat) : LoopsOK Try.prog (spec_ScoreBetween_LS0 F) (bodyOf Try.f11) := loopsOK_nil
theorem spec_ScoreBetween_run (F : Nat) (a0 : List Int) (b1 : List Int) (twos2 : Int) : runS tt (spec_ScoreBetween_tab F) (spec_ScoreBetween_LS0 F) [] [] Try.f11 (bodyOf Try.f11) 70 [(.ints 16 a0), (.ints 16 b1), (.int .i64 twos2)] [] = spec_ScoreBetween_c _ F a0 b1 twos2 (fun r => some ⟨(.tup [(.int .i64 r.1), (.bool r.2)]), [], []⟩) := by kernel_rfl
def spec_ScoreBetween_ent (F : Nat) : Ent := ⟨[], .quiet, fun args mem => match args, mem with
  | [(.ints 16 a0), (.ints 16 b1), (.int .i64 twos2)], [] => some ((spec_ScoreBetween_p F a0 b1 twos2).isSome, ⟨(.tup [(.int .i64 ((spec_ScoreBetween_p F a0 b1 twos2).getD default).1), (.bool ((spec_ScoreBetween_p F a0 b1 twos2).getD default).2)]), [], []⟩)
  | _, _ => none⟩
theorem spec_ScoreBetween_fok : FunOK Try.prog 11 := funOK Try.func11 (by kernel_rfl) rfl
theorem spec_ScoreBetween_meets (F : Nat) : Meets Try.prog 11 (spec_ScoreBetween_ent F) := by
  refine meets_of_runS mixed ttok deep (spec_ScoreBetween_tabok F) Try.func11 (body_some rfl) (spec_ScoreBetween_lsok0 F) fun args mem hfit ret h => ?_
  clear hfit
  simp only [spec_ScoreBetween_ent] at h
  split at h
  · rename_i a0 b1 twos2
    simp only [Option.some.injEq, Prod.mk.injEq] at h
    obtain ⟨hc, rfl⟩ := h
    exact ⟨[], [], 70, _, (spec_ScoreBetween_run F a0 b1 twos2).trans ((spec_ScoreBetween_cp _ F a0 b1 twos2 _).trans (bind_use hc _)), rfl, rfl, rfl⟩
  · cases h

/-! (*loop.example/g01194/spec.l1Cur).sum7 -/
noncomputable def spec_l1Cur_sum7_tab (F : Nat) : Tab := [(19, (spec_l1Cur_one_ent F)), (26, (spec_l1Cur_among_ent F))]
theorem spec_l1Cur_sum7_tabok (F : Nat) : TabOK Try.prog (spec_l1Cur_sum7_tab F) := (tab_cons (spec_l1Cur_one_meets F) spec_l1Cur_one_fok (tab_cons (spec_l1Cur_among_meets F) spec_l1Cur_among_fok tab_nil))
noncomputable def spec_l1Cur_sum7_LS0 (F : Nat) : LT := []
theorem spec_l1Cur_sum7_lsok0 (F : Nat) : LoopsOK Try.prog (spec_l1Cur_sum7_LS0 F) (bodyOf Try.f33) := loopsOK_nil
theorem spec_l1Cur_sum7_run (F : Nat) (c3 : List Int) (c4 : Int) (c5 : Int) : runS tt (spec_l1Cur_sum7_tab F) (spec_l1Cur_sum7_LS0 F) [] [] Try.f33 (bodyOf Try.f33) 70 [(.ptr 0 0 0 3)] [(.var 3 (.rv [(.ri .u8 c3), (.int .i64 c4), (.int .u64 c5)]))] = spec_l1Cur_sum7_c _ c3 c4 c5 (fun r => some ⟨(.int .i64 r.1), [(.var 3 (.rv [(.ri .u8 c3), (.int .i64 r.2.1), (.int .u64 r.2.2)]))], []⟩) := by kernel_rfl
def spec_l1Cur_sum7_ent (F : Nat) : Ent := ⟨[], .loud, fun args mem => match args, mem with
  | [(.ptr 0 0 0 3)], [(.var 3 (.rv [(.ri .u8 c3), (.int .i64 c4), (.int .u64 c5)]))] => some ((spec_l1Cur_sum7_p c3 c4 c5).isSome, ⟨(.int .i64 ((spec_l1Cur_sum7_p c3 c4 c5).getD default).1), [(.var 3 (.rv [(.ri .u8 c3), (.int .i64 ((spec_l1Cur_sum7_p c3 c4 c5).getD default).2.1), (.int .u64 ((spec_l1Cur_sum7_p c3 c4 c5).getD default).2.2)]))], []⟩)
  | _, _ => none⟩
theorem spec_l1Cur_sum7_fok : FunOK Try.prog 33 := funOK Try.func33 (by kernel_rfl) rfl
theorem spec_l1Cur_sum7_meets (F : Nat) : Meets Try.prog 33 (spec_l1Cur_sum7_ent F) := by
  refine meets_of_runS mixed ttok deep (spec_l1Cur_sum7_tabok F) Try.func33 (body_some rfl) (spec_l1Cur_sum7_lsok0 F) fun args mem hfit ret h => ?_
  clear hfit
  simp only [spec_l1Cur_sum7_ent] at h
  split at h
  · rename_i c3 c4 c5
    simp only [Option.some.injEq, Prod.mk.injEq] at h
    obtain ⟨hc, rfl⟩ := h
    exact ⟨[], [], 70, _, (spec_l1Cur_sum7_run F c3 c4 c5).trans ((spec_l1Cur_sum7_cp _ c3 c4 c5 _).trans (bind_use hc _)), rfl, rfl, rfl⟩
  · cases h
end Go.Proofs.Ytabfliifleonaae
