/-
Pure functions and what the code of them does, by program; without conditions.
-/
import Derived.Test.YtabfliifleonaaiQiP2
import Derived.Test.YtabfliifleonaaiQiS1
namespace Go.Proofs.Ytabfliifleonaai
open Go Go.Lv Go.Lv.P Go.Proofs
set_option linter.unusedVariables false
set_option linter.unusedSimpArgs false
set_option maxRecDepth 100000
/-! loop.example/g01194/impl.IsBoard$1 -/
noncomputable def impl_IsBoard_f1_tab (F : Nat) : Tab := [(45, (impl_IsRow_ent F))]
theorem impl_IsBoard_f1_tabok (F : Nat) : TabOK Try.prog (impl_IsBoard_f1_tab F) := (tab_cons (impl_IsRow_meets F) impl_IsRow_fok tab_nil)
noncomputable def impl_IsBoard_f1_LS0 (F : Nat) : LT := []
theorem impl_IsBoard_f1_lsok0 (F : Nat) : LoopsOK Try.prog (impl_IsBoard_f1_LS0 F) (bodyOf Try.f44) := loopsOK_nil
theorem impl_IsBoard_f1_run (F : Nat) (row0 : List Int) : runS tt (impl_IsBoard_f1_tab F) (impl_IsBoard_f1_LS0 F) [] [] Try.f44 (bodyOf Try.f44) 70 [(.ints 4 row0)] [] = impl_IsBoard_f1_c _ F row0 (fun r => some ⟨(.bool r), [], []⟩) := by kernel_rfl
def impl_IsBoard_f1_ent (F : Nat) : Ent := ⟨[], .quiet, fun args mem => match args, mem with
  | [(.ints 4 row0)], [] => some ((impl_IsBoard_f1_p F row0).isSome, ⟨(.bool ((impl_IsBoard_f1_p F row0).getD default)), [], []⟩)
  | _, _ => none⟩
theorem impl_IsBoard_f1_fok : FunOK Try.prog 44 := funOK Try.func44 (by kernel_rfl) rfl
theorem impl_IsBoard_f1_meets (F : Nat) : Meets Try.prog 44 (impl_IsBoard_f1_ent F) := by
  refine meets_of_runS mixed ttok deep (impl_IsBoard_f1_tabok F) Try.func44 (body_some rfl) (impl_IsBoard_f1_lsok0 F) fun args mem hfit ret h => ?_
  clear hfit
  simp only [impl_IsBoard_f1_ent] at h
  split at h
  · rename_i row0
    simp only [Option.some.injEq, Prod.mk.injEq] at h
    obtain ⟨hc, rfl⟩ := h
    exact ⟨[], [], 70, _, (impl_IsBoard_f1_run F row0).trans ((impl_IsBoard_f1_cp _ F row0 _).trans (bind_use hc _)), rfl, rfl, rfl⟩
  · cases h

/-! slices.IndexFunc[[][4]int,[4]int] -/
noncomputable def slices_IndexFunc_4int4int_impl_IsBoard_f1_tab (F : Nat) : Tab := [(44, (impl_IsBoard_f1_ent F))]
theorem slices_IndexFunc_4int4int_impl_IsBoard_f1_tabok (F : Nat) : TabOK Try.prog (slices_IndexFunc_4int4int_impl_IsBoard_f1_tab F) := (tab_cons (impl_IsBoard_f1_meets F) impl_IsBoard_f1_fok tab_nil)
noncomputable def slices_IndexFunc_4int4int_impl_IsBoard_f1_LS0 (F : Nat) : LT := []
theorem slices_IndexFunc_4int4int_impl_IsBoard_f1_lsok0 (F : Nat) : LoopsOK Try.prog (slices_IndexFunc_4int4int_impl_IsBoard_f1_LS0 F) (bodyOf Try.f53) := loopsOK_nil
theorem slices_IndexFunc_4int4int_impl_IsBoard_f1_keys : keysOK (bodyOf Try.f53) = true := by kernel_rfl
def slices_IndexFunc_4int4int_impl_IsBoard_f1_st2 (s0 : List (List Int)) (t71 : Int) (t82 : Int) : St := ⟨expand 19 0 [0, 1, 7, 8] [(.rr 4 s0), (.fn 44 [] []), (.int .i64 t71), (.int .i64 t82)], [], 0, []⟩
def slices_IndexFunc_4int4int_impl_IsBoard_f1_o2 (s0 : List (List Int)) (t71 : Int) (x : Bool × Int) : GT := (.br x.1 (.out (.ret ⟨expand 19 0 [4] [(.int .i64 x.2)], [], 0, []⟩)) (.out (.exit 0 ⟨expand 19 0 [] [], [], 0, []⟩)))
def slices_IndexFunc_4int4int_impl_IsBoard_f1_ls2 (F : Nat) : LoopS := ⟨19, [0, 1, 7, 8], [], [], [], [4], [], [], fun vals mem np killed => match vals, mem, np, killed with
  | [(.rr 4 s0), (.fn 44 [] []), (.int .i64 t71), (.int .i64 t82)], [], 0, [] => .br (slices_IndexFunc_4int4int_impl_IsBoard_f1_l2 F s0 t71 t82).isSome (slices_IndexFunc_4int4int_impl_IsBoard_f1_o2 s0 t71 ((slices_IndexFunc_4int4int_impl_IsBoard_f1_l2 F s0 t71 t82).getD default)) .fail
  | _, _, _, _ => .fail⟩
theorem slices_IndexFunc_4int4int_impl_IsBoard_f1_step2 (F : Nat) (s0 : List (List Int)) (t71 : Int) (t82 : Int) {R : Type} (k : Out → Option R) : stepS tt (slices_IndexFunc_4int4int_impl_IsBoard_f1_tab F) (slices_IndexFunc_4int4int_impl_IsBoard_f1_LS0 F) 70 (slices_IndexFunc_4int4int_impl_IsBoard_f1_ls2 F) (loopAt 2 (bodyOf Try.f53)) (slices_IndexFunc_4int4int_impl_IsBoard_f1_st2 s0 t71 t82) k = slices_IndexFunc_4int4int_impl_IsBoard_f1_s2 F s0 t71 R t82 (fun s => k (.norm (slices_IndexFunc_4int4int_impl_IsBoard_f1_st2 s0 t71 s))) (fun x => (slices_IndexFunc_4int4int_impl_IsBoard_f1_o2 s0 t71 x).run k) := by kernel_rfl
theorem slices_IndexFunc_4int4int_impl_IsBoard_f1_iter2 (F : Nat) (s0 : List (List Int)) (t71 : Int) {R : Type} (k : Out → Option R) : ∀ (n : Nat) (t82 : Int), iterS tt (slices_IndexFunc_4int4int_impl_IsBoard_f1_tab F) (slices_IndexFunc_4int4int_impl_IsBoard_f1_LS0 F) 70 (slices_IndexFunc_4int4int_impl_IsBoard_f1_ls2 F) (loopAt 2 (bodyOf Try.f53)) n (slices_IndexFunc_4int4int_impl_IsBoard_f1_st2 s0 t71 t82) k = loopC (slices_IndexFunc_4int4int_impl_IsBoard_f1_s2 F s0 t71) n t82 (fun x => (slices_IndexFunc_4int4int_impl_IsBoard_f1_o2 s0 t71 x).run k)
  | 0, t82 => rfl
  | n + 1, t82 => (iterS_succ tt (slices_IndexFunc_4int4int_impl_IsBoard_f1_tab F) (slices_IndexFunc_4int4int_impl_IsBoard_f1_LS0 F) 70 (slices_IndexFunc_4int4int_impl_IsBoard_f1_ls2 F) (loopAt 2 (bodyOf Try.f53)) n (slices_IndexFunc_4int4int_impl_IsBoard_f1_st2 s0 t71 t82) k).trans ((slices_IndexFunc_4int4int_impl_IsBoard_f1_step2 F s0 t71 t82 (nextK (iterS tt (slices_IndexFunc_4int4int_impl_IsBoard_f1_tab F) (slices_IndexFunc_4int4int_impl_IsBoard_f1_LS0 F) 70 (slices_IndexFunc_4int4int_impl_IsBoard_f1_ls2 F) (loopAt 2 (bodyOf Try.f53)) n) k)).trans (congrArg (fun kn => slices_IndexFunc_4int4int_impl_IsBoard_f1_s2 F s0 t71 R t82 kn _) (funext (fun t82 => slices_IndexFunc_4int4int_impl_IsBoard_f1_iter2 F s0 t71 k n t82))))
theorem slices_IndexFunc_4int4int_impl_IsBoard_f1_lok2 (F : Nat) : LoopOK Try.prog (loopAt 2 (bodyOf Try.f53)) (slices_IndexFunc_4int4int_impl_IsBoard_f1_ls2 F) := by
  refine loopOK_of mixed ttok deep (slices_IndexFunc_4int4int_impl_IsBoard_f1_tabok F) (loopsOK_at (slices_IndexFunc_4int4int_impl_IsBoard_f1_lsok0 F) 2) (fuel := 70) fun R vals mem np killed k x h => ?_
  simp only [slices_IndexFunc_4int4int_impl_IsBoard_f1_ls2] at h
  split at h
  · rename_i s0 t71 t82
    simp only [GT.run] at h
    have hc := (cond_noneL h).1
    replace h := (cond_noneL h).2
    refine ⟨F, (slices_IndexFunc_4int4int_impl_IsBoard_f1_iter2 F s0 t71 k F t82).trans ((loopC_use (slices_IndexFunc_4int4int_impl_IsBoard_f1_s2_nat F s0 t71) hc _).trans h)⟩
  · simp only [GT.run] at h
    cases h
noncomputable def slices_IndexFunc_4int4int_impl_IsBoard_f1_LS1 (F : Nat) : LT := (2, slices_IndexFunc_4int4int_impl_IsBoard_f1_ls2 F) :: slices_IndexFunc_4int4int_impl_IsBoard_f1_LS0 F
theorem slices_IndexFunc_4int4int_impl_IsBoard_f1_lsok1 (F : Nat) : LoopsOK Try.prog (slices_IndexFunc_4int4int_impl_IsBoard_f1_LS1 F) (bodyOf Try.f53) := loopsOK_cons slices_IndexFunc_4int4int_impl_IsBoard_f1_keys (slices_IndexFunc_4int4int_impl_IsBoard_f1_lok2 F) (slices_IndexFunc_4int4int_impl_IsBoard_f1_lsok0 F)
theorem slices_IndexFunc_4int4int_impl_IsBoard_f1_run (F : Nat) (s0 : List (List Int)) : runS tt (slices_IndexFunc_4int4int_impl_IsBoard_f1_tab F) (slices_IndexFunc_4int4int_impl_IsBoard_f1_LS1 F) [] [] Try.f53 (bodyOf Try.f53) 70 [(.rr 4 s0), (.fn 44 [] [])] [] = slices_IndexFunc_4int4int_impl_IsBoard_f1_c _ F s0 (fun r => some ⟨(.int .i64 r), [], []⟩) := by kernel_rfl
def slices_IndexFunc_4int4int_impl_IsBoard_f1_ent (F : Nat) : Ent := ⟨[], .quiet, fun args mem => match args, mem with
  | [(.rr 4 s0), (.fn 44 [] [])], [] => some ((slices_IndexFunc_4int4int_impl_IsBoard_f1_p F s0).isSome, ⟨(.int .i64 ((slices_IndexFunc_4int4int_impl_IsBoard_f1_p F s0).getD default)), [], []⟩)
  | _, _ => none⟩
theorem slices_IndexFunc_4int4int_impl_IsBoard_f1_fok : FunOK Try.prog 53 := funOK Try.func53 (by kernel_rfl) rfl
theorem slices_IndexFunc_4int4int_impl_IsBoard_f1_meets (F : Nat) : Meets Try.prog 53 (slices_IndexFunc_4int4int_impl_IsBoard_f1_ent F) := by
  refine meets_of_runS mixed ttok deep (slices_IndexFunc_4int4int_impl_IsBoard_f1_tabok F) Try.func53 (body_some rfl) (slices_IndexFunc_4int4int_impl_IsBoard_f1_lsok1 F) fun args mem hfit ret h => ?_
  clear hfit
  simp only [slices_IndexFunc_4int4int_impl_IsBoard_f1_ent] at h
  split at h
  · rename_i s0
    simp only [Option.some.injEq, Prod.mk.injEq] at h
    obtain ⟨hc, rfl⟩ := h
    exact ⟨[], [], 70, _, (slices_IndexFunc_4int4int_impl_IsBoard_f1_run F s0).trans ((slices_IndexFunc_4int4int_impl_IsBoard_f1_cp _ F s0 _).trans (bind_use hc _)), rfl, rfl, rfl⟩
  · cases h

/-! slices.ContainsFunc[[][4]int,[4]int] -/
noncomputable def slices_ContainsFunc_4int4int_impl_IsBoard_f1_tab (F : Nat) : Tab := [(53, (slices_IndexFunc_4int4int_impl_IsBoard_f1_ent F))]
theorem slices_ContainsFunc_4int4int_impl_IsBoard_f1_tabok (F : Nat) : TabOK Try.prog (slices_ContainsFunc_4int4int_impl_IsBoard_f1_tab F) := (tab_cons (slices_IndexFunc_4int4int_impl_IsBoard_f1_meets F) slices_IndexFunc_4int4int_impl_IsBoard_f1_fok tab_nil)
noncomputable def slices_ContainsFunc_4int4int_impl_IsBoard_f1_LS0 (F : Nat) : LT := []
theorem slices_ContainsFunc_4int4int_impl_IsBoard_f1_lsok0 (F : Nat) : LoopsOK Try.prog (slices_ContainsFunc_4int4int_impl_IsBoard_f1_LS0 F) (bodyOf Try.f43) := loopsOK_nil
theorem slices_ContainsFunc_4int4int_impl_IsBoard_f1_run (F : Nat) (s0 : List (List Int)) : runS tt (slices_ContainsFunc_4int4int_impl_IsBoard_f1_tab F) (slices_ContainsFunc_4int4int_impl_IsBoard_f1_LS0 F) [] [] Try.f43 (bodyOf Try.f43) 70 [(.rr 4 s0), (.fn 44 [] [])] [] = slices_ContainsFunc_4int4int_impl_IsBoard_f1_c _ F s0 (fun r => some ⟨(.bool r), [], []⟩) := by kernel_rfl
def slices_ContainsFunc_4int4int_impl_IsBoard_f1_ent (F : Nat) : Ent := ⟨[], .quiet, fun args mem => match args, mem with
  | [(.rr 4 s0), (.fn 44 [] [])], [] => some ((slices_ContainsFunc_4int4int_impl_IsBoard_f1_p F s0).isSome, ⟨(.bool ((slices_ContainsFunc_4int4int_impl_IsBoard_f1_p F s0).getD default)), [], []⟩)
  | _, _ => none⟩
theorem slices_ContainsFunc_4int4int_impl_IsBoard_f1_fok : FunOK Try.prog 43 := funOK Try.func43 (by kernel_rfl) rfl
theorem slices_ContainsFunc_4int4int_impl_IsBoard_f1_meets (F : Nat) : Meets Try.prog 43 (slices_ContainsFunc_4int4int_impl_IsBoard_f1_ent F) := by
  refine meets_of_runS mixed ttok deep (slices_ContainsFunc_4int4int_impl_IsBoard_f1_tabok F) Try.func43 (body_some rfl) (slices_ContainsFunc_4int4int_impl_IsBoard_f1_lsok0 F) fun args mem hfit ret h => ?_
  clear hfit
  simp only [slices_ContainsFunc_4int4int_impl_IsBoard_f1_ent] at h
  split at h
  · rename_i s0
    simp only [Option.some.injEq, Prod.mk.injEq] at h
    obtain ⟨hc, rfl⟩ := h
    exact ⟨[], [], 70, _, (slices_ContainsFunc_4int4int_impl_IsBoard_f1_run F s0).trans ((slices_ContainsFunc_4int4int_impl_IsBoard_f1_cp _ F s0 _).trans (bind_use hc _)), rfl, rfl, rfl⟩
  · cases h

/-! loop.example/g01194/impl.IsBoard -/
noncomputable def impl_IsBoard_tab (F : Nat) : Tab := [(43, (slices_ContainsFunc_4int4int_impl_IsBoard_f1_ent F))]
theorem impl_IsBoard_tabok (F : Nat) : TabOK Try.prog (impl_IsBoard_tab F) := (tab_cons (slices_ContainsFunc_4int4int_impl_IsBoard_f1_meets F) slices_ContainsFunc_4int4int_impl_IsBoard_f1_fok tab_nil)
noncomputable def impl_IsBoard_LS0 (F : Nat) : LT := []
theorem impl_IsBoard_lsok0 (F : Nat) : LoopsOK Try.prog (impl_IsBoard_LS0 F) (bodyOf Try.f27) := loopsOK_nil
theorem impl_IsBoard_run (F : Nat) (b0 : List Int) : runS tt (impl_IsBoard_tab F) (impl_IsBoard_LS0 F) [] [] Try.f27 (bodyOf Try.f27) 70 [(.ints 16 b0)] [] = impl_IsBoard_c _ F b0 (fun r => some ⟨(.bool r), [], []⟩) := by kernel_rfl
def impl_IsBoard_ent (F : Nat) : Ent := ⟨[], .quiet, fun args mem => match args, mem with
  | [(.ints 16 b0)], [] => some ((impl_IsBoard_p F b0).isSome, ⟨(.bool ((impl_IsBoard_p F b0).getD default)), [], []⟩)
  | _, _ => none⟩
theorem impl_IsBoard_fok : FunOK Try.prog 27 := funOK Try.func27 (by kernel_rfl) rfl
theorem impl_IsBoard_meets (F : Nat) : Meets Try.prog 27 (impl_IsBoard_ent F) := by
  refine meets_of_runS mixed ttok deep (impl_IsBoard_tabok F) Try.func27 (body_some rfl) (impl_IsBoard_lsok0 F) fun args mem hfit ret h => ?_
  clear hfit
  simp only [impl_IsBoard_ent] at h
  split at h
  · rename_i b0
    simp only [Option.some.injEq, Prod.mk.injEq] at h
    obtain ⟨hc, rfl⟩ := h
    exact ⟨[], [], 70, _, (impl_IsBoard_run F b0).trans ((impl_IsBoard_cp _ F b0 _).trans (bind_use hc _)), rfl, rfl, rfl⟩
  · cases h

/-! (*loop.example/g01194/impl.Board).at -/
noncomputable def impl_Board_at_tab (F : Nat) : Tab := []
theorem impl_Board_at_tabok (F : Nat) : TabOK Try.prog (impl_Board_at_tab F) := tab_nil
noncomputable def impl_Board_at_LS0 (F : Nat) : LT := []
theorem impl_Board_at_lsok0 (F : Nat) : LoopsOK Try.prog (impl_Board_at_LS0 F) (bodyOf Try.f28) := loopsOK_nil
theorem impl_Board_at_run (F : Nat) (cell3 : List Int) (b4 : List Int) : runS tt (impl_Board_at_tab F) (impl_Board_at_LS0 F) [] [] Try.f28 (bodyOf Try.f28) 70 [(.ptr 0 0 0 16), (.ints 2 cell3)] [(.var 16 (.ri .i64 b4))] = impl_Board_at_c _ cell3 b4 (fun r => some ⟨(.ptr 0 0 r 1), [(.var 16 (.ri .i64 b4))], []⟩) := by kernel_rfl
def impl_Board_at_ent (F : Nat) : Ent := ⟨[], .quiet, fun args mem => match args, mem with
  | [(.ptr 0 0 0 16), (.ints 2 cell3)], [(.var 16 (.ri .i64 b4))] => some ((impl_Board_at_p cell3 b4).isSome, ⟨(.ptr 0 0 ((impl_Board_at_p cell3 b4).getD default) 1), [], []⟩)
  | _, _ => none⟩
theorem impl_Board_at_fok : FunOK Try.prog 28 := funOK Try.func28 (by kernel_rfl) rfl
theorem impl_Board_at_meets (F : Nat) : Meets Try.prog 28 (impl_Board_at_ent F) := by
  refine meets_of_runS mixed ttok deep (impl_Board_at_tabok F) Try.func28 (body_some rfl) (impl_Board_at_lsok0 F) fun args mem hfit ret h => ?_
  clear hfit
  simp only [impl_Board_at_ent] at h
  split at h
  · rename_i cell3 b4
    simp only [Option.some.injEq, Prod.mk.injEq] at h
    obtain ⟨hc, rfl⟩ := h
    exact ⟨[], [], 70, _, (impl_Board_at_run F cell3 b4).trans ((impl_Board_at_cp _ cell3 b4 _).trans (bind_use hc _)), rfl, rfl, rfl⟩
  · cases h

/-! cmp.isNaN[int] -/
noncomputable def cmp_isNaN_int_tab (F : Nat) : Tab := []
theorem cmp_isNaN_int_tabok (F : Nat) : TabOK Try.prog (cmp_isNaN_int_tab F) := tab_nil
noncomputable def cmp_isNaN_int_LS0 (F : Nat) : LT := []
theorem cmp_isNaN_int_lsok0 (F : Nat) : LoopsOK Try.prog (cmp_isNaN_int_LS0 F) (bodyOf Try.f56) := loopsOK_nil
theorem cmp_isNaN_int_run (F : Nat) (x0 : Int) : runS tt (cmp_isNaN_int_tab F) (cmp_isNaN_int_LS0 F) [] [] Try.f56 (bodyOf Try.f56) 70 [(.int .i64 x0)] [] = cmp_isNaN_int_c _ x0 (fun r => some ⟨(.bool r), [], []⟩) := by kernel_rfl
def cmp_isNaN_int_ent (F : Nat) : Ent := ⟨[], .quiet, fun args mem => match args, mem with
  | [(.int .i64 x0)], [] => some (true, ⟨(.bool (cmp_isNaN_int_v x0)), [], []⟩)
  | _, _ => none⟩
theorem cmp_isNaN_int_fok : FunOK Try.prog 56 := funOK Try.func56 (by kernel_rfl) rfl
theorem cmp_isNaN_int_meets (F : Nat) : Meets Try.prog 56 (cmp_isNaN_int_ent F) := by
  refine meets_of_runS mixed ttok deep (cmp_isNaN_int_tabok F) Try.func56 (body_some rfl) (cmp_isNaN_int_lsok0 F) fun args mem hfit ret h => ?_
  clear hfit
  simp only [cmp_isNaN_int_ent] at h
  split at h
  · rename_i x0
    simp only [Option.some.injEq, Prod.mk.injEq] at h
    obtain ⟨hc, rfl⟩ := h
    exact ⟨[], [], 70, _, (cmp_isNaN_int_run F x0).trans (cmp_isNaN_int_cv _ x0 _), rfl, rfl, rfl⟩
  · cases h

/-! cmp.Less[int] -/
noncomputable def cmp_Less_int_tab (F : Nat) : Tab := [(56, (cmp_isNaN_int_ent F))]
theorem cmp_Less_int_tabok (F : Nat) : TabOK Try.prog (cmp_Less_int_tab F) := (tab_cons (cmp_isNaN_int_meets F) cmp_isNaN_int_fok tab_nil)
noncomputable def cmp_Less_int_LS0 (F : Nat) : LT := []
theorem cmp_Less_int_lsok0 (F : Nat) : LoopsOK Try.prog (cmp_Less_int_LS0 F) (bodyOf Try.f46) := loopsOK_nil
theorem cmp_Less_int_run (F : Nat) (x0 : Int) (y1 : Int) : runS tt (cmp_Less_int_tab F) (cmp_Less_int_LS0 F) [] [] Try.f46 (bodyOf Try.f46) 70 [(.int .i64 x0), (.int .i64 y1)] [] = cmp_Less_int_c _ x0 y1 (fun r => some ⟨(.bool r), [], []⟩) := by kernel_rfl
def cmp_Less_int_ent (F : Nat) : Ent := ⟨[], .quiet, fun args mem => match args, mem with
  | [(.int .i64 x0), (.int .i64 y1)], [] => some (true, ⟨(.bool (cmp_Less_int_v x0 y1)), [], []⟩)
  | _, _ => none⟩
theorem cmp_Less_int_fok : FunOK Try.prog 46 := funOK Try.func46 (by kernel_rfl) rfl
theorem cmp_Less_int_meets (F : Nat) : Meets Try.prog 46 (cmp_Less_int_ent F) := by
  refine meets_of_runS mixed ttok deep (cmp_Less_int_tabok F) Try.func46 (body_some rfl) (cmp_Less_int_lsok0 F) fun args mem hfit ret h => ?_
  clear hfit
  simp only [cmp_Less_int_ent] at h
  split at h
  · rename_i x0 y1
    simp only [Option.some.injEq, Prod.mk.injEq] at h
    obtain ⟨hc, rfl⟩ := h
    exact ⟨[], [], 70, _, (cmp_Less_int_run F x0 y1).trans (cmp_Less_int_cv _ x0 y1 _), rfl, rfl, rfl⟩
  · cases h

/-! slices.IsSorted[[]int,int] -/
noncomputable def slices_IsSorted_intint_tab (F : Nat) : Tab := [(46, (cmp_Less_int_ent F))]
theorem slices_IsSorted_intint_tabok (F : Nat) : TabOK Try.prog (slices_IsSorted_intint_tab F) := (tab_cons (cmp_Less_int_meets F) cmp_Less_int_fok tab_nil)
noncomputable def slices_IsSorted_intint_LS0 (F : Nat) : LT := []
theorem slices_IsSorted_intint_lsok0 (F : Nat) : LoopsOK Try.prog (slices_IsSorted_intint_LS0 F) (bodyOf Try.f29) := loopsOK_nil
theorem slices_IsSorted_intint_keys : keysOK (bodyOf Try.f29) = true := by kernel_rfl
def slices_IsSorted_intint_st2 (x0 : List Int) (i1 : Int) : St := ⟨expand 21 0 [0, 3] [(.ri .i64 x0), (.int .i64 i1)], [], 0, []⟩
def slices_IsSorted_intint_o2 (x0 : List Int) (x : Bool) : GT := (.br x (.out (.ret ⟨expand 21 0 [2] [(.bool false)], [], 0, []⟩)) (.out (.exit 0 ⟨expand 21 0 [] [], [], 0, []⟩)))
def slices_IsSorted_intint_ls2 (F : Nat) : LoopS := ⟨21, [0, 3], [], [], [], [2], [], [], fun vals mem np killed => match vals, mem, np, killed with
  | [(.ri .i64 x0), (.int .i64 i1)], [], 0, [] => .br (slices_IsSorted_intint_l2 F x0 i1).isSome (slices_IsSorted_intint_o2 x0 ((slices_IsSorted_intint_l2 F x0 i1).getD default)) .fail
  | _, _, _, _ => .fail⟩
theorem slices_IsSorted_intint_step2 (F : Nat) (x0 : List Int) (i1 : Int) {R : Type} (k : Out → Option R) : stepS tt (slices_IsSorted_intint_tab F) (slices_IsSorted_intint_LS0 F) 70 (slices_IsSorted_intint_ls2 F) (loopAt 2 (bodyOf Try.f29)) (slices_IsSorted_intint_st2 x0 i1) k = slices_IsSorted_intint_s2 F x0 R i1 (fun s => k (.norm (slices_IsSorted_intint_st2 x0 s))) (fun x => (slices_IsSorted_intint_o2 x0 x).run k) := by kernel_rfl
theorem slices_IsSorted_intint_iter2 (F : Nat) (x0 : List Int) {R : Type} (k : Out → Option R) : ∀ (n : Nat) (i1 : Int), iterS tt (slices_IsSorted_intint_tab F) (slices_IsSorted_intint_LS0 F) 70 (slices_IsSorted_intint_ls2 F) (loopAt 2 (bodyOf Try.f29)) n (slices_IsSorted_intint_st2 x0 i1) k = loopC (slices_IsSorted_intint_s2 F x0) n i1 (fun x => (slices_IsSorted_intint_o2 x0 x).run k)
  | 0, i1 => rfl
  | n + 1, i1 => (iterS_succ tt (slices_IsSorted_intint_tab F) (slices_IsSorted_intint_LS0 F) 70 (slices_IsSorted_intint_ls2 F) (loopAt 2 (bodyOf Try.f29)) n (slices_IsSorted_intint_st2 x0 i1) k).trans ((slices_IsSorted_intint_step2 F x0 i1 (nextK (iterS tt (slices_IsSorted_intint_tab F) (slices_IsSorted_intint_LS0 F) 70 (slices_IsSorted_intint_ls2 F) (loopAt 2 (bodyOf Try.f29)) n) k)).trans (congrArg (fun kn => slices_IsSorted_intint_s2 F x0 R i1 kn _) (funext (fun i1 => slices_IsSorted_intint_iter2 F x0 k n i1))))
theorem slices_IsSorted_intint_lok2 (F : Nat) : LoopOK Try.prog (loopAt 2 (bodyOf Try.f29)) (slices_IsSorted_intint_ls2 F) := by
  refine loopOK_of mixed ttok deep (slices_IsSorted_intint_tabok F) (loopsOK_at (slices_IsSorted_intint_lsok0 F) 2) (fuel := 70) fun R vals mem np killed k x h => ?_
  simp only [slices_IsSorted_intint_ls2] at h
  split at h
  · rename_i x0 i1
    simp only [GT.run] at h
    have hc := (cond_noneL h).1
    replace h := (cond_noneL h).2
    refine ⟨F, (slices_IsSorted_intint_iter2 F x0 k F i1).trans ((loopC_use (slices_IsSorted_intint_s2_nat F x0) hc _).trans h)⟩
  · simp only [GT.run] at h
    cases h
noncomputable def slices_IsSorted_intint_LS1 (F : Nat) : LT := (2, slices_IsSorted_intint_ls2 F) :: slices_IsSorted_intint_LS0 F
theorem slices_IsSorted_intint_lsok1 (F : Nat) : LoopsOK Try.prog (slices_IsSorted_intint_LS1 F) (bodyOf Try.f29) := loopsOK_cons slices_IsSorted_intint_keys (slices_IsSorted_intint_lok2 F) (slices_IsSorted_intint_lsok0 F)
theorem slices_IsSorted_intint_run (F : Nat) (x0 : List Int) : runS tt (slices_IsSorted_intint_tab F) (slices_IsSorted_intint_LS1 F) [] [] Try.f29 (bodyOf Try.f29) 70 [(.ri .i64 x0)] [] = slices_IsSorted_intint_c _ F x0 (fun r => some ⟨(.bool r), [], []⟩) := by kernel_rfl
def slices_IsSorted_intint_ent (F : Nat) : Ent := ⟨[], .quiet, fun args mem => match args, mem with
  | [(.ri .i64 x0)], [] => some ((slices_IsSorted_intint_p F x0).isSome, ⟨(.bool ((slices_IsSorted_intint_p F x0).getD default)), [], []⟩)
  | _, _ => none⟩
theorem slices_IsSorted_intint_fok : FunOK Try.prog 29 := funOK Try.func29 (by kernel_rfl) rfl
theorem slices_IsSorted_intint_meets (F : Nat) : Meets Try.prog 29 (slices_IsSorted_intint_ent F) := by
  refine meets_of_runS mixed ttok deep (slices_IsSorted_intint_tabok F) Try.func29 (body_some rfl) (slices_IsSorted_intint_lsok1 F) fun args mem hfit ret h => ?_
  clear hfit
  simp only [slices_IsSorted_intint_ent] at h
  split at h
  · rename_i x0
    simp only [Option.some.injEq, Prod.mk.injEq] at h
    obtain ⟨hc, rfl⟩ := h
    exact ⟨[], [], 70, _, (slices_IsSorted_intint_run F x0).trans ((slices_IsSorted_intint_cp _ F x0 _).trans (bind_use hc _)), rfl, rfl, rfl⟩
  · cases h

/-! loop.example/g01194/impl.SnakesOf -/
noncomputable def impl_SnakesOf_tab (F : Nat) : Tab := [(27, (impl_IsBoard_ent F)), (20, (impl_snake_ent F)), (28, (impl_Board_at_ent F)), (29, (slices_IsSorted_intint_ent F))]
theorem impl_SnakesOf_tabok (F : Nat) : TabOK Try.prog (impl_SnakesOf_tab F) := (tab_cons (impl_IsBoard_meets F) impl_IsBoard_fok (tab_cons (impl_snake_meets F) impl_snake_fok (tab_cons (impl_Board_at_meets F) impl_Board_at_fok (tab_cons (slices_IsSorted_intint_meets F) slices_IsSorted_intint_fok tab_nil))))
noncomputable def impl_SnakesOf_LS0 (F : Nat) : LT := []
theorem impl_SnakesOf_lsok0 (F : Nat) : LoopsOK Try.prog (impl_SnakesOf_LS0 F) (bodyOf Try.f10) := loopsOK_nil
theorem impl_SnakesOf_keys : keysOK (bodyOf Try.f10) = true := by kernel_rfl
def impl_SnakesOf_st9 (out4 : Nat) (k5 : Int) (t138 : Int) (t189 : List Int) (b11 : List Int) (out12 : List Int) (t1910 : Int) (list13 : List Int) : St := ⟨expand 39 0 [1, 4, 5, 6, 13, 18, 19] [(.ptr 0 0 0 16), (.sl 1 0 out4), (.int .i64 k5), (.sl 2 0 (List.length list13)), (.int .i64 t138), (.ints 32 t189), (.int .i64 t1910)], [(.var 16 (.ri .i64 b11)), (.vec 3 (.ri .i64 out12)), (.vec 3 (.ri .i64 list13))], 0, []⟩
def impl_SnakesOf_o9 (out4 : Nat) (k5 : Int) (t138 : Int) (t189 : List Int) (b11 : List Int) (out12 : List Int) (x : List Int) : GT := (.out (.exit 2 ⟨expand 39 0 [1, 4, 5, 6, 13] [(.ptr 0 0 0 16), (.sl 1 0 out4), (.int .i64 k5), (.sl 2 0 (List.length x)), (.int .i64 t138)], [(.var 16 (.ri .i64 b11)), (.vec 3 (.ri .i64 out12)), (.vec 3 (.ri .i64 x))], 0, []⟩))
def impl_SnakesOf_ls9 (F : Nat) : LoopS := ⟨39, [1, 4, 5, 6, 13, 18, 19], [], [1, 4, 5, 6, 13], [], [2, 3], [], [], fun vals mem np killed => match vals, mem, np, killed with
  | [(.ptr 0 0 0 16), (.sl 1 0 out4), (.int .i64 k5), (.sl 2 0 q_list7), (.int .i64 t138), (.ints 32 t189), (.int .i64 t1910)], [(.var 16 (.ri .i64 b11)), (.vec 3 (.ri .i64 out12)), (.vec 3 (.ri .i64 list13))], 0, [] => .br ((Nat.beq q_list7 (List.length list13)) && (impl_SnakesOf_l9 F out4 k5 t138 t189 b11 out12 t1910 list13).isSome) (impl_SnakesOf_o9 out4 k5 t138 t189 b11 out12 ((impl_SnakesOf_l9 F out4 k5 t138 t189 b11 out12 t1910 list13).getD default)) .fail
  | _, _, _, _ => .fail⟩
theorem impl_SnakesOf_step9 (F : Nat) (out4 : Nat) (k5 : Int) (t138 : Int) (t189 : List Int) (b11 : List Int) (out12 : List Int) (t1910 : Int) (list13 : List Int) {R : Type} (k : Out → Option R) : stepS tt (impl_SnakesOf_tab F) (impl_SnakesOf_LS0 F) 70 (impl_SnakesOf_ls9 F) (loopAt 9 (bodyOf Try.f10)) (impl_SnakesOf_st9 out4 k5 t138 t189 b11 out12 t1910 list13) k = impl_SnakesOf_s9 F out4 k5 t138 t189 b11 out12 R (t1910, list13) (fun s => k (.norm (impl_SnakesOf_st9 out4 k5 t138 t189 b11 out12 s.1 s.2))) (fun x => (impl_SnakesOf_o9 out4 k5 t138 t189 b11 out12 x).run k) := by kernel_rfl
theorem impl_SnakesOf_iter9 (F : Nat) (out4 : Nat) (k5 : Int) (t138 : Int) (t189 : List Int) (b11 : List Int) (out12 : List Int) {R : Type} (k : Out → Option R) : ∀ (n : Nat) (t1910 : Int) (list13 : List Int), iterS tt (impl_SnakesOf_tab F) (impl_SnakesOf_LS0 F) 70 (impl_SnakesOf_ls9 F) (loopAt 9 (bodyOf Try.f10)) n (impl_SnakesOf_st9 out4 k5 t138 t189 b11 out12 t1910 list13) k = loopC (impl_SnakesOf_s9 F out4 k5 t138 t189 b11 out12) n (t1910, list13) (fun x => (impl_SnakesOf_o9 out4 k5 t138 t189 b11 out12 x).run k)
  | 0, t1910, list13 => rfl
  | n + 1, t1910, list13 => (iterS_succ tt (impl_SnakesOf_tab F) (impl_SnakesOf_LS0 F) 70 (impl_SnakesOf_ls9 F) (loopAt 9 (bodyOf Try.f10)) n (impl_SnakesOf_st9 out4 k5 t138 t189 b11 out12 t1910 list13) k).trans ((impl_SnakesOf_step9 F out4 k5 t138 t189 b11 out12 t1910 list13 (nextK (iterS tt (impl_SnakesOf_tab F) (impl_SnakesOf_LS0 F) 70 (impl_SnakesOf_ls9 F) (loopAt 9 (bodyOf Try.f10)) n) k)).trans (congrArg (fun kn => impl_SnakesOf_s9 F out4 k5 t138 t189 b11 out12 R (t1910, list13) kn _) (funext (fun ⟨t1910, list13⟩ => impl_SnakesOf_iter9 F out4 k5 t138 t189 b11 out12 k n t1910 list13))))
theorem impl_SnakesOf_lok9 (F : Nat) : LoopOK Try.prog (loopAt 9 (bodyOf Try.f10)) (impl_SnakesOf_ls9 F) := by
  refine loopOK_of mixed ttok deep (impl_SnakesOf_tabok F) (loopsOK_at (impl_SnakesOf_lsok0 F) 9) (fuel := 70) fun R vals mem np killed k x h => ?_
  simp only [impl_SnakesOf_ls9] at h
  split at h
  · rename_i out4 k5 q_list7 t138 t189 t1910 b11 out12 list13
    simp only [GT.run] at h
    have hc := (cond_noneL h).1
    replace h := (cond_noneL h).2
    have hg := (and_split hc).1
    replace hc := (and_split hc).2
    obtain rfl := nbeq_nat hg
    refine ⟨F, (impl_SnakesOf_iter9 F out4 k5 t138 t189 b11 out12 k F t1910 list13).trans ((loopC_use (impl_SnakesOf_s9_nat F out4 k5 t138 t189 b11 out12) hc _).trans h)⟩
  · simp only [GT.run] at h
    cases h
noncomputable def impl_SnakesOf_LS1 (F : Nat) : LT := (9, impl_SnakesOf_ls9 F) :: impl_SnakesOf_LS0 F
theorem impl_SnakesOf_lsok1 (F : Nat) : LoopsOK Try.prog (impl_SnakesOf_LS1 F) (bodyOf Try.f10) := loopsOK_cons impl_SnakesOf_keys (impl_SnakesOf_lok9 F) (impl_SnakesOf_lsok0 F)
def impl_SnakesOf_st5 (b6 : List Int) (out4 : Nat) (t135 : Int) (out7 : List Int) : St := ⟨expand 39 0 [1, 4, 13] [(.ptr 0 0 0 16), (.sl 1 0 out4), (.int .i64 t135)], [(.var 16 (.ri .i64 b6)), (.vec 3 (.ri .i64 out7))], 0, []⟩
def impl_SnakesOf_o5 (b6 : List Int) (x : Nat × List Int) : GT := (.out (.exit 0 ⟨expand 39 0 [4] [(.sl 0 0 x.1)], [(.vec 3 (.ri .i64 x.2))], 0, []⟩))
def impl_SnakesOf_ls5 (F : Nat) : LoopS := ⟨39, [1, 4, 13], [], [4], [], [2, 3], [], [], fun vals mem np killed => match vals, mem, np, killed with
  | [(.ptr 0 0 0 16), (.sl 1 0 out4), (.int .i64 t135)], [(.var 16 (.ri .i64 b6)), (.vec 3 (.ri .i64 out7))], 0, [] => .br (impl_SnakesOf_l5 F b6 out4 t135 out7).isSome (impl_SnakesOf_o5 b6 ((impl_SnakesOf_l5 F b6 out4 t135 out7).getD default)) .fail
  | _, _, _, _ => .fail⟩
theorem impl_SnakesOf_step5 (F : Nat) (b6 : List Int) (out4 : Nat) (t135 : Int) (out7 : List Int) {R : Type} (k : Out → Option R) : stepS tt (impl_SnakesOf_tab F) (impl_SnakesOf_LS1 F) 70 (impl_SnakesOf_ls5 F) (loopAt 5 (bodyOf Try.f10)) (impl_SnakesOf_st5 b6 out4 t135 out7) k = impl_SnakesOf_s5 F b6 R (out4, t135, out7) (fun s => k (.norm (impl_SnakesOf_st5 b6 s.1 s.2.1 s.2.2))) (fun x => (impl_SnakesOf_o5 b6 x).run k) := by kernel_rfl
theorem impl_SnakesOf_iter5 (F : Nat) (b6 : List Int) {R : Type} (k : Out → Option R) : ∀ (n : Nat) (out4 : Nat) (t135 : Int) (out7 : List Int), iterS tt (impl_SnakesOf_tab F) (impl_SnakesOf_LS1 F) 70 (impl_SnakesOf_ls5 F) (loopAt 5 (bodyOf Try.f10)) n (impl_SnakesOf_st5 b6 out4 t135 out7) k = loopC (impl_SnakesOf_s5 F b6) n (out4, t135, out7) (fun x => (impl_SnakesOf_o5 b6 x).run k)
  | 0, out4, t135, out7 => rfl
  | n + 1, out4, t135, out7 => (iterS_succ tt (impl_SnakesOf_tab F) (impl_SnakesOf_LS1 F) 70 (impl_SnakesOf_ls5 F) (loopAt 5 (bodyOf Try.f10)) n (impl_SnakesOf_st5 b6 out4 t135 out7) k).trans ((impl_SnakesOf_step5 F b6 out4 t135 out7 (nextK (iterS tt (impl_SnakesOf_tab F) (impl_SnakesOf_LS1 F) 70 (impl_SnakesOf_ls5 F) (loopAt 5 (bodyOf Try.f10)) n) k)).trans (congrArg (fun kn => impl_SnakesOf_s5 F b6 R (out4, t135, out7) kn _) (funext (fun ⟨out4, t135, out7⟩ => impl_SnakesOf_iter5 F b6 k n out4 t135 out7))))
theorem impl_SnakesOf_lok5 (F : Nat) : LoopOK Try.prog (loopAt 5 (bodyOf Try.f10)) (impl_SnakesOf_ls5 F) := by
  refine loopOK_of mixed ttok deep (impl_SnakesOf_tabok F) (loopsOK_at (impl_SnakesOf_lsok1 F) 5) (fuel := 70) fun R vals mem np killed k x h => ?_
  simp only [impl_SnakesOf_ls5] at h
  split at h
  · rename_i out4 t135 b6 out7
    simp only [GT.run] at h
    have hc := (cond_noneL h).1
    replace h := (cond_noneL h).2
    refine ⟨F, (impl_SnakesOf_iter5 F b6 k F out4 t135 out7).trans ((loopC_use (impl_SnakesOf_s5_nat F b6) hc _).trans h)⟩
  · simp only [GT.run] at h
    cases h
noncomputable def impl_SnakesOf_LS2 (F : Nat) : LT := (5, impl_SnakesOf_ls5 F) :: impl_SnakesOf_LS1 F
theorem impl_SnakesOf_lsok2 (F : Nat) : LoopsOK Try.prog (impl_SnakesOf_LS2 F) (bodyOf Try.f10) := loopsOK_cons impl_SnakesOf_keys (impl_SnakesOf_lok5 F) (impl_SnakesOf_lsok1 F)
theorem impl_SnakesOf_run (F : Nat) (b0 : List Int) : runS tt (impl_SnakesOf_tab F) (impl_SnakesOf_LS2 F) [⟨2, 3, (.ri .i64 ([] : List Int))⟩] [] Try.f10 (bodyOf Try.f10) 70 [(.ints 16 b0)] [] = impl_SnakesOf_c _ F b0 (fun r => some ⟨(.tup [(.sl 0 0 r.1), (.bool r.2.1)]), [(.vec 3 (.ri .i64 r.2.2))], []⟩) := by kernel_rfl
def impl_SnakesOf_ent (F : Nat) : Ent := ⟨[], .fresh, fun args mem => match args, mem with
  | [(.ints 16 b0)], [] => some ((impl_SnakesOf_p F b0).isSome, ⟨(.tup [(.sl 0 0 ((impl_SnakesOf_p F b0).getD default).1), (.bool ((impl_SnakesOf_p F b0).getD default).2.1)]), [(.vec 3 (.ri .i64 ((impl_SnakesOf_p F b0).getD default).2.2))], []⟩)
  | _, _ => none⟩
theorem impl_SnakesOf_fok : FunOK Try.prog 10 := funOK Try.func10 (by kernel_rfl) rfl
theorem impl_SnakesOf_meets (F : Nat) : Meets Try.prog 10 (impl_SnakesOf_ent F) := by
  refine meets_of_runS mixed ttok deep (impl_SnakesOf_tabok F) Try.func10 (body_some rfl) (impl_SnakesOf_lsok2 F) fun args mem hfit ret h => ?_
  clear hfit
  simp only [impl_SnakesOf_ent] at h
  split at h
  · rename_i b0
    simp only [Option.some.injEq, Prod.mk.injEq] at h
    obtain ⟨hc, rfl⟩ := h
    exact ⟨[⟨2, 3, (.ri .i64 ([] : List Int))⟩], [], 70, _, (impl_SnakesOf_run F b0).trans ((impl_SnakesOf_cp _ F b0 _).trans (bind_use hc _)), rfl, rfl, rfl⟩
  · cases h

/-! loop.example/g01194/spec.l2At -/
noncomputable def spec_l2At_tab (F : Nat) : Tab := []
theorem spec_l2At_tabok (F : Nat) : TabOK Try.prog (spec_l2At_tab F) := tab_nil
noncomputable def spec_l2At_LS0 (F : Nat) : LT := []
theorem spec_l2At_lsok0 (F : Nat) : LoopsOK Try.prog (spec_l2At_LS0 F) (bodyOf Try.f47) := loopsOK_nil
theorem spec_l2At_run (F : Nat) (b0 : List Int) (cell1 : List Int) : runS tt (spec_l2At_tab F) (spec_l2At_LS0 F) [] [] Try.f47 (bodyOf Try.f47) 70 [(.ints 16 b0), (.ints 2 cell1)] [] = spec_l2At_c _ b0 cell1 (fun r => some ⟨(.int .i64 r), [], []⟩) := by kernel_rfl
def spec_l2At_ent (F : Nat) : Ent := ⟨[], .quiet, fun args mem => match args, mem with
  | [(.ints 16 b0), (.ints 2 cell1)], [] => some ((spec_l2At_p b0 cell1).isSome, ⟨(.int .i64 ((spec_l2At_p b0 cell1).getD default)), [], []⟩)
  | _, _ => none⟩
theorem spec_l2At_fok : FunOK Try.prog 47 := funOK Try.func47 (by kernel_rfl) rfl
theorem spec_l2At_meets (F : Nat) : Meets Try.prog 47 (spec_l2At_ent F) := by
  refine meets_of_runS mixed ttok deep (spec_l2At_tabok F) Try.func47 (body_some rfl) (spec_l2At_lsok0 F) fun args mem hfit ret h => ?_
  clear hfit
  simp only [spec_l2At_ent] at h
  split at h
  · rename_i b0 cell1
    simp only [Option.some.injEq, Prod.mk.injEq] at h
    obtain ⟨hc, rfl⟩ := h
    exact ⟨[], [], 70, _, (spec_l2At_run F b0 cell1).trans ((spec_l2At_cp _ b0 cell1 _).trans (bind_use hc _)), rfl, rfl, rfl⟩
  · cases h

/-! loop.example/g01194/spec.l7Ordered -/
noncomputable def spec_l7Ordered_tab (F : Nat) : Tab := [(22, (spec_l7Snake_ent F)), (47, (spec_l2At_ent F))]
theorem spec_l7Ordered_tabok (F : Nat) : TabOK Try.prog (spec_l7Ordered_tab F) := (tab_cons (spec_l7Snake_meets F) spec_l7Snake_fok (tab_cons (spec_l2At_meets F) spec_l2At_fok tab_nil))
noncomputable def spec_l7Ordered_LS0 (F : Nat) : LT := []
theorem spec_l7Ordered_lsok0 (F : Nat) : LoopsOK Try.prog (spec_l7Ordered_LS0 F) (bodyOf Try.f31) := loopsOK_nil
theorem spec_l7Ordered_keys : keysOK (bodyOf Try.f31) = true := by kernel_rfl
def spec_l7Ordered_st3 (b7 : List Int) (path8 : List Int) (i6 : Int) : St := ⟨expand 25 0 [2, 5, 6] [(.ptr 0 0 0 16), (.ptr 1 0 0 32), (.int .i64 i6)], [(.var 16 (.ri .i64 b7)), (.var 32 (.ri .i64 path8))], 0, []⟩
def spec_l7Ordered_o3 (b7 : List Int) (path8 : List Int) (x : Bool) : GT := (.br x (.out (.ret ⟨expand 25 0 [4] [(.bool false)], [], 0, []⟩)) (.out (.exit 0 ⟨expand 25 0 [] [], [], 0, []⟩)))
def spec_l7Ordered_ls3 (F : Nat) : LoopS := ⟨25, [2, 5, 6], [], [], [], [4], [], [], fun vals mem np killed => match vals, mem, np, killed with
  | [(.ptr 0 0 0 16), (.ptr 1 0 0 32), (.int .i64 i6)], [(.var 16 (.ri .i64 b7)), (.var 32 (.ri .i64 path8))], 0, [] => .br (spec_l7Ordered_l3 F b7 path8 i6).isSome (spec_l7Ordered_o3 b7 path8 ((spec_l7Ordered_l3 F b7 path8 i6).getD default)) .fail
  | _, _, _, _ => .fail⟩
theorem spec_l7Ordered_step3 (F : Nat) (b7 : List Int) (path8 : List Int) (i6 : Int) {R : Type} (k : Out → Option R) : stepS tt (spec_l7Ordered_tab F) (spec_l7Ordered_LS0 F) 70 (spec_l7Ordered_ls3 F) (loopAt 3 (bodyOf Try.f31)) (spec_l7Ordered_st3 b7 path8 i6) k = spec_l7Ordered_s3 F b7 path8 R i6 (fun s => k (.norm (spec_l7Ordered_st3 b7 path8 s))) (fun x => (spec_l7Ordered_o3 b7 path8 x).run k) := by kernel_rfl
theorem spec_l7Ordered_iter3 (F : Nat) (b7 : List Int) (path8 : List Int) {R : Type} (k : Out → Option R) : ∀ (n : Nat) (i6 : Int), iterS tt (spec_l7Ordered_tab F) (spec_l7Ordered_LS0 F) 70 (spec_l7Ordered_ls3 F) (loopAt 3 (bodyOf Try.f31)) n (spec_l7Ordered_st3 b7 path8 i6) k = loopC (spec_l7Ordered_s3 F b7 path8) n i6 (fun x => (spec_l7Ordered_o3 b7 path8 x).run k)
  | 0, i6 => rfl
  | n + 1, i6 => (iterS_succ tt (spec_l7Ordered_tab F) (spec_l7Ordered_LS0 F) 70 (spec_l7Ordered_ls3 F) (loopAt 3 (bodyOf Try.f31)) n (spec_l7Ordered_st3 b7 path8 i6) k).trans ((spec_l7Ordered_step3 F b7 path8 i6 (nextK (iterS tt (spec_l7Ordered_tab F) (spec_l7Ordered_LS0 F) 70 (spec_l7Ordered_ls3 F) (loopAt 3 (bodyOf Try.f31)) n) k)).trans (congrArg (fun kn => spec_l7Ordered_s3 F b7 path8 R i6 kn _) (funext (fun i6 => spec_l7Ordered_iter3 F b7 path8 k n i6))))
theorem spec_l7Ordered_lok3 (F : Nat) : LoopOK Try.prog (loopAt 3 (bodyOf Try.f31)) (spec_l7Ordered_ls3 F) := by
  refine loopOK_of mixed ttok deep (spec_l7Ordered_tabok F) (loopsOK_at (spec_l7Ordered_lsok0 F) 3) (fuel := 70) fun R vals mem np killed k x h => ?_
  simp only [spec_l7Ordered_ls3] at h
  split at h
  · rename_i i6 b7 path8
    simp only [GT.run] at h
    have hc := (cond_noneL h).1
    replace h := (cond_noneL h).2
    refine ⟨F, (spec_l7Ordered_iter3 F b7 path8 k F i6).trans ((loopC_use (spec_l7Ordered_s3_nat F b7 path8) hc _).trans h)⟩
  · simp only [GT.run] at h
    cases h
noncomputable def spec_l7Ordered_LS1 (F : Nat) : LT := (3, spec_l7Ordered_ls3 F) :: spec_l7Ordered_LS0 F
theorem spec_l7Ordered_lsok1 (F : Nat) : LoopsOK Try.prog (spec_l7Ordered_LS1 F) (bodyOf Try.f31) := loopsOK_cons spec_l7Ordered_keys (spec_l7Ordered_lok3 F) (spec_l7Ordered_lsok0 F)
theorem spec_l7Ordered_run (F : Nat) (b0 : List Int) (k1 : Int) : runS tt (spec_l7Ordered_tab F) (spec_l7Ordered_LS1 F) [] [] Try.f31 (bodyOf Try.f31) 70 [(.ints 16 b0), (.int .i64 k1)] [] = spec_l7Ordered_c _ F b0 k1 (fun r => some ⟨(.bool r), [], []⟩) := by kernel_rfl
def spec_l7Ordered_ent (F : Nat) : Ent := ⟨[], .quiet, fun args mem => match args, mem with
  | [(.ints 16 b0), (.int .i64 k1)], [] => some ((spec_l7Ordered_p F b0 k1).isSome, ⟨(.bool ((spec_l7Ordered_p F b0 k1).getD default)), [], []⟩)
  | _, _ => none⟩
theorem spec_l7Ordered_fok : FunOK Try.prog 31 := funOK Try.func31 (by kernel_rfl) rfl
theorem spec_l7Ordered_meets (F : Nat) : Meets Try.prog 31 (spec_l7Ordered_ent F) := by
  refine meets_of_runS mixed ttok deep (spec_l7Ordered_tabok F) Try.func31 (body_some rfl) (spec_l7Ordered_lsok1 F) fun args mem hfit ret h => ?_
  clear hfit
  simp only [spec_l7Ordered_ent] at h
  split at h
  · rename_i b0 k1
    simp only [Option.some.injEq, Prod.mk.injEq] at h
    obtain ⟨hc, rfl⟩ := h
    exact ⟨[], [], 70, _, (spec_l7Ordered_run F b0 k1).trans ((spec_l7Ordered_cp _ F b0 k1 _).trans (bind_use hc _)), rfl, rfl, rfl⟩
  · cases h

/-! loop.example/g01194/spec.SnakesOf -/
noncomputable def spec_SnakesOf_tab (F : Nat) : Tab := [(30, (spec_l2Board_ent F)), (31, (spec_l7Ordered_ent F))]
theorem spec_SnakesOf_tabok (F : Nat) : TabOK Try.prog (spec_SnakesOf_tab F) := (tab_cons (spec_l2Board_meets F) spec_l2Board_fok (tab_cons (spec_l7Ordered_meets F) spec_l7Ordered_fok tab_nil))
noncomputable def spec_SnakesOf_LS0 (F : Nat) : LT := []
theorem spec_SnakesOf_lsok0 (F : Nat) : LoopsOK Try.prog (spec_SnakesOf_LS0 F) (bodyOf Try.f11) := loopsOK_nil
theorem spec_SnakesOf_keys : keysOK (bodyOf Try.f11) = true := by kernel_rfl
def spec_SnakesOf_st5 (b6 : List Int) (k5 : Int) (out7 : List Int) : St := ⟨expand 23 0 [1, 4, 5] [(.ptr 0 0 0 16), (.sl 1 0 (List.length out7)), (.int .i64 k5)], [(.var 16 (.ri .i64 b6)), (.vec 3 (.ri .i64 out7))], 0, []⟩
def spec_SnakesOf_o5 (b6 : List Int) (x : List Int) : GT := (.out (.exit 0 ⟨expand 23 0 [4] [(.sl 0 0 (List.length x))], [(.vec 3 (.ri .i64 x))], 0, []⟩))
def spec_SnakesOf_ls5 (F : Nat) : LoopS := ⟨23, [1, 4, 5], [], [4], [], [2, 3], [], [], fun vals mem np killed => match vals, mem, np, killed with
  | [(.ptr 0 0 0 16), (.sl 1 0 q_out4), (.int .i64 k5)], [(.var 16 (.ri .i64 b6)), (.vec 3 (.ri .i64 out7))], 0, [] => .br ((Nat.beq q_out4 (List.length out7)) && (spec_SnakesOf_l5 F b6 k5 out7).isSome) (spec_SnakesOf_o5 b6 ((spec_SnakesOf_l5 F b6 k5 out7).getD default)) .fail
  | _, _, _, _ => .fail⟩
theorem spec_SnakesOf_step5 (F : Nat) (b6 : List Int) (k5 : Int) (out7 : List Int) {R : Type} (k : Out → Option R) : stepS tt (spec_SnakesOf_tab F) (spec_SnakesOf_LS0 F) 70 (spec_SnakesOf_ls5 F) (loopAt 5 (bodyOf Try.f11)) (spec_SnakesOf_st5 b6 k5 out7) k = spec_SnakesOf_s5 F b6 R (k5, out7) (fun s => k (.norm (spec_SnakesOf_st5 b6 s.1 s.2))) (fun x => (spec_SnakesOf_o5 b6 x).run k) := by kernel_rfl
theorem spec_SnakesOf_iter5 (F : Nat) (b6 : List Int) {R : Type} (k : Out → Option R) : ∀ (n : Nat) (k5 : Int) (out7 : List Int), iterS tt (spec_SnakesOf_tab F) (spec_SnakesOf_LS0 F) 70 (spec_SnakesOf_ls5 F) (loopAt 5 (bodyOf Try.f11)) n (spec_SnakesOf_st5 b6 k5 out7) k = loopC (spec_SnakesOf_s5 F b6) n (k5, out7) (fun x => (spec_SnakesOf_o5 b6 x).run k)
  | 0, k5, out7 => rfl
  | n + 1, k5, out7 => (iterS_succ tt (spec_SnakesOf_tab F) (spec_SnakesOf_LS0 F) 70 (spec_SnakesOf_ls5 F) (loopAt 5 (bodyOf Try.f11)) n (spec_SnakesOf_st5 b6 k5 out7) k).trans ((spec_SnakesOf_step5 F b6 k5 out7 (nextK (iterS tt (spec_SnakesOf_tab F) (spec_SnakesOf_LS0 F) 70 (spec_SnakesOf_ls5 F) (loopAt 5 (bodyOf Try.f11)) n) k)).trans (congrArg (fun kn => spec_SnakesOf_s5 F b6 R (k5, out7) kn _) (funext (fun ⟨k5, out7⟩ => spec_SnakesOf_iter5 F b6 k n k5 out7))))
theorem spec_SnakesOf_lok5 (F : Nat) : LoopOK Try.prog (loopAt 5 (bodyOf Try.f11)) (spec_SnakesOf_ls5 F) := by
  refine loopOK_of mixed ttok deep (spec_SnakesOf_tabok F) (loopsOK_at (spec_SnakesOf_lsok0 F) 5) (fuel := 70) fun R vals mem np killed k x h => ?_
  simp only [spec_SnakesOf_ls5] at h
  split at h
  · rename_i q_out4 k5 b6 out7
    simp only [GT.run] at h
    have hc := (cond_noneL h).1
    replace h := (cond_noneL h).2
    have hg := (and_split hc).1
    replace hc := (and_split hc).2
    obtain rfl := nbeq_nat hg
    refine ⟨F, (spec_SnakesOf_iter5 F b6 k F k5 out7).trans ((loopC_use (spec_SnakesOf_s5_nat F b6) hc _).trans h)⟩
  · simp only [GT.run] at h
    cases h
noncomputable def spec_SnakesOf_LS1 (F : Nat) : LT := (5, spec_SnakesOf_ls5 F) :: spec_SnakesOf_LS0 F
theorem spec_SnakesOf_lsok1 (F : Nat) : LoopsOK Try.prog (spec_SnakesOf_LS1 F) (bodyOf Try.f11) := loopsOK_cons spec_SnakesOf_keys (spec_SnakesOf_lok5 F) (spec_SnakesOf_lsok0 F)
theorem spec_SnakesOf_run (F : Nat) (b0 : List Int) : runS tt (spec_SnakesOf_tab F) (spec_SnakesOf_LS1 F) [] [] Try.f11 (bodyOf Try.f11) 70 [(.ints 16 b0)] [] = spec_SnakesOf_c _ F b0 (fun r => some ⟨(.tup [(.sl 0 0 (List.length r.2)), (.bool r.1)]), [(.vec 3 (.ri .i64 r.2))], []⟩) := by kernel_rfl
def spec_SnakesOf_ent (F : Nat) : Ent := ⟨[], .fresh, fun args mem => match args, mem with
  | [(.ints 16 b0)], [] => some ((spec_SnakesOf_p F b0).isSome, ⟨(.tup [(.sl 0 0 (List.length ((spec_SnakesOf_p F b0).getD default).2)), (.bool ((spec_SnakesOf_p F b0).getD default).1)]), [(.vec 3 (.ri .i64 ((spec_SnakesOf_p F b0).getD default).2))], []⟩)
  | _, _ => none⟩
theorem spec_SnakesOf_fok : FunOK Try.prog 11 := funOK Try.func11 (by kernel_rfl) rfl
theorem spec_SnakesOf_meets (F : Nat) : Meets Try.prog 11 (spec_SnakesOf_ent F) := by
  refine meets_of_runS mixed ttok deep (spec_SnakesOf_tabok F) Try.func11 (body_some rfl) (spec_SnakesOf_lsok1 F) fun args mem hfit ret h => ?_
  clear hfit
  simp only [spec_SnakesOf_ent] at h
  split at h
  · rename_i b0
    simp only [Option.some.injEq, Prod.mk.injEq] at h
    obtain ⟨hc, rfl⟩ := h
    exact ⟨[], [], 70, _, (spec_SnakesOf_run F b0).trans ((spec_SnakesOf_cp _ F b0 _).trans (bind_use hc _)), rfl, rfl, rfl⟩
  · cases h

/-! loop.example/g01194/spec.DrawSnakeBoard -/
noncomputable def spec_DrawSnakeBoard_tab (F : Nat) : Tab := [(23, (spec_l1Cur_board_ent F)), (18, (spec_l1Cur_form3_ent F))]
theorem spec_DrawSnakeBoard_tabok (F : Nat) : TabOK Try.prog (spec_DrawSnakeBoard_tab F) := (tab_cons (spec_l1Cur_board_meets F) spec_l1Cur_board_fok (tab_cons (spec_l1Cur_form3_meets F) spec_l1Cur_form3_fok tab_nil))
noncomputable def spec_DrawSnakeBoard_LS0 (F : Nat) : LT := []
theorem spec_DrawSnakeBoard_lsok0 (F : Nat) : LoopsOK Try.prog (spec_DrawSnakeBoard_LS0 F) (bodyOf Try.f12) := loopsOK_nil
theorem spec_DrawSnakeBoard_run (F : Nat) (code0 : List Int) : runS tt (spec_DrawSnakeBoard_tab F) (spec_DrawSnakeBoard_LS0 F) [] [] Try.f12 (bodyOf Try.f12) 70 [(.ri .u8 code0)] [] = spec_DrawSnakeBoard_c _ F code0 (fun r => some ⟨(.tup [(.ints 16 r.1), (.int .i64 r.2)]), [], []⟩) := by kernel_rfl
def spec_DrawSnakeBoard_ent (F : Nat) : Ent := ⟨[], .quiet, fun args mem => match args, mem with
  | [(.ri .u8 code0)], [] => some ((spec_DrawSnakeBoard_p F code0).isSome, ⟨(.tup [(.ints 16 ((spec_DrawSnakeBoard_p F code0).getD default).1), (.int .i64 ((spec_DrawSnakeBoard_p F code0).getD default).2)]), [], []⟩)
  | _, _ => none⟩
theorem spec_DrawSnakeBoard_fok : FunOK Try.prog 12 := funOK Try.func12 (by kernel_rfl) rfl
theorem spec_DrawSnakeBoard_meets (F : Nat) : Meets Try.prog 12 (spec_DrawSnakeBoard_ent F) := by
  refine meets_of_runS mixed ttok deep (spec_DrawSnakeBoard_tabok F) Try.func12 (body_some rfl) (spec_DrawSnakeBoard_lsok0 F) fun args mem hfit ret h => ?_
  clear hfit
  simp only [spec_DrawSnakeBoard_ent] at h
  split at h
  · rename_i code0
    simp only [Option.some.injEq, Prod.mk.injEq] at h
    obtain ⟨hc, rfl⟩ := h
    exact ⟨[], [], 70, _, (spec_DrawSnakeBoard_run F code0).trans ((spec_DrawSnakeBoard_cp _ F code0 _).trans (bind_use hc _)), rfl, rfl, rfl⟩
  · cases h

/-! slices.Grow[[]int,int] -/
noncomputable def slices_Grow_intint_tab (F : Nat) : Tab := []
theorem slices_Grow_intint_tabok (F : Nat) : TabOK Try.prog (slices_Grow_intint_tab F) := tab_nil
noncomputable def slices_Grow_intint_LS0 (F : Nat) : LT := []
theorem slices_Grow_intint_lsok0 (F : Nat) : LoopsOK Try.prog (slices_Grow_intint_LS0 F) (bodyOf Try.f57) := loopsOK_nil
theorem slices_Grow_intint_run (F : Nat) (n0 : Int) : runS tt (slices_Grow_intint_tab F) (slices_Grow_intint_LS0 F) [⟨4, 3, (.ri .i64 ([] : List Int))⟩] [] Try.f57 (bodyOf Try.f57) 70 [.z0, (.int .i64 n0)] [] = slices_Grow_intint_c _ n0 (fun r => some ⟨(.sl 0 0 0), [(.vec 3 (.ri .i64 r))], []⟩) := by kernel_rfl
def slices_Grow_intint_ent (F : Nat) : Ent := ⟨[true], .fresh, fun args mem => match args, mem with
  | [.z0, (.int .i64 n0)], [] => some ((slices_Grow_intint_p n0).isSome, ⟨(.sl 0 0 0), [(.vec 3 (.ri .i64 ((slices_Grow_intint_p n0).getD default)))], []⟩)
  | _, _ => none⟩
theorem slices_Grow_intint_fok : FunOK Try.prog 57 := funOK Try.func57 (by kernel_rfl) rfl
theorem slices_Grow_intint_meets (F : Nat) : Meets Try.prog 57 (slices_Grow_intint_ent F) := by
  refine meets_of_runS mixed ttok deep (slices_Grow_intint_tabok F) Try.func57 (body_some rfl) (slices_Grow_intint_lsok0 F) fun args mem hfit ret h => ?_
  clear hfit
  simp only [slices_Grow_intint_ent] at h
  split at h
  · rename_i n0
    simp only [Option.some.injEq, Prod.mk.injEq] at h
    obtain ⟨hc, rfl⟩ := h
    exact ⟨[⟨4, 3, (.ri .i64 ([] : List Int))⟩], [], 70, _, (slices_Grow_intint_run F n0).trans ((slices_Grow_intint_cp _ n0 _).trans (bind_use hc _)), rfl, rfl, rfl⟩
  · cases h

/-! slices.Concat[[]int,int] -/
noncomputable def slices_Concat_intint_tab (F : Nat) : Tab := [(57, (slices_Grow_intint_ent F))]
theorem slices_Concat_intint_tabok (F : Nat) : TabOK Try.prog (slices_Concat_intint_tab F) := (tab_cons (slices_Grow_intint_meets F) slices_Grow_intint_fok tab_nil)
noncomputable def slices_Concat_intint_LS0 (F : Nat) : LT := []
theorem slices_Concat_intint_lsok0 (F : Nat) : LoopsOK Try.prog (slices_Concat_intint_LS0 F) (bodyOf Try.f48) := loopsOK_nil
theorem slices_Concat_intint_run (F : Nat) (slices0 : List Int) (slices1 : List Int) (slices2 : List Int) (slices3 : List Int) : runS tt (slices_Concat_intint_tab F) (slices_Concat_intint_LS0 F) [] [] Try.f48 (bodyOf Try.f48) 70 [(.rv [(.ri .i64 slices0), (.ri .i64 slices1), (.ri .i64 slices2), (.ri .i64 slices3)])] [] = slices_Concat_intint_c _ slices0 slices1 slices2 slices3 (fun r => some ⟨(.sl 0 0 (List.length r)), [(.vec 3 (.ri .i64 r))], []⟩) := by kernel_rfl
def slices_Concat_intint_ent (F : Nat) : Ent := ⟨[], .fresh, fun args mem => match args, mem with
  | [(.rv [(.ri .i64 slices0), (.ri .i64 slices1), (.ri .i64 slices2), (.ri .i64 slices3)])], [] => some ((slices_Concat_intint_p slices0 slices1 slices2 slices3).isSome, ⟨(.sl 0 0 (List.length ((slices_Concat_intint_p slices0 slices1 slices2 slices3).getD default))), [(.vec 3 (.ri .i64 ((slices_Concat_intint_p slices0 slices1 slices2 slices3).getD default)))], []⟩)
  | _, _ => none⟩
theorem slices_Concat_intint_fok : FunOK Try.prog 48 := funOK Try.func48 (by kernel_rfl) rfl
theorem slices_Concat_intint_meets (F : Nat) : Meets Try.prog 48 (slices_Concat_intint_ent F) := by
  refine meets_of_runS mixed ttok deep (slices_Concat_intint_tabok F) Try.func48 (body_some rfl) (slices_Concat_intint_lsok0 F) fun args mem hfit ret h => ?_
  clear hfit
  simp only [slices_Concat_intint_ent] at h
  split at h
  · rename_i slices0 slices1 slices2 slices3
    simp only [Option.some.injEq, Prod.mk.injEq] at h
    obtain ⟨hc, rfl⟩ := h
    exact ⟨[], [], 70, _, (slices_Concat_intint_run F slices0 slices1 slices2 slices3).trans ((slices_Concat_intint_cp _ slices0 slices1 slices2 slices3 _).trans (bind_use hc _)), rfl, rfl, rfl⟩
  · cases h

/-! (loop.example/g01194/impl.Board).flat -/
noncomputable def impl_Board_flat_tab (F : Nat) : Tab := [(48, (slices_Concat_intint_ent F))]
theorem impl_Board_flat_tabok (F : Nat) : TabOK Try.prog (impl_Board_flat_tab F) := (tab_cons (slices_Concat_intint_meets F) slices_Concat_intint_fok tab_nil)
noncomputable def impl_Board_flat_LS0 (F : Nat) : LT := []
theorem impl_Board_flat_lsok0 (F : Nat) : LoopsOK Try.prog (impl_Board_flat_LS0 F) (bodyOf Try.f32) := loopsOK_nil
theorem impl_Board_flat_run (F : Nat) (b0 : List Int) : runS tt (impl_Board_flat_tab F) (impl_Board_flat_LS0 F) [] [] Try.f32 (bodyOf Try.f32) 70 [(.ints 16 b0)] [] = impl_Board_flat_c _ b0 (fun r => some ⟨(.sl 0 0 (List.length r)), [(.vec 3 (.ri .i64 r))], []⟩) := by kernel_rfl
def impl_Board_flat_ent (F : Nat) : Ent := ⟨[], .fresh, fun args mem => match args, mem with
  | [(.ints 16 b0)], [] => some ((impl_Board_flat_p b0).isSome, ⟨(.sl 0 0 (List.length ((impl_Board_flat_p b0).getD default))), [(.vec 3 (.ri .i64 ((impl_Board_flat_p b0).getD default)))], []⟩)
  | _, _ => none⟩
theorem impl_Board_flat_fok : FunOK Try.prog 32 := funOK Try.func32 (by kernel_rfl) rfl
theorem impl_Board_flat_meets (F : Nat) : Meets Try.prog 32 (impl_Board_flat_ent F) := by
  refine meets_of_runS mixed ttok deep (impl_Board_flat_tabok F) Try.func32 (body_some rfl) (impl_Board_flat_lsok0 F) fun args mem hfit ret h => ?_
  clear hfit
  simp only [impl_Board_flat_ent] at h
  split at h
  · rename_i b0
    simp only [Option.some.injEq, Prod.mk.injEq] at h
    obtain ⟨hc, rfl⟩ := h
    exact ⟨[], [], 70, _, (impl_Board_flat_run F b0).trans ((impl_Board_flat_cp _ b0 _).trans (bind_use hc _)), rfl, rfl, rfl⟩
  · cases h

/-! slices.Sort[[]int,int] -/
def slices_Sort_intint_ent (F : Nat) : Ent := sortIEnt 3 F
theorem slices_Sort_intint_fok : FunOK Try.prog 33 := funOK Try.func33 (by kernel_rfl) rfl
theorem slices_Sort_intint_meets (F : Nat) : Meets Try.prog 33 (slices_Sort_intint_ent F) := meets_sortI Try.sort33 3 F

/-! loop.example/g01194/impl.SnakeBoard -/
noncomputable def impl_SnakeBoard_tab (F : Nat) : Tab := [(27, (impl_IsBoard_ent F)), (19, (impl_isForm_ent F)), (32, (impl_Board_flat_ent F)), (33, (slices_Sort_intint_ent F)), (20, (impl_snake_ent F)), (28, (impl_Board_at_ent F))]
theorem impl_SnakeBoard_tabok (F : Nat) : TabOK Try.prog (impl_SnakeBoard_tab F) := (tab_cons (impl_IsBoard_meets F) impl_IsBoard_fok (tab_cons (impl_isForm_meets F) impl_isForm_fok (tab_cons (impl_Board_flat_meets F) impl_Board_flat_fok (tab_cons (slices_Sort_intint_meets F) slices_Sort_intint_fok (tab_cons (impl_snake_meets F) impl_snake_fok (tab_cons (impl_Board_at_meets F) impl_Board_at_fok tab_nil))))))
noncomputable def impl_SnakeBoard_LS0 (F : Nat) : LT := []
theorem impl_SnakeBoard_lsok0 (F : Nat) : LoopsOK Try.prog (impl_SnakeBoard_LS0 F) (bodyOf Try.f13) := loopsOK_nil
theorem impl_SnakeBoard_keys : keysOK (bodyOf Try.f13) = true := by kernel_rfl
def impl_SnakeBoard_st7 (list4 : Nat) (t258 : List Int) (list11 : List Int) (t269 : Int) (out12 : List Int) : St := ⟨expand 40 0 [4, 6, 7, 25, 26] [(.ptr 0 0 0 16), (.sl 1 0 list4), (.ptr 2 0 0 16), (.ints 32 t258), (.int .i64 t269)], [(.var 16 (.ri .i64 [(0 : Int), (0 : Int), (0 : Int), (0 : Int), (0 : Int), (0 : Int), (0 : Int), (0 : Int), (0 : Int), (0 : Int), (0 : Int), (0 : Int), (0 : Int), (0 : Int), (0 : Int), (0 : Int)])), (.vec 3 (.ri .i64 list11)), (.var 16 (.ri .i64 out12))], 0, []⟩
def impl_SnakeBoard_o7 (list4 : Nat) (t258 : List Int) (list11 : List Int) (x : List Int) : GT := (.out (.exit 0 ⟨expand 40 0 [4, 7] [(.ptr 0 0 0 16), (.ptr 1 0 0 16)], [(.var 16 (.ri .i64 [(0 : Int), (0 : Int), (0 : Int), (0 : Int), (0 : Int), (0 : Int), (0 : Int), (0 : Int), (0 : Int), (0 : Int), (0 : Int), (0 : Int), (0 : Int), (0 : Int), (0 : Int), (0 : Int)])), (.var 16 (.ri .i64 x))], 0, []⟩))
def impl_SnakeBoard_ls7 (F : Nat) : LoopS := ⟨40, [4, 6, 7, 25, 26], [], [4, 7], [], [4, 5], [], [], fun vals mem np killed => match vals, mem, np, killed with
  | [(.ptr 0 0 0 16), (.sl 1 0 list4), (.ptr 2 0 0 16), (.ints 32 t258), (.int .i64 t269)], [(.var 16 (.ri .i64 q_t410)), (.vec 3 (.ri .i64 list11)), (.var 16 (.ri .i64 out12))], 0, [] => .br ((q_t410 == ([(0 : Int), (0 : Int), (0 : Int), (0 : Int), (0 : Int), (0 : Int), (0 : Int), (0 : Int), (0 : Int), (0 : Int), (0 : Int), (0 : Int), (0 : Int), (0 : Int), (0 : Int), (0 : Int)] : List Int)) && (impl_SnakeBoard_l7 F list4 t258 list11 t269 out12).isSome) (impl_SnakeBoard_o7 list4 t258 list11 ((impl_SnakeBoard_l7 F list4 t258 list11 t269 out12).getD default)) .fail
  | _, _, _, _ => .fail⟩
theorem impl_SnakeBoard_step7 (F : Nat) (list4 : Nat) (t258 : List Int) (list11 : List Int) (t269 : Int) (out12 : List Int) {R : Type} (k : Out → Option R) : stepS tt (impl_SnakeBoard_tab F) (impl_SnakeBoard_LS0 F) 70 (impl_SnakeBoard_ls7 F) (loopAt 7 (bodyOf Try.f13)) (impl_SnakeBoard_st7 list4 t258 list11 t269 out12) k = impl_SnakeBoard_s7 F list4 t258 list11 R (t269, out12) (fun s => k (.norm (impl_SnakeBoard_st7 list4 t258 list11 s.1 s.2))) (fun x => (impl_SnakeBoard_o7 list4 t258 list11 x).run k) := by kernel_rfl
theorem impl_SnakeBoard_iter7 (F : Nat) (list4 : Nat) (t258 : List Int) (list11 : List Int) {R : Type} (k : Out → Option R) : ∀ (n : Nat) (t269 : Int) (out12 : List Int), iterS tt (impl_SnakeBoard_tab F) (impl_SnakeBoard_LS0 F) 70 (impl_SnakeBoard_ls7 F) (loopAt 7 (bodyOf Try.f13)) n (impl_SnakeBoard_st7 list4 t258 list11 t269 out12) k = loopC (impl_SnakeBoard_s7 F list4 t258 list11) n (t269, out12) (fun x => (impl_SnakeBoard_o7 list4 t258 list11 x).run k)
  | 0, t269, out12 => rfl
  | n + 1, t269, out12 => (iterS_succ tt (impl_SnakeBoard_tab F) (impl_SnakeBoard_LS0 F) 70 (impl_SnakeBoard_ls7 F) (loopAt 7 (bodyOf Try.f13)) n (impl_SnakeBoard_st7 list4 t258 list11 t269 out12) k).trans ((impl_SnakeBoard_step7 F list4 t258 list11 t269 out12 (nextK (iterS tt (impl_SnakeBoard_tab F) (impl_SnakeBoard_LS0 F) 70 (impl_SnakeBoard_ls7 F) (loopAt 7 (bodyOf Try.f13)) n) k)).trans (congrArg (fun kn => impl_SnakeBoard_s7 F list4 t258 list11 R (t269, out12) kn _) (funext (fun ⟨t269, out12⟩ => impl_SnakeBoard_iter7 F list4 t258 list11 k n t269 out12))))
theorem impl_SnakeBoard_lok7 (F : Nat) : LoopOK Try.prog (loopAt 7 (bodyOf Try.f13)) (impl_SnakeBoard_ls7 F) := by
  refine loopOK_of mixed ttok deep (impl_SnakeBoard_tabok F) (loopsOK_at (impl_SnakeBoard_lsok0 F) 7) (fuel := 70) fun R vals mem np killed k x h => ?_
  simp only [impl_SnakeBoard_ls7] at h
  split at h
  · rename_i list4 t258 t269 q_t410 list11 out12
    simp only [GT.run] at h
    have hc := (cond_noneL h).1
    replace h := (cond_noneL h).2
    have hg := (and_split hc).1
    replace hc := (and_split hc).2
    obtain rfl := beq_li hg
    refine ⟨F, (impl_SnakeBoard_iter7 F list4 t258 list11 k F t269 out12).trans ((loopC_use (impl_SnakeBoard_s7_nat F list4 t258 list11) hc _).trans h)⟩
  · simp only [GT.run] at h
    cases h
noncomputable def impl_SnakeBoard_LS1 (F : Nat) : LT := (7, impl_SnakeBoard_ls7 F) :: impl_SnakeBoard_LS0 F
theorem impl_SnakeBoard_lsok1 (F : Nat) : LoopsOK Try.prog (impl_SnakeBoard_LS1 F) (bodyOf Try.f13) := loopsOK_cons impl_SnakeBoard_keys (impl_SnakeBoard_lok7 F) (impl_SnakeBoard_lsok0 F)
theorem impl_SnakeBoard_run (F : Nat) (b0 : List Int) (k1 : Int) : runS tt (impl_SnakeBoard_tab F) (impl_SnakeBoard_LS1 F) [] [] Try.f13 (bodyOf Try.f13) 70 [(.ints 16 b0), (.int .i64 k1)] [] = impl_SnakeBoard_c _ F b0 k1 (fun r => some ⟨(.tup [(.ints 16 r.1), (.bool r.2)]), [], []⟩) := by kernel_rfl
def impl_SnakeBoard_ent (F : Nat) : Ent := ⟨[], .quiet, fun args mem => match args, mem with
  | [(.ints 16 b0), (.int .i64 k1)], [] => some ((impl_SnakeBoard_p F b0 k1).isSome, ⟨(.tup [(.ints 16 ((impl_SnakeBoard_p F b0 k1).getD default).1), (.bool ((impl_SnakeBoard_p F b0 k1).getD default).2)]), [], []⟩)
  | _, _ => none⟩
theorem impl_SnakeBoard_fok : FunOK Try.prog 13 := funOK Try.func13 (by kernel_rfl) rfl
theorem impl_SnakeBoard_meets (F : Nat) : Meets Try.prog 13 (impl_SnakeBoard_ent F) := by
  refine meets_of_runS mixed ttok deep (impl_SnakeBoard_tabok F) Try.func13 (body_some rfl) (impl_SnakeBoard_lsok1 F) fun args mem hfit ret h => ?_
  clear hfit
  simp only [impl_SnakeBoard_ent] at h
  split at h
  · rename_i b0 k1
    simp only [Option.some.injEq, Prod.mk.injEq] at h
    obtain ⟨hc, rfl⟩ := h
    exact ⟨[], [], 70, _, (impl_SnakeBoard_run F b0 k1).trans ((impl_SnakeBoard_cp _ F b0 k1 _).trans (bind_use hc _)), rfl, rfl, rfl⟩
  · cases h

/-! loop.example/g01194/laws.vInts -/
noncomputable def laws_vInts_tab (F : Nat) : Tab := []
theorem laws_vInts_tabok (F : Nat) : TabOK Try.prog (laws_vInts_tab F) := tab_nil
noncomputable def laws_vInts_LS0 (F : Nat) : LT := []
theorem laws_vInts_lsok0 (F : Nat) : LoopsOK Try.prog (laws_vInts_LS0 F) (bodyOf Try.f15) := loopsOK_nil
theorem laws_vInts_keys : keysOK (bodyOf Try.f15) = true := by kernel_rfl
def laws_vInts_st4 (a0 : List Int) (b1 : List Int) (i2 : Int) : St := ⟨expand 26 0 [0, 1, 5] [(.ri .i64 a0), (.ri .i64 b1), (.int .i64 i2)], [], 0, []⟩
def laws_vInts_o4 (a0 : List Int) (b1 : List Int) (x : Bool) : GT := (.br x (.out (.ret ⟨expand 26 0 [4] [(.bool false)], [], 0, []⟩)) (.out (.exit 0 ⟨expand 26 0 [] [], [], 0, []⟩)))
def laws_vInts_ls4 (F : Nat) : LoopS := ⟨26, [0, 1, 5], [], [], [], [4], [], [], fun vals mem np killed => match vals, mem, np, killed with
  | [(.ri .i64 a0), (.ri .i64 b1), (.int .i64 i2)], [], 0, [] => .br (laws_vInts_l4 F a0 b1 i2).isSome (laws_vInts_o4 a0 b1 ((laws_vInts_l4 F a0 b1 i2).getD default)) .fail
  | _, _, _, _ => .fail⟩
theorem laws_vInts_step4 (F : Nat) (a0 : List Int) (b1 : List Int) (i2 : Int) {R : Type} (k : Out → Option R) : stepS tt (laws_vInts_tab F) (laws_vInts_LS0 F) 70 (laws_vInts_ls4 F) (loopAt 4 (bodyOf Try.f15)) (laws_vInts_st4 a0 b1 i2) k = laws_vInts_s4 F a0 b1 R i2 (fun s => k (.norm (laws_vInts_st4 a0 b1 s))) (fun x => (laws_vInts_o4 a0 b1 x).run k) := by kernel_rfl
theorem laws_vInts_iter4 (F : Nat) (a0 : List Int) (b1 : List Int) {R : Type} (k : Out → Option R) : ∀ (n : Nat) (i2 : Int), iterS tt (laws_vInts_tab F) (laws_vInts_LS0 F) 70 (laws_vInts_ls4 F) (loopAt 4 (bodyOf Try.f15)) n (laws_vInts_st4 a0 b1 i2) k = loopC (laws_vInts_s4 F a0 b1) n i2 (fun x => (laws_vInts_o4 a0 b1 x).run k)
  | 0, i2 => rfl
  | n + 1, i2 => (iterS_succ tt (laws_vInts_tab F) (laws_vInts_LS0 F) 70 (laws_vInts_ls4 F) (loopAt 4 (bodyOf Try.f15)) n (laws_vInts_st4 a0 b1 i2) k).trans ((laws_vInts_step4 F a0 b1 i2 (nextK (iterS tt (laws_vInts_tab F) (laws_vInts_LS0 F) 70 (laws_vInts_ls4 F) (loopAt 4 (bodyOf Try.f15)) n) k)).trans (congrArg (fun kn => laws_vInts_s4 F a0 b1 R i2 kn _) (funext (fun i2 => laws_vInts_iter4 F a0 b1 k n i2))))
theorem laws_vInts_lok4 (F : Nat) : LoopOK Try.prog (loopAt 4 (bodyOf Try.f15)) (laws_vInts_ls4 F) := by
  refine loopOK_of mixed ttok deep (laws_vInts_tabok F) (loopsOK_at (laws_vInts_lsok0 F) 4) (fuel := 70) fun R vals mem np killed k x h => ?_
  simp only [laws_vInts_ls4] at h
  split at h
  · rename_i a0 b1 i2
    simp only [GT.run] at h
    have hc := (cond_noneL h).1
    replace h := (cond_noneL h).2
    refine ⟨F, (laws_vInts_iter4 F a0 b1 k F i2).trans ((loopC_use (laws_vInts_s4_nat F a0 b1) hc _).trans h)⟩
  · simp only [GT.run] at h
    cases h
noncomputable def laws_vInts_LS1 (F : Nat) : LT := (4, laws_vInts_ls4 F) :: laws_vInts_LS0 F
theorem laws_vInts_lsok1 (F : Nat) : LoopsOK Try.prog (laws_vInts_LS1 F) (bodyOf Try.f15) := loopsOK_cons laws_vInts_keys (laws_vInts_lok4 F) (laws_vInts_lsok0 F)
theorem laws_vInts_run (F : Nat) (a0 : List Int) (b1 : List Int) : runS tt (laws_vInts_tab F) (laws_vInts_LS1 F) [] [] Try.f15 (bodyOf Try.f15) 70 [(.ri .i64 a0), (.ri .i64 b1)] [] = laws_vInts_c _ F a0 b1 (fun r => some ⟨(.bool r), [], []⟩) := by kernel_rfl
def laws_vInts_ent (F : Nat) : Ent := ⟨[], .quiet, fun args mem => match args, mem with
  | [(.ri .i64 a0), (.ri .i64 b1)], [] => some ((laws_vInts_p F a0 b1).isSome, ⟨(.bool ((laws_vInts_p F a0 b1).getD default)), [], []⟩)
  | _, _ => none⟩
theorem laws_vInts_fok : FunOK Try.prog 15 := funOK Try.func15 (by kernel_rfl) rfl
theorem laws_vInts_meets (F : Nat) : Meets Try.prog 15 (laws_vInts_ent F) := by
  refine meets_of_runS mixed ttok deep (laws_vInts_tabok F) Try.func15 (body_some rfl) (laws_vInts_lsok1 F) fun args mem hfit ret h => ?_
  clear hfit
  simp only [laws_vInts_ent] at h
  split at h
  · rename_i a0 b1
    simp only [Option.some.injEq, Prod.mk.injEq] at h
    obtain ⟨hc, rfl⟩ := h
    exact ⟨[], [], 70, _, (laws_vInts_run F a0 b1).trans ((laws_vInts_cp _ F a0 b1 _).trans (bind_use hc _)), rfl, rfl, rfl⟩
  · cases h
end Go.Proofs.Ytabfliifleonaai
