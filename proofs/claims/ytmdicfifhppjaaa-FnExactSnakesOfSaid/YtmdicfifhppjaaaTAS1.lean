/-
Pure functions and what the code of them does, by program; without conditions.
-/
import Derived.Test.YtmdicfifhppjaaaTAP1
import Derived.Test.YtmdicfifhppjaaaTAS0
namespace Go.Proofs.Ytmdicfifhppjaaa
open Go Go.Lv Go.Lv.P Go.Proofs
set_option linter.unusedVariables false
set_option linter.unusedSimpArgs false
set_option maxRecDepth 100000
/-! slices.IndexFunc[[]int,int] -/
noncomputable def slices_IndexFunc_intint_impl_IsRow_f1_tab (F : Nat) : Tab := [(114, (impl_IsRow_f1_ent F))]
theorem slices_IndexFunc_intint_impl_IsRow_f1_tabok (F : Nat) : TabOK Try.prog (slices_IndexFunc_intint_impl_IsRow_f1_tab F) := (tab_cons (impl_IsRow_f1_meets F) impl_IsRow_f1_fok tab_nil)
noncomputable def slices_IndexFunc_intint_impl_IsRow_f1_LS0 (F : Nat) : LT := []
theorem slices_IndexFunc_intint_impl_IsRow_f1_lsok0 (F : Nat) : LoopsOK Try.prog (slices_IndexFunc_intint_impl_IsRow_f1_LS0 F) (bodyOf Try.f93) := loopsOK_nil
theorem slices_IndexFunc_intint_impl_IsRow_f1_keys : keysOK (bodyOf Try.f93) = true := by kernel_rfl
def slices_IndexFunc_intint_impl_IsRow_f1_st2 (s0 : List Int) (t71 : Int) (t82 : Int) : St := ⟨expand 19 0 [0, 1, 7, 8] [(.ri .i64 s0), (.fn 114 [] []), (.int .i64 t71), (.int .i64 t82)], [], 0, []⟩
def slices_IndexFunc_intint_impl_IsRow_f1_o2 (s0 : List Int) (t71 : Int) (x : Bool × Int) : GT := (.br x.1 (.out (.ret ⟨expand 19 0 [4] [(.int .i64 x.2)], [], 0, []⟩)) (.out (.exit 0 ⟨expand 19 0 [] [], [], 0, []⟩)))
def slices_IndexFunc_intint_impl_IsRow_f1_ls2 (F : Nat) : LoopS := ⟨19, [0, 1, 7, 8], [], [], [], [4], [], [], fun vals mem np killed => match vals, mem, np, killed with
  | [(.ri .i64 s0), (.fn 114 [] []), (.int .i64 t71), (.int .i64 t82)], [], 0, [] => .br (slices_IndexFunc_intint_impl_IsRow_f1_l2 F s0 t71 t82).isSome (slices_IndexFunc_intint_impl_IsRow_f1_o2 s0 t71 ((slices_IndexFunc_intint_impl_IsRow_f1_l2 F s0 t71 t82).getD default)) .fail
  | _, _, _, _ => .fail⟩
theorem slices_IndexFunc_intint_impl_IsRow_f1_step2 (F : Nat) (s0 : List Int) (t71 : Int) (t82 : Int) {R : Type} (k : Out → Option R) : stepS tt (slices_IndexFunc_intint_impl_IsRow_f1_tab F) (slices_IndexFunc_intint_impl_IsRow_f1_LS0 F) 70 (slices_IndexFunc_intint_impl_IsRow_f1_ls2 F) (loopAt 2 (bodyOf Try.f93)) (slices_IndexFunc_intint_impl_IsRow_f1_st2 s0 t71 t82) k = slices_IndexFunc_intint_impl_IsRow_f1_s2 F s0 t71 R t82 (fun s => k (.norm (slices_IndexFunc_intint_impl_IsRow_f1_st2 s0 t71 s))) (fun x => (slices_IndexFunc_intint_impl_IsRow_f1_o2 s0 t71 x).run k) := by kernel_rfl
theorem slices_IndexFunc_intint_impl_IsRow_f1_iter2 (F : Nat) (s0 : List Int) (t71 : Int) {R : Type} (k : Out → Option R) : ∀ (n : Nat) (t82 : Int), iterS tt (slices_IndexFunc_intint_impl_IsRow_f1_tab F) (slices_IndexFunc_intint_impl_IsRow_f1_LS0 F) 70 (slices_IndexFunc_intint_impl_IsRow_f1_ls2 F) (loopAt 2 (bodyOf Try.f93)) n (slices_IndexFunc_intint_impl_IsRow_f1_st2 s0 t71 t82) k = loopC (slices_IndexFunc_intint_impl_IsRow_f1_s2 F s0 t71) n t82 (fun x => (slices_IndexFunc_intint_impl_IsRow_f1_o2 s0 t71 x).run k)
  | 0, t82 => rfl
  | n + 1, t82 => (iterS_succ tt (slices_IndexFunc_intint_impl_IsRow_f1_tab F) (slices_IndexFunc_intint_impl_IsRow_f1_LS0 F) 70 (slices_IndexFunc_intint_impl_IsRow_f1_ls2 F) (loopAt 2 (bodyOf Try.f93)) n (slices_IndexFunc_intint_impl_IsRow_f1_st2 s0 t71 t82) k).trans ((slices_IndexFunc_intint_impl_IsRow_f1_step2 F s0 t71 t82 (nextK (iterS tt (slices_IndexFunc_intint_impl_IsRow_f1_tab F) (slices_IndexFunc_intint_impl_IsRow_f1_LS0 F) 70 (slices_IndexFunc_intint_impl_IsRow_f1_ls2 F) (loopAt 2 (bodyOf Try.f93)) n) k)).trans (congrArg (fun kn => slices_IndexFunc_intint_impl_IsRow_f1_s2 F s0 t71 R t82 kn _) (funext (fun t82 => slices_IndexFunc_intint_impl_IsRow_f1_iter2 F s0 t71 k n t82))))
theorem slices_IndexFunc_intint_impl_IsRow_f1_lok2 (F : Nat) : LoopOK Try.prog (loopAt 2 (bodyOf Try.f93)) (slices_IndexFunc_intint_impl_IsRow_f1_ls2 F) := by
  refine loopOK_of mixed ttok deep (slices_IndexFunc_intint_impl_IsRow_f1_tabok F) (loopsOK_at (slices_IndexFunc_intint_impl_IsRow_f1_lsok0 F) 2) (fuel := 70) fun R vals mem np killed k x h => ?_
  simp only [slices_IndexFunc_intint_impl_IsRow_f1_ls2] at h
  split at h
  · rename_i s0 t71 t82
    simp only [GT.run] at h
    have hc := (cond_noneL h).1
    replace h := (cond_noneL h).2
    refine ⟨F, (slices_IndexFunc_intint_impl_IsRow_f1_iter2 F s0 t71 k F t82).trans ((loopC_use (slices_IndexFunc_intint_impl_IsRow_f1_s2_nat F s0 t71) hc _).trans h)⟩
  · simp only [GT.run] at h
    cases h
noncomputable def slices_IndexFunc_intint_impl_IsRow_f1_LS1 (F : Nat) : LT := (2, slices_IndexFunc_intint_impl_IsRow_f1_ls2 F) :: slices_IndexFunc_intint_impl_IsRow_f1_LS0 F
theorem slices_IndexFunc_intint_impl_IsRow_f1_lsok1 (F : Nat) : LoopsOK Try.prog (slices_IndexFunc_intint_impl_IsRow_f1_LS1 F) (bodyOf Try.f93) := loopsOK_cons slices_IndexFunc_intint_impl_IsRow_f1_keys (slices_IndexFunc_intint_impl_IsRow_f1_lok2 F) (slices_IndexFunc_intint_impl_IsRow_f1_lsok0 F)
theorem slices_IndexFunc_intint_impl_IsRow_f1_run (F : Nat) (s0 : List Int) : runS tt (slices_IndexFunc_intint_impl_IsRow_f1_tab F) (slices_IndexFunc_intint_impl_IsRow_f1_LS1 F) [] [] Try.f93 (bodyOf Try.f93) 70 [(.ri .i64 s0), (.fn 114 [] [])] [] = slices_IndexFunc_intint_impl_IsRow_f1_c _ F s0 (fun r => some ⟨(.int .i64 r), [], []⟩) := by kernel_rfl
def slices_IndexFunc_intint_impl_IsRow_f1_ent (F : Nat) : Ent := ⟨[], .quiet, fun args mem => match args, mem with
  | [(.ri .i64 s0), (.fn 114 [] [])], [] => some ((slices_IndexFunc_intint_impl_IsRow_f1_p F s0).isSome, ⟨(.int .i64 ((slices_IndexFunc_intint_impl_IsRow_f1_p F s0).getD default)), [], []⟩)
  | _, _ => none⟩
theorem slices_IndexFunc_intint_impl_IsRow_f1_fok : FunOK Try.prog 93 := funOK Try.func93 (by kernel_rfl) rfl
theorem slices_IndexFunc_intint_impl_IsRow_f1_meets (F : Nat) : Meets Try.prog 93 (slices_IndexFunc_intint_impl_IsRow_f1_ent F) := by
  refine meets_of_runS mixed ttok deep (slices_IndexFunc_intint_impl_IsRow_f1_tabok F) Try.func93 (body_some rfl) (slices_IndexFunc_intint_impl_IsRow_f1_lsok1 F) fun args mem hfit ret h => ?_
  clear hfit
  simp only [slices_IndexFunc_intint_impl_IsRow_f1_ent] at h
  split at h
  · rename_i s0
    simp only [Option.some.injEq, Prod.mk.injEq] at h
    obtain ⟨hc, rfl⟩ := h
    exact ⟨[], [], 70, _, (slices_IndexFunc_intint_impl_IsRow_f1_run F s0).trans ((slices_IndexFunc_intint_impl_IsRow_f1_cp _ F s0 _).trans (bind_use hc _)), rfl, rfl, rfl⟩
  · cases h

/-! slices.ContainsFunc[[]int,int] -/
noncomputable def slices_ContainsFunc_intint_impl_IsRow_f1_tab (F : Nat) : Tab := [(93, (slices_IndexFunc_intint_impl_IsRow_f1_ent F))]
theorem slices_ContainsFunc_intint_impl_IsRow_f1_tabok (F : Nat) : TabOK Try.prog (slices_ContainsFunc_intint_impl_IsRow_f1_tab F) := (tab_cons (slices_IndexFunc_intint_impl_IsRow_f1_meets F) slices_IndexFunc_intint_impl_IsRow_f1_fok tab_nil)
noncomputable def slices_ContainsFunc_intint_impl_IsRow_f1_LS0 (F : Nat) : LT := []
theorem slices_ContainsFunc_intint_impl_IsRow_f1_lsok0 (F : Nat) : LoopsOK Try.prog (slices_ContainsFunc_intint_impl_IsRow_f1_LS0 F) (bodyOf Try.f62) := loopsOK_nil
theorem slices_ContainsFunc_intint_impl_IsRow_f1_run (F : Nat) (s0 : List Int) : runS tt (slices_ContainsFunc_intint_impl_IsRow_f1_tab F) (slices_ContainsFunc_intint_impl_IsRow_f1_LS0 F) [] [] Try.f62 (bodyOf Try.f62) 70 [(.ri .i64 s0), (.fn 114 [] [])] [] = slices_ContainsFunc_intint_impl_IsRow_f1_c _ F s0 (fun r => some ⟨(.bool r), [], []⟩) := by kernel_rfl
def slices_ContainsFunc_intint_impl_IsRow_f1_ent (F : Nat) : Ent := ⟨[], .quiet, fun args mem => match args, mem with
  | [(.ri .i64 s0), (.fn 114 [] [])], [] => some ((slices_ContainsFunc_intint_impl_IsRow_f1_p F s0).isSome, ⟨(.bool ((slices_ContainsFunc_intint_impl_IsRow_f1_p F s0).getD default)), [], []⟩)
  | _, _ => none⟩
theorem slices_ContainsFunc_intint_impl_IsRow_f1_fok : FunOK Try.prog 62 := funOK Try.func62 (by kernel_rfl) rfl
theorem slices_ContainsFunc_intint_impl_IsRow_f1_meets (F : Nat) : Meets Try.prog 62 (slices_ContainsFunc_intint_impl_IsRow_f1_ent F) := by
  refine meets_of_runS mixed ttok deep (slices_ContainsFunc_intint_impl_IsRow_f1_tabok F) Try.func62 (body_some rfl) (slices_ContainsFunc_intint_impl_IsRow_f1_lsok0 F) fun args mem hfit ret h => ?_
  clear hfit
  simp only [slices_ContainsFunc_intint_impl_IsRow_f1_ent] at h
  split at h
  · rename_i s0
    simp only [Option.some.injEq, Prod.mk.injEq] at h
    obtain ⟨hc, rfl⟩ := h
    exact ⟨[], [], 70, _, (slices_ContainsFunc_intint_impl_IsRow_f1_run F s0).trans ((slices_ContainsFunc_intint_impl_IsRow_f1_cp _ F s0 _).trans (bind_use hc _)), rfl, rfl, rfl⟩
  · cases h

/-! loop.example/g01194/impl.IsRow -/
noncomputable def impl_IsRow_tab (F : Nat) : Tab := [(62, (slices_ContainsFunc_intint_impl_IsRow_f1_ent F))]
theorem impl_IsRow_tabok (F : Nat) : TabOK Try.prog (impl_IsRow_tab F) := (tab_cons (slices_ContainsFunc_intint_impl_IsRow_f1_meets F) slices_ContainsFunc_intint_impl_IsRow_f1_fok tab_nil)
noncomputable def impl_IsRow_LS0 (F : Nat) : LT := []
theorem impl_IsRow_lsok0 (F : Nat) : LoopsOK Try.prog (impl_IsRow_LS0 F) (bodyOf Try.f96) := loopsOK_nil
theorem impl_IsRow_run (F : Nat) (row0 : List Int) : runS tt (impl_IsRow_tab F) (impl_IsRow_LS0 F) [] [] Try.f96 (bodyOf Try.f96) 70 [(.ints 4 row0)] [] = impl_IsRow_c _ F row0 (fun r => some ⟨(.bool r), [], []⟩) := by kernel_rfl
def impl_IsRow_ent (F : Nat) : Ent := ⟨[], .quiet, fun args mem => match args, mem with
  | [(.ints 4 row0)], [] => some ((impl_IsRow_p F row0).isSome, ⟨(.bool ((impl_IsRow_p F row0).getD default)), [], []⟩)
  | _, _ => none⟩
theorem impl_IsRow_fok : FunOK Try.prog 96 := funOK Try.func96 (by kernel_rfl) rfl
theorem impl_IsRow_meets (F : Nat) : Meets Try.prog 96 (impl_IsRow_ent F) := by
  refine meets_of_runS mixed ttok deep (impl_IsRow_tabok F) Try.func96 (body_some rfl) (impl_IsRow_lsok0 F) fun args mem hfit ret h => ?_
  clear hfit
  simp only [impl_IsRow_ent] at h
  split at h
  · rename_i row0
    simp only [Option.some.injEq, Prod.mk.injEq] at h
    obtain ⟨hc, rfl⟩ := h
    exact ⟨[], [], 70, _, (impl_IsRow_run F row0).trans ((impl_IsRow_cp _ F row0 _).trans (bind_use hc _)), rfl, rfl, rfl⟩
  · cases h

/-! loop.example/g01194/impl.IsBoard$1 -/
noncomputable def impl_IsBoard_f1_tab (F : Nat) : Tab := [(96, (impl_IsRow_ent F))]
theorem impl_IsBoard_f1_tabok (F : Nat) : TabOK Try.prog (impl_IsBoard_f1_tab F) := (tab_cons (impl_IsRow_meets F) impl_IsRow_fok tab_nil)
noncomputable def impl_IsBoard_f1_LS0 (F : Nat) : LT := []
theorem impl_IsBoard_f1_lsok0 (F : Nat) : LoopsOK Try.prog (impl_IsBoard_f1_LS0 F) (bodyOf Try.f95) := loopsOK_nil
theorem impl_IsBoard_f1_run (F : Nat) (row0 : List Int) : runS tt (impl_IsBoard_f1_tab F) (impl_IsBoard_f1_LS0 F) [] [] Try.f95 (bodyOf Try.f95) 70 [(.ints 4 row0)] [] = impl_IsBoard_f1_c _ F row0 (fun r => some ⟨(.bool r), [], []⟩) := by kernel_rfl
def impl_IsBoard_f1_ent (F : Nat) : Ent := ⟨[], .quiet, fun args mem => match args, mem with
  | [(.ints 4 row0)], [] => some ((impl_IsBoard_f1_p F row0).isSome, ⟨(.bool ((impl_IsBoard_f1_p F row0).getD default)), [], []⟩)
  | _, _ => none⟩
theorem impl_IsBoard_f1_fok : FunOK Try.prog 95 := funOK Try.func95 (by kernel_rfl) rfl
theorem impl_IsBoard_f1_meets (F : Nat) : Meets Try.prog 95 (impl_IsBoard_f1_ent F) := by
  refine meets_of_runS mixed ttok deep (impl_IsBoard_f1_tabok F) Try.func95 (body_some rfl) (impl_IsBoard_f1_lsok0 F) fun args mem hfit ret h => ?_
  clear hfit
  simp only [impl_IsBoard_f1_ent] at h
  split at h
  · rename_i row0
    simp only [Option.some.injEq, Prod.mk.injEq] at h
    obtain ⟨hc, rfl⟩ := h
    exact ⟨[], [], 70, _, (impl_IsBoard_f1_run F row0).trans ((impl_IsBoard_f1_cp _ F row0 _).trans (bind_use hc _)), rfl, rfl, rfl⟩
  · cases h

/-! slices.IndexFunc[[][4]int,[4]int] -/
noncomputable def slices_IndexFunc_4int4int_impl_IsBoard_f1_tab (F : Nat) : Tab := [(95, (impl_IsBoard_f1_ent F))]
theorem slices_IndexFunc_4int4int_impl_IsBoard_f1_tabok (F : Nat) : TabOK Try.prog (slices_IndexFunc_4int4int_impl_IsBoard_f1_tab F) := (tab_cons (impl_IsBoard_f1_meets F) impl_IsBoard_f1_fok tab_nil)
noncomputable def slices_IndexFunc_4int4int_impl_IsBoard_f1_LS0 (F : Nat) : LT := []
theorem slices_IndexFunc_4int4int_impl_IsBoard_f1_lsok0 (F : Nat) : LoopsOK Try.prog (slices_IndexFunc_4int4int_impl_IsBoard_f1_LS0 F) (bodyOf Try.f113) := loopsOK_nil
theorem slices_IndexFunc_4int4int_impl_IsBoard_f1_keys : keysOK (bodyOf Try.f113) = true := by kernel_rfl
def slices_IndexFunc_4int4int_impl_IsBoard_f1_st2 (s0 : List (List Int)) (t71 : Int) (t82 : Int) : St := ⟨expand 19 0 [0, 1, 7, 8] [(.rr 4 s0), (.fn 95 [] []), (.int .i64 t71), (.int .i64 t82)], [], 0, []⟩
def slices_IndexFunc_4int4int_impl_IsBoard_f1_o2 (s0 : List (List Int)) (t71 : Int) (x : Bool × Int) : GT := (.br x.1 (.out (.ret ⟨expand 19 0 [4] [(.int .i64 x.2)], [], 0, []⟩)) (.out (.exit 0 ⟨expand 19 0 [] [], [], 0, []⟩)))
def slices_IndexFunc_4int4int_impl_IsBoard_f1_ls2 (F : Nat) : LoopS := ⟨19, [0, 1, 7, 8], [], [], [], [4], [], [], fun vals mem np killed => match vals, mem, np, killed with
  | [(.rr 4 s0), (.fn 95 [] []), (.int .i64 t71), (.int .i64 t82)], [], 0, [] => .br (slices_IndexFunc_4int4int_impl_IsBoard_f1_l2 F s0 t71 t82).isSome (slices_IndexFunc_4int4int_impl_IsBoard_f1_o2 s0 t71 ((slices_IndexFunc_4int4int_impl_IsBoard_f1_l2 F s0 t71 t82).getD default)) .fail
  | _, _, _, _ => .fail⟩
theorem slices_IndexFunc_4int4int_impl_IsBoard_f1_step2 (F : Nat) (s0 : List (List Int)) (t71 : Int) (t82 : Int) {R : Type} (k : Out → Option R) : stepS tt (slices_IndexFunc_4int4int_impl_IsBoard_f1_tab F) (slices_IndexFunc_4int4int_impl_IsBoard_f1_LS0 F) 70 (slices_IndexFunc_4int4int_impl_IsBoard_f1_ls2 F) (loopAt 2 (bodyOf Try.f113)) (slices_IndexFunc_4int4int_impl_IsBoard_f1_st2 s0 t71 t82) k = slices_IndexFunc_4int4int_impl_IsBoard_f1_s2 F s0 t71 R t82 (fun s => k (.norm (slices_IndexFunc_4int4int_impl_IsBoard_f1_st2 s0 t71 s))) (fun x => (slices_IndexFunc_4int4int_impl_IsBoard_f1_o2 s0 t71 x).run k) := by kernel_rfl
theorem slices_IndexFunc_4int4int_impl_IsBoard_f1_iter2 (F : Nat) (s0 : List (List Int)) (t71 : Int) {R : Type} (k : Out → Option R) : ∀ (n : Nat) (t82 : Int), iterS tt (slices_IndexFunc_4int4int_impl_IsBoard_f1_tab F) (slices_IndexFunc_4int4int_impl_IsBoard_f1_LS0 F) 70 (slices_IndexFunc_4int4int_impl_IsBoard_f1_ls2 F) (loopAt 2 (bodyOf Try.f113)) n (slices_IndexFunc_4int4int_impl_IsBoard_f1_st2 s0 t71 t82) k = loopC (slices_IndexFunc_4int4int_impl_IsBoard_f1_s2 F s0 t71) n t82 (fun x => (slices_IndexFunc_4int4int_impl_IsBoard_f1_o2 s0 t71 x).run k)
  | 0, t82 => rfl
  | n + 1, t82 => (iterS_succ tt (slices_IndexFunc_4int4int_impl_IsBoard_f1_tab F) (slices_IndexFunc_4int4int_impl_IsBoard_f1_LS0 F) 70 (slices_IndexFunc_4int4int_impl_IsBoard_f1_ls2 F) (loopAt 2 (bodyOf Try.f113)) n (slices_IndexFunc_4int4int_impl_IsBoard_f1_st2 s0 t71 t82) k).trans ((slices_IndexFunc_4int4int_impl_IsBoard_f1_step2 F s0 t71 t82 (nextK (iterS tt (slices_IndexFunc_4int4int_impl_IsBoard_f1_tab F) (slices_IndexFunc_4int4int_impl_IsBoard_f1_LS0 F) 70 (slices_IndexFunc_4int4int_impl_IsBoard_f1_ls2 F) (loopAt 2 (bodyOf Try.f113)) n) k)).trans (congrArg (fun kn => slices_IndexFunc_4int4int_impl_IsBoard_f1_s2 F s0 t71 R t82 kn _) (funext (fun t82 => slices_IndexFunc_4int4int_impl_IsBoard_f1_iter2 F s0 t71 k n t82))))
theorem slices_IndexFunc_4int4int_impl_IsBoard_f1_lok2 (F : Nat) : LoopOK Try.prog (loopAt 2 (bodyOf Try.f113)) (slices_IndexFunc_4int4int_impl_IsBoard_f1_ls2 F) := by
  refine loopOK_of mixed ttok deep (slices_IndexFunc_4int4int_impl_IsBoard_f1_tabok F) (loopsOK_at (slices_IndexFunc_4int4int_impl_IsBoard_f1_lsok0 F) 2) (fuel := 70) fun R vals mem np killed k x h => ?_
  simp only [slices_IndexFunc_4int4int_impl_IsBoard_f1_ls2] at h
  split at h
  · rename_i s0 t71 t82
    simp only [GT.run] at h
    have hc := (cond_noneL h).1
    replace h := (cond_noneL h).2
    refine ⟨F, (slices_IndexFunc_4int4int_impl_IsBoard_f1_iter2 F s0 t71 k F t82).trans ((loopC_use (slices_IndexFunc_4int4int_impl_IsBoard_f1_s2_nat F s0 t71) hc _).trans h)⟩
  · simp only [GT.run] at h
    cases h
noncomputable def slices_IndexFunc_4int4int_impl_IsBoard_f1_LS1 (F : Nat) : LT := (2, slices_IndexFunc_4int4int_impl_IsBoard_f1_ls2 F) :: slices_IndexFunc_4int4int_impl_IsBoard_f1_LS0 F
theorem slices_IndexFunc_4int4int_impl_IsBoard_f1_lsok1 (F : Nat) : LoopsOK Try.prog (slices_IndexFunc_4int4int_impl_IsBoard_f1_LS1 F) (bodyOf Try.f113) := loopsOK_cons slices_IndexFunc_4int4int_impl_IsBoard_f1_keys (slices_IndexFunc_4int4int_impl_IsBoard_f1_lok2 F) (slices_IndexFunc_4int4int_impl_IsBoard_f1_lsok0 F)
theorem slices_IndexFunc_4int4int_impl_IsBoard_f1_run (F : Nat) (s0 : List (List Int)) : runS tt (slices_IndexFunc_4int4int_impl_IsBoard_f1_tab F) (slices_IndexFunc_4int4int_impl_IsBoard_f1_LS1 F) [] [] Try.f113 (bodyOf Try.f113) 70 [(.rr 4 s0), (.fn 95 [] [])] [] = slices_IndexFunc_4int4int_impl_IsBoard_f1_c _ F s0 (fun r => some ⟨(.int .i64 r), [], []⟩) := by kernel_rfl
def slices_IndexFunc_4int4int_impl_IsBoard_f1_ent (F : Nat) : Ent := ⟨[], .quiet, fun args mem => match args, mem with
  | [(.rr 4 s0), (.fn 95 [] [])], [] => some ((slices_IndexFunc_4int4int_impl_IsBoard_f1_p F s0).isSome, ⟨(.int .i64 ((slices_IndexFunc_4int4int_impl_IsBoard_f1_p F s0).getD default)), [], []⟩)
  | _, _ => none⟩
theorem slices_IndexFunc_4int4int_impl_IsBoard_f1_fok : FunOK Try.prog 113 := funOK Try.func113 (by kernel_rfl) rfl
theorem slices_IndexFunc_4int4int_impl_IsBoard_f1_meets (F : Nat) : Meets Try.prog 113 (slices_IndexFunc_4int4int_impl_IsBoard_f1_ent F) := by
  refine meets_of_runS mixed ttok deep (slices_IndexFunc_4int4int_impl_IsBoard_f1_tabok F) Try.func113 (body_some rfl) (slices_IndexFunc_4int4int_impl_IsBoard_f1_lsok1 F) fun args mem hfit ret h => ?_
  clear hfit
  simp only [slices_IndexFunc_4int4int_impl_IsBoard_f1_ent] at h
  split at h
  · rename_i s0
    simp only [Option.some.injEq, Prod.mk.injEq] at h
    obtain ⟨hc, rfl⟩ := h
    exact ⟨[], [], 70, _, (slices_IndexFunc_4int4int_impl_IsBoard_f1_run F s0).trans ((slices_IndexFunc_4int4int_impl_IsBoard_f1_cp _ F s0 _).trans (bind_use hc _)), rfl, rfl, rfl⟩
  · cases h

/-! slices.ContainsFunc[[][4]int,[4]int] -/
noncomputable def slices_ContainsFunc_4int4int_impl_IsBoard_f1_tab (F : Nat) : Tab := [(113, (slices_IndexFunc_4int4int_impl_IsBoard_f1_ent F))]
theorem slices_ContainsFunc_4int4int_impl_IsBoard_f1_tabok (F : Nat) : TabOK Try.prog (slices_ContainsFunc_4int4int_impl_IsBoard_f1_tab F) := (tab_cons (slices_IndexFunc_4int4int_impl_IsBoard_f1_meets F) slices_IndexFunc_4int4int_impl_IsBoard_f1_fok tab_nil)
noncomputable def slices_ContainsFunc_4int4int_impl_IsBoard_f1_LS0 (F : Nat) : LT := []
theorem slices_ContainsFunc_4int4int_impl_IsBoard_f1_lsok0 (F : Nat) : LoopsOK Try.prog (slices_ContainsFunc_4int4int_impl_IsBoard_f1_LS0 F) (bodyOf Try.f94) := loopsOK_nil
theorem slices_ContainsFunc_4int4int_impl_IsBoard_f1_run (F : Nat) (s0 : List (List Int)) : runS tt (slices_ContainsFunc_4int4int_impl_IsBoard_f1_tab F) (slices_ContainsFunc_4int4int_impl_IsBoard_f1_LS0 F) [] [] Try.f94 (bodyOf Try.f94) 70 [(.rr 4 s0), (.fn 95 [] [])] [] = slices_ContainsFunc_4int4int_impl_IsBoard_f1_c _ F s0 (fun r => some ⟨(.bool r), [], []⟩) := by kernel_rfl
def slices_ContainsFunc_4int4int_impl_IsBoard_f1_ent (F : Nat) : Ent := ⟨[], .quiet, fun args mem => match args, mem with
  | [(.rr 4 s0), (.fn 95 [] [])], [] => some ((slices_ContainsFunc_4int4int_impl_IsBoard_f1_p F s0).isSome, ⟨(.bool ((slices_ContainsFunc_4int4int_impl_IsBoard_f1_p F s0).getD default)), [], []⟩)
  | _, _ => none⟩
theorem slices_ContainsFunc_4int4int_impl_IsBoard_f1_fok : FunOK Try.prog 94 := funOK Try.func94 (by kernel_rfl) rfl
theorem slices_ContainsFunc_4int4int_impl_IsBoard_f1_meets (F : Nat) : Meets Try.prog 94 (slices_ContainsFunc_4int4int_impl_IsBoard_f1_ent F) := by
  refine meets_of_runS mixed ttok deep (slices_ContainsFunc_4int4int_impl_IsBoard_f1_tabok F) Try.func94 (body_some rfl) (slices_ContainsFunc_4int4int_impl_IsBoard_f1_lsok0 F) fun args mem hfit ret h => ?_
  clear hfit
  simp only [slices_ContainsFunc_4int4int_impl_IsBoard_f1_ent] at h
  split at h
  · rename_i s0
    simp only [Option.some.injEq, Prod.mk.injEq] at h
    obtain ⟨hc, rfl⟩ := h
    exact ⟨[], [], 70, _, (slices_ContainsFunc_4int4int_impl_IsBoard_f1_run F s0).trans ((slices_ContainsFunc_4int4int_impl_IsBoard_f1_cp _ F s0 _).trans (bind_use hc _)), rfl, rfl, rfl⟩
  · cases h

/-! loop.example/g01194/impl.IsBoard -/
noncomputable def impl_IsBoard_tab (F : Nat) : Tab := [(94, (slices_ContainsFunc_4int4int_impl_IsBoard_f1_ent F))]
theorem impl_IsBoard_tabok (F : Nat) : TabOK Try.prog (impl_IsBoard_tab F) := (tab_cons (slices_ContainsFunc_4int4int_impl_IsBoard_f1_meets F) slices_ContainsFunc_4int4int_impl_IsBoard_f1_fok tab_nil)
noncomputable def impl_IsBoard_LS0 (F : Nat) : LT := []
theorem impl_IsBoard_lsok0 (F : Nat) : LoopsOK Try.prog (impl_IsBoard_LS0 F) (bodyOf Try.f66) := loopsOK_nil
theorem impl_IsBoard_run (F : Nat) (b0 : List Int) : runS tt (impl_IsBoard_tab F) (impl_IsBoard_LS0 F) [] [] Try.f66 (bodyOf Try.f66) 70 [(.ints 16 b0)] [] = impl_IsBoard_c _ F b0 (fun r => some ⟨(.bool r), [], []⟩) := by kernel_rfl
def impl_IsBoard_ent (F : Nat) : Ent := ⟨[], .quiet, fun args mem => match args, mem with
  | [(.ints 16 b0)], [] => some ((impl_IsBoard_p F b0).isSome, ⟨(.bool ((impl_IsBoard_p F b0).getD default)), [], []⟩)
  | _, _ => none⟩
theorem impl_IsBoard_fok : FunOK Try.prog 66 := funOK Try.func66 (by kernel_rfl) rfl
theorem impl_IsBoard_meets (F : Nat) : Meets Try.prog 66 (impl_IsBoard_ent F) := by
  refine meets_of_runS mixed ttok deep (impl_IsBoard_tabok F) Try.func66 (body_some rfl) (impl_IsBoard_lsok0 F) fun args mem hfit ret h => ?_
  clear hfit
  simp only [impl_IsBoard_ent] at h
  split at h
  · rename_i b0
    simp only [Option.some.injEq, Prod.mk.injEq] at h
    obtain ⟨hc, rfl⟩ := h
    exact ⟨[], [], 70, _, (impl_IsBoard_run F b0).trans ((impl_IsBoard_cp _ F b0 _).trans (bind_use hc _)), rfl, rfl, rfl⟩
  · cases h

/-! loop.example/g01194/impl.cells -/
noncomputable def impl_cells_tab (F : Nat) : Tab := []
theorem impl_cells_tabok (F : Nat) : TabOK Try.prog (impl_cells_tab F) := tab_nil
noncomputable def impl_cells_LS0 (F : Nat) : LT := []
theorem impl_cells_lsok0 (F : Nat) : LoopsOK Try.prog (impl_cells_LS0 F) (bodyOf Try.f82) := loopsOK_nil
theorem impl_cells_run (F : Nat) : runS tt (impl_cells_tab F) (impl_cells_LS0 F) [] [] Try.f82 (bodyOf Try.f82) 70 [] [] = impl_cells_c _ (fun r => some ⟨(.sl 0 0 16), [(.vec 48 (.rr 2 [[(0 : Int), (0 : Int)], [(0 : Int), (1 : Int)], [(0 : Int), (2 : Int)], [(0 : Int), (3 : Int)], [(1 : Int), (0 : Int)], [(1 : Int), (1 : Int)], [(1 : Int), (2 : Int)], [(1 : Int), (3 : Int)], [(2 : Int), (0 : Int)], [(2 : Int), (1 : Int)], [(2 : Int), (2 : Int)], [(2 : Int), (3 : Int)], [(3 : Int), (0 : Int)], [(3 : Int), (1 : Int)], [(3 : Int), (2 : Int)], [(3 : Int), (3 : Int)]]))], []⟩) := by kernel_rfl
def impl_cells_ent (F : Nat) : Ent := ⟨[], .fresh, fun args mem => match args, mem with
  | [], [] => some (true, ⟨(.sl 0 0 16), [(.vec 48 (.rr 2 [[(0 : Int), (0 : Int)], [(0 : Int), (1 : Int)], [(0 : Int), (2 : Int)], [(0 : Int), (3 : Int)], [(1 : Int), (0 : Int)], [(1 : Int), (1 : Int)], [(1 : Int), (2 : Int)], [(1 : Int), (3 : Int)], [(2 : Int), (0 : Int)], [(2 : Int), (1 : Int)], [(2 : Int), (2 : Int)], [(2 : Int), (3 : Int)], [(3 : Int), (0 : Int)], [(3 : Int), (1 : Int)], [(3 : Int), (2 : Int)], [(3 : Int), (3 : Int)]]))], []⟩)
  | _, _ => none⟩
theorem impl_cells_fok : FunOK Try.prog 82 := funOK Try.func82 (by kernel_rfl) rfl
theorem impl_cells_meets (F : Nat) : Meets Try.prog 82 (impl_cells_ent F) := by
  refine meets_of_runS mixed ttok deep (impl_cells_tabok F) Try.func82 (body_some rfl) (impl_cells_lsok0 F) fun args mem hfit ret h => ?_
  clear hfit
  simp only [impl_cells_ent] at h
  split at h
  · simp only [Option.some.injEq, Prod.mk.injEq] at h
    obtain ⟨hc, rfl⟩ := h
    exact ⟨[], [], 70, _, (impl_cells_run F).trans (impl_cells_cv _ _), rfl, rfl, rfl⟩
  · cases h

/-! (*loop.example/g01194/impl.Board).at -/
noncomputable def impl_Board_at_tab (F : Nat) : Tab := []
theorem impl_Board_at_tabok (F : Nat) : TabOK Try.prog (impl_Board_at_tab F) := tab_nil
noncomputable def impl_Board_at_LS0 (F : Nat) : LT := []
theorem impl_Board_at_lsok0 (F : Nat) : LoopsOK Try.prog (impl_Board_at_LS0 F) (bodyOf Try.f83) := loopsOK_nil
theorem impl_Board_at_run (F : Nat) (cell3 : List Int) (b4 : List Int) : runS tt (impl_Board_at_tab F) (impl_Board_at_LS0 F) [] [] Try.f83 (bodyOf Try.f83) 70 [(.ptr 0 0 0 16), (.ints 2 cell3)] [(.var 16 (.ri .i64 b4))] = impl_Board_at_c _ cell3 b4 (fun r => some ⟨(.ptr 0 0 r 1), [(.var 16 (.ri .i64 b4))], []⟩) := by kernel_rfl
def impl_Board_at_ent (F : Nat) : Ent := ⟨[], .quiet, fun args mem => match args, mem with
  | [(.ptr 0 0 0 16), (.ints 2 cell3)], [(.var 16 (.ri .i64 b4))] => some ((impl_Board_at_p cell3 b4).isSome, ⟨(.ptr 0 0 ((impl_Board_at_p cell3 b4).getD default) 1), [], []⟩)
  | _, _ => none⟩
theorem impl_Board_at_fok : FunOK Try.prog 83 := funOK Try.func83 (by kernel_rfl) rfl
theorem impl_Board_at_meets (F : Nat) : Meets Try.prog 83 (impl_Board_at_ent F) := by
  refine meets_of_runS mixed ttok deep (impl_Board_at_tabok F) Try.func83 (body_some rfl) (impl_Board_at_lsok0 F) fun args mem hfit ret h => ?_
  clear hfit
  simp only [impl_Board_at_ent] at h
  split at h
  · rename_i cell3 b4
    simp only [Option.some.injEq, Prod.mk.injEq] at h
    obtain ⟨hc, rfl⟩ := h
    exact ⟨[], [], 70, _, (impl_Board_at_run F cell3 b4).trans ((impl_Board_at_cp _ cell3 b4 _).trans (bind_use hc _)), rfl, rfl, rfl⟩
  · cases h

/-! loop.example/g01194/impl.CountTiles -/
noncomputable def impl_CountTiles_tab (F : Nat) : Tab := [(66, (impl_IsBoard_ent F)), (82, (impl_cells_ent F)), (83, (impl_Board_at_ent F))]
theorem impl_CountTiles_tabok (F : Nat) : TabOK Try.prog (impl_CountTiles_tab F) := (tab_cons (impl_IsBoard_meets F) impl_IsBoard_fok (tab_cons (impl_cells_meets F) impl_cells_fok (tab_cons (impl_Board_at_meets F) impl_Board_at_fok tab_nil)))
noncomputable def impl_CountTiles_LS0 (F : Nat) : LT := []
theorem impl_CountTiles_lsok0 (F : Nat) : LoopsOK Try.prog (impl_CountTiles_LS0 F) (bodyOf Try.f61) := loopsOK_nil
theorem impl_CountTiles_keys : keysOK (bodyOf Try.f61) = true := by kernel_rfl
def impl_CountTiles_st5 (b13 : List Int) (t1412 : Int) (out15 : List Int) : St := ⟨expand 28 0 [1, 2, 4, 12, 13, 14] [(.ptr 0 0 0 16), (.ptr 1 0 0 18), (.ptr 2 0 0 18), (.sl 3 0 16), (.int .i64 (16 : Int)), (.int .i64 t1412)], [(.var 16 (.ri .i64 b13)), (.var 18 (.ri .i64 [(0 : Int), (0 : Int), (0 : Int), (0 : Int), (0 : Int), (0 : Int), (0 : Int), (0 : Int), (0 : Int), (0 : Int), (0 : Int), (0 : Int), (0 : Int), (0 : Int), (0 : Int), (0 : Int), (0 : Int), (0 : Int)])), (.var 18 (.ri .i64 out15)), (.vec 48 (.rr 2 [[(0 : Int), (0 : Int)], [(0 : Int), (1 : Int)], [(0 : Int), (2 : Int)], [(0 : Int), (3 : Int)], [(1 : Int), (0 : Int)], [(1 : Int), (1 : Int)], [(1 : Int), (2 : Int)], [(1 : Int), (3 : Int)], [(2 : Int), (0 : Int)], [(2 : Int), (1 : Int)], [(2 : Int), (2 : Int)], [(2 : Int), (3 : Int)], [(3 : Int), (0 : Int)], [(3 : Int), (1 : Int)], [(3 : Int), (2 : Int)], [(3 : Int), (3 : Int)]]))], 0, []⟩
def impl_CountTiles_o5 (b13 : List Int) (x : List Int) : GT := (.out (.exit 0 ⟨expand 28 0 [2, 4] [(.ptr 0 0 0 18), (.ptr 1 0 0 18)], [(.var 18 (.ri .i64 [(0 : Int), (0 : Int), (0 : Int), (0 : Int), (0 : Int), (0 : Int), (0 : Int), (0 : Int), (0 : Int), (0 : Int), (0 : Int), (0 : Int), (0 : Int), (0 : Int), (0 : Int), (0 : Int), (0 : Int), (0 : Int)])), (.var 18 (.ri .i64 x))], 0, []⟩))
def impl_CountTiles_ls5 (F : Nat) : LoopS := ⟨28, [1, 2, 4, 12, 13, 14], [], [2, 4], [], [2, 3], [], [], fun vals mem np killed => match vals, mem, np, killed with
  | [(.ptr 0 0 0 16), (.ptr 1 0 0 18), (.ptr 2 0 0 18), (.sl 3 0 q_t1210), (.int .i64 q_t1311), (.int .i64 t1412)], [(.var 16 (.ri .i64 b13)), (.var 18 (.ri .i64 q_t214)), (.var 18 (.ri .i64 out15)), (.vec 48 (.rr 2 q_t1216))], 0, [] => .br ((q_t1311 == (16 : Int)) && ((q_t214 == ([(0 : Int), (0 : Int), (0 : Int), (0 : Int), (0 : Int), (0 : Int), (0 : Int), (0 : Int), (0 : Int), (0 : Int), (0 : Int), (0 : Int), (0 : Int), (0 : Int), (0 : Int), (0 : Int), (0 : Int), (0 : Int)] : List Int)) && ((q_t1216 == ([[(0 : Int), (0 : Int)], [(0 : Int), (1 : Int)], [(0 : Int), (2 : Int)], [(0 : Int), (3 : Int)], [(1 : Int), (0 : Int)], [(1 : Int), (1 : Int)], [(1 : Int), (2 : Int)], [(1 : Int), (3 : Int)], [(2 : Int), (0 : Int)], [(2 : Int), (1 : Int)], [(2 : Int), (2 : Int)], [(2 : Int), (3 : Int)], [(3 : Int), (0 : Int)], [(3 : Int), (1 : Int)], [(3 : Int), (2 : Int)], [(3 : Int), (3 : Int)]] : List (List Int))) && ((Nat.beq q_t1210 16) && (impl_CountTiles_l5 F b13 t1412 out15).isSome)))) (impl_CountTiles_o5 b13 ((impl_CountTiles_l5 F b13 t1412 out15).getD default)) .fail
  | _, _, _, _ => .fail⟩
theorem impl_CountTiles_step5 (F : Nat) (b13 : List Int) (t1412 : Int) (out15 : List Int) {R : Type} (k : Out → Option R) : stepS tt (impl_CountTiles_tab F) (impl_CountTiles_LS0 F) 70 (impl_CountTiles_ls5 F) (loopAt 5 (bodyOf Try.f61)) (impl_CountTiles_st5 b13 t1412 out15) k = impl_CountTiles_s5 F b13 R (t1412, out15) (fun s => k (.norm (impl_CountTiles_st5 b13 s.1 s.2))) (fun x => (impl_CountTiles_o5 b13 x).run k) := by kernel_rfl
theorem impl_CountTiles_iter5 (F : Nat) (b13 : List Int) {R : Type} (k : Out → Option R) : ∀ (n : Nat) (t1412 : Int) (out15 : List Int), iterS tt (impl_CountTiles_tab F) (impl_CountTiles_LS0 F) 70 (impl_CountTiles_ls5 F) (loopAt 5 (bodyOf Try.f61)) n (impl_CountTiles_st5 b13 t1412 out15) k = loopC (impl_CountTiles_s5 F b13) n (t1412, out15) (fun x => (impl_CountTiles_o5 b13 x).run k)
  | 0, t1412, out15 => rfl
  | n + 1, t1412, out15 => (iterS_succ tt (impl_CountTiles_tab F) (impl_CountTiles_LS0 F) 70 (impl_CountTiles_ls5 F) (loopAt 5 (bodyOf Try.f61)) n (impl_CountTiles_st5 b13 t1412 out15) k).trans ((impl_CountTiles_step5 F b13 t1412 out15 (nextK (iterS tt (impl_CountTiles_tab F) (impl_CountTiles_LS0 F) 70 (impl_CountTiles_ls5 F) (loopAt 5 (bodyOf Try.f61)) n) k)).trans (congrArg (fun kn => impl_CountTiles_s5 F b13 R (t1412, out15) kn _) (funext (fun ⟨t1412, out15⟩ => impl_CountTiles_iter5 F b13 k n t1412 out15))))
theorem impl_CountTiles_lok5 (F : Nat) : LoopOK Try.prog (loopAt 5 (bodyOf Try.f61)) (impl_CountTiles_ls5 F) := by
  refine loopOK_of mixed ttok deep (impl_CountTiles_tabok F) (loopsOK_at (impl_CountTiles_lsok0 F) 5) (fuel := 70) fun R vals mem np killed k x h => ?_
  simp only [impl_CountTiles_ls5] at h
  split at h
  · rename_i q_t1210 q_t1311 t1412 b13 q_t214 out15 q_t1216
    simp only [GT.run] at h
    have hc := (cond_noneL h).1
    replace h := (cond_noneL h).2
    have hg := (and_split hc).1
    replace hc := (and_split hc).2
    obtain rfl := beq_int hg
    have hg := (and_split hc).1
    replace hc := (and_split hc).2
    obtain rfl := beq_li hg
    have hg := (and_split hc).1
    replace hc := (and_split hc).2
    obtain rfl := beq_lli hg
    have hg := (and_split hc).1
    replace hc := (and_split hc).2
    obtain rfl := nbeq_nat hg
    refine ⟨F, (impl_CountTiles_iter5 F b13 k F t1412 out15).trans ((loopC_use (impl_CountTiles_s5_nat F b13) hc _).trans h)⟩
  · simp only [GT.run] at h
    cases h
noncomputable def impl_CountTiles_LS1 (F : Nat) : LT := (5, impl_CountTiles_ls5 F) :: impl_CountTiles_LS0 F
theorem impl_CountTiles_lsok1 (F : Nat) : LoopsOK Try.prog (impl_CountTiles_LS1 F) (bodyOf Try.f61) := loopsOK_cons impl_CountTiles_keys (impl_CountTiles_lok5 F) (impl_CountTiles_lsok0 F)
theorem impl_CountTiles_run (F : Nat) (b0 : List Int) : runS tt (impl_CountTiles_tab F) (impl_CountTiles_LS1 F) [] [] Try.f61 (bodyOf Try.f61) 70 [(.ints 16 b0)] [] = impl_CountTiles_c _ F b0 (fun r => some ⟨(.tup [(.ints 18 r.1), (.bool r.2)]), [], []⟩) := by kernel_rfl
def impl_CountTiles_ent (F : Nat) : Ent := ⟨[], .quiet, fun args mem => match args, mem with
  | [(.ints 16 b0)], [] => some ((impl_CountTiles_p F b0).isSome, ⟨(.tup [(.ints 18 ((impl_CountTiles_p F b0).getD default).1), (.bool ((impl_CountTiles_p F b0).getD default).2)]), [], []⟩)
  | _, _ => none⟩
theorem impl_CountTiles_fok : FunOK Try.prog 61 := funOK Try.func61 (by kernel_rfl) rfl
theorem impl_CountTiles_meets (F : Nat) : Meets Try.prog 61 (impl_CountTiles_ent F) := by
  refine meets_of_runS mixed ttok deep (impl_CountTiles_tabok F) Try.func61 (body_some rfl) (impl_CountTiles_lsok1 F) fun args mem hfit ret h => ?_
  clear hfit
  simp only [impl_CountTiles_ent] at h
  split at h
  · rename_i b0
    simp only [Option.some.injEq, Prod.mk.injEq] at h
    obtain ⟨hc, rfl⟩ := h
    exact ⟨[], [], 70, _, (impl_CountTiles_run F b0).trans ((impl_CountTiles_cp _ F b0 _).trans (bind_use hc _)), rfl, rfl, rfl⟩
  · cases h

/-! loop.example/g01194/impl.IsPackedBoard$1 -/
noncomputable def impl_IsPackedBoard_f1_tab (F : Nat) : Tab := []
theorem impl_IsPackedBoard_f1_tabok (F : Nat) : TabOK Try.prog (impl_IsPackedBoard_f1_tab F) := tab_nil
noncomputable def impl_IsPackedBoard_f1_LS0 (F : Nat) : LT := []
theorem impl_IsPackedBoard_f1_lsok0 (F : Nat) : LoopsOK Try.prog (impl_IsPackedBoard_f1_LS0 F) (bodyOf Try.f63) := loopsOK_nil
theorem impl_IsPackedBoard_f1_run (F : Nat) (n0 : Int) : runS tt (impl_IsPackedBoard_f1_tab F) (impl_IsPackedBoard_f1_LS0 F) [] [] Try.f63 (bodyOf Try.f63) 70 [(.int .i64 n0)] [] = impl_IsPackedBoard_f1_c _ n0 (fun r => some ⟨(.bool r), [], []⟩) := by kernel_rfl
def impl_IsPackedBoard_f1_ent (F : Nat) : Ent := ⟨[], .quiet, fun args mem => match args, mem with
  | [(.int .i64 n0)], [] => some (true, ⟨(.bool (impl_IsPackedBoard_f1_v n0)), [], []⟩)
  | _, _ => none⟩
theorem impl_IsPackedBoard_f1_fok : FunOK Try.prog 63 := funOK Try.func63 (by kernel_rfl) rfl
theorem impl_IsPackedBoard_f1_meets (F : Nat) : Meets Try.prog 63 (impl_IsPackedBoard_f1_ent F) := by
  refine meets_of_runS mixed ttok deep (impl_IsPackedBoard_f1_tabok F) Try.func63 (body_some rfl) (impl_IsPackedBoard_f1_lsok0 F) fun args mem hfit ret h => ?_
  clear hfit
  simp only [impl_IsPackedBoard_f1_ent] at h
  split at h
  · rename_i n0
    simp only [Option.some.injEq, Prod.mk.injEq] at h
    obtain ⟨hc, rfl⟩ := h
    exact ⟨[], [], 70, _, (impl_IsPackedBoard_f1_run F n0).trans (impl_IsPackedBoard_f1_cv _ n0 _), rfl, rfl, rfl⟩
  · cases h

/-! slices.IndexFunc[[]int,int] -/
noncomputable def slices_IndexFunc_intint_impl_IsPackedBoard_f1_tab (F : Nat) : Tab := [(63, (impl_IsPackedBoard_f1_ent F))]
theorem slices_IndexFunc_intint_impl_IsPackedBoard_f1_tabok (F : Nat) : TabOK Try.prog (slices_IndexFunc_intint_impl_IsPackedBoard_f1_tab F) := (tab_cons (impl_IsPackedBoard_f1_meets F) impl_IsPackedBoard_f1_fok tab_nil)
noncomputable def slices_IndexFunc_intint_impl_IsPackedBoard_f1_LS0 (F : Nat) : LT := []
theorem slices_IndexFunc_intint_impl_IsPackedBoard_f1_lsok0 (F : Nat) : LoopsOK Try.prog (slices_IndexFunc_intint_impl_IsPackedBoard_f1_LS0 F) (bodyOf Try.f93) := loopsOK_nil
theorem slices_IndexFunc_intint_impl_IsPackedBoard_f1_keys : keysOK (bodyOf Try.f93) = true := by kernel_rfl
def slices_IndexFunc_intint_impl_IsPackedBoard_f1_st2 (s0 : List Int) (t71 : Int) (t82 : Int) : St := ⟨expand 19 0 [0, 1, 7, 8] [(.ri .i64 s0), (.fn 63 [] []), (.int .i64 t71), (.int .i64 t82)], [], 0, []⟩
def slices_IndexFunc_intint_impl_IsPackedBoard_f1_o2 (s0 : List Int) (t71 : Int) (x : Bool × Int) : GT := (.br x.1 (.out (.ret ⟨expand 19 0 [4] [(.int .i64 x.2)], [], 0, []⟩)) (.out (.exit 0 ⟨expand 19 0 [] [], [], 0, []⟩)))
def slices_IndexFunc_intint_impl_IsPackedBoard_f1_ls2 (F : Nat) : LoopS := ⟨19, [0, 1, 7, 8], [], [], [], [4], [], [], fun vals mem np killed => match vals, mem, np, killed with
  | [(.ri .i64 s0), (.fn 63 [] []), (.int .i64 t71), (.int .i64 t82)], [], 0, [] => .br (slices_IndexFunc_intint_impl_IsPackedBoard_f1_l2 F s0 t71 t82).isSome (slices_IndexFunc_intint_impl_IsPackedBoard_f1_o2 s0 t71 ((slices_IndexFunc_intint_impl_IsPackedBoard_f1_l2 F s0 t71 t82).getD default)) .fail
  | _, _, _, _ => .fail⟩
theorem slices_IndexFunc_intint_impl_IsPackedBoard_f1_step2 (F : Nat) (s0 : List Int) (t71 : Int) (t82 : Int) {R : Type} (k : Out → Option R) : stepS tt (slices_IndexFunc_intint_impl_IsPackedBoard_f1_tab F) (slices_IndexFunc_intint_impl_IsPackedBoard_f1_LS0 F) 70 (slices_IndexFunc_intint_impl_IsPackedBoard_f1_ls2 F) (loopAt 2 (bodyOf Try.f93)) (slices_IndexFunc_intint_impl_IsPackedBoard_f1_st2 s0 t71 t82) k = slices_IndexFunc_intint_impl_IsPackedBoard_f1_s2 F s0 t71 R t82 (fun s => k (.norm (slices_IndexFunc_intint_impl_IsPackedBoard_f1_st2 s0 t71 s))) (fun x => (slices_IndexFunc_intint_impl_IsPackedBoard_f1_o2 s0 t71 x).run k) := by kernel_rfl
theorem slices_IndexFunc_intint_impl_IsPackedBoard_f1_iter2 (F : Nat) (s0 : List Int) (t71 : Int) {R : Type} (k : Out → Option R) : ∀ (n : Nat) (t82 : Int), iterS tt (slices_IndexFunc_intint_impl_IsPackedBoard_f1_tab F) (slices_IndexFunc_intint_impl_IsPackedBoard_f1_LS0 F) 70 (slices_IndexFunc_intint_impl_IsPackedBoard_f1_ls2 F) (loopAt 2 (bodyOf Try.f93)) n (slices_IndexFunc_intint_impl_IsPackedBoard_f1_st2 s0 t71 t82) k = loopC (slices_IndexFunc_intint_impl_IsPackedBoard_f1_s2 F s0 t71) n t82 (fun x => (slices_IndexFunc_intint_impl_IsPackedBoard_f1_o2 s0 t71 x).run k)
  | 0, t82 => rfl
  | n + 1, t82 => (iterS_succ tt (slices_IndexFunc_intint_impl_IsPackedBoard_f1_tab F) (slices_IndexFunc_intint_impl_IsPackedBoard_f1_LS0 F) 70 (slices_IndexFunc_intint_impl_IsPackedBoard_f1_ls2 F) (loopAt 2 (bodyOf Try.f93)) n (slices_IndexFunc_intint_impl_IsPackedBoard_f1_st2 s0 t71 t82) k).trans ((slices_IndexFunc_intint_impl_IsPackedBoard_f1_step2 F s0 t71 t82 (nextK (iterS tt (slices_IndexFunc_intint_impl_IsPackedBoard_f1_tab F) (slices_IndexFunc_intint_impl_IsPackedBoard_f1_LS0 F) 70 (slices_IndexFunc_intint_impl_IsPackedBoard_f1_ls2 F) (loopAt 2 (bodyOf Try.f93)) n) k)).trans (congrArg (fun kn => slices_IndexFunc_intint_impl_IsPackedBoard_f1_s2 F s0 t71 R t82 kn _) (funext (fun t82 => slices_IndexFunc_intint_impl_IsPackedBoard_f1_iter2 F s0 t71 k n t82))))
theorem slices_IndexFunc_intint_impl_IsPackedBoard_f1_lok2 (F : Nat) : LoopOK Try.prog (loopAt 2 (bodyOf Try.f93)) (slices_IndexFunc_intint_impl_IsPackedBoard_f1_ls2 F) := by
  refine loopOK_of mixed ttok deep (slices_IndexFunc_intint_impl_IsPackedBoard_f1_tabok F) (loopsOK_at (slices_IndexFunc_intint_impl_IsPackedBoard_f1_lsok0 F) 2) (fuel := 70) fun R vals mem np killed k x h => ?_
  simp only [slices_IndexFunc_intint_impl_IsPackedBoard_f1_ls2] at h
  split at h
  · rename_i s0 t71 t82
    simp only [GT.run] at h
    have hc := (cond_noneL h).1
    replace h := (cond_noneL h).2
    refine ⟨F, (slices_IndexFunc_intint_impl_IsPackedBoard_f1_iter2 F s0 t71 k F t82).trans ((loopC_use (slices_IndexFunc_intint_impl_IsPackedBoard_f1_s2_nat F s0 t71) hc _).trans h)⟩
  · simp only [GT.run] at h
    cases h
noncomputable def slices_IndexFunc_intint_impl_IsPackedBoard_f1_LS1 (F : Nat) : LT := (2, slices_IndexFunc_intint_impl_IsPackedBoard_f1_ls2 F) :: slices_IndexFunc_intint_impl_IsPackedBoard_f1_LS0 F
theorem slices_IndexFunc_intint_impl_IsPackedBoard_f1_lsok1 (F : Nat) : LoopsOK Try.prog (slices_IndexFunc_intint_impl_IsPackedBoard_f1_LS1 F) (bodyOf Try.f93) := loopsOK_cons slices_IndexFunc_intint_impl_IsPackedBoard_f1_keys (slices_IndexFunc_intint_impl_IsPackedBoard_f1_lok2 F) (slices_IndexFunc_intint_impl_IsPackedBoard_f1_lsok0 F)
theorem slices_IndexFunc_intint_impl_IsPackedBoard_f1_run (F : Nat) (s0 : List Int) : runS tt (slices_IndexFunc_intint_impl_IsPackedBoard_f1_tab F) (slices_IndexFunc_intint_impl_IsPackedBoard_f1_LS1 F) [] [] Try.f93 (bodyOf Try.f93) 70 [(.ri .i64 s0), (.fn 63 [] [])] [] = slices_IndexFunc_intint_impl_IsPackedBoard_f1_c _ F s0 (fun r => some ⟨(.int .i64 r), [], []⟩) := by kernel_rfl
def slices_IndexFunc_intint_impl_IsPackedBoard_f1_ent (F : Nat) : Ent := ⟨[], .quiet, fun args mem => match args, mem with
  | [(.ri .i64 s0), (.fn 63 [] [])], [] => some ((slices_IndexFunc_intint_impl_IsPackedBoard_f1_p F s0).isSome, ⟨(.int .i64 ((slices_IndexFunc_intint_impl_IsPackedBoard_f1_p F s0).getD default)), [], []⟩)
  | _, _ => none⟩
theorem slices_IndexFunc_intint_impl_IsPackedBoard_f1_fok : FunOK Try.prog 93 := funOK Try.func93 (by kernel_rfl) rfl
theorem slices_IndexFunc_intint_impl_IsPackedBoard_f1_meets (F : Nat) : Meets Try.prog 93 (slices_IndexFunc_intint_impl_IsPackedBoard_f1_ent F) := by
  refine meets_of_runS mixed ttok deep (slices_IndexFunc_intint_impl_IsPackedBoard_f1_tabok F) Try.func93 (body_some rfl) (slices_IndexFunc_intint_impl_IsPackedBoard_f1_lsok1 F) fun args mem hfit ret h => ?_
  clear hfit
  simp only [slices_IndexFunc_intint_impl_IsPackedBoard_f1_ent] at h
  split at h
  · rename_i s0
    simp only [Option.some.injEq, Prod.mk.injEq] at h
    obtain ⟨hc, rfl⟩ := h
    exact ⟨[], [], 70, _, (slices_IndexFunc_intint_impl_IsPackedBoard_f1_run F s0).trans ((slices_IndexFunc_intint_impl_IsPackedBoard_f1_cp _ F s0 _).trans (bind_use hc _)), rfl, rfl, rfl⟩
  · cases h

/-! slices.ContainsFunc[[]int,int] -/
noncomputable def slices_ContainsFunc_intint_impl_IsPackedBoard_f1_tab (F : Nat) : Tab := [(93, (slices_IndexFunc_intint_impl_IsPackedBoard_f1_ent F))]
theorem slices_ContainsFunc_intint_impl_IsPackedBoard_f1_tabok (F : Nat) : TabOK Try.prog (slices_ContainsFunc_intint_impl_IsPackedBoard_f1_tab F) := (tab_cons (slices_IndexFunc_intint_impl_IsPackedBoard_f1_meets F) slices_IndexFunc_intint_impl_IsPackedBoard_f1_fok tab_nil)
noncomputable def slices_ContainsFunc_intint_impl_IsPackedBoard_f1_LS0 (F : Nat) : LT := []
theorem slices_ContainsFunc_intint_impl_IsPackedBoard_f1_lsok0 (F : Nat) : LoopsOK Try.prog (slices_ContainsFunc_intint_impl_IsPackedBoard_f1_LS0 F) (bodyOf Try.f62) := loopsOK_nil
theorem slices_ContainsFunc_intint_impl_IsPackedBoard_f1_run (F : Nat) (s0 : List Int) : runS tt (slices_ContainsFunc_intint_impl_IsPackedBoard_f1_tab F) (slices_ContainsFunc_intint_impl_IsPackedBoard_f1_LS0 F) [] [] Try.f62 (bodyOf Try.f62) 70 [(.ri .i64 s0), (.fn 63 [] [])] [] = slices_ContainsFunc_intint_impl_IsPackedBoard_f1_c _ F s0 (fun r => some ⟨(.bool r), [], []⟩) := by kernel_rfl
def slices_ContainsFunc_intint_impl_IsPackedBoard_f1_ent (F : Nat) : Ent := ⟨[], .quiet, fun args mem => match args, mem with
  | [(.ri .i64 s0), (.fn 63 [] [])], [] => some ((slices_ContainsFunc_intint_impl_IsPackedBoard_f1_p F s0).isSome, ⟨(.bool ((slices_ContainsFunc_intint_impl_IsPackedBoard_f1_p F s0).getD default)), [], []⟩)
  | _, _ => none⟩
theorem slices_ContainsFunc_intint_impl_IsPackedBoard_f1_fok : FunOK Try.prog 62 := funOK Try.func62 (by kernel_rfl) rfl
theorem slices_ContainsFunc_intint_impl_IsPackedBoard_f1_meets (F : Nat) : Meets Try.prog 62 (slices_ContainsFunc_intint_impl_IsPackedBoard_f1_ent F) := by
  refine meets_of_runS mixed ttok deep (slices_ContainsFunc_intint_impl_IsPackedBoard_f1_tabok F) Try.func62 (body_some rfl) (slices_ContainsFunc_intint_impl_IsPackedBoard_f1_lsok0 F) fun args mem hfit ret h => ?_
  clear hfit
  simp only [slices_ContainsFunc_intint_impl_IsPackedBoard_f1_ent] at h
  split at h
  · rename_i s0
    simp only [Option.some.injEq, Prod.mk.injEq] at h
    obtain ⟨hc, rfl⟩ := h
    exact ⟨[], [], 70, _, (slices_ContainsFunc_intint_impl_IsPackedBoard_f1_run F s0).trans ((slices_ContainsFunc_intint_impl_IsPackedBoard_f1_cp _ F s0 _).trans (bind_use hc _)), rfl, rfl, rfl⟩
  · cases h

/-! loop.example/g01194/impl.IsPackedBoard -/
noncomputable def impl_IsPackedBoard_tab (F : Nat) : Tab := [(61, (impl_CountTiles_ent F)), (62, (slices_ContainsFunc_intint_impl_IsPackedBoard_f1_ent F))]
theorem impl_IsPackedBoard_tabok (F : Nat) : TabOK Try.prog (impl_IsPackedBoard_tab F) := (tab_cons (impl_CountTiles_meets F) impl_CountTiles_fok (tab_cons (slices_ContainsFunc_intint_impl_IsPackedBoard_f1_meets F) slices_ContainsFunc_intint_impl_IsPackedBoard_f1_fok tab_nil))
noncomputable def impl_IsPackedBoard_LS0 (F : Nat) : LT := []
theorem impl_IsPackedBoard_lsok0 (F : Nat) : LoopsOK Try.prog (impl_IsPackedBoard_LS0 F) (bodyOf Try.f22) := loopsOK_nil
theorem impl_IsPackedBoard_run (F : Nat) (b0 : List Int) : runS tt (impl_IsPackedBoard_tab F) (impl_IsPackedBoard_LS0 F) [] [] Try.f22 (bodyOf Try.f22) 70 [(.ints 16 b0)] [] = impl_IsPackedBoard_c _ F b0 (fun r => some ⟨(.tup [(.bool r.1), (.bool r.2)]), [], []⟩) := by kernel_rfl
def impl_IsPackedBoard_ent (F : Nat) : Ent := ⟨[], .quiet, fun args mem => match args, mem with
  | [(.ints 16 b0)], [] => some ((impl_IsPackedBoard_p F b0).isSome, ⟨(.tup [(.bool ((impl_IsPackedBoard_p F b0).getD default).1), (.bool ((impl_IsPackedBoard_p F b0).getD default).2)]), [], []⟩)
  | _, _ => none⟩
theorem impl_IsPackedBoard_fok : FunOK Try.prog 22 := funOK Try.func22 (by kernel_rfl) rfl
theorem impl_IsPackedBoard_meets (F : Nat) : Meets Try.prog 22 (impl_IsPackedBoard_ent F) := by
  refine meets_of_runS mixed ttok deep (impl_IsPackedBoard_tabok F) Try.func22 (body_some rfl) (impl_IsPackedBoard_lsok0 F) fun args mem hfit ret h => ?_
  clear hfit
  simp only [impl_IsPackedBoard_ent] at h
  split at h
  · rename_i b0
    simp only [Option.some.injEq, Prod.mk.injEq] at h
    obtain ⟨hc, rfl⟩ := h
    exact ⟨[], [], 70, _, (impl_IsPackedBoard_run F b0).trans ((impl_IsPackedBoard_cp _ F b0 _).trans (bind_use hc _)), rfl, rfl, rfl⟩
  · cases h

/-! loop.example/g01194/laws.FnExactIsPackedBoard -/
noncomputable def laws_FnExactIsPackedBoard_tab (F : Nat) : Tab := [(21, (laws_toBoard_ent F)), (20, (spec_IsPackedBoard_ent F)), (22, (impl_IsPackedBoard_ent F))]
theorem laws_FnExactIsPackedBoard_tabok (F : Nat) : TabOK Try.prog (laws_FnExactIsPackedBoard_tab F) := (tab_cons (laws_toBoard_meets F) laws_toBoard_fok (tab_cons (spec_IsPackedBoard_meets F) spec_IsPackedBoard_fok (tab_cons (impl_IsPackedBoard_meets F) impl_IsPackedBoard_fok tab_nil)))
noncomputable def laws_FnExactIsPackedBoard_LS0 (F : Nat) : LT := []
theorem laws_FnExactIsPackedBoard_lsok0 (F : Nat) : LoopsOK Try.prog (laws_FnExactIsPackedBoard_LS0 F) (bodyOf Try.f5) := loopsOK_nil
theorem laws_FnExactIsPackedBoard_run (F : Nat) (aB0 : List Int) : runS tt (laws_FnExactIsPackedBoard_tab F) (laws_FnExactIsPackedBoard_LS0 F) [] [] Try.f5 (bodyOf Try.f5) 70 [(.ints 16 aB0)] [] = laws_FnExactIsPackedBoard_c _ F aB0 (fun r => some ⟨(.bool r), [], []⟩) := by kernel_rfl
def laws_FnExactIsPackedBoard_ent (F : Nat) : Ent := ⟨[], .quiet, fun args mem => match args, mem with
  | [(.ints 16 aB0)], [] => some ((laws_FnExactIsPackedBoard_p F aB0).isSome, ⟨(.bool ((laws_FnExactIsPackedBoard_p F aB0).getD default)), [], []⟩)
  | _, _ => none⟩
theorem laws_FnExactIsPackedBoard_fok : FunOK Try.prog 5 := funOK Try.func5 (by kernel_rfl) rfl
theorem laws_FnExactIsPackedBoard_meets (F : Nat) : Meets Try.prog 5 (laws_FnExactIsPackedBoard_ent F) := by
  refine meets_of_runS mixed ttok deep (laws_FnExactIsPackedBoard_tabok F) Try.func5 (body_some rfl) (laws_FnExactIsPackedBoard_lsok0 F) fun args mem hfit ret h => ?_
  clear hfit
  simp only [laws_FnExactIsPackedBoard_ent] at h
  split at h
  · rename_i aB0
    simp only [Option.some.injEq, Prod.mk.injEq] at h
    obtain ⟨hc, rfl⟩ := h
    exact ⟨[], [], 70, _, (laws_FnExactIsPackedBoard_run F aB0).trans ((laws_FnExactIsPackedBoard_cp _ F aB0 _).trans (bind_use hc _)), rfl, rfl, rfl⟩
  · cases h

/-! loop.example/g01194/spec.l2Sum -/
noncomputable def spec_l2Sum_tab (F : Nat) : Tab := [(90, (spec_l2Worth_ent F))]
theorem spec_l2Sum_tabok (F : Nat) : TabOK Try.prog (spec_l2Sum_tab F) := (tab_cons (spec_l2Worth_meets F) spec_l2Worth_fok tab_nil)
noncomputable def spec_l2Sum_LS0 (F : Nat) : LT := []
theorem spec_l2Sum_lsok0 (F : Nat) : LoopsOK Try.prog (spec_l2Sum_LS0 F) (bodyOf Try.f65) := loopsOK_nil
theorem spec_l2Sum_keys : keysOK (bodyOf Try.f65) = true := by kernel_rfl
def spec_l2Sum_st6 (r4 : Int) (b6 : List Int) (sum3 : Int) (c5 : Int) : St := ⟨expand 28 0 [1, 3, 4, 5] [(.ptr 0 0 0 16), (.int .i64 sum3), (.int .i64 r4), (.int .i64 c5)], [(.var 16 (.ri .i64 b6))], 0, []⟩
def spec_l2Sum_o6 (r4 : Int) (b6 : List Int) (x : Int) : GT := (.out (.exit 2 ⟨expand 28 0 [1, 3, 4] [(.ptr 0 0 0 16), (.int .i64 x), (.int .i64 r4)], [(.var 16 (.ri .i64 b6))], 0, []⟩))
def spec_l2Sum_ls6 (F : Nat) : LoopS := ⟨28, [1, 3, 4, 5], [], [1, 3, 4], [], [2], [], [], fun vals mem np killed => match vals, mem, np, killed with
  | [(.ptr 0 0 0 16), (.int .i64 sum3), (.int .i64 r4), (.int .i64 c5)], [(.var 16 (.ri .i64 b6))], 0, [] => .br (spec_l2Sum_l6 F r4 b6 sum3 c5).isSome (spec_l2Sum_o6 r4 b6 ((spec_l2Sum_l6 F r4 b6 sum3 c5).getD default)) .fail
  | _, _, _, _ => .fail⟩
theorem spec_l2Sum_step6 (F : Nat) (r4 : Int) (b6 : List Int) (sum3 : Int) (c5 : Int) {R : Type} (k : Out → Option R) : stepS tt (spec_l2Sum_tab F) (spec_l2Sum_LS0 F) 70 (spec_l2Sum_ls6 F) (loopAt 6 (bodyOf Try.f65)) (spec_l2Sum_st6 r4 b6 sum3 c5) k = spec_l2Sum_s6 F r4 b6 R (sum3, c5) (fun s => k (.norm (spec_l2Sum_st6 r4 b6 s.1 s.2))) (fun x => (spec_l2Sum_o6 r4 b6 x).run k) := by kernel_rfl
theorem spec_l2Sum_iter6 (F : Nat) (r4 : Int) (b6 : List Int) {R : Type} (k : Out → Option R) : ∀ (n : Nat) (sum3 : Int) (c5 : Int), iterS tt (spec_l2Sum_tab F) (spec_l2Sum_LS0 F) 70 (spec_l2Sum_ls6 F) (loopAt 6 (bodyOf Try.f65)) n (spec_l2Sum_st6 r4 b6 sum3 c5) k = loopC (spec_l2Sum_s6 F r4 b6) n (sum3, c5) (fun x => (spec_l2Sum_o6 r4 b6 x).run k)
  | 0, sum3, c5 => rfl
  | n + 1, sum3, c5 => (iterS_succ tt (spec_l2Sum_tab F) (spec_l2Sum_LS0 F) 70 (spec_l2Sum_ls6 F) (loopAt 6 (bodyOf Try.f65)) n (spec_l2Sum_st6 r4 b6 sum3 c5) k).trans ((spec_l2Sum_step6 F r4 b6 sum3 c5 (nextK (iterS tt (spec_l2Sum_tab F) (spec_l2Sum_LS0 F) 70 (spec_l2Sum_ls6 F) (loopAt 6 (bodyOf Try.f65)) n) k)).trans (congrArg (fun kn => spec_l2Sum_s6 F r4 b6 R (sum3, c5) kn _) (funext (fun ⟨sum3, c5⟩ => spec_l2Sum_iter6 F r4 b6 k n sum3 c5))))
theorem spec_l2Sum_lok6 (F : Nat) : LoopOK Try.prog (loopAt 6 (bodyOf Try.f65)) (spec_l2Sum_ls6 F) := by
  refine loopOK_of mixed ttok deep (spec_l2Sum_tabok F) (loopsOK_at (spec_l2Sum_lsok0 F) 6) (fuel := 70) fun R vals mem np killed k x h => ?_
  simp only [spec_l2Sum_ls6] at h
  split at h
  · rename_i sum3 r4 c5 b6
    simp only [GT.run] at h
    have hc := (cond_noneL h).1
    replace h := (cond_noneL h).2
    refine ⟨F, (spec_l2Sum_iter6 F r4 b6 k F sum3 c5).trans ((loopC_use (spec_l2Sum_s6_nat F r4 b6) hc _).trans h)⟩
  · simp only [GT.run] at h
    cases h
noncomputable def spec_l2Sum_LS1 (F : Nat) : LT := (6, spec_l2Sum_ls6 F) :: spec_l2Sum_LS0 F
theorem spec_l2Sum_lsok1 (F : Nat) : LoopsOK Try.prog (spec_l2Sum_LS1 F) (bodyOf Try.f65) := loopsOK_cons spec_l2Sum_keys (spec_l2Sum_lok6 F) (spec_l2Sum_lsok0 F)
def spec_l2Sum_st3 (b5 : List Int) (sum3 : Int) (r4 : Int) : St := ⟨expand 28 0 [1, 3, 4] [(.ptr 0 0 0 16), (.int .i64 sum3), (.int .i64 r4)], [(.var 16 (.ri .i64 b5))], 0, []⟩
def spec_l2Sum_o3 (b5 : List Int) (x : Int) : GT := (.out (.exit 0 ⟨expand 28 0 [3] [(.int .i64 x)], [], 0, []⟩))
def spec_l2Sum_ls3 (F : Nat) : LoopS := ⟨28, [1, 3, 4], [], [3], [], [2], [], [], fun vals mem np killed => match vals, mem, np, killed with
  | [(.ptr 0 0 0 16), (.int .i64 sum3), (.int .i64 r4)], [(.var 16 (.ri .i64 b5))], 0, [] => .br (spec_l2Sum_l3 F b5 sum3 r4).isSome (spec_l2Sum_o3 b5 ((spec_l2Sum_l3 F b5 sum3 r4).getD default)) .fail
  | _, _, _, _ => .fail⟩
theorem spec_l2Sum_step3 (F : Nat) (b5 : List Int) (sum3 : Int) (r4 : Int) {R : Type} (k : Out → Option R) : stepS tt (spec_l2Sum_tab F) (spec_l2Sum_LS1 F) 70 (spec_l2Sum_ls3 F) (loopAt 3 (bodyOf Try.f65)) (spec_l2Sum_st3 b5 sum3 r4) k = spec_l2Sum_s3 F b5 R (sum3, r4) (fun s => k (.norm (spec_l2Sum_st3 b5 s.1 s.2))) (fun x => (spec_l2Sum_o3 b5 x).run k) := by kernel_rfl
theorem spec_l2Sum_iter3 (F : Nat) (b5 : List Int) {R : Type} (k : Out → Option R) : ∀ (n : Nat) (sum3 : Int) (r4 : Int), iterS tt (spec_l2Sum_tab F) (spec_l2Sum_LS1 F) 70 (spec_l2Sum_ls3 F) (loopAt 3 (bodyOf Try.f65)) n (spec_l2Sum_st3 b5 sum3 r4) k = loopC (spec_l2Sum_s3 F b5) n (sum3, r4) (fun x => (spec_l2Sum_o3 b5 x).run k)
  | 0, sum3, r4 => rfl
  | n + 1, sum3, r4 => (iterS_succ tt (spec_l2Sum_tab F) (spec_l2Sum_LS1 F) 70 (spec_l2Sum_ls3 F) (loopAt 3 (bodyOf Try.f65)) n (spec_l2Sum_st3 b5 sum3 r4) k).trans ((spec_l2Sum_step3 F b5 sum3 r4 (nextK (iterS tt (spec_l2Sum_tab F) (spec_l2Sum_LS1 F) 70 (spec_l2Sum_ls3 F) (loopAt 3 (bodyOf Try.f65)) n) k)).trans (congrArg (fun kn => spec_l2Sum_s3 F b5 R (sum3, r4) kn _) (funext (fun ⟨sum3, r4⟩ => spec_l2Sum_iter3 F b5 k n sum3 r4))))
theorem spec_l2Sum_lok3 (F : Nat) : LoopOK Try.prog (loopAt 3 (bodyOf Try.f65)) (spec_l2Sum_ls3 F) := by
  refine loopOK_of mixed ttok deep (spec_l2Sum_tabok F) (loopsOK_at (spec_l2Sum_lsok1 F) 3) (fuel := 70) fun R vals mem np killed k x h => ?_
  simp only [spec_l2Sum_ls3] at h
  split at h
  · rename_i sum3 r4 b5
    simp only [GT.run] at h
    have hc := (cond_noneL h).1
    replace h := (cond_noneL h).2
    refine ⟨F, (spec_l2Sum_iter3 F b5 k F sum3 r4).trans ((loopC_use (spec_l2Sum_s3_nat F b5) hc _).trans h)⟩
  · simp only [GT.run] at h
    cases h
noncomputable def spec_l2Sum_LS2 (F : Nat) : LT := (3, spec_l2Sum_ls3 F) :: spec_l2Sum_LS1 F
theorem spec_l2Sum_lsok2 (F : Nat) : LoopsOK Try.prog (spec_l2Sum_LS2 F) (bodyOf Try.f65) := loopsOK_cons spec_l2Sum_keys (spec_l2Sum_lok3 F) (spec_l2Sum_lsok1 F)
theorem spec_l2Sum_run (F : Nat) (b0 : List Int) : runS tt (spec_l2Sum_tab F) (spec_l2Sum_LS2 F) [] [] Try.f65 (bodyOf Try.f65) 70 [(.ints 16 b0)] [] = spec_l2Sum_c _ F b0 (fun r => some ⟨(.int .i64 r), [], []⟩) := by kernel_rfl
def spec_l2Sum_ent (F : Nat) : Ent := ⟨[], .quiet, fun args mem => match args, mem with
  | [(.ints 16 b0)], [] => some ((spec_l2Sum_p F b0).isSome, ⟨(.int .i64 ((spec_l2Sum_p F b0).getD default)), [], []⟩)
  | _, _ => none⟩
theorem spec_l2Sum_fok : FunOK Try.prog 65 := funOK Try.func65 (by kernel_rfl) rfl
theorem spec_l2Sum_meets (F : Nat) : Meets Try.prog 65 (spec_l2Sum_ent F) := by
  refine meets_of_runS mixed ttok deep (spec_l2Sum_tabok F) Try.func65 (body_some rfl) (spec_l2Sum_lsok2 F) fun args mem hfit ret h => ?_
  clear hfit
  simp only [spec_l2Sum_ent] at h
  split at h
  · rename_i b0
    simp only [Option.some.injEq, Prod.mk.injEq] at h
    obtain ⟨hc, rfl⟩ := h
    exact ⟨[], [], 70, _, (spec_l2Sum_run F b0).trans ((spec_l2Sum_cp _ F b0 _).trans (bind_use hc _)), rfl, rfl, rfl⟩
  · cases h

/-! loop.example/g01194/spec.MovesBetween -/
noncomputable def spec_MovesBetween_tab (F : Nat) : Tab := [(64, (spec_l2Board_ent F)), (65, (spec_l2Sum_ent F))]
theorem spec_MovesBetween_tabok (F : Nat) : TabOK Try.prog (spec_MovesBetween_tab F) := (tab_cons (spec_l2Board_meets F) spec_l2Board_fok (tab_cons (spec_l2Sum_meets F) spec_l2Sum_fok tab_nil))
noncomputable def spec_MovesBetween_LS0 (F : Nat) : LT := []
theorem spec_MovesBetween_lsok0 (F : Nat) : LoopsOK Try.prog (spec_MovesBetween_LS0 F) (bodyOf Try.f23) := loopsOK_nil
theorem spec_MovesBetween_run (F : Nat) (a0 : List Int) (b1 : List Int) : runS tt (spec_MovesBetween_tab F) (spec_MovesBetween_LS0 F) [] [] Try.f23 (bodyOf Try.f23) 70 [(.ints 16 a0), (.ints 16 b1)] [] = spec_MovesBetween_c _ F a0 b1 (fun r => some ⟨(.tup [(.int .i64 r.1), (.int .i64 r.2.1), (.bool r.2.2)]), [], []⟩) := by kernel_rfl
def spec_MovesBetween_ent (F : Nat) : Ent := ⟨[], .quiet, fun args mem => match args, mem with
  | [(.ints 16 a0), (.ints 16 b1)], [] => some ((spec_MovesBetween_p F a0 b1).isSome, ⟨(.tup [(.int .i64 ((spec_MovesBetween_p F a0 b1).getD default).1), (.int .i64 ((spec_MovesBetween_p F a0 b1).getD default).2.1), (.bool ((spec_MovesBetween_p F a0 b1).getD default).2.2)]), [], []⟩)
  | _, _ => none⟩
theorem spec_MovesBetween_fok : FunOK Try.prog 23 := funOK Try.func23 (by kernel_rfl) rfl
theorem spec_MovesBetween_meets (F : Nat) : Meets Try.prog 23 (spec_MovesBetween_ent F) := by
  refine meets_of_runS mixed ttok deep (spec_MovesBetween_tabok F) Try.func23 (body_some rfl) (spec_MovesBetween_lsok0 F) fun args mem hfit ret h => ?_
  clear hfit
  simp only [spec_MovesBetween_ent] at h
  split at h
  · rename_i a0 b1
    simp only [Option.some.injEq, Prod.mk.injEq] at h
    obtain ⟨hc, rfl⟩ := h
    exact ⟨[], [], 70, _, (spec_MovesBetween_run F a0 b1).trans ((spec_MovesBetween_cp _ F a0 b1 _).trans (bind_use hc _)), rfl, rfl, rfl⟩
  · cases h

/-! loop.example/g01194/impl.worth -/
noncomputable def impl_worth_tab (F : Nat) : Tab := []
theorem impl_worth_tabok (F : Nat) : TabOK Try.prog (impl_worth_tab F) := tab_nil
noncomputable def impl_worth_LS0 (F : Nat) : LT := []
theorem impl_worth_lsok0 (F : Nat) : LoopsOK Try.prog (impl_worth_LS0 F) (bodyOf Try.f84) := loopsOK_nil
theorem impl_worth_run (F : Nat) (t0 : Int) : runS tt (impl_worth_tab F) (impl_worth_LS0 F) [] [] Try.f84 (bodyOf Try.f84) 70 [(.int .i64 t0)] [] = impl_worth_c _ t0 (fun r => some ⟨(.int .i64 r), [], []⟩) := by kernel_rfl
def impl_worth_ent (F : Nat) : Ent := ⟨[], .quiet, fun args mem => match args, mem with
  | [(.int .i64 t0)], [] => some ((impl_worth_p t0).isSome, ⟨(.int .i64 ((impl_worth_p t0).getD default)), [], []⟩)
  | _, _ => none⟩
theorem impl_worth_fok : FunOK Try.prog 84 := funOK Try.func84 (by kernel_rfl) rfl
theorem impl_worth_meets (F : Nat) : Meets Try.prog 84 (impl_worth_ent F) := by
  refine meets_of_runS mixed ttok deep (impl_worth_tabok F) Try.func84 (body_some rfl) (impl_worth_lsok0 F) fun args mem hfit ret h => ?_
  clear hfit
  simp only [impl_worth_ent] at h
  split at h
  · rename_i t0
    simp only [Option.some.injEq, Prod.mk.injEq] at h
    obtain ⟨hc, rfl⟩ := h
    exact ⟨[], [], 70, _, (impl_worth_run F t0).trans ((impl_worth_cp _ t0 _).trans (bind_use hc _)), rfl, rfl, rfl⟩
  · cases h

/-! (loop.example/g01194/impl.Board).sum -/
noncomputable def impl_Board_sum_tab (F : Nat) : Tab := [(82, (impl_cells_ent F)), (83, (impl_Board_at_ent F)), (84, (impl_worth_ent F))]
theorem impl_Board_sum_tabok (F : Nat) : TabOK Try.prog (impl_Board_sum_tab F) := (tab_cons (impl_cells_meets F) impl_cells_fok (tab_cons (impl_Board_at_meets F) impl_Board_at_fok (tab_cons (impl_worth_meets F) impl_worth_fok tab_nil)))
noncomputable def impl_Board_sum_LS0 (F : Nat) : LT := []
theorem impl_Board_sum_lsok0 (F : Nat) : LoopsOK Try.prog (impl_Board_sum_LS0 F) (bodyOf Try.f67) := loopsOK_nil
theorem impl_Board_sum_run (F : Nat) (b0 : List Int) : runS tt (impl_Board_sum_tab F) (impl_Board_sum_LS0 F) [] [] Try.f67 (bodyOf Try.f67) 70 [(.ints 16 b0)] [] = impl_Board_sum_c _ b0 (fun r => some ⟨(.int .i64 r), [], []⟩) := by kernel_rfl
def impl_Board_sum_ent (F : Nat) : Ent := ⟨[], .quiet, fun args mem => match args, mem with
  | [(.ints 16 b0)], [] => some ((impl_Board_sum_p b0).isSome, ⟨(.int .i64 ((impl_Board_sum_p b0).getD default)), [], []⟩)
  | _, _ => none⟩
theorem impl_Board_sum_fok : FunOK Try.prog 67 := funOK Try.func67 (by kernel_rfl) rfl
theorem impl_Board_sum_meets (F : Nat) : Meets Try.prog 67 (impl_Board_sum_ent F) := by
  refine meets_of_runS mixed ttok deep (impl_Board_sum_tabok F) Try.func67 (body_some rfl) (impl_Board_sum_lsok0 F) fun args mem hfit ret h => ?_
  clear hfit
  simp only [impl_Board_sum_ent] at h
  split at h
  · rename_i b0
    simp only [Option.some.injEq, Prod.mk.injEq] at h
    obtain ⟨hc, rfl⟩ := h
    exact ⟨[], [], 70, _, (impl_Board_sum_run F b0).trans ((impl_Board_sum_cp _ b0 _).trans (bind_use hc _)), rfl, rfl, rfl⟩
  · cases h
end Go.Proofs.Ytmdicfifhppjaaa
