/-
Pure functions and what the code of them does, by program; without conditions.
-/
import Derived.Test.YtabfliifleonaahQhP1
import Derived.Test.YtabfliifleonaahQhS0
namespace Go.Proofs.Ytabfliifleonaah
open Go Go.Lv Go.Lv.P Go.Proofs
set_option linter.unusedVariables false
set_option linter.unusedSimpArgs false
set_option maxRecDepth 100000
/-! slices.IndexFunc[[][4]int,[4]int] -/
noncomputable def slices_IndexFunc_4int4int_impl_IsBoard_f1_tab (F : Nat) : Tab := [(47, (impl_IsBoard_f1_ent F))]
theorem slices_IndexFunc_4int4int_impl_IsBoard_f1_tabok (F : Nat) : TabOK Try.prog (slices_IndexFunc_4int4int_impl_IsBoard_f1_tab F) := (tab_cons (impl_IsBoard_f1_meets F) impl_IsBoard_f1_fok tab_nil)
noncomputable def slices_IndexFunc_4int4int_impl_IsBoard_f1_LS0 (F : Nat) : LT := []
theorem slices_IndexFunc_4int4int_impl_IsBoard_f1_lsok0 (F : Nat) : LoopsOK Try.prog (slices_IndexFunc_4int4int_impl_IsBoard_f1_LS0 F) (bodyOf Try.f69) := loopsOK_nil
theorem slices_IndexFunc_4int4int_impl_IsBoard_f1_keys : keysOK (bodyOf Try.f69) = true := by kernel_rfl
def slices_IndexFunc_4int4int_impl_IsBoard_f1_st2 (s0 : List (List Int)) (t71 : Int) (t82 : Int) : St := ⟨expand 19 0 [0, 1, 7, 8] [(.rr 4 s0), (.fn 47 [] []), (.int .i64 t71), (.int .i64 t82)], [], 0, []⟩
def slices_IndexFunc_4int4int_impl_IsBoard_f1_o2 (s0 : List (List Int)) (t71 : Int) (x : Bool × Int) : GT := (.br x.1 (.out (.ret ⟨expand 19 0 [4] [(.int .i64 x.2)], [], 0, []⟩)) (.out (.exit 0 ⟨expand 19 0 [] [], [], 0, []⟩)))
def slices_IndexFunc_4int4int_impl_IsBoard_f1_ls2 (F : Nat) : LoopS := ⟨19, [0, 1, 7, 8], [], [], [], [4], [], [], fun vals mem np killed => match vals, mem, np, killed with
  | [(.rr 4 s0), (.fn 47 [] []), (.int .i64 t71), (.int .i64 t82)], [], 0, [] => .br (slices_IndexFunc_4int4int_impl_IsBoard_f1_l2 F s0 t71 t82).isSome (slices_IndexFunc_4int4int_impl_IsBoard_f1_o2 s0 t71 ((slices_IndexFunc_4int4int_impl_IsBoard_f1_l2 F s0 t71 t82).getD default)) .fail
  | _, _, _, _ => .fail⟩
theorem slices_IndexFunc_4int4int_impl_IsBoard_f1_step2 (F : Nat) (s0 : List (List Int)) (t71 : Int) (t82 : Int) {R : Type} (k : Out → Option R) : stepS tt (slices_IndexFunc_4int4int_impl_IsBoard_f1_tab F) (slices_IndexFunc_4int4int_impl_IsBoard_f1_LS0 F) 70 (slices_IndexFunc_4int4int_impl_IsBoard_f1_ls2 F) (loopAt 2 (bodyOf Try.f69)) (slices_IndexFunc_4int4int_impl_IsBoard_f1_st2 s0 t71 t82) k = slices_IndexFunc_4int4int_impl_IsBoard_f1_s2 F s0 t71 R t82 (fun s => k (.norm (slices_IndexFunc_4int4int_impl_IsBoard_f1_st2 s0 t71 s))) (fun x => (slices_IndexFunc_4int4int_impl_IsBoard_f1_o2 s0 t71 x).run k) := by kernel_rfl
theorem slices_IndexFunc_4int4int_impl_IsBoard_f1_iter2 (F : Nat) (s0 : List (List Int)) (t71 : Int) {R : Type} (k : Out → Option R) : ∀ (n : Nat) (t82 : Int), iterS tt (slices_IndexFunc_4int4int_impl_IsBoard_f1_tab F) (slices_IndexFunc_4int4int_impl_IsBoard_f1_LS0 F) 70 (slices_IndexFunc_4int4int_impl_IsBoard_f1_ls2 F) (loopAt 2 (bodyOf Try.f69)) n (slices_IndexFunc_4int4int_impl_IsBoard_f1_st2 s0 t71 t82) k = loopC (slices_IndexFunc_4int4int_impl_IsBoard_f1_s2 F s0 t71) n t82 (fun x => (slices_IndexFunc_4int4int_impl_IsBoard_f1_o2 s0 t71 x).run k)
  | 0, t82 => rfl
  | n + 1, t82 => (iterS_succ tt (slices_IndexFunc_4int4int_impl_IsBoard_f1_tab F) (slices_IndexFunc_4int4int_impl_IsBoard_f1_LS0 F) 70 (slices_IndexFunc_4int4int_impl_IsBoard_f1_ls2 F) (loopAt 2 (bodyOf Try.f69)) n (slices_IndexFunc_4int4int_impl_IsBoard_f1_st2 s0 t71 t82) k).trans ((slices_IndexFunc_4int4int_impl_IsBoard_f1_step2 F s0 t71 t82 (nextK (iterS tt (slices_IndexFunc_4int4int_impl_IsBoard_f1_tab F) (slices_IndexFunc_4int4int_impl_IsBoard_f1_LS0 F) 70 (slices_IndexFunc_4int4int_impl_IsBoard_f1_ls2 F) (loopAt 2 (bodyOf Try.f69)) n) k)).trans (congrArg (fun kn => slices_IndexFunc_4int4int_impl_IsBoard_f1_s2 F s0 t71 R t82 kn _) (funext (fun t82 => slices_IndexFunc_4int4int_impl_IsBoard_f1_iter2 F s0 t71 k n t82))))
theorem slices_IndexFunc_4int4int_impl_IsBoard_f1_lok2 (F : Nat) : LoopOK Try.prog (loopAt 2 (bodyOf Try.f69)) (slices_IndexFunc_4int4int_impl_IsBoard_f1_ls2 F) := by
  refine loopOK_of mixed ttok deep (slices_IndexFunc_4int4int_impl_IsBoard_f1_tabok F) (loopsOK_at (slices_IndexFunc_4int4int_impl_IsBoard_f1_lsok0 F) 2) (fuel := 70) fun R vals mem np killed k x h => ?_
  simp only [slices_IndexFunc_4int4int_impl_IsBoard_f1_ls2] at h
  split at h
  · rename_i s0 t71 t82
    simp only [GT.run] at h
    have hc := (cond_noneL h).1
    replace h := (cond_noneL h).2
    refine ⟨F, (slices_IndexFunc_4int4int_impl_IsBoard_f1_iter2 F s0 t71 k F t82).trans ((loopC_use (slices_IndexFunc_4int4int_impl_IsBoard_f1_s2_nat F s0 t71) hc _).trans h)⟩
  · simp only [GT.run] at h
    cases h
noncomputable def slices_IndexFunc_4int4int_impl_IsBoard_f1_LS1 (F : Nat) : LT := (2, slices_IndexFunc_4int4int_impl_IsBoard_f1_ls2 F) :: slices_IndexFunc_4int4int_impl_IsBoard_f1_LS0 F
theorem slices_IndexFunc_4int4int_impl_IsBoard_f1_lsok1 (F : Nat) : LoopsOK Try.prog (slices_IndexFunc_4int4int_impl_IsBoard_f1_LS1 F) (bodyOf Try.f69) := loopsOK_cons slices_IndexFunc_4int4int_impl_IsBoard_f1_keys (slices_IndexFunc_4int4int_impl_IsBoard_f1_lok2 F) (slices_IndexFunc_4int4int_impl_IsBoard_f1_lsok0 F)
theorem slices_IndexFunc_4int4int_impl_IsBoard_f1_run (F : Nat) (s0 : List (List Int)) : runS tt (slices_IndexFunc_4int4int_impl_IsBoard_f1_tab F) (slices_IndexFunc_4int4int_impl_IsBoard_f1_LS1 F) [] [] Try.f69 (bodyOf Try.f69) 70 [(.rr 4 s0), (.fn 47 [] [])] [] = slices_IndexFunc_4int4int_impl_IsBoard_f1_c _ F s0 (fun r => some ⟨(.int .i64 r), [], []⟩) := by kernel_rfl
def slices_IndexFunc_4int4int_impl_IsBoard_f1_ent (F : Nat) : Ent := ⟨[], .quiet, fun args mem => match args, mem with
  | [(.rr 4 s0), (.fn 47 [] [])], [] => some ((slices_IndexFunc_4int4int_impl_IsBoard_f1_p F s0).isSome, ⟨(.int .i64 ((slices_IndexFunc_4int4int_impl_IsBoard_f1_p F s0).getD default)), [], []⟩)
  | _, _ => none⟩
theorem slices_IndexFunc_4int4int_impl_IsBoard_f1_fok : FunOK Try.prog 69 := funOK Try.func69 (by kernel_rfl) rfl
theorem slices_IndexFunc_4int4int_impl_IsBoard_f1_meets (F : Nat) : Meets Try.prog 69 (slices_IndexFunc_4int4int_impl_IsBoard_f1_ent F) := by
  refine meets_of_runS mixed ttok deep (slices_IndexFunc_4int4int_impl_IsBoard_f1_tabok F) Try.func69 (body_some rfl) (slices_IndexFunc_4int4int_impl_IsBoard_f1_lsok1 F) fun args mem hfit ret h => ?_
  clear hfit
  simp only [slices_IndexFunc_4int4int_impl_IsBoard_f1_ent] at h
  split at h
  · rename_i s0
    simp only [Option.some.injEq, Prod.mk.injEq] at h
    obtain ⟨hc, rfl⟩ := h
    exact ⟨[], [], 70, _, (slices_IndexFunc_4int4int_impl_IsBoard_f1_run F s0).trans ((slices_IndexFunc_4int4int_impl_IsBoard_f1_cp _ F s0 _).trans (bind_use hc _)), rfl, rfl, rfl⟩
  · cases h

/-! slices.ContainsFunc[[][4]int,[4]int] -/
noncomputable def slices_ContainsFunc_4int4int_impl_IsBoard_f1_tab (F : Nat) : Tab := [(69, (slices_IndexFunc_4int4int_impl_IsBoard_f1_ent F))]
theorem slices_ContainsFunc_4int4int_impl_IsBoard_f1_tabok (F : Nat) : TabOK Try.prog (slices_ContainsFunc_4int4int_impl_IsBoard_f1_tab F) := (tab_cons (slices_IndexFunc_4int4int_impl_IsBoard_f1_meets F) slices_IndexFunc_4int4int_impl_IsBoard_f1_fok tab_nil)
noncomputable def slices_ContainsFunc_4int4int_impl_IsBoard_f1_LS0 (F : Nat) : LT := []
theorem slices_ContainsFunc_4int4int_impl_IsBoard_f1_lsok0 (F : Nat) : LoopsOK Try.prog (slices_ContainsFunc_4int4int_impl_IsBoard_f1_LS0 F) (bodyOf Try.f46) := loopsOK_nil
theorem slices_ContainsFunc_4int4int_impl_IsBoard_f1_run (F : Nat) (s0 : List (List Int)) : runS tt (slices_ContainsFunc_4int4int_impl_IsBoard_f1_tab F) (slices_ContainsFunc_4int4int_impl_IsBoard_f1_LS0 F) [] [] Try.f46 (bodyOf Try.f46) 70 [(.rr 4 s0), (.fn 47 [] [])] [] = slices_ContainsFunc_4int4int_impl_IsBoard_f1_c _ F s0 (fun r => some ⟨(.bool r), [], []⟩) := by kernel_rfl
def slices_ContainsFunc_4int4int_impl_IsBoard_f1_ent (F : Nat) : Ent := ⟨[], .quiet, fun args mem => match args, mem with
  | [(.rr 4 s0), (.fn 47 [] [])], [] => some ((slices_ContainsFunc_4int4int_impl_IsBoard_f1_p F s0).isSome, ⟨(.bool ((slices_ContainsFunc_4int4int_impl_IsBoard_f1_p F s0).getD default)), [], []⟩)
  | _, _ => none⟩
theorem slices_ContainsFunc_4int4int_impl_IsBoard_f1_fok : FunOK Try.prog 46 := funOK Try.func46 (by kernel_rfl) rfl
theorem slices_ContainsFunc_4int4int_impl_IsBoard_f1_meets (F : Nat) : Meets Try.prog 46 (slices_ContainsFunc_4int4int_impl_IsBoard_f1_ent F) := by
  refine meets_of_runS mixed ttok deep (slices_ContainsFunc_4int4int_impl_IsBoard_f1_tabok F) Try.func46 (body_some rfl) (slices_ContainsFunc_4int4int_impl_IsBoard_f1_lsok0 F) fun args mem hfit ret h => ?_
  clear hfit
  simp only [slices_ContainsFunc_4int4int_impl_IsBoard_f1_ent] at h
  split at h
  · rename_i s0
    simp only [Option.some.injEq, Prod.mk.injEq] at h
    obtain ⟨hc, rfl⟩ := h
    exact ⟨[], [], 70, _, (slices_ContainsFunc_4int4int_impl_IsBoard_f1_run F s0).trans ((slices_ContainsFunc_4int4int_impl_IsBoard_f1_cp _ F s0 _).trans (bind_use hc _)), rfl, rfl, rfl⟩
  · cases h

/-! loop.example/g01194/impl.IsBoard -/
noncomputable def impl_IsBoard_tab (F : Nat) : Tab := [(46, (slices_ContainsFunc_4int4int_impl_IsBoard_f1_ent F))]
theorem impl_IsBoard_tabok (F : Nat) : TabOK Try.prog (impl_IsBoard_tab F) := (tab_cons (slices_ContainsFunc_4int4int_impl_IsBoard_f1_meets F) slices_ContainsFunc_4int4int_impl_IsBoard_f1_fok tab_nil)
noncomputable def impl_IsBoard_LS0 (F : Nat) : LT := []
theorem impl_IsBoard_lsok0 (F : Nat) : LoopsOK Try.prog (impl_IsBoard_LS0 F) (bodyOf Try.f23) := loopsOK_nil
theorem impl_IsBoard_run (F : Nat) (b0 : List Int) : runS tt (impl_IsBoard_tab F) (impl_IsBoard_LS0 F) [] [] Try.f23 (bodyOf Try.f23) 70 [(.ints 16 b0)] [] = impl_IsBoard_c _ F b0 (fun r => some ⟨(.bool r), [], []⟩) := by kernel_rfl
def impl_IsBoard_ent (F : Nat) : Ent := ⟨[], .quiet, fun args mem => match args, mem with
  | [(.ints 16 b0)], [] => some ((impl_IsBoard_p F b0).isSome, ⟨(.bool ((impl_IsBoard_p F b0).getD default)), [], []⟩)
  | _, _ => none⟩
theorem impl_IsBoard_fok : FunOK Try.prog 23 := funOK Try.func23 (by kernel_rfl) rfl
theorem impl_IsBoard_meets (F : Nat) : Meets Try.prog 23 (impl_IsBoard_ent F) := by
  refine meets_of_runS mixed ttok deep (impl_IsBoard_tabok F) Try.func23 (body_some rfl) (impl_IsBoard_lsok0 F) fun args mem hfit ret h => ?_
  clear hfit
  simp only [impl_IsBoard_ent] at h
  split at h
  · rename_i b0
    simp only [Option.some.injEq, Prod.mk.injEq] at h
    obtain ⟨hc, rfl⟩ := h
    exact ⟨[], [], 70, _, (impl_IsBoard_run F b0).trans ((impl_IsBoard_cp _ F b0 _).trans (bind_use hc _)), rfl, rfl, rfl⟩
  · cases h

/-! loop.example/g01194/impl.isDirection -/
noncomputable def impl_isDirection_tab (F : Nat) : Tab := [(29, (impl_in_ent F))]
theorem impl_isDirection_tabok (F : Nat) : TabOK Try.prog (impl_isDirection_tab F) := (tab_cons (impl_in_meets F) impl_in_fok tab_nil)
noncomputable def impl_isDirection_LS0 (F : Nat) : LT := []
theorem impl_isDirection_lsok0 (F : Nat) : LoopsOK Try.prog (impl_isDirection_LS0 F) (bodyOf Try.f38) := loopsOK_nil
theorem impl_isDirection_run (F : Nat) (d0 : Int) : runS tt (impl_isDirection_tab F) (impl_isDirection_LS0 F) [] [] Try.f38 (bodyOf Try.f38) 70 [(.int .i64 d0)] [] = impl_isDirection_c _ d0 (fun r => some ⟨(.bool r), [], []⟩) := by kernel_rfl
def impl_isDirection_ent (F : Nat) : Ent := ⟨[], .quiet, fun args mem => match args, mem with
  | [(.int .i64 d0)], [] => some (true, ⟨(.bool (impl_isDirection_v d0)), [], []⟩)
  | _, _ => none⟩
theorem impl_isDirection_fok : FunOK Try.prog 38 := funOK Try.func38 (by kernel_rfl) rfl
theorem impl_isDirection_meets (F : Nat) : Meets Try.prog 38 (impl_isDirection_ent F) := by
  refine meets_of_runS mixed ttok deep (impl_isDirection_tabok F) Try.func38 (body_some rfl) (impl_isDirection_lsok0 F) fun args mem hfit ret h => ?_
  clear hfit
  simp only [impl_isDirection_ent] at h
  split at h
  · rename_i d0
    simp only [Option.some.injEq, Prod.mk.injEq] at h
    obtain ⟨hc, rfl⟩ := h
    exact ⟨[], [], 70, _, (impl_isDirection_run F d0).trans (impl_isDirection_cv _ d0 _), rfl, rfl, rfl⟩
  · cases h

/-! loop.example/g01194/impl.areDirections$1 -/
noncomputable def impl_areDirections_f1_tab (F : Nat) : Tab := [(38, (impl_isDirection_ent F))]
theorem impl_areDirections_f1_tabok (F : Nat) : TabOK Try.prog (impl_areDirections_f1_tab F) := (tab_cons (impl_isDirection_meets F) impl_isDirection_fok tab_nil)
noncomputable def impl_areDirections_f1_LS0 (F : Nat) : LT := []
theorem impl_areDirections_f1_lsok0 (F : Nat) : LoopsOK Try.prog (impl_areDirections_f1_LS0 F) (bodyOf Try.f50) := loopsOK_nil
theorem impl_areDirections_f1_run (F : Nat) (d0 : Int) : runS tt (impl_areDirections_f1_tab F) (impl_areDirections_f1_LS0 F) [] [] Try.f50 (bodyOf Try.f50) 70 [(.int .i64 d0)] [] = impl_areDirections_f1_c _ d0 (fun r => some ⟨(.bool r), [], []⟩) := by kernel_rfl
def impl_areDirections_f1_ent (F : Nat) : Ent := ⟨[], .quiet, fun args mem => match args, mem with
  | [(.int .i64 d0)], [] => some (true, ⟨(.bool (impl_areDirections_f1_v d0)), [], []⟩)
  | _, _ => none⟩
theorem impl_areDirections_f1_fok : FunOK Try.prog 50 := funOK Try.func50 (by kernel_rfl) rfl
theorem impl_areDirections_f1_meets (F : Nat) : Meets Try.prog 50 (impl_areDirections_f1_ent F) := by
  refine meets_of_runS mixed ttok deep (impl_areDirections_f1_tabok F) Try.func50 (body_some rfl) (impl_areDirections_f1_lsok0 F) fun args mem hfit ret h => ?_
  clear hfit
  simp only [impl_areDirections_f1_ent] at h
  split at h
  · rename_i d0
    simp only [Option.some.injEq, Prod.mk.injEq] at h
    obtain ⟨hc, rfl⟩ := h
    exact ⟨[], [], 70, _, (impl_areDirections_f1_run F d0).trans (impl_areDirections_f1_cv _ d0 _), rfl, rfl, rfl⟩
  · cases h

/-! slices.IndexFunc[[]int,int] -/
noncomputable def slices_IndexFunc_intint_impl_areDirections_f1_tab (F : Nat) : Tab := [(50, (impl_areDirections_f1_ent F))]
theorem slices_IndexFunc_intint_impl_areDirections_f1_tabok (F : Nat) : TabOK Try.prog (slices_IndexFunc_intint_impl_areDirections_f1_tab F) := (tab_cons (impl_areDirections_f1_meets F) impl_areDirections_f1_fok tab_nil)
noncomputable def slices_IndexFunc_intint_impl_areDirections_f1_LS0 (F : Nat) : LT := []
theorem slices_IndexFunc_intint_impl_areDirections_f1_lsok0 (F : Nat) : LoopsOK Try.prog (slices_IndexFunc_intint_impl_areDirections_f1_LS0 F) (bodyOf Try.f71) := loopsOK_nil
theorem slices_IndexFunc_intint_impl_areDirections_f1_keys : keysOK (bodyOf Try.f71) = true := by kernel_rfl
def slices_IndexFunc_intint_impl_areDirections_f1_st2 (s0 : List Int) (t71 : Int) (t82 : Int) : St := ⟨expand 19 0 [0, 1, 7, 8] [(.ri .i64 s0), (.fn 50 [] []), (.int .i64 t71), (.int .i64 t82)], [], 0, []⟩
def slices_IndexFunc_intint_impl_areDirections_f1_o2 (s0 : List Int) (t71 : Int) (x : Bool × Int) : GT := (.br x.1 (.out (.ret ⟨expand 19 0 [4] [(.int .i64 x.2)], [], 0, []⟩)) (.out (.exit 0 ⟨expand 19 0 [] [], [], 0, []⟩)))
def slices_IndexFunc_intint_impl_areDirections_f1_ls2 (F : Nat) : LoopS := ⟨19, [0, 1, 7, 8], [], [], [], [4], [], [], fun vals mem np killed => match vals, mem, np, killed with
  | [(.ri .i64 s0), (.fn 50 [] []), (.int .i64 t71), (.int .i64 t82)], [], 0, [] => .br (slices_IndexFunc_intint_impl_areDirections_f1_l2 F s0 t71 t82).isSome (slices_IndexFunc_intint_impl_areDirections_f1_o2 s0 t71 ((slices_IndexFunc_intint_impl_areDirections_f1_l2 F s0 t71 t82).getD default)) .fail
  | _, _, _, _ => .fail⟩
theorem slices_IndexFunc_intint_impl_areDirections_f1_step2 (F : Nat) (s0 : List Int) (t71 : Int) (t82 : Int) {R : Type} (k : Out → Option R) : stepS tt (slices_IndexFunc_intint_impl_areDirections_f1_tab F) (slices_IndexFunc_intint_impl_areDirections_f1_LS0 F) 70 (slices_IndexFunc_intint_impl_areDirections_f1_ls2 F) (loopAt 2 (bodyOf Try.f71)) (slices_IndexFunc_intint_impl_areDirections_f1_st2 s0 t71 t82) k = slices_IndexFunc_intint_impl_areDirections_f1_s2 F s0 t71 R t82 (fun s => k (.norm (slices_IndexFunc_intint_impl_areDirections_f1_st2 s0 t71 s))) (fun x => (slices_IndexFunc_intint_impl_areDirections_f1_o2 s0 t71 x).run k) := by kernel_rfl
theorem slices_IndexFunc_intint_impl_areDirections_f1_iter2 (F : Nat) (s0 : List Int) (t71 : Int) {R : Type} (k : Out → Option R) : ∀ (n : Nat) (t82 : Int), iterS tt (slices_IndexFunc_intint_impl_areDirections_f1_tab F) (slices_IndexFunc_intint_impl_areDirections_f1_LS0 F) 70 (slices_IndexFunc_intint_impl_areDirections_f1_ls2 F) (loopAt 2 (bodyOf Try.f71)) n (slices_IndexFunc_intint_impl_areDirections_f1_st2 s0 t71 t82) k = loopC (slices_IndexFunc_intint_impl_areDirections_f1_s2 F s0 t71) n t82 (fun x => (slices_IndexFunc_intint_impl_areDirections_f1_o2 s0 t71 x).run k)
  | 0, t82 => rfl
  | n + 1, t82 => (iterS_succ tt (slices_IndexFunc_intint_impl_areDirections_f1_tab F) (slices_IndexFunc_intint_impl_areDirections_f1_LS0 F) 70 (slices_IndexFunc_intint_impl_areDirections_f1_ls2 F) (loopAt 2 (bodyOf Try.f71)) n (slices_IndexFunc_intint_impl_areDirections_f1_st2 s0 t71 t82) k).trans ((slices_IndexFunc_intint_impl_areDirections_f1_step2 F s0 t71 t82 (nextK (iterS tt (slices_IndexFunc_intint_impl_areDirections_f1_tab F) (slices_IndexFunc_intint_impl_areDirections_f1_LS0 F) 70 (slices_IndexFunc_intint_impl_areDirections_f1_ls2 F) (loopAt 2 (bodyOf Try.f71)) n) k)).trans (congrArg (fun kn => slices_IndexFunc_intint_impl_areDirections_f1_s2 F s0 t71 R t82 kn _) (funext (fun t82 => slices_IndexFunc_intint_impl_areDirections_f1_iter2 F s0 t71 k n t82))))
theorem slices_IndexFunc_intint_impl_areDirections_f1_lok2 (F : Nat) : LoopOK Try.prog (loopAt 2 (bodyOf Try.f71)) (slices_IndexFunc_intint_impl_areDirections_f1_ls2 F) := by
  refine loopOK_of mixed ttok deep (slices_IndexFunc_intint_impl_areDirections_f1_tabok F) (loopsOK_at (slices_IndexFunc_intint_impl_areDirections_f1_lsok0 F) 2) (fuel := 70) fun R vals mem np killed k x h => ?_
  simp only [slices_IndexFunc_intint_impl_areDirections_f1_ls2] at h
  split at h
  · rename_i s0 t71 t82
    simp only [GT.run] at h
    have hc := (cond_noneL h).1
    replace h := (cond_noneL h).2
    refine ⟨F, (slices_IndexFunc_intint_impl_areDirections_f1_iter2 F s0 t71 k F t82).trans ((loopC_use (slices_IndexFunc_intint_impl_areDirections_f1_s2_nat F s0 t71) hc _).trans h)⟩
  · simp only [GT.run] at h
    cases h
noncomputable def slices_IndexFunc_intint_impl_areDirections_f1_LS1 (F : Nat) : LT := (2, slices_IndexFunc_intint_impl_areDirections_f1_ls2 F) :: slices_IndexFunc_intint_impl_areDirections_f1_LS0 F
theorem slices_IndexFunc_intint_impl_areDirections_f1_lsok1 (F : Nat) : LoopsOK Try.prog (slices_IndexFunc_intint_impl_areDirections_f1_LS1 F) (bodyOf Try.f71) := loopsOK_cons slices_IndexFunc_intint_impl_areDirections_f1_keys (slices_IndexFunc_intint_impl_areDirections_f1_lok2 F) (slices_IndexFunc_intint_impl_areDirections_f1_lsok0 F)
theorem slices_IndexFunc_intint_impl_areDirections_f1_run (F : Nat) (s0 : List Int) : runS tt (slices_IndexFunc_intint_impl_areDirections_f1_tab F) (slices_IndexFunc_intint_impl_areDirections_f1_LS1 F) [] [] Try.f71 (bodyOf Try.f71) 70 [(.ri .i64 s0), (.fn 50 [] [])] [] = slices_IndexFunc_intint_impl_areDirections_f1_c _ F s0 (fun r => some ⟨(.int .i64 r), [], []⟩) := by kernel_rfl
def slices_IndexFunc_intint_impl_areDirections_f1_ent (F : Nat) : Ent := ⟨[], .quiet, fun args mem => match args, mem with
  | [(.ri .i64 s0), (.fn 50 [] [])], [] => some ((slices_IndexFunc_intint_impl_areDirections_f1_p F s0).isSome, ⟨(.int .i64 ((slices_IndexFunc_intint_impl_areDirections_f1_p F s0).getD default)), [], []⟩)
  | _, _ => none⟩
theorem slices_IndexFunc_intint_impl_areDirections_f1_fok : FunOK Try.prog 71 := funOK Try.func71 (by kernel_rfl) rfl
theorem slices_IndexFunc_intint_impl_areDirections_f1_meets (F : Nat) : Meets Try.prog 71 (slices_IndexFunc_intint_impl_areDirections_f1_ent F) := by
  refine meets_of_runS mixed ttok deep (slices_IndexFunc_intint_impl_areDirections_f1_tabok F) Try.func71 (body_some rfl) (slices_IndexFunc_intint_impl_areDirections_f1_lsok1 F) fun args mem hfit ret h => ?_
  clear hfit
  simp only [slices_IndexFunc_intint_impl_areDirections_f1_ent] at h
  split at h
  · rename_i s0
    simp only [Option.some.injEq, Prod.mk.injEq] at h
    obtain ⟨hc, rfl⟩ := h
    exact ⟨[], [], 70, _, (slices_IndexFunc_intint_impl_areDirections_f1_run F s0).trans ((slices_IndexFunc_intint_impl_areDirections_f1_cp _ F s0 _).trans (bind_use hc _)), rfl, rfl, rfl⟩
  · cases h

/-! slices.ContainsFunc[[]int,int] -/
noncomputable def slices_ContainsFunc_intint_impl_areDirections_f1_tab (F : Nat) : Tab := [(71, (slices_IndexFunc_intint_impl_areDirections_f1_ent F))]
theorem slices_ContainsFunc_intint_impl_areDirections_f1_tabok (F : Nat) : TabOK Try.prog (slices_ContainsFunc_intint_impl_areDirections_f1_tab F) := (tab_cons (slices_IndexFunc_intint_impl_areDirections_f1_meets F) slices_IndexFunc_intint_impl_areDirections_f1_fok tab_nil)
noncomputable def slices_ContainsFunc_intint_impl_areDirections_f1_LS0 (F : Nat) : LT := []
theorem slices_ContainsFunc_intint_impl_areDirections_f1_lsok0 (F : Nat) : LoopsOK Try.prog (slices_ContainsFunc_intint_impl_areDirections_f1_LS0 F) (bodyOf Try.f49) := loopsOK_nil
theorem slices_ContainsFunc_intint_impl_areDirections_f1_run (F : Nat) (s0 : List Int) : runS tt (slices_ContainsFunc_intint_impl_areDirections_f1_tab F) (slices_ContainsFunc_intint_impl_areDirections_f1_LS0 F) [] [] Try.f49 (bodyOf Try.f49) 70 [(.ri .i64 s0), (.fn 50 [] [])] [] = slices_ContainsFunc_intint_impl_areDirections_f1_c _ F s0 (fun r => some ⟨(.bool r), [], []⟩) := by kernel_rfl
def slices_ContainsFunc_intint_impl_areDirections_f1_ent (F : Nat) : Ent := ⟨[], .quiet, fun args mem => match args, mem with
  | [(.ri .i64 s0), (.fn 50 [] [])], [] => some ((slices_ContainsFunc_intint_impl_areDirections_f1_p F s0).isSome, ⟨(.bool ((slices_ContainsFunc_intint_impl_areDirections_f1_p F s0).getD default)), [], []⟩)
  | _, _ => none⟩
theorem slices_ContainsFunc_intint_impl_areDirections_f1_fok : FunOK Try.prog 49 := funOK Try.func49 (by kernel_rfl) rfl
theorem slices_ContainsFunc_intint_impl_areDirections_f1_meets (F : Nat) : Meets Try.prog 49 (slices_ContainsFunc_intint_impl_areDirections_f1_ent F) := by
  refine meets_of_runS mixed ttok deep (slices_ContainsFunc_intint_impl_areDirections_f1_tabok F) Try.func49 (body_some rfl) (slices_ContainsFunc_intint_impl_areDirections_f1_lsok0 F) fun args mem hfit ret h => ?_
  clear hfit
  simp only [slices_ContainsFunc_intint_impl_areDirections_f1_ent] at h
  split at h
  · rename_i s0
    simp only [Option.some.injEq, Prod.mk.injEq] at h
    obtain ⟨hc, rfl⟩ := h
    exact ⟨[], [], 70, _, (slices_ContainsFunc_intint_impl_areDirections_f1_run F s0).trans ((slices_ContainsFunc_intint_impl_areDirections_f1_cp _ F s0 _).trans (bind_use hc _)), rfl, rfl, rfl⟩
  · cases h

/-! loop.example/g01194/impl.areDirections -/
noncomputable def impl_areDirections_tab (F : Nat) : Tab := [(49, (slices_ContainsFunc_intint_impl_areDirections_f1_ent F))]
theorem impl_areDirections_tabok (F : Nat) : TabOK Try.prog (impl_areDirections_tab F) := (tab_cons (slices_ContainsFunc_intint_impl_areDirections_f1_meets F) slices_ContainsFunc_intint_impl_areDirections_f1_fok tab_nil)
noncomputable def impl_areDirections_LS0 (F : Nat) : LT := []
theorem impl_areDirections_lsok0 (F : Nat) : LoopsOK Try.prog (impl_areDirections_LS0 F) (bodyOf Try.f24) := loopsOK_nil
theorem impl_areDirections_run (F : Nat) (list0 : List Int) : runS tt (impl_areDirections_tab F) (impl_areDirections_LS0 F) [] [] Try.f24 (bodyOf Try.f24) 70 [(.ri .i64 list0)] [] = impl_areDirections_c _ F list0 (fun r => some ⟨(.bool r), [], []⟩) := by kernel_rfl
def impl_areDirections_ent (F : Nat) : Ent := ⟨[], .quiet, fun args mem => match args, mem with
  | [(.ri .i64 list0)], [] => some ((impl_areDirections_p F list0).isSome, ⟨(.bool ((impl_areDirections_p F list0).getD default)), [], []⟩)
  | _, _ => none⟩
theorem impl_areDirections_fok : FunOK Try.prog 24 := funOK Try.func24 (by kernel_rfl) rfl
theorem impl_areDirections_meets (F : Nat) : Meets Try.prog 24 (impl_areDirections_ent F) := by
  refine meets_of_runS mixed ttok deep (impl_areDirections_tabok F) Try.func24 (body_some rfl) (impl_areDirections_lsok0 F) fun args mem hfit ret h => ?_
  clear hfit
  simp only [impl_areDirections_ent] at h
  split at h
  · rename_i list0
    simp only [Option.some.injEq, Prod.mk.injEq] at h
    obtain ⟨hc, rfl⟩ := h
    exact ⟨[], [], 70, _, (impl_areDirections_run F list0).trans ((impl_areDirections_cp _ F list0 _).trans (bind_use hc _)), rfl, rfl, rfl⟩
  · cases h

/-! loop.example/g01194/impl.lineCell -/
noncomputable def impl_lineCell_tab (F : Nat) : Tab := []
theorem impl_lineCell_tabok (F : Nat) : TabOK Try.prog (impl_lineCell_tab F) := tab_nil
noncomputable def impl_lineCell_LS0 (F : Nat) : LT := []
theorem impl_lineCell_lsok0 (F : Nat) : LoopsOK Try.prog (impl_lineCell_LS0 F) (bodyOf Try.f73) := loopsOK_nil
theorem impl_lineCell_run (F : Nat) (direction0 : Int) (i1 : Int) (k2 : Int) : runS tt (impl_lineCell_tab F) (impl_lineCell_LS0 F) [] [] Try.f73 (bodyOf Try.f73) 70 [(.int .i64 direction0), (.int .i64 i1), (.int .i64 k2)] [] = impl_lineCell_c _ direction0 i1 k2 (fun r => some ⟨(.ints 2 r), [], []⟩) := by kernel_rfl
def impl_lineCell_ent (F : Nat) : Ent := ⟨[], .quiet, fun args mem => match args, mem with
  | [(.int .i64 direction0), (.int .i64 i1), (.int .i64 k2)], [] => some (true, ⟨(.ints 2 (impl_lineCell_v direction0 i1 k2)), [], []⟩)
  | _, _ => none⟩
theorem impl_lineCell_fok : FunOK Try.prog 73 := funOK Try.func73 (by kernel_rfl) rfl
theorem impl_lineCell_meets (F : Nat) : Meets Try.prog 73 (impl_lineCell_ent F) := by
  refine meets_of_runS mixed ttok deep (impl_lineCell_tabok F) Try.func73 (body_some rfl) (impl_lineCell_lsok0 F) fun args mem hfit ret h => ?_
  clear hfit
  simp only [impl_lineCell_ent] at h
  split at h
  · rename_i direction0 i1 k2
    simp only [Option.some.injEq, Prod.mk.injEq] at h
    obtain ⟨hc, rfl⟩ := h
    exact ⟨[], [], 70, _, (impl_lineCell_run F direction0 i1 k2).trans (impl_lineCell_cv _ direction0 i1 k2 _), rfl, rfl, rfl⟩
  · cases h

/-! (*loop.example/g01194/impl.Board).at -/
noncomputable def impl_Board_at_tab (F : Nat) : Tab := []
theorem impl_Board_at_tabok (F : Nat) : TabOK Try.prog (impl_Board_at_tab F) := tab_nil
noncomputable def impl_Board_at_LS0 (F : Nat) : LT := []
theorem impl_Board_at_lsok0 (F : Nat) : LoopsOK Try.prog (impl_Board_at_LS0 F) (bodyOf Try.f58) := loopsOK_nil
theorem impl_Board_at_run (F : Nat) (cell3 : List Int) (b4 : List Int) : runS tt (impl_Board_at_tab F) (impl_Board_at_LS0 F) [] [] Try.f58 (bodyOf Try.f58) 70 [(.ptr 0 0 0 16), (.ints 2 cell3)] [(.var 16 (.ri .i64 b4))] = impl_Board_at_c _ cell3 b4 (fun r => some ⟨(.ptr 0 0 r 1), [(.var 16 (.ri .i64 b4))], []⟩) := by kernel_rfl
def impl_Board_at_ent (F : Nat) : Ent := ⟨[], .quiet, fun args mem => match args, mem with
  | [(.ptr 0 0 0 16), (.ints 2 cell3)], [(.var 16 (.ri .i64 b4))] => some ((impl_Board_at_p cell3 b4).isSome, ⟨(.ptr 0 0 ((impl_Board_at_p cell3 b4).getD default) 1), [], []⟩)
  | _, _ => none⟩
theorem impl_Board_at_fok : FunOK Try.prog 58 := funOK Try.func58 (by kernel_rfl) rfl
theorem impl_Board_at_meets (F : Nat) : Meets Try.prog 58 (impl_Board_at_ent F) := by
  refine meets_of_runS mixed ttok deep (impl_Board_at_tabok F) Try.func58 (body_some rfl) (impl_Board_at_lsok0 F) fun args mem hfit ret h => ?_
  clear hfit
  simp only [impl_Board_at_ent] at h
  split at h
  · rename_i cell3 b4
    simp only [Option.some.injEq, Prod.mk.injEq] at h
    obtain ⟨hc, rfl⟩ := h
    exact ⟨[], [], 70, _, (impl_Board_at_run F cell3 b4).trans ((impl_Board_at_cp _ cell3 b4 _).trans (bind_use hc _)), rfl, rfl, rfl⟩
  · cases h

/-! (loop.example/g01194/impl.Board).line -/
noncomputable def impl_Board_line_tab (F : Nat) : Tab := [(73, (impl_lineCell_ent F)), (58, (impl_Board_at_ent F))]
theorem impl_Board_line_tabok (F : Nat) : TabOK Try.prog (impl_Board_line_tab F) := (tab_cons (impl_lineCell_meets F) impl_lineCell_fok (tab_cons (impl_Board_at_meets F) impl_Board_at_fok tab_nil))
noncomputable def impl_Board_line_LS0 (F : Nat) : LT := []
theorem impl_Board_line_lsok0 (F : Nat) : LoopsOK Try.prog (impl_Board_line_LS0 F) (bodyOf Try.f52) := loopsOK_nil
theorem impl_Board_line_run (F : Nat) (b0 : List Int) (direction1 : Int) (i2 : Int) : runS tt (impl_Board_line_tab F) (impl_Board_line_LS0 F) [] [] Try.f52 (bodyOf Try.f52) 70 [(.ints 16 b0), (.int .i64 direction1), (.int .i64 i2)] [] = impl_Board_line_c _ b0 direction1 i2 (fun r => some ⟨(.ints 4 r), [], []⟩) := by kernel_rfl
def impl_Board_line_ent (F : Nat) : Ent := ⟨[], .quiet, fun args mem => match args, mem with
  | [(.ints 16 b0), (.int .i64 direction1), (.int .i64 i2)], [] => some ((impl_Board_line_p b0 direction1 i2).isSome, ⟨(.ints 4 ((impl_Board_line_p b0 direction1 i2).getD default)), [], []⟩)
  | _, _ => none⟩
theorem impl_Board_line_fok : FunOK Try.prog 52 := funOK Try.func52 (by kernel_rfl) rfl
theorem impl_Board_line_meets (F : Nat) : Meets Try.prog 52 (impl_Board_line_ent F) := by
  refine meets_of_runS mixed ttok deep (impl_Board_line_tabok F) Try.func52 (body_some rfl) (impl_Board_line_lsok0 F) fun args mem hfit ret h => ?_
  clear hfit
  simp only [impl_Board_line_ent] at h
  split at h
  · rename_i b0 direction1 i2
    simp only [Option.some.injEq, Prod.mk.injEq] at h
    obtain ⟨hc, rfl⟩ := h
    exact ⟨[], [], 70, _, (impl_Board_line_run F b0 direction1 i2).trans ((impl_Board_line_cp _ b0 direction1 i2 _).trans (bind_use hc _)), rfl, rfl, rfl⟩
  · cases h

/-! slices.Clone[[]int,int] -/
def slices_Clone_intint_ent (F : Nat) : Ent := ⟨[], .fresh, fun args mem => match args, mem with
  | [(.ri .i64 xs)], [] => some (fits xs.length 8, ⟨.sl 0 0 xs.length, [.vec 3 (.ri .i64 xs)], []⟩)
  | _, _ => none⟩
theorem slices_Clone_intint_fok : FunOK Try.prog 56 := funOK Try.func56 (by kernel_rfl) rfl
theorem slices_Clone_intint_meets (F : Nat) : Meets Try.prog 56 (slices_Clone_intint_ent F) := by
  have hb : Try.f56.body = some (.seq _ (.seq (.seq (.region _ #[_, _] false) _) _)) := rfl
  refine meets_nil (fuel := 70) (fn := Try.f56) mixed ttok deep tab_nil Try.func56 hb loopsOK_nil rfl rfl rfl rfl rfl rfl Try.underlying28 fun args mem hfit ret hg => ?_
  clear hfit
  simp only [slices_Clone_intint_ent] at hg
  split at hg
  · rename_i xs
    simp only [Option.some.injEq, Prod.mk.injEq] at hg
    obtain ⟨hc, rfl⟩ := hg
    refine ⟨⟨[(.ri .i64 xs), .undef, .z0, .undef, .undef, .undef, .undef, .undef], [], 0, []⟩, fun R k => by kernel_rfl, rfl, Nat.le_of_ble_eq_true rfl, fun b hb => ?_⟩
    cases b with
    | true =>
      obtain rfl : xs = [] := List.eq_nil_of_length_eq_zero (hb rfl)
      exact ⟨[⟨2, 3, (.ri .i64 [])⟩], [], _, (by kernel_rfl : _ = some ⟨.sl 0 0 0, [.vec 3 (.ri .i64 [])], []⟩), rfl, rfl, rfl⟩
    | false =>
      refine ⟨[], [], ⟨.sl 0 0 xs.length, [.vec 3 (.ri .i64 xs)], []⟩, Eq.trans (by kernel_rfl : _ = bif fits xs.length 8 then some (⟨.sl 0 0 xs.length, [.vec 3 (.ri .i64 xs)], []⟩ : Ret) else none) ?_, rfl, rfl, rfl⟩
      rw [hc]; rfl
  · cases hg

/-! loop.example/g01194/impl.tiles$1 -/
noncomputable def impl_tiles_f1_tab (F : Nat) : Tab := []
theorem impl_tiles_f1_tabok (F : Nat) : TabOK Try.prog (impl_tiles_f1_tab F) := tab_nil
noncomputable def impl_tiles_f1_LS0 (F : Nat) : LT := []
theorem impl_tiles_f1_lsok0 (F : Nat) : LoopsOK Try.prog (impl_tiles_f1_LS0 F) (bodyOf Try.f82) := loopsOK_nil
theorem impl_tiles_f1_run (F : Nat) (n0 : Int) : runS tt (impl_tiles_f1_tab F) (impl_tiles_f1_LS0 F) [] [] Try.f82 (bodyOf Try.f82) 70 [(.int .i64 n0)] [] = impl_tiles_f1_c _ n0 (fun r => some ⟨(.bool r), [], []⟩) := by kernel_rfl
def impl_tiles_f1_ent (F : Nat) : Ent := ⟨[], .quiet, fun args mem => match args, mem with
  | [(.int .i64 n0)], [] => some (true, ⟨(.bool (impl_tiles_f1_v n0)), [], []⟩)
  | _, _ => none⟩
theorem impl_tiles_f1_fok : FunOK Try.prog 82 := funOK Try.func82 (by kernel_rfl) rfl
theorem impl_tiles_f1_meets (F : Nat) : Meets Try.prog 82 (impl_tiles_f1_ent F) := by
  refine meets_of_runS mixed ttok deep (impl_tiles_f1_tabok F) Try.func82 (body_some rfl) (impl_tiles_f1_lsok0 F) fun args mem hfit ret h => ?_
  clear hfit
  simp only [impl_tiles_f1_ent] at h
  split at h
  · rename_i n0
    simp only [Option.some.injEq, Prod.mk.injEq] at h
    obtain ⟨hc, rfl⟩ := h
    exact ⟨[], [], 70, _, (impl_tiles_f1_run F n0).trans (impl_tiles_f1_cv _ n0 _), rfl, rfl, rfl⟩
  · cases h

/-! slices.IndexFunc[[]int,int] -/
noncomputable def slices_IndexFunc_intint_impl_tiles_f1_tab (F : Nat) : Tab := [(82, (impl_tiles_f1_ent F))]
theorem slices_IndexFunc_intint_impl_tiles_f1_tabok (F : Nat) : TabOK Try.prog (slices_IndexFunc_intint_impl_tiles_f1_tab F) := (tab_cons (impl_tiles_f1_meets F) impl_tiles_f1_fok tab_nil)
noncomputable def slices_IndexFunc_intint_impl_tiles_f1_LS0 (F : Nat) : LT := []
theorem slices_IndexFunc_intint_impl_tiles_f1_lsok0 (F : Nat) : LoopsOK Try.prog (slices_IndexFunc_intint_impl_tiles_f1_LS0 F) (bodyOf Try.f71) := loopsOK_nil
theorem slices_IndexFunc_intint_impl_tiles_f1_keys : keysOK (bodyOf Try.f71) = true := by kernel_rfl
def slices_IndexFunc_intint_impl_tiles_f1_st2 (s0 : List Int) (t71 : Int) (t82 : Int) : St := ⟨expand 19 0 [0, 1, 7, 8] [(.ri .i64 s0), (.fn 82 [] []), (.int .i64 t71), (.int .i64 t82)], [], 0, []⟩
def slices_IndexFunc_intint_impl_tiles_f1_o2 (s0 : List Int) (t71 : Int) (x : Bool × Int) : GT := (.br x.1 (.out (.ret ⟨expand 19 0 [4] [(.int .i64 x.2)], [], 0, []⟩)) (.out (.exit 0 ⟨expand 19 0 [] [], [], 0, []⟩)))
def slices_IndexFunc_intint_impl_tiles_f1_ls2 (F : Nat) : LoopS := ⟨19, [0, 1, 7, 8], [], [], [], [4], [], [], fun vals mem np killed => match vals, mem, np, killed with
  | [(.ri .i64 s0), (.fn 82 [] []), (.int .i64 t71), (.int .i64 t82)], [], 0, [] => .br (slices_IndexFunc_intint_impl_tiles_f1_l2 F s0 t71 t82).isSome (slices_IndexFunc_intint_impl_tiles_f1_o2 s0 t71 ((slices_IndexFunc_intint_impl_tiles_f1_l2 F s0 t71 t82).getD default)) .fail
  | _, _, _, _ => .fail⟩
theorem slices_IndexFunc_intint_impl_tiles_f1_step2 (F : Nat) (s0 : List Int) (t71 : Int) (t82 : Int) {R : Type} (k : Out → Option R) : stepS tt (slices_IndexFunc_intint_impl_tiles_f1_tab F) (slices_IndexFunc_intint_impl_tiles_f1_LS0 F) 70 (slices_IndexFunc_intint_impl_tiles_f1_ls2 F) (loopAt 2 (bodyOf Try.f71)) (slices_IndexFunc_intint_impl_tiles_f1_st2 s0 t71 t82) k = slices_IndexFunc_intint_impl_tiles_f1_s2 F s0 t71 R t82 (fun s => k (.norm (slices_IndexFunc_intint_impl_tiles_f1_st2 s0 t71 s))) (fun x => (slices_IndexFunc_intint_impl_tiles_f1_o2 s0 t71 x).run k) := by kernel_rfl
theorem slices_IndexFunc_intint_impl_tiles_f1_iter2 (F : Nat) (s0 : List Int) (t71 : Int) {R : Type} (k : Out → Option R) : ∀ (n : Nat) (t82 : Int), iterS tt (slices_IndexFunc_intint_impl_tiles_f1_tab F) (slices_IndexFunc_intint_impl_tiles_f1_LS0 F) 70 (slices_IndexFunc_intint_impl_tiles_f1_ls2 F) (loopAt 2 (bodyOf Try.f71)) n (slices_IndexFunc_intint_impl_tiles_f1_st2 s0 t71 t82) k = loopC (slices_IndexFunc_intint_impl_tiles_f1_s2 F s0 t71) n t82 (fun x => (slices_IndexFunc_intint_impl_tiles_f1_o2 s0 t71 x).run k)
  | 0, t82 => rfl
  | n + 1, t82 => (iterS_succ tt (slices_IndexFunc_intint_impl_tiles_f1_tab F) (slices_IndexFunc_intint_impl_tiles_f1_LS0 F) 70 (slices_IndexFunc_intint_impl_tiles_f1_ls2 F) (loopAt 2 (bodyOf Try.f71)) n (slices_IndexFunc_intint_impl_tiles_f1_st2 s0 t71 t82) k).trans ((slices_IndexFunc_intint_impl_tiles_f1_step2 F s0 t71 t82 (nextK (iterS tt (slices_IndexFunc_intint_impl_tiles_f1_tab F) (slices_IndexFunc_intint_impl_tiles_f1_LS0 F) 70 (slices_IndexFunc_intint_impl_tiles_f1_ls2 F) (loopAt 2 (bodyOf Try.f71)) n) k)).trans (congrArg (fun kn => slices_IndexFunc_intint_impl_tiles_f1_s2 F s0 t71 R t82 kn _) (funext (fun t82 => slices_IndexFunc_intint_impl_tiles_f1_iter2 F s0 t71 k n t82))))
theorem slices_IndexFunc_intint_impl_tiles_f1_lok2 (F : Nat) : LoopOK Try.prog (loopAt 2 (bodyOf Try.f71)) (slices_IndexFunc_intint_impl_tiles_f1_ls2 F) := by
  refine loopOK_of mixed ttok deep (slices_IndexFunc_intint_impl_tiles_f1_tabok F) (loopsOK_at (slices_IndexFunc_intint_impl_tiles_f1_lsok0 F) 2) (fuel := 70) fun R vals mem np killed k x h => ?_
  simp only [slices_IndexFunc_intint_impl_tiles_f1_ls2] at h
  split at h
  · rename_i s0 t71 t82
    simp only [GT.run] at h
    have hc := (cond_noneL h).1
    replace h := (cond_noneL h).2
    refine ⟨F, (slices_IndexFunc_intint_impl_tiles_f1_iter2 F s0 t71 k F t82).trans ((loopC_use (slices_IndexFunc_intint_impl_tiles_f1_s2_nat F s0 t71) hc _).trans h)⟩
  · simp only [GT.run] at h
    cases h
noncomputable def slices_IndexFunc_intint_impl_tiles_f1_LS1 (F : Nat) : LT := (2, slices_IndexFunc_intint_impl_tiles_f1_ls2 F) :: slices_IndexFunc_intint_impl_tiles_f1_LS0 F
theorem slices_IndexFunc_intint_impl_tiles_f1_lsok1 (F : Nat) : LoopsOK Try.prog (slices_IndexFunc_intint_impl_tiles_f1_LS1 F) (bodyOf Try.f71) := loopsOK_cons slices_IndexFunc_intint_impl_tiles_f1_keys (slices_IndexFunc_intint_impl_tiles_f1_lok2 F) (slices_IndexFunc_intint_impl_tiles_f1_lsok0 F)
theorem slices_IndexFunc_intint_impl_tiles_f1_run (F : Nat) (s0 : List Int) : runS tt (slices_IndexFunc_intint_impl_tiles_f1_tab F) (slices_IndexFunc_intint_impl_tiles_f1_LS1 F) [] [] Try.f71 (bodyOf Try.f71) 70 [(.ri .i64 s0), (.fn 82 [] [])] [] = slices_IndexFunc_intint_impl_tiles_f1_c _ F s0 (fun r => some ⟨(.int .i64 r), [], []⟩) := by kernel_rfl
def slices_IndexFunc_intint_impl_tiles_f1_ent (F : Nat) : Ent := ⟨[], .quiet, fun args mem => match args, mem with
  | [(.ri .i64 s0), (.fn 82 [] [])], [] => some ((slices_IndexFunc_intint_impl_tiles_f1_p F s0).isSome, ⟨(.int .i64 ((slices_IndexFunc_intint_impl_tiles_f1_p F s0).getD default)), [], []⟩)
  | _, _ => none⟩
theorem slices_IndexFunc_intint_impl_tiles_f1_fok : FunOK Try.prog 71 := funOK Try.func71 (by kernel_rfl) rfl
theorem slices_IndexFunc_intint_impl_tiles_f1_meets (F : Nat) : Meets Try.prog 71 (slices_IndexFunc_intint_impl_tiles_f1_ent F) := by
  refine meets_of_runS mixed ttok deep (slices_IndexFunc_intint_impl_tiles_f1_tabok F) Try.func71 (body_some rfl) (slices_IndexFunc_intint_impl_tiles_f1_lsok1 F) fun args mem hfit ret h => ?_
  clear hfit
  simp only [slices_IndexFunc_intint_impl_tiles_f1_ent] at h
  split at h
  · rename_i s0
    simp only [Option.some.injEq, Prod.mk.injEq] at h
    obtain ⟨hc, rfl⟩ := h
    exact ⟨[], [], 70, _, (slices_IndexFunc_intint_impl_tiles_f1_run F s0).trans ((slices_IndexFunc_intint_impl_tiles_f1_cp _ F s0 _).trans (bind_use hc _)), rfl, rfl, rfl⟩
  · cases h

/-! slices.DeleteFunc[[]int,int] -/
noncomputable def slices_DeleteFunc_intint_impl_tiles_f1_tab (F : Nat) : Tab := [(71, (slices_IndexFunc_intint_impl_tiles_f1_ent F)), (82, (impl_tiles_f1_ent F))]
theorem slices_DeleteFunc_intint_impl_tiles_f1_tabok (F : Nat) : TabOK Try.prog (slices_DeleteFunc_intint_impl_tiles_f1_tab F) := (tab_cons (slices_IndexFunc_intint_impl_tiles_f1_meets F) slices_IndexFunc_intint_impl_tiles_f1_fok (tab_cons (impl_tiles_f1_meets F) impl_tiles_f1_fok tab_nil))
noncomputable def slices_DeleteFunc_intint_impl_tiles_f1_LS0 (F : Nat) : LT := []
theorem slices_DeleteFunc_intint_impl_tiles_f1_lsok0 (F : Nat) : LoopsOK Try.prog (slices_DeleteFunc_intint_impl_tiles_f1_LS0 F) (bodyOf Try.f81) := loopsOK_nil
theorem slices_DeleteFunc_intint_impl_tiles_f1_keys : keysOK (bodyOf Try.f81) = true := by kernel_rfl
def slices_DeleteFunc_intint_impl_tiles_f1_st5 (s1 : Nat) (i2 : Int) (j3 : Int) (s4 : List Int) : St := ⟨expand 42 0 [0, 1, 5, 6] [(.sl 0 0 s1), (.fn 82 [] []), (.int .i64 i2), (.int .i64 j3)], [(.vec 3 (.ri .i64 s4))], 1, []⟩
def slices_DeleteFunc_intint_impl_tiles_f1_o5 (s1 : Nat) (x : Int × List Int) : GT := (.out (.exit 0 ⟨expand 42 0 [0, 5] [(.sl 0 0 s1), (.int .i64 x.1)], [(.vec 3 (.ri .i64 x.2))], 1, []⟩))
def slices_DeleteFunc_intint_impl_tiles_f1_ls5 (F : Nat) : LoopS := ⟨42, [0, 1, 5, 6], [], [0, 5], [], [4], [], [], fun vals mem np killed => match vals, mem, np, killed with
  | [(.sl 0 0 s1), (.fn 82 [] []), (.int .i64 i2), (.int .i64 j3)], [(.vec 3 (.ri .i64 s4))], 1, [] => .br (slices_DeleteFunc_intint_impl_tiles_f1_l5 F s1 i2 j3 s4).isSome (slices_DeleteFunc_intint_impl_tiles_f1_o5 s1 ((slices_DeleteFunc_intint_impl_tiles_f1_l5 F s1 i2 j3 s4).getD default)) .fail
  | _, _, _, _ => .fail⟩
theorem slices_DeleteFunc_intint_impl_tiles_f1_step5 (F : Nat) (s1 : Nat) (i2 : Int) (j3 : Int) (s4 : List Int) {R : Type} (k : Out → Option R) : stepS tt (slices_DeleteFunc_intint_impl_tiles_f1_tab F) (slices_DeleteFunc_intint_impl_tiles_f1_LS0 F) 70 (slices_DeleteFunc_intint_impl_tiles_f1_ls5 F) (loopAt 5 (bodyOf Try.f81)) (slices_DeleteFunc_intint_impl_tiles_f1_st5 s1 i2 j3 s4) k = slices_DeleteFunc_intint_impl_tiles_f1_s5 F s1 R (i2, j3, s4) (fun s => k (.norm (slices_DeleteFunc_intint_impl_tiles_f1_st5 s1 s.1 s.2.1 s.2.2))) (fun x => (slices_DeleteFunc_intint_impl_tiles_f1_o5 s1 x).run k) := by kernel_rfl
theorem slices_DeleteFunc_intint_impl_tiles_f1_iter5 (F : Nat) (s1 : Nat) {R : Type} (k : Out → Option R) : ∀ (n : Nat) (i2 : Int) (j3 : Int) (s4 : List Int), iterS tt (slices_DeleteFunc_intint_impl_tiles_f1_tab F) (slices_DeleteFunc_intint_impl_tiles_f1_LS0 F) 70 (slices_DeleteFunc_intint_impl_tiles_f1_ls5 F) (loopAt 5 (bodyOf Try.f81)) n (slices_DeleteFunc_intint_impl_tiles_f1_st5 s1 i2 j3 s4) k = loopC (slices_DeleteFunc_intint_impl_tiles_f1_s5 F s1) n (i2, j3, s4) (fun x => (slices_DeleteFunc_intint_impl_tiles_f1_o5 s1 x).run k)
  | 0, i2, j3, s4 => rfl
  | n + 1, i2, j3, s4 => (iterS_succ tt (slices_DeleteFunc_intint_impl_tiles_f1_tab F) (slices_DeleteFunc_intint_impl_tiles_f1_LS0 F) 70 (slices_DeleteFunc_intint_impl_tiles_f1_ls5 F) (loopAt 5 (bodyOf Try.f81)) n (slices_DeleteFunc_intint_impl_tiles_f1_st5 s1 i2 j3 s4) k).trans ((slices_DeleteFunc_intint_impl_tiles_f1_step5 F s1 i2 j3 s4 (nextK (iterS tt (slices_DeleteFunc_intint_impl_tiles_f1_tab F) (slices_DeleteFunc_intint_impl_tiles_f1_LS0 F) 70 (slices_DeleteFunc_intint_impl_tiles_f1_ls5 F) (loopAt 5 (bodyOf Try.f81)) n) k)).trans (congrArg (fun kn => slices_DeleteFunc_intint_impl_tiles_f1_s5 F s1 R (i2, j3, s4) kn _) (funext (fun ⟨i2, j3, s4⟩ => slices_DeleteFunc_intint_impl_tiles_f1_iter5 F s1 k n i2 j3 s4))))
theorem slices_DeleteFunc_intint_impl_tiles_f1_lok5 (F : Nat) : LoopOK Try.prog (loopAt 5 (bodyOf Try.f81)) (slices_DeleteFunc_intint_impl_tiles_f1_ls5 F) := by
  refine loopOK_of mixed ttok deep (slices_DeleteFunc_intint_impl_tiles_f1_tabok F) (loopsOK_at (slices_DeleteFunc_intint_impl_tiles_f1_lsok0 F) 5) (fuel := 70) fun R vals mem np killed k x h => ?_
  simp only [slices_DeleteFunc_intint_impl_tiles_f1_ls5] at h
  split at h
  · rename_i s1 i2 j3 s4
    simp only [GT.run] at h
    have hc := (cond_noneL h).1
    replace h := (cond_noneL h).2
    refine ⟨F, (slices_DeleteFunc_intint_impl_tiles_f1_iter5 F s1 k F i2 j3 s4).trans ((loopC_use (slices_DeleteFunc_intint_impl_tiles_f1_s5_nat F s1) hc _).trans h)⟩
  · simp only [GT.run] at h
    cases h
noncomputable def slices_DeleteFunc_intint_impl_tiles_f1_LS1 (F : Nat) : LT := (5, slices_DeleteFunc_intint_impl_tiles_f1_ls5 F) :: slices_DeleteFunc_intint_impl_tiles_f1_LS0 F
theorem slices_DeleteFunc_intint_impl_tiles_f1_lsok1 (F : Nat) : LoopsOK Try.prog (slices_DeleteFunc_intint_impl_tiles_f1_LS1 F) (bodyOf Try.f81) := loopsOK_cons slices_DeleteFunc_intint_impl_tiles_f1_keys (slices_DeleteFunc_intint_impl_tiles_f1_lok5 F) (slices_DeleteFunc_intint_impl_tiles_f1_lsok0 F)
theorem slices_DeleteFunc_intint_impl_tiles_f1_run (F : Nat) (s2 : List Int) : runS tt (slices_DeleteFunc_intint_impl_tiles_f1_tab F) (slices_DeleteFunc_intint_impl_tiles_f1_LS1 F) [] [] Try.f81 (bodyOf Try.f81) 70 [(.sl 0 0 (List.length s2)), (.fn 82 [] [])] [(.vec 3 (.ri .i64 s2))] = slices_DeleteFunc_intint_impl_tiles_f1_c _ F s2 (fun r => some ⟨(.sl 0 0 r.1), [(.vec 3 (.ri .i64 r.2))], []⟩) := by kernel_rfl
def slices_DeleteFunc_intint_impl_tiles_f1_ent (F : Nat) : Ent := ⟨[true], .loud, fun args mem => match args, mem with
  | [(.sl 0 0 q_s1), (.fn 82 [] [])], [(.vec 3 (.ri .i64 s2))] => some (((Nat.beq q_s1 (List.length s2)) && (slices_DeleteFunc_intint_impl_tiles_f1_p F s2).isSome), ⟨(.sl 0 0 ((slices_DeleteFunc_intint_impl_tiles_f1_p F s2).getD default).1), [(.vec 3 (.ri .i64 ((slices_DeleteFunc_intint_impl_tiles_f1_p F s2).getD default).2))], []⟩)
  | _, _ => none⟩
theorem slices_DeleteFunc_intint_impl_tiles_f1_fok : FunOK Try.prog 81 := funOK Try.func81 (by kernel_rfl) rfl
theorem slices_DeleteFunc_intint_impl_tiles_f1_meets (F : Nat) : Meets Try.prog 81 (slices_DeleteFunc_intint_impl_tiles_f1_ent F) := by
  refine meets_of_runS mixed ttok deep (slices_DeleteFunc_intint_impl_tiles_f1_tabok F) Try.func81 (body_some rfl) (slices_DeleteFunc_intint_impl_tiles_f1_lsok1 F) fun args mem hfit ret h => ?_
  clear hfit
  simp only [slices_DeleteFunc_intint_impl_tiles_f1_ent] at h
  split at h
  · rename_i q_s1 s2
    simp only [Option.some.injEq, Prod.mk.injEq] at h
    obtain ⟨hc, rfl⟩ := h
    have hg := (and_split hc).1
    replace hc := (and_split hc).2
    obtain rfl := nbeq_nat hg
    exact ⟨[], [], 70, _, (slices_DeleteFunc_intint_impl_tiles_f1_run F s2).trans ((slices_DeleteFunc_intint_impl_tiles_f1_cp _ F s2 _).trans (bind_use hc _)), rfl, rfl, rfl⟩
  · cases h

/-! loop.example/g01194/impl.tiles -/
noncomputable def impl_tiles_tab (F : Nat) : Tab := [(56, (slices_Clone_intint_ent F)), (81, (slices_DeleteFunc_intint_impl_tiles_f1_ent F))]
theorem impl_tiles_tabok (F : Nat) : TabOK Try.prog (impl_tiles_tab F) := (tab_cons (slices_Clone_intint_meets F) slices_Clone_intint_fok (tab_cons (slices_DeleteFunc_intint_impl_tiles_f1_meets F) slices_DeleteFunc_intint_impl_tiles_f1_fok tab_nil))
noncomputable def impl_tiles_LS0 (F : Nat) : LT := []
theorem impl_tiles_lsok0 (F : Nat) : LoopsOK Try.prog (impl_tiles_LS0 F) (bodyOf Try.f72) := loopsOK_nil
theorem impl_tiles_run (F : Nat) (row0 : List Int) : runS tt (impl_tiles_tab F) (impl_tiles_LS0 F) [] [] Try.f72 (bodyOf Try.f72) 70 [(.ints 4 row0)] [] = impl_tiles_c _ F row0 (fun r => some ⟨(.sl 0 0 r.1), [(.vec 3 (.ri .i64 r.2))], []⟩) := by kernel_rfl
def impl_tiles_ent (F : Nat) : Ent := ⟨[], .fresh, fun args mem => match args, mem with
  | [(.ints 4 row0)], [] => some ((impl_tiles_p F row0).isSome, ⟨(.sl 0 0 ((impl_tiles_p F row0).getD default).1), [(.vec 3 (.ri .i64 ((impl_tiles_p F row0).getD default).2))], []⟩)
  | _, _ => none⟩
theorem impl_tiles_fok : FunOK Try.prog 72 := funOK Try.func72 (by kernel_rfl) rfl
theorem impl_tiles_meets (F : Nat) : Meets Try.prog 72 (impl_tiles_ent F) := by
  refine meets_of_runS mixed ttok deep (impl_tiles_tabok F) Try.func72 (body_some rfl) (impl_tiles_lsok0 F) fun args mem hfit ret h => ?_
  clear hfit
  simp only [impl_tiles_ent] at h
  split at h
  · rename_i row0
    simp only [Option.some.injEq, Prod.mk.injEq] at h
    obtain ⟨hc, rfl⟩ := h
    exact ⟨[], [], 70, _, (impl_tiles_run F row0).trans ((impl_tiles_cp _ F row0 _).trans (bind_use hc _)), rfl, rfl, rfl⟩
  · cases h

/-! loop.example/g01194/impl.worth -/
noncomputable def impl_worth_tab (F : Nat) : Tab := []
theorem impl_worth_tabok (F : Nat) : TabOK Try.prog (impl_worth_tab F) := tab_nil
noncomputable def impl_worth_LS0 (F : Nat) : LT := []
theorem impl_worth_lsok0 (F : Nat) : LoopsOK Try.prog (impl_worth_LS0 F) (bodyOf Try.f62) := loopsOK_nil
theorem impl_worth_run (F : Nat) (t0 : Int) : runS tt (impl_worth_tab F) (impl_worth_LS0 F) [] [] Try.f62 (bodyOf Try.f62) 70 [(.int .i64 t0)] [] = impl_worth_c _ t0 (fun r => some ⟨(.int .i64 r), [], []⟩) := by kernel_rfl
def impl_worth_ent (F : Nat) : Ent := ⟨[], .quiet, fun args mem => match args, mem with
  | [(.int .i64 t0)], [] => some ((impl_worth_p t0).isSome, ⟨(.int .i64 ((impl_worth_p t0).getD default)), [], []⟩)
  | _, _ => none⟩
theorem impl_worth_fok : FunOK Try.prog 62 := funOK Try.func62 (by kernel_rfl) rfl
theorem impl_worth_meets (F : Nat) : Meets Try.prog 62 (impl_worth_ent F) := by
  refine meets_of_runS mixed ttok deep (impl_worth_tabok F) Try.func62 (body_some rfl) (impl_worth_lsok0 F) fun args mem hfit ret h => ?_
  clear hfit
  simp only [impl_worth_ent] at h
  split at h
  · rename_i t0
    simp only [Option.some.injEq, Prod.mk.injEq] at h
    obtain ⟨hc, rfl⟩ := h
    exact ⟨[], [], 70, _, (impl_worth_run F t0).trans ((impl_worth_cp _ t0 _).trans (bind_use hc _)), rfl, rfl, rfl⟩
  · cases h

/-! loop.example/g01194/impl.slideRow -/
noncomputable def impl_slideRow_tab (F : Nat) : Tab := [(72, (impl_tiles_ent F)), (62, (impl_worth_ent F))]
theorem impl_slideRow_tabok (F : Nat) : TabOK Try.prog (impl_slideRow_tab F) := (tab_cons (impl_tiles_meets F) impl_tiles_fok (tab_cons (impl_worth_meets F) impl_worth_fok tab_nil))
noncomputable def impl_slideRow_LS0 (F : Nat) : LT := []
theorem impl_slideRow_lsok0 (F : Nat) : LoopsOK Try.prog (impl_slideRow_LS0 F) (bodyOf Try.f51) := loopsOK_nil
theorem impl_slideRow_keys : keysOK (bodyOf Try.f51) = true := by kernel_rfl
def impl_slideRow_st3 (t1415 : Nat) (t1516 : Int) (t1422 : List Int) (score12 : Int) (many13 : Int) (t1617 : Int) (out20 : List Int) (merged21 : List Bool) : St := ⟨expand 63 0 [2, 4, 5, 6, 7, 8, 14, 15, 16] [(.ptr 0 0 0 4), (.ptr 1 0 0 4), (.ptr 2 0 0 4), (.ptr 3 0 0 4), (.int .i64 score12), (.int .i64 many13), (.sl 4 0 t1415), (.int .i64 t1516), (.int .i64 t1617)], [(.var 4 (.ri .i64 [(0 : Int), (0 : Int), (0 : Int), (0 : Int)])), (.var 4 (.rb [false, false, false, false])), (.var 4 (.ri .i64 out20)), (.var 4 (.rb merged21)), (.vec 3 (.ri .i64 t1422))], 0, []⟩
def impl_slideRow_o3 (t1415 : Nat) (t1516 : Int) (t1422 : List Int) (x : Int × List Int × List Bool) : GT := (.out (.exit 0 ⟨expand 63 0 [2, 4, 5, 6, 7] [(.ptr 0 0 0 4), (.ptr 1 0 0 4), (.ptr 2 0 0 4), (.ptr 3 0 0 4), (.int .i64 x.1)], [(.var 4 (.ri .i64 [(0 : Int), (0 : Int), (0 : Int), (0 : Int)])), (.var 4 (.rb [false, false, false, false])), (.var 4 (.ri .i64 x.2.1)), (.var 4 (.rb x.2.2))], 0, []⟩))
def impl_slideRow_ls3 (F : Nat) : LoopS := ⟨63, [2, 4, 5, 6, 7, 8, 14, 15, 16], [], [2, 4, 5, 6, 7], [], [2, 3, 4], [], [], fun vals mem np killed => match vals, mem, np, killed with
  | [(.ptr 0 0 0 4), (.ptr 1 0 0 4), (.ptr 2 0 0 4), (.ptr 3 0 0 4), (.int .i64 score12), (.int .i64 many13), (.sl 4 0 t1415), (.int .i64 t1516), (.int .i64 t1617)], [(.var 4 (.ri .i64 q_t218)), (.var 4 (.rb q_t419)), (.var 4 (.ri .i64 out20)), (.var 4 (.rb merged21)), (.vec 3 (.ri .i64 t1422))], 0, [] => .br ((q_t218 == ([(0 : Int), (0 : Int), (0 : Int), (0 : Int)] : List Int)) && ((q_t419 == ([false, false, false, false] : List Bool)) && (impl_slideRow_l3 F t1415 t1516 t1422 score12 many13 t1617 out20 merged21).isSome)) (impl_slideRow_o3 t1415 t1516 t1422 ((impl_slideRow_l3 F t1415 t1516 t1422 score12 many13 t1617 out20 merged21).getD default)) .fail
  | _, _, _, _ => .fail⟩
theorem impl_slideRow_step3 (F : Nat) (t1415 : Nat) (t1516 : Int) (t1422 : List Int) (score12 : Int) (many13 : Int) (t1617 : Int) (out20 : List Int) (merged21 : List Bool) {R : Type} (k : Out → Option R) : stepS tt (impl_slideRow_tab F) (impl_slideRow_LS0 F) 70 (impl_slideRow_ls3 F) (loopAt 3 (bodyOf Try.f51)) (impl_slideRow_st3 t1415 t1516 t1422 score12 many13 t1617 out20 merged21) k = impl_slideRow_s3 F t1415 t1516 t1422 R (score12, many13, t1617, out20, merged21) (fun s => k (.norm (impl_slideRow_st3 t1415 t1516 t1422 s.1 s.2.1 s.2.2.1 s.2.2.2.1 s.2.2.2.2))) (fun x => (impl_slideRow_o3 t1415 t1516 t1422 x).run k) := by kernel_rfl
theorem impl_slideRow_iter3 (F : Nat) (t1415 : Nat) (t1516 : Int) (t1422 : List Int) {R : Type} (k : Out → Option R) : ∀ (n : Nat) (score12 : Int) (many13 : Int) (t1617 : Int) (out20 : List Int) (merged21 : List Bool), iterS tt (impl_slideRow_tab F) (impl_slideRow_LS0 F) 70 (impl_slideRow_ls3 F) (loopAt 3 (bodyOf Try.f51)) n (impl_slideRow_st3 t1415 t1516 t1422 score12 many13 t1617 out20 merged21) k = loopC (impl_slideRow_s3 F t1415 t1516 t1422) n (score12, many13, t1617, out20, merged21) (fun x => (impl_slideRow_o3 t1415 t1516 t1422 x).run k)
  | 0, score12, many13, t1617, out20, merged21 => rfl
  | n + 1, score12, many13, t1617, out20, merged21 => (iterS_succ tt (impl_slideRow_tab F) (impl_slideRow_LS0 F) 70 (impl_slideRow_ls3 F) (loopAt 3 (bodyOf Try.f51)) n (impl_slideRow_st3 t1415 t1516 t1422 score12 many13 t1617 out20 merged21) k).trans ((impl_slideRow_step3 F t1415 t1516 t1422 score12 many13 t1617 out20 merged21 (nextK (iterS tt (impl_slideRow_tab F) (impl_slideRow_LS0 F) 70 (impl_slideRow_ls3 F) (loopAt 3 (bodyOf Try.f51)) n) k)).trans (congrArg (fun kn => impl_slideRow_s3 F t1415 t1516 t1422 R (score12, many13, t1617, out20, merged21) kn _) (funext (fun ⟨score12, many13, t1617, out20, merged21⟩ => impl_slideRow_iter3 F t1415 t1516 t1422 k n score12 many13 t1617 out20 merged21))))
theorem impl_slideRow_lok3 (F : Nat) : LoopOK Try.prog (loopAt 3 (bodyOf Try.f51)) (impl_slideRow_ls3 F) := by
  refine loopOK_of mixed ttok deep (impl_slideRow_tabok F) (loopsOK_at (impl_slideRow_lsok0 F) 3) (fuel := 70) fun R vals mem np killed k x h => ?_
  simp only [impl_slideRow_ls3] at h
  split at h
  · rename_i score12 many13 t1415 t1516 t1617 q_t218 q_t419 out20 merged21 t1422
    simp only [GT.run] at h
    have hc := (cond_noneL h).1
    replace h := (cond_noneL h).2
    have hg := (and_split hc).1
    replace hc := (and_split hc).2
    obtain rfl := beq_li hg
    have hg := (and_split hc).1
    replace hc := (and_split hc).2
    obtain rfl := beq_lb hg
    refine ⟨F, (impl_slideRow_iter3 F t1415 t1516 t1422 k F score12 many13 t1617 out20 merged21).trans ((loopC_use (impl_slideRow_s3_nat F t1415 t1516 t1422) hc _).trans h)⟩
  · simp only [GT.run] at h
    cases h
noncomputable def impl_slideRow_LS1 (F : Nat) : LT := (3, impl_slideRow_ls3 F) :: impl_slideRow_LS0 F
theorem impl_slideRow_lsok1 (F : Nat) : LoopsOK Try.prog (impl_slideRow_LS1 F) (bodyOf Try.f51) := loopsOK_cons impl_slideRow_keys (impl_slideRow_lok3 F) (impl_slideRow_lsok0 F)
theorem impl_slideRow_run (F : Nat) (row0 : List Int) : runS tt (impl_slideRow_tab F) (impl_slideRow_LS1 F) [] [] Try.f51 (bodyOf Try.f51) 70 [(.ints 4 row0)] [] = impl_slideRow_c _ F row0 (fun r => some ⟨(.tup [(.ints 4 r.1), (.int .i64 r.2.1), (.bools 4 r.2.2)]), [], []⟩) := by kernel_rfl
def impl_slideRow_ent (F : Nat) : Ent := ⟨[], .quiet, fun args mem => match args, mem with
  | [(.ints 4 row0)], [] => some ((impl_slideRow_p F row0).isSome, ⟨(.tup [(.ints 4 ((impl_slideRow_p F row0).getD default).1), (.int .i64 ((impl_slideRow_p F row0).getD default).2.1), (.bools 4 ((impl_slideRow_p F row0).getD default).2.2)]), [], []⟩)
  | _, _ => none⟩
theorem impl_slideRow_fok : FunOK Try.prog 51 := funOK Try.func51 (by kernel_rfl) rfl
theorem impl_slideRow_meets (F : Nat) : Meets Try.prog 51 (impl_slideRow_ent F) := by
  refine meets_of_runS mixed ttok deep (impl_slideRow_tabok F) Try.func51 (body_some rfl) (impl_slideRow_lsok1 F) fun args mem hfit ret h => ?_
  clear hfit
  simp only [impl_slideRow_ent] at h
  split at h
  · rename_i row0
    simp only [Option.some.injEq, Prod.mk.injEq] at h
    obtain ⟨hc, rfl⟩ := h
    exact ⟨[], [], 70, _, (impl_slideRow_run F row0).trans ((impl_slideRow_cp _ F row0 _).trans (bind_use hc _)), rfl, rfl, rfl⟩
  · cases h

/-! (loop.example/g01194/impl.Board).withLine -/
noncomputable def impl_Board_withLine_tab (F : Nat) : Tab := [(73, (impl_lineCell_ent F)), (58, (impl_Board_at_ent F))]
theorem impl_Board_withLine_tabok (F : Nat) : TabOK Try.prog (impl_Board_withLine_tab F) := (tab_cons (impl_lineCell_meets F) impl_lineCell_fok (tab_cons (impl_Board_at_meets F) impl_Board_at_fok tab_nil))
noncomputable def impl_Board_withLine_LS0 (F : Nat) : LT := []
theorem impl_Board_withLine_lsok0 (F : Nat) : LoopsOK Try.prog (impl_Board_withLine_LS0 F) (bodyOf Try.f53) := loopsOK_nil
theorem impl_Board_withLine_run (F : Nat) (b0 : List Int) (direction1 : Int) (i2 : Int) (row3 : List Int) : runS tt (impl_Board_withLine_tab F) (impl_Board_withLine_LS0 F) [] [] Try.f53 (bodyOf Try.f53) 70 [(.ints 16 b0), (.int .i64 direction1), (.int .i64 i2), (.ints 4 row3)] [] = impl_Board_withLine_c _ b0 direction1 i2 row3 (fun r => some ⟨(.ints 16 r), [], []⟩) := by kernel_rfl
def impl_Board_withLine_ent (F : Nat) : Ent := ⟨[], .quiet, fun args mem => match args, mem with
  | [(.ints 16 b0), (.int .i64 direction1), (.int .i64 i2), (.ints 4 row3)], [] => some ((impl_Board_withLine_p b0 direction1 i2 row3).isSome, ⟨(.ints 16 ((impl_Board_withLine_p b0 direction1 i2 row3).getD default)), [], []⟩)
  | _, _ => none⟩
theorem impl_Board_withLine_fok : FunOK Try.prog 53 := funOK Try.func53 (by kernel_rfl) rfl
theorem impl_Board_withLine_meets (F : Nat) : Meets Try.prog 53 (impl_Board_withLine_ent F) := by
  refine meets_of_runS mixed ttok deep (impl_Board_withLine_tabok F) Try.func53 (body_some rfl) (impl_Board_withLine_lsok0 F) fun args mem hfit ret h => ?_
  clear hfit
  simp only [impl_Board_withLine_ent] at h
  split at h
  · rename_i b0 direction1 i2 row3
    simp only [Option.some.injEq, Prod.mk.injEq] at h
    obtain ⟨hc, rfl⟩ := h
    exact ⟨[], [], 70, _, (impl_Board_withLine_run F b0 direction1 i2 row3).trans ((impl_Board_withLine_cp _ b0 direction1 i2 row3 _).trans (bind_use hc _)), rfl, rfl, rfl⟩
  · cases h
end Go.Proofs.Ytabfliifleonaah
