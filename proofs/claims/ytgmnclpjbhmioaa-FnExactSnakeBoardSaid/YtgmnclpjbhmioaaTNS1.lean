/-
Pure functions and what the code of them does, by program; without conditions.
-/
import Derived.Test.YtgmnclpjbhmioaaTNP1
import Derived.Test.YtgmnclpjbhmioaaTNS0
namespace Go.Proofs.Ytgmnclpjbhmioaa
open Go Go.Lv Go.Lv.P Go.Proofs
set_option linter.unusedVariables false
set_option linter.unusedSimpArgs false
set_option maxRecDepth 100000
/-! slices.IndexFunc[[][4]int,[4]int] -/
noncomputable def slices_IndexFunc_4int4int_impl_IsBoard_f1_tab (F : Nat) : Tab := [(83, (impl_IsBoard_f1_ent F))]
theorem slices_IndexFunc_4int4int_impl_IsBoard_f1_tabok (F : Nat) : TabOK Try.prog (slices_IndexFunc_4int4int_impl_IsBoard_f1_tab F) := (tab_cons (impl_IsBoard_f1_meets F) impl_IsBoard_f1_fok tab_nil)
noncomputable def slices_IndexFunc_4int4int_impl_IsBoard_f1_LS0 (F : Nat) : LT := []
theorem slices_IndexFunc_4int4int_impl_IsBoard_f1_lsok0 (F : Nat) : LoopsOK Try.prog (slices_IndexFunc_4int4int_impl_IsBoard_f1_LS0 F) (bodyOf Try.f112) := loopsOK_nil
theorem slices_IndexFunc_4int4int_impl_IsBoard_f1_keys : keysOK (bodyOf Try.f112) = true := by kernel_rfl
def slices_IndexFunc_4int4int_impl_IsBoard_f1_st2 (s0 : List (List Int)) (t71 : Int) (t82 : Int) : St := ⟨expand 19 0 [0, 1, 7, 8] [(.rr 4 s0), (.fn 83 [] []), (.int .i64 t71), (.int .i64 t82)], [], 0, []⟩
def slices_IndexFunc_4int4int_impl_IsBoard_f1_o2 (s0 : List (List Int)) (t71 : Int) (x : Bool × Int) : GT := (.br x.1 (.out (.ret ⟨expand 19 0 [4] [(.int .i64 x.2)], [], 0, []⟩)) (.out (.exit 0 ⟨expand 19 0 [] [], [], 0, []⟩)))
def slices_IndexFunc_4int4int_impl_IsBoard_f1_ls2 (F : Nat) : LoopS := ⟨19, [0, 1, 7, 8], [], [], [], [4], [], [], fun vals mem np killed => match vals, mem, np, killed with
  | [(.rr 4 s0), (.fn 83 [] []), (.int .i64 t71), (.int .i64 t82)], [], 0, [] => .br (slices_IndexFunc_4int4int_impl_IsBoard_f1_l2 F s0 t71 t82).isSome (slices_IndexFunc_4int4int_impl_IsBoard_f1_o2 s0 t71 ((slices_IndexFunc_4int4int_impl_IsBoard_f1_l2 F s0 t71 t82).getD default)) .fail
  | _, _, _, _ => .fail⟩
theorem slices_IndexFunc_4int4int_impl_IsBoard_f1_step2 (F : Nat) (s0 : List (List Int)) (t71 : Int) (t82 : Int) {R : Type} (k : Out → Option R) : stepS tt (slices_IndexFunc_4int4int_impl_IsBoard_f1_tab F) (slices_IndexFunc_4int4int_impl_IsBoard_f1_LS0 F) 70 (slices_IndexFunc_4int4int_impl_IsBoard_f1_ls2 F) (loopAt 2 (bodyOf Try.f112)) (slices_IndexFunc_4int4int_impl_IsBoard_f1_st2 s0 t71 t82) k = slices_IndexFunc_4int4int_impl_IsBoard_f1_s2 F s0 t71 R t82 (fun s => k (.norm (slices_IndexFunc_4int4int_impl_IsBoard_f1_st2 s0 t71 s))) (fun x => (slices_IndexFunc_4int4int_impl_IsBoard_f1_o2 s0 t71 x).run k) := by kernel_rfl
theorem slices_IndexFunc_4int4int_impl_IsBoard_f1_iter2 (F : Nat) (s0 : List (List Int)) (t71 : Int) {R : Type} (k : Out → Option R) : ∀ (n : Nat) (t82 : Int), iterS tt (slices_IndexFunc_4int4int_impl_IsBoard_f1_tab F) (slices_IndexFunc_4int4int_impl_IsBoard_f1_LS0 F) 70 (slices_IndexFunc_4int4int_impl_IsBoard_f1_ls2 F) (loopAt 2 (bodyOf Try.f112)) n (slices_IndexFunc_4int4int_impl_IsBoard_f1_st2 s0 t71 t82) k = loopC (slices_IndexFunc_4int4int_impl_IsBoard_f1_s2 F s0 t71) n t82 (fun x => (slices_IndexFunc_4int4int_impl_IsBoard_f1_o2 s0 t71 x).run k)
  | 0, t82 => rfl
  | n + 1, t82 => (iterS_succ tt (slices_IndexFunc_4int4int_impl_IsBoard_f1_tab F) (slices_IndexFunc_4int4int_impl_IsBoard_f1_LS0 F) 70 (slices_IndexFunc_4int4int_impl_IsBoard_f1_ls2 F) (loopAt 2 (bodyOf Try.f112)) n (slices_IndexFunc_4int4int_impl_IsBoard_f1_st2 s0 t71 t82) k).trans ((slices_IndexFunc_4int4int_impl_IsBoard_f1_step2 F s0 t71 t82 (nextK (iterS tt (slices_IndexFunc_4int4int_impl_IsBoard_f1_tab F) (slices_IndexFunc_4int4int_impl_IsBoard_f1_LS0 F) 70 (slices_IndexFunc_4int4int_impl_IsBoard_f1_ls2 F) (loopAt 2 (bodyOf Try.f112)) n) k)).trans (congrArg (fun kn => slices_IndexFunc_4int4int_impl_IsBoard_f1_s2 F s0 t71 R t82 kn _) (funext (fun t82 => slices_IndexFunc_4int4int_impl_IsBoard_f1_iter2 F s0 t71 k n t82))))
theorem slices_IndexFunc_4int4int_impl_IsBoard_f1_lok2 (F : Nat) : LoopOK Try.prog (loopAt 2 (bodyOf Try.f112)) (slices_IndexFunc_4int4int_impl_IsBoard_f1_ls2 F) := by
  refine loopOK_of mixed ttok deep (slices_IndexFunc_4int4int_impl_IsBoard_f1_tabok F) (loopsOK_at (slices_IndexFunc_4int4int_impl_IsBoard_f1_lsok0 F) 2) (fuel := 70) fun R vals mem np killed k x h => ?_
  simp only [slices_IndexFunc_4int4int_impl_IsBoard_f1_ls2] at h
  split at h
  · rename_i s0 t71 t82
    simp only [GT.run] at h
    have hc := (cond_noneL h).1
    replace h := (cond_noneL h).2
    refine ⟨F, (slices_IndexFunc_4int4int_impl_IsBoard_f1_iter2 F s0 t71 k F t82).trans ((loopC_use (slices_IndexFunc_4int4int_impl_IsBoard_f1_s2_nat F s0 t71) hc _).trans h)⟩
  · simp only [GT.run] at h
    cases h
noncomputable def slices_IndexFunc_4int4int_impl_IsBoard_f1_LS1 (F : Nat) : LT := (2, slices_IndexFunc_4int4int_impl_IsBoard_f1_ls2 F) :: slices_IndexFunc_4int4int_impl_IsBoard_f1_LS0 F
theorem slices_IndexFunc_4int4int_impl_IsBoard_f1_lsok1 (F : Nat) : LoopsOK Try.prog (slices_IndexFunc_4int4int_impl_IsBoard_f1_LS1 F) (bodyOf Try.f112) := loopsOK_cons slices_IndexFunc_4int4int_impl_IsBoard_f1_keys (slices_IndexFunc_4int4int_impl_IsBoard_f1_lok2 F) (slices_IndexFunc_4int4int_impl_IsBoard_f1_lsok0 F)
theorem slices_IndexFunc_4int4int_impl_IsBoard_f1_run (F : Nat) (s0 : List (List Int)) : runS tt (slices_IndexFunc_4int4int_impl_IsBoard_f1_tab F) (slices_IndexFunc_4int4int_impl_IsBoard_f1_LS1 F) [] [] Try.f112 (bodyOf Try.f112) 70 [(.rr 4 s0), (.fn 83 [] [])] [] = slices_IndexFunc_4int4int_impl_IsBoard_f1_c _ F s0 (fun r => some ⟨(.int .i64 r), [], []⟩) := by kernel_rfl
def slices_IndexFunc_4int4int_impl_IsBoard_f1_ent (F : Nat) : Ent := ⟨[], .quiet, fun args mem => match args, mem with
  | [(.rr 4 s0), (.fn 83 [] [])], [] => some ((slices_IndexFunc_4int4int_impl_IsBoard_f1_p F s0).isSome, ⟨(.int .i64 ((slices_IndexFunc_4int4int_impl_IsBoard_f1_p F s0).getD default)), [], []⟩)
  | _, _ => none⟩
theorem slices_IndexFunc_4int4int_impl_IsBoard_f1_fok : FunOK Try.prog 112 := funOK Try.func112 (by kernel_rfl) rfl
theorem slices_IndexFunc_4int4int_impl_IsBoard_f1_meets (F : Nat) : Meets Try.prog 112 (slices_IndexFunc_4int4int_impl_IsBoard_f1_ent F) := by
  refine meets_of_runS mixed ttok deep (slices_IndexFunc_4int4int_impl_IsBoard_f1_tabok F) Try.func112 (body_some rfl) (slices_IndexFunc_4int4int_impl_IsBoard_f1_lsok1 F) fun args mem hfit ret h => ?_
  clear hfit
  simp only [slices_IndexFunc_4int4int_impl_IsBoard_f1_ent] at h
  split at h
  · rename_i s0
    simp only [Option.some.injEq, Prod.mk.injEq] at h
    obtain ⟨hc, rfl⟩ := h
    exact ⟨[], [], 70, _, (slices_IndexFunc_4int4int_impl_IsBoard_f1_run F s0).trans ((slices_IndexFunc_4int4int_impl_IsBoard_f1_cp _ F s0 _).trans (bind_use hc _)), rfl, rfl, rfl⟩
  · cases h

/-! slices.ContainsFunc[[][4]int,[4]int] -/
noncomputable def slices_ContainsFunc_4int4int_impl_IsBoard_f1_tab (F : Nat) : Tab := [(112, (slices_IndexFunc_4int4int_impl_IsBoard_f1_ent F))]
theorem slices_ContainsFunc_4int4int_impl_IsBoard_f1_tabok (F : Nat) : TabOK Try.prog (slices_ContainsFunc_4int4int_impl_IsBoard_f1_tab F) := (tab_cons (slices_IndexFunc_4int4int_impl_IsBoard_f1_meets F) slices_IndexFunc_4int4int_impl_IsBoard_f1_fok tab_nil)
noncomputable def slices_ContainsFunc_4int4int_impl_IsBoard_f1_LS0 (F : Nat) : LT := []
theorem slices_ContainsFunc_4int4int_impl_IsBoard_f1_lsok0 (F : Nat) : LoopsOK Try.prog (slices_ContainsFunc_4int4int_impl_IsBoard_f1_LS0 F) (bodyOf Try.f82) := loopsOK_nil
theorem slices_ContainsFunc_4int4int_impl_IsBoard_f1_run (F : Nat) (s0 : List (List Int)) : runS tt (slices_ContainsFunc_4int4int_impl_IsBoard_f1_tab F) (slices_ContainsFunc_4int4int_impl_IsBoard_f1_LS0 F) [] [] Try.f82 (bodyOf Try.f82) 70 [(.rr 4 s0), (.fn 83 [] [])] [] = slices_ContainsFunc_4int4int_impl_IsBoard_f1_c _ F s0 (fun r => some ⟨(.bool r), [], []⟩) := by kernel_rfl
def slices_ContainsFunc_4int4int_impl_IsBoard_f1_ent (F : Nat) : Ent := ⟨[], .quiet, fun args mem => match args, mem with
  | [(.rr 4 s0), (.fn 83 [] [])], [] => some ((slices_ContainsFunc_4int4int_impl_IsBoard_f1_p F s0).isSome, ⟨(.bool ((slices_ContainsFunc_4int4int_impl_IsBoard_f1_p F s0).getD default)), [], []⟩)
  | _, _ => none⟩
theorem slices_ContainsFunc_4int4int_impl_IsBoard_f1_fok : FunOK Try.prog 82 := funOK Try.func82 (by kernel_rfl) rfl
theorem slices_ContainsFunc_4int4int_impl_IsBoard_f1_meets (F : Nat) : Meets Try.prog 82 (slices_ContainsFunc_4int4int_impl_IsBoard_f1_ent F) := by
  refine meets_of_runS mixed ttok deep (slices_ContainsFunc_4int4int_impl_IsBoard_f1_tabok F) Try.func82 (body_some rfl) (slices_ContainsFunc_4int4int_impl_IsBoard_f1_lsok0 F) fun args mem hfit ret h => ?_
  clear hfit
  simp only [slices_ContainsFunc_4int4int_impl_IsBoard_f1_ent] at h
  split at h
  · rename_i s0
    simp only [Option.some.injEq, Prod.mk.injEq] at h
    obtain ⟨hc, rfl⟩ := h
    exact ⟨[], [], 70, _, (slices_ContainsFunc_4int4int_impl_IsBoard_f1_run F s0).trans ((slices_ContainsFunc_4int4int_impl_IsBoard_f1_cp _ F s0 _).trans (bind_use hc _)), rfl, rfl, rfl⟩
  · cases h

/-! loop.example/g01194/impl.IsBoard -/
noncomputable def impl_IsBoard_tab (F : Nat) : Tab := [(82, (slices_ContainsFunc_4int4int_impl_IsBoard_f1_ent F))]
theorem impl_IsBoard_tabok (F : Nat) : TabOK Try.prog (impl_IsBoard_tab F) := (tab_cons (slices_ContainsFunc_4int4int_impl_IsBoard_f1_meets F) slices_ContainsFunc_4int4int_impl_IsBoard_f1_fok tab_nil)
noncomputable def impl_IsBoard_LS0 (F : Nat) : LT := []
theorem impl_IsBoard_lsok0 (F : Nat) : LoopsOK Try.prog (impl_IsBoard_LS0 F) (bodyOf Try.f49) := loopsOK_nil
theorem impl_IsBoard_run (F : Nat) (b0 : List Int) : runS tt (impl_IsBoard_tab F) (impl_IsBoard_LS0 F) [] [] Try.f49 (bodyOf Try.f49) 70 [(.ints 16 b0)] [] = impl_IsBoard_c _ F b0 (fun r => some ⟨(.bool r), [], []⟩) := by kernel_rfl
def impl_IsBoard_ent (F : Nat) : Ent := ⟨[], .quiet, fun args mem => match args, mem with
  | [(.ints 16 b0)], [] => some ((impl_IsBoard_p F b0).isSome, ⟨(.bool ((impl_IsBoard_p F b0).getD default)), [], []⟩)
  | _, _ => none⟩
theorem impl_IsBoard_fok : FunOK Try.prog 49 := funOK Try.func49 (by kernel_rfl) rfl
theorem impl_IsBoard_meets (F : Nat) : Meets Try.prog 49 (impl_IsBoard_ent F) := by
  refine meets_of_runS mixed ttok deep (impl_IsBoard_tabok F) Try.func49 (body_some rfl) (impl_IsBoard_lsok0 F) fun args mem hfit ret h => ?_
  clear hfit
  simp only [impl_IsBoard_ent] at h
  split at h
  · rename_i b0
    simp only [Option.some.injEq, Prod.mk.injEq] at h
    obtain ⟨hc, rfl⟩ := h
    exact ⟨[], [], 70, _, (impl_IsBoard_run F b0).trans ((impl_IsBoard_cp _ F b0 _).trans (bind_use hc _)), rfl, rfl, rfl⟩
  · cases h

/-! loop.example/g01194/impl.isForm -/
noncomputable def impl_isForm_tab (F : Nat) : Tab := [(65, (impl_in_ent F))]
theorem impl_isForm_tabok (F : Nat) : TabOK Try.prog (impl_isForm_tab F) := (tab_cons (impl_in_meets F) impl_in_fok tab_nil)
noncomputable def impl_isForm_LS0 (F : Nat) : LT := []
theorem impl_isForm_lsok0 (F : Nat) : LoopsOK Try.prog (impl_isForm_LS0 F) (bodyOf Try.f75) := loopsOK_nil
theorem impl_isForm_run (F : Nat) (k0 : Int) : runS tt (impl_isForm_tab F) (impl_isForm_LS0 F) [] [] Try.f75 (bodyOf Try.f75) 70 [(.int .i64 k0)] [] = impl_isForm_c _ k0 (fun r => some ⟨(.bool r), [], []⟩) := by kernel_rfl
def impl_isForm_ent (F : Nat) : Ent := ⟨[], .quiet, fun args mem => match args, mem with
  | [(.int .i64 k0)], [] => some (true, ⟨(.bool (impl_isForm_v k0)), [], []⟩)
  | _, _ => none⟩
theorem impl_isForm_fok : FunOK Try.prog 75 := funOK Try.func75 (by kernel_rfl) rfl
theorem impl_isForm_meets (F : Nat) : Meets Try.prog 75 (impl_isForm_ent F) := by
  refine meets_of_runS mixed ttok deep (impl_isForm_tabok F) Try.func75 (body_some rfl) (impl_isForm_lsok0 F) fun args mem hfit ret h => ?_
  clear hfit
  simp only [impl_isForm_ent] at h
  split at h
  · rename_i k0
    simp only [Option.some.injEq, Prod.mk.injEq] at h
    obtain ⟨hc, rfl⟩ := h
    exact ⟨[], [], 70, _, (impl_isForm_run F k0).trans (impl_isForm_cv _ k0 _), rfl, rfl, rfl⟩
  · cases h

/-! slices.Grow[[]int,int] -/
noncomputable def slices_Grow_intint_tab (F : Nat) : Tab := []
theorem slices_Grow_intint_tabok (F : Nat) : TabOK Try.prog (slices_Grow_intint_tab F) := tab_nil
noncomputable def slices_Grow_intint_LS0 (F : Nat) : LT := []
theorem slices_Grow_intint_lsok0 (F : Nat) : LoopsOK Try.prog (slices_Grow_intint_LS0 F) (bodyOf Try.f132) := loopsOK_nil
theorem slices_Grow_intint_run (F : Nat) (n0 : Int) : runS tt (slices_Grow_intint_tab F) (slices_Grow_intint_LS0 F) [⟨4, 3, (.ri .i64 ([] : List Int))⟩] [] Try.f132 (bodyOf Try.f132) 70 [.z0, (.int .i64 n0)] [] = slices_Grow_intint_c _ n0 (fun r => some ⟨(.sl 0 0 0), [(.vec 3 (.ri .i64 r))], []⟩) := by kernel_rfl
def slices_Grow_intint_ent (F : Nat) : Ent := ⟨[true], .fresh, fun args mem => match args, mem with
  | [.z0, (.int .i64 n0)], [] => some ((slices_Grow_intint_p n0).isSome, ⟨(.sl 0 0 0), [(.vec 3 (.ri .i64 ((slices_Grow_intint_p n0).getD default)))], []⟩)
  | _, _ => none⟩
theorem slices_Grow_intint_fok : FunOK Try.prog 132 := funOK Try.func132 (by kernel_rfl) rfl
theorem slices_Grow_intint_meets (F : Nat) : Meets Try.prog 132 (slices_Grow_intint_ent F) := by
  refine meets_of_runS mixed ttok deep (slices_Grow_intint_tabok F) Try.func132 (body_some rfl) (slices_Grow_intint_lsok0 F) fun args mem hfit ret h => ?_
  clear hfit
  simp only [slices_Grow_intint_ent] at h
  split at h
  · rename_i n0
    simp only [Option.some.injEq, Prod.mk.injEq] at h
    obtain ⟨hc, rfl⟩ := h
    exact ⟨[⟨4, 3, (.ri .i64 ([] : List Int))⟩], [], 70, _, (slices_Grow_intint_run F n0).trans ((slices_Grow_intint_cp _ n0 _).trans (bind_use hc _)), rfl, rfl, rfl⟩
  · cases h

/-! slices.Concat[[]int,int] -/
noncomputable def slices_Concat_intint_tab (F : Nat) : Tab := [(132, (slices_Grow_intint_ent F))]
theorem slices_Concat_intint_tabok (F : Nat) : TabOK Try.prog (slices_Concat_intint_tab F) := (tab_cons (slices_Grow_intint_meets F) slices_Grow_intint_fok tab_nil)
noncomputable def slices_Concat_intint_LS0 (F : Nat) : LT := []
theorem slices_Concat_intint_lsok0 (F : Nat) : LoopsOK Try.prog (slices_Concat_intint_LS0 F) (bodyOf Try.f107) := loopsOK_nil
theorem slices_Concat_intint_run (F : Nat) (slices0 : List Int) (slices1 : List Int) (slices2 : List Int) (slices3 : List Int) : runS tt (slices_Concat_intint_tab F) (slices_Concat_intint_LS0 F) [] [] Try.f107 (bodyOf Try.f107) 70 [(.rv [(.ri .i64 slices0), (.ri .i64 slices1), (.ri .i64 slices2), (.ri .i64 slices3)])] [] = slices_Concat_intint_c _ slices0 slices1 slices2 slices3 (fun r => some ⟨(.sl 0 0 (List.length r)), [(.vec 3 (.ri .i64 r))], []⟩) := by kernel_rfl
def slices_Concat_intint_ent (F : Nat) : Ent := ⟨[], .fresh, fun args mem => match args, mem with
  | [(.rv [(.ri .i64 slices0), (.ri .i64 slices1), (.ri .i64 slices2), (.ri .i64 slices3)])], [] => some ((slices_Concat_intint_p slices0 slices1 slices2 slices3).isSome, ⟨(.sl 0 0 (List.length ((slices_Concat_intint_p slices0 slices1 slices2 slices3).getD default))), [(.vec 3 (.ri .i64 ((slices_Concat_intint_p slices0 slices1 slices2 slices3).getD default)))], []⟩)
  | _, _ => none⟩
theorem slices_Concat_intint_fok : FunOK Try.prog 107 := funOK Try.func107 (by kernel_rfl) rfl
theorem slices_Concat_intint_meets (F : Nat) : Meets Try.prog 107 (slices_Concat_intint_ent F) := by
  refine meets_of_runS mixed ttok deep (slices_Concat_intint_tabok F) Try.func107 (body_some rfl) (slices_Concat_intint_lsok0 F) fun args mem hfit ret h => ?_
  clear hfit
  simp only [slices_Concat_intint_ent] at h
  split at h
  · rename_i slices0 slices1 slices2 slices3
    simp only [Option.some.injEq, Prod.mk.injEq] at h
    obtain ⟨hc, rfl⟩ := h
    exact ⟨[], [], 70, _, (slices_Concat_intint_run F slices0 slices1 slices2 slices3).trans ((slices_Concat_intint_cp _ slices0 slices1 slices2 slices3 _).trans (bind_use hc _)), rfl, rfl, rfl⟩
  · cases h

/-! (loop.example/g01194/impl.Board).flat -/
noncomputable def impl_Board_flat_tab (F : Nat) : Tab := [(107, (slices_Concat_intint_ent F))]
theorem impl_Board_flat_tabok (F : Nat) : TabOK Try.prog (impl_Board_flat_tab F) := (tab_cons (slices_Concat_intint_meets F) slices_Concat_intint_fok tab_nil)
noncomputable def impl_Board_flat_LS0 (F : Nat) : LT := []
theorem impl_Board_flat_lsok0 (F : Nat) : LoopsOK Try.prog (impl_Board_flat_LS0 F) (bodyOf Try.f76) := loopsOK_nil
theorem impl_Board_flat_run (F : Nat) (b0 : List Int) : runS tt (impl_Board_flat_tab F) (impl_Board_flat_LS0 F) [] [] Try.f76 (bodyOf Try.f76) 70 [(.ints 16 b0)] [] = impl_Board_flat_c _ b0 (fun r => some ⟨(.sl 0 0 (List.length r)), [(.vec 3 (.ri .i64 r))], []⟩) := by kernel_rfl
def impl_Board_flat_ent (F : Nat) : Ent := ⟨[], .fresh, fun args mem => match args, mem with
  | [(.ints 16 b0)], [] => some ((impl_Board_flat_p b0).isSome, ⟨(.sl 0 0 (List.length ((impl_Board_flat_p b0).getD default))), [(.vec 3 (.ri .i64 ((impl_Board_flat_p b0).getD default)))], []⟩)
  | _, _ => none⟩
theorem impl_Board_flat_fok : FunOK Try.prog 76 := funOK Try.func76 (by kernel_rfl) rfl
theorem impl_Board_flat_meets (F : Nat) : Meets Try.prog 76 (impl_Board_flat_ent F) := by
  refine meets_of_runS mixed ttok deep (impl_Board_flat_tabok F) Try.func76 (body_some rfl) (impl_Board_flat_lsok0 F) fun args mem hfit ret h => ?_
  clear hfit
  simp only [impl_Board_flat_ent] at h
  split at h
  · rename_i b0
    simp only [Option.some.injEq, Prod.mk.injEq] at h
    obtain ⟨hc, rfl⟩ := h
    exact ⟨[], [], 70, _, (impl_Board_flat_run F b0).trans ((impl_Board_flat_cp _ b0 _).trans (bind_use hc _)), rfl, rfl, rfl⟩
  · cases h

/-! slices.Sort[[]int,int] -/
def slices_Sort_intint_ent (F : Nat) : Ent := sortIEnt 3 F
theorem slices_Sort_intint_fok : FunOK Try.prog 77 := funOK Try.func77 (by kernel_rfl) rfl
theorem slices_Sort_intint_meets (F : Nat) : Meets Try.prog 77 (slices_Sort_intint_ent F) := meets_sortI Try.sort77 3 F

/-! loop.example/g01194/impl.cells -/
noncomputable def impl_cells_tab (F : Nat) : Tab := []
theorem impl_cells_tabok (F : Nat) : TabOK Try.prog (impl_cells_tab F) := tab_nil
noncomputable def impl_cells_LS0 (F : Nat) : LT := []
theorem impl_cells_lsok0 (F : Nat) : LoopsOK Try.prog (impl_cells_LS0 F) (bodyOf Try.f62) := loopsOK_nil
theorem impl_cells_run (F : Nat) : runS tt (impl_cells_tab F) (impl_cells_LS0 F) [] [] Try.f62 (bodyOf Try.f62) 70 [] [] = impl_cells_c _ (fun r => some ⟨(.sl 0 0 16), [(.vec 69 (.rr 2 [[(0 : Int), (0 : Int)], [(0 : Int), (1 : Int)], [(0 : Int), (2 : Int)], [(0 : Int), (3 : Int)], [(1 : Int), (0 : Int)], [(1 : Int), (1 : Int)], [(1 : Int), (2 : Int)], [(1 : Int), (3 : Int)], [(2 : Int), (0 : Int)], [(2 : Int), (1 : Int)], [(2 : Int), (2 : Int)], [(2 : Int), (3 : Int)], [(3 : Int), (0 : Int)], [(3 : Int), (1 : Int)], [(3 : Int), (2 : Int)], [(3 : Int), (3 : Int)]]))], []⟩) := by kernel_rfl
def impl_cells_ent (F : Nat) : Ent := ⟨[], .fresh, fun args mem => match args, mem with
  | [], [] => some (true, ⟨(.sl 0 0 16), [(.vec 69 (.rr 2 [[(0 : Int), (0 : Int)], [(0 : Int), (1 : Int)], [(0 : Int), (2 : Int)], [(0 : Int), (3 : Int)], [(1 : Int), (0 : Int)], [(1 : Int), (1 : Int)], [(1 : Int), (2 : Int)], [(1 : Int), (3 : Int)], [(2 : Int), (0 : Int)], [(2 : Int), (1 : Int)], [(2 : Int), (2 : Int)], [(2 : Int), (3 : Int)], [(3 : Int), (0 : Int)], [(3 : Int), (1 : Int)], [(3 : Int), (2 : Int)], [(3 : Int), (3 : Int)]]))], []⟩)
  | _, _ => none⟩
theorem impl_cells_fok : FunOK Try.prog 62 := funOK Try.func62 (by kernel_rfl) rfl
theorem impl_cells_meets (F : Nat) : Meets Try.prog 62 (impl_cells_ent F) := by
  refine meets_of_runS mixed ttok deep (impl_cells_tabok F) Try.func62 (body_some rfl) (impl_cells_lsok0 F) fun args mem hfit ret h => ?_
  clear hfit
  simp only [impl_cells_ent] at h
  split at h
  · simp only [Option.some.injEq, Prod.mk.injEq] at h
    obtain ⟨hc, rfl⟩ := h
    exact ⟨[], [], 70, _, (impl_cells_run F).trans (impl_cells_cv _ _), rfl, rfl, rfl⟩
  · cases h

/-! loop.example/g01194/impl.moved -/
noncomputable def impl_moved_tab (F : Nat) : Tab := []
theorem impl_moved_tabok (F : Nat) : TabOK Try.prog (impl_moved_tab F) := tab_nil
noncomputable def impl_moved_LS0 (F : Nat) : LT := []
theorem impl_moved_lsok0 (F : Nat) : LoopsOK Try.prog (impl_moved_LS0 F) (bodyOf Try.f110) := loopsOK_nil
theorem impl_moved_keys : keysOK (bodyOf Try.f110) = true := by kernel_rfl
def impl_moved_st2 (k0 : Int) (t67 : Int) (t78 : Int) (cell9 : List Int) : St := ⟨expand 23 0 [0, 3, 4, 6, 7] [(.int .i64 k0), (.ptr 0 0 0 2), (.ptr 1 0 0 2), (.int .i64 t67), (.int .i64 t78)], [(.var 2 (.ri .i64 cell9)), (.var 2 (.ri .i64 [(0 : Int), (0 : Int)]))], 0, []⟩
def impl_moved_o2 (k0 : Int) (t67 : Int) (x : List Int) : GT := (.out (.exit 0 ⟨expand 23 0 [0, 3, 4] [(.int .i64 k0), (.ptr 0 0 0 2), (.ptr 1 0 0 2)], [(.var 2 (.ri .i64 x)), (.var 2 (.ri .i64 [(0 : Int), (0 : Int)]))], 0, []⟩))
def impl_moved_ls2 (F : Nat) : LoopS := ⟨23, [0, 3, 4, 6, 7], [], [0, 3, 4], [], [4], [], [], fun vals mem np killed => match vals, mem, np, killed with
  | [(.int .i64 k0), (.ptr 0 0 0 2), (.ptr 1 0 0 2), (.int .i64 t67), (.int .i64 t78)], [(.var 2 (.ri .i64 cell9)), (.var 2 (.ri .i64 q_t410))], 0, [] => .br ((q_t410 == ([(0 : Int), (0 : Int)] : List Int)) && (impl_moved_l2 F k0 t67 t78 cell9).isSome) (impl_moved_o2 k0 t67 ((impl_moved_l2 F k0 t67 t78 cell9).getD default)) .fail
  | _, _, _, _ => .fail⟩
theorem impl_moved_step2 (F : Nat) (k0 : Int) (t67 : Int) (t78 : Int) (cell9 : List Int) {R : Type} (k : Out → Option R) : stepS tt (impl_moved_tab F) (impl_moved_LS0 F) 70 (impl_moved_ls2 F) (loopAt 2 (bodyOf Try.f110)) (impl_moved_st2 k0 t67 t78 cell9) k = impl_moved_s2 F k0 t67 R (t78, cell9) (fun s => k (.norm (impl_moved_st2 k0 t67 s.1 s.2))) (fun x => (impl_moved_o2 k0 t67 x).run k) := by kernel_rfl
theorem impl_moved_iter2 (F : Nat) (k0 : Int) (t67 : Int) {R : Type} (k : Out → Option R) : ∀ (n : Nat) (t78 : Int) (cell9 : List Int), iterS tt (impl_moved_tab F) (impl_moved_LS0 F) 70 (impl_moved_ls2 F) (loopAt 2 (bodyOf Try.f110)) n (impl_moved_st2 k0 t67 t78 cell9) k = loopC (impl_moved_s2 F k0 t67) n (t78, cell9) (fun x => (impl_moved_o2 k0 t67 x).run k)
  | 0, t78, cell9 => rfl
  | n + 1, t78, cell9 => (iterS_succ tt (impl_moved_tab F) (impl_moved_LS0 F) 70 (impl_moved_ls2 F) (loopAt 2 (bodyOf Try.f110)) n (impl_moved_st2 k0 t67 t78 cell9) k).trans ((impl_moved_step2 F k0 t67 t78 cell9 (nextK (iterS tt (impl_moved_tab F) (impl_moved_LS0 F) 70 (impl_moved_ls2 F) (loopAt 2 (bodyOf Try.f110)) n) k)).trans (congrArg (fun kn => impl_moved_s2 F k0 t67 R (t78, cell9) kn _) (funext (fun ⟨t78, cell9⟩ => impl_moved_iter2 F k0 t67 k n t78 cell9))))
theorem impl_moved_lok2 (F : Nat) : LoopOK Try.prog (loopAt 2 (bodyOf Try.f110)) (impl_moved_ls2 F) := by
  refine loopOK_of mixed ttok deep (impl_moved_tabok F) (loopsOK_at (impl_moved_lsok0 F) 2) (fuel := 70) fun R vals mem np killed k x h => ?_
  simp only [impl_moved_ls2] at h
  split at h
  · rename_i k0 t67 t78 cell9 q_t410
    simp only [GT.run] at h
    have hc := (cond_noneL h).1
    replace h := (cond_noneL h).2
    have hg := (and_split hc).1
    replace hc := (and_split hc).2
    obtain rfl := beq_li hg
    refine ⟨F, (impl_moved_iter2 F k0 t67 k F t78 cell9).trans ((loopC_use (impl_moved_s2_nat F k0 t67) hc _).trans h)⟩
  · simp only [GT.run] at h
    cases h
noncomputable def impl_moved_LS1 (F : Nat) : LT := (2, impl_moved_ls2 F) :: impl_moved_LS0 F
theorem impl_moved_lsok1 (F : Nat) : LoopsOK Try.prog (impl_moved_LS1 F) (bodyOf Try.f110) := loopsOK_cons impl_moved_keys (impl_moved_lok2 F) (impl_moved_lsok0 F)
theorem impl_moved_run (F : Nat) (k0 : Int) (cell1 : List Int) : runS tt (impl_moved_tab F) (impl_moved_LS1 F) [] [] Try.f110 (bodyOf Try.f110) 70 [(.int .i64 k0), (.ints 2 cell1)] [] = impl_moved_c _ F k0 cell1 (fun r => some ⟨(.ints 2 r), [], []⟩) := by kernel_rfl
def impl_moved_ent (F : Nat) : Ent := ⟨[], .quiet, fun args mem => match args, mem with
  | [(.int .i64 k0), (.ints 2 cell1)], [] => some ((impl_moved_p F k0 cell1).isSome, ⟨(.ints 2 ((impl_moved_p F k0 cell1).getD default)), [], []⟩)
  | _, _ => none⟩
theorem impl_moved_fok : FunOK Try.prog 110 := funOK Try.func110 (by kernel_rfl) rfl
theorem impl_moved_meets (F : Nat) : Meets Try.prog 110 (impl_moved_ent F) := by
  refine meets_of_runS mixed ttok deep (impl_moved_tabok F) Try.func110 (body_some rfl) (impl_moved_lsok1 F) fun args mem hfit ret h => ?_
  clear hfit
  simp only [impl_moved_ent] at h
  split at h
  · rename_i k0 cell1
    simp only [Option.some.injEq, Prod.mk.injEq] at h
    obtain ⟨hc, rfl⟩ := h
    exact ⟨[], [], 70, _, (impl_moved_run F k0 cell1).trans ((impl_moved_cp _ F k0 cell1 _).trans (bind_use hc _)), rfl, rfl, rfl⟩
  · cases h

/-! loop.example/g01194/impl.snake -/
noncomputable def impl_snake_tab (F : Nat) : Tab := [(62, (impl_cells_ent F)), (110, (impl_moved_ent F))]
theorem impl_snake_tabok (F : Nat) : TabOK Try.prog (impl_snake_tab F) := (tab_cons (impl_cells_meets F) impl_cells_fok (tab_cons (impl_moved_meets F) impl_moved_fok tab_nil))
noncomputable def impl_snake_LS0 (F : Nat) : LT := []
theorem impl_snake_lsok0 (F : Nat) : LoopsOK Try.prog (impl_snake_LS0 F) (bodyOf Try.f78) := loopsOK_nil
theorem impl_snake_run (F : Nat) (k0 : Int) : runS tt (impl_snake_tab F) (impl_snake_LS0 F) [] [] Try.f78 (bodyOf Try.f78) 70 [(.int .i64 k0)] [] = impl_snake_c _ F k0 (fun r => some ⟨(.ints 32 r), [], []⟩) := by kernel_rfl
def impl_snake_ent (F : Nat) : Ent := ⟨[], .quiet, fun args mem => match args, mem with
  | [(.int .i64 k0)], [] => some ((impl_snake_p F k0).isSome, ⟨(.ints 32 ((impl_snake_p F k0).getD default)), [], []⟩)
  | _, _ => none⟩
theorem impl_snake_fok : FunOK Try.prog 78 := funOK Try.func78 (by kernel_rfl) rfl
theorem impl_snake_meets (F : Nat) : Meets Try.prog 78 (impl_snake_ent F) := by
  refine meets_of_runS mixed ttok deep (impl_snake_tabok F) Try.func78 (body_some rfl) (impl_snake_lsok0 F) fun args mem hfit ret h => ?_
  clear hfit
  simp only [impl_snake_ent] at h
  split at h
  · rename_i k0
    simp only [Option.some.injEq, Prod.mk.injEq] at h
    obtain ⟨hc, rfl⟩ := h
    exact ⟨[], [], 70, _, (impl_snake_run F k0).trans ((impl_snake_cp _ F k0 _).trans (bind_use hc _)), rfl, rfl, rfl⟩
  · cases h

/-! (*loop.example/g01194/impl.Board).at -/
noncomputable def impl_Board_at_tab (F : Nat) : Tab := []
theorem impl_Board_at_tabok (F : Nat) : TabOK Try.prog (impl_Board_at_tab F) := tab_nil
noncomputable def impl_Board_at_LS0 (F : Nat) : LT := []
theorem impl_Board_at_lsok0 (F : Nat) : LoopsOK Try.prog (impl_Board_at_LS0 F) (bodyOf Try.f64) := loopsOK_nil
theorem impl_Board_at_run (F : Nat) (cell3 : List Int) (b4 : List Int) : runS tt (impl_Board_at_tab F) (impl_Board_at_LS0 F) [] [] Try.f64 (bodyOf Try.f64) 70 [(.ptr 0 0 0 16), (.ints 2 cell3)] [(.var 16 (.ri .i64 b4))] = impl_Board_at_c _ cell3 b4 (fun r => some ⟨(.ptr 0 0 r 1), [(.var 16 (.ri .i64 b4))], []⟩) := by kernel_rfl
def impl_Board_at_ent (F : Nat) : Ent := ⟨[], .quiet, fun args mem => match args, mem with
  | [(.ptr 0 0 0 16), (.ints 2 cell3)], [(.var 16 (.ri .i64 b4))] => some ((impl_Board_at_p cell3 b4).isSome, ⟨(.ptr 0 0 ((impl_Board_at_p cell3 b4).getD default) 1), [], []⟩)
  | _, _ => none⟩
theorem impl_Board_at_fok : FunOK Try.prog 64 := funOK Try.func64 (by kernel_rfl) rfl
theorem impl_Board_at_meets (F : Nat) : Meets Try.prog 64 (impl_Board_at_ent F) := by
  refine meets_of_runS mixed ttok deep (impl_Board_at_tabok F) Try.func64 (body_some rfl) (impl_Board_at_lsok0 F) fun args mem hfit ret h => ?_
  clear hfit
  simp only [impl_Board_at_ent] at h
  split at h
  · rename_i cell3 b4
    simp only [Option.some.injEq, Prod.mk.injEq] at h
    obtain ⟨hc, rfl⟩ := h
    exact ⟨[], [], 70, _, (impl_Board_at_run F cell3 b4).trans ((impl_Board_at_cp _ cell3 b4 _).trans (bind_use hc _)), rfl, rfl, rfl⟩
  · cases h

/-! loop.example/g01194/impl.SnakeBoard -/
noncomputable def impl_SnakeBoard_tab (F : Nat) : Tab := [(49, (impl_IsBoard_ent F)), (75, (impl_isForm_ent F)), (76, (impl_Board_flat_ent F)), (77, (slices_Sort_intint_ent F)), (78, (impl_snake_ent F)), (64, (impl_Board_at_ent F))]
theorem impl_SnakeBoard_tabok (F : Nat) : TabOK Try.prog (impl_SnakeBoard_tab F) := (tab_cons (impl_IsBoard_meets F) impl_IsBoard_fok (tab_cons (impl_isForm_meets F) impl_isForm_fok (tab_cons (impl_Board_flat_meets F) impl_Board_flat_fok (tab_cons (slices_Sort_intint_meets F) slices_Sort_intint_fok (tab_cons (impl_snake_meets F) impl_snake_fok (tab_cons (impl_Board_at_meets F) impl_Board_at_fok tab_nil))))))
noncomputable def impl_SnakeBoard_LS0 (F : Nat) : LT := []
theorem impl_SnakeBoard_lsok0 (F : Nat) : LoopsOK Try.prog (impl_SnakeBoard_LS0 F) (bodyOf Try.f43) := loopsOK_nil
theorem impl_SnakeBoard_keys : keysOK (bodyOf Try.f43) = true := by kernel_rfl
def impl_SnakeBoard_st7 (list4 : Nat) (t258 : List Int) (list11 : List Int) (t269 : Int) (out12 : List Int) : St := ⟨expand 40 0 [4, 6, 7, 25, 26] [(.ptr 0 0 0 16), (.sl 1 0 list4), (.ptr 2 0 0 16), (.ints 32 t258), (.int .i64 t269)], [(.var 16 (.ri .i64 [(0 : Int), (0 : Int), (0 : Int), (0 : Int), (0 : Int), (0 : Int), (0 : Int), (0 : Int), (0 : Int), (0 : Int), (0 : Int), (0 : Int), (0 : Int), (0 : Int), (0 : Int), (0 : Int)])), (.vec 3 (.ri .i64 list11)), (.var 16 (.ri .i64 out12))], 0, []⟩
def impl_SnakeBoard_o7 (list4 : Nat) (t258 : List Int) (list11 : List Int) (x : List Int) : GT := (.out (.exit 0 ⟨expand 40 0 [4, 7] [(.ptr 0 0 0 16), (.ptr 1 0 0 16)], [(.var 16 (.ri .i64 [(0 : Int), (0 : Int), (0 : Int), (0 : Int), (0 : Int), (0 : Int), (0 : Int), (0 : Int), (0 : Int), (0 : Int), (0 : Int), (0 : Int), (0 : Int), (0 : Int), (0 : Int), (0 : Int)])), (.var 16 (.ri .i64 x))], 0, []⟩))
def impl_SnakeBoard_ls7 (F : Nat) : LoopS := ⟨40, [4, 6, 7, 25, 26], [], [4, 7], [], [4, 5], [], [], fun vals mem np killed => match vals, mem, np, killed with
  | [(.ptr 0 0 0 16), (.sl 1 0 list4), (.ptr 2 0 0 16), (.ints 32 t258), (.int .i64 t269)], [(.var 16 (.ri .i64 q_t410)), (.vec 3 (.ri .i64 list11)), (.var 16 (.ri .i64 out12))], 0, [] => .br ((q_t410 == ([(0 : Int), (0 : Int), (0 : Int), (0 : Int), (0 : Int), (0 : Int), (0 : Int), (0 : Int), (0 : Int), (0 : Int), (0 : Int), (0 : Int), (0 : Int), (0 : Int), (0 : Int), (0 : Int)] : List Int)) && (impl_SnakeBoard_l7 F list4 t258 list11 t269 out12).isSome) (impl_SnakeBoard_o7 list4 t258 list11 ((impl_SnakeBoard_l7 F list4 t258 list11 t269 out12).getD default)) .fail
  | _, _, _, _ => .fail⟩
theorem impl_SnakeBoard_step7 (F : Nat) (list4 : Nat) (t258 : List Int) (list11 : List Int) (t269 : Int) (out12 : List Int) {R : Type} (k : Out → Option R) : stepS tt (impl_SnakeBoard_tab F) (impl_SnakeBoard_LS0 F) 70 (impl_SnakeBoard_ls7 F) (loopAt 7 (bodyOf Try.f43)) (impl_SnakeBoard_st7 list4 t258 list11 t269 out12) k = impl_SnakeBoard_s7 F list4 t258 list11 R (t269, out12) (fun s => k (.norm (impl_SnakeBoard_st7 list4 t258 list11 s.1 s.2))) (fun x => (impl_SnakeBoard_o7 list4 t258 list11 x).run k) := by kernel_rfl
theorem impl_SnakeBoard_iter7 (F : Nat) (list4 : Nat) (t258 : List Int) (list11 : List Int) {R : Type} (k : Out → Option R) : ∀ (n : Nat) (t269 : Int) (out12 : List Int), iterS tt (impl_SnakeBoard_tab F) (impl_SnakeBoard_LS0 F) 70 (impl_SnakeBoard_ls7 F) (loopAt 7 (bodyOf Try.f43)) n (impl_SnakeBoard_st7 list4 t258 list11 t269 out12) k = loopC (impl_SnakeBoard_s7 F list4 t258 list11) n (t269, out12) (fun x => (impl_SnakeBoard_o7 list4 t258 list11 x).run k)
  | 0, t269, out12 => rfl
  | n + 1, t269, out12 => (iterS_succ tt (impl_SnakeBoard_tab F) (impl_SnakeBoard_LS0 F) 70 (impl_SnakeBoard_ls7 F) (loopAt 7 (bodyOf Try.f43)) n (impl_SnakeBoard_st7 list4 t258 list11 t269 out12) k).trans ((impl_SnakeBoard_step7 F list4 t258 list11 t269 out12 (nextK (iterS tt (impl_SnakeBoard_tab F) (impl_SnakeBoard_LS0 F) 70 (impl_SnakeBoard_ls7 F) (loopAt 7 (bodyOf Try.f43)) n) k)).trans (congrArg (fun kn => impl_SnakeBoard_s7 F list4 t258 list11 R (t269, out12) kn _) (funext (fun ⟨t269, out12⟩ => impl_SnakeBoard_iter7 F list4 t258 list11 k n t269 out12))))
theorem impl_SnakeBoard_lok7 (F : Nat) : LoopOK Try.prog (loopAt 7 (bodyOf Try.f43)) (impl_SnakeBoard_ls7 F) := by
  refine loopOK_of mixed ttok deep (impl_SnakeBoard_tabok F) (loopsOK_at (impl_SnakeBoard_lsok0 F) 7) (fuel := 70) fun R vals mem np killed k x h => ?_
  simp only [impl_SnakeBoard_ls7] at h
  split at h
  · rename_i list4 t258 t269 q_t410 list11 out12
    simp only [GT.run] at h
    have hc := (cond_noneL h).1
    replace h := (cond_noneL h).2
    have hg := (and_split hc).1
    replace hc := (and_split hc).2
    obtain rfl := beq_li hg
    refine ⟨F, (impl_SnakeBoard_iter7 F list4 t258 list11 k F t269 out12).trans ((loopC_use (impl_SnakeBoard_s7_nat F list4 t258 list11) hc _).trans h)⟩
  · simp only [GT.run] at h
    cases h
noncomputable def impl_SnakeBoard_LS1 (F : Nat) : LT := (7, impl_SnakeBoard_ls7 F) :: impl_SnakeBoard_LS0 F
theorem impl_SnakeBoard_lsok1 (F : Nat) : LoopsOK Try.prog (impl_SnakeBoard_LS1 F) (bodyOf Try.f43) := loopsOK_cons impl_SnakeBoard_keys (impl_SnakeBoard_lok7 F) (impl_SnakeBoard_lsok0 F)
theorem impl_SnakeBoard_run (F : Nat) (b0 : List Int) (k1 : Int) : runS tt (impl_SnakeBoard_tab F) (impl_SnakeBoard_LS1 F) [] [] Try.f43 (bodyOf Try.f43) 70 [(.ints 16 b0), (.int .i64 k1)] [] = impl_SnakeBoard_c _ F b0 k1 (fun r => some ⟨(.tup [(.ints 16 r.1), (.bool r.2)]), [], []⟩) := by kernel_rfl
def impl_SnakeBoard_ent (F : Nat) : Ent := ⟨[], .quiet, fun args mem => match args, mem with
  | [(.ints 16 b0), (.int .i64 k1)], [] => some ((impl_SnakeBoard_p F b0 k1).isSome, ⟨(.tup [(.ints 16 ((impl_SnakeBoard_p F b0 k1).getD default).1), (.bool ((impl_SnakeBoard_p F b0 k1).getD default).2)]), [], []⟩)
  | _, _ => none⟩
theorem impl_SnakeBoard_fok : FunOK Try.prog 43 := funOK Try.func43 (by kernel_rfl) rfl
theorem impl_SnakeBoard_meets (F : Nat) : Meets Try.prog 43 (impl_SnakeBoard_ent F) := by
  refine meets_of_runS mixed ttok deep (impl_SnakeBoard_tabok F) Try.func43 (body_some rfl) (impl_SnakeBoard_lsok1 F) fun args mem hfit ret h => ?_
  clear hfit
  simp only [impl_SnakeBoard_ent] at h
  split at h
  · rename_i b0 k1
    simp only [Option.some.injEq, Prod.mk.injEq] at h
    obtain ⟨hc, rfl⟩ := h
    exact ⟨[], [], 70, _, (impl_SnakeBoard_run F b0 k1).trans ((impl_SnakeBoard_cp _ F b0 k1 _).trans (bind_use hc _)), rfl, rfl, rfl⟩
  · cases h

/-! loop.example/g01194/laws.eqIntA4 -/
noncomputable def laws_eqIntA4_tab (F : Nat) : Tab := []
theorem laws_eqIntA4_tabok (F : Nat) : TabOK Try.prog (laws_eqIntA4_tab F) := tab_nil
noncomputable def laws_eqIntA4_LS0 (F : Nat) : LT := []
theorem laws_eqIntA4_lsok0 (F : Nat) : LoopsOK Try.prog (laws_eqIntA4_LS0 F) (bodyOf Try.f18) := loopsOK_nil
theorem laws_eqIntA4_keys : keysOK (bodyOf Try.f18) = true := by kernel_rfl
def laws_eqIntA4_st2 (a7 : List Int) (b8 : List Int) (i6 : Int) : St := ⟨expand 17 0 [2, 3, 5] [(.ptr 0 0 0 4), (.ptr 1 0 0 4), (.int .i64 i6)], [(.var 4 (.ri .i64 a7)), (.var 4 (.ri .i64 b8))], 0, []⟩
def laws_eqIntA4_o2 (a7 : List Int) (b8 : List Int) (x : Bool) : GT := (.br x (.out (.ret ⟨expand 17 0 [4] [(.bool false)], [], 0, []⟩)) (.out (.exit 0 ⟨expand 17 0 [] [], [], 0, []⟩)))
def laws_eqIntA4_ls2 (F : Nat) : LoopS := ⟨17, [2, 3, 5], [], [], [], [4], [], [], fun vals mem np killed => match vals, mem, np, killed with
  | [(.ptr 0 0 0 4), (.ptr 1 0 0 4), (.int .i64 i6)], [(.var 4 (.ri .i64 a7)), (.var 4 (.ri .i64 b8))], 0, [] => .br (laws_eqIntA4_l2 F a7 b8 i6).isSome (laws_eqIntA4_o2 a7 b8 ((laws_eqIntA4_l2 F a7 b8 i6).getD default)) .fail
  | _, _, _, _ => .fail⟩
theorem laws_eqIntA4_step2 (F : Nat) (a7 : List Int) (b8 : List Int) (i6 : Int) {R : Type} (k : Out → Option R) : stepS tt (laws_eqIntA4_tab F) (laws_eqIntA4_LS0 F) 70 (laws_eqIntA4_ls2 F) (loopAt 2 (bodyOf Try.f18)) (laws_eqIntA4_st2 a7 b8 i6) k = laws_eqIntA4_s2 F a7 b8 R i6 (fun s => k (.norm (laws_eqIntA4_st2 a7 b8 s))) (fun x => (laws_eqIntA4_o2 a7 b8 x).run k) := by kernel_rfl
theorem laws_eqIntA4_iter2 (F : Nat) (a7 : List Int) (b8 : List Int) {R : Type} (k : Out → Option R) : ∀ (n : Nat) (i6 : Int), iterS tt (laws_eqIntA4_tab F) (laws_eqIntA4_LS0 F) 70 (laws_eqIntA4_ls2 F) (loopAt 2 (bodyOf Try.f18)) n (laws_eqIntA4_st2 a7 b8 i6) k = loopC (laws_eqIntA4_s2 F a7 b8) n i6 (fun x => (laws_eqIntA4_o2 a7 b8 x).run k)
  | 0, i6 => rfl
  | n + 1, i6 => (iterS_succ tt (laws_eqIntA4_tab F) (laws_eqIntA4_LS0 F) 70 (laws_eqIntA4_ls2 F) (loopAt 2 (bodyOf Try.f18)) n (laws_eqIntA4_st2 a7 b8 i6) k).trans ((laws_eqIntA4_step2 F a7 b8 i6 (nextK (iterS tt (laws_eqIntA4_tab F) (laws_eqIntA4_LS0 F) 70 (laws_eqIntA4_ls2 F) (loopAt 2 (bodyOf Try.f18)) n) k)).trans (congrArg (fun kn => laws_eqIntA4_s2 F a7 b8 R i6 kn _) (funext (fun i6 => laws_eqIntA4_iter2 F a7 b8 k n i6))))
theorem laws_eqIntA4_lok2 (F : Nat) : LoopOK Try.prog (loopAt 2 (bodyOf Try.f18)) (laws_eqIntA4_ls2 F) := by
  refine loopOK_of mixed ttok deep (laws_eqIntA4_tabok F) (loopsOK_at (laws_eqIntA4_lsok0 F) 2) (fuel := 70) fun R vals mem np killed k x h => ?_
  simp only [laws_eqIntA4_ls2] at h
  split at h
  · rename_i i6 a7 b8
    simp only [GT.run] at h
    have hc := (cond_noneL h).1
    replace h := (cond_noneL h).2
    refine ⟨F, (laws_eqIntA4_iter2 F a7 b8 k F i6).trans ((loopC_use (laws_eqIntA4_s2_nat F a7 b8) hc _).trans h)⟩
  · simp only [GT.run] at h
    cases h
noncomputable def laws_eqIntA4_LS1 (F : Nat) : LT := (2, laws_eqIntA4_ls2 F) :: laws_eqIntA4_LS0 F
theorem laws_eqIntA4_lsok1 (F : Nat) : LoopsOK Try.prog (laws_eqIntA4_LS1 F) (bodyOf Try.f18) := loopsOK_cons laws_eqIntA4_keys (laws_eqIntA4_lok2 F) (laws_eqIntA4_lsok0 F)
theorem laws_eqIntA4_run (F : Nat) (a0 : List Int) (b1 : List Int) : runS tt (laws_eqIntA4_tab F) (laws_eqIntA4_LS1 F) [] [] Try.f18 (bodyOf Try.f18) 70 [(.ints 4 a0), (.ints 4 b1)] [] = laws_eqIntA4_c _ F a0 b1 (fun r => some ⟨(.bool r), [], []⟩) := by kernel_rfl
def laws_eqIntA4_ent (F : Nat) : Ent := ⟨[], .quiet, fun args mem => match args, mem with
  | [(.ints 4 a0), (.ints 4 b1)], [] => some ((laws_eqIntA4_p F a0 b1).isSome, ⟨(.bool ((laws_eqIntA4_p F a0 b1).getD default)), [], []⟩)
  | _, _ => none⟩
theorem laws_eqIntA4_fok : FunOK Try.prog 18 := funOK Try.func18 (by kernel_rfl) rfl
theorem laws_eqIntA4_meets (F : Nat) : Meets Try.prog 18 (laws_eqIntA4_ent F) := by
  refine meets_of_runS mixed ttok deep (laws_eqIntA4_tabok F) Try.func18 (body_some rfl) (laws_eqIntA4_lsok1 F) fun args mem hfit ret h => ?_
  clear hfit
  simp only [laws_eqIntA4_ent] at h
  split at h
  · rename_i a0 b1
    simp only [Option.some.injEq, Prod.mk.injEq] at h
    obtain ⟨hc, rfl⟩ := h
    exact ⟨[], [], 70, _, (laws_eqIntA4_run F a0 b1).trans ((laws_eqIntA4_cp _ F a0 b1 _).trans (bind_use hc _)), rfl, rfl, rfl⟩
  · cases h

/-! loop.example/g01194/laws.eqIntA4A4 -/
noncomputable def laws_eqIntA4A4_tab (F : Nat) : Tab := [(18, (laws_eqIntA4_ent F))]
theorem laws_eqIntA4A4_tabok (F : Nat) : TabOK Try.prog (laws_eqIntA4A4_tab F) := (tab_cons (laws_eqIntA4_meets F) laws_eqIntA4_fok tab_nil)
noncomputable def laws_eqIntA4A4_LS0 (F : Nat) : LT := []
theorem laws_eqIntA4A4_lsok0 (F : Nat) : LoopsOK Try.prog (laws_eqIntA4A4_LS0 F) (bodyOf Try.f79) := loopsOK_nil
theorem laws_eqIntA4A4_keys : keysOK (bodyOf Try.f79) = true := by kernel_rfl
def laws_eqIntA4A4_st2 (a7 : List Int) (b8 : List Int) (i6 : Int) : St := ⟨expand 18 0 [2, 3, 5] [(.ptr 0 0 0 16), (.ptr 1 0 0 16), (.int .i64 i6)], [(.var 16 (.ri .i64 a7)), (.var 16 (.ri .i64 b8))], 0, []⟩
def laws_eqIntA4A4_o2 (a7 : List Int) (b8 : List Int) (x : Bool) : GT := (.br x (.out (.ret ⟨expand 18 0 [4] [(.bool false)], [], 0, []⟩)) (.out (.exit 0 ⟨expand 18 0 [] [], [], 0, []⟩)))
def laws_eqIntA4A4_ls2 (F : Nat) : LoopS := ⟨18, [2, 3, 5], [], [], [], [4], [], [], fun vals mem np killed => match vals, mem, np, killed with
  | [(.ptr 0 0 0 16), (.ptr 1 0 0 16), (.int .i64 i6)], [(.var 16 (.ri .i64 a7)), (.var 16 (.ri .i64 b8))], 0, [] => .br (laws_eqIntA4A4_l2 F a7 b8 i6).isSome (laws_eqIntA4A4_o2 a7 b8 ((laws_eqIntA4A4_l2 F a7 b8 i6).getD default)) .fail
  | _, _, _, _ => .fail⟩
theorem laws_eqIntA4A4_step2 (F : Nat) (a7 : List Int) (b8 : List Int) (i6 : Int) {R : Type} (k : Out → Option R) : stepS tt (laws_eqIntA4A4_tab F) (laws_eqIntA4A4_LS0 F) 70 (laws_eqIntA4A4_ls2 F) (loopAt 2 (bodyOf Try.f79)) (laws_eqIntA4A4_st2 a7 b8 i6) k = laws_eqIntA4A4_s2 F a7 b8 R i6 (fun s => k (.norm (laws_eqIntA4A4_st2 a7 b8 s))) (fun x => (laws_eqIntA4A4_o2 a7 b8 x).run k) := by kernel_rfl
theorem laws_eqIntA4A4_iter2 (F : Nat) (a7 : List Int) (b8 : List Int) {R : Type} (k : Out → Option R) : ∀ (n : Nat) (i6 : Int), iterS tt (laws_eqIntA4A4_tab F) (laws_eqIntA4A4_LS0 F) 70 (laws_eqIntA4A4_ls2 F) (loopAt 2 (bodyOf Try.f79)) n (laws_eqIntA4A4_st2 a7 b8 i6) k = loopC (laws_eqIntA4A4_s2 F a7 b8) n i6 (fun x => (laws_eqIntA4A4_o2 a7 b8 x).run k)
  | 0, i6 => rfl
  | n + 1, i6 => (iterS_succ tt (laws_eqIntA4A4_tab F) (laws_eqIntA4A4_LS0 F) 70 (laws_eqIntA4A4_ls2 F) (loopAt 2 (bodyOf Try.f79)) n (laws_eqIntA4A4_st2 a7 b8 i6) k).trans ((laws_eqIntA4A4_step2 F a7 b8 i6 (nextK (iterS tt (laws_eqIntA4A4_tab F) (laws_eqIntA4A4_LS0 F) 70 (laws_eqIntA4A4_ls2 F) (loopAt 2 (bodyOf Try.f79)) n) k)).trans (congrArg (fun kn => laws_eqIntA4A4_s2 F a7 b8 R i6 kn _) (funext (fun i6 => laws_eqIntA4A4_iter2 F a7 b8 k n i6))))
theorem laws_eqIntA4A4_lok2 (F : Nat) : LoopOK Try.prog (loopAt 2 (bodyOf Try.f79)) (laws_eqIntA4A4_ls2 F) := by
  refine loopOK_of mixed ttok deep (laws_eqIntA4A4_tabok F) (loopsOK_at (laws_eqIntA4A4_lsok0 F) 2) (fuel := 70) fun R vals mem np killed k x h => ?_
  simp only [laws_eqIntA4A4_ls2] at h
  split at h
  · rename_i i6 a7 b8
    simp only [GT.run] at h
    have hc := (cond_noneL h).1
    replace h := (cond_noneL h).2
    refine ⟨F, (laws_eqIntA4A4_iter2 F a7 b8 k F i6).trans ((loopC_use (laws_eqIntA4A4_s2_nat F a7 b8) hc _).trans h)⟩
  · simp only [GT.run] at h
    cases h
noncomputable def laws_eqIntA4A4_LS1 (F : Nat) : LT := (2, laws_eqIntA4A4_ls2 F) :: laws_eqIntA4A4_LS0 F
theorem laws_eqIntA4A4_lsok1 (F : Nat) : LoopsOK Try.prog (laws_eqIntA4A4_LS1 F) (bodyOf Try.f79) := loopsOK_cons laws_eqIntA4A4_keys (laws_eqIntA4A4_lok2 F) (laws_eqIntA4A4_lsok0 F)
theorem laws_eqIntA4A4_run (F : Nat) (a0 : List Int) (b1 : List Int) : runS tt (laws_eqIntA4A4_tab F) (laws_eqIntA4A4_LS1 F) [] [] Try.f79 (bodyOf Try.f79) 70 [(.ints 16 a0), (.ints 16 b1)] [] = laws_eqIntA4A4_c _ F a0 b1 (fun r => some ⟨(.bool r), [], []⟩) := by kernel_rfl
def laws_eqIntA4A4_ent (F : Nat) : Ent := ⟨[], .quiet, fun args mem => match args, mem with
  | [(.ints 16 a0), (.ints 16 b1)], [] => some ((laws_eqIntA4A4_p F a0 b1).isSome, ⟨(.bool ((laws_eqIntA4A4_p F a0 b1).getD default)), [], []⟩)
  | _, _ => none⟩
theorem laws_eqIntA4A4_fok : FunOK Try.prog 79 := funOK Try.func79 (by kernel_rfl) rfl
theorem laws_eqIntA4A4_meets (F : Nat) : Meets Try.prog 79 (laws_eqIntA4A4_ent F) := by
  refine meets_of_runS mixed ttok deep (laws_eqIntA4A4_tabok F) Try.func79 (body_some rfl) (laws_eqIntA4A4_lsok1 F) fun args mem hfit ret h => ?_
  clear hfit
  simp only [laws_eqIntA4A4_ent] at h
  split at h
  · rename_i a0 b1
    simp only [Option.some.injEq, Prod.mk.injEq] at h
    obtain ⟨hc, rfl⟩ := h
    exact ⟨[], [], 70, _, (laws_eqIntA4A4_run F a0 b1).trans ((laws_eqIntA4A4_cp _ F a0 b1 _).trans (bind_use hc _)), rfl, rfl, rfl⟩
  · cases h

/-! loop.example/g01194/laws.eqBoard -/
noncomputable def laws_eqBoard_tab (F : Nat) : Tab := [(79, (laws_eqIntA4A4_ent F))]
theorem laws_eqBoard_tabok (F : Nat) : TabOK Try.prog (laws_eqBoard_tab F) := (tab_cons (laws_eqIntA4A4_meets F) laws_eqIntA4A4_fok tab_nil)
noncomputable def laws_eqBoard_LS0 (F : Nat) : LT := []
theorem laws_eqBoard_lsok0 (F : Nat) : LoopsOK Try.prog (laws_eqBoard_LS0 F) (bodyOf Try.f44) := loopsOK_nil
theorem laws_eqBoard_run (F : Nat) (a0 : List Int) (b1 : List Int) : runS tt (laws_eqBoard_tab F) (laws_eqBoard_LS0 F) [] [] Try.f44 (bodyOf Try.f44) 70 [(.ints 16 a0), (.ints 16 b1)] [] = laws_eqBoard_c _ F a0 b1 (fun r => some ⟨(.bool r), [], []⟩) := by kernel_rfl
def laws_eqBoard_ent (F : Nat) : Ent := ⟨[], .quiet, fun args mem => match args, mem with
  | [(.ints 16 a0), (.ints 16 b1)], [] => some ((laws_eqBoard_p F a0 b1).isSome, ⟨(.bool ((laws_eqBoard_p F a0 b1).getD default)), [], []⟩)
  | _, _ => none⟩
theorem laws_eqBoard_fok : FunOK Try.prog 44 := funOK Try.func44 (by kernel_rfl) rfl
theorem laws_eqBoard_meets (F : Nat) : Meets Try.prog 44 (laws_eqBoard_ent F) := by
  refine meets_of_runS mixed ttok deep (laws_eqBoard_tabok F) Try.func44 (body_some rfl) (laws_eqBoard_lsok0 F) fun args mem hfit ret h => ?_
  clear hfit
  simp only [laws_eqBoard_ent] at h
  split at h
  · rename_i a0 b1
    simp only [Option.some.injEq, Prod.mk.injEq] at h
    obtain ⟨hc, rfl⟩ := h
    exact ⟨[], [], 70, _, (laws_eqBoard_run F a0 b1).trans ((laws_eqBoard_cp _ F a0 b1 _).trans (bind_use hc _)), rfl, rfl, rfl⟩
  · cases h

/-! loop.example/g01194/laws.FnExactSnakeBoard -/
noncomputable def laws_FnExactSnakeBoard_tab (F : Nat) : Tab := [(14, (laws_toBoard_ent F)), (42, (spec_SnakeBoard_ent F)), (43, (impl_SnakeBoard_ent F)), (44, (laws_eqBoard_ent F))]
theorem laws_FnExactSnakeBoard_tabok (F : Nat) : TabOK Try.prog (laws_FnExactSnakeBoard_tab F) := (tab_cons (laws_toBoard_meets F) laws_toBoard_fok (tab_cons (spec_SnakeBoard_meets F) spec_SnakeBoard_fok (tab_cons (impl_SnakeBoard_meets F) impl_SnakeBoard_fok (tab_cons (laws_eqBoard_meets F) laws_eqBoard_fok tab_nil))))
noncomputable def laws_FnExactSnakeBoard_LS0 (F : Nat) : LT := []
theorem laws_FnExactSnakeBoard_lsok0 (F : Nat) : LoopsOK Try.prog (laws_FnExactSnakeBoard_LS0 F) (bodyOf Try.f12) := loopsOK_nil
theorem laws_FnExactSnakeBoard_run (F : Nat) (aB0 : List Int) (aK1 : Int) : runS tt (laws_FnExactSnakeBoard_tab F) (laws_FnExactSnakeBoard_LS0 F) [] [] Try.f12 (bodyOf Try.f12) 70 [(.ints 16 aB0), (.int .i64 aK1)] [] = laws_FnExactSnakeBoard_c _ F aB0 aK1 (fun r => some ⟨(.bool r), [], []⟩) := by kernel_rfl
def laws_FnExactSnakeBoard_ent (F : Nat) : Ent := ⟨[], .quiet, fun args mem => match args, mem with
  | [(.ints 16 aB0), (.int .i64 aK1)], [] => some ((laws_FnExactSnakeBoard_p F aB0 aK1).isSome, ⟨(.bool ((laws_FnExactSnakeBoard_p F aB0 aK1).getD default)), [], []⟩)
  | _, _ => none⟩
theorem laws_FnExactSnakeBoard_fok : FunOK Try.prog 12 := funOK Try.func12 (by kernel_rfl) rfl
theorem laws_FnExactSnakeBoard_meets (F : Nat) : Meets Try.prog 12 (laws_FnExactSnakeBoard_ent F) := by
  refine meets_of_runS mixed ttok deep (laws_FnExactSnakeBoard_tabok F) Try.func12 (body_some rfl) (laws_FnExactSnakeBoard_lsok0 F) fun args mem hfit ret h => ?_
  clear hfit
  simp only [laws_FnExactSnakeBoard_ent] at h
  split at h
  · rename_i aB0 aK1
    simp only [Option.some.injEq, Prod.mk.injEq] at h
    obtain ⟨hc, rfl⟩ := h
    exact ⟨[], [], 70, _, (laws_FnExactSnakeBoard_run F aB0 aK1).trans ((laws_FnExactSnakeBoard_cp _ F aB0 aK1 _).trans (bind_use hc _)), rfl, rfl, rfl⟩
  · cases h
end Go.Proofs.Ytgmnclpjbhmioaa
