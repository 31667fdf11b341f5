/-
Pure functions and what the code of them does, by program; without conditions.
-/
import Derived.Test.YtabfliifleonaabQbPG3
import Derived.Test.YtabfliifleonaabQbP2
import Derived.Test.YtabfliifleonaabQbS1
namespace Go.Proofs.Ytabfliifleonaab
open Go Go.Lv Go.Lv.P Go.Proofs
set_option linter.unusedVariables false
set_option linter.unusedSimpArgs false
set_option maxRecDepth 100000
/-! slices.Grow[[]int,int] -/
noncomputable def slices_Grow_intint_tab (F : Nat) : Tab := []
theorem slices_Grow_intint_tabok (F : Nat) : TabOK Try.prog (slices_Grow_intint_tab F) := tab_nil
noncomputable def slices_Grow_intint_LS0 (F : Nat) : LT := []
theorem slices_Grow_intint_lsok0 (F : Nat) : LoopsOK Try.prog (slices_Grow_intint_LS0 F) (bodyOf Try.f90) := loopsOK_nil
theorem slices_Grow_intint_run (F : Nat) (n0 : Int) : runS tt (slices_Grow_intint_tab F) (slices_Grow_intint_LS0 F) [⟨4, 3, (.ri .i64 ([] : List Int))⟩] [] Try.f90 (bodyOf Try.f90) 70 [.z0, (.int .i64 n0)] [] = slices_Grow_intint_c _ n0 (fun r => some ⟨(.sl 0 0 0), [(.vec 3 (.ri .i64 r))], []⟩) := by kernel_rfl
def slices_Grow_intint_ent (F : Nat) : Ent := ⟨[true], .fresh, fun args mem => match args, mem with
  | [.z0, (.int .i64 n0)], [] => some ((slices_Grow_intint_p n0).isSome, ⟨(.sl 0 0 0), [(.vec 3 (.ri .i64 ((slices_Grow_intint_p n0).getD default)))], []⟩)
  | _, _ => none⟩
theorem slices_Grow_intint_fok : FunOK Try.prog 90 := funOK Try.func90 (by kernel_rfl) rfl
theorem slices_Grow_intint_meets (F : Nat) : Meets Try.prog 90 (slices_Grow_intint_ent F) := by
  refine meets_of_runS mixed ttok deep (slices_Grow_intint_tabok F) Try.func90 (body_some rfl) (slices_Grow_intint_lsok0 F) fun args mem hfit ret h => ?_
  clear hfit
  simp only [slices_Grow_intint_ent] at h
  split at h
  · rename_i n0
    simp only [Option.some.injEq, Prod.mk.injEq] at h
    obtain ⟨hc, rfl⟩ := h
    exact ⟨[⟨4, 3, (.ri .i64 ([] : List Int))⟩], [], 70, _, (slices_Grow_intint_run F n0).trans ((slices_Grow_intint_cp _ n0 _).trans (bind_use hc _)), rfl, rfl, rfl⟩
  · cases h

/-! slices.Concat[[]int,int] -/
noncomputable def slices_Concat_intint_tab (F : Nat) : Tab := [(90, (slices_Grow_intint_ent F))]
theorem slices_Concat_intint_tabok (F : Nat) : TabOK Try.prog (slices_Concat_intint_tab F) := (tab_cons (slices_Grow_intint_meets F) slices_Grow_intint_fok tab_nil)
noncomputable def slices_Concat_intint_LS0 (F : Nat) : LT := []
theorem slices_Concat_intint_lsok0 (F : Nat) : LoopsOK Try.prog (slices_Concat_intint_LS0 F) (bodyOf Try.f75) := loopsOK_nil
theorem slices_Concat_intint_run (F : Nat) (slices0 : List Int) (slices1 : List Int) (slices2 : List Int) (slices3 : List Int) : runS tt (slices_Concat_intint_tab F) (slices_Concat_intint_LS0 F) [] [] Try.f75 (bodyOf Try.f75) 70 [(.rv [(.ri .i64 slices0), (.ri .i64 slices1), (.ri .i64 slices2), (.ri .i64 slices3)])] [] = slices_Concat_intint_c _ slices0 slices1 slices2 slices3 (fun r => some ⟨(.sl 0 0 (List.length r)), [(.vec 3 (.ri .i64 r))], []⟩) := by kernel_rfl
def slices_Concat_intint_ent (F : Nat) : Ent := ⟨[], .fresh, fun args mem => match args, mem with
  | [(.rv [(.ri .i64 slices0), (.ri .i64 slices1), (.ri .i64 slices2), (.ri .i64 slices3)])], [] => some ((slices_Concat_intint_p slices0 slices1 slices2 slices3).isSome, ⟨(.sl 0 0 (List.length ((slices_Concat_intint_p slices0 slices1 slices2 slices3).getD default))), [(.vec 3 (.ri .i64 ((slices_Concat_intint_p slices0 slices1 slices2 slices3).getD default)))], []⟩)
  | _, _ => none⟩
theorem slices_Concat_intint_fok : FunOK Try.prog 75 := funOK Try.func75 (by kernel_rfl) rfl
theorem slices_Concat_intint_meets (F : Nat) : Meets Try.prog 75 (slices_Concat_intint_ent F) := by
  refine meets_of_runS mixed ttok deep (slices_Concat_intint_tabok F) Try.func75 (body_some rfl) (slices_Concat_intint_lsok0 F) fun args mem hfit ret h => ?_
  clear hfit
  simp only [slices_Concat_intint_ent] at h
  split at h
  · rename_i slices0 slices1 slices2 slices3
    simp only [Option.some.injEq, Prod.mk.injEq] at h
    obtain ⟨hc, rfl⟩ := h
    exact ⟨[], [], 70, _, (slices_Concat_intint_run F slices0 slices1 slices2 slices3).trans ((slices_Concat_intint_cp _ slices0 slices1 slices2 slices3 _).trans (bind_use hc _)), rfl, rfl, rfl⟩
  · cases h

/-! (loop.example/g01194/impl.Board).flat -/
noncomputable def impl_Board_flat_tab (F : Nat) : Tab := [(75, (slices_Concat_intint_ent F))]
theorem impl_Board_flat_tabok (F : Nat) : TabOK Try.prog (impl_Board_flat_tab F) := (tab_cons (slices_Concat_intint_meets F) slices_Concat_intint_fok tab_nil)
noncomputable def impl_Board_flat_LS0 (F : Nat) : LT := []
theorem impl_Board_flat_lsok0 (F : Nat) : LoopsOK Try.prog (impl_Board_flat_LS0 F) (bodyOf Try.f63) := loopsOK_nil
theorem impl_Board_flat_run (F : Nat) (b0 : List Int) : runS tt (impl_Board_flat_tab F) (impl_Board_flat_LS0 F) [] [] Try.f63 (bodyOf Try.f63) 70 [(.ints 16 b0)] [] = impl_Board_flat_c _ b0 (fun r => some ⟨(.sl 0 0 (List.length r)), [(.vec 3 (.ri .i64 r))], []⟩) := by kernel_rfl
def impl_Board_flat_ent (F : Nat) : Ent := ⟨[], .fresh, fun args mem => match args, mem with
  | [(.ints 16 b0)], [] => some ((impl_Board_flat_p b0).isSome, ⟨(.sl 0 0 (List.length ((impl_Board_flat_p b0).getD default))), [(.vec 3 (.ri .i64 ((impl_Board_flat_p b0).getD default)))], []⟩)
  | _, _ => none⟩
theorem impl_Board_flat_fok : FunOK Try.prog 63 := funOK Try.func63 (by kernel_rfl) rfl
theorem impl_Board_flat_meets (F : Nat) : Meets Try.prog 63 (impl_Board_flat_ent F) := by
  refine meets_of_runS mixed ttok deep (impl_Board_flat_tabok F) Try.func63 (body_some rfl) (impl_Board_flat_lsok0 F) fun args mem hfit ret h => ?_
  clear hfit
  simp only [impl_Board_flat_ent] at h
  split at h
  · rename_i b0
    simp only [Option.some.injEq, Prod.mk.injEq] at h
    obtain ⟨hc, rfl⟩ := h
    exact ⟨[], [], 70, _, (impl_Board_flat_run F b0).trans ((impl_Board_flat_cp _ b0 _).trans (bind_use hc _)), rfl, rfl, rfl⟩
  · cases h

/-! cmp.isNaN[int] -/
noncomputable def cmp_isNaN_int_tab (F : Nat) : Tab := []
theorem cmp_isNaN_int_tabok (F : Nat) : TabOK Try.prog (cmp_isNaN_int_tab F) := tab_nil
noncomputable def cmp_isNaN_int_LS0 (F : Nat) : LT := []
theorem cmp_isNaN_int_lsok0 (F : Nat) : LoopsOK Try.prog (cmp_isNaN_int_LS0 F) (bodyOf Try.f89) := loopsOK_nil
theorem cmp_isNaN_int_run (F : Nat) (x0 : Int) : runS tt (cmp_isNaN_int_tab F) (cmp_isNaN_int_LS0 F) [] [] Try.f89 (bodyOf Try.f89) 70 [(.int .i64 x0)] [] = cmp_isNaN_int_c _ x0 (fun r => some ⟨(.bool r), [], []⟩) := by kernel_rfl
def cmp_isNaN_int_ent (F : Nat) : Ent := ⟨[], .quiet, fun args mem => match args, mem with
  | [(.int .i64 x0)], [] => some (true, ⟨(.bool (cmp_isNaN_int_v x0)), [], []⟩)
  | _, _ => none⟩
theorem cmp_isNaN_int_fok : FunOK Try.prog 89 := funOK Try.func89 (by kernel_rfl) rfl
theorem cmp_isNaN_int_meets (F : Nat) : Meets Try.prog 89 (cmp_isNaN_int_ent F) := by
  refine meets_of_runS mixed ttok deep (cmp_isNaN_int_tabok F) Try.func89 (body_some rfl) (cmp_isNaN_int_lsok0 F) fun args mem hfit ret h => ?_
  clear hfit
  simp only [cmp_isNaN_int_ent] at h
  split at h
  · rename_i x0
    simp only [Option.some.injEq, Prod.mk.injEq] at h
    obtain ⟨hc, rfl⟩ := h
    exact ⟨[], [], 70, _, (cmp_isNaN_int_run F x0).trans (cmp_isNaN_int_cv _ x0 _), rfl, rfl, rfl⟩
  · cases h

/-! cmp.Compare[int] -/
noncomputable def cmp_Compare_int_tab (F : Nat) : Tab := [(89, (cmp_isNaN_int_ent F))]
theorem cmp_Compare_int_tabok (F : Nat) : TabOK Try.prog (cmp_Compare_int_tab F) := (tab_cons (cmp_isNaN_int_meets F) cmp_isNaN_int_fok tab_nil)
noncomputable def cmp_Compare_int_LS0 (F : Nat) : LT := []
theorem cmp_Compare_int_lsok0 (F : Nat) : LoopsOK Try.prog (cmp_Compare_int_LS0 F) (bodyOf Try.f74) := loopsOK_nil
theorem cmp_Compare_int_run (F : Nat) (x0 : Int) (y1 : Int) : runS tt (cmp_Compare_int_tab F) (cmp_Compare_int_LS0 F) [] [] Try.f74 (bodyOf Try.f74) 70 [(.int .i64 x0), (.int .i64 y1)] [] = cmp_Compare_int_c _ x0 y1 (fun r => some ⟨(.int .i64 r), [], []⟩) := by kernel_rfl
def cmp_Compare_int_ent (F : Nat) : Ent := ⟨[], .quiet, fun args mem => match args, mem with
  | [(.int .i64 x0), (.int .i64 y1)], [] => some (true, ⟨(.int .i64 (cmp_Compare_int_v x0 y1)), [], []⟩)
  | _, _ => none⟩
theorem cmp_Compare_int_fok : FunOK Try.prog 74 := funOK Try.func74 (by kernel_rfl) rfl
theorem cmp_Compare_int_meets (F : Nat) : Meets Try.prog 74 (cmp_Compare_int_ent F) := by
  refine meets_of_runS mixed ttok deep (cmp_Compare_int_tabok F) Try.func74 (body_some rfl) (cmp_Compare_int_lsok0 F) fun args mem hfit ret h => ?_
  clear hfit
  simp only [cmp_Compare_int_ent] at h
  split at h
  · rename_i x0 y1
    simp only [Option.some.injEq, Prod.mk.injEq] at h
    obtain ⟨hc, rfl⟩ := h
    exact ⟨[], [], 70, _, (cmp_Compare_int_run F x0 y1).trans (cmp_Compare_int_cv _ x0 y1 _), rfl, rfl, rfl⟩
  · cases h

/-! slices.Compare[[]int,int] -/
noncomputable def slices_Compare_intint_tab (F : Nat) : Tab := [(74, (cmp_Compare_int_ent F))]
theorem slices_Compare_intint_tabok (F : Nat) : TabOK Try.prog (slices_Compare_intint_tab F) := (tab_cons (cmp_Compare_int_meets F) cmp_Compare_int_fok tab_nil)
noncomputable def slices_Compare_intint_LS0 (F : Nat) : LT := []
theorem slices_Compare_intint_lsok0 (F : Nat) : LoopsOK Try.prog (slices_Compare_intint_LS0 F) (bodyOf Try.f62) := loopsOK_nil
theorem slices_Compare_intint_keys : keysOK (bodyOf Try.f62) = true := by kernel_rfl
def slices_Compare_intint_st2 (s10 : List Int) (s21 : List Int) (t92 : List Int) (t103 : Int) (t114 : Int) : St := ⟨expand 36 0 [0, 1, 9, 10, 11] [(.ri .i64 s10), (.ri .i64 s21), (.ri .i64 t92), (.int .i64 t103), (.int .i64 t114)], [], 0, []⟩
def slices_Compare_intint_o2 (s10 : List Int) (s21 : List Int) (t92 : List Int) (t103 : Int) (x : Bool × Int) : GT := (.br x.1 (.out (.ret ⟨expand 36 0 [4] [(.int .i64 x.2)], [], 0, []⟩)) (.out (.exit 0 ⟨expand 36 0 [0, 1] [(.ri .i64 s10), (.ri .i64 s21)], [], 0, []⟩)))
def slices_Compare_intint_ls2 (F : Nat) : LoopS := ⟨36, [0, 1, 9, 10, 11], [], [0, 1], [], [4], [], [], fun vals mem np killed => match vals, mem, np, killed with
  | [(.ri .i64 s10), (.ri .i64 s21), (.ri .i64 t92), (.int .i64 t103), (.int .i64 t114)], [], 0, [] => .br (slices_Compare_intint_l2 F s10 s21 t92 t103 t114).isSome (slices_Compare_intint_o2 s10 s21 t92 t103 ((slices_Compare_intint_l2 F s10 s21 t92 t103 t114).getD default)) .fail
  | _, _, _, _ => .fail⟩
theorem slices_Compare_intint_step2 (F : Nat) (s10 : List Int) (s21 : List Int) (t92 : List Int) (t103 : Int) (t114 : Int) {R : Type} (k : Out → Option R) : stepS tt (slices_Compare_intint_tab F) (slices_Compare_intint_LS0 F) 70 (slices_Compare_intint_ls2 F) (loopAt 2 (bodyOf Try.f62)) (slices_Compare_intint_st2 s10 s21 t92 t103 t114) k = slices_Compare_intint_s2 F s10 s21 t92 t103 R t114 (fun s => k (.norm (slices_Compare_intint_st2 s10 s21 t92 t103 s))) (fun x => (slices_Compare_intint_o2 s10 s21 t92 t103 x).run k) := by kernel_rfl
theorem slices_Compare_intint_iter2 (F : Nat) (s10 : List Int) (s21 : List Int) (t92 : List Int) (t103 : Int) {R : Type} (k : Out → Option R) : ∀ (n : Nat) (t114 : Int), iterS tt (slices_Compare_intint_tab F) (slices_Compare_intint_LS0 F) 70 (slices_Compare_intint_ls2 F) (loopAt 2 (bodyOf Try.f62)) n (slices_Compare_intint_st2 s10 s21 t92 t103 t114) k = loopC (slices_Compare_intint_s2 F s10 s21 t92 t103) n t114 (fun x => (slices_Compare_intint_o2 s10 s21 t92 t103 x).run k)
  | 0, t114 => rfl
  | n + 1, t114 => (iterS_succ tt (slices_Compare_intint_tab F) (slices_Compare_intint_LS0 F) 70 (slices_Compare_intint_ls2 F) (loopAt 2 (bodyOf Try.f62)) n (slices_Compare_intint_st2 s10 s21 t92 t103 t114) k).trans ((slices_Compare_intint_step2 F s10 s21 t92 t103 t114 (nextK (iterS tt (slices_Compare_intint_tab F) (slices_Compare_intint_LS0 F) 70 (slices_Compare_intint_ls2 F) (loopAt 2 (bodyOf Try.f62)) n) k)).trans (congrArg (fun kn => slices_Compare_intint_s2 F s10 s21 t92 t103 R t114 kn _) (funext (fun t114 => slices_Compare_intint_iter2 F s10 s21 t92 t103 k n t114))))
theorem slices_Compare_intint_lok2 (F : Nat) : LoopOK Try.prog (loopAt 2 (bodyOf Try.f62)) (slices_Compare_intint_ls2 F) := by
  refine loopOK_of mixed ttok deep (slices_Compare_intint_tabok F) (loopsOK_at (slices_Compare_intint_lsok0 F) 2) (fuel := 70) fun R vals mem np killed k x h => ?_
  simp only [slices_Compare_intint_ls2] at h
  split at h
  · rename_i s10 s21 t92 t103 t114
    simp only [GT.run] at h
    have hc := (cond_noneL h).1
    replace h := (cond_noneL h).2
    refine ⟨F, (slices_Compare_intint_iter2 F s10 s21 t92 t103 k F t114).trans ((loopC_use (slices_Compare_intint_s2_nat F s10 s21 t92 t103) hc _).trans h)⟩
  · simp only [GT.run] at h
    cases h
noncomputable def slices_Compare_intint_LS1 (F : Nat) : LT := (2, slices_Compare_intint_ls2 F) :: slices_Compare_intint_LS0 F
theorem slices_Compare_intint_lsok1 (F : Nat) : LoopsOK Try.prog (slices_Compare_intint_LS1 F) (bodyOf Try.f62) := loopsOK_cons slices_Compare_intint_keys (slices_Compare_intint_lok2 F) (slices_Compare_intint_lsok0 F)
theorem slices_Compare_intint_run (F : Nat) (s10 : List Int) (s21 : List Int) : runS tt (slices_Compare_intint_tab F) (slices_Compare_intint_LS1 F) [] [] Try.f62 (bodyOf Try.f62) 70 [(.ri .i64 s10), (.ri .i64 s21)] [] = slices_Compare_intint_c _ F s10 s21 (fun r => some ⟨(.int .i64 r), [], []⟩) := by kernel_rfl
def slices_Compare_intint_ent (F : Nat) : Ent := ⟨[], .quiet, fun args mem => match args, mem with
  | [(.ri .i64 s10), (.ri .i64 s21)], [] => some ((slices_Compare_intint_p F s10 s21).isSome, ⟨(.int .i64 ((slices_Compare_intint_p F s10 s21).getD default)), [], []⟩)
  | _, _ => none⟩
theorem slices_Compare_intint_fok : FunOK Try.prog 62 := funOK Try.func62 (by kernel_rfl) rfl
theorem slices_Compare_intint_meets (F : Nat) : Meets Try.prog 62 (slices_Compare_intint_ent F) := by
  refine meets_of_runS mixed ttok deep (slices_Compare_intint_tabok F) Try.func62 (body_some rfl) (slices_Compare_intint_lsok1 F) fun args mem hfit ret h => ?_
  clear hfit
  simp only [slices_Compare_intint_ent] at h
  split at h
  · rename_i s10 s21
    simp only [Option.some.injEq, Prod.mk.injEq] at h
    obtain ⟨hc, rfl⟩ := h
    exact ⟨[], [], 70, _, (slices_Compare_intint_run F s10 s21).trans ((slices_Compare_intint_cp _ F s10 s21 _).trans (bind_use hc _)), rfl, rfl, rfl⟩
  · cases h

/-! (loop.example/g01194/impl.Board).order -/
noncomputable def impl_Board_order_tab (F : Nat) : Tab := [(63, (impl_Board_flat_ent F)), (62, (slices_Compare_intint_ent F))]
theorem impl_Board_order_tabok (F : Nat) : TabOK Try.prog (impl_Board_order_tab F) := (tab_cons (impl_Board_flat_meets F) impl_Board_flat_fok (tab_cons (slices_Compare_intint_meets F) slices_Compare_intint_fok tab_nil))
noncomputable def impl_Board_order_LS0 (F : Nat) : LT := []
theorem impl_Board_order_lsok0 (F : Nat) : LoopsOK Try.prog (impl_Board_order_LS0 F) (bodyOf Try.f38) := loopsOK_nil
theorem impl_Board_order_run (F : Nat) (b0 : List Int) (c1 : List Int) : runS tt (impl_Board_order_tab F) (impl_Board_order_LS0 F) [] [] Try.f38 (bodyOf Try.f38) 70 [(.ints 16 b0), (.ints 16 c1)] [] = impl_Board_order_c _ F b0 c1 (fun r => some ⟨(.int .i64 r), [], []⟩) := by kernel_rfl
def impl_Board_order_ent (F : Nat) : Ent := ⟨[], .quiet, fun args mem => match args, mem with
  | [(.ints 16 b0), (.ints 16 c1)], [] => some ((impl_Board_order_p F b0 c1).isSome, ⟨(.int .i64 ((impl_Board_order_p F b0 c1).getD default)), [], []⟩)
  | _, _ => none⟩
theorem impl_Board_order_fok : FunOK Try.prog 38 := funOK Try.func38 (by kernel_rfl) rfl
theorem impl_Board_order_meets (F : Nat) : Meets Try.prog 38 (impl_Board_order_ent F) := by
  refine meets_of_runS mixed ttok deep (impl_Board_order_tabok F) Try.func38 (body_some rfl) (impl_Board_order_lsok0 F) fun args mem hfit ret h => ?_
  clear hfit
  simp only [impl_Board_order_ent] at h
  split at h
  · rename_i b0 c1
    simp only [Option.some.injEq, Prod.mk.injEq] at h
    obtain ⟨hc, rfl⟩ := h
    exact ⟨[], [], 70, _, (impl_Board_order_run F b0 c1).trans ((impl_Board_order_cp _ F b0 c1 _).trans (bind_use hc _)), rfl, rfl, rfl⟩
  · cases h

/-! slices.SortFunc[[]loop.example/g01194/impl.Board,loop.example/g01194/impl.Board] -/
def slices_SortFunc_implBoardimplBoard_impl_Board_order_ent (F : Nat) : Ent := sortEnt 38 16 27 F
theorem slices_SortFunc_implBoardimplBoard_impl_Board_order_fok : FunOK Try.prog 45 := funOK Try.func45 (by kernel_rfl) rfl
theorem slices_SortFunc_implBoardimplBoard_impl_Board_order_meets (F : Nat) : Meets Try.prog 45 (slices_SortFunc_implBoardimplBoard_impl_Board_order_ent F) := by
  refine meets_sortK Try.sort45 16 27 F Try.isAgg27 Try.sizeOf27 38 (enters_of Try.func38 (by kernel_rfl) rfl) (impl_Board_order_ent F) (impl_Board_order_meets F) rfl fun hF x y hx hy => ?_
  simp only [impl_Board_order_ent, impl_Board_order_cmp F hF hx hy, Option.isSome_some, Option.getD_some]

/-! slices.Compact[[]loop.example/g01194/impl.Board,loop.example/g01194/impl.Board] -/
noncomputable def slices_Compact_implBoardimplBoard_tab (F : Nat) : Tab := []
theorem slices_Compact_implBoardimplBoard_tabok (F : Nat) : TabOK Try.prog (slices_Compact_implBoardimplBoard_tab F) := tab_nil
noncomputable def slices_Compact_implBoardimplBoard_LS0 (F : Nat) : LT := []
theorem slices_Compact_implBoardimplBoard_lsok0 (F : Nat) : LoopsOK Try.prog (slices_Compact_implBoardimplBoard_LS0 F) (bodyOf Try.f46) := loopsOK_nil
theorem slices_Compact_implBoardimplBoard_keys : keysOK (bodyOf Try.f46) = true := by kernel_rfl
def slices_Compact_implBoardimplBoard_st9 (s1 : Nat) (s23 : Nat) (s24 : Nat) (k2 : Int) (k25 : Int) (s6 : List (List Int)) : St := ⟨expand 61 0 [0, 3, 4, 5] [(.sl 0 0 s1), (.int .i64 k2), (.sl 0 s23 s24), (.int .i64 k25)], [(.vec 27 (.rr 16 s6))], 1, []⟩
def slices_Compact_implBoardimplBoard_o9 (s1 : Nat) (s23 : Nat) (s24 : Nat) (x : Int × List (List Int)) : GT := (.out (.exit 2 ⟨expand 61 0 [0, 3] [(.sl 0 0 s1), (.int .i64 x.1)], [(.vec 27 (.rr 16 x.2))], 1, []⟩))
def slices_Compact_implBoardimplBoard_ls9 (F : Nat) : LoopS := ⟨61, [0, 3, 4, 5], [], [0, 3], [], [2], [], [], fun vals mem np killed => match vals, mem, np, killed with
  | [(.sl 0 0 s1), (.int .i64 k2), (.sl 0 s23 s24), (.int .i64 k25)], [(.vec 27 (.rr 16 s6))], 1, [] => .br (slices_Compact_implBoardimplBoard_l9 F s1 s23 s24 k2 k25 s6).isSome (slices_Compact_implBoardimplBoard_o9 s1 s23 s24 ((slices_Compact_implBoardimplBoard_l9 F s1 s23 s24 k2 k25 s6).getD default)) .fail
  | _, _, _, _ => .fail⟩
theorem slices_Compact_implBoardimplBoard_step9 (F : Nat) (s1 : Nat) (s23 : Nat) (s24 : Nat) (k2 : Int) (k25 : Int) (s6 : List (List Int)) {R : Type} (k : Out → Option R) : stepS tt (slices_Compact_implBoardimplBoard_tab F) (slices_Compact_implBoardimplBoard_LS0 F) 70 (slices_Compact_implBoardimplBoard_ls9 F) (loopAt 9 (bodyOf Try.f46)) (slices_Compact_implBoardimplBoard_st9 s1 s23 s24 k2 k25 s6) k = slices_Compact_implBoardimplBoard_s9 F s1 s23 s24 R (k2, k25, s6) (fun s => k (.norm (slices_Compact_implBoardimplBoard_st9 s1 s23 s24 s.1 s.2.1 s.2.2))) (fun x => (slices_Compact_implBoardimplBoard_o9 s1 s23 s24 x).run k) := by kernel_rfl
theorem slices_Compact_implBoardimplBoard_iter9 (F : Nat) (s1 : Nat) (s23 : Nat) (s24 : Nat) {R : Type} (k : Out → Option R) : ∀ (n : Nat) (k2 : Int) (k25 : Int) (s6 : List (List Int)), iterS tt (slices_Compact_implBoardimplBoard_tab F) (slices_Compact_implBoardimplBoard_LS0 F) 70 (slices_Compact_implBoardimplBoard_ls9 F) (loopAt 9 (bodyOf Try.f46)) n (slices_Compact_implBoardimplBoard_st9 s1 s23 s24 k2 k25 s6) k = loopC (slices_Compact_implBoardimplBoard_s9 F s1 s23 s24) n (k2, k25, s6) (fun x => (slices_Compact_implBoardimplBoard_o9 s1 s23 s24 x).run k)
  | 0, k2, k25, s6 => rfl
  | n + 1, k2, k25, s6 => (iterS_succ tt (slices_Compact_implBoardimplBoard_tab F) (slices_Compact_implBoardimplBoard_LS0 F) 70 (slices_Compact_implBoardimplBoard_ls9 F) (loopAt 9 (bodyOf Try.f46)) n (slices_Compact_implBoardimplBoard_st9 s1 s23 s24 k2 k25 s6) k).trans ((slices_Compact_implBoardimplBoard_step9 F s1 s23 s24 k2 k25 s6 (nextK (iterS tt (slices_Compact_implBoardimplBoard_tab F) (slices_Compact_implBoardimplBoard_LS0 F) 70 (slices_Compact_implBoardimplBoard_ls9 F) (loopAt 9 (bodyOf Try.f46)) n) k)).trans (congrArg (fun kn => slices_Compact_implBoardimplBoard_s9 F s1 s23 s24 R (k2, k25, s6) kn _) (funext (fun ⟨k2, k25, s6⟩ => slices_Compact_implBoardimplBoard_iter9 F s1 s23 s24 k n k2 k25 s6))))
theorem slices_Compact_implBoardimplBoard_lok9 (F : Nat) : LoopOK Try.prog (loopAt 9 (bodyOf Try.f46)) (slices_Compact_implBoardimplBoard_ls9 F) := by
  refine loopOK_of mixed ttok deep (slices_Compact_implBoardimplBoard_tabok F) (loopsOK_at (slices_Compact_implBoardimplBoard_lsok0 F) 9) (fuel := 70) fun R vals mem np killed k x h => ?_
  simp only [slices_Compact_implBoardimplBoard_ls9] at h
  split at h
  · rename_i s1 k2 s23 s24 k25 s6
    simp only [GT.run] at h
    have hc := (cond_noneL h).1
    replace h := (cond_noneL h).2
    refine ⟨F, (slices_Compact_implBoardimplBoard_iter9 F s1 s23 s24 k F k2 k25 s6).trans ((loopC_use (slices_Compact_implBoardimplBoard_s9_nat F s1 s23 s24) hc _).trans h)⟩
  · simp only [GT.run] at h
    cases h
noncomputable def slices_Compact_implBoardimplBoard_LS1 (F : Nat) : LT := (9, slices_Compact_implBoardimplBoard_ls9 F) :: slices_Compact_implBoardimplBoard_LS0 F
theorem slices_Compact_implBoardimplBoard_lsok1 (F : Nat) : LoopsOK Try.prog (slices_Compact_implBoardimplBoard_LS1 F) (bodyOf Try.f46) := loopsOK_cons slices_Compact_implBoardimplBoard_keys (slices_Compact_implBoardimplBoard_lok9 F) (slices_Compact_implBoardimplBoard_lsok0 F)
def slices_Compact_implBoardimplBoard_st4 (s1 : Nat) (s3 : List (List Int)) (k2 : Int) : St := ⟨expand 61 0 [0, 3] [(.sl 0 0 s1), (.int .i64 k2)], [(.vec 27 (.rr 16 s3))], 1, []⟩
def slices_Compact_implBoardimplBoard_o4 (s1 : Nat) (s3 : List (List Int)) (x : Bool × Nat × List (List Int)) : GT := (.br x.1 (.out (.ret ⟨expand 61 0 [2] [(.sl 0 0 x.2.1)], [(.vec 27 (.rr 16 x.2.2))], 1, []⟩)) (.out (.exit 0 ⟨expand 61 0 [0] [(.sl 0 0 s1)], [(.vec 27 (.rr 16 s3))], 1, []⟩)))
def slices_Compact_implBoardimplBoard_ls4 (F : Nat) : LoopS := ⟨61, [0, 3], [], [0], [], [2], [], [], fun vals mem np killed => match vals, mem, np, killed with
  | [(.sl 0 0 s1), (.int .i64 k2)], [(.vec 27 (.rr 16 s3))], 1, [] => .br (slices_Compact_implBoardimplBoard_l4 F s1 s3 k2).isSome (slices_Compact_implBoardimplBoard_o4 s1 s3 ((slices_Compact_implBoardimplBoard_l4 F s1 s3 k2).getD default)) .fail
  | _, _, _, _ => .fail⟩
theorem slices_Compact_implBoardimplBoard_step4 (F : Nat) (s1 : Nat) (s3 : List (List Int)) (k2 : Int) {R : Type} (k : Out → Option R) : stepS tt (slices_Compact_implBoardimplBoard_tab F) (slices_Compact_implBoardimplBoard_LS1 F) 70 (slices_Compact_implBoardimplBoard_ls4 F) (loopAt 4 (bodyOf Try.f46)) (slices_Compact_implBoardimplBoard_st4 s1 s3 k2) k = slices_Compact_implBoardimplBoard_s4 F s1 s3 R k2 (fun s => k (.norm (slices_Compact_implBoardimplBoard_st4 s1 s3 s))) (fun x => (slices_Compact_implBoardimplBoard_o4 s1 s3 x).run k) := by kernel_rfl
theorem slices_Compact_implBoardimplBoard_iter4 (F : Nat) (s1 : Nat) (s3 : List (List Int)) {R : Type} (k : Out → Option R) : ∀ (n : Nat) (k2 : Int), iterS tt (slices_Compact_implBoardimplBoard_tab F) (slices_Compact_implBoardimplBoard_LS1 F) 70 (slices_Compact_implBoardimplBoard_ls4 F) (loopAt 4 (bodyOf Try.f46)) n (slices_Compact_implBoardimplBoard_st4 s1 s3 k2) k = loopC (slices_Compact_implBoardimplBoard_s4 F s1 s3) n k2 (fun x => (slices_Compact_implBoardimplBoard_o4 s1 s3 x).run k)
  | 0, k2 => rfl
  | n + 1, k2 => (iterS_succ tt (slices_Compact_implBoardimplBoard_tab F) (slices_Compact_implBoardimplBoard_LS1 F) 70 (slices_Compact_implBoardimplBoard_ls4 F) (loopAt 4 (bodyOf Try.f46)) n (slices_Compact_implBoardimplBoard_st4 s1 s3 k2) k).trans ((slices_Compact_implBoardimplBoard_step4 F s1 s3 k2 (nextK (iterS tt (slices_Compact_implBoardimplBoard_tab F) (slices_Compact_implBoardimplBoard_LS1 F) 70 (slices_Compact_implBoardimplBoard_ls4 F) (loopAt 4 (bodyOf Try.f46)) n) k)).trans (congrArg (fun kn => slices_Compact_implBoardimplBoard_s4 F s1 s3 R k2 kn _) (funext (fun k2 => slices_Compact_implBoardimplBoard_iter4 F s1 s3 k n k2))))
theorem slices_Compact_implBoardimplBoard_lok4 (F : Nat) : LoopOK Try.prog (loopAt 4 (bodyOf Try.f46)) (slices_Compact_implBoardimplBoard_ls4 F) := by
  refine loopOK_of mixed ttok deep (slices_Compact_implBoardimplBoard_tabok F) (loopsOK_at (slices_Compact_implBoardimplBoard_lsok1 F) 4) (fuel := 70) fun R vals mem np killed k x h => ?_
  simp only [slices_Compact_implBoardimplBoard_ls4] at h
  split at h
  · rename_i s1 k2 s3
    simp only [GT.run] at h
    have hc := (cond_noneL h).1
    replace h := (cond_noneL h).2
    refine ⟨F, (slices_Compact_implBoardimplBoard_iter4 F s1 s3 k F k2).trans ((loopC_use (slices_Compact_implBoardimplBoard_s4_nat F s1 s3) hc _).trans h)⟩
  · simp only [GT.run] at h
    cases h
noncomputable def slices_Compact_implBoardimplBoard_LS2 (F : Nat) : LT := (4, slices_Compact_implBoardimplBoard_ls4 F) :: slices_Compact_implBoardimplBoard_LS1 F
theorem slices_Compact_implBoardimplBoard_lsok2 (F : Nat) : LoopsOK Try.prog (slices_Compact_implBoardimplBoard_LS2 F) (bodyOf Try.f46) := loopsOK_cons slices_Compact_implBoardimplBoard_keys (slices_Compact_implBoardimplBoard_lok4 F) (slices_Compact_implBoardimplBoard_lsok1 F)
theorem slices_Compact_implBoardimplBoard_run (F : Nat) (s1 : Nat) (s2 : List (List Int)) : runS tt (slices_Compact_implBoardimplBoard_tab F) (slices_Compact_implBoardimplBoard_LS2 F) [] [] Try.f46 (bodyOf Try.f46) 70 [(.sl 0 0 s1)] [(.vec 27 (.rr 16 s2))] = slices_Compact_implBoardimplBoard_c _ F s1 s2 (fun r => some ⟨(.sl 0 0 r.1), [(.vec 27 (.rr 16 r.2))], []⟩) := by kernel_rfl
def slices_Compact_implBoardimplBoard_ent (F : Nat) : Ent := ⟨[true], .loud, fun args mem => match args, mem with
  | [(.sl 0 0 s1)], [(.vec 27 (.rr 16 s2))] => some ((slices_Compact_implBoardimplBoard_p F s1 s2).isSome, ⟨(.sl 0 0 ((slices_Compact_implBoardimplBoard_p F s1 s2).getD default).1), [(.vec 27 (.rr 16 ((slices_Compact_implBoardimplBoard_p F s1 s2).getD default).2))], []⟩)
  | _, _ => none⟩
theorem slices_Compact_implBoardimplBoard_fok : FunOK Try.prog 46 := funOK Try.func46 (by kernel_rfl) rfl
theorem slices_Compact_implBoardimplBoard_meets (F : Nat) : Meets Try.prog 46 (slices_Compact_implBoardimplBoard_ent F) := by
  refine meets_of_runS mixed ttok deep (slices_Compact_implBoardimplBoard_tabok F) Try.func46 (body_some rfl) (slices_Compact_implBoardimplBoard_lsok2 F) fun args mem hfit ret h => ?_
  clear hfit
  simp only [slices_Compact_implBoardimplBoard_ent] at h
  split at h
  · rename_i s1 s2
    simp only [Option.some.injEq, Prod.mk.injEq] at h
    obtain ⟨hc, rfl⟩ := h
    exact ⟨[], [], 70, _, (slices_Compact_implBoardimplBoard_run F s1 s2).trans ((slices_Compact_implBoardimplBoard_cp _ F s1 s2 _).trans (bind_use hc _)), rfl, rfl, rfl⟩
  · cases h

/-! loop.example/g01194/impl.ordered -/
noncomputable def impl_ordered_tab (F : Nat) : Tab := [(45, (slices_SortFunc_implBoardimplBoard_impl_Board_order_ent F)), (46, (slices_Compact_implBoardimplBoard_ent F))]
theorem impl_ordered_tabok (F : Nat) : TabOK Try.prog (impl_ordered_tab F) := (tab_cons (slices_SortFunc_implBoardimplBoard_impl_Board_order_meets F) slices_SortFunc_implBoardimplBoard_impl_Board_order_fok (tab_cons (slices_Compact_implBoardimplBoard_meets F) slices_Compact_implBoardimplBoard_fok tab_nil))
noncomputable def impl_ordered_LS0 (F : Nat) : LT := []
theorem impl_ordered_lsok0 (F : Nat) : LoopsOK Try.prog (impl_ordered_LS0 F) (bodyOf Try.f25) := loopsOK_nil
theorem impl_ordered_run (F : Nat) (list2 : List (List Int)) : runS tt (impl_ordered_tab F) (impl_ordered_LS0 F) [] [] Try.f25 (bodyOf Try.f25) 70 [(.sl 0 0 (List.length list2))] [(.vec 27 (.rr 16 list2))] = impl_ordered_c _ F list2 (fun r => some ⟨(.sl 0 0 r.1), [(.vec 27 (.rr 16 r.2))], []⟩) := by kernel_rfl
def impl_ordered_ent (F : Nat) : Ent := ⟨[true], .loud, fun args mem => match args, mem with
  | [(.sl 0 0 q_list1)], [(.vec 27 (.rr 16 list2))] => some (((Nat.beq q_list1 (List.length list2)) && (impl_ordered_p F list2).isSome), ⟨(.sl 0 0 ((impl_ordered_p F list2).getD default).1), [(.vec 27 (.rr 16 ((impl_ordered_p F list2).getD default).2))], []⟩)
  | _, _ => none⟩
theorem impl_ordered_fok : FunOK Try.prog 25 := funOK Try.func25 (by kernel_rfl) rfl
theorem impl_ordered_meets (F : Nat) : Meets Try.prog 25 (impl_ordered_ent F) := by
  refine meets_of_runS mixed ttok deep (impl_ordered_tabok F) Try.func25 (body_some rfl) (impl_ordered_lsok0 F) fun args mem hfit ret h => ?_
  clear hfit
  simp only [impl_ordered_ent] at h
  split at h
  · rename_i q_list1 list2
    simp only [Option.some.injEq, Prod.mk.injEq] at h
    obtain ⟨hc, rfl⟩ := h
    have hg := (and_split hc).1
    replace hc := (and_split hc).2
    obtain rfl := nbeq_nat hg
    exact ⟨[], [], 70, _, (impl_ordered_run F list2).trans ((impl_ordered_cp _ F list2 _).trans (bind_use hc _)), rfl, rfl, rfl⟩
  · cases h

/-! loop.example/g01194/impl.ReachBySlides -/
noncomputable def impl_ReachBySlides_tab (F : Nat) : Tab := [(22, (impl_IsBoard_ent F)), (23, (impl_in_ent F)), (24, (impl_Board_reach_ent F)), (25, (impl_ordered_ent F))]
theorem impl_ReachBySlides_tabok (F : Nat) : TabOK Try.prog (impl_ReachBySlides_tab F) := (tab_cons (impl_IsBoard_meets F) impl_IsBoard_fok (tab_cons (impl_in_meets F) impl_in_fok (tab_cons (impl_Board_reach_meets F) impl_Board_reach_fok (tab_cons (impl_ordered_meets F) impl_ordered_fok tab_nil))))
noncomputable def impl_ReachBySlides_LS0 (F : Nat) : LT := []
theorem impl_ReachBySlides_lsok0 (F : Nat) : LoopsOK Try.prog (impl_ReachBySlides_LS0 F) (bodyOf Try.f6) := loopsOK_nil
theorem impl_ReachBySlides_run (F : Nat) (b0 : List Int) (n1 : Int) : runS tt (impl_ReachBySlides_tab F) (impl_ReachBySlides_LS0 F) [⟨4, 27, (.rr 16 ([] : List (List Int)))⟩] [] Try.f6 (bodyOf Try.f6) 70 [(.ints 16 b0), (.int .i64 n1)] [] = impl_ReachBySlides_c _ F b0 n1 (fun r => some ⟨(.tup [(.sl 0 0 r.1), (.bool r.2.1)]), [(.vec 27 (.rr 16 r.2.2))], []⟩) := by kernel_rfl
def impl_ReachBySlides_ent (F : Nat) : Ent := ⟨[], .fresh, fun args mem => match args, mem with
  | [(.ints 16 b0), (.int .i64 n1)], [] => some ((impl_ReachBySlides_p F b0 n1).isSome, ⟨(.tup [(.sl 0 0 ((impl_ReachBySlides_p F b0 n1).getD default).1), (.bool ((impl_ReachBySlides_p F b0 n1).getD default).2.1)]), [(.vec 27 (.rr 16 ((impl_ReachBySlides_p F b0 n1).getD default).2.2))], []⟩)
  | _, _ => none⟩
theorem impl_ReachBySlides_fok : FunOK Try.prog 6 := funOK Try.func6 (by kernel_rfl) rfl
theorem impl_ReachBySlides_meets (F : Nat) : Meets Try.prog 6 (impl_ReachBySlides_ent F) := by
  refine meets_of_runS mixed ttok deep (impl_ReachBySlides_tabok F) Try.func6 (body_some rfl) (impl_ReachBySlides_lsok0 F) fun args mem hfit ret h => ?_
  clear hfit
  simp only [impl_ReachBySlides_ent] at h
  split at h
  · rename_i b0 n1
    simp only [Option.some.injEq, Prod.mk.injEq] at h
    obtain ⟨hc, rfl⟩ := h
    exact ⟨[⟨4, 27, (.rr 16 ([] : List (List Int)))⟩], [], 70, _, (impl_ReachBySlides_run F b0 n1).trans ((impl_ReachBySlides_cp _ F b0 n1 _).trans (bind_use hc _)), rfl, rfl, rfl⟩
  · cases h

/-! loop.example/g01194/spec.l1In -/
noncomputable def spec_l1In_tab (F : Nat) : Tab := []
theorem spec_l1In_tabok (F : Nat) : TabOK Try.prog (spec_l1In_tab F) := tab_nil
noncomputable def spec_l1In_LS0 (F : Nat) : LT := []
theorem spec_l1In_lsok0 (F : Nat) : LoopsOK Try.prog (spec_l1In_LS0 F) (bodyOf Try.f27) := loopsOK_nil
theorem spec_l1In_run (F : Nat) (x0 : Int) (a1 : Int) (b2 : Int) : runS tt (spec_l1In_tab F) (spec_l1In_LS0 F) [] [] Try.f27 (bodyOf Try.f27) 70 [(.int .i64 x0), (.int .i64 a1), (.int .i64 b2)] [] = spec_l1In_c _ x0 a1 b2 (fun r => some ⟨(.bool r), [], []⟩) := by kernel_rfl
def spec_l1In_ent (F : Nat) : Ent := ⟨[], .quiet, fun args mem => match args, mem with
  | [(.int .i64 x0), (.int .i64 a1), (.int .i64 b2)], [] => some (true, ⟨(.bool (spec_l1In_v x0 a1 b2)), [], []⟩)
  | _, _ => none⟩
theorem spec_l1In_fok : FunOK Try.prog 27 := funOK Try.func27 (by kernel_rfl) rfl
theorem spec_l1In_meets (F : Nat) : Meets Try.prog 27 (spec_l1In_ent F) := by
  refine meets_of_runS mixed ttok deep (spec_l1In_tabok F) Try.func27 (body_some rfl) (spec_l1In_lsok0 F) fun args mem hfit ret h => ?_
  clear hfit
  simp only [spec_l1In_ent] at h
  split at h
  · rename_i x0 a1 b2
    simp only [Option.some.injEq, Prod.mk.injEq] at h
    obtain ⟨hc, rfl⟩ := h
    exact ⟨[], [], 70, _, (spec_l1In_run F x0 a1 b2).trans (spec_l1In_cv _ x0 a1 b2 _), rfl, rfl, rfl⟩
  · cases h

/-! loop.example/g01194/spec.l2Board -/
noncomputable def spec_l2Board_tab (F : Nat) : Tab := [(27, (spec_l1In_ent F))]
theorem spec_l2Board_tabok (F : Nat) : TabOK Try.prog (spec_l2Board_tab F) := (tab_cons (spec_l1In_meets F) spec_l1In_fok tab_nil)
noncomputable def spec_l2Board_LS0 (F : Nat) : LT := []
theorem spec_l2Board_lsok0 (F : Nat) : LoopsOK Try.prog (spec_l2Board_LS0 F) (bodyOf Try.f26) := loopsOK_nil
theorem spec_l2Board_keys : keysOK (bodyOf Try.f26) = true := by kernel_rfl
def spec_l2Board_st5 (r3 : Int) (b5 : List Int) (c4 : Int) : St := ⟨expand 21 0 [1, 3, 4] [(.ptr 0 0 0 16), (.int .i64 r3), (.int .i64 c4)], [(.var 16 (.ri .i64 b5))], 0, []⟩
def spec_l2Board_o5 (r3 : Int) (b5 : List Int) (x : Bool) : GT := (.br x (.out (.ret ⟨expand 21 0 [2] [(.bool false)], [], 0, []⟩)) (.out (.exit 2 ⟨expand 21 0 [1, 3] [(.ptr 0 0 0 16), (.int .i64 r3)], [(.var 16 (.ri .i64 b5))], 0, []⟩)))
def spec_l2Board_ls5 (F : Nat) : LoopS := ⟨21, [1, 3, 4], [], [1, 3], [], [2], [], [], fun vals mem np killed => match vals, mem, np, killed with
  | [(.ptr 0 0 0 16), (.int .i64 r3), (.int .i64 c4)], [(.var 16 (.ri .i64 b5))], 0, [] => .br (spec_l2Board_l5 F r3 b5 c4).isSome (spec_l2Board_o5 r3 b5 ((spec_l2Board_l5 F r3 b5 c4).getD default)) .fail
  | _, _, _, _ => .fail⟩
theorem spec_l2Board_step5 (F : Nat) (r3 : Int) (b5 : List Int) (c4 : Int) {R : Type} (k : Out → Option R) : stepS tt (spec_l2Board_tab F) (spec_l2Board_LS0 F) 70 (spec_l2Board_ls5 F) (loopAt 5 (bodyOf Try.f26)) (spec_l2Board_st5 r3 b5 c4) k = spec_l2Board_s5 F r3 b5 R c4 (fun s => k (.norm (spec_l2Board_st5 r3 b5 s))) (fun x => (spec_l2Board_o5 r3 b5 x).run k) := by kernel_rfl
theorem spec_l2Board_iter5 (F : Nat) (r3 : Int) (b5 : List Int) {R : Type} (k : Out → Option R) : ∀ (n : Nat) (c4 : Int), iterS tt (spec_l2Board_tab F) (spec_l2Board_LS0 F) 70 (spec_l2Board_ls5 F) (loopAt 5 (bodyOf Try.f26)) n (spec_l2Board_st5 r3 b5 c4) k = loopC (spec_l2Board_s5 F r3 b5) n c4 (fun x => (spec_l2Board_o5 r3 b5 x).run k)
  | 0, c4 => rfl
  | n + 1, c4 => (iterS_succ tt (spec_l2Board_tab F) (spec_l2Board_LS0 F) 70 (spec_l2Board_ls5 F) (loopAt 5 (bodyOf Try.f26)) n (spec_l2Board_st5 r3 b5 c4) k).trans ((spec_l2Board_step5 F r3 b5 c4 (nextK (iterS tt (spec_l2Board_tab F) (spec_l2Board_LS0 F) 70 (spec_l2Board_ls5 F) (loopAt 5 (bodyOf Try.f26)) n) k)).trans (congrArg (fun kn => spec_l2Board_s5 F r3 b5 R c4 kn _) (funext (fun c4 => spec_l2Board_iter5 F r3 b5 k n c4))))
theorem spec_l2Board_lok5 (F : Nat) : LoopOK Try.prog (loopAt 5 (bodyOf Try.f26)) (spec_l2Board_ls5 F) := by
  refine loopOK_of mixed ttok deep (spec_l2Board_tabok F) (loopsOK_at (spec_l2Board_lsok0 F) 5) (fuel := 70) fun R vals mem np killed k x h => ?_
  simp only [spec_l2Board_ls5] at h
  split at h
  · rename_i r3 c4 b5
    simp only [GT.run] at h
    have hc := (cond_noneL h).1
    replace h := (cond_noneL h).2
    refine ⟨F, (spec_l2Board_iter5 F r3 b5 k F c4).trans ((loopC_use (spec_l2Board_s5_nat F r3 b5) hc _).trans h)⟩
  · simp only [GT.run] at h
    cases h
noncomputable def spec_l2Board_LS1 (F : Nat) : LT := (5, spec_l2Board_ls5 F) :: spec_l2Board_LS0 F
theorem spec_l2Board_lsok1 (F : Nat) : LoopsOK Try.prog (spec_l2Board_LS1 F) (bodyOf Try.f26) := loopsOK_cons spec_l2Board_keys (spec_l2Board_lok5 F) (spec_l2Board_lsok0 F)
def spec_l2Board_st2 (b4 : List Int) (r3 : Int) : St := ⟨expand 21 0 [1, 3] [(.ptr 0 0 0 16), (.int .i64 r3)], [(.var 16 (.ri .i64 b4))], 0, []⟩
def spec_l2Board_o2 (b4 : List Int) (x : Bool) : GT := (.br x (.out (.ret ⟨expand 21 0 [2] [(.bool false)], [], 0, []⟩)) (.out (.exit 0 ⟨expand 21 0 [] [], [], 0, []⟩)))
def spec_l2Board_ls2 (F : Nat) : LoopS := ⟨21, [1, 3], [], [], [], [2], [], [], fun vals mem np killed => match vals, mem, np, killed with
  | [(.ptr 0 0 0 16), (.int .i64 r3)], [(.var 16 (.ri .i64 b4))], 0, [] => .br (spec_l2Board_l2 F b4 r3).isSome (spec_l2Board_o2 b4 ((spec_l2Board_l2 F b4 r3).getD default)) .fail
  | _, _, _, _ => .fail⟩
theorem spec_l2Board_step2 (F : Nat) (b4 : List Int) (r3 : Int) {R : Type} (k : Out → Option R) : stepS tt (spec_l2Board_tab F) (spec_l2Board_LS1 F) 70 (spec_l2Board_ls2 F) (loopAt 2 (bodyOf Try.f26)) (spec_l2Board_st2 b4 r3) k = spec_l2Board_s2 F b4 R r3 (fun s => k (.norm (spec_l2Board_st2 b4 s))) (fun x => (spec_l2Board_o2 b4 x).run k) := by kernel_rfl
theorem spec_l2Board_iter2 (F : Nat) (b4 : List Int) {R : Type} (k : Out → Option R) : ∀ (n : Nat) (r3 : Int), iterS tt (spec_l2Board_tab F) (spec_l2Board_LS1 F) 70 (spec_l2Board_ls2 F) (loopAt 2 (bodyOf Try.f26)) n (spec_l2Board_st2 b4 r3) k = loopC (spec_l2Board_s2 F b4) n r3 (fun x => (spec_l2Board_o2 b4 x).run k)
  | 0, r3 => rfl
  | n + 1, r3 => (iterS_succ tt (spec_l2Board_tab F) (spec_l2Board_LS1 F) 70 (spec_l2Board_ls2 F) (loopAt 2 (bodyOf Try.f26)) n (spec_l2Board_st2 b4 r3) k).trans ((spec_l2Board_step2 F b4 r3 (nextK (iterS tt (spec_l2Board_tab F) (spec_l2Board_LS1 F) 70 (spec_l2Board_ls2 F) (loopAt 2 (bodyOf Try.f26)) n) k)).trans (congrArg (fun kn => spec_l2Board_s2 F b4 R r3 kn _) (funext (fun r3 => spec_l2Board_iter2 F b4 k n r3))))
theorem spec_l2Board_lok2 (F : Nat) : LoopOK Try.prog (loopAt 2 (bodyOf Try.f26)) (spec_l2Board_ls2 F) := by
  refine loopOK_of mixed ttok deep (spec_l2Board_tabok F) (loopsOK_at (spec_l2Board_lsok1 F) 2) (fuel := 70) fun R vals mem np killed k x h => ?_
  simp only [spec_l2Board_ls2] at h
  split at h
  · rename_i r3 b4
    simp only [GT.run] at h
    have hc := (cond_noneL h).1
    replace h := (cond_noneL h).2
    refine ⟨F, (spec_l2Board_iter2 F b4 k F r3).trans ((loopC_use (spec_l2Board_s2_nat F b4) hc _).trans h)⟩
  · simp only [GT.run] at h
    cases h
noncomputable def spec_l2Board_LS2 (F : Nat) : LT := (2, spec_l2Board_ls2 F) :: spec_l2Board_LS1 F
theorem spec_l2Board_lsok2 (F : Nat) : LoopsOK Try.prog (spec_l2Board_LS2 F) (bodyOf Try.f26) := loopsOK_cons spec_l2Board_keys (spec_l2Board_lok2 F) (spec_l2Board_lsok1 F)
theorem spec_l2Board_run (F : Nat) (b0 : List Int) : runS tt (spec_l2Board_tab F) (spec_l2Board_LS2 F) [] [] Try.f26 (bodyOf Try.f26) 70 [(.ints 16 b0)] [] = spec_l2Board_c _ F b0 (fun r => some ⟨(.bool r), [], []⟩) := by kernel_rfl
def spec_l2Board_ent (F : Nat) : Ent := ⟨[], .quiet, fun args mem => match args, mem with
  | [(.ints 16 b0)], [] => some ((spec_l2Board_p F b0).isSome, ⟨(.bool ((spec_l2Board_p F b0).getD default)), [], []⟩)
  | _, _ => none⟩
theorem spec_l2Board_fok : FunOK Try.prog 26 := funOK Try.func26 (by kernel_rfl) rfl
theorem spec_l2Board_meets (F : Nat) : Meets Try.prog 26 (spec_l2Board_ent F) := by
  refine meets_of_runS mixed ttok deep (spec_l2Board_tabok F) Try.func26 (body_some rfl) (spec_l2Board_lsok2 F) fun args mem hfit ret h => ?_
  clear hfit
  simp only [spec_l2Board_ent] at h
  split at h
  · rename_i b0
    simp only [Option.some.injEq, Prod.mk.injEq] at h
    obtain ⟨hc, rfl⟩ := h
    exact ⟨[], [], 70, _, (spec_l2Board_run F b0).trans ((spec_l2Board_cp _ F b0 _).trans (bind_use hc _)), rfl, rfl, rfl⟩
  · cases h

/-! loop.example/g01194/spec.l2Line -/
noncomputable def spec_l2Line_tab (F : Nat) : Tab := []
theorem spec_l2Line_tabok (F : Nat) : TabOK Try.prog (spec_l2Line_tab F) := tab_nil
noncomputable def spec_l2Line_LS0 (F : Nat) : LT := []
theorem spec_l2Line_lsok0 (F : Nat) : LoopsOK Try.prog (spec_l2Line_LS0 F) (bodyOf Try.f50) := loopsOK_nil
theorem spec_l2Line_keys : keysOK (bodyOf Try.f50) = true := by kernel_rfl
def spec_l2Line_st3 (d0 : Int) (i1 : Int) (k8 : Int) (out10 : List Int) : St := ⟨expand 42 0 [0, 1, 4, 5, 6] [(.int .i64 d0), (.int .i64 i1), (.ptr 0 0 0 8), (.ptr 1 0 0 8), (.int .i64 k8)], [(.var 8 (.ri .i64 [(0 : Int), (0 : Int), (0 : Int), (0 : Int), (0 : Int), (0 : Int), (0 : Int), (0 : Int)])), (.var 8 (.ri .i64 out10))], 0, []⟩
def spec_l2Line_o3 (d0 : Int) (i1 : Int) (x : List Int) : GT := (.out (.exit 0 ⟨expand 42 0 [4, 5] [(.ptr 0 0 0 8), (.ptr 1 0 0 8)], [(.var 8 (.ri .i64 [(0 : Int), (0 : Int), (0 : Int), (0 : Int), (0 : Int), (0 : Int), (0 : Int), (0 : Int)])), (.var 8 (.ri .i64 x))], 0, []⟩))
def spec_l2Line_ls3 (F : Nat) : LoopS := ⟨42, [0, 1, 4, 5, 6], [], [4, 5], [], [4], [], [], fun vals mem np killed => match vals, mem, np, killed with
  | [(.int .i64 d0), (.int .i64 i1), (.ptr 0 0 0 8), (.ptr 1 0 0 8), (.int .i64 k8)], [(.var 8 (.ri .i64 q_t49)), (.var 8 (.ri .i64 out10))], 0, [] => .br ((q_t49 == ([(0 : Int), (0 : Int), (0 : Int), (0 : Int), (0 : Int), (0 : Int), (0 : Int), (0 : Int)] : List Int)) && (spec_l2Line_l3 F d0 i1 k8 out10).isSome) (spec_l2Line_o3 d0 i1 ((spec_l2Line_l3 F d0 i1 k8 out10).getD default)) .fail
  | _, _, _, _ => .fail⟩
theorem spec_l2Line_step3 (F : Nat) (d0 : Int) (i1 : Int) (k8 : Int) (out10 : List Int) {R : Type} (k : Out → Option R) : stepS tt (spec_l2Line_tab F) (spec_l2Line_LS0 F) 70 (spec_l2Line_ls3 F) (loopAt 3 (bodyOf Try.f50)) (spec_l2Line_st3 d0 i1 k8 out10) k = spec_l2Line_s3 F d0 i1 R (k8, out10) (fun s => k (.norm (spec_l2Line_st3 d0 i1 s.1 s.2))) (fun x => (spec_l2Line_o3 d0 i1 x).run k) := by kernel_rfl
theorem spec_l2Line_iter3 (F : Nat) (d0 : Int) (i1 : Int) {R : Type} (k : Out → Option R) : ∀ (n : Nat) (k8 : Int) (out10 : List Int), iterS tt (spec_l2Line_tab F) (spec_l2Line_LS0 F) 70 (spec_l2Line_ls3 F) (loopAt 3 (bodyOf Try.f50)) n (spec_l2Line_st3 d0 i1 k8 out10) k = loopC (spec_l2Line_s3 F d0 i1) n (k8, out10) (fun x => (spec_l2Line_o3 d0 i1 x).run k)
  | 0, k8, out10 => rfl
  | n + 1, k8, out10 => (iterS_succ tt (spec_l2Line_tab F) (spec_l2Line_LS0 F) 70 (spec_l2Line_ls3 F) (loopAt 3 (bodyOf Try.f50)) n (spec_l2Line_st3 d0 i1 k8 out10) k).trans ((spec_l2Line_step3 F d0 i1 k8 out10 (nextK (iterS tt (spec_l2Line_tab F) (spec_l2Line_LS0 F) 70 (spec_l2Line_ls3 F) (loopAt 3 (bodyOf Try.f50)) n) k)).trans (congrArg (fun kn => spec_l2Line_s3 F d0 i1 R (k8, out10) kn _) (funext (fun ⟨k8, out10⟩ => spec_l2Line_iter3 F d0 i1 k n k8 out10))))
theorem spec_l2Line_lok3 (F : Nat) : LoopOK Try.prog (loopAt 3 (bodyOf Try.f50)) (spec_l2Line_ls3 F) := by
  refine loopOK_of mixed ttok deep (spec_l2Line_tabok F) (loopsOK_at (spec_l2Line_lsok0 F) 3) (fuel := 70) fun R vals mem np killed k x h => ?_
  simp only [spec_l2Line_ls3] at h
  split at h
  · rename_i d0 i1 k8 q_t49 out10
    simp only [GT.run] at h
    have hc := (cond_noneL h).1
    replace h := (cond_noneL h).2
    have hg := (and_split hc).1
    replace hc := (and_split hc).2
    obtain rfl := beq_li hg
    refine ⟨F, (spec_l2Line_iter3 F d0 i1 k F k8 out10).trans ((loopC_use (spec_l2Line_s3_nat F d0 i1) hc _).trans h)⟩
  · simp only [GT.run] at h
    cases h
noncomputable def spec_l2Line_LS1 (F : Nat) : LT := (3, spec_l2Line_ls3 F) :: spec_l2Line_LS0 F
theorem spec_l2Line_lsok1 (F : Nat) : LoopsOK Try.prog (spec_l2Line_LS1 F) (bodyOf Try.f50) := loopsOK_cons spec_l2Line_keys (spec_l2Line_lok3 F) (spec_l2Line_lsok0 F)
theorem spec_l2Line_run (F : Nat) (d0 : Int) (i1 : Int) : runS tt (spec_l2Line_tab F) (spec_l2Line_LS1 F) [] [] Try.f50 (bodyOf Try.f50) 70 [(.int .i64 d0), (.int .i64 i1)] [] = spec_l2Line_c _ F d0 i1 (fun r => some ⟨(.ints 8 r), [], []⟩) := by kernel_rfl
def spec_l2Line_ent (F : Nat) : Ent := ⟨[], .quiet, fun args mem => match args, mem with
  | [(.int .i64 d0), (.int .i64 i1)], [] => some ((spec_l2Line_p F d0 i1).isSome, ⟨(.ints 8 ((spec_l2Line_p F d0 i1).getD default)), [], []⟩)
  | _, _ => none⟩
theorem spec_l2Line_fok : FunOK Try.prog 50 := funOK Try.func50 (by kernel_rfl) rfl
theorem spec_l2Line_meets (F : Nat) : Meets Try.prog 50 (spec_l2Line_ent F) := by
  refine meets_of_runS mixed ttok deep (spec_l2Line_tabok F) Try.func50 (body_some rfl) (spec_l2Line_lsok1 F) fun args mem hfit ret h => ?_
  clear hfit
  simp only [spec_l2Line_ent] at h
  split at h
  · rename_i d0 i1
    simp only [Option.some.injEq, Prod.mk.injEq] at h
    obtain ⟨hc, rfl⟩ := h
    exact ⟨[], [], 70, _, (spec_l2Line_run F d0 i1).trans ((spec_l2Line_cp _ F d0 i1 _).trans (bind_use hc _)), rfl, rfl, rfl⟩
  · cases h

/-! loop.example/g01194/spec.l2At -/
noncomputable def spec_l2At_tab (F : Nat) : Tab := []
theorem spec_l2At_tabok (F : Nat) : TabOK Try.prog (spec_l2At_tab F) := tab_nil
noncomputable def spec_l2At_LS0 (F : Nat) : LT := []
theorem spec_l2At_lsok0 (F : Nat) : LoopsOK Try.prog (spec_l2At_LS0 F) (bodyOf Try.f70) := loopsOK_nil
theorem spec_l2At_run (F : Nat) (b0 : List Int) (cell1 : List Int) : runS tt (spec_l2At_tab F) (spec_l2At_LS0 F) [] [] Try.f70 (bodyOf Try.f70) 70 [(.ints 16 b0), (.ints 2 cell1)] [] = spec_l2At_c _ b0 cell1 (fun r => some ⟨(.int .i64 r), [], []⟩) := by kernel_rfl
def spec_l2At_ent (F : Nat) : Ent := ⟨[], .quiet, fun args mem => match args, mem with
  | [(.ints 16 b0), (.ints 2 cell1)], [] => some ((spec_l2At_p b0 cell1).isSome, ⟨(.int .i64 ((spec_l2At_p b0 cell1).getD default)), [], []⟩)
  | _, _ => none⟩
theorem spec_l2At_fok : FunOK Try.prog 70 := funOK Try.func70 (by kernel_rfl) rfl
theorem spec_l2At_meets (F : Nat) : Meets Try.prog 70 (spec_l2At_ent F) := by
  refine meets_of_runS mixed ttok deep (spec_l2At_tabok F) Try.func70 (body_some rfl) (spec_l2At_lsok0 F) fun args mem hfit ret h => ?_
  clear hfit
  simp only [spec_l2At_ent] at h
  split at h
  · rename_i b0 cell1
    simp only [Option.some.injEq, Prod.mk.injEq] at h
    obtain ⟨hc, rfl⟩ := h
    exact ⟨[], [], 70, _, (spec_l2At_run F b0 cell1).trans ((spec_l2At_cp _ b0 cell1 _).trans (bind_use hc _)), rfl, rfl, rfl⟩
  · cases h

/-! loop.example/g01194/spec.l2Numbers -/
noncomputable def spec_l2Numbers_tab (F : Nat) : Tab := [(50, (spec_l2Line_ent F)), (70, (spec_l2At_ent F))]
theorem spec_l2Numbers_tabok (F : Nat) : TabOK Try.prog (spec_l2Numbers_tab F) := (tab_cons (spec_l2Line_meets F) spec_l2Line_fok (tab_cons (spec_l2At_meets F) spec_l2At_fok tab_nil))
noncomputable def spec_l2Numbers_LS0 (F : Nat) : LT := []
theorem spec_l2Numbers_lsok0 (F : Nat) : LoopsOK Try.prog (spec_l2Numbers_LS0 F) (bodyOf Try.f49) := loopsOK_nil
theorem spec_l2Numbers_run (F : Nat) (b0 : List Int) (d1 : Int) (i2 : Int) : runS tt (spec_l2Numbers_tab F) (spec_l2Numbers_LS0 F) [] [] Try.f49 (bodyOf Try.f49) 70 [(.ints 16 b0), (.int .i64 d1), (.int .i64 i2)] [] = spec_l2Numbers_c _ F b0 d1 i2 (fun r => some ⟨(.ints 4 r), [], []⟩) := by kernel_rfl
def spec_l2Numbers_ent (F : Nat) : Ent := ⟨[], .quiet, fun args mem => match args, mem with
  | [(.ints 16 b0), (.int .i64 d1), (.int .i64 i2)], [] => some ((spec_l2Numbers_p F b0 d1 i2).isSome, ⟨(.ints 4 ((spec_l2Numbers_p F b0 d1 i2).getD default)), [], []⟩)
  | _, _ => none⟩
theorem spec_l2Numbers_fok : FunOK Try.prog 49 := funOK Try.func49 (by kernel_rfl) rfl
theorem spec_l2Numbers_meets (F : Nat) : Meets Try.prog 49 (spec_l2Numbers_ent F) := by
  refine meets_of_runS mixed ttok deep (spec_l2Numbers_tabok F) Try.func49 (body_some rfl) (spec_l2Numbers_lsok0 F) fun args mem hfit ret h => ?_
  clear hfit
  simp only [spec_l2Numbers_ent] at h
  split at h
  · rename_i b0 d1 i2
    simp only [Option.some.injEq, Prod.mk.injEq] at h
    obtain ⟨hc, rfl⟩ := h
    exact ⟨[], [], 70, _, (spec_l2Numbers_run F b0 d1 i2).trans ((spec_l2Numbers_cp _ F b0 d1 i2 _).trans (bind_use hc _)), rfl, rfl, rfl⟩
  · cases h

/-! loop.example/g01194/spec.l2Worth -/
noncomputable def spec_l2Worth_tab (F : Nat) : Tab := []
theorem spec_l2Worth_tabok (F : Nat) : TabOK Try.prog (spec_l2Worth_tab F) := tab_nil
noncomputable def spec_l2Worth_LS0 (F : Nat) : LT := []
theorem spec_l2Worth_lsok0 (F : Nat) : LoopsOK Try.prog (spec_l2Worth_LS0 F) (bodyOf Try.f69) := loopsOK_nil
theorem spec_l2Worth_run (F : Nat) (t0 : Int) : runS tt (spec_l2Worth_tab F) (spec_l2Worth_LS0 F) [] [] Try.f69 (bodyOf Try.f69) 70 [(.int .i64 t0)] [] = spec_l2Worth_c _ t0 (fun r => some ⟨(.int .i64 r), [], []⟩) := by kernel_rfl
def spec_l2Worth_ent (F : Nat) : Ent := ⟨[], .quiet, fun args mem => match args, mem with
  | [(.int .i64 t0)], [] => some ((spec_l2Worth_p t0).isSome, ⟨(.int .i64 ((spec_l2Worth_p t0).getD default)), [], []⟩)
  | _, _ => none⟩
theorem spec_l2Worth_fok : FunOK Try.prog 69 := funOK Try.func69 (by kernel_rfl) rfl
theorem spec_l2Worth_meets (F : Nat) : Meets Try.prog 69 (spec_l2Worth_ent F) := by
  refine meets_of_runS mixed ttok deep (spec_l2Worth_tabok F) Try.func69 (body_some rfl) (spec_l2Worth_lsok0 F) fun args mem hfit ret h => ?_
  clear hfit
  simp only [spec_l2Worth_ent] at h
  split at h
  · rename_i t0
    simp only [Option.some.injEq, Prod.mk.injEq] at h
    obtain ⟨hc, rfl⟩ := h
    exact ⟨[], [], 70, _, (spec_l2Worth_run F t0).trans ((spec_l2Worth_cp _ t0 _).trans (bind_use hc _)), rfl, rfl, rfl⟩
  · cases h

/-! loop.example/g01194/spec.l2Row -/
noncomputable def spec_l2Row_tab (F : Nat) : Tab := [(69, (spec_l2Worth_ent F))]
theorem spec_l2Row_tabok (F : Nat) : TabOK Try.prog (spec_l2Row_tab F) := (tab_cons (spec_l2Worth_meets F) spec_l2Worth_fok tab_nil)
noncomputable def spec_l2Row_LS0 (F : Nat) : LT := []
theorem spec_l2Row_lsok0 (F : Nat) : LoopsOK Try.prog (spec_l2Row_LS0 F) (bodyOf Try.f48) := loopsOK_nil
theorem spec_l2Row_keys : keysOK (bodyOf Try.f48) = true := by kernel_rfl
def spec_l2Row_st3 (row13 : List Int) (n9 : Int) (score10 : Int) (merged11 : Bool) (k12 : Int) (out15 : List Int) : St := ⟨expand 63 0 [1, 2, 4, 5, 6, 7, 8] [(.ptr 0 0 0 4), (.ptr 1 0 0 4), (.ptr 2 0 0 4), (.int .i64 n9), (.int .i64 score10), (.bool merged11), (.int .i64 k12)], [(.var 4 (.ri .i64 row13)), (.var 4 (.ri .i64 [(0 : Int), (0 : Int), (0 : Int), (0 : Int)])), (.var 4 (.ri .i64 out15))], 0, []⟩
def spec_l2Row_o3 (row13 : List Int) (x : Int × List Int) : GT := (.out (.exit 0 ⟨expand 63 0 [2, 4, 6] [(.ptr 0 0 0 4), (.ptr 1 0 0 4), (.int .i64 x.1)], [(.var 4 (.ri .i64 [(0 : Int), (0 : Int), (0 : Int), (0 : Int)])), (.var 4 (.ri .i64 x.2))], 0, []⟩))
def spec_l2Row_ls3 (F : Nat) : LoopS := ⟨63, [1, 2, 4, 5, 6, 7, 8], [], [2, 4, 6], [], [2, 3], [], [], fun vals mem np killed => match vals, mem, np, killed with
  | [(.ptr 0 0 0 4), (.ptr 1 0 0 4), (.ptr 2 0 0 4), (.int .i64 n9), (.int .i64 score10), (.bool merged11), (.int .i64 k12)], [(.var 4 (.ri .i64 row13)), (.var 4 (.ri .i64 q_t214)), (.var 4 (.ri .i64 out15))], 0, [] => .br ((q_t214 == ([(0 : Int), (0 : Int), (0 : Int), (0 : Int)] : List Int)) && (spec_l2Row_l3 F row13 n9 score10 merged11 k12 out15).isSome) (spec_l2Row_o3 row13 ((spec_l2Row_l3 F row13 n9 score10 merged11 k12 out15).getD default)) .fail
  | _, _, _, _ => .fail⟩
theorem spec_l2Row_step3 (F : Nat) (row13 : List Int) (n9 : Int) (score10 : Int) (merged11 : Bool) (k12 : Int) (out15 : List Int) {R : Type} (k : Out → Option R) : stepS tt (spec_l2Row_tab F) (spec_l2Row_LS0 F) 70 (spec_l2Row_ls3 F) (loopAt 3 (bodyOf Try.f48)) (spec_l2Row_st3 row13 n9 score10 merged11 k12 out15) k = spec_l2Row_s3 F row13 R (n9, score10, merged11, k12, out15) (fun s => k (.norm (spec_l2Row_st3 row13 s.1 s.2.1 s.2.2.1 s.2.2.2.1 s.2.2.2.2))) (fun x => (spec_l2Row_o3 row13 x).run k) := by kernel_rfl
theorem spec_l2Row_iter3 (F : Nat) (row13 : List Int) {R : Type} (k : Out → Option R) : ∀ (n : Nat) (n9 : Int) (score10 : Int) (merged11 : Bool) (k12 : Int) (out15 : List Int), iterS tt (spec_l2Row_tab F) (spec_l2Row_LS0 F) 70 (spec_l2Row_ls3 F) (loopAt 3 (bodyOf Try.f48)) n (spec_l2Row_st3 row13 n9 score10 merged11 k12 out15) k = loopC (spec_l2Row_s3 F row13) n (n9, score10, merged11, k12, out15) (fun x => (spec_l2Row_o3 row13 x).run k)
  | 0, n9, score10, merged11, k12, out15 => rfl
  | n + 1, n9, score10, merged11, k12, out15 => (iterS_succ tt (spec_l2Row_tab F) (spec_l2Row_LS0 F) 70 (spec_l2Row_ls3 F) (loopAt 3 (bodyOf Try.f48)) n (spec_l2Row_st3 row13 n9 score10 merged11 k12 out15) k).trans ((spec_l2Row_step3 F row13 n9 score10 merged11 k12 out15 (nextK (iterS tt (spec_l2Row_tab F) (spec_l2Row_LS0 F) 70 (spec_l2Row_ls3 F) (loopAt 3 (bodyOf Try.f48)) n) k)).trans (congrArg (fun kn => spec_l2Row_s3 F row13 R (n9, score10, merged11, k12, out15) kn _) (funext (fun ⟨n9, score10, merged11, k12, out15⟩ => spec_l2Row_iter3 F row13 k n n9 score10 merged11 k12 out15))))
theorem spec_l2Row_lok3 (F : Nat) : LoopOK Try.prog (loopAt 3 (bodyOf Try.f48)) (spec_l2Row_ls3 F) := by
  refine loopOK_of mixed ttok deep (spec_l2Row_tabok F) (loopsOK_at (spec_l2Row_lsok0 F) 3) (fuel := 70) fun R vals mem np killed k x h => ?_
  simp only [spec_l2Row_ls3] at h
  split at h
  · rename_i n9 score10 merged11 k12 row13 q_t214 out15
    simp only [GT.run] at h
    have hc := (cond_noneL h).1
    replace h := (cond_noneL h).2
    have hg := (and_split hc).1
    replace hc := (and_split hc).2
    obtain rfl := beq_li hg
    refine ⟨F, (spec_l2Row_iter3 F row13 k F n9 score10 merged11 k12 out15).trans ((loopC_use (spec_l2Row_s3_nat F row13) hc _).trans h)⟩
  · simp only [GT.run] at h
    cases h
noncomputable def spec_l2Row_LS1 (F : Nat) : LT := (3, spec_l2Row_ls3 F) :: spec_l2Row_LS0 F
theorem spec_l2Row_lsok1 (F : Nat) : LoopsOK Try.prog (spec_l2Row_LS1 F) (bodyOf Try.f48) := loopsOK_cons spec_l2Row_keys (spec_l2Row_lok3 F) (spec_l2Row_lsok0 F)
theorem spec_l2Row_run (F : Nat) (row0 : List Int) : runS tt (spec_l2Row_tab F) (spec_l2Row_LS1 F) [] [] Try.f48 (bodyOf Try.f48) 70 [(.ints 4 row0)] [] = spec_l2Row_c _ F row0 (fun r => some ⟨(.tup [(.ints 4 r.1), (.int .i64 r.2)]), [], []⟩) := by kernel_rfl
def spec_l2Row_ent (F : Nat) : Ent := ⟨[], .quiet, fun args mem => match args, mem with
  | [(.ints 4 row0)], [] => some ((spec_l2Row_p F row0).isSome, ⟨(.tup [(.ints 4 ((spec_l2Row_p F row0).getD default).1), (.int .i64 ((spec_l2Row_p F row0).getD default).2)]), [], []⟩)
  | _, _ => none⟩
theorem spec_l2Row_fok : FunOK Try.prog 48 := funOK Try.func48 (by kernel_rfl) rfl
theorem spec_l2Row_meets (F : Nat) : Meets Try.prog 48 (spec_l2Row_ent F) := by
  refine meets_of_runS mixed ttok deep (spec_l2Row_tabok F) Try.func48 (body_some rfl) (spec_l2Row_lsok1 F) fun args mem hfit ret h => ?_
  clear hfit
  simp only [spec_l2Row_ent] at h
  split at h
  · rename_i row0
    simp only [Option.some.injEq, Prod.mk.injEq] at h
    obtain ⟨hc, rfl⟩ := h
    exact ⟨[], [], 70, _, (spec_l2Row_run F row0).trans ((spec_l2Row_cp _ F row0 _).trans (bind_use hc _)), rfl, rfl, rfl⟩
  · cases h

/-! loop.example/g01194/spec.l2Put -/
noncomputable def spec_l2Put_tab (F : Nat) : Tab := []
theorem spec_l2Put_tabok (F : Nat) : TabOK Try.prog (spec_l2Put_tab F) := tab_nil
noncomputable def spec_l2Put_LS0 (F : Nat) : LT := []
theorem spec_l2Put_lsok0 (F : Nat) : LoopsOK Try.prog (spec_l2Put_LS0 F) (bodyOf Try.f51) := loopsOK_nil
theorem spec_l2Put_run (F : Nat) (b0 : List Int) (cell1 : List Int) (t2 : Int) : runS tt (spec_l2Put_tab F) (spec_l2Put_LS0 F) [] [] Try.f51 (bodyOf Try.f51) 70 [(.ints 16 b0), (.ints 2 cell1), (.int .i64 t2)] [] = spec_l2Put_c _ b0 cell1 t2 (fun r => some ⟨(.ints 16 r), [], []⟩) := by kernel_rfl
def spec_l2Put_ent (F : Nat) : Ent := ⟨[], .quiet, fun args mem => match args, mem with
  | [(.ints 16 b0), (.ints 2 cell1), (.int .i64 t2)], [] => some ((spec_l2Put_p b0 cell1 t2).isSome, ⟨(.ints 16 ((spec_l2Put_p b0 cell1 t2).getD default)), [], []⟩)
  | _, _ => none⟩
theorem spec_l2Put_fok : FunOK Try.prog 51 := funOK Try.func51 (by kernel_rfl) rfl
theorem spec_l2Put_meets (F : Nat) : Meets Try.prog 51 (spec_l2Put_ent F) := by
  refine meets_of_runS mixed ttok deep (spec_l2Put_tabok F) Try.func51 (body_some rfl) (spec_l2Put_lsok0 F) fun args mem hfit ret h => ?_
  clear hfit
  simp only [spec_l2Put_ent] at h
  split at h
  · rename_i b0 cell1 t2
    simp only [Option.some.injEq, Prod.mk.injEq] at h
    obtain ⟨hc, rfl⟩ := h
    exact ⟨[], [], 70, _, (spec_l2Put_run F b0 cell1 t2).trans ((spec_l2Put_cp _ b0 cell1 t2 _).trans (bind_use hc _)), rfl, rfl, rfl⟩
  · cases h
end Go.Proofs.Ytabfliifleonaab
