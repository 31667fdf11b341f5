/-
Pure functions and what the code of them does, by program; without conditions.
-/
import Derived.Test.YtgmnclpjbhmioaaGreatTZPCmp16
import Derived.Test.YtgmnclpjbhmioaaGreatTZP5
import Derived.Test.YtgmnclpjbhmioaaGreatTZS4
namespace Go.Proofs.YtgmnclpjbhmioaaGreat
open Go Go.Lv Go.Lv.P Go.Proofs
set_option linter.unusedVariables false
set_option linter.unusedSimpArgs false
set_option maxRecDepth 100000
/-! slices.DeleteFunc[[]loop.example/g01194/impl.Board,loop.example/g01194/impl.Board] -/
noncomputable def slices_DeleteFunc_implBoardimplBoard_impl_BoardsBefore_f1_tab (F : Nat) : Tab := [(48, (slices_IndexFunc_implBoardimplBoard_impl_BoardsBefore_f1_ent F)), (30, (impl_BoardsBefore_f1_ent F))]
theorem slices_DeleteFunc_implBoardimplBoard_impl_BoardsBefore_f1_tabok (F : Nat) : TabOK Tryz.prog (slices_DeleteFunc_implBoardimplBoard_impl_BoardsBefore_f1_tab F) := (tab_cons (slices_IndexFunc_implBoardimplBoard_impl_BoardsBefore_f1_meets F) slices_IndexFunc_implBoardimplBoard_impl_BoardsBefore_f1_fok (tab_cons (impl_BoardsBefore_f1_meets F) impl_BoardsBefore_f1_fok tab_nil))
noncomputable def slices_DeleteFunc_implBoardimplBoard_impl_BoardsBefore_f1_LS0 (F : Nat) : LT := []
theorem slices_DeleteFunc_implBoardimplBoard_impl_BoardsBefore_f1_lsok0 (F : Nat) : LoopsOK Tryz.prog (slices_DeleteFunc_implBoardimplBoard_impl_BoardsBefore_f1_LS0 F) (bodyOf Tryz.f29) := loopsOK_nil
theorem slices_DeleteFunc_implBoardimplBoard_impl_BoardsBefore_f1_keys : keysOK (bodyOf Tryz.f29) = true := by kernel_rfl
def slices_DeleteFunc_implBoardimplBoard_impl_BoardsBefore_f1_st5 (s1 : Nat) (del8 : List Int) (i5 : Int) (j6 : Int) (s7 : List (List Int)) : St := ⟨expand 42 0 [0, 1, 5, 6] [(.sl 0 0 s1), (.fn 30 [] [(.ptr 1 0 0 16)]), (.int .i64 i5), (.int .i64 j6)], [(.vec 26 (.rr 16 s7)), (.var 16 (.ri .i64 del8))], 2, []⟩
def slices_DeleteFunc_implBoardimplBoard_impl_BoardsBefore_f1_o5 (s1 : Nat) (del8 : List Int) (x : Int × List (List Int)) : GT := (.out (.exit 0 ⟨expand 42 0 [0, 5] [(.sl 0 0 s1), (.int .i64 x.1)], [(.vec 26 (.rr 16 x.2)), (.var 16 (.ri .i64 del8))], 2, []⟩))
def slices_DeleteFunc_implBoardimplBoard_impl_BoardsBefore_f1_ls5 (F : Nat) : LoopS := ⟨42, [0, 1, 5, 6], [], [0, 5], [], [4], [], [], fun vals mem np killed => match vals, mem, np, killed with
  | [(.sl 0 0 s1), (.fn 30 [] [(.ptr 1 0 0 16)]), (.int .i64 i5), (.int .i64 j6)], [(.vec 26 (.rr 16 s7)), (.var 16 (.ri .i64 del8))], 2, [] => .br (slices_DeleteFunc_implBoardimplBoard_impl_BoardsBefore_f1_l5 F s1 del8 i5 j6 s7).isSome (slices_DeleteFunc_implBoardimplBoard_impl_BoardsBefore_f1_o5 s1 del8 ((slices_DeleteFunc_implBoardimplBoard_impl_BoardsBefore_f1_l5 F s1 del8 i5 j6 s7).getD default)) .fail
  | _, _, _, _ => .fail⟩
theorem slices_DeleteFunc_implBoardimplBoard_impl_BoardsBefore_f1_step5 (F : Nat) (s1 : Nat) (del8 : List Int) (i5 : Int) (j6 : Int) (s7 : List (List Int)) {R : Type} (k : Out → Option R) : stepS tt (slices_DeleteFunc_implBoardimplBoard_impl_BoardsBefore_f1_tab F) (slices_DeleteFunc_implBoardimplBoard_impl_BoardsBefore_f1_LS0 F) 70 (slices_DeleteFunc_implBoardimplBoard_impl_BoardsBefore_f1_ls5 F) (loopAt 5 (bodyOf Tryz.f29)) (slices_DeleteFunc_implBoardimplBoard_impl_BoardsBefore_f1_st5 s1 del8 i5 j6 s7) k = slices_DeleteFunc_implBoardimplBoard_impl_BoardsBefore_f1_s5 F s1 del8 R (i5, j6, s7) (fun s => k (.norm (slices_DeleteFunc_implBoardimplBoard_impl_BoardsBefore_f1_st5 s1 del8 s.1 s.2.1 s.2.2))) (fun x => (slices_DeleteFunc_implBoardimplBoard_impl_BoardsBefore_f1_o5 s1 del8 x).run k) := by kernel_rfl
theorem slices_DeleteFunc_implBoardimplBoard_impl_BoardsBefore_f1_iter5 (F : Nat) (s1 : Nat) (del8 : List Int) {R : Type} (k : Out → Option R) : ∀ (n : Nat) (i5 : Int) (j6 : Int) (s7 : List (List Int)), iterS tt (slices_DeleteFunc_implBoardimplBoard_impl_BoardsBefore_f1_tab F) (slices_DeleteFunc_implBoardimplBoard_impl_BoardsBefore_f1_LS0 F) 70 (slices_DeleteFunc_implBoardimplBoard_impl_BoardsBefore_f1_ls5 F) (loopAt 5 (bodyOf Tryz.f29)) n (slices_DeleteFunc_implBoardimplBoard_impl_BoardsBefore_f1_st5 s1 del8 i5 j6 s7) k = loopC (slices_DeleteFunc_implBoardimplBoard_impl_BoardsBefore_f1_s5 F s1 del8) n (i5, j6, s7) (fun x => (slices_DeleteFunc_implBoardimplBoard_impl_BoardsBefore_f1_o5 s1 del8 x).run k)
  | 0, i5, j6, s7 => rfl
  | n + 1, i5, j6, s7 => (iterS_succ tt (slices_DeleteFunc_implBoardimplBoard_impl_BoardsBefore_f1_tab F) (slices_DeleteFunc_implBoardimplBoard_impl_BoardsBefore_f1_LS0 F) 70 (slices_DeleteFunc_implBoardimplBoard_impl_BoardsBefore_f1_ls5 F) (loopAt 5 (bodyOf Tryz.f29)) n (slices_DeleteFunc_implBoardimplBoard_impl_BoardsBefore_f1_st5 s1 del8 i5 j6 s7) k).trans ((slices_DeleteFunc_implBoardimplBoard_impl_BoardsBefore_f1_step5 F s1 del8 i5 j6 s7 (nextK (iterS tt (slices_DeleteFunc_implBoardimplBoard_impl_BoardsBefore_f1_tab F) (slices_DeleteFunc_implBoardimplBoard_impl_BoardsBefore_f1_LS0 F) 70 (slices_DeleteFunc_implBoardimplBoard_impl_BoardsBefore_f1_ls5 F) (loopAt 5 (bodyOf Tryz.f29)) n) k)).trans (congrArg (fun kn => slices_DeleteFunc_implBoardimplBoard_impl_BoardsBefore_f1_s5 F s1 del8 R (i5, j6, s7) kn _) (funext (fun ⟨i5, j6, s7⟩ => slices_DeleteFunc_implBoardimplBoard_impl_BoardsBefore_f1_iter5 F s1 del8 k n i5 j6 s7))))
theorem slices_DeleteFunc_implBoardimplBoard_impl_BoardsBefore_f1_lok5 (F : Nat) : LoopOK Tryz.prog (loopAt 5 (bodyOf Tryz.f29)) (slices_DeleteFunc_implBoardimplBoard_impl_BoardsBefore_f1_ls5 F) := by
  refine loopOK_of mixed ttok deep (slices_DeleteFunc_implBoardimplBoard_impl_BoardsBefore_f1_tabok F) (loopsOK_at (slices_DeleteFunc_implBoardimplBoard_impl_BoardsBefore_f1_lsok0 F) 5) (fuel := 70) fun R vals mem np killed k x h => ?_
  simp only [slices_DeleteFunc_implBoardimplBoard_impl_BoardsBefore_f1_ls5] at h
  split at h
  · rename_i s1 i5 j6 s7 del8
    simp only [GT.run] at h
    have hc := (cond_noneL h).1
    replace h := (cond_noneL h).2
    refine ⟨F, (slices_DeleteFunc_implBoardimplBoard_impl_BoardsBefore_f1_iter5 F s1 del8 k F i5 j6 s7).trans ((loopC_use (slices_DeleteFunc_implBoardimplBoard_impl_BoardsBefore_f1_s5_nat F s1 del8) hc _).trans h)⟩
  · simp only [GT.run] at h
    cases h
noncomputable def slices_DeleteFunc_implBoardimplBoard_impl_BoardsBefore_f1_LS1 (F : Nat) : LT := (5, slices_DeleteFunc_implBoardimplBoard_impl_BoardsBefore_f1_ls5 F) :: slices_DeleteFunc_implBoardimplBoard_impl_BoardsBefore_f1_LS0 F
theorem slices_DeleteFunc_implBoardimplBoard_impl_BoardsBefore_f1_lsok1 (F : Nat) : LoopsOK Tryz.prog (slices_DeleteFunc_implBoardimplBoard_impl_BoardsBefore_f1_LS1 F) (bodyOf Tryz.f29) := loopsOK_cons slices_DeleteFunc_implBoardimplBoard_impl_BoardsBefore_f1_keys (slices_DeleteFunc_implBoardimplBoard_impl_BoardsBefore_f1_lok5 F) (slices_DeleteFunc_implBoardimplBoard_impl_BoardsBefore_f1_lsok0 F)
theorem slices_DeleteFunc_implBoardimplBoard_impl_BoardsBefore_f1_run (F : Nat) (s5 : List (List Int)) (del6 : List Int) : runS tt (slices_DeleteFunc_implBoardimplBoard_impl_BoardsBefore_f1_tab F) (slices_DeleteFunc_implBoardimplBoard_impl_BoardsBefore_f1_LS1 F) [] [] Tryz.f29 (bodyOf Tryz.f29) 70 [(.sl 0 0 (List.length s5)), (.fn 30 [] [(.ptr 1 0 0 16)])] [(.vec 26 (.rr 16 s5)), (.var 16 (.ri .i64 del6))] = slices_DeleteFunc_implBoardimplBoard_impl_BoardsBefore_f1_c _ F s5 del6 (fun r => some ⟨(.sl 0 0 r.1), [(.vec 26 (.rr 16 r.2)), (.var 16 (.ri .i64 del6))], []⟩) := by kernel_rfl
def slices_DeleteFunc_implBoardimplBoard_impl_BoardsBefore_f1_ent (F : Nat) : Ent := ⟨[true], .loud, fun args mem => match args, mem with
  | [(.sl 0 0 q_s1), (.fn 30 [] [(.ptr 1 0 0 16)])], [(.vec 26 (.rr 16 s5)), (.var 16 (.ri .i64 del6))] => some (((Nat.beq q_s1 (List.length s5)) && (slices_DeleteFunc_implBoardimplBoard_impl_BoardsBefore_f1_p F s5 del6).isSome), ⟨(.sl 0 0 ((slices_DeleteFunc_implBoardimplBoard_impl_BoardsBefore_f1_p F s5 del6).getD default).1), [(.vec 26 (.rr 16 ((slices_DeleteFunc_implBoardimplBoard_impl_BoardsBefore_f1_p F s5 del6).getD default).2)), (.var 16 (.ri .i64 del6))], []⟩)
  | _, _ => none⟩
theorem slices_DeleteFunc_implBoardimplBoard_impl_BoardsBefore_f1_fok : FunOK Tryz.prog 29 := funOK Tryz.func29 (by kernel_rfl) rfl
theorem slices_DeleteFunc_implBoardimplBoard_impl_BoardsBefore_f1_meets (F : Nat) : Meets Tryz.prog 29 (slices_DeleteFunc_implBoardimplBoard_impl_BoardsBefore_f1_ent F) := by
  refine meets_of_runS mixed ttok deep (slices_DeleteFunc_implBoardimplBoard_impl_BoardsBefore_f1_tabok F) Tryz.func29 (body_some rfl) (slices_DeleteFunc_implBoardimplBoard_impl_BoardsBefore_f1_lsok1 F) fun args mem hfit ret h => ?_
  clear hfit
  simp only [slices_DeleteFunc_implBoardimplBoard_impl_BoardsBefore_f1_ent] at h
  split at h
  · rename_i q_s1 s5 del6
    simp only [Option.some.injEq, Prod.mk.injEq] at h
    obtain ⟨hc, rfl⟩ := h
    have hg := (and_split hc).1
    replace hc := (and_split hc).2
    obtain rfl := nbeq_nat hg
    exact ⟨[], [], 70, _, (slices_DeleteFunc_implBoardimplBoard_impl_BoardsBefore_f1_run F s5 del6).trans ((slices_DeleteFunc_implBoardimplBoard_impl_BoardsBefore_f1_cp _ F s5 del6 _).trans (bind_use hc _)), rfl, rfl, rfl⟩
  · cases h

/-! slices.Grow[[]int,int] -/
noncomputable def slices_Grow_intint_tab (F : Nat) : Tab := []
theorem slices_Grow_intint_tabok (F : Nat) : TabOK Tryz.prog (slices_Grow_intint_tab F) := tab_nil
noncomputable def slices_Grow_intint_LS0 (F : Nat) : LT := []
theorem slices_Grow_intint_lsok0 (F : Nat) : LoopsOK Tryz.prog (slices_Grow_intint_LS0 F) (bodyOf Tryz.f109) := loopsOK_nil
theorem slices_Grow_intint_run (F : Nat) (n0 : Int) : runS tt (slices_Grow_intint_tab F) (slices_Grow_intint_LS0 F) [⟨4, 3, (.ri .i64 ([] : List Int))⟩] [] Tryz.f109 (bodyOf Tryz.f109) 70 [.z0, (.int .i64 n0)] [] = slices_Grow_intint_c _ n0 (fun r => some ⟨(.sl 0 0 0), [(.vec 3 (.ri .i64 r))], []⟩) := by kernel_rfl
def slices_Grow_intint_ent (F : Nat) : Ent := ⟨[true], .fresh, fun args mem => match args, mem with
  | [.z0, (.int .i64 n0)], [] => some ((slices_Grow_intint_p n0).isSome, ⟨(.sl 0 0 0), [(.vec 3 (.ri .i64 ((slices_Grow_intint_p n0).getD default)))], []⟩)
  | _, _ => none⟩
theorem slices_Grow_intint_fok : FunOK Tryz.prog 109 := funOK Tryz.func109 (by kernel_rfl) rfl
theorem slices_Grow_intint_meets (F : Nat) : Meets Tryz.prog 109 (slices_Grow_intint_ent F) := by
  refine meets_of_runS mixed ttok deep (slices_Grow_intint_tabok F) Tryz.func109 (body_some rfl) (slices_Grow_intint_lsok0 F) fun args mem hfit ret h => ?_
  clear hfit
  simp only [slices_Grow_intint_ent] at h
  split at h
  · rename_i n0
    simp only [Option.some.injEq, Prod.mk.injEq] at h
    obtain ⟨hc, rfl⟩ := h
    exact ⟨[⟨4, 3, (.ri .i64 ([] : List Int))⟩], [], 70, _, (slices_Grow_intint_run F n0).trans ((slices_Grow_intint_cp _ n0 _).trans (bind_use hc _)), rfl, rfl, rfl⟩
  · cases h

/-! slices.Concat[[]int,int] -/
noncomputable def slices_Concat_intint_tab (F : Nat) : Tab := [(109, (slices_Grow_intint_ent F))]
theorem slices_Concat_intint_tabok (F : Nat) : TabOK Tryz.prog (slices_Concat_intint_tab F) := (tab_cons (slices_Grow_intint_meets F) slices_Grow_intint_fok tab_nil)
noncomputable def slices_Concat_intint_LS0 (F : Nat) : LT := []
theorem slices_Concat_intint_lsok0 (F : Nat) : LoopsOK Tryz.prog (slices_Concat_intint_LS0 F) (bodyOf Tryz.f92) := loopsOK_nil
theorem slices_Concat_intint_run (F : Nat) (slices0 : List Int) (slices1 : List Int) (slices2 : List Int) (slices3 : List Int) : runS tt (slices_Concat_intint_tab F) (slices_Concat_intint_LS0 F) [] [] Tryz.f92 (bodyOf Tryz.f92) 70 [(.rv [(.ri .i64 slices0), (.ri .i64 slices1), (.ri .i64 slices2), (.ri .i64 slices3)])] [] = slices_Concat_intint_c _ slices0 slices1 slices2 slices3 (fun r => some ⟨(.sl 0 0 (List.length r)), [(.vec 3 (.ri .i64 r))], []⟩) := by kernel_rfl
def slices_Concat_intint_ent (F : Nat) : Ent := ⟨[], .fresh, fun args mem => match args, mem with
  | [(.rv [(.ri .i64 slices0), (.ri .i64 slices1), (.ri .i64 slices2), (.ri .i64 slices3)])], [] => some ((slices_Concat_intint_p slices0 slices1 slices2 slices3).isSome, ⟨(.sl 0 0 (List.length ((slices_Concat_intint_p slices0 slices1 slices2 slices3).getD default))), [(.vec 3 (.ri .i64 ((slices_Concat_intint_p slices0 slices1 slices2 slices3).getD default)))], []⟩)
  | _, _ => none⟩
theorem slices_Concat_intint_fok : FunOK Tryz.prog 92 := funOK Tryz.func92 (by kernel_rfl) rfl
theorem slices_Concat_intint_meets (F : Nat) : Meets Tryz.prog 92 (slices_Concat_intint_ent F) := by
  refine meets_of_runS mixed ttok deep (slices_Concat_intint_tabok F) Tryz.func92 (body_some rfl) (slices_Concat_intint_lsok0 F) fun args mem hfit ret h => ?_
  clear hfit
  simp only [slices_Concat_intint_ent] at h
  split at h
  · rename_i slices0 slices1 slices2 slices3
    simp only [Option.some.injEq, Prod.mk.injEq] at h
    obtain ⟨hc, rfl⟩ := h
    exact ⟨[], [], 70, _, (slices_Concat_intint_run F slices0 slices1 slices2 slices3).trans ((slices_Concat_intint_cp _ slices0 slices1 slices2 slices3 _).trans (bind_use hc _)), rfl, rfl, rfl⟩
  · cases h

/-! (loop.example/g01194/impl.Board).flat -/
noncomputable def impl_Board_flat_tab (F : Nat) : Tab := [(92, (slices_Concat_intint_ent F))]
theorem impl_Board_flat_tabok (F : Nat) : TabOK Tryz.prog (impl_Board_flat_tab F) := (tab_cons (slices_Concat_intint_meets F) slices_Concat_intint_fok tab_nil)
noncomputable def impl_Board_flat_LS0 (F : Nat) : LT := []
theorem impl_Board_flat_lsok0 (F : Nat) : LoopsOK Tryz.prog (impl_Board_flat_LS0 F) (bodyOf Tryz.f68) := loopsOK_nil
theorem impl_Board_flat_run (F : Nat) (b0 : List Int) : runS tt (impl_Board_flat_tab F) (impl_Board_flat_LS0 F) [] [] Tryz.f68 (bodyOf Tryz.f68) 70 [(.ints 16 b0)] [] = impl_Board_flat_c _ b0 (fun r => some ⟨(.sl 0 0 (List.length r)), [(.vec 3 (.ri .i64 r))], []⟩) := by kernel_rfl
def impl_Board_flat_ent (F : Nat) : Ent := ⟨[], .fresh, fun args mem => match args, mem with
  | [(.ints 16 b0)], [] => some ((impl_Board_flat_p b0).isSome, ⟨(.sl 0 0 (List.length ((impl_Board_flat_p b0).getD default))), [(.vec 3 (.ri .i64 ((impl_Board_flat_p b0).getD default)))], []⟩)
  | _, _ => none⟩
theorem impl_Board_flat_fok : FunOK Tryz.prog 68 := funOK Tryz.func68 (by kernel_rfl) rfl
theorem impl_Board_flat_meets (F : Nat) : Meets Tryz.prog 68 (impl_Board_flat_ent F) := by
  refine meets_of_runS mixed ttok deep (impl_Board_flat_tabok F) Tryz.func68 (body_some rfl) (impl_Board_flat_lsok0 F) fun args mem hfit ret h => ?_
  clear hfit
  simp only [impl_Board_flat_ent] at h
  split at h
  · rename_i b0
    simp only [Option.some.injEq, Prod.mk.injEq] at h
    obtain ⟨hc, rfl⟩ := h
    exact ⟨[], [], 70, _, (impl_Board_flat_run F b0).trans ((impl_Board_flat_cp _ b0 _).trans (bind_use hc _)), rfl, rfl, rfl⟩
  · cases h

/-! (loop.example/g01194/impl.Board).order -/
noncomputable def impl_Board_order_tab (F : Nat) : Tab := [(68, (impl_Board_flat_ent F)), (64, (slices_Compare_intint_ent F))]
theorem impl_Board_order_tabok (F : Nat) : TabOK Tryz.prog (impl_Board_order_tab F) := (tab_cons (impl_Board_flat_meets F) impl_Board_flat_fok (tab_cons (slices_Compare_intint_meets F) slices_Compare_intint_fok tab_nil))
noncomputable def impl_Board_order_LS0 (F : Nat) : LT := []
theorem impl_Board_order_lsok0 (F : Nat) : LoopsOK Tryz.prog (impl_Board_order_LS0 F) (bodyOf Tryz.f46) := loopsOK_nil
theorem impl_Board_order_run (F : Nat) (b0 : List Int) (c1 : List Int) : runS tt (impl_Board_order_tab F) (impl_Board_order_LS0 F) [] [] Tryz.f46 (bodyOf Tryz.f46) 70 [(.ints 16 b0), (.ints 16 c1)] [] = impl_Board_order_c _ F b0 c1 (fun r => some ⟨(.int .i64 r), [], []⟩) := by kernel_rfl
def impl_Board_order_ent (F : Nat) : Ent := ⟨[], .quiet, fun args mem => match args, mem with
  | [(.ints 16 b0), (.ints 16 c1)], [] => some ((impl_Board_order_p F b0 c1).isSome, ⟨(.int .i64 ((impl_Board_order_p F b0 c1).getD default)), [], []⟩)
  | _, _ => none⟩
theorem impl_Board_order_fok : FunOK Tryz.prog 46 := funOK Tryz.func46 (by kernel_rfl) rfl
theorem impl_Board_order_meets (F : Nat) : Meets Tryz.prog 46 (impl_Board_order_ent F) := by
  refine meets_of_runS mixed ttok deep (impl_Board_order_tabok F) Tryz.func46 (body_some rfl) (impl_Board_order_lsok0 F) fun args mem hfit ret h => ?_
  clear hfit
  simp only [impl_Board_order_ent] at h
  split at h
  · rename_i b0 c1
    simp only [Option.some.injEq, Prod.mk.injEq] at h
    obtain ⟨hc, rfl⟩ := h
    exact ⟨[], [], 70, _, (impl_Board_order_run F b0 c1).trans ((impl_Board_order_cp _ F b0 c1 _).trans (bind_use hc _)), rfl, rfl, rfl⟩
  · cases h

/-! slices.SortFunc[[]loop.example/g01194/impl.Board,loop.example/g01194/impl.Board] -/
def slices_SortFunc_implBoardimplBoard_impl_Board_order_ent (F : Nat) : Ent := sortEnt 46 16 26 F
theorem slices_SortFunc_implBoardimplBoard_impl_Board_order_fok : FunOK Tryz.prog 45 := funOK Tryz.func45 (by kernel_rfl) rfl
theorem slices_SortFunc_implBoardimplBoard_impl_Board_order_meets (F : Nat) : Meets Tryz.prog 45 (slices_SortFunc_implBoardimplBoard_impl_Board_order_ent F) := by
  refine meets_sortK Tryz.sort45 16 26 F Tryz.isAgg26 Tryz.sizeOf26 46 (enters_of Tryz.func46 (by kernel_rfl) rfl) (impl_Board_order_ent F) (impl_Board_order_meets F) rfl fun hF x y hx hy => ?_
  simp only [impl_Board_order_ent, impl_Board_order_cmp F hF hx hy, Option.isSome_some, Option.getD_some]

/-! slices.Compact[[]loop.example/g01194/impl.Board,loop.example/g01194/impl.Board] -/
noncomputable def slices_Compact_implBoardimplBoard_tab (F : Nat) : Tab := []
theorem slices_Compact_implBoardimplBoard_tabok (F : Nat) : TabOK Tryz.prog (slices_Compact_implBoardimplBoard_tab F) := tab_nil
noncomputable def slices_Compact_implBoardimplBoard_LS0 (F : Nat) : LT := []
theorem slices_Compact_implBoardimplBoard_lsok0 (F : Nat) : LoopsOK Tryz.prog (slices_Compact_implBoardimplBoard_LS0 F) (bodyOf Tryz.f47) := loopsOK_nil
theorem slices_Compact_implBoardimplBoard_keys : keysOK (bodyOf Tryz.f47) = true := by kernel_rfl
def slices_Compact_implBoardimplBoard_st9 (s1 : Nat) (s23 : Nat) (s24 : Nat) (k2 : Int) (k25 : Int) (s6 : List (List Int)) : St := ⟨expand 61 0 [0, 3, 4, 5] [(.sl 0 0 s1), (.int .i64 k2), (.sl 0 s23 s24), (.int .i64 k25)], [(.vec 26 (.rr 16 s6))], 1, []⟩
def slices_Compact_implBoardimplBoard_o9 (s1 : Nat) (s23 : Nat) (s24 : Nat) (x : Int × List (List Int)) : GT := (.out (.exit 2 ⟨expand 61 0 [0, 3] [(.sl 0 0 s1), (.int .i64 x.1)], [(.vec 26 (.rr 16 x.2))], 1, []⟩))
def slices_Compact_implBoardimplBoard_ls9 (F : Nat) : LoopS := ⟨61, [0, 3, 4, 5], [], [0, 3], [], [2], [], [], fun vals mem np killed => match vals, mem, np, killed with
  | [(.sl 0 0 s1), (.int .i64 k2), (.sl 0 s23 s24), (.int .i64 k25)], [(.vec 26 (.rr 16 s6))], 1, [] => .br (slices_Compact_implBoardimplBoard_l9 F s1 s23 s24 k2 k25 s6).isSome (slices_Compact_implBoardimplBoard_o9 s1 s23 s24 ((slices_Compact_implBoardimplBoard_l9 F s1 s23 s24 k2 k25 s6).getD default)) .fail
  | _, _, _, _ => .fail⟩
theorem slices_Compact_implBoardimplBoard_step9 (F : Nat) (s1 : Nat) (s23 : Nat) (s24 : Nat) (k2 : Int) (k25 : Int) (s6 : List (List Int)) {R : Type} (k : Out → Option R) : stepS tt (slices_Compact_implBoardimplBoard_tab F) (slices_Compact_implBoardimplBoard_LS0 F) 70 (slices_Compact_implBoardimplBoard_ls9 F) (loopAt 9 (bodyOf Tryz.f47)) (slices_Compact_implBoardimplBoard_st9 s1 s23 s24 k2 k25 s6) k = slices_Compact_implBoardimplBoard_s9 F s1 s23 s24 R (k2, k25, s6) (fun s => k (.norm (slices_Compact_implBoardimplBoard_st9 s1 s23 s24 s.1 s.2.1 s.2.2))) (fun x => (slices_Compact_implBoardimplBoard_o9 s1 s23 s24 x).run k) := by kernel_rfl
theorem slices_Compact_implBoardimplBoard_iter9 (F : Nat) (s1 : Nat) (s23 : Nat) (s24 : Nat) {R : Type} (k : Out → Option R) : ∀ (n : Nat) (k2 : Int) (k25 : Int) (s6 : List (List Int)), iterS tt (slices_Compact_implBoardimplBoard_tab F) (slices_Compact_implBoardimplBoard_LS0 F) 70 (slices_Compact_implBoardimplBoard_ls9 F) (loopAt 9 (bodyOf Tryz.f47)) n (slices_Compact_implBoardimplBoard_st9 s1 s23 s24 k2 k25 s6) k = loopC (slices_Compact_implBoardimplBoard_s9 F s1 s23 s24) n (k2, k25, s6) (fun x => (slices_Compact_implBoardimplBoard_o9 s1 s23 s24 x).run k)
  | 0, k2, k25, s6 => rfl
  | n + 1, k2, k25, s6 => (iterS_succ tt (slices_Compact_implBoardimplBoard_tab F) (slices_Compact_implBoardimplBoard_LS0 F) 70 (slices_Compact_implBoardimplBoard_ls9 F) (loopAt 9 (bodyOf Tryz.f47)) n (slices_Compact_implBoardimplBoard_st9 s1 s23 s24 k2 k25 s6) k).trans ((slices_Compact_implBoardimplBoard_step9 F s1 s23 s24 k2 k25 s6 (nextK (iterS tt (slices_Compact_implBoardimplBoard_tab F) (slices_Compact_implBoardimplBoard_LS0 F) 70 (slices_Compact_implBoardimplBoard_ls9 F) (loopAt 9 (bodyOf Tryz.f47)) n) k)).trans (congrArg (fun kn => slices_Compact_implBoardimplBoard_s9 F s1 s23 s24 R (k2, k25, s6) kn _) (funext (fun ⟨k2, k25, s6⟩ => slices_Compact_implBoardimplBoard_iter9 F s1 s23 s24 k n k2 k25 s6))))
theorem slices_Compact_implBoardimplBoard_lok9 (F : Nat) : LoopOK Tryz.prog (loopAt 9 (bodyOf Tryz.f47)) (slices_Compact_implBoardimplBoard_ls9 F) := by
  refine loopOK_of mixed ttok deep (slices_Compact_implBoardimplBoard_tabok F) (loopsOK_at (slices_Compact_implBoardimplBoard_lsok0 F) 9) (fuel := 70) fun R vals mem np killed k x h => ?_
  simp only [slices_Compact_implBoardimplBoard_ls9] at h
  split at h
  · rename_i s1 k2 s23 s24 k25 s6
    simp only [GT.run] at h
    have hc := (cond_noneL h).1
    replace h := (cond_noneL h).2
    refine ⟨F, (slices_Compact_implBoardimplBoard_iter9 F s1 s23 s24 k F k2 k25 s6).trans ((loopC_use (slices_Compact_implBoardimplBoard_s9_nat F s1 s23 s24) hc _).trans h)⟩
  · simp only [GT.run] at h
    cases h
noncomputable def slices_Compact_implBoardimplBoard_LS1 (F : Nat) : LT := (9, slices_Compact_implBoardimplBoard_ls9 F) :: slices_Compact_implBoardimplBoard_LS0 F
theorem slices_Compact_implBoardimplBoard_lsok1 (F : Nat) : LoopsOK Tryz.prog (slices_Compact_implBoardimplBoard_LS1 F) (bodyOf Tryz.f47) := loopsOK_cons slices_Compact_implBoardimplBoard_keys (slices_Compact_implBoardimplBoard_lok9 F) (slices_Compact_implBoardimplBoard_lsok0 F)
def slices_Compact_implBoardimplBoard_st4 (s1 : Nat) (s3 : List (List Int)) (k2 : Int) : St := ⟨expand 61 0 [0, 3] [(.sl 0 0 s1), (.int .i64 k2)], [(.vec 26 (.rr 16 s3))], 1, []⟩
def slices_Compact_implBoardimplBoard_o4 (s1 : Nat) (s3 : List (List Int)) (x : Bool × Nat × List (List Int)) : GT := (.br x.1 (.out (.ret ⟨expand 61 0 [2] [(.sl 0 0 x.2.1)], [(.vec 26 (.rr 16 x.2.2))], 1, []⟩)) (.out (.exit 0 ⟨expand 61 0 [0] [(.sl 0 0 s1)], [(.vec 26 (.rr 16 s3))], 1, []⟩)))
def slices_Compact_implBoardimplBoard_ls4 (F : Nat) : LoopS := ⟨61, [0, 3], [], [0], [], [2], [], [], fun vals mem np killed => match vals, mem, np, killed with
  | [(.sl 0 0 s1), (.int .i64 k2)], [(.vec 26 (.rr 16 s3))], 1, [] => .br (slices_Compact_implBoardimplBoard_l4 F s1 s3 k2).isSome (slices_Compact_implBoardimplBoard_o4 s1 s3 ((slices_Compact_implBoardimplBoard_l4 F s1 s3 k2).getD default)) .fail
  | _, _, _, _ => .fail⟩
theorem slices_Compact_implBoardimplBoard_step4 (F : Nat) (s1 : Nat) (s3 : List (List Int)) (k2 : Int) {R : Type} (k : Out → Option R) : stepS tt (slices_Compact_implBoardimplBoard_tab F) (slices_Compact_implBoardimplBoard_LS1 F) 70 (slices_Compact_implBoardimplBoard_ls4 F) (loopAt 4 (bodyOf Tryz.f47)) (slices_Compact_implBoardimplBoard_st4 s1 s3 k2) k = slices_Compact_implBoardimplBoard_s4 F s1 s3 R k2 (fun s => k (.norm (slices_Compact_implBoardimplBoard_st4 s1 s3 s))) (fun x => (slices_Compact_implBoardimplBoard_o4 s1 s3 x).run k) := by kernel_rfl
theorem slices_Compact_implBoardimplBoard_iter4 (F : Nat) (s1 : Nat) (s3 : List (List Int)) {R : Type} (k : Out → Option R) : ∀ (n : Nat) (k2 : Int), iterS tt (slices_Compact_implBoardimplBoard_tab F) (slices_Compact_implBoardimplBoard_LS1 F) 70 (slices_Compact_implBoardimplBoard_ls4 F) (loopAt 4 (bodyOf Tryz.f47)) n (slices_Compact_implBoardimplBoard_st4 s1 s3 k2) k = loopC (slices_Compact_implBoardimplBoard_s4 F s1 s3) n k2 (fun x => (slices_Compact_implBoardimplBoard_o4 s1 s3 x).run k)
  | 0, k2 => rfl
  | n + 1, k2 => (iterS_succ tt (slices_Compact_implBoardimplBoard_tab F) (slices_Compact_implBoardimplBoard_LS1 F) 70 (slices_Compact_implBoardimplBoard_ls4 F) (loopAt 4 (bodyOf Tryz.f47)) n (slices_Compact_implBoardimplBoard_st4 s1 s3 k2) k).trans ((slices_Compact_implBoardimplBoard_step4 F s1 s3 k2 (nextK (iterS tt (slices_Compact_implBoardimplBoard_tab F) (slices_Compact_implBoardimplBoard_LS1 F) 70 (slices_Compact_implBoardimplBoard_ls4 F) (loopAt 4 (bodyOf Tryz.f47)) n) k)).trans (congrArg (fun kn => slices_Compact_implBoardimplBoard_s4 F s1 s3 R k2 kn _) (funext (fun k2 => slices_Compact_implBoardimplBoard_iter4 F s1 s3 k n k2))))
theorem slices_Compact_implBoardimplBoard_lok4 (F : Nat) : LoopOK Tryz.prog (loopAt 4 (bodyOf Tryz.f47)) (slices_Compact_implBoardimplBoard_ls4 F) := by
  refine loopOK_of mixed ttok deep (slices_Compact_implBoardimplBoard_tabok F) (loopsOK_at (slices_Compact_implBoardimplBoard_lsok1 F) 4) (fuel := 70) fun R vals mem np killed k x h => ?_
  simp only [slices_Compact_implBoardimplBoard_ls4] at h
  split at h
  · rename_i s1 k2 s3
    simp only [GT.run] at h
    have hc := (cond_noneL h).1
    replace h := (cond_noneL h).2
    refine ⟨F, (slices_Compact_implBoardimplBoard_iter4 F s1 s3 k F k2).trans ((loopC_use (slices_Compact_implBoardimplBoard_s4_nat F s1 s3) hc _).trans h)⟩
  · simp only [GT.run] at h
    cases h
noncomputable def slices_Compact_implBoardimplBoard_LS2 (F : Nat) : LT := (4, slices_Compact_implBoardimplBoard_ls4 F) :: slices_Compact_implBoardimplBoard_LS1 F
theorem slices_Compact_implBoardimplBoard_lsok2 (F : Nat) : LoopsOK Tryz.prog (slices_Compact_implBoardimplBoard_LS2 F) (bodyOf Tryz.f47) := loopsOK_cons slices_Compact_implBoardimplBoard_keys (slices_Compact_implBoardimplBoard_lok4 F) (slices_Compact_implBoardimplBoard_lsok1 F)
theorem slices_Compact_implBoardimplBoard_run (F : Nat) (s1 : Nat) (s2 : List (List Int)) : runS tt (slices_Compact_implBoardimplBoard_tab F) (slices_Compact_implBoardimplBoard_LS2 F) [] [] Tryz.f47 (bodyOf Tryz.f47) 70 [(.sl 0 0 s1)] [(.vec 26 (.rr 16 s2))] = slices_Compact_implBoardimplBoard_c _ F s1 s2 (fun r => some ⟨(.sl 0 0 r.1), [(.vec 26 (.rr 16 r.2))], []⟩) := by kernel_rfl
def slices_Compact_implBoardimplBoard_ent (F : Nat) : Ent := ⟨[true], .loud, fun args mem => match args, mem with
  | [(.sl 0 0 s1)], [(.vec 26 (.rr 16 s2))] => some ((slices_Compact_implBoardimplBoard_p F s1 s2).isSome, ⟨(.sl 0 0 ((slices_Compact_implBoardimplBoard_p F s1 s2).getD default).1), [(.vec 26 (.rr 16 ((slices_Compact_implBoardimplBoard_p F s1 s2).getD default).2))], []⟩)
  | _, _ => none⟩
theorem slices_Compact_implBoardimplBoard_fok : FunOK Tryz.prog 47 := funOK Tryz.func47 (by kernel_rfl) rfl
theorem slices_Compact_implBoardimplBoard_meets (F : Nat) : Meets Tryz.prog 47 (slices_Compact_implBoardimplBoard_ent F) := by
  refine meets_of_runS mixed ttok deep (slices_Compact_implBoardimplBoard_tabok F) Tryz.func47 (body_some rfl) (slices_Compact_implBoardimplBoard_lsok2 F) fun args mem hfit ret h => ?_
  clear hfit
  simp only [slices_Compact_implBoardimplBoard_ent] at h
  split at h
  · rename_i s1 s2
    simp only [Option.some.injEq, Prod.mk.injEq] at h
    obtain ⟨hc, rfl⟩ := h
    exact ⟨[], [], 70, _, (slices_Compact_implBoardimplBoard_run F s1 s2).trans ((slices_Compact_implBoardimplBoard_cp _ F s1 s2 _).trans (bind_use hc _)), rfl, rfl, rfl⟩
  · cases h

/-! loop.example/g01194/impl.ordered -/
noncomputable def impl_ordered_tab (F : Nat) : Tab := [(45, (slices_SortFunc_implBoardimplBoard_impl_Board_order_ent F)), (47, (slices_Compact_implBoardimplBoard_ent F))]
theorem impl_ordered_tabok (F : Nat) : TabOK Tryz.prog (impl_ordered_tab F) := (tab_cons (slices_SortFunc_implBoardimplBoard_impl_Board_order_meets F) slices_SortFunc_implBoardimplBoard_impl_Board_order_fok (tab_cons (slices_Compact_implBoardimplBoard_meets F) slices_Compact_implBoardimplBoard_fok tab_nil))
noncomputable def impl_ordered_LS0 (F : Nat) : LT := []
theorem impl_ordered_lsok0 (F : Nat) : LoopsOK Tryz.prog (impl_ordered_LS0 F) (bodyOf Tryz.f28) := loopsOK_nil
theorem impl_ordered_run (F : Nat) (list1 : Nat) (list2 : List (List Int)) : runS tt (impl_ordered_tab F) (impl_ordered_LS0 F) [] [] Tryz.f28 (bodyOf Tryz.f28) 70 [(.sl 0 0 list1)] [(.vec 26 (.rr 16 list2))] = impl_ordered_c _ F list1 list2 (fun r => some ⟨(.sl 0 0 r.1), [(.vec 26 (.rr 16 r.2))], []⟩) := by kernel_rfl
def impl_ordered_ent (F : Nat) : Ent := ⟨[true], .loud, fun args mem => match args, mem with
  | [(.sl 0 0 list1)], [(.vec 26 (.rr 16 list2))] => some ((impl_ordered_p F list1 list2).isSome, ⟨(.sl 0 0 ((impl_ordered_p F list1 list2).getD default).1), [(.vec 26 (.rr 16 ((impl_ordered_p F list1 list2).getD default).2))], []⟩)
  | _, _ => none⟩
theorem impl_ordered_fok : FunOK Tryz.prog 28 := funOK Tryz.func28 (by kernel_rfl) rfl
theorem impl_ordered_meets (F : Nat) : Meets Tryz.prog 28 (impl_ordered_ent F) := by
  refine meets_of_runS mixed ttok deep (impl_ordered_tabok F) Tryz.func28 (body_some rfl) (impl_ordered_lsok0 F) fun args mem hfit ret h => ?_
  clear hfit
  simp only [impl_ordered_ent] at h
  split at h
  · rename_i list1 list2
    simp only [Option.some.injEq, Prod.mk.injEq] at h
    obtain ⟨hc, rfl⟩ := h
    exact ⟨[], [], 70, _, (impl_ordered_run F list1 list2).trans ((impl_ordered_cp _ F list1 list2 _).trans (bind_use hc _)), rfl, rfl, rfl⟩
  · cases h

/-! loop.example/g01194/impl.BoardsBefore -/
noncomputable def impl_BoardsBefore_tab (F : Nat) : Tab := [(23, (impl_IsBoard_ent F)), (24, (impl_isDirection_ent F)), (25, (impl_Board_countBefore_ent F)), (26, (impl_Board_linesBefore_ent F)), (27, (impl_Board_withLine_ent F)), (29, (slices_DeleteFunc_implBoardimplBoard_impl_BoardsBefore_f1_ent F)), (28, (impl_ordered_ent F))]
theorem impl_BoardsBefore_tabok (F : Nat) : TabOK Tryz.prog (impl_BoardsBefore_tab F) := (tab_cons (impl_IsBoard_meets F) impl_IsBoard_fok (tab_cons (impl_isDirection_meets F) impl_isDirection_fok (tab_cons (impl_Board_countBefore_meets F) impl_Board_countBefore_fok (tab_cons (impl_Board_linesBefore_meets F) impl_Board_linesBefore_fok (tab_cons (impl_Board_withLine_meets F) impl_Board_withLine_fok (tab_cons (slices_DeleteFunc_implBoardimplBoard_impl_BoardsBefore_f1_meets F) slices_DeleteFunc_implBoardimplBoard_impl_BoardsBefore_f1_fok (tab_cons (impl_ordered_meets F) impl_ordered_fok tab_nil)))))))
noncomputable def impl_BoardsBefore_LS0 (F : Nat) : LT := []
theorem impl_BoardsBefore_lsok0 (F : Nat) : LoopsOK Tryz.prog (impl_BoardsBefore_LS0 F) (bodyOf Tryz.f10) := loopsOK_nil
theorem impl_BoardsBefore_keys : keysOK (bodyOf Tryz.f10) = true := by kernel_rfl
def impl_BoardsBefore_st12 (direction0 : Int) (i4 : Int) (rows5 : List (List Int)) (t3211 : List (List Int)) (t3212 : List (List Int)) (t3213 : List (List Int)) (t3214 : List (List Int)) (t3315 : Int) (t3918 : Int) (t4019 : Int) (t4420 : List (List Int)) (t4521 : Int) (b23 : List Int) (own25 : List Int) (t3826 : List (List Int)) (t4622 : Int) (next24 : List (List Int)) : St := ⟨expand 66 0 [1, 2, 7, 8, 9, 11, 32, 33, 38, 39, 40, 44, 45, 46] [(.int .i64 direction0), (.ptr 0 0 0 16), (.int .i64 i4), (.rr 4 rows5), (.sl 1 0 (List.length next24)), (.ptr 2 0 0 16), (.agg [(.rr 4 t3211), (.rr 4 t3212), (.rr 4 t3213), (.rr 4 t3214)]), (.int .i64 t3315), (.sl 3 0 (List.length t3826)), (.int .i64 t3918), (.int .i64 t4019), (.rr 4 t4420), (.int .i64 t4521), (.int .i64 t4622)], [(.var 16 (.ri .i64 b23)), (.vec 26 (.rr 16 next24)), (.var 16 (.ri .i64 own25)), (.vec 26 (.rr 16 t3826))], 0, []⟩
def impl_BoardsBefore_o12 (direction0 : Int) (i4 : Int) (rows5 : List (List Int)) (t3211 : List (List Int)) (t3212 : List (List Int)) (t3213 : List (List Int)) (t3214 : List (List Int)) (t3315 : Int) (t3918 : Int) (t4019 : Int) (t4420 : List (List Int)) (t4521 : Int) (b23 : List Int) (own25 : List Int) (t3826 : List (List Int)) (x : List (List Int)) : GT := (.out (.exit 4 ⟨expand 66 0 [1, 2, 7, 8, 9, 32, 33, 38, 39, 40] [(.int .i64 direction0), (.ptr 0 0 0 16), (.int .i64 i4), (.rr 4 rows5), (.sl 1 0 (List.length x)), (.agg [(.rr 4 t3211), (.rr 4 t3212), (.rr 4 t3213), (.rr 4 t3214)]), (.int .i64 t3315), (.sl 2 0 (List.length t3826)), (.int .i64 t3918), (.int .i64 t4019)], [(.var 16 (.ri .i64 b23)), (.vec 26 (.rr 16 x)), (.vec 26 (.rr 16 t3826))], 0, []⟩))
def impl_BoardsBefore_ls12 (F : Nat) : LoopS := ⟨66, [1, 2, 7, 8, 9, 11, 32, 33, 38, 39, 40, 44, 45, 46], [], [1, 2, 7, 8, 9, 32, 33, 38, 39, 40], [], [4, 5], [], [], fun vals mem np killed => match vals, mem, np, killed with
  | [(.int .i64 direction0), (.ptr 0 0 0 16), (.int .i64 i4), (.rr 4 rows5), (.sl 1 0 q_next7), (.ptr 2 0 0 16), (.agg [(.rr 4 t3211), (.rr 4 t3212), (.rr 4 t3213), (.rr 4 t3214)]), (.int .i64 t3315), (.sl 3 0 q_t3817), (.int .i64 t3918), (.int .i64 t4019), (.rr 4 t4420), (.int .i64 t4521), (.int .i64 t4622)], [(.var 16 (.ri .i64 b23)), (.vec 26 (.rr 16 next24)), (.var 16 (.ri .i64 own25)), (.vec 26 (.rr 16 t3826))], 0, [] => .br ((Nat.beq q_next7 (List.length next24)) && ((Nat.beq q_t3817 (List.length t3826)) && (impl_BoardsBefore_l12 F direction0 i4 rows5 t3211 t3212 t3213 t3214 t3315 t3918 t4019 t4420 t4521 b23 own25 t3826 t4622 next24).isSome)) (impl_BoardsBefore_o12 direction0 i4 rows5 t3211 t3212 t3213 t3214 t3315 t3918 t4019 t4420 t4521 b23 own25 t3826 ((impl_BoardsBefore_l12 F direction0 i4 rows5 t3211 t3212 t3213 t3214 t3315 t3918 t4019 t4420 t4521 b23 own25 t3826 t4622 next24).getD default)) .fail
  | _, _, _, _ => .fail⟩
theorem impl_BoardsBefore_step12 (F : Nat) (direction0 : Int) (i4 : Int) (rows5 : List (List Int)) (t3211 : List (List Int)) (t3212 : List (List Int)) (t3213 : List (List Int)) (t3214 : List (List Int)) (t3315 : Int) (t3918 : Int) (t4019 : Int) (t4420 : List (List Int)) (t4521 : Int) (b23 : List Int) (own25 : List Int) (t3826 : List (List Int)) (t4622 : Int) (next24 : List (List Int)) {R : Type} (k : Out → Option R) : stepS tt (impl_BoardsBefore_tab F) (impl_BoardsBefore_LS0 F) 70 (impl_BoardsBefore_ls12 F) (loopAt 12 (bodyOf Tryz.f10)) (impl_BoardsBefore_st12 direction0 i4 rows5 t3211 t3212 t3213 t3214 t3315 t3918 t4019 t4420 t4521 b23 own25 t3826 t4622 next24) k = impl_BoardsBefore_s12 F direction0 i4 rows5 t3211 t3212 t3213 t3214 t3315 t3918 t4019 t4420 t4521 b23 own25 t3826 R (t4622, next24) (fun s => k (.norm (impl_BoardsBefore_st12 direction0 i4 rows5 t3211 t3212 t3213 t3214 t3315 t3918 t4019 t4420 t4521 b23 own25 t3826 s.1 s.2))) (fun x => (impl_BoardsBefore_o12 direction0 i4 rows5 t3211 t3212 t3213 t3214 t3315 t3918 t4019 t4420 t4521 b23 own25 t3826 x).run k) := by kernel_rfl
theorem impl_BoardsBefore_iter12 (F : Nat) (direction0 : Int) (i4 : Int) (rows5 : List (List Int)) (t3211 : List (List Int)) (t3212 : List (List Int)) (t3213 : List (List Int)) (t3214 : List (List Int)) (t3315 : Int) (t3918 : Int) (t4019 : Int) (t4420 : List (List Int)) (t4521 : Int) (b23 : List Int) (own25 : List Int) (t3826 : List (List Int)) {R : Type} (k : Out → Option R) : ∀ (n : Nat) (t4622 : Int) (next24 : List (List Int)), iterS tt (impl_BoardsBefore_tab F) (impl_BoardsBefore_LS0 F) 70 (impl_BoardsBefore_ls12 F) (loopAt 12 (bodyOf Tryz.f10)) n (impl_BoardsBefore_st12 direction0 i4 rows5 t3211 t3212 t3213 t3214 t3315 t3918 t4019 t4420 t4521 b23 own25 t3826 t4622 next24) k = loopC (impl_BoardsBefore_s12 F direction0 i4 rows5 t3211 t3212 t3213 t3214 t3315 t3918 t4019 t4420 t4521 b23 own25 t3826) n (t4622, next24) (fun x => (impl_BoardsBefore_o12 direction0 i4 rows5 t3211 t3212 t3213 t3214 t3315 t3918 t4019 t4420 t4521 b23 own25 t3826 x).run k)
  | 0, t4622, next24 => rfl
  | n + 1, t4622, next24 => (iterS_succ tt (impl_BoardsBefore_tab F) (impl_BoardsBefore_LS0 F) 70 (impl_BoardsBefore_ls12 F) (loopAt 12 (bodyOf Tryz.f10)) n (impl_BoardsBefore_st12 direction0 i4 rows5 t3211 t3212 t3213 t3214 t3315 t3918 t4019 t4420 t4521 b23 own25 t3826 t4622 next24) k).trans ((impl_BoardsBefore_step12 F direction0 i4 rows5 t3211 t3212 t3213 t3214 t3315 t3918 t4019 t4420 t4521 b23 own25 t3826 t4622 next24 (nextK (iterS tt (impl_BoardsBefore_tab F) (impl_BoardsBefore_LS0 F) 70 (impl_BoardsBefore_ls12 F) (loopAt 12 (bodyOf Tryz.f10)) n) k)).trans (congrArg (fun kn => impl_BoardsBefore_s12 F direction0 i4 rows5 t3211 t3212 t3213 t3214 t3315 t3918 t4019 t4420 t4521 b23 own25 t3826 R (t4622, next24) kn _) (funext (fun ⟨t4622, next24⟩ => impl_BoardsBefore_iter12 F direction0 i4 rows5 t3211 t3212 t3213 t3214 t3315 t3918 t4019 t4420 t4521 b23 own25 t3826 k n t4622 next24))))
theorem impl_BoardsBefore_lok12 (F : Nat) : LoopOK Tryz.prog (loopAt 12 (bodyOf Tryz.f10)) (impl_BoardsBefore_ls12 F) := by
  refine loopOK_of mixed ttok deep (impl_BoardsBefore_tabok F) (loopsOK_at (impl_BoardsBefore_lsok0 F) 12) (fuel := 70) fun R vals mem np killed k x h => ?_
  simp only [impl_BoardsBefore_ls12] at h
  split at h
  · rename_i direction0 i4 rows5 q_next7 t3211 t3212 t3213 t3214 t3315 q_t3817 t3918 t4019 t4420 t4521 t4622 b23 next24 own25 t3826
    simp only [GT.run] at h
    have hc := (cond_noneL h).1
    replace h := (cond_noneL h).2
    have hg := (and_split hc).1
    replace hc := (and_split hc).2
    obtain rfl := nbeq_nat hg
    have hg := (and_split hc).1
    replace hc := (and_split hc).2
    obtain rfl := nbeq_nat hg
    refine ⟨F, (impl_BoardsBefore_iter12 F direction0 i4 rows5 t3211 t3212 t3213 t3214 t3315 t3918 t4019 t4420 t4521 b23 own25 t3826 k F t4622 next24).trans ((loopC_use (impl_BoardsBefore_s12_nat F direction0 i4 rows5 t3211 t3212 t3213 t3214 t3315 t3918 t4019 t4420 t4521 b23 own25 t3826) hc _).trans h)⟩
  · simp only [GT.run] at h
    cases h
noncomputable def impl_BoardsBefore_LS1 (F : Nat) : LT := (12, impl_BoardsBefore_ls12 F) :: impl_BoardsBefore_LS0 F
theorem impl_BoardsBefore_lsok1 (F : Nat) : LoopsOK Tryz.prog (impl_BoardsBefore_LS1 F) (bodyOf Tryz.f10) := loopsOK_cons impl_BoardsBefore_keys (impl_BoardsBefore_lok12 F) (impl_BoardsBefore_lsok0 F)
def impl_BoardsBefore_st9 (direction0 : Int) (i4 : Int) (rows5 : List (List Int)) (t328 : List (List Int)) (t329 : List (List Int)) (t3210 : List (List Int)) (t3211 : List (List Int)) (t3312 : Int) (t3915 : Int) (b17 : List Int) (t3819 : List (List Int)) (t4016 : Int) (next18 : List (List Int)) : St := ⟨expand 66 0 [1, 2, 7, 8, 9, 32, 33, 38, 39, 40] [(.int .i64 direction0), (.ptr 0 0 0 16), (.int .i64 i4), (.rr 4 rows5), (.sl 1 0 (List.length next18)), (.agg [(.rr 4 t328), (.rr 4 t329), (.rr 4 t3210), (.rr 4 t3211)]), (.int .i64 t3312), (.sl 2 0 (List.length t3819)), (.int .i64 t3915), (.int .i64 t4016)], [(.var 16 (.ri .i64 b17)), (.vec 26 (.rr 16 next18)), (.vec 26 (.rr 16 t3819))], 0, []⟩
def impl_BoardsBefore_o9 (direction0 : Int) (i4 : Int) (rows5 : List (List Int)) (t328 : List (List Int)) (t329 : List (List Int)) (t3210 : List (List Int)) (t3211 : List (List Int)) (t3312 : Int) (t3915 : Int) (b17 : List Int) (t3819 : List (List Int)) (x : List (List Int)) : GT := (.out (.exit 2 ⟨expand 66 0 [1, 2, 9, 32, 33] [(.int .i64 direction0), (.ptr 0 0 0 16), (.sl 1 0 (List.length x)), (.agg [(.rr 4 t328), (.rr 4 t329), (.rr 4 t3210), (.rr 4 t3211)]), (.int .i64 t3312)], [(.var 16 (.ri .i64 b17)), (.vec 26 (.rr 16 x))], 0, []⟩))
def impl_BoardsBefore_ls9 (F : Nat) : LoopS := ⟨66, [1, 2, 7, 8, 9, 32, 33, 38, 39, 40], [], [1, 2, 9, 32, 33], [], [4, 5], [], [], fun vals mem np killed => match vals, mem, np, killed with
  | [(.int .i64 direction0), (.ptr 0 0 0 16), (.int .i64 i4), (.rr 4 rows5), (.sl 1 0 q_next7), (.agg [(.rr 4 t328), (.rr 4 t329), (.rr 4 t3210), (.rr 4 t3211)]), (.int .i64 t3312), (.sl 2 0 q_t3814), (.int .i64 t3915), (.int .i64 t4016)], [(.var 16 (.ri .i64 b17)), (.vec 26 (.rr 16 next18)), (.vec 26 (.rr 16 t3819))], 0, [] => .br ((Nat.beq q_next7 (List.length next18)) && ((Nat.beq q_t3814 (List.length t3819)) && (impl_BoardsBefore_l9 F direction0 i4 rows5 t328 t329 t3210 t3211 t3312 t3915 b17 t3819 t4016 next18).isSome)) (impl_BoardsBefore_o9 direction0 i4 rows5 t328 t329 t3210 t3211 t3312 t3915 b17 t3819 ((impl_BoardsBefore_l9 F direction0 i4 rows5 t328 t329 t3210 t3211 t3312 t3915 b17 t3819 t4016 next18).getD default)) .fail
  | _, _, _, _ => .fail⟩
theorem impl_BoardsBefore_step9 (F : Nat) (direction0 : Int) (i4 : Int) (rows5 : List (List Int)) (t328 : List (List Int)) (t329 : List (List Int)) (t3210 : List (List Int)) (t3211 : List (List Int)) (t3312 : Int) (t3915 : Int) (b17 : List Int) (t3819 : List (List Int)) (t4016 : Int) (next18 : List (List Int)) {R : Type} (k : Out → Option R) : stepS tt (impl_BoardsBefore_tab F) (impl_BoardsBefore_LS1 F) 70 (impl_BoardsBefore_ls9 F) (loopAt 9 (bodyOf Tryz.f10)) (impl_BoardsBefore_st9 direction0 i4 rows5 t328 t329 t3210 t3211 t3312 t3915 b17 t3819 t4016 next18) k = impl_BoardsBefore_s9 F direction0 i4 rows5 t328 t329 t3210 t3211 t3312 t3915 b17 t3819 R (t4016, next18) (fun s => k (.norm (impl_BoardsBefore_st9 direction0 i4 rows5 t328 t329 t3210 t3211 t3312 t3915 b17 t3819 s.1 s.2))) (fun x => (impl_BoardsBefore_o9 direction0 i4 rows5 t328 t329 t3210 t3211 t3312 t3915 b17 t3819 x).run k) := by kernel_rfl
theorem impl_BoardsBefore_iter9 (F : Nat) (direction0 : Int) (i4 : Int) (rows5 : List (List Int)) (t328 : List (List Int)) (t329 : List (List Int)) (t3210 : List (List Int)) (t3211 : List (List Int)) (t3312 : Int) (t3915 : Int) (b17 : List Int) (t3819 : List (List Int)) {R : Type} (k : Out → Option R) : ∀ (n : Nat) (t4016 : Int) (next18 : List (List Int)), iterS tt (impl_BoardsBefore_tab F) (impl_BoardsBefore_LS1 F) 70 (impl_BoardsBefore_ls9 F) (loopAt 9 (bodyOf Tryz.f10)) n (impl_BoardsBefore_st9 direction0 i4 rows5 t328 t329 t3210 t3211 t3312 t3915 b17 t3819 t4016 next18) k = loopC (impl_BoardsBefore_s9 F direction0 i4 rows5 t328 t329 t3210 t3211 t3312 t3915 b17 t3819) n (t4016, next18) (fun x => (impl_BoardsBefore_o9 direction0 i4 rows5 t328 t329 t3210 t3211 t3312 t3915 b17 t3819 x).run k)
  | 0, t4016, next18 => rfl
  | n + 1, t4016, next18 => (iterS_succ tt (impl_BoardsBefore_tab F) (impl_BoardsBefore_LS1 F) 70 (impl_BoardsBefore_ls9 F) (loopAt 9 (bodyOf Tryz.f10)) n (impl_BoardsBefore_st9 direction0 i4 rows5 t328 t329 t3210 t3211 t3312 t3915 b17 t3819 t4016 next18) k).trans ((impl_BoardsBefore_step9 F direction0 i4 rows5 t328 t329 t3210 t3211 t3312 t3915 b17 t3819 t4016 next18 (nextK (iterS tt (impl_BoardsBefore_tab F) (impl_BoardsBefore_LS1 F) 70 (impl_BoardsBefore_ls9 F) (loopAt 9 (bodyOf Tryz.f10)) n) k)).trans (congrArg (fun kn => impl_BoardsBefore_s9 F direction0 i4 rows5 t328 t329 t3210 t3211 t3312 t3915 b17 t3819 R (t4016, next18) kn _) (funext (fun ⟨t4016, next18⟩ => impl_BoardsBefore_iter9 F direction0 i4 rows5 t328 t329 t3210 t3211 t3312 t3915 b17 t3819 k n t4016 next18))))
theorem impl_BoardsBefore_lok9 (F : Nat) : LoopOK Tryz.prog (loopAt 9 (bodyOf Tryz.f10)) (impl_BoardsBefore_ls9 F) := by
  refine loopOK_of mixed ttok deep (impl_BoardsBefore_tabok F) (loopsOK_at (impl_BoardsBefore_lsok1 F) 9) (fuel := 70) fun R vals mem np killed k x h => ?_
  simp only [impl_BoardsBefore_ls9] at h
  split at h
  · rename_i direction0 i4 rows5 q_next7 t328 t329 t3210 t3211 t3312 q_t3814 t3915 t4016 b17 next18 t3819
    simp only [GT.run] at h
    have hc := (cond_noneL h).1
    replace h := (cond_noneL h).2
    have hg := (and_split hc).1
    replace hc := (and_split hc).2
    obtain rfl := nbeq_nat hg
    have hg := (and_split hc).1
    replace hc := (and_split hc).2
    obtain rfl := nbeq_nat hg
    refine ⟨F, (impl_BoardsBefore_iter9 F direction0 i4 rows5 t328 t329 t3210 t3211 t3312 t3915 b17 t3819 k F t4016 next18).trans ((loopC_use (impl_BoardsBefore_s9_nat F direction0 i4 rows5 t328 t329 t3210 t3211 t3312 t3915 b17 t3819) hc _).trans h)⟩
  · simp only [GT.run] at h
    cases h
noncomputable def impl_BoardsBefore_LS2 (F : Nat) : LT := (9, impl_BoardsBefore_ls9 F) :: impl_BoardsBefore_LS1 F
theorem impl_BoardsBefore_lsok2 (F : Nat) : LoopsOK Tryz.prog (impl_BoardsBefore_LS2 F) (bodyOf Tryz.f10) := loopsOK_cons impl_BoardsBefore_keys (impl_BoardsBefore_lok9 F) (impl_BoardsBefore_lsok1 F)
def impl_BoardsBefore_st5 (direction0 : Int) (t326 : List (List Int)) (t327 : List (List Int)) (t328 : List (List Int)) (t329 : List (List Int)) (b11 : List Int) (t3310 : Int) (out12 : List (List Int)) : St := ⟨expand 66 0 [1, 2, 6, 32, 33] [(.int .i64 direction0), (.ptr 0 0 0 16), (.sl 1 0 (List.length out12)), (.agg [(.rr 4 t326), (.rr 4 t327), (.rr 4 t328), (.rr 4 t329)]), (.int .i64 t3310)], [(.var 16 (.ri .i64 b11)), (.vec 26 (.rr 16 out12))], 0, []⟩
def impl_BoardsBefore_o5 (direction0 : Int) (t326 : List (List Int)) (t327 : List (List Int)) (t328 : List (List Int)) (t329 : List (List Int)) (b11 : List Int) (x : List (List Int)) : GT := (.out (.exit 0 ⟨expand 66 0 [2, 6] [(.ptr 0 0 0 16), (.sl 1 0 (List.length x))], [(.var 16 (.ri .i64 b11)), (.vec 26 (.rr 16 x))], 0, []⟩))
def impl_BoardsBefore_ls5 (F : Nat) : LoopS := ⟨66, [1, 2, 6, 32, 33], [], [2, 6], [], [4, 5], [], [], fun vals mem np killed => match vals, mem, np, killed with
  | [(.int .i64 direction0), (.ptr 0 0 0 16), (.sl 1 0 q_out5), (.agg [(.rr 4 t326), (.rr 4 t327), (.rr 4 t328), (.rr 4 t329)]), (.int .i64 t3310)], [(.var 16 (.ri .i64 b11)), (.vec 26 (.rr 16 out12))], 0, [] => .br ((Nat.beq q_out5 (List.length out12)) && (impl_BoardsBefore_l5 F direction0 t326 t327 t328 t329 b11 t3310 out12).isSome) (impl_BoardsBefore_o5 direction0 t326 t327 t328 t329 b11 ((impl_BoardsBefore_l5 F direction0 t326 t327 t328 t329 b11 t3310 out12).getD default)) .fail
  | _, _, _, _ => .fail⟩
theorem impl_BoardsBefore_step5 (F : Nat) (direction0 : Int) (t326 : List (List Int)) (t327 : List (List Int)) (t328 : List (List Int)) (t329 : List (List Int)) (b11 : List Int) (t3310 : Int) (out12 : List (List Int)) {R : Type} (k : Out → Option R) : stepS tt (impl_BoardsBefore_tab F) (impl_BoardsBefore_LS2 F) 70 (impl_BoardsBefore_ls5 F) (loopAt 5 (bodyOf Tryz.f10)) (impl_BoardsBefore_st5 direction0 t326 t327 t328 t329 b11 t3310 out12) k = impl_BoardsBefore_s5 F direction0 t326 t327 t328 t329 b11 R (t3310, out12) (fun s => k (.norm (impl_BoardsBefore_st5 direction0 t326 t327 t328 t329 b11 s.1 s.2))) (fun x => (impl_BoardsBefore_o5 direction0 t326 t327 t328 t329 b11 x).run k) := by kernel_rfl
theorem impl_BoardsBefore_iter5 (F : Nat) (direction0 : Int) (t326 : List (List Int)) (t327 : List (List Int)) (t328 : List (List Int)) (t329 : List (List Int)) (b11 : List Int) {R : Type} (k : Out → Option R) : ∀ (n : Nat) (t3310 : Int) (out12 : List (List Int)), iterS tt (impl_BoardsBefore_tab F) (impl_BoardsBefore_LS2 F) 70 (impl_BoardsBefore_ls5 F) (loopAt 5 (bodyOf Tryz.f10)) n (impl_BoardsBefore_st5 direction0 t326 t327 t328 t329 b11 t3310 out12) k = loopC (impl_BoardsBefore_s5 F direction0 t326 t327 t328 t329 b11) n (t3310, out12) (fun x => (impl_BoardsBefore_o5 direction0 t326 t327 t328 t329 b11 x).run k)
  | 0, t3310, out12 => rfl
  | n + 1, t3310, out12 => (iterS_succ tt (impl_BoardsBefore_tab F) (impl_BoardsBefore_LS2 F) 70 (impl_BoardsBefore_ls5 F) (loopAt 5 (bodyOf Tryz.f10)) n (impl_BoardsBefore_st5 direction0 t326 t327 t328 t329 b11 t3310 out12) k).trans ((impl_BoardsBefore_step5 F direction0 t326 t327 t328 t329 b11 t3310 out12 (nextK (iterS tt (impl_BoardsBefore_tab F) (impl_BoardsBefore_LS2 F) 70 (impl_BoardsBefore_ls5 F) (loopAt 5 (bodyOf Tryz.f10)) n) k)).trans (congrArg (fun kn => impl_BoardsBefore_s5 F direction0 t326 t327 t328 t329 b11 R (t3310, out12) kn _) (funext (fun ⟨t3310, out12⟩ => impl_BoardsBefore_iter5 F direction0 t326 t327 t328 t329 b11 k n t3310 out12))))
theorem impl_BoardsBefore_lok5 (F : Nat) : LoopOK Tryz.prog (loopAt 5 (bodyOf Tryz.f10)) (impl_BoardsBefore_ls5 F) := by
  refine loopOK_of mixed ttok deep (impl_BoardsBefore_tabok F) (loopsOK_at (impl_BoardsBefore_lsok2 F) 5) (fuel := 70) fun R vals mem np killed k x h => ?_
  simp only [impl_BoardsBefore_ls5] at h
  split at h
  · rename_i direction0 q_out5 t326 t327 t328 t329 t3310 b11 out12
    simp only [GT.run] at h
    have hc := (cond_noneL h).1
    replace h := (cond_noneL h).2
    have hg := (and_split hc).1
    replace hc := (and_split hc).2
    obtain rfl := nbeq_nat hg
    refine ⟨F, (impl_BoardsBefore_iter5 F direction0 t326 t327 t328 t329 b11 k F t3310 out12).trans ((loopC_use (impl_BoardsBefore_s5_nat F direction0 t326 t327 t328 t329 b11) hc _).trans h)⟩
  · simp only [GT.run] at h
    cases h
noncomputable def impl_BoardsBefore_LS3 (F : Nat) : LT := (5, impl_BoardsBefore_ls5 F) :: impl_BoardsBefore_LS2 F
theorem impl_BoardsBefore_lsok3 (F : Nat) : LoopsOK Tryz.prog (impl_BoardsBefore_LS3 F) (bodyOf Tryz.f10) := loopsOK_cons impl_BoardsBefore_keys (impl_BoardsBefore_lok5 F) (impl_BoardsBefore_lsok2 F)
theorem impl_BoardsBefore_run (F : Nat) (b0 : List Int) (direction1 : Int) : runS tt (impl_BoardsBefore_tab F) (impl_BoardsBefore_LS3 F) [⟨4, 26, (.rr 16 ([] : List (List Int)))⟩] [] Tryz.f10 (bodyOf Tryz.f10) 70 [(.ints 16 b0), (.int .i64 direction1)] [] = impl_BoardsBefore_c _ F b0 direction1 (fun r => some ⟨(.tup [(.sl 0 0 r.1), (.bool r.2.1)]), [(.vec 26 (.rr 16 r.2.2))], []⟩) := by kernel_rfl
def impl_BoardsBefore_ent (F : Nat) : Ent := ⟨[], .fresh, fun args mem => match args, mem with
  | [(.ints 16 b0), (.int .i64 direction1)], [] => some ((impl_BoardsBefore_p F b0 direction1).isSome, ⟨(.tup [(.sl 0 0 ((impl_BoardsBefore_p F b0 direction1).getD default).1), (.bool ((impl_BoardsBefore_p F b0 direction1).getD default).2.1)]), [(.vec 26 (.rr 16 ((impl_BoardsBefore_p F b0 direction1).getD default).2.2))], []⟩)
  | _, _ => none⟩
theorem impl_BoardsBefore_fok : FunOK Tryz.prog 10 := funOK Tryz.func10 (by kernel_rfl) rfl
theorem impl_BoardsBefore_meets (F : Nat) : Meets Tryz.prog 10 (impl_BoardsBefore_ent F) := by
  refine meets_of_runS mixed ttok deep (impl_BoardsBefore_tabok F) Tryz.func10 (body_some rfl) (impl_BoardsBefore_lsok3 F) fun args mem hfit ret h => ?_
  clear hfit
  simp only [impl_BoardsBefore_ent] at h
  split at h
  · rename_i b0 direction1
    simp only [Option.some.injEq, Prod.mk.injEq] at h
    obtain ⟨hc, rfl⟩ := h
    exact ⟨[⟨4, 26, (.rr 16 ([] : List (List Int)))⟩], [], 70, _, (impl_BoardsBefore_run F b0 direction1).trans ((impl_BoardsBefore_cp _ F b0 direction1 _).trans (bind_use hc _)), rfl, rfl, rfl⟩
  · cases h

/-! loop.example/g01194/impl.BackStep -/
noncomputable def impl_BackStep_tab (F : Nat) : Tab := [(10, (impl_BoardsBefore_ent F)), (16, (impl_in_ent F))]
theorem impl_BackStep_tabok (F : Nat) : TabOK Tryz.prog (impl_BackStep_tab F) := (tab_cons (impl_BoardsBefore_meets F) impl_BoardsBefore_fok (tab_cons (impl_in_meets F) impl_in_fok tab_nil))
noncomputable def impl_BackStep_LS0 (F : Nat) : LT := []
theorem impl_BackStep_lsok0 (F : Nat) : LoopsOK Tryz.prog (impl_BackStep_LS0 F) (bodyOf Tryz.f7) := loopsOK_nil
theorem impl_BackStep_run (F : Nat) (b0 : List Int) (direction1 : Int) (k2 : Int) : runS tt (impl_BackStep_tab F) (impl_BackStep_LS0 F) [] [] Tryz.f7 (bodyOf Tryz.f7) 70 [(.ints 16 b0), (.int .i64 direction1), (.int .i64 k2)] [] = impl_BackStep_c _ F b0 direction1 k2 (fun r => some ⟨(.tup [(.ints 16 r.1), (.bool r.2)]), [], []⟩) := by kernel_rfl
def impl_BackStep_ent (F : Nat) : Ent := ⟨[], .quiet, fun args mem => match args, mem with
  | [(.ints 16 b0), (.int .i64 direction1), (.int .i64 k2)], [] => some ((impl_BackStep_p F b0 direction1 k2).isSome, ⟨(.tup [(.ints 16 ((impl_BackStep_p F b0 direction1 k2).getD default).1), (.bool ((impl_BackStep_p F b0 direction1 k2).getD default).2)]), [], []⟩)
  | _, _ => none⟩
theorem impl_BackStep_fok : FunOK Tryz.prog 7 := funOK Tryz.func7 (by kernel_rfl) rfl
theorem impl_BackStep_meets (F : Nat) : Meets Tryz.prog 7 (impl_BackStep_ent F) := by
  refine meets_of_runS mixed ttok deep (impl_BackStep_tabok F) Tryz.func7 (body_some rfl) (impl_BackStep_lsok0 F) fun args mem hfit ret h => ?_
  clear hfit
  simp only [impl_BackStep_ent] at h
  split at h
  · rename_i b0 direction1 k2
    simp only [Option.some.injEq, Prod.mk.injEq] at h
    obtain ⟨hc, rfl⟩ := h
    exact ⟨[], [], 70, _, (impl_BackStep_run F b0 direction1 k2).trans ((impl_BackStep_cp _ F b0 direction1 k2 _).trans (bind_use hc _)), rfl, rfl, rfl⟩
  · cases h

/-! loop.example/g01194/laws.eqIntA4 -/
noncomputable def laws_eqIntA4_tab (F : Nat) : Tab := []
theorem laws_eqIntA4_tabok (F : Nat) : TabOK Tryz.prog (laws_eqIntA4_tab F) := tab_nil
noncomputable def laws_eqIntA4_LS0 (F : Nat) : LT := []
theorem laws_eqIntA4_lsok0 (F : Nat) : LoopsOK Tryz.prog (laws_eqIntA4_LS0 F) (bodyOf Tryz.f32) := loopsOK_nil
theorem laws_eqIntA4_keys : keysOK (bodyOf Tryz.f32) = true := by kernel_rfl
def laws_eqIntA4_st2 (a7 : List Int) (b8 : List Int) (i6 : Int) : St := ⟨expand 17 0 [2, 3, 5] [(.ptr 0 0 0 4), (.ptr 1 0 0 4), (.int .i64 i6)], [(.var 4 (.ri .i64 a7)), (.var 4 (.ri .i64 b8))], 0, []⟩
def laws_eqIntA4_o2 (a7 : List Int) (b8 : List Int) (x : Bool) : GT := (.br x (.out (.ret ⟨expand 17 0 [4] [(.bool false)], [], 0, []⟩)) (.out (.exit 0 ⟨expand 17 0 [] [], [], 0, []⟩)))
def laws_eqIntA4_ls2 (F : Nat) : LoopS := ⟨17, [2, 3, 5], [], [], [], [4], [], [], fun vals mem np killed => match vals, mem, np, killed with
  | [(.ptr 0 0 0 4), (.ptr 1 0 0 4), (.int .i64 i6)], [(.var 4 (.ri .i64 a7)), (.var 4 (.ri .i64 b8))], 0, [] => .br (laws_eqIntA4_l2 F a7 b8 i6).isSome (laws_eqIntA4_o2 a7 b8 ((laws_eqIntA4_l2 F a7 b8 i6).getD default)) .fail
  | _, _, _, _ => .fail⟩
theorem laws_eqIntA4_step2 (F : Nat) (a7 : List Int) (b8 : List Int) (i6 : Int) {R : Type} (k : Out → Option R) : stepS tt (laws_eqIntA4_tab F) (laws_eqIntA4_LS0 F) 70 (laws_eqIntA4_ls2 F) (loopAt 2 (bodyOf Tryz.f32)) (laws_eqIntA4_st2 a7 b8 i6) k = laws_eqIntA4_s2 F a7 b8 R i6 (fun s => k (.norm (laws_eqIntA4_st2 a7 b8 s))) (fun x => (laws_eqIntA4_o2 a7 b8 x).run k) := by kernel_rfl
theorem laws_eqIntA4_iter2 (F : Nat) (a7 : List Int) (b8 : List Int) {R : Type} (k : Out → Option R) : ∀ (n : Nat) (i6 : Int), iterS tt (laws_eqIntA4_tab F) (laws_eqIntA4_LS0 F) 70 (laws_eqIntA4_ls2 F) (loopAt 2 (bodyOf Tryz.f32)) n (laws_eqIntA4_st2 a7 b8 i6) k = loopC (laws_eqIntA4_s2 F a7 b8) n i6 (fun x => (laws_eqIntA4_o2 a7 b8 x).run k)
  | 0, i6 => rfl
  | n + 1, i6 => (iterS_succ tt (laws_eqIntA4_tab F) (laws_eqIntA4_LS0 F) 70 (laws_eqIntA4_ls2 F) (loopAt 2 (bodyOf Tryz.f32)) n (laws_eqIntA4_st2 a7 b8 i6) k).trans ((laws_eqIntA4_step2 F a7 b8 i6 (nextK (iterS tt (laws_eqIntA4_tab F) (laws_eqIntA4_LS0 F) 70 (laws_eqIntA4_ls2 F) (loopAt 2 (bodyOf Tryz.f32)) n) k)).trans (congrArg (fun kn => laws_eqIntA4_s2 F a7 b8 R i6 kn _) (funext (fun i6 => laws_eqIntA4_iter2 F a7 b8 k n i6))))
theorem laws_eqIntA4_lok2 (F : Nat) : LoopOK Tryz.prog (loopAt 2 (bodyOf Tryz.f32)) (laws_eqIntA4_ls2 F) := by
  refine loopOK_of mixed ttok deep (laws_eqIntA4_tabok F) (loopsOK_at (laws_eqIntA4_lsok0 F) 2) (fuel := 70) fun R vals mem np killed k x h => ?_
  simp only [laws_eqIntA4_ls2] at h
  split at h
  · rename_i i6 a7 b8
    simp only [GT.run] at h
    have hc := (cond_noneL h).1
    replace h := (cond_noneL h).2
    refine ⟨F, (laws_eqIntA4_iter2 F a7 b8 k F i6).trans ((loopC_use (laws_eqIntA4_s2_nat F a7 b8) hc _).trans h)⟩
  · simp only [GT.run] at h
    cases h
noncomputable def laws_eqIntA4_LS1 (F : Nat) : LT := (2, laws_eqIntA4_ls2 F) :: laws_eqIntA4_LS0 F
theorem laws_eqIntA4_lsok1 (F : Nat) : LoopsOK Tryz.prog (laws_eqIntA4_LS1 F) (bodyOf Tryz.f32) := loopsOK_cons laws_eqIntA4_keys (laws_eqIntA4_lok2 F) (laws_eqIntA4_lsok0 F)
theorem laws_eqIntA4_run (F : Nat) (a0 : List Int) (b1 : List Int) : runS tt (laws_eqIntA4_tab F) (laws_eqIntA4_LS1 F) [] [] Tryz.f32 (bodyOf Tryz.f32) 70 [(.ints 4 a0), (.ints 4 b1)] [] = laws_eqIntA4_c _ F a0 b1 (fun r => some ⟨(.bool r), [], []⟩) := by kernel_rfl
def laws_eqIntA4_ent (F : Nat) : Ent := ⟨[], .quiet, fun args mem => match args, mem with
  | [(.ints 4 a0), (.ints 4 b1)], [] => some ((laws_eqIntA4_p F a0 b1).isSome, ⟨(.bool ((laws_eqIntA4_p F a0 b1).getD default)), [], []⟩)
  | _, _ => none⟩
theorem laws_eqIntA4_fok : FunOK Tryz.prog 32 := funOK Tryz.func32 (by kernel_rfl) rfl
theorem laws_eqIntA4_meets (F : Nat) : Meets Tryz.prog 32 (laws_eqIntA4_ent F) := by
  refine meets_of_runS mixed ttok deep (laws_eqIntA4_tabok F) Tryz.func32 (body_some rfl) (laws_eqIntA4_lsok1 F) fun args mem hfit ret h => ?_
  clear hfit
  simp only [laws_eqIntA4_ent] at h
  split at h
  · rename_i a0 b1
    simp only [Option.some.injEq, Prod.mk.injEq] at h
    obtain ⟨hc, rfl⟩ := h
    exact ⟨[], [], 70, _, (laws_eqIntA4_run F a0 b1).trans ((laws_eqIntA4_cp _ F a0 b1 _).trans (bind_use hc _)), rfl, rfl, rfl⟩
  · cases h
end Go.Proofs.YtgmnclpjbhmioaaGreat
