/-
Pure functions and what the code of them does, by program; without conditions.
-/
import Derived.Test.YtgdokdkcbgkekafGfP3
import Derived.Test.YtgdokdkcbgkekafGfS2
namespace Go.Proofs.Ytgdokdkcbgkekaf
open Go Go.Lv Go.Lv.P Go.Proofs
set_option linter.unusedVariables false
set_option linter.unusedSimpArgs false
set_option maxRecDepth 100000
/-! slices.IndexFunc[[]int,int] -/
noncomputable def slices_IndexFunc_intint_impl_Board_lasts_f1_n2_tab (F : Nat) : Tab := [(67, (impl_Board_lasts_f1_n2_ent F))]
theorem slices_IndexFunc_intint_impl_Board_lasts_f1_n2_tabok (F : Nat) : TabOK Try.prog (slices_IndexFunc_intint_impl_Board_lasts_f1_n2_tab F) := (tab_cons (impl_Board_lasts_f1_n2_meets F) impl_Board_lasts_f1_n2_fok tab_nil)
noncomputable def slices_IndexFunc_intint_impl_Board_lasts_f1_n2_LS0 (F : Nat) : LT := []
theorem slices_IndexFunc_intint_impl_Board_lasts_f1_n2_lsok0 (F : Nat) : LoopsOK Try.prog (slices_IndexFunc_intint_impl_Board_lasts_f1_n2_LS0 F) (bodyOf Try.f68) := loopsOK_nil
theorem slices_IndexFunc_intint_impl_Board_lasts_f1_n2_keys : keysOK (bodyOf Try.f68) = true := by kernel_rfl
def slices_IndexFunc_intint_impl_Board_lasts_f1_n2_st2 (s0 : List Int) (t77 : Int) (f9 : List Int) (t88 : Int) : St := ⟨expand 19 0 [0, 1, 7, 8] [(.ri .i64 s0), (.fn 67 [] [(.ptr 0 0 0 16), (.ptr 1 0 0 1)]), (.int .i64 t77), (.int .i64 t88)], [(.var 16 (.ri .i64 f9)), (.var 1 (.ri .i64 [(2 : Int)]))], 2, []⟩
def slices_IndexFunc_intint_impl_Board_lasts_f1_n2_o2 (s0 : List Int) (t77 : Int) (f9 : List Int) (x : Bool × Int) : GT := (.br x.1 (.out (.ret ⟨expand 19 0 [4] [(.int .i64 x.2)], [(.var 16 (.ri .i64 f9)), (.var 1 (.ri .i64 [(2 : Int)]))], 2, []⟩)) (.out (.exit 0 ⟨expand 19 0 [] [], [(.var 16 (.ri .i64 f9)), (.var 1 (.ri .i64 [(2 : Int)]))], 2, []⟩)))
def slices_IndexFunc_intint_impl_Board_lasts_f1_n2_ls2 (F : Nat) : LoopS := ⟨19, [0, 1, 7, 8], [], [], [], [4], [], [], fun vals mem np killed => match vals, mem, np, killed with
  | [(.ri .i64 s0), (.fn 67 [] [(.ptr 0 0 0 16), (.ptr 1 0 0 1)]), (.int .i64 t77), (.int .i64 t88)], [(.var 16 (.ri .i64 f9)), (.var 1 (.ri .i64 q_f10))], 2, [] => .br ((q_f10 == ([(2 : Int)] : List Int)) && (slices_IndexFunc_intint_impl_Board_lasts_f1_n2_l2 F s0 t77 f9 t88).isSome) (slices_IndexFunc_intint_impl_Board_lasts_f1_n2_o2 s0 t77 f9 ((slices_IndexFunc_intint_impl_Board_lasts_f1_n2_l2 F s0 t77 f9 t88).getD default)) .fail
  | _, _, _, _ => .fail⟩
theorem slices_IndexFunc_intint_impl_Board_lasts_f1_n2_step2 (F : Nat) (s0 : List Int) (t77 : Int) (f9 : List Int) (t88 : Int) {R : Type} (k : Out → Option R) : stepS tt (slices_IndexFunc_intint_impl_Board_lasts_f1_n2_tab F) (slices_IndexFunc_intint_impl_Board_lasts_f1_n2_LS0 F) 70 (slices_IndexFunc_intint_impl_Board_lasts_f1_n2_ls2 F) (loopAt 2 (bodyOf Try.f68)) (slices_IndexFunc_intint_impl_Board_lasts_f1_n2_st2 s0 t77 f9 t88) k = slices_IndexFunc_intint_impl_Board_lasts_f1_n2_s2 F s0 t77 f9 R t88 (fun s => k (.norm (slices_IndexFunc_intint_impl_Board_lasts_f1_n2_st2 s0 t77 f9 s))) (fun x => (slices_IndexFunc_intint_impl_Board_lasts_f1_n2_o2 s0 t77 f9 x).run k) := by kernel_rfl
theorem slices_IndexFunc_intint_impl_Board_lasts_f1_n2_iter2 (F : Nat) (s0 : List Int) (t77 : Int) (f9 : List Int) {R : Type} (k : Out → Option R) : ∀ (n : Nat) (t88 : Int), iterS tt (slices_IndexFunc_intint_impl_Board_lasts_f1_n2_tab F) (slices_IndexFunc_intint_impl_Board_lasts_f1_n2_LS0 F) 70 (slices_IndexFunc_intint_impl_Board_lasts_f1_n2_ls2 F) (loopAt 2 (bodyOf Try.f68)) n (slices_IndexFunc_intint_impl_Board_lasts_f1_n2_st2 s0 t77 f9 t88) k = loopC (slices_IndexFunc_intint_impl_Board_lasts_f1_n2_s2 F s0 t77 f9) n t88 (fun x => (slices_IndexFunc_intint_impl_Board_lasts_f1_n2_o2 s0 t77 f9 x).run k)
  | 0, t88 => rfl
  | n + 1, t88 => (iterS_succ tt (slices_IndexFunc_intint_impl_Board_lasts_f1_n2_tab F) (slices_IndexFunc_intint_impl_Board_lasts_f1_n2_LS0 F) 70 (slices_IndexFunc_intint_impl_Board_lasts_f1_n2_ls2 F) (loopAt 2 (bodyOf Try.f68)) n (slices_IndexFunc_intint_impl_Board_lasts_f1_n2_st2 s0 t77 f9 t88) k).trans ((slices_IndexFunc_intint_impl_Board_lasts_f1_n2_step2 F s0 t77 f9 t88 (nextK (iterS tt (slices_IndexFunc_intint_impl_Board_lasts_f1_n2_tab F) (slices_IndexFunc_intint_impl_Board_lasts_f1_n2_LS0 F) 70 (slices_IndexFunc_intint_impl_Board_lasts_f1_n2_ls2 F) (loopAt 2 (bodyOf Try.f68)) n) k)).trans (congrArg (fun kn => slices_IndexFunc_intint_impl_Board_lasts_f1_n2_s2 F s0 t77 f9 R t88 kn _) (funext (fun t88 => slices_IndexFunc_intint_impl_Board_lasts_f1_n2_iter2 F s0 t77 f9 k n t88))))
theorem slices_IndexFunc_intint_impl_Board_lasts_f1_n2_lok2 (F : Nat) : LoopOK Try.prog (loopAt 2 (bodyOf Try.f68)) (slices_IndexFunc_intint_impl_Board_lasts_f1_n2_ls2 F) := by
  refine loopOK_of mixed ttok deep (slices_IndexFunc_intint_impl_Board_lasts_f1_n2_tabok F) (loopsOK_at (slices_IndexFunc_intint_impl_Board_lasts_f1_n2_lsok0 F) 2) (fuel := 70) fun R vals mem np killed k x h => ?_
  simp only [slices_IndexFunc_intint_impl_Board_lasts_f1_n2_ls2] at h
  split at h
  · rename_i s0 t77 t88 f9 q_f10
    simp only [GT.run] at h
    have hc := (cond_noneL h).1
    replace h := (cond_noneL h).2
    have hg := (and_split hc).1
    replace hc := (and_split hc).2
    obtain rfl := beq_li hg
    refine ⟨F, (slices_IndexFunc_intint_impl_Board_lasts_f1_n2_iter2 F s0 t77 f9 k F t88).trans ((loopC_use (slices_IndexFunc_intint_impl_Board_lasts_f1_n2_s2_nat F s0 t77 f9) hc _).trans h)⟩
  · simp only [GT.run] at h
    cases h
noncomputable def slices_IndexFunc_intint_impl_Board_lasts_f1_n2_LS1 (F : Nat) : LT := (2, slices_IndexFunc_intint_impl_Board_lasts_f1_n2_ls2 F) :: slices_IndexFunc_intint_impl_Board_lasts_f1_n2_LS0 F
theorem slices_IndexFunc_intint_impl_Board_lasts_f1_n2_lsok1 (F : Nat) : LoopsOK Try.prog (slices_IndexFunc_intint_impl_Board_lasts_f1_n2_LS1 F) (bodyOf Try.f68) := loopsOK_cons slices_IndexFunc_intint_impl_Board_lasts_f1_n2_keys (slices_IndexFunc_intint_impl_Board_lasts_f1_n2_lok2 F) (slices_IndexFunc_intint_impl_Board_lasts_f1_n2_lsok0 F)
theorem slices_IndexFunc_intint_impl_Board_lasts_f1_n2_run (F : Nat) (s0 : List Int) (f7 : List Int) : runS tt (slices_IndexFunc_intint_impl_Board_lasts_f1_n2_tab F) (slices_IndexFunc_intint_impl_Board_lasts_f1_n2_LS1 F) [] [] Try.f68 (bodyOf Try.f68) 70 [(.ri .i64 s0), (.fn 67 [] [(.ptr 0 0 0 16), (.ptr 1 0 0 1)])] [(.var 16 (.ri .i64 f7)), (.var 1 (.ri .i64 [(2 : Int)]))] = slices_IndexFunc_intint_impl_Board_lasts_f1_n2_c _ F s0 f7 (fun r => some ⟨(.int .i64 r), [(.var 16 (.ri .i64 f7)), (.var 1 (.ri .i64 [(2 : Int)]))], []⟩) := by kernel_rfl
def slices_IndexFunc_intint_impl_Board_lasts_f1_n2_ent (F : Nat) : Ent := ⟨[], .quiet, fun args mem => match args, mem with
  | [(.ri .i64 s0), (.fn 67 [] [(.ptr 0 0 0 16), (.ptr 1 0 0 1)])], [(.var 16 (.ri .i64 f7)), (.var 1 (.ri .i64 q_f8))] => bif (q_f8 == ([(2 : Int)] : List Int)) then some ((slices_IndexFunc_intint_impl_Board_lasts_f1_n2_p F s0 f7).isSome, ⟨(.int .i64 ((slices_IndexFunc_intint_impl_Board_lasts_f1_n2_p F s0 f7).getD default)), [], []⟩) else none
  | _, _ => none⟩
theorem slices_IndexFunc_intint_impl_Board_lasts_f1_n2_fok : FunOK Try.prog 68 := funOK Try.func68 (by kernel_rfl) rfl
theorem slices_IndexFunc_intint_impl_Board_lasts_f1_n2_meets (F : Nat) : Meets Try.prog 68 (slices_IndexFunc_intint_impl_Board_lasts_f1_n2_ent F) := by
  refine meets_of_runS mixed ttok deep (slices_IndexFunc_intint_impl_Board_lasts_f1_n2_tabok F) Try.func68 (body_some rfl) (slices_IndexFunc_intint_impl_Board_lasts_f1_n2_lsok1 F) fun args mem hfit ret h => ?_
  clear hfit
  simp only [slices_IndexFunc_intint_impl_Board_lasts_f1_n2_ent] at h
  split at h
  · rename_i s0 f7 q_f8
    have hg0 := (cond_noneL h).1
    replace h := (cond_noneL h).2
    obtain rfl := beq_li hg0
    simp only [Option.some.injEq, Prod.mk.injEq] at h
    obtain ⟨hc, rfl⟩ := h
    exact ⟨[], [], 70, _, (slices_IndexFunc_intint_impl_Board_lasts_f1_n2_run F s0 f7).trans ((slices_IndexFunc_intint_impl_Board_lasts_f1_n2_cp _ F s0 f7 _).trans (bind_use hc _)), rfl, rfl, rfl⟩
  · cases h

/-! slices.ContainsFunc[[]int,int] -/
noncomputable def slices_ContainsFunc_intint_impl_Board_lasts_f1_n2_tab (F : Nat) : Tab := [(68, (slices_IndexFunc_intint_impl_Board_lasts_f1_n2_ent F))]
theorem slices_ContainsFunc_intint_impl_Board_lasts_f1_n2_tabok (F : Nat) : TabOK Try.prog (slices_ContainsFunc_intint_impl_Board_lasts_f1_n2_tab F) := (tab_cons (slices_IndexFunc_intint_impl_Board_lasts_f1_n2_meets F) slices_IndexFunc_intint_impl_Board_lasts_f1_n2_fok tab_nil)
noncomputable def slices_ContainsFunc_intint_impl_Board_lasts_f1_n2_LS0 (F : Nat) : LT := []
theorem slices_ContainsFunc_intint_impl_Board_lasts_f1_n2_lsok0 (F : Nat) : LoopsOK Try.prog (slices_ContainsFunc_intint_impl_Board_lasts_f1_n2_LS0 F) (bodyOf Try.f66) := loopsOK_nil
theorem slices_ContainsFunc_intint_impl_Board_lasts_f1_n2_run (F : Nat) (s0 : List Int) (f7 : List Int) : runS tt (slices_ContainsFunc_intint_impl_Board_lasts_f1_n2_tab F) (slices_ContainsFunc_intint_impl_Board_lasts_f1_n2_LS0 F) [] [] Try.f66 (bodyOf Try.f66) 70 [(.ri .i64 s0), (.fn 67 [] [(.ptr 0 0 0 16), (.ptr 1 0 0 1)])] [(.var 16 (.ri .i64 f7)), (.var 1 (.ri .i64 [(2 : Int)]))] = slices_ContainsFunc_intint_impl_Board_lasts_f1_n2_c _ F s0 f7 (fun r => some ⟨(.bool r), [(.var 16 (.ri .i64 f7)), (.var 1 (.ri .i64 [(2 : Int)]))], []⟩) := by kernel_rfl
def slices_ContainsFunc_intint_impl_Board_lasts_f1_n2_ent (F : Nat) : Ent := ⟨[], .quiet, fun args mem => match args, mem with
  | [(.ri .i64 s0), (.fn 67 [] [(.ptr 0 0 0 16), (.ptr 1 0 0 1)])], [(.var 16 (.ri .i64 f7)), (.var 1 (.ri .i64 q_f8))] => bif (q_f8 == ([(2 : Int)] : List Int)) then some ((slices_ContainsFunc_intint_impl_Board_lasts_f1_n2_p F s0 f7).isSome, ⟨(.bool ((slices_ContainsFunc_intint_impl_Board_lasts_f1_n2_p F s0 f7).getD default)), [], []⟩) else none
  | _, _ => none⟩
theorem slices_ContainsFunc_intint_impl_Board_lasts_f1_n2_fok : FunOK Try.prog 66 := funOK Try.func66 (by kernel_rfl) rfl
theorem slices_ContainsFunc_intint_impl_Board_lasts_f1_n2_meets (F : Nat) : Meets Try.prog 66 (slices_ContainsFunc_intint_impl_Board_lasts_f1_n2_ent F) := by
  refine meets_of_runS mixed ttok deep (slices_ContainsFunc_intint_impl_Board_lasts_f1_n2_tabok F) Try.func66 (body_some rfl) (slices_ContainsFunc_intint_impl_Board_lasts_f1_n2_lsok0 F) fun args mem hfit ret h => ?_
  clear hfit
  simp only [slices_ContainsFunc_intint_impl_Board_lasts_f1_n2_ent] at h
  split at h
  · rename_i s0 f7 q_f8
    have hg0 := (cond_noneL h).1
    replace h := (cond_noneL h).2
    obtain rfl := beq_li hg0
    simp only [Option.some.injEq, Prod.mk.injEq] at h
    obtain ⟨hc, rfl⟩ := h
    exact ⟨[], [], 70, _, (slices_ContainsFunc_intint_impl_Board_lasts_f1_n2_run F s0 f7).trans ((slices_ContainsFunc_intint_impl_Board_lasts_f1_n2_cp _ F s0 f7 _).trans (bind_use hc _)), rfl, rfl, rfl⟩
  · cases h

/-! (loop.example/g01194/impl.Board).lasts -/
noncomputable def impl_Board_lasts_n2_tab (F : Nat) : Tab := [(34, (impl_Board_moves_ent F)), (66, (slices_ContainsFunc_intint_impl_Board_lasts_f1_n2_ent F))]
theorem impl_Board_lasts_n2_tabok (F : Nat) : TabOK Try.prog (impl_Board_lasts_n2_tab F) := (tab_cons (impl_Board_moves_meets F) impl_Board_moves_fok (tab_cons (slices_ContainsFunc_intint_impl_Board_lasts_f1_n2_meets F) slices_ContainsFunc_intint_impl_Board_lasts_f1_n2_fok tab_nil))
noncomputable def impl_Board_lasts_n2_LS0 (F : Nat) : LT := []
theorem impl_Board_lasts_n2_lsok0 (F : Nat) : LoopsOK Try.prog (impl_Board_lasts_n2_LS0 F) (bodyOf Try.f29) := loopsOK_nil
theorem impl_Board_lasts_n2_run (F : Nat) (b0 : List Int) : runS tt (impl_Board_lasts_n2_tab F) (impl_Board_lasts_n2_LS0 F) [] [] Try.f29 (bodyOf Try.f29) 70 [(.ints 16 b0), (.int .i64 (2 : Int))] [] = impl_Board_lasts_n2_c _ F b0 (fun r => some ⟨(.bool r), [], []⟩) := by kernel_rfl
def impl_Board_lasts_n2_ent (F : Nat) : Ent := ⟨[], .quiet, fun args mem => match args, mem with
  | [(.ints 16 b0), (.int .i64 q_n1)], [] => bif (q_n1 == (2 : Int)) then some ((impl_Board_lasts_n2_p F b0).isSome, ⟨(.bool ((impl_Board_lasts_n2_p F b0).getD default)), [], []⟩) else none
  | _, _ => none⟩
theorem impl_Board_lasts_n2_fok : FunOK Try.prog 29 := funOK Try.func29 (by kernel_rfl) rfl
theorem impl_Board_lasts_n2_meets (F : Nat) : Meets Try.prog 29 (impl_Board_lasts_n2_ent F) := by
  refine meets_of_runS mixed ttok deep (impl_Board_lasts_n2_tabok F) Try.func29 (body_some rfl) (impl_Board_lasts_n2_lsok0 F) fun args mem hfit ret h => ?_
  clear hfit
  simp only [impl_Board_lasts_n2_ent] at h
  split at h
  · rename_i b0 q_n1
    have hg0 := (cond_noneL h).1
    replace h := (cond_noneL h).2
    obtain rfl := beq_int hg0
    simp only [Option.some.injEq, Prod.mk.injEq] at h
    obtain ⟨hc, rfl⟩ := h
    exact ⟨[], [], 70, _, (impl_Board_lasts_n2_run F b0).trans ((impl_Board_lasts_n2_cp _ F b0 _).trans (bind_use hc _)), rfl, rfl, rfl⟩
  · cases h

/-! (loop.example/g01194/impl.Board).refuted -/
noncomputable def impl_Board_refuted_n2_tab (F : Nat) : Tab := [(46, (impl_Board_placements_ent F)), (48, (impl_Board_placed_ent F)), (29, (impl_Board_lasts_n2_ent F))]
theorem impl_Board_refuted_n2_tabok (F : Nat) : TabOK Try.prog (impl_Board_refuted_n2_tab F) := (tab_cons (impl_Board_placements_meets F) impl_Board_placements_fok (tab_cons (impl_Board_placed_meets F) impl_Board_placed_fok (tab_cons (impl_Board_lasts_n2_meets F) impl_Board_lasts_n2_fok tab_nil)))
noncomputable def impl_Board_refuted_n2_LS0 (F : Nat) : LT := []
theorem impl_Board_refuted_n2_lsok0 (F : Nat) : LoopsOK Try.prog (impl_Board_refuted_n2_LS0 F) (bodyOf Try.f41) := loopsOK_nil
theorem impl_Board_refuted_n2_keys : keysOK (bodyOf Try.f41) = true := by kernel_rfl
def impl_Board_refuted_n2_st2 (t109 : Int) (b11 : List Int) (t913 : List (List Int)) (t1110 : Int) : St := ⟨expand 24 0 [1, 2, 4, 9, 10, 11] [(.int .i64 (2 : Int)), (.ptr 0 0 0 16), (.ptr 1 0 0 3), (.sl 2 0 (List.length t913)), (.int .i64 t109), (.int .i64 t1110)], [(.var 16 (.ri .i64 b11)), (.var 3 (.ri .i64 [(0 : Int), (0 : Int), (0 : Int)])), (.vec 40 (.rr 3 t913))], 0, []⟩
def impl_Board_refuted_n2_o2 (t109 : Int) (b11 : List Int) (t913 : List (List Int)) (x : Bool × List Int) : GT := (.br x.1 (.out (.ret ⟨expand 24 0 [4, 5] [(.ptr 0 0 0 3), (.bool true)], [(.var 3 (.ri .i64 x.2))], 0, []⟩)) (.out (.exit 0 ⟨expand 24 0 [4] [(.ptr 0 0 0 3)], [(.var 3 (.ri .i64 [(0 : Int), (0 : Int), (0 : Int)]))], 0, []⟩)))
def impl_Board_refuted_n2_ls2 (F : Nat) : LoopS := ⟨24, [1, 2, 4, 9, 10, 11], [], [4], [], [4, 5], [], [], fun vals mem np killed => match vals, mem, np, killed with
  | [(.int .i64 q_n0), (.ptr 0 0 0 16), (.ptr 1 0 0 3), (.sl 2 0 q_t98), (.int .i64 t109), (.int .i64 t1110)], [(.var 16 (.ri .i64 b11)), (.var 3 (.ri .i64 q_t412)), (.vec 40 (.rr 3 t913))], 0, [] => .br ((q_n0 == (2 : Int)) && ((q_t412 == ([(0 : Int), (0 : Int), (0 : Int)] : List Int)) && ((Nat.beq q_t98 (List.length t913)) && (impl_Board_refuted_n2_l2 F t109 b11 t913 t1110).isSome))) (impl_Board_refuted_n2_o2 t109 b11 t913 ((impl_Board_refuted_n2_l2 F t109 b11 t913 t1110).getD default)) .fail
  | _, _, _, _ => .fail⟩
theorem impl_Board_refuted_n2_step2 (F : Nat) (t109 : Int) (b11 : List Int) (t913 : List (List Int)) (t1110 : Int) {R : Type} (k : Out → Option R) : stepS tt (impl_Board_refuted_n2_tab F) (impl_Board_refuted_n2_LS0 F) 70 (impl_Board_refuted_n2_ls2 F) (loopAt 2 (bodyOf Try.f41)) (impl_Board_refuted_n2_st2 t109 b11 t913 t1110) k = impl_Board_refuted_n2_s2 F t109 b11 t913 R t1110 (fun s => k (.norm (impl_Board_refuted_n2_st2 t109 b11 t913 s))) (fun x => (impl_Board_refuted_n2_o2 t109 b11 t913 x).run k) := by kernel_rfl
theorem impl_Board_refuted_n2_iter2 (F : Nat) (t109 : Int) (b11 : List Int) (t913 : List (List Int)) {R : Type} (k : Out → Option R) : ∀ (n : Nat) (t1110 : Int), iterS tt (impl_Board_refuted_n2_tab F) (impl_Board_refuted_n2_LS0 F) 70 (impl_Board_refuted_n2_ls2 F) (loopAt 2 (bodyOf Try.f41)) n (impl_Board_refuted_n2_st2 t109 b11 t913 t1110) k = loopC (impl_Board_refuted_n2_s2 F t109 b11 t913) n t1110 (fun x => (impl_Board_refuted_n2_o2 t109 b11 t913 x).run k)
  | 0, t1110 => rfl
  | n + 1, t1110 => (iterS_succ tt (impl_Board_refuted_n2_tab F) (impl_Board_refuted_n2_LS0 F) 70 (impl_Board_refuted_n2_ls2 F) (loopAt 2 (bodyOf Try.f41)) n (impl_Board_refuted_n2_st2 t109 b11 t913 t1110) k).trans ((impl_Board_refuted_n2_step2 F t109 b11 t913 t1110 (nextK (iterS tt (impl_Board_refuted_n2_tab F) (impl_Board_refuted_n2_LS0 F) 70 (impl_Board_refuted_n2_ls2 F) (loopAt 2 (bodyOf Try.f41)) n) k)).trans (congrArg (fun kn => impl_Board_refuted_n2_s2 F t109 b11 t913 R t1110 kn _) (funext (fun t1110 => impl_Board_refuted_n2_iter2 F t109 b11 t913 k n t1110))))
theorem impl_Board_refuted_n2_lok2 (F : Nat) : LoopOK Try.prog (loopAt 2 (bodyOf Try.f41)) (impl_Board_refuted_n2_ls2 F) := by
  refine loopOK_of mixed ttok deep (impl_Board_refuted_n2_tabok F) (loopsOK_at (impl_Board_refuted_n2_lsok0 F) 2) (fuel := 70) fun R vals mem np killed k x h => ?_
  simp only [impl_Board_refuted_n2_ls2] at h
  split at h
  · rename_i q_n0 q_t98 t109 t1110 b11 q_t412 t913
    simp only [GT.run] at h
    have hc := (cond_noneL h).1
    replace h := (cond_noneL h).2
    have hg := (and_split hc).1
    replace hc := (and_split hc).2
    obtain rfl := beq_int hg
    have hg := (and_split hc).1
    replace hc := (and_split hc).2
    obtain rfl := beq_li hg
    have hg := (and_split hc).1
    replace hc := (and_split hc).2
    obtain rfl := nbeq_nat hg
    refine ⟨F, (impl_Board_refuted_n2_iter2 F t109 b11 t913 k F t1110).trans ((loopC_use (impl_Board_refuted_n2_s2_nat F t109 b11 t913) hc _).trans h)⟩
  · simp only [GT.run] at h
    cases h
noncomputable def impl_Board_refuted_n2_LS1 (F : Nat) : LT := (2, impl_Board_refuted_n2_ls2 F) :: impl_Board_refuted_n2_LS0 F
theorem impl_Board_refuted_n2_lsok1 (F : Nat) : LoopsOK Try.prog (impl_Board_refuted_n2_LS1 F) (bodyOf Try.f41) := loopsOK_cons impl_Board_refuted_n2_keys (impl_Board_refuted_n2_lok2 F) (impl_Board_refuted_n2_lsok0 F)
theorem impl_Board_refuted_n2_run (F : Nat) (b0 : List Int) : runS tt (impl_Board_refuted_n2_tab F) (impl_Board_refuted_n2_LS1 F) [] [] Try.f41 (bodyOf Try.f41) 70 [(.ints 16 b0), (.int .i64 (2 : Int))] [] = impl_Board_refuted_n2_c _ F b0 (fun r => some ⟨(.tup [(.ints 3 r.1), (.bool r.2)]), [], []⟩) := by kernel_rfl
def impl_Board_refuted_n2_ent (F : Nat) : Ent := ⟨[], .quiet, fun args mem => match args, mem with
  | [(.ints 16 b0), (.int .i64 q_n1)], [] => bif (q_n1 == (2 : Int)) then some ((impl_Board_refuted_n2_p F b0).isSome, ⟨(.tup [(.ints 3 ((impl_Board_refuted_n2_p F b0).getD default).1), (.bool ((impl_Board_refuted_n2_p F b0).getD default).2)]), [], []⟩) else none
  | _, _ => none⟩
theorem impl_Board_refuted_n2_fok : FunOK Try.prog 41 := funOK Try.func41 (by kernel_rfl) rfl
theorem impl_Board_refuted_n2_meets (F : Nat) : Meets Try.prog 41 (impl_Board_refuted_n2_ent F) := by
  refine meets_of_runS mixed ttok deep (impl_Board_refuted_n2_tabok F) Try.func41 (body_some rfl) (impl_Board_refuted_n2_lsok1 F) fun args mem hfit ret h => ?_
  clear hfit
  simp only [impl_Board_refuted_n2_ent] at h
  split at h
  · rename_i b0 q_n1
    have hg0 := (cond_noneL h).1
    replace h := (cond_noneL h).2
    obtain rfl := beq_int hg0
    simp only [Option.some.injEq, Prod.mk.injEq] at h
    obtain ⟨hc, rfl⟩ := h
    exact ⟨[], [], 70, _, (impl_Board_refuted_n2_run F b0).trans ((impl_Board_refuted_n2_cp _ F b0 _).trans (bind_use hc _)), rfl, rfl, rfl⟩
  · cases h

/-! (loop.example/g01194/impl.Board).isSafe -/
noncomputable def impl_Board_isSafe_n3_tab (F : Nat) : Tab := [(40, (impl_Board_slides_ent F)), (41, (impl_Board_refuted_n2_ent F))]
theorem impl_Board_isSafe_n3_tabok (F : Nat) : TabOK Try.prog (impl_Board_isSafe_n3_tab F) := (tab_cons (impl_Board_slides_meets F) impl_Board_slides_fok (tab_cons (impl_Board_refuted_n2_meets F) impl_Board_refuted_n2_fok tab_nil))
noncomputable def impl_Board_isSafe_n3_LS0 (F : Nat) : LT := []
theorem impl_Board_isSafe_n3_lsok0 (F : Nat) : LoopsOK Try.prog (impl_Board_isSafe_n3_LS0 F) (bodyOf Try.f36) := loopsOK_nil
theorem impl_Board_isSafe_n3_run (F : Nat) (b0 : List Int) (direction1 : Int) : runS tt (impl_Board_isSafe_n3_tab F) (impl_Board_isSafe_n3_LS0 F) [] [] Try.f36 (bodyOf Try.f36) 70 [(.ints 16 b0), (.int .i64 direction1), (.int .i64 (3 : Int))] [] = impl_Board_isSafe_n3_c _ F b0 direction1 (fun r => some ⟨(.bool r), [], []⟩) := by kernel_rfl
def impl_Board_isSafe_n3_ent (F : Nat) : Ent := ⟨[], .quiet, fun args mem => match args, mem with
  | [(.ints 16 b0), (.int .i64 direction1), (.int .i64 q_n2)], [] => bif (q_n2 == (3 : Int)) then some ((impl_Board_isSafe_n3_p F b0 direction1).isSome, ⟨(.bool ((impl_Board_isSafe_n3_p F b0 direction1).getD default)), [], []⟩) else none
  | _, _ => none⟩
theorem impl_Board_isSafe_n3_fok : FunOK Try.prog 36 := funOK Try.func36 (by kernel_rfl) rfl
theorem impl_Board_isSafe_n3_meets (F : Nat) : Meets Try.prog 36 (impl_Board_isSafe_n3_ent F) := by
  refine meets_of_runS mixed ttok deep (impl_Board_isSafe_n3_tabok F) Try.func36 (body_some rfl) (impl_Board_isSafe_n3_lsok0 F) fun args mem hfit ret h => ?_
  clear hfit
  simp only [impl_Board_isSafe_n3_ent] at h
  split at h
  · rename_i b0 direction1 q_n2
    have hg0 := (cond_noneL h).1
    replace h := (cond_noneL h).2
    obtain rfl := beq_int hg0
    simp only [Option.some.injEq, Prod.mk.injEq] at h
    obtain ⟨hc, rfl⟩ := h
    exact ⟨[], [], 70, _, (impl_Board_isSafe_n3_run F b0 direction1).trans ((impl_Board_isSafe_n3_cp _ F b0 direction1 _).trans (bind_use hc _)), rfl, rfl, rfl⟩
  · cases h

/-! (loop.example/g01194/impl.Board).lasts$1 -/
noncomputable def impl_Board_lasts_f1_n3_tab (F : Nat) : Tab := [(36, (impl_Board_isSafe_n3_ent F))]
theorem impl_Board_lasts_f1_n3_tabok (F : Nat) : TabOK Try.prog (impl_Board_lasts_f1_n3_tab F) := (tab_cons (impl_Board_isSafe_n3_meets F) impl_Board_isSafe_n3_fok tab_nil)
noncomputable def impl_Board_lasts_f1_n3_LS0 (F : Nat) : LT := []
theorem impl_Board_lasts_f1_n3_lsok0 (F : Nat) : LoopsOK Try.prog (impl_Board_lasts_f1_n3_LS0 F) (bodyOf Try.f67) := loopsOK_nil
theorem impl_Board_lasts_f1_n3_run (F : Nat) (d0 : Int) (a17 : List Int) : runS tt (impl_Board_lasts_f1_n3_tab F) (impl_Board_lasts_f1_n3_LS0 F) [] [] Try.f67 (bodyOf Try.f67) 70 [(.int .i64 d0), (.ptr 0 0 0 16), (.ptr 1 0 0 1)] [(.var 16 (.ri .i64 a17)), (.var 1 (.ri .i64 [(3 : Int)]))] = impl_Board_lasts_f1_n3_c _ F d0 a17 (fun r => some ⟨(.bool r), [(.var 16 (.ri .i64 a17)), (.var 1 (.ri .i64 [(3 : Int)]))], []⟩) := by kernel_rfl
def impl_Board_lasts_f1_n3_ent (F : Nat) : Ent := ⟨[], .quiet, fun args mem => match args, mem with
  | [(.int .i64 d0), (.ptr 0 0 0 16), (.ptr 1 0 0 1)], [(.var 16 (.ri .i64 a17)), (.var 1 (.ri .i64 q_a28))] => bif (q_a28 == ([(3 : Int)] : List Int)) then some ((impl_Board_lasts_f1_n3_p F d0 a17).isSome, ⟨(.bool ((impl_Board_lasts_f1_n3_p F d0 a17).getD default)), [], []⟩) else none
  | _, _ => none⟩
theorem impl_Board_lasts_f1_n3_fok : FunOK Try.prog 67 := funOK Try.func67 (by kernel_rfl) rfl
theorem impl_Board_lasts_f1_n3_meets (F : Nat) : Meets Try.prog 67 (impl_Board_lasts_f1_n3_ent F) := by
  refine meets_of_runS mixed ttok deep (impl_Board_lasts_f1_n3_tabok F) Try.func67 (body_some rfl) (impl_Board_lasts_f1_n3_lsok0 F) fun args mem hfit ret h => ?_
  clear hfit
  simp only [impl_Board_lasts_f1_n3_ent] at h
  split at h
  · rename_i d0 a17 q_a28
    have hg0 := (cond_noneL h).1
    replace h := (cond_noneL h).2
    obtain rfl := beq_li hg0
    simp only [Option.some.injEq, Prod.mk.injEq] at h
    obtain ⟨hc, rfl⟩ := h
    exact ⟨[], [], 70, _, (impl_Board_lasts_f1_n3_run F d0 a17).trans ((impl_Board_lasts_f1_n3_cp _ F d0 a17 _).trans (bind_use hc _)), rfl, rfl, rfl⟩
  · cases h

/-! slices.IndexFunc[[]int,int] -/
noncomputable def slices_IndexFunc_intint_impl_Board_lasts_f1_n3_tab (F : Nat) : Tab := [(67, (impl_Board_lasts_f1_n3_ent F))]
theorem slices_IndexFunc_intint_impl_Board_lasts_f1_n3_tabok (F : Nat) : TabOK Try.prog (slices_IndexFunc_intint_impl_Board_lasts_f1_n3_tab F) := (tab_cons (impl_Board_lasts_f1_n3_meets F) impl_Board_lasts_f1_n3_fok tab_nil)
noncomputable def slices_IndexFunc_intint_impl_Board_lasts_f1_n3_LS0 (F : Nat) : LT := []
theorem slices_IndexFunc_intint_impl_Board_lasts_f1_n3_lsok0 (F : Nat) : LoopsOK Try.prog (slices_IndexFunc_intint_impl_Board_lasts_f1_n3_LS0 F) (bodyOf Try.f68) := loopsOK_nil
theorem slices_IndexFunc_intint_impl_Board_lasts_f1_n3_keys : keysOK (bodyOf Try.f68) = true := by kernel_rfl
def slices_IndexFunc_intint_impl_Board_lasts_f1_n3_st2 (s0 : List Int) (t77 : Int) (f9 : List Int) (t88 : Int) : St := ⟨expand 19 0 [0, 1, 7, 8] [(.ri .i64 s0), (.fn 67 [] [(.ptr 0 0 0 16), (.ptr 1 0 0 1)]), (.int .i64 t77), (.int .i64 t88)], [(.var 16 (.ri .i64 f9)), (.var 1 (.ri .i64 [(3 : Int)]))], 2, []⟩
def slices_IndexFunc_intint_impl_Board_lasts_f1_n3_o2 (s0 : List Int) (t77 : Int) (f9 : List Int) (x : Bool × Int) : GT := (.br x.1 (.out (.ret ⟨expand 19 0 [4] [(.int .i64 x.2)], [(.var 16 (.ri .i64 f9)), (.var 1 (.ri .i64 [(3 : Int)]))], 2, []⟩)) (.out (.exit 0 ⟨expand 19 0 [] [], [(.var 16 (.ri .i64 f9)), (.var 1 (.ri .i64 [(3 : Int)]))], 2, []⟩)))
def slices_IndexFunc_intint_impl_Board_lasts_f1_n3_ls2 (F : Nat) : LoopS := ⟨19, [0, 1, 7, 8], [], [], [], [4], [], [], fun vals mem np killed => match vals, mem, np, killed with
  | [(.ri .i64 s0), (.fn 67 [] [(.ptr 0 0 0 16), (.ptr 1 0 0 1)]), (.int .i64 t77), (.int .i64 t88)], [(.var 16 (.ri .i64 f9)), (.var 1 (.ri .i64 q_f10))], 2, [] => .br ((q_f10 == ([(3 : Int)] : List Int)) && (slices_IndexFunc_intint_impl_Board_lasts_f1_n3_l2 F s0 t77 f9 t88).isSome) (slices_IndexFunc_intint_impl_Board_lasts_f1_n3_o2 s0 t77 f9 ((slices_IndexFunc_intint_impl_Board_lasts_f1_n3_l2 F s0 t77 f9 t88).getD default)) .fail
  | _, _, _, _ => .fail⟩
theorem slices_IndexFunc_intint_impl_Board_lasts_f1_n3_step2 (F : Nat) (s0 : List Int) (t77 : Int) (f9 : List Int) (t88 : Int) {R : Type} (k : Out → Option R) : stepS tt (slices_IndexFunc_intint_impl_Board_lasts_f1_n3_tab F) (slices_IndexFunc_intint_impl_Board_lasts_f1_n3_LS0 F) 70 (slices_IndexFunc_intint_impl_Board_lasts_f1_n3_ls2 F) (loopAt 2 (bodyOf Try.f68)) (slices_IndexFunc_intint_impl_Board_lasts_f1_n3_st2 s0 t77 f9 t88) k = slices_IndexFunc_intint_impl_Board_lasts_f1_n3_s2 F s0 t77 f9 R t88 (fun s => k (.norm (slices_IndexFunc_intint_impl_Board_lasts_f1_n3_st2 s0 t77 f9 s))) (fun x => (slices_IndexFunc_intint_impl_Board_lasts_f1_n3_o2 s0 t77 f9 x).run k) := by kernel_rfl
theorem slices_IndexFunc_intint_impl_Board_lasts_f1_n3_iter2 (F : Nat) (s0 : List Int) (t77 : Int) (f9 : List Int) {R : Type} (k : Out → Option R) : ∀ (n : Nat) (t88 : Int), iterS tt (slices_IndexFunc_intint_impl_Board_lasts_f1_n3_tab F) (slices_IndexFunc_intint_impl_Board_lasts_f1_n3_LS0 F) 70 (slices_IndexFunc_intint_impl_Board_lasts_f1_n3_ls2 F) (loopAt 2 (bodyOf Try.f68)) n (slices_IndexFunc_intint_impl_Board_lasts_f1_n3_st2 s0 t77 f9 t88) k = loopC (slices_IndexFunc_intint_impl_Board_lasts_f1_n3_s2 F s0 t77 f9) n t88 (fun x => (slices_IndexFunc_intint_impl_Board_lasts_f1_n3_o2 s0 t77 f9 x).run k)
  | 0, t88 => rfl
  | n + 1, t88 => (iterS_succ tt (slices_IndexFunc_intint_impl_Board_lasts_f1_n3_tab F) (slices_IndexFunc_intint_impl_Board_lasts_f1_n3_LS0 F) 70 (slices_IndexFunc_intint_impl_Board_lasts_f1_n3_ls2 F) (loopAt 2 (bodyOf Try.f68)) n (slices_IndexFunc_intint_impl_Board_lasts_f1_n3_st2 s0 t77 f9 t88) k).trans ((slices_IndexFunc_intint_impl_Board_lasts_f1_n3_step2 F s0 t77 f9 t88 (nextK (iterS tt (slices_IndexFunc_intint_impl_Board_lasts_f1_n3_tab F) (slices_IndexFunc_intint_impl_Board_lasts_f1_n3_LS0 F) 70 (slices_IndexFunc_intint_impl_Board_lasts_f1_n3_ls2 F) (loopAt 2 (bodyOf Try.f68)) n) k)).trans (congrArg (fun kn => slices_IndexFunc_intint_impl_Board_lasts_f1_n3_s2 F s0 t77 f9 R t88 kn _) (funext (fun t88 => slices_IndexFunc_intint_impl_Board_lasts_f1_n3_iter2 F s0 t77 f9 k n t88))))
theorem slices_IndexFunc_intint_impl_Board_lasts_f1_n3_lok2 (F : Nat) : LoopOK Try.prog (loopAt 2 (bodyOf Try.f68)) (slices_IndexFunc_intint_impl_Board_lasts_f1_n3_ls2 F) := by
  refine loopOK_of mixed ttok deep (slices_IndexFunc_intint_impl_Board_lasts_f1_n3_tabok F) (loopsOK_at (slices_IndexFunc_intint_impl_Board_lasts_f1_n3_lsok0 F) 2) (fuel := 70) fun R vals mem np killed k x h => ?_
  simp only [slices_IndexFunc_intint_impl_Board_lasts_f1_n3_ls2] at h
  split at h
  · rename_i s0 t77 t88 f9 q_f10
    simp only [GT.run] at h
    have hc := (cond_noneL h).1
    replace h := (cond_noneL h).2
    have hg := (and_split hc).1
    replace hc := (and_split hc).2
    obtain rfl := beq_li hg
    refine ⟨F, (slices_IndexFunc_intint_impl_Board_lasts_f1_n3_iter2 F s0 t77 f9 k F t88).trans ((loopC_use (slices_IndexFunc_intint_impl_Board_lasts_f1_n3_s2_nat F s0 t77 f9) hc _).trans h)⟩
  · simp only [GT.run] at h
    cases h
noncomputable def slices_IndexFunc_intint_impl_Board_lasts_f1_n3_LS1 (F : Nat) : LT := (2, slices_IndexFunc_intint_impl_Board_lasts_f1_n3_ls2 F) :: slices_IndexFunc_intint_impl_Board_lasts_f1_n3_LS0 F
theorem slices_IndexFunc_intint_impl_Board_lasts_f1_n3_lsok1 (F : Nat) : LoopsOK Try.prog (slices_IndexFunc_intint_impl_Board_lasts_f1_n3_LS1 F) (bodyOf Try.f68) := loopsOK_cons slices_IndexFunc_intint_impl_Board_lasts_f1_n3_keys (slices_IndexFunc_intint_impl_Board_lasts_f1_n3_lok2 F) (slices_IndexFunc_intint_impl_Board_lasts_f1_n3_lsok0 F)
theorem slices_IndexFunc_intint_impl_Board_lasts_f1_n3_run (F : Nat) (s0 : List Int) (f7 : List Int) : runS tt (slices_IndexFunc_intint_impl_Board_lasts_f1_n3_tab F) (slices_IndexFunc_intint_impl_Board_lasts_f1_n3_LS1 F) [] [] Try.f68 (bodyOf Try.f68) 70 [(.ri .i64 s0), (.fn 67 [] [(.ptr 0 0 0 16), (.ptr 1 0 0 1)])] [(.var 16 (.ri .i64 f7)), (.var 1 (.ri .i64 [(3 : Int)]))] = slices_IndexFunc_intint_impl_Board_lasts_f1_n3_c _ F s0 f7 (fun r => some ⟨(.int .i64 r), [(.var 16 (.ri .i64 f7)), (.var 1 (.ri .i64 [(3 : Int)]))], []⟩) := by kernel_rfl
def slices_IndexFunc_intint_impl_Board_lasts_f1_n3_ent (F : Nat) : Ent := ⟨[], .quiet, fun args mem => match args, mem with
  | [(.ri .i64 s0), (.fn 67 [] [(.ptr 0 0 0 16), (.ptr 1 0 0 1)])], [(.var 16 (.ri .i64 f7)), (.var 1 (.ri .i64 q_f8))] => bif (q_f8 == ([(3 : Int)] : List Int)) then some ((slices_IndexFunc_intint_impl_Board_lasts_f1_n3_p F s0 f7).isSome, ⟨(.int .i64 ((slices_IndexFunc_intint_impl_Board_lasts_f1_n3_p F s0 f7).getD default)), [], []⟩) else none
  | _, _ => none⟩
theorem slices_IndexFunc_intint_impl_Board_lasts_f1_n3_fok : FunOK Try.prog 68 := funOK Try.func68 (by kernel_rfl) rfl
theorem slices_IndexFunc_intint_impl_Board_lasts_f1_n3_meets (F : Nat) : Meets Try.prog 68 (slices_IndexFunc_intint_impl_Board_lasts_f1_n3_ent F) := by
  refine meets_of_runS mixed ttok deep (slices_IndexFunc_intint_impl_Board_lasts_f1_n3_tabok F) Try.func68 (body_some rfl) (slices_IndexFunc_intint_impl_Board_lasts_f1_n3_lsok1 F) fun args mem hfit ret h => ?_
  clear hfit
  simp only [slices_IndexFunc_intint_impl_Board_lasts_f1_n3_ent] at h
  split at h
  · rename_i s0 f7 q_f8
    have hg0 := (cond_noneL h).1
    replace h := (cond_noneL h).2
    obtain rfl := beq_li hg0
    simp only [Option.some.injEq, Prod.mk.injEq] at h
    obtain ⟨hc, rfl⟩ := h
    exact ⟨[], [], 70, _, (slices_IndexFunc_intint_impl_Board_lasts_f1_n3_run F s0 f7).trans ((slices_IndexFunc_intint_impl_Board_lasts_f1_n3_cp _ F s0 f7 _).trans (bind_use hc _)), rfl, rfl, rfl⟩
  · cases h

/-! slices.ContainsFunc[[]int,int] -/
noncomputable def slices_ContainsFunc_intint_impl_Board_lasts_f1_n3_tab (F : Nat) : Tab := [(68, (slices_IndexFunc_intint_impl_Board_lasts_f1_n3_ent F))]
theorem slices_ContainsFunc_intint_impl_Board_lasts_f1_n3_tabok (F : Nat) : TabOK Try.prog (slices_ContainsFunc_intint_impl_Board_lasts_f1_n3_tab F) := (tab_cons (slices_IndexFunc_intint_impl_Board_lasts_f1_n3_meets F) slices_IndexFunc_intint_impl_Board_lasts_f1_n3_fok tab_nil)
noncomputable def slices_ContainsFunc_intint_impl_Board_lasts_f1_n3_LS0 (F : Nat) : LT := []
theorem slices_ContainsFunc_intint_impl_Board_lasts_f1_n3_lsok0 (F : Nat) : LoopsOK Try.prog (slices_ContainsFunc_intint_impl_Board_lasts_f1_n3_LS0 F) (bodyOf Try.f66) := loopsOK_nil
theorem slices_ContainsFunc_intint_impl_Board_lasts_f1_n3_run (F : Nat) (s0 : List Int) (f7 : List Int) : runS tt (slices_ContainsFunc_intint_impl_Board_lasts_f1_n3_tab F) (slices_ContainsFunc_intint_impl_Board_lasts_f1_n3_LS0 F) [] [] Try.f66 (bodyOf Try.f66) 70 [(.ri .i64 s0), (.fn 67 [] [(.ptr 0 0 0 16), (.ptr 1 0 0 1)])] [(.var 16 (.ri .i64 f7)), (.var 1 (.ri .i64 [(3 : Int)]))] = slices_ContainsFunc_intint_impl_Board_lasts_f1_n3_c _ F s0 f7 (fun r => some ⟨(.bool r), [(.var 16 (.ri .i64 f7)), (.var 1 (.ri .i64 [(3 : Int)]))], []⟩) := by kernel_rfl
def slices_ContainsFunc_intint_impl_Board_lasts_f1_n3_ent (F : Nat) : Ent := ⟨[], .quiet, fun args mem => match args, mem with
  | [(.ri .i64 s0), (.fn 67 [] [(.ptr 0 0 0 16), (.ptr 1 0 0 1)])], [(.var 16 (.ri .i64 f7)), (.var 1 (.ri .i64 q_f8))] => bif (q_f8 == ([(3 : Int)] : List Int)) then some ((slices_ContainsFunc_intint_impl_Board_lasts_f1_n3_p F s0 f7).isSome, ⟨(.bool ((slices_ContainsFunc_intint_impl_Board_lasts_f1_n3_p F s0 f7).getD default)), [], []⟩) else none
  | _, _ => none⟩
theorem slices_ContainsFunc_intint_impl_Board_lasts_f1_n3_fok : FunOK Try.prog 66 := funOK Try.func66 (by kernel_rfl) rfl
theorem slices_ContainsFunc_intint_impl_Board_lasts_f1_n3_meets (F : Nat) : Meets Try.prog 66 (slices_ContainsFunc_intint_impl_Board_lasts_f1_n3_ent F) := by
  refine meets_of_runS mixed ttok deep (slices_ContainsFunc_intint_impl_Board_lasts_f1_n3_tabok F) Try.func66 (body_some rfl) (slices_ContainsFunc_intint_impl_Board_lasts_f1_n3_lsok0 F) fun args mem hfit ret h => ?_
  clear hfit
  simp only [slices_ContainsFunc_intint_impl_Board_lasts_f1_n3_ent] at h
  split at h
  · rename_i s0 f7 q_f8
    have hg0 := (cond_noneL h).1
    replace h := (cond_noneL h).2
    obtain rfl := beq_li hg0
    simp only [Option.some.injEq, Prod.mk.injEq] at h
    obtain ⟨hc, rfl⟩ := h
    exact ⟨[], [], 70, _, (slices_ContainsFunc_intint_impl_Board_lasts_f1_n3_run F s0 f7).trans ((slices_ContainsFunc_intint_impl_Board_lasts_f1_n3_cp _ F s0 f7 _).trans (bind_use hc _)), rfl, rfl, rfl⟩
  · cases h

/-! (loop.example/g01194/impl.Board).lasts -/
noncomputable def impl_Board_lasts_n3_tab (F : Nat) : Tab := [(34, (impl_Board_moves_ent F)), (66, (slices_ContainsFunc_intint_impl_Board_lasts_f1_n3_ent F))]
theorem impl_Board_lasts_n3_tabok (F : Nat) : TabOK Try.prog (impl_Board_lasts_n3_tab F) := (tab_cons (impl_Board_moves_meets F) impl_Board_moves_fok (tab_cons (slices_ContainsFunc_intint_impl_Board_lasts_f1_n3_meets F) slices_ContainsFunc_intint_impl_Board_lasts_f1_n3_fok tab_nil))
noncomputable def impl_Board_lasts_n3_LS0 (F : Nat) : LT := []
theorem impl_Board_lasts_n3_lsok0 (F : Nat) : LoopsOK Try.prog (impl_Board_lasts_n3_LS0 F) (bodyOf Try.f29) := loopsOK_nil
theorem impl_Board_lasts_n3_run (F : Nat) (b0 : List Int) : runS tt (impl_Board_lasts_n3_tab F) (impl_Board_lasts_n3_LS0 F) [] [] Try.f29 (bodyOf Try.f29) 70 [(.ints 16 b0), (.int .i64 (3 : Int))] [] = impl_Board_lasts_n3_c _ F b0 (fun r => some ⟨(.bool r), [], []⟩) := by kernel_rfl
def impl_Board_lasts_n3_ent (F : Nat) : Ent := ⟨[], .quiet, fun args mem => match args, mem with
  | [(.ints 16 b0), (.int .i64 q_n1)], [] => bif (q_n1 == (3 : Int)) then some ((impl_Board_lasts_n3_p F b0).isSome, ⟨(.bool ((impl_Board_lasts_n3_p F b0).getD default)), [], []⟩) else none
  | _, _ => none⟩
theorem impl_Board_lasts_n3_fok : FunOK Try.prog 29 := funOK Try.func29 (by kernel_rfl) rfl
theorem impl_Board_lasts_n3_meets (F : Nat) : Meets Try.prog 29 (impl_Board_lasts_n3_ent F) := by
  refine meets_of_runS mixed ttok deep (impl_Board_lasts_n3_tabok F) Try.func29 (body_some rfl) (impl_Board_lasts_n3_lsok0 F) fun args mem hfit ret h => ?_
  clear hfit
  simp only [impl_Board_lasts_n3_ent] at h
  split at h
  · rename_i b0 q_n1
    have hg0 := (cond_noneL h).1
    replace h := (cond_noneL h).2
    obtain rfl := beq_int hg0
    simp only [Option.some.injEq, Prod.mk.injEq] at h
    obtain ⟨hc, rfl⟩ := h
    exact ⟨[], [], 70, _, (impl_Board_lasts_n3_run F b0).trans ((impl_Board_lasts_n3_cp _ F b0 _).trans (bind_use hc _)), rfl, rfl, rfl⟩
  · cases h

/-! (loop.example/g01194/impl.Board).lasts -/
def impl_Board_lasts_ent (F : Nat) : Ent := ⟨[], .quiet, fun args mem => match args, mem with
  | [(.ints 16 b0), (.int .i64 n1)], [] => some ((impl_Board_lasts_p F b0 n1).isSome, ⟨(.bool ((impl_Board_lasts_p F b0 n1).getD default)), [], []⟩)
  | _, _ => none⟩
theorem impl_Board_lasts_fok : FunOK Try.prog 29 := funOK Try.func29 (by kernel_rfl) rfl
theorem impl_Board_lasts_meets (F : Nat) : Meets Try.prog 29 (impl_Board_lasts_ent F) := by
  intro fr w ρ mem args reals hw ha ret hg
  simp only [impl_Board_lasts_ent] at hg
  split at hg
  · rename_i b0 n1
    simp only [Option.some.injEq, Prod.mk.injEq] at hg
    obtain ⟨hc, rfl⟩ := hg
    by_cases hn0 : (n1 == (0 : Int)) = true
    · obtain rfl := beq_int hn0
      have e : impl_Board_lasts_p F b0 (0 : Int) = some true := by kernel_rfl
      have hg' : (impl_Board_lasts_n0_ent F).g [(.ints 16 b0), (.int .i64 (0 : Int))] [] = some (true, ⟨(.bool true), [], []⟩) := by kernel_rfl
      have h9 := impl_Board_lasts_n0_meets F fr w ρ _ _ reals hw ha _ hg'
      simp only [e, cond_true, Option.getD_some]
      exact h9
    · replace hn0 : (n1 == (0 : Int)) = false := by simpa using hn0
      by_cases hn1 : (n1 == (1 : Int)) = true
      · obtain rfl := beq_int hn1
        have e : impl_Board_lasts_p F b0 (1 : Int) = (bif (Option.isSome (impl_Board_lasts_n1_p F b0)) then some (Option.getD (impl_Board_lasts_n1_p F b0) default) else none) := by kernel_rfl
        have hg' : (impl_Board_lasts_n1_ent F).g [(.ints 16 b0), (.int .i64 (1 : Int))] [] = some ((Option.isSome (impl_Board_lasts_n1_p F b0)), ⟨(.bool (Option.getD (impl_Board_lasts_n1_p F b0) default)), [], []⟩) := by kernel_rfl
        rw [e] at hc
        have hC := isSome_cond hc
        rw [hC] at hg'
        have h9 := impl_Board_lasts_n1_meets F fr w ρ _ _ reals hw ha _ hg'
        simp only [e, hC, cond_true, Option.getD_some]
        exact h9
      · replace hn1 : (n1 == (1 : Int)) = false := by simpa using hn1
        by_cases hn2 : (n1 == (2 : Int)) = true
        · obtain rfl := beq_int hn2
          have e : impl_Board_lasts_p F b0 (2 : Int) = (bif (Option.isSome (impl_Board_lasts_n2_p F b0)) then some (Option.getD (impl_Board_lasts_n2_p F b0) default) else none) := by kernel_rfl
          have hg' : (impl_Board_lasts_n2_ent F).g [(.ints 16 b0), (.int .i64 (2 : Int))] [] = some ((Option.isSome (impl_Board_lasts_n2_p F b0)), ⟨(.bool (Option.getD (impl_Board_lasts_n2_p F b0) default)), [], []⟩) := by kernel_rfl
          rw [e] at hc
          have hC := isSome_cond hc
          rw [hC] at hg'
          have h9 := impl_Board_lasts_n2_meets F fr w ρ _ _ reals hw ha _ hg'
          simp only [e, hC, cond_true, Option.getD_some]
          exact h9
        · replace hn2 : (n1 == (2 : Int)) = false := by simpa using hn2
          by_cases hn3 : (n1 == (3 : Int)) = true
          · obtain rfl := beq_int hn3
            have e : impl_Board_lasts_p F b0 (3 : Int) = (bif (Option.isSome (impl_Board_lasts_n3_p F b0)) then some (Option.getD (impl_Board_lasts_n3_p F b0) default) else none) := by kernel_rfl
            have hg' : (impl_Board_lasts_n3_ent F).g [(.ints 16 b0), (.int .i64 (3 : Int))] [] = some ((Option.isSome (impl_Board_lasts_n3_p F b0)), ⟨(.bool (Option.getD (impl_Board_lasts_n3_p F b0) default)), [], []⟩) := by kernel_rfl
            rw [e] at hc
            have hC := isSome_cond hc
            rw [hC] at hg'
            have h9 := impl_Board_lasts_n3_meets F fr w ρ _ _ reals hw ha _ hg'
            simp only [e, hC, cond_true, Option.getD_some]
            exact h9
          · replace hn3 : (n1 == (3 : Int)) = false := by simpa using hn3
            exfalso
            have e : impl_Board_lasts_p F b0 n1 = none := by simp only [impl_Board_lasts_p, impl_Board_lasts_c, hn0, hn1, hn2, hn3, cond_false]
            rw [e] at hc
            cases hc
  · cases hg

/-! loop.example/g01194/impl.Lasts -/
noncomputable def impl_Lasts_tab (F : Nat) : Tab := [(27, (impl_IsBoard_ent F)), (28, (impl_in_ent F)), (29, (impl_Board_lasts_ent F))]
theorem impl_Lasts_tabok (F : Nat) : TabOK Try.prog (impl_Lasts_tab F) := (tab_cons (impl_IsBoard_meets F) impl_IsBoard_fok (tab_cons (impl_in_meets F) impl_in_fok (tab_cons (impl_Board_lasts_meets F) impl_Board_lasts_fok tab_nil)))
noncomputable def impl_Lasts_LS0 (F : Nat) : LT := []
theorem impl_Lasts_lsok0 (F : Nat) : LoopsOK Try.prog (impl_Lasts_LS0 F) (bodyOf Try.f6) := loopsOK_nil
theorem impl_Lasts_run (F : Nat) (b0 : List Int) (n1 : Int) : runS tt (impl_Lasts_tab F) (impl_Lasts_LS0 F) [] [] Try.f6 (bodyOf Try.f6) 70 [(.ints 16 b0), (.int .i64 n1)] [] = impl_Lasts_c _ F b0 n1 (fun r => some ⟨(.tup [(.bool r.1), (.bool r.2)]), [], []⟩) := by kernel_rfl
def impl_Lasts_ent (F : Nat) : Ent := ⟨[], .quiet, fun args mem => match args, mem with
  | [(.ints 16 b0), (.int .i64 n1)], [] => some ((impl_Lasts_p F b0 n1).isSome, ⟨(.tup [(.bool ((impl_Lasts_p F b0 n1).getD default).1), (.bool ((impl_Lasts_p F b0 n1).getD default).2)]), [], []⟩)
  | _, _ => none⟩
theorem impl_Lasts_fok : FunOK Try.prog 6 := funOK Try.func6 (by kernel_rfl) rfl
theorem impl_Lasts_meets (F : Nat) : Meets Try.prog 6 (impl_Lasts_ent F) := by
  refine meets_of_runS mixed ttok deep (impl_Lasts_tabok F) Try.func6 (body_some rfl) (impl_Lasts_lsok0 F) fun args mem hfit ret h => ?_
  clear hfit
  simp only [impl_Lasts_ent] at h
  split at h
  · rename_i b0 n1
    simp only [Option.some.injEq, Prod.mk.injEq] at h
    obtain ⟨hc, rfl⟩ := h
    exact ⟨[], [], 70, _, (impl_Lasts_run F b0 n1).trans ((impl_Lasts_cp _ F b0 n1 _).trans (bind_use hc _)), rfl, rfl, rfl⟩
  · cases h

/-! loop.example/g01194/spec.l1In -/
noncomputable def spec_l1In_tab (F : Nat) : Tab := []
theorem spec_l1In_tabok (F : Nat) : TabOK Try.prog (spec_l1In_tab F) := tab_nil
noncomputable def spec_l1In_LS0 (F : Nat) : LT := []
theorem spec_l1In_lsok0 (F : Nat) : LoopsOK Try.prog (spec_l1In_LS0 F) (bodyOf Try.f31) := loopsOK_nil
theorem spec_l1In_run (F : Nat) (x0 : Int) (a1 : Int) (b2 : Int) : runS tt (spec_l1In_tab F) (spec_l1In_LS0 F) [] [] Try.f31 (bodyOf Try.f31) 70 [(.int .i64 x0), (.int .i64 a1), (.int .i64 b2)] [] = spec_l1In_c _ x0 a1 b2 (fun r => some ⟨(.bool r), [], []⟩) := by kernel_rfl
def spec_l1In_ent (F : Nat) : Ent := ⟨[], .quiet, fun args mem => match args, mem with
  | [(.int .i64 x0), (.int .i64 a1), (.int .i64 b2)], [] => some (true, ⟨(.bool (spec_l1In_v x0 a1 b2)), [], []⟩)
  | _, _ => none⟩
theorem spec_l1In_fok : FunOK Try.prog 31 := funOK Try.func31 (by kernel_rfl) rfl
theorem spec_l1In_meets (F : Nat) : Meets Try.prog 31 (spec_l1In_ent F) := by
  refine meets_of_runS mixed ttok deep (spec_l1In_tabok F) Try.func31 (body_some rfl) (spec_l1In_lsok0 F) fun args mem hfit ret h => ?_
  clear hfit
  simp only [spec_l1In_ent] at h
  split at h
  · rename_i x0 a1 b2
    simp only [Option.some.injEq, Prod.mk.injEq] at h
    obtain ⟨hc, rfl⟩ := h
    exact ⟨[], [], 70, _, (spec_l1In_run F x0 a1 b2).trans (spec_l1In_cv _ x0 a1 b2 _), rfl, rfl, rfl⟩
  · cases h

/-! loop.example/g01194/spec.l2Board -/
noncomputable def spec_l2Board_tab (F : Nat) : Tab := [(31, (spec_l1In_ent F))]
theorem spec_l2Board_tabok (F : Nat) : TabOK Try.prog (spec_l2Board_tab F) := (tab_cons (spec_l1In_meets F) spec_l1In_fok tab_nil)
noncomputable def spec_l2Board_LS0 (F : Nat) : LT := []
theorem spec_l2Board_lsok0 (F : Nat) : LoopsOK Try.prog (spec_l2Board_LS0 F) (bodyOf Try.f30) := loopsOK_nil
theorem spec_l2Board_keys : keysOK (bodyOf Try.f30) = true := by kernel_rfl
def spec_l2Board_st5 (r3 : Int) (b5 : List Int) (c4 : Int) : St := ⟨expand 21 0 [1, 3, 4] [(.ptr 0 0 0 16), (.int .i64 r3), (.int .i64 c4)], [(.var 16 (.ri .i64 b5))], 0, []⟩
def spec_l2Board_o5 (r3 : Int) (b5 : List Int) (x : Bool) : GT := (.br x (.out (.ret ⟨expand 21 0 [2] [(.bool false)], [], 0, []⟩)) (.out (.exit 2 ⟨expand 21 0 [1, 3] [(.ptr 0 0 0 16), (.int .i64 r3)], [(.var 16 (.ri .i64 b5))], 0, []⟩)))
def spec_l2Board_ls5 (F : Nat) : LoopS := ⟨21, [1, 3, 4], [], [1, 3], [], [2], [], [], fun vals mem np killed => match vals, mem, np, killed with
  | [(.ptr 0 0 0 16), (.int .i64 r3), (.int .i64 c4)], [(.var 16 (.ri .i64 b5))], 0, [] => .br (spec_l2Board_l5 F r3 b5 c4).isSome (spec_l2Board_o5 r3 b5 ((spec_l2Board_l5 F r3 b5 c4).getD default)) .fail
  | _, _, _, _ => .fail⟩
theorem spec_l2Board_step5 (F : Nat) (r3 : Int) (b5 : List Int) (c4 : Int) {R : Type} (k : Out → Option R) : stepS tt (spec_l2Board_tab F) (spec_l2Board_LS0 F) 70 (spec_l2Board_ls5 F) (loopAt 5 (bodyOf Try.f30)) (spec_l2Board_st5 r3 b5 c4) k = spec_l2Board_s5 F r3 b5 R c4 (fun s => k (.norm (spec_l2Board_st5 r3 b5 s))) (fun x => (spec_l2Board_o5 r3 b5 x).run k) := by kernel_rfl
theorem spec_l2Board_iter5 (F : Nat) (r3 : Int) (b5 : List Int) {R : Type} (k : Out → Option R) : ∀ (n : Nat) (c4 : Int), iterS tt (spec_l2Board_tab F) (spec_l2Board_LS0 F) 70 (spec_l2Board_ls5 F) (loopAt 5 (bodyOf Try.f30)) n (spec_l2Board_st5 r3 b5 c4) k = loopC (spec_l2Board_s5 F r3 b5) n c4 (fun x => (spec_l2Board_o5 r3 b5 x).run k)
  | 0, c4 => rfl
  | n + 1, c4 => (iterS_succ tt (spec_l2Board_tab F) (spec_l2Board_LS0 F) 70 (spec_l2Board_ls5 F) (loopAt 5 (bodyOf Try.f30)) n (spec_l2Board_st5 r3 b5 c4) k).trans ((spec_l2Board_step5 F r3 b5 c4 (nextK (iterS tt (spec_l2Board_tab F) (spec_l2Board_LS0 F) 70 (spec_l2Board_ls5 F) (loopAt 5 (bodyOf Try.f30)) n) k)).trans (congrArg (fun kn => spec_l2Board_s5 F r3 b5 R c4 kn _) (funext (fun c4 => spec_l2Board_iter5 F r3 b5 k n c4))))
theorem spec_l2Board_lok5 (F : Nat) : LoopOK Try.prog (loopAt 5 (bodyOf Try.f30)) (spec_l2Board_ls5 F) := by
  refine loopOK_of mixed ttok deep (spec_l2Board_tabok F) (loopsOK_at (spec_l2Board_lsok0 F) 5) (fuel := 70) fun R vals mem np killed k x h => ?_
  simp only [spec_l2Board_ls5] at h
  split at h
  · rename_i r3 c4 b5
    simp only [GT.run] at h
    have hc := (cond_noneL h).1
    replace h := (cond_noneL h).2
    refine ⟨F, (spec_l2Board_iter5 F r3 b5 k F c4).trans ((loopC_use (spec_l2Board_s5_nat F r3 b5) hc _).trans h)⟩
  · simp only [GT.run] at h
    cases h
noncomputable def spec_l2Board_LS1 (F : Nat) : LT := (5, spec_l2Board_ls5 F) :: spec_l2Board_LS0 F
theorem spec_l2Board_lsok1 (F : Nat) : LoopsOK Try.prog (spec_l2Board_LS1 F) (bodyOf Try.f30) := loopsOK_cons spec_l2Board_keys (spec_l2Board_lok5 F) (spec_l2Board_lsok0 F)
def spec_l2Board_st2 (b4 : List Int) (r3 : Int) : St := ⟨expand 21 0 [1, 3] [(.ptr 0 0 0 16), (.int .i64 r3)], [(.var 16 (.ri .i64 b4))], 0, []⟩
def spec_l2Board_o2 (b4 : List Int) (x : Bool) : GT := (.br x (.out (.ret ⟨expand 21 0 [2] [(.bool false)], [], 0, []⟩)) (.out (.exit 0 ⟨expand 21 0 [] [], [], 0, []⟩)))
def spec_l2Board_ls2 (F : Nat) : LoopS := ⟨21, [1, 3], [], [], [], [2], [], [], fun vals mem np killed => match vals, mem, np, killed with
  | [(.ptr 0 0 0 16), (.int .i64 r3)], [(.var 16 (.ri .i64 b4))], 0, [] => .br (spec_l2Board_l2 F b4 r3).isSome (spec_l2Board_o2 b4 ((spec_l2Board_l2 F b4 r3).getD default)) .fail
  | _, _, _, _ => .fail⟩
theorem spec_l2Board_step2 (F : Nat) (b4 : List Int) (r3 : Int) {R : Type} (k : Out → Option R) : stepS tt (spec_l2Board_tab F) (spec_l2Board_LS1 F) 70 (spec_l2Board_ls2 F) (loopAt 2 (bodyOf Try.f30)) (spec_l2Board_st2 b4 r3) k = spec_l2Board_s2 F b4 R r3 (fun s => k (.norm (spec_l2Board_st2 b4 s))) (fun x => (spec_l2Board_o2 b4 x).run k) := by kernel_rfl
theorem spec_l2Board_iter2 (F : Nat) (b4 : List Int) {R : Type} (k : Out → Option R) : ∀ (n : Nat) (r3 : Int), iterS tt (spec_l2Board_tab F) (spec_l2Board_LS1 F) 70 (spec_l2Board_ls2 F) (loopAt 2 (bodyOf Try.f30)) n (spec_l2Board_st2 b4 r3) k = loopC (spec_l2Board_s2 F b4) n r3 (fun x => (spec_l2Board_o2 b4 x).run k)
  | 0, r3 => rfl
  | n + 1, r3 => (iterS_succ tt (spec_l2Board_tab F) (spec_l2Board_LS1 F) 70 (spec_l2Board_ls2 F) (loopAt 2 (bodyOf Try.f30)) n (spec_l2Board_st2 b4 r3) k).trans ((spec_l2Board_step2 F b4 r3 (nextK (iterS tt (spec_l2Board_tab F) (spec_l2Board_LS1 F) 70 (spec_l2Board_ls2 F) (loopAt 2 (bodyOf Try.f30)) n) k)).trans (congrArg (fun kn => spec_l2Board_s2 F b4 R r3 kn _) (funext (fun r3 => spec_l2Board_iter2 F b4 k n r3))))
theorem spec_l2Board_lok2 (F : Nat) : LoopOK Try.prog (loopAt 2 (bodyOf Try.f30)) (spec_l2Board_ls2 F) := by
  refine loopOK_of mixed ttok deep (spec_l2Board_tabok F) (loopsOK_at (spec_l2Board_lsok1 F) 2) (fuel := 70) fun R vals mem np killed k x h => ?_
  simp only [spec_l2Board_ls2] at h
  split at h
  · rename_i r3 b4
    simp only [GT.run] at h
    have hc := (cond_noneL h).1
    replace h := (cond_noneL h).2
    refine ⟨F, (spec_l2Board_iter2 F b4 k F r3).trans ((loopC_use (spec_l2Board_s2_nat F b4) hc _).trans h)⟩
  · simp only [GT.run] at h
    cases h
noncomputable def spec_l2Board_LS2 (F : Nat) : LT := (2, spec_l2Board_ls2 F) :: spec_l2Board_LS1 F
theorem spec_l2Board_lsok2 (F : Nat) : LoopsOK Try.prog (spec_l2Board_LS2 F) (bodyOf Try.f30) := loopsOK_cons spec_l2Board_keys (spec_l2Board_lok2 F) (spec_l2Board_lsok1 F)
theorem spec_l2Board_run (F : Nat) (b0 : List Int) : runS tt (spec_l2Board_tab F) (spec_l2Board_LS2 F) [] [] Try.f30 (bodyOf Try.f30) 70 [(.ints 16 b0)] [] = spec_l2Board_c _ F b0 (fun r => some ⟨(.bool r), [], []⟩) := by kernel_rfl
def spec_l2Board_ent (F : Nat) : Ent := ⟨[], .quiet, fun args mem => match args, mem with
  | [(.ints 16 b0)], [] => some ((spec_l2Board_p F b0).isSome, ⟨(.bool ((spec_l2Board_p F b0).getD default)), [], []⟩)
  | _, _ => none⟩
theorem spec_l2Board_fok : FunOK Try.prog 30 := funOK Try.func30 (by kernel_rfl) rfl
theorem spec_l2Board_meets (F : Nat) : Meets Try.prog 30 (spec_l2Board_ent F) := by
  refine meets_of_runS mixed ttok deep (spec_l2Board_tabok F) Try.func30 (body_some rfl) (spec_l2Board_lsok2 F) fun args mem hfit ret h => ?_
  clear hfit
  simp only [spec_l2Board_ent] at h
  split at h
  · rename_i b0
    simp only [Option.some.injEq, Prod.mk.injEq] at h
    obtain ⟨hc, rfl⟩ := h
    exact ⟨[], [], 70, _, (spec_l2Board_run F b0).trans ((spec_l2Board_cp _ F b0 _).trans (bind_use hc _)), rfl, rfl, rfl⟩
  · cases h

/-! loop.example/g01194/spec.l8Lasts -/
noncomputable def spec_l8Lasts_n0_tab (F : Nat) : Tab := []
theorem spec_l8Lasts_n0_tabok (F : Nat) : TabOK Try.prog (spec_l8Lasts_n0_tab F) := tab_nil
noncomputable def spec_l8Lasts_n0_LS0 (F : Nat) : LT := []
theorem spec_l8Lasts_n0_lsok0 (F : Nat) : LoopsOK Try.prog (spec_l8Lasts_n0_LS0 F) (bodyOf Try.f32) := loopsOK_nil
theorem spec_l8Lasts_n0_run (F : Nat) (b0 : List Int) : runS tt (spec_l8Lasts_n0_tab F) (spec_l8Lasts_n0_LS0 F) [] [] Try.f32 (bodyOf Try.f32) 70 [(.ints 16 b0), (.int .i64 (0 : Int))] [] = spec_l8Lasts_n0_c _ b0 (fun r => some ⟨(.bool true), [], []⟩) := by kernel_rfl
def spec_l8Lasts_n0_ent (F : Nat) : Ent := ⟨[], .quiet, fun args mem => match args, mem with
  | [(.ints 16 b0), (.int .i64 q_n1)], [] => bif (q_n1 == (0 : Int)) then some (true, ⟨(.bool true), [], []⟩) else none
  | _, _ => none⟩
theorem spec_l8Lasts_n0_fok : FunOK Try.prog 32 := funOK Try.func32 (by kernel_rfl) rfl
theorem spec_l8Lasts_n0_meets (F : Nat) : Meets Try.prog 32 (spec_l8Lasts_n0_ent F) := by
  refine meets_of_runS mixed ttok deep (spec_l8Lasts_n0_tabok F) Try.func32 (body_some rfl) (spec_l8Lasts_n0_lsok0 F) fun args mem hfit ret h => ?_
  clear hfit
  simp only [spec_l8Lasts_n0_ent] at h
  split at h
  · rename_i b0 q_n1
    have hg0 := (cond_noneL h).1
    replace h := (cond_noneL h).2
    obtain rfl := beq_int hg0
    simp only [Option.some.injEq, Prod.mk.injEq] at h
    obtain ⟨hc, rfl⟩ := h
    exact ⟨[], [], 70, _, (spec_l8Lasts_n0_run F b0).trans (spec_l8Lasts_n0_cv _ b0 _), rfl, rfl, rfl⟩
  · cases h

/-! loop.example/g01194/spec.l2Line -/
noncomputable def spec_l2Line_tab (F : Nat) : Tab := []
theorem spec_l2Line_tabok (F : Nat) : TabOK Try.prog (spec_l2Line_tab F) := tab_nil
noncomputable def spec_l2Line_LS0 (F : Nat) : LT := []
theorem spec_l2Line_lsok0 (F : Nat) : LoopsOK Try.prog (spec_l2Line_LS0 F) (bodyOf Try.f71) := loopsOK_nil
theorem spec_l2Line_keys : keysOK (bodyOf Try.f71) = true := by kernel_rfl
def spec_l2Line_st3 (d0 : Int) (i1 : Int) (k8 : Int) (out10 : List Int) : St := ⟨expand 42 0 [0, 1, 4, 5, 6] [(.int .i64 d0), (.int .i64 i1), (.ptr 0 0 0 8), (.ptr 1 0 0 8), (.int .i64 k8)], [(.var 8 (.ri .i64 [(0 : Int), (0 : Int), (0 : Int), (0 : Int), (0 : Int), (0 : Int), (0 : Int), (0 : Int)])), (.var 8 (.ri .i64 out10))], 0, []⟩
def spec_l2Line_o3 (d0 : Int) (i1 : Int) (x : List Int) : GT := (.out (.exit 0 ⟨expand 42 0 [4, 5] [(.ptr 0 0 0 8), (.ptr 1 0 0 8)], [(.var 8 (.ri .i64 [(0 : Int), (0 : Int), (0 : Int), (0 : Int), (0 : Int), (0 : Int), (0 : Int), (0 : Int)])), (.var 8 (.ri .i64 x))], 0, []⟩))
def spec_l2Line_ls3 (F : Nat) : LoopS := ⟨42, [0, 1, 4, 5, 6], [], [4, 5], [], [4], [], [], fun vals mem np killed => match vals, mem, np, killed with
  | [(.int .i64 d0), (.int .i64 i1), (.ptr 0 0 0 8), (.ptr 1 0 0 8), (.int .i64 k8)], [(.var 8 (.ri .i64 q_t49)), (.var 8 (.ri .i64 out10))], 0, [] => .br ((q_t49 == ([(0 : Int), (0 : Int), (0 : Int), (0 : Int), (0 : Int), (0 : Int), (0 : Int), (0 : Int)] : List Int)) && (spec_l2Line_l3 F d0 i1 k8 out10).isSome) (spec_l2Line_o3 d0 i1 ((spec_l2Line_l3 F d0 i1 k8 out10).getD default)) .fail
  | _, _, _, _ => .fail⟩
theorem spec_l2Line_step3 (F : Nat) (d0 : Int) (i1 : Int) (k8 : Int) (out10 : List Int) {R : Type} (k : Out → Option R) : stepS tt (spec_l2Line_tab F) (spec_l2Line_LS0 F) 70 (spec_l2Line_ls3 F) (loopAt 3 (bodyOf Try.f71)) (spec_l2Line_st3 d0 i1 k8 out10) k = spec_l2Line_s3 F d0 i1 R (k8, out10) (fun s => k (.norm (spec_l2Line_st3 d0 i1 s.1 s.2))) (fun x => (spec_l2Line_o3 d0 i1 x).run k) := by kernel_rfl
theorem spec_l2Line_iter3 (F : Nat) (d0 : Int) (i1 : Int) {R : Type} (k : Out → Option R) : ∀ (n : Nat) (k8 : Int) (out10 : List Int), iterS tt (spec_l2Line_tab F) (spec_l2Line_LS0 F) 70 (spec_l2Line_ls3 F) (loopAt 3 (bodyOf Try.f71)) n (spec_l2Line_st3 d0 i1 k8 out10) k = loopC (spec_l2Line_s3 F d0 i1) n (k8, out10) (fun x => (spec_l2Line_o3 d0 i1 x).run k)
  | 0, k8, out10 => rfl
  | n + 1, k8, out10 => (iterS_succ tt (spec_l2Line_tab F) (spec_l2Line_LS0 F) 70 (spec_l2Line_ls3 F) (loopAt 3 (bodyOf Try.f71)) n (spec_l2Line_st3 d0 i1 k8 out10) k).trans ((spec_l2Line_step3 F d0 i1 k8 out10 (nextK (iterS tt (spec_l2Line_tab F) (spec_l2Line_LS0 F) 70 (spec_l2Line_ls3 F) (loopAt 3 (bodyOf Try.f71)) n) k)).trans (congrArg (fun kn => spec_l2Line_s3 F d0 i1 R (k8, out10) kn _) (funext (fun ⟨k8, out10⟩ => spec_l2Line_iter3 F d0 i1 k n k8 out10))))
theorem spec_l2Line_lok3 (F : Nat) : LoopOK Try.prog (loopAt 3 (bodyOf Try.f71)) (spec_l2Line_ls3 F) := by
  refine loopOK_of mixed ttok deep (spec_l2Line_tabok F) (loopsOK_at (spec_l2Line_lsok0 F) 3) (fuel := 70) fun R vals mem np killed k x h => ?_
  simp only [spec_l2Line_ls3] at h
  split at h
  · rename_i d0 i1 k8 q_t49 out10
    simp only [GT.run] at h
    have hc := (cond_noneL h).1
    replace h := (cond_noneL h).2
    have hg := (and_split hc).1
    replace hc := (and_split hc).2
    obtain rfl := beq_li hg
    refine ⟨F, (spec_l2Line_iter3 F d0 i1 k F k8 out10).trans ((loopC_use (spec_l2Line_s3_nat F d0 i1) hc _).trans h)⟩
  · simp only [GT.run] at h
    cases h
noncomputable def spec_l2Line_LS1 (F : Nat) : LT := (3, spec_l2Line_ls3 F) :: spec_l2Line_LS0 F
theorem spec_l2Line_lsok1 (F : Nat) : LoopsOK Try.prog (spec_l2Line_LS1 F) (bodyOf Try.f71) := loopsOK_cons spec_l2Line_keys (spec_l2Line_lok3 F) (spec_l2Line_lsok0 F)
theorem spec_l2Line_run (F : Nat) (d0 : Int) (i1 : Int) : runS tt (spec_l2Line_tab F) (spec_l2Line_LS1 F) [] [] Try.f71 (bodyOf Try.f71) 70 [(.int .i64 d0), (.int .i64 i1)] [] = spec_l2Line_c _ F d0 i1 (fun r => some ⟨(.ints 8 r), [], []⟩) := by kernel_rfl
def spec_l2Line_ent (F : Nat) : Ent := ⟨[], .quiet, fun args mem => match args, mem with
  | [(.int .i64 d0), (.int .i64 i1)], [] => some ((spec_l2Line_p F d0 i1).isSome, ⟨(.ints 8 ((spec_l2Line_p F d0 i1).getD default)), [], []⟩)
  | _, _ => none⟩
theorem spec_l2Line_fok : FunOK Try.prog 71 := funOK Try.func71 (by kernel_rfl) rfl
theorem spec_l2Line_meets (F : Nat) : Meets Try.prog 71 (spec_l2Line_ent F) := by
  refine meets_of_runS mixed ttok deep (spec_l2Line_tabok F) Try.func71 (body_some rfl) (spec_l2Line_lsok1 F) fun args mem hfit ret h => ?_
  clear hfit
  simp only [spec_l2Line_ent] at h
  split at h
  · rename_i d0 i1
    simp only [Option.some.injEq, Prod.mk.injEq] at h
    obtain ⟨hc, rfl⟩ := h
    exact ⟨[], [], 70, _, (spec_l2Line_run F d0 i1).trans ((spec_l2Line_cp _ F d0 i1 _).trans (bind_use hc _)), rfl, rfl, rfl⟩
  · cases h

/-! loop.example/g01194/spec.l2At -/
noncomputable def spec_l2At_tab (F : Nat) : Tab := []
theorem spec_l2At_tabok (F : Nat) : TabOK Try.prog (spec_l2At_tab F) := tab_nil
noncomputable def spec_l2At_LS0 (F : Nat) : LT := []
theorem spec_l2At_lsok0 (F : Nat) : LoopsOK Try.prog (spec_l2At_LS0 F) (bodyOf Try.f87) := loopsOK_nil
theorem spec_l2At_run (F : Nat) (b0 : List Int) (cell1 : List Int) : runS tt (spec_l2At_tab F) (spec_l2At_LS0 F) [] [] Try.f87 (bodyOf Try.f87) 70 [(.ints 16 b0), (.ints 2 cell1)] [] = spec_l2At_c _ b0 cell1 (fun r => some ⟨(.int .i64 r), [], []⟩) := by kernel_rfl
def spec_l2At_ent (F : Nat) : Ent := ⟨[], .quiet, fun args mem => match args, mem with
  | [(.ints 16 b0), (.ints 2 cell1)], [] => some ((spec_l2At_p b0 cell1).isSome, ⟨(.int .i64 ((spec_l2At_p b0 cell1).getD default)), [], []⟩)
  | _, _ => none⟩
theorem spec_l2At_fok : FunOK Try.prog 87 := funOK Try.func87 (by kernel_rfl) rfl
theorem spec_l2At_meets (F : Nat) : Meets Try.prog 87 (spec_l2At_ent F) := by
  refine meets_of_runS mixed ttok deep (spec_l2At_tabok F) Try.func87 (body_some rfl) (spec_l2At_lsok0 F) fun args mem hfit ret h => ?_
  clear hfit
  simp only [spec_l2At_ent] at h
  split at h
  · rename_i b0 cell1
    simp only [Option.some.injEq, Prod.mk.injEq] at h
    obtain ⟨hc, rfl⟩ := h
    exact ⟨[], [], 70, _, (spec_l2At_run F b0 cell1).trans ((spec_l2At_cp _ b0 cell1 _).trans (bind_use hc _)), rfl, rfl, rfl⟩
  · cases h

/-! loop.example/g01194/spec.l2Numbers -/
noncomputable def spec_l2Numbers_tab (F : Nat) : Tab := [(71, (spec_l2Line_ent F)), (87, (spec_l2At_ent F))]
theorem spec_l2Numbers_tabok (F : Nat) : TabOK Try.prog (spec_l2Numbers_tab F) := (tab_cons (spec_l2Line_meets F) spec_l2Line_fok (tab_cons (spec_l2At_meets F) spec_l2At_fok tab_nil))
noncomputable def spec_l2Numbers_LS0 (F : Nat) : LT := []
theorem spec_l2Numbers_lsok0 (F : Nat) : LoopsOK Try.prog (spec_l2Numbers_LS0 F) (bodyOf Try.f70) := loopsOK_nil
theorem spec_l2Numbers_run (F : Nat) (b0 : List Int) (d1 : Int) (i2 : Int) : runS tt (spec_l2Numbers_tab F) (spec_l2Numbers_LS0 F) [] [] Try.f70 (bodyOf Try.f70) 70 [(.ints 16 b0), (.int .i64 d1), (.int .i64 i2)] [] = spec_l2Numbers_c _ F b0 d1 i2 (fun r => some ⟨(.ints 4 r), [], []⟩) := by kernel_rfl
def spec_l2Numbers_ent (F : Nat) : Ent := ⟨[], .quiet, fun args mem => match args, mem with
  | [(.ints 16 b0), (.int .i64 d1), (.int .i64 i2)], [] => some ((spec_l2Numbers_p F b0 d1 i2).isSome, ⟨(.ints 4 ((spec_l2Numbers_p F b0 d1 i2).getD default)), [], []⟩)
  | _, _ => none⟩
theorem spec_l2Numbers_fok : FunOK Try.prog 70 := funOK Try.func70 (by kernel_rfl) rfl
theorem spec_l2Numbers_meets (F : Nat) : Meets Try.prog 70 (spec_l2Numbers_ent F) := by
  refine meets_of_runS mixed ttok deep (spec_l2Numbers_tabok F) Try.func70 (body_some rfl) (spec_l2Numbers_lsok0 F) fun args mem hfit ret h => ?_
  clear hfit
  simp only [spec_l2Numbers_ent] at h
  split at h
  · rename_i b0 d1 i2
    simp only [Option.some.injEq, Prod.mk.injEq] at h
    obtain ⟨hc, rfl⟩ := h
    exact ⟨[], [], 70, _, (spec_l2Numbers_run F b0 d1 i2).trans ((spec_l2Numbers_cp _ F b0 d1 i2 _).trans (bind_use hc _)), rfl, rfl, rfl⟩
  · cases h
end Go.Proofs.Ytgdokdkcbgkekaf
