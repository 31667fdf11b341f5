/-
Pure functions and what the code of them does, by program; without conditions.
-/
import Derived.Test.YtidmlibanopfhaaTGP5
import Derived.Test.YtidmlibanopfhaaTGS4
namespace Go.Proofs.Ytidmlibanopfhaa
open Go Go.Lv Go.Lv.P Go.Proofs
set_option linter.unusedVariables false
set_option linter.unusedSimpArgs false
set_option maxRecDepth 100000
/-! slices.IndexFunc[[]int,int] -/
noncomputable def slices_IndexFunc_intint_impl_Board_lasts_f1_n2_tab (F : Nat) : Tab := [(60, (impl_Board_lasts_f1_n2_ent F))]
theorem slices_IndexFunc_intint_impl_Board_lasts_f1_n2_tabok (F : Nat) : TabOK Try.prog (slices_IndexFunc_intint_impl_Board_lasts_f1_n2_tab F) := (tab_cons (impl_Board_lasts_f1_n2_meets F) impl_Board_lasts_f1_n2_fok tab_nil)
noncomputable def slices_IndexFunc_intint_impl_Board_lasts_f1_n2_LS0 (F : Nat) : LT := []
theorem slices_IndexFunc_intint_impl_Board_lasts_f1_n2_lsok0 (F : Nat) : LoopsOK Try.prog (slices_IndexFunc_intint_impl_Board_lasts_f1_n2_LS0 F) (bodyOf Try.f72) := loopsOK_nil
theorem slices_IndexFunc_intint_impl_Board_lasts_f1_n2_keys : keysOK (bodyOf Try.f72) = true := by kernel_rfl
def slices_IndexFunc_intint_impl_Board_lasts_f1_n2_st2 (s0 : List Int) (t77 : Int) (f9 : List Int) (t88 : Int) : St := ⟨expand 19 0 [0, 1, 7, 8] [(.ri .i64 s0), (.fn 60 [] [(.ptr 0 0 0 16), (.ptr 1 0 0 1)]), (.int .i64 t77), (.int .i64 t88)], [(.var 16 (.ri .i64 f9)), (.var 1 (.ri .i64 [(2 : Int)]))], 2, []⟩
def slices_IndexFunc_intint_impl_Board_lasts_f1_n2_o2 (s0 : List Int) (t77 : Int) (f9 : List Int) (x : Bool × Int) : GT := (.br x.1 (.out (.ret ⟨expand 19 0 [4] [(.int .i64 x.2)], [(.var 16 (.ri .i64 f9)), (.var 1 (.ri .i64 [(2 : Int)]))], 2, []⟩)) (.out (.exit 0 ⟨expand 19 0 [] [], [(.var 16 (.ri .i64 f9)), (.var 1 (.ri .i64 [(2 : Int)]))], 2, []⟩)))
def slices_IndexFunc_intint_impl_Board_lasts_f1_n2_ls2 (F : Nat) : LoopS := ⟨19, [0, 1, 7, 8], [], [], [], [4], [], [], fun vals mem np killed => match vals, mem, np, killed with
  | [(.ri .i64 s0), (.fn 60 [] [(.ptr 0 0 0 16), (.ptr 1 0 0 1)]), (.int .i64 t77), (.int .i64 t88)], [(.var 16 (.ri .i64 f9)), (.var 1 (.ri .i64 q_f10))], 2, [] => .br ((q_f10 == ([(2 : Int)] : List Int)) && (slices_IndexFunc_intint_impl_Board_lasts_f1_n2_l2 F s0 t77 f9 t88).isSome) (slices_IndexFunc_intint_impl_Board_lasts_f1_n2_o2 s0 t77 f9 ((slices_IndexFunc_intint_impl_Board_lasts_f1_n2_l2 F s0 t77 f9 t88).getD default)) .fail
  | _, _, _, _ => .fail⟩
theorem slices_IndexFunc_intint_impl_Board_lasts_f1_n2_step2 (F : Nat) (s0 : List Int) (t77 : Int) (f9 : List Int) (t88 : Int) {R : Type} (k : Out → Option R) : stepS tt (slices_IndexFunc_intint_impl_Board_lasts_f1_n2_tab F) (slices_IndexFunc_intint_impl_Board_lasts_f1_n2_LS0 F) 70 (slices_IndexFunc_intint_impl_Board_lasts_f1_n2_ls2 F) (loopAt 2 (bodyOf Try.f72)) (slices_IndexFunc_intint_impl_Board_lasts_f1_n2_st2 s0 t77 f9 t88) k = slices_IndexFunc_intint_impl_Board_lasts_f1_n2_s2 F s0 t77 f9 R t88 (fun s => k (.norm (slices_IndexFunc_intint_impl_Board_lasts_f1_n2_st2 s0 t77 f9 s))) (fun x => (slices_IndexFunc_intint_impl_Board_lasts_f1_n2_o2 s0 t77 f9 x).run k) := by kernel_rfl
theorem slices_IndexFunc_intint_impl_Board_lasts_f1_n2_iter2 (F : Nat) (s0 : List Int) (t77 : Int) (f9 : List Int) {R : Type} (k : Out → Option R) : ∀ (n : Nat) (t88 : Int), iterS tt (slices_IndexFunc_intint_impl_Board_lasts_f1_n2_tab F) (slices_IndexFunc_intint_impl_Board_lasts_f1_n2_LS0 F) 70 (slices_IndexFunc_intint_impl_Board_lasts_f1_n2_ls2 F) (loopAt 2 (bodyOf Try.f72)) n (slices_IndexFunc_intint_impl_Board_lasts_f1_n2_st2 s0 t77 f9 t88) k = loopC (slices_IndexFunc_intint_impl_Board_lasts_f1_n2_s2 F s0 t77 f9) n t88 (fun x => (slices_IndexFunc_intint_impl_Board_lasts_f1_n2_o2 s0 t77 f9 x).run k)
  | 0, t88 => rfl
  | n + 1, t88 => (iterS_succ tt (slices_IndexFunc_intint_impl_Board_lasts_f1_n2_tab F) (slices_IndexFunc_intint_impl_Board_lasts_f1_n2_LS0 F) 70 (slices_IndexFunc_intint_impl_Board_lasts_f1_n2_ls2 F) (loopAt 2 (bodyOf Try.f72)) n (slices_IndexFunc_intint_impl_Board_lasts_f1_n2_st2 s0 t77 f9 t88) k).trans ((slices_IndexFunc_intint_impl_Board_lasts_f1_n2_step2 F s0 t77 f9 t88 (nextK (iterS tt (slices_IndexFunc_intint_impl_Board_lasts_f1_n2_tab F) (slices_IndexFunc_intint_impl_Board_lasts_f1_n2_LS0 F) 70 (slices_IndexFunc_intint_impl_Board_lasts_f1_n2_ls2 F) (loopAt 2 (bodyOf Try.f72)) n) k)).trans (congrArg (fun kn => slices_IndexFunc_intint_impl_Board_lasts_f1_n2_s2 F s0 t77 f9 R t88 kn _) (funext (fun t88 => slices_IndexFunc_intint_impl_Board_lasts_f1_n2_iter2 F s0 t77 f9 k n t88))))
theorem slices_IndexFunc_intint_impl_Board_lasts_f1_n2_lok2 (F : Nat) : LoopOK Try.prog (loopAt 2 (bodyOf Try.f72)) (slices_IndexFunc_intint_impl_Board_lasts_f1_n2_ls2 F) := by
  refine loopOK_of mixed ttok deep (slices_IndexFunc_intint_impl_Board_lasts_f1_n2_tabok F) (loopsOK_at (slices_IndexFunc_intint_impl_Board_lasts_f1_n2_lsok0 F) 2) (fuel := 70) fun R vals mem np killed k x h => ?_
  simp only [slices_IndexFunc_intint_impl_Board_lasts_f1_n2_ls2] at h
  split at h
  · rename_i s0 t77 t88 f9 q_f10
    simp only [GT.run] at h
    have hc := (cond_noneL h).1
    replace h := (cond_noneL h).2
    have hg := (and_split hc).1
    replace hc := (and_split hc).2
    obtain rfl := beq_li hg
    refine ⟨F, (slices_IndexFunc_intint_impl_Board_lasts_f1_n2_iter2 F s0 t77 f9 k F t88).trans ((loopC_use (slices_IndexFunc_intint_impl_Board_lasts_f1_n2_s2_nat F s0 t77 f9) hc _).trans h)⟩
  · simp only [GT.run] at h
    cases h
noncomputable def slices_IndexFunc_intint_impl_Board_lasts_f1_n2_LS1 (F : Nat) : LT := (2, slices_IndexFunc_intint_impl_Board_lasts_f1_n2_ls2 F) :: slices_IndexFunc_intint_impl_Board_lasts_f1_n2_LS0 F
theorem slices_IndexFunc_intint_impl_Board_lasts_f1_n2_lsok1 (F : Nat) : LoopsOK Try.prog (slices_IndexFunc_intint_impl_Board_lasts_f1_n2_LS1 F) (bodyOf Try.f72) := loopsOK_cons slices_IndexFunc_intint_impl_Board_lasts_f1_n2_keys (slices_IndexFunc_intint_impl_Board_lasts_f1_n2_lok2 F) (slices_IndexFunc_intint_impl_Board_lasts_f1_n2_lsok0 F)
theorem slices_IndexFunc_intint_impl_Board_lasts_f1_n2_run (F : Nat) (s0 : List Int) (f7 : List Int) : runS tt (slices_IndexFunc_intint_impl_Board_lasts_f1_n2_tab F) (slices_IndexFunc_intint_impl_Board_lasts_f1_n2_LS1 F) [] [] Try.f72 (bodyOf Try.f72) 70 [(.ri .i64 s0), (.fn 60 [] [(.ptr 0 0 0 16), (.ptr 1 0 0 1)])] [(.var 16 (.ri .i64 f7)), (.var 1 (.ri .i64 [(2 : Int)]))] = slices_IndexFunc_intint_impl_Board_lasts_f1_n2_c _ F s0 f7 (fun r => some ⟨(.int .i64 r), [(.var 16 (.ri .i64 f7)), (.var 1 (.ri .i64 [(2 : Int)]))], []⟩) := by kernel_rfl
def slices_IndexFunc_intint_impl_Board_lasts_f1_n2_ent (F : Nat) : Ent := ⟨[], .quiet, fun args mem => match args, mem with
  | [(.ri .i64 s0), (.fn 60 [] [(.ptr 0 0 0 16), (.ptr 1 0 0 1)])], [(.var 16 (.ri .i64 f7)), (.var 1 (.ri .i64 q_f8))] => bif (q_f8 == ([(2 : Int)] : List Int)) then some ((slices_IndexFunc_intint_impl_Board_lasts_f1_n2_p F s0 f7).isSome, ⟨(.int .i64 ((slices_IndexFunc_intint_impl_Board_lasts_f1_n2_p F s0 f7).getD default)), [], []⟩) else none
  | _, _ => none⟩
theorem slices_IndexFunc_intint_impl_Board_lasts_f1_n2_fok : FunOK Try.prog 72 := funOK Try.func72 (by kernel_rfl) rfl
theorem slices_IndexFunc_intint_impl_Board_lasts_f1_n2_meets (F : Nat) : Meets Try.prog 72 (slices_IndexFunc_intint_impl_Board_lasts_f1_n2_ent F) := by
  refine meets_of_runS mixed ttok deep (slices_IndexFunc_intint_impl_Board_lasts_f1_n2_tabok F) Try.func72 (body_some rfl) (slices_IndexFunc_intint_impl_Board_lasts_f1_n2_lsok1 F) fun args mem hfit ret h => ?_
  clear hfit
  simp only [slices_IndexFunc_intint_impl_Board_lasts_f1_n2_ent] at h
  split at h
  · rename_i s0 f7 q_f8
    have hg0 := (cond_noneL h).1
    replace h := (cond_noneL h).2
    obtain rfl := beq_li hg0
    simp only [Option.some.injEq, Prod.mk.injEq] at h
    obtain ⟨hc, rfl⟩ := h
    exact ⟨[], [], 70, _, (slices_IndexFunc_intint_impl_Board_lasts_f1_n2_run F s0 f7).trans ((slices_IndexFunc_intint_impl_Board_lasts_f1_n2_cp _ F s0 f7 _).trans (bind_use hc _)), rfl, rfl, rfl⟩
  · cases h

/-! slices.ContainsFunc[[]int,int] -/
noncomputable def slices_ContainsFunc_intint_impl_Board_lasts_f1_n2_tab (F : Nat) : Tab := [(72, (slices_IndexFunc_intint_impl_Board_lasts_f1_n2_ent F))]
theorem slices_ContainsFunc_intint_impl_Board_lasts_f1_n2_tabok (F : Nat) : TabOK Try.prog (slices_ContainsFunc_intint_impl_Board_lasts_f1_n2_tab F) := (tab_cons (slices_IndexFunc_intint_impl_Board_lasts_f1_n2_meets F) slices_IndexFunc_intint_impl_Board_lasts_f1_n2_fok tab_nil)
noncomputable def slices_ContainsFunc_intint_impl_Board_lasts_f1_n2_LS0 (F : Nat) : LT := []
theorem slices_ContainsFunc_intint_impl_Board_lasts_f1_n2_lsok0 (F : Nat) : LoopsOK Try.prog (slices_ContainsFunc_intint_impl_Board_lasts_f1_n2_LS0 F) (bodyOf Try.f59) := loopsOK_nil
theorem slices_ContainsFunc_intint_impl_Board_lasts_f1_n2_run (F : Nat) (s0 : List Int) (f7 : List Int) : runS tt (slices_ContainsFunc_intint_impl_Board_lasts_f1_n2_tab F) (slices_ContainsFunc_intint_impl_Board_lasts_f1_n2_LS0 F) [] [] Try.f59 (bodyOf Try.f59) 70 [(.ri .i64 s0), (.fn 60 [] [(.ptr 0 0 0 16), (.ptr 1 0 0 1)])] [(.var 16 (.ri .i64 f7)), (.var 1 (.ri .i64 [(2 : Int)]))] = slices_ContainsFunc_intint_impl_Board_lasts_f1_n2_c _ F s0 f7 (fun r => some ⟨(.bool r), [(.var 16 (.ri .i64 f7)), (.var 1 (.ri .i64 [(2 : Int)]))], []⟩) := by kernel_rfl
def slices_ContainsFunc_intint_impl_Board_lasts_f1_n2_ent (F : Nat) : Ent := ⟨[], .quiet, fun args mem => match args, mem with
  | [(.ri .i64 s0), (.fn 60 [] [(.ptr 0 0 0 16), (.ptr 1 0 0 1)])], [(.var 16 (.ri .i64 f7)), (.var 1 (.ri .i64 q_f8))] => bif (q_f8 == ([(2 : Int)] : List Int)) then some ((slices_ContainsFunc_intint_impl_Board_lasts_f1_n2_p F s0 f7).isSome, ⟨(.bool ((slices_ContainsFunc_intint_impl_Board_lasts_f1_n2_p F s0 f7).getD default)), [], []⟩) else none
  | _, _ => none⟩
theorem slices_ContainsFunc_intint_impl_Board_lasts_f1_n2_fok : FunOK Try.prog 59 := funOK Try.func59 (by kernel_rfl) rfl
theorem slices_ContainsFunc_intint_impl_Board_lasts_f1_n2_meets (F : Nat) : Meets Try.prog 59 (slices_ContainsFunc_intint_impl_Board_lasts_f1_n2_ent F) := by
  refine meets_of_runS mixed ttok deep (slices_ContainsFunc_intint_impl_Board_lasts_f1_n2_tabok F) Try.func59 (body_some rfl) (slices_ContainsFunc_intint_impl_Board_lasts_f1_n2_lsok0 F) fun args mem hfit ret h => ?_
  clear hfit
  simp only [slices_ContainsFunc_intint_impl_Board_lasts_f1_n2_ent] at h
  split at h
  · rename_i s0 f7 q_f8
    have hg0 := (cond_noneL h).1
    replace h := (cond_noneL h).2
    obtain rfl := beq_li hg0
    simp only [Option.some.injEq, Prod.mk.injEq] at h
    obtain ⟨hc, rfl⟩ := h
    exact ⟨[], [], 70, _, (slices_ContainsFunc_intint_impl_Board_lasts_f1_n2_run F s0 f7).trans ((slices_ContainsFunc_intint_impl_Board_lasts_f1_n2_cp _ F s0 f7 _).trans (bind_use hc _)), rfl, rfl, rfl⟩
  · cases h

/-! (loop.example/g01194/impl.Board).lasts -/
noncomputable def impl_Board_lasts_n2_tab (F : Nat) : Tab := [(39, (impl_Board_moves_ent F)), (59, (slices_ContainsFunc_intint_impl_Board_lasts_f1_n2_ent F))]
theorem impl_Board_lasts_n2_tabok (F : Nat) : TabOK Try.prog (impl_Board_lasts_n2_tab F) := (tab_cons (impl_Board_moves_meets F) impl_Board_moves_fok (tab_cons (slices_ContainsFunc_intint_impl_Board_lasts_f1_n2_meets F) slices_ContainsFunc_intint_impl_Board_lasts_f1_n2_fok tab_nil))
noncomputable def impl_Board_lasts_n2_LS0 (F : Nat) : LT := []
theorem impl_Board_lasts_n2_lsok0 (F : Nat) : LoopsOK Try.prog (impl_Board_lasts_n2_LS0 F) (bodyOf Try.f37) := loopsOK_nil
theorem impl_Board_lasts_n2_run (F : Nat) (b0 : List Int) : runS tt (impl_Board_lasts_n2_tab F) (impl_Board_lasts_n2_LS0 F) [] [] Try.f37 (bodyOf Try.f37) 70 [(.ints 16 b0), (.int .i64 (2 : Int))] [] = impl_Board_lasts_n2_c _ F b0 (fun r => some ⟨(.bool r), [], []⟩) := by kernel_rfl
def impl_Board_lasts_n2_ent (F : Nat) : Ent := ⟨[], .quiet, fun args mem => match args, mem with
  | [(.ints 16 b0), (.int .i64 q_n1)], [] => bif (q_n1 == (2 : Int)) then some ((impl_Board_lasts_n2_p F b0).isSome, ⟨(.bool ((impl_Board_lasts_n2_p F b0).getD default)), [], []⟩) else none
  | _, _ => none⟩
theorem impl_Board_lasts_n2_fok : FunOK Try.prog 37 := funOK Try.func37 (by kernel_rfl) rfl
theorem impl_Board_lasts_n2_meets (F : Nat) : Meets Try.prog 37 (impl_Board_lasts_n2_ent F) := by
  refine meets_of_runS mixed ttok deep (impl_Board_lasts_n2_tabok F) Try.func37 (body_some rfl) (impl_Board_lasts_n2_lsok0 F) fun args mem hfit ret h => ?_
  clear hfit
  simp only [impl_Board_lasts_n2_ent] at h
  split at h
  · rename_i b0 q_n1
    have hg0 := (cond_noneL h).1
    replace h := (cond_noneL h).2
    obtain rfl := beq_int hg0
    simp only [Option.some.injEq, Prod.mk.injEq] at h
    obtain ⟨hc, rfl⟩ := h
    exact ⟨[], [], 70, _, (impl_Board_lasts_n2_run F b0).trans ((impl_Board_lasts_n2_cp _ F b0 _).trans (bind_use hc _)), rfl, rfl, rfl⟩
  · cases h

/-! (loop.example/g01194/impl.Board).refuted -/
noncomputable def impl_Board_refuted_n2_tab (F : Nat) : Tab := [(70, (impl_Board_placements_ent F)), (71, (impl_Board_placed_ent F)), (37, (impl_Board_lasts_n2_ent F))]
theorem impl_Board_refuted_n2_tabok (F : Nat) : TabOK Try.prog (impl_Board_refuted_n2_tab F) := (tab_cons (impl_Board_placements_meets F) impl_Board_placements_fok (tab_cons (impl_Board_placed_meets F) impl_Board_placed_fok (tab_cons (impl_Board_lasts_n2_meets F) impl_Board_lasts_n2_fok tab_nil)))
noncomputable def impl_Board_refuted_n2_LS0 (F : Nat) : LT := []
theorem impl_Board_refuted_n2_lsok0 (F : Nat) : LoopsOK Try.prog (impl_Board_refuted_n2_LS0 F) (bodyOf Try.f46) := loopsOK_nil
theorem impl_Board_refuted_n2_keys : keysOK (bodyOf Try.f46) = true := by kernel_rfl
def impl_Board_refuted_n2_st2 (t109 : Int) (b11 : List Int) (t913 : List (List Int)) (t1110 : Int) : St := ⟨expand 24 0 [1, 2, 4, 9, 10, 11] [(.int .i64 (2 : Int)), (.ptr 0 0 0 16), (.ptr 1 0 0 3), (.sl 2 0 (List.length t913)), (.int .i64 t109), (.int .i64 t1110)], [(.var 16 (.ri .i64 b11)), (.var 3 (.ri .i64 [(0 : Int), (0 : Int), (0 : Int)])), (.vec 35 (.rr 3 t913))], 0, []⟩
def impl_Board_refuted_n2_o2 (t109 : Int) (b11 : List Int) (t913 : List (List Int)) (x : Bool × List Int) : GT := (.br x.1 (.out (.ret ⟨expand 24 0 [4, 5] [(.ptr 0 0 0 3), (.bool true)], [(.var 3 (.ri .i64 x.2))], 0, []⟩)) (.out (.exit 0 ⟨expand 24 0 [4] [(.ptr 0 0 0 3)], [(.var 3 (.ri .i64 [(0 : Int), (0 : Int), (0 : Int)]))], 0, []⟩)))
def impl_Board_refuted_n2_ls2 (F : Nat) : LoopS := ⟨24, [1, 2, 4, 9, 10, 11], [], [4], [], [4, 5], [], [], fun vals mem np killed => match vals, mem, np, killed with
  | [(.int .i64 q_n0), (.ptr 0 0 0 16), (.ptr 1 0 0 3), (.sl 2 0 q_t98), (.int .i64 t109), (.int .i64 t1110)], [(.var 16 (.ri .i64 b11)), (.var 3 (.ri .i64 q_t412)), (.vec 35 (.rr 3 t913))], 0, [] => .br ((q_n0 == (2 : Int)) && ((q_t412 == ([(0 : Int), (0 : Int), (0 : Int)] : List Int)) && ((Nat.beq q_t98 (List.length t913)) && (impl_Board_refuted_n2_l2 F t109 b11 t913 t1110).isSome))) (impl_Board_refuted_n2_o2 t109 b11 t913 ((impl_Board_refuted_n2_l2 F t109 b11 t913 t1110).getD default)) .fail
  | _, _, _, _ => .fail⟩
theorem impl_Board_refuted_n2_step2 (F : Nat) (t109 : Int) (b11 : List Int) (t913 : List (List Int)) (t1110 : Int) {R : Type} (k : Out → Option R) : stepS tt (impl_Board_refuted_n2_tab F) (impl_Board_refuted_n2_LS0 F) 70 (impl_Board_refuted_n2_ls2 F) (loopAt 2 (bodyOf Try.f46)) (impl_Board_refuted_n2_st2 t109 b11 t913 t1110) k = impl_Board_refuted_n2_s2 F t109 b11 t913 R t1110 (fun s => k (.norm (impl_Board_refuted_n2_st2 t109 b11 t913 s))) (fun x => (impl_Board_refuted_n2_o2 t109 b11 t913 x).run k) := by kernel_rfl
theorem impl_Board_refuted_n2_iter2 (F : Nat) (t109 : Int) (b11 : List Int) (t913 : List (List Int)) {R : Type} (k : Out → Option R) : ∀ (n : Nat) (t1110 : Int), iterS tt (impl_Board_refuted_n2_tab F) (impl_Board_refuted_n2_LS0 F) 70 (impl_Board_refuted_n2_ls2 F) (loopAt 2 (bodyOf Try.f46)) n (impl_Board_refuted_n2_st2 t109 b11 t913 t1110) k = loopC (impl_Board_refuted_n2_s2 F t109 b11 t913) n t1110 (fun x => (impl_Board_refuted_n2_o2 t109 b11 t913 x).run k)
  | 0, t1110 => rfl
  | n + 1, t1110 => (iterS_succ tt (impl_Board_refuted_n2_tab F) (impl_Board_refuted_n2_LS0 F) 70 (impl_Board_refuted_n2_ls2 F) (loopAt 2 (bodyOf Try.f46)) n (impl_Board_refuted_n2_st2 t109 b11 t913 t1110) k).trans ((impl_Board_refuted_n2_step2 F t109 b11 t913 t1110 (nextK (iterS tt (impl_Board_refuted_n2_tab F) (impl_Board_refuted_n2_LS0 F) 70 (impl_Board_refuted_n2_ls2 F) (loopAt 2 (bodyOf Try.f46)) n) k)).trans (congrArg (fun kn => impl_Board_refuted_n2_s2 F t109 b11 t913 R t1110 kn _) (funext (fun t1110 => impl_Board_refuted_n2_iter2 F t109 b11 t913 k n t1110))))
theorem impl_Board_refuted_n2_lok2 (F : Nat) : LoopOK Try.prog (loopAt 2 (bodyOf Try.f46)) (impl_Board_refuted_n2_ls2 F) := by
  refine loopOK_of mixed ttok deep (impl_Board_refuted_n2_tabok F) (loopsOK_at (impl_Board_refuted_n2_lsok0 F) 2) (fuel := 70) fun R vals mem np killed k x h => ?_
  simp only [impl_Board_refuted_n2_ls2] at h
  split at h
  · rename_i q_n0 q_t98 t109 t1110 b11 q_t412 t913
    simp only [GT.run] at h
    have hc := (cond_noneL h).1
    replace h := (cond_noneL h).2
    have hg := (and_split hc).1
    replace hc := (and_split hc).2
    obtain rfl := beq_int hg
    have hg := (and_split hc).1
    replace hc := (and_split hc).2
    obtain rfl := beq_li hg
    have hg := (and_split hc).1
    replace hc := (and_split hc).2
    obtain rfl := nbeq_nat hg
    refine ⟨F, (impl_Board_refuted_n2_iter2 F t109 b11 t913 k F t1110).trans ((loopC_use (impl_Board_refuted_n2_s2_nat F t109 b11 t913) hc _).trans h)⟩
  · simp only [GT.run] at h
    cases h
noncomputable def impl_Board_refuted_n2_LS1 (F : Nat) : LT := (2, impl_Board_refuted_n2_ls2 F) :: impl_Board_refuted_n2_LS0 F
theorem impl_Board_refuted_n2_lsok1 (F : Nat) : LoopsOK Try.prog (impl_Board_refuted_n2_LS1 F) (bodyOf Try.f46) := loopsOK_cons impl_Board_refuted_n2_keys (impl_Board_refuted_n2_lok2 F) (impl_Board_refuted_n2_lsok0 F)
theorem impl_Board_refuted_n2_run (F : Nat) (b0 : List Int) : runS tt (impl_Board_refuted_n2_tab F) (impl_Board_refuted_n2_LS1 F) [] [] Try.f46 (bodyOf Try.f46) 70 [(.ints 16 b0), (.int .i64 (2 : Int))] [] = impl_Board_refuted_n2_c _ F b0 (fun r => some ⟨(.tup [(.ints 3 r.1), (.bool r.2)]), [], []⟩) := by kernel_rfl
def impl_Board_refuted_n2_ent (F : Nat) : Ent := ⟨[], .quiet, fun args mem => match args, mem with
  | [(.ints 16 b0), (.int .i64 q_n1)], [] => bif (q_n1 == (2 : Int)) then some ((impl_Board_refuted_n2_p F b0).isSome, ⟨(.tup [(.ints 3 ((impl_Board_refuted_n2_p F b0).getD default).1), (.bool ((impl_Board_refuted_n2_p F b0).getD default).2)]), [], []⟩) else none
  | _, _ => none⟩
theorem impl_Board_refuted_n2_fok : FunOK Try.prog 46 := funOK Try.func46 (by kernel_rfl) rfl
theorem impl_Board_refuted_n2_meets (F : Nat) : Meets Try.prog 46 (impl_Board_refuted_n2_ent F) := by
  refine meets_of_runS mixed ttok deep (impl_Board_refuted_n2_tabok F) Try.func46 (body_some rfl) (impl_Board_refuted_n2_lsok1 F) fun args mem hfit ret h => ?_
  clear hfit
  simp only [impl_Board_refuted_n2_ent] at h
  split at h
  · rename_i b0 q_n1
    have hg0 := (cond_noneL h).1
    replace h := (cond_noneL h).2
    obtain rfl := beq_int hg0
    simp only [Option.some.injEq, Prod.mk.injEq] at h
    obtain ⟨hc, rfl⟩ := h
    exact ⟨[], [], 70, _, (impl_Board_refuted_n2_run F b0).trans ((impl_Board_refuted_n2_cp _ F b0 _).trans (bind_use hc _)), rfl, rfl, rfl⟩
  · cases h

/-! (loop.example/g01194/impl.Board).isSafe -/
noncomputable def impl_Board_isSafe_n3_tab (F : Nat) : Tab := [(45, (impl_Board_slides_ent F)), (46, (impl_Board_refuted_n2_ent F))]
theorem impl_Board_isSafe_n3_tabok (F : Nat) : TabOK Try.prog (impl_Board_isSafe_n3_tab F) := (tab_cons (impl_Board_slides_meets F) impl_Board_slides_fok (tab_cons (impl_Board_refuted_n2_meets F) impl_Board_refuted_n2_fok tab_nil))
noncomputable def impl_Board_isSafe_n3_LS0 (F : Nat) : LT := []
theorem impl_Board_isSafe_n3_lsok0 (F : Nat) : LoopsOK Try.prog (impl_Board_isSafe_n3_LS0 F) (bodyOf Try.f53) := loopsOK_nil
theorem impl_Board_isSafe_n3_run (F : Nat) (b0 : List Int) (direction1 : Int) : runS tt (impl_Board_isSafe_n3_tab F) (impl_Board_isSafe_n3_LS0 F) [] [] Try.f53 (bodyOf Try.f53) 70 [(.ints 16 b0), (.int .i64 direction1), (.int .i64 (3 : Int))] [] = impl_Board_isSafe_n3_c _ F b0 direction1 (fun r => some ⟨(.bool r), [], []⟩) := by kernel_rfl
def impl_Board_isSafe_n3_ent (F : Nat) : Ent := ⟨[], .quiet, fun args mem => match args, mem with
  | [(.ints 16 b0), (.int .i64 direction1), (.int .i64 q_n2)], [] => bif (q_n2 == (3 : Int)) then some ((impl_Board_isSafe_n3_p F b0 direction1).isSome, ⟨(.bool ((impl_Board_isSafe_n3_p F b0 direction1).getD default)), [], []⟩) else none
  | _, _ => none⟩
theorem impl_Board_isSafe_n3_fok : FunOK Try.prog 53 := funOK Try.func53 (by kernel_rfl) rfl
theorem impl_Board_isSafe_n3_meets (F : Nat) : Meets Try.prog 53 (impl_Board_isSafe_n3_ent F) := by
  refine meets_of_runS mixed ttok deep (impl_Board_isSafe_n3_tabok F) Try.func53 (body_some rfl) (impl_Board_isSafe_n3_lsok0 F) fun args mem hfit ret h => ?_
  clear hfit
  simp only [impl_Board_isSafe_n3_ent] at h
  split at h
  · rename_i b0 direction1 q_n2
    have hg0 := (cond_noneL h).1
    replace h := (cond_noneL h).2
    obtain rfl := beq_int hg0
    simp only [Option.some.injEq, Prod.mk.injEq] at h
    obtain ⟨hc, rfl⟩ := h
    exact ⟨[], [], 70, _, (impl_Board_isSafe_n3_run F b0 direction1).trans ((impl_Board_isSafe_n3_cp _ F b0 direction1 _).trans (bind_use hc _)), rfl, rfl, rfl⟩
  · cases h

/-! (loop.example/g01194/impl.Board).lasts$1 -/
noncomputable def impl_Board_lasts_f1_n3_tab (F : Nat) : Tab := [(53, (impl_Board_isSafe_n3_ent F))]
theorem impl_Board_lasts_f1_n3_tabok (F : Nat) : TabOK Try.prog (impl_Board_lasts_f1_n3_tab F) := (tab_cons (impl_Board_isSafe_n3_meets F) impl_Board_isSafe_n3_fok tab_nil)
noncomputable def impl_Board_lasts_f1_n3_LS0 (F : Nat) : LT := []
theorem impl_Board_lasts_f1_n3_lsok0 (F : Nat) : LoopsOK Try.prog (impl_Board_lasts_f1_n3_LS0 F) (bodyOf Try.f60) := loopsOK_nil
theorem impl_Board_lasts_f1_n3_run (F : Nat) (d0 : Int) (a17 : List Int) : runS tt (impl_Board_lasts_f1_n3_tab F) (impl_Board_lasts_f1_n3_LS0 F) [] [] Try.f60 (bodyOf Try.f60) 70 [(.int .i64 d0), (.ptr 0 0 0 16), (.ptr 1 0 0 1)] [(.var 16 (.ri .i64 a17)), (.var 1 (.ri .i64 [(3 : Int)]))] = impl_Board_lasts_f1_n3_c _ F d0 a17 (fun r => some ⟨(.bool r), [(.var 16 (.ri .i64 a17)), (.var 1 (.ri .i64 [(3 : Int)]))], []⟩) := by kernel_rfl
def impl_Board_lasts_f1_n3_ent (F : Nat) : Ent := ⟨[], .quiet, fun args mem => match args, mem with
  | [(.int .i64 d0), (.ptr 0 0 0 16), (.ptr 1 0 0 1)], [(.var 16 (.ri .i64 a17)), (.var 1 (.ri .i64 q_a28))] => bif (q_a28 == ([(3 : Int)] : List Int)) then some ((impl_Board_lasts_f1_n3_p F d0 a17).isSome, ⟨(.bool ((impl_Board_lasts_f1_n3_p F d0 a17).getD default)), [], []⟩) else none
  | _, _ => none⟩
theorem impl_Board_lasts_f1_n3_fok : FunOK Try.prog 60 := funOK Try.func60 (by kernel_rfl) rfl
theorem impl_Board_lasts_f1_n3_meets (F : Nat) : Meets Try.prog 60 (impl_Board_lasts_f1_n3_ent F) := by
  refine meets_of_runS mixed ttok deep (impl_Board_lasts_f1_n3_tabok F) Try.func60 (body_some rfl) (impl_Board_lasts_f1_n3_lsok0 F) fun args mem hfit ret h => ?_
  clear hfit
  simp only [impl_Board_lasts_f1_n3_ent] at h
  split at h
  · rename_i d0 a17 q_a28
    have hg0 := (cond_noneL h).1
    replace h := (cond_noneL h).2
    obtain rfl := beq_li hg0
    simp only [Option.some.injEq, Prod.mk.injEq] at h
    obtain ⟨hc, rfl⟩ := h
    exact ⟨[], [], 70, _, (impl_Board_lasts_f1_n3_run F d0 a17).trans ((impl_Board_lasts_f1_n3_cp _ F d0 a17 _).trans (bind_use hc _)), rfl, rfl, rfl⟩
  · cases h

/-! slices.IndexFunc[[]int,int] -/
noncomputable def slices_IndexFunc_intint_impl_Board_lasts_f1_n3_tab (F : Nat) : Tab := [(60, (impl_Board_lasts_f1_n3_ent F))]
theorem slices_IndexFunc_intint_impl_Board_lasts_f1_n3_tabok (F : Nat) : TabOK Try.prog (slices_IndexFunc_intint_impl_Board_lasts_f1_n3_tab F) := (tab_cons (impl_Board_lasts_f1_n3_meets F) impl_Board_lasts_f1_n3_fok tab_nil)
noncomputable def slices_IndexFunc_intint_impl_Board_lasts_f1_n3_LS0 (F : Nat) : LT := []
theorem slices_IndexFunc_intint_impl_Board_lasts_f1_n3_lsok0 (F : Nat) : LoopsOK Try.prog (slices_IndexFunc_intint_impl_Board_lasts_f1_n3_LS0 F) (bodyOf Try.f72) := loopsOK_nil
theorem slices_IndexFunc_intint_impl_Board_lasts_f1_n3_keys : keysOK (bodyOf Try.f72) = true := by kernel_rfl
def slices_IndexFunc_intint_impl_Board_lasts_f1_n3_st2 (s0 : List Int) (t77 : Int) (f9 : List Int) (t88 : Int) : St := ⟨expand 19 0 [0, 1, 7, 8] [(.ri .i64 s0), (.fn 60 [] [(.ptr 0 0 0 16), (.ptr 1 0 0 1)]), (.int .i64 t77), (.int .i64 t88)], [(.var 16 (.ri .i64 f9)), (.var 1 (.ri .i64 [(3 : Int)]))], 2, []⟩
def slices_IndexFunc_intint_impl_Board_lasts_f1_n3_o2 (s0 : List Int) (t77 : Int) (f9 : List Int) (x : Bool × Int) : GT := (.br x.1 (.out (.ret ⟨expand 19 0 [4] [(.int .i64 x.2)], [(.var 16 (.ri .i64 f9)), (.var 1 (.ri .i64 [(3 : Int)]))], 2, []⟩)) (.out (.exit 0 ⟨expand 19 0 [] [], [(.var 16 (.ri .i64 f9)), (.var 1 (.ri .i64 [(3 : Int)]))], 2, []⟩)))
def slices_IndexFunc_intint_impl_Board_lasts_f1_n3_ls2 (F : Nat) : LoopS := ⟨19, [0, 1, 7, 8], [], [], [], [4], [], [], fun vals mem np killed => match vals, mem, np, killed with
  | [(.ri .i64 s0), (.fn 60 [] [(.ptr 0 0 0 16), (.ptr 1 0 0 1)]), (.int .i64 t77), (.int .i64 t88)], [(.var 16 (.ri .i64 f9)), (.var 1 (.ri .i64 q_f10))], 2, [] => .br ((q_f10 == ([(3 : Int)] : List Int)) && (slices_IndexFunc_intint_impl_Board_lasts_f1_n3_l2 F s0 t77 f9 t88).isSome) (slices_IndexFunc_intint_impl_Board_lasts_f1_n3_o2 s0 t77 f9 ((slices_IndexFunc_intint_impl_Board_lasts_f1_n3_l2 F s0 t77 f9 t88).getD default)) .fail
  | _, _, _, _ => .fail⟩
theorem slices_IndexFunc_intint_impl_Board_lasts_f1_n3_step2 (F : Nat) (s0 : List Int) (t77 : Int) (f9 : List Int) (t88 : Int) {R : Type} (k : Out → Option R) : stepS tt (slices_IndexFunc_intint_impl_Board_lasts_f1_n3_tab F) (slices_IndexFunc_intint_impl_Board_lasts_f1_n3_LS0 F) 70 (slices_IndexFunc_intint_impl_Board_lasts_f1_n3_ls2 F) (loopAt 2 (bodyOf Try.f72)) (slices_IndexFunc_intint_impl_Board_lasts_f1_n3_st2 s0 t77 f9 t88) k = slices_IndexFunc_intint_impl_Board_lasts_f1_n3_s2 F s0 t77 f9 R t88 (fun s => k (.norm (slices_IndexFunc_intint_impl_Board_lasts_f1_n3_st2 s0 t77 f9 s))) (fun x => (slices_IndexFunc_intint_impl_Board_lasts_f1_n3_o2 s0 t77 f9 x).run k) := by kernel_rfl
theorem slices_IndexFunc_intint_impl_Board_lasts_f1_n3_iter2 (F : Nat) (s0 : List Int) (t77 : Int) (f9 : List Int) {R : Type} (k : Out → Option R) : ∀ (n : Nat) (t88 : Int), iterS tt (slices_IndexFunc_intint_impl_Board_lasts_f1_n3_tab F) (slices_IndexFunc_intint_impl_Board_lasts_f1_n3_LS0 F) 70 (slices_IndexFunc_intint_impl_Board_lasts_f1_n3_ls2 F) (loopAt 2 (bodyOf Try.f72)) n (slices_IndexFunc_intint_impl_Board_lasts_f1_n3_st2 s0 t77 f9 t88) k = loopC (slices_IndexFunc_intint_impl_Board_lasts_f1_n3_s2 F s0 t77 f9) n t88 (fun x => (slices_IndexFunc_intint_impl_Board_lasts_f1_n3_o2 s0 t77 f9 x).run k)
  | 0, t88 => rfl
  | n + 1, t88 => (iterS_succ tt (slices_IndexFunc_intint_impl_Board_lasts_f1_n3_tab F) (slices_IndexFunc_intint_impl_Board_lasts_f1_n3_LS0 F) 70 (slices_IndexFunc_intint_impl_Board_lasts_f1_n3_ls2 F) (loopAt 2 (bodyOf Try.f72)) n (slices_IndexFunc_intint_impl_Board_lasts_f1_n3_st2 s0 t77 f9 t88) k).trans ((slices_IndexFunc_intint_impl_Board_lasts_f1_n3_step2 F s0 t77 f9 t88 (nextK (iterS tt (slices_IndexFunc_intint_impl_Board_lasts_f1_n3_tab F) (slices_IndexFunc_intint_impl_Board_lasts_f1_n3_LS0 F) 70 (slices_IndexFunc_intint_impl_Board_lasts_f1_n3_ls2 F) (loopAt 2 (bodyOf Try.f72)) n) k)).trans (congrArg (fun kn => slices_IndexFunc_intint_impl_Board_lasts_f1_n3_s2 F s0 t77 f9 R t88 kn _) (funext (fun t88 => slices_IndexFunc_intint_impl_Board_lasts_f1_n3_iter2 F s0 t77 f9 k n t88))))
theorem slices_IndexFunc_intint_impl_Board_lasts_f1_n3_lok2 (F : Nat) : LoopOK Try.prog (loopAt 2 (bodyOf Try.f72)) (slices_IndexFunc_intint_impl_Board_lasts_f1_n3_ls2 F) := by
  refine loopOK_of mixed ttok deep (slices_IndexFunc_intint_impl_Board_lasts_f1_n3_tabok F) (loopsOK_at (slices_IndexFunc_intint_impl_Board_lasts_f1_n3_lsok0 F) 2) (fuel := 70) fun R vals mem np killed k x h => ?_
  simp only [slices_IndexFunc_intint_impl_Board_lasts_f1_n3_ls2] at h
  split at h
  · rename_i s0 t77 t88 f9 q_f10
    simp only [GT.run] at h
    have hc := (cond_noneL h).1
    replace h := (cond_noneL h).2
    have hg := (and_split hc).1
    replace hc := (and_split hc).2
    obtain rfl := beq_li hg
    refine ⟨F, (slices_IndexFunc_intint_impl_Board_lasts_f1_n3_iter2 F s0 t77 f9 k F t88).trans ((loopC_use (slices_IndexFunc_intint_impl_Board_lasts_f1_n3_s2_nat F s0 t77 f9) hc _).trans h)⟩
  · simp only [GT.run] at h
    cases h
noncomputable def slices_IndexFunc_intint_impl_Board_lasts_f1_n3_LS1 (F : Nat) : LT := (2, slices_IndexFunc_intint_impl_Board_lasts_f1_n3_ls2 F) :: slices_IndexFunc_intint_impl_Board_lasts_f1_n3_LS0 F
theorem slices_IndexFunc_intint_impl_Board_lasts_f1_n3_lsok1 (F : Nat) : LoopsOK Try.prog (slices_IndexFunc_intint_impl_Board_lasts_f1_n3_LS1 F) (bodyOf Try.f72) := loopsOK_cons slices_IndexFunc_intint_impl_Board_lasts_f1_n3_keys (slices_IndexFunc_intint_impl_Board_lasts_f1_n3_lok2 F) (slices_IndexFunc_intint_impl_Board_lasts_f1_n3_lsok0 F)
theorem slices_IndexFunc_intint_impl_Board_lasts_f1_n3_run (F : Nat) (s0 : List Int) (f7 : List Int) : runS tt (slices_IndexFunc_intint_impl_Board_lasts_f1_n3_tab F) (slices_IndexFunc_intint_impl_Board_lasts_f1_n3_LS1 F) [] [] Try.f72 (bodyOf Try.f72) 70 [(.ri .i64 s0), (.fn 60 [] [(.ptr 0 0 0 16), (.ptr 1 0 0 1)])] [(.var 16 (.ri .i64 f7)), (.var 1 (.ri .i64 [(3 : Int)]))] = slices_IndexFunc_intint_impl_Board_lasts_f1_n3_c _ F s0 f7 (fun r => some ⟨(.int .i64 r), [(.var 16 (.ri .i64 f7)), (.var 1 (.ri .i64 [(3 : Int)]))], []⟩) := by kernel_rfl
def slices_IndexFunc_intint_impl_Board_lasts_f1_n3_ent (F : Nat) : Ent := ⟨[], .quiet, fun args mem => match args, mem with
  | [(.ri .i64 s0), (.fn 60 [] [(.ptr 0 0 0 16), (.ptr 1 0 0 1)])], [(.var 16 (.ri .i64 f7)), (.var 1 (.ri .i64 q_f8))] => bif (q_f8 == ([(3 : Int)] : List Int)) then some ((slices_IndexFunc_intint_impl_Board_lasts_f1_n3_p F s0 f7).isSome, ⟨(.int .i64 ((slices_IndexFunc_intint_impl_Board_lasts_f1_n3_p F s0 f7).getD default)), [], []⟩) else none
  | _, _ => none⟩
theorem slices_IndexFunc_intint_impl_Board_lasts_f1_n3_fok : FunOK Try.prog 72 := funOK Try.func72 (by kernel_rfl) rfl
theorem slices_IndexFunc_intint_impl_Board_lasts_f1_n3_meets (F : Nat) : Meets Try.prog 72 (slices_IndexFunc_intint_impl_Board_lasts_f1_n3_ent F) := by
  refine meets_of_runS mixed ttok deep (slices_IndexFunc_intint_impl_Board_lasts_f1_n3_tabok F) Try.func72 (body_some rfl) (slices_IndexFunc_intint_impl_Board_lasts_f1_n3_lsok1 F) fun args mem hfit ret h => ?_
  clear hfit
  simp only [slices_IndexFunc_intint_impl_Board_lasts_f1_n3_ent] at h
  split at h
  · rename_i s0 f7 q_f8
    have hg0 := (cond_noneL h).1
    replace h := (cond_noneL h).2
    obtain rfl := beq_li hg0
    simp only [Option.some.injEq, Prod.mk.injEq] at h
    obtain ⟨hc, rfl⟩ := h
    exact ⟨[], [], 70, _, (slices_IndexFunc_intint_impl_Board_lasts_f1_n3_run F s0 f7).trans ((slices_IndexFunc_intint_impl_Board_lasts_f1_n3_cp _ F s0 f7 _).trans (bind_use hc _)), rfl, rfl, rfl⟩
  · cases h

/-! slices.ContainsFunc[[]int,int] -/
noncomputable def slices_ContainsFunc_intint_impl_Board_lasts_f1_n3_tab (F : Nat) : Tab := [(72, (slices_IndexFunc_intint_impl_Board_lasts_f1_n3_ent F))]
theorem slices_ContainsFunc_intint_impl_Board_lasts_f1_n3_tabok (F : Nat) : TabOK Try.prog (slices_ContainsFunc_intint_impl_Board_lasts_f1_n3_tab F) := (tab_cons (slices_IndexFunc_intint_impl_Board_lasts_f1_n3_meets F) slices_IndexFunc_intint_impl_Board_lasts_f1_n3_fok tab_nil)
noncomputable def slices_ContainsFunc_intint_impl_Board_lasts_f1_n3_LS0 (F : Nat) : LT := []
theorem slices_ContainsFunc_intint_impl_Board_lasts_f1_n3_lsok0 (F : Nat) : LoopsOK Try.prog (slices_ContainsFunc_intint_impl_Board_lasts_f1_n3_LS0 F) (bodyOf Try.f59) := loopsOK_nil
theorem slices_ContainsFunc_intint_impl_Board_lasts_f1_n3_run (F : Nat) (s0 : List Int) (f7 : List Int) : runS tt (slices_ContainsFunc_intint_impl_Board_lasts_f1_n3_tab F) (slices_ContainsFunc_intint_impl_Board_lasts_f1_n3_LS0 F) [] [] Try.f59 (bodyOf Try.f59) 70 [(.ri .i64 s0), (.fn 60 [] [(.ptr 0 0 0 16), (.ptr 1 0 0 1)])] [(.var 16 (.ri .i64 f7)), (.var 1 (.ri .i64 [(3 : Int)]))] = slices_ContainsFunc_intint_impl_Board_lasts_f1_n3_c _ F s0 f7 (fun r => some ⟨(.bool r), [(.var 16 (.ri .i64 f7)), (.var 1 (.ri .i64 [(3 : Int)]))], []⟩) := by kernel_rfl
def slices_ContainsFunc_intint_impl_Board_lasts_f1_n3_ent (F : Nat) : Ent := ⟨[], .quiet, fun args mem => match args, mem with
  | [(.ri .i64 s0), (.fn 60 [] [(.ptr 0 0 0 16), (.ptr 1 0 0 1)])], [(.var 16 (.ri .i64 f7)), (.var 1 (.ri .i64 q_f8))] => bif (q_f8 == ([(3 : Int)] : List Int)) then some ((slices_ContainsFunc_intint_impl_Board_lasts_f1_n3_p F s0 f7).isSome, ⟨(.bool ((slices_ContainsFunc_intint_impl_Board_lasts_f1_n3_p F s0 f7).getD default)), [], []⟩) else none
  | _, _ => none⟩
theorem slices_ContainsFunc_intint_impl_Board_lasts_f1_n3_fok : FunOK Try.prog 59 := funOK Try.func59 (by kernel_rfl) rfl
theorem slices_ContainsFunc_intint_impl_Board_lasts_f1_n3_meets (F : Nat) : Meets Try.prog 59 (slices_ContainsFunc_intint_impl_Board_lasts_f1_n3_ent F) := by
  refine meets_of_runS mixed ttok deep (slices_ContainsFunc_intint_impl_Board_lasts_f1_n3_tabok F) Try.func59 (body_some rfl) (slices_ContainsFunc_intint_impl_Board_lasts_f1_n3_lsok0 F) fun args mem hfit ret h => ?_
  clear hfit
  simp only [slices_ContainsFunc_intint_impl_Board_lasts_f1_n3_ent] at h
  split at h
  · rename_i s0 f7 q_f8
    have hg0 := (cond_noneL h).1
    replace h := (cond_noneL h).2
    obtain rfl := beq_li hg0
    simp only [Option.some.injEq, Prod.mk.injEq] at h
    obtain ⟨hc, rfl⟩ := h
    exact ⟨[], [], 70, _, (slices_ContainsFunc_intint_impl_Board_lasts_f1_n3_run F s0 f7).trans ((slices_ContainsFunc_intint_impl_Board_lasts_f1_n3_cp _ F s0 f7 _).trans (bind_use hc _)), rfl, rfl, rfl⟩
  · cases h

/-! (loop.example/g01194/impl.Board).lasts -/
noncomputable def impl_Board_lasts_n3_tab (F : Nat) : Tab := [(39, (impl_Board_moves_ent F)), (59, (slices_ContainsFunc_intint_impl_Board_lasts_f1_n3_ent F))]
theorem impl_Board_lasts_n3_tabok (F : Nat) : TabOK Try.prog (impl_Board_lasts_n3_tab F) := (tab_cons (impl_Board_moves_meets F) impl_Board_moves_fok (tab_cons (slices_ContainsFunc_intint_impl_Board_lasts_f1_n3_meets F) slices_ContainsFunc_intint_impl_Board_lasts_f1_n3_fok tab_nil))
noncomputable def impl_Board_lasts_n3_LS0 (F : Nat) : LT := []
theorem impl_Board_lasts_n3_lsok0 (F : Nat) : LoopsOK Try.prog (impl_Board_lasts_n3_LS0 F) (bodyOf Try.f37) := loopsOK_nil
theorem impl_Board_lasts_n3_run (F : Nat) (b0 : List Int) : runS tt (impl_Board_lasts_n3_tab F) (impl_Board_lasts_n3_LS0 F) [] [] Try.f37 (bodyOf Try.f37) 70 [(.ints 16 b0), (.int .i64 (3 : Int))] [] = impl_Board_lasts_n3_c _ F b0 (fun r => some ⟨(.bool r), [], []⟩) := by kernel_rfl
def impl_Board_lasts_n3_ent (F : Nat) : Ent := ⟨[], .quiet, fun args mem => match args, mem with
  | [(.ints 16 b0), (.int .i64 q_n1)], [] => bif (q_n1 == (3 : Int)) then some ((impl_Board_lasts_n3_p F b0).isSome, ⟨(.bool ((impl_Board_lasts_n3_p F b0).getD default)), [], []⟩) else none
  | _, _ => none⟩
theorem impl_Board_lasts_n3_fok : FunOK Try.prog 37 := funOK Try.func37 (by kernel_rfl) rfl
theorem impl_Board_lasts_n3_meets (F : Nat) : Meets Try.prog 37 (impl_Board_lasts_n3_ent F) := by
  refine meets_of_runS mixed ttok deep (impl_Board_lasts_n3_tabok F) Try.func37 (body_some rfl) (impl_Board_lasts_n3_lsok0 F) fun args mem hfit ret h => ?_
  clear hfit
  simp only [impl_Board_lasts_n3_ent] at h
  split at h
  · rename_i b0 q_n1
    have hg0 := (cond_noneL h).1
    replace h := (cond_noneL h).2
    obtain rfl := beq_int hg0
    simp only [Option.some.injEq, Prod.mk.injEq] at h
    obtain ⟨hc, rfl⟩ := h
    exact ⟨[], [], 70, _, (impl_Board_lasts_n3_run F b0).trans ((impl_Board_lasts_n3_cp _ F b0 _).trans (bind_use hc _)), rfl, rfl, rfl⟩
  · cases h

/-! (loop.example/g01194/impl.Board).lasts -/
def impl_Board_lasts_ent (F : Nat) : Ent := ⟨[], .quiet, fun args mem => match args, mem with
  | [(.ints 16 b0), (.int .i64 n1)], [] => some ((impl_Board_lasts_p F b0 n1).isSome, ⟨(.bool ((impl_Board_lasts_p F b0 n1).getD default)), [], []⟩)
  | _, _ => none⟩
theorem impl_Board_lasts_fok : FunOK Try.prog 37 := funOK Try.func37 (by kernel_rfl) rfl
theorem impl_Board_lasts_meets (F : Nat) : Meets Try.prog 37 (impl_Board_lasts_ent F) := by
  intro fr w ρ mem args reals hw ha ret hg
  simp only [impl_Board_lasts_ent] at hg
  split at hg
  · rename_i b0 n1
    simp only [Option.some.injEq, Prod.mk.injEq] at hg
    obtain ⟨hc, rfl⟩ := hg
    by_cases hn0 : (n1 == (0 : Int)) = true
    · obtain rfl := beq_int hn0
      have e : impl_Board_lasts_p F b0 (0 : Int) = some true := by kernel_rfl
      have hg' : (impl_Board_lasts_n0_ent F).g [(.ints 16 b0), (.int .i64 (0 : Int))] [] = some (true, ⟨(.bool true), [], []⟩) := by kernel_rfl
      have h9 := impl_Board_lasts_n0_meets F fr w ρ _ _ reals hw ha _ hg'
      simp only [e, cond_true, Option.getD_some]
      exact h9
    · replace hn0 : (n1 == (0 : Int)) = false := by simpa using hn0
      by_cases hn1 : (n1 == (1 : Int)) = true
      · obtain rfl := beq_int hn1
        have e : impl_Board_lasts_p F b0 (1 : Int) = (bif (Option.isSome (impl_Board_lasts_n1_p F b0)) then some (Option.getD (impl_Board_lasts_n1_p F b0) default) else none) := by kernel_rfl
        have hg' : (impl_Board_lasts_n1_ent F).g [(.ints 16 b0), (.int .i64 (1 : Int))] [] = some ((Option.isSome (impl_Board_lasts_n1_p F b0)), ⟨(.bool (Option.getD (impl_Board_lasts_n1_p F b0) default)), [], []⟩) := by kernel_rfl
        rw [e] at hc
        have hC := isSome_cond hc
        rw [hC] at hg'
        have h9 := impl_Board_lasts_n1_meets F fr w ρ _ _ reals hw ha _ hg'
        simp only [e, hC, cond_true, Option.getD_some]
        exact h9
      · replace hn1 : (n1 == (1 : Int)) = false := by simpa using hn1
        by_cases hn2 : (n1 == (2 : Int)) = true
        · obtain rfl := beq_int hn2
          have e : impl_Board_lasts_p F b0 (2 : Int) = (bif (Option.isSome (impl_Board_lasts_n2_p F b0)) then some (Option.getD (impl_Board_lasts_n2_p F b0) default) else none) := by kernel_rfl
          have hg' : (impl_Board_lasts_n2_ent F).g [(.ints 16 b0), (.int .i64 (2 : Int))] [] = some ((Option.isSome (impl_Board_lasts_n2_p F b0)), ⟨(.bool (Option.getD (impl_Board_lasts_n2_p F b0) default)), [], []⟩) := by kernel_rfl
          rw [e] at hc
          have hC := isSome_cond hc
          rw [hC] at hg'
          have h9 := impl_Board_lasts_n2_meets F fr w ρ _ _ reals hw ha _ hg'
          simp only [e, hC, cond_true, Option.getD_some]
          exact h9
        · replace hn2 : (n1 == (2 : Int)) = false := by simpa using hn2
          by_cases hn3 : (n1 == (3 : Int)) = true
          · obtain rfl := beq_int hn3
            have e : impl_Board_lasts_p F b0 (3 : Int) = (bif (Option.isSome (impl_Board_lasts_n3_p F b0)) then some (Option.getD (impl_Board_lasts_n3_p F b0) default) else none) := by kernel_rfl
            have hg' : (impl_Board_lasts_n3_ent F).g [(.ints 16 b0), (.int .i64 (3 : Int))] [] = some ((Option.isSome (impl_Board_lasts_n3_p F b0)), ⟨(.bool (Option.getD (impl_Board_lasts_n3_p F b0) default)), [], []⟩) := by kernel_rfl
            rw [e] at hc
            have hC := isSome_cond hc
            rw [hC] at hg'
            have h9 := impl_Board_lasts_n3_meets F fr w ρ _ _ reals hw ha _ hg'
            simp only [e, hC, cond_true, Option.getD_some]
            exact h9
          · replace hn3 : (n1 == (3 : Int)) = false := by simpa using hn3
            exfalso
            have e : impl_Board_lasts_p F b0 n1 = none := by simp only [impl_Board_lasts_p, impl_Board_lasts_c, hn0, hn1, hn2, hn3, cond_false]
            rw [e] at hc
            cases hc
  · cases hg

/-! loop.example/g01194/impl.Lasts -/
noncomputable def impl_Lasts_tab (F : Nat) : Tab := [(33, (impl_IsBoard_ent F)), (34, (impl_in_ent F)), (37, (impl_Board_lasts_ent F))]
theorem impl_Lasts_tabok (F : Nat) : TabOK Try.prog (impl_Lasts_tab F) := (tab_cons (impl_IsBoard_meets F) impl_IsBoard_fok (tab_cons (impl_in_meets F) impl_in_fok (tab_cons (impl_Board_lasts_meets F) impl_Board_lasts_fok tab_nil)))
noncomputable def impl_Lasts_LS0 (F : Nat) : LT := []
theorem impl_Lasts_lsok0 (F : Nat) : LoopsOK Try.prog (impl_Lasts_LS0 F) (bodyOf Try.f14) := loopsOK_nil
theorem impl_Lasts_run (F : Nat) (b0 : List Int) (n1 : Int) : runS tt (impl_Lasts_tab F) (impl_Lasts_LS0 F) [] [] Try.f14 (bodyOf Try.f14) 70 [(.ints 16 b0), (.int .i64 n1)] [] = impl_Lasts_c _ F b0 n1 (fun r => some ⟨(.tup [(.bool r.1), (.bool r.2)]), [], []⟩) := by kernel_rfl
def impl_Lasts_ent (F : Nat) : Ent := ⟨[], .quiet, fun args mem => match args, mem with
  | [(.ints 16 b0), (.int .i64 n1)], [] => some ((impl_Lasts_p F b0 n1).isSome, ⟨(.tup [(.bool ((impl_Lasts_p F b0 n1).getD default).1), (.bool ((impl_Lasts_p F b0 n1).getD default).2)]), [], []⟩)
  | _, _ => none⟩
theorem impl_Lasts_fok : FunOK Try.prog 14 := funOK Try.func14 (by kernel_rfl) rfl
theorem impl_Lasts_meets (F : Nat) : Meets Try.prog 14 (impl_Lasts_ent F) := by
  refine meets_of_runS mixed ttok deep (impl_Lasts_tabok F) Try.func14 (body_some rfl) (impl_Lasts_lsok0 F) fun args mem hfit ret h => ?_
  clear hfit
  simp only [impl_Lasts_ent] at h
  split at h
  · rename_i b0 n1
    simp only [Option.some.injEq, Prod.mk.injEq] at h
    obtain ⟨hc, rfl⟩ := h
    exact ⟨[], [], 70, _, (impl_Lasts_run F b0 n1).trans ((impl_Lasts_cp _ F b0 n1 _).trans (bind_use hc _)), rfl, rfl, rfl⟩
  · cases h

/-! loop.example/g01194/laws.FnExactLasts -/
noncomputable def laws_FnExactLasts_tab (F : Nat) : Tab := [(11, (laws_toBoard_ent F)), (13, (spec_Lasts_ent F)), (14, (impl_Lasts_ent F))]
theorem laws_FnExactLasts_tabok (F : Nat) : TabOK Try.prog (laws_FnExactLasts_tab F) := (tab_cons (laws_toBoard_meets F) laws_toBoard_fok (tab_cons (spec_Lasts_meets F) spec_Lasts_fok (tab_cons (impl_Lasts_meets F) impl_Lasts_fok tab_nil)))
noncomputable def laws_FnExactLasts_LS0 (F : Nat) : LT := []
theorem laws_FnExactLasts_lsok0 (F : Nat) : LoopsOK Try.prog (laws_FnExactLasts_LS0 F) (bodyOf Try.f4) := loopsOK_nil
theorem laws_FnExactLasts_run (F : Nat) (aB0 : List Int) (aN1 : Int) : runS tt (laws_FnExactLasts_tab F) (laws_FnExactLasts_LS0 F) [] [] Try.f4 (bodyOf Try.f4) 70 [(.ints 16 aB0), (.int .i64 aN1)] [] = laws_FnExactLasts_c _ F aB0 aN1 (fun r => some ⟨(.bool r), [], []⟩) := by kernel_rfl
def laws_FnExactLasts_ent (F : Nat) : Ent := ⟨[], .quiet, fun args mem => match args, mem with
  | [(.ints 16 aB0), (.int .i64 aN1)], [] => some ((laws_FnExactLasts_p F aB0 aN1).isSome, ⟨(.bool ((laws_FnExactLasts_p F aB0 aN1).getD default)), [], []⟩)
  | _, _ => none⟩
theorem laws_FnExactLasts_fok : FunOK Try.prog 4 := funOK Try.func4 (by kernel_rfl) rfl
theorem laws_FnExactLasts_meets (F : Nat) : Meets Try.prog 4 (laws_FnExactLasts_ent F) := by
  refine meets_of_runS mixed ttok deep (laws_FnExactLasts_tabok F) Try.func4 (body_some rfl) (laws_FnExactLasts_lsok0 F) fun args mem hfit ret h => ?_
  clear hfit
  simp only [laws_FnExactLasts_ent] at h
  split at h
  · rename_i aB0 aN1
    simp only [Option.some.injEq, Prod.mk.injEq] at h
    obtain ⟨hc, rfl⟩ := h
    exact ⟨[], [], 70, _, (laws_FnExactLasts_run F aB0 aN1).trans ((laws_FnExactLasts_cp _ F aB0 aN1 _).trans (bind_use hc _)), rfl, rfl, rfl⟩
  · cases h

/-! loop.example/g01194/spec.l1Most -/
noncomputable def spec_l1Most_tab (F : Nat) : Tab := []
theorem spec_l1Most_tabok (F : Nat) : TabOK Try.prog (spec_l1Most_tab F) := tab_nil
noncomputable def spec_l1Most_LS0 (F : Nat) : LT := []
theorem spec_l1Most_lsok0 (F : Nat) : LoopsOK Try.prog (spec_l1Most_LS0 F) (bodyOf Try.f38) := loopsOK_nil
theorem spec_l1Most_run (F : Nat) (a0 : Int) (b1 : Int) : runS tt (spec_l1Most_tab F) (spec_l1Most_LS0 F) [] [] Try.f38 (bodyOf Try.f38) 70 [(.int .i64 a0), (.int .i64 b1)] [] = spec_l1Most_c _ a0 b1 (fun r => some ⟨(.int .i64 r), [], []⟩) := by kernel_rfl
def spec_l1Most_ent (F : Nat) : Ent := ⟨[], .quiet, fun args mem => match args, mem with
  | [(.int .i64 a0), (.int .i64 b1)], [] => some (true, ⟨(.int .i64 (spec_l1Most_v a0 b1)), [], []⟩)
  | _, _ => none⟩
theorem spec_l1Most_fok : FunOK Try.prog 38 := funOK Try.func38 (by kernel_rfl) rfl
theorem spec_l1Most_meets (F : Nat) : Meets Try.prog 38 (spec_l1Most_ent F) := by
  refine meets_of_runS mixed ttok deep (spec_l1Most_tabok F) Try.func38 (body_some rfl) (spec_l1Most_lsok0 F) fun args mem hfit ret h => ?_
  clear hfit
  simp only [spec_l1Most_ent] at h
  split at h
  · rename_i a0 b1
    simp only [Option.some.injEq, Prod.mk.injEq] at h
    obtain ⟨hc, rfl⟩ := h
    exact ⟨[], [], 70, _, (spec_l1Most_run F a0 b1).trans (spec_l1Most_cv _ a0 b1 _), rfl, rfl, rfl⟩
  · cases h

/-! loop.example/g01194/spec.BestSure -/
noncomputable def spec_BestSure_tab (F : Nat) : Tab := [(29, (spec_l2Board_ent F)), (30, (spec_l1In_ent F)), (31, (spec_l8Sure_ent F)), (38, (spec_l1Most_ent F))]
theorem spec_BestSure_tabok (F : Nat) : TabOK Try.prog (spec_BestSure_tab F) := (tab_cons (spec_l2Board_meets F) spec_l2Board_fok (tab_cons (spec_l1In_meets F) spec_l1In_fok (tab_cons (spec_l8Sure_meets F) spec_l8Sure_fok (tab_cons (spec_l1Most_meets F) spec_l1Most_fok tab_nil))))
noncomputable def spec_BestSure_LS0 (F : Nat) : LT := []
theorem spec_BestSure_lsok0 (F : Nat) : LoopsOK Try.prog (spec_BestSure_LS0 F) (bodyOf Try.f15) := loopsOK_nil
theorem spec_BestSure_run (F : Nat) (b0 : List Int) (n1 : Int) : runS tt (spec_BestSure_tab F) (spec_BestSure_LS0 F) [] [] Try.f15 (bodyOf Try.f15) 70 [(.ints 16 b0), (.int .i64 n1)] [] = spec_BestSure_c _ F b0 n1 (fun r => some ⟨(.tup [(.int .i64 r.1), (.bool r.2)]), [], []⟩) := by kernel_rfl
def spec_BestSure_ent (F : Nat) : Ent := ⟨[], .quiet, fun args mem => match args, mem with
  | [(.ints 16 b0), (.int .i64 n1)], [] => some ((spec_BestSure_p F b0 n1).isSome, ⟨(.tup [(.int .i64 ((spec_BestSure_p F b0 n1).getD default).1), (.bool ((spec_BestSure_p F b0 n1).getD default).2)]), [], []⟩)
  | _, _ => none⟩
theorem spec_BestSure_fok : FunOK Try.prog 15 := funOK Try.func15 (by kernel_rfl) rfl
theorem spec_BestSure_meets (F : Nat) : Meets Try.prog 15 (spec_BestSure_ent F) := by
  refine meets_of_runS mixed ttok deep (spec_BestSure_tabok F) Try.func15 (body_some rfl) (spec_BestSure_lsok0 F) fun args mem hfit ret h => ?_
  clear hfit
  simp only [spec_BestSure_ent] at h
  split at h
  · rename_i b0 n1
    simp only [Option.some.injEq, Prod.mk.injEq] at h
    obtain ⟨hc, rfl⟩ := h
    exact ⟨[], [], 70, _, (spec_BestSure_run F b0 n1).trans ((spec_BestSure_cp _ F b0 n1 _).trans (bind_use hc _)), rfl, rfl, rfl⟩
  · cases h

/-! (loop.example/g01194/impl.Board).sureOf -/
def impl_Board_sureOf_ent (F : Nat) : Ent := ⟨[], .quiet, fun args mem => match args, mem with
  | [(.ints 16 b0), (.int .i64 direction1), (.int .i64 n2)], [] => some ((impl_Board_sureOf_p F b0 direction1 n2).isSome, ⟨(.int .i64 ((impl_Board_sureOf_p F b0 direction1 n2).getD default)), [], []⟩)
  | _, _ => none⟩
theorem impl_Board_sureOf_fok : FunOK Try.prog 40 := funOK Try.func40 (by kernel_rfl) rfl
theorem impl_Board_sureOf_meets (F : Nat) : Meets Try.prog 40 (impl_Board_sureOf_ent F) := by
  intro fr w ρ mem args reals hw ha ret hg
  simp only [impl_Board_sureOf_ent] at hg
  split at hg
  · rename_i b0 direction1 n2
    simp only [Option.some.injEq, Prod.mk.injEq] at hg
    obtain ⟨hc, rfl⟩ := hg
    by_cases hn0 : (n2 == (1 : Int)) = true
    · obtain rfl := beq_int hn0
      have e : impl_Board_sureOf_p F b0 direction1 (1 : Int) = (bif (Option.isSome (impl_Board_sureOf_n1_p F b0 direction1)) then some (Option.getD (impl_Board_sureOf_n1_p F b0 direction1) default) else none) := by kernel_rfl
      have hg' : (impl_Board_sureOf_n1_ent F).g [(.ints 16 b0), (.int .i64 direction1), (.int .i64 (1 : Int))] [] = some ((Option.isSome (impl_Board_sureOf_n1_p F b0 direction1)), ⟨(.int .i64 (Option.getD (impl_Board_sureOf_n1_p F b0 direction1) default)), [], []⟩) := by kernel_rfl
      rw [e] at hc
      have hC := isSome_cond hc
      rw [hC] at hg'
      have h9 := impl_Board_sureOf_n1_meets F fr w ρ _ _ reals hw ha _ hg'
      simp only [e, hC, cond_true, Option.getD_some]
      exact h9
    · replace hn0 : (n2 == (1 : Int)) = false := by simpa using hn0
      by_cases hn1 : (n2 == (2 : Int)) = true
      · obtain rfl := beq_int hn1
        have e : impl_Board_sureOf_p F b0 direction1 (2 : Int) = (bif (Option.isSome (impl_Board_sureOf_n2_p F b0 direction1)) then some (Option.getD (impl_Board_sureOf_n2_p F b0 direction1) default) else none) := by kernel_rfl
        have hg' : (impl_Board_sureOf_n2_ent F).g [(.ints 16 b0), (.int .i64 direction1), (.int .i64 (2 : Int))] [] = some ((Option.isSome (impl_Board_sureOf_n2_p F b0 direction1)), ⟨(.int .i64 (Option.getD (impl_Board_sureOf_n2_p F b0 direction1) default)), [], []⟩) := by kernel_rfl
        rw [e] at hc
        have hC := isSome_cond hc
        rw [hC] at hg'
        have h9 := impl_Board_sureOf_n2_meets F fr w ρ _ _ reals hw ha _ hg'
        simp only [e, hC, cond_true, Option.getD_some]
        exact h9
      · replace hn1 : (n2 == (2 : Int)) = false := by simpa using hn1
        exfalso
        have e : impl_Board_sureOf_p F b0 direction1 n2 = none := by simp only [impl_Board_sureOf_p, impl_Board_sureOf_c, hn0, hn1, cond_false]
        rw [e] at hc
        cases hc
  · cases hg

/-! loop.example/g01194/impl.BestSure -/
noncomputable def impl_BestSure_tab (F : Nat) : Tab := [(33, (impl_IsBoard_ent F)), (34, (impl_in_ent F)), (35, (impl_Board_sure_ent F)), (39, (impl_Board_moves_ent F)), (40, (impl_Board_sureOf_ent F))]
theorem impl_BestSure_tabok (F : Nat) : TabOK Try.prog (impl_BestSure_tab F) := (tab_cons (impl_IsBoard_meets F) impl_IsBoard_fok (tab_cons (impl_in_meets F) impl_in_fok (tab_cons (impl_Board_sure_meets F) impl_Board_sure_fok (tab_cons (impl_Board_moves_meets F) impl_Board_moves_fok (tab_cons (impl_Board_sureOf_meets F) impl_Board_sureOf_fok tab_nil)))))
noncomputable def impl_BestSure_LS0 (F : Nat) : LT := []
theorem impl_BestSure_lsok0 (F : Nat) : LoopsOK Try.prog (impl_BestSure_LS0 F) (bodyOf Try.f16) := loopsOK_nil
theorem impl_BestSure_keys : keysOK (bodyOf Try.f16) = true := by kernel_rfl
def impl_BestSure_st5 (n0 : Int) (sure4 : Int) (t227 : Int) (b9 : List Int) (t2110 : List Int) (t238 : Int) : St := ⟨expand 35 0 [1, 2, 6, 21, 22, 23] [(.int .i64 n0), (.ptr 0 0 0 16), (.int .i64 sure4), (.sl 1 0 (List.length t2110)), (.int .i64 t227), (.int .i64 t238)], [(.var 16 (.ri .i64 b9)), (.vec 3 (.ri .i64 t2110))], 0, []⟩
def impl_BestSure_o5 (n0 : Int) (sure4 : Int) (t227 : Int) (b9 : List Int) (t2110 : List Int) (x : Bool × Int) : GT := (.br x.1 (.out (.ret ⟨expand 35 0 [4, 5] [(.int .i64 x.2), (.bool true)], [], 0, []⟩)) (.out (.exit 0 ⟨expand 35 0 [] [], [], 0, []⟩)))
def impl_BestSure_ls5 (F : Nat) : LoopS := ⟨35, [1, 2, 6, 21, 22, 23], [], [], [], [4, 5], [], [], fun vals mem np killed => match vals, mem, np, killed with
  | [(.int .i64 n0), (.ptr 0 0 0 16), (.int .i64 sure4), (.sl 1 0 q_t216), (.int .i64 t227), (.int .i64 t238)], [(.var 16 (.ri .i64 b9)), (.vec 3 (.ri .i64 t2110))], 0, [] => .br ((Nat.beq q_t216 (List.length t2110)) && (impl_BestSure_l5 F n0 sure4 t227 b9 t2110 t238).isSome) (impl_BestSure_o5 n0 sure4 t227 b9 t2110 ((impl_BestSure_l5 F n0 sure4 t227 b9 t2110 t238).getD default)) .fail
  | _, _, _, _ => .fail⟩
theorem impl_BestSure_step5 (F : Nat) (n0 : Int) (sure4 : Int) (t227 : Int) (b9 : List Int) (t2110 : List Int) (t238 : Int) {R : Type} (k : Out → Option R) : stepS tt (impl_BestSure_tab F) (impl_BestSure_LS0 F) 70 (impl_BestSure_ls5 F) (loopAt 5 (bodyOf Try.f16)) (impl_BestSure_st5 n0 sure4 t227 b9 t2110 t238) k = impl_BestSure_s5 F n0 sure4 t227 b9 t2110 R t238 (fun s => k (.norm (impl_BestSure_st5 n0 sure4 t227 b9 t2110 s))) (fun x => (impl_BestSure_o5 n0 sure4 t227 b9 t2110 x).run k) := by kernel_rfl
theorem impl_BestSure_iter5 (F : Nat) (n0 : Int) (sure4 : Int) (t227 : Int) (b9 : List Int) (t2110 : List Int) {R : Type} (k : Out → Option R) : ∀ (n : Nat) (t238 : Int), iterS tt (impl_BestSure_tab F) (impl_BestSure_LS0 F) 70 (impl_BestSure_ls5 F) (loopAt 5 (bodyOf Try.f16)) n (impl_BestSure_st5 n0 sure4 t227 b9 t2110 t238) k = loopC (impl_BestSure_s5 F n0 sure4 t227 b9 t2110) n t238 (fun x => (impl_BestSure_o5 n0 sure4 t227 b9 t2110 x).run k)
  | 0, t238 => rfl
  | n + 1, t238 => (iterS_succ tt (impl_BestSure_tab F) (impl_BestSure_LS0 F) 70 (impl_BestSure_ls5 F) (loopAt 5 (bodyOf Try.f16)) n (impl_BestSure_st5 n0 sure4 t227 b9 t2110 t238) k).trans ((impl_BestSure_step5 F n0 sure4 t227 b9 t2110 t238 (nextK (iterS tt (impl_BestSure_tab F) (impl_BestSure_LS0 F) 70 (impl_BestSure_ls5 F) (loopAt 5 (bodyOf Try.f16)) n) k)).trans (congrArg (fun kn => impl_BestSure_s5 F n0 sure4 t227 b9 t2110 R t238 kn _) (funext (fun t238 => impl_BestSure_iter5 F n0 sure4 t227 b9 t2110 k n t238))))
theorem impl_BestSure_lok5 (F : Nat) : LoopOK Try.prog (loopAt 5 (bodyOf Try.f16)) (impl_BestSure_ls5 F) := by
  refine loopOK_of mixed ttok deep (impl_BestSure_tabok F) (loopsOK_at (impl_BestSure_lsok0 F) 5) (fuel := 70) fun R vals mem np killed k x h => ?_
  simp only [impl_BestSure_ls5] at h
  split at h
  · rename_i n0 sure4 q_t216 t227 t238 b9 t2110
    simp only [GT.run] at h
    have hc := (cond_noneL h).1
    replace h := (cond_noneL h).2
    have hg := (and_split hc).1
    replace hc := (and_split hc).2
    obtain rfl := nbeq_nat hg
    refine ⟨F, (impl_BestSure_iter5 F n0 sure4 t227 b9 t2110 k F t238).trans ((loopC_use (impl_BestSure_s5_nat F n0 sure4 t227 b9 t2110) hc _).trans h)⟩
  · simp only [GT.run] at h
    cases h
noncomputable def impl_BestSure_LS1 (F : Nat) : LT := (5, impl_BestSure_ls5 F) :: impl_BestSure_LS0 F
theorem impl_BestSure_lsok1 (F : Nat) : LoopsOK Try.prog (impl_BestSure_LS1 F) (bodyOf Try.f16) := loopsOK_cons impl_BestSure_keys (impl_BestSure_lok5 F) (impl_BestSure_lsok0 F)
theorem impl_BestSure_run (F : Nat) (b0 : List Int) (n1 : Int) : runS tt (impl_BestSure_tab F) (impl_BestSure_LS1 F) [] [] Try.f16 (bodyOf Try.f16) 70 [(.ints 16 b0), (.int .i64 n1)] [] = impl_BestSure_c _ F b0 n1 (fun r => some ⟨(.tup [(.int .i64 r.1), (.bool r.2)]), [], []⟩) := by kernel_rfl
def impl_BestSure_ent (F : Nat) : Ent := ⟨[], .quiet, fun args mem => match args, mem with
  | [(.ints 16 b0), (.int .i64 n1)], [] => some ((impl_BestSure_p F b0 n1).isSome, ⟨(.tup [(.int .i64 ((impl_BestSure_p F b0 n1).getD default).1), (.bool ((impl_BestSure_p F b0 n1).getD default).2)]), [], []⟩)
  | _, _ => none⟩
theorem impl_BestSure_fok : FunOK Try.prog 16 := funOK Try.func16 (by kernel_rfl) rfl
theorem impl_BestSure_meets (F : Nat) : Meets Try.prog 16 (impl_BestSure_ent F) := by
  refine meets_of_runS mixed ttok deep (impl_BestSure_tabok F) Try.func16 (body_some rfl) (impl_BestSure_lsok1 F) fun args mem hfit ret h => ?_
  clear hfit
  simp only [impl_BestSure_ent] at h
  split at h
  · rename_i b0 n1
    simp only [Option.some.injEq, Prod.mk.injEq] at h
    obtain ⟨hc, rfl⟩ := h
    exact ⟨[], [], 70, _, (impl_BestSure_run F b0 n1).trans ((impl_BestSure_cp _ F b0 n1 _).trans (bind_use hc _)), rfl, rfl, rfl⟩
  · cases h

/-! loop.example/g01194/laws.FnExactBestSure -/
noncomputable def laws_FnExactBestSure_tab (F : Nat) : Tab := [(11, (laws_toBoard_ent F)), (15, (spec_BestSure_ent F)), (16, (impl_BestSure_ent F))]
theorem laws_FnExactBestSure_tabok (F : Nat) : TabOK Try.prog (laws_FnExactBestSure_tab F) := (tab_cons (laws_toBoard_meets F) laws_toBoard_fok (tab_cons (spec_BestSure_meets F) spec_BestSure_fok (tab_cons (impl_BestSure_meets F) impl_BestSure_fok tab_nil)))
noncomputable def laws_FnExactBestSure_LS0 (F : Nat) : LT := []
theorem laws_FnExactBestSure_lsok0 (F : Nat) : LoopsOK Try.prog (laws_FnExactBestSure_LS0 F) (bodyOf Try.f5) := loopsOK_nil
theorem laws_FnExactBestSure_run (F : Nat) (aB0 : List Int) (aN1 : Int) : runS tt (laws_FnExactBestSure_tab F) (laws_FnExactBestSure_LS0 F) [] [] Try.f5 (bodyOf Try.f5) 70 [(.ints 16 aB0), (.int .i64 aN1)] [] = laws_FnExactBestSure_c _ F aB0 aN1 (fun r => some ⟨(.bool r), [], []⟩) := by kernel_rfl
def laws_FnExactBestSure_ent (F : Nat) : Ent := ⟨[], .quiet, fun args mem => match args, mem with
  | [(.ints 16 aB0), (.int .i64 aN1)], [] => some ((laws_FnExactBestSure_p F aB0 aN1).isSome, ⟨(.bool ((laws_FnExactBestSure_p F aB0 aN1).getD default)), [], []⟩)
  | _, _ => none⟩
theorem laws_FnExactBestSure_fok : FunOK Try.prog 5 := funOK Try.func5 (by kernel_rfl) rfl
theorem laws_FnExactBestSure_meets (F : Nat) : Meets Try.prog 5 (laws_FnExactBestSure_ent F) := by
  refine meets_of_runS mixed ttok deep (laws_FnExactBestSure_tabok F) Try.func5 (body_some rfl) (laws_FnExactBestSure_lsok0 F) fun args mem hfit ret h => ?_
  clear hfit
  simp only [laws_FnExactBestSure_ent] at h
  split at h
  · rename_i aB0 aN1
    simp only [Option.some.injEq, Prod.mk.injEq] at h
    obtain ⟨hc, rfl⟩ := h
    exact ⟨[], [], 70, _, (laws_FnExactBestSure_run F aB0 aN1).trans ((laws_FnExactBestSure_cp _ F aB0 aN1 _).trans (bind_use hc _)), rfl, rfl, rfl⟩
  · cases h
end Go.Proofs.Ytidmlibanopfhaa
