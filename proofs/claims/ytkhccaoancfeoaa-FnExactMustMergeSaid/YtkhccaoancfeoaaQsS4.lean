/-
Pure functions and what the code of them does, by program; without conditions.
-/
import Derived.Test.YtkhccaoancfeoaaQsP4
import Derived.Test.YtkhccaoancfeoaaQsS3
namespace Go.Proofs.Ytkhccaoancfeoaa
open Go Go.Lv Go.Lv.P Go.Proofs
set_option linter.unusedVariables false
set_option linter.unusedSimpArgs false
set_option maxRecDepth 100000
/-! loop.example/g01194/impl.rowsBefore -/
noncomputable def impl_rowsBefore_tab (F : Nat) : Tab := [(62, (impl_isFlush_ent F)), (51, (impl_tiles_ent F)), (63, (impl_apart_ent F)), (35, (impl_slideRow_ent F)), (64, (slices_SortFunc_4int4int_impl_rowsBefore_f1_ent F)), (67, (slices_Compact_4int4int_ent F))]
theorem impl_rowsBefore_tabok (F : Nat) : TabOK Try.prog (impl_rowsBefore_tab F) := (tab_cons (impl_isFlush_meets F) impl_isFlush_fok (tab_cons (impl_tiles_meets F) impl_tiles_fok (tab_cons (impl_apart_meets F) impl_apart_fok (tab_cons (impl_slideRow_meets F) impl_slideRow_fok (tab_cons (slices_SortFunc_4int4int_impl_rowsBefore_f1_meets F) slices_SortFunc_4int4int_impl_rowsBefore_f1_fok (tab_cons (slices_Compact_4int4int_meets F) slices_Compact_4int4int_fok tab_nil))))))
noncomputable def impl_rowsBefore_LS0 (F : Nat) : LT := []
theorem impl_rowsBefore_lsok0 (F : Nat) : LoopsOK Try.prog (impl_rowsBefore_LS0 F) (bodyOf Try.f47) := loopsOK_nil
theorem impl_rowsBefore_keys : keysOK (bodyOf Try.f47) = true := by kernel_rfl
def impl_rowsBefore_st12 (list5 : List Int) (places6 : Int) (t2113 : Int) (t2214 : Int) (t2615 : Int) (row17 : List Int) (out18 : List (List Int)) (t2020 : List (List Int)) (k10 : Int) (t3016 : Int) (own19 : List Int) : St := ⟨expand 74 0 [1, 3, 5, 6, 7, 8, 20, 21, 22, 26, 30] [(.ptr 0 0 0 4), (.sl 1 0 (List.length out18)), (.ri .i64 list5), (.int .i64 places6), (.ptr 2 0 0 4), (.int .i64 k10), (.sl 3 0 (List.length t2020)), (.int .i64 t2113), (.int .i64 t2214), (.int .i64 t2615), (.int .i64 t3016)], [(.var 4 (.ri .i64 row17)), (.vec 22 (.rr 4 out18)), (.var 4 (.ri .i64 own19)), (.vec 71 (.rl .i64 t2020))], 0, []⟩
def impl_rowsBefore_o12 (list5 : List Int) (places6 : Int) (t2113 : Int) (t2214 : Int) (t2615 : Int) (row17 : List Int) (out18 : List (List Int)) (t2020 : List (List Int)) (x : Int × List Int) : GT := (.out (.exit 4 ⟨expand 74 0 [1, 3, 5, 7, 8, 20, 21, 22, 26] [(.ptr 0 0 0 4), (.sl 1 0 (List.length out18)), (.ri .i64 list5), (.ptr 2 0 0 4), (.int .i64 x.1), (.sl 3 0 (List.length t2020)), (.int .i64 t2113), (.int .i64 t2214), (.int .i64 t2615)], [(.var 4 (.ri .i64 row17)), (.vec 22 (.rr 4 out18)), (.var 4 (.ri .i64 x.2)), (.vec 71 (.rl .i64 t2020))], 0, []⟩))
def impl_rowsBefore_ls12 (F : Nat) : LoopS := ⟨74, [1, 3, 5, 6, 7, 8, 20, 21, 22, 26, 30], [], [1, 3, 5, 7, 8, 20, 21, 22, 26], [], [2], [], [], fun vals mem np killed => match vals, mem, np, killed with
  | [(.ptr 0 0 0 4), (.sl 1 0 q_out4), (.ri .i64 list5), (.int .i64 places6), (.ptr 2 0 0 4), (.int .i64 k10), (.sl 3 0 q_t2012), (.int .i64 t2113), (.int .i64 t2214), (.int .i64 t2615), (.int .i64 t3016)], [(.var 4 (.ri .i64 row17)), (.vec 22 (.rr 4 out18)), (.var 4 (.ri .i64 own19)), (.vec 71 (.rl .i64 t2020))], 0, [] => .br ((Nat.beq q_out4 (List.length out18)) && ((Nat.beq q_t2012 (List.length t2020)) && (impl_rowsBefore_l12 F list5 places6 t2113 t2214 t2615 row17 out18 t2020 k10 t3016 own19).isSome)) (impl_rowsBefore_o12 list5 places6 t2113 t2214 t2615 row17 out18 t2020 ((impl_rowsBefore_l12 F list5 places6 t2113 t2214 t2615 row17 out18 t2020 k10 t3016 own19).getD default)) .fail
  | _, _, _, _ => .fail⟩
theorem impl_rowsBefore_step12 (F : Nat) (list5 : List Int) (places6 : Int) (t2113 : Int) (t2214 : Int) (t2615 : Int) (row17 : List Int) (out18 : List (List Int)) (t2020 : List (List Int)) (k10 : Int) (t3016 : Int) (own19 : List Int) {R : Type} (k : Out → Option R) : stepS tt (impl_rowsBefore_tab F) (impl_rowsBefore_LS0 F) 70 (impl_rowsBefore_ls12 F) (loopAt 12 (bodyOf Try.f47)) (impl_rowsBefore_st12 list5 places6 t2113 t2214 t2615 row17 out18 t2020 k10 t3016 own19) k = impl_rowsBefore_s12 F list5 places6 t2113 t2214 t2615 row17 out18 t2020 R (k10, t3016, own19) (fun s => k (.norm (impl_rowsBefore_st12 list5 places6 t2113 t2214 t2615 row17 out18 t2020 s.1 s.2.1 s.2.2))) (fun x => (impl_rowsBefore_o12 list5 places6 t2113 t2214 t2615 row17 out18 t2020 x).run k) := by kernel_rfl
theorem impl_rowsBefore_iter12 (F : Nat) (list5 : List Int) (places6 : Int) (t2113 : Int) (t2214 : Int) (t2615 : Int) (row17 : List Int) (out18 : List (List Int)) (t2020 : List (List Int)) {R : Type} (k : Out → Option R) : ∀ (n : Nat) (k10 : Int) (t3016 : Int) (own19 : List Int), iterS tt (impl_rowsBefore_tab F) (impl_rowsBefore_LS0 F) 70 (impl_rowsBefore_ls12 F) (loopAt 12 (bodyOf Try.f47)) n (impl_rowsBefore_st12 list5 places6 t2113 t2214 t2615 row17 out18 t2020 k10 t3016 own19) k = loopC (impl_rowsBefore_s12 F list5 places6 t2113 t2214 t2615 row17 out18 t2020) n (k10, t3016, own19) (fun x => (impl_rowsBefore_o12 list5 places6 t2113 t2214 t2615 row17 out18 t2020 x).run k)
  | 0, k10, t3016, own19 => rfl
  | n + 1, k10, t3016, own19 => (iterS_succ tt (impl_rowsBefore_tab F) (impl_rowsBefore_LS0 F) 70 (impl_rowsBefore_ls12 F) (loopAt 12 (bodyOf Try.f47)) n (impl_rowsBefore_st12 list5 places6 t2113 t2214 t2615 row17 out18 t2020 k10 t3016 own19) k).trans ((impl_rowsBefore_step12 F list5 places6 t2113 t2214 t2615 row17 out18 t2020 k10 t3016 own19 (nextK (iterS tt (impl_rowsBefore_tab F) (impl_rowsBefore_LS0 F) 70 (impl_rowsBefore_ls12 F) (loopAt 12 (bodyOf Try.f47)) n) k)).trans (congrArg (fun kn => impl_rowsBefore_s12 F list5 places6 t2113 t2214 t2615 row17 out18 t2020 R (k10, t3016, own19) kn _) (funext (fun ⟨k10, t3016, own19⟩ => impl_rowsBefore_iter12 F list5 places6 t2113 t2214 t2615 row17 out18 t2020 k n k10 t3016 own19))))
theorem impl_rowsBefore_lok12 (F : Nat) : LoopOK Try.prog (loopAt 12 (bodyOf Try.f47)) (impl_rowsBefore_ls12 F) := by
  refine loopOK_of mixed ttok deep (impl_rowsBefore_tabok F) (loopsOK_at (impl_rowsBefore_lsok0 F) 12) (fuel := 70) fun R vals mem np killed k x h => ?_
  simp only [impl_rowsBefore_ls12] at h
  split at h
  · rename_i q_out4 list5 places6 k10 q_t2012 t2113 t2214 t2615 t3016 row17 out18 own19 t2020
    simp only [GT.run] at h
    have hc := (cond_noneL h).1
    replace h := (cond_noneL h).2
    have hg := (and_split hc).1
    replace hc := (and_split hc).2
    obtain rfl := nbeq_nat hg
    have hg := (and_split hc).1
    replace hc := (and_split hc).2
    obtain rfl := nbeq_nat hg
    refine ⟨F, (impl_rowsBefore_iter12 F list5 places6 t2113 t2214 t2615 row17 out18 t2020 k F k10 t3016 own19).trans ((loopC_use (impl_rowsBefore_s12_nat F list5 places6 t2113 t2214 t2615 row17 out18 t2020) hc _).trans h)⟩
  · simp only [GT.run] at h
    cases h
noncomputable def impl_rowsBefore_LS1 (F : Nat) : LT := (12, impl_rowsBefore_ls12 F) :: impl_rowsBefore_LS0 F
theorem impl_rowsBefore_lsok1 (F : Nat) : LoopsOK Try.prog (impl_rowsBefore_LS1 F) (bodyOf Try.f47) := loopsOK_cons impl_rowsBefore_keys (impl_rowsBefore_lok12 F) (impl_rowsBefore_lsok0 F)
def impl_rowsBefore_st8 (list5 : List Int) (t218 : Int) (t229 : Int) (row11 : List Int) (t2013 : List (List Int)) (t2610 : Int) (out12 : List (List Int)) : St := ⟨expand 74 0 [1, 3, 5, 20, 21, 22, 26] [(.ptr 0 0 0 4), (.sl 1 0 (List.length out12)), (.ri .i64 list5), (.sl 2 0 (List.length t2013)), (.int .i64 t218), (.int .i64 t229), (.int .i64 t2610)], [(.var 4 (.ri .i64 row11)), (.vec 22 (.rr 4 out12)), (.vec 71 (.rl .i64 t2013))], 0, []⟩
def impl_rowsBefore_o8 (list5 : List Int) (t218 : Int) (t229 : Int) (row11 : List Int) (t2013 : List (List Int)) (x : List (List Int)) : GT := (.out (.exit 2 ⟨expand 74 0 [1, 3, 20, 21, 22] [(.ptr 0 0 0 4), (.sl 1 0 (List.length x)), (.sl 2 0 (List.length t2013)), (.int .i64 t218), (.int .i64 t229)], [(.var 4 (.ri .i64 row11)), (.vec 22 (.rr 4 x)), (.vec 71 (.rl .i64 t2013))], 0, []⟩))
def impl_rowsBefore_ls8 (F : Nat) : LoopS := ⟨74, [1, 3, 5, 20, 21, 22, 26], [], [1, 3, 20, 21, 22], [], [2], [], [], fun vals mem np killed => match vals, mem, np, killed with
  | [(.ptr 0 0 0 4), (.sl 1 0 q_out4), (.ri .i64 list5), (.sl 2 0 q_t207), (.int .i64 t218), (.int .i64 t229), (.int .i64 t2610)], [(.var 4 (.ri .i64 row11)), (.vec 22 (.rr 4 out12)), (.vec 71 (.rl .i64 t2013))], 0, [] => .br ((Nat.beq q_out4 (List.length out12)) && ((Nat.beq q_t207 (List.length t2013)) && (impl_rowsBefore_l8 F list5 t218 t229 row11 t2013 t2610 out12).isSome)) (impl_rowsBefore_o8 list5 t218 t229 row11 t2013 ((impl_rowsBefore_l8 F list5 t218 t229 row11 t2013 t2610 out12).getD default)) .fail
  | _, _, _, _ => .fail⟩
theorem impl_rowsBefore_step8 (F : Nat) (list5 : List Int) (t218 : Int) (t229 : Int) (row11 : List Int) (t2013 : List (List Int)) (t2610 : Int) (out12 : List (List Int)) {R : Type} (k : Out → Option R) : stepS tt (impl_rowsBefore_tab F) (impl_rowsBefore_LS1 F) 70 (impl_rowsBefore_ls8 F) (loopAt 8 (bodyOf Try.f47)) (impl_rowsBefore_st8 list5 t218 t229 row11 t2013 t2610 out12) k = impl_rowsBefore_s8 F list5 t218 t229 row11 t2013 R (t2610, out12) (fun s => k (.norm (impl_rowsBefore_st8 list5 t218 t229 row11 t2013 s.1 s.2))) (fun x => (impl_rowsBefore_o8 list5 t218 t229 row11 t2013 x).run k) := by kernel_rfl
theorem impl_rowsBefore_iter8 (F : Nat) (list5 : List Int) (t218 : Int) (t229 : Int) (row11 : List Int) (t2013 : List (List Int)) {R : Type} (k : Out → Option R) : ∀ (n : Nat) (t2610 : Int) (out12 : List (List Int)), iterS tt (impl_rowsBefore_tab F) (impl_rowsBefore_LS1 F) 70 (impl_rowsBefore_ls8 F) (loopAt 8 (bodyOf Try.f47)) n (impl_rowsBefore_st8 list5 t218 t229 row11 t2013 t2610 out12) k = loopC (impl_rowsBefore_s8 F list5 t218 t229 row11 t2013) n (t2610, out12) (fun x => (impl_rowsBefore_o8 list5 t218 t229 row11 t2013 x).run k)
  | 0, t2610, out12 => rfl
  | n + 1, t2610, out12 => (iterS_succ tt (impl_rowsBefore_tab F) (impl_rowsBefore_LS1 F) 70 (impl_rowsBefore_ls8 F) (loopAt 8 (bodyOf Try.f47)) n (impl_rowsBefore_st8 list5 t218 t229 row11 t2013 t2610 out12) k).trans ((impl_rowsBefore_step8 F list5 t218 t229 row11 t2013 t2610 out12 (nextK (iterS tt (impl_rowsBefore_tab F) (impl_rowsBefore_LS1 F) 70 (impl_rowsBefore_ls8 F) (loopAt 8 (bodyOf Try.f47)) n) k)).trans (congrArg (fun kn => impl_rowsBefore_s8 F list5 t218 t229 row11 t2013 R (t2610, out12) kn _) (funext (fun ⟨t2610, out12⟩ => impl_rowsBefore_iter8 F list5 t218 t229 row11 t2013 k n t2610 out12))))
theorem impl_rowsBefore_lok8 (F : Nat) : LoopOK Try.prog (loopAt 8 (bodyOf Try.f47)) (impl_rowsBefore_ls8 F) := by
  refine loopOK_of mixed ttok deep (impl_rowsBefore_tabok F) (loopsOK_at (impl_rowsBefore_lsok1 F) 8) (fuel := 70) fun R vals mem np killed k x h => ?_
  simp only [impl_rowsBefore_ls8] at h
  split at h
  · rename_i q_out4 list5 q_t207 t218 t229 t2610 row11 out12 t2013
    simp only [GT.run] at h
    have hc := (cond_noneL h).1
    replace h := (cond_noneL h).2
    have hg := (and_split hc).1
    replace hc := (and_split hc).2
    obtain rfl := nbeq_nat hg
    have hg := (and_split hc).1
    replace hc := (and_split hc).2
    obtain rfl := nbeq_nat hg
    refine ⟨F, (impl_rowsBefore_iter8 F list5 t218 t229 row11 t2013 k F t2610 out12).trans ((loopC_use (impl_rowsBefore_s8_nat F list5 t218 t229 row11 t2013) hc _).trans h)⟩
  · simp only [GT.run] at h
    cases h
noncomputable def impl_rowsBefore_LS2 (F : Nat) : LT := (8, impl_rowsBefore_ls8 F) :: impl_rowsBefore_LS1 F
theorem impl_rowsBefore_lsok2 (F : Nat) : LoopsOK Try.prog (impl_rowsBefore_LS2 F) (bodyOf Try.f47) := loopsOK_cons impl_rowsBefore_keys (impl_rowsBefore_lok8 F) (impl_rowsBefore_lsok1 F)
def impl_rowsBefore_st5 (t217 : Int) (row9 : List Int) (t2011 : List (List Int)) (t228 : Int) (out10 : List (List Int)) : St := ⟨expand 74 0 [1, 3, 20, 21, 22] [(.ptr 0 0 0 4), (.sl 1 0 (List.length out10)), (.sl 2 0 (List.length t2011)), (.int .i64 t217), (.int .i64 t228)], [(.var 4 (.ri .i64 row9)), (.vec 22 (.rr 4 out10)), (.vec 71 (.rl .i64 t2011))], 0, []⟩
def impl_rowsBefore_o5 (t217 : Int) (row9 : List Int) (t2011 : List (List Int)) (x : List (List Int)) : GT := (.out (.exit 0 ⟨expand 74 0 [3] [(.sl 0 0 (List.length x))], [(.vec 22 (.rr 4 x))], 0, []⟩))
def impl_rowsBefore_ls5 (F : Nat) : LoopS := ⟨74, [1, 3, 20, 21, 22], [], [3], [], [2], [], [], fun vals mem np killed => match vals, mem, np, killed with
  | [(.ptr 0 0 0 4), (.sl 1 0 q_out4), (.sl 2 0 q_t206), (.int .i64 t217), (.int .i64 t228)], [(.var 4 (.ri .i64 row9)), (.vec 22 (.rr 4 out10)), (.vec 71 (.rl .i64 t2011))], 0, [] => .br ((Nat.beq q_out4 (List.length out10)) && ((Nat.beq q_t206 (List.length t2011)) && (impl_rowsBefore_l5 F t217 row9 t2011 t228 out10).isSome)) (impl_rowsBefore_o5 t217 row9 t2011 ((impl_rowsBefore_l5 F t217 row9 t2011 t228 out10).getD default)) .fail
  | _, _, _, _ => .fail⟩
theorem impl_rowsBefore_step5 (F : Nat) (t217 : Int) (row9 : List Int) (t2011 : List (List Int)) (t228 : Int) (out10 : List (List Int)) {R : Type} (k : Out → Option R) : stepS tt (impl_rowsBefore_tab F) (impl_rowsBefore_LS2 F) 70 (impl_rowsBefore_ls5 F) (loopAt 5 (bodyOf Try.f47)) (impl_rowsBefore_st5 t217 row9 t2011 t228 out10) k = impl_rowsBefore_s5 F t217 row9 t2011 R (t228, out10) (fun s => k (.norm (impl_rowsBefore_st5 t217 row9 t2011 s.1 s.2))) (fun x => (impl_rowsBefore_o5 t217 row9 t2011 x).run k) := by kernel_rfl
theorem impl_rowsBefore_iter5 (F : Nat) (t217 : Int) (row9 : List Int) (t2011 : List (List Int)) {R : Type} (k : Out → Option R) : ∀ (n : Nat) (t228 : Int) (out10 : List (List Int)), iterS tt (impl_rowsBefore_tab F) (impl_rowsBefore_LS2 F) 70 (impl_rowsBefore_ls5 F) (loopAt 5 (bodyOf Try.f47)) n (impl_rowsBefore_st5 t217 row9 t2011 t228 out10) k = loopC (impl_rowsBefore_s5 F t217 row9 t2011) n (t228, out10) (fun x => (impl_rowsBefore_o5 t217 row9 t2011 x).run k)
  | 0, t228, out10 => rfl
  | n + 1, t228, out10 => (iterS_succ tt (impl_rowsBefore_tab F) (impl_rowsBefore_LS2 F) 70 (impl_rowsBefore_ls5 F) (loopAt 5 (bodyOf Try.f47)) n (impl_rowsBefore_st5 t217 row9 t2011 t228 out10) k).trans ((impl_rowsBefore_step5 F t217 row9 t2011 t228 out10 (nextK (iterS tt (impl_rowsBefore_tab F) (impl_rowsBefore_LS2 F) 70 (impl_rowsBefore_ls5 F) (loopAt 5 (bodyOf Try.f47)) n) k)).trans (congrArg (fun kn => impl_rowsBefore_s5 F t217 row9 t2011 R (t228, out10) kn _) (funext (fun ⟨t228, out10⟩ => impl_rowsBefore_iter5 F t217 row9 t2011 k n t228 out10))))
theorem impl_rowsBefore_lok5 (F : Nat) : LoopOK Try.prog (loopAt 5 (bodyOf Try.f47)) (impl_rowsBefore_ls5 F) := by
  refine loopOK_of mixed ttok deep (impl_rowsBefore_tabok F) (loopsOK_at (impl_rowsBefore_lsok2 F) 5) (fuel := 70) fun R vals mem np killed k x h => ?_
  simp only [impl_rowsBefore_ls5] at h
  split at h
  · rename_i q_out4 q_t206 t217 t228 row9 out10 t2011
    simp only [GT.run] at h
    have hc := (cond_noneL h).1
    replace h := (cond_noneL h).2
    have hg := (and_split hc).1
    replace hc := (and_split hc).2
    obtain rfl := nbeq_nat hg
    have hg := (and_split hc).1
    replace hc := (and_split hc).2
    obtain rfl := nbeq_nat hg
    refine ⟨F, (impl_rowsBefore_iter5 F t217 row9 t2011 k F t228 out10).trans ((loopC_use (impl_rowsBefore_s5_nat F t217 row9 t2011) hc _).trans h)⟩
  · simp only [GT.run] at h
    cases h
noncomputable def impl_rowsBefore_LS3 (F : Nat) : LT := (5, impl_rowsBefore_ls5 F) :: impl_rowsBefore_LS2 F
theorem impl_rowsBefore_lsok3 (F : Nat) : LoopsOK Try.prog (impl_rowsBefore_LS3 F) (bodyOf Try.f47) := loopsOK_cons impl_rowsBefore_keys (impl_rowsBefore_lok5 F) (impl_rowsBefore_lsok2 F)
theorem impl_rowsBefore_run (F : Nat) (row0 : List Int) : runS tt (impl_rowsBefore_tab F) (impl_rowsBefore_LS3 F) [] [] Try.f47 (bodyOf Try.f47) 70 [(.ints 4 row0)] [] = impl_rowsBefore_c _ F row0 (fun r => some ⟨(.sl 0 0 r.1), [(.vec 22 (.rr 4 r.2))], []⟩) := by kernel_rfl
def impl_rowsBefore_ent (F : Nat) : Ent := ⟨[], .fresh, fun args mem => match args, mem with
  | [(.ints 4 row0)], [] => some ((impl_rowsBefore_p F row0).isSome, ⟨(.sl 0 0 ((impl_rowsBefore_p F row0).getD default).1), [(.vec 22 (.rr 4 ((impl_rowsBefore_p F row0).getD default).2))], []⟩)
  | _, _ => none⟩
theorem impl_rowsBefore_fok : FunOK Try.prog 47 := funOK Try.func47 (by kernel_rfl) rfl
theorem impl_rowsBefore_meets (F : Nat) : Meets Try.prog 47 (impl_rowsBefore_ent F) := by
  refine meets_of_runS mixed ttok deep (impl_rowsBefore_tabok F) Try.func47 (body_some rfl) (impl_rowsBefore_lsok3 F) fun args mem hfit ret h => ?_
  clear hfit
  simp only [impl_rowsBefore_ent] at h
  split at h
  · rename_i row0
    simp only [Option.some.injEq, Prod.mk.injEq] at h
    obtain ⟨hc, rfl⟩ := h
    exact ⟨[], [], 70, _, (impl_rowsBefore_run F row0).trans ((impl_rowsBefore_cp _ F row0 _).trans (bind_use hc _)), rfl, rfl, rfl⟩
  · cases h

/-! (loop.example/g01194/impl.Board).linesBefore -/
noncomputable def impl_Board_linesBefore_tab (F : Nat) : Tab := [(31, (impl_Board_line_ent F)), (47, (impl_rowsBefore_ent F))]
theorem impl_Board_linesBefore_tabok (F : Nat) : TabOK Try.prog (impl_Board_linesBefore_tab F) := (tab_cons (impl_Board_line_meets F) impl_Board_line_fok (tab_cons (impl_rowsBefore_meets F) impl_rowsBefore_fok tab_nil))
noncomputable def impl_Board_linesBefore_LS0 (F : Nat) : LT := []
theorem impl_Board_linesBefore_lsok0 (F : Nat) : LoopsOK Try.prog (impl_Board_linesBefore_LS0 F) (bodyOf Try.f29) := loopsOK_nil
theorem impl_Board_linesBefore_run (F : Nat) (b0 : List Int) (direction1 : Int) : runS tt (impl_Board_linesBefore_tab F) (impl_Board_linesBefore_LS0 F) [] [] Try.f29 (bodyOf Try.f29) 70 [(.ints 16 b0), (.int .i64 direction1)] [] = impl_Board_linesBefore_c _ F b0 direction1 (fun r => some ⟨(.agg [(.rr 4 r.1), (.rr 4 r.2.1), (.rr 4 r.2.2.1), (.rr 4 r.2.2.2)]), [], []⟩) := by kernel_rfl
def impl_Board_linesBefore_ent (F : Nat) : Ent := ⟨[], .quiet, fun args mem => match args, mem with
  | [(.ints 16 b0), (.int .i64 direction1)], [] => some ((impl_Board_linesBefore_p F b0 direction1).isSome, ⟨(.agg [(.rr 4 ((impl_Board_linesBefore_p F b0 direction1).getD default).1), (.rr 4 ((impl_Board_linesBefore_p F b0 direction1).getD default).2.1), (.rr 4 ((impl_Board_linesBefore_p F b0 direction1).getD default).2.2.1), (.rr 4 ((impl_Board_linesBefore_p F b0 direction1).getD default).2.2.2)]), [], []⟩)
  | _, _ => none⟩
theorem impl_Board_linesBefore_fok : FunOK Try.prog 29 := funOK Try.func29 (by kernel_rfl) rfl
theorem impl_Board_linesBefore_meets (F : Nat) : Meets Try.prog 29 (impl_Board_linesBefore_ent F) := by
  refine meets_of_runS mixed ttok deep (impl_Board_linesBefore_tabok F) Try.func29 (body_some rfl) (impl_Board_linesBefore_lsok0 F) fun args mem hfit ret h => ?_
  clear hfit
  simp only [impl_Board_linesBefore_ent] at h
  split at h
  · rename_i b0 direction1
    simp only [Option.some.injEq, Prod.mk.injEq] at h
    obtain ⟨hc, rfl⟩ := h
    exact ⟨[], [], 70, _, (impl_Board_linesBefore_run F b0 direction1).trans ((impl_Board_linesBefore_cp _ F b0 direction1 _).trans (bind_use hc _)), rfl, rfl, rfl⟩
  · cases h

/-! (loop.example/g01194/impl.Board).withLine -/
noncomputable def impl_Board_withLine_tab (F : Nat) : Tab := [(36, (impl_lineCell_ent F)), (49, (impl_Board_at_ent F))]
theorem impl_Board_withLine_tabok (F : Nat) : TabOK Try.prog (impl_Board_withLine_tab F) := (tab_cons (impl_lineCell_meets F) impl_lineCell_fok (tab_cons (impl_Board_at_meets F) impl_Board_at_fok tab_nil))
noncomputable def impl_Board_withLine_LS0 (F : Nat) : LT := []
theorem impl_Board_withLine_lsok0 (F : Nat) : LoopsOK Try.prog (impl_Board_withLine_LS0 F) (bodyOf Try.f68) := loopsOK_nil
theorem impl_Board_withLine_run (F : Nat) (b0 : List Int) (direction1 : Int) (i2 : Int) (row3 : List Int) : runS tt (impl_Board_withLine_tab F) (impl_Board_withLine_LS0 F) [] [] Try.f68 (bodyOf Try.f68) 70 [(.ints 16 b0), (.int .i64 direction1), (.int .i64 i2), (.ints 4 row3)] [] = impl_Board_withLine_c _ b0 direction1 i2 row3 (fun r => some ⟨(.ints 16 r), [], []⟩) := by kernel_rfl
def impl_Board_withLine_ent (F : Nat) : Ent := ⟨[], .quiet, fun args mem => match args, mem with
  | [(.ints 16 b0), (.int .i64 direction1), (.int .i64 i2), (.ints 4 row3)], [] => some ((impl_Board_withLine_p b0 direction1 i2 row3).isSome, ⟨(.ints 16 ((impl_Board_withLine_p b0 direction1 i2 row3).getD default)), [], []⟩)
  | _, _ => none⟩
theorem impl_Board_withLine_fok : FunOK Try.prog 68 := funOK Try.func68 (by kernel_rfl) rfl
theorem impl_Board_withLine_meets (F : Nat) : Meets Try.prog 68 (impl_Board_withLine_ent F) := by
  refine meets_of_runS mixed ttok deep (impl_Board_withLine_tabok F) Try.func68 (body_some rfl) (impl_Board_withLine_lsok0 F) fun args mem hfit ret h => ?_
  clear hfit
  simp only [impl_Board_withLine_ent] at h
  split at h
  · rename_i b0 direction1 i2 row3
    simp only [Option.some.injEq, Prod.mk.injEq] at h
    obtain ⟨hc, rfl⟩ := h
    exact ⟨[], [], 70, _, (impl_Board_withLine_run F b0 direction1 i2 row3).trans ((impl_Board_withLine_cp _ b0 direction1 i2 row3 _).trans (bind_use hc _)), rfl, rfl, rfl⟩
  · cases h

/-! (loop.example/g01194/impl.Board).slide -/
noncomputable def impl_Board_slide_tab (F : Nat) : Tab := [(31, (impl_Board_line_ent F)), (35, (impl_slideRow_ent F)), (68, (impl_Board_withLine_ent F))]
theorem impl_Board_slide_tabok (F : Nat) : TabOK Try.prog (impl_Board_slide_tab F) := (tab_cons (impl_Board_line_meets F) impl_Board_line_fok (tab_cons (impl_slideRow_meets F) impl_slideRow_fok (tab_cons (impl_Board_withLine_meets F) impl_Board_withLine_fok tab_nil)))
noncomputable def impl_Board_slide_LS0 (F : Nat) : LT := []
theorem impl_Board_slide_lsok0 (F : Nat) : LoopsOK Try.prog (impl_Board_slide_LS0 F) (bodyOf Try.f48) := loopsOK_nil
theorem impl_Board_slide_keys : keysOK (bodyOf Try.f48) = true := by kernel_rfl
def impl_Board_slide_st8 (direction0 : Int) (score10 : Int) (t1712 : Int) (t3713 : List Bool) (b15 : List Int) (out17 : List Int) (mergers11 : Int) (t3814 : Int) : St := ⟨expand 49 0 [1, 2, 4, 7, 8, 9, 17, 37, 38] [(.int .i64 direction0), (.ptr 0 0 0 16), (.ptr 1 0 0 16), (.ptr 2 0 0 16), (.int .i64 score10), (.int .i64 mergers11), (.int .i64 t1712), (.bools 4 t3713), (.int .i64 t3814)], [(.var 16 (.ri .i64 b15)), (.var 16 (.ri .i64 [(0 : Int), (0 : Int), (0 : Int), (0 : Int), (0 : Int), (0 : Int), (0 : Int), (0 : Int), (0 : Int), (0 : Int), (0 : Int), (0 : Int), (0 : Int), (0 : Int), (0 : Int), (0 : Int)])), (.var 16 (.ri .i64 out17))], 0, []⟩
def impl_Board_slide_o8 (direction0 : Int) (score10 : Int) (t1712 : Int) (t3713 : List Bool) (b15 : List Int) (out17 : List Int) (x : Int) : GT := (.out (.exit 2 ⟨expand 49 0 [1, 2, 4, 7, 8, 9, 17] [(.int .i64 direction0), (.ptr 0 0 0 16), (.ptr 1 0 0 16), (.ptr 2 0 0 16), (.int .i64 score10), (.int .i64 x), (.int .i64 t1712)], [(.var 16 (.ri .i64 b15)), (.var 16 (.ri .i64 [(0 : Int), (0 : Int), (0 : Int), (0 : Int), (0 : Int), (0 : Int), (0 : Int), (0 : Int), (0 : Int), (0 : Int), (0 : Int), (0 : Int), (0 : Int), (0 : Int), (0 : Int), (0 : Int)])), (.var 16 (.ri .i64 out17))], 0, []⟩))
def impl_Board_slide_ls8 (F : Nat) : LoopS := ⟨49, [1, 2, 4, 7, 8, 9, 17, 37, 38], [], [1, 2, 4, 7, 8, 9, 17], [], [4, 5, 6], [], [], fun vals mem np killed => match vals, mem, np, killed with
  | [(.int .i64 direction0), (.ptr 0 0 0 16), (.ptr 1 0 0 16), (.ptr 2 0 0 16), (.int .i64 score10), (.int .i64 mergers11), (.int .i64 t1712), (.bools 4 t3713), (.int .i64 t3814)], [(.var 16 (.ri .i64 b15)), (.var 16 (.ri .i64 q_t416)), (.var 16 (.ri .i64 out17))], 0, [] => .br ((q_t416 == ([(0 : Int), (0 : Int), (0 : Int), (0 : Int), (0 : Int), (0 : Int), (0 : Int), (0 : Int), (0 : Int), (0 : Int), (0 : Int), (0 : Int), (0 : Int), (0 : Int), (0 : Int), (0 : Int)] : List Int)) && (impl_Board_slide_l8 F direction0 score10 t1712 t3713 b15 out17 mergers11 t3814).isSome) (impl_Board_slide_o8 direction0 score10 t1712 t3713 b15 out17 ((impl_Board_slide_l8 F direction0 score10 t1712 t3713 b15 out17 mergers11 t3814).getD default)) .fail
  | _, _, _, _ => .fail⟩
theorem impl_Board_slide_step8 (F : Nat) (direction0 : Int) (score10 : Int) (t1712 : Int) (t3713 : List Bool) (b15 : List Int) (out17 : List Int) (mergers11 : Int) (t3814 : Int) {R : Type} (k : Out → Option R) : stepS tt (impl_Board_slide_tab F) (impl_Board_slide_LS0 F) 70 (impl_Board_slide_ls8 F) (loopAt 8 (bodyOf Try.f48)) (impl_Board_slide_st8 direction0 score10 t1712 t3713 b15 out17 mergers11 t3814) k = impl_Board_slide_s8 F direction0 score10 t1712 t3713 b15 out17 R (mergers11, t3814) (fun s => k (.norm (impl_Board_slide_st8 direction0 score10 t1712 t3713 b15 out17 s.1 s.2))) (fun x => (impl_Board_slide_o8 direction0 score10 t1712 t3713 b15 out17 x).run k) := by kernel_rfl
theorem impl_Board_slide_iter8 (F : Nat) (direction0 : Int) (score10 : Int) (t1712 : Int) (t3713 : List Bool) (b15 : List Int) (out17 : List Int) {R : Type} (k : Out → Option R) : ∀ (n : Nat) (mergers11 : Int) (t3814 : Int), iterS tt (impl_Board_slide_tab F) (impl_Board_slide_LS0 F) 70 (impl_Board_slide_ls8 F) (loopAt 8 (bodyOf Try.f48)) n (impl_Board_slide_st8 direction0 score10 t1712 t3713 b15 out17 mergers11 t3814) k = loopC (impl_Board_slide_s8 F direction0 score10 t1712 t3713 b15 out17) n (mergers11, t3814) (fun x => (impl_Board_slide_o8 direction0 score10 t1712 t3713 b15 out17 x).run k)
  | 0, mergers11, t3814 => rfl
  | n + 1, mergers11, t3814 => (iterS_succ tt (impl_Board_slide_tab F) (impl_Board_slide_LS0 F) 70 (impl_Board_slide_ls8 F) (loopAt 8 (bodyOf Try.f48)) n (impl_Board_slide_st8 direction0 score10 t1712 t3713 b15 out17 mergers11 t3814) k).trans ((impl_Board_slide_step8 F direction0 score10 t1712 t3713 b15 out17 mergers11 t3814 (nextK (iterS tt (impl_Board_slide_tab F) (impl_Board_slide_LS0 F) 70 (impl_Board_slide_ls8 F) (loopAt 8 (bodyOf Try.f48)) n) k)).trans (congrArg (fun kn => impl_Board_slide_s8 F direction0 score10 t1712 t3713 b15 out17 R (mergers11, t3814) kn _) (funext (fun ⟨mergers11, t3814⟩ => impl_Board_slide_iter8 F direction0 score10 t1712 t3713 b15 out17 k n mergers11 t3814))))
theorem impl_Board_slide_lok8 (F : Nat) : LoopOK Try.prog (loopAt 8 (bodyOf Try.f48)) (impl_Board_slide_ls8 F) := by
  refine loopOK_of mixed ttok deep (impl_Board_slide_tabok F) (loopsOK_at (impl_Board_slide_lsok0 F) 8) (fuel := 70) fun R vals mem np killed k x h => ?_
  simp only [impl_Board_slide_ls8] at h
  split at h
  · rename_i direction0 score10 mergers11 t1712 t3713 t3814 b15 q_t416 out17
    simp only [GT.run] at h
    have hc := (cond_noneL h).1
    replace h := (cond_noneL h).2
    have hg := (and_split hc).1
    replace hc := (and_split hc).2
    obtain rfl := beq_li hg
    refine ⟨F, (impl_Board_slide_iter8 F direction0 score10 t1712 t3713 b15 out17 k F mergers11 t3814).trans ((loopC_use (impl_Board_slide_s8_nat F direction0 score10 t1712 t3713 b15 out17) hc _).trans h)⟩
  · simp only [GT.run] at h
    cases h
noncomputable def impl_Board_slide_LS1 (F : Nat) : LT := (8, impl_Board_slide_ls8 F) :: impl_Board_slide_LS0 F
theorem impl_Board_slide_lsok1 (F : Nat) : LoopsOK Try.prog (impl_Board_slide_LS1 F) (bodyOf Try.f48) := loopsOK_cons impl_Board_slide_keys (impl_Board_slide_lok8 F) (impl_Board_slide_lsok0 F)
def impl_Board_slide_st3 (direction0 : Int) (b13 : List Int) (score10 : Int) (mergers11 : Int) (t1712 : Int) (out15 : List Int) : St := ⟨expand 49 0 [1, 2, 4, 7, 8, 9, 17] [(.int .i64 direction0), (.ptr 0 0 0 16), (.ptr 1 0 0 16), (.ptr 2 0 0 16), (.int .i64 score10), (.int .i64 mergers11), (.int .i64 t1712)], [(.var 16 (.ri .i64 b13)), (.var 16 (.ri .i64 [(0 : Int), (0 : Int), (0 : Int), (0 : Int), (0 : Int), (0 : Int), (0 : Int), (0 : Int), (0 : Int), (0 : Int), (0 : Int), (0 : Int), (0 : Int), (0 : Int), (0 : Int), (0 : Int)])), (.var 16 (.ri .i64 out15))], 0, []⟩
def impl_Board_slide_o3 (direction0 : Int) (b13 : List Int) (x : Int × Int × List Int) : GT := (.out (.exit 0 ⟨expand 49 0 [4, 7, 8, 9] [(.ptr 0 0 0 16), (.ptr 1 0 0 16), (.int .i64 x.1), (.int .i64 x.2.1)], [(.var 16 (.ri .i64 [(0 : Int), (0 : Int), (0 : Int), (0 : Int), (0 : Int), (0 : Int), (0 : Int), (0 : Int), (0 : Int), (0 : Int), (0 : Int), (0 : Int), (0 : Int), (0 : Int), (0 : Int), (0 : Int)])), (.var 16 (.ri .i64 x.2.2))], 0, []⟩))
def impl_Board_slide_ls3 (F : Nat) : LoopS := ⟨49, [1, 2, 4, 7, 8, 9, 17], [], [4, 7, 8, 9], [], [4, 5, 6], [], [], fun vals mem np killed => match vals, mem, np, killed with
  | [(.int .i64 direction0), (.ptr 0 0 0 16), (.ptr 1 0 0 16), (.ptr 2 0 0 16), (.int .i64 score10), (.int .i64 mergers11), (.int .i64 t1712)], [(.var 16 (.ri .i64 b13)), (.var 16 (.ri .i64 q_t414)), (.var 16 (.ri .i64 out15))], 0, [] => .br ((q_t414 == ([(0 : Int), (0 : Int), (0 : Int), (0 : Int), (0 : Int), (0 : Int), (0 : Int), (0 : Int), (0 : Int), (0 : Int), (0 : Int), (0 : Int), (0 : Int), (0 : Int), (0 : Int), (0 : Int)] : List Int)) && (impl_Board_slide_l3 F direction0 b13 score10 mergers11 t1712 out15).isSome) (impl_Board_slide_o3 direction0 b13 ((impl_Board_slide_l3 F direction0 b13 score10 mergers11 t1712 out15).getD default)) .fail
  | _, _, _, _ => .fail⟩
theorem impl_Board_slide_step3 (F : Nat) (direction0 : Int) (b13 : List Int) (score10 : Int) (mergers11 : Int) (t1712 : Int) (out15 : List Int) {R : Type} (k : Out → Option R) : stepS tt (impl_Board_slide_tab F) (impl_Board_slide_LS1 F) 70 (impl_Board_slide_ls3 F) (loopAt 3 (bodyOf Try.f48)) (impl_Board_slide_st3 direction0 b13 score10 mergers11 t1712 out15) k = impl_Board_slide_s3 F direction0 b13 R (score10, mergers11, t1712, out15) (fun s => k (.norm (impl_Board_slide_st3 direction0 b13 s.1 s.2.1 s.2.2.1 s.2.2.2))) (fun x => (impl_Board_slide_o3 direction0 b13 x).run k) := by kernel_rfl
theorem impl_Board_slide_iter3 (F : Nat) (direction0 : Int) (b13 : List Int) {R : Type} (k : Out → Option R) : ∀ (n : Nat) (score10 : Int) (mergers11 : Int) (t1712 : Int) (out15 : List Int), iterS tt (impl_Board_slide_tab F) (impl_Board_slide_LS1 F) 70 (impl_Board_slide_ls3 F) (loopAt 3 (bodyOf Try.f48)) n (impl_Board_slide_st3 direction0 b13 score10 mergers11 t1712 out15) k = loopC (impl_Board_slide_s3 F direction0 b13) n (score10, mergers11, t1712, out15) (fun x => (impl_Board_slide_o3 direction0 b13 x).run k)
  | 0, score10, mergers11, t1712, out15 => rfl
  | n + 1, score10, mergers11, t1712, out15 => (iterS_succ tt (impl_Board_slide_tab F) (impl_Board_slide_LS1 F) 70 (impl_Board_slide_ls3 F) (loopAt 3 (bodyOf Try.f48)) n (impl_Board_slide_st3 direction0 b13 score10 mergers11 t1712 out15) k).trans ((impl_Board_slide_step3 F direction0 b13 score10 mergers11 t1712 out15 (nextK (iterS tt (impl_Board_slide_tab F) (impl_Board_slide_LS1 F) 70 (impl_Board_slide_ls3 F) (loopAt 3 (bodyOf Try.f48)) n) k)).trans (congrArg (fun kn => impl_Board_slide_s3 F direction0 b13 R (score10, mergers11, t1712, out15) kn _) (funext (fun ⟨score10, mergers11, t1712, out15⟩ => impl_Board_slide_iter3 F direction0 b13 k n score10 mergers11 t1712 out15))))
theorem impl_Board_slide_lok3 (F : Nat) : LoopOK Try.prog (loopAt 3 (bodyOf Try.f48)) (impl_Board_slide_ls3 F) := by
  refine loopOK_of mixed ttok deep (impl_Board_slide_tabok F) (loopsOK_at (impl_Board_slide_lsok1 F) 3) (fuel := 70) fun R vals mem np killed k x h => ?_
  simp only [impl_Board_slide_ls3] at h
  split at h
  · rename_i direction0 score10 mergers11 t1712 b13 q_t414 out15
    simp only [GT.run] at h
    have hc := (cond_noneL h).1
    replace h := (cond_noneL h).2
    have hg := (and_split hc).1
    replace hc := (and_split hc).2
    obtain rfl := beq_li hg
    refine ⟨F, (impl_Board_slide_iter3 F direction0 b13 k F score10 mergers11 t1712 out15).trans ((loopC_use (impl_Board_slide_s3_nat F direction0 b13) hc _).trans h)⟩
  · simp only [GT.run] at h
    cases h
noncomputable def impl_Board_slide_LS2 (F : Nat) : LT := (3, impl_Board_slide_ls3 F) :: impl_Board_slide_LS1 F
theorem impl_Board_slide_lsok2 (F : Nat) : LoopsOK Try.prog (impl_Board_slide_LS2 F) (bodyOf Try.f48) := loopsOK_cons impl_Board_slide_keys (impl_Board_slide_lok3 F) (impl_Board_slide_lsok1 F)
theorem impl_Board_slide_run (F : Nat) (b0 : List Int) (direction1 : Int) : runS tt (impl_Board_slide_tab F) (impl_Board_slide_LS2 F) [] [] Try.f48 (bodyOf Try.f48) 70 [(.ints 16 b0), (.int .i64 direction1)] [] = impl_Board_slide_c _ F b0 direction1 (fun r => some ⟨(.tup [(.ints 16 r.1), (.int .i64 r.2.1), (.int .i64 r.2.2)]), [], []⟩) := by kernel_rfl
def impl_Board_slide_ent (F : Nat) : Ent := ⟨[], .quiet, fun args mem => match args, mem with
  | [(.ints 16 b0), (.int .i64 direction1)], [] => some ((impl_Board_slide_p F b0 direction1).isSome, ⟨(.tup [(.ints 16 ((impl_Board_slide_p F b0 direction1).getD default).1), (.int .i64 ((impl_Board_slide_p F b0 direction1).getD default).2.1), (.int .i64 ((impl_Board_slide_p F b0 direction1).getD default).2.2)]), [], []⟩)
  | _, _ => none⟩
theorem impl_Board_slide_fok : FunOK Try.prog 48 := funOK Try.func48 (by kernel_rfl) rfl
theorem impl_Board_slide_meets (F : Nat) : Meets Try.prog 48 (impl_Board_slide_ent F) := by
  refine meets_of_runS mixed ttok deep (impl_Board_slide_tabok F) Try.func48 (body_some rfl) (impl_Board_slide_lsok2 F) fun args mem hfit ret h => ?_
  clear hfit
  simp only [impl_Board_slide_ent] at h
  split at h
  · rename_i b0 direction1
    simp only [Option.some.injEq, Prod.mk.injEq] at h
    obtain ⟨hc, rfl⟩ := h
    exact ⟨[], [], 70, _, (impl_Board_slide_run F b0 direction1).trans ((impl_Board_slide_cp _ F b0 direction1 _).trans (bind_use hc _)), rfl, rfl, rfl⟩
  · cases h

/-! (loop.example/g01194/impl.Board).slides -/
noncomputable def impl_Board_slides_tab (F : Nat) : Tab := [(48, (impl_Board_slide_ent F))]
theorem impl_Board_slides_tabok (F : Nat) : TabOK Try.prog (impl_Board_slides_tab F) := (tab_cons (impl_Board_slide_meets F) impl_Board_slide_fok tab_nil)
noncomputable def impl_Board_slides_LS0 (F : Nat) : LT := []
theorem impl_Board_slides_lsok0 (F : Nat) : LoopsOK Try.prog (impl_Board_slides_LS0 F) (bodyOf Try.f30) := loopsOK_nil
theorem impl_Board_slides_keys : keysOK (bodyOf Try.f30) = true := by kernel_rfl
def impl_Board_slides_st2 (t76 : List Int) (t87 : Int) (t98 : Int) (b9 : List Int) : St := ⟨expand 22 0 [2, 4, 7, 8, 9] [(.ptr 0 0 0 16), (.ptr 1 0 0 16), (.ri .i64 t76), (.int .i64 t87), (.int .i64 t98)], [(.var 16 (.ri .i64 b9)), (.var 16 (.ri .i64 [(0 : Int), (0 : Int), (0 : Int), (0 : Int), (0 : Int), (0 : Int), (0 : Int), (0 : Int), (0 : Int), (0 : Int), (0 : Int), (0 : Int), (0 : Int), (0 : Int), (0 : Int), (0 : Int)]))], 0, []⟩
def impl_Board_slides_o2 (t76 : List Int) (t87 : Int) (x : List Int) : GT := (.out (.exit 0 ⟨expand 22 0 [2, 4] [(.ptr 0 0 0 16), (.ptr 1 0 0 16)], [(.var 16 (.ri .i64 x)), (.var 16 (.ri .i64 [(0 : Int), (0 : Int), (0 : Int), (0 : Int), (0 : Int), (0 : Int), (0 : Int), (0 : Int), (0 : Int), (0 : Int), (0 : Int), (0 : Int), (0 : Int), (0 : Int), (0 : Int), (0 : Int)]))], 0, []⟩))
def impl_Board_slides_ls2 (F : Nat) : LoopS := ⟨22, [2, 4, 7, 8, 9], [], [2, 4], [], [4], [], [], fun vals mem np killed => match vals, mem, np, killed with
  | [(.ptr 0 0 0 16), (.ptr 1 0 0 16), (.ri .i64 t76), (.int .i64 t87), (.int .i64 t98)], [(.var 16 (.ri .i64 b9)), (.var 16 (.ri .i64 q_t410))], 0, [] => .br ((q_t410 == ([(0 : Int), (0 : Int), (0 : Int), (0 : Int), (0 : Int), (0 : Int), (0 : Int), (0 : Int), (0 : Int), (0 : Int), (0 : Int), (0 : Int), (0 : Int), (0 : Int), (0 : Int), (0 : Int)] : List Int)) && (impl_Board_slides_l2 F t76 t87 t98 b9).isSome) (impl_Board_slides_o2 t76 t87 ((impl_Board_slides_l2 F t76 t87 t98 b9).getD default)) .fail
  | _, _, _, _ => .fail⟩
theorem impl_Board_slides_step2 (F : Nat) (t76 : List Int) (t87 : Int) (t98 : Int) (b9 : List Int) {R : Type} (k : Out → Option R) : stepS tt (impl_Board_slides_tab F) (impl_Board_slides_LS0 F) 70 (impl_Board_slides_ls2 F) (loopAt 2 (bodyOf Try.f30)) (impl_Board_slides_st2 t76 t87 t98 b9) k = impl_Board_slides_s2 F t76 t87 R (t98, b9) (fun s => k (.norm (impl_Board_slides_st2 t76 t87 s.1 s.2))) (fun x => (impl_Board_slides_o2 t76 t87 x).run k) := by kernel_rfl
theorem impl_Board_slides_iter2 (F : Nat) (t76 : List Int) (t87 : Int) {R : Type} (k : Out → Option R) : ∀ (n : Nat) (t98 : Int) (b9 : List Int), iterS tt (impl_Board_slides_tab F) (impl_Board_slides_LS0 F) 70 (impl_Board_slides_ls2 F) (loopAt 2 (bodyOf Try.f30)) n (impl_Board_slides_st2 t76 t87 t98 b9) k = loopC (impl_Board_slides_s2 F t76 t87) n (t98, b9) (fun x => (impl_Board_slides_o2 t76 t87 x).run k)
  | 0, t98, b9 => rfl
  | n + 1, t98, b9 => (iterS_succ tt (impl_Board_slides_tab F) (impl_Board_slides_LS0 F) 70 (impl_Board_slides_ls2 F) (loopAt 2 (bodyOf Try.f30)) n (impl_Board_slides_st2 t76 t87 t98 b9) k).trans ((impl_Board_slides_step2 F t76 t87 t98 b9 (nextK (iterS tt (impl_Board_slides_tab F) (impl_Board_slides_LS0 F) 70 (impl_Board_slides_ls2 F) (loopAt 2 (bodyOf Try.f30)) n) k)).trans (congrArg (fun kn => impl_Board_slides_s2 F t76 t87 R (t98, b9) kn _) (funext (fun ⟨t98, b9⟩ => impl_Board_slides_iter2 F t76 t87 k n t98 b9))))
theorem impl_Board_slides_lok2 (F : Nat) : LoopOK Try.prog (loopAt 2 (bodyOf Try.f30)) (impl_Board_slides_ls2 F) := by
  refine loopOK_of mixed ttok deep (impl_Board_slides_tabok F) (loopsOK_at (impl_Board_slides_lsok0 F) 2) (fuel := 70) fun R vals mem np killed k x h => ?_
  simp only [impl_Board_slides_ls2] at h
  split at h
  · rename_i t76 t87 t98 b9 q_t410
    simp only [GT.run] at h
    have hc := (cond_noneL h).1
    replace h := (cond_noneL h).2
    have hg := (and_split hc).1
    replace hc := (and_split hc).2
    obtain rfl := beq_li hg
    refine ⟨F, (impl_Board_slides_iter2 F t76 t87 k F t98 b9).trans ((loopC_use (impl_Board_slides_s2_nat F t76 t87) hc _).trans h)⟩
  · simp only [GT.run] at h
    cases h
noncomputable def impl_Board_slides_LS1 (F : Nat) : LT := (2, impl_Board_slides_ls2 F) :: impl_Board_slides_LS0 F
theorem impl_Board_slides_lsok1 (F : Nat) : LoopsOK Try.prog (impl_Board_slides_LS1 F) (bodyOf Try.f30) := loopsOK_cons impl_Board_slides_keys (impl_Board_slides_lok2 F) (impl_Board_slides_lsok0 F)
theorem impl_Board_slides_run (F : Nat) (b0 : List Int) (list1 : List Int) : runS tt (impl_Board_slides_tab F) (impl_Board_slides_LS1 F) [] [] Try.f30 (bodyOf Try.f30) 70 [(.ints 16 b0), (.ri .i64 list1)] [] = impl_Board_slides_c _ F b0 list1 (fun r => some ⟨(.ints 16 r), [], []⟩) := by kernel_rfl
def impl_Board_slides_ent (F : Nat) : Ent := ⟨[], .quiet, fun args mem => match args, mem with
  | [(.ints 16 b0), (.ri .i64 list1)], [] => some ((impl_Board_slides_p F b0 list1).isSome, ⟨(.ints 16 ((impl_Board_slides_p F b0 list1).getD default)), [], []⟩)
  | _, _ => none⟩
theorem impl_Board_slides_fok : FunOK Try.prog 30 := funOK Try.func30 (by kernel_rfl) rfl
theorem impl_Board_slides_meets (F : Nat) : Meets Try.prog 30 (impl_Board_slides_ent F) := by
  refine meets_of_runS mixed ttok deep (impl_Board_slides_tabok F) Try.func30 (body_some rfl) (impl_Board_slides_lsok1 F) fun args mem hfit ret h => ?_
  clear hfit
  simp only [impl_Board_slides_ent] at h
  split at h
  · rename_i b0 list1
    simp only [Option.some.injEq, Prod.mk.injEq] at h
    obtain ⟨hc, rfl⟩ := h
    exact ⟨[], [], 70, _, (impl_Board_slides_run F b0 list1).trans ((impl_Board_slides_cp _ F b0 list1 _).trans (bind_use hc _)), rfl, rfl, rfl⟩
  · cases h

/-! (loop.example/g01194/impl.Board).countBefore -/
noncomputable def impl_Board_countBefore_tab (F : Nat) : Tab := [(29, (impl_Board_linesBefore_ent F)), (30, (impl_Board_slides_ent F))]
theorem impl_Board_countBefore_tabok (F : Nat) : TabOK Try.prog (impl_Board_countBefore_tab F) := (tab_cons (impl_Board_linesBefore_meets F) impl_Board_linesBefore_fok (tab_cons (impl_Board_slides_meets F) impl_Board_slides_fok tab_nil))
noncomputable def impl_Board_countBefore_LS0 (F : Nat) : LT := []
theorem impl_Board_countBefore_lsok0 (F : Nat) : LoopsOK Try.prog (impl_Board_countBefore_LS0 F) (bodyOf Try.f28) := loopsOK_nil
theorem impl_Board_countBefore_run (F : Nat) (b0 : List Int) (direction1 : Int) : runS tt (impl_Board_countBefore_tab F) (impl_Board_countBefore_LS0 F) [] [] Try.f28 (bodyOf Try.f28) 70 [(.ints 16 b0), (.int .i64 direction1)] [] = impl_Board_countBefore_c _ F b0 direction1 (fun r => some ⟨(.int .i64 r), [], []⟩) := by kernel_rfl
def impl_Board_countBefore_ent (F : Nat) : Ent := ⟨[], .quiet, fun args mem => match args, mem with
  | [(.ints 16 b0), (.int .i64 direction1)], [] => some ((impl_Board_countBefore_p F b0 direction1).isSome, ⟨(.int .i64 ((impl_Board_countBefore_p F b0 direction1).getD default)), [], []⟩)
  | _, _ => none⟩
theorem impl_Board_countBefore_fok : FunOK Try.prog 28 := funOK Try.func28 (by kernel_rfl) rfl
theorem impl_Board_countBefore_meets (F : Nat) : Meets Try.prog 28 (impl_Board_countBefore_ent F) := by
  refine meets_of_runS mixed ttok deep (impl_Board_countBefore_tabok F) Try.func28 (body_some rfl) (impl_Board_countBefore_lsok0 F) fun args mem hfit ret h => ?_
  clear hfit
  simp only [impl_Board_countBefore_ent] at h
  split at h
  · rename_i b0 direction1
    simp only [Option.some.injEq, Prod.mk.injEq] at h
    obtain ⟨hc, rfl⟩ := h
    exact ⟨[], [], 70, _, (impl_Board_countBefore_run F b0 direction1).trans ((impl_Board_countBefore_cp _ F b0 direction1 _).trans (bind_use hc _)), rfl, rfl, rfl⟩
  · cases h

/-! slices.Clone[[][4]int,[4]int] -/
def slices_Clone_4int4int_ent (F : Nat) : Ent := ⟨[], .fresh, fun args mem => match args, mem with
  | [(.rr 4 xs)], [] => some (fits xs.length 32, ⟨.sl 0 0 xs.length, [.vec 22 (.rr 4 xs)], []⟩)
  | _, _ => none⟩
theorem slices_Clone_4int4int_fok : FunOK Try.prog 33 := funOK Try.func33 (by kernel_rfl) rfl
theorem slices_Clone_4int4int_meets (F : Nat) : Meets Try.prog 33 (slices_Clone_4int4int_ent F) := by
  have hb : Try.f33.body = some (.seq _ (.seq (.seq (.region _ #[_, _] false) _) _)) := rfl
  refine meets_nil (fuel := 70) (fn := Try.f33) mixed ttok deep tab_nil Try.func33 hb loopsOK_nil rfl rfl rfl rfl rfl rfl Try.underlying43 fun args mem hfit ret hg => ?_
  clear hfit
  simp only [slices_Clone_4int4int_ent] at hg
  split at hg
  · rename_i xs
    simp only [Option.some.injEq, Prod.mk.injEq] at hg
    obtain ⟨hc, rfl⟩ := hg
    refine ⟨⟨[(.rr 4 xs), .undef, .z0, .undef, .undef, .undef, .undef, .undef], [], 0, []⟩, fun R k => by kernel_rfl, rfl, Nat.le_of_ble_eq_true rfl, fun b hb => ?_⟩
    cases b with
    | true =>
      obtain rfl : xs = [] := List.eq_nil_of_length_eq_zero (hb rfl)
      exact ⟨[⟨2, 22, (.rr 4 [])⟩], [], _, (by kernel_rfl : _ = some ⟨.sl 0 0 0, [.vec 22 (.rr 4 [])], []⟩), rfl, rfl, rfl⟩
    | false =>
      refine ⟨[], [], ⟨.sl 0 0 xs.length, [.vec 22 (.rr 4 xs)], []⟩, Eq.trans (by kernel_rfl : _ = bif fits xs.length 32 then some (⟨.sl 0 0 xs.length, [.vec 22 (.rr 4 xs)], []⟩ : Ret) else none) ?_, rfl, rfl, rfl⟩
      rw [hc]; rfl
  · cases hg

/-! (loop.example/g01194/impl.Board).merged$1 -/
noncomputable def impl_Board_merged_f1_tab (F : Nat) : Tab := []
theorem impl_Board_merged_f1_tabok (F : Nat) : TabOK Try.prog (impl_Board_merged_f1_tab F) := tab_nil
noncomputable def impl_Board_merged_f1_LS0 (F : Nat) : LT := []
theorem impl_Board_merged_f1_lsok0 (F : Nat) : LoopsOK Try.prog (impl_Board_merged_f1_LS0 F) (bodyOf Try.f34) := loopsOK_nil
theorem impl_Board_merged_f1_run (F : Nat) (row0 : List Int) (a14 : List Int) : runS tt (impl_Board_merged_f1_tab F) (impl_Board_merged_f1_LS0 F) [] [] Try.f34 (bodyOf Try.f34) 70 [(.ints 4 row0), (.ptr 0 0 0 4)] [(.var 4 (.ri .i64 a14))] = impl_Board_merged_f1_c _ row0 a14 (fun r => some ⟨(.bool r), [(.var 4 (.ri .i64 a14))], []⟩) := by kernel_rfl
def impl_Board_merged_f1_ent (F : Nat) : Ent := ⟨[], .quiet, fun args mem => match args, mem with
  | [(.ints 4 row0), (.ptr 0 0 0 4)], [(.var 4 (.ri .i64 a14))] => some (true, ⟨(.bool (impl_Board_merged_f1_v row0 a14)), [], []⟩)
  | _, _ => none⟩
theorem impl_Board_merged_f1_fok : FunOK Try.prog 34 := funOK Try.func34 (by kernel_rfl) rfl
theorem impl_Board_merged_f1_meets (F : Nat) : Meets Try.prog 34 (impl_Board_merged_f1_ent F) := by
  refine meets_of_runS mixed ttok deep (impl_Board_merged_f1_tabok F) Try.func34 (body_some rfl) (impl_Board_merged_f1_lsok0 F) fun args mem hfit ret h => ?_
  clear hfit
  simp only [impl_Board_merged_f1_ent] at h
  split at h
  · rename_i row0 a14
    simp only [Option.some.injEq, Prod.mk.injEq] at h
    obtain ⟨hc, rfl⟩ := h
    exact ⟨[], [], 70, _, (impl_Board_merged_f1_run F row0 a14).trans (impl_Board_merged_f1_cv _ row0 a14 _), rfl, rfl, rfl⟩
  · cases h

/-! slices.IndexFunc[[][4]int,[4]int] -/
noncomputable def slices_IndexFunc_4int4int_impl_Board_merged_f1_tab (F : Nat) : Tab := [(34, (impl_Board_merged_f1_ent F))]
theorem slices_IndexFunc_4int4int_impl_Board_merged_f1_tabok (F : Nat) : TabOK Try.prog (slices_IndexFunc_4int4int_impl_Board_merged_f1_tab F) := (tab_cons (impl_Board_merged_f1_meets F) impl_Board_merged_f1_fok tab_nil)
noncomputable def slices_IndexFunc_4int4int_impl_Board_merged_f1_LS0 (F : Nat) : LT := []
theorem slices_IndexFunc_4int4int_impl_Board_merged_f1_lsok0 (F : Nat) : LoopsOK Try.prog (slices_IndexFunc_4int4int_impl_Board_merged_f1_LS0 F) (bodyOf Try.f50) := loopsOK_nil
theorem slices_IndexFunc_4int4int_impl_Board_merged_f1_keys : keysOK (bodyOf Try.f50) = true := by kernel_rfl
def slices_IndexFunc_4int4int_impl_Board_merged_f1_st2 (s0 : List (List Int)) (t74 : Int) (f6 : List Int) (t85 : Int) : St := ⟨expand 19 0 [0, 1, 7, 8] [(.rr 4 s0), (.fn 34 [] [(.ptr 0 0 0 4)]), (.int .i64 t74), (.int .i64 t85)], [(.var 4 (.ri .i64 f6))], 1, []⟩
def slices_IndexFunc_4int4int_impl_Board_merged_f1_o2 (s0 : List (List Int)) (t74 : Int) (f6 : List Int) (x : Bool × Int) : GT := (.br x.1 (.out (.ret ⟨expand 19 0 [4] [(.int .i64 x.2)], [(.var 4 (.ri .i64 f6))], 1, []⟩)) (.out (.exit 0 ⟨expand 19 0 [] [], [(.var 4 (.ri .i64 f6))], 1, []⟩)))
def slices_IndexFunc_4int4int_impl_Board_merged_f1_ls2 (F : Nat) : LoopS := ⟨19, [0, 1, 7, 8], [], [], [], [4], [], [], fun vals mem np killed => match vals, mem, np, killed with
  | [(.rr 4 s0), (.fn 34 [] [(.ptr 0 0 0 4)]), (.int .i64 t74), (.int .i64 t85)], [(.var 4 (.ri .i64 f6))], 1, [] => .br (slices_IndexFunc_4int4int_impl_Board_merged_f1_l2 F s0 t74 f6 t85).isSome (slices_IndexFunc_4int4int_impl_Board_merged_f1_o2 s0 t74 f6 ((slices_IndexFunc_4int4int_impl_Board_merged_f1_l2 F s0 t74 f6 t85).getD default)) .fail
  | _, _, _, _ => .fail⟩
theorem slices_IndexFunc_4int4int_impl_Board_merged_f1_step2 (F : Nat) (s0 : List (List Int)) (t74 : Int) (f6 : List Int) (t85 : Int) {R : Type} (k : Out → Option R) : stepS tt (slices_IndexFunc_4int4int_impl_Board_merged_f1_tab F) (slices_IndexFunc_4int4int_impl_Board_merged_f1_LS0 F) 70 (slices_IndexFunc_4int4int_impl_Board_merged_f1_ls2 F) (loopAt 2 (bodyOf Try.f50)) (slices_IndexFunc_4int4int_impl_Board_merged_f1_st2 s0 t74 f6 t85) k = slices_IndexFunc_4int4int_impl_Board_merged_f1_s2 F s0 t74 f6 R t85 (fun s => k (.norm (slices_IndexFunc_4int4int_impl_Board_merged_f1_st2 s0 t74 f6 s))) (fun x => (slices_IndexFunc_4int4int_impl_Board_merged_f1_o2 s0 t74 f6 x).run k) := by kernel_rfl
theorem slices_IndexFunc_4int4int_impl_Board_merged_f1_iter2 (F : Nat) (s0 : List (List Int)) (t74 : Int) (f6 : List Int) {R : Type} (k : Out → Option R) : ∀ (n : Nat) (t85 : Int), iterS tt (slices_IndexFunc_4int4int_impl_Board_merged_f1_tab F) (slices_IndexFunc_4int4int_impl_Board_merged_f1_LS0 F) 70 (slices_IndexFunc_4int4int_impl_Board_merged_f1_ls2 F) (loopAt 2 (bodyOf Try.f50)) n (slices_IndexFunc_4int4int_impl_Board_merged_f1_st2 s0 t74 f6 t85) k = loopC (slices_IndexFunc_4int4int_impl_Board_merged_f1_s2 F s0 t74 f6) n t85 (fun x => (slices_IndexFunc_4int4int_impl_Board_merged_f1_o2 s0 t74 f6 x).run k)
  | 0, t85 => rfl
  | n + 1, t85 => (iterS_succ tt (slices_IndexFunc_4int4int_impl_Board_merged_f1_tab F) (slices_IndexFunc_4int4int_impl_Board_merged_f1_LS0 F) 70 (slices_IndexFunc_4int4int_impl_Board_merged_f1_ls2 F) (loopAt 2 (bodyOf Try.f50)) n (slices_IndexFunc_4int4int_impl_Board_merged_f1_st2 s0 t74 f6 t85) k).trans ((slices_IndexFunc_4int4int_impl_Board_merged_f1_step2 F s0 t74 f6 t85 (nextK (iterS tt (slices_IndexFunc_4int4int_impl_Board_merged_f1_tab F) (slices_IndexFunc_4int4int_impl_Board_merged_f1_LS0 F) 70 (slices_IndexFunc_4int4int_impl_Board_merged_f1_ls2 F) (loopAt 2 (bodyOf Try.f50)) n) k)).trans (congrArg (fun kn => slices_IndexFunc_4int4int_impl_Board_merged_f1_s2 F s0 t74 f6 R t85 kn _) (funext (fun t85 => slices_IndexFunc_4int4int_impl_Board_merged_f1_iter2 F s0 t74 f6 k n t85))))
theorem slices_IndexFunc_4int4int_impl_Board_merged_f1_lok2 (F : Nat) : LoopOK Try.prog (loopAt 2 (bodyOf Try.f50)) (slices_IndexFunc_4int4int_impl_Board_merged_f1_ls2 F) := by
  refine loopOK_of mixed ttok deep (slices_IndexFunc_4int4int_impl_Board_merged_f1_tabok F) (loopsOK_at (slices_IndexFunc_4int4int_impl_Board_merged_f1_lsok0 F) 2) (fuel := 70) fun R vals mem np killed k x h => ?_
  simp only [slices_IndexFunc_4int4int_impl_Board_merged_f1_ls2] at h
  split at h
  · rename_i s0 t74 t85 f6
    simp only [GT.run] at h
    have hc := (cond_noneL h).1
    replace h := (cond_noneL h).2
    refine ⟨F, (slices_IndexFunc_4int4int_impl_Board_merged_f1_iter2 F s0 t74 f6 k F t85).trans ((loopC_use (slices_IndexFunc_4int4int_impl_Board_merged_f1_s2_nat F s0 t74 f6) hc _).trans h)⟩
  · simp only [GT.run] at h
    cases h
noncomputable def slices_IndexFunc_4int4int_impl_Board_merged_f1_LS1 (F : Nat) : LT := (2, slices_IndexFunc_4int4int_impl_Board_merged_f1_ls2 F) :: slices_IndexFunc_4int4int_impl_Board_merged_f1_LS0 F
theorem slices_IndexFunc_4int4int_impl_Board_merged_f1_lsok1 (F : Nat) : LoopsOK Try.prog (slices_IndexFunc_4int4int_impl_Board_merged_f1_LS1 F) (bodyOf Try.f50) := loopsOK_cons slices_IndexFunc_4int4int_impl_Board_merged_f1_keys (slices_IndexFunc_4int4int_impl_Board_merged_f1_lok2 F) (slices_IndexFunc_4int4int_impl_Board_merged_f1_lsok0 F)
theorem slices_IndexFunc_4int4int_impl_Board_merged_f1_run (F : Nat) (s0 : List (List Int)) (f4 : List Int) : runS tt (slices_IndexFunc_4int4int_impl_Board_merged_f1_tab F) (slices_IndexFunc_4int4int_impl_Board_merged_f1_LS1 F) [] [] Try.f50 (bodyOf Try.f50) 70 [(.rr 4 s0), (.fn 34 [] [(.ptr 0 0 0 4)])] [(.var 4 (.ri .i64 f4))] = slices_IndexFunc_4int4int_impl_Board_merged_f1_c _ F s0 f4 (fun r => some ⟨(.int .i64 r), [(.var 4 (.ri .i64 f4))], []⟩) := by kernel_rfl
def slices_IndexFunc_4int4int_impl_Board_merged_f1_ent (F : Nat) : Ent := ⟨[], .quiet, fun args mem => match args, mem with
  | [(.rr 4 s0), (.fn 34 [] [(.ptr 0 0 0 4)])], [(.var 4 (.ri .i64 f4))] => some ((slices_IndexFunc_4int4int_impl_Board_merged_f1_p F s0 f4).isSome, ⟨(.int .i64 ((slices_IndexFunc_4int4int_impl_Board_merged_f1_p F s0 f4).getD default)), [], []⟩)
  | _, _ => none⟩
theorem slices_IndexFunc_4int4int_impl_Board_merged_f1_fok : FunOK Try.prog 50 := funOK Try.func50 (by kernel_rfl) rfl
theorem slices_IndexFunc_4int4int_impl_Board_merged_f1_meets (F : Nat) : Meets Try.prog 50 (slices_IndexFunc_4int4int_impl_Board_merged_f1_ent F) := by
  refine meets_of_runS mixed ttok deep (slices_IndexFunc_4int4int_impl_Board_merged_f1_tabok F) Try.func50 (body_some rfl) (slices_IndexFunc_4int4int_impl_Board_merged_f1_lsok1 F) fun args mem hfit ret h => ?_
  clear hfit
  simp only [slices_IndexFunc_4int4int_impl_Board_merged_f1_ent] at h
  split at h
  · rename_i s0 f4
    simp only [Option.some.injEq, Prod.mk.injEq] at h
    obtain ⟨hc, rfl⟩ := h
    exact ⟨[], [], 70, _, (slices_IndexFunc_4int4int_impl_Board_merged_f1_run F s0 f4).trans ((slices_IndexFunc_4int4int_impl_Board_merged_f1_cp _ F s0 f4 _).trans (bind_use hc _)), rfl, rfl, rfl⟩
  · cases h

/-! slices.DeleteFunc[[][4]int,[4]int] -/
noncomputable def slices_DeleteFunc_4int4int_impl_Board_merged_f1_tab (F : Nat) : Tab := [(50, (slices_IndexFunc_4int4int_impl_Board_merged_f1_ent F)), (34, (impl_Board_merged_f1_ent F))]
theorem slices_DeleteFunc_4int4int_impl_Board_merged_f1_tabok (F : Nat) : TabOK Try.prog (slices_DeleteFunc_4int4int_impl_Board_merged_f1_tab F) := (tab_cons (slices_IndexFunc_4int4int_impl_Board_merged_f1_meets F) slices_IndexFunc_4int4int_impl_Board_merged_f1_fok (tab_cons (impl_Board_merged_f1_meets F) impl_Board_merged_f1_fok tab_nil))
noncomputable def slices_DeleteFunc_4int4int_impl_Board_merged_f1_LS0 (F : Nat) : LT := []
theorem slices_DeleteFunc_4int4int_impl_Board_merged_f1_lsok0 (F : Nat) : LoopsOK Try.prog (slices_DeleteFunc_4int4int_impl_Board_merged_f1_LS0 F) (bodyOf Try.f32) := loopsOK_nil
theorem slices_DeleteFunc_4int4int_impl_Board_merged_f1_keys : keysOK (bodyOf Try.f32) = true := by kernel_rfl
def slices_DeleteFunc_4int4int_impl_Board_merged_f1_st5 (s1 : Nat) (del8 : List Int) (i5 : Int) (j6 : Int) (s7 : List (List Int)) : St := ⟨expand 42 0 [0, 1, 5, 6] [(.sl 0 0 s1), (.fn 34 [] [(.ptr 1 0 0 4)]), (.int .i64 i5), (.int .i64 j6)], [(.vec 22 (.rr 4 s7)), (.var 4 (.ri .i64 del8))], 2, []⟩
def slices_DeleteFunc_4int4int_impl_Board_merged_f1_o5 (s1 : Nat) (del8 : List Int) (x : Int × List (List Int)) : GT := (.out (.exit 0 ⟨expand 42 0 [0, 5] [(.sl 0 0 s1), (.int .i64 x.1)], [(.vec 22 (.rr 4 x.2)), (.var 4 (.ri .i64 del8))], 2, []⟩))
def slices_DeleteFunc_4int4int_impl_Board_merged_f1_ls5 (F : Nat) : LoopS := ⟨42, [0, 1, 5, 6], [], [0, 5], [], [4], [], [], fun vals mem np killed => match vals, mem, np, killed with
  | [(.sl 0 0 s1), (.fn 34 [] [(.ptr 1 0 0 4)]), (.int .i64 i5), (.int .i64 j6)], [(.vec 22 (.rr 4 s7)), (.var 4 (.ri .i64 del8))], 2, [] => .br (slices_DeleteFunc_4int4int_impl_Board_merged_f1_l5 F s1 del8 i5 j6 s7).isSome (slices_DeleteFunc_4int4int_impl_Board_merged_f1_o5 s1 del8 ((slices_DeleteFunc_4int4int_impl_Board_merged_f1_l5 F s1 del8 i5 j6 s7).getD default)) .fail
  | _, _, _, _ => .fail⟩
theorem slices_DeleteFunc_4int4int_impl_Board_merged_f1_step5 (F : Nat) (s1 : Nat) (del8 : List Int) (i5 : Int) (j6 : Int) (s7 : List (List Int)) {R : Type} (k : Out → Option R) : stepS tt (slices_DeleteFunc_4int4int_impl_Board_merged_f1_tab F) (slices_DeleteFunc_4int4int_impl_Board_merged_f1_LS0 F) 70 (slices_DeleteFunc_4int4int_impl_Board_merged_f1_ls5 F) (loopAt 5 (bodyOf Try.f32)) (slices_DeleteFunc_4int4int_impl_Board_merged_f1_st5 s1 del8 i5 j6 s7) k = slices_DeleteFunc_4int4int_impl_Board_merged_f1_s5 F s1 del8 R (i5, j6, s7) (fun s => k (.norm (slices_DeleteFunc_4int4int_impl_Board_merged_f1_st5 s1 del8 s.1 s.2.1 s.2.2))) (fun x => (slices_DeleteFunc_4int4int_impl_Board_merged_f1_o5 s1 del8 x).run k) := by kernel_rfl
theorem slices_DeleteFunc_4int4int_impl_Board_merged_f1_iter5 (F : Nat) (s1 : Nat) (del8 : List Int) {R : Type} (k : Out → Option R) : ∀ (n : Nat) (i5 : Int) (j6 : Int) (s7 : List (List Int)), iterS tt (slices_DeleteFunc_4int4int_impl_Board_merged_f1_tab F) (slices_DeleteFunc_4int4int_impl_Board_merged_f1_LS0 F) 70 (slices_DeleteFunc_4int4int_impl_Board_merged_f1_ls5 F) (loopAt 5 (bodyOf Try.f32)) n (slices_DeleteFunc_4int4int_impl_Board_merged_f1_st5 s1 del8 i5 j6 s7) k = loopC (slices_DeleteFunc_4int4int_impl_Board_merged_f1_s5 F s1 del8) n (i5, j6, s7) (fun x => (slices_DeleteFunc_4int4int_impl_Board_merged_f1_o5 s1 del8 x).run k)
  | 0, i5, j6, s7 => rfl
  | n + 1, i5, j6, s7 => (iterS_succ tt (slices_DeleteFunc_4int4int_impl_Board_merged_f1_tab F) (slices_DeleteFunc_4int4int_impl_Board_merged_f1_LS0 F) 70 (slices_DeleteFunc_4int4int_impl_Board_merged_f1_ls5 F) (loopAt 5 (bodyOf Try.f32)) n (slices_DeleteFunc_4int4int_impl_Board_merged_f1_st5 s1 del8 i5 j6 s7) k).trans ((slices_DeleteFunc_4int4int_impl_Board_merged_f1_step5 F s1 del8 i5 j6 s7 (nextK (iterS tt (slices_DeleteFunc_4int4int_impl_Board_merged_f1_tab F) (slices_DeleteFunc_4int4int_impl_Board_merged_f1_LS0 F) 70 (slices_DeleteFunc_4int4int_impl_Board_merged_f1_ls5 F) (loopAt 5 (bodyOf Try.f32)) n) k)).trans (congrArg (fun kn => slices_DeleteFunc_4int4int_impl_Board_merged_f1_s5 F s1 del8 R (i5, j6, s7) kn _) (funext (fun ⟨i5, j6, s7⟩ => slices_DeleteFunc_4int4int_impl_Board_merged_f1_iter5 F s1 del8 k n i5 j6 s7))))
theorem slices_DeleteFunc_4int4int_impl_Board_merged_f1_lok5 (F : Nat) : LoopOK Try.prog (loopAt 5 (bodyOf Try.f32)) (slices_DeleteFunc_4int4int_impl_Board_merged_f1_ls5 F) := by
  refine loopOK_of mixed ttok deep (slices_DeleteFunc_4int4int_impl_Board_merged_f1_tabok F) (loopsOK_at (slices_DeleteFunc_4int4int_impl_Board_merged_f1_lsok0 F) 5) (fuel := 70) fun R vals mem np killed k x h => ?_
  simp only [slices_DeleteFunc_4int4int_impl_Board_merged_f1_ls5] at h
  split at h
  · rename_i s1 i5 j6 s7 del8
    simp only [GT.run] at h
    have hc := (cond_noneL h).1
    replace h := (cond_noneL h).2
    refine ⟨F, (slices_DeleteFunc_4int4int_impl_Board_merged_f1_iter5 F s1 del8 k F i5 j6 s7).trans ((loopC_use (slices_DeleteFunc_4int4int_impl_Board_merged_f1_s5_nat F s1 del8) hc _).trans h)⟩
  · simp only [GT.run] at h
    cases h
noncomputable def slices_DeleteFunc_4int4int_impl_Board_merged_f1_LS1 (F : Nat) : LT := (5, slices_DeleteFunc_4int4int_impl_Board_merged_f1_ls5 F) :: slices_DeleteFunc_4int4int_impl_Board_merged_f1_LS0 F
theorem slices_DeleteFunc_4int4int_impl_Board_merged_f1_lsok1 (F : Nat) : LoopsOK Try.prog (slices_DeleteFunc_4int4int_impl_Board_merged_f1_LS1 F) (bodyOf Try.f32) := loopsOK_cons slices_DeleteFunc_4int4int_impl_Board_merged_f1_keys (slices_DeleteFunc_4int4int_impl_Board_merged_f1_lok5 F) (slices_DeleteFunc_4int4int_impl_Board_merged_f1_lsok0 F)
theorem slices_DeleteFunc_4int4int_impl_Board_merged_f1_run (F : Nat) (s5 : List (List Int)) (del6 : List Int) : runS tt (slices_DeleteFunc_4int4int_impl_Board_merged_f1_tab F) (slices_DeleteFunc_4int4int_impl_Board_merged_f1_LS1 F) [] [] Try.f32 (bodyOf Try.f32) 70 [(.sl 0 0 (List.length s5)), (.fn 34 [] [(.ptr 1 0 0 4)])] [(.vec 22 (.rr 4 s5)), (.var 4 (.ri .i64 del6))] = slices_DeleteFunc_4int4int_impl_Board_merged_f1_c _ F s5 del6 (fun r => some ⟨(.sl 0 0 r.1), [(.vec 22 (.rr 4 r.2)), (.var 4 (.ri .i64 del6))], []⟩) := by kernel_rfl
def slices_DeleteFunc_4int4int_impl_Board_merged_f1_ent (F : Nat) : Ent := ⟨[true], .loud, fun args mem => match args, mem with
  | [(.sl 0 0 q_s1), (.fn 34 [] [(.ptr 1 0 0 4)])], [(.vec 22 (.rr 4 s5)), (.var 4 (.ri .i64 del6))] => some (((Nat.beq q_s1 (List.length s5)) && (slices_DeleteFunc_4int4int_impl_Board_merged_f1_p F s5 del6).isSome), ⟨(.sl 0 0 ((slices_DeleteFunc_4int4int_impl_Board_merged_f1_p F s5 del6).getD default).1), [(.vec 22 (.rr 4 ((slices_DeleteFunc_4int4int_impl_Board_merged_f1_p F s5 del6).getD default).2)), (.var 4 (.ri .i64 del6))], []⟩)
  | _, _ => none⟩
theorem slices_DeleteFunc_4int4int_impl_Board_merged_f1_fok : FunOK Try.prog 32 := funOK Try.func32 (by kernel_rfl) rfl
theorem slices_DeleteFunc_4int4int_impl_Board_merged_f1_meets (F : Nat) : Meets Try.prog 32 (slices_DeleteFunc_4int4int_impl_Board_merged_f1_ent F) := by
  refine meets_of_runS mixed ttok deep (slices_DeleteFunc_4int4int_impl_Board_merged_f1_tabok F) Try.func32 (body_some rfl) (slices_DeleteFunc_4int4int_impl_Board_merged_f1_lsok1 F) fun args mem hfit ret h => ?_
  clear hfit
  simp only [slices_DeleteFunc_4int4int_impl_Board_merged_f1_ent] at h
  split at h
  · rename_i q_s1 s5 del6
    simp only [Option.some.injEq, Prod.mk.injEq] at h
    obtain ⟨hc, rfl⟩ := h
    have hg := (and_split hc).1
    replace hc := (and_split hc).2
    obtain rfl := nbeq_nat hg
    exact ⟨[], [], 70, _, (slices_DeleteFunc_4int4int_impl_Board_merged_f1_run F s5 del6).trans ((slices_DeleteFunc_4int4int_impl_Board_merged_f1_cp _ F s5 del6 _).trans (bind_use hc _)), rfl, rfl, rfl⟩
  · cases h
end Go.Proofs.Ytkhccaoancfeoaa
