/-
Pure functions and what the code of them does, by program; without conditions.
-/
import Derived.Test.YtidmlibanopfhaaTGP2
import Derived.Test.YtidmlibanopfhaaTGS1
namespace Go.Proofs.Ytidmlibanopfhaa
open Go Go.Lv Go.Lv.P Go.Proofs
set_option linter.unusedVariables false
set_option linter.unusedSimpArgs false
set_option maxRecDepth 100000
/-! slices.IndexFunc[[]int,int] -/
noncomputable def slices_IndexFunc_intint_impl_tiles_f1_tab (F : Nat) : Tab := [(90, (impl_tiles_f1_ent F))]
theorem slices_IndexFunc_intint_impl_tiles_f1_tabok (F : Nat) : TabOK Try.prog (slices_IndexFunc_intint_impl_tiles_f1_tab F) := (tab_cons (impl_tiles_f1_meets F) impl_tiles_f1_fok tab_nil)
noncomputable def slices_IndexFunc_intint_impl_tiles_f1_LS0 (F : Nat) : LT := []
theorem slices_IndexFunc_intint_impl_tiles_f1_lsok0 (F : Nat) : LoopsOK Try.prog (slices_IndexFunc_intint_impl_tiles_f1_LS0 F) (bodyOf Try.f72) := loopsOK_nil
theorem slices_IndexFunc_intint_impl_tiles_f1_keys : keysOK (bodyOf Try.f72) = true := by kernel_rfl
def slices_IndexFunc_intint_impl_tiles_f1_st2 (s0 : List Int) (t71 : Int) (t82 : Int) : St := ⟨expand 19 0 [0, 1, 7, 8] [(.ri .i64 s0), (.fn 90 [] []), (.int .i64 t71), (.int .i64 t82)], [], 0, []⟩
def slices_IndexFunc_intint_impl_tiles_f1_o2 (s0 : List Int) (t71 : Int) (x : Bool × Int) : GT := (.br x.1 (.out (.ret ⟨expand 19 0 [4] [(.int .i64 x.2)], [], 0, []⟩)) (.out (.exit 0 ⟨expand 19 0 [] [], [], 0, []⟩)))
def slices_IndexFunc_intint_impl_tiles_f1_ls2 (F : Nat) : LoopS := ⟨19, [0, 1, 7, 8], [], [], [], [4], [], [], fun vals mem np killed => match vals, mem, np, killed with
  | [(.ri .i64 s0), (.fn 90 [] []), (.int .i64 t71), (.int .i64 t82)], [], 0, [] => .br (slices_IndexFunc_intint_impl_tiles_f1_l2 F s0 t71 t82).isSome (slices_IndexFunc_intint_impl_tiles_f1_o2 s0 t71 ((slices_IndexFunc_intint_impl_tiles_f1_l2 F s0 t71 t82).getD default)) .fail
  | _, _, _, _ => .fail⟩
theorem slices_IndexFunc_intint_impl_tiles_f1_step2 (F : Nat) (s0 : List Int) (t71 : Int) (t82 : Int) {R : Type} (k : Out → Option R) : stepS tt (slices_IndexFunc_intint_impl_tiles_f1_tab F) (slices_IndexFunc_intint_impl_tiles_f1_LS0 F) 70 (slices_IndexFunc_intint_impl_tiles_f1_ls2 F) (loopAt 2 (bodyOf Try.f72)) (slices_IndexFunc_intint_impl_tiles_f1_st2 s0 t71 t82) k = slices_IndexFunc_intint_impl_tiles_f1_s2 F s0 t71 R t82 (fun s => k (.norm (slices_IndexFunc_intint_impl_tiles_f1_st2 s0 t71 s))) (fun x => (slices_IndexFunc_intint_impl_tiles_f1_o2 s0 t71 x).run k) := by kernel_rfl
theorem slices_IndexFunc_intint_impl_tiles_f1_iter2 (F : Nat) (s0 : List Int) (t71 : Int) {R : Type} (k : Out → Option R) : ∀ (n : Nat) (t82 : Int), iterS tt (slices_IndexFunc_intint_impl_tiles_f1_tab F) (slices_IndexFunc_intint_impl_tiles_f1_LS0 F) 70 (slices_IndexFunc_intint_impl_tiles_f1_ls2 F) (loopAt 2 (bodyOf Try.f72)) n (slices_IndexFunc_intint_impl_tiles_f1_st2 s0 t71 t82) k = loopC (slices_IndexFunc_intint_impl_tiles_f1_s2 F s0 t71) n t82 (fun x => (slices_IndexFunc_intint_impl_tiles_f1_o2 s0 t71 x).run k)
  | 0, t82 => rfl
  | n + 1, t82 => (iterS_succ tt (slices_IndexFunc_intint_impl_tiles_f1_tab F) (slices_IndexFunc_intint_impl_tiles_f1_LS0 F) 70 (slices_IndexFunc_intint_impl_tiles_f1_ls2 F) (loopAt 2 (bodyOf Try.f72)) n (slices_IndexFunc_intint_impl_tiles_f1_st2 s0 t71 t82) k).trans ((slices_IndexFunc_intint_impl_tiles_f1_step2 F s0 t71 t82 (nextK (iterS tt (slices_IndexFunc_intint_impl_tiles_f1_tab F) (slices_IndexFunc_intint_impl_tiles_f1_LS0 F) 70 (slices_IndexFunc_intint_impl_tiles_f1_ls2 F) (loopAt 2 (bodyOf Try.f72)) n) k)).trans (congrArg (fun kn => slices_IndexFunc_intint_impl_tiles_f1_s2 F s0 t71 R t82 kn _) (funext (fun t82 => slices_IndexFunc_intint_impl_tiles_f1_iter2 F s0 t71 k n t82))))
theorem slices_IndexFunc_intint_impl_tiles_f1_lok2 (F : Nat) : LoopOK Try.prog (loopAt 2 (bodyOf Try.f72)) (slices_IndexFunc_intint_impl_tiles_f1_ls2 F) := by
  refine loopOK_of mixed ttok deep (slices_IndexFunc_intint_impl_tiles_f1_tabok F) (loopsOK_at (slices_IndexFunc_intint_impl_tiles_f1_lsok0 F) 2) (fuel := 70) fun R vals mem np killed k x h => ?_
  simp only [slices_IndexFunc_intint_impl_tiles_f1_ls2] at h
  split at h
  · rename_i s0 t71 t82
    simp only [GT.run] at h
    have hc := (cond_noneL h).1
    replace h := (cond_noneL h).2
    refine ⟨F, (slices_IndexFunc_intint_impl_tiles_f1_iter2 F s0 t71 k F t82).trans ((loopC_use (slices_IndexFunc_intint_impl_tiles_f1_s2_nat F s0 t71) hc _).trans h)⟩
  · simp only [GT.run] at h
    cases h
noncomputable def slices_IndexFunc_intint_impl_tiles_f1_LS1 (F : Nat) : LT := (2, slices_IndexFunc_intint_impl_tiles_f1_ls2 F) :: slices_IndexFunc_intint_impl_tiles_f1_LS0 F
theorem slices_IndexFunc_intint_impl_tiles_f1_lsok1 (F : Nat) : LoopsOK Try.prog (slices_IndexFunc_intint_impl_tiles_f1_LS1 F) (bodyOf Try.f72) := loopsOK_cons slices_IndexFunc_intint_impl_tiles_f1_keys (slices_IndexFunc_intint_impl_tiles_f1_lok2 F) (slices_IndexFunc_intint_impl_tiles_f1_lsok0 F)
theorem slices_IndexFunc_intint_impl_tiles_f1_run (F : Nat) (s0 : List Int) : runS tt (slices_IndexFunc_intint_impl_tiles_f1_tab F) (slices_IndexFunc_intint_impl_tiles_f1_LS1 F) [] [] Try.f72 (bodyOf Try.f72) 70 [(.ri .i64 s0), (.fn 90 [] [])] [] = slices_IndexFunc_intint_impl_tiles_f1_c _ F s0 (fun r => some ⟨(.int .i64 r), [], []⟩) := by kernel_rfl
def slices_IndexFunc_intint_impl_tiles_f1_ent (F : Nat) : Ent := ⟨[], .quiet, fun args mem => match args, mem with
  | [(.ri .i64 s0), (.fn 90 [] [])], [] => some ((slices_IndexFunc_intint_impl_tiles_f1_p F s0).isSome, ⟨(.int .i64 ((slices_IndexFunc_intint_impl_tiles_f1_p F s0).getD default)), [], []⟩)
  | _, _ => none⟩
theorem slices_IndexFunc_intint_impl_tiles_f1_fok : FunOK Try.prog 72 := funOK Try.func72 (by kernel_rfl) rfl
theorem slices_IndexFunc_intint_impl_tiles_f1_meets (F : Nat) : Meets Try.prog 72 (slices_IndexFunc_intint_impl_tiles_f1_ent F) := by
  refine meets_of_runS mixed ttok deep (slices_IndexFunc_intint_impl_tiles_f1_tabok F) Try.func72 (body_some rfl) (slices_IndexFunc_intint_impl_tiles_f1_lsok1 F) fun args mem hfit ret h => ?_
  clear hfit
  simp only [slices_IndexFunc_intint_impl_tiles_f1_ent] at h
  split at h
  · rename_i s0
    simp only [Option.some.injEq, Prod.mk.injEq] at h
    obtain ⟨hc, rfl⟩ := h
    exact ⟨[], [], 70, _, (slices_IndexFunc_intint_impl_tiles_f1_run F s0).trans ((slices_IndexFunc_intint_impl_tiles_f1_cp _ F s0 _).trans (bind_use hc _)), rfl, rfl, rfl⟩
  · cases h

/-! slices.DeleteFunc[[]int,int] -/
noncomputable def slices_DeleteFunc_intint_impl_tiles_f1_tab (F : Nat) : Tab := [(72, (slices_IndexFunc_intint_impl_tiles_f1_ent F)), (90, (impl_tiles_f1_ent F))]
theorem slices_DeleteFunc_intint_impl_tiles_f1_tabok (F : Nat) : TabOK Try.prog (slices_DeleteFunc_intint_impl_tiles_f1_tab F) := (tab_cons (slices_IndexFunc_intint_impl_tiles_f1_meets F) slices_IndexFunc_intint_impl_tiles_f1_fok (tab_cons (impl_tiles_f1_meets F) impl_tiles_f1_fok tab_nil))
noncomputable def slices_DeleteFunc_intint_impl_tiles_f1_LS0 (F : Nat) : LT := []
theorem slices_DeleteFunc_intint_impl_tiles_f1_lsok0 (F : Nat) : LoopsOK Try.prog (slices_DeleteFunc_intint_impl_tiles_f1_LS0 F) (bodyOf Try.f51) := loopsOK_nil
theorem slices_DeleteFunc_intint_impl_tiles_f1_keys : keysOK (bodyOf Try.f51) = true := by kernel_rfl
def slices_DeleteFunc_intint_impl_tiles_f1_st5 (s1 : Nat) (i2 : Int) (j3 : Int) (s4 : List Int) : St := ⟨expand 42 0 [0, 1, 5, 6] [(.sl 0 0 s1), (.fn 90 [] []), (.int .i64 i2), (.int .i64 j3)], [(.vec 3 (.ri .i64 s4))], 1, []⟩
def slices_DeleteFunc_intint_impl_tiles_f1_o5 (s1 : Nat) (x : Int × List Int) : GT := (.out (.exit 0 ⟨expand 42 0 [0, 5] [(.sl 0 0 s1), (.int .i64 x.1)], [(.vec 3 (.ri .i64 x.2))], 1, []⟩))
def slices_DeleteFunc_intint_impl_tiles_f1_ls5 (F : Nat) : LoopS := ⟨42, [0, 1, 5, 6], [], [0, 5], [], [4], [], [], fun vals mem np killed => match vals, mem, np, killed with
  | [(.sl 0 0 s1), (.fn 90 [] []), (.int .i64 i2), (.int .i64 j3)], [(.vec 3 (.ri .i64 s4))], 1, [] => .br (slices_DeleteFunc_intint_impl_tiles_f1_l5 F s1 i2 j3 s4).isSome (slices_DeleteFunc_intint_impl_tiles_f1_o5 s1 ((slices_DeleteFunc_intint_impl_tiles_f1_l5 F s1 i2 j3 s4).getD default)) .fail
  | _, _, _, _ => .fail⟩
theorem slices_DeleteFunc_intint_impl_tiles_f1_step5 (F : Nat) (s1 : Nat) (i2 : Int) (j3 : Int) (s4 : List Int) {R : Type} (k : Out → Option R) : stepS tt (slices_DeleteFunc_intint_impl_tiles_f1_tab F) (slices_DeleteFunc_intint_impl_tiles_f1_LS0 F) 70 (slices_DeleteFunc_intint_impl_tiles_f1_ls5 F) (loopAt 5 (bodyOf Try.f51)) (slices_DeleteFunc_intint_impl_tiles_f1_st5 s1 i2 j3 s4) k = slices_DeleteFunc_intint_impl_tiles_f1_s5 F s1 R (i2, j3, s4) (fun s => k (.norm (slices_DeleteFunc_intint_impl_tiles_f1_st5 s1 s.1 s.2.1 s.2.2))) (fun x => (slices_DeleteFunc_intint_impl_tiles_f1_o5 s1 x).run k) := by kernel_rfl
theorem slices_DeleteFunc_intint_impl_tiles_f1_iter5 (F : Nat) (s1 : Nat) {R : Type} (k : Out → Option R) : ∀ (n : Nat) (i2 : Int) (j3 : Int) (s4 : List Int), iterS tt (slices_DeleteFunc_intint_impl_tiles_f1_tab F) (slices_DeleteFunc_intint_impl_tiles_f1_LS0 F) 70 (slices_DeleteFunc_intint_impl_tiles_f1_ls5 F) (loopAt 5 (bodyOf Try.f51)) n (slices_DeleteFunc_intint_impl_tiles_f1_st5 s1 i2 j3 s4) k = loopC (slices_DeleteFunc_intint_impl_tiles_f1_s5 F s1) n (i2, j3, s4) (fun x => (slices_DeleteFunc_intint_impl_tiles_f1_o5 s1 x).run k)
  | 0, i2, j3, s4 => rfl
  | n + 1, i2, j3, s4 => (iterS_succ tt (slices_DeleteFunc_intint_impl_tiles_f1_tab F) (slices_DeleteFunc_intint_impl_tiles_f1_LS0 F) 70 (slices_DeleteFunc_intint_impl_tiles_f1_ls5 F) (loopAt 5 (bodyOf Try.f51)) n (slices_DeleteFunc_intint_impl_tiles_f1_st5 s1 i2 j3 s4) k).trans ((slices_DeleteFunc_intint_impl_tiles_f1_step5 F s1 i2 j3 s4 (nextK (iterS tt (slices_DeleteFunc_intint_impl_tiles_f1_tab F) (slices_DeleteFunc_intint_impl_tiles_f1_LS0 F) 70 (slices_DeleteFunc_intint_impl_tiles_f1_ls5 F) (loopAt 5 (bodyOf Try.f51)) n) k)).trans (congrArg (fun kn => slices_DeleteFunc_intint_impl_tiles_f1_s5 F s1 R (i2, j3, s4) kn _) (funext (fun ⟨i2, j3, s4⟩ => slices_DeleteFunc_intint_impl_tiles_f1_iter5 F s1 k n i2 j3 s4))))
theorem slices_DeleteFunc_intint_impl_tiles_f1_lok5 (F : Nat) : LoopOK Try.prog (loopAt 5 (bodyOf Try.f51)) (slices_DeleteFunc_intint_impl_tiles_f1_ls5 F) := by
  refine loopOK_of mixed ttok deep (slices_DeleteFunc_intint_impl_tiles_f1_tabok F) (loopsOK_at (slices_DeleteFunc_intint_impl_tiles_f1_lsok0 F) 5) (fuel := 70) fun R vals mem np killed k x h => ?_
  simp only [slices_DeleteFunc_intint_impl_tiles_f1_ls5] at h
  split at h
  · rename_i s1 i2 j3 s4
    simp only [GT.run] at h
    have hc := (cond_noneL h).1
    replace h := (cond_noneL h).2
    refine ⟨F, (slices_DeleteFunc_intint_impl_tiles_f1_iter5 F s1 k F i2 j3 s4).trans ((loopC_use (slices_DeleteFunc_intint_impl_tiles_f1_s5_nat F s1) hc _).trans h)⟩
  · simp only [GT.run] at h
    cases h
noncomputable def slices_DeleteFunc_intint_impl_tiles_f1_LS1 (F : Nat) : LT := (5, slices_DeleteFunc_intint_impl_tiles_f1_ls5 F) :: slices_DeleteFunc_intint_impl_tiles_f1_LS0 F
theorem slices_DeleteFunc_intint_impl_tiles_f1_lsok1 (F : Nat) : LoopsOK Try.prog (slices_DeleteFunc_intint_impl_tiles_f1_LS1 F) (bodyOf Try.f51) := loopsOK_cons slices_DeleteFunc_intint_impl_tiles_f1_keys (slices_DeleteFunc_intint_impl_tiles_f1_lok5 F) (slices_DeleteFunc_intint_impl_tiles_f1_lsok0 F)
theorem slices_DeleteFunc_intint_impl_tiles_f1_run (F : Nat) (s2 : List Int) : runS tt (slices_DeleteFunc_intint_impl_tiles_f1_tab F) (slices_DeleteFunc_intint_impl_tiles_f1_LS1 F) [] [] Try.f51 (bodyOf Try.f51) 70 [(.sl 0 0 (List.length s2)), (.fn 90 [] [])] [(.vec 3 (.ri .i64 s2))] = slices_DeleteFunc_intint_impl_tiles_f1_c _ F s2 (fun r => some ⟨(.sl 0 0 r.1), [(.vec 3 (.ri .i64 r.2))], []⟩) := by kernel_rfl
def slices_DeleteFunc_intint_impl_tiles_f1_ent (F : Nat) : Ent := ⟨[true], .loud, fun args mem => match args, mem with
  | [(.sl 0 0 q_s1), (.fn 90 [] [])], [(.vec 3 (.ri .i64 s2))] => some (((Nat.beq q_s1 (List.length s2)) && (slices_DeleteFunc_intint_impl_tiles_f1_p F s2).isSome), ⟨(.sl 0 0 ((slices_DeleteFunc_intint_impl_tiles_f1_p F s2).getD default).1), [(.vec 3 (.ri .i64 ((slices_DeleteFunc_intint_impl_tiles_f1_p F s2).getD default).2))], []⟩)
  | _, _ => none⟩
theorem slices_DeleteFunc_intint_impl_tiles_f1_fok : FunOK Try.prog 51 := funOK Try.func51 (by kernel_rfl) rfl
theorem slices_DeleteFunc_intint_impl_tiles_f1_meets (F : Nat) : Meets Try.prog 51 (slices_DeleteFunc_intint_impl_tiles_f1_ent F) := by
  refine meets_of_runS mixed ttok deep (slices_DeleteFunc_intint_impl_tiles_f1_tabok F) Try.func51 (body_some rfl) (slices_DeleteFunc_intint_impl_tiles_f1_lsok1 F) fun args mem hfit ret h => ?_
  clear hfit
  simp only [slices_DeleteFunc_intint_impl_tiles_f1_ent] at h
  split at h
  · rename_i q_s1 s2
    simp only [Option.some.injEq, Prod.mk.injEq] at h
    obtain ⟨hc, rfl⟩ := h
    have hg := (and_split hc).1
    replace hc := (and_split hc).2
    obtain rfl := nbeq_nat hg
    exact ⟨[], [], 70, _, (slices_DeleteFunc_intint_impl_tiles_f1_run F s2).trans ((slices_DeleteFunc_intint_impl_tiles_f1_cp _ F s2 _).trans (bind_use hc _)), rfl, rfl, rfl⟩
  · cases h

/-! loop.example/g01194/impl.tiles -/
noncomputable def impl_tiles_tab (F : Nat) : Tab := [(89, (slices_Clone_intint_ent F)), (51, (slices_DeleteFunc_intint_impl_tiles_f1_ent F))]
theorem impl_tiles_tabok (F : Nat) : TabOK Try.prog (impl_tiles_tab F) := (tab_cons (slices_Clone_intint_meets F) slices_Clone_intint_fok (tab_cons (slices_DeleteFunc_intint_impl_tiles_f1_meets F) slices_DeleteFunc_intint_impl_tiles_f1_fok tab_nil))
noncomputable def impl_tiles_LS0 (F : Nat) : LT := []
theorem impl_tiles_lsok0 (F : Nat) : LoopsOK Try.prog (impl_tiles_LS0 F) (bodyOf Try.f82) := loopsOK_nil
theorem impl_tiles_run (F : Nat) (row0 : List Int) : runS tt (impl_tiles_tab F) (impl_tiles_LS0 F) [] [] Try.f82 (bodyOf Try.f82) 70 [(.ints 4 row0)] [] = impl_tiles_c _ F row0 (fun r => some ⟨(.sl 0 0 r.1), [(.vec 3 (.ri .i64 r.2))], []⟩) := by kernel_rfl
def impl_tiles_ent (F : Nat) : Ent := ⟨[], .fresh, fun args mem => match args, mem with
  | [(.ints 4 row0)], [] => some ((impl_tiles_p F row0).isSome, ⟨(.sl 0 0 ((impl_tiles_p F row0).getD default).1), [(.vec 3 (.ri .i64 ((impl_tiles_p F row0).getD default).2))], []⟩)
  | _, _ => none⟩
theorem impl_tiles_fok : FunOK Try.prog 82 := funOK Try.func82 (by kernel_rfl) rfl
theorem impl_tiles_meets (F : Nat) : Meets Try.prog 82 (impl_tiles_ent F) := by
  refine meets_of_runS mixed ttok deep (impl_tiles_tabok F) Try.func82 (body_some rfl) (impl_tiles_lsok0 F) fun args mem hfit ret h => ?_
  clear hfit
  simp only [impl_tiles_ent] at h
  split at h
  · rename_i row0
    simp only [Option.some.injEq, Prod.mk.injEq] at h
    obtain ⟨hc, rfl⟩ := h
    exact ⟨[], [], 70, _, (impl_tiles_run F row0).trans ((impl_tiles_cp _ F row0 _).trans (bind_use hc _)), rfl, rfl, rfl⟩
  · cases h

/-! loop.example/g01194/impl.worth -/
noncomputable def impl_worth_tab (F : Nat) : Tab := []
theorem impl_worth_tabok (F : Nat) : TabOK Try.prog (impl_worth_tab F) := tab_nil
noncomputable def impl_worth_LS0 (F : Nat) : LT := []
theorem impl_worth_lsok0 (F : Nat) : LoopsOK Try.prog (impl_worth_LS0 F) (bodyOf Try.f83) := loopsOK_nil
theorem impl_worth_run (F : Nat) (t0 : Int) : runS tt (impl_worth_tab F) (impl_worth_LS0 F) [] [] Try.f83 (bodyOf Try.f83) 70 [(.int .i64 t0)] [] = impl_worth_c _ t0 (fun r => some ⟨(.int .i64 r), [], []⟩) := by kernel_rfl
def impl_worth_ent (F : Nat) : Ent := ⟨[], .quiet, fun args mem => match args, mem with
  | [(.int .i64 t0)], [] => some ((impl_worth_p t0).isSome, ⟨(.int .i64 ((impl_worth_p t0).getD default)), [], []⟩)
  | _, _ => none⟩
theorem impl_worth_fok : FunOK Try.prog 83 := funOK Try.func83 (by kernel_rfl) rfl
theorem impl_worth_meets (F : Nat) : Meets Try.prog 83 (impl_worth_ent F) := by
  refine meets_of_runS mixed ttok deep (impl_worth_tabok F) Try.func83 (body_some rfl) (impl_worth_lsok0 F) fun args mem hfit ret h => ?_
  clear hfit
  simp only [impl_worth_ent] at h
  split at h
  · rename_i t0
    simp only [Option.some.injEq, Prod.mk.injEq] at h
    obtain ⟨hc, rfl⟩ := h
    exact ⟨[], [], 70, _, (impl_worth_run F t0).trans ((impl_worth_cp _ t0 _).trans (bind_use hc _)), rfl, rfl, rfl⟩
  · cases h

/-! loop.example/g01194/impl.slideRow -/
noncomputable def impl_slideRow_tab (F : Nat) : Tab := [(82, (impl_tiles_ent F)), (83, (impl_worth_ent F))]
theorem impl_slideRow_tabok (F : Nat) : TabOK Try.prog (impl_slideRow_tab F) := (tab_cons (impl_tiles_meets F) impl_tiles_fok (tab_cons (impl_worth_meets F) impl_worth_fok tab_nil))
noncomputable def impl_slideRow_LS0 (F : Nat) : LT := []
theorem impl_slideRow_lsok0 (F : Nat) : LoopsOK Try.prog (impl_slideRow_LS0 F) (bodyOf Try.f75) := loopsOK_nil
theorem impl_slideRow_keys : keysOK (bodyOf Try.f75) = true := by kernel_rfl
def impl_slideRow_st3 (t1415 : Nat) (t1516 : Int) (t1422 : List Int) (score12 : Int) (many13 : Int) (t1617 : Int) (out20 : List Int) (merged21 : List Bool) : St := ⟨expand 63 0 [2, 4, 5, 6, 7, 8, 14, 15, 16] [(.ptr 0 0 0 4), (.ptr 1 0 0 4), (.ptr 2 0 0 4), (.ptr 3 0 0 4), (.int .i64 score12), (.int .i64 many13), (.sl 4 0 t1415), (.int .i64 t1516), (.int .i64 t1617)], [(.var 4 (.ri .i64 [(0 : Int), (0 : Int), (0 : Int), (0 : Int)])), (.var 4 (.rb [false, false, false, false])), (.var 4 (.ri .i64 out20)), (.var 4 (.rb merged21)), (.vec 3 (.ri .i64 t1422))], 0, []⟩
def impl_slideRow_o3 (t1415 : Nat) (t1516 : Int) (t1422 : List Int) (x : Int × List Int × List Bool) : GT := (.out (.exit 0 ⟨expand 63 0 [2, 4, 5, 6, 7] [(.ptr 0 0 0 4), (.ptr 1 0 0 4), (.ptr 2 0 0 4), (.ptr 3 0 0 4), (.int .i64 x.1)], [(.var 4 (.ri .i64 [(0 : Int), (0 : Int), (0 : Int), (0 : Int)])), (.var 4 (.rb [false, false, false, false])), (.var 4 (.ri .i64 x.2.1)), (.var 4 (.rb x.2.2))], 0, []⟩))
def impl_slideRow_ls3 (F : Nat) : LoopS := ⟨63, [2, 4, 5, 6, 7, 8, 14, 15, 16], [], [2, 4, 5, 6, 7], [], [2, 3, 4], [], [], fun vals mem np killed => match vals, mem, np, killed with
  | [(.ptr 0 0 0 4), (.ptr 1 0 0 4), (.ptr 2 0 0 4), (.ptr 3 0 0 4), (.int .i64 score12), (.int .i64 many13), (.sl 4 0 t1415), (.int .i64 t1516), (.int .i64 t1617)], [(.var 4 (.ri .i64 q_t218)), (.var 4 (.rb q_t419)), (.var 4 (.ri .i64 out20)), (.var 4 (.rb merged21)), (.vec 3 (.ri .i64 t1422))], 0, [] => .br ((q_t218 == ([(0 : Int), (0 : Int), (0 : Int), (0 : Int)] : List Int)) && ((q_t419 == ([false, false, false, false] : List Bool)) && (impl_slideRow_l3 F t1415 t1516 t1422 score12 many13 t1617 out20 merged21).isSome)) (impl_slideRow_o3 t1415 t1516 t1422 ((impl_slideRow_l3 F t1415 t1516 t1422 score12 many13 t1617 out20 merged21).getD default)) .fail
  | _, _, _, _ => .fail⟩
theorem impl_slideRow_step3 (F : Nat) (t1415 : Nat) (t1516 : Int) (t1422 : List Int) (score12 : Int) (many13 : Int) (t1617 : Int) (out20 : List Int) (merged21 : List Bool) {R : Type} (k : Out → Option R) : stepS tt (impl_slideRow_tab F) (impl_slideRow_LS0 F) 70 (impl_slideRow_ls3 F) (loopAt 3 (bodyOf Try.f75)) (impl_slideRow_st3 t1415 t1516 t1422 score12 many13 t1617 out20 merged21) k = impl_slideRow_s3 F t1415 t1516 t1422 R (score12, many13, t1617, out20, merged21) (fun s => k (.norm (impl_slideRow_st3 t1415 t1516 t1422 s.1 s.2.1 s.2.2.1 s.2.2.2.1 s.2.2.2.2))) (fun x => (impl_slideRow_o3 t1415 t1516 t1422 x).run k) := by kernel_rfl
theorem impl_slideRow_iter3 (F : Nat) (t1415 : Nat) (t1516 : Int) (t1422 : List Int) {R : Type} (k : Out → Option R) : ∀ (n : Nat) (score12 : Int) (many13 : Int) (t1617 : Int) (out20 : List Int) (merged21 : List Bool), iterS tt (impl_slideRow_tab F) (impl_slideRow_LS0 F) 70 (impl_slideRow_ls3 F) (loopAt 3 (bodyOf Try.f75)) n (impl_slideRow_st3 t1415 t1516 t1422 score12 many13 t1617 out20 merged21) k = loopC (impl_slideRow_s3 F t1415 t1516 t1422) n (score12, many13, t1617, out20, merged21) (fun x => (impl_slideRow_o3 t1415 t1516 t1422 x).run k)
  | 0, score12, many13, t1617, out20, merged21 => rfl
  | n + 1, score12, many13, t1617, out20, merged21 => (iterS_succ tt (impl_slideRow_tab F) (impl_slideRow_LS0 F) 70 (impl_slideRow_ls3 F) (loopAt 3 (bodyOf Try.f75)) n (impl_slideRow_st3 t1415 t1516 t1422 score12 many13 t1617 out20 merged21) k).trans ((impl_slideRow_step3 F t1415 t1516 t1422 score12 many13 t1617 out20 merged21 (nextK (iterS tt (impl_slideRow_tab F) (impl_slideRow_LS0 F) 70 (impl_slideRow_ls3 F) (loopAt 3 (bodyOf Try.f75)) n) k)).trans (congrArg (fun kn => impl_slideRow_s3 F t1415 t1516 t1422 R (score12, many13, t1617, out20, merged21) kn _) (funext (fun ⟨score12, many13, t1617, out20, merged21⟩ => impl_slideRow_iter3 F t1415 t1516 t1422 k n score12 many13 t1617 out20 merged21))))
theorem impl_slideRow_lok3 (F : Nat) : LoopOK Try.prog (loopAt 3 (bodyOf Try.f75)) (impl_slideRow_ls3 F) := by
  refine loopOK_of mixed ttok deep (impl_slideRow_tabok F) (loopsOK_at (impl_slideRow_lsok0 F) 3) (fuel := 70) fun R vals mem np killed k x h => ?_
  simp only [impl_slideRow_ls3] at h
  split at h
  · rename_i score12 many13 t1415 t1516 t1617 q_t218 q_t419 out20 merged21 t1422
    simp only [GT.run] at h
    have hc := (cond_noneL h).1
    replace h := (cond_noneL h).2
    have hg := (and_split hc).1
    replace hc := (and_split hc).2
    obtain rfl := beq_li hg
    have hg := (and_split hc).1
    replace hc := (and_split hc).2
    obtain rfl := beq_lb hg
    refine ⟨F, (impl_slideRow_iter3 F t1415 t1516 t1422 k F score12 many13 t1617 out20 merged21).trans ((loopC_use (impl_slideRow_s3_nat F t1415 t1516 t1422) hc _).trans h)⟩
  · simp only [GT.run] at h
    cases h
noncomputable def impl_slideRow_LS1 (F : Nat) : LT := (3, impl_slideRow_ls3 F) :: impl_slideRow_LS0 F
theorem impl_slideRow_lsok1 (F : Nat) : LoopsOK Try.prog (impl_slideRow_LS1 F) (bodyOf Try.f75) := loopsOK_cons impl_slideRow_keys (impl_slideRow_lok3 F) (impl_slideRow_lsok0 F)
theorem impl_slideRow_run (F : Nat) (row0 : List Int) : runS tt (impl_slideRow_tab F) (impl_slideRow_LS1 F) [] [] Try.f75 (bodyOf Try.f75) 70 [(.ints 4 row0)] [] = impl_slideRow_c _ F row0 (fun r => some ⟨(.tup [(.ints 4 r.1), (.int .i64 r.2.1), (.bools 4 r.2.2)]), [], []⟩) := by kernel_rfl
def impl_slideRow_ent (F : Nat) : Ent := ⟨[], .quiet, fun args mem => match args, mem with
  | [(.ints 4 row0)], [] => some ((impl_slideRow_p F row0).isSome, ⟨(.tup [(.ints 4 ((impl_slideRow_p F row0).getD default).1), (.int .i64 ((impl_slideRow_p F row0).getD default).2.1), (.bools 4 ((impl_slideRow_p F row0).getD default).2.2)]), [], []⟩)
  | _, _ => none⟩
theorem impl_slideRow_fok : FunOK Try.prog 75 := funOK Try.func75 (by kernel_rfl) rfl
theorem impl_slideRow_meets (F : Nat) : Meets Try.prog 75 (impl_slideRow_ent F) := by
  refine meets_of_runS mixed ttok deep (impl_slideRow_tabok F) Try.func75 (body_some rfl) (impl_slideRow_lsok1 F) fun args mem hfit ret h => ?_
  clear hfit
  simp only [impl_slideRow_ent] at h
  split at h
  · rename_i row0
    simp only [Option.some.injEq, Prod.mk.injEq] at h
    obtain ⟨hc, rfl⟩ := h
    exact ⟨[], [], 70, _, (impl_slideRow_run F row0).trans ((impl_slideRow_cp _ F row0 _).trans (bind_use hc _)), rfl, rfl, rfl⟩
  · cases h

/-! (loop.example/g01194/impl.Board).withLine -/
noncomputable def impl_Board_withLine_tab (F : Nat) : Tab := [(85, (impl_lineCell_ent F)), (84, (impl_Board_at_ent F))]
theorem impl_Board_withLine_tabok (F : Nat) : TabOK Try.prog (impl_Board_withLine_tab F) := (tab_cons (impl_lineCell_meets F) impl_lineCell_fok (tab_cons (impl_Board_at_meets F) impl_Board_at_fok tab_nil))
noncomputable def impl_Board_withLine_LS0 (F : Nat) : LT := []
theorem impl_Board_withLine_lsok0 (F : Nat) : LoopsOK Try.prog (impl_Board_withLine_LS0 F) (bodyOf Try.f77) := loopsOK_nil
theorem impl_Board_withLine_run (F : Nat) (b0 : List Int) (direction1 : Int) (i2 : Int) (row3 : List Int) : runS tt (impl_Board_withLine_tab F) (impl_Board_withLine_LS0 F) [] [] Try.f77 (bodyOf Try.f77) 70 [(.ints 16 b0), (.int .i64 direction1), (.int .i64 i2), (.ints 4 row3)] [] = impl_Board_withLine_c _ b0 direction1 i2 row3 (fun r => some ⟨(.ints 16 r), [], []⟩) := by kernel_rfl
def impl_Board_withLine_ent (F : Nat) : Ent := ⟨[], .quiet, fun args mem => match args, mem with
  | [(.ints 16 b0), (.int .i64 direction1), (.int .i64 i2), (.ints 4 row3)], [] => some ((impl_Board_withLine_p b0 direction1 i2 row3).isSome, ⟨(.ints 16 ((impl_Board_withLine_p b0 direction1 i2 row3).getD default)), [], []⟩)
  | _, _ => none⟩
theorem impl_Board_withLine_fok : FunOK Try.prog 77 := funOK Try.func77 (by kernel_rfl) rfl
theorem impl_Board_withLine_meets (F : Nat) : Meets Try.prog 77 (impl_Board_withLine_ent F) := by
  refine meets_of_runS mixed ttok deep (impl_Board_withLine_tabok F) Try.func77 (body_some rfl) (impl_Board_withLine_lsok0 F) fun args mem hfit ret h => ?_
  clear hfit
  simp only [impl_Board_withLine_ent] at h
  split at h
  · rename_i b0 direction1 i2 row3
    simp only [Option.some.injEq, Prod.mk.injEq] at h
    obtain ⟨hc, rfl⟩ := h
    exact ⟨[], [], 70, _, (impl_Board_withLine_run F b0 direction1 i2 row3).trans ((impl_Board_withLine_cp _ b0 direction1 i2 row3 _).trans (bind_use hc _)), rfl, rfl, rfl⟩
  · cases h

/-! (loop.example/g01194/impl.Board).slide -/
noncomputable def impl_Board_slide_tab (F : Nat) : Tab := [(76, (impl_Board_line_ent F)), (75, (impl_slideRow_ent F)), (77, (impl_Board_withLine_ent F))]
theorem impl_Board_slide_tabok (F : Nat) : TabOK Try.prog (impl_Board_slide_tab F) := (tab_cons (impl_Board_line_meets F) impl_Board_line_fok (tab_cons (impl_slideRow_meets F) impl_slideRow_fok (tab_cons (impl_Board_withLine_meets F) impl_Board_withLine_fok tab_nil)))
noncomputable def impl_Board_slide_LS0 (F : Nat) : LT := []
theorem impl_Board_slide_lsok0 (F : Nat) : LoopsOK Try.prog (impl_Board_slide_LS0 F) (bodyOf Try.f61) := loopsOK_nil
theorem impl_Board_slide_keys : keysOK (bodyOf Try.f61) = true := by kernel_rfl
def impl_Board_slide_st8 (direction0 : Int) (score10 : Int) (t1712 : Int) (t3713 : List Bool) (b15 : List Int) (out17 : List Int) (mergers11 : Int) (t3814 : Int) : St := ⟨expand 49 0 [1, 2, 4, 7, 8, 9, 17, 37, 38] [(.int .i64 direction0), (.ptr 0 0 0 16), (.ptr 1 0 0 16), (.ptr 2 0 0 16), (.int .i64 score10), (.int .i64 mergers11), (.int .i64 t1712), (.bools 4 t3713), (.int .i64 t3814)], [(.var 16 (.ri .i64 b15)), (.var 16 (.ri .i64 [(0 : Int), (0 : Int), (0 : Int), (0 : Int), (0 : Int), (0 : Int), (0 : Int), (0 : Int), (0 : Int), (0 : Int), (0 : Int), (0 : Int), (0 : Int), (0 : Int), (0 : Int), (0 : Int)])), (.var 16 (.ri .i64 out17))], 0, []⟩
def impl_Board_slide_o8 (direction0 : Int) (score10 : Int) (t1712 : Int) (t3713 : List Bool) (b15 : List Int) (out17 : List Int) (x : Int) : GT := (.out (.exit 2 ⟨expand 49 0 [1, 2, 4, 7, 8, 9, 17] [(.int .i64 direction0), (.ptr 0 0 0 16), (.ptr 1 0 0 16), (.ptr 2 0 0 16), (.int .i64 score10), (.int .i64 x), (.int .i64 t1712)], [(.var 16 (.ri .i64 b15)), (.var 16 (.ri .i64 [(0 : Int), (0 : Int), (0 : Int), (0 : Int), (0 : Int), (0 : Int), (0 : Int), (0 : Int), (0 : Int), (0 : Int), (0 : Int), (0 : Int), (0 : Int), (0 : Int), (0 : Int), (0 : Int)])), (.var 16 (.ri .i64 out17))], 0, []⟩))
def impl_Board_slide_ls8 (F : Nat) : LoopS := ⟨49, [1, 2, 4, 7, 8, 9, 17, 37, 38], [], [1, 2, 4, 7, 8, 9, 17], [], [4, 5, 6], [], [], fun vals mem np killed => match vals, mem, np, killed with
  | [(.int .i64 direction0), (.ptr 0 0 0 16), (.ptr 1 0 0 16), (.ptr 2 0 0 16), (.int .i64 score10), (.int .i64 mergers11), (.int .i64 t1712), (.bools 4 t3713), (.int .i64 t3814)], [(.var 16 (.ri .i64 b15)), (.var 16 (.ri .i64 q_t416)), (.var 16 (.ri .i64 out17))], 0, [] => .br ((q_t416 == ([(0 : Int), (0 : Int), (0 : Int), (0 : Int), (0 : Int), (0 : Int), (0 : Int), (0 : Int), (0 : Int), (0 : Int), (0 : Int), (0 : Int), (0 : Int), (0 : Int), (0 : Int), (0 : Int)] : List Int)) && (impl_Board_slide_l8 F direction0 score10 t1712 t3713 b15 out17 mergers11 t3814).isSome) (impl_Board_slide_o8 direction0 score10 t1712 t3713 b15 out17 ((impl_Board_slide_l8 F direction0 score10 t1712 t3713 b15 out17 mergers11 t3814).getD default)) .fail
  | _, _, _, _ => .fail⟩
theorem impl_Board_slide_step8 (F : Nat) (direction0 : Int) (score10 : Int) (t1712 : Int) (t3713 : List Bool) (b15 : List Int) (out17 : List Int) (mergers11 : Int) (t3814 : Int) {R : Type} (k : Out → Option R) : stepS tt (impl_Board_slide_tab F) (impl_Board_slide_LS0 F) 70 (impl_Board_slide_ls8 F) (loopAt 8 (bodyOf Try.f61)) (impl_Board_slide_st8 direction0 score10 t1712 t3713 b15 out17 mergers11 t3814) k = impl_Board_slide_s8 F direction0 score10 t1712 t3713 b15 out17 R (mergers11, t3814) (fun s => k (.norm (impl_Board_slide_st8 direction0 score10 t1712 t3713 b15 out17 s.1 s.2))) (fun x => (impl_Board_slide_o8 direction0 score10 t1712 t3713 b15 out17 x).run k) := by kernel_rfl
theorem impl_Board_slide_iter8 (F : Nat) (direction0 : Int) (score10 : Int) (t1712 : Int) (t3713 : List Bool) (b15 : List Int) (out17 : List Int) {R : Type} (k : Out → Option R) : ∀ (n : Nat) (mergers11 : Int) (t3814 : Int), iterS tt (impl_Board_slide_tab F) (impl_Board_slide_LS0 F) 70 (impl_Board_slide_ls8 F) (loopAt 8 (bodyOf Try.f61)) n (impl_Board_slide_st8 direction0 score10 t1712 t3713 b15 out17 mergers11 t3814) k = loopC (impl_Board_slide_s8 F direction0 score10 t1712 t3713 b15 out17) n (mergers11, t3814) (fun x => (impl_Board_slide_o8 direction0 score10 t1712 t3713 b15 out17 x).run k)
  | 0, mergers11, t3814 => rfl
  | n + 1, mergers11, t3814 => (iterS_succ tt (impl_Board_slide_tab F) (impl_Board_slide_LS0 F) 70 (impl_Board_slide_ls8 F) (loopAt 8 (bodyOf Try.f61)) n (impl_Board_slide_st8 direction0 score10 t1712 t3713 b15 out17 mergers11 t3814) k).trans ((impl_Board_slide_step8 F direction0 score10 t1712 t3713 b15 out17 mergers11 t3814 (nextK (iterS tt (impl_Board_slide_tab F) (impl_Board_slide_LS0 F) 70 (impl_Board_slide_ls8 F) (loopAt 8 (bodyOf Try.f61)) n) k)).trans (congrArg (fun kn => impl_Board_slide_s8 F direction0 score10 t1712 t3713 b15 out17 R (mergers11, t3814) kn _) (funext (fun ⟨mergers11, t3814⟩ => impl_Board_slide_iter8 F direction0 score10 t1712 t3713 b15 out17 k n mergers11 t3814))))
theorem impl_Board_slide_lok8 (F : Nat) : LoopOK Try.prog (loopAt 8 (bodyOf Try.f61)) (impl_Board_slide_ls8 F) := by
  refine loopOK_of mixed ttok deep (impl_Board_slide_tabok F) (loopsOK_at (impl_Board_slide_lsok0 F) 8) (fuel := 70) fun R vals mem np killed k x h => ?_
  simp only [impl_Board_slide_ls8] at h
  split at h
  · rename_i direction0 score10 mergers11 t1712 t3713 t3814 b15 q_t416 out17
    simp only [GT.run] at h
    have hc := (cond_noneL h).1
    replace h := (cond_noneL h).2
    have hg := (and_split hc).1
    replace hc := (and_split hc).2
    obtain rfl := beq_li hg
    refine ⟨F, (impl_Board_slide_iter8 F direction0 score10 t1712 t3713 b15 out17 k F mergers11 t3814).trans ((loopC_use (impl_Board_slide_s8_nat F direction0 score10 t1712 t3713 b15 out17) hc _).trans h)⟩
  · simp only [GT.run] at h
    cases h
noncomputable def impl_Board_slide_LS1 (F : Nat) : LT := (8, impl_Board_slide_ls8 F) :: impl_Board_slide_LS0 F
theorem impl_Board_slide_lsok1 (F : Nat) : LoopsOK Try.prog (impl_Board_slide_LS1 F) (bodyOf Try.f61) := loopsOK_cons impl_Board_slide_keys (impl_Board_slide_lok8 F) (impl_Board_slide_lsok0 F)
def impl_Board_slide_st3 (direction0 : Int) (b13 : List Int) (score10 : Int) (mergers11 : Int) (t1712 : Int) (out15 : List Int) : St := ⟨expand 49 0 [1, 2, 4, 7, 8, 9, 17] [(.int .i64 direction0), (.ptr 0 0 0 16), (.ptr 1 0 0 16), (.ptr 2 0 0 16), (.int .i64 score10), (.int .i64 mergers11), (.int .i64 t1712)], [(.var 16 (.ri .i64 b13)), (.var 16 (.ri .i64 [(0 : Int), (0 : Int), (0 : Int), (0 : Int), (0 : Int), (0 : Int), (0 : Int), (0 : Int), (0 : Int), (0 : Int), (0 : Int), (0 : Int), (0 : Int), (0 : Int), (0 : Int), (0 : Int)])), (.var 16 (.ri .i64 out15))], 0, []⟩
def impl_Board_slide_o3 (direction0 : Int) (b13 : List Int) (x : Int × Int × List Int) : GT := (.out (.exit 0 ⟨expand 49 0 [4, 7, 8, 9] [(.ptr 0 0 0 16), (.ptr 1 0 0 16), (.int .i64 x.1), (.int .i64 x.2.1)], [(.var 16 (.ri .i64 [(0 : Int), (0 : Int), (0 : Int), (0 : Int), (0 : Int), (0 : Int), (0 : Int), (0 : Int), (0 : Int), (0 : Int), (0 : Int), (0 : Int), (0 : Int), (0 : Int), (0 : Int), (0 : Int)])), (.var 16 (.ri .i64 x.2.2))], 0, []⟩))
def impl_Board_slide_ls3 (F : Nat) : LoopS := ⟨49, [1, 2, 4, 7, 8, 9, 17], [], [4, 7, 8, 9], [], [4, 5, 6], [], [], fun vals mem np killed => match vals, mem, np, killed with
  | [(.int .i64 direction0), (.ptr 0 0 0 16), (.ptr 1 0 0 16), (.ptr 2 0 0 16), (.int .i64 score10), (.int .i64 mergers11), (.int .i64 t1712)], [(.var 16 (.ri .i64 b13)), (.var 16 (.ri .i64 q_t414)), (.var 16 (.ri .i64 out15))], 0, [] => .br ((q_t414 == ([(0 : Int), (0 : Int), (0 : Int), (0 : Int), (0 : Int), (0 : Int), (0 : Int), (0 : Int), (0 : Int), (0 : Int), (0 : Int), (0 : Int), (0 : Int), (0 : Int), (0 : Int), (0 : Int)] : List Int)) && (impl_Board_slide_l3 F direction0 b13 score10 mergers11 t1712 out15).isSome) (impl_Board_slide_o3 direction0 b13 ((impl_Board_slide_l3 F direction0 b13 score10 mergers11 t1712 out15).getD default)) .fail
  | _, _, _, _ => .fail⟩
theorem impl_Board_slide_step3 (F : Nat) (direction0 : Int) (b13 : List Int) (score10 : Int) (mergers11 : Int) (t1712 : Int) (out15 : List Int) {R : Type} (k : Out → Option R) : stepS tt (impl_Board_slide_tab F) (impl_Board_slide_LS1 F) 70 (impl_Board_slide_ls3 F) (loopAt 3 (bodyOf Try.f61)) (impl_Board_slide_st3 direction0 b13 score10 mergers11 t1712 out15) k = impl_Board_slide_s3 F direction0 b13 R (score10, mergers11, t1712, out15) (fun s => k (.norm (impl_Board_slide_st3 direction0 b13 s.1 s.2.1 s.2.2.1 s.2.2.2))) (fun x => (impl_Board_slide_o3 direction0 b13 x).run k) := by kernel_rfl
theorem impl_Board_slide_iter3 (F : Nat) (direction0 : Int) (b13 : List Int) {R : Type} (k : Out → Option R) : ∀ (n : Nat) (score10 : Int) (mergers11 : Int) (t1712 : Int) (out15 : List Int), iterS tt (impl_Board_slide_tab F) (impl_Board_slide_LS1 F) 70 (impl_Board_slide_ls3 F) (loopAt 3 (bodyOf Try.f61)) n (impl_Board_slide_st3 direction0 b13 score10 mergers11 t1712 out15) k = loopC (impl_Board_slide_s3 F direction0 b13) n (score10, mergers11, t1712, out15) (fun x => (impl_Board_slide_o3 direction0 b13 x).run k)
  | 0, score10, mergers11, t1712, out15 => rfl
  | n + 1, score10, mergers11, t1712, out15 => (iterS_succ tt (impl_Board_slide_tab F) (impl_Board_slide_LS1 F) 70 (impl_Board_slide_ls3 F) (loopAt 3 (bodyOf Try.f61)) n (impl_Board_slide_st3 direction0 b13 score10 mergers11 t1712 out15) k).trans ((impl_Board_slide_step3 F direction0 b13 score10 mergers11 t1712 out15 (nextK (iterS tt (impl_Board_slide_tab F) (impl_Board_slide_LS1 F) 70 (impl_Board_slide_ls3 F) (loopAt 3 (bodyOf Try.f61)) n) k)).trans (congrArg (fun kn => impl_Board_slide_s3 F direction0 b13 R (score10, mergers11, t1712, out15) kn _) (funext (fun ⟨score10, mergers11, t1712, out15⟩ => impl_Board_slide_iter3 F direction0 b13 k n score10 mergers11 t1712 out15))))
theorem impl_Board_slide_lok3 (F : Nat) : LoopOK Try.prog (loopAt 3 (bodyOf Try.f61)) (impl_Board_slide_ls3 F) := by
  refine loopOK_of mixed ttok deep (impl_Board_slide_tabok F) (loopsOK_at (impl_Board_slide_lsok1 F) 3) (fuel := 70) fun R vals mem np killed k x h => ?_
  simp only [impl_Board_slide_ls3] at h
  split at h
  · rename_i direction0 score10 mergers11 t1712 b13 q_t414 out15
    simp only [GT.run] at h
    have hc := (cond_noneL h).1
    replace h := (cond_noneL h).2
    have hg := (and_split hc).1
    replace hc := (and_split hc).2
    obtain rfl := beq_li hg
    refine ⟨F, (impl_Board_slide_iter3 F direction0 b13 k F score10 mergers11 t1712 out15).trans ((loopC_use (impl_Board_slide_s3_nat F direction0 b13) hc _).trans h)⟩
  · simp only [GT.run] at h
    cases h
noncomputable def impl_Board_slide_LS2 (F : Nat) : LT := (3, impl_Board_slide_ls3 F) :: impl_Board_slide_LS1 F
theorem impl_Board_slide_lsok2 (F : Nat) : LoopsOK Try.prog (impl_Board_slide_LS2 F) (bodyOf Try.f61) := loopsOK_cons impl_Board_slide_keys (impl_Board_slide_lok3 F) (impl_Board_slide_lsok1 F)
theorem impl_Board_slide_run (F : Nat) (b0 : List Int) (direction1 : Int) : runS tt (impl_Board_slide_tab F) (impl_Board_slide_LS2 F) [] [] Try.f61 (bodyOf Try.f61) 70 [(.ints 16 b0), (.int .i64 direction1)] [] = impl_Board_slide_c _ F b0 direction1 (fun r => some ⟨(.tup [(.ints 16 r.1), (.int .i64 r.2.1), (.int .i64 r.2.2)]), [], []⟩) := by kernel_rfl
def impl_Board_slide_ent (F : Nat) : Ent := ⟨[], .quiet, fun args mem => match args, mem with
  | [(.ints 16 b0), (.int .i64 direction1)], [] => some ((impl_Board_slide_p F b0 direction1).isSome, ⟨(.tup [(.ints 16 ((impl_Board_slide_p F b0 direction1).getD default).1), (.int .i64 ((impl_Board_slide_p F b0 direction1).getD default).2.1), (.int .i64 ((impl_Board_slide_p F b0 direction1).getD default).2.2)]), [], []⟩)
  | _, _ => none⟩
theorem impl_Board_slide_fok : FunOK Try.prog 61 := funOK Try.func61 (by kernel_rfl) rfl
theorem impl_Board_slide_meets (F : Nat) : Meets Try.prog 61 (impl_Board_slide_ent F) := by
  refine meets_of_runS mixed ttok deep (impl_Board_slide_tabok F) Try.func61 (body_some rfl) (impl_Board_slide_lsok2 F) fun args mem hfit ret h => ?_
  clear hfit
  simp only [impl_Board_slide_ent] at h
  split at h
  · rename_i b0 direction1
    simp only [Option.some.injEq, Prod.mk.injEq] at h
    obtain ⟨hc, rfl⟩ := h
    exact ⟨[], [], 70, _, (impl_Board_slide_run F b0 direction1).trans ((impl_Board_slide_cp _ F b0 direction1 _).trans (bind_use hc _)), rfl, rfl, rfl⟩
  · cases h

/-! (loop.example/g01194/impl.Board).moves -/
noncomputable def impl_Board_moves_tab (F : Nat) : Tab := [(61, (impl_Board_slide_ent F))]
theorem impl_Board_moves_tabok (F : Nat) : TabOK Try.prog (impl_Board_moves_tab F) := (tab_cons (impl_Board_slide_meets F) impl_Board_slide_fok tab_nil)
noncomputable def impl_Board_moves_LS0 (F : Nat) : LT := []
theorem impl_Board_moves_lsok0 (F : Nat) : LoopsOK Try.prog (impl_Board_moves_LS0 F) (bodyOf Try.f39) := loopsOK_nil
theorem impl_Board_moves_keys : keysOK (bodyOf Try.f39) = true := by kernel_rfl
def impl_Board_moves_st3 (b6 : List Int) (t95 : Int) (out7 : List Int) : St := ⟨expand 28 0 [1, 3, 9] [(.ptr 0 0 0 16), (.sl 1 0 (List.length out7)), (.int .i64 t95)], [(.var 16 (.ri .i64 b6)), (.vec 3 (.ri .i64 out7))], 0, []⟩
def impl_Board_moves_o3 (b6 : List Int) (x : List Int) : GT := (.out (.exit 0 ⟨expand 28 0 [3] [(.sl 0 0 (List.length x))], [(.vec 3 (.ri .i64 x))], 0, []⟩))
def impl_Board_moves_ls3 (F : Nat) : LoopS := ⟨28, [1, 3, 9], [], [3], [], [2], [], [], fun vals mem np killed => match vals, mem, np, killed with
  | [(.ptr 0 0 0 16), (.sl 1 0 q_out4), (.int .i64 t95)], [(.var 16 (.ri .i64 b6)), (.vec 3 (.ri .i64 out7))], 0, [] => .br ((Nat.beq q_out4 (List.length out7)) && (impl_Board_moves_l3 F b6 t95 out7).isSome) (impl_Board_moves_o3 b6 ((impl_Board_moves_l3 F b6 t95 out7).getD default)) .fail
  | _, _, _, _ => .fail⟩
theorem impl_Board_moves_step3 (F : Nat) (b6 : List Int) (t95 : Int) (out7 : List Int) {R : Type} (k : Out → Option R) : stepS tt (impl_Board_moves_tab F) (impl_Board_moves_LS0 F) 70 (impl_Board_moves_ls3 F) (loopAt 3 (bodyOf Try.f39)) (impl_Board_moves_st3 b6 t95 out7) k = impl_Board_moves_s3 F b6 R (t95, out7) (fun s => k (.norm (impl_Board_moves_st3 b6 s.1 s.2))) (fun x => (impl_Board_moves_o3 b6 x).run k) := by kernel_rfl
theorem impl_Board_moves_iter3 (F : Nat) (b6 : List Int) {R : Type} (k : Out → Option R) : ∀ (n : Nat) (t95 : Int) (out7 : List Int), iterS tt (impl_Board_moves_tab F) (impl_Board_moves_LS0 F) 70 (impl_Board_moves_ls3 F) (loopAt 3 (bodyOf Try.f39)) n (impl_Board_moves_st3 b6 t95 out7) k = loopC (impl_Board_moves_s3 F b6) n (t95, out7) (fun x => (impl_Board_moves_o3 b6 x).run k)
  | 0, t95, out7 => rfl
  | n + 1, t95, out7 => (iterS_succ tt (impl_Board_moves_tab F) (impl_Board_moves_LS0 F) 70 (impl_Board_moves_ls3 F) (loopAt 3 (bodyOf Try.f39)) n (impl_Board_moves_st3 b6 t95 out7) k).trans ((impl_Board_moves_step3 F b6 t95 out7 (nextK (iterS tt (impl_Board_moves_tab F) (impl_Board_moves_LS0 F) 70 (impl_Board_moves_ls3 F) (loopAt 3 (bodyOf Try.f39)) n) k)).trans (congrArg (fun kn => impl_Board_moves_s3 F b6 R (t95, out7) kn _) (funext (fun ⟨t95, out7⟩ => impl_Board_moves_iter3 F b6 k n t95 out7))))
theorem impl_Board_moves_lok3 (F : Nat) : LoopOK Try.prog (loopAt 3 (bodyOf Try.f39)) (impl_Board_moves_ls3 F) := by
  refine loopOK_of mixed ttok deep (impl_Board_moves_tabok F) (loopsOK_at (impl_Board_moves_lsok0 F) 3) (fuel := 70) fun R vals mem np killed k x h => ?_
  simp only [impl_Board_moves_ls3] at h
  split at h
  · rename_i q_out4 t95 b6 out7
    simp only [GT.run] at h
    have hc := (cond_noneL h).1
    replace h := (cond_noneL h).2
    have hg := (and_split hc).1
    replace hc := (and_split hc).2
    obtain rfl := nbeq_nat hg
    refine ⟨F, (impl_Board_moves_iter3 F b6 k F t95 out7).trans ((loopC_use (impl_Board_moves_s3_nat F b6) hc _).trans h)⟩
  · simp only [GT.run] at h
    cases h
noncomputable def impl_Board_moves_LS1 (F : Nat) : LT := (3, impl_Board_moves_ls3 F) :: impl_Board_moves_LS0 F
theorem impl_Board_moves_lsok1 (F : Nat) : LoopsOK Try.prog (impl_Board_moves_LS1 F) (bodyOf Try.f39) := loopsOK_cons impl_Board_moves_keys (impl_Board_moves_lok3 F) (impl_Board_moves_lsok0 F)
theorem impl_Board_moves_run (F : Nat) (b0 : List Int) : runS tt (impl_Board_moves_tab F) (impl_Board_moves_LS1 F) [] [] Try.f39 (bodyOf Try.f39) 70 [(.ints 16 b0)] [] = impl_Board_moves_c _ F b0 (fun r => some ⟨(.sl 0 0 (List.length r)), [(.vec 3 (.ri .i64 r))], []⟩) := by kernel_rfl
def impl_Board_moves_ent (F : Nat) : Ent := ⟨[], .fresh, fun args mem => match args, mem with
  | [(.ints 16 b0)], [] => some ((impl_Board_moves_p F b0).isSome, ⟨(.sl 0 0 (List.length ((impl_Board_moves_p F b0).getD default))), [(.vec 3 (.ri .i64 ((impl_Board_moves_p F b0).getD default)))], []⟩)
  | _, _ => none⟩
theorem impl_Board_moves_fok : FunOK Try.prog 39 := funOK Try.func39 (by kernel_rfl) rfl
theorem impl_Board_moves_meets (F : Nat) : Meets Try.prog 39 (impl_Board_moves_ent F) := by
  refine meets_of_runS mixed ttok deep (impl_Board_moves_tabok F) Try.func39 (body_some rfl) (impl_Board_moves_lsok1 F) fun args mem hfit ret h => ?_
  clear hfit
  simp only [impl_Board_moves_ent] at h
  split at h
  · rename_i b0
    simp only [Option.some.injEq, Prod.mk.injEq] at h
    obtain ⟨hc, rfl⟩ := h
    exact ⟨[], [], 70, _, (impl_Board_moves_run F b0).trans ((impl_Board_moves_cp _ F b0 _).trans (bind_use hc _)), rfl, rfl, rfl⟩
  · cases h

/-! (loop.example/g01194/impl.Board).sureOf -/
noncomputable def impl_Board_sureOf_n1_tab (F : Nat) : Tab := [(61, (impl_Board_slide_ent F))]
theorem impl_Board_sureOf_n1_tabok (F : Nat) : TabOK Try.prog (impl_Board_sureOf_n1_tab F) := (tab_cons (impl_Board_slide_meets F) impl_Board_slide_fok tab_nil)
noncomputable def impl_Board_sureOf_n1_LS0 (F : Nat) : LT := []
theorem impl_Board_sureOf_n1_lsok0 (F : Nat) : LoopsOK Try.prog (impl_Board_sureOf_n1_LS0 F) (bodyOf Try.f40) := loopsOK_nil
theorem impl_Board_sureOf_n1_run (F : Nat) (b0 : List Int) (direction1 : Int) : runS tt (impl_Board_sureOf_n1_tab F) (impl_Board_sureOf_n1_LS0 F) [] [] Try.f40 (bodyOf Try.f40) 70 [(.ints 16 b0), (.int .i64 direction1), (.int .i64 (1 : Int))] [] = impl_Board_sureOf_n1_c _ F b0 direction1 (fun r => some ⟨(.int .i64 r), [], []⟩) := by kernel_rfl
def impl_Board_sureOf_n1_ent (F : Nat) : Ent := ⟨[], .quiet, fun args mem => match args, mem with
  | [(.ints 16 b0), (.int .i64 direction1), (.int .i64 q_n2)], [] => bif (q_n2 == (1 : Int)) then some ((impl_Board_sureOf_n1_p F b0 direction1).isSome, ⟨(.int .i64 ((impl_Board_sureOf_n1_p F b0 direction1).getD default)), [], []⟩) else none
  | _, _ => none⟩
theorem impl_Board_sureOf_n1_fok : FunOK Try.prog 40 := funOK Try.func40 (by kernel_rfl) rfl
theorem impl_Board_sureOf_n1_meets (F : Nat) : Meets Try.prog 40 (impl_Board_sureOf_n1_ent F) := by
  refine meets_of_runS mixed ttok deep (impl_Board_sureOf_n1_tabok F) Try.func40 (body_some rfl) (impl_Board_sureOf_n1_lsok0 F) fun args mem hfit ret h => ?_
  clear hfit
  simp only [impl_Board_sureOf_n1_ent] at h
  split at h
  · rename_i b0 direction1 q_n2
    have hg0 := (cond_noneL h).1
    replace h := (cond_noneL h).2
    obtain rfl := beq_int hg0
    simp only [Option.some.injEq, Prod.mk.injEq] at h
    obtain ⟨hc, rfl⟩ := h
    exact ⟨[], [], 70, _, (impl_Board_sureOf_n1_run F b0 direction1).trans ((impl_Board_sureOf_n1_cp _ F b0 direction1 _).trans (bind_use hc _)), rfl, rfl, rfl⟩
  · cases h

/-! (loop.example/g01194/impl.Board).sure -/
noncomputable def impl_Board_sure_n1_tab (F : Nat) : Tab := [(39, (impl_Board_moves_ent F)), (40, (impl_Board_sureOf_n1_ent F))]
theorem impl_Board_sure_n1_tabok (F : Nat) : TabOK Try.prog (impl_Board_sure_n1_tab F) := (tab_cons (impl_Board_moves_meets F) impl_Board_moves_fok (tab_cons (impl_Board_sureOf_n1_meets F) impl_Board_sureOf_n1_fok tab_nil))
noncomputable def impl_Board_sure_n1_LS0 (F : Nat) : LT := []
theorem impl_Board_sure_n1_lsok0 (F : Nat) : LoopsOK Try.prog (impl_Board_sure_n1_LS0 F) (bodyOf Try.f35) := loopsOK_nil
theorem impl_Board_sure_n1_keys : keysOK (bodyOf Try.f35) = true := by kernel_rfl
def impl_Board_sure_n1_st4 (t127 : Int) (b9 : List Int) (t1110 : List Int) (most4 : Int) (t138 : Int) : St := ⟨expand 25 0 [1, 2, 5, 11, 12, 13] [(.int .i64 (1 : Int)), (.ptr 0 0 0 16), (.int .i64 most4), (.sl 1 0 (List.length t1110)), (.int .i64 t127), (.int .i64 t138)], [(.var 16 (.ri .i64 b9)), (.vec 3 (.ri .i64 t1110))], 0, []⟩
def impl_Board_sure_n1_o4 (t127 : Int) (b9 : List Int) (t1110 : List Int) (x : Int) : GT := (.out (.exit 0 ⟨expand 25 0 [5] [(.int .i64 x)], [], 0, []⟩))
def impl_Board_sure_n1_ls4 (F : Nat) : LoopS := ⟨25, [1, 2, 5, 11, 12, 13], [], [5], [], [4], [], [], fun vals mem np killed => match vals, mem, np, killed with
  | [(.int .i64 q_n0), (.ptr 0 0 0 16), (.int .i64 most4), (.sl 1 0 q_t116), (.int .i64 t127), (.int .i64 t138)], [(.var 16 (.ri .i64 b9)), (.vec 3 (.ri .i64 t1110))], 0, [] => .br ((q_n0 == (1 : Int)) && ((Nat.beq q_t116 (List.length t1110)) && (impl_Board_sure_n1_l4 F t127 b9 t1110 most4 t138).isSome)) (impl_Board_sure_n1_o4 t127 b9 t1110 ((impl_Board_sure_n1_l4 F t127 b9 t1110 most4 t138).getD default)) .fail
  | _, _, _, _ => .fail⟩
theorem impl_Board_sure_n1_step4 (F : Nat) (t127 : Int) (b9 : List Int) (t1110 : List Int) (most4 : Int) (t138 : Int) {R : Type} (k : Out → Option R) : stepS tt (impl_Board_sure_n1_tab F) (impl_Board_sure_n1_LS0 F) 70 (impl_Board_sure_n1_ls4 F) (loopAt 4 (bodyOf Try.f35)) (impl_Board_sure_n1_st4 t127 b9 t1110 most4 t138) k = impl_Board_sure_n1_s4 F t127 b9 t1110 R (most4, t138) (fun s => k (.norm (impl_Board_sure_n1_st4 t127 b9 t1110 s.1 s.2))) (fun x => (impl_Board_sure_n1_o4 t127 b9 t1110 x).run k) := by kernel_rfl
theorem impl_Board_sure_n1_iter4 (F : Nat) (t127 : Int) (b9 : List Int) (t1110 : List Int) {R : Type} (k : Out → Option R) : ∀ (n : Nat) (most4 : Int) (t138 : Int), iterS tt (impl_Board_sure_n1_tab F) (impl_Board_sure_n1_LS0 F) 70 (impl_Board_sure_n1_ls4 F) (loopAt 4 (bodyOf Try.f35)) n (impl_Board_sure_n1_st4 t127 b9 t1110 most4 t138) k = loopC (impl_Board_sure_n1_s4 F t127 b9 t1110) n (most4, t138) (fun x => (impl_Board_sure_n1_o4 t127 b9 t1110 x).run k)
  | 0, most4, t138 => rfl
  | n + 1, most4, t138 => (iterS_succ tt (impl_Board_sure_n1_tab F) (impl_Board_sure_n1_LS0 F) 70 (impl_Board_sure_n1_ls4 F) (loopAt 4 (bodyOf Try.f35)) n (impl_Board_sure_n1_st4 t127 b9 t1110 most4 t138) k).trans ((impl_Board_sure_n1_step4 F t127 b9 t1110 most4 t138 (nextK (iterS tt (impl_Board_sure_n1_tab F) (impl_Board_sure_n1_LS0 F) 70 (impl_Board_sure_n1_ls4 F) (loopAt 4 (bodyOf Try.f35)) n) k)).trans (congrArg (fun kn => impl_Board_sure_n1_s4 F t127 b9 t1110 R (most4, t138) kn _) (funext (fun ⟨most4, t138⟩ => impl_Board_sure_n1_iter4 F t127 b9 t1110 k n most4 t138))))
theorem impl_Board_sure_n1_lok4 (F : Nat) : LoopOK Try.prog (loopAt 4 (bodyOf Try.f35)) (impl_Board_sure_n1_ls4 F) := by
  refine loopOK_of mixed ttok deep (impl_Board_sure_n1_tabok F) (loopsOK_at (impl_Board_sure_n1_lsok0 F) 4) (fuel := 70) fun R vals mem np killed k x h => ?_
  simp only [impl_Board_sure_n1_ls4] at h
  split at h
  · rename_i q_n0 most4 q_t116 t127 t138 b9 t1110
    simp only [GT.run] at h
    have hc := (cond_noneL h).1
    replace h := (cond_noneL h).2
    have hg := (and_split hc).1
    replace hc := (and_split hc).2
    obtain rfl := beq_int hg
    have hg := (and_split hc).1
    replace hc := (and_split hc).2
    obtain rfl := nbeq_nat hg
    refine ⟨F, (impl_Board_sure_n1_iter4 F t127 b9 t1110 k F most4 t138).trans ((loopC_use (impl_Board_sure_n1_s4_nat F t127 b9 t1110) hc _).trans h)⟩
  · simp only [GT.run] at h
    cases h
noncomputable def impl_Board_sure_n1_LS1 (F : Nat) : LT := (4, impl_Board_sure_n1_ls4 F) :: impl_Board_sure_n1_LS0 F
theorem impl_Board_sure_n1_lsok1 (F : Nat) : LoopsOK Try.prog (impl_Board_sure_n1_LS1 F) (bodyOf Try.f35) := loopsOK_cons impl_Board_sure_n1_keys (impl_Board_sure_n1_lok4 F) (impl_Board_sure_n1_lsok0 F)
theorem impl_Board_sure_n1_run (F : Nat) (b0 : List Int) : runS tt (impl_Board_sure_n1_tab F) (impl_Board_sure_n1_LS1 F) [] [] Try.f35 (bodyOf Try.f35) 70 [(.ints 16 b0), (.int .i64 (1 : Int))] [] = impl_Board_sure_n1_c _ F b0 (fun r => some ⟨(.int .i64 r), [], []⟩) := by kernel_rfl
def impl_Board_sure_n1_ent (F : Nat) : Ent := ⟨[], .quiet, fun args mem => match args, mem with
  | [(.ints 16 b0), (.int .i64 q_n1)], [] => bif (q_n1 == (1 : Int)) then some ((impl_Board_sure_n1_p F b0).isSome, ⟨(.int .i64 ((impl_Board_sure_n1_p F b0).getD default)), [], []⟩) else none
  | _, _ => none⟩
theorem impl_Board_sure_n1_fok : FunOK Try.prog 35 := funOK Try.func35 (by kernel_rfl) rfl
theorem impl_Board_sure_n1_meets (F : Nat) : Meets Try.prog 35 (impl_Board_sure_n1_ent F) := by
  refine meets_of_runS mixed ttok deep (impl_Board_sure_n1_tabok F) Try.func35 (body_some rfl) (impl_Board_sure_n1_lsok1 F) fun args mem hfit ret h => ?_
  clear hfit
  simp only [impl_Board_sure_n1_ent] at h
  split at h
  · rename_i b0 q_n1
    have hg0 := (cond_noneL h).1
    replace h := (cond_noneL h).2
    obtain rfl := beq_int hg0
    simp only [Option.some.injEq, Prod.mk.injEq] at h
    obtain ⟨hc, rfl⟩ := h
    exact ⟨[], [], 70, _, (impl_Board_sure_n1_run F b0).trans ((impl_Board_sure_n1_cp _ F b0 _).trans (bind_use hc _)), rfl, rfl, rfl⟩
  · cases h

/-! loop.example/g01194/impl.cells -/
noncomputable def impl_cells_tab (F : Nat) : Tab := []
theorem impl_cells_tabok (F : Nat) : TabOK Try.prog (impl_cells_tab F) := tab_nil
noncomputable def impl_cells_LS0 (F : Nat) : LT := []
theorem impl_cells_lsok0 (F : Nat) : LoopsOK Try.prog (impl_cells_LS0 F) (bodyOf Try.f87) := loopsOK_nil
theorem impl_cells_run (F : Nat) : runS tt (impl_cells_tab F) (impl_cells_LS0 F) [] [] Try.f87 (bodyOf Try.f87) 70 [] [] = impl_cells_c _ (fun r => some ⟨(.sl 0 0 16), [(.vec 80 (.rr 2 [[(0 : Int), (0 : Int)], [(0 : Int), (1 : Int)], [(0 : Int), (2 : Int)], [(0 : Int), (3 : Int)], [(1 : Int), (0 : Int)], [(1 : Int), (1 : Int)], [(1 : Int), (2 : Int)], [(1 : Int), (3 : Int)], [(2 : Int), (0 : Int)], [(2 : Int), (1 : Int)], [(2 : Int), (2 : Int)], [(2 : Int), (3 : Int)], [(3 : Int), (0 : Int)], [(3 : Int), (1 : Int)], [(3 : Int), (2 : Int)], [(3 : Int), (3 : Int)]]))], []⟩) := by kernel_rfl
def impl_cells_ent (F : Nat) : Ent := ⟨[], .fresh, fun args mem => match args, mem with
  | [], [] => some (true, ⟨(.sl 0 0 16), [(.vec 80 (.rr 2 [[(0 : Int), (0 : Int)], [(0 : Int), (1 : Int)], [(0 : Int), (2 : Int)], [(0 : Int), (3 : Int)], [(1 : Int), (0 : Int)], [(1 : Int), (1 : Int)], [(1 : Int), (2 : Int)], [(1 : Int), (3 : Int)], [(2 : Int), (0 : Int)], [(2 : Int), (1 : Int)], [(2 : Int), (2 : Int)], [(2 : Int), (3 : Int)], [(3 : Int), (0 : Int)], [(3 : Int), (1 : Int)], [(3 : Int), (2 : Int)], [(3 : Int), (3 : Int)]]))], []⟩)
  | _, _ => none⟩
theorem impl_cells_fok : FunOK Try.prog 87 := funOK Try.func87 (by kernel_rfl) rfl
theorem impl_cells_meets (F : Nat) : Meets Try.prog 87 (impl_cells_ent F) := by
  refine meets_of_runS mixed ttok deep (impl_cells_tabok F) Try.func87 (body_some rfl) (impl_cells_lsok0 F) fun args mem hfit ret h => ?_
  clear hfit
  simp only [impl_cells_ent] at h
  split at h
  · simp only [Option.some.injEq, Prod.mk.injEq] at h
    obtain ⟨hc, rfl⟩ := h
    exact ⟨[], [], 70, _, (impl_cells_run F).trans (impl_cells_cv _ _), rfl, rfl, rfl⟩
  · cases h

/-! (loop.example/g01194/impl.Board).empty$1 -/
noncomputable def impl_Board_empty_f1_tab (F : Nat) : Tab := [(84, (impl_Board_at_ent F))]
theorem impl_Board_empty_f1_tabok (F : Nat) : TabOK Try.prog (impl_Board_empty_f1_tab F) := (tab_cons (impl_Board_at_meets F) impl_Board_at_fok tab_nil)
noncomputable def impl_Board_empty_f1_LS0 (F : Nat) : LT := []
theorem impl_Board_empty_f1_lsok0 (F : Nat) : LoopsOK Try.prog (impl_Board_empty_f1_LS0 F) (bodyOf Try.f88) := loopsOK_nil
theorem impl_Board_empty_f1_run (F : Nat) (cell0 : List Int) (a14 : List Int) : runS tt (impl_Board_empty_f1_tab F) (impl_Board_empty_f1_LS0 F) [] [] Try.f88 (bodyOf Try.f88) 70 [(.ints 2 cell0), (.ptr 0 0 0 16)] [(.var 16 (.ri .i64 a14))] = impl_Board_empty_f1_c _ cell0 a14 (fun r => some ⟨(.bool r), [(.var 16 (.ri .i64 a14))], []⟩) := by kernel_rfl
def impl_Board_empty_f1_ent (F : Nat) : Ent := ⟨[], .quiet, fun args mem => match args, mem with
  | [(.ints 2 cell0), (.ptr 0 0 0 16)], [(.var 16 (.ri .i64 a14))] => some ((impl_Board_empty_f1_p cell0 a14).isSome, ⟨(.bool ((impl_Board_empty_f1_p cell0 a14).getD default)), [], []⟩)
  | _, _ => none⟩
theorem impl_Board_empty_f1_fok : FunOK Try.prog 88 := funOK Try.func88 (by kernel_rfl) rfl
theorem impl_Board_empty_f1_meets (F : Nat) : Meets Try.prog 88 (impl_Board_empty_f1_ent F) := by
  refine meets_of_runS mixed ttok deep (impl_Board_empty_f1_tabok F) Try.func88 (body_some rfl) (impl_Board_empty_f1_lsok0 F) fun args mem hfit ret h => ?_
  clear hfit
  simp only [impl_Board_empty_f1_ent] at h
  split at h
  · rename_i cell0 a14
    simp only [Option.some.injEq, Prod.mk.injEq] at h
    obtain ⟨hc, rfl⟩ := h
    exact ⟨[], [], 70, _, (impl_Board_empty_f1_run F cell0 a14).trans ((impl_Board_empty_f1_cp _ cell0 a14 _).trans (bind_use hc _)), rfl, rfl, rfl⟩
  · cases h
end Go.Proofs.Ytidmlibanopfhaa
