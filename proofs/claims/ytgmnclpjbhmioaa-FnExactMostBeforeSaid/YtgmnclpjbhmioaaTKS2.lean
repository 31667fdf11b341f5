/-
Pure functions and what the code of them does, by program; without conditions.
-/
import Derived.Test.YtgmnclpjbhmioaaTKP2
import Derived.Test.YtgmnclpjbhmioaaTKS1
namespace Go.Proofs.Ytgmnclpjbhmioaa
open Go Go.Lv Go.Lv.P Go.Proofs
set_option linter.unusedVariables false
set_option linter.unusedSimpArgs false
set_option maxRecDepth 100000
/-! loop.example/g01194/impl.tiles$1 -/
noncomputable def impl_tiles_f1_tab (F : Nat) : Tab := []
theorem impl_tiles_f1_tabok (F : Nat) : TabOK Try.prog (impl_tiles_f1_tab F) := tab_nil
noncomputable def impl_tiles_f1_LS0 (F : Nat) : LT := []
theorem impl_tiles_f1_lsok0 (F : Nat) : LoopsOK Try.prog (impl_tiles_f1_LS0 F) (bodyOf Try.f92) := loopsOK_nil
theorem impl_tiles_f1_run (F : Nat) (n0 : Int) : runS tt (impl_tiles_f1_tab F) (impl_tiles_f1_LS0 F) [] [] Try.f92 (bodyOf Try.f92) 70 [(.int .i64 n0)] [] = impl_tiles_f1_c _ n0 (fun r => some ⟨(.bool r), [], []⟩) := by kernel_rfl
def impl_tiles_f1_ent (F : Nat) : Ent := ⟨[], .quiet, fun args mem => match args, mem with
  | [(.int .i64 n0)], [] => some (true, ⟨(.bool (impl_tiles_f1_v n0)), [], []⟩)
  | _, _ => none⟩
theorem impl_tiles_f1_fok : FunOK Try.prog 92 := funOK Try.func92 (by kernel_rfl) rfl
theorem impl_tiles_f1_meets (F : Nat) : Meets Try.prog 92 (impl_tiles_f1_ent F) := by
  refine meets_of_runS mixed ttok deep (impl_tiles_f1_tabok F) Try.func92 (body_some rfl) (impl_tiles_f1_lsok0 F) fun args mem hfit ret h => ?_
  clear hfit
  simp only [impl_tiles_f1_ent] at h
  split at h
  · rename_i n0
    simp only [Option.some.injEq, Prod.mk.injEq] at h
    obtain ⟨hc, rfl⟩ := h
    exact ⟨[], [], 70, _, (impl_tiles_f1_run F n0).trans (impl_tiles_f1_cv _ n0 _), rfl, rfl, rfl⟩
  · cases h

/-! slices.IndexFunc[[]int,int] -/
noncomputable def slices_IndexFunc_intint_impl_tiles_f1_tab (F : Nat) : Tab := [(92, (impl_tiles_f1_ent F))]
theorem slices_IndexFunc_intint_impl_tiles_f1_tabok (F : Nat) : TabOK Try.prog (slices_IndexFunc_intint_impl_tiles_f1_tab F) := (tab_cons (impl_tiles_f1_meets F) impl_tiles_f1_fok tab_nil)
noncomputable def slices_IndexFunc_intint_impl_tiles_f1_LS0 (F : Nat) : LT := []
theorem slices_IndexFunc_intint_impl_tiles_f1_lsok0 (F : Nat) : LoopsOK Try.prog (slices_IndexFunc_intint_impl_tiles_f1_LS0 F) (bodyOf Try.f126) := loopsOK_nil
theorem slices_IndexFunc_intint_impl_tiles_f1_keys : keysOK (bodyOf Try.f126) = true := by kernel_rfl
def slices_IndexFunc_intint_impl_tiles_f1_st2 (s0 : List Int) (t71 : Int) (t82 : Int) : St := ⟨expand 19 0 [0, 1, 7, 8] [(.ri .i64 s0), (.fn 92 [] []), (.int .i64 t71), (.int .i64 t82)], [], 0, []⟩
def slices_IndexFunc_intint_impl_tiles_f1_o2 (s0 : List Int) (t71 : Int) (x : Bool × Int) : GT := (.br x.1 (.out (.ret ⟨expand 19 0 [4] [(.int .i64 x.2)], [], 0, []⟩)) (.out (.exit 0 ⟨expand 19 0 [] [], [], 0, []⟩)))
def slices_IndexFunc_intint_impl_tiles_f1_ls2 (F : Nat) : LoopS := ⟨19, [0, 1, 7, 8], [], [], [], [4], [], [], fun vals mem np killed => match vals, mem, np, killed with
  | [(.ri .i64 s0), (.fn 92 [] []), (.int .i64 t71), (.int .i64 t82)], [], 0, [] => .br (slices_IndexFunc_intint_impl_tiles_f1_l2 F s0 t71 t82).isSome (slices_IndexFunc_intint_impl_tiles_f1_o2 s0 t71 ((slices_IndexFunc_intint_impl_tiles_f1_l2 F s0 t71 t82).getD default)) .fail
  | _, _, _, _ => .fail⟩
theorem slices_IndexFunc_intint_impl_tiles_f1_step2 (F : Nat) (s0 : List Int) (t71 : Int) (t82 : Int) {R : Type} (k : Out → Option R) : stepS tt (slices_IndexFunc_intint_impl_tiles_f1_tab F) (slices_IndexFunc_intint_impl_tiles_f1_LS0 F) 70 (slices_IndexFunc_intint_impl_tiles_f1_ls2 F) (loopAt 2 (bodyOf Try.f126)) (slices_IndexFunc_intint_impl_tiles_f1_st2 s0 t71 t82) k = slices_IndexFunc_intint_impl_tiles_f1_s2 F s0 t71 R t82 (fun s => k (.norm (slices_IndexFunc_intint_impl_tiles_f1_st2 s0 t71 s))) (fun x => (slices_IndexFunc_intint_impl_tiles_f1_o2 s0 t71 x).run k) := by kernel_rfl
theorem slices_IndexFunc_intint_impl_tiles_f1_iter2 (F : Nat) (s0 : List Int) (t71 : Int) {R : Type} (k : Out → Option R) : ∀ (n : Nat) (t82 : Int), iterS tt (slices_IndexFunc_intint_impl_tiles_f1_tab F) (slices_IndexFunc_intint_impl_tiles_f1_LS0 F) 70 (slices_IndexFunc_intint_impl_tiles_f1_ls2 F) (loopAt 2 (bodyOf Try.f126)) n (slices_IndexFunc_intint_impl_tiles_f1_st2 s0 t71 t82) k = loopC (slices_IndexFunc_intint_impl_tiles_f1_s2 F s0 t71) n t82 (fun x => (slices_IndexFunc_intint_impl_tiles_f1_o2 s0 t71 x).run k)
  | 0, t82 => rfl
  | n + 1, t82 => (iterS_succ tt (slices_IndexFunc_intint_impl_tiles_f1_tab F) (slices_IndexFunc_intint_impl_tiles_f1_LS0 F) 70 (slices_IndexFunc_intint_impl_tiles_f1_ls2 F) (loopAt 2 (bodyOf Try.f126)) n (slices_IndexFunc_intint_impl_tiles_f1_st2 s0 t71 t82) k).trans ((slices_IndexFunc_intint_impl_tiles_f1_step2 F s0 t71 t82 (nextK (iterS tt (slices_IndexFunc_intint_impl_tiles_f1_tab F) (slices_IndexFunc_intint_impl_tiles_f1_LS0 F) 70 (slices_IndexFunc_intint_impl_tiles_f1_ls2 F) (loopAt 2 (bodyOf Try.f126)) n) k)).trans (congrArg (fun kn => slices_IndexFunc_intint_impl_tiles_f1_s2 F s0 t71 R t82 kn _) (funext (fun t82 => slices_IndexFunc_intint_impl_tiles_f1_iter2 F s0 t71 k n t82))))
theorem slices_IndexFunc_intint_impl_tiles_f1_lok2 (F : Nat) : LoopOK Try.prog (loopAt 2 (bodyOf Try.f126)) (slices_IndexFunc_intint_impl_tiles_f1_ls2 F) := by
  refine loopOK_of mixed ttok deep (slices_IndexFunc_intint_impl_tiles_f1_tabok F) (loopsOK_at (slices_IndexFunc_intint_impl_tiles_f1_lsok0 F) 2) (fuel := 70) fun R vals mem np killed k x h => ?_
  simp only [slices_IndexFunc_intint_impl_tiles_f1_ls2] at h
  split at h
  · rename_i s0 t71 t82
    simp only [GT.run] at h
    have hc := (cond_noneL h).1
    replace h := (cond_noneL h).2
    refine ⟨F, (slices_IndexFunc_intint_impl_tiles_f1_iter2 F s0 t71 k F t82).trans ((loopC_use (slices_IndexFunc_intint_impl_tiles_f1_s2_nat F s0 t71) hc _).trans h)⟩
  · simp only [GT.run] at h
    cases h
noncomputable def slices_IndexFunc_intint_impl_tiles_f1_LS1 (F : Nat) : LT := (2, slices_IndexFunc_intint_impl_tiles_f1_ls2 F) :: slices_IndexFunc_intint_impl_tiles_f1_LS0 F
theorem slices_IndexFunc_intint_impl_tiles_f1_lsok1 (F : Nat) : LoopsOK Try.prog (slices_IndexFunc_intint_impl_tiles_f1_LS1 F) (bodyOf Try.f126) := loopsOK_cons slices_IndexFunc_intint_impl_tiles_f1_keys (slices_IndexFunc_intint_impl_tiles_f1_lok2 F) (slices_IndexFunc_intint_impl_tiles_f1_lsok0 F)
theorem slices_IndexFunc_intint_impl_tiles_f1_run (F : Nat) (s0 : List Int) : runS tt (slices_IndexFunc_intint_impl_tiles_f1_tab F) (slices_IndexFunc_intint_impl_tiles_f1_LS1 F) [] [] Try.f126 (bodyOf Try.f126) 70 [(.ri .i64 s0), (.fn 92 [] [])] [] = slices_IndexFunc_intint_impl_tiles_f1_c _ F s0 (fun r => some ⟨(.int .i64 r), [], []⟩) := by kernel_rfl
def slices_IndexFunc_intint_impl_tiles_f1_ent (F : Nat) : Ent := ⟨[], .quiet, fun args mem => match args, mem with
  | [(.ri .i64 s0), (.fn 92 [] [])], [] => some ((slices_IndexFunc_intint_impl_tiles_f1_p F s0).isSome, ⟨(.int .i64 ((slices_IndexFunc_intint_impl_tiles_f1_p F s0).getD default)), [], []⟩)
  | _, _ => none⟩
theorem slices_IndexFunc_intint_impl_tiles_f1_fok : FunOK Try.prog 126 := funOK Try.func126 (by kernel_rfl) rfl
theorem slices_IndexFunc_intint_impl_tiles_f1_meets (F : Nat) : Meets Try.prog 126 (slices_IndexFunc_intint_impl_tiles_f1_ent F) := by
  refine meets_of_runS mixed ttok deep (slices_IndexFunc_intint_impl_tiles_f1_tabok F) Try.func126 (body_some rfl) (slices_IndexFunc_intint_impl_tiles_f1_lsok1 F) fun args mem hfit ret h => ?_
  clear hfit
  simp only [slices_IndexFunc_intint_impl_tiles_f1_ent] at h
  split at h
  · rename_i s0
    simp only [Option.some.injEq, Prod.mk.injEq] at h
    obtain ⟨hc, rfl⟩ := h
    exact ⟨[], [], 70, _, (slices_IndexFunc_intint_impl_tiles_f1_run F s0).trans ((slices_IndexFunc_intint_impl_tiles_f1_cp _ F s0 _).trans (bind_use hc _)), rfl, rfl, rfl⟩
  · cases h

/-! slices.DeleteFunc[[]int,int] -/
noncomputable def slices_DeleteFunc_intint_impl_tiles_f1_tab (F : Nat) : Tab := [(126, (slices_IndexFunc_intint_impl_tiles_f1_ent F)), (92, (impl_tiles_f1_ent F))]
theorem slices_DeleteFunc_intint_impl_tiles_f1_tabok (F : Nat) : TabOK Try.prog (slices_DeleteFunc_intint_impl_tiles_f1_tab F) := (tab_cons (slices_IndexFunc_intint_impl_tiles_f1_meets F) slices_IndexFunc_intint_impl_tiles_f1_fok (tab_cons (impl_tiles_f1_meets F) impl_tiles_f1_fok tab_nil))
noncomputable def slices_DeleteFunc_intint_impl_tiles_f1_LS0 (F : Nat) : LT := []
theorem slices_DeleteFunc_intint_impl_tiles_f1_lsok0 (F : Nat) : LoopsOK Try.prog (slices_DeleteFunc_intint_impl_tiles_f1_LS0 F) (bodyOf Try.f90) := loopsOK_nil
theorem slices_DeleteFunc_intint_impl_tiles_f1_keys : keysOK (bodyOf Try.f90) = true := by kernel_rfl
def slices_DeleteFunc_intint_impl_tiles_f1_st5 (s1 : Nat) (i2 : Int) (j3 : Int) (s4 : List Int) : St := ⟨expand 42 0 [0, 1, 5, 6] [(.sl 0 0 s1), (.fn 92 [] []), (.int .i64 i2), (.int .i64 j3)], [(.vec 3 (.ri .i64 s4))], 1, []⟩
def slices_DeleteFunc_intint_impl_tiles_f1_o5 (s1 : Nat) (x : Int × List Int) : GT := (.out (.exit 0 ⟨expand 42 0 [0, 5] [(.sl 0 0 s1), (.int .i64 x.1)], [(.vec 3 (.ri .i64 x.2))], 1, []⟩))
def slices_DeleteFunc_intint_impl_tiles_f1_ls5 (F : Nat) : LoopS := ⟨42, [0, 1, 5, 6], [], [0, 5], [], [4], [], [], fun vals mem np killed => match vals, mem, np, killed with
  | [(.sl 0 0 s1), (.fn 92 [] []), (.int .i64 i2), (.int .i64 j3)], [(.vec 3 (.ri .i64 s4))], 1, [] => .br (slices_DeleteFunc_intint_impl_tiles_f1_l5 F s1 i2 j3 s4).isSome (slices_DeleteFunc_intint_impl_tiles_f1_o5 s1 ((slices_DeleteFunc_intint_impl_tiles_f1_l5 F s1 i2 j3 s4).getD default)) .fail
  | _, _, _, _ => .fail⟩
theorem slices_DeleteFunc_intint_impl_tiles_f1_step5 (F : Nat) (s1 : Nat) (i2 : Int) (j3 : Int) (s4 : List Int) {R : Type} (k : Out → Option R) : stepS tt (slices_DeleteFunc_intint_impl_tiles_f1_tab F) (slices_DeleteFunc_intint_impl_tiles_f1_LS0 F) 70 (slices_DeleteFunc_intint_impl_tiles_f1_ls5 F) (loopAt 5 (bodyOf Try.f90)) (slices_DeleteFunc_intint_impl_tiles_f1_st5 s1 i2 j3 s4) k = slices_DeleteFunc_intint_impl_tiles_f1_s5 F s1 R (i2, j3, s4) (fun s => k (.norm (slices_DeleteFunc_intint_impl_tiles_f1_st5 s1 s.1 s.2.1 s.2.2))) (fun x => (slices_DeleteFunc_intint_impl_tiles_f1_o5 s1 x).run k) := by kernel_rfl
theorem slices_DeleteFunc_intint_impl_tiles_f1_iter5 (F : Nat) (s1 : Nat) {R : Type} (k : Out → Option R) : ∀ (n : Nat) (i2 : Int) (j3 : Int) (s4 : List Int), iterS tt (slices_DeleteFunc_intint_impl_tiles_f1_tab F) (slices_DeleteFunc_intint_impl_tiles_f1_LS0 F) 70 (slices_DeleteFunc_intint_impl_tiles_f1_ls5 F) (loopAt 5 (bodyOf Try.f90)) n (slices_DeleteFunc_intint_impl_tiles_f1_st5 s1 i2 j3 s4) k = loopC (slices_DeleteFunc_intint_impl_tiles_f1_s5 F s1) n (i2, j3, s4) (fun x => (slices_DeleteFunc_intint_impl_tiles_f1_o5 s1 x).run k)
  | 0, i2, j3, s4 => rfl
  | n + 1, i2, j3, s4 => (iterS_succ tt (slices_DeleteFunc_intint_impl_tiles_f1_tab F) (slices_DeleteFunc_intint_impl_tiles_f1_LS0 F) 70 (slices_DeleteFunc_intint_impl_tiles_f1_ls5 F) (loopAt 5 (bodyOf Try.f90)) n (slices_DeleteFunc_intint_impl_tiles_f1_st5 s1 i2 j3 s4) k).trans ((slices_DeleteFunc_intint_impl_tiles_f1_step5 F s1 i2 j3 s4 (nextK (iterS tt (slices_DeleteFunc_intint_impl_tiles_f1_tab F) (slices_DeleteFunc_intint_impl_tiles_f1_LS0 F) 70 (slices_DeleteFunc_intint_impl_tiles_f1_ls5 F) (loopAt 5 (bodyOf Try.f90)) n) k)).trans (congrArg (fun kn => slices_DeleteFunc_intint_impl_tiles_f1_s5 F s1 R (i2, j3, s4) kn _) (funext (fun ⟨i2, j3, s4⟩ => slices_DeleteFunc_intint_impl_tiles_f1_iter5 F s1 k n i2 j3 s4))))
theorem slices_DeleteFunc_intint_impl_tiles_f1_lok5 (F : Nat) : LoopOK Try.prog (loopAt 5 (bodyOf Try.f90)) (slices_DeleteFunc_intint_impl_tiles_f1_ls5 F) := by
  refine loopOK_of mixed ttok deep (slices_DeleteFunc_intint_impl_tiles_f1_tabok F) (loopsOK_at (slices_DeleteFunc_intint_impl_tiles_f1_lsok0 F) 5) (fuel := 70) fun R vals mem np killed k x h => ?_
  simp only [slices_DeleteFunc_intint_impl_tiles_f1_ls5] at h
  split at h
  · rename_i s1 i2 j3 s4
    simp only [GT.run] at h
    have hc := (cond_noneL h).1
    replace h := (cond_noneL h).2
    refine ⟨F, (slices_DeleteFunc_intint_impl_tiles_f1_iter5 F s1 k F i2 j3 s4).trans ((loopC_use (slices_DeleteFunc_intint_impl_tiles_f1_s5_nat F s1) hc _).trans h)⟩
  · simp only [GT.run] at h
    cases h
noncomputable def slices_DeleteFunc_intint_impl_tiles_f1_LS1 (F : Nat) : LT := (5, slices_DeleteFunc_intint_impl_tiles_f1_ls5 F) :: slices_DeleteFunc_intint_impl_tiles_f1_LS0 F
theorem slices_DeleteFunc_intint_impl_tiles_f1_lsok1 (F : Nat) : LoopsOK Try.prog (slices_DeleteFunc_intint_impl_tiles_f1_LS1 F) (bodyOf Try.f90) := loopsOK_cons slices_DeleteFunc_intint_impl_tiles_f1_keys (slices_DeleteFunc_intint_impl_tiles_f1_lok5 F) (slices_DeleteFunc_intint_impl_tiles_f1_lsok0 F)
theorem slices_DeleteFunc_intint_impl_tiles_f1_run (F : Nat) (s2 : List Int) : runS tt (slices_DeleteFunc_intint_impl_tiles_f1_tab F) (slices_DeleteFunc_intint_impl_tiles_f1_LS1 F) [] [] Try.f90 (bodyOf Try.f90) 70 [(.sl 0 0 (List.length s2)), (.fn 92 [] [])] [(.vec 3 (.ri .i64 s2))] = slices_DeleteFunc_intint_impl_tiles_f1_c _ F s2 (fun r => some ⟨(.sl 0 0 r.1), [(.vec 3 (.ri .i64 r.2))], []⟩) := by kernel_rfl
def slices_DeleteFunc_intint_impl_tiles_f1_ent (F : Nat) : Ent := ⟨[true], .loud, fun args mem => match args, mem with
  | [(.sl 0 0 q_s1), (.fn 92 [] [])], [(.vec 3 (.ri .i64 s2))] => some (((Nat.beq q_s1 (List.length s2)) && (slices_DeleteFunc_intint_impl_tiles_f1_p F s2).isSome), ⟨(.sl 0 0 ((slices_DeleteFunc_intint_impl_tiles_f1_p F s2).getD default).1), [(.vec 3 (.ri .i64 ((slices_DeleteFunc_intint_impl_tiles_f1_p F s2).getD default).2))], []⟩)
  | _, _ => none⟩
theorem slices_DeleteFunc_intint_impl_tiles_f1_fok : FunOK Try.prog 90 := funOK Try.func90 (by kernel_rfl) rfl
theorem slices_DeleteFunc_intint_impl_tiles_f1_meets (F : Nat) : Meets Try.prog 90 (slices_DeleteFunc_intint_impl_tiles_f1_ent F) := by
  refine meets_of_runS mixed ttok deep (slices_DeleteFunc_intint_impl_tiles_f1_tabok F) Try.func90 (body_some rfl) (slices_DeleteFunc_intint_impl_tiles_f1_lsok1 F) fun args mem hfit ret h => ?_
  clear hfit
  simp only [slices_DeleteFunc_intint_impl_tiles_f1_ent] at h
  split at h
  · rename_i q_s1 s2
    simp only [Option.some.injEq, Prod.mk.injEq] at h
    obtain ⟨hc, rfl⟩ := h
    have hg := (and_split hc).1
    replace hc := (and_split hc).2
    obtain rfl := nbeq_nat hg
    exact ⟨[], [], 70, _, (slices_DeleteFunc_intint_impl_tiles_f1_run F s2).trans ((slices_DeleteFunc_intint_impl_tiles_f1_cp _ F s2 _).trans (bind_use hc _)), rfl, rfl, rfl⟩
  · cases h

/-! loop.example/g01194/impl.tiles -/
noncomputable def impl_tiles_tab (F : Nat) : Tab := [(91, (slices_Clone_intint_ent F)), (90, (slices_DeleteFunc_intint_impl_tiles_f1_ent F))]
theorem impl_tiles_tabok (F : Nat) : TabOK Try.prog (impl_tiles_tab F) := (tab_cons (slices_Clone_intint_meets F) slices_Clone_intint_fok (tab_cons (slices_DeleteFunc_intint_impl_tiles_f1_meets F) slices_DeleteFunc_intint_impl_tiles_f1_fok tab_nil))
noncomputable def impl_tiles_LS0 (F : Nat) : LT := []
theorem impl_tiles_lsok0 (F : Nat) : LoopsOK Try.prog (impl_tiles_LS0 F) (bodyOf Try.f57) := loopsOK_nil
theorem impl_tiles_run (F : Nat) (row0 : List Int) : runS tt (impl_tiles_tab F) (impl_tiles_LS0 F) [] [] Try.f57 (bodyOf Try.f57) 70 [(.ints 4 row0)] [] = impl_tiles_c _ F row0 (fun r => some ⟨(.sl 0 0 r.1), [(.vec 3 (.ri .i64 r.2))], []⟩) := by kernel_rfl
def impl_tiles_ent (F : Nat) : Ent := ⟨[], .fresh, fun args mem => match args, mem with
  | [(.ints 4 row0)], [] => some ((impl_tiles_p F row0).isSome, ⟨(.sl 0 0 ((impl_tiles_p F row0).getD default).1), [(.vec 3 (.ri .i64 ((impl_tiles_p F row0).getD default).2))], []⟩)
  | _, _ => none⟩
theorem impl_tiles_fok : FunOK Try.prog 57 := funOK Try.func57 (by kernel_rfl) rfl
theorem impl_tiles_meets (F : Nat) : Meets Try.prog 57 (impl_tiles_ent F) := by
  refine meets_of_runS mixed ttok deep (impl_tiles_tabok F) Try.func57 (body_some rfl) (impl_tiles_lsok0 F) fun args mem hfit ret h => ?_
  clear hfit
  simp only [impl_tiles_ent] at h
  split at h
  · rename_i row0
    simp only [Option.some.injEq, Prod.mk.injEq] at h
    obtain ⟨hc, rfl⟩ := h
    exact ⟨[], [], 70, _, (impl_tiles_run F row0).trans ((impl_tiles_cp _ F row0 _).trans (bind_use hc _)), rfl, rfl, rfl⟩
  · cases h

/-! slices.Equal[[]int,int] -/
noncomputable def slices_Equal_intint_tab (F : Nat) : Tab := []
theorem slices_Equal_intint_tabok (F : Nat) : TabOK Try.prog (slices_Equal_intint_tab F) := tab_nil
noncomputable def slices_Equal_intint_LS0 (F : Nat) : LT := []
theorem slices_Equal_intint_lsok0 (F : Nat) : LoopsOK Try.prog (slices_Equal_intint_LS0 F) (bodyOf Try.f147) := loopsOK_nil
theorem slices_Equal_intint_keys : keysOK (bodyOf Try.f147) = true := by kernel_rfl
def slices_Equal_intint_st4 (s10 : List Int) (s21 : List Int) (t122 : Int) (t133 : Int) : St := ⟨expand 26 0 [0, 1, 12, 13] [(.ri .i64 s10), (.ri .i64 s21), (.int .i64 t122), (.int .i64 t133)], [], 0, []⟩
def slices_Equal_intint_o4 (s10 : List Int) (s21 : List Int) (t122 : Int) (x : Bool) : GT := (.br x (.out (.ret ⟨expand 26 0 [4] [(.bool false)], [], 0, []⟩)) (.out (.exit 0 ⟨expand 26 0 [] [], [], 0, []⟩)))
def slices_Equal_intint_ls4 (F : Nat) : LoopS := ⟨26, [0, 1, 12, 13], [], [], [], [4], [], [], fun vals mem np killed => match vals, mem, np, killed with
  | [(.ri .i64 s10), (.ri .i64 s21), (.int .i64 t122), (.int .i64 t133)], [], 0, [] => .br (slices_Equal_intint_l4 F s10 s21 t122 t133).isSome (slices_Equal_intint_o4 s10 s21 t122 ((slices_Equal_intint_l4 F s10 s21 t122 t133).getD default)) .fail
  | _, _, _, _ => .fail⟩
theorem slices_Equal_intint_step4 (F : Nat) (s10 : List Int) (s21 : List Int) (t122 : Int) (t133 : Int) {R : Type} (k : Out → Option R) : stepS tt (slices_Equal_intint_tab F) (slices_Equal_intint_LS0 F) 70 (slices_Equal_intint_ls4 F) (loopAt 4 (bodyOf Try.f147)) (slices_Equal_intint_st4 s10 s21 t122 t133) k = slices_Equal_intint_s4 F s10 s21 t122 R t133 (fun s => k (.norm (slices_Equal_intint_st4 s10 s21 t122 s))) (fun x => (slices_Equal_intint_o4 s10 s21 t122 x).run k) := by kernel_rfl
theorem slices_Equal_intint_iter4 (F : Nat) (s10 : List Int) (s21 : List Int) (t122 : Int) {R : Type} (k : Out → Option R) : ∀ (n : Nat) (t133 : Int), iterS tt (slices_Equal_intint_tab F) (slices_Equal_intint_LS0 F) 70 (slices_Equal_intint_ls4 F) (loopAt 4 (bodyOf Try.f147)) n (slices_Equal_intint_st4 s10 s21 t122 t133) k = loopC (slices_Equal_intint_s4 F s10 s21 t122) n t133 (fun x => (slices_Equal_intint_o4 s10 s21 t122 x).run k)
  | 0, t133 => rfl
  | n + 1, t133 => (iterS_succ tt (slices_Equal_intint_tab F) (slices_Equal_intint_LS0 F) 70 (slices_Equal_intint_ls4 F) (loopAt 4 (bodyOf Try.f147)) n (slices_Equal_intint_st4 s10 s21 t122 t133) k).trans ((slices_Equal_intint_step4 F s10 s21 t122 t133 (nextK (iterS tt (slices_Equal_intint_tab F) (slices_Equal_intint_LS0 F) 70 (slices_Equal_intint_ls4 F) (loopAt 4 (bodyOf Try.f147)) n) k)).trans (congrArg (fun kn => slices_Equal_intint_s4 F s10 s21 t122 R t133 kn _) (funext (fun t133 => slices_Equal_intint_iter4 F s10 s21 t122 k n t133))))
theorem slices_Equal_intint_lok4 (F : Nat) : LoopOK Try.prog (loopAt 4 (bodyOf Try.f147)) (slices_Equal_intint_ls4 F) := by
  refine loopOK_of mixed ttok deep (slices_Equal_intint_tabok F) (loopsOK_at (slices_Equal_intint_lsok0 F) 4) (fuel := 70) fun R vals mem np killed k x h => ?_
  simp only [slices_Equal_intint_ls4] at h
  split at h
  · rename_i s10 s21 t122 t133
    simp only [GT.run] at h
    have hc := (cond_noneL h).1
    replace h := (cond_noneL h).2
    refine ⟨F, (slices_Equal_intint_iter4 F s10 s21 t122 k F t133).trans ((loopC_use (slices_Equal_intint_s4_nat F s10 s21 t122) hc _).trans h)⟩
  · simp only [GT.run] at h
    cases h
noncomputable def slices_Equal_intint_LS1 (F : Nat) : LT := (4, slices_Equal_intint_ls4 F) :: slices_Equal_intint_LS0 F
theorem slices_Equal_intint_lsok1 (F : Nat) : LoopsOK Try.prog (slices_Equal_intint_LS1 F) (bodyOf Try.f147) := loopsOK_cons slices_Equal_intint_keys (slices_Equal_intint_lok4 F) (slices_Equal_intint_lsok0 F)
theorem slices_Equal_intint_run (F : Nat) (s10 : List Int) (s21 : List Int) : runS tt (slices_Equal_intint_tab F) (slices_Equal_intint_LS1 F) [] [] Try.f147 (bodyOf Try.f147) 70 [(.ri .i64 s10), (.ri .i64 s21)] [] = slices_Equal_intint_c _ F s10 s21 (fun r => some ⟨(.bool r), [], []⟩) := by kernel_rfl
def slices_Equal_intint_ent (F : Nat) : Ent := ⟨[], .quiet, fun args mem => match args, mem with
  | [(.ri .i64 s10), (.ri .i64 s21)], [] => some ((slices_Equal_intint_p F s10 s21).isSome, ⟨(.bool ((slices_Equal_intint_p F s10 s21).getD default)), [], []⟩)
  | _, _ => none⟩
theorem slices_Equal_intint_fok : FunOK Try.prog 147 := funOK Try.func147 (by kernel_rfl) rfl
theorem slices_Equal_intint_meets (F : Nat) : Meets Try.prog 147 (slices_Equal_intint_ent F) := by
  refine meets_of_runS mixed ttok deep (slices_Equal_intint_tabok F) Try.func147 (body_some rfl) (slices_Equal_intint_lsok1 F) fun args mem hfit ret h => ?_
  clear hfit
  simp only [slices_Equal_intint_ent] at h
  split at h
  · rename_i s10 s21
    simp only [Option.some.injEq, Prod.mk.injEq] at h
    obtain ⟨hc, rfl⟩ := h
    exact ⟨[], [], 70, _, (slices_Equal_intint_run F s10 s21).trans ((slices_Equal_intint_cp _ F s10 s21 _).trans (bind_use hc _)), rfl, rfl, rfl⟩
  · cases h

/-! loop.example/g01194/impl.isFlush -/
noncomputable def impl_isFlush_tab (F : Nat) : Tab := [(57, (impl_tiles_ent F)), (147, (slices_Equal_intint_ent F))]
theorem impl_isFlush_tabok (F : Nat) : TabOK Try.prog (impl_isFlush_tab F) := (tab_cons (impl_tiles_meets F) impl_tiles_fok (tab_cons (slices_Equal_intint_meets F) slices_Equal_intint_fok tab_nil))
noncomputable def impl_isFlush_LS0 (F : Nat) : LT := []
theorem impl_isFlush_lsok0 (F : Nat) : LoopsOK Try.prog (impl_isFlush_LS0 F) (bodyOf Try.f120) := loopsOK_nil
theorem impl_isFlush_run (F : Nat) (row0 : List Int) : runS tt (impl_isFlush_tab F) (impl_isFlush_LS0 F) [] [] Try.f120 (bodyOf Try.f120) 70 [(.ints 4 row0)] [] = impl_isFlush_c _ F row0 (fun r => some ⟨(.bool r), [], []⟩) := by kernel_rfl
def impl_isFlush_ent (F : Nat) : Ent := ⟨[], .quiet, fun args mem => match args, mem with
  | [(.ints 4 row0)], [] => some ((impl_isFlush_p F row0).isSome, ⟨(.bool ((impl_isFlush_p F row0).getD default)), [], []⟩)
  | _, _ => none⟩
theorem impl_isFlush_fok : FunOK Try.prog 120 := funOK Try.func120 (by kernel_rfl) rfl
theorem impl_isFlush_meets (F : Nat) : Meets Try.prog 120 (impl_isFlush_ent F) := by
  refine meets_of_runS mixed ttok deep (impl_isFlush_tabok F) Try.func120 (body_some rfl) (impl_isFlush_lsok0 F) fun args mem hfit ret h => ?_
  clear hfit
  simp only [impl_isFlush_ent] at h
  split at h
  · rename_i row0
    simp only [Option.some.injEq, Prod.mk.injEq] at h
    obtain ⟨hc, rfl⟩ := h
    exact ⟨[], [], 70, _, (impl_isFlush_run F row0).trans ((impl_isFlush_cp _ F row0 _).trans (bind_use hc _)), rfl, rfl, rfl⟩
  · cases h

/-! slices.Clone[[]int,int], of nothing -/
def slices_Clone_intint_2_ent (F : Nat) : Ent := ⟨[], .fresh, fun args mem => match args, mem with
  | [.z0], [] => some (true, ⟨.sl 0 0 0, [.vec 3 (.ri .i64 [])], []⟩)
  | _, _ => none⟩
theorem slices_Clone_intint_2_fok : FunOK Try.prog 91 := funOK Try.func91 (by kernel_rfl) rfl
theorem slices_Clone_intint_2_meets (F : Nat) : Meets Try.prog 91 (slices_Clone_intint_2_ent F) := by
  intro fr w ρ mem args reals hw ha ret hg
  simp only [slices_Clone_intint_2_ent] at hg
  split at hg
  · simp only [Option.some.injEq, Prod.mk.injEq, true_and] at hg
    subst hg
    cases ha with
    | cons h hr =>
      cases hr
      obtain ⟨ad, rfl⟩ := h
      exact slices_Clone_intint_meets F fr w ρ [] [(.ri .i64 [])] _ hw (.cons (show RoR w ρ [] [] 1 0 _ from ⟨ad, 0, rfl, Nat.le_refl _, rfl, fun h => absurd rfl h⟩) .nil) _ (by kernel_rfl)
  · cases hg

/-! loop.example/g01194/impl.apart -/
noncomputable def impl_apart_len0_tab (F : Nat) : Tab := [(91, (slices_Clone_intint_2_ent F))]
theorem impl_apart_len0_tabok (F : Nat) : TabOK Try.prog (impl_apart_len0_tab F) := (tab_cons (slices_Clone_intint_2_meets F) slices_Clone_intint_2_fok tab_nil)
noncomputable def impl_apart_len0_LS0 (F : Nat) : LT := []
theorem impl_apart_len0_lsok0 (F : Nat) : LoopsOK Try.prog (impl_apart_len0_LS0 F) (bodyOf Try.f121) := loopsOK_nil
theorem impl_apart_len0_run (F : Nat) : runS tt (impl_apart_len0_tab F) (impl_apart_len0_LS0 F) [] [] Try.f121 (bodyOf Try.f121) 70 [.z0, .z0, (.ri .i64 ([] : List Int))] [] = impl_apart_len0_c _ (fun r => some ⟨(.sl 0 0 1), [(.vec 37 (.rl .i64 [([] : List Int)]))], []⟩) := by kernel_rfl
def impl_apart_len0_ent (F : Nat) : Ent := ⟨[true], .loud, fun args mem => match args, mem with
  | [.z0, .z0, (.ri .i64 ([] : List Int))], [] => some (true, ⟨(.sl 0 0 1), [(.vec 37 (.rl .i64 [([] : List Int)]))], []⟩)
  | _, _ => none⟩
theorem impl_apart_len0_fok : FunOK Try.prog 121 := funOK Try.func121 (by kernel_rfl) rfl
theorem impl_apart_len0_meets (F : Nat) : Meets Try.prog 121 (impl_apart_len0_ent F) := by
  refine meets_of_runS mixed ttok deep (impl_apart_len0_tabok F) Try.func121 (body_some rfl) (impl_apart_len0_lsok0 F) fun args mem hfit ret h => ?_
  clear hfit
  simp only [impl_apart_len0_ent] at h
  split at h
  · simp only [Option.some.injEq, Prod.mk.injEq] at h
    obtain ⟨hc, rfl⟩ := h
    exact ⟨[], [], 70, _, (impl_apart_len0_run F).trans (impl_apart_len0_cv _ _), rfl, rfl, rfl⟩
  · cases h

/-! loop.example/g01194/impl.apart -/
noncomputable def impl_apart_len0_2_tab (F : Nat) : Tab := [(91, (slices_Clone_intint_ent F))]
theorem impl_apart_len0_2_tabok (F : Nat) : TabOK Try.prog (impl_apart_len0_2_tab F) := (tab_cons (slices_Clone_intint_meets F) slices_Clone_intint_fok tab_nil)
noncomputable def impl_apart_len0_2_LS0 (F : Nat) : LT := []
theorem impl_apart_len0_2_lsok0 (F : Nat) : LoopsOK Try.prog (impl_apart_len0_2_LS0 F) (bodyOf Try.f121) := loopsOK_nil
theorem impl_apart_len0_2_run (F : Nat) (list0 : List Int) : runS tt (impl_apart_len0_2_tab F) (impl_apart_len0_2_LS0 F) [⟨6, 37, (.rl .i64 ([] : List (List Int)))⟩] [] Try.f121 (bodyOf Try.f121) 70 [.z0, (.ri .i64 list0), (.ri .i64 ([] : List Int))] [] = impl_apart_len0_2_c _ list0 (fun r => some ⟨(.sl 0 0 (List.length r)), [(.vec 37 (.rl .i64 r))], []⟩) := by kernel_rfl
def impl_apart_len0_2_ent (F : Nat) : Ent := ⟨[true], .loud, fun args mem => match args, mem with
  | [.z0, (.ri .i64 list0), (.ri .i64 ([] : List Int))], [] => some ((impl_apart_len0_2_p list0).isSome, ⟨(.sl 0 0 (List.length ((impl_apart_len0_2_p list0).getD default))), [(.vec 37 (.rl .i64 ((impl_apart_len0_2_p list0).getD default)))], []⟩)
  | _, _ => none⟩
theorem impl_apart_len0_2_fok : FunOK Try.prog 121 := funOK Try.func121 (by kernel_rfl) rfl
theorem impl_apart_len0_2_meets (F : Nat) : Meets Try.prog 121 (impl_apart_len0_2_ent F) := by
  refine meets_of_runS mixed ttok deep (impl_apart_len0_2_tabok F) Try.func121 (body_some rfl) (impl_apart_len0_2_lsok0 F) fun args mem hfit ret h => ?_
  clear hfit
  simp only [impl_apart_len0_2_ent] at h
  split at h
  · rename_i list0
    simp only [Option.some.injEq, Prod.mk.injEq] at h
    obtain ⟨hc, rfl⟩ := h
    exact ⟨[⟨6, 37, (.rl .i64 ([] : List (List Int)))⟩], [], 70, _, (impl_apart_len0_2_run F list0).trans ((impl_apart_len0_2_cp _ list0 _).trans (bind_use hc _)), rfl, rfl, rfl⟩
  · cases h

/-! loop.example/g01194/impl.apart -/
noncomputable def impl_apart_len0_3_tab (F : Nat) : Tab := [(91, (slices_Clone_intint_ent F))]
theorem impl_apart_len0_3_tabok (F : Nat) : TabOK Try.prog (impl_apart_len0_3_tab F) := (tab_cons (slices_Clone_intint_meets F) slices_Clone_intint_fok tab_nil)
noncomputable def impl_apart_len0_3_LS0 (F : Nat) : LT := []
theorem impl_apart_len0_3_lsok0 (F : Nat) : LoopsOK Try.prog (impl_apart_len0_3_LS0 F) (bodyOf Try.f121) := loopsOK_nil
theorem impl_apart_len0_3_run (F : Nat) (list2 : List Int) (out4 : List (List Int)) : runS tt (impl_apart_len0_3_tab F) (impl_apart_len0_3_LS0 F) [] [0] Try.f121 (bodyOf Try.f121) 70 [(.sl 0 0 (List.length out4)), (.ri .i64 list2), (.ri .i64 ([] : List Int))] [(.vec 37 (.rl .i64 out4))] = impl_apart_len0_3_c _ list2 out4 (fun r => some ⟨(.sl 0 0 (List.length r)), [(.vec 37 (.rl .i64 r))], [0]⟩) := by kernel_rfl
def impl_apart_len0_3_ent (F : Nat) : Ent := ⟨[true], .loud, fun args mem => match args, mem with
  | [(.sl 0 0 q_out1), (.ri .i64 list2), (.ri .i64 ([] : List Int))], [(.vec 37 (.rl .i64 out4))] => some (((Nat.beq q_out1 (List.length out4)) && (impl_apart_len0_3_p list2 out4).isSome), ⟨(.sl 0 0 (List.length ((impl_apart_len0_3_p list2 out4).getD default))), [(.vec 37 (.rl .i64 ((impl_apart_len0_3_p list2 out4).getD default)))], [0]⟩)
  | _, _ => none⟩
theorem impl_apart_len0_3_fok : FunOK Try.prog 121 := funOK Try.func121 (by kernel_rfl) rfl
theorem impl_apart_len0_3_meets (F : Nat) : Meets Try.prog 121 (impl_apart_len0_3_ent F) := by
  refine meets_of_runS mixed ttok deep (impl_apart_len0_3_tabok F) Try.func121 (body_some rfl) (impl_apart_len0_3_lsok0 F) fun args mem hfit ret h => ?_
  clear hfit
  simp only [impl_apart_len0_3_ent] at h
  split at h
  · rename_i q_out1 list2 out4
    simp only [Option.some.injEq, Prod.mk.injEq] at h
    obtain ⟨hc, rfl⟩ := h
    have hg := (and_split hc).1
    replace hc := (and_split hc).2
    obtain rfl := nbeq_nat hg
    exact ⟨[], [0], 70, _, (impl_apart_len0_3_run F list2 out4).trans ((impl_apart_len0_3_cp _ list2 out4 _).trans (bind_use hc _)), rfl, rfl, rfl⟩
  · cases h

/-! loop.example/g01194/impl.apart -/
noncomputable def impl_apart_len1_tab (F : Nat) : Tab := [(91, (slices_Clone_intint_2_ent F)), (121, (orEnt (impl_apart_len0_2_ent F) (impl_apart_len0_3_ent F)))]
theorem impl_apart_len1_tabok (F : Nat) : TabOK Try.prog (impl_apart_len1_tab F) := (tab_cons (slices_Clone_intint_2_meets F) slices_Clone_intint_2_fok (tab_cons (meets_or (impl_apart_len0_2_meets F) (impl_apart_len0_3_meets F) rfl) impl_apart_len0_2_fok tab_nil))
noncomputable def impl_apart_len1_LS0 (F : Nat) : LT := []
theorem impl_apart_len1_lsok0 (F : Nat) : LoopsOK Try.prog (impl_apart_len1_LS0 F) (bodyOf Try.f121) := loopsOK_nil
theorem impl_apart_len1_run (F : Nat) (rest0_0 : Int) : runS tt (impl_apart_len1_tab F) (impl_apart_len1_LS0 F) [] [] Try.f121 (bodyOf Try.f121) 70 [.z0, .z0, (.ri .i64 [rest0_0])] [] = impl_apart_len1_c _ rest0_0 (fun r => some ⟨(.sl 0 0 (List.length r)), [(.vec 37 (.rl .i64 r))], []⟩) := by kernel_rfl
def impl_apart_len1_ent (F : Nat) : Ent := ⟨[true], .loud, fun args mem => match args, mem with
  | [.z0, .z0, (.ri .i64 [rest0_0])], [] => some ((impl_apart_len1_p rest0_0).isSome, ⟨(.sl 0 0 (List.length ((impl_apart_len1_p rest0_0).getD default))), [(.vec 37 (.rl .i64 ((impl_apart_len1_p rest0_0).getD default)))], []⟩)
  | _, _ => none⟩
theorem impl_apart_len1_fok : FunOK Try.prog 121 := funOK Try.func121 (by kernel_rfl) rfl
theorem impl_apart_len1_meets (F : Nat) : Meets Try.prog 121 (impl_apart_len1_ent F) := by
  refine meets_of_runS mixed ttok deep (impl_apart_len1_tabok F) Try.func121 (body_some rfl) (impl_apart_len1_lsok0 F) fun args mem hfit ret h => ?_
  clear hfit
  simp only [impl_apart_len1_ent] at h
  split at h
  · rename_i rest0_0
    simp only [Option.some.injEq, Prod.mk.injEq] at h
    obtain ⟨hc, rfl⟩ := h
    exact ⟨[], [], 70, _, (impl_apart_len1_run F rest0_0).trans ((impl_apart_len1_cp _ rest0_0 _).trans (bind_use hc _)), rfl, rfl, rfl⟩
  · cases h

/-! loop.example/g01194/impl.apart -/
noncomputable def impl_apart_len1_2_tab (F : Nat) : Tab := [(91, (slices_Clone_intint_ent F)), (121, (orEnt (impl_apart_len0_2_ent F) (impl_apart_len0_3_ent F)))]
theorem impl_apart_len1_2_tabok (F : Nat) : TabOK Try.prog (impl_apart_len1_2_tab F) := (tab_cons (slices_Clone_intint_meets F) slices_Clone_intint_fok (tab_cons (meets_or (impl_apart_len0_2_meets F) (impl_apart_len0_3_meets F) rfl) impl_apart_len0_2_fok tab_nil))
noncomputable def impl_apart_len1_2_LS0 (F : Nat) : LT := []
theorem impl_apart_len1_2_lsok0 (F : Nat) : LoopsOK Try.prog (impl_apart_len1_2_LS0 F) (bodyOf Try.f121) := loopsOK_nil
theorem impl_apart_len1_2_run (F : Nat) (list0 : List Int) (rest1_0 : Int) : runS tt (impl_apart_len1_2_tab F) (impl_apart_len1_2_LS0 F) [⟨6, 37, (.rl .i64 ([] : List (List Int)))⟩] [] Try.f121 (bodyOf Try.f121) 70 [.z0, (.ri .i64 list0), (.ri .i64 [rest1_0])] [] = impl_apart_len1_2_c _ list0 rest1_0 (fun r => some ⟨(.sl 0 0 (List.length r)), [(.vec 37 (.rl .i64 r))], []⟩) := by kernel_rfl
def impl_apart_len1_2_ent (F : Nat) : Ent := ⟨[true], .loud, fun args mem => match args, mem with
  | [.z0, (.ri .i64 list0), (.ri .i64 [rest1_0])], [] => some ((impl_apart_len1_2_p list0 rest1_0).isSome, ⟨(.sl 0 0 (List.length ((impl_apart_len1_2_p list0 rest1_0).getD default))), [(.vec 37 (.rl .i64 ((impl_apart_len1_2_p list0 rest1_0).getD default)))], []⟩)
  | _, _ => none⟩
theorem impl_apart_len1_2_fok : FunOK Try.prog 121 := funOK Try.func121 (by kernel_rfl) rfl
theorem impl_apart_len1_2_meets (F : Nat) : Meets Try.prog 121 (impl_apart_len1_2_ent F) := by
  refine meets_of_runS mixed ttok deep (impl_apart_len1_2_tabok F) Try.func121 (body_some rfl) (impl_apart_len1_2_lsok0 F) fun args mem hfit ret h => ?_
  clear hfit
  simp only [impl_apart_len1_2_ent] at h
  split at h
  · rename_i list0 rest1_0
    simp only [Option.some.injEq, Prod.mk.injEq] at h
    obtain ⟨hc, rfl⟩ := h
    exact ⟨[⟨6, 37, (.rl .i64 ([] : List (List Int)))⟩], [], 70, _, (impl_apart_len1_2_run F list0 rest1_0).trans ((impl_apart_len1_2_cp _ list0 rest1_0 _).trans (bind_use hc _)), rfl, rfl, rfl⟩
  · cases h

/-! loop.example/g01194/impl.apart -/
noncomputable def impl_apart_len1_3_tab (F : Nat) : Tab := [(91, (slices_Clone_intint_ent F)), (121, (impl_apart_len0_3_ent F))]
theorem impl_apart_len1_3_tabok (F : Nat) : TabOK Try.prog (impl_apart_len1_3_tab F) := (tab_cons (slices_Clone_intint_meets F) slices_Clone_intint_fok (tab_cons (impl_apart_len0_3_meets F) impl_apart_len0_3_fok tab_nil))
noncomputable def impl_apart_len1_3_LS0 (F : Nat) : LT := []
theorem impl_apart_len1_3_lsok0 (F : Nat) : LoopsOK Try.prog (impl_apart_len1_3_LS0 F) (bodyOf Try.f121) := loopsOK_nil
theorem impl_apart_len1_3_run (F : Nat) (list2 : List Int) (rest3_0 : Int) (out4 : List (List Int)) : runS tt (impl_apart_len1_3_tab F) (impl_apart_len1_3_LS0 F) [] [0] Try.f121 (bodyOf Try.f121) 70 [(.sl 0 0 (List.length out4)), (.ri .i64 list2), (.ri .i64 [rest3_0])] [(.vec 37 (.rl .i64 out4))] = impl_apart_len1_3_c _ list2 rest3_0 out4 (fun r => some ⟨(.sl 0 0 (List.length r)), [(.vec 37 (.rl .i64 r))], [0]⟩) := by kernel_rfl
def impl_apart_len1_3_ent (F : Nat) : Ent := ⟨[true], .loud, fun args mem => match args, mem with
  | [(.sl 0 0 q_out1), (.ri .i64 list2), (.ri .i64 [rest3_0])], [(.vec 37 (.rl .i64 out4))] => some (((Nat.beq q_out1 (List.length out4)) && (impl_apart_len1_3_p list2 rest3_0 out4).isSome), ⟨(.sl 0 0 (List.length ((impl_apart_len1_3_p list2 rest3_0 out4).getD default))), [(.vec 37 (.rl .i64 ((impl_apart_len1_3_p list2 rest3_0 out4).getD default)))], [0]⟩)
  | _, _ => none⟩
theorem impl_apart_len1_3_fok : FunOK Try.prog 121 := funOK Try.func121 (by kernel_rfl) rfl
theorem impl_apart_len1_3_meets (F : Nat) : Meets Try.prog 121 (impl_apart_len1_3_ent F) := by
  refine meets_of_runS mixed ttok deep (impl_apart_len1_3_tabok F) Try.func121 (body_some rfl) (impl_apart_len1_3_lsok0 F) fun args mem hfit ret h => ?_
  clear hfit
  simp only [impl_apart_len1_3_ent] at h
  split at h
  · rename_i q_out1 list2 rest3_0 out4
    simp only [Option.some.injEq, Prod.mk.injEq] at h
    obtain ⟨hc, rfl⟩ := h
    have hg := (and_split hc).1
    replace hc := (and_split hc).2
    obtain rfl := nbeq_nat hg
    exact ⟨[], [0], 70, _, (impl_apart_len1_3_run F list2 rest3_0 out4).trans ((impl_apart_len1_3_cp _ list2 rest3_0 out4 _).trans (bind_use hc _)), rfl, rfl, rfl⟩
  · cases h

/-! loop.example/g01194/impl.apart -/
noncomputable def impl_apart_len2_tab (F : Nat) : Tab := [(91, (slices_Clone_intint_2_ent F)), (121, (orEnt (impl_apart_len1_2_ent F) (impl_apart_len1_3_ent F)))]
theorem impl_apart_len2_tabok (F : Nat) : TabOK Try.prog (impl_apart_len2_tab F) := (tab_cons (slices_Clone_intint_2_meets F) slices_Clone_intint_2_fok (tab_cons (meets_or (impl_apart_len1_2_meets F) (impl_apart_len1_3_meets F) rfl) impl_apart_len1_2_fok tab_nil))
noncomputable def impl_apart_len2_LS0 (F : Nat) : LT := []
theorem impl_apart_len2_lsok0 (F : Nat) : LoopsOK Try.prog (impl_apart_len2_LS0 F) (bodyOf Try.f121) := loopsOK_nil
theorem impl_apart_len2_run (F : Nat) (rest0_0 : Int) (rest0_1 : Int) : runS tt (impl_apart_len2_tab F) (impl_apart_len2_LS0 F) [] [] Try.f121 (bodyOf Try.f121) 70 [.z0, .z0, (.ri .i64 [rest0_0, rest0_1])] [] = impl_apart_len2_c _ rest0_0 rest0_1 (fun r => some ⟨(.sl 0 0 (List.length r)), [(.vec 37 (.rl .i64 r))], []⟩) := by kernel_rfl
def impl_apart_len2_ent (F : Nat) : Ent := ⟨[true], .loud, fun args mem => match args, mem with
  | [.z0, .z0, (.ri .i64 [rest0_0, rest0_1])], [] => some ((impl_apart_len2_p rest0_0 rest0_1).isSome, ⟨(.sl 0 0 (List.length ((impl_apart_len2_p rest0_0 rest0_1).getD default))), [(.vec 37 (.rl .i64 ((impl_apart_len2_p rest0_0 rest0_1).getD default)))], []⟩)
  | _, _ => none⟩
theorem impl_apart_len2_fok : FunOK Try.prog 121 := funOK Try.func121 (by kernel_rfl) rfl
theorem impl_apart_len2_meets (F : Nat) : Meets Try.prog 121 (impl_apart_len2_ent F) := by
  refine meets_of_runS mixed ttok deep (impl_apart_len2_tabok F) Try.func121 (body_some rfl) (impl_apart_len2_lsok0 F) fun args mem hfit ret h => ?_
  clear hfit
  simp only [impl_apart_len2_ent] at h
  split at h
  · rename_i rest0_0 rest0_1
    simp only [Option.some.injEq, Prod.mk.injEq] at h
    obtain ⟨hc, rfl⟩ := h
    exact ⟨[], [], 70, _, (impl_apart_len2_run F rest0_0 rest0_1).trans ((impl_apart_len2_cp _ rest0_0 rest0_1 _).trans (bind_use hc _)), rfl, rfl, rfl⟩
  · cases h

/-! loop.example/g01194/impl.apart -/
noncomputable def impl_apart_len2_2_tab (F : Nat) : Tab := [(91, (slices_Clone_intint_ent F)), (121, (orEnt (impl_apart_len1_2_ent F) (impl_apart_len1_3_ent F)))]
theorem impl_apart_len2_2_tabok (F : Nat) : TabOK Try.prog (impl_apart_len2_2_tab F) := (tab_cons (slices_Clone_intint_meets F) slices_Clone_intint_fok (tab_cons (meets_or (impl_apart_len1_2_meets F) (impl_apart_len1_3_meets F) rfl) impl_apart_len1_2_fok tab_nil))
noncomputable def impl_apart_len2_2_LS0 (F : Nat) : LT := []
theorem impl_apart_len2_2_lsok0 (F : Nat) : LoopsOK Try.prog (impl_apart_len2_2_LS0 F) (bodyOf Try.f121) := loopsOK_nil
theorem impl_apart_len2_2_run (F : Nat) (list0 : List Int) (rest1_0 : Int) (rest1_1 : Int) : runS tt (impl_apart_len2_2_tab F) (impl_apart_len2_2_LS0 F) [⟨6, 37, (.rl .i64 ([] : List (List Int)))⟩] [] Try.f121 (bodyOf Try.f121) 70 [.z0, (.ri .i64 list0), (.ri .i64 [rest1_0, rest1_1])] [] = impl_apart_len2_2_c _ list0 rest1_0 rest1_1 (fun r => some ⟨(.sl 0 0 (List.length r)), [(.vec 37 (.rl .i64 r))], []⟩) := by kernel_rfl
def impl_apart_len2_2_ent (F : Nat) : Ent := ⟨[true], .loud, fun args mem => match args, mem with
  | [.z0, (.ri .i64 list0), (.ri .i64 [rest1_0, rest1_1])], [] => some ((impl_apart_len2_2_p list0 rest1_0 rest1_1).isSome, ⟨(.sl 0 0 (List.length ((impl_apart_len2_2_p list0 rest1_0 rest1_1).getD default))), [(.vec 37 (.rl .i64 ((impl_apart_len2_2_p list0 rest1_0 rest1_1).getD default)))], []⟩)
  | _, _ => none⟩
theorem impl_apart_len2_2_fok : FunOK Try.prog 121 := funOK Try.func121 (by kernel_rfl) rfl
theorem impl_apart_len2_2_meets (F : Nat) : Meets Try.prog 121 (impl_apart_len2_2_ent F) := by
  refine meets_of_runS mixed ttok deep (impl_apart_len2_2_tabok F) Try.func121 (body_some rfl) (impl_apart_len2_2_lsok0 F) fun args mem hfit ret h => ?_
  clear hfit
  simp only [impl_apart_len2_2_ent] at h
  split at h
  · rename_i list0 rest1_0 rest1_1
    simp only [Option.some.injEq, Prod.mk.injEq] at h
    obtain ⟨hc, rfl⟩ := h
    exact ⟨[⟨6, 37, (.rl .i64 ([] : List (List Int)))⟩], [], 70, _, (impl_apart_len2_2_run F list0 rest1_0 rest1_1).trans ((impl_apart_len2_2_cp _ list0 rest1_0 rest1_1 _).trans (bind_use hc _)), rfl, rfl, rfl⟩
  · cases h

/-! loop.example/g01194/impl.apart -/
noncomputable def impl_apart_len2_3_tab (F : Nat) : Tab := [(91, (slices_Clone_intint_ent F)), (121, (impl_apart_len1_3_ent F))]
theorem impl_apart_len2_3_tabok (F : Nat) : TabOK Try.prog (impl_apart_len2_3_tab F) := (tab_cons (slices_Clone_intint_meets F) slices_Clone_intint_fok (tab_cons (impl_apart_len1_3_meets F) impl_apart_len1_3_fok tab_nil))
noncomputable def impl_apart_len2_3_LS0 (F : Nat) : LT := []
theorem impl_apart_len2_3_lsok0 (F : Nat) : LoopsOK Try.prog (impl_apart_len2_3_LS0 F) (bodyOf Try.f121) := loopsOK_nil
theorem impl_apart_len2_3_run (F : Nat) (list2 : List Int) (rest3_0 : Int) (rest3_1 : Int) (out4 : List (List Int)) : runS tt (impl_apart_len2_3_tab F) (impl_apart_len2_3_LS0 F) [] [0] Try.f121 (bodyOf Try.f121) 70 [(.sl 0 0 (List.length out4)), (.ri .i64 list2), (.ri .i64 [rest3_0, rest3_1])] [(.vec 37 (.rl .i64 out4))] = impl_apart_len2_3_c _ list2 rest3_0 rest3_1 out4 (fun r => some ⟨(.sl 0 0 (List.length r)), [(.vec 37 (.rl .i64 r))], [0]⟩) := by kernel_rfl
def impl_apart_len2_3_ent (F : Nat) : Ent := ⟨[true], .loud, fun args mem => match args, mem with
  | [(.sl 0 0 q_out1), (.ri .i64 list2), (.ri .i64 [rest3_0, rest3_1])], [(.vec 37 (.rl .i64 out4))] => some (((Nat.beq q_out1 (List.length out4)) && (impl_apart_len2_3_p list2 rest3_0 rest3_1 out4).isSome), ⟨(.sl 0 0 (List.length ((impl_apart_len2_3_p list2 rest3_0 rest3_1 out4).getD default))), [(.vec 37 (.rl .i64 ((impl_apart_len2_3_p list2 rest3_0 rest3_1 out4).getD default)))], [0]⟩)
  | _, _ => none⟩
theorem impl_apart_len2_3_fok : FunOK Try.prog 121 := funOK Try.func121 (by kernel_rfl) rfl
theorem impl_apart_len2_3_meets (F : Nat) : Meets Try.prog 121 (impl_apart_len2_3_ent F) := by
  refine meets_of_runS mixed ttok deep (impl_apart_len2_3_tabok F) Try.func121 (body_some rfl) (impl_apart_len2_3_lsok0 F) fun args mem hfit ret h => ?_
  clear hfit
  simp only [impl_apart_len2_3_ent] at h
  split at h
  · rename_i q_out1 list2 rest3_0 rest3_1 out4
    simp only [Option.some.injEq, Prod.mk.injEq] at h
    obtain ⟨hc, rfl⟩ := h
    have hg := (and_split hc).1
    replace hc := (and_split hc).2
    obtain rfl := nbeq_nat hg
    exact ⟨[], [0], 70, _, (impl_apart_len2_3_run F list2 rest3_0 rest3_1 out4).trans ((impl_apart_len2_3_cp _ list2 rest3_0 rest3_1 out4 _).trans (bind_use hc _)), rfl, rfl, rfl⟩
  · cases h

/-! loop.example/g01194/impl.apart -/
noncomputable def impl_apart_len3_tab (F : Nat) : Tab := [(91, (slices_Clone_intint_2_ent F)), (121, (orEnt (impl_apart_len2_2_ent F) (impl_apart_len2_3_ent F)))]
theorem impl_apart_len3_tabok (F : Nat) : TabOK Try.prog (impl_apart_len3_tab F) := (tab_cons (slices_Clone_intint_2_meets F) slices_Clone_intint_2_fok (tab_cons (meets_or (impl_apart_len2_2_meets F) (impl_apart_len2_3_meets F) rfl) impl_apart_len2_2_fok tab_nil))
noncomputable def impl_apart_len3_LS0 (F : Nat) : LT := []
theorem impl_apart_len3_lsok0 (F : Nat) : LoopsOK Try.prog (impl_apart_len3_LS0 F) (bodyOf Try.f121) := loopsOK_nil
theorem impl_apart_len3_run (F : Nat) (rest0_0 : Int) (rest0_1 : Int) (rest0_2 : Int) : runS tt (impl_apart_len3_tab F) (impl_apart_len3_LS0 F) [] [] Try.f121 (bodyOf Try.f121) 70 [.z0, .z0, (.ri .i64 [rest0_0, rest0_1, rest0_2])] [] = impl_apart_len3_c _ rest0_0 rest0_1 rest0_2 (fun r => some ⟨(.sl 0 0 (List.length r)), [(.vec 37 (.rl .i64 r))], []⟩) := by kernel_rfl
def impl_apart_len3_ent (F : Nat) : Ent := ⟨[true], .loud, fun args mem => match args, mem with
  | [.z0, .z0, (.ri .i64 [rest0_0, rest0_1, rest0_2])], [] => some ((impl_apart_len3_p rest0_0 rest0_1 rest0_2).isSome, ⟨(.sl 0 0 (List.length ((impl_apart_len3_p rest0_0 rest0_1 rest0_2).getD default))), [(.vec 37 (.rl .i64 ((impl_apart_len3_p rest0_0 rest0_1 rest0_2).getD default)))], []⟩)
  | _, _ => none⟩
theorem impl_apart_len3_fok : FunOK Try.prog 121 := funOK Try.func121 (by kernel_rfl) rfl
theorem impl_apart_len3_meets (F : Nat) : Meets Try.prog 121 (impl_apart_len3_ent F) := by
  refine meets_of_runS mixed ttok deep (impl_apart_len3_tabok F) Try.func121 (body_some rfl) (impl_apart_len3_lsok0 F) fun args mem hfit ret h => ?_
  clear hfit
  simp only [impl_apart_len3_ent] at h
  split at h
  · rename_i rest0_0 rest0_1 rest0_2
    simp only [Option.some.injEq, Prod.mk.injEq] at h
    obtain ⟨hc, rfl⟩ := h
    exact ⟨[], [], 70, _, (impl_apart_len3_run F rest0_0 rest0_1 rest0_2).trans ((impl_apart_len3_cp _ rest0_0 rest0_1 rest0_2 _).trans (bind_use hc _)), rfl, rfl, rfl⟩
  · cases h

/-! loop.example/g01194/impl.apart -/
noncomputable def impl_apart_len3_2_tab (F : Nat) : Tab := [(91, (slices_Clone_intint_ent F)), (121, (orEnt (impl_apart_len2_2_ent F) (impl_apart_len2_3_ent F)))]
theorem impl_apart_len3_2_tabok (F : Nat) : TabOK Try.prog (impl_apart_len3_2_tab F) := (tab_cons (slices_Clone_intint_meets F) slices_Clone_intint_fok (tab_cons (meets_or (impl_apart_len2_2_meets F) (impl_apart_len2_3_meets F) rfl) impl_apart_len2_2_fok tab_nil))
noncomputable def impl_apart_len3_2_LS0 (F : Nat) : LT := []
theorem impl_apart_len3_2_lsok0 (F : Nat) : LoopsOK Try.prog (impl_apart_len3_2_LS0 F) (bodyOf Try.f121) := loopsOK_nil
theorem impl_apart_len3_2_run (F : Nat) (list0 : List Int) (rest1_0 : Int) (rest1_1 : Int) (rest1_2 : Int) : runS tt (impl_apart_len3_2_tab F) (impl_apart_len3_2_LS0 F) [⟨6, 37, (.rl .i64 ([] : List (List Int)))⟩] [] Try.f121 (bodyOf Try.f121) 70 [.z0, (.ri .i64 list0), (.ri .i64 [rest1_0, rest1_1, rest1_2])] [] = impl_apart_len3_2_c _ list0 rest1_0 rest1_1 rest1_2 (fun r => some ⟨(.sl 0 0 (List.length r)), [(.vec 37 (.rl .i64 r))], []⟩) := by kernel_rfl
def impl_apart_len3_2_ent (F : Nat) : Ent := ⟨[true], .loud, fun args mem => match args, mem with
  | [.z0, (.ri .i64 list0), (.ri .i64 [rest1_0, rest1_1, rest1_2])], [] => some ((impl_apart_len3_2_p list0 rest1_0 rest1_1 rest1_2).isSome, ⟨(.sl 0 0 (List.length ((impl_apart_len3_2_p list0 rest1_0 rest1_1 rest1_2).getD default))), [(.vec 37 (.rl .i64 ((impl_apart_len3_2_p list0 rest1_0 rest1_1 rest1_2).getD default)))], []⟩)
  | _, _ => none⟩
theorem impl_apart_len3_2_fok : FunOK Try.prog 121 := funOK Try.func121 (by kernel_rfl) rfl
theorem impl_apart_len3_2_meets (F : Nat) : Meets Try.prog 121 (impl_apart_len3_2_ent F) := by
  refine meets_of_runS mixed ttok deep (impl_apart_len3_2_tabok F) Try.func121 (body_some rfl) (impl_apart_len3_2_lsok0 F) fun args mem hfit ret h => ?_
  clear hfit
  simp only [impl_apart_len3_2_ent] at h
  split at h
  · rename_i list0 rest1_0 rest1_1 rest1_2
    simp only [Option.some.injEq, Prod.mk.injEq] at h
    obtain ⟨hc, rfl⟩ := h
    exact ⟨[⟨6, 37, (.rl .i64 ([] : List (List Int)))⟩], [], 70, _, (impl_apart_len3_2_run F list0 rest1_0 rest1_1 rest1_2).trans ((impl_apart_len3_2_cp _ list0 rest1_0 rest1_1 rest1_2 _).trans (bind_use hc _)), rfl, rfl, rfl⟩
  · cases h

/-! loop.example/g01194/impl.apart -/
noncomputable def impl_apart_len3_3_tab (F : Nat) : Tab := [(91, (slices_Clone_intint_ent F)), (121, (impl_apart_len2_3_ent F))]
theorem impl_apart_len3_3_tabok (F : Nat) : TabOK Try.prog (impl_apart_len3_3_tab F) := (tab_cons (slices_Clone_intint_meets F) slices_Clone_intint_fok (tab_cons (impl_apart_len2_3_meets F) impl_apart_len2_3_fok tab_nil))
noncomputable def impl_apart_len3_3_LS0 (F : Nat) : LT := []
theorem impl_apart_len3_3_lsok0 (F : Nat) : LoopsOK Try.prog (impl_apart_len3_3_LS0 F) (bodyOf Try.f121) := loopsOK_nil
theorem impl_apart_len3_3_run (F : Nat) (list2 : List Int) (rest3_0 : Int) (rest3_1 : Int) (rest3_2 : Int) (out4 : List (List Int)) : runS tt (impl_apart_len3_3_tab F) (impl_apart_len3_3_LS0 F) [] [0] Try.f121 (bodyOf Try.f121) 70 [(.sl 0 0 (List.length out4)), (.ri .i64 list2), (.ri .i64 [rest3_0, rest3_1, rest3_2])] [(.vec 37 (.rl .i64 out4))] = impl_apart_len3_3_c _ list2 rest3_0 rest3_1 rest3_2 out4 (fun r => some ⟨(.sl 0 0 (List.length r)), [(.vec 37 (.rl .i64 r))], [0]⟩) := by kernel_rfl
def impl_apart_len3_3_ent (F : Nat) : Ent := ⟨[true], .loud, fun args mem => match args, mem with
  | [(.sl 0 0 q_out1), (.ri .i64 list2), (.ri .i64 [rest3_0, rest3_1, rest3_2])], [(.vec 37 (.rl .i64 out4))] => some (((Nat.beq q_out1 (List.length out4)) && (impl_apart_len3_3_p list2 rest3_0 rest3_1 rest3_2 out4).isSome), ⟨(.sl 0 0 (List.length ((impl_apart_len3_3_p list2 rest3_0 rest3_1 rest3_2 out4).getD default))), [(.vec 37 (.rl .i64 ((impl_apart_len3_3_p list2 rest3_0 rest3_1 rest3_2 out4).getD default)))], [0]⟩)
  | _, _ => none⟩
theorem impl_apart_len3_3_fok : FunOK Try.prog 121 := funOK Try.func121 (by kernel_rfl) rfl
theorem impl_apart_len3_3_meets (F : Nat) : Meets Try.prog 121 (impl_apart_len3_3_ent F) := by
  refine meets_of_runS mixed ttok deep (impl_apart_len3_3_tabok F) Try.func121 (body_some rfl) (impl_apart_len3_3_lsok0 F) fun args mem hfit ret h => ?_
  clear hfit
  simp only [impl_apart_len3_3_ent] at h
  split at h
  · rename_i q_out1 list2 rest3_0 rest3_1 rest3_2 out4
    simp only [Option.some.injEq, Prod.mk.injEq] at h
    obtain ⟨hc, rfl⟩ := h
    have hg := (and_split hc).1
    replace hc := (and_split hc).2
    obtain rfl := nbeq_nat hg
    exact ⟨[], [0], 70, _, (impl_apart_len3_3_run F list2 rest3_0 rest3_1 rest3_2 out4).trans ((impl_apart_len3_3_cp _ list2 rest3_0 rest3_1 rest3_2 out4 _).trans (bind_use hc _)), rfl, rfl, rfl⟩
  · cases h

/-! loop.example/g01194/impl.apart -/
noncomputable def impl_apart_len4_tab (F : Nat) : Tab := [(91, (slices_Clone_intint_2_ent F)), (121, (orEnt (impl_apart_len3_2_ent F) (impl_apart_len3_3_ent F)))]
theorem impl_apart_len4_tabok (F : Nat) : TabOK Try.prog (impl_apart_len4_tab F) := (tab_cons (slices_Clone_intint_2_meets F) slices_Clone_intint_2_fok (tab_cons (meets_or (impl_apart_len3_2_meets F) (impl_apart_len3_3_meets F) rfl) impl_apart_len3_2_fok tab_nil))
noncomputable def impl_apart_len4_LS0 (F : Nat) : LT := []
theorem impl_apart_len4_lsok0 (F : Nat) : LoopsOK Try.prog (impl_apart_len4_LS0 F) (bodyOf Try.f121) := loopsOK_nil
theorem impl_apart_len4_run (F : Nat) (rest0_0 : Int) (rest0_1 : Int) (rest0_2 : Int) (rest0_3 : Int) : runS tt (impl_apart_len4_tab F) (impl_apart_len4_LS0 F) [] [] Try.f121 (bodyOf Try.f121) 70 [.z0, .z0, (.ri .i64 [rest0_0, rest0_1, rest0_2, rest0_3])] [] = impl_apart_len4_c _ rest0_0 rest0_1 rest0_2 rest0_3 (fun r => some ⟨(.sl 0 0 (List.length r)), [(.vec 37 (.rl .i64 r))], []⟩) := by kernel_rfl
def impl_apart_len4_ent (F : Nat) : Ent := ⟨[true], .loud, fun args mem => match args, mem with
  | [.z0, .z0, (.ri .i64 [rest0_0, rest0_1, rest0_2, rest0_3])], [] => some ((impl_apart_len4_p rest0_0 rest0_1 rest0_2 rest0_3).isSome, ⟨(.sl 0 0 (List.length ((impl_apart_len4_p rest0_0 rest0_1 rest0_2 rest0_3).getD default))), [(.vec 37 (.rl .i64 ((impl_apart_len4_p rest0_0 rest0_1 rest0_2 rest0_3).getD default)))], []⟩)
  | _, _ => none⟩
theorem impl_apart_len4_fok : FunOK Try.prog 121 := funOK Try.func121 (by kernel_rfl) rfl
theorem impl_apart_len4_meets (F : Nat) : Meets Try.prog 121 (impl_apart_len4_ent F) := by
  refine meets_of_runS mixed ttok deep (impl_apart_len4_tabok F) Try.func121 (body_some rfl) (impl_apart_len4_lsok0 F) fun args mem hfit ret h => ?_
  clear hfit
  simp only [impl_apart_len4_ent] at h
  split at h
  · rename_i rest0_0 rest0_1 rest0_2 rest0_3
    simp only [Option.some.injEq, Prod.mk.injEq] at h
    obtain ⟨hc, rfl⟩ := h
    exact ⟨[], [], 70, _, (impl_apart_len4_run F rest0_0 rest0_1 rest0_2 rest0_3).trans ((impl_apart_len4_cp _ rest0_0 rest0_1 rest0_2 rest0_3 _).trans (bind_use hc _)), rfl, rfl, rfl⟩
  · cases h

/-! loop.example/g01194/impl.apart -/
def impl_apart_ent (F : Nat) : Ent := ⟨[true], .loud, fun args mem => match args, mem with
  | [.z0, .z0, (.ri .i64 rest0)], [] => some ((impl_apart_p rest0).isSome, ⟨(.sl 0 0 (List.length ((impl_apart_p rest0).getD default))), [(.vec 37 (.rl .i64 ((impl_apart_p rest0).getD default)))], []⟩)
  | _, _ => none⟩
theorem impl_apart_fok : FunOK Try.prog 121 := funOK Try.func121 (by kernel_rfl) rfl
theorem impl_apart_meets (F : Nat) : Meets Try.prog 121 (impl_apart_ent F) := by
  intro fr w ρ mem args reals hw ha ret hg
  simp only [impl_apart_ent] at hg
  split at hg
  · rename_i rest0
    simp only [Option.some.injEq, Prod.mk.injEq] at hg
    obtain ⟨hc, rfl⟩ := hg
    by_cases hn0 : Nat.beq (List.length rest0) 0 = true
    · obtain rfl := list0 (nbeq_nat hn0)
      have e : impl_apart_p [] = some [([] : List Int)] := by kernel_rfl
      have hg' : (impl_apart_len0_ent F).g [.z0, .z0, (.ri .i64 ([] : List Int))] [] = some (true, ⟨(.sl 0 0 1), [(.vec 37 (.rl .i64 [([] : List Int)]))], []⟩) := by kernel_rfl
      have h9 := impl_apart_len0_meets F fr w ρ _ _ reals hw ha _ hg'
      simp only [e, cond_true, Option.getD_some]
      exact h9
    · replace hn0 : Nat.beq (List.length rest0) 0 = false := by simpa only [Bool.not_eq_true] using hn0
      by_cases hn1 : Nat.beq (List.length rest0) 1 = true
      · obtain ⟨y0, rfl⟩ := list1 (nbeq_nat hn1)
        have e : impl_apart_p [y0] = (bif (Option.isSome (impl_apart_len1_p y0)) then some (Option.getD (impl_apart_len1_p y0) default) else none) := by kernel_rfl
        have hg' : (impl_apart_len1_ent F).g [.z0, .z0, (.ri .i64 [y0])] [] = some ((Option.isSome (impl_apart_len1_p y0)), ⟨(.sl 0 0 (List.length (Option.getD (impl_apart_len1_p y0) default))), [(.vec 37 (.rl .i64 (Option.getD (impl_apart_len1_p y0) default)))], []⟩) := by kernel_rfl
        rw [e] at hc
        have hC := isSome_cond hc
        rw [hC] at hg'
        have h9 := impl_apart_len1_meets F fr w ρ _ _ reals hw ha _ hg'
        simp only [e, hC, cond_true, Option.getD_some]
        exact h9
      · replace hn1 : Nat.beq (List.length rest0) 1 = false := by simpa only [Bool.not_eq_true] using hn1
        by_cases hn2 : Nat.beq (List.length rest0) 2 = true
        · obtain ⟨y0, y1, rfl⟩ := list2 (nbeq_nat hn2)
          have e : impl_apart_p [y0, y1] = (bif (Option.isSome (impl_apart_len2_p y0 y1)) then some (Option.getD (impl_apart_len2_p y0 y1) default) else none) := by kernel_rfl
          have hg' : (impl_apart_len2_ent F).g [.z0, .z0, (.ri .i64 [y0, y1])] [] = some ((Option.isSome (impl_apart_len2_p y0 y1)), ⟨(.sl 0 0 (List.length (Option.getD (impl_apart_len2_p y0 y1) default))), [(.vec 37 (.rl .i64 (Option.getD (impl_apart_len2_p y0 y1) default)))], []⟩) := by kernel_rfl
          rw [e] at hc
          have hC := isSome_cond hc
          rw [hC] at hg'
          have h9 := impl_apart_len2_meets F fr w ρ _ _ reals hw ha _ hg'
          simp only [e, hC, cond_true, Option.getD_some]
          exact h9
        · replace hn2 : Nat.beq (List.length rest0) 2 = false := by simpa only [Bool.not_eq_true] using hn2
          by_cases hn3 : Nat.beq (List.length rest0) 3 = true
          · obtain ⟨y0, y1, y2, rfl⟩ := list3 (nbeq_nat hn3)
            have e : impl_apart_p [y0, y1, y2] = (bif (Option.isSome (impl_apart_len3_p y0 y1 y2)) then some (Option.getD (impl_apart_len3_p y0 y1 y2) default) else none) := by kernel_rfl
            have hg' : (impl_apart_len3_ent F).g [.z0, .z0, (.ri .i64 [y0, y1, y2])] [] = some ((Option.isSome (impl_apart_len3_p y0 y1 y2)), ⟨(.sl 0 0 (List.length (Option.getD (impl_apart_len3_p y0 y1 y2) default))), [(.vec 37 (.rl .i64 (Option.getD (impl_apart_len3_p y0 y1 y2) default)))], []⟩) := by kernel_rfl
            rw [e] at hc
            have hC := isSome_cond hc
            rw [hC] at hg'
            have h9 := impl_apart_len3_meets F fr w ρ _ _ reals hw ha _ hg'
            simp only [e, hC, cond_true, Option.getD_some]
            exact h9
          · replace hn3 : Nat.beq (List.length rest0) 3 = false := by simpa only [Bool.not_eq_true] using hn3
            by_cases hn4 : Nat.beq (List.length rest0) 4 = true
            · obtain ⟨y0, y1, y2, y3, rfl⟩ := list4 (nbeq_nat hn4)
              have e : impl_apart_p [y0, y1, y2, y3] = (bif (Option.isSome (impl_apart_len4_p y0 y1 y2 y3)) then some (Option.getD (impl_apart_len4_p y0 y1 y2 y3) default) else none) := by kernel_rfl
              have hg' : (impl_apart_len4_ent F).g [.z0, .z0, (.ri .i64 [y0, y1, y2, y3])] [] = some ((Option.isSome (impl_apart_len4_p y0 y1 y2 y3)), ⟨(.sl 0 0 (List.length (Option.getD (impl_apart_len4_p y0 y1 y2 y3) default))), [(.vec 37 (.rl .i64 (Option.getD (impl_apart_len4_p y0 y1 y2 y3) default)))], []⟩) := by kernel_rfl
              rw [e] at hc
              have hC := isSome_cond hc
              rw [hC] at hg'
              have h9 := impl_apart_len4_meets F fr w ρ _ _ reals hw ha _ hg'
              simp only [e, hC, cond_true, Option.getD_some]
              exact h9
            · replace hn4 : Nat.beq (List.length rest0) 4 = false := by simpa only [Bool.not_eq_true] using hn4
              exfalso
              have e : impl_apart_p rest0 = none := by simp only [impl_apart_p, impl_apart_c, hn0, hn1, hn2, hn3, hn4, cond_false]
              rw [e] at hc
              cases hc
  · cases hg

/-! loop.example/g01194/impl.worth -/
noncomputable def impl_worth_tab (F : Nat) : Tab := []
theorem impl_worth_tabok (F : Nat) : TabOK Try.prog (impl_worth_tab F) := tab_nil
noncomputable def impl_worth_LS0 (F : Nat) : LT := []
theorem impl_worth_lsok0 (F : Nat) : LoopsOK Try.prog (impl_worth_LS0 F) (bodyOf Try.f127) := loopsOK_nil
theorem impl_worth_run (F : Nat) (t0 : Int) : runS tt (impl_worth_tab F) (impl_worth_LS0 F) [] [] Try.f127 (bodyOf Try.f127) 70 [(.int .i64 t0)] [] = impl_worth_c _ t0 (fun r => some ⟨(.int .i64 r), [], []⟩) := by kernel_rfl
def impl_worth_ent (F : Nat) : Ent := ⟨[], .quiet, fun args mem => match args, mem with
  | [(.int .i64 t0)], [] => some ((impl_worth_p t0).isSome, ⟨(.int .i64 ((impl_worth_p t0).getD default)), [], []⟩)
  | _, _ => none⟩
theorem impl_worth_fok : FunOK Try.prog 127 := funOK Try.func127 (by kernel_rfl) rfl
theorem impl_worth_meets (F : Nat) : Meets Try.prog 127 (impl_worth_ent F) := by
  refine meets_of_runS mixed ttok deep (impl_worth_tabok F) Try.func127 (body_some rfl) (impl_worth_lsok0 F) fun args mem hfit ret h => ?_
  clear hfit
  simp only [impl_worth_ent] at h
  split at h
  · rename_i t0
    simp only [Option.some.injEq, Prod.mk.injEq] at h
    obtain ⟨hc, rfl⟩ := h
    exact ⟨[], [], 70, _, (impl_worth_run F t0).trans ((impl_worth_cp _ t0 _).trans (bind_use hc _)), rfl, rfl, rfl⟩
  · cases h
end Go.Proofs.Ytgmnclpjbhmioaa
