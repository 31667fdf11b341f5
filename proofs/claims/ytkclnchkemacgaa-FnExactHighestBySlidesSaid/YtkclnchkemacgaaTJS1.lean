/-
Pure functions and what the code of them does, by program; without conditions.
-/
import Derived.Test.YtkclnchkemacgaaTJP1
import Derived.Test.YtkclnchkemacgaaTJS0
namespace Go.Proofs.Ytkclnchkemacgaa
open Go Go.Lv Go.Lv.P Go.Proofs
set_option linter.unusedVariables false
set_option linter.unusedSimpArgs false
set_option maxRecDepth 100000
/-! loop.example/g01194/spec.l5Fewest -/
noncomputable def spec_l5Fewest_tab (F : Nat) : Tab := [(37, (spec_l5Has_ent F)), (38, (spec_l5Next_ent F))]
theorem spec_l5Fewest_tabok (F : Nat) : TabOK Try.prog (spec_l5Fewest_tab F) := (tab_cons (spec_l5Has_meets F) spec_l5Has_fok (tab_cons (spec_l5Next_meets F) spec_l5Next_fok tab_nil))
noncomputable def spec_l5Fewest_LS0 (F : Nat) : LT := []
theorem spec_l5Fewest_lsok0 (F : Nat) : LoopsOK Try.prog (spec_l5Fewest_LS0 F) (bodyOf Try.f20) := loopsOK_nil
theorem spec_l5Fewest_keys : keysOK (bodyOf Try.f20) = true := by kernel_rfl
def spec_l5Fewest_st3 (most0 : Int) (b6 : List Int) (all4 : List (List Int)) (n5 : Int) : St := ⟨expand 22 0 [2, 4, 7, 8] [(.int .i64 most0), (.ptr 0 0 0 16), (.rr 16 all4), (.int .i64 n5)], [(.var 16 (.ri .i64 b6))], 0, []⟩
def spec_l5Fewest_o3 (most0 : Int) (b6 : List Int) (x : Bool × Int) : GT := (.br x.1 (.out (.ret ⟨expand 22 0 [6] [(.int .i64 x.2)], [], 0, []⟩)) (.out (.exit 0 ⟨expand 22 0 [] [], [], 0, []⟩)))
def spec_l5Fewest_ls3 (F : Nat) : LoopS := ⟨22, [2, 4, 7, 8], [⟨7, 0, (.tup [])⟩], [], [], [6], [], [], fun vals mem np killed => match vals, mem, np, killed with
  | [(.int .i64 most0), (.ptr 0 0 0 16), (.rr 16 all4), (.int .i64 n5)], [(.var 16 (.ri .i64 b6))], 0, [] => .br (spec_l5Fewest_l3 F most0 b6 all4 n5).isSome (spec_l5Fewest_o3 most0 b6 ((spec_l5Fewest_l3 F most0 b6 all4 n5).getD default)) .fail
  | _, _, _, _ => .fail⟩
theorem spec_l5Fewest_step3 (F : Nat) (most0 : Int) (b6 : List Int) (all4 : List (List Int)) (n5 : Int) {R : Type} (k : Out → Option R) : stepS tt (spec_l5Fewest_tab F) (spec_l5Fewest_LS0 F) 70 (spec_l5Fewest_ls3 F) (loopAt 3 (bodyOf Try.f20)) (spec_l5Fewest_st3 most0 b6 all4 n5) k = spec_l5Fewest_s3 F most0 b6 R (all4, n5) (fun s => k (.norm (spec_l5Fewest_st3 most0 b6 s.1 s.2))) (fun x => (spec_l5Fewest_o3 most0 b6 x).run k) := by kernel_rfl
theorem spec_l5Fewest_iter3 (F : Nat) (most0 : Int) (b6 : List Int) {R : Type} (k : Out → Option R) : ∀ (n : Nat) (all4 : List (List Int)) (n5 : Int), iterS tt (spec_l5Fewest_tab F) (spec_l5Fewest_LS0 F) 70 (spec_l5Fewest_ls3 F) (loopAt 3 (bodyOf Try.f20)) n (spec_l5Fewest_st3 most0 b6 all4 n5) k = loopC (spec_l5Fewest_s3 F most0 b6) n (all4, n5) (fun x => (spec_l5Fewest_o3 most0 b6 x).run k)
  | 0, all4, n5 => rfl
  | n + 1, all4, n5 => (iterS_succ tt (spec_l5Fewest_tab F) (spec_l5Fewest_LS0 F) 70 (spec_l5Fewest_ls3 F) (loopAt 3 (bodyOf Try.f20)) n (spec_l5Fewest_st3 most0 b6 all4 n5) k).trans ((spec_l5Fewest_step3 F most0 b6 all4 n5 (nextK (iterS tt (spec_l5Fewest_tab F) (spec_l5Fewest_LS0 F) 70 (spec_l5Fewest_ls3 F) (loopAt 3 (bodyOf Try.f20)) n) k)).trans (congrArg (fun kn => spec_l5Fewest_s3 F most0 b6 R (all4, n5) kn _) (funext (fun ⟨all4, n5⟩ => spec_l5Fewest_iter3 F most0 b6 k n all4 n5))))
theorem spec_l5Fewest_lok3 (F : Nat) : LoopOK Try.prog (loopAt 3 (bodyOf Try.f20)) (spec_l5Fewest_ls3 F) := by
  refine loopOK_of mixed ttok deep (spec_l5Fewest_tabok F) (loopsOK_at (spec_l5Fewest_lsok0 F) 3) (fuel := 70) fun R vals mem np killed k x h => ?_
  simp only [spec_l5Fewest_ls3] at h
  split at h
  · rename_i most0 all4 n5 b6
    simp only [GT.run] at h
    have hc := (cond_noneL h).1
    replace h := (cond_noneL h).2
    refine ⟨F, (spec_l5Fewest_iter3 F most0 b6 k F all4 n5).trans ((loopC_use (spec_l5Fewest_s3_nat F most0 b6) hc _).trans h)⟩
  · simp only [GT.run] at h
    cases h
noncomputable def spec_l5Fewest_LS1 (F : Nat) : LT := (3, spec_l5Fewest_ls3 F) :: spec_l5Fewest_LS0 F
theorem spec_l5Fewest_lsok1 (F : Nat) : LoopsOK Try.prog (spec_l5Fewest_LS1 F) (bodyOf Try.f20) := loopsOK_cons spec_l5Fewest_keys (spec_l5Fewest_lok3 F) (spec_l5Fewest_lsok0 F)
theorem spec_l5Fewest_run (F : Nat) (a0 : List Int) (b1 : List Int) (most2 : Int) : runS tt (spec_l5Fewest_tab F) (spec_l5Fewest_LS1 F) [] [] Try.f20 (bodyOf Try.f20) 70 [(.ints 16 a0), (.ints 16 b1), (.int .i64 most2)] [] = spec_l5Fewest_c _ F a0 b1 most2 (fun r => some ⟨(.int .i64 r), [], []⟩) := by kernel_rfl
def spec_l5Fewest_ent (F : Nat) : Ent := ⟨[], .quiet, fun args mem => match args, mem with
  | [(.ints 16 a0), (.ints 16 b1), (.int .i64 most2)], [] => some ((spec_l5Fewest_p F a0 b1 most2).isSome, ⟨(.int .i64 ((spec_l5Fewest_p F a0 b1 most2).getD default)), [], []⟩)
  | _, _ => none⟩
theorem spec_l5Fewest_fok : FunOK Try.prog 20 := funOK Try.func20 (by kernel_rfl) rfl
theorem spec_l5Fewest_meets (F : Nat) : Meets Try.prog 20 (spec_l5Fewest_ent F) := by
  refine meets_of_runS mixed ttok deep (spec_l5Fewest_tabok F) Try.func20 (body_some rfl) (spec_l5Fewest_lsok1 F) fun args mem hfit ret h => ?_
  clear hfit
  simp only [spec_l5Fewest_ent] at h
  split at h
  · rename_i a0 b1 most2
    simp only [Option.some.injEq, Prod.mk.injEq] at h
    obtain ⟨hc, rfl⟩ := h
    exact ⟨[], [], 70, _, (spec_l5Fewest_run F a0 b1 most2).trans ((spec_l5Fewest_cp _ F a0 b1 most2 _).trans (bind_use hc _)), rfl, rfl, rfl⟩
  · cases h

/-! loop.example/g01194/spec.l1Most -/
noncomputable def spec_l1Most_tab (F : Nat) : Tab := []
theorem spec_l1Most_tabok (F : Nat) : TabOK Try.prog (spec_l1Most_tab F) := tab_nil
noncomputable def spec_l1Most_LS0 (F : Nat) : LT := []
theorem spec_l1Most_lsok0 (F : Nat) : LoopsOK Try.prog (spec_l1Most_LS0 F) (bodyOf Try.f21) := loopsOK_nil
theorem spec_l1Most_run (F : Nat) (a0 : Int) (b1 : Int) : runS tt (spec_l1Most_tab F) (spec_l1Most_LS0 F) [] [] Try.f21 (bodyOf Try.f21) 70 [(.int .i64 a0), (.int .i64 b1)] [] = spec_l1Most_c _ a0 b1 (fun r => some ⟨(.int .i64 r), [], []⟩) := by kernel_rfl
def spec_l1Most_ent (F : Nat) : Ent := ⟨[], .quiet, fun args mem => match args, mem with
  | [(.int .i64 a0), (.int .i64 b1)], [] => some (true, ⟨(.int .i64 (spec_l1Most_v a0 b1)), [], []⟩)
  | _, _ => none⟩
theorem spec_l1Most_fok : FunOK Try.prog 21 := funOK Try.func21 (by kernel_rfl) rfl
theorem spec_l1Most_meets (F : Nat) : Meets Try.prog 21 (spec_l1Most_ent F) := by
  refine meets_of_runS mixed ttok deep (spec_l1Most_tabok F) Try.func21 (body_some rfl) (spec_l1Most_lsok0 F) fun args mem hfit ret h => ?_
  clear hfit
  simp only [spec_l1Most_ent] at h
  split at h
  · rename_i a0 b1
    simp only [Option.some.injEq, Prod.mk.injEq] at h
    obtain ⟨hc, rfl⟩ := h
    exact ⟨[], [], 70, _, (spec_l1Most_run F a0 b1).trans (spec_l1Most_cv _ a0 b1 _), rfl, rfl, rfl⟩
  · cases h

/-! loop.example/g01194/spec.FewestSlides -/
noncomputable def spec_FewestSlides_tab (F : Nat) : Tab := [(19, (spec_l2Board_ent F)), (20, (spec_l5Fewest_ent F)), (21, (spec_l1Most_ent F))]
theorem spec_FewestSlides_tabok (F : Nat) : TabOK Try.prog (spec_FewestSlides_tab F) := (tab_cons (spec_l2Board_meets F) spec_l2Board_fok (tab_cons (spec_l5Fewest_meets F) spec_l5Fewest_fok (tab_cons (spec_l1Most_meets F) spec_l1Most_fok tab_nil)))
noncomputable def spec_FewestSlides_LS0 (F : Nat) : LT := []
theorem spec_FewestSlides_lsok0 (F : Nat) : LoopsOK Try.prog (spec_FewestSlides_LS0 F) (bodyOf Try.f7) := loopsOK_nil
theorem spec_FewestSlides_run (F : Nat) (a0 : List Int) (b1 : List Int) : runS tt (spec_FewestSlides_tab F) (spec_FewestSlides_LS0 F) [] [] Try.f7 (bodyOf Try.f7) 70 [(.ints 16 a0), (.ints 16 b1)] [] = spec_FewestSlides_c _ F a0 b1 (fun r => some ⟨(.tup [(.int .i64 r.1), (.bool r.2)]), [], []⟩) := by kernel_rfl
def spec_FewestSlides_ent (F : Nat) : Ent := ⟨[], .quiet, fun args mem => match args, mem with
  | [(.ints 16 a0), (.ints 16 b1)], [] => some ((spec_FewestSlides_p F a0 b1).isSome, ⟨(.tup [(.int .i64 ((spec_FewestSlides_p F a0 b1).getD default).1), (.bool ((spec_FewestSlides_p F a0 b1).getD default).2)]), [], []⟩)
  | _, _ => none⟩
theorem spec_FewestSlides_fok : FunOK Try.prog 7 := funOK Try.func7 (by kernel_rfl) rfl
theorem spec_FewestSlides_meets (F : Nat) : Meets Try.prog 7 (spec_FewestSlides_ent F) := by
  refine meets_of_runS mixed ttok deep (spec_FewestSlides_tabok F) Try.func7 (body_some rfl) (spec_FewestSlides_lsok0 F) fun args mem hfit ret h => ?_
  clear hfit
  simp only [spec_FewestSlides_ent] at h
  split at h
  · rename_i a0 b1
    simp only [Option.some.injEq, Prod.mk.injEq] at h
    obtain ⟨hc, rfl⟩ := h
    exact ⟨[], [], 70, _, (spec_FewestSlides_run F a0 b1).trans ((spec_FewestSlides_cp _ F a0 b1 _).trans (bind_use hc _)), rfl, rfl, rfl⟩
  · cases h

/-! loop.example/g01194/impl.in -/
noncomputable def impl_in_tab (F : Nat) : Tab := []
theorem impl_in_tabok (F : Nat) : TabOK Try.prog (impl_in_tab F) := tab_nil
noncomputable def impl_in_LS0 (F : Nat) : LT := []
theorem impl_in_lsok0 (F : Nat) : LoopsOK Try.prog (impl_in_LS0 F) (bodyOf Try.f64) := loopsOK_nil
theorem impl_in_run (F : Nat) (n0 : Int) (low1 : Int) (high2 : Int) : runS tt (impl_in_tab F) (impl_in_LS0 F) [] [] Try.f64 (bodyOf Try.f64) 70 [(.int .i64 n0), (.int .i64 low1), (.int .i64 high2)] [] = impl_in_c _ n0 low1 high2 (fun r => some ⟨(.bool r), [], []⟩) := by kernel_rfl
def impl_in_ent (F : Nat) : Ent := ⟨[], .quiet, fun args mem => match args, mem with
  | [(.int .i64 n0), (.int .i64 low1), (.int .i64 high2)], [] => some (true, ⟨(.bool (impl_in_v n0 low1 high2)), [], []⟩)
  | _, _ => none⟩
theorem impl_in_fok : FunOK Try.prog 64 := funOK Try.func64 (by kernel_rfl) rfl
theorem impl_in_meets (F : Nat) : Meets Try.prog 64 (impl_in_ent F) := by
  refine meets_of_runS mixed ttok deep (impl_in_tabok F) Try.func64 (body_some rfl) (impl_in_lsok0 F) fun args mem hfit ret h => ?_
  clear hfit
  simp only [impl_in_ent] at h
  split at h
  · rename_i n0 low1 high2
    simp only [Option.some.injEq, Prod.mk.injEq] at h
    obtain ⟨hc, rfl⟩ := h
    exact ⟨[], [], 70, _, (impl_in_run F n0 low1 high2).trans (impl_in_cv _ n0 low1 high2 _), rfl, rfl, rfl⟩
  · cases h

/-! loop.example/g01194/impl.IsRow$1 -/
noncomputable def impl_IsRow_f1_tab (F : Nat) : Tab := [(64, (impl_in_ent F))]
theorem impl_IsRow_f1_tabok (F : Nat) : TabOK Try.prog (impl_IsRow_f1_tab F) := (tab_cons (impl_in_meets F) impl_in_fok tab_nil)
noncomputable def impl_IsRow_f1_LS0 (F : Nat) : LT := []
theorem impl_IsRow_f1_lsok0 (F : Nat) : LoopsOK Try.prog (impl_IsRow_f1_LS0 F) (bodyOf Try.f63) := loopsOK_nil
theorem impl_IsRow_f1_run (F : Nat) (n0 : Int) : runS tt (impl_IsRow_f1_tab F) (impl_IsRow_f1_LS0 F) [] [] Try.f63 (bodyOf Try.f63) 70 [(.int .i64 n0)] [] = impl_IsRow_f1_c _ n0 (fun r => some ⟨(.bool r), [], []⟩) := by kernel_rfl
def impl_IsRow_f1_ent (F : Nat) : Ent := ⟨[], .quiet, fun args mem => match args, mem with
  | [(.int .i64 n0)], [] => some (true, ⟨(.bool (impl_IsRow_f1_v n0)), [], []⟩)
  | _, _ => none⟩
theorem impl_IsRow_f1_fok : FunOK Try.prog 63 := funOK Try.func63 (by kernel_rfl) rfl
theorem impl_IsRow_f1_meets (F : Nat) : Meets Try.prog 63 (impl_IsRow_f1_ent F) := by
  refine meets_of_runS mixed ttok deep (impl_IsRow_f1_tabok F) Try.func63 (body_some rfl) (impl_IsRow_f1_lsok0 F) fun args mem hfit ret h => ?_
  clear hfit
  simp only [impl_IsRow_f1_ent] at h
  split at h
  · rename_i n0
    simp only [Option.some.injEq, Prod.mk.injEq] at h
    obtain ⟨hc, rfl⟩ := h
    exact ⟨[], [], 70, _, (impl_IsRow_f1_run F n0).trans (impl_IsRow_f1_cv _ n0 _), rfl, rfl, rfl⟩
  · cases h

/-! slices.IndexFunc[[]int,int] -/
noncomputable def slices_IndexFunc_intint_impl_IsRow_f1_tab (F : Nat) : Tab := [(63, (impl_IsRow_f1_ent F))]
theorem slices_IndexFunc_intint_impl_IsRow_f1_tabok (F : Nat) : TabOK Try.prog (slices_IndexFunc_intint_impl_IsRow_f1_tab F) := (tab_cons (impl_IsRow_f1_meets F) impl_IsRow_f1_fok tab_nil)
noncomputable def slices_IndexFunc_intint_impl_IsRow_f1_LS0 (F : Nat) : LT := []
theorem slices_IndexFunc_intint_impl_IsRow_f1_lsok0 (F : Nat) : LoopsOK Try.prog (slices_IndexFunc_intint_impl_IsRow_f1_LS0 F) (bodyOf Try.f72) := loopsOK_nil
theorem slices_IndexFunc_intint_impl_IsRow_f1_keys : keysOK (bodyOf Try.f72) = true := by kernel_rfl
def slices_IndexFunc_intint_impl_IsRow_f1_st2 (s0 : List Int) (t71 : Int) (t82 : Int) : St := ⟨expand 19 0 [0, 1, 7, 8] [(.ri .i64 s0), (.fn 63 [] []), (.int .i64 t71), (.int .i64 t82)], [], 0, []⟩
def slices_IndexFunc_intint_impl_IsRow_f1_o2 (s0 : List Int) (t71 : Int) (x : Bool × Int) : GT := (.br x.1 (.out (.ret ⟨expand 19 0 [4] [(.int .i64 x.2)], [], 0, []⟩)) (.out (.exit 0 ⟨expand 19 0 [] [], [], 0, []⟩)))
def slices_IndexFunc_intint_impl_IsRow_f1_ls2 (F : Nat) : LoopS := ⟨19, [0, 1, 7, 8], [], [], [], [4], [], [], fun vals mem np killed => match vals, mem, np, killed with
  | [(.ri .i64 s0), (.fn 63 [] []), (.int .i64 t71), (.int .i64 t82)], [], 0, [] => .br (slices_IndexFunc_intint_impl_IsRow_f1_l2 F s0 t71 t82).isSome (slices_IndexFunc_intint_impl_IsRow_f1_o2 s0 t71 ((slices_IndexFunc_intint_impl_IsRow_f1_l2 F s0 t71 t82).getD default)) .fail
  | _, _, _, _ => .fail⟩
theorem slices_IndexFunc_intint_impl_IsRow_f1_step2 (F : Nat) (s0 : List Int) (t71 : Int) (t82 : Int) {R : Type} (k : Out → Option R) : stepS tt (slices_IndexFunc_intint_impl_IsRow_f1_tab F) (slices_IndexFunc_intint_impl_IsRow_f1_LS0 F) 70 (slices_IndexFunc_intint_impl_IsRow_f1_ls2 F) (loopAt 2 (bodyOf Try.f72)) (slices_IndexFunc_intint_impl_IsRow_f1_st2 s0 t71 t82) k = slices_IndexFunc_intint_impl_IsRow_f1_s2 F s0 t71 R t82 (fun s => k (.norm (slices_IndexFunc_intint_impl_IsRow_f1_st2 s0 t71 s))) (fun x => (slices_IndexFunc_intint_impl_IsRow_f1_o2 s0 t71 x).run k) := by kernel_rfl
theorem slices_IndexFunc_intint_impl_IsRow_f1_iter2 (F : Nat) (s0 : List Int) (t71 : Int) {R : Type} (k : Out → Option R) : ∀ (n : Nat) (t82 : Int), iterS tt (slices_IndexFunc_intint_impl_IsRow_f1_tab F) (slices_IndexFunc_intint_impl_IsRow_f1_LS0 F) 70 (slices_IndexFunc_intint_impl_IsRow_f1_ls2 F) (loopAt 2 (bodyOf Try.f72)) n (slices_IndexFunc_intint_impl_IsRow_f1_st2 s0 t71 t82) k = loopC (slices_IndexFunc_intint_impl_IsRow_f1_s2 F s0 t71) n t82 (fun x => (slices_IndexFunc_intint_impl_IsRow_f1_o2 s0 t71 x).run k)
  | 0, t82 => rfl
  | n + 1, t82 => (iterS_succ tt (slices_IndexFunc_intint_impl_IsRow_f1_tab F) (slices_IndexFunc_intint_impl_IsRow_f1_LS0 F) 70 (slices_IndexFunc_intint_impl_IsRow_f1_ls2 F) (loopAt 2 (bodyOf Try.f72)) n (slices_IndexFunc_intint_impl_IsRow_f1_st2 s0 t71 t82) k).trans ((slices_IndexFunc_intint_impl_IsRow_f1_step2 F s0 t71 t82 (nextK (iterS tt (slices_IndexFunc_intint_impl_IsRow_f1_tab F) (slices_IndexFunc_intint_impl_IsRow_f1_LS0 F) 70 (slices_IndexFunc_intint_impl_IsRow_f1_ls2 F) (loopAt 2 (bodyOf Try.f72)) n) k)).trans (congrArg (fun kn => slices_IndexFunc_intint_impl_IsRow_f1_s2 F s0 t71 R t82 kn _) (funext (fun t82 => slices_IndexFunc_intint_impl_IsRow_f1_iter2 F s0 t71 k n t82))))
theorem slices_IndexFunc_intint_impl_IsRow_f1_lok2 (F : Nat) : LoopOK Try.prog (loopAt 2 (bodyOf Try.f72)) (slices_IndexFunc_intint_impl_IsRow_f1_ls2 F) := by
  refine loopOK_of mixed ttok deep (slices_IndexFunc_intint_impl_IsRow_f1_tabok F) (loopsOK_at (slices_IndexFunc_intint_impl_IsRow_f1_lsok0 F) 2) (fuel := 70) fun R vals mem np killed k x h => ?_
  simp only [slices_IndexFunc_intint_impl_IsRow_f1_ls2] at h
  split at h
  · rename_i s0 t71 t82
    simp only [GT.run] at h
    have hc := (cond_noneL h).1
    replace h := (cond_noneL h).2
    refine ⟨F, (slices_IndexFunc_intint_impl_IsRow_f1_iter2 F s0 t71 k F t82).trans ((loopC_use (slices_IndexFunc_intint_impl_IsRow_f1_s2_nat F s0 t71) hc _).trans h)⟩
  · simp only [GT.run] at h
    cases h
noncomputable def slices_IndexFunc_intint_impl_IsRow_f1_LS1 (F : Nat) : LT := (2, slices_IndexFunc_intint_impl_IsRow_f1_ls2 F) :: slices_IndexFunc_intint_impl_IsRow_f1_LS0 F
theorem slices_IndexFunc_intint_impl_IsRow_f1_lsok1 (F : Nat) : LoopsOK Try.prog (slices_IndexFunc_intint_impl_IsRow_f1_LS1 F) (bodyOf Try.f72) := loopsOK_cons slices_IndexFunc_intint_impl_IsRow_f1_keys (slices_IndexFunc_intint_impl_IsRow_f1_lok2 F) (slices_IndexFunc_intint_impl_IsRow_f1_lsok0 F)
theorem slices_IndexFunc_intint_impl_IsRow_f1_run (F : Nat) (s0 : List Int) : runS tt (slices_IndexFunc_intint_impl_IsRow_f1_tab F) (slices_IndexFunc_intint_impl_IsRow_f1_LS1 F) [] [] Try.f72 (bodyOf Try.f72) 70 [(.ri .i64 s0), (.fn 63 [] [])] [] = slices_IndexFunc_intint_impl_IsRow_f1_c _ F s0 (fun r => some ⟨(.int .i64 r), [], []⟩) := by kernel_rfl
def slices_IndexFunc_intint_impl_IsRow_f1_ent (F : Nat) : Ent := ⟨[], .quiet, fun args mem => match args, mem with
  | [(.ri .i64 s0), (.fn 63 [] [])], [] => some ((slices_IndexFunc_intint_impl_IsRow_f1_p F s0).isSome, ⟨(.int .i64 ((slices_IndexFunc_intint_impl_IsRow_f1_p F s0).getD default)), [], []⟩)
  | _, _ => none⟩
theorem slices_IndexFunc_intint_impl_IsRow_f1_fok : FunOK Try.prog 72 := funOK Try.func72 (by kernel_rfl) rfl
theorem slices_IndexFunc_intint_impl_IsRow_f1_meets (F : Nat) : Meets Try.prog 72 (slices_IndexFunc_intint_impl_IsRow_f1_ent F) := by
  refine meets_of_runS mixed ttok deep (slices_IndexFunc_intint_impl_IsRow_f1_tabok F) Try.func72 (body_some rfl) (slices_IndexFunc_intint_impl_IsRow_f1_lsok1 F) fun args mem hfit ret h => ?_
  clear hfit
  simp only [slices_IndexFunc_intint_impl_IsRow_f1_ent] at h
  split at h
  · rename_i s0
    simp only [Option.some.injEq, Prod.mk.injEq] at h
    obtain ⟨hc, rfl⟩ := h
    exact ⟨[], [], 70, _, (slices_IndexFunc_intint_impl_IsRow_f1_run F s0).trans ((slices_IndexFunc_intint_impl_IsRow_f1_cp _ F s0 _).trans (bind_use hc _)), rfl, rfl, rfl⟩
  · cases h

/-! slices.ContainsFunc[[]int,int] -/
noncomputable def slices_ContainsFunc_intint_impl_IsRow_f1_tab (F : Nat) : Tab := [(72, (slices_IndexFunc_intint_impl_IsRow_f1_ent F))]
theorem slices_ContainsFunc_intint_impl_IsRow_f1_tabok (F : Nat) : TabOK Try.prog (slices_ContainsFunc_intint_impl_IsRow_f1_tab F) := (tab_cons (slices_IndexFunc_intint_impl_IsRow_f1_meets F) slices_IndexFunc_intint_impl_IsRow_f1_fok tab_nil)
noncomputable def slices_ContainsFunc_intint_impl_IsRow_f1_LS0 (F : Nat) : LT := []
theorem slices_ContainsFunc_intint_impl_IsRow_f1_lsok0 (F : Nat) : LoopsOK Try.prog (slices_ContainsFunc_intint_impl_IsRow_f1_LS0 F) (bodyOf Try.f62) := loopsOK_nil
theorem slices_ContainsFunc_intint_impl_IsRow_f1_run (F : Nat) (s0 : List Int) : runS tt (slices_ContainsFunc_intint_impl_IsRow_f1_tab F) (slices_ContainsFunc_intint_impl_IsRow_f1_LS0 F) [] [] Try.f62 (bodyOf Try.f62) 70 [(.ri .i64 s0), (.fn 63 [] [])] [] = slices_ContainsFunc_intint_impl_IsRow_f1_c _ F s0 (fun r => some ⟨(.bool r), [], []⟩) := by kernel_rfl
def slices_ContainsFunc_intint_impl_IsRow_f1_ent (F : Nat) : Ent := ⟨[], .quiet, fun args mem => match args, mem with
  | [(.ri .i64 s0), (.fn 63 [] [])], [] => some ((slices_ContainsFunc_intint_impl_IsRow_f1_p F s0).isSome, ⟨(.bool ((slices_ContainsFunc_intint_impl_IsRow_f1_p F s0).getD default)), [], []⟩)
  | _, _ => none⟩
theorem slices_ContainsFunc_intint_impl_IsRow_f1_fok : FunOK Try.prog 62 := funOK Try.func62 (by kernel_rfl) rfl
theorem slices_ContainsFunc_intint_impl_IsRow_f1_meets (F : Nat) : Meets Try.prog 62 (slices_ContainsFunc_intint_impl_IsRow_f1_ent F) := by
  refine meets_of_runS mixed ttok deep (slices_ContainsFunc_intint_impl_IsRow_f1_tabok F) Try.func62 (body_some rfl) (slices_ContainsFunc_intint_impl_IsRow_f1_lsok0 F) fun args mem hfit ret h => ?_
  clear hfit
  simp only [slices_ContainsFunc_intint_impl_IsRow_f1_ent] at h
  split at h
  · rename_i s0
    simp only [Option.some.injEq, Prod.mk.injEq] at h
    obtain ⟨hc, rfl⟩ := h
    exact ⟨[], [], 70, _, (slices_ContainsFunc_intint_impl_IsRow_f1_run F s0).trans ((slices_ContainsFunc_intint_impl_IsRow_f1_cp _ F s0 _).trans (bind_use hc _)), rfl, rfl, rfl⟩
  · cases h

/-! loop.example/g01194/impl.IsRow -/
noncomputable def impl_IsRow_tab (F : Nat) : Tab := [(62, (slices_ContainsFunc_intint_impl_IsRow_f1_ent F))]
theorem impl_IsRow_tabok (F : Nat) : TabOK Try.prog (impl_IsRow_tab F) := (tab_cons (slices_ContainsFunc_intint_impl_IsRow_f1_meets F) slices_ContainsFunc_intint_impl_IsRow_f1_fok tab_nil)
noncomputable def impl_IsRow_LS0 (F : Nat) : LT := []
theorem impl_IsRow_lsok0 (F : Nat) : LoopsOK Try.prog (impl_IsRow_LS0 F) (bodyOf Try.f44) := loopsOK_nil
theorem impl_IsRow_run (F : Nat) (row0 : List Int) : runS tt (impl_IsRow_tab F) (impl_IsRow_LS0 F) [] [] Try.f44 (bodyOf Try.f44) 70 [(.ints 4 row0)] [] = impl_IsRow_c _ F row0 (fun r => some ⟨(.bool r), [], []⟩) := by kernel_rfl
def impl_IsRow_ent (F : Nat) : Ent := ⟨[], .quiet, fun args mem => match args, mem with
  | [(.ints 4 row0)], [] => some ((impl_IsRow_p F row0).isSome, ⟨(.bool ((impl_IsRow_p F row0).getD default)), [], []⟩)
  | _, _ => none⟩
theorem impl_IsRow_fok : FunOK Try.prog 44 := funOK Try.func44 (by kernel_rfl) rfl
theorem impl_IsRow_meets (F : Nat) : Meets Try.prog 44 (impl_IsRow_ent F) := by
  refine meets_of_runS mixed ttok deep (impl_IsRow_tabok F) Try.func44 (body_some rfl) (impl_IsRow_lsok0 F) fun args mem hfit ret h => ?_
  clear hfit
  simp only [impl_IsRow_ent] at h
  split at h
  · rename_i row0
    simp only [Option.some.injEq, Prod.mk.injEq] at h
    obtain ⟨hc, rfl⟩ := h
    exact ⟨[], [], 70, _, (impl_IsRow_run F row0).trans ((impl_IsRow_cp _ F row0 _).trans (bind_use hc _)), rfl, rfl, rfl⟩
  · cases h

/-! loop.example/g01194/impl.IsBoard$1 -/
noncomputable def impl_IsBoard_f1_tab (F : Nat) : Tab := [(44, (impl_IsRow_ent F))]
theorem impl_IsBoard_f1_tabok (F : Nat) : TabOK Try.prog (impl_IsBoard_f1_tab F) := (tab_cons (impl_IsRow_meets F) impl_IsRow_fok tab_nil)
noncomputable def impl_IsBoard_f1_LS0 (F : Nat) : LT := []
theorem impl_IsBoard_f1_lsok0 (F : Nat) : LoopsOK Try.prog (impl_IsBoard_f1_LS0 F) (bodyOf Try.f43) := loopsOK_nil
theorem impl_IsBoard_f1_run (F : Nat) (row0 : List Int) : runS tt (impl_IsBoard_f1_tab F) (impl_IsBoard_f1_LS0 F) [] [] Try.f43 (bodyOf Try.f43) 70 [(.ints 4 row0)] [] = impl_IsBoard_f1_c _ F row0 (fun r => some ⟨(.bool r), [], []⟩) := by kernel_rfl
def impl_IsBoard_f1_ent (F : Nat) : Ent := ⟨[], .quiet, fun args mem => match args, mem with
  | [(.ints 4 row0)], [] => some ((impl_IsBoard_f1_p F row0).isSome, ⟨(.bool ((impl_IsBoard_f1_p F row0).getD default)), [], []⟩)
  | _, _ => none⟩
theorem impl_IsBoard_f1_fok : FunOK Try.prog 43 := funOK Try.func43 (by kernel_rfl) rfl
theorem impl_IsBoard_f1_meets (F : Nat) : Meets Try.prog 43 (impl_IsBoard_f1_ent F) := by
  refine meets_of_runS mixed ttok deep (impl_IsBoard_f1_tabok F) Try.func43 (body_some rfl) (impl_IsBoard_f1_lsok0 F) fun args mem hfit ret h => ?_
  clear hfit
  simp only [impl_IsBoard_f1_ent] at h
  split at h
  · rename_i row0
    simp only [Option.some.injEq, Prod.mk.injEq] at h
    obtain ⟨hc, rfl⟩ := h
    exact ⟨[], [], 70, _, (impl_IsBoard_f1_run F row0).trans ((impl_IsBoard_f1_cp _ F row0 _).trans (bind_use hc _)), rfl, rfl, rfl⟩
  · cases h

/-! slices.IndexFunc[[][4]int,[4]int] -/
noncomputable def slices_IndexFunc_4int4int_impl_IsBoard_f1_tab (F : Nat) : Tab := [(43, (impl_IsBoard_f1_ent F))]
theorem slices_IndexFunc_4int4int_impl_IsBoard_f1_tabok (F : Nat) : TabOK Try.prog (slices_IndexFunc_4int4int_impl_IsBoard_f1_tab F) := (tab_cons (impl_IsBoard_f1_meets F) impl_IsBoard_f1_fok tab_nil)
noncomputable def slices_IndexFunc_4int4int_impl_IsBoard_f1_LS0 (F : Nat) : LT := []
theorem slices_IndexFunc_4int4int_impl_IsBoard_f1_lsok0 (F : Nat) : LoopsOK Try.prog (slices_IndexFunc_4int4int_impl_IsBoard_f1_LS0 F) (bodyOf Try.f61) := loopsOK_nil
theorem slices_IndexFunc_4int4int_impl_IsBoard_f1_keys : keysOK (bodyOf Try.f61) = true := by kernel_rfl
def slices_IndexFunc_4int4int_impl_IsBoard_f1_st2 (s0 : List (List Int)) (t71 : Int) (t82 : Int) : St := ⟨expand 19 0 [0, 1, 7, 8] [(.rr 4 s0), (.fn 43 [] []), (.int .i64 t71), (.int .i64 t82)], [], 0, []⟩
def slices_IndexFunc_4int4int_impl_IsBoard_f1_o2 (s0 : List (List Int)) (t71 : Int) (x : Bool × Int) : GT := (.br x.1 (.out (.ret ⟨expand 19 0 [4] [(.int .i64 x.2)], [], 0, []⟩)) (.out (.exit 0 ⟨expand 19 0 [] [], [], 0, []⟩)))
def slices_IndexFunc_4int4int_impl_IsBoard_f1_ls2 (F : Nat) : LoopS := ⟨19, [0, 1, 7, 8], [], [], [], [4], [], [], fun vals mem np killed => match vals, mem, np, killed with
  | [(.rr 4 s0), (.fn 43 [] []), (.int .i64 t71), (.int .i64 t82)], [], 0, [] => .br (slices_IndexFunc_4int4int_impl_IsBoard_f1_l2 F s0 t71 t82).isSome (slices_IndexFunc_4int4int_impl_IsBoard_f1_o2 s0 t71 ((slices_IndexFunc_4int4int_impl_IsBoard_f1_l2 F s0 t71 t82).getD default)) .fail
  | _, _, _, _ => .fail⟩
theorem slices_IndexFunc_4int4int_impl_IsBoard_f1_step2 (F : Nat) (s0 : List (List Int)) (t71 : Int) (t82 : Int) {R : Type} (k : Out → Option R) : stepS tt (slices_IndexFunc_4int4int_impl_IsBoard_f1_tab F) (slices_IndexFunc_4int4int_impl_IsBoard_f1_LS0 F) 70 (slices_IndexFunc_4int4int_impl_IsBoard_f1_ls2 F) (loopAt 2 (bodyOf Try.f61)) (slices_IndexFunc_4int4int_impl_IsBoard_f1_st2 s0 t71 t82) k = slices_IndexFunc_4int4int_impl_IsBoard_f1_s2 F s0 t71 R t82 (fun s => k (.norm (slices_IndexFunc_4int4int_impl_IsBoard_f1_st2 s0 t71 s))) (fun x => (slices_IndexFunc_4int4int_impl_IsBoard_f1_o2 s0 t71 x).run k) := by kernel_rfl
theorem slices_IndexFunc_4int4int_impl_IsBoard_f1_iter2 (F : Nat) (s0 : List (List Int)) (t71 : Int) {R : Type} (k : Out → Option R) : ∀ (n : Nat) (t82 : Int), iterS tt (slices_IndexFunc_4int4int_impl_IsBoard_f1_tab F) (slices_IndexFunc_4int4int_impl_IsBoard_f1_LS0 F) 70 (slices_IndexFunc_4int4int_impl_IsBoard_f1_ls2 F) (loopAt 2 (bodyOf Try.f61)) n (slices_IndexFunc_4int4int_impl_IsBoard_f1_st2 s0 t71 t82) k = loopC (slices_IndexFunc_4int4int_impl_IsBoard_f1_s2 F s0 t71) n t82 (fun x => (slices_IndexFunc_4int4int_impl_IsBoard_f1_o2 s0 t71 x).run k)
  | 0, t82 => rfl
  | n + 1, t82 => (iterS_succ tt (slices_IndexFunc_4int4int_impl_IsBoard_f1_tab F) (slices_IndexFunc_4int4int_impl_IsBoard_f1_LS0 F) 70 (slices_IndexFunc_4int4int_impl_IsBoard_f1_ls2 F) (loopAt 2 (bodyOf Try.f61)) n (slices_IndexFunc_4int4int_impl_IsBoard_f1_st2 s0 t71 t82) k).trans ((slices_IndexFunc_4int4int_impl_IsBoard_f1_step2 F s0 t71 t82 (nextK (iterS tt (slices_IndexFunc_4int4int_impl_IsBoard_f1_tab F) (slices_IndexFunc_4int4int_impl_IsBoard_f1_LS0 F) 70 (slices_IndexFunc_4int4int_impl_IsBoard_f1_ls2 F) (loopAt 2 (bodyOf Try.f61)) n) k)).trans (congrArg (fun kn => slices_IndexFunc_4int4int_impl_IsBoard_f1_s2 F s0 t71 R t82 kn _) (funext (fun t82 => slices_IndexFunc_4int4int_impl_IsBoard_f1_iter2 F s0 t71 k n t82))))
theorem slices_IndexFunc_4int4int_impl_IsBoard_f1_lok2 (F : Nat) : LoopOK Try.prog (loopAt 2 (bodyOf Try.f61)) (slices_IndexFunc_4int4int_impl_IsBoard_f1_ls2 F) := by
  refine loopOK_of mixed ttok deep (slices_IndexFunc_4int4int_impl_IsBoard_f1_tabok F) (loopsOK_at (slices_IndexFunc_4int4int_impl_IsBoard_f1_lsok0 F) 2) (fuel := 70) fun R vals mem np killed k x h => ?_
  simp only [slices_IndexFunc_4int4int_impl_IsBoard_f1_ls2] at h
  split at h
  · rename_i s0 t71 t82
    simp only [GT.run] at h
    have hc := (cond_noneL h).1
    replace h := (cond_noneL h).2
    refine ⟨F, (slices_IndexFunc_4int4int_impl_IsBoard_f1_iter2 F s0 t71 k F t82).trans ((loopC_use (slices_IndexFunc_4int4int_impl_IsBoard_f1_s2_nat F s0 t71) hc _).trans h)⟩
  · simp only [GT.run] at h
    cases h
noncomputable def slices_IndexFunc_4int4int_impl_IsBoard_f1_LS1 (F : Nat) : LT := (2, slices_IndexFunc_4int4int_impl_IsBoard_f1_ls2 F) :: slices_IndexFunc_4int4int_impl_IsBoard_f1_LS0 F
theorem slices_IndexFunc_4int4int_impl_IsBoard_f1_lsok1 (F : Nat) : LoopsOK Try.prog (slices_IndexFunc_4int4int_impl_IsBoard_f1_LS1 F) (bodyOf Try.f61) := loopsOK_cons slices_IndexFunc_4int4int_impl_IsBoard_f1_keys (slices_IndexFunc_4int4int_impl_IsBoard_f1_lok2 F) (slices_IndexFunc_4int4int_impl_IsBoard_f1_lsok0 F)
theorem slices_IndexFunc_4int4int_impl_IsBoard_f1_run (F : Nat) (s0 : List (List Int)) : runS tt (slices_IndexFunc_4int4int_impl_IsBoard_f1_tab F) (slices_IndexFunc_4int4int_impl_IsBoard_f1_LS1 F) [] [] Try.f61 (bodyOf Try.f61) 70 [(.rr 4 s0), (.fn 43 [] [])] [] = slices_IndexFunc_4int4int_impl_IsBoard_f1_c _ F s0 (fun r => some ⟨(.int .i64 r), [], []⟩) := by kernel_rfl
def slices_IndexFunc_4int4int_impl_IsBoard_f1_ent (F : Nat) : Ent := ⟨[], .quiet, fun args mem => match args, mem with
  | [(.rr 4 s0), (.fn 43 [] [])], [] => some ((slices_IndexFunc_4int4int_impl_IsBoard_f1_p F s0).isSome, ⟨(.int .i64 ((slices_IndexFunc_4int4int_impl_IsBoard_f1_p F s0).getD default)), [], []⟩)
  | _, _ => none⟩
theorem slices_IndexFunc_4int4int_impl_IsBoard_f1_fok : FunOK Try.prog 61 := funOK Try.func61 (by kernel_rfl) rfl
theorem slices_IndexFunc_4int4int_impl_IsBoard_f1_meets (F : Nat) : Meets Try.prog 61 (slices_IndexFunc_4int4int_impl_IsBoard_f1_ent F) := by
  refine meets_of_runS mixed ttok deep (slices_IndexFunc_4int4int_impl_IsBoard_f1_tabok F) Try.func61 (body_some rfl) (slices_IndexFunc_4int4int_impl_IsBoard_f1_lsok1 F) fun args mem hfit ret h => ?_
  clear hfit
  simp only [slices_IndexFunc_4int4int_impl_IsBoard_f1_ent] at h
  split at h
  · rename_i s0
    simp only [Option.some.injEq, Prod.mk.injEq] at h
    obtain ⟨hc, rfl⟩ := h
    exact ⟨[], [], 70, _, (slices_IndexFunc_4int4int_impl_IsBoard_f1_run F s0).trans ((slices_IndexFunc_4int4int_impl_IsBoard_f1_cp _ F s0 _).trans (bind_use hc _)), rfl, rfl, rfl⟩
  · cases h

/-! slices.ContainsFunc[[][4]int,[4]int] -/
noncomputable def slices_ContainsFunc_4int4int_impl_IsBoard_f1_tab (F : Nat) : Tab := [(61, (slices_IndexFunc_4int4int_impl_IsBoard_f1_ent F))]
theorem slices_ContainsFunc_4int4int_impl_IsBoard_f1_tabok (F : Nat) : TabOK Try.prog (slices_ContainsFunc_4int4int_impl_IsBoard_f1_tab F) := (tab_cons (slices_IndexFunc_4int4int_impl_IsBoard_f1_meets F) slices_IndexFunc_4int4int_impl_IsBoard_f1_fok tab_nil)
noncomputable def slices_ContainsFunc_4int4int_impl_IsBoard_f1_LS0 (F : Nat) : LT := []
theorem slices_ContainsFunc_4int4int_impl_IsBoard_f1_lsok0 (F : Nat) : LoopsOK Try.prog (slices_ContainsFunc_4int4int_impl_IsBoard_f1_LS0 F) (bodyOf Try.f42) := loopsOK_nil
theorem slices_ContainsFunc_4int4int_impl_IsBoard_f1_run (F : Nat) (s0 : List (List Int)) : runS tt (slices_ContainsFunc_4int4int_impl_IsBoard_f1_tab F) (slices_ContainsFunc_4int4int_impl_IsBoard_f1_LS0 F) [] [] Try.f42 (bodyOf Try.f42) 70 [(.rr 4 s0), (.fn 43 [] [])] [] = slices_ContainsFunc_4int4int_impl_IsBoard_f1_c _ F s0 (fun r => some ⟨(.bool r), [], []⟩) := by kernel_rfl
def slices_ContainsFunc_4int4int_impl_IsBoard_f1_ent (F : Nat) : Ent := ⟨[], .quiet, fun args mem => match args, mem with
  | [(.rr 4 s0), (.fn 43 [] [])], [] => some ((slices_ContainsFunc_4int4int_impl_IsBoard_f1_p F s0).isSome, ⟨(.bool ((slices_ContainsFunc_4int4int_impl_IsBoard_f1_p F s0).getD default)), [], []⟩)
  | _, _ => none⟩
theorem slices_ContainsFunc_4int4int_impl_IsBoard_f1_fok : FunOK Try.prog 42 := funOK Try.func42 (by kernel_rfl) rfl
theorem slices_ContainsFunc_4int4int_impl_IsBoard_f1_meets (F : Nat) : Meets Try.prog 42 (slices_ContainsFunc_4int4int_impl_IsBoard_f1_ent F) := by
  refine meets_of_runS mixed ttok deep (slices_ContainsFunc_4int4int_impl_IsBoard_f1_tabok F) Try.func42 (body_some rfl) (slices_ContainsFunc_4int4int_impl_IsBoard_f1_lsok0 F) fun args mem hfit ret h => ?_
  clear hfit
  simp only [slices_ContainsFunc_4int4int_impl_IsBoard_f1_ent] at h
  split at h
  · rename_i s0
    simp only [Option.some.injEq, Prod.mk.injEq] at h
    obtain ⟨hc, rfl⟩ := h
    exact ⟨[], [], 70, _, (slices_ContainsFunc_4int4int_impl_IsBoard_f1_run F s0).trans ((slices_ContainsFunc_4int4int_impl_IsBoard_f1_cp _ F s0 _).trans (bind_use hc _)), rfl, rfl, rfl⟩
  · cases h

/-! loop.example/g01194/impl.IsBoard -/
noncomputable def impl_IsBoard_tab (F : Nat) : Tab := [(42, (slices_ContainsFunc_4int4int_impl_IsBoard_f1_ent F))]
theorem impl_IsBoard_tabok (F : Nat) : TabOK Try.prog (impl_IsBoard_tab F) := (tab_cons (slices_ContainsFunc_4int4int_impl_IsBoard_f1_meets F) slices_ContainsFunc_4int4int_impl_IsBoard_f1_fok tab_nil)
noncomputable def impl_IsBoard_LS0 (F : Nat) : LT := []
theorem impl_IsBoard_lsok0 (F : Nat) : LoopsOK Try.prog (impl_IsBoard_LS0 F) (bodyOf Try.f26) := loopsOK_nil
theorem impl_IsBoard_run (F : Nat) (b0 : List Int) : runS tt (impl_IsBoard_tab F) (impl_IsBoard_LS0 F) [] [] Try.f26 (bodyOf Try.f26) 70 [(.ints 16 b0)] [] = impl_IsBoard_c _ F b0 (fun r => some ⟨(.bool r), [], []⟩) := by kernel_rfl
def impl_IsBoard_ent (F : Nat) : Ent := ⟨[], .quiet, fun args mem => match args, mem with
  | [(.ints 16 b0)], [] => some ((impl_IsBoard_p F b0).isSome, ⟨(.bool ((impl_IsBoard_p F b0).getD default)), [], []⟩)
  | _, _ => none⟩
theorem impl_IsBoard_fok : FunOK Try.prog 26 := funOK Try.func26 (by kernel_rfl) rfl
theorem impl_IsBoard_meets (F : Nat) : Meets Try.prog 26 (impl_IsBoard_ent F) := by
  refine meets_of_runS mixed ttok deep (impl_IsBoard_tabok F) Try.func26 (body_some rfl) (impl_IsBoard_lsok0 F) fun args mem hfit ret h => ?_
  clear hfit
  simp only [impl_IsBoard_ent] at h
  split at h
  · rename_i b0
    simp only [Option.some.injEq, Prod.mk.injEq] at h
    obtain ⟨hc, rfl⟩ := h
    exact ⟨[], [], 70, _, (impl_IsBoard_run F b0).trans ((impl_IsBoard_cp _ F b0 _).trans (bind_use hc _)), rfl, rfl, rfl⟩
  · cases h

/-! loop.example/g01194/impl.cells -/
noncomputable def impl_cells_tab (F : Nat) : Tab := []
theorem impl_cells_tabok (F : Nat) : TabOK Try.prog (impl_cells_tab F) := tab_nil
noncomputable def impl_cells_LS0 (F : Nat) : LT := []
theorem impl_cells_lsok0 (F : Nat) : LoopsOK Try.prog (impl_cells_LS0 F) (bodyOf Try.f46) := loopsOK_nil
theorem impl_cells_run (F : Nat) : runS tt (impl_cells_tab F) (impl_cells_LS0 F) [] [] Try.f46 (bodyOf Try.f46) 70 [] [] = impl_cells_c _ (fun r => some ⟨(.sl 0 0 16), [(.vec 49 (.rr 2 [[(0 : Int), (0 : Int)], [(0 : Int), (1 : Int)], [(0 : Int), (2 : Int)], [(0 : Int), (3 : Int)], [(1 : Int), (0 : Int)], [(1 : Int), (1 : Int)], [(1 : Int), (2 : Int)], [(1 : Int), (3 : Int)], [(2 : Int), (0 : Int)], [(2 : Int), (1 : Int)], [(2 : Int), (2 : Int)], [(2 : Int), (3 : Int)], [(3 : Int), (0 : Int)], [(3 : Int), (1 : Int)], [(3 : Int), (2 : Int)], [(3 : Int), (3 : Int)]]))], []⟩) := by kernel_rfl
def impl_cells_ent (F : Nat) : Ent := ⟨[], .fresh, fun args mem => match args, mem with
  | [], [] => some (true, ⟨(.sl 0 0 16), [(.vec 49 (.rr 2 [[(0 : Int), (0 : Int)], [(0 : Int), (1 : Int)], [(0 : Int), (2 : Int)], [(0 : Int), (3 : Int)], [(1 : Int), (0 : Int)], [(1 : Int), (1 : Int)], [(1 : Int), (2 : Int)], [(1 : Int), (3 : Int)], [(2 : Int), (0 : Int)], [(2 : Int), (1 : Int)], [(2 : Int), (2 : Int)], [(2 : Int), (3 : Int)], [(3 : Int), (0 : Int)], [(3 : Int), (1 : Int)], [(3 : Int), (2 : Int)], [(3 : Int), (3 : Int)]]))], []⟩)
  | _, _ => none⟩
theorem impl_cells_fok : FunOK Try.prog 46 := funOK Try.func46 (by kernel_rfl) rfl
theorem impl_cells_meets (F : Nat) : Meets Try.prog 46 (impl_cells_ent F) := by
  refine meets_of_runS mixed ttok deep (impl_cells_tabok F) Try.func46 (body_some rfl) (impl_cells_lsok0 F) fun args mem hfit ret h => ?_
  clear hfit
  simp only [impl_cells_ent] at h
  split at h
  · simp only [Option.some.injEq, Prod.mk.injEq] at h
    obtain ⟨hc, rfl⟩ := h
    exact ⟨[], [], 70, _, (impl_cells_run F).trans (impl_cells_cv _ _), rfl, rfl, rfl⟩
  · cases h

/-! (*loop.example/g01194/impl.Board).at -/
noncomputable def impl_Board_at_tab (F : Nat) : Tab := []
theorem impl_Board_at_tabok (F : Nat) : TabOK Try.prog (impl_Board_at_tab F) := tab_nil
noncomputable def impl_Board_at_LS0 (F : Nat) : LT := []
theorem impl_Board_at_lsok0 (F : Nat) : LoopsOK Try.prog (impl_Board_at_LS0 F) (bodyOf Try.f47) := loopsOK_nil
theorem impl_Board_at_run (F : Nat) (cell3 : List Int) (b4 : List Int) : runS tt (impl_Board_at_tab F) (impl_Board_at_LS0 F) [] [] Try.f47 (bodyOf Try.f47) 70 [(.ptr 0 0 0 16), (.ints 2 cell3)] [(.var 16 (.ri .i64 b4))] = impl_Board_at_c _ cell3 b4 (fun r => some ⟨(.ptr 0 0 r 1), [(.var 16 (.ri .i64 b4))], []⟩) := by kernel_rfl
def impl_Board_at_ent (F : Nat) : Ent := ⟨[], .quiet, fun args mem => match args, mem with
  | [(.ptr 0 0 0 16), (.ints 2 cell3)], [(.var 16 (.ri .i64 b4))] => some ((impl_Board_at_p cell3 b4).isSome, ⟨(.ptr 0 0 ((impl_Board_at_p cell3 b4).getD default) 1), [], []⟩)
  | _, _ => none⟩
theorem impl_Board_at_fok : FunOK Try.prog 47 := funOK Try.func47 (by kernel_rfl) rfl
theorem impl_Board_at_meets (F : Nat) : Meets Try.prog 47 (impl_Board_at_ent F) := by
  refine meets_of_runS mixed ttok deep (impl_Board_at_tabok F) Try.func47 (body_some rfl) (impl_Board_at_lsok0 F) fun args mem hfit ret h => ?_
  clear hfit
  simp only [impl_Board_at_ent] at h
  split at h
  · rename_i cell3 b4
    simp only [Option.some.injEq, Prod.mk.injEq] at h
    obtain ⟨hc, rfl⟩ := h
    exact ⟨[], [], 70, _, (impl_Board_at_run F cell3 b4).trans ((impl_Board_at_cp _ cell3 b4 _).trans (bind_use hc _)), rfl, rfl, rfl⟩
  · cases h

/-! loop.example/g01194/impl.worth -/
noncomputable def impl_worth_tab (F : Nat) : Tab := []
theorem impl_worth_tabok (F : Nat) : TabOK Try.prog (impl_worth_tab F) := tab_nil
noncomputable def impl_worth_LS0 (F : Nat) : LT := []
theorem impl_worth_lsok0 (F : Nat) : LoopsOK Try.prog (impl_worth_LS0 F) (bodyOf Try.f60) := loopsOK_nil
theorem impl_worth_run (F : Nat) (t0 : Int) : runS tt (impl_worth_tab F) (impl_worth_LS0 F) [] [] Try.f60 (bodyOf Try.f60) 70 [(.int .i64 t0)] [] = impl_worth_c _ t0 (fun r => some ⟨(.int .i64 r), [], []⟩) := by kernel_rfl
def impl_worth_ent (F : Nat) : Ent := ⟨[], .quiet, fun args mem => match args, mem with
  | [(.int .i64 t0)], [] => some ((impl_worth_p t0).isSome, ⟨(.int .i64 ((impl_worth_p t0).getD default)), [], []⟩)
  | _, _ => none⟩
theorem impl_worth_fok : FunOK Try.prog 60 := funOK Try.func60 (by kernel_rfl) rfl
theorem impl_worth_meets (F : Nat) : Meets Try.prog 60 (impl_worth_ent F) := by
  refine meets_of_runS mixed ttok deep (impl_worth_tabok F) Try.func60 (body_some rfl) (impl_worth_lsok0 F) fun args mem hfit ret h => ?_
  clear hfit
  simp only [impl_worth_ent] at h
  split at h
  · rename_i t0
    simp only [Option.some.injEq, Prod.mk.injEq] at h
    obtain ⟨hc, rfl⟩ := h
    exact ⟨[], [], 70, _, (impl_worth_run F t0).trans ((impl_worth_cp _ t0 _).trans (bind_use hc _)), rfl, rfl, rfl⟩
  · cases h

/-! (loop.example/g01194/impl.Board).sum -/
noncomputable def impl_Board_sum_tab (F : Nat) : Tab := [(46, (impl_cells_ent F)), (47, (impl_Board_at_ent F)), (60, (impl_worth_ent F))]
theorem impl_Board_sum_tabok (F : Nat) : TabOK Try.prog (impl_Board_sum_tab F) := (tab_cons (impl_cells_meets F) impl_cells_fok (tab_cons (impl_Board_at_meets F) impl_Board_at_fok (tab_cons (impl_worth_meets F) impl_worth_fok tab_nil)))
noncomputable def impl_Board_sum_LS0 (F : Nat) : LT := []
theorem impl_Board_sum_lsok0 (F : Nat) : LoopsOK Try.prog (impl_Board_sum_LS0 F) (bodyOf Try.f40) := loopsOK_nil
theorem impl_Board_sum_run (F : Nat) (b0 : List Int) : runS tt (impl_Board_sum_tab F) (impl_Board_sum_LS0 F) [] [] Try.f40 (bodyOf Try.f40) 70 [(.ints 16 b0)] [] = impl_Board_sum_c _ b0 (fun r => some ⟨(.int .i64 r), [], []⟩) := by kernel_rfl
def impl_Board_sum_ent (F : Nat) : Ent := ⟨[], .quiet, fun args mem => match args, mem with
  | [(.ints 16 b0)], [] => some ((impl_Board_sum_p b0).isSome, ⟨(.int .i64 ((impl_Board_sum_p b0).getD default)), [], []⟩)
  | _, _ => none⟩
theorem impl_Board_sum_fok : FunOK Try.prog 40 := funOK Try.func40 (by kernel_rfl) rfl
theorem impl_Board_sum_meets (F : Nat) : Meets Try.prog 40 (impl_Board_sum_ent F) := by
  refine meets_of_runS mixed ttok deep (impl_Board_sum_tabok F) Try.func40 (body_some rfl) (impl_Board_sum_lsok0 F) fun args mem hfit ret h => ?_
  clear hfit
  simp only [impl_Board_sum_ent] at h
  split at h
  · rename_i b0
    simp only [Option.some.injEq, Prod.mk.injEq] at h
    obtain ⟨hc, rfl⟩ := h
    exact ⟨[], [], 70, _, (impl_Board_sum_run F b0).trans ((impl_Board_sum_cp _ b0 _).trans (bind_use hc _)), rfl, rfl, rfl⟩
  · cases h

/-! loop.example/g01194/impl.lineCell -/
noncomputable def impl_lineCell_tab (F : Nat) : Tab := []
theorem impl_lineCell_tabok (F : Nat) : TabOK Try.prog (impl_lineCell_tab F) := tab_nil
noncomputable def impl_lineCell_LS0 (F : Nat) : LT := []
theorem impl_lineCell_lsok0 (F : Nat) : LoopsOK Try.prog (impl_lineCell_LS0 F) (bodyOf Try.f76) := loopsOK_nil
theorem impl_lineCell_run (F : Nat) (direction0 : Int) (i1 : Int) (k2 : Int) : runS tt (impl_lineCell_tab F) (impl_lineCell_LS0 F) [] [] Try.f76 (bodyOf Try.f76) 70 [(.int .i64 direction0), (.int .i64 i1), (.int .i64 k2)] [] = impl_lineCell_c _ direction0 i1 k2 (fun r => some ⟨(.ints 2 r), [], []⟩) := by kernel_rfl
def impl_lineCell_ent (F : Nat) : Ent := ⟨[], .quiet, fun args mem => match args, mem with
  | [(.int .i64 direction0), (.int .i64 i1), (.int .i64 k2)], [] => some (true, ⟨(.ints 2 (impl_lineCell_v direction0 i1 k2)), [], []⟩)
  | _, _ => none⟩
theorem impl_lineCell_fok : FunOK Try.prog 76 := funOK Try.func76 (by kernel_rfl) rfl
theorem impl_lineCell_meets (F : Nat) : Meets Try.prog 76 (impl_lineCell_ent F) := by
  refine meets_of_runS mixed ttok deep (impl_lineCell_tabok F) Try.func76 (body_some rfl) (impl_lineCell_lsok0 F) fun args mem hfit ret h => ?_
  clear hfit
  simp only [impl_lineCell_ent] at h
  split at h
  · rename_i direction0 i1 k2
    simp only [Option.some.injEq, Prod.mk.injEq] at h
    obtain ⟨hc, rfl⟩ := h
    exact ⟨[], [], 70, _, (impl_lineCell_run F direction0 i1 k2).trans (impl_lineCell_cv _ direction0 i1 k2 _), rfl, rfl, rfl⟩
  · cases h

/-! (loop.example/g01194/impl.Board).line -/
noncomputable def impl_Board_line_tab (F : Nat) : Tab := [(76, (impl_lineCell_ent F)), (47, (impl_Board_at_ent F))]
theorem impl_Board_line_tabok (F : Nat) : TabOK Try.prog (impl_Board_line_tab F) := (tab_cons (impl_lineCell_meets F) impl_lineCell_fok (tab_cons (impl_Board_at_meets F) impl_Board_at_fok tab_nil))
noncomputable def impl_Board_line_LS0 (F : Nat) : LT := []
theorem impl_Board_line_lsok0 (F : Nat) : LoopsOK Try.prog (impl_Board_line_LS0 F) (bodyOf Try.f70) := loopsOK_nil
theorem impl_Board_line_run (F : Nat) (b0 : List Int) (direction1 : Int) (i2 : Int) : runS tt (impl_Board_line_tab F) (impl_Board_line_LS0 F) [] [] Try.f70 (bodyOf Try.f70) 70 [(.ints 16 b0), (.int .i64 direction1), (.int .i64 i2)] [] = impl_Board_line_c _ b0 direction1 i2 (fun r => some ⟨(.ints 4 r), [], []⟩) := by kernel_rfl
def impl_Board_line_ent (F : Nat) : Ent := ⟨[], .quiet, fun args mem => match args, mem with
  | [(.ints 16 b0), (.int .i64 direction1), (.int .i64 i2)], [] => some ((impl_Board_line_p b0 direction1 i2).isSome, ⟨(.ints 4 ((impl_Board_line_p b0 direction1 i2).getD default)), [], []⟩)
  | _, _ => none⟩
theorem impl_Board_line_fok : FunOK Try.prog 70 := funOK Try.func70 (by kernel_rfl) rfl
theorem impl_Board_line_meets (F : Nat) : Meets Try.prog 70 (impl_Board_line_ent F) := by
  refine meets_of_runS mixed ttok deep (impl_Board_line_tabok F) Try.func70 (body_some rfl) (impl_Board_line_lsok0 F) fun args mem hfit ret h => ?_
  clear hfit
  simp only [impl_Board_line_ent] at h
  split at h
  · rename_i b0 direction1 i2
    simp only [Option.some.injEq, Prod.mk.injEq] at h
    obtain ⟨hc, rfl⟩ := h
    exact ⟨[], [], 70, _, (impl_Board_line_run F b0 direction1 i2).trans ((impl_Board_line_cp _ b0 direction1 i2 _).trans (bind_use hc _)), rfl, rfl, rfl⟩
  · cases h

/-! slices.Clone[[]int,int] -/
def slices_Clone_intint_ent (F : Nat) : Ent := ⟨[], .fresh, fun args mem => match args, mem with
  | [(.ri .i64 xs)], [] => some (fits xs.length 8, ⟨.sl 0 0 xs.length, [.vec 3 (.ri .i64 xs)], []⟩)
  | _, _ => none⟩
theorem slices_Clone_intint_fok : FunOK Try.prog 30 := funOK Try.func30 (by kernel_rfl) rfl
theorem slices_Clone_intint_meets (F : Nat) : Meets Try.prog 30 (slices_Clone_intint_ent F) := by
  have hb : Try.f30.body = some (.seq _ (.seq (.seq (.region _ #[_, _] false) _) _)) := rfl
  refine meets_nil (fuel := 70) (fn := Try.f30) mixed ttok deep tab_nil Try.func30 hb loopsOK_nil rfl rfl rfl rfl rfl rfl Try.underlying33 fun args mem hfit ret hg => ?_
  clear hfit
  simp only [slices_Clone_intint_ent] at hg
  split at hg
  · rename_i xs
    simp only [Option.some.injEq, Prod.mk.injEq] at hg
    obtain ⟨hc, rfl⟩ := hg
    refine ⟨⟨[(.ri .i64 xs), .undef, .z0, .undef, .undef, .undef, .undef, .undef], [], 0, []⟩, fun R k => by kernel_rfl, rfl, Nat.le_of_ble_eq_true rfl, fun b hb => ?_⟩
    cases b with
    | true =>
      obtain rfl : xs = [] := List.eq_nil_of_length_eq_zero (hb rfl)
      exact ⟨[⟨2, 3, (.ri .i64 [])⟩], [], _, (by kernel_rfl : _ = some ⟨.sl 0 0 0, [.vec 3 (.ri .i64 [])], []⟩), rfl, rfl, rfl⟩
    | false =>
      refine ⟨[], [], ⟨.sl 0 0 xs.length, [.vec 3 (.ri .i64 xs)], []⟩, Eq.trans (by kernel_rfl : _ = bif fits xs.length 8 then some (⟨.sl 0 0 xs.length, [.vec 3 (.ri .i64 xs)], []⟩ : Ret) else none) ?_, rfl, rfl, rfl⟩
      rw [hc]; rfl
  · cases hg

/-! loop.example/g01194/impl.tiles$1 -/
noncomputable def impl_tiles_f1_tab (F : Nat) : Tab := []
theorem impl_tiles_f1_tabok (F : Nat) : TabOK Try.prog (impl_tiles_f1_tab F) := tab_nil
noncomputable def impl_tiles_f1_LS0 (F : Nat) : LT := []
theorem impl_tiles_f1_lsok0 (F : Nat) : LoopsOK Try.prog (impl_tiles_f1_LS0 F) (bodyOf Try.f79) := loopsOK_nil
theorem impl_tiles_f1_run (F : Nat) (n0 : Int) : runS tt (impl_tiles_f1_tab F) (impl_tiles_f1_LS0 F) [] [] Try.f79 (bodyOf Try.f79) 70 [(.int .i64 n0)] [] = impl_tiles_f1_c _ n0 (fun r => some ⟨(.bool r), [], []⟩) := by kernel_rfl
def impl_tiles_f1_ent (F : Nat) : Ent := ⟨[], .quiet, fun args mem => match args, mem with
  | [(.int .i64 n0)], [] => some (true, ⟨(.bool (impl_tiles_f1_v n0)), [], []⟩)
  | _, _ => none⟩
theorem impl_tiles_f1_fok : FunOK Try.prog 79 := funOK Try.func79 (by kernel_rfl) rfl
theorem impl_tiles_f1_meets (F : Nat) : Meets Try.prog 79 (impl_tiles_f1_ent F) := by
  refine meets_of_runS mixed ttok deep (impl_tiles_f1_tabok F) Try.func79 (body_some rfl) (impl_tiles_f1_lsok0 F) fun args mem hfit ret h => ?_
  clear hfit
  simp only [impl_tiles_f1_ent] at h
  split at h
  · rename_i n0
    simp only [Option.some.injEq, Prod.mk.injEq] at h
    obtain ⟨hc, rfl⟩ := h
    exact ⟨[], [], 70, _, (impl_tiles_f1_run F n0).trans (impl_tiles_f1_cv _ n0 _), rfl, rfl, rfl⟩
  · cases h

/-! slices.IndexFunc[[]int,int] -/
noncomputable def slices_IndexFunc_intint_impl_tiles_f1_tab (F : Nat) : Tab := [(79, (impl_tiles_f1_ent F))]
theorem slices_IndexFunc_intint_impl_tiles_f1_tabok (F : Nat) : TabOK Try.prog (slices_IndexFunc_intint_impl_tiles_f1_tab F) := (tab_cons (impl_tiles_f1_meets F) impl_tiles_f1_fok tab_nil)
noncomputable def slices_IndexFunc_intint_impl_tiles_f1_LS0 (F : Nat) : LT := []
theorem slices_IndexFunc_intint_impl_tiles_f1_lsok0 (F : Nat) : LoopsOK Try.prog (slices_IndexFunc_intint_impl_tiles_f1_LS0 F) (bodyOf Try.f72) := loopsOK_nil
theorem slices_IndexFunc_intint_impl_tiles_f1_keys : keysOK (bodyOf Try.f72) = true := by kernel_rfl
def slices_IndexFunc_intint_impl_tiles_f1_st2 (s0 : List Int) (t71 : Int) (t82 : Int) : St := ⟨expand 19 0 [0, 1, 7, 8] [(.ri .i64 s0), (.fn 79 [] []), (.int .i64 t71), (.int .i64 t82)], [], 0, []⟩
def slices_IndexFunc_intint_impl_tiles_f1_o2 (s0 : List Int) (t71 : Int) (x : Bool × Int) : GT := (.br x.1 (.out (.ret ⟨expand 19 0 [4] [(.int .i64 x.2)], [], 0, []⟩)) (.out (.exit 0 ⟨expand 19 0 [] [], [], 0, []⟩)))
def slices_IndexFunc_intint_impl_tiles_f1_ls2 (F : Nat) : LoopS := ⟨19, [0, 1, 7, 8], [], [], [], [4], [], [], fun vals mem np killed => match vals, mem, np, killed with
  | [(.ri .i64 s0), (.fn 79 [] []), (.int .i64 t71), (.int .i64 t82)], [], 0, [] => .br (slices_IndexFunc_intint_impl_tiles_f1_l2 F s0 t71 t82).isSome (slices_IndexFunc_intint_impl_tiles_f1_o2 s0 t71 ((slices_IndexFunc_intint_impl_tiles_f1_l2 F s0 t71 t82).getD default)) .fail
  | _, _, _, _ => .fail⟩
theorem slices_IndexFunc_intint_impl_tiles_f1_step2 (F : Nat) (s0 : List Int) (t71 : Int) (t82 : Int) {R : Type} (k : Out → Option R) : stepS tt (slices_IndexFunc_intint_impl_tiles_f1_tab F) (slices_IndexFunc_intint_impl_tiles_f1_LS0 F) 70 (slices_IndexFunc_intint_impl_tiles_f1_ls2 F) (loopAt 2 (bodyOf Try.f72)) (slices_IndexFunc_intint_impl_tiles_f1_st2 s0 t71 t82) k = slices_IndexFunc_intint_impl_tiles_f1_s2 F s0 t71 R t82 (fun s => k (.norm (slices_IndexFunc_intint_impl_tiles_f1_st2 s0 t71 s))) (fun x => (slices_IndexFunc_intint_impl_tiles_f1_o2 s0 t71 x).run k) := by kernel_rfl
theorem slices_IndexFunc_intint_impl_tiles_f1_iter2 (F : Nat) (s0 : List Int) (t71 : Int) {R : Type} (k : Out → Option R) : ∀ (n : Nat) (t82 : Int), iterS tt (slices_IndexFunc_intint_impl_tiles_f1_tab F) (slices_IndexFunc_intint_impl_tiles_f1_LS0 F) 70 (slices_IndexFunc_intint_impl_tiles_f1_ls2 F) (loopAt 2 (bodyOf Try.f72)) n (slices_IndexFunc_intint_impl_tiles_f1_st2 s0 t71 t82) k = loopC (slices_IndexFunc_intint_impl_tiles_f1_s2 F s0 t71) n t82 (fun x => (slices_IndexFunc_intint_impl_tiles_f1_o2 s0 t71 x).run k)
  | 0, t82 => rfl
  | n + 1, t82 => (iterS_succ tt (slices_IndexFunc_intint_impl_tiles_f1_tab F) (slices_IndexFunc_intint_impl_tiles_f1_LS0 F) 70 (slices_IndexFunc_intint_impl_tiles_f1_ls2 F) (loopAt 2 (bodyOf Try.f72)) n (slices_IndexFunc_intint_impl_tiles_f1_st2 s0 t71 t82) k).trans ((slices_IndexFunc_intint_impl_tiles_f1_step2 F s0 t71 t82 (nextK (iterS tt (slices_IndexFunc_intint_impl_tiles_f1_tab F) (slices_IndexFunc_intint_impl_tiles_f1_LS0 F) 70 (slices_IndexFunc_intint_impl_tiles_f1_ls2 F) (loopAt 2 (bodyOf Try.f72)) n) k)).trans (congrArg (fun kn => slices_IndexFunc_intint_impl_tiles_f1_s2 F s0 t71 R t82 kn _) (funext (fun t82 => slices_IndexFunc_intint_impl_tiles_f1_iter2 F s0 t71 k n t82))))
theorem slices_IndexFunc_intint_impl_tiles_f1_lok2 (F : Nat) : LoopOK Try.prog (loopAt 2 (bodyOf Try.f72)) (slices_IndexFunc_intint_impl_tiles_f1_ls2 F) := by
  refine loopOK_of mixed ttok deep (slices_IndexFunc_intint_impl_tiles_f1_tabok F) (loopsOK_at (slices_IndexFunc_intint_impl_tiles_f1_lsok0 F) 2) (fuel := 70) fun R vals mem np killed k x h => ?_
  simp only [slices_IndexFunc_intint_impl_tiles_f1_ls2] at h
  split at h
  · rename_i s0 t71 t82
    simp only [GT.run] at h
    have hc := (cond_noneL h).1
    replace h := (cond_noneL h).2
    refine ⟨F, (slices_IndexFunc_intint_impl_tiles_f1_iter2 F s0 t71 k F t82).trans ((loopC_use (slices_IndexFunc_intint_impl_tiles_f1_s2_nat F s0 t71) hc _).trans h)⟩
  · simp only [GT.run] at h
    cases h
noncomputable def slices_IndexFunc_intint_impl_tiles_f1_LS1 (F : Nat) : LT := (2, slices_IndexFunc_intint_impl_tiles_f1_ls2 F) :: slices_IndexFunc_intint_impl_tiles_f1_LS0 F
theorem slices_IndexFunc_intint_impl_tiles_f1_lsok1 (F : Nat) : LoopsOK Try.prog (slices_IndexFunc_intint_impl_tiles_f1_LS1 F) (bodyOf Try.f72) := loopsOK_cons slices_IndexFunc_intint_impl_tiles_f1_keys (slices_IndexFunc_intint_impl_tiles_f1_lok2 F) (slices_IndexFunc_intint_impl_tiles_f1_lsok0 F)
theorem slices_IndexFunc_intint_impl_tiles_f1_run (F : Nat) (s0 : List Int) : runS tt (slices_IndexFunc_intint_impl_tiles_f1_tab F) (slices_IndexFunc_intint_impl_tiles_f1_LS1 F) [] [] Try.f72 (bodyOf Try.f72) 70 [(.ri .i64 s0), (.fn 79 [] [])] [] = slices_IndexFunc_intint_impl_tiles_f1_c _ F s0 (fun r => some ⟨(.int .i64 r), [], []⟩) := by kernel_rfl
def slices_IndexFunc_intint_impl_tiles_f1_ent (F : Nat) : Ent := ⟨[], .quiet, fun args mem => match args, mem with
  | [(.ri .i64 s0), (.fn 79 [] [])], [] => some ((slices_IndexFunc_intint_impl_tiles_f1_p F s0).isSome, ⟨(.int .i64 ((slices_IndexFunc_intint_impl_tiles_f1_p F s0).getD default)), [], []⟩)
  | _, _ => none⟩
theorem slices_IndexFunc_intint_impl_tiles_f1_fok : FunOK Try.prog 72 := funOK Try.func72 (by kernel_rfl) rfl
theorem slices_IndexFunc_intint_impl_tiles_f1_meets (F : Nat) : Meets Try.prog 72 (slices_IndexFunc_intint_impl_tiles_f1_ent F) := by
  refine meets_of_runS mixed ttok deep (slices_IndexFunc_intint_impl_tiles_f1_tabok F) Try.func72 (body_some rfl) (slices_IndexFunc_intint_impl_tiles_f1_lsok1 F) fun args mem hfit ret h => ?_
  clear hfit
  simp only [slices_IndexFunc_intint_impl_tiles_f1_ent] at h
  split at h
  · rename_i s0
    simp only [Option.some.injEq, Prod.mk.injEq] at h
    obtain ⟨hc, rfl⟩ := h
    exact ⟨[], [], 70, _, (slices_IndexFunc_intint_impl_tiles_f1_run F s0).trans ((slices_IndexFunc_intint_impl_tiles_f1_cp _ F s0 _).trans (bind_use hc _)), rfl, rfl, rfl⟩
  · cases h

/-! slices.DeleteFunc[[]int,int] -/
noncomputable def slices_DeleteFunc_intint_impl_tiles_f1_tab (F : Nat) : Tab := [(72, (slices_IndexFunc_intint_impl_tiles_f1_ent F)), (79, (impl_tiles_f1_ent F))]
theorem slices_DeleteFunc_intint_impl_tiles_f1_tabok (F : Nat) : TabOK Try.prog (slices_DeleteFunc_intint_impl_tiles_f1_tab F) := (tab_cons (slices_IndexFunc_intint_impl_tiles_f1_meets F) slices_IndexFunc_intint_impl_tiles_f1_fok (tab_cons (impl_tiles_f1_meets F) impl_tiles_f1_fok tab_nil))
noncomputable def slices_DeleteFunc_intint_impl_tiles_f1_LS0 (F : Nat) : LT := []
theorem slices_DeleteFunc_intint_impl_tiles_f1_lsok0 (F : Nat) : LoopsOK Try.prog (slices_DeleteFunc_intint_impl_tiles_f1_LS0 F) (bodyOf Try.f78) := loopsOK_nil
theorem slices_DeleteFunc_intint_impl_tiles_f1_keys : keysOK (bodyOf Try.f78) = true := by kernel_rfl
def slices_DeleteFunc_intint_impl_tiles_f1_st5 (s1 : Nat) (i2 : Int) (j3 : Int) (s4 : List Int) : St := ⟨expand 42 0 [0, 1, 5, 6] [(.sl 0 0 s1), (.fn 79 [] []), (.int .i64 i2), (.int .i64 j3)], [(.vec 3 (.ri .i64 s4))], 1, []⟩
def slices_DeleteFunc_intint_impl_tiles_f1_o5 (s1 : Nat) (x : Int × List Int) : GT := (.out (.exit 0 ⟨expand 42 0 [0, 5] [(.sl 0 0 s1), (.int .i64 x.1)], [(.vec 3 (.ri .i64 x.2))], 1, []⟩))
def slices_DeleteFunc_intint_impl_tiles_f1_ls5 (F : Nat) : LoopS := ⟨42, [0, 1, 5, 6], [], [0, 5], [], [4], [], [], fun vals mem np killed => match vals, mem, np, killed with
  | [(.sl 0 0 s1), (.fn 79 [] []), (.int .i64 i2), (.int .i64 j3)], [(.vec 3 (.ri .i64 s4))], 1, [] => .br (slices_DeleteFunc_intint_impl_tiles_f1_l5 F s1 i2 j3 s4).isSome (slices_DeleteFunc_intint_impl_tiles_f1_o5 s1 ((slices_DeleteFunc_intint_impl_tiles_f1_l5 F s1 i2 j3 s4).getD default)) .fail
  | _, _, _, _ => .fail⟩
theorem slices_DeleteFunc_intint_impl_tiles_f1_step5 (F : Nat) (s1 : Nat) (i2 : Int) (j3 : Int) (s4 : List Int) {R : Type} (k : Out → Option R) : stepS tt (slices_DeleteFunc_intint_impl_tiles_f1_tab F) (slices_DeleteFunc_intint_impl_tiles_f1_LS0 F) 70 (slices_DeleteFunc_intint_impl_tiles_f1_ls5 F) (loopAt 5 (bodyOf Try.f78)) (slices_DeleteFunc_intint_impl_tiles_f1_st5 s1 i2 j3 s4) k = slices_DeleteFunc_intint_impl_tiles_f1_s5 F s1 R (i2, j3, s4) (fun s => k (.norm (slices_DeleteFunc_intint_impl_tiles_f1_st5 s1 s.1 s.2.1 s.2.2))) (fun x => (slices_DeleteFunc_intint_impl_tiles_f1_o5 s1 x).run k) := by kernel_rfl
theorem slices_DeleteFunc_intint_impl_tiles_f1_iter5 (F : Nat) (s1 : Nat) {R : Type} (k : Out → Option R) : ∀ (n : Nat) (i2 : Int) (j3 : Int) (s4 : List Int), iterS tt (slices_DeleteFunc_intint_impl_tiles_f1_tab F) (slices_DeleteFunc_intint_impl_tiles_f1_LS0 F) 70 (slices_DeleteFunc_intint_impl_tiles_f1_ls5 F) (loopAt 5 (bodyOf Try.f78)) n (slices_DeleteFunc_intint_impl_tiles_f1_st5 s1 i2 j3 s4) k = loopC (slices_DeleteFunc_intint_impl_tiles_f1_s5 F s1) n (i2, j3, s4) (fun x => (slices_DeleteFunc_intint_impl_tiles_f1_o5 s1 x).run k)
  | 0, i2, j3, s4 => rfl
  | n + 1, i2, j3, s4 => (iterS_succ tt (slices_DeleteFunc_intint_impl_tiles_f1_tab F) (slices_DeleteFunc_intint_impl_tiles_f1_LS0 F) 70 (slices_DeleteFunc_intint_impl_tiles_f1_ls5 F) (loopAt 5 (bodyOf Try.f78)) n (slices_DeleteFunc_intint_impl_tiles_f1_st5 s1 i2 j3 s4) k).trans ((slices_DeleteFunc_intint_impl_tiles_f1_step5 F s1 i2 j3 s4 (nextK (iterS tt (slices_DeleteFunc_intint_impl_tiles_f1_tab F) (slices_DeleteFunc_intint_impl_tiles_f1_LS0 F) 70 (slices_DeleteFunc_intint_impl_tiles_f1_ls5 F) (loopAt 5 (bodyOf Try.f78)) n) k)).trans (congrArg (fun kn => slices_DeleteFunc_intint_impl_tiles_f1_s5 F s1 R (i2, j3, s4) kn _) (funext (fun ⟨i2, j3, s4⟩ => slices_DeleteFunc_intint_impl_tiles_f1_iter5 F s1 k n i2 j3 s4))))
theorem slices_DeleteFunc_intint_impl_tiles_f1_lok5 (F : Nat) : LoopOK Try.prog (loopAt 5 (bodyOf Try.f78)) (slices_DeleteFunc_intint_impl_tiles_f1_ls5 F) := by
  refine loopOK_of mixed ttok deep (slices_DeleteFunc_intint_impl_tiles_f1_tabok F) (loopsOK_at (slices_DeleteFunc_intint_impl_tiles_f1_lsok0 F) 5) (fuel := 70) fun R vals mem np killed k x h => ?_
  simp only [slices_DeleteFunc_intint_impl_tiles_f1_ls5] at h
  split at h
  · rename_i s1 i2 j3 s4
    simp only [GT.run] at h
    have hc := (cond_noneL h).1
    replace h := (cond_noneL h).2
    refine ⟨F, (slices_DeleteFunc_intint_impl_tiles_f1_iter5 F s1 k F i2 j3 s4).trans ((loopC_use (slices_DeleteFunc_intint_impl_tiles_f1_s5_nat F s1) hc _).trans h)⟩
  · simp only [GT.run] at h
    cases h
noncomputable def slices_DeleteFunc_intint_impl_tiles_f1_LS1 (F : Nat) : LT := (5, slices_DeleteFunc_intint_impl_tiles_f1_ls5 F) :: slices_DeleteFunc_intint_impl_tiles_f1_LS0 F
theorem slices_DeleteFunc_intint_impl_tiles_f1_lsok1 (F : Nat) : LoopsOK Try.prog (slices_DeleteFunc_intint_impl_tiles_f1_LS1 F) (bodyOf Try.f78) := loopsOK_cons slices_DeleteFunc_intint_impl_tiles_f1_keys (slices_DeleteFunc_intint_impl_tiles_f1_lok5 F) (slices_DeleteFunc_intint_impl_tiles_f1_lsok0 F)
theorem slices_DeleteFunc_intint_impl_tiles_f1_run (F : Nat) (s2 : List Int) : runS tt (slices_DeleteFunc_intint_impl_tiles_f1_tab F) (slices_DeleteFunc_intint_impl_tiles_f1_LS1 F) [] [] Try.f78 (bodyOf Try.f78) 70 [(.sl 0 0 (List.length s2)), (.fn 79 [] [])] [(.vec 3 (.ri .i64 s2))] = slices_DeleteFunc_intint_impl_tiles_f1_c _ F s2 (fun r => some ⟨(.sl 0 0 r.1), [(.vec 3 (.ri .i64 r.2))], []⟩) := by kernel_rfl
def slices_DeleteFunc_intint_impl_tiles_f1_ent (F : Nat) : Ent := ⟨[true], .loud, fun args mem => match args, mem with
  | [(.sl 0 0 q_s1), (.fn 79 [] [])], [(.vec 3 (.ri .i64 s2))] => some (((Nat.beq q_s1 (List.length s2)) && (slices_DeleteFunc_intint_impl_tiles_f1_p F s2).isSome), ⟨(.sl 0 0 ((slices_DeleteFunc_intint_impl_tiles_f1_p F s2).getD default).1), [(.vec 3 (.ri .i64 ((slices_DeleteFunc_intint_impl_tiles_f1_p F s2).getD default).2))], []⟩)
  | _, _ => none⟩
theorem slices_DeleteFunc_intint_impl_tiles_f1_fok : FunOK Try.prog 78 := funOK Try.func78 (by kernel_rfl) rfl
theorem slices_DeleteFunc_intint_impl_tiles_f1_meets (F : Nat) : Meets Try.prog 78 (slices_DeleteFunc_intint_impl_tiles_f1_ent F) := by
  refine meets_of_runS mixed ttok deep (slices_DeleteFunc_intint_impl_tiles_f1_tabok F) Try.func78 (body_some rfl) (slices_DeleteFunc_intint_impl_tiles_f1_lsok1 F) fun args mem hfit ret h => ?_
  clear hfit
  simp only [slices_DeleteFunc_intint_impl_tiles_f1_ent] at h
  split at h
  · rename_i q_s1 s2
    simp only [Option.some.injEq, Prod.mk.injEq] at h
    obtain ⟨hc, rfl⟩ := h
    have hg := (and_split hc).1
    replace hc := (and_split hc).2
    obtain rfl := nbeq_nat hg
    exact ⟨[], [], 70, _, (slices_DeleteFunc_intint_impl_tiles_f1_run F s2).trans ((slices_DeleteFunc_intint_impl_tiles_f1_cp _ F s2 _).trans (bind_use hc _)), rfl, rfl, rfl⟩
  · cases h
end Go.Proofs.Ytkclnchkemacgaa
