/-
Pure functions and what the code of them does, by program; without conditions.
-/
import Derived.Test.YtloemkielkdegaaTIP0
import Derived.Test.YtloemkielkdegaaTIA
namespace Go.Proofs.Ytloemkielkdegaa
open Go Go.Lv Go.Lv.P Go.Proofs
set_option linter.unusedVariables false
set_option linter.unusedSimpArgs false
set_option maxRecDepth 100000
/-! loop.example/g01194/laws.toIntA4 -/
noncomputable def laws_toIntA4_tab (F : Nat) : Tab := []
theorem laws_toIntA4_tabok (F : Nat) : TabOK Try.prog (laws_toIntA4_tab F) := tab_nil
noncomputable def laws_toIntA4_LS0 (F : Nat) : LT := []
theorem laws_toIntA4_lsok0 (F : Nat) : LoopsOK Try.prog (laws_toIntA4_LS0 F) (bodyOf Try.f41) := loopsOK_nil
theorem laws_toIntA4_run (F : Nat) (a0 : List Int) : runS tt (laws_toIntA4_tab F) (laws_toIntA4_LS0 F) [] [] Try.f41 (bodyOf Try.f41) 70 [(.ints 4 a0)] [] = laws_toIntA4_c _ a0 (fun r => some ⟨(.ints 4 r), [], []⟩) := by kernel_rfl
def laws_toIntA4_ent (F : Nat) : Ent := ⟨[], .quiet, fun args mem => match args, mem with
  | [(.ints 4 a0)], [] => some (true, ⟨(.ints 4 (laws_toIntA4_v a0)), [], []⟩)
  | _, _ => none⟩
theorem laws_toIntA4_fok : FunOK Try.prog 41 := funOK Try.func41 (by kernel_rfl) rfl
theorem laws_toIntA4_meets (F : Nat) : Meets Try.prog 41 (laws_toIntA4_ent F) := by
  refine meets_of_runS mixed ttok deep (laws_toIntA4_tabok F) Try.func41 (body_some rfl) (laws_toIntA4_lsok0 F) fun args mem hfit ret h => ?_
  clear hfit
  simp only [laws_toIntA4_ent] at h
  split at h
  · rename_i a0
    simp only [Option.some.injEq, Prod.mk.injEq] at h
    obtain ⟨hc, rfl⟩ := h
    exact ⟨[], [], 70, _, (laws_toIntA4_run F a0).trans (laws_toIntA4_cv _ a0 _), rfl, rfl, rfl⟩
  · cases h

/-! loop.example/g01194/laws.toIntA4A4 -/
noncomputable def laws_toIntA4A4_tab (F : Nat) : Tab := [(41, (laws_toIntA4_ent F))]
theorem laws_toIntA4A4_tabok (F : Nat) : TabOK Try.prog (laws_toIntA4A4_tab F) := (tab_cons (laws_toIntA4_meets F) laws_toIntA4_fok tab_nil)
noncomputable def laws_toIntA4A4_LS0 (F : Nat) : LT := []
theorem laws_toIntA4A4_lsok0 (F : Nat) : LoopsOK Try.prog (laws_toIntA4A4_LS0 F) (bodyOf Try.f20) := loopsOK_nil
theorem laws_toIntA4A4_run (F : Nat) (a0 : List Int) : runS tt (laws_toIntA4A4_tab F) (laws_toIntA4A4_LS0 F) [] [] Try.f20 (bodyOf Try.f20) 70 [(.ints 16 a0)] [] = laws_toIntA4A4_c _ a0 (fun r => some ⟨(.ints 16 r), [], []⟩) := by kernel_rfl
def laws_toIntA4A4_ent (F : Nat) : Ent := ⟨[], .quiet, fun args mem => match args, mem with
  | [(.ints 16 a0)], [] => some (true, ⟨(.ints 16 (laws_toIntA4A4_v a0)), [], []⟩)
  | _, _ => none⟩
theorem laws_toIntA4A4_fok : FunOK Try.prog 20 := funOK Try.func20 (by kernel_rfl) rfl
theorem laws_toIntA4A4_meets (F : Nat) : Meets Try.prog 20 (laws_toIntA4A4_ent F) := by
  refine meets_of_runS mixed ttok deep (laws_toIntA4A4_tabok F) Try.func20 (body_some rfl) (laws_toIntA4A4_lsok0 F) fun args mem hfit ret h => ?_
  clear hfit
  simp only [laws_toIntA4A4_ent] at h
  split at h
  · rename_i a0
    simp only [Option.some.injEq, Prod.mk.injEq] at h
    obtain ⟨hc, rfl⟩ := h
    exact ⟨[], [], 70, _, (laws_toIntA4A4_run F a0).trans (laws_toIntA4A4_cv _ a0 _), rfl, rfl, rfl⟩
  · cases h

/-! loop.example/g01194/laws.toBoard -/
noncomputable def laws_toBoard_tab (F : Nat) : Tab := [(20, (laws_toIntA4A4_ent F))]
theorem laws_toBoard_tabok (F : Nat) : TabOK Try.prog (laws_toBoard_tab F) := (tab_cons (laws_toIntA4A4_meets F) laws_toIntA4A4_fok tab_nil)
noncomputable def laws_toBoard_LS0 (F : Nat) : LT := []
theorem laws_toBoard_lsok0 (F : Nat) : LoopsOK Try.prog (laws_toBoard_LS0 F) (bodyOf Try.f8) := loopsOK_nil
theorem laws_toBoard_run (F : Nat) (a0 : List Int) : runS tt (laws_toBoard_tab F) (laws_toBoard_LS0 F) [] [] Try.f8 (bodyOf Try.f8) 70 [(.ints 16 a0)] [] = laws_toBoard_c _ a0 (fun r => some ⟨(.ints 16 r), [], []⟩) := by kernel_rfl
def laws_toBoard_ent (F : Nat) : Ent := ⟨[], .quiet, fun args mem => match args, mem with
  | [(.ints 16 a0)], [] => some (true, ⟨(.ints 16 (laws_toBoard_v a0)), [], []⟩)
  | _, _ => none⟩
theorem laws_toBoard_fok : FunOK Try.prog 8 := funOK Try.func8 (by kernel_rfl) rfl
theorem laws_toBoard_meets (F : Nat) : Meets Try.prog 8 (laws_toBoard_ent F) := by
  refine meets_of_runS mixed ttok deep (laws_toBoard_tabok F) Try.func8 (body_some rfl) (laws_toBoard_lsok0 F) fun args mem hfit ret h => ?_
  clear hfit
  simp only [laws_toBoard_ent] at h
  split at h
  · rename_i a0
    simp only [Option.some.injEq, Prod.mk.injEq] at h
    obtain ⟨hc, rfl⟩ := h
    exact ⟨[], [], 70, _, (laws_toBoard_run F a0).trans (laws_toBoard_cv _ a0 _), rfl, rfl, rfl⟩
  · cases h

/-! loop.example/g01194/spec.l1In -/
noncomputable def spec_l1In_tab (F : Nat) : Tab := []
theorem spec_l1In_tabok (F : Nat) : TabOK Try.prog (spec_l1In_tab F) := tab_nil
noncomputable def spec_l1In_LS0 (F : Nat) : LT := []
theorem spec_l1In_lsok0 (F : Nat) : LoopsOK Try.prog (spec_l1In_LS0 F) (bodyOf Try.f18) := loopsOK_nil
theorem spec_l1In_run (F : Nat) (x0 : Int) (a1 : Int) (b2 : Int) : runS tt (spec_l1In_tab F) (spec_l1In_LS0 F) [] [] Try.f18 (bodyOf Try.f18) 70 [(.int .i64 x0), (.int .i64 a1), (.int .i64 b2)] [] = spec_l1In_c _ x0 a1 b2 (fun r => some ⟨(.bool r), [], []⟩) := by kernel_rfl
def spec_l1In_ent (F : Nat) : Ent := ⟨[], .quiet, fun args mem => match args, mem with
  | [(.int .i64 x0), (.int .i64 a1), (.int .i64 b2)], [] => some (true, ⟨(.bool (spec_l1In_v x0 a1 b2)), [], []⟩)
  | _, _ => none⟩
theorem spec_l1In_fok : FunOK Try.prog 18 := funOK Try.func18 (by kernel_rfl) rfl
theorem spec_l1In_meets (F : Nat) : Meets Try.prog 18 (spec_l1In_ent F) := by
  refine meets_of_runS mixed ttok deep (spec_l1In_tabok F) Try.func18 (body_some rfl) (spec_l1In_lsok0 F) fun args mem hfit ret h => ?_
  clear hfit
  simp only [spec_l1In_ent] at h
  split at h
  · rename_i x0 a1 b2
    simp only [Option.some.injEq, Prod.mk.injEq] at h
    obtain ⟨hc, rfl⟩ := h
    exact ⟨[], [], 70, _, (spec_l1In_run F x0 a1 b2).trans (spec_l1In_cv _ x0 a1 b2 _), rfl, rfl, rfl⟩
  · cases h

/-! loop.example/g01194/spec.l2Board -/
noncomputable def spec_l2Board_tab (F : Nat) : Tab := [(18, (spec_l1In_ent F))]
theorem spec_l2Board_tabok (F : Nat) : TabOK Try.prog (spec_l2Board_tab F) := (tab_cons (spec_l1In_meets F) spec_l1In_fok tab_nil)
noncomputable def spec_l2Board_LS0 (F : Nat) : LT := []
theorem spec_l2Board_lsok0 (F : Nat) : LoopsOK Try.prog (spec_l2Board_LS0 F) (bodyOf Try.f17) := loopsOK_nil
theorem spec_l2Board_keys : keysOK (bodyOf Try.f17) = true := by kernel_rfl
def spec_l2Board_st5 (r3 : Int) (b5 : List Int) (c4 : Int) : St := ⟨expand 21 0 [1, 3, 4] [(.ptr 0 0 0 16), (.int .i64 r3), (.int .i64 c4)], [(.var 16 (.ri .i64 b5))], 0, []⟩
def spec_l2Board_o5 (r3 : Int) (b5 : List Int) (x : Bool) : GT := (.br x (.out (.ret ⟨expand 21 0 [2] [(.bool false)], [], 0, []⟩)) (.out (.exit 2 ⟨expand 21 0 [1, 3] [(.ptr 0 0 0 16), (.int .i64 r3)], [(.var 16 (.ri .i64 b5))], 0, []⟩)))
def spec_l2Board_ls5 (F : Nat) : LoopS := ⟨21, [1, 3, 4], [], [1, 3], [], [2], [], [], fun vals mem np killed => match vals, mem, np, killed with
  | [(.ptr 0 0 0 16), (.int .i64 r3), (.int .i64 c4)], [(.var 16 (.ri .i64 b5))], 0, [] => .br (spec_l2Board_l5 F r3 b5 c4).isSome (spec_l2Board_o5 r3 b5 ((spec_l2Board_l5 F r3 b5 c4).getD default)) .fail
  | _, _, _, _ => .fail⟩
theorem spec_l2Board_step5 (F : Nat) (r3 : Int) (b5 : List Int) (c4 : Int) {R : Type} (k : Out → Option R) : stepS tt (spec_l2Board_tab F) (spec_l2Board_LS0 F) 70 (spec_l2Board_ls5 F) (loopAt 5 (bodyOf Try.f17)) (spec_l2Board_st5 r3 b5 c4) k = spec_l2Board_s5 F r3 b5 R c4 (fun s => k (.norm (spec_l2Board_st5 r3 b5 s))) (fun x => (spec_l2Board_o5 r3 b5 x).run k) := by kernel_rfl
theorem spec_l2Board_iter5 (F : Nat) (r3 : Int) (b5 : List Int) {R : Type} (k : Out → Option R) : ∀ (n : Nat) (c4 : Int), iterS tt (spec_l2Board_tab F) (spec_l2Board_LS0 F) 70 (spec_l2Board_ls5 F) (loopAt 5 (bodyOf Try.f17)) n (spec_l2Board_st5 r3 b5 c4) k = loopC (spec_l2Board_s5 F r3 b5) n c4 (fun x => (spec_l2Board_o5 r3 b5 x).run k)
  | 0, c4 => rfl
  | n + 1, c4 => (iterS_succ tt (spec_l2Board_tab F) (spec_l2Board_LS0 F) 70 (spec_l2Board_ls5 F) (loopAt 5 (bodyOf Try.f17)) n (spec_l2Board_st5 r3 b5 c4) k).trans ((spec_l2Board_step5 F r3 b5 c4 (nextK (iterS tt (spec_l2Board_tab F) (spec_l2Board_LS0 F) 70 (spec_l2Board_ls5 F) (loopAt 5 (bodyOf Try.f17)) n) k)).trans (congrArg (fun kn => spec_l2Board_s5 F r3 b5 R c4 kn _) (funext (fun c4 => spec_l2Board_iter5 F r3 b5 k n c4))))
theorem spec_l2Board_lok5 (F : Nat) : LoopOK Try.prog (loopAt 5 (bodyOf Try.f17)) (spec_l2Board_ls5 F) := by
  refine loopOK_of mixed ttok deep (spec_l2Board_tabok F) (loopsOK_at (spec_l2Board_lsok0 F) 5) (fuel := 70) fun R vals mem np killed k x h => ?_
  simp only [spec_l2Board_ls5] at h
  split at h
  · rename_i r3 c4 b5
    simp only [GT.run] at h
    have hc := (cond_noneL h).1
    replace h := (cond_noneL h).2
    refine ⟨F, (spec_l2Board_iter5 F r3 b5 k F c4).trans ((loopC_use (spec_l2Board_s5_nat F r3 b5) hc _).trans h)⟩
  · simp only [GT.run] at h
    cases h
noncomputable def spec_l2Board_LS1 (F : Nat) : LT := (5, spec_l2Board_ls5 F) :: spec_l2Board_LS0 F
theorem spec_l2Board_lsok1 (F : Nat) : LoopsOK Try.prog (spec_l2Board_LS1 F) (bodyOf Try.f17) := loopsOK_cons spec_l2Board_keys (spec_l2Board_lok5 F) (spec_l2Board_lsok0 F)
def spec_l2Board_st2 (b4 : List Int) (r3 : Int) : St := ⟨expand 21 0 [1, 3] [(.ptr 0 0 0 16), (.int .i64 r3)], [(.var 16 (.ri .i64 b4))], 0, []⟩
def spec_l2Board_o2 (b4 : List Int) (x : Bool) : GT := (.br x (.out (.ret ⟨expand 21 0 [2] [(.bool false)], [], 0, []⟩)) (.out (.exit 0 ⟨expand 21 0 [] [], [], 0, []⟩)))
def spec_l2Board_ls2 (F : Nat) : LoopS := ⟨21, [1, 3], [], [], [], [2], [], [], fun vals mem np killed => match vals, mem, np, killed with
  | [(.ptr 0 0 0 16), (.int .i64 r3)], [(.var 16 (.ri .i64 b4))], 0, [] => .br (spec_l2Board_l2 F b4 r3).isSome (spec_l2Board_o2 b4 ((spec_l2Board_l2 F b4 r3).getD default)) .fail
  | _, _, _, _ => .fail⟩
theorem spec_l2Board_step2 (F : Nat) (b4 : List Int) (r3 : Int) {R : Type} (k : Out → Option R) : stepS tt (spec_l2Board_tab F) (spec_l2Board_LS1 F) 70 (spec_l2Board_ls2 F) (loopAt 2 (bodyOf Try.f17)) (spec_l2Board_st2 b4 r3) k = spec_l2Board_s2 F b4 R r3 (fun s => k (.norm (spec_l2Board_st2 b4 s))) (fun x => (spec_l2Board_o2 b4 x).run k) := by kernel_rfl
theorem spec_l2Board_iter2 (F : Nat) (b4 : List Int) {R : Type} (k : Out → Option R) : ∀ (n : Nat) (r3 : Int), iterS tt (spec_l2Board_tab F) (spec_l2Board_LS1 F) 70 (spec_l2Board_ls2 F) (loopAt 2 (bodyOf Try.f17)) n (spec_l2Board_st2 b4 r3) k = loopC (spec_l2Board_s2 F b4) n r3 (fun x => (spec_l2Board_o2 b4 x).run k)
  | 0, r3 => rfl
  | n + 1, r3 => (iterS_succ tt (spec_l2Board_tab F) (spec_l2Board_LS1 F) 70 (spec_l2Board_ls2 F) (loopAt 2 (bodyOf Try.f17)) n (spec_l2Board_st2 b4 r3) k).trans ((spec_l2Board_step2 F b4 r3 (nextK (iterS tt (spec_l2Board_tab F) (spec_l2Board_LS1 F) 70 (spec_l2Board_ls2 F) (loopAt 2 (bodyOf Try.f17)) n) k)).trans (congrArg (fun kn => spec_l2Board_s2 F b4 R r3 kn _) (funext (fun r3 => spec_l2Board_iter2 F b4 k n r3))))
theorem spec_l2Board_lok2 (F : Nat) : LoopOK Try.prog (loopAt 2 (bodyOf Try.f17)) (spec_l2Board_ls2 F) := by
  refine loopOK_of mixed ttok deep (spec_l2Board_tabok F) (loopsOK_at (spec_l2Board_lsok1 F) 2) (fuel := 70) fun R vals mem np killed k x h => ?_
  simp only [spec_l2Board_ls2] at h
  split at h
  · rename_i r3 b4
    simp only [GT.run] at h
    have hc := (cond_noneL h).1
    replace h := (cond_noneL h).2
    refine ⟨F, (spec_l2Board_iter2 F b4 k F r3).trans ((loopC_use (spec_l2Board_s2_nat F b4) hc _).trans h)⟩
  · simp only [GT.run] at h
    cases h
noncomputable def spec_l2Board_LS2 (F : Nat) : LT := (2, spec_l2Board_ls2 F) :: spec_l2Board_LS1 F
theorem spec_l2Board_lsok2 (F : Nat) : LoopsOK Try.prog (spec_l2Board_LS2 F) (bodyOf Try.f17) := loopsOK_cons spec_l2Board_keys (spec_l2Board_lok2 F) (spec_l2Board_lsok1 F)
theorem spec_l2Board_run (F : Nat) (b0 : List Int) : runS tt (spec_l2Board_tab F) (spec_l2Board_LS2 F) [] [] Try.f17 (bodyOf Try.f17) 70 [(.ints 16 b0)] [] = spec_l2Board_c _ F b0 (fun r => some ⟨(.bool r), [], []⟩) := by kernel_rfl
def spec_l2Board_ent (F : Nat) : Ent := ⟨[], .quiet, fun args mem => match args, mem with
  | [(.ints 16 b0)], [] => some ((spec_l2Board_p F b0).isSome, ⟨(.bool ((spec_l2Board_p F b0).getD default)), [], []⟩)
  | _, _ => none⟩
theorem spec_l2Board_fok : FunOK Try.prog 17 := funOK Try.func17 (by kernel_rfl) rfl
theorem spec_l2Board_meets (F : Nat) : Meets Try.prog 17 (spec_l2Board_ent F) := by
  refine meets_of_runS mixed ttok deep (spec_l2Board_tabok F) Try.func17 (body_some rfl) (spec_l2Board_lsok2 F) fun args mem hfit ret h => ?_
  clear hfit
  simp only [spec_l2Board_ent] at h
  split at h
  · rename_i b0
    simp only [Option.some.injEq, Prod.mk.injEq] at h
    obtain ⟨hc, rfl⟩ := h
    exact ⟨[], [], 70, _, (spec_l2Board_run F b0).trans ((spec_l2Board_cp _ F b0 _).trans (bind_use hc _)), rfl, rfl, rfl⟩
  · cases h

/-! loop.example/g01194/spec.l2Line -/
noncomputable def spec_l2Line_tab (F : Nat) : Tab := []
theorem spec_l2Line_tabok (F : Nat) : TabOK Try.prog (spec_l2Line_tab F) := tab_nil
noncomputable def spec_l2Line_LS0 (F : Nat) : LT := []
theorem spec_l2Line_lsok0 (F : Nat) : LoopsOK Try.prog (spec_l2Line_LS0 F) (bodyOf Try.f61) := loopsOK_nil
theorem spec_l2Line_keys : keysOK (bodyOf Try.f61) = true := by kernel_rfl
def spec_l2Line_st3 (d0 : Int) (i1 : Int) (k8 : Int) (out10 : List Int) : St := ⟨expand 42 0 [0, 1, 4, 5, 6] [(.int .i64 d0), (.int .i64 i1), (.ptr 0 0 0 8), (.ptr 1 0 0 8), (.int .i64 k8)], [(.var 8 (.ri .i64 [(0 : Int), (0 : Int), (0 : Int), (0 : Int), (0 : Int), (0 : Int), (0 : Int), (0 : Int)])), (.var 8 (.ri .i64 out10))], 0, []⟩
def spec_l2Line_o3 (d0 : Int) (i1 : Int) (x : List Int) : GT := (.out (.exit 0 ⟨expand 42 0 [4, 5] [(.ptr 0 0 0 8), (.ptr 1 0 0 8)], [(.var 8 (.ri .i64 [(0 : Int), (0 : Int), (0 : Int), (0 : Int), (0 : Int), (0 : Int), (0 : Int), (0 : Int)])), (.var 8 (.ri .i64 x))], 0, []⟩))
def spec_l2Line_ls3 (F : Nat) : LoopS := ⟨42, [0, 1, 4, 5, 6], [], [4, 5], [], [4], [], [], fun vals mem np killed => match vals, mem, np, killed with
  | [(.int .i64 d0), (.int .i64 i1), (.ptr 0 0 0 8), (.ptr 1 0 0 8), (.int .i64 k8)], [(.var 8 (.ri .i64 q_t49)), (.var 8 (.ri .i64 out10))], 0, [] => .br ((q_t49 == ([(0 : Int), (0 : Int), (0 : Int), (0 : Int), (0 : Int), (0 : Int), (0 : Int), (0 : Int)] : List Int)) && (spec_l2Line_l3 F d0 i1 k8 out10).isSome) (spec_l2Line_o3 d0 i1 ((spec_l2Line_l3 F d0 i1 k8 out10).getD default)) .fail
  | _, _, _, _ => .fail⟩
theorem spec_l2Line_step3 (F : Nat) (d0 : Int) (i1 : Int) (k8 : Int) (out10 : List Int) {R : Type} (k : Out → Option R) : stepS tt (spec_l2Line_tab F) (spec_l2Line_LS0 F) 70 (spec_l2Line_ls3 F) (loopAt 3 (bodyOf Try.f61)) (spec_l2Line_st3 d0 i1 k8 out10) k = spec_l2Line_s3 F d0 i1 R (k8, out10) (fun s => k (.norm (spec_l2Line_st3 d0 i1 s.1 s.2))) (fun x => (spec_l2Line_o3 d0 i1 x).run k) := by kernel_rfl
theorem spec_l2Line_iter3 (F : Nat) (d0 : Int) (i1 : Int) {R : Type} (k : Out → Option R) : ∀ (n : Nat) (k8 : Int) (out10 : List Int), iterS tt (spec_l2Line_tab F) (spec_l2Line_LS0 F) 70 (spec_l2Line_ls3 F) (loopAt 3 (bodyOf Try.f61)) n (spec_l2Line_st3 d0 i1 k8 out10) k = loopC (spec_l2Line_s3 F d0 i1) n (k8, out10) (fun x => (spec_l2Line_o3 d0 i1 x).run k)
  | 0, k8, out10 => rfl
  | n + 1, k8, out10 => (iterS_succ tt (spec_l2Line_tab F) (spec_l2Line_LS0 F) 70 (spec_l2Line_ls3 F) (loopAt 3 (bodyOf Try.f61)) n (spec_l2Line_st3 d0 i1 k8 out10) k).trans ((spec_l2Line_step3 F d0 i1 k8 out10 (nextK (iterS tt (spec_l2Line_tab F) (spec_l2Line_LS0 F) 70 (spec_l2Line_ls3 F) (loopAt 3 (bodyOf Try.f61)) n) k)).trans (congrArg (fun kn => spec_l2Line_s3 F d0 i1 R (k8, out10) kn _) (funext (fun ⟨k8, out10⟩ => spec_l2Line_iter3 F d0 i1 k n k8 out10))))
theorem spec_l2Line_lok3 (F : Nat) : LoopOK Try.prog (loopAt 3 (bodyOf Try.f61)) (spec_l2Line_ls3 F) := by
  refine loopOK_of mixed ttok deep (spec_l2Line_tabok F) (loopsOK_at (spec_l2Line_lsok0 F) 3) (fuel := 70) fun R vals mem np killed k x h => ?_
  simp only [spec_l2Line_ls3] at h
  split at h
  · rename_i d0 i1 k8 q_t49 out10
    simp only [GT.run] at h
    have hc := (cond_noneL h).1
    replace h := (cond_noneL h).2
    have hg := (and_split hc).1
    replace hc := (and_split hc).2
    obtain rfl := beq_li hg
    refine ⟨F, (spec_l2Line_iter3 F d0 i1 k F k8 out10).trans ((loopC_use (spec_l2Line_s3_nat F d0 i1) hc _).trans h)⟩
  · simp only [GT.run] at h
    cases h
noncomputable def spec_l2Line_LS1 (F : Nat) : LT := (3, spec_l2Line_ls3 F) :: spec_l2Line_LS0 F
theorem spec_l2Line_lsok1 (F : Nat) : LoopsOK Try.prog (spec_l2Line_LS1 F) (bodyOf Try.f61) := loopsOK_cons spec_l2Line_keys (spec_l2Line_lok3 F) (spec_l2Line_lsok0 F)
theorem spec_l2Line_run (F : Nat) (d0 : Int) (i1 : Int) : runS tt (spec_l2Line_tab F) (spec_l2Line_LS1 F) [] [] Try.f61 (bodyOf Try.f61) 70 [(.int .i64 d0), (.int .i64 i1)] [] = spec_l2Line_c _ F d0 i1 (fun r => some ⟨(.ints 8 r), [], []⟩) := by kernel_rfl
def spec_l2Line_ent (F : Nat) : Ent := ⟨[], .quiet, fun args mem => match args, mem with
  | [(.int .i64 d0), (.int .i64 i1)], [] => some ((spec_l2Line_p F d0 i1).isSome, ⟨(.ints 8 ((spec_l2Line_p F d0 i1).getD default)), [], []⟩)
  | _, _ => none⟩
theorem spec_l2Line_fok : FunOK Try.prog 61 := funOK Try.func61 (by kernel_rfl) rfl
theorem spec_l2Line_meets (F : Nat) : Meets Try.prog 61 (spec_l2Line_ent F) := by
  refine meets_of_runS mixed ttok deep (spec_l2Line_tabok F) Try.func61 (body_some rfl) (spec_l2Line_lsok1 F) fun args mem hfit ret h => ?_
  clear hfit
  simp only [spec_l2Line_ent] at h
  split at h
  · rename_i d0 i1
    simp only [Option.some.injEq, Prod.mk.injEq] at h
    obtain ⟨hc, rfl⟩ := h
    exact ⟨[], [], 70, _, (spec_l2Line_run F d0 i1).trans ((spec_l2Line_cp _ F d0 i1 _).trans (bind_use hc _)), rfl, rfl, rfl⟩
  · cases h

/-! loop.example/g01194/spec.l2At -/
noncomputable def spec_l2At_tab (F : Nat) : Tab := []
theorem spec_l2At_tabok (F : Nat) : TabOK Try.prog (spec_l2At_tab F) := tab_nil
noncomputable def spec_l2At_LS0 (F : Nat) : LT := []
theorem spec_l2At_lsok0 (F : Nat) : LoopsOK Try.prog (spec_l2At_LS0 F) (bodyOf Try.f78) := loopsOK_nil
theorem spec_l2At_run (F : Nat) (b0 : List Int) (cell1 : List Int) : runS tt (spec_l2At_tab F) (spec_l2At_LS0 F) [] [] Try.f78 (bodyOf Try.f78) 70 [(.ints 16 b0), (.ints 2 cell1)] [] = spec_l2At_c _ b0 cell1 (fun r => some ⟨(.int .i64 r), [], []⟩) := by kernel_rfl
def spec_l2At_ent (F : Nat) : Ent := ⟨[], .quiet, fun args mem => match args, mem with
  | [(.ints 16 b0), (.ints 2 cell1)], [] => some ((spec_l2At_p b0 cell1).isSome, ⟨(.int .i64 ((spec_l2At_p b0 cell1).getD default)), [], []⟩)
  | _, _ => none⟩
theorem spec_l2At_fok : FunOK Try.prog 78 := funOK Try.func78 (by kernel_rfl) rfl
theorem spec_l2At_meets (F : Nat) : Meets Try.prog 78 (spec_l2At_ent F) := by
  refine meets_of_runS mixed ttok deep (spec_l2At_tabok F) Try.func78 (body_some rfl) (spec_l2At_lsok0 F) fun args mem hfit ret h => ?_
  clear hfit
  simp only [spec_l2At_ent] at h
  split at h
  · rename_i b0 cell1
    simp only [Option.some.injEq, Prod.mk.injEq] at h
    obtain ⟨hc, rfl⟩ := h
    exact ⟨[], [], 70, _, (spec_l2At_run F b0 cell1).trans ((spec_l2At_cp _ b0 cell1 _).trans (bind_use hc _)), rfl, rfl, rfl⟩
  · cases h

/-! loop.example/g01194/spec.l2Numbers -/
noncomputable def spec_l2Numbers_tab (F : Nat) : Tab := [(61, (spec_l2Line_ent F)), (78, (spec_l2At_ent F))]
theorem spec_l2Numbers_tabok (F : Nat) : TabOK Try.prog (spec_l2Numbers_tab F) := (tab_cons (spec_l2Line_meets F) spec_l2Line_fok (tab_cons (spec_l2At_meets F) spec_l2At_fok tab_nil))
noncomputable def spec_l2Numbers_LS0 (F : Nat) : LT := []
theorem spec_l2Numbers_lsok0 (F : Nat) : LoopsOK Try.prog (spec_l2Numbers_LS0 F) (bodyOf Try.f60) := loopsOK_nil
theorem spec_l2Numbers_run (F : Nat) (b0 : List Int) (d1 : Int) (i2 : Int) : runS tt (spec_l2Numbers_tab F) (spec_l2Numbers_LS0 F) [] [] Try.f60 (bodyOf Try.f60) 70 [(.ints 16 b0), (.int .i64 d1), (.int .i64 i2)] [] = spec_l2Numbers_c _ F b0 d1 i2 (fun r => some ⟨(.ints 4 r), [], []⟩) := by kernel_rfl
def spec_l2Numbers_ent (F : Nat) : Ent := ⟨[], .quiet, fun args mem => match args, mem with
  | [(.ints 16 b0), (.int .i64 d1), (.int .i64 i2)], [] => some ((spec_l2Numbers_p F b0 d1 i2).isSome, ⟨(.ints 4 ((spec_l2Numbers_p F b0 d1 i2).getD default)), [], []⟩)
  | _, _ => none⟩
theorem spec_l2Numbers_fok : FunOK Try.prog 60 := funOK Try.func60 (by kernel_rfl) rfl
theorem spec_l2Numbers_meets (F : Nat) : Meets Try.prog 60 (spec_l2Numbers_ent F) := by
  refine meets_of_runS mixed ttok deep (spec_l2Numbers_tabok F) Try.func60 (body_some rfl) (spec_l2Numbers_lsok0 F) fun args mem hfit ret h => ?_
  clear hfit
  simp only [spec_l2Numbers_ent] at h
  split at h
  · rename_i b0 d1 i2
    simp only [Option.some.injEq, Prod.mk.injEq] at h
    obtain ⟨hc, rfl⟩ := h
    exact ⟨[], [], 70, _, (spec_l2Numbers_run F b0 d1 i2).trans ((spec_l2Numbers_cp _ F b0 d1 i2 _).trans (bind_use hc _)), rfl, rfl, rfl⟩
  · cases h

/-! loop.example/g01194/spec.l2Worth -/
noncomputable def spec_l2Worth_tab (F : Nat) : Tab := []
theorem spec_l2Worth_tabok (F : Nat) : TabOK Try.prog (spec_l2Worth_tab F) := tab_nil
noncomputable def spec_l2Worth_LS0 (F : Nat) : LT := []
theorem spec_l2Worth_lsok0 (F : Nat) : LoopsOK Try.prog (spec_l2Worth_LS0 F) (bodyOf Try.f56) := loopsOK_nil
theorem spec_l2Worth_run (F : Nat) (t0 : Int) : runS tt (spec_l2Worth_tab F) (spec_l2Worth_LS0 F) [] [] Try.f56 (bodyOf Try.f56) 70 [(.int .i64 t0)] [] = spec_l2Worth_c _ t0 (fun r => some ⟨(.int .i64 r), [], []⟩) := by kernel_rfl
def spec_l2Worth_ent (F : Nat) : Ent := ⟨[], .quiet, fun args mem => match args, mem with
  | [(.int .i64 t0)], [] => some ((spec_l2Worth_p t0).isSome, ⟨(.int .i64 ((spec_l2Worth_p t0).getD default)), [], []⟩)
  | _, _ => none⟩
theorem spec_l2Worth_fok : FunOK Try.prog 56 := funOK Try.func56 (by kernel_rfl) rfl
theorem spec_l2Worth_meets (F : Nat) : Meets Try.prog 56 (spec_l2Worth_ent F) := by
  refine meets_of_runS mixed ttok deep (spec_l2Worth_tabok F) Try.func56 (body_some rfl) (spec_l2Worth_lsok0 F) fun args mem hfit ret h => ?_
  clear hfit
  simp only [spec_l2Worth_ent] at h
  split at h
  · rename_i t0
    simp only [Option.some.injEq, Prod.mk.injEq] at h
    obtain ⟨hc, rfl⟩ := h
    exact ⟨[], [], 70, _, (spec_l2Worth_run F t0).trans ((spec_l2Worth_cp _ t0 _).trans (bind_use hc _)), rfl, rfl, rfl⟩
  · cases h

/-! loop.example/g01194/spec.l2Row -/
noncomputable def spec_l2Row_tab (F : Nat) : Tab := [(56, (spec_l2Worth_ent F))]
theorem spec_l2Row_tabok (F : Nat) : TabOK Try.prog (spec_l2Row_tab F) := (tab_cons (spec_l2Worth_meets F) spec_l2Worth_fok tab_nil)
noncomputable def spec_l2Row_LS0 (F : Nat) : LT := []
theorem spec_l2Row_lsok0 (F : Nat) : LoopsOK Try.prog (spec_l2Row_LS0 F) (bodyOf Try.f59) := loopsOK_nil
theorem spec_l2Row_keys : keysOK (bodyOf Try.f59) = true := by kernel_rfl
def spec_l2Row_st3 (row13 : List Int) (n9 : Int) (score10 : Int) (merged11 : Bool) (k12 : Int) (out15 : List Int) : St := ⟨expand 63 0 [1, 2, 4, 5, 6, 7, 8] [(.ptr 0 0 0 4), (.ptr 1 0 0 4), (.ptr 2 0 0 4), (.int .i64 n9), (.int .i64 score10), (.bool merged11), (.int .i64 k12)], [(.var 4 (.ri .i64 row13)), (.var 4 (.ri .i64 [(0 : Int), (0 : Int), (0 : Int), (0 : Int)])), (.var 4 (.ri .i64 out15))], 0, []⟩
def spec_l2Row_o3 (row13 : List Int) (x : Int × List Int) : GT := (.out (.exit 0 ⟨expand 63 0 [2, 4, 6] [(.ptr 0 0 0 4), (.ptr 1 0 0 4), (.int .i64 x.1)], [(.var 4 (.ri .i64 [(0 : Int), (0 : Int), (0 : Int), (0 : Int)])), (.var 4 (.ri .i64 x.2))], 0, []⟩))
def spec_l2Row_ls3 (F : Nat) : LoopS := ⟨63, [1, 2, 4, 5, 6, 7, 8], [], [2, 4, 6], [], [2, 3], [], [], fun vals mem np killed => match vals, mem, np, killed with
  | [(.ptr 0 0 0 4), (.ptr 1 0 0 4), (.ptr 2 0 0 4), (.int .i64 n9), (.int .i64 score10), (.bool merged11), (.int .i64 k12)], [(.var 4 (.ri .i64 row13)), (.var 4 (.ri .i64 q_t214)), (.var 4 (.ri .i64 out15))], 0, [] => .br ((q_t214 == ([(0 : Int), (0 : Int), (0 : Int), (0 : Int)] : List Int)) && (spec_l2Row_l3 F row13 n9 score10 merged11 k12 out15).isSome) (spec_l2Row_o3 row13 ((spec_l2Row_l3 F row13 n9 score10 merged11 k12 out15).getD default)) .fail
  | _, _, _, _ => .fail⟩
theorem spec_l2Row_step3 (F : Nat) (row13 : List Int) (n9 : Int) (score10 : Int) (merged11 : Bool) (k12 : Int) (out15 : List Int) {R : Type} (k : Out → Option R) : stepS tt (spec_l2Row_tab F) (spec_l2Row_LS0 F) 70 (spec_l2Row_ls3 F) (loopAt 3 (bodyOf Try.f59)) (spec_l2Row_st3 row13 n9 score10 merged11 k12 out15) k = spec_l2Row_s3 F row13 R (n9, score10, merged11, k12, out15) (fun s => k (.norm (spec_l2Row_st3 row13 s.1 s.2.1 s.2.2.1 s.2.2.2.1 s.2.2.2.2))) (fun x => (spec_l2Row_o3 row13 x).run k) := by kernel_rfl
theorem spec_l2Row_iter3 (F : Nat) (row13 : List Int) {R : Type} (k : Out → Option R) : ∀ (n : Nat) (n9 : Int) (score10 : Int) (merged11 : Bool) (k12 : Int) (out15 : List Int), iterS tt (spec_l2Row_tab F) (spec_l2Row_LS0 F) 70 (spec_l2Row_ls3 F) (loopAt 3 (bodyOf Try.f59)) n (spec_l2Row_st3 row13 n9 score10 merged11 k12 out15) k = loopC (spec_l2Row_s3 F row13) n (n9, score10, merged11, k12, out15) (fun x => (spec_l2Row_o3 row13 x).run k)
  | 0, n9, score10, merged11, k12, out15 => rfl
  | n + 1, n9, score10, merged11, k12, out15 => (iterS_succ tt (spec_l2Row_tab F) (spec_l2Row_LS0 F) 70 (spec_l2Row_ls3 F) (loopAt 3 (bodyOf Try.f59)) n (spec_l2Row_st3 row13 n9 score10 merged11 k12 out15) k).trans ((spec_l2Row_step3 F row13 n9 score10 merged11 k12 out15 (nextK (iterS tt (spec_l2Row_tab F) (spec_l2Row_LS0 F) 70 (spec_l2Row_ls3 F) (loopAt 3 (bodyOf Try.f59)) n) k)).trans (congrArg (fun kn => spec_l2Row_s3 F row13 R (n9, score10, merged11, k12, out15) kn _) (funext (fun ⟨n9, score10, merged11, k12, out15⟩ => spec_l2Row_iter3 F row13 k n n9 score10 merged11 k12 out15))))
theorem spec_l2Row_lok3 (F : Nat) : LoopOK Try.prog (loopAt 3 (bodyOf Try.f59)) (spec_l2Row_ls3 F) := by
  refine loopOK_of mixed ttok deep (spec_l2Row_tabok F) (loopsOK_at (spec_l2Row_lsok0 F) 3) (fuel := 70) fun R vals mem np killed k x h => ?_
  simp only [spec_l2Row_ls3] at h
  split at h
  · rename_i n9 score10 merged11 k12 row13 q_t214 out15
    simp only [GT.run] at h
    have hc := (cond_noneL h).1
    replace h := (cond_noneL h).2
    have hg := (and_split hc).1
    replace hc := (and_split hc).2
    obtain rfl := beq_li hg
    refine ⟨F, (spec_l2Row_iter3 F row13 k F n9 score10 merged11 k12 out15).trans ((loopC_use (spec_l2Row_s3_nat F row13) hc _).trans h)⟩
  · simp only [GT.run] at h
    cases h
noncomputable def spec_l2Row_LS1 (F : Nat) : LT := (3, spec_l2Row_ls3 F) :: spec_l2Row_LS0 F
theorem spec_l2Row_lsok1 (F : Nat) : LoopsOK Try.prog (spec_l2Row_LS1 F) (bodyOf Try.f59) := loopsOK_cons spec_l2Row_keys (spec_l2Row_lok3 F) (spec_l2Row_lsok0 F)
theorem spec_l2Row_run (F : Nat) (row0 : List Int) : runS tt (spec_l2Row_tab F) (spec_l2Row_LS1 F) [] [] Try.f59 (bodyOf Try.f59) 70 [(.ints 4 row0)] [] = spec_l2Row_c _ F row0 (fun r => some ⟨(.tup [(.ints 4 r.1), (.int .i64 r.2)]), [], []⟩) := by kernel_rfl
def spec_l2Row_ent (F : Nat) : Ent := ⟨[], .quiet, fun args mem => match args, mem with
  | [(.ints 4 row0)], [] => some ((spec_l2Row_p F row0).isSome, ⟨(.tup [(.ints 4 ((spec_l2Row_p F row0).getD default).1), (.int .i64 ((spec_l2Row_p F row0).getD default).2)]), [], []⟩)
  | _, _ => none⟩
theorem spec_l2Row_fok : FunOK Try.prog 59 := funOK Try.func59 (by kernel_rfl) rfl
theorem spec_l2Row_meets (F : Nat) : Meets Try.prog 59 (spec_l2Row_ent F) := by
  refine meets_of_runS mixed ttok deep (spec_l2Row_tabok F) Try.func59 (body_some rfl) (spec_l2Row_lsok1 F) fun args mem hfit ret h => ?_
  clear hfit
  simp only [spec_l2Row_ent] at h
  split at h
  · rename_i row0
    simp only [Option.some.injEq, Prod.mk.injEq] at h
    obtain ⟨hc, rfl⟩ := h
    exact ⟨[], [], 70, _, (spec_l2Row_run F row0).trans ((spec_l2Row_cp _ F row0 _).trans (bind_use hc _)), rfl, rfl, rfl⟩
  · cases h

/-! loop.example/g01194/spec.l2Put -/
noncomputable def spec_l2Put_tab (F : Nat) : Tab := []
theorem spec_l2Put_tabok (F : Nat) : TabOK Try.prog (spec_l2Put_tab F) := tab_nil
noncomputable def spec_l2Put_LS0 (F : Nat) : LT := []
theorem spec_l2Put_lsok0 (F : Nat) : LoopsOK Try.prog (spec_l2Put_LS0 F) (bodyOf Try.f62) := loopsOK_nil
theorem spec_l2Put_run (F : Nat) (b0 : List Int) (cell1 : List Int) (t2 : Int) : runS tt (spec_l2Put_tab F) (spec_l2Put_LS0 F) [] [] Try.f62 (bodyOf Try.f62) 70 [(.ints 16 b0), (.ints 2 cell1), (.int .i64 t2)] [] = spec_l2Put_c _ b0 cell1 t2 (fun r => some ⟨(.ints 16 r), [], []⟩) := by kernel_rfl
def spec_l2Put_ent (F : Nat) : Ent := ⟨[], .quiet, fun args mem => match args, mem with
  | [(.ints 16 b0), (.ints 2 cell1), (.int .i64 t2)], [] => some ((spec_l2Put_p b0 cell1 t2).isSome, ⟨(.ints 16 ((spec_l2Put_p b0 cell1 t2).getD default)), [], []⟩)
  | _, _ => none⟩
theorem spec_l2Put_fok : FunOK Try.prog 62 := funOK Try.func62 (by kernel_rfl) rfl
theorem spec_l2Put_meets (F : Nat) : Meets Try.prog 62 (spec_l2Put_ent F) := by
  refine meets_of_runS mixed ttok deep (spec_l2Put_tabok F) Try.func62 (body_some rfl) (spec_l2Put_lsok0 F) fun args mem hfit ret h => ?_
  clear hfit
  simp only [spec_l2Put_ent] at h
  split at h
  · rename_i b0 cell1 t2
    simp only [Option.some.injEq, Prod.mk.injEq] at h
    obtain ⟨hc, rfl⟩ := h
    exact ⟨[], [], 70, _, (spec_l2Put_run F b0 cell1 t2).trans ((spec_l2Put_cp _ b0 cell1 t2 _).trans (bind_use hc _)), rfl, rfl, rfl⟩
  · cases h

/-! loop.example/g01194/spec.l2Slide -/
noncomputable def spec_l2Slide_tab (F : Nat) : Tab := [(60, (spec_l2Numbers_ent F)), (59, (spec_l2Row_ent F)), (61, (spec_l2Line_ent F)), (62, (spec_l2Put_ent F))]
theorem spec_l2Slide_tabok (F : Nat) : TabOK Try.prog (spec_l2Slide_tab F) := (tab_cons (spec_l2Numbers_meets F) spec_l2Numbers_fok (tab_cons (spec_l2Row_meets F) spec_l2Row_fok (tab_cons (spec_l2Line_meets F) spec_l2Line_fok (tab_cons (spec_l2Put_meets F) spec_l2Put_fok tab_nil))))
noncomputable def spec_l2Slide_LS0 (F : Nat) : LT := []
theorem spec_l2Slide_lsok0 (F : Nat) : LoopsOK Try.prog (spec_l2Slide_LS0 F) (bodyOf Try.f34) := loopsOK_nil
theorem spec_l2Slide_keys : keysOK (bodyOf Try.f34) = true := by kernel_rfl
def spec_l2Slide_st3 (d0 : Int) (b12 : List Int) (sum10 : Int) (i11 : Int) (out14 : List Int) : St := ⟨expand 46 0 [1, 2, 4, 6, 7, 8] [(.int .i64 d0), (.ptr 0 0 0 16), (.ptr 1 0 0 16), (.ptr 2 0 0 16), (.int .i64 sum10), (.int .i64 i11)], [(.var 16 (.ri .i64 b12)), (.var 16 (.ri .i64 [(0 : Int), (0 : Int), (0 : Int), (0 : Int), (0 : Int), (0 : Int), (0 : Int), (0 : Int), (0 : Int), (0 : Int), (0 : Int), (0 : Int), (0 : Int), (0 : Int), (0 : Int), (0 : Int)])), (.var 16 (.ri .i64 out14))], 0, []⟩
def spec_l2Slide_o3 (d0 : Int) (b12 : List Int) (x : Int × List Int) : GT := (.out (.exit 0 ⟨expand 46 0 [4, 6, 7] [(.ptr 0 0 0 16), (.ptr 1 0 0 16), (.int .i64 x.1)], [(.var 16 (.ri .i64 [(0 : Int), (0 : Int), (0 : Int), (0 : Int), (0 : Int), (0 : Int), (0 : Int), (0 : Int), (0 : Int), (0 : Int), (0 : Int), (0 : Int), (0 : Int), (0 : Int), (0 : Int), (0 : Int)])), (.var 16 (.ri .i64 x.2))], 0, []⟩))
def spec_l2Slide_ls3 (F : Nat) : LoopS := ⟨46, [1, 2, 4, 6, 7, 8], [], [4, 6, 7], [], [4, 5], [], [], fun vals mem np killed => match vals, mem, np, killed with
  | [(.int .i64 d0), (.ptr 0 0 0 16), (.ptr 1 0 0 16), (.ptr 2 0 0 16), (.int .i64 sum10), (.int .i64 i11)], [(.var 16 (.ri .i64 b12)), (.var 16 (.ri .i64 q_t413)), (.var 16 (.ri .i64 out14))], 0, [] => .br ((q_t413 == ([(0 : Int), (0 : Int), (0 : Int), (0 : Int), (0 : Int), (0 : Int), (0 : Int), (0 : Int), (0 : Int), (0 : Int), (0 : Int), (0 : Int), (0 : Int), (0 : Int), (0 : Int), (0 : Int)] : List Int)) && (spec_l2Slide_l3 F d0 b12 sum10 i11 out14).isSome) (spec_l2Slide_o3 d0 b12 ((spec_l2Slide_l3 F d0 b12 sum10 i11 out14).getD default)) .fail
  | _, _, _, _ => .fail⟩
theorem spec_l2Slide_step3 (F : Nat) (d0 : Int) (b12 : List Int) (sum10 : Int) (i11 : Int) (out14 : List Int) {R : Type} (k : Out → Option R) : stepS tt (spec_l2Slide_tab F) (spec_l2Slide_LS0 F) 70 (spec_l2Slide_ls3 F) (loopAt 3 (bodyOf Try.f34)) (spec_l2Slide_st3 d0 b12 sum10 i11 out14) k = spec_l2Slide_s3 F d0 b12 R (sum10, i11, out14) (fun s => k (.norm (spec_l2Slide_st3 d0 b12 s.1 s.2.1 s.2.2))) (fun x => (spec_l2Slide_o3 d0 b12 x).run k) := by kernel_rfl
theorem spec_l2Slide_iter3 (F : Nat) (d0 : Int) (b12 : List Int) {R : Type} (k : Out → Option R) : ∀ (n : Nat) (sum10 : Int) (i11 : Int) (out14 : List Int), iterS tt (spec_l2Slide_tab F) (spec_l2Slide_LS0 F) 70 (spec_l2Slide_ls3 F) (loopAt 3 (bodyOf Try.f34)) n (spec_l2Slide_st3 d0 b12 sum10 i11 out14) k = loopC (spec_l2Slide_s3 F d0 b12) n (sum10, i11, out14) (fun x => (spec_l2Slide_o3 d0 b12 x).run k)
  | 0, sum10, i11, out14 => rfl
  | n + 1, sum10, i11, out14 => (iterS_succ tt (spec_l2Slide_tab F) (spec_l2Slide_LS0 F) 70 (spec_l2Slide_ls3 F) (loopAt 3 (bodyOf Try.f34)) n (spec_l2Slide_st3 d0 b12 sum10 i11 out14) k).trans ((spec_l2Slide_step3 F d0 b12 sum10 i11 out14 (nextK (iterS tt (spec_l2Slide_tab F) (spec_l2Slide_LS0 F) 70 (spec_l2Slide_ls3 F) (loopAt 3 (bodyOf Try.f34)) n) k)).trans (congrArg (fun kn => spec_l2Slide_s3 F d0 b12 R (sum10, i11, out14) kn _) (funext (fun ⟨sum10, i11, out14⟩ => spec_l2Slide_iter3 F d0 b12 k n sum10 i11 out14))))
theorem spec_l2Slide_lok3 (F : Nat) : LoopOK Try.prog (loopAt 3 (bodyOf Try.f34)) (spec_l2Slide_ls3 F) := by
  refine loopOK_of mixed ttok deep (spec_l2Slide_tabok F) (loopsOK_at (spec_l2Slide_lsok0 F) 3) (fuel := 70) fun R vals mem np killed k x h => ?_
  simp only [spec_l2Slide_ls3] at h
  split at h
  · rename_i d0 sum10 i11 b12 q_t413 out14
    simp only [GT.run] at h
    have hc := (cond_noneL h).1
    replace h := (cond_noneL h).2
    have hg := (and_split hc).1
    replace hc := (and_split hc).2
    obtain rfl := beq_li hg
    refine ⟨F, (spec_l2Slide_iter3 F d0 b12 k F sum10 i11 out14).trans ((loopC_use (spec_l2Slide_s3_nat F d0 b12) hc _).trans h)⟩
  · simp only [GT.run] at h
    cases h
noncomputable def spec_l2Slide_LS1 (F : Nat) : LT := (3, spec_l2Slide_ls3 F) :: spec_l2Slide_LS0 F
theorem spec_l2Slide_lsok1 (F : Nat) : LoopsOK Try.prog (spec_l2Slide_LS1 F) (bodyOf Try.f34) := loopsOK_cons spec_l2Slide_keys (spec_l2Slide_lok3 F) (spec_l2Slide_lsok0 F)
theorem spec_l2Slide_run (F : Nat) (b0 : List Int) (d1 : Int) : runS tt (spec_l2Slide_tab F) (spec_l2Slide_LS1 F) [] [] Try.f34 (bodyOf Try.f34) 70 [(.ints 16 b0), (.int .i64 d1)] [] = spec_l2Slide_c _ F b0 d1 (fun r => some ⟨(.tup [(.ints 16 r.1), (.int .i64 r.2)]), [], []⟩) := by kernel_rfl
def spec_l2Slide_ent (F : Nat) : Ent := ⟨[], .quiet, fun args mem => match args, mem with
  | [(.ints 16 b0), (.int .i64 d1)], [] => some ((spec_l2Slide_p F b0 d1).isSome, ⟨(.tup [(.ints 16 ((spec_l2Slide_p F b0 d1).getD default).1), (.int .i64 ((spec_l2Slide_p F b0 d1).getD default).2)]), [], []⟩)
  | _, _ => none⟩
theorem spec_l2Slide_fok : FunOK Try.prog 34 := funOK Try.func34 (by kernel_rfl) rfl
theorem spec_l2Slide_meets (F : Nat) : Meets Try.prog 34 (spec_l2Slide_ent F) := by
  refine meets_of_runS mixed ttok deep (spec_l2Slide_tabok F) Try.func34 (body_some rfl) (spec_l2Slide_lsok1 F) fun args mem hfit ret h => ?_
  clear hfit
  simp only [spec_l2Slide_ent] at h
  split at h
  · rename_i b0 d1
    simp only [Option.some.injEq, Prod.mk.injEq] at h
    obtain ⟨hc, rfl⟩ := h
    exact ⟨[], [], 70, _, (spec_l2Slide_run F b0 d1).trans ((spec_l2Slide_cp _ F b0 d1 _).trans (bind_use hc _)), rfl, rfl, rfl⟩
  · cases h

/-! loop.example/g01194/spec.l2Moves -/
noncomputable def spec_l2Moves_tab (F : Nat) : Tab := [(34, (spec_l2Slide_ent F))]
theorem spec_l2Moves_tabok (F : Nat) : TabOK Try.prog (spec_l2Moves_tab F) := (tab_cons (spec_l2Slide_meets F) spec_l2Slide_fok tab_nil)
noncomputable def spec_l2Moves_LS0 (F : Nat) : LT := []
theorem spec_l2Moves_lsok0 (F : Nat) : LoopsOK Try.prog (spec_l2Moves_LS0 F) (bodyOf Try.f24) := loopsOK_nil
theorem spec_l2Moves_keys : keysOK (bodyOf Try.f24) = true := by kernel_rfl
def spec_l2Moves_st3 (b6 : List Int) (d5 : Int) (out7 : List Int) : St := ⟨expand 26 0 [1, 3, 4] [(.ptr 0 0 0 16), (.sl 1 0 (List.length out7)), (.int .i64 d5)], [(.var 16 (.ri .i64 b6)), (.vec 3 (.ri .i64 out7))], 0, []⟩
def spec_l2Moves_o3 (b6 : List Int) (x : List Int) : GT := (.out (.exit 0 ⟨expand 26 0 [3] [(.sl 0 0 (List.length x))], [(.vec 3 (.ri .i64 x))], 0, []⟩))
def spec_l2Moves_ls3 (F : Nat) : LoopS := ⟨26, [1, 3, 4], [], [3], [], [2], [], [], fun vals mem np killed => match vals, mem, np, killed with
  | [(.ptr 0 0 0 16), (.sl 1 0 q_out4), (.int .i64 d5)], [(.var 16 (.ri .i64 b6)), (.vec 3 (.ri .i64 out7))], 0, [] => .br ((Nat.beq q_out4 (List.length out7)) && (spec_l2Moves_l3 F b6 d5 out7).isSome) (spec_l2Moves_o3 b6 ((spec_l2Moves_l3 F b6 d5 out7).getD default)) .fail
  | _, _, _, _ => .fail⟩
theorem spec_l2Moves_step3 (F : Nat) (b6 : List Int) (d5 : Int) (out7 : List Int) {R : Type} (k : Out → Option R) : stepS tt (spec_l2Moves_tab F) (spec_l2Moves_LS0 F) 70 (spec_l2Moves_ls3 F) (loopAt 3 (bodyOf Try.f24)) (spec_l2Moves_st3 b6 d5 out7) k = spec_l2Moves_s3 F b6 R (d5, out7) (fun s => k (.norm (spec_l2Moves_st3 b6 s.1 s.2))) (fun x => (spec_l2Moves_o3 b6 x).run k) := by kernel_rfl
theorem spec_l2Moves_iter3 (F : Nat) (b6 : List Int) {R : Type} (k : Out → Option R) : ∀ (n : Nat) (d5 : Int) (out7 : List Int), iterS tt (spec_l2Moves_tab F) (spec_l2Moves_LS0 F) 70 (spec_l2Moves_ls3 F) (loopAt 3 (bodyOf Try.f24)) n (spec_l2Moves_st3 b6 d5 out7) k = loopC (spec_l2Moves_s3 F b6) n (d5, out7) (fun x => (spec_l2Moves_o3 b6 x).run k)
  | 0, d5, out7 => rfl
  | n + 1, d5, out7 => (iterS_succ tt (spec_l2Moves_tab F) (spec_l2Moves_LS0 F) 70 (spec_l2Moves_ls3 F) (loopAt 3 (bodyOf Try.f24)) n (spec_l2Moves_st3 b6 d5 out7) k).trans ((spec_l2Moves_step3 F b6 d5 out7 (nextK (iterS tt (spec_l2Moves_tab F) (spec_l2Moves_LS0 F) 70 (spec_l2Moves_ls3 F) (loopAt 3 (bodyOf Try.f24)) n) k)).trans (congrArg (fun kn => spec_l2Moves_s3 F b6 R (d5, out7) kn _) (funext (fun ⟨d5, out7⟩ => spec_l2Moves_iter3 F b6 k n d5 out7))))
theorem spec_l2Moves_lok3 (F : Nat) : LoopOK Try.prog (loopAt 3 (bodyOf Try.f24)) (spec_l2Moves_ls3 F) := by
  refine loopOK_of mixed ttok deep (spec_l2Moves_tabok F) (loopsOK_at (spec_l2Moves_lsok0 F) 3) (fuel := 70) fun R vals mem np killed k x h => ?_
  simp only [spec_l2Moves_ls3] at h
  split at h
  · rename_i q_out4 d5 b6 out7
    simp only [GT.run] at h
    have hc := (cond_noneL h).1
    replace h := (cond_noneL h).2
    have hg := (and_split hc).1
    replace hc := (and_split hc).2
    obtain rfl := nbeq_nat hg
    refine ⟨F, (spec_l2Moves_iter3 F b6 k F d5 out7).trans ((loopC_use (spec_l2Moves_s3_nat F b6) hc _).trans h)⟩
  · simp only [GT.run] at h
    cases h
noncomputable def spec_l2Moves_LS1 (F : Nat) : LT := (3, spec_l2Moves_ls3 F) :: spec_l2Moves_LS0 F
theorem spec_l2Moves_lsok1 (F : Nat) : LoopsOK Try.prog (spec_l2Moves_LS1 F) (bodyOf Try.f24) := loopsOK_cons spec_l2Moves_keys (spec_l2Moves_lok3 F) (spec_l2Moves_lsok0 F)
theorem spec_l2Moves_run (F : Nat) (b0 : List Int) : runS tt (spec_l2Moves_tab F) (spec_l2Moves_LS1 F) [] [] Try.f24 (bodyOf Try.f24) 70 [(.ints 16 b0)] [] = spec_l2Moves_c _ F b0 (fun r => some ⟨(.sl 0 0 (List.length r)), [(.vec 3 (.ri .i64 r))], []⟩) := by kernel_rfl
def spec_l2Moves_ent (F : Nat) : Ent := ⟨[], .fresh, fun args mem => match args, mem with
  | [(.ints 16 b0)], [] => some ((spec_l2Moves_p F b0).isSome, ⟨(.sl 0 0 (List.length ((spec_l2Moves_p F b0).getD default))), [(.vec 3 (.ri .i64 ((spec_l2Moves_p F b0).getD default)))], []⟩)
  | _, _ => none⟩
theorem spec_l2Moves_fok : FunOK Try.prog 24 := funOK Try.func24 (by kernel_rfl) rfl
theorem spec_l2Moves_meets (F : Nat) : Meets Try.prog 24 (spec_l2Moves_ent F) := by
  refine meets_of_runS mixed ttok deep (spec_l2Moves_tabok F) Try.func24 (body_some rfl) (spec_l2Moves_lsok1 F) fun args mem hfit ret h => ?_
  clear hfit
  simp only [spec_l2Moves_ent] at h
  split at h
  · rename_i b0
    simp only [Option.some.injEq, Prod.mk.injEq] at h
    obtain ⟨hc, rfl⟩ := h
    exact ⟨[], [], 70, _, (spec_l2Moves_run F b0).trans ((spec_l2Moves_cp _ F b0 _).trans (bind_use hc _)), rfl, rfl, rfl⟩
  · cases h

/-! loop.example/g01194/spec.l9Score -/
noncomputable def spec_l9Score_n0_tab (F : Nat) : Tab := [(24, (spec_l2Moves_ent F))]
theorem spec_l9Score_n0_tabok (F : Nat) : TabOK Try.prog (spec_l9Score_n0_tab F) := (tab_cons (spec_l2Moves_meets F) spec_l2Moves_fok tab_nil)
noncomputable def spec_l9Score_n0_LS0 (F : Nat) : LT := []
theorem spec_l9Score_n0_lsok0 (F : Nat) : LoopsOK Try.prog (spec_l9Score_n0_LS0 F) (bodyOf Try.f19) := loopsOK_nil
theorem spec_l9Score_n0_keys : keysOK (bodyOf Try.f19) = true := by kernel_rfl
def spec_l9Score_n0_st3 (b13 : List Int) (moves16 : List Int) : St := ⟨expand 78 0 [1, 2, 4, 5, 6, 7] [(.int .i64 (0 : Int)), (.ptr 0 0 0 16), (.ptr 1 0 0 2), (.ptr 2 0 0 2), (.sl 3 0 (List.length moves16)), (.int .i64 (0 : Int))], [(.var 16 (.ri .i64 b13)), (.var 2 (.ri .i64 [(0 : Int), (0 : Int)])), (.var 2 (.ri .i64 [(0 : Int), (1 : Int)])), (.vec 3 (.ri .i64 moves16))], 0, []⟩
def spec_l9Score_n0_o3 (b13 : List Int) (moves16 : List Int) (x : Unit) : GT := (.out (.exit 0 ⟨expand 78 0 [4, 5] [(.ptr 0 0 0 2), (.ptr 1 0 0 2)], [(.var 2 (.ri .i64 [(0 : Int), (0 : Int)])), (.var 2 (.ri .i64 [(0 : Int), (1 : Int)]))], 0, []⟩))
def spec_l9Score_n0_ls3 (F : Nat) : LoopS := ⟨78, [1, 2, 4, 5, 6, 7], [], [4, 5], [], [4], [], [], fun vals mem np killed => match vals, mem, np, killed with
  | [(.int .i64 q_n0), (.ptr 0 0 0 16), (.ptr 1 0 0 2), (.ptr 2 0 0 2), (.sl 3 0 q_moves11), (.int .i64 q_i12)], [(.var 16 (.ri .i64 b13)), (.var 2 (.ri .i64 q_t414)), (.var 2 (.ri .i64 q_best15)), (.vec 3 (.ri .i64 moves16))], 0, [] => .br ((q_n0 == (0 : Int)) && ((q_i12 == (0 : Int)) && ((q_t414 == ([(0 : Int), (0 : Int)] : List Int)) && ((q_best15 == ([(0 : Int), (1 : Int)] : List Int)) && ((Nat.beq q_moves11 (List.length moves16)) && (spec_l9Score_n0_l3 F b13 moves16).isSome))))) (spec_l9Score_n0_o3 b13 moves16 ((spec_l9Score_n0_l3 F b13 moves16).getD default)) .fail
  | _, _, _, _ => .fail⟩
theorem spec_l9Score_n0_step3 (F : Nat) (b13 : List Int) (moves16 : List Int) {R : Type} (k : Out → Option R) : stepS tt (spec_l9Score_n0_tab F) (spec_l9Score_n0_LS0 F) 70 (spec_l9Score_n0_ls3 F) (loopAt 3 (bodyOf Try.f19)) (spec_l9Score_n0_st3 b13 moves16) k = spec_l9Score_n0_s3 F b13 moves16 R () (fun s => k (.norm (spec_l9Score_n0_st3 b13 moves16))) (fun x => (spec_l9Score_n0_o3 b13 moves16 x).run k) := by kernel_rfl
theorem spec_l9Score_n0_iter3 (F : Nat) (b13 : List Int) (moves16 : List Int) {R : Type} (k : Out → Option R) : ∀ (n : Nat), iterS tt (spec_l9Score_n0_tab F) (spec_l9Score_n0_LS0 F) 70 (spec_l9Score_n0_ls3 F) (loopAt 3 (bodyOf Try.f19)) n (spec_l9Score_n0_st3 b13 moves16) k = loopC (spec_l9Score_n0_s3 F b13 moves16) n () (fun x => (spec_l9Score_n0_o3 b13 moves16 x).run k)
  | 0 => rfl
  | n + 1 => (iterS_succ tt (spec_l9Score_n0_tab F) (spec_l9Score_n0_LS0 F) 70 (spec_l9Score_n0_ls3 F) (loopAt 3 (bodyOf Try.f19)) n (spec_l9Score_n0_st3 b13 moves16) k).trans ((spec_l9Score_n0_step3 F b13 moves16 (nextK (iterS tt (spec_l9Score_n0_tab F) (spec_l9Score_n0_LS0 F) 70 (spec_l9Score_n0_ls3 F) (loopAt 3 (bodyOf Try.f19)) n) k)).trans (congrArg (fun kn => spec_l9Score_n0_s3 F b13 moves16 R () kn _) (funext (fun _ => spec_l9Score_n0_iter3 F b13 moves16 k n))))
theorem spec_l9Score_n0_lok3 (F : Nat) : LoopOK Try.prog (loopAt 3 (bodyOf Try.f19)) (spec_l9Score_n0_ls3 F) := by
  refine loopOK_of mixed ttok deep (spec_l9Score_n0_tabok F) (loopsOK_at (spec_l9Score_n0_lsok0 F) 3) (fuel := 70) fun R vals mem np killed k x h => ?_
  simp only [spec_l9Score_n0_ls3] at h
  split at h
  · rename_i q_n0 q_moves11 q_i12 b13 q_t414 q_best15 moves16
    simp only [GT.run] at h
    have hc := (cond_noneL h).1
    replace h := (cond_noneL h).2
    have hg := (and_split hc).1
    replace hc := (and_split hc).2
    obtain rfl := beq_int hg
    have hg := (and_split hc).1
    replace hc := (and_split hc).2
    obtain rfl := beq_int hg
    have hg := (and_split hc).1
    replace hc := (and_split hc).2
    obtain rfl := beq_li hg
    have hg := (and_split hc).1
    replace hc := (and_split hc).2
    obtain rfl := beq_li hg
    have hg := (and_split hc).1
    replace hc := (and_split hc).2
    obtain rfl := nbeq_nat hg
    refine ⟨F, (spec_l9Score_n0_iter3 F b13 moves16 k F).trans ((loopC_use (spec_l9Score_n0_s3_nat F b13 moves16) hc _).trans h)⟩
  · simp only [GT.run] at h
    cases h
noncomputable def spec_l9Score_n0_LS1 (F : Nat) : LT := (3, spec_l9Score_n0_ls3 F) :: spec_l9Score_n0_LS0 F
theorem spec_l9Score_n0_lsok1 (F : Nat) : LoopsOK Try.prog (spec_l9Score_n0_LS1 F) (bodyOf Try.f19) := loopsOK_cons spec_l9Score_n0_keys (spec_l9Score_n0_lok3 F) (spec_l9Score_n0_lsok0 F)
theorem spec_l9Score_n0_run (F : Nat) (b0 : List Int) : runS tt (spec_l9Score_n0_tab F) (spec_l9Score_n0_LS1 F) [] [] Try.f19 (bodyOf Try.f19) 70 [(.ints 16 b0), (.int .i64 (0 : Int))] [] = spec_l9Score_n0_c _ F b0 (fun r => some ⟨(.ints 2 [(0 : Int), (1 : Int)]), [], []⟩) := by kernel_rfl
def spec_l9Score_n0_ent (F : Nat) : Ent := ⟨[], .quiet, fun args mem => match args, mem with
  | [(.ints 16 b0), (.int .i64 q_n1)], [] => bif (q_n1 == (0 : Int)) then some ((spec_l9Score_n0_p F b0).isSome, ⟨(.ints 2 [(0 : Int), (1 : Int)]), [], []⟩) else none
  | _, _ => none⟩
theorem spec_l9Score_n0_fok : FunOK Try.prog 19 := funOK Try.func19 (by kernel_rfl) rfl
theorem spec_l9Score_n0_meets (F : Nat) : Meets Try.prog 19 (spec_l9Score_n0_ent F) := by
  refine meets_of_runS mixed ttok deep (spec_l9Score_n0_tabok F) Try.func19 (body_some rfl) (spec_l9Score_n0_lsok1 F) fun args mem hfit ret h => ?_
  clear hfit
  simp only [spec_l9Score_n0_ent] at h
  split at h
  · rename_i b0 q_n1
    have hg0 := (cond_noneL h).1
    replace h := (cond_noneL h).2
    obtain rfl := beq_int hg0
    simp only [Option.some.injEq, Prod.mk.injEq] at h
    obtain ⟨hc, rfl⟩ := h
    exact ⟨[], [], 70, _, (spec_l9Score_n0_run F b0).trans ((spec_l9Score_n0_cp _ F b0 _).trans (bind_use hc _)), rfl, rfl, rfl⟩
  · cases h

/-! loop.example/g01194/spec.l9Less -/
noncomputable def spec_l9Less_tab (F : Nat) : Tab := []
theorem spec_l9Less_tabok (F : Nat) : TabOK Try.prog (spec_l9Less_tab F) := tab_nil
noncomputable def spec_l9Less_LS0 (F : Nat) : LT := []
theorem spec_l9Less_lsok0 (F : Nat) : LoopsOK Try.prog (spec_l9Less_LS0 F) (bodyOf Try.f40) := loopsOK_nil
theorem spec_l9Less_run (F : Nat) (a0 : List Int) (b1 : List Int) : runS tt (spec_l9Less_tab F) (spec_l9Less_LS0 F) [] [] Try.f40 (bodyOf Try.f40) 70 [(.ints 2 a0), (.ints 2 b1)] [] = spec_l9Less_c _ a0 b1 (fun r => some ⟨(.bool r), [], []⟩) := by kernel_rfl
def spec_l9Less_ent (F : Nat) : Ent := ⟨[], .quiet, fun args mem => match args, mem with
  | [(.ints 2 a0), (.ints 2 b1)], [] => some (true, ⟨(.bool (spec_l9Less_v a0 b1)), [], []⟩)
  | _, _ => none⟩
theorem spec_l9Less_fok : FunOK Try.prog 40 := funOK Try.func40 (by kernel_rfl) rfl
theorem spec_l9Less_meets (F : Nat) : Meets Try.prog 40 (spec_l9Less_ent F) := by
  refine meets_of_runS mixed ttok deep (spec_l9Less_tabok F) Try.func40 (body_some rfl) (spec_l9Less_lsok0 F) fun args mem hfit ret h => ?_
  clear hfit
  simp only [spec_l9Less_ent] at h
  split at h
  · rename_i a0 b1
    simp only [Option.some.injEq, Prod.mk.injEq] at h
    obtain ⟨hc, rfl⟩ := h
    exact ⟨[], [], 70, _, (spec_l9Less_run F a0 b1).trans (spec_l9Less_cv _ a0 b1 _), rfl, rfl, rfl⟩
  · cases h

/-! loop.example/g01194/spec.l9Score -/
noncomputable def spec_l9Score_n1_tab (F : Nat) : Tab := [(24, (spec_l2Moves_ent F)), (34, (spec_l2Slide_ent F)), (40, (spec_l9Less_ent F))]
theorem spec_l9Score_n1_tabok (F : Nat) : TabOK Try.prog (spec_l9Score_n1_tab F) := (tab_cons (spec_l2Moves_meets F) spec_l2Moves_fok (tab_cons (spec_l2Slide_meets F) spec_l2Slide_fok (tab_cons (spec_l9Less_meets F) spec_l9Less_fok tab_nil)))
noncomputable def spec_l9Score_n1_LS0 (F : Nat) : LT := []
theorem spec_l9Score_n1_lsok0 (F : Nat) : LoopsOK Try.prog (spec_l9Score_n1_LS0 F) (bodyOf Try.f19) := loopsOK_nil
theorem spec_l9Score_n1_keys : keysOK (bodyOf Try.f19) = true := by kernel_rfl
def spec_l9Score_n1_st3 (b13 : List Int) (moves16 : List Int) (i12 : Int) (best15 : List Int) : St := ⟨expand 78 0 [1, 2, 4, 5, 6, 7] [(.int .i64 (1 : Int)), (.ptr 0 0 0 16), (.ptr 1 0 0 2), (.ptr 2 0 0 2), (.sl 3 0 (List.length moves16)), (.int .i64 i12)], [(.var 16 (.ri .i64 b13)), (.var 2 (.ri .i64 [(0 : Int), (0 : Int)])), (.var 2 (.ri .i64 best15)), (.vec 3 (.ri .i64 moves16))], 0, []⟩
def spec_l9Score_n1_o3 (b13 : List Int) (moves16 : List Int) (x : List Int) : GT := (.out (.exit 0 ⟨expand 78 0 [4, 5] [(.ptr 0 0 0 2), (.ptr 1 0 0 2)], [(.var 2 (.ri .i64 [(0 : Int), (0 : Int)])), (.var 2 (.ri .i64 x))], 0, []⟩))
def spec_l9Score_n1_ls3 (F : Nat) : LoopS := ⟨78, [1, 2, 4, 5, 6, 7], [], [4, 5], [], [4], [], [], fun vals mem np killed => match vals, mem, np, killed with
  | [(.int .i64 q_n0), (.ptr 0 0 0 16), (.ptr 1 0 0 2), (.ptr 2 0 0 2), (.sl 3 0 q_moves11), (.int .i64 i12)], [(.var 16 (.ri .i64 b13)), (.var 2 (.ri .i64 q_t414)), (.var 2 (.ri .i64 best15)), (.vec 3 (.ri .i64 moves16))], 0, [] => .br ((q_n0 == (1 : Int)) && ((q_t414 == ([(0 : Int), (0 : Int)] : List Int)) && ((Nat.beq q_moves11 (List.length moves16)) && (spec_l9Score_n1_l3 F b13 moves16 i12 best15).isSome))) (spec_l9Score_n1_o3 b13 moves16 ((spec_l9Score_n1_l3 F b13 moves16 i12 best15).getD default)) .fail
  | _, _, _, _ => .fail⟩
theorem spec_l9Score_n1_step3 (F : Nat) (b13 : List Int) (moves16 : List Int) (i12 : Int) (best15 : List Int) {R : Type} (k : Out → Option R) : stepS tt (spec_l9Score_n1_tab F) (spec_l9Score_n1_LS0 F) 70 (spec_l9Score_n1_ls3 F) (loopAt 3 (bodyOf Try.f19)) (spec_l9Score_n1_st3 b13 moves16 i12 best15) k = spec_l9Score_n1_s3 F b13 moves16 R (i12, best15) (fun s => k (.norm (spec_l9Score_n1_st3 b13 moves16 s.1 s.2))) (fun x => (spec_l9Score_n1_o3 b13 moves16 x).run k) := by kernel_rfl
theorem spec_l9Score_n1_iter3 (F : Nat) (b13 : List Int) (moves16 : List Int) {R : Type} (k : Out → Option R) : ∀ (n : Nat) (i12 : Int) (best15 : List Int), iterS tt (spec_l9Score_n1_tab F) (spec_l9Score_n1_LS0 F) 70 (spec_l9Score_n1_ls3 F) (loopAt 3 (bodyOf Try.f19)) n (spec_l9Score_n1_st3 b13 moves16 i12 best15) k = loopC (spec_l9Score_n1_s3 F b13 moves16) n (i12, best15) (fun x => (spec_l9Score_n1_o3 b13 moves16 x).run k)
  | 0, i12, best15 => rfl
  | n + 1, i12, best15 => (iterS_succ tt (spec_l9Score_n1_tab F) (spec_l9Score_n1_LS0 F) 70 (spec_l9Score_n1_ls3 F) (loopAt 3 (bodyOf Try.f19)) n (spec_l9Score_n1_st3 b13 moves16 i12 best15) k).trans ((spec_l9Score_n1_step3 F b13 moves16 i12 best15 (nextK (iterS tt (spec_l9Score_n1_tab F) (spec_l9Score_n1_LS0 F) 70 (spec_l9Score_n1_ls3 F) (loopAt 3 (bodyOf Try.f19)) n) k)).trans (congrArg (fun kn => spec_l9Score_n1_s3 F b13 moves16 R (i12, best15) kn _) (funext (fun ⟨i12, best15⟩ => spec_l9Score_n1_iter3 F b13 moves16 k n i12 best15))))
theorem spec_l9Score_n1_lok3 (F : Nat) : LoopOK Try.prog (loopAt 3 (bodyOf Try.f19)) (spec_l9Score_n1_ls3 F) := by
  refine loopOK_of mixed ttok deep (spec_l9Score_n1_tabok F) (loopsOK_at (spec_l9Score_n1_lsok0 F) 3) (fuel := 70) fun R vals mem np killed k x h => ?_
  simp only [spec_l9Score_n1_ls3] at h
  split at h
  · rename_i q_n0 q_moves11 i12 b13 q_t414 best15 moves16
    simp only [GT.run] at h
    have hc := (cond_noneL h).1
    replace h := (cond_noneL h).2
    have hg := (and_split hc).1
    replace hc := (and_split hc).2
    obtain rfl := beq_int hg
    have hg := (and_split hc).1
    replace hc := (and_split hc).2
    obtain rfl := beq_li hg
    have hg := (and_split hc).1
    replace hc := (and_split hc).2
    obtain rfl := nbeq_nat hg
    refine ⟨F, (spec_l9Score_n1_iter3 F b13 moves16 k F i12 best15).trans ((loopC_use (spec_l9Score_n1_s3_nat F b13 moves16) hc _).trans h)⟩
  · simp only [GT.run] at h
    cases h
noncomputable def spec_l9Score_n1_LS1 (F : Nat) : LT := (3, spec_l9Score_n1_ls3 F) :: spec_l9Score_n1_LS0 F
theorem spec_l9Score_n1_lsok1 (F : Nat) : LoopsOK Try.prog (spec_l9Score_n1_LS1 F) (bodyOf Try.f19) := loopsOK_cons spec_l9Score_n1_keys (spec_l9Score_n1_lok3 F) (spec_l9Score_n1_lsok0 F)
theorem spec_l9Score_n1_run (F : Nat) (b0 : List Int) : runS tt (spec_l9Score_n1_tab F) (spec_l9Score_n1_LS1 F) [] [] Try.f19 (bodyOf Try.f19) 70 [(.ints 16 b0), (.int .i64 (1 : Int))] [] = spec_l9Score_n1_c _ F b0 (fun r => some ⟨(.ints 2 r), [], []⟩) := by kernel_rfl
def spec_l9Score_n1_ent (F : Nat) : Ent := ⟨[], .quiet, fun args mem => match args, mem with
  | [(.ints 16 b0), (.int .i64 q_n1)], [] => bif (q_n1 == (1 : Int)) then some ((spec_l9Score_n1_p F b0).isSome, ⟨(.ints 2 ((spec_l9Score_n1_p F b0).getD default)), [], []⟩) else none
  | _, _ => none⟩
theorem spec_l9Score_n1_fok : FunOK Try.prog 19 := funOK Try.func19 (by kernel_rfl) rfl
theorem spec_l9Score_n1_meets (F : Nat) : Meets Try.prog 19 (spec_l9Score_n1_ent F) := by
  refine meets_of_runS mixed ttok deep (spec_l9Score_n1_tabok F) Try.func19 (body_some rfl) (spec_l9Score_n1_lsok1 F) fun args mem hfit ret h => ?_
  clear hfit
  simp only [spec_l9Score_n1_ent] at h
  split at h
  · rename_i b0 q_n1
    have hg0 := (cond_noneL h).1
    replace h := (cond_noneL h).2
    obtain rfl := beq_int hg0
    simp only [Option.some.injEq, Prod.mk.injEq] at h
    obtain ⟨hc, rfl⟩ := h
    exact ⟨[], [], 70, _, (spec_l9Score_n1_run F b0).trans ((spec_l9Score_n1_cp _ F b0 _).trans (bind_use hc _)), rfl, rfl, rfl⟩
  · cases h
end Go.Proofs.Ytloemkielkdegaa
