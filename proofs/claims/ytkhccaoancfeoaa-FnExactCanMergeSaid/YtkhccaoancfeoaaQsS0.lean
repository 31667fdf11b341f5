/-
Pure functions and what the code of them does, by program; without conditions.
-/
import Derived.Test.YtkhccaoancfeoaaQsP0
import Derived.Test.YtkhccaoancfeoaaQsA
namespace Go.Proofs.Ytkhccaoancfeoaa
open Go Go.Lv Go.Lv.P Go.Proofs
set_option linter.unusedVariables false
set_option linter.unusedSimpArgs false
set_option maxRecDepth 100000
/-! loop.example/g01194/laws.toIntA4 -/
noncomputable def laws_toIntA4_tab (F : Nat) : Tab := []
theorem laws_toIntA4_tabok (F : Nat) : TabOK Try.prog (laws_toIntA4_tab F) := tab_nil
noncomputable def laws_toIntA4_LS0 (F : Nat) : LT := []
theorem laws_toIntA4_lsok0 (F : Nat) : LoopsOK Try.prog (laws_toIntA4_LS0 F) (bodyOf Try.f25) := loopsOK_nil
theorem laws_toIntA4_run (F : Nat) (a0 : List Int) : runS tt (laws_toIntA4_tab F) (laws_toIntA4_LS0 F) [] [] Try.f25 (bodyOf Try.f25) 70 [(.ints 4 a0)] [] = laws_toIntA4_c _ a0 (fun r => some ⟨(.ints 4 r), [], []⟩) := by kernel_rfl
def laws_toIntA4_ent (F : Nat) : Ent := ⟨[], .quiet, fun args mem => match args, mem with
  | [(.ints 4 a0)], [] => some (true, ⟨(.ints 4 (laws_toIntA4_v a0)), [], []⟩)
  | _, _ => none⟩
theorem laws_toIntA4_fok : FunOK Try.prog 25 := funOK Try.func25 (by kernel_rfl) rfl
theorem laws_toIntA4_meets (F : Nat) : Meets Try.prog 25 (laws_toIntA4_ent F) := by
  refine meets_of_runS mixed ttok deep (laws_toIntA4_tabok F) Try.func25 (body_some rfl) (laws_toIntA4_lsok0 F) fun args mem hfit ret h => ?_
  clear hfit
  simp only [laws_toIntA4_ent] at h
  split at h
  · rename_i a0
    simp only [Option.some.injEq, Prod.mk.injEq] at h
    obtain ⟨hc, rfl⟩ := h
    exact ⟨[], [], 70, _, (laws_toIntA4_run F a0).trans (laws_toIntA4_cv _ a0 _), rfl, rfl, rfl⟩
  · cases h

/-! loop.example/g01194/laws.toIntA4A4 -/
noncomputable def laws_toIntA4A4_tab (F : Nat) : Tab := [(25, (laws_toIntA4_ent F))]
theorem laws_toIntA4A4_tabok (F : Nat) : TabOK Try.prog (laws_toIntA4A4_tab F) := (tab_cons (laws_toIntA4_meets F) laws_toIntA4_fok tab_nil)
noncomputable def laws_toIntA4A4_LS0 (F : Nat) : LT := []
theorem laws_toIntA4A4_lsok0 (F : Nat) : LoopsOK Try.prog (laws_toIntA4A4_LS0 F) (bodyOf Try.f17) := loopsOK_nil
theorem laws_toIntA4A4_run (F : Nat) (a0 : List Int) : runS tt (laws_toIntA4A4_tab F) (laws_toIntA4A4_LS0 F) [] [] Try.f17 (bodyOf Try.f17) 70 [(.ints 16 a0)] [] = laws_toIntA4A4_c _ a0 (fun r => some ⟨(.ints 16 r), [], []⟩) := by kernel_rfl
def laws_toIntA4A4_ent (F : Nat) : Ent := ⟨[], .quiet, fun args mem => match args, mem with
  | [(.ints 16 a0)], [] => some (true, ⟨(.ints 16 (laws_toIntA4A4_v a0)), [], []⟩)
  | _, _ => none⟩
theorem laws_toIntA4A4_fok : FunOK Try.prog 17 := funOK Try.func17 (by kernel_rfl) rfl
theorem laws_toIntA4A4_meets (F : Nat) : Meets Try.prog 17 (laws_toIntA4A4_ent F) := by
  refine meets_of_runS mixed ttok deep (laws_toIntA4A4_tabok F) Try.func17 (body_some rfl) (laws_toIntA4A4_lsok0 F) fun args mem hfit ret h => ?_
  clear hfit
  simp only [laws_toIntA4A4_ent] at h
  split at h
  · rename_i a0
    simp only [Option.some.injEq, Prod.mk.injEq] at h
    obtain ⟨hc, rfl⟩ := h
    exact ⟨[], [], 70, _, (laws_toIntA4A4_run F a0).trans (laws_toIntA4A4_cv _ a0 _), rfl, rfl, rfl⟩
  · cases h

/-! loop.example/g01194/laws.toBoard -/
noncomputable def laws_toBoard_tab (F : Nat) : Tab := [(17, (laws_toIntA4A4_ent F))]
theorem laws_toBoard_tabok (F : Nat) : TabOK Try.prog (laws_toBoard_tab F) := (tab_cons (laws_toIntA4A4_meets F) laws_toIntA4A4_fok tab_nil)
noncomputable def laws_toBoard_LS0 (F : Nat) : LT := []
theorem laws_toBoard_lsok0 (F : Nat) : LoopsOK Try.prog (laws_toBoard_LS0 F) (bodyOf Try.f6) := loopsOK_nil
theorem laws_toBoard_run (F : Nat) (a0 : List Int) : runS tt (laws_toBoard_tab F) (laws_toBoard_LS0 F) [] [] Try.f6 (bodyOf Try.f6) 70 [(.ints 16 a0)] [] = laws_toBoard_c _ a0 (fun r => some ⟨(.ints 16 r), [], []⟩) := by kernel_rfl
def laws_toBoard_ent (F : Nat) : Ent := ⟨[], .quiet, fun args mem => match args, mem with
  | [(.ints 16 a0)], [] => some (true, ⟨(.ints 16 (laws_toBoard_v a0)), [], []⟩)
  | _, _ => none⟩
theorem laws_toBoard_fok : FunOK Try.prog 6 := funOK Try.func6 (by kernel_rfl) rfl
theorem laws_toBoard_meets (F : Nat) : Meets Try.prog 6 (laws_toBoard_ent F) := by
  refine meets_of_runS mixed ttok deep (laws_toBoard_tabok F) Try.func6 (body_some rfl) (laws_toBoard_lsok0 F) fun args mem hfit ret h => ?_
  clear hfit
  simp only [laws_toBoard_ent] at h
  split at h
  · rename_i a0
    simp only [Option.some.injEq, Prod.mk.injEq] at h
    obtain ⟨hc, rfl⟩ := h
    exact ⟨[], [], 70, _, (laws_toBoard_run F a0).trans (laws_toBoard_cv _ a0 _), rfl, rfl, rfl⟩
  · cases h

/-! loop.example/g01194/spec.l1In -/
noncomputable def spec_l1In_tab (F : Nat) : Tab := []
theorem spec_l1In_tabok (F : Nat) : TabOK Try.prog (spec_l1In_tab F) := tab_nil
noncomputable def spec_l1In_LS0 (F : Nat) : LT := []
theorem spec_l1In_lsok0 (F : Nat) : LoopsOK Try.prog (spec_l1In_LS0 F) (bodyOf Try.f20) := loopsOK_nil
theorem spec_l1In_run (F : Nat) (x0 : Int) (a1 : Int) (b2 : Int) : runS tt (spec_l1In_tab F) (spec_l1In_LS0 F) [] [] Try.f20 (bodyOf Try.f20) 70 [(.int .i64 x0), (.int .i64 a1), (.int .i64 b2)] [] = spec_l1In_c _ x0 a1 b2 (fun r => some ⟨(.bool r), [], []⟩) := by kernel_rfl
def spec_l1In_ent (F : Nat) : Ent := ⟨[], .quiet, fun args mem => match args, mem with
  | [(.int .i64 x0), (.int .i64 a1), (.int .i64 b2)], [] => some (true, ⟨(.bool (spec_l1In_v x0 a1 b2)), [], []⟩)
  | _, _ => none⟩
theorem spec_l1In_fok : FunOK Try.prog 20 := funOK Try.func20 (by kernel_rfl) rfl
theorem spec_l1In_meets (F : Nat) : Meets Try.prog 20 (spec_l1In_ent F) := by
  refine meets_of_runS mixed ttok deep (spec_l1In_tabok F) Try.func20 (body_some rfl) (spec_l1In_lsok0 F) fun args mem hfit ret h => ?_
  clear hfit
  simp only [spec_l1In_ent] at h
  split at h
  · rename_i x0 a1 b2
    simp only [Option.some.injEq, Prod.mk.injEq] at h
    obtain ⟨hc, rfl⟩ := h
    exact ⟨[], [], 70, _, (spec_l1In_run F x0 a1 b2).trans (spec_l1In_cv _ x0 a1 b2 _), rfl, rfl, rfl⟩
  · cases h

/-! loop.example/g01194/spec.l2Board -/
noncomputable def spec_l2Board_tab (F : Nat) : Tab := [(20, (spec_l1In_ent F))]
theorem spec_l2Board_tabok (F : Nat) : TabOK Try.prog (spec_l2Board_tab F) := (tab_cons (spec_l1In_meets F) spec_l1In_fok tab_nil)
noncomputable def spec_l2Board_LS0 (F : Nat) : LT := []
theorem spec_l2Board_lsok0 (F : Nat) : LoopsOK Try.prog (spec_l2Board_LS0 F) (bodyOf Try.f13) := loopsOK_nil
theorem spec_l2Board_keys : keysOK (bodyOf Try.f13) = true := by kernel_rfl
def spec_l2Board_st5 (r3 : Int) (b5 : List Int) (c4 : Int) : St := ⟨expand 21 0 [1, 3, 4] [(.ptr 0 0 0 16), (.int .i64 r3), (.int .i64 c4)], [(.var 16 (.ri .i64 b5))], 0, []⟩
def spec_l2Board_o5 (r3 : Int) (b5 : List Int) (x : Bool) : GT := (.br x (.out (.ret ⟨expand 21 0 [2] [(.bool false)], [], 0, []⟩)) (.out (.exit 2 ⟨expand 21 0 [1, 3] [(.ptr 0 0 0 16), (.int .i64 r3)], [(.var 16 (.ri .i64 b5))], 0, []⟩)))
def spec_l2Board_ls5 (F : Nat) : LoopS := ⟨21, [1, 3, 4], [], [1, 3], [], [2], [], [], fun vals mem np killed => match vals, mem, np, killed with
  | [(.ptr 0 0 0 16), (.int .i64 r3), (.int .i64 c4)], [(.var 16 (.ri .i64 b5))], 0, [] => .br (spec_l2Board_l5 F r3 b5 c4).isSome (spec_l2Board_o5 r3 b5 ((spec_l2Board_l5 F r3 b5 c4).getD default)) .fail
  | _, _, _, _ => .fail⟩
theorem spec_l2Board_step5 (F : Nat) (r3 : Int) (b5 : List Int) (c4 : Int) {R : Type} (k : Out → Option R) : stepS tt (spec_l2Board_tab F) (spec_l2Board_LS0 F) 70 (spec_l2Board_ls5 F) (loopAt 5 (bodyOf Try.f13)) (spec_l2Board_st5 r3 b5 c4) k = spec_l2Board_s5 F r3 b5 R c4 (fun s => k (.norm (spec_l2Board_st5 r3 b5 s))) (fun x => (spec_l2Board_o5 r3 b5 x).run k) := by kernel_rfl
theorem spec_l2Board_iter5 (F : Nat) (r3 : Int) (b5 : List Int) {R : Type} (k : Out → Option R) : ∀ (n : Nat) (c4 : Int), iterS tt (spec_l2Board_tab F) (spec_l2Board_LS0 F) 70 (spec_l2Board_ls5 F) (loopAt 5 (bodyOf Try.f13)) n (spec_l2Board_st5 r3 b5 c4) k = loopC (spec_l2Board_s5 F r3 b5) n c4 (fun x => (spec_l2Board_o5 r3 b5 x).run k)
  | 0, c4 => rfl
  | n + 1, c4 => (iterS_succ tt (spec_l2Board_tab F) (spec_l2Board_LS0 F) 70 (spec_l2Board_ls5 F) (loopAt 5 (bodyOf Try.f13)) n (spec_l2Board_st5 r3 b5 c4) k).trans ((spec_l2Board_step5 F r3 b5 c4 (nextK (iterS tt (spec_l2Board_tab F) (spec_l2Board_LS0 F) 70 (spec_l2Board_ls5 F) (loopAt 5 (bodyOf Try.f13)) n) k)).trans (congrArg (fun kn => spec_l2Board_s5 F r3 b5 R c4 kn _) (funext (fun c4 => spec_l2Board_iter5 F r3 b5 k n c4))))
theorem spec_l2Board_lok5 (F : Nat) : LoopOK Try.prog (loopAt 5 (bodyOf Try.f13)) (spec_l2Board_ls5 F) := by
  refine loopOK_of mixed ttok deep (spec_l2Board_tabok F) (loopsOK_at (spec_l2Board_lsok0 F) 5) (fuel := 70) fun R vals mem np killed k x h => ?_
  simp only [spec_l2Board_ls5] at h
  split at h
  · rename_i r3 c4 b5
    simp only [GT.run] at h
    have hc := (cond_noneL h).1
    replace h := (cond_noneL h).2
    refine ⟨F, (spec_l2Board_iter5 F r3 b5 k F c4).trans ((loopC_use (spec_l2Board_s5_nat F r3 b5) hc _).trans h)⟩
  · simp only [GT.run] at h
    cases h
noncomputable def spec_l2Board_LS1 (F : Nat) : LT := (5, spec_l2Board_ls5 F) :: spec_l2Board_LS0 F
theorem spec_l2Board_lsok1 (F : Nat) : LoopsOK Try.prog (spec_l2Board_LS1 F) (bodyOf Try.f13) := loopsOK_cons spec_l2Board_keys (spec_l2Board_lok5 F) (spec_l2Board_lsok0 F)
def spec_l2Board_st2 (b4 : List Int) (r3 : Int) : St := ⟨expand 21 0 [1, 3] [(.ptr 0 0 0 16), (.int .i64 r3)], [(.var 16 (.ri .i64 b4))], 0, []⟩
def spec_l2Board_o2 (b4 : List Int) (x : Bool) : GT := (.br x (.out (.ret ⟨expand 21 0 [2] [(.bool false)], [], 0, []⟩)) (.out (.exit 0 ⟨expand 21 0 [] [], [], 0, []⟩)))
def spec_l2Board_ls2 (F : Nat) : LoopS := ⟨21, [1, 3], [], [], [], [2], [], [], fun vals mem np killed => match vals, mem, np, killed with
  | [(.ptr 0 0 0 16), (.int .i64 r3)], [(.var 16 (.ri .i64 b4))], 0, [] => .br (spec_l2Board_l2 F b4 r3).isSome (spec_l2Board_o2 b4 ((spec_l2Board_l2 F b4 r3).getD default)) .fail
  | _, _, _, _ => .fail⟩
theorem spec_l2Board_step2 (F : Nat) (b4 : List Int) (r3 : Int) {R : Type} (k : Out → Option R) : stepS tt (spec_l2Board_tab F) (spec_l2Board_LS1 F) 70 (spec_l2Board_ls2 F) (loopAt 2 (bodyOf Try.f13)) (spec_l2Board_st2 b4 r3) k = spec_l2Board_s2 F b4 R r3 (fun s => k (.norm (spec_l2Board_st2 b4 s))) (fun x => (spec_l2Board_o2 b4 x).run k) := by kernel_rfl
theorem spec_l2Board_iter2 (F : Nat) (b4 : List Int) {R : Type} (k : Out → Option R) : ∀ (n : Nat) (r3 : Int), iterS tt (spec_l2Board_tab F) (spec_l2Board_LS1 F) 70 (spec_l2Board_ls2 F) (loopAt 2 (bodyOf Try.f13)) n (spec_l2Board_st2 b4 r3) k = loopC (spec_l2Board_s2 F b4) n r3 (fun x => (spec_l2Board_o2 b4 x).run k)
  | 0, r3 => rfl
  | n + 1, r3 => (iterS_succ tt (spec_l2Board_tab F) (spec_l2Board_LS1 F) 70 (spec_l2Board_ls2 F) (loopAt 2 (bodyOf Try.f13)) n (spec_l2Board_st2 b4 r3) k).trans ((spec_l2Board_step2 F b4 r3 (nextK (iterS tt (spec_l2Board_tab F) (spec_l2Board_LS1 F) 70 (spec_l2Board_ls2 F) (loopAt 2 (bodyOf Try.f13)) n) k)).trans (congrArg (fun kn => spec_l2Board_s2 F b4 R r3 kn _) (funext (fun r3 => spec_l2Board_iter2 F b4 k n r3))))
theorem spec_l2Board_lok2 (F : Nat) : LoopOK Try.prog (loopAt 2 (bodyOf Try.f13)) (spec_l2Board_ls2 F) := by
  refine loopOK_of mixed ttok deep (spec_l2Board_tabok F) (loopsOK_at (spec_l2Board_lsok1 F) 2) (fuel := 70) fun R vals mem np killed k x h => ?_
  simp only [spec_l2Board_ls2] at h
  split at h
  · rename_i r3 b4
    simp only [GT.run] at h
    have hc := (cond_noneL h).1
    replace h := (cond_noneL h).2
    refine ⟨F, (spec_l2Board_iter2 F b4 k F r3).trans ((loopC_use (spec_l2Board_s2_nat F b4) hc _).trans h)⟩
  · simp only [GT.run] at h
    cases h
noncomputable def spec_l2Board_LS2 (F : Nat) : LT := (2, spec_l2Board_ls2 F) :: spec_l2Board_LS1 F
theorem spec_l2Board_lsok2 (F : Nat) : LoopsOK Try.prog (spec_l2Board_LS2 F) (bodyOf Try.f13) := loopsOK_cons spec_l2Board_keys (spec_l2Board_lok2 F) (spec_l2Board_lsok1 F)
theorem spec_l2Board_run (F : Nat) (b0 : List Int) : runS tt (spec_l2Board_tab F) (spec_l2Board_LS2 F) [] [] Try.f13 (bodyOf Try.f13) 70 [(.ints 16 b0)] [] = spec_l2Board_c _ F b0 (fun r => some ⟨(.bool r), [], []⟩) := by kernel_rfl
def spec_l2Board_ent (F : Nat) : Ent := ⟨[], .quiet, fun args mem => match args, mem with
  | [(.ints 16 b0)], [] => some ((spec_l2Board_p F b0).isSome, ⟨(.bool ((spec_l2Board_p F b0).getD default)), [], []⟩)
  | _, _ => none⟩
theorem spec_l2Board_fok : FunOK Try.prog 13 := funOK Try.func13 (by kernel_rfl) rfl
theorem spec_l2Board_meets (F : Nat) : Meets Try.prog 13 (spec_l2Board_ent F) := by
  refine meets_of_runS mixed ttok deep (spec_l2Board_tabok F) Try.func13 (body_some rfl) (spec_l2Board_lsok2 F) fun args mem hfit ret h => ?_
  clear hfit
  simp only [spec_l2Board_ent] at h
  split at h
  · rename_i b0
    simp only [Option.some.injEq, Prod.mk.injEq] at h
    obtain ⟨hc, rfl⟩ := h
    exact ⟨[], [], 70, _, (spec_l2Board_run F b0).trans ((spec_l2Board_cp _ F b0 _).trans (bind_use hc _)), rfl, rfl, rfl⟩
  · cases h

/-! loop.example/g01194/spec.l2Side -/
noncomputable def spec_l2Side_tab (F : Nat) : Tab := [(20, (spec_l1In_ent F))]
theorem spec_l2Side_tabok (F : Nat) : TabOK Try.prog (spec_l2Side_tab F) := (tab_cons (spec_l1In_meets F) spec_l1In_fok tab_nil)
noncomputable def spec_l2Side_LS0 (F : Nat) : LT := []
theorem spec_l2Side_lsok0 (F : Nat) : LoopsOK Try.prog (spec_l2Side_LS0 F) (bodyOf Try.f14) := loopsOK_nil
theorem spec_l2Side_run (F : Nat) (d0 : Int) : runS tt (spec_l2Side_tab F) (spec_l2Side_LS0 F) [] [] Try.f14 (bodyOf Try.f14) 70 [(.int .i64 d0)] [] = spec_l2Side_c _ d0 (fun r => some ⟨(.bool r), [], []⟩) := by kernel_rfl
def spec_l2Side_ent (F : Nat) : Ent := ⟨[], .quiet, fun args mem => match args, mem with
  | [(.int .i64 d0)], [] => some (true, ⟨(.bool (spec_l2Side_v d0)), [], []⟩)
  | _, _ => none⟩
theorem spec_l2Side_fok : FunOK Try.prog 14 := funOK Try.func14 (by kernel_rfl) rfl
theorem spec_l2Side_meets (F : Nat) : Meets Try.prog 14 (spec_l2Side_ent F) := by
  refine meets_of_runS mixed ttok deep (spec_l2Side_tabok F) Try.func14 (body_some rfl) (spec_l2Side_lsok0 F) fun args mem hfit ret h => ?_
  clear hfit
  simp only [spec_l2Side_ent] at h
  split at h
  · rename_i d0
    simp only [Option.some.injEq, Prod.mk.injEq] at h
    obtain ⟨hc, rfl⟩ := h
    exact ⟨[], [], 70, _, (spec_l2Side_run F d0).trans (spec_l2Side_cv _ d0 _), rfl, rfl, rfl⟩
  · cases h

/-! loop.example/g01194/spec.l2Line -/
noncomputable def spec_l2Line_tab (F : Nat) : Tab := []
theorem spec_l2Line_tabok (F : Nat) : TabOK Try.prog (spec_l2Line_tab F) := tab_nil
noncomputable def spec_l2Line_LS0 (F : Nat) : LT := []
theorem spec_l2Line_lsok0 (F : Nat) : LoopsOK Try.prog (spec_l2Line_LS0 F) (bodyOf Try.f23) := loopsOK_nil
theorem spec_l2Line_keys : keysOK (bodyOf Try.f23) = true := by kernel_rfl
def spec_l2Line_st3 (d0 : Int) (i1 : Int) (k8 : Int) (out10 : List Int) : St := ⟨expand 42 0 [0, 1, 4, 5, 6] [(.int .i64 d0), (.int .i64 i1), (.ptr 0 0 0 8), (.ptr 1 0 0 8), (.int .i64 k8)], [(.var 8 (.ri .i64 [(0 : Int), (0 : Int), (0 : Int), (0 : Int), (0 : Int), (0 : Int), (0 : Int), (0 : Int)])), (.var 8 (.ri .i64 out10))], 0, []⟩
def spec_l2Line_o3 (d0 : Int) (i1 : Int) (x : List Int) : GT := (.out (.exit 0 ⟨expand 42 0 [4, 5] [(.ptr 0 0 0 8), (.ptr 1 0 0 8)], [(.var 8 (.ri .i64 [(0 : Int), (0 : Int), (0 : Int), (0 : Int), (0 : Int), (0 : Int), (0 : Int), (0 : Int)])), (.var 8 (.ri .i64 x))], 0, []⟩))
def spec_l2Line_ls3 (F : Nat) : LoopS := ⟨42, [0, 1, 4, 5, 6], [], [4, 5], [], [4], [], [], fun vals mem np killed => match vals, mem, np, killed with
  | [(.int .i64 d0), (.int .i64 i1), (.ptr 0 0 0 8), (.ptr 1 0 0 8), (.int .i64 k8)], [(.var 8 (.ri .i64 q_t49)), (.var 8 (.ri .i64 out10))], 0, [] => .br ((q_t49 == ([(0 : Int), (0 : Int), (0 : Int), (0 : Int), (0 : Int), (0 : Int), (0 : Int), (0 : Int)] : List Int)) && (spec_l2Line_l3 F d0 i1 k8 out10).isSome) (spec_l2Line_o3 d0 i1 ((spec_l2Line_l3 F d0 i1 k8 out10).getD default)) .fail
  | _, _, _, _ => .fail⟩
theorem spec_l2Line_step3 (F : Nat) (d0 : Int) (i1 : Int) (k8 : Int) (out10 : List Int) {R : Type} (k : Out → Option R) : stepS tt (spec_l2Line_tab F) (spec_l2Line_LS0 F) 70 (spec_l2Line_ls3 F) (loopAt 3 (bodyOf Try.f23)) (spec_l2Line_st3 d0 i1 k8 out10) k = spec_l2Line_s3 F d0 i1 R (k8, out10) (fun s => k (.norm (spec_l2Line_st3 d0 i1 s.1 s.2))) (fun x => (spec_l2Line_o3 d0 i1 x).run k) := by kernel_rfl
theorem spec_l2Line_iter3 (F : Nat) (d0 : Int) (i1 : Int) {R : Type} (k : Out → Option R) : ∀ (n : Nat) (k8 : Int) (out10 : List Int), iterS tt (spec_l2Line_tab F) (spec_l2Line_LS0 F) 70 (spec_l2Line_ls3 F) (loopAt 3 (bodyOf Try.f23)) n (spec_l2Line_st3 d0 i1 k8 out10) k = loopC (spec_l2Line_s3 F d0 i1) n (k8, out10) (fun x => (spec_l2Line_o3 d0 i1 x).run k)
  | 0, k8, out10 => rfl
  | n + 1, k8, out10 => (iterS_succ tt (spec_l2Line_tab F) (spec_l2Line_LS0 F) 70 (spec_l2Line_ls3 F) (loopAt 3 (bodyOf Try.f23)) n (spec_l2Line_st3 d0 i1 k8 out10) k).trans ((spec_l2Line_step3 F d0 i1 k8 out10 (nextK (iterS tt (spec_l2Line_tab F) (spec_l2Line_LS0 F) 70 (spec_l2Line_ls3 F) (loopAt 3 (bodyOf Try.f23)) n) k)).trans (congrArg (fun kn => spec_l2Line_s3 F d0 i1 R (k8, out10) kn _) (funext (fun ⟨k8, out10⟩ => spec_l2Line_iter3 F d0 i1 k n k8 out10))))
theorem spec_l2Line_lok3 (F : Nat) : LoopOK Try.prog (loopAt 3 (bodyOf Try.f23)) (spec_l2Line_ls3 F) := by
  refine loopOK_of mixed ttok deep (spec_l2Line_tabok F) (loopsOK_at (spec_l2Line_lsok0 F) 3) (fuel := 70) fun R vals mem np killed k x h => ?_
  simp only [spec_l2Line_ls3] at h
  split at h
  · rename_i d0 i1 k8 q_t49 out10
    simp only [GT.run] at h
    have hc := (cond_noneL h).1
    replace h := (cond_noneL h).2
    have hg := (and_split hc).1
    replace hc := (and_split hc).2
    obtain rfl := beq_li hg
    refine ⟨F, (spec_l2Line_iter3 F d0 i1 k F k8 out10).trans ((loopC_use (spec_l2Line_s3_nat F d0 i1) hc _).trans h)⟩
  · simp only [GT.run] at h
    cases h
noncomputable def spec_l2Line_LS1 (F : Nat) : LT := (3, spec_l2Line_ls3 F) :: spec_l2Line_LS0 F
theorem spec_l2Line_lsok1 (F : Nat) : LoopsOK Try.prog (spec_l2Line_LS1 F) (bodyOf Try.f23) := loopsOK_cons spec_l2Line_keys (spec_l2Line_lok3 F) (spec_l2Line_lsok0 F)
theorem spec_l2Line_run (F : Nat) (d0 : Int) (i1 : Int) : runS tt (spec_l2Line_tab F) (spec_l2Line_LS1 F) [] [] Try.f23 (bodyOf Try.f23) 70 [(.int .i64 d0), (.int .i64 i1)] [] = spec_l2Line_c _ F d0 i1 (fun r => some ⟨(.ints 8 r), [], []⟩) := by kernel_rfl
def spec_l2Line_ent (F : Nat) : Ent := ⟨[], .quiet, fun args mem => match args, mem with
  | [(.int .i64 d0), (.int .i64 i1)], [] => some ((spec_l2Line_p F d0 i1).isSome, ⟨(.ints 8 ((spec_l2Line_p F d0 i1).getD default)), [], []⟩)
  | _, _ => none⟩
theorem spec_l2Line_fok : FunOK Try.prog 23 := funOK Try.func23 (by kernel_rfl) rfl
theorem spec_l2Line_meets (F : Nat) : Meets Try.prog 23 (spec_l2Line_ent F) := by
  refine meets_of_runS mixed ttok deep (spec_l2Line_tabok F) Try.func23 (body_some rfl) (spec_l2Line_lsok1 F) fun args mem hfit ret h => ?_
  clear hfit
  simp only [spec_l2Line_ent] at h
  split at h
  · rename_i d0 i1
    simp only [Option.some.injEq, Prod.mk.injEq] at h
    obtain ⟨hc, rfl⟩ := h
    exact ⟨[], [], 70, _, (spec_l2Line_run F d0 i1).trans ((spec_l2Line_cp _ F d0 i1 _).trans (bind_use hc _)), rfl, rfl, rfl⟩
  · cases h

/-! loop.example/g01194/spec.l2At -/
noncomputable def spec_l2At_tab (F : Nat) : Tab := []
theorem spec_l2At_tabok (F : Nat) : TabOK Try.prog (spec_l2At_tab F) := tab_nil
noncomputable def spec_l2At_LS0 (F : Nat) : LT := []
theorem spec_l2At_lsok0 (F : Nat) : LoopsOK Try.prog (spec_l2At_LS0 F) (bodyOf Try.f58) := loopsOK_nil
theorem spec_l2At_run (F : Nat) (b0 : List Int) (cell1 : List Int) : runS tt (spec_l2At_tab F) (spec_l2At_LS0 F) [] [] Try.f58 (bodyOf Try.f58) 70 [(.ints 16 b0), (.ints 2 cell1)] [] = spec_l2At_c _ b0 cell1 (fun r => some ⟨(.int .i64 r), [], []⟩) := by kernel_rfl
def spec_l2At_ent (F : Nat) : Ent := ⟨[], .quiet, fun args mem => match args, mem with
  | [(.ints 16 b0), (.ints 2 cell1)], [] => some ((spec_l2At_p b0 cell1).isSome, ⟨(.int .i64 ((spec_l2At_p b0 cell1).getD default)), [], []⟩)
  | _, _ => none⟩
theorem spec_l2At_fok : FunOK Try.prog 58 := funOK Try.func58 (by kernel_rfl) rfl
theorem spec_l2At_meets (F : Nat) : Meets Try.prog 58 (spec_l2At_ent F) := by
  refine meets_of_runS mixed ttok deep (spec_l2At_tabok F) Try.func58 (body_some rfl) (spec_l2At_lsok0 F) fun args mem hfit ret h => ?_
  clear hfit
  simp only [spec_l2At_ent] at h
  split at h
  · rename_i b0 cell1
    simp only [Option.some.injEq, Prod.mk.injEq] at h
    obtain ⟨hc, rfl⟩ := h
    exact ⟨[], [], 70, _, (spec_l2At_run F b0 cell1).trans ((spec_l2At_cp _ b0 cell1 _).trans (bind_use hc _)), rfl, rfl, rfl⟩
  · cases h

/-! loop.example/g01194/spec.l2Numbers -/
noncomputable def spec_l2Numbers_tab (F : Nat) : Tab := [(23, (spec_l2Line_ent F)), (58, (spec_l2At_ent F))]
theorem spec_l2Numbers_tabok (F : Nat) : TabOK Try.prog (spec_l2Numbers_tab F) := (tab_cons (spec_l2Line_meets F) spec_l2Line_fok (tab_cons (spec_l2At_meets F) spec_l2At_fok tab_nil))
noncomputable def spec_l2Numbers_LS0 (F : Nat) : LT := []
theorem spec_l2Numbers_lsok0 (F : Nat) : LoopsOK Try.prog (spec_l2Numbers_LS0 F) (bodyOf Try.f41) := loopsOK_nil
theorem spec_l2Numbers_run (F : Nat) (b0 : List Int) (d1 : Int) (i2 : Int) : runS tt (spec_l2Numbers_tab F) (spec_l2Numbers_LS0 F) [] [] Try.f41 (bodyOf Try.f41) 70 [(.ints 16 b0), (.int .i64 d1), (.int .i64 i2)] [] = spec_l2Numbers_c _ F b0 d1 i2 (fun r => some ⟨(.ints 4 r), [], []⟩) := by kernel_rfl
def spec_l2Numbers_ent (F : Nat) : Ent := ⟨[], .quiet, fun args mem => match args, mem with
  | [(.ints 16 b0), (.int .i64 d1), (.int .i64 i2)], [] => some ((spec_l2Numbers_p F b0 d1 i2).isSome, ⟨(.ints 4 ((spec_l2Numbers_p F b0 d1 i2).getD default)), [], []⟩)
  | _, _ => none⟩
theorem spec_l2Numbers_fok : FunOK Try.prog 41 := funOK Try.func41 (by kernel_rfl) rfl
theorem spec_l2Numbers_meets (F : Nat) : Meets Try.prog 41 (spec_l2Numbers_ent F) := by
  refine meets_of_runS mixed ttok deep (spec_l2Numbers_tabok F) Try.func41 (body_some rfl) (spec_l2Numbers_lsok0 F) fun args mem hfit ret h => ?_
  clear hfit
  simp only [spec_l2Numbers_ent] at h
  split at h
  · rename_i b0 d1 i2
    simp only [Option.some.injEq, Prod.mk.injEq] at h
    obtain ⟨hc, rfl⟩ := h
    exact ⟨[], [], 70, _, (spec_l2Numbers_run F b0 d1 i2).trans ((spec_l2Numbers_cp _ F b0 d1 i2 _).trans (bind_use hc _)), rfl, rfl, rfl⟩
  · cases h

/-! loop.example/g01194/spec.l1Has -/
noncomputable def spec_l1Has_tab (F : Nat) : Tab := []
theorem spec_l1Has_tabok (F : Nat) : TabOK Try.prog (spec_l1Has_tab F) := tab_nil
noncomputable def spec_l1Has_LS0 (F : Nat) : LT := []
theorem spec_l1Has_lsok0 (F : Nat) : LoopsOK Try.prog (spec_l1Has_LS0 F) (bodyOf Try.f54) := loopsOK_nil
theorem spec_l1Has_keys : keysOK (bodyOf Try.f54) = true := by kernel_rfl
def spec_l1Has_st2 (l0 : List Int) (n1 : Int) (i2 : Int) : St := ⟨expand 18 0 [0, 1, 5] [(.ri .i64 l0), (.int .i64 n1), (.int .i64 i2)], [], 0, []⟩
def spec_l1Has_o2 (l0 : List Int) (n1 : Int) (x : Bool) : GT := (.br x (.out (.ret ⟨expand 18 0 [4] [(.bool true)], [], 0, []⟩)) (.out (.exit 0 ⟨expand 18 0 [] [], [], 0, []⟩)))
def spec_l1Has_ls2 (F : Nat) : LoopS := ⟨18, [0, 1, 5], [], [], [], [4], [], [], fun vals mem np killed => match vals, mem, np, killed with
  | [(.ri .i64 l0), (.int .i64 n1), (.int .i64 i2)], [], 0, [] => .br (spec_l1Has_l2 F l0 n1 i2).isSome (spec_l1Has_o2 l0 n1 ((spec_l1Has_l2 F l0 n1 i2).getD default)) .fail
  | _, _, _, _ => .fail⟩
theorem spec_l1Has_step2 (F : Nat) (l0 : List Int) (n1 : Int) (i2 : Int) {R : Type} (k : Out → Option R) : stepS tt (spec_l1Has_tab F) (spec_l1Has_LS0 F) 70 (spec_l1Has_ls2 F) (loopAt 2 (bodyOf Try.f54)) (spec_l1Has_st2 l0 n1 i2) k = spec_l1Has_s2 F l0 n1 R i2 (fun s => k (.norm (spec_l1Has_st2 l0 n1 s))) (fun x => (spec_l1Has_o2 l0 n1 x).run k) := by kernel_rfl
theorem spec_l1Has_iter2 (F : Nat) (l0 : List Int) (n1 : Int) {R : Type} (k : Out → Option R) : ∀ (n : Nat) (i2 : Int), iterS tt (spec_l1Has_tab F) (spec_l1Has_LS0 F) 70 (spec_l1Has_ls2 F) (loopAt 2 (bodyOf Try.f54)) n (spec_l1Has_st2 l0 n1 i2) k = loopC (spec_l1Has_s2 F l0 n1) n i2 (fun x => (spec_l1Has_o2 l0 n1 x).run k)
  | 0, i2 => rfl
  | n + 1, i2 => (iterS_succ tt (spec_l1Has_tab F) (spec_l1Has_LS0 F) 70 (spec_l1Has_ls2 F) (loopAt 2 (bodyOf Try.f54)) n (spec_l1Has_st2 l0 n1 i2) k).trans ((spec_l1Has_step2 F l0 n1 i2 (nextK (iterS tt (spec_l1Has_tab F) (spec_l1Has_LS0 F) 70 (spec_l1Has_ls2 F) (loopAt 2 (bodyOf Try.f54)) n) k)).trans (congrArg (fun kn => spec_l1Has_s2 F l0 n1 R i2 kn _) (funext (fun i2 => spec_l1Has_iter2 F l0 n1 k n i2))))
theorem spec_l1Has_lok2 (F : Nat) : LoopOK Try.prog (loopAt 2 (bodyOf Try.f54)) (spec_l1Has_ls2 F) := by
  refine loopOK_of mixed ttok deep (spec_l1Has_tabok F) (loopsOK_at (spec_l1Has_lsok0 F) 2) (fuel := 70) fun R vals mem np killed k x h => ?_
  simp only [spec_l1Has_ls2] at h
  split at h
  · rename_i l0 n1 i2
    simp only [GT.run] at h
    have hc := (cond_noneL h).1
    replace h := (cond_noneL h).2
    refine ⟨F, (spec_l1Has_iter2 F l0 n1 k F i2).trans ((loopC_use (spec_l1Has_s2_nat F l0 n1) hc _).trans h)⟩
  · simp only [GT.run] at h
    cases h
noncomputable def spec_l1Has_LS1 (F : Nat) : LT := (2, spec_l1Has_ls2 F) :: spec_l1Has_LS0 F
theorem spec_l1Has_lsok1 (F : Nat) : LoopsOK Try.prog (spec_l1Has_LS1 F) (bodyOf Try.f54) := loopsOK_cons spec_l1Has_keys (spec_l1Has_lok2 F) (spec_l1Has_lsok0 F)
theorem spec_l1Has_run (F : Nat) (l0 : List Int) (n1 : Int) : runS tt (spec_l1Has_tab F) (spec_l1Has_LS1 F) [] [] Try.f54 (bodyOf Try.f54) 70 [(.ri .i64 l0), (.int .i64 n1)] [] = spec_l1Has_c _ F l0 n1 (fun r => some ⟨(.bool r), [], []⟩) := by kernel_rfl
def spec_l1Has_ent (F : Nat) : Ent := ⟨[], .quiet, fun args mem => match args, mem with
  | [(.ri .i64 l0), (.int .i64 n1)], [] => some ((spec_l1Has_p F l0 n1).isSome, ⟨(.bool ((spec_l1Has_p F l0 n1).getD default)), [], []⟩)
  | _, _ => none⟩
theorem spec_l1Has_fok : FunOK Try.prog 54 := funOK Try.func54 (by kernel_rfl) rfl
theorem spec_l1Has_meets (F : Nat) : Meets Try.prog 54 (spec_l1Has_ent F) := by
  refine meets_of_runS mixed ttok deep (spec_l1Has_tabok F) Try.func54 (body_some rfl) (spec_l1Has_lsok1 F) fun args mem hfit ret h => ?_
  clear hfit
  simp only [spec_l1Has_ent] at h
  split at h
  · rename_i l0 n1
    simp only [Option.some.injEq, Prod.mk.injEq] at h
    obtain ⟨hc, rfl⟩ := h
    exact ⟨[], [], 70, _, (spec_l1Has_run F l0 n1).trans ((spec_l1Has_cp _ F l0 n1 _).trans (bind_use hc _)), rfl, rfl, rfl⟩
  · cases h

/-! loop.example/g01194/spec.l4Spread -/
noncomputable def spec_l4Spread_tab (F : Nat) : Tab := []
theorem spec_l4Spread_tabok (F : Nat) : TabOK Try.prog (spec_l4Spread_tab F) := tab_nil
noncomputable def spec_l4Spread_LS0 (F : Nat) : LT := []
theorem spec_l4Spread_lsok0 (F : Nat) : LoopsOK Try.prog (spec_l4Spread_LS0 F) (bodyOf Try.f55) := loopsOK_nil
theorem spec_l4Spread_keys : keysOK (bodyOf Try.f55) = true := by kernel_rfl
def spec_l4Spread_st7 (tiles0 : List Int) (out2 : Nat) (code3 : Int) (out9 : List (List Int)) (n7 : Int) (k8 : Int) (row10 : List Int) : St := ⟨expand 44 0 [0, 3, 4, 5, 6, 7] [(.ri .i64 tiles0), (.sl 0 0 out2), (.int .i64 code3), (.ptr 1 0 0 4), (.int .i64 n7), (.int .i64 k8)], [(.vec 22 (.rr 4 out9)), (.var 4 (.ri .i64 row10))], 0, []⟩
def spec_l4Spread_o7 (tiles0 : List Int) (out2 : Nat) (code3 : Int) (out9 : List (List Int)) (x : Int × List Int) : GT := (.out (.exit 2 ⟨expand 44 0 [0, 3, 4, 5, 6] [(.ri .i64 tiles0), (.sl 0 0 out2), (.int .i64 code3), (.ptr 1 0 0 4), (.int .i64 x.1)], [(.vec 22 (.rr 4 out9)), (.var 4 (.ri .i64 x.2))], 0, []⟩))
def spec_l4Spread_ls7 (F : Nat) : LoopS := ⟨44, [0, 3, 4, 5, 6, 7], [], [0, 3, 4, 5, 6], [], [2], [], [], fun vals mem np killed => match vals, mem, np, killed with
  | [(.ri .i64 tiles0), (.sl 0 0 out2), (.int .i64 code3), (.ptr 1 0 0 4), (.int .i64 n7), (.int .i64 k8)], [(.vec 22 (.rr 4 out9)), (.var 4 (.ri .i64 row10))], 0, [] => .br (spec_l4Spread_l7 F tiles0 out2 code3 out9 n7 k8 row10).isSome (spec_l4Spread_o7 tiles0 out2 code3 out9 ((spec_l4Spread_l7 F tiles0 out2 code3 out9 n7 k8 row10).getD default)) .fail
  | _, _, _, _ => .fail⟩
theorem spec_l4Spread_step7 (F : Nat) (tiles0 : List Int) (out2 : Nat) (code3 : Int) (out9 : List (List Int)) (n7 : Int) (k8 : Int) (row10 : List Int) {R : Type} (k : Out → Option R) : stepS tt (spec_l4Spread_tab F) (spec_l4Spread_LS0 F) 70 (spec_l4Spread_ls7 F) (loopAt 7 (bodyOf Try.f55)) (spec_l4Spread_st7 tiles0 out2 code3 out9 n7 k8 row10) k = spec_l4Spread_s7 F tiles0 out2 code3 out9 R (n7, k8, row10) (fun s => k (.norm (spec_l4Spread_st7 tiles0 out2 code3 out9 s.1 s.2.1 s.2.2))) (fun x => (spec_l4Spread_o7 tiles0 out2 code3 out9 x).run k) := by kernel_rfl
theorem spec_l4Spread_iter7 (F : Nat) (tiles0 : List Int) (out2 : Nat) (code3 : Int) (out9 : List (List Int)) {R : Type} (k : Out → Option R) : ∀ (n : Nat) (n7 : Int) (k8 : Int) (row10 : List Int), iterS tt (spec_l4Spread_tab F) (spec_l4Spread_LS0 F) 70 (spec_l4Spread_ls7 F) (loopAt 7 (bodyOf Try.f55)) n (spec_l4Spread_st7 tiles0 out2 code3 out9 n7 k8 row10) k = loopC (spec_l4Spread_s7 F tiles0 out2 code3 out9) n (n7, k8, row10) (fun x => (spec_l4Spread_o7 tiles0 out2 code3 out9 x).run k)
  | 0, n7, k8, row10 => rfl
  | n + 1, n7, k8, row10 => (iterS_succ tt (spec_l4Spread_tab F) (spec_l4Spread_LS0 F) 70 (spec_l4Spread_ls7 F) (loopAt 7 (bodyOf Try.f55)) n (spec_l4Spread_st7 tiles0 out2 code3 out9 n7 k8 row10) k).trans ((spec_l4Spread_step7 F tiles0 out2 code3 out9 n7 k8 row10 (nextK (iterS tt (spec_l4Spread_tab F) (spec_l4Spread_LS0 F) 70 (spec_l4Spread_ls7 F) (loopAt 7 (bodyOf Try.f55)) n) k)).trans (congrArg (fun kn => spec_l4Spread_s7 F tiles0 out2 code3 out9 R (n7, k8, row10) kn _) (funext (fun ⟨n7, k8, row10⟩ => spec_l4Spread_iter7 F tiles0 out2 code3 out9 k n n7 k8 row10))))
theorem spec_l4Spread_lok7 (F : Nat) : LoopOK Try.prog (loopAt 7 (bodyOf Try.f55)) (spec_l4Spread_ls7 F) := by
  refine loopOK_of mixed ttok deep (spec_l4Spread_tabok F) (loopsOK_at (spec_l4Spread_lsok0 F) 7) (fuel := 70) fun R vals mem np killed k x h => ?_
  simp only [spec_l4Spread_ls7] at h
  split at h
  · rename_i tiles0 out2 code3 n7 k8 out9 row10
    simp only [GT.run] at h
    have hc := (cond_noneL h).1
    replace h := (cond_noneL h).2
    refine ⟨F, (spec_l4Spread_iter7 F tiles0 out2 code3 out9 k F n7 k8 row10).trans ((loopC_use (spec_l4Spread_s7_nat F tiles0 out2 code3 out9) hc _).trans h)⟩
  · simp only [GT.run] at h
    cases h
noncomputable def spec_l4Spread_LS1 (F : Nat) : LT := (7, spec_l4Spread_ls7 F) :: spec_l4Spread_LS0 F
theorem spec_l4Spread_lsok1 (F : Nat) : LoopsOK Try.prog (spec_l4Spread_LS1 F) (bodyOf Try.f55) := loopsOK_cons spec_l4Spread_keys (spec_l4Spread_lok7 F) (spec_l4Spread_lsok0 F)
def spec_l4Spread_st3 (tiles0 : List Int) (out2 : Nat) (code3 : Int) (out4 : List (List Int)) : St := ⟨expand 44 0 [0, 3, 4] [(.ri .i64 tiles0), (.sl 0 0 out2), (.int .i64 code3)], [(.vec 22 (.rr 4 out4))], 0, []⟩
def spec_l4Spread_o3 (tiles0 : List Int) (x : Nat × List (List Int)) : GT := (.out (.exit 0 ⟨expand 44 0 [3] [(.sl 0 0 x.1)], [(.vec 22 (.rr 4 x.2))], 0, []⟩))
def spec_l4Spread_ls3 (F : Nat) : LoopS := ⟨44, [0, 3, 4], [], [3], [], [2], [], [], fun vals mem np killed => match vals, mem, np, killed with
  | [(.ri .i64 tiles0), (.sl 0 0 out2), (.int .i64 code3)], [(.vec 22 (.rr 4 out4))], 0, [] => .br (spec_l4Spread_l3 F tiles0 out2 code3 out4).isSome (spec_l4Spread_o3 tiles0 ((spec_l4Spread_l3 F tiles0 out2 code3 out4).getD default)) .fail
  | _, _, _, _ => .fail⟩
theorem spec_l4Spread_step3 (F : Nat) (tiles0 : List Int) (out2 : Nat) (code3 : Int) (out4 : List (List Int)) {R : Type} (k : Out → Option R) : stepS tt (spec_l4Spread_tab F) (spec_l4Spread_LS1 F) 70 (spec_l4Spread_ls3 F) (loopAt 3 (bodyOf Try.f55)) (spec_l4Spread_st3 tiles0 out2 code3 out4) k = spec_l4Spread_s3 F tiles0 R (out2, code3, out4) (fun s => k (.norm (spec_l4Spread_st3 tiles0 s.1 s.2.1 s.2.2))) (fun x => (spec_l4Spread_o3 tiles0 x).run k) := by kernel_rfl
theorem spec_l4Spread_iter3 (F : Nat) (tiles0 : List Int) {R : Type} (k : Out → Option R) : ∀ (n : Nat) (out2 : Nat) (code3 : Int) (out4 : List (List Int)), iterS tt (spec_l4Spread_tab F) (spec_l4Spread_LS1 F) 70 (spec_l4Spread_ls3 F) (loopAt 3 (bodyOf Try.f55)) n (spec_l4Spread_st3 tiles0 out2 code3 out4) k = loopC (spec_l4Spread_s3 F tiles0) n (out2, code3, out4) (fun x => (spec_l4Spread_o3 tiles0 x).run k)
  | 0, out2, code3, out4 => rfl
  | n + 1, out2, code3, out4 => (iterS_succ tt (spec_l4Spread_tab F) (spec_l4Spread_LS1 F) 70 (spec_l4Spread_ls3 F) (loopAt 3 (bodyOf Try.f55)) n (spec_l4Spread_st3 tiles0 out2 code3 out4) k).trans ((spec_l4Spread_step3 F tiles0 out2 code3 out4 (nextK (iterS tt (spec_l4Spread_tab F) (spec_l4Spread_LS1 F) 70 (spec_l4Spread_ls3 F) (loopAt 3 (bodyOf Try.f55)) n) k)).trans (congrArg (fun kn => spec_l4Spread_s3 F tiles0 R (out2, code3, out4) kn _) (funext (fun ⟨out2, code3, out4⟩ => spec_l4Spread_iter3 F tiles0 k n out2 code3 out4))))
theorem spec_l4Spread_lok3 (F : Nat) : LoopOK Try.prog (loopAt 3 (bodyOf Try.f55)) (spec_l4Spread_ls3 F) := by
  refine loopOK_of mixed ttok deep (spec_l4Spread_tabok F) (loopsOK_at (spec_l4Spread_lsok1 F) 3) (fuel := 70) fun R vals mem np killed k x h => ?_
  simp only [spec_l4Spread_ls3] at h
  split at h
  · rename_i tiles0 out2 code3 out4
    simp only [GT.run] at h
    have hc := (cond_noneL h).1
    replace h := (cond_noneL h).2
    refine ⟨F, (spec_l4Spread_iter3 F tiles0 k F out2 code3 out4).trans ((loopC_use (spec_l4Spread_s3_nat F tiles0) hc _).trans h)⟩
  · simp only [GT.run] at h
    cases h
noncomputable def spec_l4Spread_LS2 (F : Nat) : LT := (3, spec_l4Spread_ls3 F) :: spec_l4Spread_LS1 F
theorem spec_l4Spread_lsok2 (F : Nat) : LoopsOK Try.prog (spec_l4Spread_LS2 F) (bodyOf Try.f55) := loopsOK_cons spec_l4Spread_keys (spec_l4Spread_lok3 F) (spec_l4Spread_lsok1 F)
theorem spec_l4Spread_run (F : Nat) (tiles0 : List Int) : runS tt (spec_l4Spread_tab F) (spec_l4Spread_LS2 F) [] [] Try.f55 (bodyOf Try.f55) 70 [(.ri .i64 tiles0)] [] = spec_l4Spread_c _ F tiles0 (fun r => some ⟨(.sl 0 0 r.1), [(.vec 22 (.rr 4 r.2))], []⟩) := by kernel_rfl
def spec_l4Spread_ent (F : Nat) : Ent := ⟨[], .fresh, fun args mem => match args, mem with
  | [(.ri .i64 tiles0)], [] => some ((spec_l4Spread_p F tiles0).isSome, ⟨(.sl 0 0 ((spec_l4Spread_p F tiles0).getD default).1), [(.vec 22 (.rr 4 ((spec_l4Spread_p F tiles0).getD default).2))], []⟩)
  | _, _ => none⟩
theorem spec_l4Spread_fok : FunOK Try.prog 55 := funOK Try.func55 (by kernel_rfl) rfl
theorem spec_l4Spread_meets (F : Nat) : Meets Try.prog 55 (spec_l4Spread_ent F) := by
  refine meets_of_runS mixed ttok deep (spec_l4Spread_tabok F) Try.func55 (body_some rfl) (spec_l4Spread_lsok2 F) fun args mem hfit ret h => ?_
  clear hfit
  simp only [spec_l4Spread_ent] at h
  split at h
  · rename_i tiles0
    simp only [Option.some.injEq, Prod.mk.injEq] at h
    obtain ⟨hc, rfl⟩ := h
    exact ⟨[], [], 70, _, (spec_l4Spread_run F tiles0).trans ((spec_l4Spread_cp _ F tiles0 _).trans (bind_use hc _)), rfl, rfl, rfl⟩
  · cases h

/-! loop.example/g01194/spec.l2Worth -/
noncomputable def spec_l2Worth_tab (F : Nat) : Tab := []
theorem spec_l2Worth_tabok (F : Nat) : TabOK Try.prog (spec_l2Worth_tab F) := tab_nil
noncomputable def spec_l2Worth_LS0 (F : Nat) : LT := []
theorem spec_l2Worth_lsok0 (F : Nat) : LoopsOK Try.prog (spec_l2Worth_LS0 F) (bodyOf Try.f72) := loopsOK_nil
theorem spec_l2Worth_run (F : Nat) (t0 : Int) : runS tt (spec_l2Worth_tab F) (spec_l2Worth_LS0 F) [] [] Try.f72 (bodyOf Try.f72) 70 [(.int .i64 t0)] [] = spec_l2Worth_c _ t0 (fun r => some ⟨(.int .i64 r), [], []⟩) := by kernel_rfl
def spec_l2Worth_ent (F : Nat) : Ent := ⟨[], .quiet, fun args mem => match args, mem with
  | [(.int .i64 t0)], [] => some ((spec_l2Worth_p t0).isSome, ⟨(.int .i64 ((spec_l2Worth_p t0).getD default)), [], []⟩)
  | _, _ => none⟩
theorem spec_l2Worth_fok : FunOK Try.prog 72 := funOK Try.func72 (by kernel_rfl) rfl
theorem spec_l2Worth_meets (F : Nat) : Meets Try.prog 72 (spec_l2Worth_ent F) := by
  refine meets_of_runS mixed ttok deep (spec_l2Worth_tabok F) Try.func72 (body_some rfl) (spec_l2Worth_lsok0 F) fun args mem hfit ret h => ?_
  clear hfit
  simp only [spec_l2Worth_ent] at h
  split at h
  · rename_i t0
    simp only [Option.some.injEq, Prod.mk.injEq] at h
    obtain ⟨hc, rfl⟩ := h
    exact ⟨[], [], 70, _, (spec_l2Worth_run F t0).trans ((spec_l2Worth_cp _ t0 _).trans (bind_use hc _)), rfl, rfl, rfl⟩
  · cases h

/-! loop.example/g01194/spec.l2Row -/
noncomputable def spec_l2Row_tab (F : Nat) : Tab := [(72, (spec_l2Worth_ent F))]
theorem spec_l2Row_tabok (F : Nat) : TabOK Try.prog (spec_l2Row_tab F) := (tab_cons (spec_l2Worth_meets F) spec_l2Worth_fok tab_nil)
noncomputable def spec_l2Row_LS0 (F : Nat) : LT := []
theorem spec_l2Row_lsok0 (F : Nat) : LoopsOK Try.prog (spec_l2Row_LS0 F) (bodyOf Try.f56) := loopsOK_nil
theorem spec_l2Row_keys : keysOK (bodyOf Try.f56) = true := by kernel_rfl
def spec_l2Row_st3 (row13 : List Int) (n9 : Int) (score10 : Int) (merged11 : Bool) (k12 : Int) (out15 : List Int) : St := ⟨expand 63 0 [1, 2, 4, 5, 6, 7, 8] [(.ptr 0 0 0 4), (.ptr 1 0 0 4), (.ptr 2 0 0 4), (.int .i64 n9), (.int .i64 score10), (.bool merged11), (.int .i64 k12)], [(.var 4 (.ri .i64 row13)), (.var 4 (.ri .i64 [(0 : Int), (0 : Int), (0 : Int), (0 : Int)])), (.var 4 (.ri .i64 out15))], 0, []⟩
def spec_l2Row_o3 (row13 : List Int) (x : Int × List Int) : GT := (.out (.exit 0 ⟨expand 63 0 [2, 4, 6] [(.ptr 0 0 0 4), (.ptr 1 0 0 4), (.int .i64 x.1)], [(.var 4 (.ri .i64 [(0 : Int), (0 : Int), (0 : Int), (0 : Int)])), (.var 4 (.ri .i64 x.2))], 0, []⟩))
def spec_l2Row_ls3 (F : Nat) : LoopS := ⟨63, [1, 2, 4, 5, 6, 7, 8], [], [2, 4, 6], [], [2, 3], [], [], fun vals mem np killed => match vals, mem, np, killed with
  | [(.ptr 0 0 0 4), (.ptr 1 0 0 4), (.ptr 2 0 0 4), (.int .i64 n9), (.int .i64 score10), (.bool merged11), (.int .i64 k12)], [(.var 4 (.ri .i64 row13)), (.var 4 (.ri .i64 q_t214)), (.var 4 (.ri .i64 out15))], 0, [] => .br ((q_t214 == ([(0 : Int), (0 : Int), (0 : Int), (0 : Int)] : List Int)) && (spec_l2Row_l3 F row13 n9 score10 merged11 k12 out15).isSome) (spec_l2Row_o3 row13 ((spec_l2Row_l3 F row13 n9 score10 merged11 k12 out15).getD default)) .fail
  | _, _, _, _ => .fail⟩
theorem spec_l2Row_step3 (F : Nat) (row13 : List Int) (n9 : Int) (score10 : Int) (merged11 : Bool) (k12 : Int) (out15 : List Int) {R : Type} (k : Out → Option R) : stepS tt (spec_l2Row_tab F) (spec_l2Row_LS0 F) 70 (spec_l2Row_ls3 F) (loopAt 3 (bodyOf Try.f56)) (spec_l2Row_st3 row13 n9 score10 merged11 k12 out15) k = spec_l2Row_s3 F row13 R (n9, score10, merged11, k12, out15) (fun s => k (.norm (spec_l2Row_st3 row13 s.1 s.2.1 s.2.2.1 s.2.2.2.1 s.2.2.2.2))) (fun x => (spec_l2Row_o3 row13 x).run k) := by kernel_rfl
theorem spec_l2Row_iter3 (F : Nat) (row13 : List Int) {R : Type} (k : Out → Option R) : ∀ (n : Nat) (n9 : Int) (score10 : Int) (merged11 : Bool) (k12 : Int) (out15 : List Int), iterS tt (spec_l2Row_tab F) (spec_l2Row_LS0 F) 70 (spec_l2Row_ls3 F) (loopAt 3 (bodyOf Try.f56)) n (spec_l2Row_st3 row13 n9 score10 merged11 k12 out15) k = loopC (spec_l2Row_s3 F row13) n (n9, score10, merged11, k12, out15) (fun x => (spec_l2Row_o3 row13 x).run k)
  | 0, n9, score10, merged11, k12, out15 => rfl
  | n + 1, n9, score10, merged11, k12, out15 => (iterS_succ tt (spec_l2Row_tab F) (spec_l2Row_LS0 F) 70 (spec_l2Row_ls3 F) (loopAt 3 (bodyOf Try.f56)) n (spec_l2Row_st3 row13 n9 score10 merged11 k12 out15) k).trans ((spec_l2Row_step3 F row13 n9 score10 merged11 k12 out15 (nextK (iterS tt (spec_l2Row_tab F) (spec_l2Row_LS0 F) 70 (spec_l2Row_ls3 F) (loopAt 3 (bodyOf Try.f56)) n) k)).trans (congrArg (fun kn => spec_l2Row_s3 F row13 R (n9, score10, merged11, k12, out15) kn _) (funext (fun ⟨n9, score10, merged11, k12, out15⟩ => spec_l2Row_iter3 F row13 k n n9 score10 merged11 k12 out15))))
theorem spec_l2Row_lok3 (F : Nat) : LoopOK Try.prog (loopAt 3 (bodyOf Try.f56)) (spec_l2Row_ls3 F) := by
  refine loopOK_of mixed ttok deep (spec_l2Row_tabok F) (loopsOK_at (spec_l2Row_lsok0 F) 3) (fuel := 70) fun R vals mem np killed k x h => ?_
  simp only [spec_l2Row_ls3] at h
  split at h
  · rename_i n9 score10 merged11 k12 row13 q_t214 out15
    simp only [GT.run] at h
    have hc := (cond_noneL h).1
    replace h := (cond_noneL h).2
    have hg := (and_split hc).1
    replace hc := (and_split hc).2
    obtain rfl := beq_li hg
    refine ⟨F, (spec_l2Row_iter3 F row13 k F n9 score10 merged11 k12 out15).trans ((loopC_use (spec_l2Row_s3_nat F row13) hc _).trans h)⟩
  · simp only [GT.run] at h
    cases h
noncomputable def spec_l2Row_LS1 (F : Nat) : LT := (3, spec_l2Row_ls3 F) :: spec_l2Row_LS0 F
theorem spec_l2Row_lsok1 (F : Nat) : LoopsOK Try.prog (spec_l2Row_LS1 F) (bodyOf Try.f56) := loopsOK_cons spec_l2Row_keys (spec_l2Row_lok3 F) (spec_l2Row_lsok0 F)
theorem spec_l2Row_run (F : Nat) (row0 : List Int) : runS tt (spec_l2Row_tab F) (spec_l2Row_LS1 F) [] [] Try.f56 (bodyOf Try.f56) 70 [(.ints 4 row0)] [] = spec_l2Row_c _ F row0 (fun r => some ⟨(.tup [(.ints 4 r.1), (.int .i64 r.2)]), [], []⟩) := by kernel_rfl
def spec_l2Row_ent (F : Nat) : Ent := ⟨[], .quiet, fun args mem => match args, mem with
  | [(.ints 4 row0)], [] => some ((spec_l2Row_p F row0).isSome, ⟨(.tup [(.ints 4 ((spec_l2Row_p F row0).getD default).1), (.int .i64 ((spec_l2Row_p F row0).getD default).2)]), [], []⟩)
  | _, _ => none⟩
theorem spec_l2Row_fok : FunOK Try.prog 56 := funOK Try.func56 (by kernel_rfl) rfl
theorem spec_l2Row_meets (F : Nat) : Meets Try.prog 56 (spec_l2Row_ent F) := by
  refine meets_of_runS mixed ttok deep (spec_l2Row_tabok F) Try.func56 (body_some rfl) (spec_l2Row_lsok1 F) fun args mem hfit ret h => ?_
  clear hfit
  simp only [spec_l2Row_ent] at h
  split at h
  · rename_i row0
    simp only [Option.some.injEq, Prod.mk.injEq] at h
    obtain ⟨hc, rfl⟩ := h
    exact ⟨[], [], 70, _, (spec_l2Row_run F row0).trans ((spec_l2Row_cp _ F row0 _).trans (bind_use hc _)), rfl, rfl, rfl⟩
  · cases h

/-! loop.example/g01194/spec.l4Less -/
noncomputable def spec_l4Less_tab (F : Nat) : Tab := []
theorem spec_l4Less_tabok (F : Nat) : TabOK Try.prog (spec_l4Less_tab F) := tab_nil
noncomputable def spec_l4Less_LS0 (F : Nat) : LT := []
theorem spec_l4Less_lsok0 (F : Nat) : LoopsOK Try.prog (spec_l4Less_LS0 F) (bodyOf Try.f79) := loopsOK_nil
theorem spec_l4Less_keys : keysOK (bodyOf Try.f79) = true := by kernel_rfl
def spec_l4Less_st2 (a7 : List Int) (b8 : List Int) (k6 : Int) : St := ⟨expand 24 0 [2, 3, 5] [(.ptr 0 0 0 4), (.ptr 1 0 0 4), (.int .i64 k6)], [(.var 4 (.ri .i64 a7)), (.var 4 (.ri .i64 b8))], 0, []⟩
def spec_l4Less_o2 (a7 : List Int) (b8 : List Int) (x : Bool × Bool) : GT := (.br x.1 (.out (.ret ⟨expand 24 0 [4] [(.bool x.2)], [], 0, []⟩)) (.out (.exit 0 ⟨expand 24 0 [] [], [], 0, []⟩)))
def spec_l4Less_ls2 (F : Nat) : LoopS := ⟨24, [2, 3, 5], [], [], [], [4], [], [], fun vals mem np killed => match vals, mem, np, killed with
  | [(.ptr 0 0 0 4), (.ptr 1 0 0 4), (.int .i64 k6)], [(.var 4 (.ri .i64 a7)), (.var 4 (.ri .i64 b8))], 0, [] => .br (spec_l4Less_l2 F a7 b8 k6).isSome (spec_l4Less_o2 a7 b8 ((spec_l4Less_l2 F a7 b8 k6).getD default)) .fail
  | _, _, _, _ => .fail⟩
theorem spec_l4Less_step2 (F : Nat) (a7 : List Int) (b8 : List Int) (k6 : Int) {R : Type} (k : Out → Option R) : stepS tt (spec_l4Less_tab F) (spec_l4Less_LS0 F) 70 (spec_l4Less_ls2 F) (loopAt 2 (bodyOf Try.f79)) (spec_l4Less_st2 a7 b8 k6) k = spec_l4Less_s2 F a7 b8 R k6 (fun s => k (.norm (spec_l4Less_st2 a7 b8 s))) (fun x => (spec_l4Less_o2 a7 b8 x).run k) := by kernel_rfl
theorem spec_l4Less_iter2 (F : Nat) (a7 : List Int) (b8 : List Int) {R : Type} (k : Out → Option R) : ∀ (n : Nat) (k6 : Int), iterS tt (spec_l4Less_tab F) (spec_l4Less_LS0 F) 70 (spec_l4Less_ls2 F) (loopAt 2 (bodyOf Try.f79)) n (spec_l4Less_st2 a7 b8 k6) k = loopC (spec_l4Less_s2 F a7 b8) n k6 (fun x => (spec_l4Less_o2 a7 b8 x).run k)
  | 0, k6 => rfl
  | n + 1, k6 => (iterS_succ tt (spec_l4Less_tab F) (spec_l4Less_LS0 F) 70 (spec_l4Less_ls2 F) (loopAt 2 (bodyOf Try.f79)) n (spec_l4Less_st2 a7 b8 k6) k).trans ((spec_l4Less_step2 F a7 b8 k6 (nextK (iterS tt (spec_l4Less_tab F) (spec_l4Less_LS0 F) 70 (spec_l4Less_ls2 F) (loopAt 2 (bodyOf Try.f79)) n) k)).trans (congrArg (fun kn => spec_l4Less_s2 F a7 b8 R k6 kn _) (funext (fun k6 => spec_l4Less_iter2 F a7 b8 k n k6))))
theorem spec_l4Less_lok2 (F : Nat) : LoopOK Try.prog (loopAt 2 (bodyOf Try.f79)) (spec_l4Less_ls2 F) := by
  refine loopOK_of mixed ttok deep (spec_l4Less_tabok F) (loopsOK_at (spec_l4Less_lsok0 F) 2) (fuel := 70) fun R vals mem np killed k x h => ?_
  simp only [spec_l4Less_ls2] at h
  split at h
  · rename_i k6 a7 b8
    simp only [GT.run] at h
    have hc := (cond_noneL h).1
    replace h := (cond_noneL h).2
    refine ⟨F, (spec_l4Less_iter2 F a7 b8 k F k6).trans ((loopC_use (spec_l4Less_s2_nat F a7 b8) hc _).trans h)⟩
  · simp only [GT.run] at h
    cases h
noncomputable def spec_l4Less_LS1 (F : Nat) : LT := (2, spec_l4Less_ls2 F) :: spec_l4Less_LS0 F
theorem spec_l4Less_lsok1 (F : Nat) : LoopsOK Try.prog (spec_l4Less_LS1 F) (bodyOf Try.f79) := loopsOK_cons spec_l4Less_keys (spec_l4Less_lok2 F) (spec_l4Less_lsok0 F)
theorem spec_l4Less_run (F : Nat) (a0 : List Int) (b1 : List Int) : runS tt (spec_l4Less_tab F) (spec_l4Less_LS1 F) [] [] Try.f79 (bodyOf Try.f79) 70 [(.ints 4 a0), (.ints 4 b1)] [] = spec_l4Less_c _ F a0 b1 (fun r => some ⟨(.bool r), [], []⟩) := by kernel_rfl
def spec_l4Less_ent (F : Nat) : Ent := ⟨[], .quiet, fun args mem => match args, mem with
  | [(.ints 4 a0), (.ints 4 b1)], [] => some ((spec_l4Less_p F a0 b1).isSome, ⟨(.bool ((spec_l4Less_p F a0 b1).getD default)), [], []⟩)
  | _, _ => none⟩
theorem spec_l4Less_fok : FunOK Try.prog 79 := funOK Try.func79 (by kernel_rfl) rfl
theorem spec_l4Less_meets (F : Nat) : Meets Try.prog 79 (spec_l4Less_ent F) := by
  refine meets_of_runS mixed ttok deep (spec_l4Less_tabok F) Try.func79 (body_some rfl) (spec_l4Less_lsok1 F) fun args mem hfit ret h => ?_
  clear hfit
  simp only [spec_l4Less_ent] at h
  split at h
  · rename_i a0 b1
    simp only [Option.some.injEq, Prod.mk.injEq] at h
    obtain ⟨hc, rfl⟩ := h
    exact ⟨[], [], 70, _, (spec_l4Less_run F a0 b1).trans ((spec_l4Less_cp _ F a0 b1 _).trans (bind_use hc _)), rfl, rfl, rfl⟩
  · cases h

/-! loop.example/g01194/spec.l4Place -/
noncomputable def spec_l4Place_tab (F : Nat) : Tab := [(79, (spec_l4Less_ent F))]
theorem spec_l4Place_tabok (F : Nat) : TabOK Try.prog (spec_l4Place_tab F) := (tab_cons (spec_l4Less_meets F) spec_l4Less_fok tab_nil)
noncomputable def spec_l4Place_LS0 (F : Nat) : LT := []
theorem spec_l4Place_lsok0 (F : Nat) : LoopsOK Try.prog (spec_l4Place_LS0 F) (bodyOf Try.f73) := loopsOK_nil
theorem spec_l4Place_keys : keysOK (bodyOf Try.f73) = true := by kernel_rfl
def spec_l4Place_st2 (all0 : List (List Int)) (row5 : List Int) (n4 : Int) : St := ⟨expand 21 0 [0, 3, 5] [(.rr 4 all0), (.ptr 0 0 0 4), (.int .i64 n4)], [(.var 4 (.ri .i64 row5))], 0, []⟩
def spec_l4Place_o2 (all0 : List (List Int)) (row5 : List Int) (x : Int) : GT := (.out (.exit 0 ⟨expand 21 0 [5] [(.int .i64 x)], [], 0, []⟩))
def spec_l4Place_ls2 (F : Nat) : LoopS := ⟨21, [0, 3, 5], [], [5], [], [4], [], [], fun vals mem np killed => match vals, mem, np, killed with
  | [(.rr 4 all0), (.ptr 0 0 0 4), (.int .i64 n4)], [(.var 4 (.ri .i64 row5))], 0, [] => .br (spec_l4Place_l2 F all0 row5 n4).isSome (spec_l4Place_o2 all0 row5 ((spec_l4Place_l2 F all0 row5 n4).getD default)) .fail
  | _, _, _, _ => .fail⟩
theorem spec_l4Place_step2 (F : Nat) (all0 : List (List Int)) (row5 : List Int) (n4 : Int) {R : Type} (k : Out → Option R) : stepS tt (spec_l4Place_tab F) (spec_l4Place_LS0 F) 70 (spec_l4Place_ls2 F) (loopAt 2 (bodyOf Try.f73)) (spec_l4Place_st2 all0 row5 n4) k = spec_l4Place_s2 F all0 row5 R n4 (fun s => k (.norm (spec_l4Place_st2 all0 row5 s))) (fun x => (spec_l4Place_o2 all0 row5 x).run k) := by kernel_rfl
theorem spec_l4Place_iter2 (F : Nat) (all0 : List (List Int)) (row5 : List Int) {R : Type} (k : Out → Option R) : ∀ (n : Nat) (n4 : Int), iterS tt (spec_l4Place_tab F) (spec_l4Place_LS0 F) 70 (spec_l4Place_ls2 F) (loopAt 2 (bodyOf Try.f73)) n (spec_l4Place_st2 all0 row5 n4) k = loopC (spec_l4Place_s2 F all0 row5) n n4 (fun x => (spec_l4Place_o2 all0 row5 x).run k)
  | 0, n4 => rfl
  | n + 1, n4 => (iterS_succ tt (spec_l4Place_tab F) (spec_l4Place_LS0 F) 70 (spec_l4Place_ls2 F) (loopAt 2 (bodyOf Try.f73)) n (spec_l4Place_st2 all0 row5 n4) k).trans ((spec_l4Place_step2 F all0 row5 n4 (nextK (iterS tt (spec_l4Place_tab F) (spec_l4Place_LS0 F) 70 (spec_l4Place_ls2 F) (loopAt 2 (bodyOf Try.f73)) n) k)).trans (congrArg (fun kn => spec_l4Place_s2 F all0 row5 R n4 kn _) (funext (fun n4 => spec_l4Place_iter2 F all0 row5 k n n4))))
theorem spec_l4Place_lok2 (F : Nat) : LoopOK Try.prog (loopAt 2 (bodyOf Try.f73)) (spec_l4Place_ls2 F) := by
  refine loopOK_of mixed ttok deep (spec_l4Place_tabok F) (loopsOK_at (spec_l4Place_lsok0 F) 2) (fuel := 70) fun R vals mem np killed k x h => ?_
  simp only [spec_l4Place_ls2] at h
  split at h
  · rename_i all0 n4 row5
    simp only [GT.run] at h
    have hc := (cond_noneL h).1
    replace h := (cond_noneL h).2
    refine ⟨F, (spec_l4Place_iter2 F all0 row5 k F n4).trans ((loopC_use (spec_l4Place_s2_nat F all0 row5) hc _).trans h)⟩
  · simp only [GT.run] at h
    cases h
noncomputable def spec_l4Place_LS1 (F : Nat) : LT := (2, spec_l4Place_ls2 F) :: spec_l4Place_LS0 F
theorem spec_l4Place_lsok1 (F : Nat) : LoopsOK Try.prog (spec_l4Place_LS1 F) (bodyOf Try.f73) := loopsOK_cons spec_l4Place_keys (spec_l4Place_lok2 F) (spec_l4Place_lsok0 F)
theorem spec_l4Place_run (F : Nat) (all0 : List (List Int)) (row1 : List Int) : runS tt (spec_l4Place_tab F) (spec_l4Place_LS1 F) [] [] Try.f73 (bodyOf Try.f73) 70 [(.rr 4 all0), (.ints 4 row1)] [] = spec_l4Place_c _ F all0 row1 (fun r => some ⟨(.int .i64 r), [], []⟩) := by kernel_rfl
def spec_l4Place_ent (F : Nat) : Ent := ⟨[], .quiet, fun args mem => match args, mem with
  | [(.rr 4 all0), (.ints 4 row1)], [] => some ((spec_l4Place_p F all0 row1).isSome, ⟨(.int .i64 ((spec_l4Place_p F all0 row1).getD default)), [], []⟩)
  | _, _ => none⟩
theorem spec_l4Place_fok : FunOK Try.prog 73 := funOK Try.func73 (by kernel_rfl) rfl
theorem spec_l4Place_meets (F : Nat) : Meets Try.prog 73 (spec_l4Place_ent F) := by
  refine meets_of_runS mixed ttok deep (spec_l4Place_tabok F) Try.func73 (body_some rfl) (spec_l4Place_lsok1 F) fun args mem hfit ret h => ?_
  clear hfit
  simp only [spec_l4Place_ent] at h
  split at h
  · rename_i all0 row1
    simp only [Option.some.injEq, Prod.mk.injEq] at h
    obtain ⟨hc, rfl⟩ := h
    exact ⟨[], [], 70, _, (spec_l4Place_run F all0 row1).trans ((spec_l4Place_cp _ F all0 row1 _).trans (bind_use hc _)), rfl, rfl, rfl⟩
  · cases h

/-! loop.example/g01194/spec.l4Put -/
noncomputable def spec_l4Put_tab (F : Nat) : Tab := [(73, (spec_l4Place_ent F))]
theorem spec_l4Put_tabok (F : Nat) : TabOK Try.prog (spec_l4Put_tab F) := (tab_cons (spec_l4Place_meets F) spec_l4Place_fok tab_nil)
noncomputable def spec_l4Put_LS0 (F : Nat) : LT := []
theorem spec_l4Put_lsok0 (F : Nat) : LoopsOK Try.prog (spec_l4Put_LS0 F) (bodyOf Try.f57) := loopsOK_nil
theorem spec_l4Put_run (F : Nat) (all0 : List (List Int)) (row1 : List Int) : runS tt (spec_l4Put_tab F) (spec_l4Put_LS0 F) [⟨4, 0, (.tup [])⟩] [] Try.f57 (bodyOf Try.f57) 70 [(.rr 4 all0), (.ints 4 row1)] [] = spec_l4Put_c _ F all0 row1 (fun r => some ⟨(.rr 4 r), [], []⟩) := by kernel_rfl
def spec_l4Put_ent (F : Nat) : Ent := ⟨[], .quiet, fun args mem => match args, mem with
  | [(.rr 4 all0), (.ints 4 row1)], [] => some ((spec_l4Put_p F all0 row1).isSome, ⟨(.rr 4 ((spec_l4Put_p F all0 row1).getD default)), [], []⟩)
  | _, _ => none⟩
theorem spec_l4Put_fok : FunOK Try.prog 57 := funOK Try.func57 (by kernel_rfl) rfl
theorem spec_l4Put_meets (F : Nat) : Meets Try.prog 57 (spec_l4Put_ent F) := by
  refine meets_of_runS mixed ttok deep (spec_l4Put_tabok F) Try.func57 (body_some rfl) (spec_l4Put_lsok0 F) fun args mem hfit ret h => ?_
  clear hfit
  simp only [spec_l4Put_ent] at h
  split at h
  · rename_i all0 row1
    simp only [Option.some.injEq, Prod.mk.injEq] at h
    obtain ⟨hc, rfl⟩ := h
    exact ⟨[⟨4, 0, (.tup [])⟩], [], 70, _, (spec_l4Put_run F all0 row1).trans ((spec_l4Put_cp _ F all0 row1 _).trans (bind_use hc _)), rfl, rfl, rfl⟩
  · cases h
end Go.Proofs.Ytkhccaoancfeoaa
