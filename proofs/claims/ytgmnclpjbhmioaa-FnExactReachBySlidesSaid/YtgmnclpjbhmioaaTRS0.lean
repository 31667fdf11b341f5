/-
Pure functions and what the code of them does, by program; without conditions.
-/
import Derived.Test.YtgmnclpjbhmioaaTRP0
import Derived.Test.YtgmnclpjbhmioaaTRA
namespace Go.Proofs.Ytgmnclpjbhmioaa
open Go Go.Lv Go.Lv.P Go.Proofs
set_option linter.unusedVariables false
set_option linter.unusedSimpArgs false
set_option maxRecDepth 100000
/-! loop.example/g01194/laws.toIntA4 -/
noncomputable def laws_toIntA4_tab (F : Nat) : Tab := []
theorem laws_toIntA4_tabok (F : Nat) : TabOK Try.prog (laws_toIntA4_tab F) := tab_nil
noncomputable def laws_toIntA4_LS0 (F : Nat) : LT := []
theorem laws_toIntA4_lsok0 (F : Nat) : LoopsOK Try.prog (laws_toIntA4_LS0 F) (bodyOf Try.f81) := loopsOK_nil
theorem laws_toIntA4_run (F : Nat) (a0 : List Int) : runS tt (laws_toIntA4_tab F) (laws_toIntA4_LS0 F) [] [] Try.f81 (bodyOf Try.f81) 70 [(.ints 4 a0)] [] = laws_toIntA4_c _ a0 (fun r => some ⟨(.ints 4 r), [], []⟩) := by kernel_rfl
def laws_toIntA4_ent (F : Nat) : Ent := ⟨[], .quiet, fun args mem => match args, mem with
  | [(.ints 4 a0)], [] => some (true, ⟨(.ints 4 (laws_toIntA4_v a0)), [], []⟩)
  | _, _ => none⟩
theorem laws_toIntA4_fok : FunOK Try.prog 81 := funOK Try.func81 (by kernel_rfl) rfl
theorem laws_toIntA4_meets (F : Nat) : Meets Try.prog 81 (laws_toIntA4_ent F) := by
  refine meets_of_runS mixed ttok deep (laws_toIntA4_tabok F) Try.func81 (body_some rfl) (laws_toIntA4_lsok0 F) fun args mem hfit ret h => ?_
  clear hfit
  simp only [laws_toIntA4_ent] at h
  split at h
  · rename_i a0
    simp only [Option.some.injEq, Prod.mk.injEq] at h
    obtain ⟨hc, rfl⟩ := h
    exact ⟨[], [], 70, _, (laws_toIntA4_run F a0).trans (laws_toIntA4_cv _ a0 _), rfl, rfl, rfl⟩
  · cases h

/-! loop.example/g01194/laws.toIntA4A4 -/
noncomputable def laws_toIntA4A4_tab (F : Nat) : Tab := [(81, (laws_toIntA4_ent F))]
theorem laws_toIntA4A4_tabok (F : Nat) : TabOK Try.prog (laws_toIntA4A4_tab F) := (tab_cons (laws_toIntA4_meets F) laws_toIntA4_fok tab_nil)
noncomputable def laws_toIntA4A4_LS0 (F : Nat) : LT := []
theorem laws_toIntA4A4_lsok0 (F : Nat) : LoopsOK Try.prog (laws_toIntA4A4_LS0 F) (bodyOf Try.f48) := loopsOK_nil
theorem laws_toIntA4A4_run (F : Nat) (a0 : List Int) : runS tt (laws_toIntA4A4_tab F) (laws_toIntA4A4_LS0 F) [] [] Try.f48 (bodyOf Try.f48) 70 [(.ints 16 a0)] [] = laws_toIntA4A4_c _ a0 (fun r => some ⟨(.ints 16 r), [], []⟩) := by kernel_rfl
def laws_toIntA4A4_ent (F : Nat) : Ent := ⟨[], .quiet, fun args mem => match args, mem with
  | [(.ints 16 a0)], [] => some (true, ⟨(.ints 16 (laws_toIntA4A4_v a0)), [], []⟩)
  | _, _ => none⟩
theorem laws_toIntA4A4_fok : FunOK Try.prog 48 := funOK Try.func48 (by kernel_rfl) rfl
theorem laws_toIntA4A4_meets (F : Nat) : Meets Try.prog 48 (laws_toIntA4A4_ent F) := by
  refine meets_of_runS mixed ttok deep (laws_toIntA4A4_tabok F) Try.func48 (body_some rfl) (laws_toIntA4A4_lsok0 F) fun args mem hfit ret h => ?_
  clear hfit
  simp only [laws_toIntA4A4_ent] at h
  split at h
  · rename_i a0
    simp only [Option.some.injEq, Prod.mk.injEq] at h
    obtain ⟨hc, rfl⟩ := h
    exact ⟨[], [], 70, _, (laws_toIntA4A4_run F a0).trans (laws_toIntA4A4_cv _ a0 _), rfl, rfl, rfl⟩
  · cases h

/-! loop.example/g01194/laws.toBoard -/
noncomputable def laws_toBoard_tab (F : Nat) : Tab := [(48, (laws_toIntA4A4_ent F))]
theorem laws_toBoard_tabok (F : Nat) : TabOK Try.prog (laws_toBoard_tab F) := (tab_cons (laws_toIntA4A4_meets F) laws_toIntA4A4_fok tab_nil)
noncomputable def laws_toBoard_LS0 (F : Nat) : LT := []
theorem laws_toBoard_lsok0 (F : Nat) : LoopsOK Try.prog (laws_toBoard_LS0 F) (bodyOf Try.f14) := loopsOK_nil
theorem laws_toBoard_run (F : Nat) (a0 : List Int) : runS tt (laws_toBoard_tab F) (laws_toBoard_LS0 F) [] [] Try.f14 (bodyOf Try.f14) 70 [(.ints 16 a0)] [] = laws_toBoard_c _ a0 (fun r => some ⟨(.ints 16 r), [], []⟩) := by kernel_rfl
def laws_toBoard_ent (F : Nat) : Ent := ⟨[], .quiet, fun args mem => match args, mem with
  | [(.ints 16 a0)], [] => some (true, ⟨(.ints 16 (laws_toBoard_v a0)), [], []⟩)
  | _, _ => none⟩
theorem laws_toBoard_fok : FunOK Try.prog 14 := funOK Try.func14 (by kernel_rfl) rfl
theorem laws_toBoard_meets (F : Nat) : Meets Try.prog 14 (laws_toBoard_ent F) := by
  refine meets_of_runS mixed ttok deep (laws_toBoard_tabok F) Try.func14 (body_some rfl) (laws_toBoard_lsok0 F) fun args mem hfit ret h => ?_
  clear hfit
  simp only [laws_toBoard_ent] at h
  split at h
  · rename_i a0
    simp only [Option.some.injEq, Prod.mk.injEq] at h
    obtain ⟨hc, rfl⟩ := h
    exact ⟨[], [], 70, _, (laws_toBoard_run F a0).trans (laws_toBoard_cv _ a0 _), rfl, rfl, rfl⟩
  · cases h

/-! loop.example/g01194/spec.l1In -/
noncomputable def spec_l1In_tab (F : Nat) : Tab := []
theorem spec_l1In_tabok (F : Nat) : TabOK Try.prog (spec_l1In_tab F) := tab_nil
noncomputable def spec_l1In_LS0 (F : Nat) : LT := []
theorem spec_l1In_lsok0 (F : Nat) : LoopsOK Try.prog (spec_l1In_LS0 F) (bodyOf Try.f58) := loopsOK_nil
theorem spec_l1In_run (F : Nat) (x0 : Int) (a1 : Int) (b2 : Int) : runS tt (spec_l1In_tab F) (spec_l1In_LS0 F) [] [] Try.f58 (bodyOf Try.f58) 70 [(.int .i64 x0), (.int .i64 a1), (.int .i64 b2)] [] = spec_l1In_c _ x0 a1 b2 (fun r => some ⟨(.bool r), [], []⟩) := by kernel_rfl
def spec_l1In_ent (F : Nat) : Ent := ⟨[], .quiet, fun args mem => match args, mem with
  | [(.int .i64 x0), (.int .i64 a1), (.int .i64 b2)], [] => some (true, ⟨(.bool (spec_l1In_v x0 a1 b2)), [], []⟩)
  | _, _ => none⟩
theorem spec_l1In_fok : FunOK Try.prog 58 := funOK Try.func58 (by kernel_rfl) rfl
theorem spec_l1In_meets (F : Nat) : Meets Try.prog 58 (spec_l1In_ent F) := by
  refine meets_of_runS mixed ttok deep (spec_l1In_tabok F) Try.func58 (body_some rfl) (spec_l1In_lsok0 F) fun args mem hfit ret h => ?_
  clear hfit
  simp only [spec_l1In_ent] at h
  split at h
  · rename_i x0 a1 b2
    simp only [Option.some.injEq, Prod.mk.injEq] at h
    obtain ⟨hc, rfl⟩ := h
    exact ⟨[], [], 70, _, (spec_l1In_run F x0 a1 b2).trans (spec_l1In_cv _ x0 a1 b2 _), rfl, rfl, rfl⟩
  · cases h

/-! loop.example/g01194/spec.l2Board -/
noncomputable def spec_l2Board_tab (F : Nat) : Tab := [(58, (spec_l1In_ent F))]
theorem spec_l2Board_tabok (F : Nat) : TabOK Try.prog (spec_l2Board_tab F) := (tab_cons (spec_l1In_meets F) spec_l1In_fok tab_nil)
noncomputable def spec_l2Board_LS0 (F : Nat) : LT := []
theorem spec_l2Board_lsok0 (F : Nat) : LoopsOK Try.prog (spec_l2Board_LS0 F) (bodyOf Try.f45) := loopsOK_nil
theorem spec_l2Board_keys : keysOK (bodyOf Try.f45) = true := by kernel_rfl
def spec_l2Board_st5 (r3 : Int) (b5 : List Int) (c4 : Int) : St := ⟨expand 21 0 [1, 3, 4] [(.ptr 0 0 0 16), (.int .i64 r3), (.int .i64 c4)], [(.var 16 (.ri .i64 b5))], 0, []⟩
def spec_l2Board_o5 (r3 : Int) (b5 : List Int) (x : Bool) : GT := (.br x (.out (.ret ⟨expand 21 0 [2] [(.bool false)], [], 0, []⟩)) (.out (.exit 2 ⟨expand 21 0 [1, 3] [(.ptr 0 0 0 16), (.int .i64 r3)], [(.var 16 (.ri .i64 b5))], 0, []⟩)))
def spec_l2Board_ls5 (F : Nat) : LoopS := ⟨21, [1, 3, 4], [], [1, 3], [], [2], [], [], fun vals mem np killed => match vals, mem, np, killed with
  | [(.ptr 0 0 0 16), (.int .i64 r3), (.int .i64 c4)], [(.var 16 (.ri .i64 b5))], 0, [] => .br (spec_l2Board_l5 F r3 b5 c4).isSome (spec_l2Board_o5 r3 b5 ((spec_l2Board_l5 F r3 b5 c4).getD default)) .fail
  | _, _, _, _ => .fail⟩
theorem spec_l2Board_step5 (F : Nat) (r3 : Int) (b5 : List Int) (c4 : Int) {R : Type} (k : Out → Option R) : stepS tt (spec_l2Board_tab F) (spec_l2Board_LS0 F) 70 (spec_l2Board_ls5 F) (loopAt 5 (bodyOf Try.f45)) (spec_l2Board_st5 r3 b5 c4) k = spec_l2Board_s5 F r3 b5 R c4 (fun s => k (.norm (spec_l2Board_st5 r3 b5 s))) (fun x => (spec_l2Board_o5 r3 b5 x).run k) := by kernel_rfl
theorem spec_l2Board_iter5 (F : Nat) (r3 : Int) (b5 : List Int) {R : Type} (k : Out → Option R) : ∀ (n : Nat) (c4 : Int), iterS tt (spec_l2Board_tab F) (spec_l2Board_LS0 F) 70 (spec_l2Board_ls5 F) (loopAt 5 (bodyOf Try.f45)) n (spec_l2Board_st5 r3 b5 c4) k = loopC (spec_l2Board_s5 F r3 b5) n c4 (fun x => (spec_l2Board_o5 r3 b5 x).run k)
  | 0, c4 => rfl
  | n + 1, c4 => (iterS_succ tt (spec_l2Board_tab F) (spec_l2Board_LS0 F) 70 (spec_l2Board_ls5 F) (loopAt 5 (bodyOf Try.f45)) n (spec_l2Board_st5 r3 b5 c4) k).trans ((spec_l2Board_step5 F r3 b5 c4 (nextK (iterS tt (spec_l2Board_tab F) (spec_l2Board_LS0 F) 70 (spec_l2Board_ls5 F) (loopAt 5 (bodyOf Try.f45)) n) k)).trans (congrArg (fun kn => spec_l2Board_s5 F r3 b5 R c4 kn _) (funext (fun c4 => spec_l2Board_iter5 F r3 b5 k n c4))))
theorem spec_l2Board_lok5 (F : Nat) : LoopOK Try.prog (loopAt 5 (bodyOf Try.f45)) (spec_l2Board_ls5 F) := by
  refine loopOK_of mixed ttok deep (spec_l2Board_tabok F) (loopsOK_at (spec_l2Board_lsok0 F) 5) (fuel := 70) fun R vals mem np killed k x h => ?_
  simp only [spec_l2Board_ls5] at h
  split at h
  · rename_i r3 c4 b5
    simp only [GT.run] at h
    have hc := (cond_noneL h).1
    replace h := (cond_noneL h).2
    refine ⟨F, (spec_l2Board_iter5 F r3 b5 k F c4).trans ((loopC_use (spec_l2Board_s5_nat F r3 b5) hc _).trans h)⟩
  · simp only [GT.run] at h
    cases h
noncomputable def spec_l2Board_LS1 (F : Nat) : LT := (5, spec_l2Board_ls5 F) :: spec_l2Board_LS0 F
theorem spec_l2Board_lsok1 (F : Nat) : LoopsOK Try.prog (spec_l2Board_LS1 F) (bodyOf Try.f45) := loopsOK_cons spec_l2Board_keys (spec_l2Board_lok5 F) (spec_l2Board_lsok0 F)
def spec_l2Board_st2 (b4 : List Int) (r3 : Int) : St := ⟨expand 21 0 [1, 3] [(.ptr 0 0 0 16), (.int .i64 r3)], [(.var 16 (.ri .i64 b4))], 0, []⟩
def spec_l2Board_o2 (b4 : List Int) (x : Bool) : GT := (.br x (.out (.ret ⟨expand 21 0 [2] [(.bool false)], [], 0, []⟩)) (.out (.exit 0 ⟨expand 21 0 [] [], [], 0, []⟩)))
def spec_l2Board_ls2 (F : Nat) : LoopS := ⟨21, [1, 3], [], [], [], [2], [], [], fun vals mem np killed => match vals, mem, np, killed with
  | [(.ptr 0 0 0 16), (.int .i64 r3)], [(.var 16 (.ri .i64 b4))], 0, [] => .br (spec_l2Board_l2 F b4 r3).isSome (spec_l2Board_o2 b4 ((spec_l2Board_l2 F b4 r3).getD default)) .fail
  | _, _, _, _ => .fail⟩
theorem spec_l2Board_step2 (F : Nat) (b4 : List Int) (r3 : Int) {R : Type} (k : Out → Option R) : stepS tt (spec_l2Board_tab F) (spec_l2Board_LS1 F) 70 (spec_l2Board_ls2 F) (loopAt 2 (bodyOf Try.f45)) (spec_l2Board_st2 b4 r3) k = spec_l2Board_s2 F b4 R r3 (fun s => k (.norm (spec_l2Board_st2 b4 s))) (fun x => (spec_l2Board_o2 b4 x).run k) := by kernel_rfl
theorem spec_l2Board_iter2 (F : Nat) (b4 : List Int) {R : Type} (k : Out → Option R) : ∀ (n : Nat) (r3 : Int), iterS tt (spec_l2Board_tab F) (spec_l2Board_LS1 F) 70 (spec_l2Board_ls2 F) (loopAt 2 (bodyOf Try.f45)) n (spec_l2Board_st2 b4 r3) k = loopC (spec_l2Board_s2 F b4) n r3 (fun x => (spec_l2Board_o2 b4 x).run k)
  | 0, r3 => rfl
  | n + 1, r3 => (iterS_succ tt (spec_l2Board_tab F) (spec_l2Board_LS1 F) 70 (spec_l2Board_ls2 F) (loopAt 2 (bodyOf Try.f45)) n (spec_l2Board_st2 b4 r3) k).trans ((spec_l2Board_step2 F b4 r3 (nextK (iterS tt (spec_l2Board_tab F) (spec_l2Board_LS1 F) 70 (spec_l2Board_ls2 F) (loopAt 2 (bodyOf Try.f45)) n) k)).trans (congrArg (fun kn => spec_l2Board_s2 F b4 R r3 kn _) (funext (fun r3 => spec_l2Board_iter2 F b4 k n r3))))
theorem spec_l2Board_lok2 (F : Nat) : LoopOK Try.prog (loopAt 2 (bodyOf Try.f45)) (spec_l2Board_ls2 F) := by
  refine loopOK_of mixed ttok deep (spec_l2Board_tabok F) (loopsOK_at (spec_l2Board_lsok1 F) 2) (fuel := 70) fun R vals mem np killed k x h => ?_
  simp only [spec_l2Board_ls2] at h
  split at h
  · rename_i r3 b4
    simp only [GT.run] at h
    have hc := (cond_noneL h).1
    replace h := (cond_noneL h).2
    refine ⟨F, (spec_l2Board_iter2 F b4 k F r3).trans ((loopC_use (spec_l2Board_s2_nat F b4) hc _).trans h)⟩
  · simp only [GT.run] at h
    cases h
noncomputable def spec_l2Board_LS2 (F : Nat) : LT := (2, spec_l2Board_ls2 F) :: spec_l2Board_LS1 F
theorem spec_l2Board_lsok2 (F : Nat) : LoopsOK Try.prog (spec_l2Board_LS2 F) (bodyOf Try.f45) := loopsOK_cons spec_l2Board_keys (spec_l2Board_lok2 F) (spec_l2Board_lsok1 F)
theorem spec_l2Board_run (F : Nat) (b0 : List Int) : runS tt (spec_l2Board_tab F) (spec_l2Board_LS2 F) [] [] Try.f45 (bodyOf Try.f45) 70 [(.ints 16 b0)] [] = spec_l2Board_c _ F b0 (fun r => some ⟨(.bool r), [], []⟩) := by kernel_rfl
def spec_l2Board_ent (F : Nat) : Ent := ⟨[], .quiet, fun args mem => match args, mem with
  | [(.ints 16 b0)], [] => some ((spec_l2Board_p F b0).isSome, ⟨(.bool ((spec_l2Board_p F b0).getD default)), [], []⟩)
  | _, _ => none⟩
theorem spec_l2Board_fok : FunOK Try.prog 45 := funOK Try.func45 (by kernel_rfl) rfl
theorem spec_l2Board_meets (F : Nat) : Meets Try.prog 45 (spec_l2Board_ent F) := by
  refine meets_of_runS mixed ttok deep (spec_l2Board_tabok F) Try.func45 (body_some rfl) (spec_l2Board_lsok2 F) fun args mem hfit ret h => ?_
  clear hfit
  simp only [spec_l2Board_ent] at h
  split at h
  · rename_i b0
    simp only [Option.some.injEq, Prod.mk.injEq] at h
    obtain ⟨hc, rfl⟩ := h
    exact ⟨[], [], 70, _, (spec_l2Board_run F b0).trans ((spec_l2Board_cp _ F b0 _).trans (bind_use hc _)), rfl, rfl, rfl⟩
  · cases h

/-! loop.example/g01194/spec.l2Line -/
noncomputable def spec_l2Line_tab (F : Nat) : Tab := []
theorem spec_l2Line_tabok (F : Nat) : TabOK Try.prog (spec_l2Line_tab F) := tab_nil
noncomputable def spec_l2Line_LS0 (F : Nat) : LT := []
theorem spec_l2Line_lsok0 (F : Nat) : LoopsOK Try.prog (spec_l2Line_LS0 F) (bodyOf Try.f94) := loopsOK_nil
theorem spec_l2Line_keys : keysOK (bodyOf Try.f94) = true := by kernel_rfl
def spec_l2Line_st3 (d0 : Int) (i1 : Int) (k8 : Int) (out10 : List Int) : St := ⟨expand 42 0 [0, 1, 4, 5, 6] [(.int .i64 d0), (.int .i64 i1), (.ptr 0 0 0 8), (.ptr 1 0 0 8), (.int .i64 k8)], [(.var 8 (.ri .i64 [(0 : Int), (0 : Int), (0 : Int), (0 : Int), (0 : Int), (0 : Int), (0 : Int), (0 : Int)])), (.var 8 (.ri .i64 out10))], 0, []⟩
def spec_l2Line_o3 (d0 : Int) (i1 : Int) (x : List Int) : GT := (.out (.exit 0 ⟨expand 42 0 [4, 5] [(.ptr 0 0 0 8), (.ptr 1 0 0 8)], [(.var 8 (.ri .i64 [(0 : Int), (0 : Int), (0 : Int), (0 : Int), (0 : Int), (0 : Int), (0 : Int), (0 : Int)])), (.var 8 (.ri .i64 x))], 0, []⟩))
def spec_l2Line_ls3 (F : Nat) : LoopS := ⟨42, [0, 1, 4, 5, 6], [], [4, 5], [], [4], [], [], fun vals mem np killed => match vals, mem, np, killed with
  | [(.int .i64 d0), (.int .i64 i1), (.ptr 0 0 0 8), (.ptr 1 0 0 8), (.int .i64 k8)], [(.var 8 (.ri .i64 q_t49)), (.var 8 (.ri .i64 out10))], 0, [] => .br ((q_t49 == ([(0 : Int), (0 : Int), (0 : Int), (0 : Int), (0 : Int), (0 : Int), (0 : Int), (0 : Int)] : List Int)) && (spec_l2Line_l3 F d0 i1 k8 out10).isSome) (spec_l2Line_o3 d0 i1 ((spec_l2Line_l3 F d0 i1 k8 out10).getD default)) .fail
  | _, _, _, _ => .fail⟩
theorem spec_l2Line_step3 (F : Nat) (d0 : Int) (i1 : Int) (k8 : Int) (out10 : List Int) {R : Type} (k : Out → Option R) : stepS tt (spec_l2Line_tab F) (spec_l2Line_LS0 F) 70 (spec_l2Line_ls3 F) (loopAt 3 (bodyOf Try.f94)) (spec_l2Line_st3 d0 i1 k8 out10) k = spec_l2Line_s3 F d0 i1 R (k8, out10) (fun s => k (.norm (spec_l2Line_st3 d0 i1 s.1 s.2))) (fun x => (spec_l2Line_o3 d0 i1 x).run k) := by kernel_rfl
theorem spec_l2Line_iter3 (F : Nat) (d0 : Int) (i1 : Int) {R : Type} (k : Out → Option R) : ∀ (n : Nat) (k8 : Int) (out10 : List Int), iterS tt (spec_l2Line_tab F) (spec_l2Line_LS0 F) 70 (spec_l2Line_ls3 F) (loopAt 3 (bodyOf Try.f94)) n (spec_l2Line_st3 d0 i1 k8 out10) k = loopC (spec_l2Line_s3 F d0 i1) n (k8, out10) (fun x => (spec_l2Line_o3 d0 i1 x).run k)
  | 0, k8, out10 => rfl
  | n + 1, k8, out10 => (iterS_succ tt (spec_l2Line_tab F) (spec_l2Line_LS0 F) 70 (spec_l2Line_ls3 F) (loopAt 3 (bodyOf Try.f94)) n (spec_l2Line_st3 d0 i1 k8 out10) k).trans ((spec_l2Line_step3 F d0 i1 k8 out10 (nextK (iterS tt (spec_l2Line_tab F) (spec_l2Line_LS0 F) 70 (spec_l2Line_ls3 F) (loopAt 3 (bodyOf Try.f94)) n) k)).trans (congrArg (fun kn => spec_l2Line_s3 F d0 i1 R (k8, out10) kn _) (funext (fun ⟨k8, out10⟩ => spec_l2Line_iter3 F d0 i1 k n k8 out10))))
theorem spec_l2Line_lok3 (F : Nat) : LoopOK Try.prog (loopAt 3 (bodyOf Try.f94)) (spec_l2Line_ls3 F) := by
  refine loopOK_of mixed ttok deep (spec_l2Line_tabok F) (loopsOK_at (spec_l2Line_lsok0 F) 3) (fuel := 70) fun R vals mem np killed k x h => ?_
  simp only [spec_l2Line_ls3] at h
  split at h
  · rename_i d0 i1 k8 q_t49 out10
    simp only [GT.run] at h
    have hc := (cond_noneL h).1
    replace h := (cond_noneL h).2
    have hg := (and_split hc).1
    replace hc := (and_split hc).2
    obtain rfl := beq_li hg
    refine ⟨F, (spec_l2Line_iter3 F d0 i1 k F k8 out10).trans ((loopC_use (spec_l2Line_s3_nat F d0 i1) hc _).trans h)⟩
  · simp only [GT.run] at h
    cases h
noncomputable def spec_l2Line_LS1 (F : Nat) : LT := (3, spec_l2Line_ls3 F) :: spec_l2Line_LS0 F
theorem spec_l2Line_lsok1 (F : Nat) : LoopsOK Try.prog (spec_l2Line_LS1 F) (bodyOf Try.f94) := loopsOK_cons spec_l2Line_keys (spec_l2Line_lok3 F) (spec_l2Line_lsok0 F)
theorem spec_l2Line_run (F : Nat) (d0 : Int) (i1 : Int) : runS tt (spec_l2Line_tab F) (spec_l2Line_LS1 F) [] [] Try.f94 (bodyOf Try.f94) 70 [(.int .i64 d0), (.int .i64 i1)] [] = spec_l2Line_c _ F d0 i1 (fun r => some ⟨(.ints 8 r), [], []⟩) := by kernel_rfl
def spec_l2Line_ent (F : Nat) : Ent := ⟨[], .quiet, fun args mem => match args, mem with
  | [(.int .i64 d0), (.int .i64 i1)], [] => some ((spec_l2Line_p F d0 i1).isSome, ⟨(.ints 8 ((spec_l2Line_p F d0 i1).getD default)), [], []⟩)
  | _, _ => none⟩
theorem spec_l2Line_fok : FunOK Try.prog 94 := funOK Try.func94 (by kernel_rfl) rfl
theorem spec_l2Line_meets (F : Nat) : Meets Try.prog 94 (spec_l2Line_ent F) := by
  refine meets_of_runS mixed ttok deep (spec_l2Line_tabok F) Try.func94 (body_some rfl) (spec_l2Line_lsok1 F) fun args mem hfit ret h => ?_
  clear hfit
  simp only [spec_l2Line_ent] at h
  split at h
  · rename_i d0 i1
    simp only [Option.some.injEq, Prod.mk.injEq] at h
    obtain ⟨hc, rfl⟩ := h
    exact ⟨[], [], 70, _, (spec_l2Line_run F d0 i1).trans ((spec_l2Line_cp _ F d0 i1 _).trans (bind_use hc _)), rfl, rfl, rfl⟩
  · cases h

/-! loop.example/g01194/spec.l2At -/
noncomputable def spec_l2At_tab (F : Nat) : Tab := []
theorem spec_l2At_tabok (F : Nat) : TabOK Try.prog (spec_l2At_tab F) := tab_nil
noncomputable def spec_l2At_LS0 (F : Nat) : LT := []
theorem spec_l2At_lsok0 (F : Nat) : LoopsOK Try.prog (spec_l2At_LS0 F) (bodyOf Try.f59) := loopsOK_nil
theorem spec_l2At_run (F : Nat) (b0 : List Int) (cell1 : List Int) : runS tt (spec_l2At_tab F) (spec_l2At_LS0 F) [] [] Try.f59 (bodyOf Try.f59) 70 [(.ints 16 b0), (.ints 2 cell1)] [] = spec_l2At_c _ b0 cell1 (fun r => some ⟨(.int .i64 r), [], []⟩) := by kernel_rfl
def spec_l2At_ent (F : Nat) : Ent := ⟨[], .quiet, fun args mem => match args, mem with
  | [(.ints 16 b0), (.ints 2 cell1)], [] => some ((spec_l2At_p b0 cell1).isSome, ⟨(.int .i64 ((spec_l2At_p b0 cell1).getD default)), [], []⟩)
  | _, _ => none⟩
theorem spec_l2At_fok : FunOK Try.prog 59 := funOK Try.func59 (by kernel_rfl) rfl
theorem spec_l2At_meets (F : Nat) : Meets Try.prog 59 (spec_l2At_ent F) := by
  refine meets_of_runS mixed ttok deep (spec_l2At_tabok F) Try.func59 (body_some rfl) (spec_l2At_lsok0 F) fun args mem hfit ret h => ?_
  clear hfit
  simp only [spec_l2At_ent] at h
  split at h
  · rename_i b0 cell1
    simp only [Option.some.injEq, Prod.mk.injEq] at h
    obtain ⟨hc, rfl⟩ := h
    exact ⟨[], [], 70, _, (spec_l2At_run F b0 cell1).trans ((spec_l2At_cp _ b0 cell1 _).trans (bind_use hc _)), rfl, rfl, rfl⟩
  · cases h

/-! loop.example/g01194/spec.l2Numbers -/
noncomputable def spec_l2Numbers_tab (F : Nat) : Tab := [(94, (spec_l2Line_ent F)), (59, (spec_l2At_ent F))]
theorem spec_l2Numbers_tabok (F : Nat) : TabOK Try.prog (spec_l2Numbers_tab F) := (tab_cons (spec_l2Line_meets F) spec_l2Line_fok (tab_cons (spec_l2At_meets F) spec_l2At_fok tab_nil))
noncomputable def spec_l2Numbers_LS0 (F : Nat) : LT := []
theorem spec_l2Numbers_lsok0 (F : Nat) : LoopsOK Try.prog (spec_l2Numbers_LS0 F) (bodyOf Try.f87) := loopsOK_nil
theorem spec_l2Numbers_run (F : Nat) (b0 : List Int) (d1 : Int) (i2 : Int) : runS tt (spec_l2Numbers_tab F) (spec_l2Numbers_LS0 F) [] [] Try.f87 (bodyOf Try.f87) 70 [(.ints 16 b0), (.int .i64 d1), (.int .i64 i2)] [] = spec_l2Numbers_c _ F b0 d1 i2 (fun r => some ⟨(.ints 4 r), [], []⟩) := by kernel_rfl
def spec_l2Numbers_ent (F : Nat) : Ent := ⟨[], .quiet, fun args mem => match args, mem with
  | [(.ints 16 b0), (.int .i64 d1), (.int .i64 i2)], [] => some ((spec_l2Numbers_p F b0 d1 i2).isSome, ⟨(.ints 4 ((spec_l2Numbers_p F b0 d1 i2).getD default)), [], []⟩)
  | _, _ => none⟩
theorem spec_l2Numbers_fok : FunOK Try.prog 87 := funOK Try.func87 (by kernel_rfl) rfl
theorem spec_l2Numbers_meets (F : Nat) : Meets Try.prog 87 (spec_l2Numbers_ent F) := by
  refine meets_of_runS mixed ttok deep (spec_l2Numbers_tabok F) Try.func87 (body_some rfl) (spec_l2Numbers_lsok0 F) fun args mem hfit ret h => ?_
  clear hfit
  simp only [spec_l2Numbers_ent] at h
  split at h
  · rename_i b0 d1 i2
    simp only [Option.some.injEq, Prod.mk.injEq] at h
    obtain ⟨hc, rfl⟩ := h
    exact ⟨[], [], 70, _, (spec_l2Numbers_run F b0 d1 i2).trans ((spec_l2Numbers_cp _ F b0 d1 i2 _).trans (bind_use hc _)), rfl, rfl, rfl⟩
  · cases h

/-! loop.example/g01194/spec.l2Worth -/
noncomputable def spec_l2Worth_tab (F : Nat) : Tab := []
theorem spec_l2Worth_tabok (F : Nat) : TabOK Try.prog (spec_l2Worth_tab F) := tab_nil
noncomputable def spec_l2Worth_LS0 (F : Nat) : LT := []
theorem spec_l2Worth_lsok0 (F : Nat) : LoopsOK Try.prog (spec_l2Worth_LS0 F) (bodyOf Try.f145) := loopsOK_nil
theorem spec_l2Worth_run (F : Nat) (t0 : Int) : runS tt (spec_l2Worth_tab F) (spec_l2Worth_LS0 F) [] [] Try.f145 (bodyOf Try.f145) 70 [(.int .i64 t0)] [] = spec_l2Worth_c _ t0 (fun r => some ⟨(.int .i64 r), [], []⟩) := by kernel_rfl
def spec_l2Worth_ent (F : Nat) : Ent := ⟨[], .quiet, fun args mem => match args, mem with
  | [(.int .i64 t0)], [] => some ((spec_l2Worth_p t0).isSome, ⟨(.int .i64 ((spec_l2Worth_p t0).getD default)), [], []⟩)
  | _, _ => none⟩
theorem spec_l2Worth_fok : FunOK Try.prog 145 := funOK Try.func145 (by kernel_rfl) rfl
theorem spec_l2Worth_meets (F : Nat) : Meets Try.prog 145 (spec_l2Worth_ent F) := by
  refine meets_of_runS mixed ttok deep (spec_l2Worth_tabok F) Try.func145 (body_some rfl) (spec_l2Worth_lsok0 F) fun args mem hfit ret h => ?_
  clear hfit
  simp only [spec_l2Worth_ent] at h
  split at h
  · rename_i t0
    simp only [Option.some.injEq, Prod.mk.injEq] at h
    obtain ⟨hc, rfl⟩ := h
    exact ⟨[], [], 70, _, (spec_l2Worth_run F t0).trans ((spec_l2Worth_cp _ t0 _).trans (bind_use hc _)), rfl, rfl, rfl⟩
  · cases h

/-! loop.example/g01194/spec.l2Row -/
noncomputable def spec_l2Row_tab (F : Nat) : Tab := [(145, (spec_l2Worth_ent F))]
theorem spec_l2Row_tabok (F : Nat) : TabOK Try.prog (spec_l2Row_tab F) := (tab_cons (spec_l2Worth_meets F) spec_l2Worth_fok tab_nil)
noncomputable def spec_l2Row_LS0 (F : Nat) : LT := []
theorem spec_l2Row_lsok0 (F : Nat) : LoopsOK Try.prog (spec_l2Row_LS0 F) (bodyOf Try.f118) := loopsOK_nil
theorem spec_l2Row_keys : keysOK (bodyOf Try.f118) = true := by kernel_rfl
def spec_l2Row_st3 (row13 : List Int) (n9 : Int) (score10 : Int) (merged11 : Bool) (k12 : Int) (out15 : List Int) : St := ⟨expand 63 0 [1, 2, 4, 5, 6, 7, 8] [(.ptr 0 0 0 4), (.ptr 1 0 0 4), (.ptr 2 0 0 4), (.int .i64 n9), (.int .i64 score10), (.bool merged11), (.int .i64 k12)], [(.var 4 (.ri .i64 row13)), (.var 4 (.ri .i64 [(0 : Int), (0 : Int), (0 : Int), (0 : Int)])), (.var 4 (.ri .i64 out15))], 0, []⟩
def spec_l2Row_o3 (row13 : List Int) (x : Int × List Int) : GT := (.out (.exit 0 ⟨expand 63 0 [2, 4, 6] [(.ptr 0 0 0 4), (.ptr 1 0 0 4), (.int .i64 x.1)], [(.var 4 (.ri .i64 [(0 : Int), (0 : Int), (0 : Int), (0 : Int)])), (.var 4 (.ri .i64 x.2))], 0, []⟩))
def spec_l2Row_ls3 (F : Nat) : LoopS := ⟨63, [1, 2, 4, 5, 6, 7, 8], [], [2, 4, 6], [], [2, 3], [], [], fun vals mem np killed => match vals, mem, np, killed with
  | [(.ptr 0 0 0 4), (.ptr 1 0 0 4), (.ptr 2 0 0 4), (.int .i64 n9), (.int .i64 score10), (.bool merged11), (.int .i64 k12)], [(.var 4 (.ri .i64 row13)), (.var 4 (.ri .i64 q_t214)), (.var 4 (.ri .i64 out15))], 0, [] => .br ((q_t214 == ([(0 : Int), (0 : Int), (0 : Int), (0 : Int)] : List Int)) && (spec_l2Row_l3 F row13 n9 score10 merged11 k12 out15).isSome) (spec_l2Row_o3 row13 ((spec_l2Row_l3 F row13 n9 score10 merged11 k12 out15).getD default)) .fail
  | _, _, _, _ => .fail⟩
theorem spec_l2Row_step3 (F : Nat) (row13 : List Int) (n9 : Int) (score10 : Int) (merged11 : Bool) (k12 : Int) (out15 : List Int) {R : Type} (k : Out → Option R) : stepS tt (spec_l2Row_tab F) (spec_l2Row_LS0 F) 70 (spec_l2Row_ls3 F) (loopAt 3 (bodyOf Try.f118)) (spec_l2Row_st3 row13 n9 score10 merged11 k12 out15) k = spec_l2Row_s3 F row13 R (n9, score10, merged11, k12, out15) (fun s => k (.norm (spec_l2Row_st3 row13 s.1 s.2.1 s.2.2.1 s.2.2.2.1 s.2.2.2.2))) (fun x => (spec_l2Row_o3 row13 x).run k) := by kernel_rfl
theorem spec_l2Row_iter3 (F : Nat) (row13 : List Int) {R : Type} (k : Out → Option R) : ∀ (n : Nat) (n9 : Int) (score10 : Int) (merged11 : Bool) (k12 : Int) (out15 : List Int), iterS tt (spec_l2Row_tab F) (spec_l2Row_LS0 F) 70 (spec_l2Row_ls3 F) (loopAt 3 (bodyOf Try.f118)) n (spec_l2Row_st3 row13 n9 score10 merged11 k12 out15) k = loopC (spec_l2Row_s3 F row13) n (n9, score10, merged11, k12, out15) (fun x => (spec_l2Row_o3 row13 x).run k)
  | 0, n9, score10, merged11, k12, out15 => rfl
  | n + 1, n9, score10, merged11, k12, out15 => (iterS_succ tt (spec_l2Row_tab F) (spec_l2Row_LS0 F) 70 (spec_l2Row_ls3 F) (loopAt 3 (bodyOf Try.f118)) n (spec_l2Row_st3 row13 n9 score10 merged11 k12 out15) k).trans ((spec_l2Row_step3 F row13 n9 score10 merged11 k12 out15 (nextK (iterS tt (spec_l2Row_tab F) (spec_l2Row_LS0 F) 70 (spec_l2Row_ls3 F) (loopAt 3 (bodyOf Try.f118)) n) k)).trans (congrArg (fun kn => spec_l2Row_s3 F row13 R (n9, score10, merged11, k12, out15) kn _) (funext (fun ⟨n9, score10, merged11, k12, out15⟩ => spec_l2Row_iter3 F row13 k n n9 score10 merged11 k12 out15))))
theorem spec_l2Row_lok3 (F : Nat) : LoopOK Try.prog (loopAt 3 (bodyOf Try.f118)) (spec_l2Row_ls3 F) := by
  refine loopOK_of mixed ttok deep (spec_l2Row_tabok F) (loopsOK_at (spec_l2Row_lsok0 F) 3) (fuel := 70) fun R vals mem np killed k x h => ?_
  simp only [spec_l2Row_ls3] at h
  split at h
  · rename_i n9 score10 merged11 k12 row13 q_t214 out15
    simp only [GT.run] at h
    have hc := (cond_noneL h).1
    replace h := (cond_noneL h).2
    have hg := (and_split hc).1
    replace hc := (and_split hc).2
    obtain rfl := beq_li hg
    refine ⟨F, (spec_l2Row_iter3 F row13 k F n9 score10 merged11 k12 out15).trans ((loopC_use (spec_l2Row_s3_nat F row13) hc _).trans h)⟩
  · simp only [GT.run] at h
    cases h
noncomputable def spec_l2Row_LS1 (F : Nat) : LT := (3, spec_l2Row_ls3 F) :: spec_l2Row_LS0 F
theorem spec_l2Row_lsok1 (F : Nat) : LoopsOK Try.prog (spec_l2Row_LS1 F) (bodyOf Try.f118) := loopsOK_cons spec_l2Row_keys (spec_l2Row_lok3 F) (spec_l2Row_lsok0 F)
theorem spec_l2Row_run (F : Nat) (row0 : List Int) : runS tt (spec_l2Row_tab F) (spec_l2Row_LS1 F) [] [] Try.f118 (bodyOf Try.f118) 70 [(.ints 4 row0)] [] = spec_l2Row_c _ F row0 (fun r => some ⟨(.tup [(.ints 4 r.1), (.int .i64 r.2)]), [], []⟩) := by kernel_rfl
def spec_l2Row_ent (F : Nat) : Ent := ⟨[], .quiet, fun args mem => match args, mem with
  | [(.ints 4 row0)], [] => some ((spec_l2Row_p F row0).isSome, ⟨(.tup [(.ints 4 ((spec_l2Row_p F row0).getD default).1), (.int .i64 ((spec_l2Row_p F row0).getD default).2)]), [], []⟩)
  | _, _ => none⟩
theorem spec_l2Row_fok : FunOK Try.prog 118 := funOK Try.func118 (by kernel_rfl) rfl
theorem spec_l2Row_meets (F : Nat) : Meets Try.prog 118 (spec_l2Row_ent F) := by
  refine meets_of_runS mixed ttok deep (spec_l2Row_tabok F) Try.func118 (body_some rfl) (spec_l2Row_lsok1 F) fun args mem hfit ret h => ?_
  clear hfit
  simp only [spec_l2Row_ent] at h
  split at h
  · rename_i row0
    simp only [Option.some.injEq, Prod.mk.injEq] at h
    obtain ⟨hc, rfl⟩ := h
    exact ⟨[], [], 70, _, (spec_l2Row_run F row0).trans ((spec_l2Row_cp _ F row0 _).trans (bind_use hc _)), rfl, rfl, rfl⟩
  · cases h

/-! loop.example/g01194/spec.l2Put -/
noncomputable def spec_l2Put_tab (F : Nat) : Tab := []
theorem spec_l2Put_tabok (F : Nat) : TabOK Try.prog (spec_l2Put_tab F) := tab_nil
noncomputable def spec_l2Put_LS0 (F : Nat) : LT := []
theorem spec_l2Put_lsok0 (F : Nat) : LoopsOK Try.prog (spec_l2Put_LS0 F) (bodyOf Try.f60) := loopsOK_nil
theorem spec_l2Put_run (F : Nat) (b0 : List Int) (cell1 : List Int) (t2 : Int) : runS tt (spec_l2Put_tab F) (spec_l2Put_LS0 F) [] [] Try.f60 (bodyOf Try.f60) 70 [(.ints 16 b0), (.ints 2 cell1), (.int .i64 t2)] [] = spec_l2Put_c _ b0 cell1 t2 (fun r => some ⟨(.ints 16 r), [], []⟩) := by kernel_rfl
def spec_l2Put_ent (F : Nat) : Ent := ⟨[], .quiet, fun args mem => match args, mem with
  | [(.ints 16 b0), (.ints 2 cell1), (.int .i64 t2)], [] => some ((spec_l2Put_p b0 cell1 t2).isSome, ⟨(.ints 16 ((spec_l2Put_p b0 cell1 t2).getD default)), [], []⟩)
  | _, _ => none⟩
theorem spec_l2Put_fok : FunOK Try.prog 60 := funOK Try.func60 (by kernel_rfl) rfl
theorem spec_l2Put_meets (F : Nat) : Meets Try.prog 60 (spec_l2Put_ent F) := by
  refine meets_of_runS mixed ttok deep (spec_l2Put_tabok F) Try.func60 (body_some rfl) (spec_l2Put_lsok0 F) fun args mem hfit ret h => ?_
  clear hfit
  simp only [spec_l2Put_ent] at h
  split at h
  · rename_i b0 cell1 t2
    simp only [Option.some.injEq, Prod.mk.injEq] at h
    obtain ⟨hc, rfl⟩ := h
    exact ⟨[], [], 70, _, (spec_l2Put_run F b0 cell1 t2).trans ((spec_l2Put_cp _ b0 cell1 t2 _).trans (bind_use hc _)), rfl, rfl, rfl⟩
  · cases h

/-! loop.example/g01194/spec.l2Slide -/
noncomputable def spec_l2Slide_tab (F : Nat) : Tab := [(87, (spec_l2Numbers_ent F)), (118, (spec_l2Row_ent F)), (94, (spec_l2Line_ent F)), (60, (spec_l2Put_ent F))]
theorem spec_l2Slide_tabok (F : Nat) : TabOK Try.prog (spec_l2Slide_tab F) := (tab_cons (spec_l2Numbers_meets F) spec_l2Numbers_fok (tab_cons (spec_l2Row_meets F) spec_l2Row_fok (tab_cons (spec_l2Line_meets F) spec_l2Line_fok (tab_cons (spec_l2Put_meets F) spec_l2Put_fok tab_nil))))
noncomputable def spec_l2Slide_LS0 (F : Nat) : LT := []
theorem spec_l2Slide_lsok0 (F : Nat) : LoopsOK Try.prog (spec_l2Slide_LS0 F) (bodyOf Try.f111) := loopsOK_nil
theorem spec_l2Slide_keys : keysOK (bodyOf Try.f111) = true := by kernel_rfl
def spec_l2Slide_st3 (d0 : Int) (b12 : List Int) (sum10 : Int) (i11 : Int) (out14 : List Int) : St := ⟨expand 46 0 [1, 2, 4, 6, 7, 8] [(.int .i64 d0), (.ptr 0 0 0 16), (.ptr 1 0 0 16), (.ptr 2 0 0 16), (.int .i64 sum10), (.int .i64 i11)], [(.var 16 (.ri .i64 b12)), (.var 16 (.ri .i64 [(0 : Int), (0 : Int), (0 : Int), (0 : Int), (0 : Int), (0 : Int), (0 : Int), (0 : Int), (0 : Int), (0 : Int), (0 : Int), (0 : Int), (0 : Int), (0 : Int), (0 : Int), (0 : Int)])), (.var 16 (.ri .i64 out14))], 0, []⟩
def spec_l2Slide_o3 (d0 : Int) (b12 : List Int) (x : Int × List Int) : GT := (.out (.exit 0 ⟨expand 46 0 [4, 6, 7] [(.ptr 0 0 0 16), (.ptr 1 0 0 16), (.int .i64 x.1)], [(.var 16 (.ri .i64 [(0 : Int), (0 : Int), (0 : Int), (0 : Int), (0 : Int), (0 : Int), (0 : Int), (0 : Int), (0 : Int), (0 : Int), (0 : Int), (0 : Int), (0 : Int), (0 : Int), (0 : Int), (0 : Int)])), (.var 16 (.ri .i64 x.2))], 0, []⟩))
def spec_l2Slide_ls3 (F : Nat) : LoopS := ⟨46, [1, 2, 4, 6, 7, 8], [], [4, 6, 7], [], [4, 5], [], [], fun vals mem np killed => match vals, mem, np, killed with
  | [(.int .i64 d0), (.ptr 0 0 0 16), (.ptr 1 0 0 16), (.ptr 2 0 0 16), (.int .i64 sum10), (.int .i64 i11)], [(.var 16 (.ri .i64 b12)), (.var 16 (.ri .i64 q_t413)), (.var 16 (.ri .i64 out14))], 0, [] => .br ((q_t413 == ([(0 : Int), (0 : Int), (0 : Int), (0 : Int), (0 : Int), (0 : Int), (0 : Int), (0 : Int), (0 : Int), (0 : Int), (0 : Int), (0 : Int), (0 : Int), (0 : Int), (0 : Int), (0 : Int)] : List Int)) && (spec_l2Slide_l3 F d0 b12 sum10 i11 out14).isSome) (spec_l2Slide_o3 d0 b12 ((spec_l2Slide_l3 F d0 b12 sum10 i11 out14).getD default)) .fail
  | _, _, _, _ => .fail⟩
theorem spec_l2Slide_step3 (F : Nat) (d0 : Int) (b12 : List Int) (sum10 : Int) (i11 : Int) (out14 : List Int) {R : Type} (k : Out → Option R) : stepS tt (spec_l2Slide_tab F) (spec_l2Slide_LS0 F) 70 (spec_l2Slide_ls3 F) (loopAt 3 (bodyOf Try.f111)) (spec_l2Slide_st3 d0 b12 sum10 i11 out14) k = spec_l2Slide_s3 F d0 b12 R (sum10, i11, out14) (fun s => k (.norm (spec_l2Slide_st3 d0 b12 s.1 s.2.1 s.2.2))) (fun x => (spec_l2Slide_o3 d0 b12 x).run k) := by kernel_rfl
theorem spec_l2Slide_iter3 (F : Nat) (d0 : Int) (b12 : List Int) {R : Type} (k : Out → Option R) : ∀ (n : Nat) (sum10 : Int) (i11 : Int) (out14 : List Int), iterS tt (spec_l2Slide_tab F) (spec_l2Slide_LS0 F) 70 (spec_l2Slide_ls3 F) (loopAt 3 (bodyOf Try.f111)) n (spec_l2Slide_st3 d0 b12 sum10 i11 out14) k = loopC (spec_l2Slide_s3 F d0 b12) n (sum10, i11, out14) (fun x => (spec_l2Slide_o3 d0 b12 x).run k)
  | 0, sum10, i11, out14 => rfl
  | n + 1, sum10, i11, out14 => (iterS_succ tt (spec_l2Slide_tab F) (spec_l2Slide_LS0 F) 70 (spec_l2Slide_ls3 F) (loopAt 3 (bodyOf Try.f111)) n (spec_l2Slide_st3 d0 b12 sum10 i11 out14) k).trans ((spec_l2Slide_step3 F d0 b12 sum10 i11 out14 (nextK (iterS tt (spec_l2Slide_tab F) (spec_l2Slide_LS0 F) 70 (spec_l2Slide_ls3 F) (loopAt 3 (bodyOf Try.f111)) n) k)).trans (congrArg (fun kn => spec_l2Slide_s3 F d0 b12 R (sum10, i11, out14) kn _) (funext (fun ⟨sum10, i11, out14⟩ => spec_l2Slide_iter3 F d0 b12 k n sum10 i11 out14))))
theorem spec_l2Slide_lok3 (F : Nat) : LoopOK Try.prog (loopAt 3 (bodyOf Try.f111)) (spec_l2Slide_ls3 F) := by
  refine loopOK_of mixed ttok deep (spec_l2Slide_tabok F) (loopsOK_at (spec_l2Slide_lsok0 F) 3) (fuel := 70) fun R vals mem np killed k x h => ?_
  simp only [spec_l2Slide_ls3] at h
  split at h
  · rename_i d0 sum10 i11 b12 q_t413 out14
    simp only [GT.run] at h
    have hc := (cond_noneL h).1
    replace h := (cond_noneL h).2
    have hg := (and_split hc).1
    replace hc := (and_split hc).2
    obtain rfl := beq_li hg
    refine ⟨F, (spec_l2Slide_iter3 F d0 b12 k F sum10 i11 out14).trans ((loopC_use (spec_l2Slide_s3_nat F d0 b12) hc _).trans h)⟩
  · simp only [GT.run] at h
    cases h
noncomputable def spec_l2Slide_LS1 (F : Nat) : LT := (3, spec_l2Slide_ls3 F) :: spec_l2Slide_LS0 F
theorem spec_l2Slide_lsok1 (F : Nat) : LoopsOK Try.prog (spec_l2Slide_LS1 F) (bodyOf Try.f111) := loopsOK_cons spec_l2Slide_keys (spec_l2Slide_lok3 F) (spec_l2Slide_lsok0 F)
theorem spec_l2Slide_run (F : Nat) (b0 : List Int) (d1 : Int) : runS tt (spec_l2Slide_tab F) (spec_l2Slide_LS1 F) [] [] Try.f111 (bodyOf Try.f111) 70 [(.ints 16 b0), (.int .i64 d1)] [] = spec_l2Slide_c _ F b0 d1 (fun r => some ⟨(.tup [(.ints 16 r.1), (.int .i64 r.2)]), [], []⟩) := by kernel_rfl
def spec_l2Slide_ent (F : Nat) : Ent := ⟨[], .quiet, fun args mem => match args, mem with
  | [(.ints 16 b0), (.int .i64 d1)], [] => some ((spec_l2Slide_p F b0 d1).isSome, ⟨(.tup [(.ints 16 ((spec_l2Slide_p F b0 d1).getD default).1), (.int .i64 ((spec_l2Slide_p F b0 d1).getD default).2)]), [], []⟩)
  | _, _ => none⟩
theorem spec_l2Slide_fok : FunOK Try.prog 111 := funOK Try.func111 (by kernel_rfl) rfl
theorem spec_l2Slide_meets (F : Nat) : Meets Try.prog 111 (spec_l2Slide_ent F) := by
  refine meets_of_runS mixed ttok deep (spec_l2Slide_tabok F) Try.func111 (body_some rfl) (spec_l2Slide_lsok1 F) fun args mem hfit ret h => ?_
  clear hfit
  simp only [spec_l2Slide_ent] at h
  split at h
  · rename_i b0 d1
    simp only [Option.some.injEq, Prod.mk.injEq] at h
    obtain ⟨hc, rfl⟩ := h
    exact ⟨[], [], 70, _, (spec_l2Slide_run F b0 d1).trans ((spec_l2Slide_cp _ F b0 d1 _).trans (bind_use hc _)), rfl, rfl, rfl⟩
  · cases h

/-! loop.example/g01194/spec.l2Before -/
noncomputable def spec_l2Before_tab (F : Nat) : Tab := []
theorem spec_l2Before_tabok (F : Nat) : TabOK Try.prog (spec_l2Before_tab F) := tab_nil
noncomputable def spec_l2Before_LS0 (F : Nat) : LT := []
theorem spec_l2Before_lsok0 (F : Nat) : LoopsOK Try.prog (spec_l2Before_LS0 F) (bodyOf Try.f150) := loopsOK_nil
theorem spec_l2Before_keys : keysOK (bodyOf Try.f150) = true := by kernel_rfl
def spec_l2Before_st5 (r6 : Int) (a8 : List Int) (b9 : List Int) (c7 : Int) : St := ⟨expand 41 0 [2, 3, 5, 6] [(.ptr 0 0 0 16), (.ptr 1 0 0 16), (.int .i64 r6), (.int .i64 c7)], [(.var 16 (.ri .i64 a8)), (.var 16 (.ri .i64 b9))], 0, []⟩
def spec_l2Before_o5 (r6 : Int) (a8 : List Int) (b9 : List Int) (x : Bool × Bool) : GT := (.br x.1 (.out (.ret ⟨expand 41 0 [4] [(.bool x.2)], [], 0, []⟩)) (.out (.exit 2 ⟨expand 41 0 [2, 3, 5] [(.ptr 0 0 0 16), (.ptr 1 0 0 16), (.int .i64 r6)], [(.var 16 (.ri .i64 a8)), (.var 16 (.ri .i64 b9))], 0, []⟩)))
def spec_l2Before_ls5 (F : Nat) : LoopS := ⟨41, [2, 3, 5, 6], [], [2, 3, 5], [], [4], [], [], fun vals mem np killed => match vals, mem, np, killed with
  | [(.ptr 0 0 0 16), (.ptr 1 0 0 16), (.int .i64 r6), (.int .i64 c7)], [(.var 16 (.ri .i64 a8)), (.var 16 (.ri .i64 b9))], 0, [] => .br (spec_l2Before_l5 F r6 a8 b9 c7).isSome (spec_l2Before_o5 r6 a8 b9 ((spec_l2Before_l5 F r6 a8 b9 c7).getD default)) .fail
  | _, _, _, _ => .fail⟩
theorem spec_l2Before_step5 (F : Nat) (r6 : Int) (a8 : List Int) (b9 : List Int) (c7 : Int) {R : Type} (k : Out → Option R) : stepS tt (spec_l2Before_tab F) (spec_l2Before_LS0 F) 70 (spec_l2Before_ls5 F) (loopAt 5 (bodyOf Try.f150)) (spec_l2Before_st5 r6 a8 b9 c7) k = spec_l2Before_s5 F r6 a8 b9 R c7 (fun s => k (.norm (spec_l2Before_st5 r6 a8 b9 s))) (fun x => (spec_l2Before_o5 r6 a8 b9 x).run k) := by kernel_rfl
theorem spec_l2Before_iter5 (F : Nat) (r6 : Int) (a8 : List Int) (b9 : List Int) {R : Type} (k : Out → Option R) : ∀ (n : Nat) (c7 : Int), iterS tt (spec_l2Before_tab F) (spec_l2Before_LS0 F) 70 (spec_l2Before_ls5 F) (loopAt 5 (bodyOf Try.f150)) n (spec_l2Before_st5 r6 a8 b9 c7) k = loopC (spec_l2Before_s5 F r6 a8 b9) n c7 (fun x => (spec_l2Before_o5 r6 a8 b9 x).run k)
  | 0, c7 => rfl
  | n + 1, c7 => (iterS_succ tt (spec_l2Before_tab F) (spec_l2Before_LS0 F) 70 (spec_l2Before_ls5 F) (loopAt 5 (bodyOf Try.f150)) n (spec_l2Before_st5 r6 a8 b9 c7) k).trans ((spec_l2Before_step5 F r6 a8 b9 c7 (nextK (iterS tt (spec_l2Before_tab F) (spec_l2Before_LS0 F) 70 (spec_l2Before_ls5 F) (loopAt 5 (bodyOf Try.f150)) n) k)).trans (congrArg (fun kn => spec_l2Before_s5 F r6 a8 b9 R c7 kn _) (funext (fun c7 => spec_l2Before_iter5 F r6 a8 b9 k n c7))))
theorem spec_l2Before_lok5 (F : Nat) : LoopOK Try.prog (loopAt 5 (bodyOf Try.f150)) (spec_l2Before_ls5 F) := by
  refine loopOK_of mixed ttok deep (spec_l2Before_tabok F) (loopsOK_at (spec_l2Before_lsok0 F) 5) (fuel := 70) fun R vals mem np killed k x h => ?_
  simp only [spec_l2Before_ls5] at h
  split at h
  · rename_i r6 c7 a8 b9
    simp only [GT.run] at h
    have hc := (cond_noneL h).1
    replace h := (cond_noneL h).2
    refine ⟨F, (spec_l2Before_iter5 F r6 a8 b9 k F c7).trans ((loopC_use (spec_l2Before_s5_nat F r6 a8 b9) hc _).trans h)⟩
  · simp only [GT.run] at h
    cases h
noncomputable def spec_l2Before_LS1 (F : Nat) : LT := (5, spec_l2Before_ls5 F) :: spec_l2Before_LS0 F
theorem spec_l2Before_lsok1 (F : Nat) : LoopsOK Try.prog (spec_l2Before_LS1 F) (bodyOf Try.f150) := loopsOK_cons spec_l2Before_keys (spec_l2Before_lok5 F) (spec_l2Before_lsok0 F)
def spec_l2Before_st2 (a7 : List Int) (b8 : List Int) (r6 : Int) : St := ⟨expand 41 0 [2, 3, 5] [(.ptr 0 0 0 16), (.ptr 1 0 0 16), (.int .i64 r6)], [(.var 16 (.ri .i64 a7)), (.var 16 (.ri .i64 b8))], 0, []⟩
def spec_l2Before_o2 (a7 : List Int) (b8 : List Int) (x : Bool × Bool) : GT := (.br x.1 (.out (.ret ⟨expand 41 0 [4] [(.bool x.2)], [], 0, []⟩)) (.out (.exit 0 ⟨expand 41 0 [] [], [], 0, []⟩)))
def spec_l2Before_ls2 (F : Nat) : LoopS := ⟨41, [2, 3, 5], [], [], [], [4], [], [], fun vals mem np killed => match vals, mem, np, killed with
  | [(.ptr 0 0 0 16), (.ptr 1 0 0 16), (.int .i64 r6)], [(.var 16 (.ri .i64 a7)), (.var 16 (.ri .i64 b8))], 0, [] => .br (spec_l2Before_l2 F a7 b8 r6).isSome (spec_l2Before_o2 a7 b8 ((spec_l2Before_l2 F a7 b8 r6).getD default)) .fail
  | _, _, _, _ => .fail⟩
theorem spec_l2Before_step2 (F : Nat) (a7 : List Int) (b8 : List Int) (r6 : Int) {R : Type} (k : Out → Option R) : stepS tt (spec_l2Before_tab F) (spec_l2Before_LS1 F) 70 (spec_l2Before_ls2 F) (loopAt 2 (bodyOf Try.f150)) (spec_l2Before_st2 a7 b8 r6) k = spec_l2Before_s2 F a7 b8 R r6 (fun s => k (.norm (spec_l2Before_st2 a7 b8 s))) (fun x => (spec_l2Before_o2 a7 b8 x).run k) := by kernel_rfl
theorem spec_l2Before_iter2 (F : Nat) (a7 : List Int) (b8 : List Int) {R : Type} (k : Out → Option R) : ∀ (n : Nat) (r6 : Int), iterS tt (spec_l2Before_tab F) (spec_l2Before_LS1 F) 70 (spec_l2Before_ls2 F) (loopAt 2 (bodyOf Try.f150)) n (spec_l2Before_st2 a7 b8 r6) k = loopC (spec_l2Before_s2 F a7 b8) n r6 (fun x => (spec_l2Before_o2 a7 b8 x).run k)
  | 0, r6 => rfl
  | n + 1, r6 => (iterS_succ tt (spec_l2Before_tab F) (spec_l2Before_LS1 F) 70 (spec_l2Before_ls2 F) (loopAt 2 (bodyOf Try.f150)) n (spec_l2Before_st2 a7 b8 r6) k).trans ((spec_l2Before_step2 F a7 b8 r6 (nextK (iterS tt (spec_l2Before_tab F) (spec_l2Before_LS1 F) 70 (spec_l2Before_ls2 F) (loopAt 2 (bodyOf Try.f150)) n) k)).trans (congrArg (fun kn => spec_l2Before_s2 F a7 b8 R r6 kn _) (funext (fun r6 => spec_l2Before_iter2 F a7 b8 k n r6))))
theorem spec_l2Before_lok2 (F : Nat) : LoopOK Try.prog (loopAt 2 (bodyOf Try.f150)) (spec_l2Before_ls2 F) := by
  refine loopOK_of mixed ttok deep (spec_l2Before_tabok F) (loopsOK_at (spec_l2Before_lsok1 F) 2) (fuel := 70) fun R vals mem np killed k x h => ?_
  simp only [spec_l2Before_ls2] at h
  split at h
  · rename_i r6 a7 b8
    simp only [GT.run] at h
    have hc := (cond_noneL h).1
    replace h := (cond_noneL h).2
    refine ⟨F, (spec_l2Before_iter2 F a7 b8 k F r6).trans ((loopC_use (spec_l2Before_s2_nat F a7 b8) hc _).trans h)⟩
  · simp only [GT.run] at h
    cases h
noncomputable def spec_l2Before_LS2 (F : Nat) : LT := (2, spec_l2Before_ls2 F) :: spec_l2Before_LS1 F
theorem spec_l2Before_lsok2 (F : Nat) : LoopsOK Try.prog (spec_l2Before_LS2 F) (bodyOf Try.f150) := loopsOK_cons spec_l2Before_keys (spec_l2Before_lok2 F) (spec_l2Before_lsok1 F)
theorem spec_l2Before_run (F : Nat) (a0 : List Int) (b1 : List Int) : runS tt (spec_l2Before_tab F) (spec_l2Before_LS2 F) [] [] Try.f150 (bodyOf Try.f150) 70 [(.ints 16 a0), (.ints 16 b1)] [] = spec_l2Before_c _ F a0 b1 (fun r => some ⟨(.bool r), [], []⟩) := by kernel_rfl
def spec_l2Before_ent (F : Nat) : Ent := ⟨[], .quiet, fun args mem => match args, mem with
  | [(.ints 16 a0), (.ints 16 b1)], [] => some ((spec_l2Before_p F a0 b1).isSome, ⟨(.bool ((spec_l2Before_p F a0 b1).getD default)), [], []⟩)
  | _, _ => none⟩
theorem spec_l2Before_fok : FunOK Try.prog 150 := funOK Try.func150 (by kernel_rfl) rfl
theorem spec_l2Before_meets (F : Nat) : Meets Try.prog 150 (spec_l2Before_ent F) := by
  refine meets_of_runS mixed ttok deep (spec_l2Before_tabok F) Try.func150 (body_some rfl) (spec_l2Before_lsok2 F) fun args mem hfit ret h => ?_
  clear hfit
  simp only [spec_l2Before_ent] at h
  split at h
  · rename_i a0 b1
    simp only [Option.some.injEq, Prod.mk.injEq] at h
    obtain ⟨hc, rfl⟩ := h
    exact ⟨[], [], 70, _, (spec_l2Before_run F a0 b1).trans ((spec_l2Before_cp _ F a0 b1 _).trans (bind_use hc _)), rfl, rfl, rfl⟩
  · cases h

/-! loop.example/g01194/spec.l3Add -/
noncomputable def spec_l3Add_tab (F : Nat) : Tab := [(150, (spec_l2Before_ent F))]
theorem spec_l3Add_tabok (F : Nat) : TabOK Try.prog (spec_l3Add_tab F) := (tab_cons (spec_l2Before_meets F) spec_l2Before_fok tab_nil)
noncomputable def spec_l3Add_LS0 (F : Nat) : LT := []
theorem spec_l3Add_lsok0 (F : Nat) : LoopsOK Try.prog (spec_l3Add_LS0 F) (bodyOf Try.f128) := loopsOK_nil
theorem spec_l3Add_keys : keysOK (bodyOf Try.f128) = true := by kernel_rfl
def spec_l3Add_st2 (all0 : List (List Int)) (b5 : List Int) (n4 : Int) : St := ⟨expand 45 0 [0, 3, 5] [(.rr 16 all0), (.ptr 0 0 0 16), (.int .i64 n4)], [(.var 16 (.ri .i64 b5))], 0, []⟩
def spec_l3Add_o2 (all0 : List (List Int)) (b5 : List Int) (x : Int) : GT := (.out (.exit 0 ⟨expand 45 0 [0, 3, 5] [(.rr 16 all0), (.ptr 0 0 0 16), (.int .i64 x)], [(.var 16 (.ri .i64 b5))], 0, []⟩))
def spec_l3Add_ls2 (F : Nat) : LoopS := ⟨45, [0, 3, 5], [], [0, 3, 5], [], [4], [], [], fun vals mem np killed => match vals, mem, np, killed with
  | [(.rr 16 all0), (.ptr 0 0 0 16), (.int .i64 n4)], [(.var 16 (.ri .i64 b5))], 0, [] => .br (spec_l3Add_l2 F all0 b5 n4).isSome (spec_l3Add_o2 all0 b5 ((spec_l3Add_l2 F all0 b5 n4).getD default)) .fail
  | _, _, _, _ => .fail⟩
theorem spec_l3Add_step2 (F : Nat) (all0 : List (List Int)) (b5 : List Int) (n4 : Int) {R : Type} (k : Out → Option R) : stepS tt (spec_l3Add_tab F) (spec_l3Add_LS0 F) 70 (spec_l3Add_ls2 F) (loopAt 2 (bodyOf Try.f128)) (spec_l3Add_st2 all0 b5 n4) k = spec_l3Add_s2 F all0 b5 R n4 (fun s => k (.norm (spec_l3Add_st2 all0 b5 s))) (fun x => (spec_l3Add_o2 all0 b5 x).run k) := by kernel_rfl
theorem spec_l3Add_iter2 (F : Nat) (all0 : List (List Int)) (b5 : List Int) {R : Type} (k : Out → Option R) : ∀ (n : Nat) (n4 : Int), iterS tt (spec_l3Add_tab F) (spec_l3Add_LS0 F) 70 (spec_l3Add_ls2 F) (loopAt 2 (bodyOf Try.f128)) n (spec_l3Add_st2 all0 b5 n4) k = loopC (spec_l3Add_s2 F all0 b5) n n4 (fun x => (spec_l3Add_o2 all0 b5 x).run k)
  | 0, n4 => rfl
  | n + 1, n4 => (iterS_succ tt (spec_l3Add_tab F) (spec_l3Add_LS0 F) 70 (spec_l3Add_ls2 F) (loopAt 2 (bodyOf Try.f128)) n (spec_l3Add_st2 all0 b5 n4) k).trans ((spec_l3Add_step2 F all0 b5 n4 (nextK (iterS tt (spec_l3Add_tab F) (spec_l3Add_LS0 F) 70 (spec_l3Add_ls2 F) (loopAt 2 (bodyOf Try.f128)) n) k)).trans (congrArg (fun kn => spec_l3Add_s2 F all0 b5 R n4 kn _) (funext (fun n4 => spec_l3Add_iter2 F all0 b5 k n n4))))
theorem spec_l3Add_lok2 (F : Nat) : LoopOK Try.prog (loopAt 2 (bodyOf Try.f128)) (spec_l3Add_ls2 F) := by
  refine loopOK_of mixed ttok deep (spec_l3Add_tabok F) (loopsOK_at (spec_l3Add_lsok0 F) 2) (fuel := 70) fun R vals mem np killed k x h => ?_
  simp only [spec_l3Add_ls2] at h
  split at h
  · rename_i all0 n4 b5
    simp only [GT.run] at h
    have hc := (cond_noneL h).1
    replace h := (cond_noneL h).2
    refine ⟨F, (spec_l3Add_iter2 F all0 b5 k F n4).trans ((loopC_use (spec_l3Add_s2_nat F all0 b5) hc _).trans h)⟩
  · simp only [GT.run] at h
    cases h
noncomputable def spec_l3Add_LS1 (F : Nat) : LT := (2, spec_l3Add_ls2 F) :: spec_l3Add_LS0 F
theorem spec_l3Add_lsok1 (F : Nat) : LoopsOK Try.prog (spec_l3Add_LS1 F) (bodyOf Try.f128) := loopsOK_cons spec_l3Add_keys (spec_l3Add_lok2 F) (spec_l3Add_lsok0 F)
theorem spec_l3Add_run (F : Nat) (all0 : List (List Int)) (b1 : List Int) : runS tt (spec_l3Add_tab F) (spec_l3Add_LS1 F) [⟨4, 0, (.tup [])⟩] [] Try.f128 (bodyOf Try.f128) 70 [(.rr 16 all0), (.ints 16 b1)] [] = spec_l3Add_c _ F all0 b1 (fun r => some ⟨(.rr 16 r), [], []⟩) := by kernel_rfl
def spec_l3Add_ent (F : Nat) : Ent := ⟨[], .quiet, fun args mem => match args, mem with
  | [(.rr 16 all0), (.ints 16 b1)], [] => some ((spec_l3Add_p F all0 b1).isSome, ⟨(.rr 16 ((spec_l3Add_p F all0 b1).getD default)), [], []⟩)
  | _, _ => none⟩
theorem spec_l3Add_fok : FunOK Try.prog 128 := funOK Try.func128 (by kernel_rfl) rfl
theorem spec_l3Add_meets (F : Nat) : Meets Try.prog 128 (spec_l3Add_ent F) := by
  refine meets_of_runS mixed ttok deep (spec_l3Add_tabok F) Try.func128 (body_some rfl) (spec_l3Add_lsok1 F) fun args mem hfit ret h => ?_
  clear hfit
  simp only [spec_l3Add_ent] at h
  split at h
  · rename_i all0 b1
    simp only [Option.some.injEq, Prod.mk.injEq] at h
    obtain ⟨hc, rfl⟩ := h
    exact ⟨[⟨4, 0, (.tup [])⟩], [], 70, _, (spec_l3Add_run F all0 b1).trans ((spec_l3Add_cp _ F all0 b1 _).trans (bind_use hc _)), rfl, rfl, rfl⟩
  · cases h

/-! loop.example/g01194/spec.l5Next -/
noncomputable def spec_l5Next_tab (F : Nat) : Tab := [(111, (spec_l2Slide_ent F)), (128, (spec_l3Add_ent F))]
theorem spec_l5Next_tabok (F : Nat) : TabOK Try.prog (spec_l5Next_tab F) := (tab_cons (spec_l2Slide_meets F) spec_l2Slide_fok (tab_cons (spec_l3Add_meets F) spec_l3Add_fok tab_nil))
noncomputable def spec_l5Next_LS0 (F : Nat) : LT := []
theorem spec_l5Next_lsok0 (F : Nat) : LoopsOK Try.prog (spec_l5Next_LS0 F) (bodyOf Try.f102) := loopsOK_nil
theorem spec_l5Next_keys : keysOK (bodyOf Try.f102) = true := by kernel_rfl
def spec_l5Next_st6 (all0 : List (List Int)) (i2 : Int) (out1 : List (List Int)) (d3 : Int) : St := ⟨expand 32 0 [0, 3, 4, 5] [(.rr 16 all0), (.rr 16 out1), (.int .i64 i2), (.int .i64 d3)], [], 0, []⟩
def spec_l5Next_o6 (all0 : List (List Int)) (i2 : Int) (x : List (List Int)) : GT := (.out (.exit 2 ⟨expand 32 0 [0, 3, 4] [(.rr 16 all0), (.rr 16 x), (.int .i64 i2)], [], 0, []⟩))
def spec_l5Next_ls6 (F : Nat) : LoopS := ⟨32, [0, 3, 4, 5], [], [0, 3, 4], [], [2], [], [], fun vals mem np killed => match vals, mem, np, killed with
  | [(.rr 16 all0), (.rr 16 out1), (.int .i64 i2), (.int .i64 d3)], [], 0, [] => .br (spec_l5Next_l6 F all0 i2 out1 d3).isSome (spec_l5Next_o6 all0 i2 ((spec_l5Next_l6 F all0 i2 out1 d3).getD default)) .fail
  | _, _, _, _ => .fail⟩
theorem spec_l5Next_step6 (F : Nat) (all0 : List (List Int)) (i2 : Int) (out1 : List (List Int)) (d3 : Int) {R : Type} (k : Out → Option R) : stepS tt (spec_l5Next_tab F) (spec_l5Next_LS0 F) 70 (spec_l5Next_ls6 F) (loopAt 6 (bodyOf Try.f102)) (spec_l5Next_st6 all0 i2 out1 d3) k = spec_l5Next_s6 F all0 i2 R (out1, d3) (fun s => k (.norm (spec_l5Next_st6 all0 i2 s.1 s.2))) (fun x => (spec_l5Next_o6 all0 i2 x).run k) := by kernel_rfl
theorem spec_l5Next_iter6 (F : Nat) (all0 : List (List Int)) (i2 : Int) {R : Type} (k : Out → Option R) : ∀ (n : Nat) (out1 : List (List Int)) (d3 : Int), iterS tt (spec_l5Next_tab F) (spec_l5Next_LS0 F) 70 (spec_l5Next_ls6 F) (loopAt 6 (bodyOf Try.f102)) n (spec_l5Next_st6 all0 i2 out1 d3) k = loopC (spec_l5Next_s6 F all0 i2) n (out1, d3) (fun x => (spec_l5Next_o6 all0 i2 x).run k)
  | 0, out1, d3 => rfl
  | n + 1, out1, d3 => (iterS_succ tt (spec_l5Next_tab F) (spec_l5Next_LS0 F) 70 (spec_l5Next_ls6 F) (loopAt 6 (bodyOf Try.f102)) n (spec_l5Next_st6 all0 i2 out1 d3) k).trans ((spec_l5Next_step6 F all0 i2 out1 d3 (nextK (iterS tt (spec_l5Next_tab F) (spec_l5Next_LS0 F) 70 (spec_l5Next_ls6 F) (loopAt 6 (bodyOf Try.f102)) n) k)).trans (congrArg (fun kn => spec_l5Next_s6 F all0 i2 R (out1, d3) kn _) (funext (fun ⟨out1, d3⟩ => spec_l5Next_iter6 F all0 i2 k n out1 d3))))
theorem spec_l5Next_lok6 (F : Nat) : LoopOK Try.prog (loopAt 6 (bodyOf Try.f102)) (spec_l5Next_ls6 F) := by
  refine loopOK_of mixed ttok deep (spec_l5Next_tabok F) (loopsOK_at (spec_l5Next_lsok0 F) 6) (fuel := 70) fun R vals mem np killed k x h => ?_
  simp only [spec_l5Next_ls6] at h
  split at h
  · rename_i all0 out1 i2 d3
    simp only [GT.run] at h
    have hc := (cond_noneL h).1
    replace h := (cond_noneL h).2
    refine ⟨F, (spec_l5Next_iter6 F all0 i2 k F out1 d3).trans ((loopC_use (spec_l5Next_s6_nat F all0 i2) hc _).trans h)⟩
  · simp only [GT.run] at h
    cases h
noncomputable def spec_l5Next_LS1 (F : Nat) : LT := (6, spec_l5Next_ls6 F) :: spec_l5Next_LS0 F
theorem spec_l5Next_lsok1 (F : Nat) : LoopsOK Try.prog (spec_l5Next_LS1 F) (bodyOf Try.f102) := loopsOK_cons spec_l5Next_keys (spec_l5Next_lok6 F) (spec_l5Next_lsok0 F)
def spec_l5Next_st3 (all0 : List (List Int)) (out1 : List (List Int)) (i2 : Int) : St := ⟨expand 32 0 [0, 3, 4] [(.rr 16 all0), (.rr 16 out1), (.int .i64 i2)], [], 0, []⟩
def spec_l5Next_o3 (all0 : List (List Int)) (x : List (List Int)) : GT := (.out (.exit 0 ⟨expand 32 0 [3] [(.rr 16 x)], [], 0, []⟩))
def spec_l5Next_ls3 (F : Nat) : LoopS := ⟨32, [0, 3, 4], [], [3], [], [2], [], [], fun vals mem np killed => match vals, mem, np, killed with
  | [(.rr 16 all0), (.rr 16 out1), (.int .i64 i2)], [], 0, [] => .br (spec_l5Next_l3 F all0 out1 i2).isSome (spec_l5Next_o3 all0 ((spec_l5Next_l3 F all0 out1 i2).getD default)) .fail
  | _, _, _, _ => .fail⟩
theorem spec_l5Next_step3 (F : Nat) (all0 : List (List Int)) (out1 : List (List Int)) (i2 : Int) {R : Type} (k : Out → Option R) : stepS tt (spec_l5Next_tab F) (spec_l5Next_LS1 F) 70 (spec_l5Next_ls3 F) (loopAt 3 (bodyOf Try.f102)) (spec_l5Next_st3 all0 out1 i2) k = spec_l5Next_s3 F all0 R (out1, i2) (fun s => k (.norm (spec_l5Next_st3 all0 s.1 s.2))) (fun x => (spec_l5Next_o3 all0 x).run k) := by kernel_rfl
theorem spec_l5Next_iter3 (F : Nat) (all0 : List (List Int)) {R : Type} (k : Out → Option R) : ∀ (n : Nat) (out1 : List (List Int)) (i2 : Int), iterS tt (spec_l5Next_tab F) (spec_l5Next_LS1 F) 70 (spec_l5Next_ls3 F) (loopAt 3 (bodyOf Try.f102)) n (spec_l5Next_st3 all0 out1 i2) k = loopC (spec_l5Next_s3 F all0) n (out1, i2) (fun x => (spec_l5Next_o3 all0 x).run k)
  | 0, out1, i2 => rfl
  | n + 1, out1, i2 => (iterS_succ tt (spec_l5Next_tab F) (spec_l5Next_LS1 F) 70 (spec_l5Next_ls3 F) (loopAt 3 (bodyOf Try.f102)) n (spec_l5Next_st3 all0 out1 i2) k).trans ((spec_l5Next_step3 F all0 out1 i2 (nextK (iterS tt (spec_l5Next_tab F) (spec_l5Next_LS1 F) 70 (spec_l5Next_ls3 F) (loopAt 3 (bodyOf Try.f102)) n) k)).trans (congrArg (fun kn => spec_l5Next_s3 F all0 R (out1, i2) kn _) (funext (fun ⟨out1, i2⟩ => spec_l5Next_iter3 F all0 k n out1 i2))))
theorem spec_l5Next_lok3 (F : Nat) : LoopOK Try.prog (loopAt 3 (bodyOf Try.f102)) (spec_l5Next_ls3 F) := by
  refine loopOK_of mixed ttok deep (spec_l5Next_tabok F) (loopsOK_at (spec_l5Next_lsok1 F) 3) (fuel := 70) fun R vals mem np killed k x h => ?_
  simp only [spec_l5Next_ls3] at h
  split at h
  · rename_i all0 out1 i2
    simp only [GT.run] at h
    have hc := (cond_noneL h).1
    replace h := (cond_noneL h).2
    refine ⟨F, (spec_l5Next_iter3 F all0 k F out1 i2).trans ((loopC_use (spec_l5Next_s3_nat F all0) hc _).trans h)⟩
  · simp only [GT.run] at h
    cases h
noncomputable def spec_l5Next_LS2 (F : Nat) : LT := (3, spec_l5Next_ls3 F) :: spec_l5Next_LS1 F
theorem spec_l5Next_lsok2 (F : Nat) : LoopsOK Try.prog (spec_l5Next_LS2 F) (bodyOf Try.f102) := loopsOK_cons spec_l5Next_keys (spec_l5Next_lok3 F) (spec_l5Next_lsok1 F)
theorem spec_l5Next_run (F : Nat) (all0 : List (List Int)) : runS tt (spec_l5Next_tab F) (spec_l5Next_LS2 F) [] [] Try.f102 (bodyOf Try.f102) 70 [(.rr 16 all0)] [] = spec_l5Next_c _ F all0 (fun r => some ⟨(.rr 16 r), [], []⟩) := by kernel_rfl
def spec_l5Next_ent (F : Nat) : Ent := ⟨[], .quiet, fun args mem => match args, mem with
  | [(.rr 16 all0)], [] => some ((spec_l5Next_p F all0).isSome, ⟨(.rr 16 ((spec_l5Next_p F all0).getD default)), [], []⟩)
  | _, _ => none⟩
theorem spec_l5Next_fok : FunOK Try.prog 102 := funOK Try.func102 (by kernel_rfl) rfl
theorem spec_l5Next_meets (F : Nat) : Meets Try.prog 102 (spec_l5Next_ent F) := by
  refine meets_of_runS mixed ttok deep (spec_l5Next_tabok F) Try.func102 (body_some rfl) (spec_l5Next_lsok2 F) fun args mem hfit ret h => ?_
  clear hfit
  simp only [spec_l5Next_ent] at h
  split at h
  · rename_i all0
    simp only [Option.some.injEq, Prod.mk.injEq] at h
    obtain ⟨hc, rfl⟩ := h
    exact ⟨[], [], 70, _, (spec_l5Next_run F all0).trans ((spec_l5Next_cp _ F all0 _).trans (bind_use hc _)), rfl, rfl, rfl⟩
  · cases h

/-! loop.example/g01194/spec.l5Reach -/
noncomputable def spec_l5Reach_tab (F : Nat) : Tab := [(102, (spec_l5Next_ent F))]
theorem spec_l5Reach_tabok (F : Nat) : TabOK Try.prog (spec_l5Reach_tab F) := (tab_cons (spec_l5Next_meets F) spec_l5Next_fok tab_nil)
noncomputable def spec_l5Reach_LS0 (F : Nat) : LT := []
theorem spec_l5Reach_lsok0 (F : Nat) : LoopsOK Try.prog (spec_l5Reach_LS0 F) (bodyOf Try.f69) := loopsOK_nil
theorem spec_l5Reach_keys : keysOK (bodyOf Try.f69) = true := by kernel_rfl
def spec_l5Reach_st3 (n0 : Int) (all1 : List (List Int)) (i2 : Int) : St := ⟨expand 17 0 [1, 5, 6] [(.int .i64 n0), (.rr 16 all1), (.int .i64 i2)], [], 0, []⟩
def spec_l5Reach_o3 (n0 : Int) (x : List (List Int)) : GT := (.out (.exit 0 ⟨expand 17 0 [5] [(.rr 16 x)], [], 0, []⟩))
def spec_l5Reach_ls3 (F : Nat) : LoopS := ⟨17, [1, 5, 6], [⟨5, 0, (.tup [])⟩], [5], [], [4], [], [], fun vals mem np killed => match vals, mem, np, killed with
  | [(.int .i64 n0), (.rr 16 all1), (.int .i64 i2)], [], 0, [] => .br (spec_l5Reach_l3 F n0 all1 i2).isSome (spec_l5Reach_o3 n0 ((spec_l5Reach_l3 F n0 all1 i2).getD default)) .fail
  | _, _, _, _ => .fail⟩
theorem spec_l5Reach_step3 (F : Nat) (n0 : Int) (all1 : List (List Int)) (i2 : Int) {R : Type} (k : Out → Option R) : stepS tt (spec_l5Reach_tab F) (spec_l5Reach_LS0 F) 70 (spec_l5Reach_ls3 F) (loopAt 3 (bodyOf Try.f69)) (spec_l5Reach_st3 n0 all1 i2) k = spec_l5Reach_s3 F n0 R (all1, i2) (fun s => k (.norm (spec_l5Reach_st3 n0 s.1 s.2))) (fun x => (spec_l5Reach_o3 n0 x).run k) := by kernel_rfl
theorem spec_l5Reach_iter3 (F : Nat) (n0 : Int) {R : Type} (k : Out → Option R) : ∀ (n : Nat) (all1 : List (List Int)) (i2 : Int), iterS tt (spec_l5Reach_tab F) (spec_l5Reach_LS0 F) 70 (spec_l5Reach_ls3 F) (loopAt 3 (bodyOf Try.f69)) n (spec_l5Reach_st3 n0 all1 i2) k = loopC (spec_l5Reach_s3 F n0) n (all1, i2) (fun x => (spec_l5Reach_o3 n0 x).run k)
  | 0, all1, i2 => rfl
  | n + 1, all1, i2 => (iterS_succ tt (spec_l5Reach_tab F) (spec_l5Reach_LS0 F) 70 (spec_l5Reach_ls3 F) (loopAt 3 (bodyOf Try.f69)) n (spec_l5Reach_st3 n0 all1 i2) k).trans ((spec_l5Reach_step3 F n0 all1 i2 (nextK (iterS tt (spec_l5Reach_tab F) (spec_l5Reach_LS0 F) 70 (spec_l5Reach_ls3 F) (loopAt 3 (bodyOf Try.f69)) n) k)).trans (congrArg (fun kn => spec_l5Reach_s3 F n0 R (all1, i2) kn _) (funext (fun ⟨all1, i2⟩ => spec_l5Reach_iter3 F n0 k n all1 i2))))
theorem spec_l5Reach_lok3 (F : Nat) : LoopOK Try.prog (loopAt 3 (bodyOf Try.f69)) (spec_l5Reach_ls3 F) := by
  refine loopOK_of mixed ttok deep (spec_l5Reach_tabok F) (loopsOK_at (spec_l5Reach_lsok0 F) 3) (fuel := 70) fun R vals mem np killed k x h => ?_
  simp only [spec_l5Reach_ls3] at h
  split at h
  · rename_i n0 all1 i2
    simp only [GT.run] at h
    have hc := (cond_noneL h).1
    replace h := (cond_noneL h).2
    refine ⟨F, (spec_l5Reach_iter3 F n0 k F all1 i2).trans ((loopC_use (spec_l5Reach_s3_nat F n0) hc _).trans h)⟩
  · simp only [GT.run] at h
    cases h
noncomputable def spec_l5Reach_LS1 (F : Nat) : LT := (3, spec_l5Reach_ls3 F) :: spec_l5Reach_LS0 F
theorem spec_l5Reach_lsok1 (F : Nat) : LoopsOK Try.prog (spec_l5Reach_LS1 F) (bodyOf Try.f69) := loopsOK_cons spec_l5Reach_keys (spec_l5Reach_lok3 F) (spec_l5Reach_lsok0 F)
theorem spec_l5Reach_run (F : Nat) (b0 : List Int) (n1 : Int) : runS tt (spec_l5Reach_tab F) (spec_l5Reach_LS1 F) [] [] Try.f69 (bodyOf Try.f69) 70 [(.ints 16 b0), (.int .i64 n1)] [] = spec_l5Reach_c _ F b0 n1 (fun r => some ⟨(.rr 16 r), [], []⟩) := by kernel_rfl
def spec_l5Reach_ent (F : Nat) : Ent := ⟨[], .quiet, fun args mem => match args, mem with
  | [(.ints 16 b0), (.int .i64 n1)], [] => some ((spec_l5Reach_p F b0 n1).isSome, ⟨(.rr 16 ((spec_l5Reach_p F b0 n1).getD default)), [], []⟩)
  | _, _ => none⟩
theorem spec_l5Reach_fok : FunOK Try.prog 69 := funOK Try.func69 (by kernel_rfl) rfl
theorem spec_l5Reach_meets (F : Nat) : Meets Try.prog 69 (spec_l5Reach_ent F) := by
  refine meets_of_runS mixed ttok deep (spec_l5Reach_tabok F) Try.func69 (body_some rfl) (spec_l5Reach_lsok1 F) fun args mem hfit ret h => ?_
  clear hfit
  simp only [spec_l5Reach_ent] at h
  split at h
  · rename_i b0 n1
    simp only [Option.some.injEq, Prod.mk.injEq] at h
    obtain ⟨hc, rfl⟩ := h
    exact ⟨[], [], 70, _, (spec_l5Reach_run F b0 n1).trans ((spec_l5Reach_cp _ F b0 n1 _).trans (bind_use hc _)), rfl, rfl, rfl⟩
  · cases h
end Go.Proofs.Ytgmnclpjbhmioaa
