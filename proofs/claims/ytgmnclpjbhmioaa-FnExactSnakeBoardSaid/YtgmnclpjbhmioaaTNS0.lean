/-
Pure functions and what the code of them does, by program; without conditions.
-/
import Derived.Test.YtgmnclpjbhmioaaTNP0
import Derived.Test.YtgmnclpjbhmioaaTNA
namespace Go.Proofs.Ytgmnclpjbhmioaa
open Go Go.Lv Go.Lv.P Go.Proofs
set_option linter.unusedVariables false
set_option linter.unusedSimpArgs false
set_option maxRecDepth 100000
/-! loop.example/g01194/laws.toIntA4 -/
noncomputable def laws_toIntA4_tab (F : Nat) : Tab := []
theorem laws_toIntA4_tabok (F : Nat) : TabOK Try.prog (laws_toIntA4_tab F) := tab_nil
noncomputable def laws_toIntA4_LS0 (F : Nat) : LT := []
theorem laws_toIntA4_lsok0 (F : Nat) : LoopsOK Try.prog (laws_toIntA4_LS0 F) (bodyOf Try.f81) := loopsOK_nil
theorem laws_toIntA4_run (F : Nat) (a0 : List Int) : runS tt (laws_toIntA4_tab F) (laws_toIntA4_LS0 F) [] [] Try.f81 (bodyOf Try.f81) 70 [(.ints 4 a0)] [] = laws_toIntA4_c _ a0 (fun r => some ⟨(.ints 4 r), [], []⟩) := by kernel_rfl
def laws_toIntA4_ent (F : Nat) : Ent := ⟨[], .quiet, fun args mem => match args, mem with
  | [(.ints 4 a0)], [] => some (true, ⟨(.ints 4 (laws_toIntA4_v a0)), [], []⟩)
  | _, _ => none⟩
theorem laws_toIntA4_fok : FunOK Try.prog 81 := funOK Try.func81 (by kernel_rfl) rfl
theorem laws_toIntA4_meets (F : Nat) : Meets Try.prog 81 (laws_toIntA4_ent F) := by
  refine meets_of_runS mixed ttok deep (laws_toIntA4_tabok F) Try.func81 (body_some rfl) (laws_toIntA4_lsok0 F) fun args mem hfit ret h => ?_
  clear hfit
  simp only [laws_toIntA4_ent] at h
  split at h
  · rename_i a0
    simp only [Option.some.injEq, Prod.mk.injEq] at h
    obtain ⟨hc, rfl⟩ := h
    exact ⟨[], [], 70, _, (laws_toIntA4_run F a0).trans (laws_toIntA4_cv _ a0 _), rfl, rfl, rfl⟩
  · cases h

/-! loop.example/g01194/laws.toIntA4A4 -/
noncomputable def laws_toIntA4A4_tab (F : Nat) : Tab := [(81, (laws_toIntA4_ent F))]
theorem laws_toIntA4A4_tabok (F : Nat) : TabOK Try.prog (laws_toIntA4A4_tab F) := (tab_cons (laws_toIntA4_meets F) laws_toIntA4_fok tab_nil)
noncomputable def laws_toIntA4A4_LS0 (F : Nat) : LT := []
theorem laws_toIntA4A4_lsok0 (F : Nat) : LoopsOK Try.prog (laws_toIntA4A4_LS0 F) (bodyOf Try.f48) := loopsOK_nil
theorem laws_toIntA4A4_run (F : Nat) (a0 : List Int) : runS tt (laws_toIntA4A4_tab F) (laws_toIntA4A4_LS0 F) [] [] Try.f48 (bodyOf Try.f48) 70 [(.ints 16 a0)] [] = laws_toIntA4A4_c _ a0 (fun r => some ⟨(.ints 16 r), [], []⟩) := by kernel_rfl
def laws_toIntA4A4_ent (F : Nat) : Ent := ⟨[], .quiet, fun args mem => match args, mem with
  | [(.ints 16 a0)], [] => some (true, ⟨(.ints 16 (laws_toIntA4A4_v a0)), [], []⟩)
  | _, _ => none⟩
theorem laws_toIntA4A4_fok : FunOK Try.prog 48 := funOK Try.func48 (by kernel_rfl) rfl
theorem laws_toIntA4A4_meets (F : Nat) : Meets Try.prog 48 (laws_toIntA4A4_ent F) := by
  refine meets_of_runS mixed ttok deep (laws_toIntA4A4_tabok F) Try.func48 (body_some rfl) (laws_toIntA4A4_lsok0 F) fun args mem hfit ret h => ?_
  clear hfit
  simp only [laws_toIntA4A4_ent] at h
  split at h
  · rename_i a0
    simp only [Option.some.injEq, Prod.mk.injEq] at h
    obtain ⟨hc, rfl⟩ := h
    exact ⟨[], [], 70, _, (laws_toIntA4A4_run F a0).trans (laws_toIntA4A4_cv _ a0 _), rfl, rfl, rfl⟩
  · cases h

/-! loop.example/g01194/laws.toBoard -/
noncomputable def laws_toBoard_tab (F : Nat) : Tab := [(48, (laws_toIntA4A4_ent F))]
theorem laws_toBoard_tabok (F : Nat) : TabOK Try.prog (laws_toBoard_tab F) := (tab_cons (laws_toIntA4A4_meets F) laws_toIntA4A4_fok tab_nil)
noncomputable def laws_toBoard_LS0 (F : Nat) : LT := []
theorem laws_toBoard_lsok0 (F : Nat) : LoopsOK Try.prog (laws_toBoard_LS0 F) (bodyOf Try.f14) := loopsOK_nil
theorem laws_toBoard_run (F : Nat) (a0 : List Int) : runS tt (laws_toBoard_tab F) (laws_toBoard_LS0 F) [] [] Try.f14 (bodyOf Try.f14) 70 [(.ints 16 a0)] [] = laws_toBoard_c _ a0 (fun r => some ⟨(.ints 16 r), [], []⟩) := by kernel_rfl
def laws_toBoard_ent (F : Nat) : Ent := ⟨[], .quiet, fun args mem => match args, mem with
  | [(.ints 16 a0)], [] => some (true, ⟨(.ints 16 (laws_toBoard_v a0)), [], []⟩)
  | _, _ => none⟩
theorem laws_toBoard_fok : FunOK Try.prog 14 := funOK Try.func14 (by kernel_rfl) rfl
theorem laws_toBoard_meets (F : Nat) : Meets Try.prog 14 (laws_toBoard_ent F) := by
  refine meets_of_runS mixed ttok deep (laws_toBoard_tabok F) Try.func14 (body_some rfl) (laws_toBoard_lsok0 F) fun args mem hfit ret h => ?_
  clear hfit
  simp only [laws_toBoard_ent] at h
  split at h
  · rename_i a0
    simp only [Option.some.injEq, Prod.mk.injEq] at h
    obtain ⟨hc, rfl⟩ := h
    exact ⟨[], [], 70, _, (laws_toBoard_run F a0).trans (laws_toBoard_cv _ a0 _), rfl, rfl, rfl⟩
  · cases h

/-! loop.example/g01194/spec.l1In -/
noncomputable def spec_l1In_tab (F : Nat) : Tab := []
theorem spec_l1In_tabok (F : Nat) : TabOK Try.prog (spec_l1In_tab F) := tab_nil
noncomputable def spec_l1In_LS0 (F : Nat) : LT := []
theorem spec_l1In_lsok0 (F : Nat) : LoopsOK Try.prog (spec_l1In_LS0 F) (bodyOf Try.f58) := loopsOK_nil
theorem spec_l1In_run (F : Nat) (x0 : Int) (a1 : Int) (b2 : Int) : runS tt (spec_l1In_tab F) (spec_l1In_LS0 F) [] [] Try.f58 (bodyOf Try.f58) 70 [(.int .i64 x0), (.int .i64 a1), (.int .i64 b2)] [] = spec_l1In_c _ x0 a1 b2 (fun r => some ⟨(.bool r), [], []⟩) := by kernel_rfl
def spec_l1In_ent (F : Nat) : Ent := ⟨[], .quiet, fun args mem => match args, mem with
  | [(.int .i64 x0), (.int .i64 a1), (.int .i64 b2)], [] => some (true, ⟨(.bool (spec_l1In_v x0 a1 b2)), [], []⟩)
  | _, _ => none⟩
theorem spec_l1In_fok : FunOK Try.prog 58 := funOK Try.func58 (by kernel_rfl) rfl
theorem spec_l1In_meets (F : Nat) : Meets Try.prog 58 (spec_l1In_ent F) := by
  refine meets_of_runS mixed ttok deep (spec_l1In_tabok F) Try.func58 (body_some rfl) (spec_l1In_lsok0 F) fun args mem hfit ret h => ?_
  clear hfit
  simp only [spec_l1In_ent] at h
  split at h
  · rename_i x0 a1 b2
    simp only [Option.some.injEq, Prod.mk.injEq] at h
    obtain ⟨hc, rfl⟩ := h
    exact ⟨[], [], 70, _, (spec_l1In_run F x0 a1 b2).trans (spec_l1In_cv _ x0 a1 b2 _), rfl, rfl, rfl⟩
  · cases h

/-! loop.example/g01194/spec.l2Board -/
noncomputable def spec_l2Board_tab (F : Nat) : Tab := [(58, (spec_l1In_ent F))]
theorem spec_l2Board_tabok (F : Nat) : TabOK Try.prog (spec_l2Board_tab F) := (tab_cons (spec_l1In_meets F) spec_l1In_fok tab_nil)
noncomputable def spec_l2Board_LS0 (F : Nat) : LT := []
theorem spec_l2Board_lsok0 (F : Nat) : LoopsOK Try.prog (spec_l2Board_LS0 F) (bodyOf Try.f45) := loopsOK_nil
theorem spec_l2Board_keys : keysOK (bodyOf Try.f45) = true := by kernel_rfl
def spec_l2Board_st5 (r3 : Int) (b5 : List Int) (c4 : Int) : St := ⟨expand 21 0 [1, 3, 4] [(.ptr 0 0 0 16), (.int .i64 r3), (.int .i64 c4)], [(.var 16 (.ri .i64 b5))], 0, []⟩
def spec_l2Board_o5 (r3 : Int) (b5 : List Int) (x : Bool) : GT := (.br x (.out (.ret ⟨expand 21 0 [2] [(.bool false)], [], 0, []⟩)) (.out (.exit 2 ⟨expand 21 0 [1, 3] [(.ptr 0 0 0 16), (.int .i64 r3)], [(.var 16 (.ri .i64 b5))], 0, []⟩)))
def spec_l2Board_ls5 (F : Nat) : LoopS := ⟨21, [1, 3, 4], [], [1, 3], [], [2], [], [], fun vals mem np killed => match vals, mem, np, killed with
  | [(.ptr 0 0 0 16), (.int .i64 r3), (.int .i64 c4)], [(.var 16 (.ri .i64 b5))], 0, [] => .br (spec_l2Board_l5 F r3 b5 c4).isSome (spec_l2Board_o5 r3 b5 ((spec_l2Board_l5 F r3 b5 c4).getD default)) .fail
  | _, _, _, _ => .fail⟩
theorem spec_l2Board_step5 (F : Nat) (r3 : Int) (b5 : List Int) (c4 : Int) {R : Type} (k : Out → Option R) : stepS tt (spec_l2Board_tab F) (spec_l2Board_LS0 F) 70 (spec_l2Board_ls5 F) (loopAt 5 (bodyOf Try.f45)) (spec_l2Board_st5 r3 b5 c4) k = spec_l2Board_s5 F r3 b5 R c4 (fun s => k (.norm (spec_l2Board_st5 r3 b5 s))) (fun x => (spec_l2Board_o5 r3 b5 x).run k) := by kernel_rfl
theorem spec_l2Board_iter5 (F : Nat) (r3 : Int) (b5 : List Int) {R : Type} (k : Out → Option R) : ∀ (n : Nat) (c4 : Int), iterS tt (spec_l2Board_tab F) (spec_l2Board_LS0 F) 70 (spec_l2Board_ls5 F) (loopAt 5 (bodyOf Try.f45)) n (spec_l2Board_st5 r3 b5 c4) k = loopC (spec_l2Board_s5 F r3 b5) n c4 (fun x => (spec_l2Board_o5 r3 b5 x).run k)
  | 0, c4 => rfl
  | n + 1, c4 => (iterS_succ tt (spec_l2Board_tab F) (spec_l2Board_LS0 F) 70 (spec_l2Board_ls5 F) (loopAt 5 (bodyOf Try.f45)) n (spec_l2Board_st5 r3 b5 c4) k).trans ((spec_l2Board_step5 F r3 b5 c4 (nextK (iterS tt (spec_l2Board_tab F) (spec_l2Board_LS0 F) 70 (spec_l2Board_ls5 F) (loopAt 5 (bodyOf Try.f45)) n) k)).trans (congrArg (fun kn => spec_l2Board_s5 F r3 b5 R c4 kn _) (funext (fun c4 => spec_l2Board_iter5 F r3 b5 k n c4))))
theorem spec_l2Board_lok5 (F : Nat) : LoopOK Try.prog (loopAt 5 (bodyOf Try.f45)) (spec_l2Board_ls5 F) := by
  refine loopOK_of mixed ttok deep (spec_l2Board_tabok F) (loopsOK_at (spec_l2Board_lsok0 F) 5) (fuel := 70) fun R vals mem np killed k x h => ?_
  simp only [spec_l2Board_ls5] at h
  split at h
  · rename_i r3 c4 b5
    simp only [GT.run] at h
    have hc := (cond_noneL h).1
    replace h := (cond_noneL h).2
    refine ⟨F, (spec_l2Board_iter5 F r3 b5 k F c4).trans ((loopC_use (spec_l2Board_s5_nat F r3 b5) hc _).trans h)⟩
  · simp only [GT.run] at h
    cases h
noncomputable def spec_l2Board_LS1 (F : Nat) : LT := (5, spec_l2Board_ls5 F) :: spec_l2Board_LS0 F
theorem spec_l2Board_lsok1 (F : Nat) : LoopsOK Try.prog (spec_l2Board_LS1 F) (bodyOf Try.f45) := loopsOK_cons spec_l2Board_keys (spec_l2Board_lok5 F) (spec_l2Board_lsok0 F)
def spec_l2Board_st2 (b4 : List Int) (r3 : Int) : St := ⟨expand 21 0 [1, 3] [(.ptr 0 0 0 16), (.int .i64 r3)], [(.var 16 (.ri .i64 b4))], 0, []⟩
def spec_l2Board_o2 (b4 : List Int) (x : Bool) : GT := (.br x (.out (.ret ⟨expand 21 0 [2] [(.bool false)], [], 0, []⟩)) (.out (.exit 0 ⟨expand 21 0 [] [], [], 0, []⟩)))
def spec_l2Board_ls2 (F : Nat) : LoopS := ⟨21, [1, 3], [], [], [], [2], [], [], fun vals mem np killed => match vals, mem, np, killed with
  | [(.ptr 0 0 0 16), (.int .i64 r3)], [(.var 16 (.ri .i64 b4))], 0, [] => .br (spec_l2Board_l2 F b4 r3).isSome (spec_l2Board_o2 b4 ((spec_l2Board_l2 F b4 r3).getD default)) .fail
  | _, _, _, _ => .fail⟩
theorem spec_l2Board_step2 (F : Nat) (b4 : List Int) (r3 : Int) {R : Type} (k : Out → Option R) : stepS tt (spec_l2Board_tab F) (spec_l2Board_LS1 F) 70 (spec_l2Board_ls2 F) (loopAt 2 (bodyOf Try.f45)) (spec_l2Board_st2 b4 r3) k = spec_l2Board_s2 F b4 R r3 (fun s => k (.norm (spec_l2Board_st2 b4 s))) (fun x => (spec_l2Board_o2 b4 x).run k) := by kernel_rfl
theorem spec_l2Board_iter2 (F : Nat) (b4 : List Int) {R : Type} (k : Out → Option R) : ∀ (n : Nat) (r3 : Int), iterS tt (spec_l2Board_tab F) (spec_l2Board_LS1 F) 70 (spec_l2Board_ls2 F) (loopAt 2 (bodyOf Try.f45)) n (spec_l2Board_st2 b4 r3) k = loopC (spec_l2Board_s2 F b4) n r3 (fun x => (spec_l2Board_o2 b4 x).run k)
  | 0, r3 => rfl
  | n + 1, r3 => (iterS_succ tt (spec_l2Board_tab F) (spec_l2Board_LS1 F) 70 (spec_l2Board_ls2 F) (loopAt 2 (bodyOf Try.f45)) n (spec_l2Board_st2 b4 r3) k).trans ((spec_l2Board_step2 F b4 r3 (nextK (iterS tt (spec_l2Board_tab F) (spec_l2Board_LS1 F) 70 (spec_l2Board_ls2 F) (loopAt 2 (bodyOf Try.f45)) n) k)).trans (congrArg (fun kn => spec_l2Board_s2 F b4 R r3 kn _) (funext (fun r3 => spec_l2Board_iter2 F b4 k n r3))))
theorem spec_l2Board_lok2 (F : Nat) : LoopOK Try.prog (loopAt 2 (bodyOf Try.f45)) (spec_l2Board_ls2 F) := by
  refine loopOK_of mixed ttok deep (spec_l2Board_tabok F) (loopsOK_at (spec_l2Board_lsok1 F) 2) (fuel := 70) fun R vals mem np killed k x h => ?_
  simp only [spec_l2Board_ls2] at h
  split at h
  · rename_i r3 b4
    simp only [GT.run] at h
    have hc := (cond_noneL h).1
    replace h := (cond_noneL h).2
    refine ⟨F, (spec_l2Board_iter2 F b4 k F r3).trans ((loopC_use (spec_l2Board_s2_nat F b4) hc _).trans h)⟩
  · simp only [GT.run] at h
    cases h
noncomputable def spec_l2Board_LS2 (F : Nat) : LT := (2, spec_l2Board_ls2 F) :: spec_l2Board_LS1 F
theorem spec_l2Board_lsok2 (F : Nat) : LoopsOK Try.prog (spec_l2Board_LS2 F) (bodyOf Try.f45) := loopsOK_cons spec_l2Board_keys (spec_l2Board_lok2 F) (spec_l2Board_lsok1 F)
theorem spec_l2Board_run (F : Nat) (b0 : List Int) : runS tt (spec_l2Board_tab F) (spec_l2Board_LS2 F) [] [] Try.f45 (bodyOf Try.f45) 70 [(.ints 16 b0)] [] = spec_l2Board_c _ F b0 (fun r => some ⟨(.bool r), [], []⟩) := by kernel_rfl
def spec_l2Board_ent (F : Nat) : Ent := ⟨[], .quiet, fun args mem => match args, mem with
  | [(.ints 16 b0)], [] => some ((spec_l2Board_p F b0).isSome, ⟨(.bool ((spec_l2Board_p F b0).getD default)), [], []⟩)
  | _, _ => none⟩
theorem spec_l2Board_fok : FunOK Try.prog 45 := funOK Try.func45 (by kernel_rfl) rfl
theorem spec_l2Board_meets (F : Nat) : Meets Try.prog 45 (spec_l2Board_ent F) := by
  refine meets_of_runS mixed ttok deep (spec_l2Board_tabok F) Try.func45 (body_some rfl) (spec_l2Board_lsok2 F) fun args mem hfit ret h => ?_
  clear hfit
  simp only [spec_l2Board_ent] at h
  split at h
  · rename_i b0
    simp only [Option.some.injEq, Prod.mk.injEq] at h
    obtain ⟨hc, rfl⟩ := h
    exact ⟨[], [], 70, _, (spec_l2Board_run F b0).trans ((spec_l2Board_cp _ F b0 _).trans (bind_use hc _)), rfl, rfl, rfl⟩
  · cases h

/-! loop.example/g01194/spec.CountTiles -/
noncomputable def spec_CountTiles_tab (F : Nat) : Tab := [(45, (spec_l2Board_ent F))]
theorem spec_CountTiles_tabok (F : Nat) : TabOK Try.prog (spec_CountTiles_tab F) := (tab_cons (spec_l2Board_meets F) spec_l2Board_fok tab_nil)
noncomputable def spec_CountTiles_LS0 (F : Nat) : LT := []
theorem spec_CountTiles_lsok0 (F : Nat) : LoopsOK Try.prog (spec_CountTiles_LS0 F) (bodyOf Try.f72) := loopsOK_nil
theorem spec_CountTiles_keys : keysOK (bodyOf Try.f72) = true := by kernel_rfl
def spec_CountTiles_st5 (b10 : List Int) (r9 : Int) (out12 : List Int) : St := ⟨expand 31 0 [1, 2, 4, 5] [(.ptr 0 0 0 16), (.ptr 1 0 0 18), (.ptr 2 0 0 18), (.int .i64 r9)], [(.var 16 (.ri .i64 b10)), (.var 18 (.ri .i64 [(0 : Int), (0 : Int), (0 : Int), (0 : Int), (0 : Int), (0 : Int), (0 : Int), (0 : Int), (0 : Int), (0 : Int), (0 : Int), (0 : Int), (0 : Int), (0 : Int), (0 : Int), (0 : Int), (0 : Int), (0 : Int)])), (.var 18 (.ri .i64 out12))], 0, []⟩
def spec_CountTiles_o5 (b10 : List Int) (x : List Int) : GT := (.out (.exit 0 ⟨expand 31 0 [2, 4] [(.ptr 0 0 0 18), (.ptr 1 0 0 18)], [(.var 18 (.ri .i64 [(0 : Int), (0 : Int), (0 : Int), (0 : Int), (0 : Int), (0 : Int), (0 : Int), (0 : Int), (0 : Int), (0 : Int), (0 : Int), (0 : Int), (0 : Int), (0 : Int), (0 : Int), (0 : Int), (0 : Int), (0 : Int)])), (.var 18 (.ri .i64 x))], 0, []⟩))
def spec_CountTiles_ls5 (F : Nat) : LoopS := ⟨31, [1, 2, 4, 5], [], [2, 4], [], [2, 3], [], [], fun vals mem np killed => match vals, mem, np, killed with
  | [(.ptr 0 0 0 16), (.ptr 1 0 0 18), (.ptr 2 0 0 18), (.int .i64 r9)], [(.var 16 (.ri .i64 b10)), (.var 18 (.ri .i64 q_t211)), (.var 18 (.ri .i64 out12))], 0, [] => .br ((q_t211 == ([(0 : Int), (0 : Int), (0 : Int), (0 : Int), (0 : Int), (0 : Int), (0 : Int), (0 : Int), (0 : Int), (0 : Int), (0 : Int), (0 : Int), (0 : Int), (0 : Int), (0 : Int), (0 : Int), (0 : Int), (0 : Int)] : List Int)) && (spec_CountTiles_l5 F b10 r9 out12).isSome) (spec_CountTiles_o5 b10 ((spec_CountTiles_l5 F b10 r9 out12).getD default)) .fail
  | _, _, _, _ => .fail⟩
theorem spec_CountTiles_step5 (F : Nat) (b10 : List Int) (r9 : Int) (out12 : List Int) {R : Type} (k : Out → Option R) : stepS tt (spec_CountTiles_tab F) (spec_CountTiles_LS0 F) 70 (spec_CountTiles_ls5 F) (loopAt 5 (bodyOf Try.f72)) (spec_CountTiles_st5 b10 r9 out12) k = spec_CountTiles_s5 F b10 R (r9, out12) (fun s => k (.norm (spec_CountTiles_st5 b10 s.1 s.2))) (fun x => (spec_CountTiles_o5 b10 x).run k) := by kernel_rfl
theorem spec_CountTiles_iter5 (F : Nat) (b10 : List Int) {R : Type} (k : Out → Option R) : ∀ (n : Nat) (r9 : Int) (out12 : List Int), iterS tt (spec_CountTiles_tab F) (spec_CountTiles_LS0 F) 70 (spec_CountTiles_ls5 F) (loopAt 5 (bodyOf Try.f72)) n (spec_CountTiles_st5 b10 r9 out12) k = loopC (spec_CountTiles_s5 F b10) n (r9, out12) (fun x => (spec_CountTiles_o5 b10 x).run k)
  | 0, r9, out12 => rfl
  | n + 1, r9, out12 => (iterS_succ tt (spec_CountTiles_tab F) (spec_CountTiles_LS0 F) 70 (spec_CountTiles_ls5 F) (loopAt 5 (bodyOf Try.f72)) n (spec_CountTiles_st5 b10 r9 out12) k).trans ((spec_CountTiles_step5 F b10 r9 out12 (nextK (iterS tt (spec_CountTiles_tab F) (spec_CountTiles_LS0 F) 70 (spec_CountTiles_ls5 F) (loopAt 5 (bodyOf Try.f72)) n) k)).trans (congrArg (fun kn => spec_CountTiles_s5 F b10 R (r9, out12) kn _) (funext (fun ⟨r9, out12⟩ => spec_CountTiles_iter5 F b10 k n r9 out12))))
theorem spec_CountTiles_lok5 (F : Nat) : LoopOK Try.prog (loopAt 5 (bodyOf Try.f72)) (spec_CountTiles_ls5 F) := by
  refine loopOK_of mixed ttok deep (spec_CountTiles_tabok F) (loopsOK_at (spec_CountTiles_lsok0 F) 5) (fuel := 70) fun R vals mem np killed k x h => ?_
  simp only [spec_CountTiles_ls5] at h
  split at h
  · rename_i r9 b10 q_t211 out12
    simp only [GT.run] at h
    have hc := (cond_noneL h).1
    replace h := (cond_noneL h).2
    have hg := (and_split hc).1
    replace hc := (and_split hc).2
    obtain rfl := beq_li hg
    refine ⟨F, (spec_CountTiles_iter5 F b10 k F r9 out12).trans ((loopC_use (spec_CountTiles_s5_nat F b10) hc _).trans h)⟩
  · simp only [GT.run] at h
    cases h
noncomputable def spec_CountTiles_LS1 (F : Nat) : LT := (5, spec_CountTiles_ls5 F) :: spec_CountTiles_LS0 F
theorem spec_CountTiles_lsok1 (F : Nat) : LoopsOK Try.prog (spec_CountTiles_LS1 F) (bodyOf Try.f72) := loopsOK_cons spec_CountTiles_keys (spec_CountTiles_lok5 F) (spec_CountTiles_lsok0 F)
theorem spec_CountTiles_run (F : Nat) (b0 : List Int) : runS tt (spec_CountTiles_tab F) (spec_CountTiles_LS1 F) [] [] Try.f72 (bodyOf Try.f72) 70 [(.ints 16 b0)] [] = spec_CountTiles_c _ F b0 (fun r => some ⟨(.tup [(.ints 18 r.1), (.bool r.2)]), [], []⟩) := by kernel_rfl
def spec_CountTiles_ent (F : Nat) : Ent := ⟨[], .quiet, fun args mem => match args, mem with
  | [(.ints 16 b0)], [] => some ((spec_CountTiles_p F b0).isSome, ⟨(.tup [(.ints 18 ((spec_CountTiles_p F b0).getD default).1), (.bool ((spec_CountTiles_p F b0).getD default).2)]), [], []⟩)
  | _, _ => none⟩
theorem spec_CountTiles_fok : FunOK Try.prog 72 := funOK Try.func72 (by kernel_rfl) rfl
theorem spec_CountTiles_meets (F : Nat) : Meets Try.prog 72 (spec_CountTiles_ent F) := by
  refine meets_of_runS mixed ttok deep (spec_CountTiles_tabok F) Try.func72 (body_some rfl) (spec_CountTiles_lsok1 F) fun args mem hfit ret h => ?_
  clear hfit
  simp only [spec_CountTiles_ent] at h
  split at h
  · rename_i b0
    simp only [Option.some.injEq, Prod.mk.injEq] at h
    obtain ⟨hc, rfl⟩ := h
    exact ⟨[], [], 70, _, (spec_CountTiles_run F b0).trans ((spec_CountTiles_cp _ F b0 _).trans (bind_use hc _)), rfl, rfl, rfl⟩
  · cases h

/-! loop.example/g01194/spec.l3Form -/
noncomputable def spec_l3Form_tab (F : Nat) : Tab := [(58, (spec_l1In_ent F))]
theorem spec_l3Form_tabok (F : Nat) : TabOK Try.prog (spec_l3Form_tab F) := (tab_cons (spec_l1In_meets F) spec_l1In_fok tab_nil)
noncomputable def spec_l3Form_LS0 (F : Nat) : LT := []
theorem spec_l3Form_lsok0 (F : Nat) : LoopsOK Try.prog (spec_l3Form_LS0 F) (bodyOf Try.f73) := loopsOK_nil
theorem spec_l3Form_run (F : Nat) (k0 : Int) : runS tt (spec_l3Form_tab F) (spec_l3Form_LS0 F) [] [] Try.f73 (bodyOf Try.f73) 70 [(.int .i64 k0)] [] = spec_l3Form_c _ k0 (fun r => some ⟨(.bool r), [], []⟩) := by kernel_rfl
def spec_l3Form_ent (F : Nat) : Ent := ⟨[], .quiet, fun args mem => match args, mem with
  | [(.int .i64 k0)], [] => some (true, ⟨(.bool (spec_l3Form_v k0)), [], []⟩)
  | _, _ => none⟩
theorem spec_l3Form_fok : FunOK Try.prog 73 := funOK Try.func73 (by kernel_rfl) rfl
theorem spec_l3Form_meets (F : Nat) : Meets Try.prog 73 (spec_l3Form_ent F) := by
  refine meets_of_runS mixed ttok deep (spec_l3Form_tabok F) Try.func73 (body_some rfl) (spec_l3Form_lsok0 F) fun args mem hfit ret h => ?_
  clear hfit
  simp only [spec_l3Form_ent] at h
  split at h
  · rename_i k0
    simp only [Option.some.injEq, Prod.mk.injEq] at h
    obtain ⟨hc, rfl⟩ := h
    exact ⟨[], [], 70, _, (spec_l3Form_run F k0).trans (spec_l3Form_cv _ k0 _), rfl, rfl, rfl⟩
  · cases h

/-! loop.example/g01194/spec.l3Quarter -/
noncomputable def spec_l3Quarter_tab (F : Nat) : Tab := []
theorem spec_l3Quarter_tabok (F : Nat) : TabOK Try.prog (spec_l3Quarter_tab F) := tab_nil
noncomputable def spec_l3Quarter_LS0 (F : Nat) : LT := []
theorem spec_l3Quarter_lsok0 (F : Nat) : LoopsOK Try.prog (spec_l3Quarter_LS0 F) (bodyOf Try.f130) := loopsOK_nil
theorem spec_l3Quarter_run (F : Nat) (b0 : List Int) : runS tt (spec_l3Quarter_tab F) (spec_l3Quarter_LS0 F) [] [] Try.f130 (bodyOf Try.f130) 70 [(.ints 16 b0)] [] = spec_l3Quarter_c _ b0 (fun r => some ⟨(.ints 16 r), [], []⟩) := by kernel_rfl
def spec_l3Quarter_ent (F : Nat) : Ent := ⟨[], .quiet, fun args mem => match args, mem with
  | [(.ints 16 b0)], [] => some (true, ⟨(.ints 16 (spec_l3Quarter_v b0)), [], []⟩)
  | _, _ => none⟩
theorem spec_l3Quarter_fok : FunOK Try.prog 130 := funOK Try.func130 (by kernel_rfl) rfl
theorem spec_l3Quarter_meets (F : Nat) : Meets Try.prog 130 (spec_l3Quarter_ent F) := by
  refine meets_of_runS mixed ttok deep (spec_l3Quarter_tabok F) Try.func130 (body_some rfl) (spec_l3Quarter_lsok0 F) fun args mem hfit ret h => ?_
  clear hfit
  simp only [spec_l3Quarter_ent] at h
  split at h
  · rename_i b0
    simp only [Option.some.injEq, Prod.mk.injEq] at h
    obtain ⟨hc, rfl⟩ := h
    exact ⟨[], [], 70, _, (spec_l3Quarter_run F b0).trans (spec_l3Quarter_cv _ b0 _), rfl, rfl, rfl⟩
  · cases h

/-! loop.example/g01194/spec.l3Mirror -/
noncomputable def spec_l3Mirror_tab (F : Nat) : Tab := []
theorem spec_l3Mirror_tabok (F : Nat) : TabOK Try.prog (spec_l3Mirror_tab F) := tab_nil
noncomputable def spec_l3Mirror_LS0 (F : Nat) : LT := []
theorem spec_l3Mirror_lsok0 (F : Nat) : LoopsOK Try.prog (spec_l3Mirror_LS0 F) (bodyOf Try.f131) := loopsOK_nil
theorem spec_l3Mirror_run (F : Nat) (b0 : List Int) : runS tt (spec_l3Mirror_tab F) (spec_l3Mirror_LS0 F) [] [] Try.f131 (bodyOf Try.f131) 70 [(.ints 16 b0)] [] = spec_l3Mirror_c _ b0 (fun r => some ⟨(.ints 16 r), [], []⟩) := by kernel_rfl
def spec_l3Mirror_ent (F : Nat) : Ent := ⟨[], .quiet, fun args mem => match args, mem with
  | [(.ints 16 b0)], [] => some (true, ⟨(.ints 16 (spec_l3Mirror_v b0)), [], []⟩)
  | _, _ => none⟩
theorem spec_l3Mirror_fok : FunOK Try.prog 131 := funOK Try.func131 (by kernel_rfl) rfl
theorem spec_l3Mirror_meets (F : Nat) : Meets Try.prog 131 (spec_l3Mirror_ent F) := by
  refine meets_of_runS mixed ttok deep (spec_l3Mirror_tabok F) Try.func131 (body_some rfl) (spec_l3Mirror_lsok0 F) fun args mem hfit ret h => ?_
  clear hfit
  simp only [spec_l3Mirror_ent] at h
  split at h
  · rename_i b0
    simp only [Option.some.injEq, Prod.mk.injEq] at h
    obtain ⟨hc, rfl⟩ := h
    exact ⟨[], [], 70, _, (spec_l3Mirror_run F b0).trans (spec_l3Mirror_cv _ b0 _), rfl, rfl, rfl⟩
  · cases h

/-! loop.example/g01194/spec.l3Made -/
noncomputable def spec_l3Made_tab (F : Nat) : Tab := [(130, (spec_l3Quarter_ent F)), (131, (spec_l3Mirror_ent F))]
theorem spec_l3Made_tabok (F : Nat) : TabOK Try.prog (spec_l3Made_tab F) := (tab_cons (spec_l3Quarter_meets F) spec_l3Quarter_fok (tab_cons (spec_l3Mirror_meets F) spec_l3Mirror_fok tab_nil))
noncomputable def spec_l3Made_LS0 (F : Nat) : LT := []
theorem spec_l3Made_lsok0 (F : Nat) : LoopsOK Try.prog (spec_l3Made_LS0 F) (bodyOf Try.f106) := loopsOK_nil
theorem spec_l3Made_keys : keysOK (bodyOf Try.f106) = true := by kernel_rfl
def spec_l3Made_st2 (k0 : Int) (i7 : Int) (b8 : List Int) : St := ⟨expand 19 0 [1, 2, 4, 5] [(.int .i64 k0), (.ptr 0 0 0 16), (.ptr 1 0 0 16), (.int .i64 i7)], [(.var 16 (.ri .i64 b8)), (.var 16 (.ri .i64 [(0 : Int), (0 : Int), (0 : Int), (0 : Int), (0 : Int), (0 : Int), (0 : Int), (0 : Int), (0 : Int), (0 : Int), (0 : Int), (0 : Int), (0 : Int), (0 : Int), (0 : Int), (0 : Int)]))], 0, []⟩
def spec_l3Made_o2 (k0 : Int) (x : List Int) : GT := (.out (.exit 0 ⟨expand 19 0 [1, 2, 4] [(.int .i64 k0), (.ptr 0 0 0 16), (.ptr 1 0 0 16)], [(.var 16 (.ri .i64 x)), (.var 16 (.ri .i64 [(0 : Int), (0 : Int), (0 : Int), (0 : Int), (0 : Int), (0 : Int), (0 : Int), (0 : Int), (0 : Int), (0 : Int), (0 : Int), (0 : Int), (0 : Int), (0 : Int), (0 : Int), (0 : Int)]))], 0, []⟩))
def spec_l3Made_ls2 (F : Nat) : LoopS := ⟨19, [1, 2, 4, 5], [], [1, 2, 4], [], [4], [], [], fun vals mem np killed => match vals, mem, np, killed with
  | [(.int .i64 k0), (.ptr 0 0 0 16), (.ptr 1 0 0 16), (.int .i64 i7)], [(.var 16 (.ri .i64 b8)), (.var 16 (.ri .i64 q_t49))], 0, [] => .br ((q_t49 == ([(0 : Int), (0 : Int), (0 : Int), (0 : Int), (0 : Int), (0 : Int), (0 : Int), (0 : Int), (0 : Int), (0 : Int), (0 : Int), (0 : Int), (0 : Int), (0 : Int), (0 : Int), (0 : Int)] : List Int)) && (spec_l3Made_l2 F k0 i7 b8).isSome) (spec_l3Made_o2 k0 ((spec_l3Made_l2 F k0 i7 b8).getD default)) .fail
  | _, _, _, _ => .fail⟩
theorem spec_l3Made_step2 (F : Nat) (k0 : Int) (i7 : Int) (b8 : List Int) {R : Type} (k : Out → Option R) : stepS tt (spec_l3Made_tab F) (spec_l3Made_LS0 F) 70 (spec_l3Made_ls2 F) (loopAt 2 (bodyOf Try.f106)) (spec_l3Made_st2 k0 i7 b8) k = spec_l3Made_s2 F k0 R (i7, b8) (fun s => k (.norm (spec_l3Made_st2 k0 s.1 s.2))) (fun x => (spec_l3Made_o2 k0 x).run k) := by kernel_rfl
theorem spec_l3Made_iter2 (F : Nat) (k0 : Int) {R : Type} (k : Out → Option R) : ∀ (n : Nat) (i7 : Int) (b8 : List Int), iterS tt (spec_l3Made_tab F) (spec_l3Made_LS0 F) 70 (spec_l3Made_ls2 F) (loopAt 2 (bodyOf Try.f106)) n (spec_l3Made_st2 k0 i7 b8) k = loopC (spec_l3Made_s2 F k0) n (i7, b8) (fun x => (spec_l3Made_o2 k0 x).run k)
  | 0, i7, b8 => rfl
  | n + 1, i7, b8 => (iterS_succ tt (spec_l3Made_tab F) (spec_l3Made_LS0 F) 70 (spec_l3Made_ls2 F) (loopAt 2 (bodyOf Try.f106)) n (spec_l3Made_st2 k0 i7 b8) k).trans ((spec_l3Made_step2 F k0 i7 b8 (nextK (iterS tt (spec_l3Made_tab F) (spec_l3Made_LS0 F) 70 (spec_l3Made_ls2 F) (loopAt 2 (bodyOf Try.f106)) n) k)).trans (congrArg (fun kn => spec_l3Made_s2 F k0 R (i7, b8) kn _) (funext (fun ⟨i7, b8⟩ => spec_l3Made_iter2 F k0 k n i7 b8))))
theorem spec_l3Made_lok2 (F : Nat) : LoopOK Try.prog (loopAt 2 (bodyOf Try.f106)) (spec_l3Made_ls2 F) := by
  refine loopOK_of mixed ttok deep (spec_l3Made_tabok F) (loopsOK_at (spec_l3Made_lsok0 F) 2) (fuel := 70) fun R vals mem np killed k x h => ?_
  simp only [spec_l3Made_ls2] at h
  split at h
  · rename_i k0 i7 b8 q_t49
    simp only [GT.run] at h
    have hc := (cond_noneL h).1
    replace h := (cond_noneL h).2
    have hg := (and_split hc).1
    replace hc := (and_split hc).2
    obtain rfl := beq_li hg
    refine ⟨F, (spec_l3Made_iter2 F k0 k F i7 b8).trans ((loopC_use (spec_l3Made_s2_nat F k0) hc _).trans h)⟩
  · simp only [GT.run] at h
    cases h
noncomputable def spec_l3Made_LS1 (F : Nat) : LT := (2, spec_l3Made_ls2 F) :: spec_l3Made_LS0 F
theorem spec_l3Made_lsok1 (F : Nat) : LoopsOK Try.prog (spec_l3Made_LS1 F) (bodyOf Try.f106) := loopsOK_cons spec_l3Made_keys (spec_l3Made_lok2 F) (spec_l3Made_lsok0 F)
theorem spec_l3Made_run (F : Nat) (b0 : List Int) (k1 : Int) : runS tt (spec_l3Made_tab F) (spec_l3Made_LS1 F) [] [] Try.f106 (bodyOf Try.f106) 70 [(.ints 16 b0), (.int .i64 k1)] [] = spec_l3Made_c _ F b0 k1 (fun r => some ⟨(.ints 16 r), [], []⟩) := by kernel_rfl
def spec_l3Made_ent (F : Nat) : Ent := ⟨[], .quiet, fun args mem => match args, mem with
  | [(.ints 16 b0), (.int .i64 k1)], [] => some ((spec_l3Made_p F b0 k1).isSome, ⟨(.ints 16 ((spec_l3Made_p F b0 k1).getD default)), [], []⟩)
  | _, _ => none⟩
theorem spec_l3Made_fok : FunOK Try.prog 106 := funOK Try.func106 (by kernel_rfl) rfl
theorem spec_l3Made_meets (F : Nat) : Meets Try.prog 106 (spec_l3Made_ent F) := by
  refine meets_of_runS mixed ttok deep (spec_l3Made_tabok F) Try.func106 (body_some rfl) (spec_l3Made_lsok1 F) fun args mem hfit ret h => ?_
  clear hfit
  simp only [spec_l3Made_ent] at h
  split at h
  · rename_i b0 k1
    simp only [Option.some.injEq, Prod.mk.injEq] at h
    obtain ⟨hc, rfl⟩ := h
    exact ⟨[], [], 70, _, (spec_l3Made_run F b0 k1).trans ((spec_l3Made_cp _ F b0 k1 _).trans (bind_use hc _)), rfl, rfl, rfl⟩
  · cases h

/-! loop.example/g01194/spec.l7Snake -/
noncomputable def spec_l7Snake_tab (F : Nat) : Tab := [(106, (spec_l3Made_ent F))]
theorem spec_l7Snake_tabok (F : Nat) : TabOK Try.prog (spec_l7Snake_tab F) := (tab_cons (spec_l3Made_meets F) spec_l3Made_fok tab_nil)
noncomputable def spec_l7Snake_LS0 (F : Nat) : LT := []
theorem spec_l7Snake_lsok0 (F : Nat) : LoopsOK Try.prog (spec_l7Snake_LS0 F) (bodyOf Try.f74) := loopsOK_nil
theorem spec_l7Snake_run (F : Nat) (k0 : Int) : runS tt (spec_l7Snake_tab F) (spec_l7Snake_LS0 F) [] [] Try.f74 (bodyOf Try.f74) 70 [(.int .i64 k0)] [] = spec_l7Snake_c _ F k0 (fun r => some ⟨(.ints 32 r), [], []⟩) := by kernel_rfl
def spec_l7Snake_ent (F : Nat) : Ent := ⟨[], .quiet, fun args mem => match args, mem with
  | [(.int .i64 k0)], [] => some ((spec_l7Snake_p F k0).isSome, ⟨(.ints 32 ((spec_l7Snake_p F k0).getD default)), [], []⟩)
  | _, _ => none⟩
theorem spec_l7Snake_fok : FunOK Try.prog 74 := funOK Try.func74 (by kernel_rfl) rfl
theorem spec_l7Snake_meets (F : Nat) : Meets Try.prog 74 (spec_l7Snake_ent F) := by
  refine meets_of_runS mixed ttok deep (spec_l7Snake_tabok F) Try.func74 (body_some rfl) (spec_l7Snake_lsok0 F) fun args mem hfit ret h => ?_
  clear hfit
  simp only [spec_l7Snake_ent] at h
  split at h
  · rename_i k0
    simp only [Option.some.injEq, Prod.mk.injEq] at h
    obtain ⟨hc, rfl⟩ := h
    exact ⟨[], [], 70, _, (spec_l7Snake_run F k0).trans ((spec_l7Snake_cp _ F k0 _).trans (bind_use hc _)), rfl, rfl, rfl⟩
  · cases h

/-! loop.example/g01194/spec.l2Put -/
noncomputable def spec_l2Put_tab (F : Nat) : Tab := []
theorem spec_l2Put_tabok (F : Nat) : TabOK Try.prog (spec_l2Put_tab F) := tab_nil
noncomputable def spec_l2Put_LS0 (F : Nat) : LT := []
theorem spec_l2Put_lsok0 (F : Nat) : LoopsOK Try.prog (spec_l2Put_LS0 F) (bodyOf Try.f60) := loopsOK_nil
theorem spec_l2Put_run (F : Nat) (b0 : List Int) (cell1 : List Int) (t2 : Int) : runS tt (spec_l2Put_tab F) (spec_l2Put_LS0 F) [] [] Try.f60 (bodyOf Try.f60) 70 [(.ints 16 b0), (.ints 2 cell1), (.int .i64 t2)] [] = spec_l2Put_c _ b0 cell1 t2 (fun r => some ⟨(.ints 16 r), [], []⟩) := by kernel_rfl
def spec_l2Put_ent (F : Nat) : Ent := ⟨[], .quiet, fun args mem => match args, mem with
  | [(.ints 16 b0), (.ints 2 cell1), (.int .i64 t2)], [] => some ((spec_l2Put_p b0 cell1 t2).isSome, ⟨(.ints 16 ((spec_l2Put_p b0 cell1 t2).getD default)), [], []⟩)
  | _, _ => none⟩
theorem spec_l2Put_fok : FunOK Try.prog 60 := funOK Try.func60 (by kernel_rfl) rfl
theorem spec_l2Put_meets (F : Nat) : Meets Try.prog 60 (spec_l2Put_ent F) := by
  refine meets_of_runS mixed ttok deep (spec_l2Put_tabok F) Try.func60 (body_some rfl) (spec_l2Put_lsok0 F) fun args mem hfit ret h => ?_
  clear hfit
  simp only [spec_l2Put_ent] at h
  split at h
  · rename_i b0 cell1 t2
    simp only [Option.some.injEq, Prod.mk.injEq] at h
    obtain ⟨hc, rfl⟩ := h
    exact ⟨[], [], 70, _, (spec_l2Put_run F b0 cell1 t2).trans ((spec_l2Put_cp _ b0 cell1 t2 _).trans (bind_use hc _)), rfl, rfl, rfl⟩
  · cases h

/-! loop.example/g01194/spec.SnakeBoard -/
noncomputable def spec_SnakeBoard_tab (F : Nat) : Tab := [(72, (spec_CountTiles_ent F)), (73, (spec_l3Form_ent F)), (74, (spec_l7Snake_ent F)), (60, (spec_l2Put_ent F))]
theorem spec_SnakeBoard_tabok (F : Nat) : TabOK Try.prog (spec_SnakeBoard_tab F) := (tab_cons (spec_CountTiles_meets F) spec_CountTiles_fok (tab_cons (spec_l3Form_meets F) spec_l3Form_fok (tab_cons (spec_l7Snake_meets F) spec_l7Snake_fok (tab_cons (spec_l2Put_meets F) spec_l2Put_fok tab_nil))))
noncomputable def spec_SnakeBoard_LS0 (F : Nat) : LT := []
theorem spec_SnakeBoard_lsok0 (F : Nat) : LoopsOK Try.prog (spec_SnakeBoard_LS0 F) (bodyOf Try.f42) := loopsOK_nil
theorem spec_SnakeBoard_keys : keysOK (bodyOf Try.f42) = true := by kernel_rfl
def spec_SnakeBoard_st9 (t13 : Int) (counts16 : List Int) (path18 : List Int) (n12 : Int) (i14 : Int) (out17 : List Int) : St := ⟨expand 49 0 [4, 6, 8, 9, 10, 11, 12] [(.ptr 0 0 0 16), (.ptr 1 0 0 18), (.ptr 2 0 0 16), (.ptr 3 0 0 32), (.int .i64 n12), (.int .i64 t13), (.int .i64 i14)], [(.var 16 (.ri .i64 [(0 : Int), (0 : Int), (0 : Int), (0 : Int), (0 : Int), (0 : Int), (0 : Int), (0 : Int), (0 : Int), (0 : Int), (0 : Int), (0 : Int), (0 : Int), (0 : Int), (0 : Int), (0 : Int)])), (.var 18 (.ri .i64 counts16)), (.var 16 (.ri .i64 out17)), (.var 32 (.ri .i64 path18))], 0, []⟩
def spec_SnakeBoard_o9 (t13 : Int) (counts16 : List Int) (path18 : List Int) (x : Int × List Int) : GT := (.out (.exit 2 ⟨expand 49 0 [4, 6, 8, 9, 10, 11] [(.ptr 0 0 0 16), (.ptr 1 0 0 18), (.ptr 2 0 0 16), (.ptr 3 0 0 32), (.int .i64 x.1), (.int .i64 t13)], [(.var 16 (.ri .i64 [(0 : Int), (0 : Int), (0 : Int), (0 : Int), (0 : Int), (0 : Int), (0 : Int), (0 : Int), (0 : Int), (0 : Int), (0 : Int), (0 : Int), (0 : Int), (0 : Int), (0 : Int), (0 : Int)])), (.var 18 (.ri .i64 counts16)), (.var 16 (.ri .i64 x.2)), (.var 32 (.ri .i64 path18))], 0, []⟩))
def spec_SnakeBoard_ls9 (F : Nat) : LoopS := ⟨49, [4, 6, 8, 9, 10, 11, 12], [], [4, 6, 8, 9, 10, 11], [], [4, 5], [], [], fun vals mem np killed => match vals, mem, np, killed with
  | [(.ptr 0 0 0 16), (.ptr 1 0 0 18), (.ptr 2 0 0 16), (.ptr 3 0 0 32), (.int .i64 n12), (.int .i64 t13), (.int .i64 i14)], [(.var 16 (.ri .i64 q_t415)), (.var 18 (.ri .i64 counts16)), (.var 16 (.ri .i64 out17)), (.var 32 (.ri .i64 path18))], 0, [] => .br ((q_t415 == ([(0 : Int), (0 : Int), (0 : Int), (0 : Int), (0 : Int), (0 : Int), (0 : Int), (0 : Int), (0 : Int), (0 : Int), (0 : Int), (0 : Int), (0 : Int), (0 : Int), (0 : Int), (0 : Int)] : List Int)) && (spec_SnakeBoard_l9 F t13 counts16 path18 n12 i14 out17).isSome) (spec_SnakeBoard_o9 t13 counts16 path18 ((spec_SnakeBoard_l9 F t13 counts16 path18 n12 i14 out17).getD default)) .fail
  | _, _, _, _ => .fail⟩
theorem spec_SnakeBoard_step9 (F : Nat) (t13 : Int) (counts16 : List Int) (path18 : List Int) (n12 : Int) (i14 : Int) (out17 : List Int) {R : Type} (k : Out → Option R) : stepS tt (spec_SnakeBoard_tab F) (spec_SnakeBoard_LS0 F) 70 (spec_SnakeBoard_ls9 F) (loopAt 9 (bodyOf Try.f42)) (spec_SnakeBoard_st9 t13 counts16 path18 n12 i14 out17) k = spec_SnakeBoard_s9 F t13 counts16 path18 R (n12, i14, out17) (fun s => k (.norm (spec_SnakeBoard_st9 t13 counts16 path18 s.1 s.2.1 s.2.2))) (fun x => (spec_SnakeBoard_o9 t13 counts16 path18 x).run k) := by kernel_rfl
theorem spec_SnakeBoard_iter9 (F : Nat) (t13 : Int) (counts16 : List Int) (path18 : List Int) {R : Type} (k : Out → Option R) : ∀ (n : Nat) (n12 : Int) (i14 : Int) (out17 : List Int), iterS tt (spec_SnakeBoard_tab F) (spec_SnakeBoard_LS0 F) 70 (spec_SnakeBoard_ls9 F) (loopAt 9 (bodyOf Try.f42)) n (spec_SnakeBoard_st9 t13 counts16 path18 n12 i14 out17) k = loopC (spec_SnakeBoard_s9 F t13 counts16 path18) n (n12, i14, out17) (fun x => (spec_SnakeBoard_o9 t13 counts16 path18 x).run k)
  | 0, n12, i14, out17 => rfl
  | n + 1, n12, i14, out17 => (iterS_succ tt (spec_SnakeBoard_tab F) (spec_SnakeBoard_LS0 F) 70 (spec_SnakeBoard_ls9 F) (loopAt 9 (bodyOf Try.f42)) n (spec_SnakeBoard_st9 t13 counts16 path18 n12 i14 out17) k).trans ((spec_SnakeBoard_step9 F t13 counts16 path18 n12 i14 out17 (nextK (iterS tt (spec_SnakeBoard_tab F) (spec_SnakeBoard_LS0 F) 70 (spec_SnakeBoard_ls9 F) (loopAt 9 (bodyOf Try.f42)) n) k)).trans (congrArg (fun kn => spec_SnakeBoard_s9 F t13 counts16 path18 R (n12, i14, out17) kn _) (funext (fun ⟨n12, i14, out17⟩ => spec_SnakeBoard_iter9 F t13 counts16 path18 k n n12 i14 out17))))
theorem spec_SnakeBoard_lok9 (F : Nat) : LoopOK Try.prog (loopAt 9 (bodyOf Try.f42)) (spec_SnakeBoard_ls9 F) := by
  refine loopOK_of mixed ttok deep (spec_SnakeBoard_tabok F) (loopsOK_at (spec_SnakeBoard_lsok0 F) 9) (fuel := 70) fun R vals mem np killed k x h => ?_
  simp only [spec_SnakeBoard_ls9] at h
  split at h
  · rename_i n12 t13 i14 q_t415 counts16 out17 path18
    simp only [GT.run] at h
    have hc := (cond_noneL h).1
    replace h := (cond_noneL h).2
    have hg := (and_split hc).1
    replace hc := (and_split hc).2
    obtain rfl := beq_li hg
    refine ⟨F, (spec_SnakeBoard_iter9 F t13 counts16 path18 k F n12 i14 out17).trans ((loopC_use (spec_SnakeBoard_s9_nat F t13 counts16 path18) hc _).trans h)⟩
  · simp only [GT.run] at h
    cases h
noncomputable def spec_SnakeBoard_LS1 (F : Nat) : LT := (9, spec_SnakeBoard_ls9 F) :: spec_SnakeBoard_LS0 F
theorem spec_SnakeBoard_lsok1 (F : Nat) : LoopsOK Try.prog (spec_SnakeBoard_LS1 F) (bodyOf Try.f42) := loopsOK_cons spec_SnakeBoard_keys (spec_SnakeBoard_lok9 F) (spec_SnakeBoard_lsok0 F)
def spec_SnakeBoard_st6 (counts15 : List Int) (path17 : List Int) (n12 : Int) (t13 : Int) (out16 : List Int) : St := ⟨expand 49 0 [4, 6, 8, 9, 10, 11] [(.ptr 0 0 0 16), (.ptr 1 0 0 18), (.ptr 2 0 0 16), (.ptr 3 0 0 32), (.int .i64 n12), (.int .i64 t13)], [(.var 16 (.ri .i64 [(0 : Int), (0 : Int), (0 : Int), (0 : Int), (0 : Int), (0 : Int), (0 : Int), (0 : Int), (0 : Int), (0 : Int), (0 : Int), (0 : Int), (0 : Int), (0 : Int), (0 : Int), (0 : Int)])), (.var 18 (.ri .i64 counts15)), (.var 16 (.ri .i64 out16)), (.var 32 (.ri .i64 path17))], 0, []⟩
def spec_SnakeBoard_o6 (counts15 : List Int) (path17 : List Int) (x : List Int) : GT := (.out (.exit 0 ⟨expand 49 0 [4, 8] [(.ptr 0 0 0 16), (.ptr 1 0 0 16)], [(.var 16 (.ri .i64 [(0 : Int), (0 : Int), (0 : Int), (0 : Int), (0 : Int), (0 : Int), (0 : Int), (0 : Int), (0 : Int), (0 : Int), (0 : Int), (0 : Int), (0 : Int), (0 : Int), (0 : Int), (0 : Int)])), (.var 16 (.ri .i64 x))], 0, []⟩))
def spec_SnakeBoard_ls6 (F : Nat) : LoopS := ⟨49, [4, 6, 8, 9, 10, 11], [], [4, 8], [], [4, 5], [], [], fun vals mem np killed => match vals, mem, np, killed with
  | [(.ptr 0 0 0 16), (.ptr 1 0 0 18), (.ptr 2 0 0 16), (.ptr 3 0 0 32), (.int .i64 n12), (.int .i64 t13)], [(.var 16 (.ri .i64 q_t414)), (.var 18 (.ri .i64 counts15)), (.var 16 (.ri .i64 out16)), (.var 32 (.ri .i64 path17))], 0, [] => .br ((q_t414 == ([(0 : Int), (0 : Int), (0 : Int), (0 : Int), (0 : Int), (0 : Int), (0 : Int), (0 : Int), (0 : Int), (0 : Int), (0 : Int), (0 : Int), (0 : Int), (0 : Int), (0 : Int), (0 : Int)] : List Int)) && (spec_SnakeBoard_l6 F counts15 path17 n12 t13 out16).isSome) (spec_SnakeBoard_o6 counts15 path17 ((spec_SnakeBoard_l6 F counts15 path17 n12 t13 out16).getD default)) .fail
  | _, _, _, _ => .fail⟩
theorem spec_SnakeBoard_step6 (F : Nat) (counts15 : List Int) (path17 : List Int) (n12 : Int) (t13 : Int) (out16 : List Int) {R : Type} (k : Out → Option R) : stepS tt (spec_SnakeBoard_tab F) (spec_SnakeBoard_LS1 F) 70 (spec_SnakeBoard_ls6 F) (loopAt 6 (bodyOf Try.f42)) (spec_SnakeBoard_st6 counts15 path17 n12 t13 out16) k = spec_SnakeBoard_s6 F counts15 path17 R (n12, t13, out16) (fun s => k (.norm (spec_SnakeBoard_st6 counts15 path17 s.1 s.2.1 s.2.2))) (fun x => (spec_SnakeBoard_o6 counts15 path17 x).run k) := by kernel_rfl
theorem spec_SnakeBoard_iter6 (F : Nat) (counts15 : List Int) (path17 : List Int) {R : Type} (k : Out → Option R) : ∀ (n : Nat) (n12 : Int) (t13 : Int) (out16 : List Int), iterS tt (spec_SnakeBoard_tab F) (spec_SnakeBoard_LS1 F) 70 (spec_SnakeBoard_ls6 F) (loopAt 6 (bodyOf Try.f42)) n (spec_SnakeBoard_st6 counts15 path17 n12 t13 out16) k = loopC (spec_SnakeBoard_s6 F counts15 path17) n (n12, t13, out16) (fun x => (spec_SnakeBoard_o6 counts15 path17 x).run k)
  | 0, n12, t13, out16 => rfl
  | n + 1, n12, t13, out16 => (iterS_succ tt (spec_SnakeBoard_tab F) (spec_SnakeBoard_LS1 F) 70 (spec_SnakeBoard_ls6 F) (loopAt 6 (bodyOf Try.f42)) n (spec_SnakeBoard_st6 counts15 path17 n12 t13 out16) k).trans ((spec_SnakeBoard_step6 F counts15 path17 n12 t13 out16 (nextK (iterS tt (spec_SnakeBoard_tab F) (spec_SnakeBoard_LS1 F) 70 (spec_SnakeBoard_ls6 F) (loopAt 6 (bodyOf Try.f42)) n) k)).trans (congrArg (fun kn => spec_SnakeBoard_s6 F counts15 path17 R (n12, t13, out16) kn _) (funext (fun ⟨n12, t13, out16⟩ => spec_SnakeBoard_iter6 F counts15 path17 k n n12 t13 out16))))
theorem spec_SnakeBoard_lok6 (F : Nat) : LoopOK Try.prog (loopAt 6 (bodyOf Try.f42)) (spec_SnakeBoard_ls6 F) := by
  refine loopOK_of mixed ttok deep (spec_SnakeBoard_tabok F) (loopsOK_at (spec_SnakeBoard_lsok1 F) 6) (fuel := 70) fun R vals mem np killed k x h => ?_
  simp only [spec_SnakeBoard_ls6] at h
  split at h
  · rename_i n12 t13 q_t414 counts15 out16 path17
    simp only [GT.run] at h
    have hc := (cond_noneL h).1
    replace h := (cond_noneL h).2
    have hg := (and_split hc).1
    replace hc := (and_split hc).2
    obtain rfl := beq_li hg
    refine ⟨F, (spec_SnakeBoard_iter6 F counts15 path17 k F n12 t13 out16).trans ((loopC_use (spec_SnakeBoard_s6_nat F counts15 path17) hc _).trans h)⟩
  · simp only [GT.run] at h
    cases h
noncomputable def spec_SnakeBoard_LS2 (F : Nat) : LT := (6, spec_SnakeBoard_ls6 F) :: spec_SnakeBoard_LS1 F
theorem spec_SnakeBoard_lsok2 (F : Nat) : LoopsOK Try.prog (spec_SnakeBoard_LS2 F) (bodyOf Try.f42) := loopsOK_cons spec_SnakeBoard_keys (spec_SnakeBoard_lok6 F) (spec_SnakeBoard_lsok1 F)
theorem spec_SnakeBoard_run (F : Nat) (b0 : List Int) (k1 : Int) : runS tt (spec_SnakeBoard_tab F) (spec_SnakeBoard_LS2 F) [] [] Try.f42 (bodyOf Try.f42) 70 [(.ints 16 b0), (.int .i64 k1)] [] = spec_SnakeBoard_c _ F b0 k1 (fun r => some ⟨(.tup [(.ints 16 r.1), (.bool r.2)]), [], []⟩) := by kernel_rfl
def spec_SnakeBoard_ent (F : Nat) : Ent := ⟨[], .quiet, fun args mem => match args, mem with
  | [(.ints 16 b0), (.int .i64 k1)], [] => some ((spec_SnakeBoard_p F b0 k1).isSome, ⟨(.tup [(.ints 16 ((spec_SnakeBoard_p F b0 k1).getD default).1), (.bool ((spec_SnakeBoard_p F b0 k1).getD default).2)]), [], []⟩)
  | _, _ => none⟩
theorem spec_SnakeBoard_fok : FunOK Try.prog 42 := funOK Try.func42 (by kernel_rfl) rfl
theorem spec_SnakeBoard_meets (F : Nat) : Meets Try.prog 42 (spec_SnakeBoard_ent F) := by
  refine meets_of_runS mixed ttok deep (spec_SnakeBoard_tabok F) Try.func42 (body_some rfl) (spec_SnakeBoard_lsok2 F) fun args mem hfit ret h => ?_
  clear hfit
  simp only [spec_SnakeBoard_ent] at h
  split at h
  · rename_i b0 k1
    simp only [Option.some.injEq, Prod.mk.injEq] at h
    obtain ⟨hc, rfl⟩ := h
    exact ⟨[], [], 70, _, (spec_SnakeBoard_run F b0 k1).trans ((spec_SnakeBoard_cp _ F b0 k1 _).trans (bind_use hc _)), rfl, rfl, rfl⟩
  · cases h

/-! loop.example/g01194/impl.in -/
noncomputable def impl_in_tab (F : Nat) : Tab := []
theorem impl_in_tabok (F : Nat) : TabOK Try.prog (impl_in_tab F) := tab_nil
noncomputable def impl_in_LS0 (F : Nat) : LT := []
theorem impl_in_lsok0 (F : Nat) : LoopsOK Try.prog (impl_in_LS0 F) (bodyOf Try.f65) := loopsOK_nil
theorem impl_in_run (F : Nat) (n0 : Int) (low1 : Int) (high2 : Int) : runS tt (impl_in_tab F) (impl_in_LS0 F) [] [] Try.f65 (bodyOf Try.f65) 70 [(.int .i64 n0), (.int .i64 low1), (.int .i64 high2)] [] = impl_in_c _ n0 low1 high2 (fun r => some ⟨(.bool r), [], []⟩) := by kernel_rfl
def impl_in_ent (F : Nat) : Ent := ⟨[], .quiet, fun args mem => match args, mem with
  | [(.int .i64 n0), (.int .i64 low1), (.int .i64 high2)], [] => some (true, ⟨(.bool (impl_in_v n0 low1 high2)), [], []⟩)
  | _, _ => none⟩
theorem impl_in_fok : FunOK Try.prog 65 := funOK Try.func65 (by kernel_rfl) rfl
theorem impl_in_meets (F : Nat) : Meets Try.prog 65 (impl_in_ent F) := by
  refine meets_of_runS mixed ttok deep (impl_in_tabok F) Try.func65 (body_some rfl) (impl_in_lsok0 F) fun args mem hfit ret h => ?_
  clear hfit
  simp only [impl_in_ent] at h
  split at h
  · rename_i n0 low1 high2
    simp only [Option.some.injEq, Prod.mk.injEq] at h
    obtain ⟨hc, rfl⟩ := h
    exact ⟨[], [], 70, _, (impl_in_run F n0 low1 high2).trans (impl_in_cv _ n0 low1 high2 _), rfl, rfl, rfl⟩
  · cases h

/-! loop.example/g01194/impl.IsRow$1 -/
noncomputable def impl_IsRow_f1_tab (F : Nat) : Tab := [(65, (impl_in_ent F))]
theorem impl_IsRow_f1_tabok (F : Nat) : TabOK Try.prog (impl_IsRow_f1_tab F) := (tab_cons (impl_in_meets F) impl_in_fok tab_nil)
noncomputable def impl_IsRow_f1_LS0 (F : Nat) : LT := []
theorem impl_IsRow_f1_lsok0 (F : Nat) : LoopsOK Try.prog (impl_IsRow_f1_LS0 F) (bodyOf Try.f114) := loopsOK_nil
theorem impl_IsRow_f1_run (F : Nat) (n0 : Int) : runS tt (impl_IsRow_f1_tab F) (impl_IsRow_f1_LS0 F) [] [] Try.f114 (bodyOf Try.f114) 70 [(.int .i64 n0)] [] = impl_IsRow_f1_c _ n0 (fun r => some ⟨(.bool r), [], []⟩) := by kernel_rfl
def impl_IsRow_f1_ent (F : Nat) : Ent := ⟨[], .quiet, fun args mem => match args, mem with
  | [(.int .i64 n0)], [] => some (true, ⟨(.bool (impl_IsRow_f1_v n0)), [], []⟩)
  | _, _ => none⟩
theorem impl_IsRow_f1_fok : FunOK Try.prog 114 := funOK Try.func114 (by kernel_rfl) rfl
theorem impl_IsRow_f1_meets (F : Nat) : Meets Try.prog 114 (impl_IsRow_f1_ent F) := by
  refine meets_of_runS mixed ttok deep (impl_IsRow_f1_tabok F) Try.func114 (body_some rfl) (impl_IsRow_f1_lsok0 F) fun args mem hfit ret h => ?_
  clear hfit
  simp only [impl_IsRow_f1_ent] at h
  split at h
  · rename_i n0
    simp only [Option.some.injEq, Prod.mk.injEq] at h
    obtain ⟨hc, rfl⟩ := h
    exact ⟨[], [], 70, _, (impl_IsRow_f1_run F n0).trans (impl_IsRow_f1_cv _ n0 _), rfl, rfl, rfl⟩
  · cases h

/-! slices.IndexFunc[[]int,int] -/
noncomputable def slices_IndexFunc_intint_impl_IsRow_f1_tab (F : Nat) : Tab := [(114, (impl_IsRow_f1_ent F))]
theorem slices_IndexFunc_intint_impl_IsRow_f1_tabok (F : Nat) : TabOK Try.prog (slices_IndexFunc_intint_impl_IsRow_f1_tab F) := (tab_cons (impl_IsRow_f1_meets F) impl_IsRow_f1_fok tab_nil)
noncomputable def slices_IndexFunc_intint_impl_IsRow_f1_LS0 (F : Nat) : LT := []
theorem slices_IndexFunc_intint_impl_IsRow_f1_lsok0 (F : Nat) : LoopsOK Try.prog (slices_IndexFunc_intint_impl_IsRow_f1_LS0 F) (bodyOf Try.f126) := loopsOK_nil
theorem slices_IndexFunc_intint_impl_IsRow_f1_keys : keysOK (bodyOf Try.f126) = true := by kernel_rfl
def slices_IndexFunc_intint_impl_IsRow_f1_st2 (s0 : List Int) (t71 : Int) (t82 : Int) : St := ⟨expand 19 0 [0, 1, 7, 8] [(.ri .i64 s0), (.fn 114 [] []), (.int .i64 t71), (.int .i64 t82)], [], 0, []⟩
def slices_IndexFunc_intint_impl_IsRow_f1_o2 (s0 : List Int) (t71 : Int) (x : Bool × Int) : GT := (.br x.1 (.out (.ret ⟨expand 19 0 [4] [(.int .i64 x.2)], [], 0, []⟩)) (.out (.exit 0 ⟨expand 19 0 [] [], [], 0, []⟩)))
def slices_IndexFunc_intint_impl_IsRow_f1_ls2 (F : Nat) : LoopS := ⟨19, [0, 1, 7, 8], [], [], [], [4], [], [], fun vals mem np killed => match vals, mem, np, killed with
  | [(.ri .i64 s0), (.fn 114 [] []), (.int .i64 t71), (.int .i64 t82)], [], 0, [] => .br (slices_IndexFunc_intint_impl_IsRow_f1_l2 F s0 t71 t82).isSome (slices_IndexFunc_intint_impl_IsRow_f1_o2 s0 t71 ((slices_IndexFunc_intint_impl_IsRow_f1_l2 F s0 t71 t82).getD default)) .fail
  | _, _, _, _ => .fail⟩
theorem slices_IndexFunc_intint_impl_IsRow_f1_step2 (F : Nat) (s0 : List Int) (t71 : Int) (t82 : Int) {R : Type} (k : Out → Option R) : stepS tt (slices_IndexFunc_intint_impl_IsRow_f1_tab F) (slices_IndexFunc_intint_impl_IsRow_f1_LS0 F) 70 (slices_IndexFunc_intint_impl_IsRow_f1_ls2 F) (loopAt 2 (bodyOf Try.f126)) (slices_IndexFunc_intint_impl_IsRow_f1_st2 s0 t71 t82) k = slices_IndexFunc_intint_impl_IsRow_f1_s2 F s0 t71 R t82 (fun s => k (.norm (slices_IndexFunc_intint_impl_IsRow_f1_st2 s0 t71 s))) (fun x => (slices_IndexFunc_intint_impl_IsRow_f1_o2 s0 t71 x).run k) := by kernel_rfl
theorem slices_IndexFunc_intint_impl_IsRow_f1_iter2 (F : Nat) (s0 : List Int) (t71 : Int) {R : Type} (k : Out → Option R) : ∀ (n : Nat) (t82 : Int), iterS tt (slices_IndexFunc_intint_impl_IsRow_f1_tab F) (slices_IndexFunc_intint_impl_IsRow_f1_LS0 F) 70 (slices_IndexFunc_intint_impl_IsRow_f1_ls2 F) (loopAt 2 (bodyOf Try.f126)) n (slices_IndexFunc_intint_impl_IsRow_f1_st2 s0 t71 t82) k = loopC (slices_IndexFunc_intint_impl_IsRow_f1_s2 F s0 t71) n t82 (fun x => (slices_IndexFunc_intint_impl_IsRow_f1_o2 s0 t71 x).run k)
  | 0, t82 => rfl
  | n + 1, t82 => (iterS_succ tt (slices_IndexFunc_intint_impl_IsRow_f1_tab F) (slices_IndexFunc_intint_impl_IsRow_f1_LS0 F) 70 (slices_IndexFunc_intint_impl_IsRow_f1_ls2 F) (loopAt 2 (bodyOf Try.f126)) n (slices_IndexFunc_intint_impl_IsRow_f1_st2 s0 t71 t82) k).trans ((slices_IndexFunc_intint_impl_IsRow_f1_step2 F s0 t71 t82 (nextK (iterS tt (slices_IndexFunc_intint_impl_IsRow_f1_tab F) (slices_IndexFunc_intint_impl_IsRow_f1_LS0 F) 70 (slices_IndexFunc_intint_impl_IsRow_f1_ls2 F) (loopAt 2 (bodyOf Try.f126)) n) k)).trans (congrArg (fun kn => slices_IndexFunc_intint_impl_IsRow_f1_s2 F s0 t71 R t82 kn _) (funext (fun t82 => slices_IndexFunc_intint_impl_IsRow_f1_iter2 F s0 t71 k n t82))))
theorem slices_IndexFunc_intint_impl_IsRow_f1_lok2 (F : Nat) : LoopOK Try.prog (loopAt 2 (bodyOf Try.f126)) (slices_IndexFunc_intint_impl_IsRow_f1_ls2 F) := by
  refine loopOK_of mixed ttok deep (slices_IndexFunc_intint_impl_IsRow_f1_tabok F) (loopsOK_at (slices_IndexFunc_intint_impl_IsRow_f1_lsok0 F) 2) (fuel := 70) fun R vals mem np killed k x h => ?_
  simp only [slices_IndexFunc_intint_impl_IsRow_f1_ls2] at h
  split at h
  · rename_i s0 t71 t82
    simp only [GT.run] at h
    have hc := (cond_noneL h).1
    replace h := (cond_noneL h).2
    refine ⟨F, (slices_IndexFunc_intint_impl_IsRow_f1_iter2 F s0 t71 k F t82).trans ((loopC_use (slices_IndexFunc_intint_impl_IsRow_f1_s2_nat F s0 t71) hc _).trans h)⟩
  · simp only [GT.run] at h
    cases h
noncomputable def slices_IndexFunc_intint_impl_IsRow_f1_LS1 (F : Nat) : LT := (2, slices_IndexFunc_intint_impl_IsRow_f1_ls2 F) :: slices_IndexFunc_intint_impl_IsRow_f1_LS0 F
theorem slices_IndexFunc_intint_impl_IsRow_f1_lsok1 (F : Nat) : LoopsOK Try.prog (slices_IndexFunc_intint_impl_IsRow_f1_LS1 F) (bodyOf Try.f126) := loopsOK_cons slices_IndexFunc_intint_impl_IsRow_f1_keys (slices_IndexFunc_intint_impl_IsRow_f1_lok2 F) (slices_IndexFunc_intint_impl_IsRow_f1_lsok0 F)
theorem slices_IndexFunc_intint_impl_IsRow_f1_run (F : Nat) (s0 : List Int) : runS tt (slices_IndexFunc_intint_impl_IsRow_f1_tab F) (slices_IndexFunc_intint_impl_IsRow_f1_LS1 F) [] [] Try.f126 (bodyOf Try.f126) 70 [(.ri .i64 s0), (.fn 114 [] [])] [] = slices_IndexFunc_intint_impl_IsRow_f1_c _ F s0 (fun r => some ⟨(.int .i64 r), [], []⟩) := by kernel_rfl
def slices_IndexFunc_intint_impl_IsRow_f1_ent (F : Nat) : Ent := ⟨[], .quiet, fun args mem => match args, mem with
  | [(.ri .i64 s0), (.fn 114 [] [])], [] => some ((slices_IndexFunc_intint_impl_IsRow_f1_p F s0).isSome, ⟨(.int .i64 ((slices_IndexFunc_intint_impl_IsRow_f1_p F s0).getD default)), [], []⟩)
  | _, _ => none⟩
theorem slices_IndexFunc_intint_impl_IsRow_f1_fok : FunOK Try.prog 126 := funOK Try.func126 (by kernel_rfl) rfl
theorem slices_IndexFunc_intint_impl_IsRow_f1_meets (F : Nat) : Meets Try.prog 126 (slices_IndexFunc_intint_impl_IsRow_f1_ent F) := by
  refine meets_of_runS mixed ttok deep (slices_IndexFunc_intint_impl_IsRow_f1_tabok F) Try.func126 (body_some rfl) (slices_IndexFunc_intint_impl_IsRow_f1_lsok1 F) fun args mem hfit ret h => ?_
  clear hfit
  simp only [slices_IndexFunc_intint_impl_IsRow_f1_ent] at h
  split at h
  · rename_i s0
    simp only [Option.some.injEq, Prod.mk.injEq] at h
    obtain ⟨hc, rfl⟩ := h
    exact ⟨[], [], 70, _, (slices_IndexFunc_intint_impl_IsRow_f1_run F s0).trans ((slices_IndexFunc_intint_impl_IsRow_f1_cp _ F s0 _).trans (bind_use hc _)), rfl, rfl, rfl⟩
  · cases h

/-! slices.ContainsFunc[[]int,int] -/
noncomputable def slices_ContainsFunc_intint_impl_IsRow_f1_tab (F : Nat) : Tab := [(126, (slices_IndexFunc_intint_impl_IsRow_f1_ent F))]
theorem slices_ContainsFunc_intint_impl_IsRow_f1_tabok (F : Nat) : TabOK Try.prog (slices_ContainsFunc_intint_impl_IsRow_f1_tab F) := (tab_cons (slices_IndexFunc_intint_impl_IsRow_f1_meets F) slices_IndexFunc_intint_impl_IsRow_f1_fok tab_nil)
noncomputable def slices_ContainsFunc_intint_impl_IsRow_f1_LS0 (F : Nat) : LT := []
theorem slices_ContainsFunc_intint_impl_IsRow_f1_lsok0 (F : Nat) : LoopsOK Try.prog (slices_ContainsFunc_intint_impl_IsRow_f1_LS0 F) (bodyOf Try.f113) := loopsOK_nil
theorem slices_ContainsFunc_intint_impl_IsRow_f1_run (F : Nat) (s0 : List Int) : runS tt (slices_ContainsFunc_intint_impl_IsRow_f1_tab F) (slices_ContainsFunc_intint_impl_IsRow_f1_LS0 F) [] [] Try.f113 (bodyOf Try.f113) 70 [(.ri .i64 s0), (.fn 114 [] [])] [] = slices_ContainsFunc_intint_impl_IsRow_f1_c _ F s0 (fun r => some ⟨(.bool r), [], []⟩) := by kernel_rfl
def slices_ContainsFunc_intint_impl_IsRow_f1_ent (F : Nat) : Ent := ⟨[], .quiet, fun args mem => match args, mem with
  | [(.ri .i64 s0), (.fn 114 [] [])], [] => some ((slices_ContainsFunc_intint_impl_IsRow_f1_p F s0).isSome, ⟨(.bool ((slices_ContainsFunc_intint_impl_IsRow_f1_p F s0).getD default)), [], []⟩)
  | _, _ => none⟩
theorem slices_ContainsFunc_intint_impl_IsRow_f1_fok : FunOK Try.prog 113 := funOK Try.func113 (by kernel_rfl) rfl
theorem slices_ContainsFunc_intint_impl_IsRow_f1_meets (F : Nat) : Meets Try.prog 113 (slices_ContainsFunc_intint_impl_IsRow_f1_ent F) := by
  refine meets_of_runS mixed ttok deep (slices_ContainsFunc_intint_impl_IsRow_f1_tabok F) Try.func113 (body_some rfl) (slices_ContainsFunc_intint_impl_IsRow_f1_lsok0 F) fun args mem hfit ret h => ?_
  clear hfit
  simp only [slices_ContainsFunc_intint_impl_IsRow_f1_ent] at h
  split at h
  · rename_i s0
    simp only [Option.some.injEq, Prod.mk.injEq] at h
    obtain ⟨hc, rfl⟩ := h
    exact ⟨[], [], 70, _, (slices_ContainsFunc_intint_impl_IsRow_f1_run F s0).trans ((slices_ContainsFunc_intint_impl_IsRow_f1_cp _ F s0 _).trans (bind_use hc _)), rfl, rfl, rfl⟩
  · cases h

/-! loop.example/g01194/impl.IsRow -/
noncomputable def impl_IsRow_tab (F : Nat) : Tab := [(113, (slices_ContainsFunc_intint_impl_IsRow_f1_ent F))]
theorem impl_IsRow_tabok (F : Nat) : TabOK Try.prog (impl_IsRow_tab F) := (tab_cons (slices_ContainsFunc_intint_impl_IsRow_f1_meets F) slices_ContainsFunc_intint_impl_IsRow_f1_fok tab_nil)
noncomputable def impl_IsRow_LS0 (F : Nat) : LT := []
theorem impl_IsRow_lsok0 (F : Nat) : LoopsOK Try.prog (impl_IsRow_LS0 F) (bodyOf Try.f84) := loopsOK_nil
theorem impl_IsRow_run (F : Nat) (row0 : List Int) : runS tt (impl_IsRow_tab F) (impl_IsRow_LS0 F) [] [] Try.f84 (bodyOf Try.f84) 70 [(.ints 4 row0)] [] = impl_IsRow_c _ F row0 (fun r => some ⟨(.bool r), [], []⟩) := by kernel_rfl
def impl_IsRow_ent (F : Nat) : Ent := ⟨[], .quiet, fun args mem => match args, mem with
  | [(.ints 4 row0)], [] => some ((impl_IsRow_p F row0).isSome, ⟨(.bool ((impl_IsRow_p F row0).getD default)), [], []⟩)
  | _, _ => none⟩
theorem impl_IsRow_fok : FunOK Try.prog 84 := funOK Try.func84 (by kernel_rfl) rfl
theorem impl_IsRow_meets (F : Nat) : Meets Try.prog 84 (impl_IsRow_ent F) := by
  refine meets_of_runS mixed ttok deep (impl_IsRow_tabok F) Try.func84 (body_some rfl) (impl_IsRow_lsok0 F) fun args mem hfit ret h => ?_
  clear hfit
  simp only [impl_IsRow_ent] at h
  split at h
  · rename_i row0
    simp only [Option.some.injEq, Prod.mk.injEq] at h
    obtain ⟨hc, rfl⟩ := h
    exact ⟨[], [], 70, _, (impl_IsRow_run F row0).trans ((impl_IsRow_cp _ F row0 _).trans (bind_use hc _)), rfl, rfl, rfl⟩
  · cases h

/-! loop.example/g01194/impl.IsBoard$1 -/
noncomputable def impl_IsBoard_f1_tab (F : Nat) : Tab := [(84, (impl_IsRow_ent F))]
theorem impl_IsBoard_f1_tabok (F : Nat) : TabOK Try.prog (impl_IsBoard_f1_tab F) := (tab_cons (impl_IsRow_meets F) impl_IsRow_fok tab_nil)
noncomputable def impl_IsBoard_f1_LS0 (F : Nat) : LT := []
theorem impl_IsBoard_f1_lsok0 (F : Nat) : LoopsOK Try.prog (impl_IsBoard_f1_LS0 F) (bodyOf Try.f83) := loopsOK_nil
theorem impl_IsBoard_f1_run (F : Nat) (row0 : List Int) : runS tt (impl_IsBoard_f1_tab F) (impl_IsBoard_f1_LS0 F) [] [] Try.f83 (bodyOf Try.f83) 70 [(.ints 4 row0)] [] = impl_IsBoard_f1_c _ F row0 (fun r => some ⟨(.bool r), [], []⟩) := by kernel_rfl
def impl_IsBoard_f1_ent (F : Nat) : Ent := ⟨[], .quiet, fun args mem => match args, mem with
  | [(.ints 4 row0)], [] => some ((impl_IsBoard_f1_p F row0).isSome, ⟨(.bool ((impl_IsBoard_f1_p F row0).getD default)), [], []⟩)
  | _, _ => none⟩
theorem impl_IsBoard_f1_fok : FunOK Try.prog 83 := funOK Try.func83 (by kernel_rfl) rfl
theorem impl_IsBoard_f1_meets (F : Nat) : Meets Try.prog 83 (impl_IsBoard_f1_ent F) := by
  refine meets_of_runS mixed ttok deep (impl_IsBoard_f1_tabok F) Try.func83 (body_some rfl) (impl_IsBoard_f1_lsok0 F) fun args mem hfit ret h => ?_
  clear hfit
  simp only [impl_IsBoard_f1_ent] at h
  split at h
  · rename_i row0
    simp only [Option.some.injEq, Prod.mk.injEq] at h
    obtain ⟨hc, rfl⟩ := h
    exact ⟨[], [], 70, _, (impl_IsBoard_f1_run F row0).trans ((impl_IsBoard_f1_cp _ F row0 _).trans (bind_use hc _)), rfl, rfl, rfl⟩
  · cases h
end Go.Proofs.Ytgmnclpjbhmioaa
