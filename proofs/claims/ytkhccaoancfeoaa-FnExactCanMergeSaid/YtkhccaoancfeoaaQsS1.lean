/-
Pure functions and what the code of them does, by program; without conditions.
-/
import Derived.Test.YtkhccaoancfeoaaQsP1
import Derived.Test.YtkhccaoancfeoaaQsS0
namespace Go.Proofs.Ytkhccaoancfeoaa
open Go Go.Lv Go.Lv.P Go.Proofs
set_option linter.unusedVariables false
set_option linter.unusedSimpArgs false
set_option maxRecDepth 100000
/-! loop.example/g01194/spec.l4Before -/
noncomputable def spec_l4Before_tab (F : Nat) : Tab := [(54, (spec_l1Has_ent F)), (55, (spec_l4Spread_ent F)), (56, (spec_l2Row_ent F)), (57, (spec_l4Put_ent F))]
theorem spec_l4Before_tabok (F : Nat) : TabOK Try.prog (spec_l4Before_tab F) := (tab_cons (spec_l1Has_meets F) spec_l1Has_fok (tab_cons (spec_l4Spread_meets F) spec_l4Spread_fok (tab_cons (spec_l2Row_meets F) spec_l2Row_fok (tab_cons (spec_l4Put_meets F) spec_l4Put_fok tab_nil))))
noncomputable def spec_l4Before_LS0 (F : Nat) : LT := []
theorem spec_l4Before_lsok0 (F : Nat) : LoopsOK Try.prog (spec_l4Before_LS0 F) (bodyOf Try.f40) := loopsOK_nil
theorem spec_l4Before_keys : keysOK (bodyOf Try.f40) = true := by kernel_rfl
def spec_l4Before_st7 (out3 : List (List Int)) (code4 : Int) (row8 : List Int) (k7 : Int) (tiles9 : List Int) : St := ⟨expand 82 0 [1, 3, 4, 5, 6] [(.ptr 0 0 0 4), (.rr 4 out3), (.int .i64 code4), (.sl 1 0 (List.length tiles9)), (.int .i64 k7)], [(.var 4 (.ri .i64 row8)), (.vec 3 (.ri .i64 tiles9))], 0, []⟩
def spec_l4Before_o7 (out3 : List (List Int)) (code4 : Int) (row8 : List Int) (x : List Int) : GT := (.out (.exit 2 ⟨expand 82 0 [1, 3, 4, 5] [(.ptr 0 0 0 4), (.rr 4 out3), (.int .i64 code4), (.sl 1 0 (List.length x))], [(.var 4 (.ri .i64 row8)), (.vec 3 (.ri .i64 x))], 0, []⟩))
def spec_l4Before_ls7 (F : Nat) : LoopS := ⟨82, [1, 3, 4, 5, 6], [], [1, 3, 4, 5], [], [2], [], [], fun vals mem np killed => match vals, mem, np, killed with
  | [(.ptr 0 0 0 4), (.rr 4 out3), (.int .i64 code4), (.sl 1 0 q_tiles6), (.int .i64 k7)], [(.var 4 (.ri .i64 row8)), (.vec 3 (.ri .i64 tiles9))], 0, [] => .br ((Nat.beq q_tiles6 (List.length tiles9)) && (spec_l4Before_l7 F out3 code4 row8 k7 tiles9).isSome) (spec_l4Before_o7 out3 code4 row8 ((spec_l4Before_l7 F out3 code4 row8 k7 tiles9).getD default)) .fail
  | _, _, _, _ => .fail⟩
theorem spec_l4Before_step7 (F : Nat) (out3 : List (List Int)) (code4 : Int) (row8 : List Int) (k7 : Int) (tiles9 : List Int) {R : Type} (k : Out → Option R) : stepS tt (spec_l4Before_tab F) (spec_l4Before_LS0 F) 70 (spec_l4Before_ls7 F) (loopAt 7 (bodyOf Try.f40)) (spec_l4Before_st7 out3 code4 row8 k7 tiles9) k = spec_l4Before_s7 F out3 code4 row8 R (k7, tiles9) (fun s => k (.norm (spec_l4Before_st7 out3 code4 row8 s.1 s.2))) (fun x => (spec_l4Before_o7 out3 code4 row8 x).run k) := by kernel_rfl
theorem spec_l4Before_iter7 (F : Nat) (out3 : List (List Int)) (code4 : Int) (row8 : List Int) {R : Type} (k : Out → Option R) : ∀ (n : Nat) (k7 : Int) (tiles9 : List Int), iterS tt (spec_l4Before_tab F) (spec_l4Before_LS0 F) 70 (spec_l4Before_ls7 F) (loopAt 7 (bodyOf Try.f40)) n (spec_l4Before_st7 out3 code4 row8 k7 tiles9) k = loopC (spec_l4Before_s7 F out3 code4 row8) n (k7, tiles9) (fun x => (spec_l4Before_o7 out3 code4 row8 x).run k)
  | 0, k7, tiles9 => rfl
  | n + 1, k7, tiles9 => (iterS_succ tt (spec_l4Before_tab F) (spec_l4Before_LS0 F) 70 (spec_l4Before_ls7 F) (loopAt 7 (bodyOf Try.f40)) n (spec_l4Before_st7 out3 code4 row8 k7 tiles9) k).trans ((spec_l4Before_step7 F out3 code4 row8 k7 tiles9 (nextK (iterS tt (spec_l4Before_tab F) (spec_l4Before_LS0 F) 70 (spec_l4Before_ls7 F) (loopAt 7 (bodyOf Try.f40)) n) k)).trans (congrArg (fun kn => spec_l4Before_s7 F out3 code4 row8 R (k7, tiles9) kn _) (funext (fun ⟨k7, tiles9⟩ => spec_l4Before_iter7 F out3 code4 row8 k n k7 tiles9))))
theorem spec_l4Before_lok7 (F : Nat) : LoopOK Try.prog (loopAt 7 (bodyOf Try.f40)) (spec_l4Before_ls7 F) := by
  refine loopOK_of mixed ttok deep (spec_l4Before_tabok F) (loopsOK_at (spec_l4Before_lsok0 F) 7) (fuel := 70) fun R vals mem np killed k x h => ?_
  simp only [spec_l4Before_ls7] at h
  split at h
  · rename_i out3 code4 q_tiles6 k7 row8 tiles9
    simp only [GT.run] at h
    have hc := (cond_noneL h).1
    replace h := (cond_noneL h).2
    have hg := (and_split hc).1
    replace hc := (and_split hc).2
    obtain rfl := nbeq_nat hg
    refine ⟨F, (spec_l4Before_iter7 F out3 code4 row8 k F k7 tiles9).trans ((loopC_use (spec_l4Before_s7_nat F out3 code4 row8) hc _).trans h)⟩
  · simp only [GT.run] at h
    cases h
noncomputable def spec_l4Before_LS1 (F : Nat) : LT := (7, spec_l4Before_ls7 F) :: spec_l4Before_LS0 F
theorem spec_l4Before_lsok1 (F : Nat) : LoopsOK Try.prog (spec_l4Before_LS1 F) (bodyOf Try.f40) := loopsOK_cons spec_l4Before_keys (spec_l4Before_lok7 F) (spec_l4Before_lsok0 F)
def spec_l4Before_st15 (code4 : Int) (all6 : Nat) (row8 : List Int) (all9 : List (List Int)) (out3 : List (List Int)) (i7 : Int) : St := ⟨expand 82 0 [1, 3, 4, 7, 8] [(.ptr 0 0 0 4), (.rr 4 out3), (.int .i64 code4), (.sl 1 0 all6), (.int .i64 i7)], [(.var 4 (.ri .i64 row8)), (.vec 22 (.rr 4 all9))], 0, []⟩
def spec_l4Before_o15 (code4 : Int) (all6 : Nat) (row8 : List Int) (all9 : List (List Int)) (x : List (List Int)) : GT := (.out (.exit 4 ⟨expand 82 0 [1, 3, 4] [(.ptr 0 0 0 4), (.rr 4 x), (.int .i64 code4)], [(.var 4 (.ri .i64 row8))], 0, []⟩))
def spec_l4Before_ls15 (F : Nat) : LoopS := ⟨82, [1, 3, 4, 7, 8], [], [1, 3, 4], [], [2], [], [], fun vals mem np killed => match vals, mem, np, killed with
  | [(.ptr 0 0 0 4), (.rr 4 out3), (.int .i64 code4), (.sl 1 0 all6), (.int .i64 i7)], [(.var 4 (.ri .i64 row8)), (.vec 22 (.rr 4 all9))], 0, [] => .br (spec_l4Before_l15 F code4 all6 row8 all9 out3 i7).isSome (spec_l4Before_o15 code4 all6 row8 all9 ((spec_l4Before_l15 F code4 all6 row8 all9 out3 i7).getD default)) .fail
  | _, _, _, _ => .fail⟩
theorem spec_l4Before_step15 (F : Nat) (code4 : Int) (all6 : Nat) (row8 : List Int) (all9 : List (List Int)) (out3 : List (List Int)) (i7 : Int) {R : Type} (k : Out → Option R) : stepS tt (spec_l4Before_tab F) (spec_l4Before_LS1 F) 70 (spec_l4Before_ls15 F) (loopAt 15 (bodyOf Try.f40)) (spec_l4Before_st15 code4 all6 row8 all9 out3 i7) k = spec_l4Before_s15 F code4 all6 row8 all9 R (out3, i7) (fun s => k (.norm (spec_l4Before_st15 code4 all6 row8 all9 s.1 s.2))) (fun x => (spec_l4Before_o15 code4 all6 row8 all9 x).run k) := by kernel_rfl
theorem spec_l4Before_iter15 (F : Nat) (code4 : Int) (all6 : Nat) (row8 : List Int) (all9 : List (List Int)) {R : Type} (k : Out → Option R) : ∀ (n : Nat) (out3 : List (List Int)) (i7 : Int), iterS tt (spec_l4Before_tab F) (spec_l4Before_LS1 F) 70 (spec_l4Before_ls15 F) (loopAt 15 (bodyOf Try.f40)) n (spec_l4Before_st15 code4 all6 row8 all9 out3 i7) k = loopC (spec_l4Before_s15 F code4 all6 row8 all9) n (out3, i7) (fun x => (spec_l4Before_o15 code4 all6 row8 all9 x).run k)
  | 0, out3, i7 => rfl
  | n + 1, out3, i7 => (iterS_succ tt (spec_l4Before_tab F) (spec_l4Before_LS1 F) 70 (spec_l4Before_ls15 F) (loopAt 15 (bodyOf Try.f40)) n (spec_l4Before_st15 code4 all6 row8 all9 out3 i7) k).trans ((spec_l4Before_step15 F code4 all6 row8 all9 out3 i7 (nextK (iterS tt (spec_l4Before_tab F) (spec_l4Before_LS1 F) 70 (spec_l4Before_ls15 F) (loopAt 15 (bodyOf Try.f40)) n) k)).trans (congrArg (fun kn => spec_l4Before_s15 F code4 all6 row8 all9 R (out3, i7) kn _) (funext (fun ⟨out3, i7⟩ => spec_l4Before_iter15 F code4 all6 row8 all9 k n out3 i7))))
theorem spec_l4Before_lok15 (F : Nat) : LoopOK Try.prog (loopAt 15 (bodyOf Try.f40)) (spec_l4Before_ls15 F) := by
  refine loopOK_of mixed ttok deep (spec_l4Before_tabok F) (loopsOK_at (spec_l4Before_lsok1 F) 15) (fuel := 70) fun R vals mem np killed k x h => ?_
  simp only [spec_l4Before_ls15] at h
  split at h
  · rename_i out3 code4 all6 i7 row8 all9
    simp only [GT.run] at h
    have hc := (cond_noneL h).1
    replace h := (cond_noneL h).2
    refine ⟨F, (spec_l4Before_iter15 F code4 all6 row8 all9 k F out3 i7).trans ((loopC_use (spec_l4Before_s15_nat F code4 all6 row8 all9) hc _).trans h)⟩
  · simp only [GT.run] at h
    cases h
noncomputable def spec_l4Before_LS2 (F : Nat) : LT := (15, spec_l4Before_ls15 F) :: spec_l4Before_LS1 F
theorem spec_l4Before_lsok2 (F : Nat) : LoopsOK Try.prog (spec_l4Before_LS2 F) (bodyOf Try.f40) := loopsOK_cons spec_l4Before_keys (spec_l4Before_lok15 F) (spec_l4Before_lsok1 F)
def spec_l4Before_st3 (row5 : List Int) (out3 : List (List Int)) (code4 : Int) : St := ⟨expand 82 0 [1, 3, 4] [(.ptr 0 0 0 4), (.rr 4 out3), (.int .i64 code4)], [(.var 4 (.ri .i64 row5))], 0, []⟩
def spec_l4Before_o3 (row5 : List Int) (x : List (List Int)) : GT := (.out (.exit 0 ⟨expand 82 0 [3] [(.rr 4 x)], [], 0, []⟩))
def spec_l4Before_ls3 (F : Nat) : LoopS := ⟨82, [1, 3, 4], [⟨3, 0, (.tup [])⟩], [3], [], [2], [], [], fun vals mem np killed => match vals, mem, np, killed with
  | [(.ptr 0 0 0 4), (.rr 4 out3), (.int .i64 code4)], [(.var 4 (.ri .i64 row5))], 0, [] => .br (spec_l4Before_l3 F row5 out3 code4).isSome (spec_l4Before_o3 row5 ((spec_l4Before_l3 F row5 out3 code4).getD default)) .fail
  | _, _, _, _ => .fail⟩
theorem spec_l4Before_step3 (F : Nat) (row5 : List Int) (out3 : List (List Int)) (code4 : Int) {R : Type} (k : Out → Option R) : stepS tt (spec_l4Before_tab F) (spec_l4Before_LS2 F) 70 (spec_l4Before_ls3 F) (loopAt 3 (bodyOf Try.f40)) (spec_l4Before_st3 row5 out3 code4) k = spec_l4Before_s3 F row5 R (out3, code4) (fun s => k (.norm (spec_l4Before_st3 row5 s.1 s.2))) (fun x => (spec_l4Before_o3 row5 x).run k) := by kernel_rfl
theorem spec_l4Before_iter3 (F : Nat) (row5 : List Int) {R : Type} (k : Out → Option R) : ∀ (n : Nat) (out3 : List (List Int)) (code4 : Int), iterS tt (spec_l4Before_tab F) (spec_l4Before_LS2 F) 70 (spec_l4Before_ls3 F) (loopAt 3 (bodyOf Try.f40)) n (spec_l4Before_st3 row5 out3 code4) k = loopC (spec_l4Before_s3 F row5) n (out3, code4) (fun x => (spec_l4Before_o3 row5 x).run k)
  | 0, out3, code4 => rfl
  | n + 1, out3, code4 => (iterS_succ tt (spec_l4Before_tab F) (spec_l4Before_LS2 F) 70 (spec_l4Before_ls3 F) (loopAt 3 (bodyOf Try.f40)) n (spec_l4Before_st3 row5 out3 code4) k).trans ((spec_l4Before_step3 F row5 out3 code4 (nextK (iterS tt (spec_l4Before_tab F) (spec_l4Before_LS2 F) 70 (spec_l4Before_ls3 F) (loopAt 3 (bodyOf Try.f40)) n) k)).trans (congrArg (fun kn => spec_l4Before_s3 F row5 R (out3, code4) kn _) (funext (fun ⟨out3, code4⟩ => spec_l4Before_iter3 F row5 k n out3 code4))))
theorem spec_l4Before_lok3 (F : Nat) : LoopOK Try.prog (loopAt 3 (bodyOf Try.f40)) (spec_l4Before_ls3 F) := by
  refine loopOK_of mixed ttok deep (spec_l4Before_tabok F) (loopsOK_at (spec_l4Before_lsok2 F) 3) (fuel := 70) fun R vals mem np killed k x h => ?_
  simp only [spec_l4Before_ls3] at h
  split at h
  · rename_i out3 code4 row5
    simp only [GT.run] at h
    have hc := (cond_noneL h).1
    replace h := (cond_noneL h).2
    refine ⟨F, (spec_l4Before_iter3 F row5 k F out3 code4).trans ((loopC_use (spec_l4Before_s3_nat F row5) hc _).trans h)⟩
  · simp only [GT.run] at h
    cases h
noncomputable def spec_l4Before_LS3 (F : Nat) : LT := (3, spec_l4Before_ls3 F) :: spec_l4Before_LS2 F
theorem spec_l4Before_lsok3 (F : Nat) : LoopsOK Try.prog (spec_l4Before_LS3 F) (bodyOf Try.f40) := loopsOK_cons spec_l4Before_keys (spec_l4Before_lok3 F) (spec_l4Before_lsok2 F)
theorem spec_l4Before_run (F : Nat) (row0 : List Int) : runS tt (spec_l4Before_tab F) (spec_l4Before_LS3 F) [] [] Try.f40 (bodyOf Try.f40) 70 [(.ints 4 row0)] [] = spec_l4Before_c _ F row0 (fun r => some ⟨(.rr 4 r), [], []⟩) := by kernel_rfl
def spec_l4Before_ent (F : Nat) : Ent := ⟨[], .quiet, fun args mem => match args, mem with
  | [(.ints 4 row0)], [] => some ((spec_l4Before_p F row0).isSome, ⟨(.rr 4 ((spec_l4Before_p F row0).getD default)), [], []⟩)
  | _, _ => none⟩
theorem spec_l4Before_fok : FunOK Try.prog 40 := funOK Try.func40 (by kernel_rfl) rfl
theorem spec_l4Before_meets (F : Nat) : Meets Try.prog 40 (spec_l4Before_ent F) := by
  refine meets_of_runS mixed ttok deep (spec_l4Before_tabok F) Try.func40 (body_some rfl) (spec_l4Before_lsok3 F) fun args mem hfit ret h => ?_
  clear hfit
  simp only [spec_l4Before_ent] at h
  split at h
  · rename_i row0
    simp only [Option.some.injEq, Prod.mk.injEq] at h
    obtain ⟨hc, rfl⟩ := h
    exact ⟨[], [], 70, _, (spec_l4Before_run F row0).trans ((spec_l4Before_cp _ F row0 _).trans (bind_use hc _)), rfl, rfl, rfl⟩
  · cases h

/-! loop.example/g01194/spec.l6Lists -/
noncomputable def spec_l6Lists_tab (F : Nat) : Tab := [(41, (spec_l2Numbers_ent F)), (40, (spec_l4Before_ent F))]
theorem spec_l6Lists_tabok (F : Nat) : TabOK Try.prog (spec_l6Lists_tab F) := (tab_cons (spec_l2Numbers_meets F) spec_l2Numbers_fok (tab_cons (spec_l4Before_meets F) spec_l4Before_fok tab_nil))
noncomputable def spec_l6Lists_LS0 (F : Nat) : LT := []
theorem spec_l6Lists_lsok0 (F : Nat) : LoopsOK Try.prog (spec_l6Lists_LS0 F) (bodyOf Try.f21) := loopsOK_nil
theorem spec_l6Lists_run (F : Nat) (b0 : List Int) (d1 : Int) : runS tt (spec_l6Lists_tab F) (spec_l6Lists_LS0 F) [] [] Try.f21 (bodyOf Try.f21) 70 [(.ints 16 b0), (.int .i64 d1)] [] = spec_l6Lists_c _ F b0 d1 (fun r => some ⟨(.agg [(.rr 4 r.1), (.rr 4 r.2.1), (.rr 4 r.2.2.1), (.rr 4 r.2.2.2)]), [], []⟩) := by kernel_rfl
def spec_l6Lists_ent (F : Nat) : Ent := ⟨[], .quiet, fun args mem => match args, mem with
  | [(.ints 16 b0), (.int .i64 d1)], [] => some ((spec_l6Lists_p F b0 d1).isSome, ⟨(.agg [(.rr 4 ((spec_l6Lists_p F b0 d1).getD default).1), (.rr 4 ((spec_l6Lists_p F b0 d1).getD default).2.1), (.rr 4 ((spec_l6Lists_p F b0 d1).getD default).2.2.1), (.rr 4 ((spec_l6Lists_p F b0 d1).getD default).2.2.2)]), [], []⟩)
  | _, _ => none⟩
theorem spec_l6Lists_fok : FunOK Try.prog 21 := funOK Try.func21 (by kernel_rfl) rfl
theorem spec_l6Lists_meets (F : Nat) : Meets Try.prog 21 (spec_l6Lists_ent F) := by
  refine meets_of_runS mixed ttok deep (spec_l6Lists_tabok F) Try.func21 (body_some rfl) (spec_l6Lists_lsok0 F) fun args mem hfit ret h => ?_
  clear hfit
  simp only [spec_l6Lists_ent] at h
  split at h
  · rename_i b0 d1
    simp only [Option.some.injEq, Prod.mk.injEq] at h
    obtain ⟨hc, rfl⟩ := h
    exact ⟨[], [], 70, _, (spec_l6Lists_run F b0 d1).trans ((spec_l6Lists_cp _ F b0 d1 _).trans (bind_use hc _)), rfl, rfl, rfl⟩
  · cases h

/-! loop.example/g01194/spec.l2Put -/
noncomputable def spec_l2Put_tab (F : Nat) : Tab := []
theorem spec_l2Put_tabok (F : Nat) : TabOK Try.prog (spec_l2Put_tab F) := tab_nil
noncomputable def spec_l2Put_LS0 (F : Nat) : LT := []
theorem spec_l2Put_lsok0 (F : Nat) : LoopsOK Try.prog (spec_l2Put_LS0 F) (bodyOf Try.f59) := loopsOK_nil
theorem spec_l2Put_run (F : Nat) (b0 : List Int) (cell1 : List Int) (t2 : Int) : runS tt (spec_l2Put_tab F) (spec_l2Put_LS0 F) [] [] Try.f59 (bodyOf Try.f59) 70 [(.ints 16 b0), (.ints 2 cell1), (.int .i64 t2)] [] = spec_l2Put_c _ b0 cell1 t2 (fun r => some ⟨(.ints 16 r), [], []⟩) := by kernel_rfl
def spec_l2Put_ent (F : Nat) : Ent := ⟨[], .quiet, fun args mem => match args, mem with
  | [(.ints 16 b0), (.ints 2 cell1), (.int .i64 t2)], [] => some ((spec_l2Put_p b0 cell1 t2).isSome, ⟨(.ints 16 ((spec_l2Put_p b0 cell1 t2).getD default)), [], []⟩)
  | _, _ => none⟩
theorem spec_l2Put_fok : FunOK Try.prog 59 := funOK Try.func59 (by kernel_rfl) rfl
theorem spec_l2Put_meets (F : Nat) : Meets Try.prog 59 (spec_l2Put_ent F) := by
  refine meets_of_runS mixed ttok deep (spec_l2Put_tabok F) Try.func59 (body_some rfl) (spec_l2Put_lsok0 F) fun args mem hfit ret h => ?_
  clear hfit
  simp only [spec_l2Put_ent] at h
  split at h
  · rename_i b0 cell1 t2
    simp only [Option.some.injEq, Prod.mk.injEq] at h
    obtain ⟨hc, rfl⟩ := h
    exact ⟨[], [], 70, _, (spec_l2Put_run F b0 cell1 t2).trans ((spec_l2Put_cp _ b0 cell1 t2 _).trans (bind_use hc _)), rfl, rfl, rfl⟩
  · cases h

/-! loop.example/g01194/spec.l2Slide -/
noncomputable def spec_l2Slide_tab (F : Nat) : Tab := [(41, (spec_l2Numbers_ent F)), (56, (spec_l2Row_ent F)), (23, (spec_l2Line_ent F)), (59, (spec_l2Put_ent F))]
theorem spec_l2Slide_tabok (F : Nat) : TabOK Try.prog (spec_l2Slide_tab F) := (tab_cons (spec_l2Numbers_meets F) spec_l2Numbers_fok (tab_cons (spec_l2Row_meets F) spec_l2Row_fok (tab_cons (spec_l2Line_meets F) spec_l2Line_fok (tab_cons (spec_l2Put_meets F) spec_l2Put_fok tab_nil))))
noncomputable def spec_l2Slide_LS0 (F : Nat) : LT := []
theorem spec_l2Slide_lsok0 (F : Nat) : LoopsOK Try.prog (spec_l2Slide_LS0 F) (bodyOf Try.f42) := loopsOK_nil
theorem spec_l2Slide_keys : keysOK (bodyOf Try.f42) = true := by kernel_rfl
def spec_l2Slide_st3 (d0 : Int) (b12 : List Int) (sum10 : Int) (i11 : Int) (out14 : List Int) : St := ⟨expand 46 0 [1, 2, 4, 6, 7, 8] [(.int .i64 d0), (.ptr 0 0 0 16), (.ptr 1 0 0 16), (.ptr 2 0 0 16), (.int .i64 sum10), (.int .i64 i11)], [(.var 16 (.ri .i64 b12)), (.var 16 (.ri .i64 [(0 : Int), (0 : Int), (0 : Int), (0 : Int), (0 : Int), (0 : Int), (0 : Int), (0 : Int), (0 : Int), (0 : Int), (0 : Int), (0 : Int), (0 : Int), (0 : Int), (0 : Int), (0 : Int)])), (.var 16 (.ri .i64 out14))], 0, []⟩
def spec_l2Slide_o3 (d0 : Int) (b12 : List Int) (x : Int × List Int) : GT := (.out (.exit 0 ⟨expand 46 0 [4, 6, 7] [(.ptr 0 0 0 16), (.ptr 1 0 0 16), (.int .i64 x.1)], [(.var 16 (.ri .i64 [(0 : Int), (0 : Int), (0 : Int), (0 : Int), (0 : Int), (0 : Int), (0 : Int), (0 : Int), (0 : Int), (0 : Int), (0 : Int), (0 : Int), (0 : Int), (0 : Int), (0 : Int), (0 : Int)])), (.var 16 (.ri .i64 x.2))], 0, []⟩))
def spec_l2Slide_ls3 (F : Nat) : LoopS := ⟨46, [1, 2, 4, 6, 7, 8], [], [4, 6, 7], [], [4, 5], [], [], fun vals mem np killed => match vals, mem, np, killed with
  | [(.int .i64 d0), (.ptr 0 0 0 16), (.ptr 1 0 0 16), (.ptr 2 0 0 16), (.int .i64 sum10), (.int .i64 i11)], [(.var 16 (.ri .i64 b12)), (.var 16 (.ri .i64 q_t413)), (.var 16 (.ri .i64 out14))], 0, [] => .br ((q_t413 == ([(0 : Int), (0 : Int), (0 : Int), (0 : Int), (0 : Int), (0 : Int), (0 : Int), (0 : Int), (0 : Int), (0 : Int), (0 : Int), (0 : Int), (0 : Int), (0 : Int), (0 : Int), (0 : Int)] : List Int)) && (spec_l2Slide_l3 F d0 b12 sum10 i11 out14).isSome) (spec_l2Slide_o3 d0 b12 ((spec_l2Slide_l3 F d0 b12 sum10 i11 out14).getD default)) .fail
  | _, _, _, _ => .fail⟩
theorem spec_l2Slide_step3 (F : Nat) (d0 : Int) (b12 : List Int) (sum10 : Int) (i11 : Int) (out14 : List Int) {R : Type} (k : Out → Option R) : stepS tt (spec_l2Slide_tab F) (spec_l2Slide_LS0 F) 70 (spec_l2Slide_ls3 F) (loopAt 3 (bodyOf Try.f42)) (spec_l2Slide_st3 d0 b12 sum10 i11 out14) k = spec_l2Slide_s3 F d0 b12 R (sum10, i11, out14) (fun s => k (.norm (spec_l2Slide_st3 d0 b12 s.1 s.2.1 s.2.2))) (fun x => (spec_l2Slide_o3 d0 b12 x).run k) := by kernel_rfl
theorem spec_l2Slide_iter3 (F : Nat) (d0 : Int) (b12 : List Int) {R : Type} (k : Out → Option R) : ∀ (n : Nat) (sum10 : Int) (i11 : Int) (out14 : List Int), iterS tt (spec_l2Slide_tab F) (spec_l2Slide_LS0 F) 70 (spec_l2Slide_ls3 F) (loopAt 3 (bodyOf Try.f42)) n (spec_l2Slide_st3 d0 b12 sum10 i11 out14) k = loopC (spec_l2Slide_s3 F d0 b12) n (sum10, i11, out14) (fun x => (spec_l2Slide_o3 d0 b12 x).run k)
  | 0, sum10, i11, out14 => rfl
  | n + 1, sum10, i11, out14 => (iterS_succ tt (spec_l2Slide_tab F) (spec_l2Slide_LS0 F) 70 (spec_l2Slide_ls3 F) (loopAt 3 (bodyOf Try.f42)) n (spec_l2Slide_st3 d0 b12 sum10 i11 out14) k).trans ((spec_l2Slide_step3 F d0 b12 sum10 i11 out14 (nextK (iterS tt (spec_l2Slide_tab F) (spec_l2Slide_LS0 F) 70 (spec_l2Slide_ls3 F) (loopAt 3 (bodyOf Try.f42)) n) k)).trans (congrArg (fun kn => spec_l2Slide_s3 F d0 b12 R (sum10, i11, out14) kn _) (funext (fun ⟨sum10, i11, out14⟩ => spec_l2Slide_iter3 F d0 b12 k n sum10 i11 out14))))
theorem spec_l2Slide_lok3 (F : Nat) : LoopOK Try.prog (loopAt 3 (bodyOf Try.f42)) (spec_l2Slide_ls3 F) := by
  refine loopOK_of mixed ttok deep (spec_l2Slide_tabok F) (loopsOK_at (spec_l2Slide_lsok0 F) 3) (fuel := 70) fun R vals mem np killed k x h => ?_
  simp only [spec_l2Slide_ls3] at h
  split at h
  · rename_i d0 sum10 i11 b12 q_t413 out14
    simp only [GT.run] at h
    have hc := (cond_noneL h).1
    replace h := (cond_noneL h).2
    have hg := (and_split hc).1
    replace hc := (and_split hc).2
    obtain rfl := beq_li hg
    refine ⟨F, (spec_l2Slide_iter3 F d0 b12 k F sum10 i11 out14).trans ((loopC_use (spec_l2Slide_s3_nat F d0 b12) hc _).trans h)⟩
  · simp only [GT.run] at h
    cases h
noncomputable def spec_l2Slide_LS1 (F : Nat) : LT := (3, spec_l2Slide_ls3 F) :: spec_l2Slide_LS0 F
theorem spec_l2Slide_lsok1 (F : Nat) : LoopsOK Try.prog (spec_l2Slide_LS1 F) (bodyOf Try.f42) := loopsOK_cons spec_l2Slide_keys (spec_l2Slide_lok3 F) (spec_l2Slide_lsok0 F)
theorem spec_l2Slide_run (F : Nat) (b0 : List Int) (d1 : Int) : runS tt (spec_l2Slide_tab F) (spec_l2Slide_LS1 F) [] [] Try.f42 (bodyOf Try.f42) 70 [(.ints 16 b0), (.int .i64 d1)] [] = spec_l2Slide_c _ F b0 d1 (fun r => some ⟨(.tup [(.ints 16 r.1), (.int .i64 r.2)]), [], []⟩) := by kernel_rfl
def spec_l2Slide_ent (F : Nat) : Ent := ⟨[], .quiet, fun args mem => match args, mem with
  | [(.ints 16 b0), (.int .i64 d1)], [] => some ((spec_l2Slide_p F b0 d1).isSome, ⟨(.tup [(.ints 16 ((spec_l2Slide_p F b0 d1).getD default).1), (.int .i64 ((spec_l2Slide_p F b0 d1).getD default).2)]), [], []⟩)
  | _, _ => none⟩
theorem spec_l2Slide_fok : FunOK Try.prog 42 := funOK Try.func42 (by kernel_rfl) rfl
theorem spec_l2Slide_meets (F : Nat) : Meets Try.prog 42 (spec_l2Slide_ent F) := by
  refine meets_of_runS mixed ttok deep (spec_l2Slide_tabok F) Try.func42 (body_some rfl) (spec_l2Slide_lsok1 F) fun args mem hfit ret h => ?_
  clear hfit
  simp only [spec_l2Slide_ent] at h
  split at h
  · rename_i b0 d1
    simp only [Option.some.injEq, Prod.mk.injEq] at h
    obtain ⟨hc, rfl⟩ := h
    exact ⟨[], [], 70, _, (spec_l2Slide_run F b0 d1).trans ((spec_l2Slide_cp _ F b0 d1 _).trans (bind_use hc _)), rfl, rfl, rfl⟩
  · cases h

/-! loop.example/g01194/spec.l6Still -/
noncomputable def spec_l6Still_tab (F : Nat) : Tab := [(42, (spec_l2Slide_ent F))]
theorem spec_l6Still_tabok (F : Nat) : TabOK Try.prog (spec_l6Still_tab F) := (tab_cons (spec_l2Slide_meets F) spec_l2Slide_fok tab_nil)
noncomputable def spec_l6Still_LS0 (F : Nat) : LT := []
theorem spec_l6Still_lsok0 (F : Nat) : LoopsOK Try.prog (spec_l6Still_LS0 F) (bodyOf Try.f22) := loopsOK_nil
theorem spec_l6Still_run (F : Nat) (b0 : List Int) (d1 : Int) : runS tt (spec_l6Still_tab F) (spec_l6Still_LS0 F) [] [] Try.f22 (bodyOf Try.f22) 70 [(.ints 16 b0), (.int .i64 d1)] [] = spec_l6Still_c _ F b0 d1 (fun r => some ⟨(.bool r), [], []⟩) := by kernel_rfl
def spec_l6Still_ent (F : Nat) : Ent := ⟨[], .quiet, fun args mem => match args, mem with
  | [(.ints 16 b0), (.int .i64 d1)], [] => some ((spec_l6Still_p F b0 d1).isSome, ⟨(.bool ((spec_l6Still_p F b0 d1).getD default)), [], []⟩)
  | _, _ => none⟩
theorem spec_l6Still_fok : FunOK Try.prog 22 := funOK Try.func22 (by kernel_rfl) rfl
theorem spec_l6Still_meets (F : Nat) : Meets Try.prog 22 (spec_l6Still_ent F) := by
  refine meets_of_runS mixed ttok deep (spec_l6Still_tabok F) Try.func22 (body_some rfl) (spec_l6Still_lsok0 F) fun args mem hfit ret h => ?_
  clear hfit
  simp only [spec_l6Still_ent] at h
  split at h
  · rename_i b0 d1
    simp only [Option.some.injEq, Prod.mk.injEq] at h
    obtain ⟨hc, rfl⟩ := h
    exact ⟨[], [], 70, _, (spec_l6Still_run F b0 d1).trans ((spec_l6Still_cp _ F b0 d1 _).trans (bind_use hc _)), rfl, rfl, rfl⟩
  · cases h

/-! loop.example/g01194/spec.l6Count -/
noncomputable def spec_l6Count_tab (F : Nat) : Tab := [(21, (spec_l6Lists_ent F)), (22, (spec_l6Still_ent F))]
theorem spec_l6Count_tabok (F : Nat) : TabOK Try.prog (spec_l6Count_tab F) := (tab_cons (spec_l6Lists_meets F) spec_l6Lists_fok (tab_cons (spec_l6Still_meets F) spec_l6Still_fok tab_nil))
noncomputable def spec_l6Count_LS0 (F : Nat) : LT := []
theorem spec_l6Count_lsok0 (F : Nat) : LoopsOK Try.prog (spec_l6Count_LS0 F) (bodyOf Try.f15) := loopsOK_nil
theorem spec_l6Count_run (F : Nat) (b0 : List Int) (d1 : Int) : runS tt (spec_l6Count_tab F) (spec_l6Count_LS0 F) [] [] Try.f15 (bodyOf Try.f15) 70 [(.ints 16 b0), (.int .i64 d1)] [] = spec_l6Count_c _ F b0 d1 (fun r => some ⟨(.int .i64 r), [], []⟩) := by kernel_rfl
def spec_l6Count_ent (F : Nat) : Ent := ⟨[], .quiet, fun args mem => match args, mem with
  | [(.ints 16 b0), (.int .i64 d1)], [] => some ((spec_l6Count_p F b0 d1).isSome, ⟨(.int .i64 ((spec_l6Count_p F b0 d1).getD default)), [], []⟩)
  | _, _ => none⟩
theorem spec_l6Count_fok : FunOK Try.prog 15 := funOK Try.func15 (by kernel_rfl) rfl
theorem spec_l6Count_meets (F : Nat) : Meets Try.prog 15 (spec_l6Count_ent F) := by
  refine meets_of_runS mixed ttok deep (spec_l6Count_tabok F) Try.func15 (body_some rfl) (spec_l6Count_lsok0 F) fun args mem hfit ret h => ?_
  clear hfit
  simp only [spec_l6Count_ent] at h
  split at h
  · rename_i b0 d1
    simp only [Option.some.injEq, Prod.mk.injEq] at h
    obtain ⟨hc, rfl⟩ := h
    exact ⟨[], [], 70, _, (spec_l6Count_run F b0 d1).trans ((spec_l6Count_cp _ F b0 d1 _).trans (bind_use hc _)), rfl, rfl, rfl⟩
  · cases h

/-! loop.example/g01194/spec.l6Merged -/
noncomputable def spec_l6Merged_tab (F : Nat) : Tab := []
theorem spec_l6Merged_tabok (F : Nat) : TabOK Try.prog (spec_l6Merged_tab F) := tab_nil
noncomputable def spec_l6Merged_LS0 (F : Nat) : LT := []
theorem spec_l6Merged_lsok0 (F : Nat) : LoopsOK Try.prog (spec_l6Merged_LS0 F) (bodyOf Try.f24) := loopsOK_nil
theorem spec_l6Merged_keys : keysOK (bodyOf Try.f24) = true := by kernel_rfl
def spec_l6Merged_st3 (row12 : List Int) (n9 : Int) (last10 : Int) (k11 : Int) (out14 : List Bool) : St := ⟨expand 47 0 [1, 2, 3, 4, 5, 6] [(.ptr 0 0 0 4), (.ptr 1 0 0 4), (.ptr 2 0 0 4), (.int .i64 n9), (.int .i64 last10), (.int .i64 k11)], [(.var 4 (.ri .i64 row12)), (.var 4 (.rb [false, false, false, false])), (.var 4 (.rb out14))], 0, []⟩
def spec_l6Merged_o3 (row12 : List Int) (x : List Bool) : GT := (.out (.exit 0 ⟨expand 47 0 [2, 3] [(.ptr 0 0 0 4), (.ptr 1 0 0 4)], [(.var 4 (.rb [false, false, false, false])), (.var 4 (.rb x))], 0, []⟩))
def spec_l6Merged_ls3 (F : Nat) : LoopS := ⟨47, [1, 2, 3, 4, 5, 6], [], [2, 3], [], [2], [], [], fun vals mem np killed => match vals, mem, np, killed with
  | [(.ptr 0 0 0 4), (.ptr 1 0 0 4), (.ptr 2 0 0 4), (.int .i64 n9), (.int .i64 last10), (.int .i64 k11)], [(.var 4 (.ri .i64 row12)), (.var 4 (.rb q_t213)), (.var 4 (.rb out14))], 0, [] => .br ((q_t213 == ([false, false, false, false] : List Bool)) && (spec_l6Merged_l3 F row12 n9 last10 k11 out14).isSome) (spec_l6Merged_o3 row12 ((spec_l6Merged_l3 F row12 n9 last10 k11 out14).getD default)) .fail
  | _, _, _, _ => .fail⟩
theorem spec_l6Merged_step3 (F : Nat) (row12 : List Int) (n9 : Int) (last10 : Int) (k11 : Int) (out14 : List Bool) {R : Type} (k : Out → Option R) : stepS tt (spec_l6Merged_tab F) (spec_l6Merged_LS0 F) 70 (spec_l6Merged_ls3 F) (loopAt 3 (bodyOf Try.f24)) (spec_l6Merged_st3 row12 n9 last10 k11 out14) k = spec_l6Merged_s3 F row12 R (n9, last10, k11, out14) (fun s => k (.norm (spec_l6Merged_st3 row12 s.1 s.2.1 s.2.2.1 s.2.2.2))) (fun x => (spec_l6Merged_o3 row12 x).run k) := by kernel_rfl
theorem spec_l6Merged_iter3 (F : Nat) (row12 : List Int) {R : Type} (k : Out → Option R) : ∀ (n : Nat) (n9 : Int) (last10 : Int) (k11 : Int) (out14 : List Bool), iterS tt (spec_l6Merged_tab F) (spec_l6Merged_LS0 F) 70 (spec_l6Merged_ls3 F) (loopAt 3 (bodyOf Try.f24)) n (spec_l6Merged_st3 row12 n9 last10 k11 out14) k = loopC (spec_l6Merged_s3 F row12) n (n9, last10, k11, out14) (fun x => (spec_l6Merged_o3 row12 x).run k)
  | 0, n9, last10, k11, out14 => rfl
  | n + 1, n9, last10, k11, out14 => (iterS_succ tt (spec_l6Merged_tab F) (spec_l6Merged_LS0 F) 70 (spec_l6Merged_ls3 F) (loopAt 3 (bodyOf Try.f24)) n (spec_l6Merged_st3 row12 n9 last10 k11 out14) k).trans ((spec_l6Merged_step3 F row12 n9 last10 k11 out14 (nextK (iterS tt (spec_l6Merged_tab F) (spec_l6Merged_LS0 F) 70 (spec_l6Merged_ls3 F) (loopAt 3 (bodyOf Try.f24)) n) k)).trans (congrArg (fun kn => spec_l6Merged_s3 F row12 R (n9, last10, k11, out14) kn _) (funext (fun ⟨n9, last10, k11, out14⟩ => spec_l6Merged_iter3 F row12 k n n9 last10 k11 out14))))
theorem spec_l6Merged_lok3 (F : Nat) : LoopOK Try.prog (loopAt 3 (bodyOf Try.f24)) (spec_l6Merged_ls3 F) := by
  refine loopOK_of mixed ttok deep (spec_l6Merged_tabok F) (loopsOK_at (spec_l6Merged_lsok0 F) 3) (fuel := 70) fun R vals mem np killed k x h => ?_
  simp only [spec_l6Merged_ls3] at h
  split at h
  · rename_i n9 last10 k11 row12 q_t213 out14
    simp only [GT.run] at h
    have hc := (cond_noneL h).1
    replace h := (cond_noneL h).2
    have hg := (and_split hc).1
    replace hc := (and_split hc).2
    obtain rfl := beq_lb hg
    refine ⟨F, (spec_l6Merged_iter3 F row12 k F n9 last10 k11 out14).trans ((loopC_use (spec_l6Merged_s3_nat F row12) hc _).trans h)⟩
  · simp only [GT.run] at h
    cases h
noncomputable def spec_l6Merged_LS1 (F : Nat) : LT := (3, spec_l6Merged_ls3 F) :: spec_l6Merged_LS0 F
theorem spec_l6Merged_lsok1 (F : Nat) : LoopsOK Try.prog (spec_l6Merged_LS1 F) (bodyOf Try.f24) := loopsOK_cons spec_l6Merged_keys (spec_l6Merged_lok3 F) (spec_l6Merged_lsok0 F)
theorem spec_l6Merged_run (F : Nat) (row0 : List Int) : runS tt (spec_l6Merged_tab F) (spec_l6Merged_LS1 F) [] [] Try.f24 (bodyOf Try.f24) 70 [(.ints 4 row0)] [] = spec_l6Merged_c _ F row0 (fun r => some ⟨(.bools 4 r), [], []⟩) := by kernel_rfl
def spec_l6Merged_ent (F : Nat) : Ent := ⟨[], .quiet, fun args mem => match args, mem with
  | [(.ints 4 row0)], [] => some ((spec_l6Merged_p F row0).isSome, ⟨(.bools 4 ((spec_l6Merged_p F row0).getD default)), [], []⟩)
  | _, _ => none⟩
theorem spec_l6Merged_fok : FunOK Try.prog 24 := funOK Try.func24 (by kernel_rfl) rfl
theorem spec_l6Merged_meets (F : Nat) : Meets Try.prog 24 (spec_l6Merged_ent F) := by
  refine meets_of_runS mixed ttok deep (spec_l6Merged_tabok F) Try.func24 (body_some rfl) (spec_l6Merged_lsok1 F) fun args mem hfit ret h => ?_
  clear hfit
  simp only [spec_l6Merged_ent] at h
  split at h
  · rename_i row0
    simp only [Option.some.injEq, Prod.mk.injEq] at h
    obtain ⟨hc, rfl⟩ := h
    exact ⟨[], [], 70, _, (spec_l6Merged_run F row0).trans ((spec_l6Merged_cp _ F row0 _).trans (bind_use hc _)), rfl, rfl, rfl⟩
  · cases h

/-! loop.example/g01194/spec.l6Mergers -/
noncomputable def spec_l6Mergers_tab (F : Nat) : Tab := [(21, (spec_l6Lists_ent F)), (22, (spec_l6Still_ent F)), (23, (spec_l2Line_ent F)), (24, (spec_l6Merged_ent F))]
theorem spec_l6Mergers_tabok (F : Nat) : TabOK Try.prog (spec_l6Mergers_tab F) := (tab_cons (spec_l6Lists_meets F) spec_l6Lists_fok (tab_cons (spec_l6Still_meets F) spec_l6Still_fok (tab_cons (spec_l2Line_meets F) spec_l2Line_fok (tab_cons (spec_l6Merged_meets F) spec_l6Merged_fok tab_nil))))
noncomputable def spec_l6Mergers_LS0 (F : Nat) : LT := []
theorem spec_l6Mergers_lsok0 (F : Nat) : LoopsOK Try.prog (spec_l6Mergers_LS0 F) (bodyOf Try.f16) := loopsOK_nil
theorem spec_l6Mergers_keys : keysOK (bodyOf Try.f16) = true := by kernel_rfl
def spec_l6Mergers_st12 (d0 : Int) (some1 : Bool) (still5 : Bool) (i9 : Int) (k13 : Int) (lists16 : List (List Int)) (lists17 : List (List Int)) (lists18 : List (List Int)) (lists19 : List (List Int)) (marks20 : List Int) (line21 : List Int) (yes14 : Int) (n15 : Int) : St := ⟨expand 108 0 [1, 2, 7, 8, 9, 10, 11, 12, 13, 14] [(.int .i64 d0), (.bool some1), (.ptr 0 0 0 4), (.bool still5), (.ptr 1 0 0 16), (.int .i64 i9), (.ptr 2 0 0 8), (.int .i64 k13), (.int .i64 yes14), (.int .i64 n15)], [(.var 4 (.rv [(.rr 4 lists16), (.rr 4 lists17), (.rr 4 lists18), (.rr 4 lists19)])), (.var 16 (.ri .i64 marks20)), (.var 8 (.ri .i64 line21))], 0, []⟩
def spec_l6Mergers_o12 (d0 : Int) (some1 : Bool) (still5 : Bool) (i9 : Int) (k13 : Int) (lists16 : List (List Int)) (lists17 : List (List Int)) (lists18 : List (List Int)) (lists19 : List (List Int)) (marks20 : List Int) (line21 : List Int) (x : Int) : GT := (.out (.exit 4 ⟨expand 108 0 [1, 2, 7, 8, 9, 10, 11, 12, 13] [(.int .i64 d0), (.bool some1), (.ptr 0 0 0 4), (.bool still5), (.ptr 1 0 0 16), (.int .i64 i9), (.ptr 2 0 0 8), (.int .i64 k13), (.int .i64 x)], [(.var 4 (.rv [(.rr 4 lists16), (.rr 4 lists17), (.rr 4 lists18), (.rr 4 lists19)])), (.var 16 (.ri .i64 marks20)), (.var 8 (.ri .i64 line21))], 0, []⟩))
def spec_l6Mergers_ls12 (F : Nat) : LoopS := ⟨108, [1, 2, 7, 8, 9, 10, 11, 12, 13, 14], [], [1, 2, 7, 8, 9, 10, 11, 12, 13], [], [6], [], [], fun vals mem np killed => match vals, mem, np, killed with
  | [(.int .i64 d0), (.bool some1), (.ptr 0 0 0 4), (.bool still5), (.ptr 1 0 0 16), (.int .i64 i9), (.ptr 2 0 0 8), (.int .i64 k13), (.int .i64 yes14), (.int .i64 n15)], [(.var 4 (.rv [(.rr 4 lists16), (.rr 4 lists17), (.rr 4 lists18), (.rr 4 lists19)])), (.var 16 (.ri .i64 marks20)), (.var 8 (.ri .i64 line21))], 0, [] => .br (spec_l6Mergers_l12 F d0 some1 still5 i9 k13 lists16 lists17 lists18 lists19 marks20 line21 yes14 n15).isSome (spec_l6Mergers_o12 d0 some1 still5 i9 k13 lists16 lists17 lists18 lists19 marks20 line21 ((spec_l6Mergers_l12 F d0 some1 still5 i9 k13 lists16 lists17 lists18 lists19 marks20 line21 yes14 n15).getD default)) .fail
  | _, _, _, _ => .fail⟩
theorem spec_l6Mergers_step12 (F : Nat) (d0 : Int) (some1 : Bool) (still5 : Bool) (i9 : Int) (k13 : Int) (lists16 : List (List Int)) (lists17 : List (List Int)) (lists18 : List (List Int)) (lists19 : List (List Int)) (marks20 : List Int) (line21 : List Int) (yes14 : Int) (n15 : Int) {R : Type} (k : Out → Option R) : stepS tt (spec_l6Mergers_tab F) (spec_l6Mergers_LS0 F) 70 (spec_l6Mergers_ls12 F) (loopAt 12 (bodyOf Try.f16)) (spec_l6Mergers_st12 d0 some1 still5 i9 k13 lists16 lists17 lists18 lists19 marks20 line21 yes14 n15) k = spec_l6Mergers_s12 F d0 some1 still5 i9 k13 lists16 lists17 lists18 lists19 marks20 line21 R (yes14, n15) (fun s => k (.norm (spec_l6Mergers_st12 d0 some1 still5 i9 k13 lists16 lists17 lists18 lists19 marks20 line21 s.1 s.2))) (fun x => (spec_l6Mergers_o12 d0 some1 still5 i9 k13 lists16 lists17 lists18 lists19 marks20 line21 x).run k) := by kernel_rfl
theorem spec_l6Mergers_iter12 (F : Nat) (d0 : Int) (some1 : Bool) (still5 : Bool) (i9 : Int) (k13 : Int) (lists16 : List (List Int)) (lists17 : List (List Int)) (lists18 : List (List Int)) (lists19 : List (List Int)) (marks20 : List Int) (line21 : List Int) {R : Type} (k : Out → Option R) : ∀ (n : Nat) (yes14 : Int) (n15 : Int), iterS tt (spec_l6Mergers_tab F) (spec_l6Mergers_LS0 F) 70 (spec_l6Mergers_ls12 F) (loopAt 12 (bodyOf Try.f16)) n (spec_l6Mergers_st12 d0 some1 still5 i9 k13 lists16 lists17 lists18 lists19 marks20 line21 yes14 n15) k = loopC (spec_l6Mergers_s12 F d0 some1 still5 i9 k13 lists16 lists17 lists18 lists19 marks20 line21) n (yes14, n15) (fun x => (spec_l6Mergers_o12 d0 some1 still5 i9 k13 lists16 lists17 lists18 lists19 marks20 line21 x).run k)
  | 0, yes14, n15 => rfl
  | n + 1, yes14, n15 => (iterS_succ tt (spec_l6Mergers_tab F) (spec_l6Mergers_LS0 F) 70 (spec_l6Mergers_ls12 F) (loopAt 12 (bodyOf Try.f16)) n (spec_l6Mergers_st12 d0 some1 still5 i9 k13 lists16 lists17 lists18 lists19 marks20 line21 yes14 n15) k).trans ((spec_l6Mergers_step12 F d0 some1 still5 i9 k13 lists16 lists17 lists18 lists19 marks20 line21 yes14 n15 (nextK (iterS tt (spec_l6Mergers_tab F) (spec_l6Mergers_LS0 F) 70 (spec_l6Mergers_ls12 F) (loopAt 12 (bodyOf Try.f16)) n) k)).trans (congrArg (fun kn => spec_l6Mergers_s12 F d0 some1 still5 i9 k13 lists16 lists17 lists18 lists19 marks20 line21 R (yes14, n15) kn _) (funext (fun ⟨yes14, n15⟩ => spec_l6Mergers_iter12 F d0 some1 still5 i9 k13 lists16 lists17 lists18 lists19 marks20 line21 k n yes14 n15))))
theorem spec_l6Mergers_lok12 (F : Nat) : LoopOK Try.prog (loopAt 12 (bodyOf Try.f16)) (spec_l6Mergers_ls12 F) := by
  refine loopOK_of mixed ttok deep (spec_l6Mergers_tabok F) (loopsOK_at (spec_l6Mergers_lsok0 F) 12) (fuel := 70) fun R vals mem np killed k x h => ?_
  simp only [spec_l6Mergers_ls12] at h
  split at h
  · rename_i d0 some1 still5 i9 k13 yes14 n15 lists16 lists17 lists18 lists19 marks20 line21
    simp only [GT.run] at h
    have hc := (cond_noneL h).1
    replace h := (cond_noneL h).2
    refine ⟨F, (spec_l6Mergers_iter12 F d0 some1 still5 i9 k13 lists16 lists17 lists18 lists19 marks20 line21 k F yes14 n15).trans ((loopC_use (spec_l6Mergers_s12_nat F d0 some1 still5 i9 k13 lists16 lists17 lists18 lists19 marks20 line21) hc _).trans h)⟩
  · simp only [GT.run] at h
    cases h
noncomputable def spec_l6Mergers_LS1 (F : Nat) : LT := (12, spec_l6Mergers_ls12 F) :: spec_l6Mergers_LS0 F
theorem spec_l6Mergers_lsok1 (F : Nat) : LoopsOK Try.prog (spec_l6Mergers_LS1 F) (bodyOf Try.f16) := loopsOK_cons spec_l6Mergers_keys (spec_l6Mergers_lok12 F) (spec_l6Mergers_lsok0 F)
def spec_l6Mergers_st8 (d0 : Int) (some1 : Bool) (still5 : Bool) (i9 : Int) (lists14 : List (List Int)) (lists15 : List (List Int)) (lists16 : List (List Int)) (lists17 : List (List Int)) (line19 : List Int) (k13 : Int) (marks18 : List Int) : St := ⟨expand 108 0 [1, 2, 7, 8, 9, 10, 11, 12] [(.int .i64 d0), (.bool some1), (.ptr 0 0 0 4), (.bool still5), (.ptr 1 0 0 16), (.int .i64 i9), (.ptr 2 0 0 8), (.int .i64 k13)], [(.var 4 (.rv [(.rr 4 lists14), (.rr 4 lists15), (.rr 4 lists16), (.rr 4 lists17)])), (.var 16 (.ri .i64 marks18)), (.var 8 (.ri .i64 line19))], 0, []⟩
def spec_l6Mergers_o8 (d0 : Int) (some1 : Bool) (still5 : Bool) (i9 : Int) (lists14 : List (List Int)) (lists15 : List (List Int)) (lists16 : List (List Int)) (lists17 : List (List Int)) (line19 : List Int) (x : List Int) : GT := (.out (.exit 2 ⟨expand 108 0 [1, 2, 7, 8, 9, 10] [(.int .i64 d0), (.bool some1), (.ptr 0 0 0 4), (.bool still5), (.ptr 1 0 0 16), (.int .i64 i9)], [(.var 4 (.rv [(.rr 4 lists14), (.rr 4 lists15), (.rr 4 lists16), (.rr 4 lists17)])), (.var 16 (.ri .i64 x))], 0, []⟩))
def spec_l6Mergers_ls8 (F : Nat) : LoopS := ⟨108, [1, 2, 7, 8, 9, 10, 11, 12], [], [1, 2, 7, 8, 9, 10], [], [6], [], [], fun vals mem np killed => match vals, mem, np, killed with
  | [(.int .i64 d0), (.bool some1), (.ptr 0 0 0 4), (.bool still5), (.ptr 1 0 0 16), (.int .i64 i9), (.ptr 2 0 0 8), (.int .i64 k13)], [(.var 4 (.rv [(.rr 4 lists14), (.rr 4 lists15), (.rr 4 lists16), (.rr 4 lists17)])), (.var 16 (.ri .i64 marks18)), (.var 8 (.ri .i64 line19))], 0, [] => .br (spec_l6Mergers_l8 F d0 some1 still5 i9 lists14 lists15 lists16 lists17 line19 k13 marks18).isSome (spec_l6Mergers_o8 d0 some1 still5 i9 lists14 lists15 lists16 lists17 line19 ((spec_l6Mergers_l8 F d0 some1 still5 i9 lists14 lists15 lists16 lists17 line19 k13 marks18).getD default)) .fail
  | _, _, _, _ => .fail⟩
theorem spec_l6Mergers_step8 (F : Nat) (d0 : Int) (some1 : Bool) (still5 : Bool) (i9 : Int) (lists14 : List (List Int)) (lists15 : List (List Int)) (lists16 : List (List Int)) (lists17 : List (List Int)) (line19 : List Int) (k13 : Int) (marks18 : List Int) {R : Type} (k : Out → Option R) : stepS tt (spec_l6Mergers_tab F) (spec_l6Mergers_LS1 F) 70 (spec_l6Mergers_ls8 F) (loopAt 8 (bodyOf Try.f16)) (spec_l6Mergers_st8 d0 some1 still5 i9 lists14 lists15 lists16 lists17 line19 k13 marks18) k = spec_l6Mergers_s8 F d0 some1 still5 i9 lists14 lists15 lists16 lists17 line19 R (k13, marks18) (fun s => k (.norm (spec_l6Mergers_st8 d0 some1 still5 i9 lists14 lists15 lists16 lists17 line19 s.1 s.2))) (fun x => (spec_l6Mergers_o8 d0 some1 still5 i9 lists14 lists15 lists16 lists17 line19 x).run k) := by kernel_rfl
theorem spec_l6Mergers_iter8 (F : Nat) (d0 : Int) (some1 : Bool) (still5 : Bool) (i9 : Int) (lists14 : List (List Int)) (lists15 : List (List Int)) (lists16 : List (List Int)) (lists17 : List (List Int)) (line19 : List Int) {R : Type} (k : Out → Option R) : ∀ (n : Nat) (k13 : Int) (marks18 : List Int), iterS tt (spec_l6Mergers_tab F) (spec_l6Mergers_LS1 F) 70 (spec_l6Mergers_ls8 F) (loopAt 8 (bodyOf Try.f16)) n (spec_l6Mergers_st8 d0 some1 still5 i9 lists14 lists15 lists16 lists17 line19 k13 marks18) k = loopC (spec_l6Mergers_s8 F d0 some1 still5 i9 lists14 lists15 lists16 lists17 line19) n (k13, marks18) (fun x => (spec_l6Mergers_o8 d0 some1 still5 i9 lists14 lists15 lists16 lists17 line19 x).run k)
  | 0, k13, marks18 => rfl
  | n + 1, k13, marks18 => (iterS_succ tt (spec_l6Mergers_tab F) (spec_l6Mergers_LS1 F) 70 (spec_l6Mergers_ls8 F) (loopAt 8 (bodyOf Try.f16)) n (spec_l6Mergers_st8 d0 some1 still5 i9 lists14 lists15 lists16 lists17 line19 k13 marks18) k).trans ((spec_l6Mergers_step8 F d0 some1 still5 i9 lists14 lists15 lists16 lists17 line19 k13 marks18 (nextK (iterS tt (spec_l6Mergers_tab F) (spec_l6Mergers_LS1 F) 70 (spec_l6Mergers_ls8 F) (loopAt 8 (bodyOf Try.f16)) n) k)).trans (congrArg (fun kn => spec_l6Mergers_s8 F d0 some1 still5 i9 lists14 lists15 lists16 lists17 line19 R (k13, marks18) kn _) (funext (fun ⟨k13, marks18⟩ => spec_l6Mergers_iter8 F d0 some1 still5 i9 lists14 lists15 lists16 lists17 line19 k n k13 marks18))))
theorem spec_l6Mergers_lok8 (F : Nat) : LoopOK Try.prog (loopAt 8 (bodyOf Try.f16)) (spec_l6Mergers_ls8 F) := by
  refine loopOK_of mixed ttok deep (spec_l6Mergers_tabok F) (loopsOK_at (spec_l6Mergers_lsok1 F) 8) (fuel := 70) fun R vals mem np killed k x h => ?_
  simp only [spec_l6Mergers_ls8] at h
  split at h
  · rename_i d0 some1 still5 i9 k13 lists14 lists15 lists16 lists17 marks18 line19
    simp only [GT.run] at h
    have hc := (cond_noneL h).1
    replace h := (cond_noneL h).2
    refine ⟨F, (spec_l6Mergers_iter8 F d0 some1 still5 i9 lists14 lists15 lists16 lists17 line19 k F k13 marks18).trans ((loopC_use (spec_l6Mergers_s8_nat F d0 some1 still5 i9 lists14 lists15 lists16 lists17 line19) hc _).trans h)⟩
  · simp only [GT.run] at h
    cases h
noncomputable def spec_l6Mergers_LS2 (F : Nat) : LT := (8, spec_l6Mergers_ls8 F) :: spec_l6Mergers_LS1 F
theorem spec_l6Mergers_lsok2 (F : Nat) : LoopsOK Try.prog (spec_l6Mergers_LS2 F) (bodyOf Try.f16) := loopsOK_cons spec_l6Mergers_keys (spec_l6Mergers_lok8 F) (spec_l6Mergers_lsok1 F)
def spec_l6Mergers_st4 (d0 : Int) (some1 : Bool) (still5 : Bool) (lists10 : List (List Int)) (lists11 : List (List Int)) (lists12 : List (List Int)) (lists13 : List (List Int)) (i9 : Int) (marks14 : List Int) : St := ⟨expand 108 0 [1, 2, 7, 8, 9, 10] [(.int .i64 d0), (.bool some1), (.ptr 0 0 0 4), (.bool still5), (.ptr 1 0 0 16), (.int .i64 i9)], [(.var 4 (.rv [(.rr 4 lists10), (.rr 4 lists11), (.rr 4 lists12), (.rr 4 lists13)])), (.var 16 (.ri .i64 marks14))], 0, []⟩
def spec_l6Mergers_o4 (d0 : Int) (some1 : Bool) (still5 : Bool) (lists10 : List (List Int)) (lists11 : List (List Int)) (lists12 : List (List Int)) (lists13 : List (List Int)) (x : List Int) : GT := (.out (.exit 0 ⟨expand 108 0 [9] [(.ptr 0 0 0 16)], [(.var 16 (.ri .i64 x))], 0, []⟩))
def spec_l6Mergers_ls4 (F : Nat) : LoopS := ⟨108, [1, 2, 7, 8, 9, 10], [], [9], [], [6], [], [], fun vals mem np killed => match vals, mem, np, killed with
  | [(.int .i64 d0), (.bool some1), (.ptr 0 0 0 4), (.bool still5), (.ptr 1 0 0 16), (.int .i64 i9)], [(.var 4 (.rv [(.rr 4 lists10), (.rr 4 lists11), (.rr 4 lists12), (.rr 4 lists13)])), (.var 16 (.ri .i64 marks14))], 0, [] => .br (spec_l6Mergers_l4 F d0 some1 still5 lists10 lists11 lists12 lists13 i9 marks14).isSome (spec_l6Mergers_o4 d0 some1 still5 lists10 lists11 lists12 lists13 ((spec_l6Mergers_l4 F d0 some1 still5 lists10 lists11 lists12 lists13 i9 marks14).getD default)) .fail
  | _, _, _, _ => .fail⟩
theorem spec_l6Mergers_step4 (F : Nat) (d0 : Int) (some1 : Bool) (still5 : Bool) (lists10 : List (List Int)) (lists11 : List (List Int)) (lists12 : List (List Int)) (lists13 : List (List Int)) (i9 : Int) (marks14 : List Int) {R : Type} (k : Out → Option R) : stepS tt (spec_l6Mergers_tab F) (spec_l6Mergers_LS2 F) 70 (spec_l6Mergers_ls4 F) (loopAt 4 (bodyOf Try.f16)) (spec_l6Mergers_st4 d0 some1 still5 lists10 lists11 lists12 lists13 i9 marks14) k = spec_l6Mergers_s4 F d0 some1 still5 lists10 lists11 lists12 lists13 R (i9, marks14) (fun s => k (.norm (spec_l6Mergers_st4 d0 some1 still5 lists10 lists11 lists12 lists13 s.1 s.2))) (fun x => (spec_l6Mergers_o4 d0 some1 still5 lists10 lists11 lists12 lists13 x).run k) := by kernel_rfl
theorem spec_l6Mergers_iter4 (F : Nat) (d0 : Int) (some1 : Bool) (still5 : Bool) (lists10 : List (List Int)) (lists11 : List (List Int)) (lists12 : List (List Int)) (lists13 : List (List Int)) {R : Type} (k : Out → Option R) : ∀ (n : Nat) (i9 : Int) (marks14 : List Int), iterS tt (spec_l6Mergers_tab F) (spec_l6Mergers_LS2 F) 70 (spec_l6Mergers_ls4 F) (loopAt 4 (bodyOf Try.f16)) n (spec_l6Mergers_st4 d0 some1 still5 lists10 lists11 lists12 lists13 i9 marks14) k = loopC (spec_l6Mergers_s4 F d0 some1 still5 lists10 lists11 lists12 lists13) n (i9, marks14) (fun x => (spec_l6Mergers_o4 d0 some1 still5 lists10 lists11 lists12 lists13 x).run k)
  | 0, i9, marks14 => rfl
  | n + 1, i9, marks14 => (iterS_succ tt (spec_l6Mergers_tab F) (spec_l6Mergers_LS2 F) 70 (spec_l6Mergers_ls4 F) (loopAt 4 (bodyOf Try.f16)) n (spec_l6Mergers_st4 d0 some1 still5 lists10 lists11 lists12 lists13 i9 marks14) k).trans ((spec_l6Mergers_step4 F d0 some1 still5 lists10 lists11 lists12 lists13 i9 marks14 (nextK (iterS tt (spec_l6Mergers_tab F) (spec_l6Mergers_LS2 F) 70 (spec_l6Mergers_ls4 F) (loopAt 4 (bodyOf Try.f16)) n) k)).trans (congrArg (fun kn => spec_l6Mergers_s4 F d0 some1 still5 lists10 lists11 lists12 lists13 R (i9, marks14) kn _) (funext (fun ⟨i9, marks14⟩ => spec_l6Mergers_iter4 F d0 some1 still5 lists10 lists11 lists12 lists13 k n i9 marks14))))
theorem spec_l6Mergers_lok4 (F : Nat) : LoopOK Try.prog (loopAt 4 (bodyOf Try.f16)) (spec_l6Mergers_ls4 F) := by
  refine loopOK_of mixed ttok deep (spec_l6Mergers_tabok F) (loopsOK_at (spec_l6Mergers_lsok2 F) 4) (fuel := 70) fun R vals mem np killed k x h => ?_
  simp only [spec_l6Mergers_ls4] at h
  split at h
  · rename_i d0 some1 still5 i9 lists10 lists11 lists12 lists13 marks14
    simp only [GT.run] at h
    have hc := (cond_noneL h).1
    replace h := (cond_noneL h).2
    refine ⟨F, (spec_l6Mergers_iter4 F d0 some1 still5 lists10 lists11 lists12 lists13 k F i9 marks14).trans ((loopC_use (spec_l6Mergers_s4_nat F d0 some1 still5 lists10 lists11 lists12 lists13) hc _).trans h)⟩
  · simp only [GT.run] at h
    cases h
noncomputable def spec_l6Mergers_LS3 (F : Nat) : LT := (4, spec_l6Mergers_ls4 F) :: spec_l6Mergers_LS2 F
theorem spec_l6Mergers_lsok3 (F : Nat) : LoopsOK Try.prog (spec_l6Mergers_LS3 F) (bodyOf Try.f16) := loopsOK_cons spec_l6Mergers_keys (spec_l6Mergers_lok4 F) (spec_l6Mergers_lsok2 F)
def spec_l6Mergers_st23 (r5 : Int) (marks7 : List Int) (c6 : Int) (out8 : List (List Int)) : St := ⟨expand 108 0 [9, 15, 16, 17] [(.ptr 0 0 0 16), (.sl 1 0 (List.length out8)), (.int .i64 r5), (.int .i64 c6)], [(.var 16 (.ri .i64 marks7)), (.vec 41 (.rr 2 out8))], 0, []⟩
def spec_l6Mergers_o23 (r5 : Int) (marks7 : List Int) (x : List (List Int)) : GT := (.out (.exit 8 ⟨expand 108 0 [9, 15, 16] [(.ptr 0 0 0 16), (.sl 1 0 (List.length x)), (.int .i64 r5)], [(.var 16 (.ri .i64 marks7)), (.vec 41 (.rr 2 x))], 0, []⟩))
def spec_l6Mergers_ls23 (F : Nat) : LoopS := ⟨108, [9, 15, 16, 17], [], [9, 15, 16], [], [6], [], [], fun vals mem np killed => match vals, mem, np, killed with
  | [(.ptr 0 0 0 16), (.sl 1 0 q_out4), (.int .i64 r5), (.int .i64 c6)], [(.var 16 (.ri .i64 marks7)), (.vec 41 (.rr 2 out8))], 0, [] => .br ((Nat.beq q_out4 (List.length out8)) && (spec_l6Mergers_l23 F r5 marks7 c6 out8).isSome) (spec_l6Mergers_o23 r5 marks7 ((spec_l6Mergers_l23 F r5 marks7 c6 out8).getD default)) .fail
  | _, _, _, _ => .fail⟩
theorem spec_l6Mergers_step23 (F : Nat) (r5 : Int) (marks7 : List Int) (c6 : Int) (out8 : List (List Int)) {R : Type} (k : Out → Option R) : stepS tt (spec_l6Mergers_tab F) (spec_l6Mergers_LS3 F) 70 (spec_l6Mergers_ls23 F) (loopAt 23 (bodyOf Try.f16)) (spec_l6Mergers_st23 r5 marks7 c6 out8) k = spec_l6Mergers_s23 F r5 marks7 R (c6, out8) (fun s => k (.norm (spec_l6Mergers_st23 r5 marks7 s.1 s.2))) (fun x => (spec_l6Mergers_o23 r5 marks7 x).run k) := by kernel_rfl
theorem spec_l6Mergers_iter23 (F : Nat) (r5 : Int) (marks7 : List Int) {R : Type} (k : Out → Option R) : ∀ (n : Nat) (c6 : Int) (out8 : List (List Int)), iterS tt (spec_l6Mergers_tab F) (spec_l6Mergers_LS3 F) 70 (spec_l6Mergers_ls23 F) (loopAt 23 (bodyOf Try.f16)) n (spec_l6Mergers_st23 r5 marks7 c6 out8) k = loopC (spec_l6Mergers_s23 F r5 marks7) n (c6, out8) (fun x => (spec_l6Mergers_o23 r5 marks7 x).run k)
  | 0, c6, out8 => rfl
  | n + 1, c6, out8 => (iterS_succ tt (spec_l6Mergers_tab F) (spec_l6Mergers_LS3 F) 70 (spec_l6Mergers_ls23 F) (loopAt 23 (bodyOf Try.f16)) n (spec_l6Mergers_st23 r5 marks7 c6 out8) k).trans ((spec_l6Mergers_step23 F r5 marks7 c6 out8 (nextK (iterS tt (spec_l6Mergers_tab F) (spec_l6Mergers_LS3 F) 70 (spec_l6Mergers_ls23 F) (loopAt 23 (bodyOf Try.f16)) n) k)).trans (congrArg (fun kn => spec_l6Mergers_s23 F r5 marks7 R (c6, out8) kn _) (funext (fun ⟨c6, out8⟩ => spec_l6Mergers_iter23 F r5 marks7 k n c6 out8))))
theorem spec_l6Mergers_lok23 (F : Nat) : LoopOK Try.prog (loopAt 23 (bodyOf Try.f16)) (spec_l6Mergers_ls23 F) := by
  refine loopOK_of mixed ttok deep (spec_l6Mergers_tabok F) (loopsOK_at (spec_l6Mergers_lsok3 F) 23) (fuel := 70) fun R vals mem np killed k x h => ?_
  simp only [spec_l6Mergers_ls23] at h
  split at h
  · rename_i q_out4 r5 c6 marks7 out8
    simp only [GT.run] at h
    have hc := (cond_noneL h).1
    replace h := (cond_noneL h).2
    have hg := (and_split hc).1
    replace hc := (and_split hc).2
    obtain rfl := nbeq_nat hg
    refine ⟨F, (spec_l6Mergers_iter23 F r5 marks7 k F c6 out8).trans ((loopC_use (spec_l6Mergers_s23_nat F r5 marks7) hc _).trans h)⟩
  · simp only [GT.run] at h
    cases h
noncomputable def spec_l6Mergers_LS4 (F : Nat) : LT := (23, spec_l6Mergers_ls23 F) :: spec_l6Mergers_LS3 F
theorem spec_l6Mergers_lsok4 (F : Nat) : LoopsOK Try.prog (spec_l6Mergers_LS4 F) (bodyOf Try.f16) := loopsOK_cons spec_l6Mergers_keys (spec_l6Mergers_lok23 F) (spec_l6Mergers_lsok3 F)
def spec_l6Mergers_st20 (marks6 : List Int) (r5 : Int) (out7 : List (List Int)) : St := ⟨expand 108 0 [9, 15, 16] [(.ptr 0 0 0 16), (.sl 1 0 (List.length out7)), (.int .i64 r5)], [(.var 16 (.ri .i64 marks6)), (.vec 41 (.rr 2 out7))], 0, []⟩
def spec_l6Mergers_o20 (marks6 : List Int) (x : List (List Int)) : GT := (.out (.exit 6 ⟨expand 108 0 [15] [(.sl 0 0 (List.length x))], [(.vec 41 (.rr 2 x))], 0, []⟩))
def spec_l6Mergers_ls20 (F : Nat) : LoopS := ⟨108, [9, 15, 16], [], [15], [], [6], [], [], fun vals mem np killed => match vals, mem, np, killed with
  | [(.ptr 0 0 0 16), (.sl 1 0 q_out4), (.int .i64 r5)], [(.var 16 (.ri .i64 marks6)), (.vec 41 (.rr 2 out7))], 0, [] => .br ((Nat.beq q_out4 (List.length out7)) && (spec_l6Mergers_l20 F marks6 r5 out7).isSome) (spec_l6Mergers_o20 marks6 ((spec_l6Mergers_l20 F marks6 r5 out7).getD default)) .fail
  | _, _, _, _ => .fail⟩
theorem spec_l6Mergers_step20 (F : Nat) (marks6 : List Int) (r5 : Int) (out7 : List (List Int)) {R : Type} (k : Out → Option R) : stepS tt (spec_l6Mergers_tab F) (spec_l6Mergers_LS4 F) 70 (spec_l6Mergers_ls20 F) (loopAt 20 (bodyOf Try.f16)) (spec_l6Mergers_st20 marks6 r5 out7) k = spec_l6Mergers_s20 F marks6 R (r5, out7) (fun s => k (.norm (spec_l6Mergers_st20 marks6 s.1 s.2))) (fun x => (spec_l6Mergers_o20 marks6 x).run k) := by kernel_rfl
theorem spec_l6Mergers_iter20 (F : Nat) (marks6 : List Int) {R : Type} (k : Out → Option R) : ∀ (n : Nat) (r5 : Int) (out7 : List (List Int)), iterS tt (spec_l6Mergers_tab F) (spec_l6Mergers_LS4 F) 70 (spec_l6Mergers_ls20 F) (loopAt 20 (bodyOf Try.f16)) n (spec_l6Mergers_st20 marks6 r5 out7) k = loopC (spec_l6Mergers_s20 F marks6) n (r5, out7) (fun x => (spec_l6Mergers_o20 marks6 x).run k)
  | 0, r5, out7 => rfl
  | n + 1, r5, out7 => (iterS_succ tt (spec_l6Mergers_tab F) (spec_l6Mergers_LS4 F) 70 (spec_l6Mergers_ls20 F) (loopAt 20 (bodyOf Try.f16)) n (spec_l6Mergers_st20 marks6 r5 out7) k).trans ((spec_l6Mergers_step20 F marks6 r5 out7 (nextK (iterS tt (spec_l6Mergers_tab F) (spec_l6Mergers_LS4 F) 70 (spec_l6Mergers_ls20 F) (loopAt 20 (bodyOf Try.f16)) n) k)).trans (congrArg (fun kn => spec_l6Mergers_s20 F marks6 R (r5, out7) kn _) (funext (fun ⟨r5, out7⟩ => spec_l6Mergers_iter20 F marks6 k n r5 out7))))
theorem spec_l6Mergers_lok20 (F : Nat) : LoopOK Try.prog (loopAt 20 (bodyOf Try.f16)) (spec_l6Mergers_ls20 F) := by
  refine loopOK_of mixed ttok deep (spec_l6Mergers_tabok F) (loopsOK_at (spec_l6Mergers_lsok4 F) 20) (fuel := 70) fun R vals mem np killed k x h => ?_
  simp only [spec_l6Mergers_ls20] at h
  split at h
  · rename_i q_out4 r5 marks6 out7
    simp only [GT.run] at h
    have hc := (cond_noneL h).1
    replace h := (cond_noneL h).2
    have hg := (and_split hc).1
    replace hc := (and_split hc).2
    obtain rfl := nbeq_nat hg
    refine ⟨F, (spec_l6Mergers_iter20 F marks6 k F r5 out7).trans ((loopC_use (spec_l6Mergers_s20_nat F marks6) hc _).trans h)⟩
  · simp only [GT.run] at h
    cases h
noncomputable def spec_l6Mergers_LS5 (F : Nat) : LT := (20, spec_l6Mergers_ls20 F) :: spec_l6Mergers_LS4 F
theorem spec_l6Mergers_lsok5 (F : Nat) : LoopsOK Try.prog (spec_l6Mergers_LS5 F) (bodyOf Try.f16) := loopsOK_cons spec_l6Mergers_keys (spec_l6Mergers_lok20 F) (spec_l6Mergers_lsok4 F)
theorem spec_l6Mergers_run (F : Nat) (b0 : List Int) (d1 : Int) (some2 : Bool) : runS tt (spec_l6Mergers_tab F) (spec_l6Mergers_LS5 F) [] [] Try.f16 (bodyOf Try.f16) 70 [(.ints 16 b0), (.int .i64 d1), (.bool some2)] [] = spec_l6Mergers_c _ F b0 d1 some2 (fun r => some ⟨(.sl 0 0 (List.length r)), [(.vec 41 (.rr 2 r))], []⟩) := by kernel_rfl
def spec_l6Mergers_ent (F : Nat) : Ent := ⟨[], .fresh, fun args mem => match args, mem with
  | [(.ints 16 b0), (.int .i64 d1), (.bool some2)], [] => some ((spec_l6Mergers_p F b0 d1 some2).isSome, ⟨(.sl 0 0 (List.length ((spec_l6Mergers_p F b0 d1 some2).getD default))), [(.vec 41 (.rr 2 ((spec_l6Mergers_p F b0 d1 some2).getD default)))], []⟩)
  | _, _ => none⟩
theorem spec_l6Mergers_fok : FunOK Try.prog 16 := funOK Try.func16 (by kernel_rfl) rfl
theorem spec_l6Mergers_meets (F : Nat) : Meets Try.prog 16 (spec_l6Mergers_ent F) := by
  refine meets_of_runS mixed ttok deep (spec_l6Mergers_tabok F) Try.func16 (body_some rfl) (spec_l6Mergers_lsok5 F) fun args mem hfit ret h => ?_
  clear hfit
  simp only [spec_l6Mergers_ent] at h
  split at h
  · rename_i b0 d1 some2
    simp only [Option.some.injEq, Prod.mk.injEq] at h
    obtain ⟨hc, rfl⟩ := h
    exact ⟨[], [], 70, _, (spec_l6Mergers_run F b0 d1 some2).trans ((spec_l6Mergers_cp _ F b0 d1 some2 _).trans (bind_use hc _)), rfl, rfl, rfl⟩
  · cases h

/-! loop.example/g01194/spec.CanMerge -/
noncomputable def spec_CanMerge_tab (F : Nat) : Tab := [(13, (spec_l2Board_ent F)), (14, (spec_l2Side_ent F)), (15, (spec_l6Count_ent F)), (16, (spec_l6Mergers_ent F))]
theorem spec_CanMerge_tabok (F : Nat) : TabOK Try.prog (spec_CanMerge_tab F) := (tab_cons (spec_l2Board_meets F) spec_l2Board_fok (tab_cons (spec_l2Side_meets F) spec_l2Side_fok (tab_cons (spec_l6Count_meets F) spec_l6Count_fok (tab_cons (spec_l6Mergers_meets F) spec_l6Mergers_fok tab_nil))))
noncomputable def spec_CanMerge_LS0 (F : Nat) : LT := []
theorem spec_CanMerge_lsok0 (F : Nat) : LoopsOK Try.prog (spec_CanMerge_LS0 F) (bodyOf Try.f5) := loopsOK_nil
theorem spec_CanMerge_run (F : Nat) (b0 : List Int) (direction1 : Int) : runS tt (spec_CanMerge_tab F) (spec_CanMerge_LS0 F) [] [] Try.f5 (bodyOf Try.f5) 70 [(.ints 16 b0), (.int .i64 direction1)] [] = spec_CanMerge_c _ F b0 direction1 (fun r => some ⟨(.tup [(.sl 0 0 (List.length r.2)), (.bool r.1)]), [(.vec 41 (.rr 2 r.2))], []⟩) := by kernel_rfl
def spec_CanMerge_ent (F : Nat) : Ent := ⟨[], .fresh, fun args mem => match args, mem with
  | [(.ints 16 b0), (.int .i64 direction1)], [] => some ((spec_CanMerge_p F b0 direction1).isSome, ⟨(.tup [(.sl 0 0 (List.length ((spec_CanMerge_p F b0 direction1).getD default).2)), (.bool ((spec_CanMerge_p F b0 direction1).getD default).1)]), [(.vec 41 (.rr 2 ((spec_CanMerge_p F b0 direction1).getD default).2))], []⟩)
  | _, _ => none⟩
theorem spec_CanMerge_fok : FunOK Try.prog 5 := funOK Try.func5 (by kernel_rfl) rfl
theorem spec_CanMerge_meets (F : Nat) : Meets Try.prog 5 (spec_CanMerge_ent F) := by
  refine meets_of_runS mixed ttok deep (spec_CanMerge_tabok F) Try.func5 (body_some rfl) (spec_CanMerge_lsok0 F) fun args mem hfit ret h => ?_
  clear hfit
  simp only [spec_CanMerge_ent] at h
  split at h
  · rename_i b0 direction1
    simp only [Option.some.injEq, Prod.mk.injEq] at h
    obtain ⟨hc, rfl⟩ := h
    exact ⟨[], [], 70, _, (spec_CanMerge_run F b0 direction1).trans ((spec_CanMerge_cp _ F b0 direction1 _).trans (bind_use hc _)), rfl, rfl, rfl⟩
  · cases h

/-! loop.example/g01194/impl.in -/
noncomputable def impl_in_tab (F : Nat) : Tab := []
theorem impl_in_tabok (F : Nat) : TabOK Try.prog (impl_in_tab F) := tab_nil
noncomputable def impl_in_LS0 (F : Nat) : LT := []
theorem impl_in_lsok0 (F : Nat) : LoopsOK Try.prog (impl_in_LS0 F) (bodyOf Try.f46) := loopsOK_nil
theorem impl_in_run (F : Nat) (n0 : Int) (low1 : Int) (high2 : Int) : runS tt (impl_in_tab F) (impl_in_LS0 F) [] [] Try.f46 (bodyOf Try.f46) 70 [(.int .i64 n0), (.int .i64 low1), (.int .i64 high2)] [] = impl_in_c _ n0 low1 high2 (fun r => some ⟨(.bool r), [], []⟩) := by kernel_rfl
def impl_in_ent (F : Nat) : Ent := ⟨[], .quiet, fun args mem => match args, mem with
  | [(.int .i64 n0), (.int .i64 low1), (.int .i64 high2)], [] => some (true, ⟨(.bool (impl_in_v n0 low1 high2)), [], []⟩)
  | _, _ => none⟩
theorem impl_in_fok : FunOK Try.prog 46 := funOK Try.func46 (by kernel_rfl) rfl
theorem impl_in_meets (F : Nat) : Meets Try.prog 46 (impl_in_ent F) := by
  refine meets_of_runS mixed ttok deep (impl_in_tabok F) Try.func46 (body_some rfl) (impl_in_lsok0 F) fun args mem hfit ret h => ?_
  clear hfit
  simp only [impl_in_ent] at h
  split at h
  · rename_i n0 low1 high2
    simp only [Option.some.injEq, Prod.mk.injEq] at h
    obtain ⟨hc, rfl⟩ := h
    exact ⟨[], [], 70, _, (impl_in_run F n0 low1 high2).trans (impl_in_cv _ n0 low1 high2 _), rfl, rfl, rfl⟩
  · cases h

/-! loop.example/g01194/impl.IsRow$1 -/
noncomputable def impl_IsRow_f1_tab (F : Nat) : Tab := [(46, (impl_in_ent F))]
theorem impl_IsRow_f1_tabok (F : Nat) : TabOK Try.prog (impl_IsRow_f1_tab F) := (tab_cons (impl_in_meets F) impl_in_fok tab_nil)
noncomputable def impl_IsRow_f1_LS0 (F : Nat) : LT := []
theorem impl_IsRow_f1_lsok0 (F : Nat) : LoopsOK Try.prog (impl_IsRow_f1_LS0 F) (bodyOf Try.f61) := loopsOK_nil
theorem impl_IsRow_f1_run (F : Nat) (n0 : Int) : runS tt (impl_IsRow_f1_tab F) (impl_IsRow_f1_LS0 F) [] [] Try.f61 (bodyOf Try.f61) 70 [(.int .i64 n0)] [] = impl_IsRow_f1_c _ n0 (fun r => some ⟨(.bool r), [], []⟩) := by kernel_rfl
def impl_IsRow_f1_ent (F : Nat) : Ent := ⟨[], .quiet, fun args mem => match args, mem with
  | [(.int .i64 n0)], [] => some (true, ⟨(.bool (impl_IsRow_f1_v n0)), [], []⟩)
  | _, _ => none⟩
theorem impl_IsRow_f1_fok : FunOK Try.prog 61 := funOK Try.func61 (by kernel_rfl) rfl
theorem impl_IsRow_f1_meets (F : Nat) : Meets Try.prog 61 (impl_IsRow_f1_ent F) := by
  refine meets_of_runS mixed ttok deep (impl_IsRow_f1_tabok F) Try.func61 (body_some rfl) (impl_IsRow_f1_lsok0 F) fun args mem hfit ret h => ?_
  clear hfit
  simp only [impl_IsRow_f1_ent] at h
  split at h
  · rename_i n0
    simp only [Option.some.injEq, Prod.mk.injEq] at h
    obtain ⟨hc, rfl⟩ := h
    exact ⟨[], [], 70, _, (impl_IsRow_f1_run F n0).trans (impl_IsRow_f1_cv _ n0 _), rfl, rfl, rfl⟩
  · cases h
end Go.Proofs.Ytkhccaoancfeoaa
