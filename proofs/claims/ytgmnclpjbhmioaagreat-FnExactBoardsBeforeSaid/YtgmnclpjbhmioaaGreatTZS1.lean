/-
Pure functions and what the code of them does, by program; without conditions.
-/
import Derived.Test.YtgmnclpjbhmioaaGreatTZP1
import Derived.Test.YtgmnclpjbhmioaaGreatTZS0
namespace Go.Proofs.YtgmnclpjbhmioaaGreat
open Go Go.Lv Go.Lv.P Go.Proofs
set_option linter.unusedVariables false
set_option linter.unusedSimpArgs false
set_option maxRecDepth 100000
/-! loop.example/g01194/spec.l4Before -/
noncomputable def spec_l4Before_tab (F : Nat) : Tab := [(69, (spec_l1Has_ent F)), (70, (spec_l4Spread_ent F)), (71, (spec_l2Row_ent F)), (72, (spec_l4Put_ent F))]
theorem spec_l4Before_tabok (F : Nat) : TabOK Tryz.prog (spec_l4Before_tab F) := (tab_cons (spec_l1Has_meets F) spec_l1Has_fok (tab_cons (spec_l4Spread_meets F) spec_l4Spread_fok (tab_cons (spec_l2Row_meets F) spec_l2Row_fok (tab_cons (spec_l4Put_meets F) spec_l4Put_fok tab_nil))))
noncomputable def spec_l4Before_LS0 (F : Nat) : LT := []
theorem spec_l4Before_lsok0 (F : Nat) : LoopsOK Tryz.prog (spec_l4Before_LS0 F) (bodyOf Tryz.f49) := loopsOK_nil
theorem spec_l4Before_keys : keysOK (bodyOf Tryz.f49) = true := by kernel_rfl
def spec_l4Before_st7 (out3 : List (List Int)) (code4 : Int) (row8 : List Int) (k7 : Int) (tiles9 : List Int) : St := ⟨expand 82 0 [1, 3, 4, 5, 6] [(.ptr 0 0 0 4), (.rr 4 out3), (.int .i64 code4), (.sl 1 0 (List.length tiles9)), (.int .i64 k7)], [(.var 4 (.ri .i64 row8)), (.vec 3 (.ri .i64 tiles9))], 0, []⟩
def spec_l4Before_o7 (out3 : List (List Int)) (code4 : Int) (row8 : List Int) (x : List Int) : GT := (.out (.exit 2 ⟨expand 82 0 [1, 3, 4, 5] [(.ptr 0 0 0 4), (.rr 4 out3), (.int .i64 code4), (.sl 1 0 (List.length x))], [(.var 4 (.ri .i64 row8)), (.vec 3 (.ri .i64 x))], 0, []⟩))
def spec_l4Before_ls7 (F : Nat) : LoopS := ⟨82, [1, 3, 4, 5, 6], [], [1, 3, 4, 5], [], [2], [], [], fun vals mem np killed => match vals, mem, np, killed with
  | [(.ptr 0 0 0 4), (.rr 4 out3), (.int .i64 code4), (.sl 1 0 q_tiles6), (.int .i64 k7)], [(.var 4 (.ri .i64 row8)), (.vec 3 (.ri .i64 tiles9))], 0, [] => .br ((Nat.beq q_tiles6 (List.length tiles9)) && (spec_l4Before_l7 F out3 code4 row8 k7 tiles9).isSome) (spec_l4Before_o7 out3 code4 row8 ((spec_l4Before_l7 F out3 code4 row8 k7 tiles9).getD default)) .fail
  | _, _, _, _ => .fail⟩
theorem spec_l4Before_step7 (F : Nat) (out3 : List (List Int)) (code4 : Int) (row8 : List Int) (k7 : Int) (tiles9 : List Int) {R : Type} (k : Out → Option R) : stepS tt (spec_l4Before_tab F) (spec_l4Before_LS0 F) 70 (spec_l4Before_ls7 F) (loopAt 7 (bodyOf Tryz.f49)) (spec_l4Before_st7 out3 code4 row8 k7 tiles9) k = spec_l4Before_s7 F out3 code4 row8 R (k7, tiles9) (fun s => k (.norm (spec_l4Before_st7 out3 code4 row8 s.1 s.2))) (fun x => (spec_l4Before_o7 out3 code4 row8 x).run k) := by kernel_rfl
theorem spec_l4Before_iter7 (F : Nat) (out3 : List (List Int)) (code4 : Int) (row8 : List Int) {R : Type} (k : Out → Option R) : ∀ (n : Nat) (k7 : Int) (tiles9 : List Int), iterS tt (spec_l4Before_tab F) (spec_l4Before_LS0 F) 70 (spec_l4Before_ls7 F) (loopAt 7 (bodyOf Tryz.f49)) n (spec_l4Before_st7 out3 code4 row8 k7 tiles9) k = loopC (spec_l4Before_s7 F out3 code4 row8) n (k7, tiles9) (fun x => (spec_l4Before_o7 out3 code4 row8 x).run k)
  | 0, k7, tiles9 => rfl
  | n + 1, k7, tiles9 => (iterS_succ tt (spec_l4Before_tab F) (spec_l4Before_LS0 F) 70 (spec_l4Before_ls7 F) (loopAt 7 (bodyOf Tryz.f49)) n (spec_l4Before_st7 out3 code4 row8 k7 tiles9) k).trans ((spec_l4Before_step7 F out3 code4 row8 k7 tiles9 (nextK (iterS tt (spec_l4Before_tab F) (spec_l4Before_LS0 F) 70 (spec_l4Before_ls7 F) (loopAt 7 (bodyOf Tryz.f49)) n) k)).trans (congrArg (fun kn => spec_l4Before_s7 F out3 code4 row8 R (k7, tiles9) kn _) (funext (fun ⟨k7, tiles9⟩ => spec_l4Before_iter7 F out3 code4 row8 k n k7 tiles9))))
theorem spec_l4Before_lok7 (F : Nat) : LoopOK Tryz.prog (loopAt 7 (bodyOf Tryz.f49)) (spec_l4Before_ls7 F) := by
  refine loopOK_of mixed ttok deep (spec_l4Before_tabok F) (loopsOK_at (spec_l4Before_lsok0 F) 7) (fuel := 70) fun R vals mem np killed k x h => ?_
  simp only [spec_l4Before_ls7] at h
  split at h
  · rename_i out3 code4 q_tiles6 k7 row8 tiles9
    simp only [GT.run] at h
    have hc := (cond_noneL h).1
    replace h := (cond_noneL h).2
    have hg := (and_split hc).1
    replace hc := (and_split hc).2
    obtain rfl := nbeq_nat hg
    refine ⟨F, (spec_l4Before_iter7 F out3 code4 row8 k F k7 tiles9).trans ((loopC_use (spec_l4Before_s7_nat F out3 code4 row8) hc _).trans h)⟩
  · simp only [GT.run] at h
    cases h
noncomputable def spec_l4Before_LS1 (F : Nat) : LT := (7, spec_l4Before_ls7 F) :: spec_l4Before_LS0 F
theorem spec_l4Before_lsok1 (F : Nat) : LoopsOK Tryz.prog (spec_l4Before_LS1 F) (bodyOf Tryz.f49) := loopsOK_cons spec_l4Before_keys (spec_l4Before_lok7 F) (spec_l4Before_lsok0 F)
def spec_l4Before_st15 (code4 : Int) (all6 : Nat) (row8 : List Int) (all9 : List (List Int)) (out3 : List (List Int)) (i7 : Int) : St := ⟨expand 82 0 [1, 3, 4, 7, 8] [(.ptr 0 0 0 4), (.rr 4 out3), (.int .i64 code4), (.sl 1 0 all6), (.int .i64 i7)], [(.var 4 (.ri .i64 row8)), (.vec 22 (.rr 4 all9))], 0, []⟩
def spec_l4Before_o15 (code4 : Int) (all6 : Nat) (row8 : List Int) (all9 : List (List Int)) (x : List (List Int)) : GT := (.out (.exit 4 ⟨expand 82 0 [1, 3, 4] [(.ptr 0 0 0 4), (.rr 4 x), (.int .i64 code4)], [(.var 4 (.ri .i64 row8))], 0, []⟩))
def spec_l4Before_ls15 (F : Nat) : LoopS := ⟨82, [1, 3, 4, 7, 8], [], [1, 3, 4], [], [2], [], [], fun vals mem np killed => match vals, mem, np, killed with
  | [(.ptr 0 0 0 4), (.rr 4 out3), (.int .i64 code4), (.sl 1 0 all6), (.int .i64 i7)], [(.var 4 (.ri .i64 row8)), (.vec 22 (.rr 4 all9))], 0, [] => .br (spec_l4Before_l15 F code4 all6 row8 all9 out3 i7).isSome (spec_l4Before_o15 code4 all6 row8 all9 ((spec_l4Before_l15 F code4 all6 row8 all9 out3 i7).getD default)) .fail
  | _, _, _, _ => .fail⟩
theorem spec_l4Before_step15 (F : Nat) (code4 : Int) (all6 : Nat) (row8 : List Int) (all9 : List (List Int)) (out3 : List (List Int)) (i7 : Int) {R : Type} (k : Out → Option R) : stepS tt (spec_l4Before_tab F) (spec_l4Before_LS1 F) 70 (spec_l4Before_ls15 F) (loopAt 15 (bodyOf Tryz.f49)) (spec_l4Before_st15 code4 all6 row8 all9 out3 i7) k = spec_l4Before_s15 F code4 all6 row8 all9 R (out3, i7) (fun s => k (.norm (spec_l4Before_st15 code4 all6 row8 all9 s.1 s.2))) (fun x => (spec_l4Before_o15 code4 all6 row8 all9 x).run k) := by kernel_rfl
theorem spec_l4Before_iter15 (F : Nat) (code4 : Int) (all6 : Nat) (row8 : List Int) (all9 : List (List Int)) {R : Type} (k : Out → Option R) : ∀ (n : Nat) (out3 : List (List Int)) (i7 : Int), iterS tt (spec_l4Before_tab F) (spec_l4Before_LS1 F) 70 (spec_l4Before_ls15 F) (loopAt 15 (bodyOf Tryz.f49)) n (spec_l4Before_st15 code4 all6 row8 all9 out3 i7) k = loopC (spec_l4Before_s15 F code4 all6 row8 all9) n (out3, i7) (fun x => (spec_l4Before_o15 code4 all6 row8 all9 x).run k)
  | 0, out3, i7 => rfl
  | n + 1, out3, i7 => (iterS_succ tt (spec_l4Before_tab F) (spec_l4Before_LS1 F) 70 (spec_l4Before_ls15 F) (loopAt 15 (bodyOf Tryz.f49)) n (spec_l4Before_st15 code4 all6 row8 all9 out3 i7) k).trans ((spec_l4Before_step15 F code4 all6 row8 all9 out3 i7 (nextK (iterS tt (spec_l4Before_tab F) (spec_l4Before_LS1 F) 70 (spec_l4Before_ls15 F) (loopAt 15 (bodyOf Tryz.f49)) n) k)).trans (congrArg (fun kn => spec_l4Before_s15 F code4 all6 row8 all9 R (out3, i7) kn _) (funext (fun ⟨out3, i7⟩ => spec_l4Before_iter15 F code4 all6 row8 all9 k n out3 i7))))
theorem spec_l4Before_lok15 (F : Nat) : LoopOK Tryz.prog (loopAt 15 (bodyOf Tryz.f49)) (spec_l4Before_ls15 F) := by
  refine loopOK_of mixed ttok deep (spec_l4Before_tabok F) (loopsOK_at (spec_l4Before_lsok1 F) 15) (fuel := 70) fun R vals mem np killed k x h => ?_
  simp only [spec_l4Before_ls15] at h
  split at h
  · rename_i out3 code4 all6 i7 row8 all9
    simp only [GT.run] at h
    have hc := (cond_noneL h).1
    replace h := (cond_noneL h).2
    refine ⟨F, (spec_l4Before_iter15 F code4 all6 row8 all9 k F out3 i7).trans ((loopC_use (spec_l4Before_s15_nat F code4 all6 row8 all9) hc _).trans h)⟩
  · simp only [GT.run] at h
    cases h
noncomputable def spec_l4Before_LS2 (F : Nat) : LT := (15, spec_l4Before_ls15 F) :: spec_l4Before_LS1 F
theorem spec_l4Before_lsok2 (F : Nat) : LoopsOK Tryz.prog (spec_l4Before_LS2 F) (bodyOf Tryz.f49) := loopsOK_cons spec_l4Before_keys (spec_l4Before_lok15 F) (spec_l4Before_lsok1 F)
def spec_l4Before_st3 (row5 : List Int) (out3 : List (List Int)) (code4 : Int) : St := ⟨expand 82 0 [1, 3, 4] [(.ptr 0 0 0 4), (.rr 4 out3), (.int .i64 code4)], [(.var 4 (.ri .i64 row5))], 0, []⟩
def spec_l4Before_o3 (row5 : List Int) (x : List (List Int)) : GT := (.out (.exit 0 ⟨expand 82 0 [3] [(.rr 4 x)], [], 0, []⟩))
def spec_l4Before_ls3 (F : Nat) : LoopS := ⟨82, [1, 3, 4], [⟨3, 0, (.tup [])⟩], [3], [], [2], [], [], fun vals mem np killed => match vals, mem, np, killed with
  | [(.ptr 0 0 0 4), (.rr 4 out3), (.int .i64 code4)], [(.var 4 (.ri .i64 row5))], 0, [] => .br (spec_l4Before_l3 F row5 out3 code4).isSome (spec_l4Before_o3 row5 ((spec_l4Before_l3 F row5 out3 code4).getD default)) .fail
  | _, _, _, _ => .fail⟩
theorem spec_l4Before_step3 (F : Nat) (row5 : List Int) (out3 : List (List Int)) (code4 : Int) {R : Type} (k : Out → Option R) : stepS tt (spec_l4Before_tab F) (spec_l4Before_LS2 F) 70 (spec_l4Before_ls3 F) (loopAt 3 (bodyOf Tryz.f49)) (spec_l4Before_st3 row5 out3 code4) k = spec_l4Before_s3 F row5 R (out3, code4) (fun s => k (.norm (spec_l4Before_st3 row5 s.1 s.2))) (fun x => (spec_l4Before_o3 row5 x).run k) := by kernel_rfl
theorem spec_l4Before_iter3 (F : Nat) (row5 : List Int) {R : Type} (k : Out → Option R) : ∀ (n : Nat) (out3 : List (List Int)) (code4 : Int), iterS tt (spec_l4Before_tab F) (spec_l4Before_LS2 F) 70 (spec_l4Before_ls3 F) (loopAt 3 (bodyOf Tryz.f49)) n (spec_l4Before_st3 row5 out3 code4) k = loopC (spec_l4Before_s3 F row5) n (out3, code4) (fun x => (spec_l4Before_o3 row5 x).run k)
  | 0, out3, code4 => rfl
  | n + 1, out3, code4 => (iterS_succ tt (spec_l4Before_tab F) (spec_l4Before_LS2 F) 70 (spec_l4Before_ls3 F) (loopAt 3 (bodyOf Tryz.f49)) n (spec_l4Before_st3 row5 out3 code4) k).trans ((spec_l4Before_step3 F row5 out3 code4 (nextK (iterS tt (spec_l4Before_tab F) (spec_l4Before_LS2 F) 70 (spec_l4Before_ls3 F) (loopAt 3 (bodyOf Tryz.f49)) n) k)).trans (congrArg (fun kn => spec_l4Before_s3 F row5 R (out3, code4) kn _) (funext (fun ⟨out3, code4⟩ => spec_l4Before_iter3 F row5 k n out3 code4))))
theorem spec_l4Before_lok3 (F : Nat) : LoopOK Tryz.prog (loopAt 3 (bodyOf Tryz.f49)) (spec_l4Before_ls3 F) := by
  refine loopOK_of mixed ttok deep (spec_l4Before_tabok F) (loopsOK_at (spec_l4Before_lsok2 F) 3) (fuel := 70) fun R vals mem np killed k x h => ?_
  simp only [spec_l4Before_ls3] at h
  split at h
  · rename_i out3 code4 row5
    simp only [GT.run] at h
    have hc := (cond_noneL h).1
    replace h := (cond_noneL h).2
    refine ⟨F, (spec_l4Before_iter3 F row5 k F out3 code4).trans ((loopC_use (spec_l4Before_s3_nat F row5) hc _).trans h)⟩
  · simp only [GT.run] at h
    cases h
noncomputable def spec_l4Before_LS3 (F : Nat) : LT := (3, spec_l4Before_ls3 F) :: spec_l4Before_LS2 F
theorem spec_l4Before_lsok3 (F : Nat) : LoopsOK Tryz.prog (spec_l4Before_LS3 F) (bodyOf Tryz.f49) := loopsOK_cons spec_l4Before_keys (spec_l4Before_lok3 F) (spec_l4Before_lsok2 F)
theorem spec_l4Before_run (F : Nat) (row0 : List Int) : runS tt (spec_l4Before_tab F) (spec_l4Before_LS3 F) [] [] Tryz.f49 (bodyOf Tryz.f49) 70 [(.ints 4 row0)] [] = spec_l4Before_c _ F row0 (fun r => some ⟨(.rr 4 r), [], []⟩) := by kernel_rfl
def spec_l4Before_ent (F : Nat) : Ent := ⟨[], .quiet, fun args mem => match args, mem with
  | [(.ints 4 row0)], [] => some ((spec_l4Before_p F row0).isSome, ⟨(.rr 4 ((spec_l4Before_p F row0).getD default)), [], []⟩)
  | _, _ => none⟩
theorem spec_l4Before_fok : FunOK Tryz.prog 49 := funOK Tryz.func49 (by kernel_rfl) rfl
theorem spec_l4Before_meets (F : Nat) : Meets Tryz.prog 49 (spec_l4Before_ent F) := by
  refine meets_of_runS mixed ttok deep (spec_l4Before_tabok F) Tryz.func49 (body_some rfl) (spec_l4Before_lsok3 F) fun args mem hfit ret h => ?_
  clear hfit
  simp only [spec_l4Before_ent] at h
  split at h
  · rename_i row0
    simp only [Option.some.injEq, Prod.mk.injEq] at h
    obtain ⟨hc, rfl⟩ := h
    exact ⟨[], [], 70, _, (spec_l4Before_run F row0).trans ((spec_l4Before_cp _ F row0 _).trans (bind_use hc _)), rfl, rfl, rfl⟩
  · cases h

/-! loop.example/g01194/spec.l6Lists -/
noncomputable def spec_l6Lists_tab (F : Nat) : Tab := [(50, (spec_l2Numbers_ent F)), (49, (spec_l4Before_ent F))]
theorem spec_l6Lists_tabok (F : Nat) : TabOK Tryz.prog (spec_l6Lists_tab F) := (tab_cons (spec_l2Numbers_meets F) spec_l2Numbers_fok (tab_cons (spec_l4Before_meets F) spec_l4Before_fok tab_nil))
noncomputable def spec_l6Lists_LS0 (F : Nat) : LT := []
theorem spec_l6Lists_lsok0 (F : Nat) : LoopsOK Tryz.prog (spec_l6Lists_LS0 F) (bodyOf Tryz.f33) := loopsOK_nil
theorem spec_l6Lists_run (F : Nat) (b0 : List Int) (d1 : Int) : runS tt (spec_l6Lists_tab F) (spec_l6Lists_LS0 F) [] [] Tryz.f33 (bodyOf Tryz.f33) 70 [(.ints 16 b0), (.int .i64 d1)] [] = spec_l6Lists_c _ F b0 d1 (fun r => some ⟨(.agg [(.rr 4 r.1), (.rr 4 r.2.1), (.rr 4 r.2.2.1), (.rr 4 r.2.2.2)]), [], []⟩) := by kernel_rfl
def spec_l6Lists_ent (F : Nat) : Ent := ⟨[], .quiet, fun args mem => match args, mem with
  | [(.ints 16 b0), (.int .i64 d1)], [] => some ((spec_l6Lists_p F b0 d1).isSome, ⟨(.agg [(.rr 4 ((spec_l6Lists_p F b0 d1).getD default).1), (.rr 4 ((spec_l6Lists_p F b0 d1).getD default).2.1), (.rr 4 ((spec_l6Lists_p F b0 d1).getD default).2.2.1), (.rr 4 ((spec_l6Lists_p F b0 d1).getD default).2.2.2)]), [], []⟩)
  | _, _ => none⟩
theorem spec_l6Lists_fok : FunOK Tryz.prog 33 := funOK Tryz.func33 (by kernel_rfl) rfl
theorem spec_l6Lists_meets (F : Nat) : Meets Tryz.prog 33 (spec_l6Lists_ent F) := by
  refine meets_of_runS mixed ttok deep (spec_l6Lists_tabok F) Tryz.func33 (body_some rfl) (spec_l6Lists_lsok0 F) fun args mem hfit ret h => ?_
  clear hfit
  simp only [spec_l6Lists_ent] at h
  split at h
  · rename_i b0 d1
    simp only [Option.some.injEq, Prod.mk.injEq] at h
    obtain ⟨hc, rfl⟩ := h
    exact ⟨[], [], 70, _, (spec_l6Lists_run F b0 d1).trans ((spec_l6Lists_cp _ F b0 d1 _).trans (bind_use hc _)), rfl, rfl, rfl⟩
  · cases h

/-! loop.example/g01194/spec.l2Put -/
noncomputable def spec_l2Put_tab (F : Nat) : Tab := []
theorem spec_l2Put_tabok (F : Nat) : TabOK Tryz.prog (spec_l2Put_tab F) := tab_nil
noncomputable def spec_l2Put_LS0 (F : Nat) : LT := []
theorem spec_l2Put_lsok0 (F : Nat) : LoopsOK Tryz.prog (spec_l2Put_LS0 F) (bodyOf Tryz.f53) := loopsOK_nil
theorem spec_l2Put_run (F : Nat) (b0 : List Int) (cell1 : List Int) (t2 : Int) : runS tt (spec_l2Put_tab F) (spec_l2Put_LS0 F) [] [] Tryz.f53 (bodyOf Tryz.f53) 70 [(.ints 16 b0), (.ints 2 cell1), (.int .i64 t2)] [] = spec_l2Put_c _ b0 cell1 t2 (fun r => some ⟨(.ints 16 r), [], []⟩) := by kernel_rfl
def spec_l2Put_ent (F : Nat) : Ent := ⟨[], .quiet, fun args mem => match args, mem with
  | [(.ints 16 b0), (.ints 2 cell1), (.int .i64 t2)], [] => some ((spec_l2Put_p b0 cell1 t2).isSome, ⟨(.ints 16 ((spec_l2Put_p b0 cell1 t2).getD default)), [], []⟩)
  | _, _ => none⟩
theorem spec_l2Put_fok : FunOK Tryz.prog 53 := funOK Tryz.func53 (by kernel_rfl) rfl
theorem spec_l2Put_meets (F : Nat) : Meets Tryz.prog 53 (spec_l2Put_ent F) := by
  refine meets_of_runS mixed ttok deep (spec_l2Put_tabok F) Tryz.func53 (body_some rfl) (spec_l2Put_lsok0 F) fun args mem hfit ret h => ?_
  clear hfit
  simp only [spec_l2Put_ent] at h
  split at h
  · rename_i b0 cell1 t2
    simp only [Option.some.injEq, Prod.mk.injEq] at h
    obtain ⟨hc, rfl⟩ := h
    exact ⟨[], [], 70, _, (spec_l2Put_run F b0 cell1 t2).trans ((spec_l2Put_cp _ b0 cell1 t2 _).trans (bind_use hc _)), rfl, rfl, rfl⟩
  · cases h

/-! loop.example/g01194/spec.l2Slide -/
noncomputable def spec_l2Slide_tab (F : Nat) : Tab := [(50, (spec_l2Numbers_ent F)), (71, (spec_l2Row_ent F)), (52, (spec_l2Line_ent F)), (53, (spec_l2Put_ent F))]
theorem spec_l2Slide_tabok (F : Nat) : TabOK Tryz.prog (spec_l2Slide_tab F) := (tab_cons (spec_l2Numbers_meets F) spec_l2Numbers_fok (tab_cons (spec_l2Row_meets F) spec_l2Row_fok (tab_cons (spec_l2Line_meets F) spec_l2Line_fok (tab_cons (spec_l2Put_meets F) spec_l2Put_fok tab_nil))))
noncomputable def spec_l2Slide_LS0 (F : Nat) : LT := []
theorem spec_l2Slide_lsok0 (F : Nat) : LoopsOK Tryz.prog (spec_l2Slide_LS0 F) (bodyOf Tryz.f51) := loopsOK_nil
theorem spec_l2Slide_keys : keysOK (bodyOf Tryz.f51) = true := by kernel_rfl
def spec_l2Slide_st3 (d0 : Int) (b12 : List Int) (sum10 : Int) (i11 : Int) (out14 : List Int) : St := ⟨expand 46 0 [1, 2, 4, 6, 7, 8] [(.int .i64 d0), (.ptr 0 0 0 16), (.ptr 1 0 0 16), (.ptr 2 0 0 16), (.int .i64 sum10), (.int .i64 i11)], [(.var 16 (.ri .i64 b12)), (.var 16 (.ri .i64 [(0 : Int), (0 : Int), (0 : Int), (0 : Int), (0 : Int), (0 : Int), (0 : Int), (0 : Int), (0 : Int), (0 : Int), (0 : Int), (0 : Int), (0 : Int), (0 : Int), (0 : Int), (0 : Int)])), (.var 16 (.ri .i64 out14))], 0, []⟩
def spec_l2Slide_o3 (d0 : Int) (b12 : List Int) (x : Int × List Int) : GT := (.out (.exit 0 ⟨expand 46 0 [4, 6, 7] [(.ptr 0 0 0 16), (.ptr 1 0 0 16), (.int .i64 x.1)], [(.var 16 (.ri .i64 [(0 : Int), (0 : Int), (0 : Int), (0 : Int), (0 : Int), (0 : Int), (0 : Int), (0 : Int), (0 : Int), (0 : Int), (0 : Int), (0 : Int), (0 : Int), (0 : Int), (0 : Int), (0 : Int)])), (.var 16 (.ri .i64 x.2))], 0, []⟩))
def spec_l2Slide_ls3 (F : Nat) : LoopS := ⟨46, [1, 2, 4, 6, 7, 8], [], [4, 6, 7], [], [4, 5], [], [], fun vals mem np killed => match vals, mem, np, killed with
  | [(.int .i64 d0), (.ptr 0 0 0 16), (.ptr 1 0 0 16), (.ptr 2 0 0 16), (.int .i64 sum10), (.int .i64 i11)], [(.var 16 (.ri .i64 b12)), (.var 16 (.ri .i64 q_t413)), (.var 16 (.ri .i64 out14))], 0, [] => .br ((q_t413 == ([(0 : Int), (0 : Int), (0 : Int), (0 : Int), (0 : Int), (0 : Int), (0 : Int), (0 : Int), (0 : Int), (0 : Int), (0 : Int), (0 : Int), (0 : Int), (0 : Int), (0 : Int), (0 : Int)] : List Int)) && (spec_l2Slide_l3 F d0 b12 sum10 i11 out14).isSome) (spec_l2Slide_o3 d0 b12 ((spec_l2Slide_l3 F d0 b12 sum10 i11 out14).getD default)) .fail
  | _, _, _, _ => .fail⟩
theorem spec_l2Slide_step3 (F : Nat) (d0 : Int) (b12 : List Int) (sum10 : Int) (i11 : Int) (out14 : List Int) {R : Type} (k : Out → Option R) : stepS tt (spec_l2Slide_tab F) (spec_l2Slide_LS0 F) 70 (spec_l2Slide_ls3 F) (loopAt 3 (bodyOf Tryz.f51)) (spec_l2Slide_st3 d0 b12 sum10 i11 out14) k = spec_l2Slide_s3 F d0 b12 R (sum10, i11, out14) (fun s => k (.norm (spec_l2Slide_st3 d0 b12 s.1 s.2.1 s.2.2))) (fun x => (spec_l2Slide_o3 d0 b12 x).run k) := by kernel_rfl
theorem spec_l2Slide_iter3 (F : Nat) (d0 : Int) (b12 : List Int) {R : Type} (k : Out → Option R) : ∀ (n : Nat) (sum10 : Int) (i11 : Int) (out14 : List Int), iterS tt (spec_l2Slide_tab F) (spec_l2Slide_LS0 F) 70 (spec_l2Slide_ls3 F) (loopAt 3 (bodyOf Tryz.f51)) n (spec_l2Slide_st3 d0 b12 sum10 i11 out14) k = loopC (spec_l2Slide_s3 F d0 b12) n (sum10, i11, out14) (fun x => (spec_l2Slide_o3 d0 b12 x).run k)
  | 0, sum10, i11, out14 => rfl
  | n + 1, sum10, i11, out14 => (iterS_succ tt (spec_l2Slide_tab F) (spec_l2Slide_LS0 F) 70 (spec_l2Slide_ls3 F) (loopAt 3 (bodyOf Tryz.f51)) n (spec_l2Slide_st3 d0 b12 sum10 i11 out14) k).trans ((spec_l2Slide_step3 F d0 b12 sum10 i11 out14 (nextK (iterS tt (spec_l2Slide_tab F) (spec_l2Slide_LS0 F) 70 (spec_l2Slide_ls3 F) (loopAt 3 (bodyOf Tryz.f51)) n) k)).trans (congrArg (fun kn => spec_l2Slide_s3 F d0 b12 R (sum10, i11, out14) kn _) (funext (fun ⟨sum10, i11, out14⟩ => spec_l2Slide_iter3 F d0 b12 k n sum10 i11 out14))))
theorem spec_l2Slide_lok3 (F : Nat) : LoopOK Tryz.prog (loopAt 3 (bodyOf Tryz.f51)) (spec_l2Slide_ls3 F) := by
  refine loopOK_of mixed ttok deep (spec_l2Slide_tabok F) (loopsOK_at (spec_l2Slide_lsok0 F) 3) (fuel := 70) fun R vals mem np killed k x h => ?_
  simp only [spec_l2Slide_ls3] at h
  split at h
  · rename_i d0 sum10 i11 b12 q_t413 out14
    simp only [GT.run] at h
    have hc := (cond_noneL h).1
    replace h := (cond_noneL h).2
    have hg := (and_split hc).1
    replace hc := (and_split hc).2
    obtain rfl := beq_li hg
    refine ⟨F, (spec_l2Slide_iter3 F d0 b12 k F sum10 i11 out14).trans ((loopC_use (spec_l2Slide_s3_nat F d0 b12) hc _).trans h)⟩
  · simp only [GT.run] at h
    cases h
noncomputable def spec_l2Slide_LS1 (F : Nat) : LT := (3, spec_l2Slide_ls3 F) :: spec_l2Slide_LS0 F
theorem spec_l2Slide_lsok1 (F : Nat) : LoopsOK Tryz.prog (spec_l2Slide_LS1 F) (bodyOf Tryz.f51) := loopsOK_cons spec_l2Slide_keys (spec_l2Slide_lok3 F) (spec_l2Slide_lsok0 F)
theorem spec_l2Slide_run (F : Nat) (b0 : List Int) (d1 : Int) : runS tt (spec_l2Slide_tab F) (spec_l2Slide_LS1 F) [] [] Tryz.f51 (bodyOf Tryz.f51) 70 [(.ints 16 b0), (.int .i64 d1)] [] = spec_l2Slide_c _ F b0 d1 (fun r => some ⟨(.tup [(.ints 16 r.1), (.int .i64 r.2)]), [], []⟩) := by kernel_rfl
def spec_l2Slide_ent (F : Nat) : Ent := ⟨[], .quiet, fun args mem => match args, mem with
  | [(.ints 16 b0), (.int .i64 d1)], [] => some ((spec_l2Slide_p F b0 d1).isSome, ⟨(.tup [(.ints 16 ((spec_l2Slide_p F b0 d1).getD default).1), (.int .i64 ((spec_l2Slide_p F b0 d1).getD default).2)]), [], []⟩)
  | _, _ => none⟩
theorem spec_l2Slide_fok : FunOK Tryz.prog 51 := funOK Tryz.func51 (by kernel_rfl) rfl
theorem spec_l2Slide_meets (F : Nat) : Meets Tryz.prog 51 (spec_l2Slide_ent F) := by
  refine meets_of_runS mixed ttok deep (spec_l2Slide_tabok F) Tryz.func51 (body_some rfl) (spec_l2Slide_lsok1 F) fun args mem hfit ret h => ?_
  clear hfit
  simp only [spec_l2Slide_ent] at h
  split at h
  · rename_i b0 d1
    simp only [Option.some.injEq, Prod.mk.injEq] at h
    obtain ⟨hc, rfl⟩ := h
    exact ⟨[], [], 70, _, (spec_l2Slide_run F b0 d1).trans ((spec_l2Slide_cp _ F b0 d1 _).trans (bind_use hc _)), rfl, rfl, rfl⟩
  · cases h

/-! loop.example/g01194/spec.l6Still -/
noncomputable def spec_l6Still_tab (F : Nat) : Tab := [(51, (spec_l2Slide_ent F))]
theorem spec_l6Still_tabok (F : Nat) : TabOK Tryz.prog (spec_l6Still_tab F) := (tab_cons (spec_l2Slide_meets F) spec_l2Slide_fok tab_nil)
noncomputable def spec_l6Still_LS0 (F : Nat) : LT := []
theorem spec_l6Still_lsok0 (F : Nat) : LoopsOK Tryz.prog (spec_l6Still_LS0 F) (bodyOf Tryz.f34) := loopsOK_nil
theorem spec_l6Still_run (F : Nat) (b0 : List Int) (d1 : Int) : runS tt (spec_l6Still_tab F) (spec_l6Still_LS0 F) [] [] Tryz.f34 (bodyOf Tryz.f34) 70 [(.ints 16 b0), (.int .i64 d1)] [] = spec_l6Still_c _ F b0 d1 (fun r => some ⟨(.bool r), [], []⟩) := by kernel_rfl
def spec_l6Still_ent (F : Nat) : Ent := ⟨[], .quiet, fun args mem => match args, mem with
  | [(.ints 16 b0), (.int .i64 d1)], [] => some ((spec_l6Still_p F b0 d1).isSome, ⟨(.bool ((spec_l6Still_p F b0 d1).getD default)), [], []⟩)
  | _, _ => none⟩
theorem spec_l6Still_fok : FunOK Tryz.prog 34 := funOK Tryz.func34 (by kernel_rfl) rfl
theorem spec_l6Still_meets (F : Nat) : Meets Tryz.prog 34 (spec_l6Still_ent F) := by
  refine meets_of_runS mixed ttok deep (spec_l6Still_tabok F) Tryz.func34 (body_some rfl) (spec_l6Still_lsok0 F) fun args mem hfit ret h => ?_
  clear hfit
  simp only [spec_l6Still_ent] at h
  split at h
  · rename_i b0 d1
    simp only [Option.some.injEq, Prod.mk.injEq] at h
    obtain ⟨hc, rfl⟩ := h
    exact ⟨[], [], 70, _, (spec_l6Still_run F b0 d1).trans ((spec_l6Still_cp _ F b0 d1 _).trans (bind_use hc _)), rfl, rfl, rfl⟩
  · cases h

/-! loop.example/g01194/spec.l6Count -/
noncomputable def spec_l6Count_tab (F : Nat) : Tab := [(33, (spec_l6Lists_ent F)), (34, (spec_l6Still_ent F))]
theorem spec_l6Count_tabok (F : Nat) : TabOK Tryz.prog (spec_l6Count_tab F) := (tab_cons (spec_l6Lists_meets F) spec_l6Lists_fok (tab_cons (spec_l6Still_meets F) spec_l6Still_fok tab_nil))
noncomputable def spec_l6Count_LS0 (F : Nat) : LT := []
theorem spec_l6Count_lsok0 (F : Nat) : LoopsOK Tryz.prog (spec_l6Count_LS0 F) (bodyOf Tryz.f20) := loopsOK_nil
theorem spec_l6Count_run (F : Nat) (b0 : List Int) (d1 : Int) : runS tt (spec_l6Count_tab F) (spec_l6Count_LS0 F) [] [] Tryz.f20 (bodyOf Tryz.f20) 70 [(.ints 16 b0), (.int .i64 d1)] [] = spec_l6Count_c _ F b0 d1 (fun r => some ⟨(.int .i64 r), [], []⟩) := by kernel_rfl
def spec_l6Count_ent (F : Nat) : Ent := ⟨[], .quiet, fun args mem => match args, mem with
  | [(.ints 16 b0), (.int .i64 d1)], [] => some ((spec_l6Count_p F b0 d1).isSome, ⟨(.int .i64 ((spec_l6Count_p F b0 d1).getD default)), [], []⟩)
  | _, _ => none⟩
theorem spec_l6Count_fok : FunOK Tryz.prog 20 := funOK Tryz.func20 (by kernel_rfl) rfl
theorem spec_l6Count_meets (F : Nat) : Meets Tryz.prog 20 (spec_l6Count_ent F) := by
  refine meets_of_runS mixed ttok deep (spec_l6Count_tabok F) Tryz.func20 (body_some rfl) (spec_l6Count_lsok0 F) fun args mem hfit ret h => ?_
  clear hfit
  simp only [spec_l6Count_ent] at h
  split at h
  · rename_i b0 d1
    simp only [Option.some.injEq, Prod.mk.injEq] at h
    obtain ⟨hc, rfl⟩ := h
    exact ⟨[], [], 70, _, (spec_l6Count_run F b0 d1).trans ((spec_l6Count_cp _ F b0 d1 _).trans (bind_use hc _)), rfl, rfl, rfl⟩
  · cases h

/-! loop.example/g01194/spec.l6With -/
noncomputable def spec_l6With_tab (F : Nat) : Tab := [(52, (spec_l2Line_ent F)), (53, (spec_l2Put_ent F))]
theorem spec_l6With_tabok (F : Nat) : TabOK Tryz.prog (spec_l6With_tab F) := (tab_cons (spec_l2Line_meets F) spec_l2Line_fok (tab_cons (spec_l2Put_meets F) spec_l2Put_fok tab_nil))
noncomputable def spec_l6With_LS0 (F : Nat) : LT := []
theorem spec_l6With_lsok0 (F : Nat) : LoopsOK Tryz.prog (spec_l6With_LS0 F) (bodyOf Tryz.f36) := loopsOK_nil
theorem spec_l6With_run (F : Nat) (b0 : List Int) (d1 : Int) (i2 : Int) (row3 : List Int) : runS tt (spec_l6With_tab F) (spec_l6With_LS0 F) [] [] Tryz.f36 (bodyOf Tryz.f36) 70 [(.ints 16 b0), (.int .i64 d1), (.int .i64 i2), (.ints 4 row3)] [] = spec_l6With_c _ F b0 d1 i2 row3 (fun r => some ⟨(.ints 16 r), [], []⟩) := by kernel_rfl
def spec_l6With_ent (F : Nat) : Ent := ⟨[], .quiet, fun args mem => match args, mem with
  | [(.ints 16 b0), (.int .i64 d1), (.int .i64 i2), (.ints 4 row3)], [] => some ((spec_l6With_p F b0 d1 i2 row3).isSome, ⟨(.ints 16 ((spec_l6With_p F b0 d1 i2 row3).getD default)), [], []⟩)
  | _, _ => none⟩
theorem spec_l6With_fok : FunOK Tryz.prog 36 := funOK Tryz.func36 (by kernel_rfl) rfl
theorem spec_l6With_meets (F : Nat) : Meets Tryz.prog 36 (spec_l6With_ent F) := by
  refine meets_of_runS mixed ttok deep (spec_l6With_tabok F) Tryz.func36 (body_some rfl) (spec_l6With_lsok0 F) fun args mem hfit ret h => ?_
  clear hfit
  simp only [spec_l6With_ent] at h
  split at h
  · rename_i b0 d1 i2 row3
    simp only [Option.some.injEq, Prod.mk.injEq] at h
    obtain ⟨hc, rfl⟩ := h
    exact ⟨[], [], 70, _, (spec_l6With_run F b0 d1 i2 row3).trans ((spec_l6With_cp _ F b0 d1 i2 row3 _).trans (bind_use hc _)), rfl, rfl, rfl⟩
  · cases h

/-! loop.example/g01194/spec.l6All -/
noncomputable def spec_l6All_tab (F : Nat) : Tab := [(33, (spec_l6Lists_ent F)), (36, (spec_l6With_ent F))]
theorem spec_l6All_tabok (F : Nat) : TabOK Tryz.prog (spec_l6All_tab F) := (tab_cons (spec_l6Lists_meets F) spec_l6Lists_fok (tab_cons (spec_l6With_meets F) spec_l6With_fok tab_nil))
noncomputable def spec_l6All_LS0 (F : Nat) : LT := []
theorem spec_l6All_lsok0 (F : Nat) : LoopsOK Tryz.prog (spec_l6All_LS0 F) (bodyOf Tryz.f22) := loopsOK_nil
theorem spec_l6All_keys : keysOK (bodyOf Tryz.f22) = true := by kernel_rfl
def spec_l6All_st10 (d0 : Int) (out5 : Nat) (i6 : Int) (n9 : Int) (lists11 : List (List Int)) (lists12 : List (List Int)) (lists13 : List (List Int)) (lists14 : List (List Int)) (out15 : List (List Int)) (k10 : Int) (next16 : List (List Int)) : St := ⟨expand 53 0 [1, 5, 6, 7, 8, 9, 10] [(.int .i64 d0), (.ptr 0 0 0 4), (.sl 1 0 out5), (.int .i64 i6), (.sl 2 0 (List.length next16)), (.int .i64 n9), (.int .i64 k10)], [(.var 4 (.rv [(.rr 4 lists11), (.rr 4 lists12), (.rr 4 lists13), (.rr 4 lists14)])), (.vec 26 (.rr 16 out15)), (.vec 26 (.rr 16 next16))], 0, []⟩
def spec_l6All_o10 (d0 : Int) (out5 : Nat) (i6 : Int) (n9 : Int) (lists11 : List (List Int)) (lists12 : List (List Int)) (lists13 : List (List Int)) (lists14 : List (List Int)) (out15 : List (List Int)) (x : List (List Int)) : GT := (.out (.exit 4 ⟨expand 53 0 [1, 5, 6, 7, 8, 9] [(.int .i64 d0), (.ptr 0 0 0 4), (.sl 1 0 out5), (.int .i64 i6), (.sl 2 0 (List.length x)), (.int .i64 n9)], [(.var 4 (.rv [(.rr 4 lists11), (.rr 4 lists12), (.rr 4 lists13), (.rr 4 lists14)])), (.vec 26 (.rr 16 out15)), (.vec 26 (.rr 16 x))], 0, []⟩))
def spec_l6All_ls10 (F : Nat) : LoopS := ⟨53, [1, 5, 6, 7, 8, 9, 10], [], [1, 5, 6, 7, 8, 9], [], [4], [], [], fun vals mem np killed => match vals, mem, np, killed with
  | [(.int .i64 d0), (.ptr 0 0 0 4), (.sl 1 0 out5), (.int .i64 i6), (.sl 2 0 q_next8), (.int .i64 n9), (.int .i64 k10)], [(.var 4 (.rv [(.rr 4 lists11), (.rr 4 lists12), (.rr 4 lists13), (.rr 4 lists14)])), (.vec 26 (.rr 16 out15)), (.vec 26 (.rr 16 next16))], 0, [] => .br ((Nat.beq q_next8 (List.length next16)) && (spec_l6All_l10 F d0 out5 i6 n9 lists11 lists12 lists13 lists14 out15 k10 next16).isSome) (spec_l6All_o10 d0 out5 i6 n9 lists11 lists12 lists13 lists14 out15 ((spec_l6All_l10 F d0 out5 i6 n9 lists11 lists12 lists13 lists14 out15 k10 next16).getD default)) .fail
  | _, _, _, _ => .fail⟩
theorem spec_l6All_step10 (F : Nat) (d0 : Int) (out5 : Nat) (i6 : Int) (n9 : Int) (lists11 : List (List Int)) (lists12 : List (List Int)) (lists13 : List (List Int)) (lists14 : List (List Int)) (out15 : List (List Int)) (k10 : Int) (next16 : List (List Int)) {R : Type} (k : Out → Option R) : stepS tt (spec_l6All_tab F) (spec_l6All_LS0 F) 70 (spec_l6All_ls10 F) (loopAt 10 (bodyOf Tryz.f22)) (spec_l6All_st10 d0 out5 i6 n9 lists11 lists12 lists13 lists14 out15 k10 next16) k = spec_l6All_s10 F d0 out5 i6 n9 lists11 lists12 lists13 lists14 out15 R (k10, next16) (fun s => k (.norm (spec_l6All_st10 d0 out5 i6 n9 lists11 lists12 lists13 lists14 out15 s.1 s.2))) (fun x => (spec_l6All_o10 d0 out5 i6 n9 lists11 lists12 lists13 lists14 out15 x).run k) := by kernel_rfl
theorem spec_l6All_iter10 (F : Nat) (d0 : Int) (out5 : Nat) (i6 : Int) (n9 : Int) (lists11 : List (List Int)) (lists12 : List (List Int)) (lists13 : List (List Int)) (lists14 : List (List Int)) (out15 : List (List Int)) {R : Type} (k : Out → Option R) : ∀ (n : Nat) (k10 : Int) (next16 : List (List Int)), iterS tt (spec_l6All_tab F) (spec_l6All_LS0 F) 70 (spec_l6All_ls10 F) (loopAt 10 (bodyOf Tryz.f22)) n (spec_l6All_st10 d0 out5 i6 n9 lists11 lists12 lists13 lists14 out15 k10 next16) k = loopC (spec_l6All_s10 F d0 out5 i6 n9 lists11 lists12 lists13 lists14 out15) n (k10, next16) (fun x => (spec_l6All_o10 d0 out5 i6 n9 lists11 lists12 lists13 lists14 out15 x).run k)
  | 0, k10, next16 => rfl
  | n + 1, k10, next16 => (iterS_succ tt (spec_l6All_tab F) (spec_l6All_LS0 F) 70 (spec_l6All_ls10 F) (loopAt 10 (bodyOf Tryz.f22)) n (spec_l6All_st10 d0 out5 i6 n9 lists11 lists12 lists13 lists14 out15 k10 next16) k).trans ((spec_l6All_step10 F d0 out5 i6 n9 lists11 lists12 lists13 lists14 out15 k10 next16 (nextK (iterS tt (spec_l6All_tab F) (spec_l6All_LS0 F) 70 (spec_l6All_ls10 F) (loopAt 10 (bodyOf Tryz.f22)) n) k)).trans (congrArg (fun kn => spec_l6All_s10 F d0 out5 i6 n9 lists11 lists12 lists13 lists14 out15 R (k10, next16) kn _) (funext (fun ⟨k10, next16⟩ => spec_l6All_iter10 F d0 out5 i6 n9 lists11 lists12 lists13 lists14 out15 k n k10 next16))))
theorem spec_l6All_lok10 (F : Nat) : LoopOK Tryz.prog (loopAt 10 (bodyOf Tryz.f22)) (spec_l6All_ls10 F) := by
  refine loopOK_of mixed ttok deep (spec_l6All_tabok F) (loopsOK_at (spec_l6All_lsok0 F) 10) (fuel := 70) fun R vals mem np killed k x h => ?_
  simp only [spec_l6All_ls10] at h
  split at h
  · rename_i d0 out5 i6 q_next8 n9 k10 lists11 lists12 lists13 lists14 out15 next16
    simp only [GT.run] at h
    have hc := (cond_noneL h).1
    replace h := (cond_noneL h).2
    have hg := (and_split hc).1
    replace hc := (and_split hc).2
    obtain rfl := nbeq_nat hg
    refine ⟨F, (spec_l6All_iter10 F d0 out5 i6 n9 lists11 lists12 lists13 lists14 out15 k F k10 next16).trans ((loopC_use (spec_l6All_s10_nat F d0 out5 i6 n9 lists11 lists12 lists13 lists14 out15) hc _).trans h)⟩
  · simp only [GT.run] at h
    cases h
noncomputable def spec_l6All_LS1 (F : Nat) : LT := (10, spec_l6All_ls10 F) :: spec_l6All_LS0 F
theorem spec_l6All_lsok1 (F : Nat) : LoopsOK Tryz.prog (spec_l6All_LS1 F) (bodyOf Tryz.f22) := loopsOK_cons spec_l6All_keys (spec_l6All_lok10 F) (spec_l6All_lsok0 F)
def spec_l6All_st7 (d0 : Int) (i6 : Int) (lists10 : List (List Int)) (lists11 : List (List Int)) (lists12 : List (List Int)) (lists13 : List (List Int)) (out14 : List (List Int)) (n9 : Int) (next15 : List (List Int)) : St := ⟨expand 53 0 [1, 5, 6, 7, 8, 9] [(.int .i64 d0), (.ptr 0 0 0 4), (.sl 1 0 (List.length out14)), (.int .i64 i6), (.sl 2 0 (List.length next15)), (.int .i64 n9)], [(.var 4 (.rv [(.rr 4 lists10), (.rr 4 lists11), (.rr 4 lists12), (.rr 4 lists13)])), (.vec 26 (.rr 16 out14)), (.vec 26 (.rr 16 next15))], 0, []⟩
def spec_l6All_o7 (d0 : Int) (i6 : Int) (lists10 : List (List Int)) (lists11 : List (List Int)) (lists12 : List (List Int)) (lists13 : List (List Int)) (out14 : List (List Int)) (x : List (List Int)) : GT := (.out (.exit 2 ⟨expand 53 0 [1, 5, 7, 8] [(.int .i64 d0), (.ptr 0 0 0 4), (.int .i64 i6), (.sl 1 0 (List.length x))], [(.var 4 (.rv [(.rr 4 lists10), (.rr 4 lists11), (.rr 4 lists12), (.rr 4 lists13)])), (.vec 26 (.rr 16 x))], 0, []⟩))
def spec_l6All_ls7 (F : Nat) : LoopS := ⟨53, [1, 5, 6, 7, 8, 9], [], [1, 5, 7, 8], [], [4], [], [], fun vals mem np killed => match vals, mem, np, killed with
  | [(.int .i64 d0), (.ptr 0 0 0 4), (.sl 1 0 q_out5), (.int .i64 i6), (.sl 2 0 q_next8), (.int .i64 n9)], [(.var 4 (.rv [(.rr 4 lists10), (.rr 4 lists11), (.rr 4 lists12), (.rr 4 lists13)])), (.vec 26 (.rr 16 out14)), (.vec 26 (.rr 16 next15))], 0, [] => .br ((Nat.beq q_out5 (List.length out14)) && ((Nat.beq q_next8 (List.length next15)) && (spec_l6All_l7 F d0 i6 lists10 lists11 lists12 lists13 out14 n9 next15).isSome)) (spec_l6All_o7 d0 i6 lists10 lists11 lists12 lists13 out14 ((spec_l6All_l7 F d0 i6 lists10 lists11 lists12 lists13 out14 n9 next15).getD default)) .fail
  | _, _, _, _ => .fail⟩
theorem spec_l6All_step7 (F : Nat) (d0 : Int) (i6 : Int) (lists10 : List (List Int)) (lists11 : List (List Int)) (lists12 : List (List Int)) (lists13 : List (List Int)) (out14 : List (List Int)) (n9 : Int) (next15 : List (List Int)) {R : Type} (k : Out → Option R) : stepS tt (spec_l6All_tab F) (spec_l6All_LS1 F) 70 (spec_l6All_ls7 F) (loopAt 7 (bodyOf Tryz.f22)) (spec_l6All_st7 d0 i6 lists10 lists11 lists12 lists13 out14 n9 next15) k = spec_l6All_s7 F d0 i6 lists10 lists11 lists12 lists13 out14 R (n9, next15) (fun s => k (.norm (spec_l6All_st7 d0 i6 lists10 lists11 lists12 lists13 out14 s.1 s.2))) (fun x => (spec_l6All_o7 d0 i6 lists10 lists11 lists12 lists13 out14 x).run k) := by kernel_rfl
theorem spec_l6All_iter7 (F : Nat) (d0 : Int) (i6 : Int) (lists10 : List (List Int)) (lists11 : List (List Int)) (lists12 : List (List Int)) (lists13 : List (List Int)) (out14 : List (List Int)) {R : Type} (k : Out → Option R) : ∀ (n : Nat) (n9 : Int) (next15 : List (List Int)), iterS tt (spec_l6All_tab F) (spec_l6All_LS1 F) 70 (spec_l6All_ls7 F) (loopAt 7 (bodyOf Tryz.f22)) n (spec_l6All_st7 d0 i6 lists10 lists11 lists12 lists13 out14 n9 next15) k = loopC (spec_l6All_s7 F d0 i6 lists10 lists11 lists12 lists13 out14) n (n9, next15) (fun x => (spec_l6All_o7 d0 i6 lists10 lists11 lists12 lists13 out14 x).run k)
  | 0, n9, next15 => rfl
  | n + 1, n9, next15 => (iterS_succ tt (spec_l6All_tab F) (spec_l6All_LS1 F) 70 (spec_l6All_ls7 F) (loopAt 7 (bodyOf Tryz.f22)) n (spec_l6All_st7 d0 i6 lists10 lists11 lists12 lists13 out14 n9 next15) k).trans ((spec_l6All_step7 F d0 i6 lists10 lists11 lists12 lists13 out14 n9 next15 (nextK (iterS tt (spec_l6All_tab F) (spec_l6All_LS1 F) 70 (spec_l6All_ls7 F) (loopAt 7 (bodyOf Tryz.f22)) n) k)).trans (congrArg (fun kn => spec_l6All_s7 F d0 i6 lists10 lists11 lists12 lists13 out14 R (n9, next15) kn _) (funext (fun ⟨n9, next15⟩ => spec_l6All_iter7 F d0 i6 lists10 lists11 lists12 lists13 out14 k n n9 next15))))
theorem spec_l6All_lok7 (F : Nat) : LoopOK Tryz.prog (loopAt 7 (bodyOf Tryz.f22)) (spec_l6All_ls7 F) := by
  refine loopOK_of mixed ttok deep (spec_l6All_tabok F) (loopsOK_at (spec_l6All_lsok1 F) 7) (fuel := 70) fun R vals mem np killed k x h => ?_
  simp only [spec_l6All_ls7] at h
  split at h
  · rename_i d0 q_out5 i6 q_next8 n9 lists10 lists11 lists12 lists13 out14 next15
    simp only [GT.run] at h
    have hc := (cond_noneL h).1
    replace h := (cond_noneL h).2
    have hg := (and_split hc).1
    replace hc := (and_split hc).2
    obtain rfl := nbeq_nat hg
    have hg := (and_split hc).1
    replace hc := (and_split hc).2
    obtain rfl := nbeq_nat hg
    refine ⟨F, (spec_l6All_iter7 F d0 i6 lists10 lists11 lists12 lists13 out14 k F n9 next15).trans ((loopC_use (spec_l6All_s7_nat F d0 i6 lists10 lists11 lists12 lists13 out14) hc _).trans h)⟩
  · simp only [GT.run] at h
    cases h
noncomputable def spec_l6All_LS2 (F : Nat) : LT := (7, spec_l6All_ls7 F) :: spec_l6All_LS1 F
theorem spec_l6All_lsok2 (F : Nat) : LoopsOK Tryz.prog (spec_l6All_LS2 F) (bodyOf Tryz.f22) := loopsOK_cons spec_l6All_keys (spec_l6All_lok7 F) (spec_l6All_lsok1 F)
def spec_l6All_st3 (d0 : Int) (lists7 : List (List Int)) (lists8 : List (List Int)) (lists9 : List (List Int)) (lists10 : List (List Int)) (i6 : Int) (out11 : List (List Int)) : St := ⟨expand 53 0 [1, 5, 6, 7] [(.int .i64 d0), (.ptr 0 0 0 4), (.sl 1 0 (List.length out11)), (.int .i64 i6)], [(.var 4 (.rv [(.rr 4 lists7), (.rr 4 lists8), (.rr 4 lists9), (.rr 4 lists10)])), (.vec 26 (.rr 16 out11))], 0, []⟩
def spec_l6All_o3 (d0 : Int) (lists7 : List (List Int)) (lists8 : List (List Int)) (lists9 : List (List Int)) (lists10 : List (List Int)) (x : List (List Int)) : GT := (.out (.exit 0 ⟨expand 53 0 [6] [(.sl 0 0 (List.length x))], [(.vec 26 (.rr 16 x))], 0, []⟩))
def spec_l6All_ls3 (F : Nat) : LoopS := ⟨53, [1, 5, 6, 7], [], [6], [], [4], [], [], fun vals mem np killed => match vals, mem, np, killed with
  | [(.int .i64 d0), (.ptr 0 0 0 4), (.sl 1 0 q_out5), (.int .i64 i6)], [(.var 4 (.rv [(.rr 4 lists7), (.rr 4 lists8), (.rr 4 lists9), (.rr 4 lists10)])), (.vec 26 (.rr 16 out11))], 0, [] => .br ((Nat.beq q_out5 (List.length out11)) && (spec_l6All_l3 F d0 lists7 lists8 lists9 lists10 i6 out11).isSome) (spec_l6All_o3 d0 lists7 lists8 lists9 lists10 ((spec_l6All_l3 F d0 lists7 lists8 lists9 lists10 i6 out11).getD default)) .fail
  | _, _, _, _ => .fail⟩
theorem spec_l6All_step3 (F : Nat) (d0 : Int) (lists7 : List (List Int)) (lists8 : List (List Int)) (lists9 : List (List Int)) (lists10 : List (List Int)) (i6 : Int) (out11 : List (List Int)) {R : Type} (k : Out → Option R) : stepS tt (spec_l6All_tab F) (spec_l6All_LS2 F) 70 (spec_l6All_ls3 F) (loopAt 3 (bodyOf Tryz.f22)) (spec_l6All_st3 d0 lists7 lists8 lists9 lists10 i6 out11) k = spec_l6All_s3 F d0 lists7 lists8 lists9 lists10 R (i6, out11) (fun s => k (.norm (spec_l6All_st3 d0 lists7 lists8 lists9 lists10 s.1 s.2))) (fun x => (spec_l6All_o3 d0 lists7 lists8 lists9 lists10 x).run k) := by kernel_rfl
theorem spec_l6All_iter3 (F : Nat) (d0 : Int) (lists7 : List (List Int)) (lists8 : List (List Int)) (lists9 : List (List Int)) (lists10 : List (List Int)) {R : Type} (k : Out → Option R) : ∀ (n : Nat) (i6 : Int) (out11 : List (List Int)), iterS tt (spec_l6All_tab F) (spec_l6All_LS2 F) 70 (spec_l6All_ls3 F) (loopAt 3 (bodyOf Tryz.f22)) n (spec_l6All_st3 d0 lists7 lists8 lists9 lists10 i6 out11) k = loopC (spec_l6All_s3 F d0 lists7 lists8 lists9 lists10) n (i6, out11) (fun x => (spec_l6All_o3 d0 lists7 lists8 lists9 lists10 x).run k)
  | 0, i6, out11 => rfl
  | n + 1, i6, out11 => (iterS_succ tt (spec_l6All_tab F) (spec_l6All_LS2 F) 70 (spec_l6All_ls3 F) (loopAt 3 (bodyOf Tryz.f22)) n (spec_l6All_st3 d0 lists7 lists8 lists9 lists10 i6 out11) k).trans ((spec_l6All_step3 F d0 lists7 lists8 lists9 lists10 i6 out11 (nextK (iterS tt (spec_l6All_tab F) (spec_l6All_LS2 F) 70 (spec_l6All_ls3 F) (loopAt 3 (bodyOf Tryz.f22)) n) k)).trans (congrArg (fun kn => spec_l6All_s3 F d0 lists7 lists8 lists9 lists10 R (i6, out11) kn _) (funext (fun ⟨i6, out11⟩ => spec_l6All_iter3 F d0 lists7 lists8 lists9 lists10 k n i6 out11))))
theorem spec_l6All_lok3 (F : Nat) : LoopOK Tryz.prog (loopAt 3 (bodyOf Tryz.f22)) (spec_l6All_ls3 F) := by
  refine loopOK_of mixed ttok deep (spec_l6All_tabok F) (loopsOK_at (spec_l6All_lsok2 F) 3) (fuel := 70) fun R vals mem np killed k x h => ?_
  simp only [spec_l6All_ls3] at h
  split at h
  · rename_i d0 q_out5 i6 lists7 lists8 lists9 lists10 out11
    simp only [GT.run] at h
    have hc := (cond_noneL h).1
    replace h := (cond_noneL h).2
    have hg := (and_split hc).1
    replace hc := (and_split hc).2
    obtain rfl := nbeq_nat hg
    refine ⟨F, (spec_l6All_iter3 F d0 lists7 lists8 lists9 lists10 k F i6 out11).trans ((loopC_use (spec_l6All_s3_nat F d0 lists7 lists8 lists9 lists10) hc _).trans h)⟩
  · simp only [GT.run] at h
    cases h
noncomputable def spec_l6All_LS3 (F : Nat) : LT := (3, spec_l6All_ls3 F) :: spec_l6All_LS2 F
theorem spec_l6All_lsok3 (F : Nat) : LoopsOK Tryz.prog (spec_l6All_LS3 F) (bodyOf Tryz.f22) := loopsOK_cons spec_l6All_keys (spec_l6All_lok3 F) (spec_l6All_lsok2 F)
theorem spec_l6All_run (F : Nat) (b0 : List Int) (d1 : Int) : runS tt (spec_l6All_tab F) (spec_l6All_LS3 F) [] [] Tryz.f22 (bodyOf Tryz.f22) 70 [(.ints 16 b0), (.int .i64 d1)] [] = spec_l6All_c _ F b0 d1 (fun r => some ⟨(.sl 0 0 (List.length r)), [(.vec 26 (.rr 16 r))], []⟩) := by kernel_rfl
def spec_l6All_ent (F : Nat) : Ent := ⟨[], .fresh, fun args mem => match args, mem with
  | [(.ints 16 b0), (.int .i64 d1)], [] => some ((spec_l6All_p F b0 d1).isSome, ⟨(.sl 0 0 (List.length ((spec_l6All_p F b0 d1).getD default))), [(.vec 26 (.rr 16 ((spec_l6All_p F b0 d1).getD default)))], []⟩)
  | _, _ => none⟩
theorem spec_l6All_fok : FunOK Tryz.prog 22 := funOK Tryz.func22 (by kernel_rfl) rfl
theorem spec_l6All_meets (F : Nat) : Meets Tryz.prog 22 (spec_l6All_ent F) := by
  refine meets_of_runS mixed ttok deep (spec_l6All_tabok F) Tryz.func22 (body_some rfl) (spec_l6All_lsok3 F) fun args mem hfit ret h => ?_
  clear hfit
  simp only [spec_l6All_ent] at h
  split at h
  · rename_i b0 d1
    simp only [Option.some.injEq, Prod.mk.injEq] at h
    obtain ⟨hc, rfl⟩ := h
    exact ⟨[], [], 70, _, (spec_l6All_run F b0 d1).trans ((spec_l6All_cp _ F b0 d1 _).trans (bind_use hc _)), rfl, rfl, rfl⟩
  · cases h

/-! loop.example/g01194/spec.l2Before -/
noncomputable def spec_l2Before_tab (F : Nat) : Tab := []
theorem spec_l2Before_tabok (F : Nat) : TabOK Tryz.prog (spec_l2Before_tab F) := tab_nil
noncomputable def spec_l2Before_LS0 (F : Nat) : LT := []
theorem spec_l2Before_lsok0 (F : Nat) : LoopsOK Tryz.prog (spec_l2Before_LS0 F) (bodyOf Tryz.f35) := loopsOK_nil
theorem spec_l2Before_keys : keysOK (bodyOf Tryz.f35) = true := by kernel_rfl
def spec_l2Before_st5 (r6 : Int) (a8 : List Int) (b9 : List Int) (c7 : Int) : St := ⟨expand 41 0 [2, 3, 5, 6] [(.ptr 0 0 0 16), (.ptr 1 0 0 16), (.int .i64 r6), (.int .i64 c7)], [(.var 16 (.ri .i64 a8)), (.var 16 (.ri .i64 b9))], 0, []⟩
def spec_l2Before_o5 (r6 : Int) (a8 : List Int) (b9 : List Int) (x : Bool × Bool) : GT := (.br x.1 (.out (.ret ⟨expand 41 0 [4] [(.bool x.2)], [], 0, []⟩)) (.out (.exit 2 ⟨expand 41 0 [2, 3, 5] [(.ptr 0 0 0 16), (.ptr 1 0 0 16), (.int .i64 r6)], [(.var 16 (.ri .i64 a8)), (.var 16 (.ri .i64 b9))], 0, []⟩)))
def spec_l2Before_ls5 (F : Nat) : LoopS := ⟨41, [2, 3, 5, 6], [], [2, 3, 5], [], [4], [], [], fun vals mem np killed => match vals, mem, np, killed with
  | [(.ptr 0 0 0 16), (.ptr 1 0 0 16), (.int .i64 r6), (.int .i64 c7)], [(.var 16 (.ri .i64 a8)), (.var 16 (.ri .i64 b9))], 0, [] => .br (spec_l2Before_l5 F r6 a8 b9 c7).isSome (spec_l2Before_o5 r6 a8 b9 ((spec_l2Before_l5 F r6 a8 b9 c7).getD default)) .fail
  | _, _, _, _ => .fail⟩
theorem spec_l2Before_step5 (F : Nat) (r6 : Int) (a8 : List Int) (b9 : List Int) (c7 : Int) {R : Type} (k : Out → Option R) : stepS tt (spec_l2Before_tab F) (spec_l2Before_LS0 F) 70 (spec_l2Before_ls5 F) (loopAt 5 (bodyOf Tryz.f35)) (spec_l2Before_st5 r6 a8 b9 c7) k = spec_l2Before_s5 F r6 a8 b9 R c7 (fun s => k (.norm (spec_l2Before_st5 r6 a8 b9 s))) (fun x => (spec_l2Before_o5 r6 a8 b9 x).run k) := by kernel_rfl
theorem spec_l2Before_iter5 (F : Nat) (r6 : Int) (a8 : List Int) (b9 : List Int) {R : Type} (k : Out → Option R) : ∀ (n : Nat) (c7 : Int), iterS tt (spec_l2Before_tab F) (spec_l2Before_LS0 F) 70 (spec_l2Before_ls5 F) (loopAt 5 (bodyOf Tryz.f35)) n (spec_l2Before_st5 r6 a8 b9 c7) k = loopC (spec_l2Before_s5 F r6 a8 b9) n c7 (fun x => (spec_l2Before_o5 r6 a8 b9 x).run k)
  | 0, c7 => rfl
  | n + 1, c7 => (iterS_succ tt (spec_l2Before_tab F) (spec_l2Before_LS0 F) 70 (spec_l2Before_ls5 F) (loopAt 5 (bodyOf Tryz.f35)) n (spec_l2Before_st5 r6 a8 b9 c7) k).trans ((spec_l2Before_step5 F r6 a8 b9 c7 (nextK (iterS tt (spec_l2Before_tab F) (spec_l2Before_LS0 F) 70 (spec_l2Before_ls5 F) (loopAt 5 (bodyOf Tryz.f35)) n) k)).trans (congrArg (fun kn => spec_l2Before_s5 F r6 a8 b9 R c7 kn _) (funext (fun c7 => spec_l2Before_iter5 F r6 a8 b9 k n c7))))
theorem spec_l2Before_lok5 (F : Nat) : LoopOK Tryz.prog (loopAt 5 (bodyOf Tryz.f35)) (spec_l2Before_ls5 F) := by
  refine loopOK_of mixed ttok deep (spec_l2Before_tabok F) (loopsOK_at (spec_l2Before_lsok0 F) 5) (fuel := 70) fun R vals mem np killed k x h => ?_
  simp only [spec_l2Before_ls5] at h
  split at h
  · rename_i r6 c7 a8 b9
    simp only [GT.run] at h
    have hc := (cond_noneL h).1
    replace h := (cond_noneL h).2
    refine ⟨F, (spec_l2Before_iter5 F r6 a8 b9 k F c7).trans ((loopC_use (spec_l2Before_s5_nat F r6 a8 b9) hc _).trans h)⟩
  · simp only [GT.run] at h
    cases h
noncomputable def spec_l2Before_LS1 (F : Nat) : LT := (5, spec_l2Before_ls5 F) :: spec_l2Before_LS0 F
theorem spec_l2Before_lsok1 (F : Nat) : LoopsOK Tryz.prog (spec_l2Before_LS1 F) (bodyOf Tryz.f35) := loopsOK_cons spec_l2Before_keys (spec_l2Before_lok5 F) (spec_l2Before_lsok0 F)
def spec_l2Before_st2 (a7 : List Int) (b8 : List Int) (r6 : Int) : St := ⟨expand 41 0 [2, 3, 5] [(.ptr 0 0 0 16), (.ptr 1 0 0 16), (.int .i64 r6)], [(.var 16 (.ri .i64 a7)), (.var 16 (.ri .i64 b8))], 0, []⟩
def spec_l2Before_o2 (a7 : List Int) (b8 : List Int) (x : Bool × Bool) : GT := (.br x.1 (.out (.ret ⟨expand 41 0 [4] [(.bool x.2)], [], 0, []⟩)) (.out (.exit 0 ⟨expand 41 0 [] [], [], 0, []⟩)))
def spec_l2Before_ls2 (F : Nat) : LoopS := ⟨41, [2, 3, 5], [], [], [], [4], [], [], fun vals mem np killed => match vals, mem, np, killed with
  | [(.ptr 0 0 0 16), (.ptr 1 0 0 16), (.int .i64 r6)], [(.var 16 (.ri .i64 a7)), (.var 16 (.ri .i64 b8))], 0, [] => .br (spec_l2Before_l2 F a7 b8 r6).isSome (spec_l2Before_o2 a7 b8 ((spec_l2Before_l2 F a7 b8 r6).getD default)) .fail
  | _, _, _, _ => .fail⟩
theorem spec_l2Before_step2 (F : Nat) (a7 : List Int) (b8 : List Int) (r6 : Int) {R : Type} (k : Out → Option R) : stepS tt (spec_l2Before_tab F) (spec_l2Before_LS1 F) 70 (spec_l2Before_ls2 F) (loopAt 2 (bodyOf Tryz.f35)) (spec_l2Before_st2 a7 b8 r6) k = spec_l2Before_s2 F a7 b8 R r6 (fun s => k (.norm (spec_l2Before_st2 a7 b8 s))) (fun x => (spec_l2Before_o2 a7 b8 x).run k) := by kernel_rfl
theorem spec_l2Before_iter2 (F : Nat) (a7 : List Int) (b8 : List Int) {R : Type} (k : Out → Option R) : ∀ (n : Nat) (r6 : Int), iterS tt (spec_l2Before_tab F) (spec_l2Before_LS1 F) 70 (spec_l2Before_ls2 F) (loopAt 2 (bodyOf Tryz.f35)) n (spec_l2Before_st2 a7 b8 r6) k = loopC (spec_l2Before_s2 F a7 b8) n r6 (fun x => (spec_l2Before_o2 a7 b8 x).run k)
  | 0, r6 => rfl
  | n + 1, r6 => (iterS_succ tt (spec_l2Before_tab F) (spec_l2Before_LS1 F) 70 (spec_l2Before_ls2 F) (loopAt 2 (bodyOf Tryz.f35)) n (spec_l2Before_st2 a7 b8 r6) k).trans ((spec_l2Before_step2 F a7 b8 r6 (nextK (iterS tt (spec_l2Before_tab F) (spec_l2Before_LS1 F) 70 (spec_l2Before_ls2 F) (loopAt 2 (bodyOf Tryz.f35)) n) k)).trans (congrArg (fun kn => spec_l2Before_s2 F a7 b8 R r6 kn _) (funext (fun r6 => spec_l2Before_iter2 F a7 b8 k n r6))))
theorem spec_l2Before_lok2 (F : Nat) : LoopOK Tryz.prog (loopAt 2 (bodyOf Tryz.f35)) (spec_l2Before_ls2 F) := by
  refine loopOK_of mixed ttok deep (spec_l2Before_tabok F) (loopsOK_at (spec_l2Before_lsok1 F) 2) (fuel := 70) fun R vals mem np killed k x h => ?_
  simp only [spec_l2Before_ls2] at h
  split at h
  · rename_i r6 a7 b8
    simp only [GT.run] at h
    have hc := (cond_noneL h).1
    replace h := (cond_noneL h).2
    refine ⟨F, (spec_l2Before_iter2 F a7 b8 k F r6).trans ((loopC_use (spec_l2Before_s2_nat F a7 b8) hc _).trans h)⟩
  · simp only [GT.run] at h
    cases h
noncomputable def spec_l2Before_LS2 (F : Nat) : LT := (2, spec_l2Before_ls2 F) :: spec_l2Before_LS1 F
theorem spec_l2Before_lsok2 (F : Nat) : LoopsOK Tryz.prog (spec_l2Before_LS2 F) (bodyOf Tryz.f35) := loopsOK_cons spec_l2Before_keys (spec_l2Before_lok2 F) (spec_l2Before_lsok1 F)
theorem spec_l2Before_run (F : Nat) (a0 : List Int) (b1 : List Int) : runS tt (spec_l2Before_tab F) (spec_l2Before_LS2 F) [] [] Tryz.f35 (bodyOf Tryz.f35) 70 [(.ints 16 a0), (.ints 16 b1)] [] = spec_l2Before_c _ F a0 b1 (fun r => some ⟨(.bool r), [], []⟩) := by kernel_rfl
def spec_l2Before_ent (F : Nat) : Ent := ⟨[], .quiet, fun args mem => match args, mem with
  | [(.ints 16 a0), (.ints 16 b1)], [] => some ((spec_l2Before_p F a0 b1).isSome, ⟨(.bool ((spec_l2Before_p F a0 b1).getD default)), [], []⟩)
  | _, _ => none⟩
theorem spec_l2Before_fok : FunOK Tryz.prog 35 := funOK Tryz.func35 (by kernel_rfl) rfl
theorem spec_l2Before_meets (F : Nat) : Meets Tryz.prog 35 (spec_l2Before_ent F) := by
  refine meets_of_runS mixed ttok deep (spec_l2Before_tabok F) Tryz.func35 (body_some rfl) (spec_l2Before_lsok2 F) fun args mem hfit ret h => ?_
  clear hfit
  simp only [spec_l2Before_ent] at h
  split at h
  · rename_i a0 b1
    simp only [Option.some.injEq, Prod.mk.injEq] at h
    obtain ⟨hc, rfl⟩ := h
    exact ⟨[], [], 70, _, (spec_l2Before_run F a0 b1).trans ((spec_l2Before_cp _ F a0 b1 _).trans (bind_use hc _)), rfl, rfl, rfl⟩
  · cases h

/-! loop.example/g01194/spec.l6Sorted -/
noncomputable def spec_l6Sorted_tab (F : Nat) : Tab := [(35, (spec_l2Before_ent F))]
theorem spec_l6Sorted_tabok (F : Nat) : TabOK Tryz.prog (spec_l6Sorted_tab F) := (tab_cons (spec_l2Before_meets F) spec_l2Before_fok tab_nil)
noncomputable def spec_l6Sorted_LS0 (F : Nat) : LT := []
theorem spec_l6Sorted_lsok0 (F : Nat) : LoopsOK Tryz.prog (spec_l6Sorted_LS0 F) (bodyOf Tryz.f21) := loopsOK_nil
theorem spec_l6Sorted_keys : keysOK (bodyOf Tryz.f21) = true := by kernel_rfl
def spec_l6Sorted_st7 (list0 : List (List Int)) (i6 : Int) (without8 : List Int) (out9 : List (List Int)) (n7 : Int) : St := ⟨expand 55 0 [0, 3, 5, 6, 7] [(.rr 16 list0), (.ptr 0 0 0 16), (.sl 1 0 (List.length out9)), (.int .i64 i6), (.int .i64 n7)], [(.var 16 (.ri .i64 without8)), (.vec 26 (.rr 16 out9))], 0, []⟩
def spec_l6Sorted_o7 (list0 : List (List Int)) (i6 : Int) (without8 : List Int) (out9 : List (List Int)) (x : Int) : GT := (.out (.exit 2 ⟨expand 55 0 [0, 3, 5, 6, 7] [(.rr 16 list0), (.ptr 0 0 0 16), (.sl 1 0 (List.length out9)), (.int .i64 i6), (.int .i64 x)], [(.var 16 (.ri .i64 without8)), (.vec 26 (.rr 16 out9))], 0, []⟩))
def spec_l6Sorted_ls7 (F : Nat) : LoopS := ⟨55, [0, 3, 5, 6, 7], [], [0, 3, 5, 6, 7], [], [4], [], [], fun vals mem np killed => match vals, mem, np, killed with
  | [(.rr 16 list0), (.ptr 0 0 0 16), (.sl 1 0 q_out5), (.int .i64 i6), (.int .i64 n7)], [(.var 16 (.ri .i64 without8)), (.vec 26 (.rr 16 out9))], 0, [] => .br ((Nat.beq q_out5 (List.length out9)) && (spec_l6Sorted_l7 F list0 i6 without8 out9 n7).isSome) (spec_l6Sorted_o7 list0 i6 without8 out9 ((spec_l6Sorted_l7 F list0 i6 without8 out9 n7).getD default)) .fail
  | _, _, _, _ => .fail⟩
theorem spec_l6Sorted_step7 (F : Nat) (list0 : List (List Int)) (i6 : Int) (without8 : List Int) (out9 : List (List Int)) (n7 : Int) {R : Type} (k : Out → Option R) : stepS tt (spec_l6Sorted_tab F) (spec_l6Sorted_LS0 F) 70 (spec_l6Sorted_ls7 F) (loopAt 7 (bodyOf Tryz.f21)) (spec_l6Sorted_st7 list0 i6 without8 out9 n7) k = spec_l6Sorted_s7 F list0 i6 without8 out9 R n7 (fun s => k (.norm (spec_l6Sorted_st7 list0 i6 without8 out9 s))) (fun x => (spec_l6Sorted_o7 list0 i6 without8 out9 x).run k) := by kernel_rfl
theorem spec_l6Sorted_iter7 (F : Nat) (list0 : List (List Int)) (i6 : Int) (without8 : List Int) (out9 : List (List Int)) {R : Type} (k : Out → Option R) : ∀ (n : Nat) (n7 : Int), iterS tt (spec_l6Sorted_tab F) (spec_l6Sorted_LS0 F) 70 (spec_l6Sorted_ls7 F) (loopAt 7 (bodyOf Tryz.f21)) n (spec_l6Sorted_st7 list0 i6 without8 out9 n7) k = loopC (spec_l6Sorted_s7 F list0 i6 without8 out9) n n7 (fun x => (spec_l6Sorted_o7 list0 i6 without8 out9 x).run k)
  | 0, n7 => rfl
  | n + 1, n7 => (iterS_succ tt (spec_l6Sorted_tab F) (spec_l6Sorted_LS0 F) 70 (spec_l6Sorted_ls7 F) (loopAt 7 (bodyOf Tryz.f21)) n (spec_l6Sorted_st7 list0 i6 without8 out9 n7) k).trans ((spec_l6Sorted_step7 F list0 i6 without8 out9 n7 (nextK (iterS tt (spec_l6Sorted_tab F) (spec_l6Sorted_LS0 F) 70 (spec_l6Sorted_ls7 F) (loopAt 7 (bodyOf Tryz.f21)) n) k)).trans (congrArg (fun kn => spec_l6Sorted_s7 F list0 i6 without8 out9 R n7 kn _) (funext (fun n7 => spec_l6Sorted_iter7 F list0 i6 without8 out9 k n n7))))
theorem spec_l6Sorted_lok7 (F : Nat) : LoopOK Tryz.prog (loopAt 7 (bodyOf Tryz.f21)) (spec_l6Sorted_ls7 F) := by
  refine loopOK_of mixed ttok deep (spec_l6Sorted_tabok F) (loopsOK_at (spec_l6Sorted_lsok0 F) 7) (fuel := 70) fun R vals mem np killed k x h => ?_
  simp only [spec_l6Sorted_ls7] at h
  split at h
  · rename_i list0 q_out5 i6 n7 without8 out9
    simp only [GT.run] at h
    have hc := (cond_noneL h).1
    replace h := (cond_noneL h).2
    have hg := (and_split hc).1
    replace hc := (and_split hc).2
    obtain rfl := nbeq_nat hg
    refine ⟨F, (spec_l6Sorted_iter7 F list0 i6 without8 out9 k F n7).trans ((loopC_use (spec_l6Sorted_s7_nat F list0 i6 without8 out9) hc _).trans h)⟩
  · simp only [GT.run] at h
    cases h
noncomputable def spec_l6Sorted_LS1 (F : Nat) : LT := (7, spec_l6Sorted_ls7 F) :: spec_l6Sorted_LS0 F
theorem spec_l6Sorted_lsok1 (F : Nat) : LoopsOK Tryz.prog (spec_l6Sorted_LS1 F) (bodyOf Tryz.f21) := loopsOK_cons spec_l6Sorted_keys (spec_l6Sorted_lok7 F) (spec_l6Sorted_lsok0 F)
def spec_l6Sorted_st3 (list0 : List (List Int)) (without7 : List Int) (i6 : Int) (out8 : List (List Int)) : St := ⟨expand 55 0 [0, 3, 5, 6] [(.rr 16 list0), (.ptr 0 0 0 16), (.sl 1 0 (List.length out8)), (.int .i64 i6)], [(.var 16 (.ri .i64 without7)), (.vec 26 (.rr 16 out8))], 0, []⟩
def spec_l6Sorted_o3 (list0 : List (List Int)) (without7 : List Int) (x : List (List Int)) : GT := (.out (.exit 0 ⟨expand 55 0 [5] [(.sl 0 0 (List.length x))], [(.vec 26 (.rr 16 x))], 0, []⟩))
def spec_l6Sorted_ls3 (F : Nat) : LoopS := ⟨55, [0, 3, 5, 6], [], [5], [], [4], [], [], fun vals mem np killed => match vals, mem, np, killed with
  | [(.rr 16 list0), (.ptr 0 0 0 16), (.sl 1 0 q_out5), (.int .i64 i6)], [(.var 16 (.ri .i64 without7)), (.vec 26 (.rr 16 out8))], 0, [] => .br ((Nat.beq q_out5 (List.length out8)) && (spec_l6Sorted_l3 F list0 without7 i6 out8).isSome) (spec_l6Sorted_o3 list0 without7 ((spec_l6Sorted_l3 F list0 without7 i6 out8).getD default)) .fail
  | _, _, _, _ => .fail⟩
theorem spec_l6Sorted_step3 (F : Nat) (list0 : List (List Int)) (without7 : List Int) (i6 : Int) (out8 : List (List Int)) {R : Type} (k : Out → Option R) : stepS tt (spec_l6Sorted_tab F) (spec_l6Sorted_LS1 F) 70 (spec_l6Sorted_ls3 F) (loopAt 3 (bodyOf Tryz.f21)) (spec_l6Sorted_st3 list0 without7 i6 out8) k = spec_l6Sorted_s3 F list0 without7 R (i6, out8) (fun s => k (.norm (spec_l6Sorted_st3 list0 without7 s.1 s.2))) (fun x => (spec_l6Sorted_o3 list0 without7 x).run k) := by kernel_rfl
theorem spec_l6Sorted_iter3 (F : Nat) (list0 : List (List Int)) (without7 : List Int) {R : Type} (k : Out → Option R) : ∀ (n : Nat) (i6 : Int) (out8 : List (List Int)), iterS tt (spec_l6Sorted_tab F) (spec_l6Sorted_LS1 F) 70 (spec_l6Sorted_ls3 F) (loopAt 3 (bodyOf Tryz.f21)) n (spec_l6Sorted_st3 list0 without7 i6 out8) k = loopC (spec_l6Sorted_s3 F list0 without7) n (i6, out8) (fun x => (spec_l6Sorted_o3 list0 without7 x).run k)
  | 0, i6, out8 => rfl
  | n + 1, i6, out8 => (iterS_succ tt (spec_l6Sorted_tab F) (spec_l6Sorted_LS1 F) 70 (spec_l6Sorted_ls3 F) (loopAt 3 (bodyOf Tryz.f21)) n (spec_l6Sorted_st3 list0 without7 i6 out8) k).trans ((spec_l6Sorted_step3 F list0 without7 i6 out8 (nextK (iterS tt (spec_l6Sorted_tab F) (spec_l6Sorted_LS1 F) 70 (spec_l6Sorted_ls3 F) (loopAt 3 (bodyOf Tryz.f21)) n) k)).trans (congrArg (fun kn => spec_l6Sorted_s3 F list0 without7 R (i6, out8) kn _) (funext (fun ⟨i6, out8⟩ => spec_l6Sorted_iter3 F list0 without7 k n i6 out8))))
theorem spec_l6Sorted_lok3 (F : Nat) : LoopOK Tryz.prog (loopAt 3 (bodyOf Tryz.f21)) (spec_l6Sorted_ls3 F) := by
  refine loopOK_of mixed ttok deep (spec_l6Sorted_tabok F) (loopsOK_at (spec_l6Sorted_lsok1 F) 3) (fuel := 70) fun R vals mem np killed k x h => ?_
  simp only [spec_l6Sorted_ls3] at h
  split at h
  · rename_i list0 q_out5 i6 without7 out8
    simp only [GT.run] at h
    have hc := (cond_noneL h).1
    replace h := (cond_noneL h).2
    have hg := (and_split hc).1
    replace hc := (and_split hc).2
    obtain rfl := nbeq_nat hg
    refine ⟨F, (spec_l6Sorted_iter3 F list0 without7 k F i6 out8).trans ((loopC_use (spec_l6Sorted_s3_nat F list0 without7) hc _).trans h)⟩
  · simp only [GT.run] at h
    cases h
noncomputable def spec_l6Sorted_LS2 (F : Nat) : LT := (3, spec_l6Sorted_ls3 F) :: spec_l6Sorted_LS1 F
theorem spec_l6Sorted_lsok2 (F : Nat) : LoopsOK Tryz.prog (spec_l6Sorted_LS2 F) (bodyOf Tryz.f21) := loopsOK_cons spec_l6Sorted_keys (spec_l6Sorted_lok3 F) (spec_l6Sorted_lsok1 F)
theorem spec_l6Sorted_run (F : Nat) (list0 : List (List Int)) (without1 : List Int) : runS tt (spec_l6Sorted_tab F) (spec_l6Sorted_LS2 F) [] [] Tryz.f21 (bodyOf Tryz.f21) 70 [(.rr 16 list0), (.ints 16 without1)] [] = spec_l6Sorted_c _ F list0 without1 (fun r => some ⟨(.sl 0 0 (List.length r)), [(.vec 26 (.rr 16 r))], []⟩) := by kernel_rfl
def spec_l6Sorted_ent (F : Nat) : Ent := ⟨[], .fresh, fun args mem => match args, mem with
  | [(.rr 16 list0), (.ints 16 without1)], [] => some ((spec_l6Sorted_p F list0 without1).isSome, ⟨(.sl 0 0 (List.length ((spec_l6Sorted_p F list0 without1).getD default))), [(.vec 26 (.rr 16 ((spec_l6Sorted_p F list0 without1).getD default)))], []⟩)
  | _, _ => none⟩
theorem spec_l6Sorted_fok : FunOK Tryz.prog 21 := funOK Tryz.func21 (by kernel_rfl) rfl
theorem spec_l6Sorted_meets (F : Nat) : Meets Tryz.prog 21 (spec_l6Sorted_ent F) := by
  refine meets_of_runS mixed ttok deep (spec_l6Sorted_tabok F) Tryz.func21 (body_some rfl) (spec_l6Sorted_lsok2 F) fun args mem hfit ret h => ?_
  clear hfit
  simp only [spec_l6Sorted_ent] at h
  split at h
  · rename_i list0 without1
    simp only [Option.some.injEq, Prod.mk.injEq] at h
    obtain ⟨hc, rfl⟩ := h
    exact ⟨[], [], 70, _, (spec_l6Sorted_run F list0 without1).trans ((spec_l6Sorted_cp _ F list0 without1 _).trans (bind_use hc _)), rfl, rfl, rfl⟩
  · cases h
end Go.Proofs.YtgmnclpjbhmioaaGreat
