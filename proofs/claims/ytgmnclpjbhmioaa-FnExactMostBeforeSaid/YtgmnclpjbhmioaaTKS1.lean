/-
Pure functions and what the code of them does, by program; without conditions.
-/
import Derived.Test.YtgmnclpjbhmioaaTKP1
import Derived.Test.YtgmnclpjbhmioaaTKS0
namespace Go.Proofs.Ytgmnclpjbhmioaa
open Go Go.Lv Go.Lv.P Go.Proofs
set_option linter.unusedVariables false
set_option linter.unusedSimpArgs false
set_option maxRecDepth 100000
/-! loop.example/g01194/spec.l4Before -/
noncomputable def spec_l4Before_tab (F : Nat) : Tab := [(116, (spec_l1Has_ent F)), (117, (spec_l4Spread_ent F)), (118, (spec_l2Row_ent F)), (119, (spec_l4Put_ent F))]
theorem spec_l4Before_tabok (F : Nat) : TabOK Try.prog (spec_l4Before_tab F) := (tab_cons (spec_l1Has_meets F) spec_l1Has_fok (tab_cons (spec_l4Spread_meets F) spec_l4Spread_fok (tab_cons (spec_l2Row_meets F) spec_l2Row_fok (tab_cons (spec_l4Put_meets F) spec_l4Put_fok tab_nil))))
noncomputable def spec_l4Before_LS0 (F : Nat) : LT := []
theorem spec_l4Before_lsok0 (F : Nat) : LoopsOK Try.prog (spec_l4Before_LS0 F) (bodyOf Try.f86) := loopsOK_nil
theorem spec_l4Before_keys : keysOK (bodyOf Try.f86) = true := by kernel_rfl
def spec_l4Before_st7 (out3 : List (List Int)) (code4 : Int) (row8 : List Int) (k7 : Int) (tiles9 : List Int) : St := ⟨expand 82 0 [1, 3, 4, 5, 6] [(.ptr 0 0 0 4), (.rr 4 out3), (.int .i64 code4), (.sl 1 0 (List.length tiles9)), (.int .i64 k7)], [(.var 4 (.ri .i64 row8)), (.vec 3 (.ri .i64 tiles9))], 0, []⟩
def spec_l4Before_o7 (out3 : List (List Int)) (code4 : Int) (row8 : List Int) (x : List Int) : GT := (.out (.exit 2 ⟨expand 82 0 [1, 3, 4, 5] [(.ptr 0 0 0 4), (.rr 4 out3), (.int .i64 code4), (.sl 1 0 (List.length x))], [(.var 4 (.ri .i64 row8)), (.vec 3 (.ri .i64 x))], 0, []⟩))
def spec_l4Before_ls7 (F : Nat) : LoopS := ⟨82, [1, 3, 4, 5, 6], [], [1, 3, 4, 5], [], [2], [], [], fun vals mem np killed => match vals, mem, np, killed with
  | [(.ptr 0 0 0 4), (.rr 4 out3), (.int .i64 code4), (.sl 1 0 q_tiles6), (.int .i64 k7)], [(.var 4 (.ri .i64 row8)), (.vec 3 (.ri .i64 tiles9))], 0, [] => .br ((Nat.beq q_tiles6 (List.length tiles9)) && (spec_l4Before_l7 F out3 code4 row8 k7 tiles9).isSome) (spec_l4Before_o7 out3 code4 row8 ((spec_l4Before_l7 F out3 code4 row8 k7 tiles9).getD default)) .fail
  | _, _, _, _ => .fail⟩
theorem spec_l4Before_step7 (F : Nat) (out3 : List (List Int)) (code4 : Int) (row8 : List Int) (k7 : Int) (tiles9 : List Int) {R : Type} (k : Out → Option R) : stepS tt (spec_l4Before_tab F) (spec_l4Before_LS0 F) 70 (spec_l4Before_ls7 F) (loopAt 7 (bodyOf Try.f86)) (spec_l4Before_st7 out3 code4 row8 k7 tiles9) k = spec_l4Before_s7 F out3 code4 row8 R (k7, tiles9) (fun s => k (.norm (spec_l4Before_st7 out3 code4 row8 s.1 s.2))) (fun x => (spec_l4Before_o7 out3 code4 row8 x).run k) := by kernel_rfl
theorem spec_l4Before_iter7 (F : Nat) (out3 : List (List Int)) (code4 : Int) (row8 : List Int) {R : Type} (k : Out → Option R) : ∀ (n : Nat) (k7 : Int) (tiles9 : List Int), iterS tt (spec_l4Before_tab F) (spec_l4Before_LS0 F) 70 (spec_l4Before_ls7 F) (loopAt 7 (bodyOf Try.f86)) n (spec_l4Before_st7 out3 code4 row8 k7 tiles9) k = loopC (spec_l4Before_s7 F out3 code4 row8) n (k7, tiles9) (fun x => (spec_l4Before_o7 out3 code4 row8 x).run k)
  | 0, k7, tiles9 => rfl
  | n + 1, k7, tiles9 => (iterS_succ tt (spec_l4Before_tab F) (spec_l4Before_LS0 F) 70 (spec_l4Before_ls7 F) (loopAt 7 (bodyOf Try.f86)) n (spec_l4Before_st7 out3 code4 row8 k7 tiles9) k).trans ((spec_l4Before_step7 F out3 code4 row8 k7 tiles9 (nextK (iterS tt (spec_l4Before_tab F) (spec_l4Before_LS0 F) 70 (spec_l4Before_ls7 F) (loopAt 7 (bodyOf Try.f86)) n) k)).trans (congrArg (fun kn => spec_l4Before_s7 F out3 code4 row8 R (k7, tiles9) kn _) (funext (fun ⟨k7, tiles9⟩ => spec_l4Before_iter7 F out3 code4 row8 k n k7 tiles9))))
theorem spec_l4Before_lok7 (F : Nat) : LoopOK Try.prog (loopAt 7 (bodyOf Try.f86)) (spec_l4Before_ls7 F) := by
  refine loopOK_of mixed ttok deep (spec_l4Before_tabok F) (loopsOK_at (spec_l4Before_lsok0 F) 7) (fuel := 70) fun R vals mem np killed k x h => ?_
  simp only [spec_l4Before_ls7] at h
  split at h
  · rename_i out3 code4 q_tiles6 k7 row8 tiles9
    simp only [GT.run] at h
    have hc := (cond_noneL h).1
    replace h := (cond_noneL h).2
    have hg := (and_split hc).1
    replace hc := (and_split hc).2
    obtain rfl := nbeq_nat hg
    refine ⟨F, (spec_l4Before_iter7 F out3 code4 row8 k F k7 tiles9).trans ((loopC_use (spec_l4Before_s7_nat F out3 code4 row8) hc _).trans h)⟩
  · simp only [GT.run] at h
    cases h
noncomputable def spec_l4Before_LS1 (F : Nat) : LT := (7, spec_l4Before_ls7 F) :: spec_l4Before_LS0 F
theorem spec_l4Before_lsok1 (F : Nat) : LoopsOK Try.prog (spec_l4Before_LS1 F) (bodyOf Try.f86) := loopsOK_cons spec_l4Before_keys (spec_l4Before_lok7 F) (spec_l4Before_lsok0 F)
def spec_l4Before_st15 (code4 : Int) (all6 : Nat) (row8 : List Int) (all9 : List (List Int)) (out3 : List (List Int)) (i7 : Int) : St := ⟨expand 82 0 [1, 3, 4, 7, 8] [(.ptr 0 0 0 4), (.rr 4 out3), (.int .i64 code4), (.sl 1 0 all6), (.int .i64 i7)], [(.var 4 (.ri .i64 row8)), (.vec 22 (.rr 4 all9))], 0, []⟩
def spec_l4Before_o15 (code4 : Int) (all6 : Nat) (row8 : List Int) (all9 : List (List Int)) (x : List (List Int)) : GT := (.out (.exit 4 ⟨expand 82 0 [1, 3, 4] [(.ptr 0 0 0 4), (.rr 4 x), (.int .i64 code4)], [(.var 4 (.ri .i64 row8))], 0, []⟩))
def spec_l4Before_ls15 (F : Nat) : LoopS := ⟨82, [1, 3, 4, 7, 8], [], [1, 3, 4], [], [2], [], [], fun vals mem np killed => match vals, mem, np, killed with
  | [(.ptr 0 0 0 4), (.rr 4 out3), (.int .i64 code4), (.sl 1 0 all6), (.int .i64 i7)], [(.var 4 (.ri .i64 row8)), (.vec 22 (.rr 4 all9))], 0, [] => .br (spec_l4Before_l15 F code4 all6 row8 all9 out3 i7).isSome (spec_l4Before_o15 code4 all6 row8 all9 ((spec_l4Before_l15 F code4 all6 row8 all9 out3 i7).getD default)) .fail
  | _, _, _, _ => .fail⟩
theorem spec_l4Before_step15 (F : Nat) (code4 : Int) (all6 : Nat) (row8 : List Int) (all9 : List (List Int)) (out3 : List (List Int)) (i7 : Int) {R : Type} (k : Out → Option R) : stepS tt (spec_l4Before_tab F) (spec_l4Before_LS1 F) 70 (spec_l4Before_ls15 F) (loopAt 15 (bodyOf Try.f86)) (spec_l4Before_st15 code4 all6 row8 all9 out3 i7) k = spec_l4Before_s15 F code4 all6 row8 all9 R (out3, i7) (fun s => k (.norm (spec_l4Before_st15 code4 all6 row8 all9 s.1 s.2))) (fun x => (spec_l4Before_o15 code4 all6 row8 all9 x).run k) := by kernel_rfl
theorem spec_l4Before_iter15 (F : Nat) (code4 : Int) (all6 : Nat) (row8 : List Int) (all9 : List (List Int)) {R : Type} (k : Out → Option R) : ∀ (n : Nat) (out3 : List (List Int)) (i7 : Int), iterS tt (spec_l4Before_tab F) (spec_l4Before_LS1 F) 70 (spec_l4Before_ls15 F) (loopAt 15 (bodyOf Try.f86)) n (spec_l4Before_st15 code4 all6 row8 all9 out3 i7) k = loopC (spec_l4Before_s15 F code4 all6 row8 all9) n (out3, i7) (fun x => (spec_l4Before_o15 code4 all6 row8 all9 x).run k)
  | 0, out3, i7 => rfl
  | n + 1, out3, i7 => (iterS_succ tt (spec_l4Before_tab F) (spec_l4Before_LS1 F) 70 (spec_l4Before_ls15 F) (loopAt 15 (bodyOf Try.f86)) n (spec_l4Before_st15 code4 all6 row8 all9 out3 i7) k).trans ((spec_l4Before_step15 F code4 all6 row8 all9 out3 i7 (nextK (iterS tt (spec_l4Before_tab F) (spec_l4Before_LS1 F) 70 (spec_l4Before_ls15 F) (loopAt 15 (bodyOf Try.f86)) n) k)).trans (congrArg (fun kn => spec_l4Before_s15 F code4 all6 row8 all9 R (out3, i7) kn _) (funext (fun ⟨out3, i7⟩ => spec_l4Before_iter15 F code4 all6 row8 all9 k n out3 i7))))
theorem spec_l4Before_lok15 (F : Nat) : LoopOK Try.prog (loopAt 15 (bodyOf Try.f86)) (spec_l4Before_ls15 F) := by
  refine loopOK_of mixed ttok deep (spec_l4Before_tabok F) (loopsOK_at (spec_l4Before_lsok1 F) 15) (fuel := 70) fun R vals mem np killed k x h => ?_
  simp only [spec_l4Before_ls15] at h
  split at h
  · rename_i out3 code4 all6 i7 row8 all9
    simp only [GT.run] at h
    have hc := (cond_noneL h).1
    replace h := (cond_noneL h).2
    refine ⟨F, (spec_l4Before_iter15 F code4 all6 row8 all9 k F out3 i7).trans ((loopC_use (spec_l4Before_s15_nat F code4 all6 row8 all9) hc _).trans h)⟩
  · simp only [GT.run] at h
    cases h
noncomputable def spec_l4Before_LS2 (F : Nat) : LT := (15, spec_l4Before_ls15 F) :: spec_l4Before_LS1 F
theorem spec_l4Before_lsok2 (F : Nat) : LoopsOK Try.prog (spec_l4Before_LS2 F) (bodyOf Try.f86) := loopsOK_cons spec_l4Before_keys (spec_l4Before_lok15 F) (spec_l4Before_lsok1 F)
def spec_l4Before_st3 (row5 : List Int) (out3 : List (List Int)) (code4 : Int) : St := ⟨expand 82 0 [1, 3, 4] [(.ptr 0 0 0 4), (.rr 4 out3), (.int .i64 code4)], [(.var 4 (.ri .i64 row5))], 0, []⟩
def spec_l4Before_o3 (row5 : List Int) (x : List (List Int)) : GT := (.out (.exit 0 ⟨expand 82 0 [3] [(.rr 4 x)], [], 0, []⟩))
def spec_l4Before_ls3 (F : Nat) : LoopS := ⟨82, [1, 3, 4], [⟨3, 0, (.tup [])⟩], [3], [], [2], [], [], fun vals mem np killed => match vals, mem, np, killed with
  | [(.ptr 0 0 0 4), (.rr 4 out3), (.int .i64 code4)], [(.var 4 (.ri .i64 row5))], 0, [] => .br (spec_l4Before_l3 F row5 out3 code4).isSome (spec_l4Before_o3 row5 ((spec_l4Before_l3 F row5 out3 code4).getD default)) .fail
  | _, _, _, _ => .fail⟩
theorem spec_l4Before_step3 (F : Nat) (row5 : List Int) (out3 : List (List Int)) (code4 : Int) {R : Type} (k : Out → Option R) : stepS tt (spec_l4Before_tab F) (spec_l4Before_LS2 F) 70 (spec_l4Before_ls3 F) (loopAt 3 (bodyOf Try.f86)) (spec_l4Before_st3 row5 out3 code4) k = spec_l4Before_s3 F row5 R (out3, code4) (fun s => k (.norm (spec_l4Before_st3 row5 s.1 s.2))) (fun x => (spec_l4Before_o3 row5 x).run k) := by kernel_rfl
theorem spec_l4Before_iter3 (F : Nat) (row5 : List Int) {R : Type} (k : Out → Option R) : ∀ (n : Nat) (out3 : List (List Int)) (code4 : Int), iterS tt (spec_l4Before_tab F) (spec_l4Before_LS2 F) 70 (spec_l4Before_ls3 F) (loopAt 3 (bodyOf Try.f86)) n (spec_l4Before_st3 row5 out3 code4) k = loopC (spec_l4Before_s3 F row5) n (out3, code4) (fun x => (spec_l4Before_o3 row5 x).run k)
  | 0, out3, code4 => rfl
  | n + 1, out3, code4 => (iterS_succ tt (spec_l4Before_tab F) (spec_l4Before_LS2 F) 70 (spec_l4Before_ls3 F) (loopAt 3 (bodyOf Try.f86)) n (spec_l4Before_st3 row5 out3 code4) k).trans ((spec_l4Before_step3 F row5 out3 code4 (nextK (iterS tt (spec_l4Before_tab F) (spec_l4Before_LS2 F) 70 (spec_l4Before_ls3 F) (loopAt 3 (bodyOf Try.f86)) n) k)).trans (congrArg (fun kn => spec_l4Before_s3 F row5 R (out3, code4) kn _) (funext (fun ⟨out3, code4⟩ => spec_l4Before_iter3 F row5 k n out3 code4))))
theorem spec_l4Before_lok3 (F : Nat) : LoopOK Try.prog (loopAt 3 (bodyOf Try.f86)) (spec_l4Before_ls3 F) := by
  refine loopOK_of mixed ttok deep (spec_l4Before_tabok F) (loopsOK_at (spec_l4Before_lsok2 F) 3) (fuel := 70) fun R vals mem np killed k x h => ?_
  simp only [spec_l4Before_ls3] at h
  split at h
  · rename_i out3 code4 row5
    simp only [GT.run] at h
    have hc := (cond_noneL h).1
    replace h := (cond_noneL h).2
    refine ⟨F, (spec_l4Before_iter3 F row5 k F out3 code4).trans ((loopC_use (spec_l4Before_s3_nat F row5) hc _).trans h)⟩
  · simp only [GT.run] at h
    cases h
noncomputable def spec_l4Before_LS3 (F : Nat) : LT := (3, spec_l4Before_ls3 F) :: spec_l4Before_LS2 F
theorem spec_l4Before_lsok3 (F : Nat) : LoopsOK Try.prog (spec_l4Before_LS3 F) (bodyOf Try.f86) := loopsOK_cons spec_l4Before_keys (spec_l4Before_lok3 F) (spec_l4Before_lsok2 F)
theorem spec_l4Before_run (F : Nat) (row0 : List Int) : runS tt (spec_l4Before_tab F) (spec_l4Before_LS3 F) [] [] Try.f86 (bodyOf Try.f86) 70 [(.ints 4 row0)] [] = spec_l4Before_c _ F row0 (fun r => some ⟨(.rr 4 r), [], []⟩) := by kernel_rfl
def spec_l4Before_ent (F : Nat) : Ent := ⟨[], .quiet, fun args mem => match args, mem with
  | [(.ints 4 row0)], [] => some ((spec_l4Before_p F row0).isSome, ⟨(.rr 4 ((spec_l4Before_p F row0).getD default)), [], []⟩)
  | _, _ => none⟩
theorem spec_l4Before_fok : FunOK Try.prog 86 := funOK Try.func86 (by kernel_rfl) rfl
theorem spec_l4Before_meets (F : Nat) : Meets Try.prog 86 (spec_l4Before_ent F) := by
  refine meets_of_runS mixed ttok deep (spec_l4Before_tabok F) Try.func86 (body_some rfl) (spec_l4Before_lsok3 F) fun args mem hfit ret h => ?_
  clear hfit
  simp only [spec_l4Before_ent] at h
  split at h
  · rename_i row0
    simp only [Option.some.injEq, Prod.mk.injEq] at h
    obtain ⟨hc, rfl⟩ := h
    exact ⟨[], [], 70, _, (spec_l4Before_run F row0).trans ((spec_l4Before_cp _ F row0 _).trans (bind_use hc _)), rfl, rfl, rfl⟩
  · cases h

/-! loop.example/g01194/spec.l6Lists -/
noncomputable def spec_l6Lists_tab (F : Nat) : Tab := [(87, (spec_l2Numbers_ent F)), (86, (spec_l4Before_ent F))]
theorem spec_l6Lists_tabok (F : Nat) : TabOK Try.prog (spec_l6Lists_tab F) := (tab_cons (spec_l2Numbers_meets F) spec_l2Numbers_fok (tab_cons (spec_l4Before_meets F) spec_l4Before_fok tab_nil))
noncomputable def spec_l6Lists_LS0 (F : Nat) : LT := []
theorem spec_l6Lists_lsok0 (F : Nat) : LoopsOK Try.prog (spec_l6Lists_LS0 F) (bodyOf Try.f53) := loopsOK_nil
theorem spec_l6Lists_run (F : Nat) (b0 : List Int) (d1 : Int) : runS tt (spec_l6Lists_tab F) (spec_l6Lists_LS0 F) [] [] Try.f53 (bodyOf Try.f53) 70 [(.ints 16 b0), (.int .i64 d1)] [] = spec_l6Lists_c _ F b0 d1 (fun r => some ⟨(.agg [(.rr 4 r.1), (.rr 4 r.2.1), (.rr 4 r.2.2.1), (.rr 4 r.2.2.2)]), [], []⟩) := by kernel_rfl
def spec_l6Lists_ent (F : Nat) : Ent := ⟨[], .quiet, fun args mem => match args, mem with
  | [(.ints 16 b0), (.int .i64 d1)], [] => some ((spec_l6Lists_p F b0 d1).isSome, ⟨(.agg [(.rr 4 ((spec_l6Lists_p F b0 d1).getD default).1), (.rr 4 ((spec_l6Lists_p F b0 d1).getD default).2.1), (.rr 4 ((spec_l6Lists_p F b0 d1).getD default).2.2.1), (.rr 4 ((spec_l6Lists_p F b0 d1).getD default).2.2.2)]), [], []⟩)
  | _, _ => none⟩
theorem spec_l6Lists_fok : FunOK Try.prog 53 := funOK Try.func53 (by kernel_rfl) rfl
theorem spec_l6Lists_meets (F : Nat) : Meets Try.prog 53 (spec_l6Lists_ent F) := by
  refine meets_of_runS mixed ttok deep (spec_l6Lists_tabok F) Try.func53 (body_some rfl) (spec_l6Lists_lsok0 F) fun args mem hfit ret h => ?_
  clear hfit
  simp only [spec_l6Lists_ent] at h
  split at h
  · rename_i b0 d1
    simp only [Option.some.injEq, Prod.mk.injEq] at h
    obtain ⟨hc, rfl⟩ := h
    exact ⟨[], [], 70, _, (spec_l6Lists_run F b0 d1).trans ((spec_l6Lists_cp _ F b0 d1 _).trans (bind_use hc _)), rfl, rfl, rfl⟩
  · cases h

/-! loop.example/g01194/spec.l2Put -/
noncomputable def spec_l2Put_tab (F : Nat) : Tab := []
theorem spec_l2Put_tabok (F : Nat) : TabOK Try.prog (spec_l2Put_tab F) := tab_nil
noncomputable def spec_l2Put_LS0 (F : Nat) : LT := []
theorem spec_l2Put_lsok0 (F : Nat) : LoopsOK Try.prog (spec_l2Put_LS0 F) (bodyOf Try.f60) := loopsOK_nil
theorem spec_l2Put_run (F : Nat) (b0 : List Int) (cell1 : List Int) (t2 : Int) : runS tt (spec_l2Put_tab F) (spec_l2Put_LS0 F) [] [] Try.f60 (bodyOf Try.f60) 70 [(.ints 16 b0), (.ints 2 cell1), (.int .i64 t2)] [] = spec_l2Put_c _ b0 cell1 t2 (fun r => some ⟨(.ints 16 r), [], []⟩) := by kernel_rfl
def spec_l2Put_ent (F : Nat) : Ent := ⟨[], .quiet, fun args mem => match args, mem with
  | [(.ints 16 b0), (.ints 2 cell1), (.int .i64 t2)], [] => some ((spec_l2Put_p b0 cell1 t2).isSome, ⟨(.ints 16 ((spec_l2Put_p b0 cell1 t2).getD default)), [], []⟩)
  | _, _ => none⟩
theorem spec_l2Put_fok : FunOK Try.prog 60 := funOK Try.func60 (by kernel_rfl) rfl
theorem spec_l2Put_meets (F : Nat) : Meets Try.prog 60 (spec_l2Put_ent F) := by
  refine meets_of_runS mixed ttok deep (spec_l2Put_tabok F) Try.func60 (body_some rfl) (spec_l2Put_lsok0 F) fun args mem hfit ret h => ?_
  clear hfit
  simp only [spec_l2Put_ent] at h
  split at h
  · rename_i b0 cell1 t2
    simp only [Option.some.injEq, Prod.mk.injEq] at h
    obtain ⟨hc, rfl⟩ := h
    exact ⟨[], [], 70, _, (spec_l2Put_run F b0 cell1 t2).trans ((spec_l2Put_cp _ b0 cell1 t2 _).trans (bind_use hc _)), rfl, rfl, rfl⟩
  · cases h

/-! loop.example/g01194/spec.l2Slide -/
noncomputable def spec_l2Slide_tab (F : Nat) : Tab := [(87, (spec_l2Numbers_ent F)), (118, (spec_l2Row_ent F)), (94, (spec_l2Line_ent F)), (60, (spec_l2Put_ent F))]
theorem spec_l2Slide_tabok (F : Nat) : TabOK Try.prog (spec_l2Slide_tab F) := (tab_cons (spec_l2Numbers_meets F) spec_l2Numbers_fok (tab_cons (spec_l2Row_meets F) spec_l2Row_fok (tab_cons (spec_l2Line_meets F) spec_l2Line_fok (tab_cons (spec_l2Put_meets F) spec_l2Put_fok tab_nil))))
noncomputable def spec_l2Slide_LS0 (F : Nat) : LT := []
theorem spec_l2Slide_lsok0 (F : Nat) : LoopsOK Try.prog (spec_l2Slide_LS0 F) (bodyOf Try.f111) := loopsOK_nil
theorem spec_l2Slide_keys : keysOK (bodyOf Try.f111) = true := by kernel_rfl
def spec_l2Slide_st3 (d0 : Int) (b12 : List Int) (sum10 : Int) (i11 : Int) (out14 : List Int) : St := ⟨expand 46 0 [1, 2, 4, 6, 7, 8] [(.int .i64 d0), (.ptr 0 0 0 16), (.ptr 1 0 0 16), (.ptr 2 0 0 16), (.int .i64 sum10), (.int .i64 i11)], [(.var 16 (.ri .i64 b12)), (.var 16 (.ri .i64 [(0 : Int), (0 : Int), (0 : Int), (0 : Int), (0 : Int), (0 : Int), (0 : Int), (0 : Int), (0 : Int), (0 : Int), (0 : Int), (0 : Int), (0 : Int), (0 : Int), (0 : Int), (0 : Int)])), (.var 16 (.ri .i64 out14))], 0, []⟩
def spec_l2Slide_o3 (d0 : Int) (b12 : List Int) (x : Int × List Int) : GT := (.out (.exit 0 ⟨expand 46 0 [4, 6, 7] [(.ptr 0 0 0 16), (.ptr 1 0 0 16), (.int .i64 x.1)], [(.var 16 (.ri .i64 [(0 : Int), (0 : Int), (0 : Int), (0 : Int), (0 : Int), (0 : Int), (0 : Int), (0 : Int), (0 : Int), (0 : Int), (0 : Int), (0 : Int), (0 : Int), (0 : Int), (0 : Int), (0 : Int)])), (.var 16 (.ri .i64 x.2))], 0, []⟩))
def spec_l2Slide_ls3 (F : Nat) : LoopS := ⟨46, [1, 2, 4, 6, 7, 8], [], [4, 6, 7], [], [4, 5], [], [], fun vals mem np killed => match vals, mem, np, killed with
  | [(.int .i64 d0), (.ptr 0 0 0 16), (.ptr 1 0 0 16), (.ptr 2 0 0 16), (.int .i64 sum10), (.int .i64 i11)], [(.var 16 (.ri .i64 b12)), (.var 16 (.ri .i64 q_t413)), (.var 16 (.ri .i64 out14))], 0, [] => .br ((q_t413 == ([(0 : Int), (0 : Int), (0 : Int), (0 : Int), (0 : Int), (0 : Int), (0 : Int), (0 : Int), (0 : Int), (0 : Int), (0 : Int), (0 : Int), (0 : Int), (0 : Int), (0 : Int), (0 : Int)] : List Int)) && (spec_l2Slide_l3 F d0 b12 sum10 i11 out14).isSome) (spec_l2Slide_o3 d0 b12 ((spec_l2Slide_l3 F d0 b12 sum10 i11 out14).getD default)) .fail
  | _, _, _, _ => .fail⟩
theorem spec_l2Slide_step3 (F : Nat) (d0 : Int) (b12 : List Int) (sum10 : Int) (i11 : Int) (out14 : List Int) {R : Type} (k : Out → Option R) : stepS tt (spec_l2Slide_tab F) (spec_l2Slide_LS0 F) 70 (spec_l2Slide_ls3 F) (loopAt 3 (bodyOf Try.f111)) (spec_l2Slide_st3 d0 b12 sum10 i11 out14) k = spec_l2Slide_s3 F d0 b12 R (sum10, i11, out14) (fun s => k (.norm (spec_l2Slide_st3 d0 b12 s.1 s.2.1 s.2.2))) (fun x => (spec_l2Slide_o3 d0 b12 x).run k) := by kernel_rfl
theorem spec_l2Slide_iter3 (F : Nat) (d0 : Int) (b12 : List Int) {R : Type} (k : Out → Option R) : ∀ (n : Nat) (sum10 : Int) (i11 : Int) (out14 : List Int), iterS tt (spec_l2Slide_tab F) (spec_l2Slide_LS0 F) 70 (spec_l2Slide_ls3 F) (loopAt 3 (bodyOf Try.f111)) n (spec_l2Slide_st3 d0 b12 sum10 i11 out14) k = loopC (spec_l2Slide_s3 F d0 b12) n (sum10, i11, out14) (fun x => (spec_l2Slide_o3 d0 b12 x).run k)
  | 0, sum10, i11, out14 => rfl
  | n + 1, sum10, i11, out14 => (iterS_succ tt (spec_l2Slide_tab F) (spec_l2Slide_LS0 F) 70 (spec_l2Slide_ls3 F) (loopAt 3 (bodyOf Try.f111)) n (spec_l2Slide_st3 d0 b12 sum10 i11 out14) k).trans ((spec_l2Slide_step3 F d0 b12 sum10 i11 out14 (nextK (iterS tt (spec_l2Slide_tab F) (spec_l2Slide_LS0 F) 70 (spec_l2Slide_ls3 F) (loopAt 3 (bodyOf Try.f111)) n) k)).trans (congrArg (fun kn => spec_l2Slide_s3 F d0 b12 R (sum10, i11, out14) kn _) (funext (fun ⟨sum10, i11, out14⟩ => spec_l2Slide_iter3 F d0 b12 k n sum10 i11 out14))))
theorem spec_l2Slide_lok3 (F : Nat) : LoopOK Try.prog (loopAt 3 (bodyOf Try.f111)) (spec_l2Slide_ls3 F) := by
  refine loopOK_of mixed ttok deep (spec_l2Slide_tabok F) (loopsOK_at (spec_l2Slide_lsok0 F) 3) (fuel := 70) fun R vals mem np killed k x h => ?_
  simp only [spec_l2Slide_ls3] at h
  split at h
  · rename_i d0 sum10 i11 b12 q_t413 out14
    simp only [GT.run] at h
    have hc := (cond_noneL h).1
    replace h := (cond_noneL h).2
    have hg := (and_split hc).1
    replace hc := (and_split hc).2
    obtain rfl := beq_li hg
    refine ⟨F, (spec_l2Slide_iter3 F d0 b12 k F sum10 i11 out14).trans ((loopC_use (spec_l2Slide_s3_nat F d0 b12) hc _).trans h)⟩
  · simp only [GT.run] at h
    cases h
noncomputable def spec_l2Slide_LS1 (F : Nat) : LT := (3, spec_l2Slide_ls3 F) :: spec_l2Slide_LS0 F
theorem spec_l2Slide_lsok1 (F : Nat) : LoopsOK Try.prog (spec_l2Slide_LS1 F) (bodyOf Try.f111) := loopsOK_cons spec_l2Slide_keys (spec_l2Slide_lok3 F) (spec_l2Slide_lsok0 F)
theorem spec_l2Slide_run (F : Nat) (b0 : List Int) (d1 : Int) : runS tt (spec_l2Slide_tab F) (spec_l2Slide_LS1 F) [] [] Try.f111 (bodyOf Try.f111) 70 [(.ints 16 b0), (.int .i64 d1)] [] = spec_l2Slide_c _ F b0 d1 (fun r => some ⟨(.tup [(.ints 16 r.1), (.int .i64 r.2)]), [], []⟩) := by kernel_rfl
def spec_l2Slide_ent (F : Nat) : Ent := ⟨[], .quiet, fun args mem => match args, mem with
  | [(.ints 16 b0), (.int .i64 d1)], [] => some ((spec_l2Slide_p F b0 d1).isSome, ⟨(.tup [(.ints 16 ((spec_l2Slide_p F b0 d1).getD default).1), (.int .i64 ((spec_l2Slide_p F b0 d1).getD default).2)]), [], []⟩)
  | _, _ => none⟩
theorem spec_l2Slide_fok : FunOK Try.prog 111 := funOK Try.func111 (by kernel_rfl) rfl
theorem spec_l2Slide_meets (F : Nat) : Meets Try.prog 111 (spec_l2Slide_ent F) := by
  refine meets_of_runS mixed ttok deep (spec_l2Slide_tabok F) Try.func111 (body_some rfl) (spec_l2Slide_lsok1 F) fun args mem hfit ret h => ?_
  clear hfit
  simp only [spec_l2Slide_ent] at h
  split at h
  · rename_i b0 d1
    simp only [Option.some.injEq, Prod.mk.injEq] at h
    obtain ⟨hc, rfl⟩ := h
    exact ⟨[], [], 70, _, (spec_l2Slide_run F b0 d1).trans ((spec_l2Slide_cp _ F b0 d1 _).trans (bind_use hc _)), rfl, rfl, rfl⟩
  · cases h

/-! loop.example/g01194/spec.l6Still -/
noncomputable def spec_l6Still_tab (F : Nat) : Tab := [(111, (spec_l2Slide_ent F))]
theorem spec_l6Still_tabok (F : Nat) : TabOK Try.prog (spec_l6Still_tab F) := (tab_cons (spec_l2Slide_meets F) spec_l2Slide_fok tab_nil)
noncomputable def spec_l6Still_LS0 (F : Nat) : LT := []
theorem spec_l6Still_lsok0 (F : Nat) : LoopsOK Try.prog (spec_l6Still_LS0 F) (bodyOf Try.f80) := loopsOK_nil
theorem spec_l6Still_run (F : Nat) (b0 : List Int) (d1 : Int) : runS tt (spec_l6Still_tab F) (spec_l6Still_LS0 F) [] [] Try.f80 (bodyOf Try.f80) 70 [(.ints 16 b0), (.int .i64 d1)] [] = spec_l6Still_c _ F b0 d1 (fun r => some ⟨(.bool r), [], []⟩) := by kernel_rfl
def spec_l6Still_ent (F : Nat) : Ent := ⟨[], .quiet, fun args mem => match args, mem with
  | [(.ints 16 b0), (.int .i64 d1)], [] => some ((spec_l6Still_p F b0 d1).isSome, ⟨(.bool ((spec_l6Still_p F b0 d1).getD default)), [], []⟩)
  | _, _ => none⟩
theorem spec_l6Still_fok : FunOK Try.prog 80 := funOK Try.func80 (by kernel_rfl) rfl
theorem spec_l6Still_meets (F : Nat) : Meets Try.prog 80 (spec_l6Still_ent F) := by
  refine meets_of_runS mixed ttok deep (spec_l6Still_tabok F) Try.func80 (body_some rfl) (spec_l6Still_lsok0 F) fun args mem hfit ret h => ?_
  clear hfit
  simp only [spec_l6Still_ent] at h
  split at h
  · rename_i b0 d1
    simp only [Option.some.injEq, Prod.mk.injEq] at h
    obtain ⟨hc, rfl⟩ := h
    exact ⟨[], [], 70, _, (spec_l6Still_run F b0 d1).trans ((spec_l6Still_cp _ F b0 d1 _).trans (bind_use hc _)), rfl, rfl, rfl⟩
  · cases h

/-! loop.example/g01194/spec.l6Count -/
noncomputable def spec_l6Count_tab (F : Nat) : Tab := [(53, (spec_l6Lists_ent F)), (80, (spec_l6Still_ent F))]
theorem spec_l6Count_tabok (F : Nat) : TabOK Try.prog (spec_l6Count_tab F) := (tab_cons (spec_l6Lists_meets F) spec_l6Lists_fok (tab_cons (spec_l6Still_meets F) spec_l6Still_fok tab_nil))
noncomputable def spec_l6Count_LS0 (F : Nat) : LT := []
theorem spec_l6Count_lsok0 (F : Nat) : LoopsOK Try.prog (spec_l6Count_LS0 F) (bodyOf Try.f47) := loopsOK_nil
theorem spec_l6Count_run (F : Nat) (b0 : List Int) (d1 : Int) : runS tt (spec_l6Count_tab F) (spec_l6Count_LS0 F) [] [] Try.f47 (bodyOf Try.f47) 70 [(.ints 16 b0), (.int .i64 d1)] [] = spec_l6Count_c _ F b0 d1 (fun r => some ⟨(.int .i64 r), [], []⟩) := by kernel_rfl
def spec_l6Count_ent (F : Nat) : Ent := ⟨[], .quiet, fun args mem => match args, mem with
  | [(.ints 16 b0), (.int .i64 d1)], [] => some ((spec_l6Count_p F b0 d1).isSome, ⟨(.int .i64 ((spec_l6Count_p F b0 d1).getD default)), [], []⟩)
  | _, _ => none⟩
theorem spec_l6Count_fok : FunOK Try.prog 47 := funOK Try.func47 (by kernel_rfl) rfl
theorem spec_l6Count_meets (F : Nat) : Meets Try.prog 47 (spec_l6Count_ent F) := by
  refine meets_of_runS mixed ttok deep (spec_l6Count_tabok F) Try.func47 (body_some rfl) (spec_l6Count_lsok0 F) fun args mem hfit ret h => ?_
  clear hfit
  simp only [spec_l6Count_ent] at h
  split at h
  · rename_i b0 d1
    simp only [Option.some.injEq, Prod.mk.injEq] at h
    obtain ⟨hc, rfl⟩ := h
    exact ⟨[], [], 70, _, (spec_l6Count_run F b0 d1).trans ((spec_l6Count_cp _ F b0 d1 _).trans (bind_use hc _)), rfl, rfl, rfl⟩
  · cases h

/-! loop.example/g01194/spec.CountBefore -/
noncomputable def spec_CountBefore_tab (F : Nat) : Tab := [(45, (spec_l2Board_ent F)), (46, (spec_l2Side_ent F)), (47, (spec_l6Count_ent F))]
theorem spec_CountBefore_tabok (F : Nat) : TabOK Try.prog (spec_CountBefore_tab F) := (tab_cons (spec_l2Board_meets F) spec_l2Board_fok (tab_cons (spec_l2Side_meets F) spec_l2Side_fok (tab_cons (spec_l6Count_meets F) spec_l6Count_fok tab_nil)))
noncomputable def spec_CountBefore_LS0 (F : Nat) : LT := []
theorem spec_CountBefore_lsok0 (F : Nat) : LoopsOK Try.prog (spec_CountBefore_LS0 F) (bodyOf Try.f13) := loopsOK_nil
theorem spec_CountBefore_run (F : Nat) (b0 : List Int) (direction1 : Int) : runS tt (spec_CountBefore_tab F) (spec_CountBefore_LS0 F) [] [] Try.f13 (bodyOf Try.f13) 70 [(.ints 16 b0), (.int .i64 direction1)] [] = spec_CountBefore_c _ F b0 direction1 (fun r => some ⟨(.tup [(.int .i64 r.1), (.bool r.2)]), [], []⟩) := by kernel_rfl
def spec_CountBefore_ent (F : Nat) : Ent := ⟨[], .quiet, fun args mem => match args, mem with
  | [(.ints 16 b0), (.int .i64 direction1)], [] => some ((spec_CountBefore_p F b0 direction1).isSome, ⟨(.tup [(.int .i64 ((spec_CountBefore_p F b0 direction1).getD default).1), (.bool ((spec_CountBefore_p F b0 direction1).getD default).2)]), [], []⟩)
  | _, _ => none⟩
theorem spec_CountBefore_fok : FunOK Try.prog 13 := funOK Try.func13 (by kernel_rfl) rfl
theorem spec_CountBefore_meets (F : Nat) : Meets Try.prog 13 (spec_CountBefore_ent F) := by
  refine meets_of_runS mixed ttok deep (spec_CountBefore_tabok F) Try.func13 (body_some rfl) (spec_CountBefore_lsok0 F) fun args mem hfit ret h => ?_
  clear hfit
  simp only [spec_CountBefore_ent] at h
  split at h
  · rename_i b0 direction1
    simp only [Option.some.injEq, Prod.mk.injEq] at h
    obtain ⟨hc, rfl⟩ := h
    exact ⟨[], [], 70, _, (spec_CountBefore_run F b0 direction1).trans ((spec_CountBefore_cp _ F b0 direction1 _).trans (bind_use hc _)), rfl, rfl, rfl⟩
  · cases h

/-! loop.example/g01194/impl.in -/
noncomputable def impl_in_tab (F : Nat) : Tab := []
theorem impl_in_tabok (F : Nat) : TabOK Try.prog (impl_in_tab F) := tab_nil
noncomputable def impl_in_LS0 (F : Nat) : LT := []
theorem impl_in_lsok0 (F : Nat) : LoopsOK Try.prog (impl_in_LS0 F) (bodyOf Try.f65) := loopsOK_nil
theorem impl_in_run (F : Nat) (n0 : Int) (low1 : Int) (high2 : Int) : runS tt (impl_in_tab F) (impl_in_LS0 F) [] [] Try.f65 (bodyOf Try.f65) 70 [(.int .i64 n0), (.int .i64 low1), (.int .i64 high2)] [] = impl_in_c _ n0 low1 high2 (fun r => some ⟨(.bool r), [], []⟩) := by kernel_rfl
def impl_in_ent (F : Nat) : Ent := ⟨[], .quiet, fun args mem => match args, mem with
  | [(.int .i64 n0), (.int .i64 low1), (.int .i64 high2)], [] => some (true, ⟨(.bool (impl_in_v n0 low1 high2)), [], []⟩)
  | _, _ => none⟩
theorem impl_in_fok : FunOK Try.prog 65 := funOK Try.func65 (by kernel_rfl) rfl
theorem impl_in_meets (F : Nat) : Meets Try.prog 65 (impl_in_ent F) := by
  refine meets_of_runS mixed ttok deep (impl_in_tabok F) Try.func65 (body_some rfl) (impl_in_lsok0 F) fun args mem hfit ret h => ?_
  clear hfit
  simp only [impl_in_ent] at h
  split at h
  · rename_i n0 low1 high2
    simp only [Option.some.injEq, Prod.mk.injEq] at h
    obtain ⟨hc, rfl⟩ := h
    exact ⟨[], [], 70, _, (impl_in_run F n0 low1 high2).trans (impl_in_cv _ n0 low1 high2 _), rfl, rfl, rfl⟩
  · cases h

/-! loop.example/g01194/impl.IsRow$1 -/
noncomputable def impl_IsRow_f1_tab (F : Nat) : Tab := [(65, (impl_in_ent F))]
theorem impl_IsRow_f1_tabok (F : Nat) : TabOK Try.prog (impl_IsRow_f1_tab F) := (tab_cons (impl_in_meets F) impl_in_fok tab_nil)
noncomputable def impl_IsRow_f1_LS0 (F : Nat) : LT := []
theorem impl_IsRow_f1_lsok0 (F : Nat) : LoopsOK Try.prog (impl_IsRow_f1_LS0 F) (bodyOf Try.f114) := loopsOK_nil
theorem impl_IsRow_f1_run (F : Nat) (n0 : Int) : runS tt (impl_IsRow_f1_tab F) (impl_IsRow_f1_LS0 F) [] [] Try.f114 (bodyOf Try.f114) 70 [(.int .i64 n0)] [] = impl_IsRow_f1_c _ n0 (fun r => some ⟨(.bool r), [], []⟩) := by kernel_rfl
def impl_IsRow_f1_ent (F : Nat) : Ent := ⟨[], .quiet, fun args mem => match args, mem with
  | [(.int .i64 n0)], [] => some (true, ⟨(.bool (impl_IsRow_f1_v n0)), [], []⟩)
  | _, _ => none⟩
theorem impl_IsRow_f1_fok : FunOK Try.prog 114 := funOK Try.func114 (by kernel_rfl) rfl
theorem impl_IsRow_f1_meets (F : Nat) : Meets Try.prog 114 (impl_IsRow_f1_ent F) := by
  refine meets_of_runS mixed ttok deep (impl_IsRow_f1_tabok F) Try.func114 (body_some rfl) (impl_IsRow_f1_lsok0 F) fun args mem hfit ret h => ?_
  clear hfit
  simp only [impl_IsRow_f1_ent] at h
  split at h
  · rename_i n0
    simp only [Option.some.injEq, Prod.mk.injEq] at h
    obtain ⟨hc, rfl⟩ := h
    exact ⟨[], [], 70, _, (impl_IsRow_f1_run F n0).trans (impl_IsRow_f1_cv _ n0 _), rfl, rfl, rfl⟩
  · cases h

/-! slices.IndexFunc[[]int,int] -/
noncomputable def slices_IndexFunc_intint_impl_IsRow_f1_tab (F : Nat) : Tab := [(114, (impl_IsRow_f1_ent F))]
theorem slices_IndexFunc_intint_impl_IsRow_f1_tabok (F : Nat) : TabOK Try.prog (slices_IndexFunc_intint_impl_IsRow_f1_tab F) := (tab_cons (impl_IsRow_f1_meets F) impl_IsRow_f1_fok tab_nil)
noncomputable def slices_IndexFunc_intint_impl_IsRow_f1_LS0 (F : Nat) : LT := []
theorem slices_IndexFunc_intint_impl_IsRow_f1_lsok0 (F : Nat) : LoopsOK Try.prog (slices_IndexFunc_intint_impl_IsRow_f1_LS0 F) (bodyOf Try.f126) := loopsOK_nil
theorem slices_IndexFunc_intint_impl_IsRow_f1_keys : keysOK (bodyOf Try.f126) = true := by kernel_rfl
def slices_IndexFunc_intint_impl_IsRow_f1_st2 (s0 : List Int) (t71 : Int) (t82 : Int) : St := ⟨expand 19 0 [0, 1, 7, 8] [(.ri .i64 s0), (.fn 114 [] []), (.int .i64 t71), (.int .i64 t82)], [], 0, []⟩
def slices_IndexFunc_intint_impl_IsRow_f1_o2 (s0 : List Int) (t71 : Int) (x : Bool × Int) : GT := (.br x.1 (.out (.ret ⟨expand 19 0 [4] [(.int .i64 x.2)], [], 0, []⟩)) (.out (.exit 0 ⟨expand 19 0 [] [], [], 0, []⟩)))
def slices_IndexFunc_intint_impl_IsRow_f1_ls2 (F : Nat) : LoopS := ⟨19, [0, 1, 7, 8], [], [], [], [4], [], [], fun vals mem np killed => match vals, mem, np, killed with
  | [(.ri .i64 s0), (.fn 114 [] []), (.int .i64 t71), (.int .i64 t82)], [], 0, [] => .br (slices_IndexFunc_intint_impl_IsRow_f1_l2 F s0 t71 t82).isSome (slices_IndexFunc_intint_impl_IsRow_f1_o2 s0 t71 ((slices_IndexFunc_intint_impl_IsRow_f1_l2 F s0 t71 t82).getD default)) .fail
  | _, _, _, _ => .fail⟩
theorem slices_IndexFunc_intint_impl_IsRow_f1_step2 (F : Nat) (s0 : List Int) (t71 : Int) (t82 : Int) {R : Type} (k : Out → Option R) : stepS tt (slices_IndexFunc_intint_impl_IsRow_f1_tab F) (slices_IndexFunc_intint_impl_IsRow_f1_LS0 F) 70 (slices_IndexFunc_intint_impl_IsRow_f1_ls2 F) (loopAt 2 (bodyOf Try.f126)) (slices_IndexFunc_intint_impl_IsRow_f1_st2 s0 t71 t82) k = slices_IndexFunc_intint_impl_IsRow_f1_s2 F s0 t71 R t82 (fun s => k (.norm (slices_IndexFunc_intint_impl_IsRow_f1_st2 s0 t71 s))) (fun x => (slices_IndexFunc_intint_impl_IsRow_f1_o2 s0 t71 x).run k) := by kernel_rfl
theorem slices_IndexFunc_intint_impl_IsRow_f1_iter2 (F : Nat) (s0 : List Int) (t71 : Int) {R : Type} (k : Out → Option R) : ∀ (n : Nat) (t82 : Int), iterS tt (slices_IndexFunc_intint_impl_IsRow_f1_tab F) (slices_IndexFunc_intint_impl_IsRow_f1_LS0 F) 70 (slices_IndexFunc_intint_impl_IsRow_f1_ls2 F) (loopAt 2 (bodyOf Try.f126)) n (slices_IndexFunc_intint_impl_IsRow_f1_st2 s0 t71 t82) k = loopC (slices_IndexFunc_intint_impl_IsRow_f1_s2 F s0 t71) n t82 (fun x => (slices_IndexFunc_intint_impl_IsRow_f1_o2 s0 t71 x).run k)
  | 0, t82 => rfl
  | n + 1, t82 => (iterS_succ tt (slices_IndexFunc_intint_impl_IsRow_f1_tab F) (slices_IndexFunc_intint_impl_IsRow_f1_LS0 F) 70 (slices_IndexFunc_intint_impl_IsRow_f1_ls2 F) (loopAt 2 (bodyOf Try.f126)) n (slices_IndexFunc_intint_impl_IsRow_f1_st2 s0 t71 t82) k).trans ((slices_IndexFunc_intint_impl_IsRow_f1_step2 F s0 t71 t82 (nextK (iterS tt (slices_IndexFunc_intint_impl_IsRow_f1_tab F) (slices_IndexFunc_intint_impl_IsRow_f1_LS0 F) 70 (slices_IndexFunc_intint_impl_IsRow_f1_ls2 F) (loopAt 2 (bodyOf Try.f126)) n) k)).trans (congrArg (fun kn => slices_IndexFunc_intint_impl_IsRow_f1_s2 F s0 t71 R t82 kn _) (funext (fun t82 => slices_IndexFunc_intint_impl_IsRow_f1_iter2 F s0 t71 k n t82))))
theorem slices_IndexFunc_intint_impl_IsRow_f1_lok2 (F : Nat) : LoopOK Try.prog (loopAt 2 (bodyOf Try.f126)) (slices_IndexFunc_intint_impl_IsRow_f1_ls2 F) := by
  refine loopOK_of mixed ttok deep (slices_IndexFunc_intint_impl_IsRow_f1_tabok F) (loopsOK_at (slices_IndexFunc_intint_impl_IsRow_f1_lsok0 F) 2) (fuel := 70) fun R vals mem np killed k x h => ?_
  simp only [slices_IndexFunc_intint_impl_IsRow_f1_ls2] at h
  split at h
  · rename_i s0 t71 t82
    simp only [GT.run] at h
    have hc := (cond_noneL h).1
    replace h := (cond_noneL h).2
    refine ⟨F, (slices_IndexFunc_intint_impl_IsRow_f1_iter2 F s0 t71 k F t82).trans ((loopC_use (slices_IndexFunc_intint_impl_IsRow_f1_s2_nat F s0 t71) hc _).trans h)⟩
  · simp only [GT.run] at h
    cases h
noncomputable def slices_IndexFunc_intint_impl_IsRow_f1_LS1 (F : Nat) : LT := (2, slices_IndexFunc_intint_impl_IsRow_f1_ls2 F) :: slices_IndexFunc_intint_impl_IsRow_f1_LS0 F
theorem slices_IndexFunc_intint_impl_IsRow_f1_lsok1 (F : Nat) : LoopsOK Try.prog (slices_IndexFunc_intint_impl_IsRow_f1_LS1 F) (bodyOf Try.f126) := loopsOK_cons slices_IndexFunc_intint_impl_IsRow_f1_keys (slices_IndexFunc_intint_impl_IsRow_f1_lok2 F) (slices_IndexFunc_intint_impl_IsRow_f1_lsok0 F)
theorem slices_IndexFunc_intint_impl_IsRow_f1_run (F : Nat) (s0 : List Int) : runS tt (slices_IndexFunc_intint_impl_IsRow_f1_tab F) (slices_IndexFunc_intint_impl_IsRow_f1_LS1 F) [] [] Try.f126 (bodyOf Try.f126) 70 [(.ri .i64 s0), (.fn 114 [] [])] [] = slices_IndexFunc_intint_impl_IsRow_f1_c _ F s0 (fun r => some ⟨(.int .i64 r), [], []⟩) := by kernel_rfl
def slices_IndexFunc_intint_impl_IsRow_f1_ent (F : Nat) : Ent := ⟨[], .quiet, fun args mem => match args, mem with
  | [(.ri .i64 s0), (.fn 114 [] [])], [] => some ((slices_IndexFunc_intint_impl_IsRow_f1_p F s0).isSome, ⟨(.int .i64 ((slices_IndexFunc_intint_impl_IsRow_f1_p F s0).getD default)), [], []⟩)
  | _, _ => none⟩
theorem slices_IndexFunc_intint_impl_IsRow_f1_fok : FunOK Try.prog 126 := funOK Try.func126 (by kernel_rfl) rfl
theorem slices_IndexFunc_intint_impl_IsRow_f1_meets (F : Nat) : Meets Try.prog 126 (slices_IndexFunc_intint_impl_IsRow_f1_ent F) := by
  refine meets_of_runS mixed ttok deep (slices_IndexFunc_intint_impl_IsRow_f1_tabok F) Try.func126 (body_some rfl) (slices_IndexFunc_intint_impl_IsRow_f1_lsok1 F) fun args mem hfit ret h => ?_
  clear hfit
  simp only [slices_IndexFunc_intint_impl_IsRow_f1_ent] at h
  split at h
  · rename_i s0
    simp only [Option.some.injEq, Prod.mk.injEq] at h
    obtain ⟨hc, rfl⟩ := h
    exact ⟨[], [], 70, _, (slices_IndexFunc_intint_impl_IsRow_f1_run F s0).trans ((slices_IndexFunc_intint_impl_IsRow_f1_cp _ F s0 _).trans (bind_use hc _)), rfl, rfl, rfl⟩
  · cases h

/-! slices.ContainsFunc[[]int,int] -/
noncomputable def slices_ContainsFunc_intint_impl_IsRow_f1_tab (F : Nat) : Tab := [(126, (slices_IndexFunc_intint_impl_IsRow_f1_ent F))]
theorem slices_ContainsFunc_intint_impl_IsRow_f1_tabok (F : Nat) : TabOK Try.prog (slices_ContainsFunc_intint_impl_IsRow_f1_tab F) := (tab_cons (slices_IndexFunc_intint_impl_IsRow_f1_meets F) slices_IndexFunc_intint_impl_IsRow_f1_fok tab_nil)
noncomputable def slices_ContainsFunc_intint_impl_IsRow_f1_LS0 (F : Nat) : LT := []
theorem slices_ContainsFunc_intint_impl_IsRow_f1_lsok0 (F : Nat) : LoopsOK Try.prog (slices_ContainsFunc_intint_impl_IsRow_f1_LS0 F) (bodyOf Try.f113) := loopsOK_nil
theorem slices_ContainsFunc_intint_impl_IsRow_f1_run (F : Nat) (s0 : List Int) : runS tt (slices_ContainsFunc_intint_impl_IsRow_f1_tab F) (slices_ContainsFunc_intint_impl_IsRow_f1_LS0 F) [] [] Try.f113 (bodyOf Try.f113) 70 [(.ri .i64 s0), (.fn 114 [] [])] [] = slices_ContainsFunc_intint_impl_IsRow_f1_c _ F s0 (fun r => some ⟨(.bool r), [], []⟩) := by kernel_rfl
def slices_ContainsFunc_intint_impl_IsRow_f1_ent (F : Nat) : Ent := ⟨[], .quiet, fun args mem => match args, mem with
  | [(.ri .i64 s0), (.fn 114 [] [])], [] => some ((slices_ContainsFunc_intint_impl_IsRow_f1_p F s0).isSome, ⟨(.bool ((slices_ContainsFunc_intint_impl_IsRow_f1_p F s0).getD default)), [], []⟩)
  | _, _ => none⟩
theorem slices_ContainsFunc_intint_impl_IsRow_f1_fok : FunOK Try.prog 113 := funOK Try.func113 (by kernel_rfl) rfl
theorem slices_ContainsFunc_intint_impl_IsRow_f1_meets (F : Nat) : Meets Try.prog 113 (slices_ContainsFunc_intint_impl_IsRow_f1_ent F) := by
  refine meets_of_runS mixed ttok deep (slices_ContainsFunc_intint_impl_IsRow_f1_tabok F) Try.func113 (body_some rfl) (slices_ContainsFunc_intint_impl_IsRow_f1_lsok0 F) fun args mem hfit ret h => ?_
  clear hfit
  simp only [slices_ContainsFunc_intint_impl_IsRow_f1_ent] at h
  split at h
  · rename_i s0
    simp only [Option.some.injEq, Prod.mk.injEq] at h
    obtain ⟨hc, rfl⟩ := h
    exact ⟨[], [], 70, _, (slices_ContainsFunc_intint_impl_IsRow_f1_run F s0).trans ((slices_ContainsFunc_intint_impl_IsRow_f1_cp _ F s0 _).trans (bind_use hc _)), rfl, rfl, rfl⟩
  · cases h

/-! loop.example/g01194/impl.IsRow -/
noncomputable def impl_IsRow_tab (F : Nat) : Tab := [(113, (slices_ContainsFunc_intint_impl_IsRow_f1_ent F))]
theorem impl_IsRow_tabok (F : Nat) : TabOK Try.prog (impl_IsRow_tab F) := (tab_cons (slices_ContainsFunc_intint_impl_IsRow_f1_meets F) slices_ContainsFunc_intint_impl_IsRow_f1_fok tab_nil)
noncomputable def impl_IsRow_LS0 (F : Nat) : LT := []
theorem impl_IsRow_lsok0 (F : Nat) : LoopsOK Try.prog (impl_IsRow_LS0 F) (bodyOf Try.f84) := loopsOK_nil
theorem impl_IsRow_run (F : Nat) (row0 : List Int) : runS tt (impl_IsRow_tab F) (impl_IsRow_LS0 F) [] [] Try.f84 (bodyOf Try.f84) 70 [(.ints 4 row0)] [] = impl_IsRow_c _ F row0 (fun r => some ⟨(.bool r), [], []⟩) := by kernel_rfl
def impl_IsRow_ent (F : Nat) : Ent := ⟨[], .quiet, fun args mem => match args, mem with
  | [(.ints 4 row0)], [] => some ((impl_IsRow_p F row0).isSome, ⟨(.bool ((impl_IsRow_p F row0).getD default)), [], []⟩)
  | _, _ => none⟩
theorem impl_IsRow_fok : FunOK Try.prog 84 := funOK Try.func84 (by kernel_rfl) rfl
theorem impl_IsRow_meets (F : Nat) : Meets Try.prog 84 (impl_IsRow_ent F) := by
  refine meets_of_runS mixed ttok deep (impl_IsRow_tabok F) Try.func84 (body_some rfl) (impl_IsRow_lsok0 F) fun args mem hfit ret h => ?_
  clear hfit
  simp only [impl_IsRow_ent] at h
  split at h
  · rename_i row0
    simp only [Option.some.injEq, Prod.mk.injEq] at h
    obtain ⟨hc, rfl⟩ := h
    exact ⟨[], [], 70, _, (impl_IsRow_run F row0).trans ((impl_IsRow_cp _ F row0 _).trans (bind_use hc _)), rfl, rfl, rfl⟩
  · cases h

/-! loop.example/g01194/impl.IsBoard$1 -/
noncomputable def impl_IsBoard_f1_tab (F : Nat) : Tab := [(84, (impl_IsRow_ent F))]
theorem impl_IsBoard_f1_tabok (F : Nat) : TabOK Try.prog (impl_IsBoard_f1_tab F) := (tab_cons (impl_IsRow_meets F) impl_IsRow_fok tab_nil)
noncomputable def impl_IsBoard_f1_LS0 (F : Nat) : LT := []
theorem impl_IsBoard_f1_lsok0 (F : Nat) : LoopsOK Try.prog (impl_IsBoard_f1_LS0 F) (bodyOf Try.f83) := loopsOK_nil
theorem impl_IsBoard_f1_run (F : Nat) (row0 : List Int) : runS tt (impl_IsBoard_f1_tab F) (impl_IsBoard_f1_LS0 F) [] [] Try.f83 (bodyOf Try.f83) 70 [(.ints 4 row0)] [] = impl_IsBoard_f1_c _ F row0 (fun r => some ⟨(.bool r), [], []⟩) := by kernel_rfl
def impl_IsBoard_f1_ent (F : Nat) : Ent := ⟨[], .quiet, fun args mem => match args, mem with
  | [(.ints 4 row0)], [] => some ((impl_IsBoard_f1_p F row0).isSome, ⟨(.bool ((impl_IsBoard_f1_p F row0).getD default)), [], []⟩)
  | _, _ => none⟩
theorem impl_IsBoard_f1_fok : FunOK Try.prog 83 := funOK Try.func83 (by kernel_rfl) rfl
theorem impl_IsBoard_f1_meets (F : Nat) : Meets Try.prog 83 (impl_IsBoard_f1_ent F) := by
  refine meets_of_runS mixed ttok deep (impl_IsBoard_f1_tabok F) Try.func83 (body_some rfl) (impl_IsBoard_f1_lsok0 F) fun args mem hfit ret h => ?_
  clear hfit
  simp only [impl_IsBoard_f1_ent] at h
  split at h
  · rename_i row0
    simp only [Option.some.injEq, Prod.mk.injEq] at h
    obtain ⟨hc, rfl⟩ := h
    exact ⟨[], [], 70, _, (impl_IsBoard_f1_run F row0).trans ((impl_IsBoard_f1_cp _ F row0 _).trans (bind_use hc _)), rfl, rfl, rfl⟩
  · cases h

/-! slices.IndexFunc[[][4]int,[4]int] -/
noncomputable def slices_IndexFunc_4int4int_impl_IsBoard_f1_tab (F : Nat) : Tab := [(83, (impl_IsBoard_f1_ent F))]
theorem slices_IndexFunc_4int4int_impl_IsBoard_f1_tabok (F : Nat) : TabOK Try.prog (slices_IndexFunc_4int4int_impl_IsBoard_f1_tab F) := (tab_cons (impl_IsBoard_f1_meets F) impl_IsBoard_f1_fok tab_nil)
noncomputable def slices_IndexFunc_4int4int_impl_IsBoard_f1_LS0 (F : Nat) : LT := []
theorem slices_IndexFunc_4int4int_impl_IsBoard_f1_lsok0 (F : Nat) : LoopsOK Try.prog (slices_IndexFunc_4int4int_impl_IsBoard_f1_LS0 F) (bodyOf Try.f112) := loopsOK_nil
theorem slices_IndexFunc_4int4int_impl_IsBoard_f1_keys : keysOK (bodyOf Try.f112) = true := by kernel_rfl
def slices_IndexFunc_4int4int_impl_IsBoard_f1_st2 (s0 : List (List Int)) (t71 : Int) (t82 : Int) : St := ⟨expand 19 0 [0, 1, 7, 8] [(.rr 4 s0), (.fn 83 [] []), (.int .i64 t71), (.int .i64 t82)], [], 0, []⟩
def slices_IndexFunc_4int4int_impl_IsBoard_f1_o2 (s0 : List (List Int)) (t71 : Int) (x : Bool × Int) : GT := (.br x.1 (.out (.ret ⟨expand 19 0 [4] [(.int .i64 x.2)], [], 0, []⟩)) (.out (.exit 0 ⟨expand 19 0 [] [], [], 0, []⟩)))
def slices_IndexFunc_4int4int_impl_IsBoard_f1_ls2 (F : Nat) : LoopS := ⟨19, [0, 1, 7, 8], [], [], [], [4], [], [], fun vals mem np killed => match vals, mem, np, killed with
  | [(.rr 4 s0), (.fn 83 [] []), (.int .i64 t71), (.int .i64 t82)], [], 0, [] => .br (slices_IndexFunc_4int4int_impl_IsBoard_f1_l2 F s0 t71 t82).isSome (slices_IndexFunc_4int4int_impl_IsBoard_f1_o2 s0 t71 ((slices_IndexFunc_4int4int_impl_IsBoard_f1_l2 F s0 t71 t82).getD default)) .fail
  | _, _, _, _ => .fail⟩
theorem slices_IndexFunc_4int4int_impl_IsBoard_f1_step2 (F : Nat) (s0 : List (List Int)) (t71 : Int) (t82 : Int) {R : Type} (k : Out → Option R) : stepS tt (slices_IndexFunc_4int4int_impl_IsBoard_f1_tab F) (slices_IndexFunc_4int4int_impl_IsBoard_f1_LS0 F) 70 (slices_IndexFunc_4int4int_impl_IsBoard_f1_ls2 F) (loopAt 2 (bodyOf Try.f112)) (slices_IndexFunc_4int4int_impl_IsBoard_f1_st2 s0 t71 t82) k = slices_IndexFunc_4int4int_impl_IsBoard_f1_s2 F s0 t71 R t82 (fun s => k (.norm (slices_IndexFunc_4int4int_impl_IsBoard_f1_st2 s0 t71 s))) (fun x => (slices_IndexFunc_4int4int_impl_IsBoard_f1_o2 s0 t71 x).run k) := by kernel_rfl
theorem slices_IndexFunc_4int4int_impl_IsBoard_f1_iter2 (F : Nat) (s0 : List (List Int)) (t71 : Int) {R : Type} (k : Out → Option R) : ∀ (n : Nat) (t82 : Int), iterS tt (slices_IndexFunc_4int4int_impl_IsBoard_f1_tab F) (slices_IndexFunc_4int4int_impl_IsBoard_f1_LS0 F) 70 (slices_IndexFunc_4int4int_impl_IsBoard_f1_ls2 F) (loopAt 2 (bodyOf Try.f112)) n (slices_IndexFunc_4int4int_impl_IsBoard_f1_st2 s0 t71 t82) k = loopC (slices_IndexFunc_4int4int_impl_IsBoard_f1_s2 F s0 t71) n t82 (fun x => (slices_IndexFunc_4int4int_impl_IsBoard_f1_o2 s0 t71 x).run k)
  | 0, t82 => rfl
  | n + 1, t82 => (iterS_succ tt (slices_IndexFunc_4int4int_impl_IsBoard_f1_tab F) (slices_IndexFunc_4int4int_impl_IsBoard_f1_LS0 F) 70 (slices_IndexFunc_4int4int_impl_IsBoard_f1_ls2 F) (loopAt 2 (bodyOf Try.f112)) n (slices_IndexFunc_4int4int_impl_IsBoard_f1_st2 s0 t71 t82) k).trans ((slices_IndexFunc_4int4int_impl_IsBoard_f1_step2 F s0 t71 t82 (nextK (iterS tt (slices_IndexFunc_4int4int_impl_IsBoard_f1_tab F) (slices_IndexFunc_4int4int_impl_IsBoard_f1_LS0 F) 70 (slices_IndexFunc_4int4int_impl_IsBoard_f1_ls2 F) (loopAt 2 (bodyOf Try.f112)) n) k)).trans (congrArg (fun kn => slices_IndexFunc_4int4int_impl_IsBoard_f1_s2 F s0 t71 R t82 kn _) (funext (fun t82 => slices_IndexFunc_4int4int_impl_IsBoard_f1_iter2 F s0 t71 k n t82))))
theorem slices_IndexFunc_4int4int_impl_IsBoard_f1_lok2 (F : Nat) : LoopOK Try.prog (loopAt 2 (bodyOf Try.f112)) (slices_IndexFunc_4int4int_impl_IsBoard_f1_ls2 F) := by
  refine loopOK_of mixed ttok deep (slices_IndexFunc_4int4int_impl_IsBoard_f1_tabok F) (loopsOK_at (slices_IndexFunc_4int4int_impl_IsBoard_f1_lsok0 F) 2) (fuel := 70) fun R vals mem np killed k x h => ?_
  simp only [slices_IndexFunc_4int4int_impl_IsBoard_f1_ls2] at h
  split at h
  · rename_i s0 t71 t82
    simp only [GT.run] at h
    have hc := (cond_noneL h).1
    replace h := (cond_noneL h).2
    refine ⟨F, (slices_IndexFunc_4int4int_impl_IsBoard_f1_iter2 F s0 t71 k F t82).trans ((loopC_use (slices_IndexFunc_4int4int_impl_IsBoard_f1_s2_nat F s0 t71) hc _).trans h)⟩
  · simp only [GT.run] at h
    cases h
noncomputable def slices_IndexFunc_4int4int_impl_IsBoard_f1_LS1 (F : Nat) : LT := (2, slices_IndexFunc_4int4int_impl_IsBoard_f1_ls2 F) :: slices_IndexFunc_4int4int_impl_IsBoard_f1_LS0 F
theorem slices_IndexFunc_4int4int_impl_IsBoard_f1_lsok1 (F : Nat) : LoopsOK Try.prog (slices_IndexFunc_4int4int_impl_IsBoard_f1_LS1 F) (bodyOf Try.f112) := loopsOK_cons slices_IndexFunc_4int4int_impl_IsBoard_f1_keys (slices_IndexFunc_4int4int_impl_IsBoard_f1_lok2 F) (slices_IndexFunc_4int4int_impl_IsBoard_f1_lsok0 F)
theorem slices_IndexFunc_4int4int_impl_IsBoard_f1_run (F : Nat) (s0 : List (List Int)) : runS tt (slices_IndexFunc_4int4int_impl_IsBoard_f1_tab F) (slices_IndexFunc_4int4int_impl_IsBoard_f1_LS1 F) [] [] Try.f112 (bodyOf Try.f112) 70 [(.rr 4 s0), (.fn 83 [] [])] [] = slices_IndexFunc_4int4int_impl_IsBoard_f1_c _ F s0 (fun r => some ⟨(.int .i64 r), [], []⟩) := by kernel_rfl
def slices_IndexFunc_4int4int_impl_IsBoard_f1_ent (F : Nat) : Ent := ⟨[], .quiet, fun args mem => match args, mem with
  | [(.rr 4 s0), (.fn 83 [] [])], [] => some ((slices_IndexFunc_4int4int_impl_IsBoard_f1_p F s0).isSome, ⟨(.int .i64 ((slices_IndexFunc_4int4int_impl_IsBoard_f1_p F s0).getD default)), [], []⟩)
  | _, _ => none⟩
theorem slices_IndexFunc_4int4int_impl_IsBoard_f1_fok : FunOK Try.prog 112 := funOK Try.func112 (by kernel_rfl) rfl
theorem slices_IndexFunc_4int4int_impl_IsBoard_f1_meets (F : Nat) : Meets Try.prog 112 (slices_IndexFunc_4int4int_impl_IsBoard_f1_ent F) := by
  refine meets_of_runS mixed ttok deep (slices_IndexFunc_4int4int_impl_IsBoard_f1_tabok F) Try.func112 (body_some rfl) (slices_IndexFunc_4int4int_impl_IsBoard_f1_lsok1 F) fun args mem hfit ret h => ?_
  clear hfit
  simp only [slices_IndexFunc_4int4int_impl_IsBoard_f1_ent] at h
  split at h
  · rename_i s0
    simp only [Option.some.injEq, Prod.mk.injEq] at h
    obtain ⟨hc, rfl⟩ := h
    exact ⟨[], [], 70, _, (slices_IndexFunc_4int4int_impl_IsBoard_f1_run F s0).trans ((slices_IndexFunc_4int4int_impl_IsBoard_f1_cp _ F s0 _).trans (bind_use hc _)), rfl, rfl, rfl⟩
  · cases h

/-! slices.ContainsFunc[[][4]int,[4]int] -/
noncomputable def slices_ContainsFunc_4int4int_impl_IsBoard_f1_tab (F : Nat) : Tab := [(112, (slices_IndexFunc_4int4int_impl_IsBoard_f1_ent F))]
theorem slices_ContainsFunc_4int4int_impl_IsBoard_f1_tabok (F : Nat) : TabOK Try.prog (slices_ContainsFunc_4int4int_impl_IsBoard_f1_tab F) := (tab_cons (slices_IndexFunc_4int4int_impl_IsBoard_f1_meets F) slices_IndexFunc_4int4int_impl_IsBoard_f1_fok tab_nil)
noncomputable def slices_ContainsFunc_4int4int_impl_IsBoard_f1_LS0 (F : Nat) : LT := []
theorem slices_ContainsFunc_4int4int_impl_IsBoard_f1_lsok0 (F : Nat) : LoopsOK Try.prog (slices_ContainsFunc_4int4int_impl_IsBoard_f1_LS0 F) (bodyOf Try.f82) := loopsOK_nil
theorem slices_ContainsFunc_4int4int_impl_IsBoard_f1_run (F : Nat) (s0 : List (List Int)) : runS tt (slices_ContainsFunc_4int4int_impl_IsBoard_f1_tab F) (slices_ContainsFunc_4int4int_impl_IsBoard_f1_LS0 F) [] [] Try.f82 (bodyOf Try.f82) 70 [(.rr 4 s0), (.fn 83 [] [])] [] = slices_ContainsFunc_4int4int_impl_IsBoard_f1_c _ F s0 (fun r => some ⟨(.bool r), [], []⟩) := by kernel_rfl
def slices_ContainsFunc_4int4int_impl_IsBoard_f1_ent (F : Nat) : Ent := ⟨[], .quiet, fun args mem => match args, mem with
  | [(.rr 4 s0), (.fn 83 [] [])], [] => some ((slices_ContainsFunc_4int4int_impl_IsBoard_f1_p F s0).isSome, ⟨(.bool ((slices_ContainsFunc_4int4int_impl_IsBoard_f1_p F s0).getD default)), [], []⟩)
  | _, _ => none⟩
theorem slices_ContainsFunc_4int4int_impl_IsBoard_f1_fok : FunOK Try.prog 82 := funOK Try.func82 (by kernel_rfl) rfl
theorem slices_ContainsFunc_4int4int_impl_IsBoard_f1_meets (F : Nat) : Meets Try.prog 82 (slices_ContainsFunc_4int4int_impl_IsBoard_f1_ent F) := by
  refine meets_of_runS mixed ttok deep (slices_ContainsFunc_4int4int_impl_IsBoard_f1_tabok F) Try.func82 (body_some rfl) (slices_ContainsFunc_4int4int_impl_IsBoard_f1_lsok0 F) fun args mem hfit ret h => ?_
  clear hfit
  simp only [slices_ContainsFunc_4int4int_impl_IsBoard_f1_ent] at h
  split at h
  · rename_i s0
    simp only [Option.some.injEq, Prod.mk.injEq] at h
    obtain ⟨hc, rfl⟩ := h
    exact ⟨[], [], 70, _, (slices_ContainsFunc_4int4int_impl_IsBoard_f1_run F s0).trans ((slices_ContainsFunc_4int4int_impl_IsBoard_f1_cp _ F s0 _).trans (bind_use hc _)), rfl, rfl, rfl⟩
  · cases h

/-! loop.example/g01194/impl.IsBoard -/
noncomputable def impl_IsBoard_tab (F : Nat) : Tab := [(82, (slices_ContainsFunc_4int4int_impl_IsBoard_f1_ent F))]
theorem impl_IsBoard_tabok (F : Nat) : TabOK Try.prog (impl_IsBoard_tab F) := (tab_cons (slices_ContainsFunc_4int4int_impl_IsBoard_f1_meets F) slices_ContainsFunc_4int4int_impl_IsBoard_f1_fok tab_nil)
noncomputable def impl_IsBoard_LS0 (F : Nat) : LT := []
theorem impl_IsBoard_lsok0 (F : Nat) : LoopsOK Try.prog (impl_IsBoard_LS0 F) (bodyOf Try.f49) := loopsOK_nil
theorem impl_IsBoard_run (F : Nat) (b0 : List Int) : runS tt (impl_IsBoard_tab F) (impl_IsBoard_LS0 F) [] [] Try.f49 (bodyOf Try.f49) 70 [(.ints 16 b0)] [] = impl_IsBoard_c _ F b0 (fun r => some ⟨(.bool r), [], []⟩) := by kernel_rfl
def impl_IsBoard_ent (F : Nat) : Ent := ⟨[], .quiet, fun args mem => match args, mem with
  | [(.ints 16 b0)], [] => some ((impl_IsBoard_p F b0).isSome, ⟨(.bool ((impl_IsBoard_p F b0).getD default)), [], []⟩)
  | _, _ => none⟩
theorem impl_IsBoard_fok : FunOK Try.prog 49 := funOK Try.func49 (by kernel_rfl) rfl
theorem impl_IsBoard_meets (F : Nat) : Meets Try.prog 49 (impl_IsBoard_ent F) := by
  refine meets_of_runS mixed ttok deep (impl_IsBoard_tabok F) Try.func49 (body_some rfl) (impl_IsBoard_lsok0 F) fun args mem hfit ret h => ?_
  clear hfit
  simp only [impl_IsBoard_ent] at h
  split at h
  · rename_i b0
    simp only [Option.some.injEq, Prod.mk.injEq] at h
    obtain ⟨hc, rfl⟩ := h
    exact ⟨[], [], 70, _, (impl_IsBoard_run F b0).trans ((impl_IsBoard_cp _ F b0 _).trans (bind_use hc _)), rfl, rfl, rfl⟩
  · cases h

/-! loop.example/g01194/impl.isDirection -/
noncomputable def impl_isDirection_tab (F : Nat) : Tab := [(65, (impl_in_ent F))]
theorem impl_isDirection_tabok (F : Nat) : TabOK Try.prog (impl_isDirection_tab F) := (tab_cons (impl_in_meets F) impl_in_fok tab_nil)
noncomputable def impl_isDirection_LS0 (F : Nat) : LT := []
theorem impl_isDirection_lsok0 (F : Nat) : LoopsOK Try.prog (impl_isDirection_LS0 F) (bodyOf Try.f50) := loopsOK_nil
theorem impl_isDirection_run (F : Nat) (d0 : Int) : runS tt (impl_isDirection_tab F) (impl_isDirection_LS0 F) [] [] Try.f50 (bodyOf Try.f50) 70 [(.int .i64 d0)] [] = impl_isDirection_c _ d0 (fun r => some ⟨(.bool r), [], []⟩) := by kernel_rfl
def impl_isDirection_ent (F : Nat) : Ent := ⟨[], .quiet, fun args mem => match args, mem with
  | [(.int .i64 d0)], [] => some (true, ⟨(.bool (impl_isDirection_v d0)), [], []⟩)
  | _, _ => none⟩
theorem impl_isDirection_fok : FunOK Try.prog 50 := funOK Try.func50 (by kernel_rfl) rfl
theorem impl_isDirection_meets (F : Nat) : Meets Try.prog 50 (impl_isDirection_ent F) := by
  refine meets_of_runS mixed ttok deep (impl_isDirection_tabok F) Try.func50 (body_some rfl) (impl_isDirection_lsok0 F) fun args mem hfit ret h => ?_
  clear hfit
  simp only [impl_isDirection_ent] at h
  split at h
  · rename_i d0
    simp only [Option.some.injEq, Prod.mk.injEq] at h
    obtain ⟨hc, rfl⟩ := h
    exact ⟨[], [], 70, _, (impl_isDirection_run F d0).trans (impl_isDirection_cv _ d0 _), rfl, rfl, rfl⟩
  · cases h

/-! loop.example/g01194/impl.lineCell -/
noncomputable def impl_lineCell_tab (F : Nat) : Tab := []
theorem impl_lineCell_tabok (F : Nat) : TabOK Try.prog (impl_lineCell_tab F) := tab_nil
noncomputable def impl_lineCell_LS0 (F : Nat) : LT := []
theorem impl_lineCell_lsok0 (F : Nat) : LoopsOK Try.prog (impl_lineCell_LS0 F) (bodyOf Try.f100) := loopsOK_nil
theorem impl_lineCell_run (F : Nat) (direction0 : Int) (i1 : Int) (k2 : Int) : runS tt (impl_lineCell_tab F) (impl_lineCell_LS0 F) [] [] Try.f100 (bodyOf Try.f100) 70 [(.int .i64 direction0), (.int .i64 i1), (.int .i64 k2)] [] = impl_lineCell_c _ direction0 i1 k2 (fun r => some ⟨(.ints 2 r), [], []⟩) := by kernel_rfl
def impl_lineCell_ent (F : Nat) : Ent := ⟨[], .quiet, fun args mem => match args, mem with
  | [(.int .i64 direction0), (.int .i64 i1), (.int .i64 k2)], [] => some (true, ⟨(.ints 2 (impl_lineCell_v direction0 i1 k2)), [], []⟩)
  | _, _ => none⟩
theorem impl_lineCell_fok : FunOK Try.prog 100 := funOK Try.func100 (by kernel_rfl) rfl
theorem impl_lineCell_meets (F : Nat) : Meets Try.prog 100 (impl_lineCell_ent F) := by
  refine meets_of_runS mixed ttok deep (impl_lineCell_tabok F) Try.func100 (body_some rfl) (impl_lineCell_lsok0 F) fun args mem hfit ret h => ?_
  clear hfit
  simp only [impl_lineCell_ent] at h
  split at h
  · rename_i direction0 i1 k2
    simp only [Option.some.injEq, Prod.mk.injEq] at h
    obtain ⟨hc, rfl⟩ := h
    exact ⟨[], [], 70, _, (impl_lineCell_run F direction0 i1 k2).trans (impl_lineCell_cv _ direction0 i1 k2 _), rfl, rfl, rfl⟩
  · cases h

/-! (*loop.example/g01194/impl.Board).at -/
noncomputable def impl_Board_at_tab (F : Nat) : Tab := []
theorem impl_Board_at_tabok (F : Nat) : TabOK Try.prog (impl_Board_at_tab F) := tab_nil
noncomputable def impl_Board_at_LS0 (F : Nat) : LT := []
theorem impl_Board_at_lsok0 (F : Nat) : LoopsOK Try.prog (impl_Board_at_LS0 F) (bodyOf Try.f64) := loopsOK_nil
theorem impl_Board_at_run (F : Nat) (cell3 : List Int) (b4 : List Int) : runS tt (impl_Board_at_tab F) (impl_Board_at_LS0 F) [] [] Try.f64 (bodyOf Try.f64) 70 [(.ptr 0 0 0 16), (.ints 2 cell3)] [(.var 16 (.ri .i64 b4))] = impl_Board_at_c _ cell3 b4 (fun r => some ⟨(.ptr 0 0 r 1), [(.var 16 (.ri .i64 b4))], []⟩) := by kernel_rfl
def impl_Board_at_ent (F : Nat) : Ent := ⟨[], .quiet, fun args mem => match args, mem with
  | [(.ptr 0 0 0 16), (.ints 2 cell3)], [(.var 16 (.ri .i64 b4))] => some ((impl_Board_at_p cell3 b4).isSome, ⟨(.ptr 0 0 ((impl_Board_at_p cell3 b4).getD default) 1), [], []⟩)
  | _, _ => none⟩
theorem impl_Board_at_fok : FunOK Try.prog 64 := funOK Try.func64 (by kernel_rfl) rfl
theorem impl_Board_at_meets (F : Nat) : Meets Try.prog 64 (impl_Board_at_ent F) := by
  refine meets_of_runS mixed ttok deep (impl_Board_at_tabok F) Try.func64 (body_some rfl) (impl_Board_at_lsok0 F) fun args mem hfit ret h => ?_
  clear hfit
  simp only [impl_Board_at_ent] at h
  split at h
  · rename_i cell3 b4
    simp only [Option.some.injEq, Prod.mk.injEq] at h
    obtain ⟨hc, rfl⟩ := h
    exact ⟨[], [], 70, _, (impl_Board_at_run F cell3 b4).trans ((impl_Board_at_cp _ cell3 b4 _).trans (bind_use hc _)), rfl, rfl, rfl⟩
  · cases h

/-! (loop.example/g01194/impl.Board).line -/
noncomputable def impl_Board_line_tab (F : Nat) : Tab := [(100, (impl_lineCell_ent F)), (64, (impl_Board_at_ent F))]
theorem impl_Board_line_tabok (F : Nat) : TabOK Try.prog (impl_Board_line_tab F) := (tab_cons (impl_lineCell_meets F) impl_lineCell_fok (tab_cons (impl_Board_at_meets F) impl_Board_at_fok tab_nil))
noncomputable def impl_Board_line_LS0 (F : Nat) : LT := []
theorem impl_Board_line_lsok0 (F : Nat) : LoopsOK Try.prog (impl_Board_line_LS0 F) (bodyOf Try.f89) := loopsOK_nil
theorem impl_Board_line_run (F : Nat) (b0 : List Int) (direction1 : Int) (i2 : Int) : runS tt (impl_Board_line_tab F) (impl_Board_line_LS0 F) [] [] Try.f89 (bodyOf Try.f89) 70 [(.ints 16 b0), (.int .i64 direction1), (.int .i64 i2)] [] = impl_Board_line_c _ b0 direction1 i2 (fun r => some ⟨(.ints 4 r), [], []⟩) := by kernel_rfl
def impl_Board_line_ent (F : Nat) : Ent := ⟨[], .quiet, fun args mem => match args, mem with
  | [(.ints 16 b0), (.int .i64 direction1), (.int .i64 i2)], [] => some ((impl_Board_line_p b0 direction1 i2).isSome, ⟨(.ints 4 ((impl_Board_line_p b0 direction1 i2).getD default)), [], []⟩)
  | _, _ => none⟩
theorem impl_Board_line_fok : FunOK Try.prog 89 := funOK Try.func89 (by kernel_rfl) rfl
theorem impl_Board_line_meets (F : Nat) : Meets Try.prog 89 (impl_Board_line_ent F) := by
  refine meets_of_runS mixed ttok deep (impl_Board_line_tabok F) Try.func89 (body_some rfl) (impl_Board_line_lsok0 F) fun args mem hfit ret h => ?_
  clear hfit
  simp only [impl_Board_line_ent] at h
  split at h
  · rename_i b0 direction1 i2
    simp only [Option.some.injEq, Prod.mk.injEq] at h
    obtain ⟨hc, rfl⟩ := h
    exact ⟨[], [], 70, _, (impl_Board_line_run F b0 direction1 i2).trans ((impl_Board_line_cp _ b0 direction1 i2 _).trans (bind_use hc _)), rfl, rfl, rfl⟩
  · cases h

/-! slices.Clone[[]int,int] -/
def slices_Clone_intint_ent (F : Nat) : Ent := ⟨[], .fresh, fun args mem => match args, mem with
  | [(.ri .i64 xs)], [] => some (fits xs.length 8, ⟨.sl 0 0 xs.length, [.vec 3 (.ri .i64 xs)], []⟩)
  | _, _ => none⟩
theorem slices_Clone_intint_fok : FunOK Try.prog 91 := funOK Try.func91 (by kernel_rfl) rfl
theorem slices_Clone_intint_meets (F : Nat) : Meets Try.prog 91 (slices_Clone_intint_ent F) := by
  have hb : Try.f91.body = some (.seq _ (.seq (.seq (.region _ #[_, _] false) _) _)) := rfl
  refine meets_nil (fuel := 70) (fn := Try.f91) mixed ttok deep tab_nil Try.func91 hb loopsOK_nil rfl rfl rfl rfl rfl rfl Try.underlying37 fun args mem hfit ret hg => ?_
  clear hfit
  simp only [slices_Clone_intint_ent] at hg
  split at hg
  · rename_i xs
    simp only [Option.some.injEq, Prod.mk.injEq] at hg
    obtain ⟨hc, rfl⟩ := hg
    refine ⟨⟨[(.ri .i64 xs), .undef, .z0, .undef, .undef, .undef, .undef, .undef], [], 0, []⟩, fun R k => by kernel_rfl, rfl, Nat.le_of_ble_eq_true rfl, fun b hb => ?_⟩
    cases b with
    | true =>
      obtain rfl : xs = [] := List.eq_nil_of_length_eq_zero (hb rfl)
      exact ⟨[⟨2, 3, (.ri .i64 [])⟩], [], _, (by kernel_rfl : _ = some ⟨.sl 0 0 0, [.vec 3 (.ri .i64 [])], []⟩), rfl, rfl, rfl⟩
    | false =>
      refine ⟨[], [], ⟨.sl 0 0 xs.length, [.vec 3 (.ri .i64 xs)], []⟩, Eq.trans (by kernel_rfl : _ = bif fits xs.length 8 then some (⟨.sl 0 0 xs.length, [.vec 3 (.ri .i64 xs)], []⟩ : Ret) else none) ?_, rfl, rfl, rfl⟩
      rw [hc]; rfl
  · cases hg
end Go.Proofs.Ytgmnclpjbhmioaa
