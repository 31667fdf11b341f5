/-
Pure functions and what the code of them does, by program; without conditions.
-/
import Derived.Test.YtabfliifleonaajGreatQjP6
import Derived.Test.YtabfliifleonaajGreatQjS5
namespace Go.Proofs.YtabfliifleonaajGreat
open Go Go.Lv Go.Lv.P Go.Proofs
set_option linter.unusedVariables false
set_option linter.unusedSimpArgs false
set_option maxRecDepth 100000
/-! loop.example/g01194/spec.l4Before -/
noncomputable def k86_tab (F : Nat) : Tab := [(81, (k110_ent F)), (82, (k87_ent F)), (83, (k112_ent F)), (84, (k113_ent F))]
theorem k86_tabok (F : Nat) : TabOK Tryz.prog (k86_tab F) := (tab_cons (k110_meets F) k110_fok (tab_cons (k87_meets F) k87_fok (tab_cons (k112_meets F) k112_fok (tab_cons (k113_meets F) k113_fok tab_nil))))
noncomputable def k86_LS0 (F : Nat) : LT := []
theorem k86_lsok0 (F : Nat) : LoopsOK Tryz.prog (k86_LS0 F) (bodyOf Tryz.f58) := loopsOK_nil
theorem k86_keys : keysOK (bodyOf Tryz.f58) = true := by kernel_rfl
def k86_st7 (w9 : List (List Int)) (g8 : Int) (wd : List Int) (k7 : Int) (ym : List Int) : St := ⟨expand 82 0 [1, 3, 4, 5, 6] [(.ptr 0 0 0 4), (.rr 4 w9), (.int .i64 g8), (.sl 1 0 (List.length ym)), (.int .i64 k7)], [(.var 4 (.ri .i64 wd)), (.vec 3 (.ri .i64 ym))], 0, []⟩
def k86_o7 (w9 : List (List Int)) (g8 : Int) (wd : List Int) (x : List Int) : GT := (.out (.exit 2 ⟨expand 82 0 [1, 3, 4, 5] [(.ptr 0 0 0 4), (.rr 4 w9), (.int .i64 g8), (.sl 1 0 (List.length x))], [(.var 4 (.ri .i64 wd)), (.vec 3 (.ri .i64 x))], 0, []⟩))
def k86_ls7 (F : Nat) : LoopS := ⟨82, [1, 3, 4, 5, 6], [], [1, 3, 4, 5], [], [2], [], [], fun vals mem np killed => match vals, mem, np, killed with
  | [(.ptr 0 0 0 4), (.rr 4 w9), (.int .i64 g8), (.sl 1 0 q_tiles6), (.int .i64 k7)], [(.var 4 (.ri .i64 wd)), (.vec 3 (.ri .i64 ym))], 0, [] => .br ((Nat.beq q_tiles6 (List.length ym)) && (k86_l7 F w9 g8 wd k7 ym).isSome) (k86_o7 w9 g8 wd ((k86_l7 F w9 g8 wd k7 ym).getD default)) .fail
  | _, _, _, _ => .fail⟩
theorem k86_step7 (F : Nat) (w9 : List (List Int)) (g8 : Int) (wd : List Int) (k7 : Int) (ym : List Int) {R : Type} (k : Out → Option R) : stepS tt (k86_tab F) (k86_LS0 F) 70 (k86_ls7 F) (loopAt 7 (bodyOf Tryz.f58)) (k86_st7 w9 g8 wd k7 ym) k = k86_s7 F w9 g8 wd R (k7, ym) (fun s => k (.norm (k86_st7 w9 g8 wd s.1 s.2))) (fun x => (k86_o7 w9 g8 wd x).run k) := by kernel_rfl
theorem k86_iter7 (F : Nat) (w9 : List (List Int)) (g8 : Int) (wd : List Int) {R : Type} (k : Out → Option R) : ∀ (n : Nat) (k7 : Int) (ym : List Int), iterS tt (k86_tab F) (k86_LS0 F) 70 (k86_ls7 F) (loopAt 7 (bodyOf Tryz.f58)) n (k86_st7 w9 g8 wd k7 ym) k = loopC (k86_s7 F w9 g8 wd) n (k7, ym) (fun x => (k86_o7 w9 g8 wd x).run k)
  | 0, k7, ym => rfl
  | n + 1, k7, ym => (iterS_succ tt (k86_tab F) (k86_LS0 F) 70 (k86_ls7 F) (loopAt 7 (bodyOf Tryz.f58)) n (k86_st7 w9 g8 wd k7 ym) k).trans ((k86_step7 F w9 g8 wd k7 ym (nextK (iterS tt (k86_tab F) (k86_LS0 F) 70 (k86_ls7 F) (loopAt 7 (bodyOf Tryz.f58)) n) k)).trans (congrArg (fun kn => k86_s7 F w9 g8 wd R (k7, ym) kn _) (funext (fun ⟨k7, ym⟩ => k86_iter7 F w9 g8 wd k n k7 ym))))
theorem k86_lok7 (F : Nat) : LoopOK Tryz.prog (loopAt 7 (bodyOf Tryz.f58)) (k86_ls7 F) := by
  refine loopOK_of mixed ttok deep (k86_tabok F) (loopsOK_at (k86_lsok0 F) 7) (fuel := 70) fun R vals mem np killed k x h => ?_
  simp only [k86_ls7] at h
  split at h
  · rename_i w9 g8 q_tiles6 k7 wd ym
    simp only [GT.run] at h
    have hc := (cond_noneL h).1
    replace h := (cond_noneL h).2
    have hg := (and_split hc).1
    replace hc := (and_split hc).2
    obtain rfl := nbeq_nat hg
    refine ⟨F, (k86_iter7 F w9 g8 wd k F k7 ym).trans ((loopC_use (k86_s7_nat F w9 g8 wd) hc _).trans h)⟩
  · simp only [GT.run] at h
    cases h
noncomputable def k86_LS1 (F : Nat) : LT := (7, k86_ls7 F) :: k86_LS0 F
theorem k86_lsok1 (F : Nat) : LoopsOK Tryz.prog (k86_LS1 F) (bodyOf Tryz.f58) := loopsOK_cons k86_keys (k86_lok7 F) (k86_lsok0 F)
def k86_st15 (g8 : Int) (jm : Nat) (wd : List Int) (jx : List (List Int)) (w9 : List (List Int)) (i7 : Int) : St := ⟨expand 82 0 [1, 3, 4, 7, 8] [(.ptr 0 0 0 4), (.rr 4 w9), (.int .i64 g8), (.sl 1 0 jm), (.int .i64 i7)], [(.var 4 (.ri .i64 wd)), (.vec 24 (.rr 4 jx))], 0, []⟩
def k86_o15 (g8 : Int) (jm : Nat) (wd : List Int) (jx : List (List Int)) (x : List (List Int)) : GT := (.out (.exit 4 ⟨expand 82 0 [1, 3, 4] [(.ptr 0 0 0 4), (.rr 4 x), (.int .i64 g8)], [(.var 4 (.ri .i64 wd))], 0, []⟩))
def k86_ls15 (F : Nat) : LoopS := ⟨82, [1, 3, 4, 7, 8], [], [1, 3, 4], [], [2], [], [], fun vals mem np killed => match vals, mem, np, killed with
  | [(.ptr 0 0 0 4), (.rr 4 w9), (.int .i64 g8), (.sl 1 0 jm), (.int .i64 i7)], [(.var 4 (.ri .i64 wd)), (.vec 24 (.rr 4 jx))], 0, [] => .br (k86_l15 F g8 jm wd jx w9 i7).isSome (k86_o15 g8 jm wd jx ((k86_l15 F g8 jm wd jx w9 i7).getD default)) .fail
  | _, _, _, _ => .fail⟩
theorem k86_step15 (F : Nat) (g8 : Int) (jm : Nat) (wd : List Int) (jx : List (List Int)) (w9 : List (List Int)) (i7 : Int) {R : Type} (k : Out → Option R) : stepS tt (k86_tab F) (k86_LS1 F) 70 (k86_ls15 F) (loopAt 15 (bodyOf Tryz.f58)) (k86_st15 g8 jm wd jx w9 i7) k = k86_s15 F g8 jm wd jx R (w9, i7) (fun s => k (.norm (k86_st15 g8 jm wd jx s.1 s.2))) (fun x => (k86_o15 g8 jm wd jx x).run k) := by kernel_rfl
theorem k86_iter15 (F : Nat) (g8 : Int) (jm : Nat) (wd : List Int) (jx : List (List Int)) {R : Type} (k : Out → Option R) : ∀ (n : Nat) (w9 : List (List Int)) (i7 : Int), iterS tt (k86_tab F) (k86_LS1 F) 70 (k86_ls15 F) (loopAt 15 (bodyOf Tryz.f58)) n (k86_st15 g8 jm wd jx w9 i7) k = loopC (k86_s15 F g8 jm wd jx) n (w9, i7) (fun x => (k86_o15 g8 jm wd jx x).run k)
  | 0, w9, i7 => rfl
  | n + 1, w9, i7 => (iterS_succ tt (k86_tab F) (k86_LS1 F) 70 (k86_ls15 F) (loopAt 15 (bodyOf Tryz.f58)) n (k86_st15 g8 jm wd jx w9 i7) k).trans ((k86_step15 F g8 jm wd jx w9 i7 (nextK (iterS tt (k86_tab F) (k86_LS1 F) 70 (k86_ls15 F) (loopAt 15 (bodyOf Tryz.f58)) n) k)).trans (congrArg (fun kn => k86_s15 F g8 jm wd jx R (w9, i7) kn _) (funext (fun ⟨w9, i7⟩ => k86_iter15 F g8 jm wd jx k n w9 i7))))
theorem k86_lok15 (F : Nat) : LoopOK Tryz.prog (loopAt 15 (bodyOf Tryz.f58)) (k86_ls15 F) := by
  refine loopOK_of mixed ttok deep (k86_tabok F) (loopsOK_at (k86_lsok1 F) 15) (fuel := 70) fun R vals mem np killed k x h => ?_
  simp only [k86_ls15] at h
  split at h
  · rename_i w9 g8 jm i7 wd jx
    simp only [GT.run] at h
    have hc := (cond_noneL h).1
    replace h := (cond_noneL h).2
    refine ⟨F, (k86_iter15 F g8 jm wd jx k F w9 i7).trans ((loopC_use (k86_s15_nat F g8 jm wd jx) hc _).trans h)⟩
  · simp only [GT.run] at h
    cases h
noncomputable def k86_LS2 (F : Nat) : LT := (15, k86_ls15 F) :: k86_LS1 F
theorem k86_lsok2 (F : Nat) : LoopsOK Tryz.prog (k86_LS2 F) (bodyOf Tryz.f58) := loopsOK_cons k86_keys (k86_lok15 F) (k86_lsok1 F)
def k86_st3 (j8 : List Int) (w9 : List (List Int)) (g8 : Int) : St := ⟨expand 82 0 [1, 3, 4] [(.ptr 0 0 0 4), (.rr 4 w9), (.int .i64 g8)], [(.var 4 (.ri .i64 j8))], 0, []⟩
def k86_o3 (j8 : List Int) (x : List (List Int)) : GT := (.out (.exit 0 ⟨expand 82 0 [3] [(.rr 4 x)], [], 0, []⟩))
def k86_ls3 (F : Nat) : LoopS := ⟨82, [1, 3, 4], [⟨3, 0, (.tup [])⟩], [3], [], [2], [], [], fun vals mem np killed => match vals, mem, np, killed with
  | [(.ptr 0 0 0 4), (.rr 4 w9), (.int .i64 g8)], [(.var 4 (.ri .i64 j8))], 0, [] => .br (k86_l3 F j8 w9 g8).isSome (k86_o3 j8 ((k86_l3 F j8 w9 g8).getD default)) .fail
  | _, _, _, _ => .fail⟩
theorem k86_step3 (F : Nat) (j8 : List Int) (w9 : List (List Int)) (g8 : Int) {R : Type} (k : Out → Option R) : stepS tt (k86_tab F) (k86_LS2 F) 70 (k86_ls3 F) (loopAt 3 (bodyOf Tryz.f58)) (k86_st3 j8 w9 g8) k = k86_s3 F j8 R (w9, g8) (fun s => k (.norm (k86_st3 j8 s.1 s.2))) (fun x => (k86_o3 j8 x).run k) := by kernel_rfl
theorem k86_iter3 (F : Nat) (j8 : List Int) {R : Type} (k : Out → Option R) : ∀ (n : Nat) (w9 : List (List Int)) (g8 : Int), iterS tt (k86_tab F) (k86_LS2 F) 70 (k86_ls3 F) (loopAt 3 (bodyOf Tryz.f58)) n (k86_st3 j8 w9 g8) k = loopC (k86_s3 F j8) n (w9, g8) (fun x => (k86_o3 j8 x).run k)
  | 0, w9, g8 => rfl
  | n + 1, w9, g8 => (iterS_succ tt (k86_tab F) (k86_LS2 F) 70 (k86_ls3 F) (loopAt 3 (bodyOf Tryz.f58)) n (k86_st3 j8 w9 g8) k).trans ((k86_step3 F j8 w9 g8 (nextK (iterS tt (k86_tab F) (k86_LS2 F) 70 (k86_ls3 F) (loopAt 3 (bodyOf Tryz.f58)) n) k)).trans (congrArg (fun kn => k86_s3 F j8 R (w9, g8) kn _) (funext (fun ⟨w9, g8⟩ => k86_iter3 F j8 k n w9 g8))))
theorem k86_lok3 (F : Nat) : LoopOK Tryz.prog (loopAt 3 (bodyOf Tryz.f58)) (k86_ls3 F) := by
  refine loopOK_of mixed ttok deep (k86_tabok F) (loopsOK_at (k86_lsok2 F) 3) (fuel := 70) fun R vals mem np killed k x h => ?_
  simp only [k86_ls3] at h
  split at h
  · rename_i w9 g8 j8
    simp only [GT.run] at h
    have hc := (cond_noneL h).1
    replace h := (cond_noneL h).2
    refine ⟨F, (k86_iter3 F j8 k F w9 g8).trans ((loopC_use (k86_s3_nat F j8) hc _).trans h)⟩
  · simp only [GT.run] at h
    cases h
noncomputable def k86_LS3 (F : Nat) : LT := (3, k86_ls3 F) :: k86_LS2 F
theorem k86_lsok3 (F : Nat) : LoopsOK Tryz.prog (k86_LS3 F) (bodyOf Tryz.f58) := loopsOK_cons k86_keys (k86_lok3 F) (k86_lsok2 F)
theorem k86_run (F : Nat) (g4 : List Int) : runS tt (k86_tab F) (k86_LS3 F) [] [] Tryz.f58 (bodyOf Tryz.f58) 70 [(.ints 4 g4)] [] = k86_c _ F g4 (fun r => some ⟨(.rr 4 r), [], []⟩) := by kernel_rfl
def k86_ent (F : Nat) : Ent := ⟨[], .quiet, fun args mem => match args, mem with
  | [(.ints 4 g4)], [] => some ((k86_p F g4).isSome, ⟨(.rr 4 ((k86_p F g4).getD default)), [], []⟩)
  | _, _ => none⟩
theorem k86_fok : FunOK Tryz.prog 58 := funOK Tryz.func58 (by kernel_rfl) rfl
theorem k86_meets (F : Nat) : Meets Tryz.prog 58 (k86_ent F) := by
  refine meets_of_runS mixed ttok deep (k86_tabok F) Tryz.func58 (body_some rfl) (k86_lsok3 F) fun args mem hfit ret h => ?_
  clear hfit
  simp only [k86_ent] at h
  split at h
  · rename_i g4
    simp only [Option.some.injEq, Prod.mk.injEq] at h
    obtain ⟨hc, rfl⟩ := h
    exact ⟨[], [], 70, _, (k86_run F g4).trans ((k86_cp _ F g4 _).trans (bind_use hc _)), rfl, rfl, rfl⟩
  · cases h
/-! loop.example/g01194/spec.l6Lists -/
noncomputable def k96_tab (F : Nat) : Tab := [(59, (k76_ent F)), (58, (k86_ent F))]
theorem k96_tabok (F : Nat) : TabOK Tryz.prog (k96_tab F) := (tab_cons (k76_meets F) k76_fok (tab_cons (k86_meets F) k86_fok tab_nil))
noncomputable def k96_LS0 (F : Nat) : LT := []
theorem k96_lsok0 (F : Nat) : LoopsOK Tryz.prog (k96_LS0 F) (bodyOf Tryz.f28) := loopsOK_nil
theorem k96_run (F : Nat) (b0 : List Int) (d1 : Int) : runS tt (k96_tab F) (k96_LS0 F) [] [] Tryz.f28 (bodyOf Tryz.f28) 70 [(.ints 16 b0), (.int .i64 d1)] [] = k96_c _ F b0 d1 (fun r => some ⟨(.agg [(.rr 4 r.1), (.rr 4 r.2.1), (.rr 4 r.2.2.1), (.rr 4 r.2.2.2)]), [], []⟩) := by kernel_rfl
def k96_ent (F : Nat) : Ent := ⟨[], .quiet, fun args mem => match args, mem with
  | [(.ints 16 b0), (.int .i64 d1)], [] => some ((k96_p F b0 d1).isSome, ⟨(.agg [(.rr 4 ((k96_p F b0 d1).getD default).1), (.rr 4 ((k96_p F b0 d1).getD default).2.1), (.rr 4 ((k96_p F b0 d1).getD default).2.2.1), (.rr 4 ((k96_p F b0 d1).getD default).2.2.2)]), [], []⟩)
  | _, _ => none⟩
theorem k96_fok : FunOK Tryz.prog 28 := funOK Tryz.func28 (by kernel_rfl) rfl
theorem k96_meets (F : Nat) : Meets Tryz.prog 28 (k96_ent F) := by
  refine meets_of_runS mixed ttok deep (k96_tabok F) Tryz.func28 (body_some rfl) (k96_lsok0 F) fun args mem hfit ret h => ?_
  clear hfit
  simp only [k96_ent] at h
  split at h
  · rename_i b0 d1
    simp only [Option.some.injEq, Prod.mk.injEq] at h
    obtain ⟨hc, rfl⟩ := h
    exact ⟨[], [], 70, _, (k96_run F b0 d1).trans ((k96_cp _ F b0 d1 _).trans (bind_use hc _)), rfl, rfl, rfl⟩
  · cases h
/-! loop.example/g01194/spec.l6Still -/
noncomputable def k97_tab (F : Nat) : Tab := [(67, (k92_ent F))]
theorem k97_tabok (F : Nat) : TabOK Tryz.prog (k97_tab F) := (tab_cons (k92_meets F) k92_fok tab_nil)
noncomputable def k97_LS0 (F : Nat) : LT := []
theorem k97_lsok0 (F : Nat) : LoopsOK Tryz.prog (k97_LS0 F) (bodyOf Tryz.f47) := loopsOK_nil
theorem k97_run (F : Nat) (b0 : List Int) (d1 : Int) : runS tt (k97_tab F) (k97_LS0 F) [] [] Tryz.f47 (bodyOf Tryz.f47) 70 [(.ints 16 b0), (.int .i64 d1)] [] = k97_c _ F b0 d1 (fun r => some ⟨(.bool r), [], []⟩) := by kernel_rfl
def k97_ent (F : Nat) : Ent := ⟨[], .quiet, fun args mem => match args, mem with
  | [(.ints 16 b0), (.int .i64 d1)], [] => some ((k97_p F b0 d1).isSome, ⟨(.bool ((k97_p F b0 d1).getD default)), [], []⟩)
  | _, _ => none⟩
theorem k97_fok : FunOK Tryz.prog 47 := funOK Tryz.func47 (by kernel_rfl) rfl
theorem k97_meets (F : Nat) : Meets Tryz.prog 47 (k97_ent F) := by
  refine meets_of_runS mixed ttok deep (k97_tabok F) Tryz.func47 (body_some rfl) (k97_lsok0 F) fun args mem hfit ret h => ?_
  clear hfit
  simp only [k97_ent] at h
  split at h
  · rename_i b0 d1
    simp only [Option.some.injEq, Prod.mk.injEq] at h
    obtain ⟨hc, rfl⟩ := h
    exact ⟨[], [], 70, _, (k97_run F b0 d1).trans ((k97_cp _ F b0 d1 _).trans (bind_use hc _)), rfl, rfl, rfl⟩
  · cases h
/-! loop.example/g01194/spec.l6Count -/
noncomputable def k95_tab (F : Nat) : Tab := [(28, (k96_ent F)), (47, (k97_ent F))]
theorem k95_tabok (F : Nat) : TabOK Tryz.prog (k95_tab F) := (tab_cons (k96_meets F) k96_fok (tab_cons (k97_meets F) k97_fok tab_nil))
noncomputable def k95_LS0 (F : Nat) : LT := []
theorem k95_lsok0 (F : Nat) : LoopsOK Tryz.prog (k95_LS0 F) (bodyOf Tryz.f21) := loopsOK_nil
theorem k95_run (F : Nat) (b0 : List Int) (d1 : Int) : runS tt (k95_tab F) (k95_LS0 F) [] [] Tryz.f21 (bodyOf Tryz.f21) 70 [(.ints 16 b0), (.int .i64 d1)] [] = k95_c _ F b0 d1 (fun r => some ⟨(.int .i64 r), [], []⟩) := by kernel_rfl
def k95_ent (F : Nat) : Ent := ⟨[], .quiet, fun args mem => match args, mem with
  | [(.ints 16 b0), (.int .i64 d1)], [] => some ((k95_p F b0 d1).isSome, ⟨(.int .i64 ((k95_p F b0 d1).getD default)), [], []⟩)
  | _, _ => none⟩
theorem k95_fok : FunOK Tryz.prog 21 := funOK Tryz.func21 (by kernel_rfl) rfl
theorem k95_meets (F : Nat) : Meets Tryz.prog 21 (k95_ent F) := by
  refine meets_of_runS mixed ttok deep (k95_tabok F) Tryz.func21 (body_some rfl) (k95_lsok0 F) fun args mem hfit ret h => ?_
  clear hfit
  simp only [k95_ent] at h
  split at h
  · rename_i b0 d1
    simp only [Option.some.injEq, Prod.mk.injEq] at h
    obtain ⟨hc, rfl⟩ := h
    exact ⟨[], [], 70, _, (k95_run F b0 d1).trans ((k95_cp _ F b0 d1 _).trans (bind_use hc _)), rfl, rfl, rfl⟩
  · cases h
/-! loop.example/g01194/spec.l6Merged -/
noncomputable def k88_tab (F : Nat) : Tab := []
theorem k88_tabok (F : Nat) : TabOK Tryz.prog (k88_tab F) := tab_nil
noncomputable def k88_LS0 (F : Nat) : LT := []
theorem k88_lsok0 (F : Nat) : LoopsOK Tryz.prog (k88_LS0 F) (bodyOf Tryz.f49) := loopsOK_nil
theorem k88_keys : keysOK (bodyOf Tryz.f49) = true := by kernel_rfl
def k88_st3 (gx : List Int) (n9 : Int) (v39 : Int) (k11 : Int) (wg : List Bool) : St := ⟨expand 47 0 [1, 2, 3, 4, 5, 6] [(.ptr 0 0 0 4), (.ptr 1 0 0 4), (.ptr 2 0 0 4), (.int .i64 n9), (.int .i64 v39), (.int .i64 k11)], [(.var 4 (.ri .i64 gx)), (.var 4 (.rb [false, false, false, false])), (.var 4 (.rb wg))], 0, []⟩
def k88_o3 (gx : List Int) (x : List Bool) : GT := (.out (.exit 0 ⟨expand 47 0 [2, 3] [(.ptr 0 0 0 4), (.ptr 1 0 0 4)], [(.var 4 (.rb [false, false, false, false])), (.var 4 (.rb x))], 0, []⟩))
def k88_ls3 (F : Nat) : LoopS := ⟨47, [1, 2, 3, 4, 5, 6], [], [2, 3], [], [2], [], [], fun vals mem np killed => match vals, mem, np, killed with
  | [(.ptr 0 0 0 4), (.ptr 1 0 0 4), (.ptr 2 0 0 4), (.int .i64 n9), (.int .i64 v39), (.int .i64 k11)], [(.var 4 (.ri .i64 gx)), (.var 4 (.rb q_t213)), (.var 4 (.rb wg))], 0, [] => .br ((q_t213 == ([false, false, false, false] : List Bool)) && (k88_l3 F gx n9 v39 k11 wg).isSome) (k88_o3 gx ((k88_l3 F gx n9 v39 k11 wg).getD default)) .fail
  | _, _, _, _ => .fail⟩
theorem k88_step3 (F : Nat) (gx : List Int) (n9 : Int) (v39 : Int) (k11 : Int) (wg : List Bool) {R : Type} (k : Out → Option R) : stepS tt (k88_tab F) (k88_LS0 F) 70 (k88_ls3 F) (loopAt 3 (bodyOf Tryz.f49)) (k88_st3 gx n9 v39 k11 wg) k = k88_s3 F gx R (n9, v39, k11, wg) (fun s => k (.norm (k88_st3 gx s.1 s.2.1 s.2.2.1 s.2.2.2))) (fun x => (k88_o3 gx x).run k) := by kernel_rfl
theorem k88_iter3 (F : Nat) (gx : List Int) {R : Type} (k : Out → Option R) : ∀ (n : Nat) (n9 : Int) (v39 : Int) (k11 : Int) (wg : List Bool), iterS tt (k88_tab F) (k88_LS0 F) 70 (k88_ls3 F) (loopAt 3 (bodyOf Tryz.f49)) n (k88_st3 gx n9 v39 k11 wg) k = loopC (k88_s3 F gx) n (n9, v39, k11, wg) (fun x => (k88_o3 gx x).run k)
  | 0, n9, v39, k11, wg => rfl
  | n + 1, n9, v39, k11, wg => (iterS_succ tt (k88_tab F) (k88_LS0 F) 70 (k88_ls3 F) (loopAt 3 (bodyOf Tryz.f49)) n (k88_st3 gx n9 v39 k11 wg) k).trans ((k88_step3 F gx n9 v39 k11 wg (nextK (iterS tt (k88_tab F) (k88_LS0 F) 70 (k88_ls3 F) (loopAt 3 (bodyOf Tryz.f49)) n) k)).trans (congrArg (fun kn => k88_s3 F gx R (n9, v39, k11, wg) kn _) (funext (fun ⟨n9, v39, k11, wg⟩ => k88_iter3 F gx k n n9 v39 k11 wg))))
theorem k88_lok3 (F : Nat) : LoopOK Tryz.prog (loopAt 3 (bodyOf Tryz.f49)) (k88_ls3 F) := by
  refine loopOK_of mixed ttok deep (k88_tabok F) (loopsOK_at (k88_lsok0 F) 3) (fuel := 70) fun R vals mem np killed k x h => ?_
  simp only [k88_ls3] at h
  split at h
  · rename_i n9 v39 k11 gx q_t213 wg
    simp only [GT.run] at h
    have hc := (cond_noneL h).1
    replace h := (cond_noneL h).2
    have hg := (and_split hc).1
    replace hc := (and_split hc).2
    obtain rfl := beq_lb hg
    refine ⟨F, (k88_iter3 F gx k F n9 v39 k11 wg).trans ((loopC_use (k88_s3_nat F gx) hc _).trans h)⟩
  · simp only [GT.run] at h
    cases h
noncomputable def k88_LS1 (F : Nat) : LT := (3, k88_ls3 F) :: k88_LS0 F
theorem k88_lsok1 (F : Nat) : LoopsOK Tryz.prog (k88_LS1 F) (bodyOf Tryz.f49) := loopsOK_cons k88_keys (k88_lok3 F) (k88_lsok0 F)
theorem k88_run (F : Nat) (g4 : List Int) : runS tt (k88_tab F) (k88_LS1 F) [] [] Tryz.f49 (bodyOf Tryz.f49) 70 [(.ints 4 g4)] [] = k88_c _ F g4 (fun r => some ⟨(.bools 4 r), [], []⟩) := by kernel_rfl
def k88_ent (F : Nat) : Ent := ⟨[], .quiet, fun args mem => match args, mem with
  | [(.ints 4 g4)], [] => some ((k88_p F g4).isSome, ⟨(.bools 4 ((k88_p F g4).getD default)), [], []⟩)
  | _, _ => none⟩
theorem k88_fok : FunOK Tryz.prog 49 := funOK Tryz.func49 (by kernel_rfl) rfl
theorem k88_meets (F : Nat) : Meets Tryz.prog 49 (k88_ent F) := by
  refine meets_of_runS mixed ttok deep (k88_tabok F) Tryz.func49 (body_some rfl) (k88_lsok1 F) fun args mem hfit ret h => ?_
  clear hfit
  simp only [k88_ent] at h
  split at h
  · rename_i g4
    simp only [Option.some.injEq, Prod.mk.injEq] at h
    obtain ⟨hc, rfl⟩ := h
    exact ⟨[], [], 70, _, (k88_run F g4).trans ((k88_cp _ F g4 _).trans (bind_use hc _)), rfl, rfl, rfl⟩
  · cases h
/-! loop.example/g01194/spec.l6Mergers -/
noncomputable def k77_tab (F : Nat) : Tab := [(28, (k96_ent F)), (47, (k97_ent F)), (48, (k100_ent F)), (49, (k88_ent F))]
theorem k77_tabok (F : Nat) : TabOK Tryz.prog (k77_tab F) := (tab_cons (k96_meets F) k96_fok (tab_cons (k97_meets F) k97_fok (tab_cons (k100_meets F) k100_fok (tab_cons (k88_meets F) k88_fok tab_nil))))
noncomputable def k77_LS0 (F : Nat) : LT := []
theorem k77_lsok0 (F : Nat) : LoopsOK Tryz.prog (k77_LS0 F) (bodyOf Tryz.f22) := loopsOK_nil
theorem k77_keys : keysOK (bodyOf Tryz.f22) = true := by kernel_rfl
def k77_st12 (d0 : Int) (w6 : Bool) (w7 : Bool) (i9 : Int) (k13 : Int) (vc : List (List Int)) (jd : List (List Int)) (vo : List (List Int)) (yp : List (List Int)) (wx : List Int) (vx : List Int) (v38 : Int) (n15 : Int) : St := ⟨expand 108 0 [1, 2, 7, 8, 9, 10, 11, 12, 13, 14] [(.int .i64 d0), (.bool w6), (.ptr 0 0 0 4), (.bool w7), (.ptr 1 0 0 16), (.int .i64 i9), (.ptr 2 0 0 8), (.int .i64 k13), (.int .i64 v38), (.int .i64 n15)], [(.var 4 (.rv [(.rr 4 vc), (.rr 4 jd), (.rr 4 vo), (.rr 4 yp)])), (.var 16 (.ri .i64 wx)), (.var 8 (.ri .i64 vx))], 0, []⟩
def k77_o12 (d0 : Int) (w6 : Bool) (w7 : Bool) (i9 : Int) (k13 : Int) (vc : List (List Int)) (jd : List (List Int)) (vo : List (List Int)) (yp : List (List Int)) (wx : List Int) (vx : List Int) (x : Int) : GT := (.out (.exit 4 ⟨expand 108 0 [1, 2, 7, 8, 9, 10, 11, 12, 13] [(.int .i64 d0), (.bool w6), (.ptr 0 0 0 4), (.bool w7), (.ptr 1 0 0 16), (.int .i64 i9), (.ptr 2 0 0 8), (.int .i64 k13), (.int .i64 x)], [(.var 4 (.rv [(.rr 4 vc), (.rr 4 jd), (.rr 4 vo), (.rr 4 yp)])), (.var 16 (.ri .i64 wx)), (.var 8 (.ri .i64 vx))], 0, []⟩))
def k77_ls12 (F : Nat) : LoopS := ⟨108, [1, 2, 7, 8, 9, 10, 11, 12, 13, 14], [], [1, 2, 7, 8, 9, 10, 11, 12, 13], [], [6], [], [], fun vals mem np killed => match vals, mem, np, killed with
  | [(.int .i64 d0), (.bool w6), (.ptr 0 0 0 4), (.bool w7), (.ptr 1 0 0 16), (.int .i64 i9), (.ptr 2 0 0 8), (.int .i64 k13), (.int .i64 v38), (.int .i64 n15)], [(.var 4 (.rv [(.rr 4 vc), (.rr 4 jd), (.rr 4 vo), (.rr 4 yp)])), (.var 16 (.ri .i64 wx)), (.var 8 (.ri .i64 vx))], 0, [] => .br (k77_l12 F d0 w6 w7 i9 k13 vc jd vo yp wx vx v38 n15).isSome (k77_o12 d0 w6 w7 i9 k13 vc jd vo yp wx vx ((k77_l12 F d0 w6 w7 i9 k13 vc jd vo yp wx vx v38 n15).getD default)) .fail
  | _, _, _, _ => .fail⟩
theorem k77_step12 (F : Nat) (d0 : Int) (w6 : Bool) (w7 : Bool) (i9 : Int) (k13 : Int) (vc : List (List Int)) (jd : List (List Int)) (vo : List (List Int)) (yp : List (List Int)) (wx : List Int) (vx : List Int) (v38 : Int) (n15 : Int) {R : Type} (k : Out → Option R) : stepS tt (k77_tab F) (k77_LS0 F) 70 (k77_ls12 F) (loopAt 12 (bodyOf Tryz.f22)) (k77_st12 d0 w6 w7 i9 k13 vc jd vo yp wx vx v38 n15) k = k77_s12 F d0 w6 w7 i9 k13 vc jd vo yp wx vx R (v38, n15) (fun s => k (.norm (k77_st12 d0 w6 w7 i9 k13 vc jd vo yp wx vx s.1 s.2))) (fun x => (k77_o12 d0 w6 w7 i9 k13 vc jd vo yp wx vx x).run k) := by kernel_rfl
theorem k77_iter12 (F : Nat) (d0 : Int) (w6 : Bool) (w7 : Bool) (i9 : Int) (k13 : Int) (vc : List (List Int)) (jd : List (List Int)) (vo : List (List Int)) (yp : List (List Int)) (wx : List Int) (vx : List Int) {R : Type} (k : Out → Option R) : ∀ (n : Nat) (v38 : Int) (n15 : Int), iterS tt (k77_tab F) (k77_LS0 F) 70 (k77_ls12 F) (loopAt 12 (bodyOf Tryz.f22)) n (k77_st12 d0 w6 w7 i9 k13 vc jd vo yp wx vx v38 n15) k = loopC (k77_s12 F d0 w6 w7 i9 k13 vc jd vo yp wx vx) n (v38, n15) (fun x => (k77_o12 d0 w6 w7 i9 k13 vc jd vo yp wx vx x).run k)
  | 0, v38, n15 => rfl
  | n + 1, v38, n15 => (iterS_succ tt (k77_tab F) (k77_LS0 F) 70 (k77_ls12 F) (loopAt 12 (bodyOf Tryz.f22)) n (k77_st12 d0 w6 w7 i9 k13 vc jd vo yp wx vx v38 n15) k).trans ((k77_step12 F d0 w6 w7 i9 k13 vc jd vo yp wx vx v38 n15 (nextK (iterS tt (k77_tab F) (k77_LS0 F) 70 (k77_ls12 F) (loopAt 12 (bodyOf Tryz.f22)) n) k)).trans (congrArg (fun kn => k77_s12 F d0 w6 w7 i9 k13 vc jd vo yp wx vx R (v38, n15) kn _) (funext (fun ⟨v38, n15⟩ => k77_iter12 F d0 w6 w7 i9 k13 vc jd vo yp wx vx k n v38 n15))))
theorem k77_lok12 (F : Nat) : LoopOK Tryz.prog (loopAt 12 (bodyOf Tryz.f22)) (k77_ls12 F) := by
  refine loopOK_of mixed ttok deep (k77_tabok F) (loopsOK_at (k77_lsok0 F) 12) (fuel := 70) fun R vals mem np killed k x h => ?_
  simp only [k77_ls12] at h
  split at h
  · rename_i d0 w6 w7 i9 k13 v38 n15 vc jd vo yp wx vx
    simp only [GT.run] at h
    have hc := (cond_noneL h).1
    replace h := (cond_noneL h).2
    refine ⟨F, (k77_iter12 F d0 w6 w7 i9 k13 vc jd vo yp wx vx k F v38 n15).trans ((loopC_use (k77_s12_nat F d0 w6 w7 i9 k13 vc jd vo yp wx vx) hc _).trans h)⟩
  · simp only [GT.run] at h
    cases h
noncomputable def k77_LS1 (F : Nat) : LT := (12, k77_ls12 F) :: k77_LS0 F
theorem k77_lsok1 (F : Nat) : LoopsOK Tryz.prog (k77_LS1 F) (bodyOf Tryz.f22) := loopsOK_cons k77_keys (k77_lok12 F) (k77_lsok0 F)
def k77_st8 (d0 : Int) (w6 : Bool) (w7 : Bool) (i9 : Int) (gm : List (List Int)) (wm : List (List Int)) (vc : List (List Int)) (jd : List (List Int)) (vm : List Int) (k13 : Int) (vj : List Int) : St := ⟨expand 108 0 [1, 2, 7, 8, 9, 10, 11, 12] [(.int .i64 d0), (.bool w6), (.ptr 0 0 0 4), (.bool w7), (.ptr 1 0 0 16), (.int .i64 i9), (.ptr 2 0 0 8), (.int .i64 k13)], [(.var 4 (.rv [(.rr 4 gm), (.rr 4 wm), (.rr 4 vc), (.rr 4 jd)])), (.var 16 (.ri .i64 vj)), (.var 8 (.ri .i64 vm))], 0, []⟩
def k77_o8 (d0 : Int) (w6 : Bool) (w7 : Bool) (i9 : Int) (gm : List (List Int)) (wm : List (List Int)) (vc : List (List Int)) (jd : List (List Int)) (vm : List Int) (x : List Int) : GT := (.out (.exit 2 ⟨expand 108 0 [1, 2, 7, 8, 9, 10] [(.int .i64 d0), (.bool w6), (.ptr 0 0 0 4), (.bool w7), (.ptr 1 0 0 16), (.int .i64 i9)], [(.var 4 (.rv [(.rr 4 gm), (.rr 4 wm), (.rr 4 vc), (.rr 4 jd)])), (.var 16 (.ri .i64 x))], 0, []⟩))
def k77_ls8 (F : Nat) : LoopS := ⟨108, [1, 2, 7, 8, 9, 10, 11, 12], [], [1, 2, 7, 8, 9, 10], [], [6], [], [], fun vals mem np killed => match vals, mem, np, killed with
  | [(.int .i64 d0), (.bool w6), (.ptr 0 0 0 4), (.bool w7), (.ptr 1 0 0 16), (.int .i64 i9), (.ptr 2 0 0 8), (.int .i64 k13)], [(.var 4 (.rv [(.rr 4 gm), (.rr 4 wm), (.rr 4 vc), (.rr 4 jd)])), (.var 16 (.ri .i64 vj)), (.var 8 (.ri .i64 vm))], 0, [] => .br (k77_l8 F d0 w6 w7 i9 gm wm vc jd vm k13 vj).isSome (k77_o8 d0 w6 w7 i9 gm wm vc jd vm ((k77_l8 F d0 w6 w7 i9 gm wm vc jd vm k13 vj).getD default)) .fail
  | _, _, _, _ => .fail⟩
theorem k77_step8 (F : Nat) (d0 : Int) (w6 : Bool) (w7 : Bool) (i9 : Int) (gm : List (List Int)) (wm : List (List Int)) (vc : List (List Int)) (jd : List (List Int)) (vm : List Int) (k13 : Int) (vj : List Int) {R : Type} (k : Out → Option R) : stepS tt (k77_tab F) (k77_LS1 F) 70 (k77_ls8 F) (loopAt 8 (bodyOf Tryz.f22)) (k77_st8 d0 w6 w7 i9 gm wm vc jd vm k13 vj) k = k77_s8 F d0 w6 w7 i9 gm wm vc jd vm R (k13, vj) (fun s => k (.norm (k77_st8 d0 w6 w7 i9 gm wm vc jd vm s.1 s.2))) (fun x => (k77_o8 d0 w6 w7 i9 gm wm vc jd vm x).run k) := by kernel_rfl
theorem k77_iter8 (F : Nat) (d0 : Int) (w6 : Bool) (w7 : Bool) (i9 : Int) (gm : List (List Int)) (wm : List (List Int)) (vc : List (List Int)) (jd : List (List Int)) (vm : List Int) {R : Type} (k : Out → Option R) : ∀ (n : Nat) (k13 : Int) (vj : List Int), iterS tt (k77_tab F) (k77_LS1 F) 70 (k77_ls8 F) (loopAt 8 (bodyOf Tryz.f22)) n (k77_st8 d0 w6 w7 i9 gm wm vc jd vm k13 vj) k = loopC (k77_s8 F d0 w6 w7 i9 gm wm vc jd vm) n (k13, vj) (fun x => (k77_o8 d0 w6 w7 i9 gm wm vc jd vm x).run k)
  | 0, k13, vj => rfl
  | n + 1, k13, vj => (iterS_succ tt (k77_tab F) (k77_LS1 F) 70 (k77_ls8 F) (loopAt 8 (bodyOf Tryz.f22)) n (k77_st8 d0 w6 w7 i9 gm wm vc jd vm k13 vj) k).trans ((k77_step8 F d0 w6 w7 i9 gm wm vc jd vm k13 vj (nextK (iterS tt (k77_tab F) (k77_LS1 F) 70 (k77_ls8 F) (loopAt 8 (bodyOf Tryz.f22)) n) k)).trans (congrArg (fun kn => k77_s8 F d0 w6 w7 i9 gm wm vc jd vm R (k13, vj) kn _) (funext (fun ⟨k13, vj⟩ => k77_iter8 F d0 w6 w7 i9 gm wm vc jd vm k n k13 vj))))
theorem k77_lok8 (F : Nat) : LoopOK Tryz.prog (loopAt 8 (bodyOf Tryz.f22)) (k77_ls8 F) := by
  refine loopOK_of mixed ttok deep (k77_tabok F) (loopsOK_at (k77_lsok1 F) 8) (fuel := 70) fun R vals mem np killed k x h => ?_
  simp only [k77_ls8] at h
  split at h
  · rename_i d0 w6 w7 i9 k13 gm wm vc jd vj vm
    simp only [GT.run] at h
    have hc := (cond_noneL h).1
    replace h := (cond_noneL h).2
    refine ⟨F, (k77_iter8 F d0 w6 w7 i9 gm wm vc jd vm k F k13 vj).trans ((loopC_use (k77_s8_nat F d0 w6 w7 i9 gm wm vc jd vm) hc _).trans h)⟩
  · simp only [GT.run] at h
    cases h
noncomputable def k77_LS2 (F : Nat) : LT := (8, k77_ls8 F) :: k77_LS1 F
theorem k77_lsok2 (F : Nat) : LoopsOK Tryz.prog (k77_LS2 F) (bodyOf Tryz.f22) := loopsOK_cons k77_keys (k77_lok8 F) (k77_lsok1 F)
def k77_st4 (d0 : Int) (w6 : Bool) (w7 : Bool) (gf : List (List Int)) (yy : List (List Int)) (jy : List (List Int)) (gy : List (List Int)) (i9 : Int) (y40 : List Int) : St := ⟨expand 108 0 [1, 2, 7, 8, 9, 10] [(.int .i64 d0), (.bool w6), (.ptr 0 0 0 4), (.bool w7), (.ptr 1 0 0 16), (.int .i64 i9)], [(.var 4 (.rv [(.rr 4 gf), (.rr 4 yy), (.rr 4 jy), (.rr 4 gy)])), (.var 16 (.ri .i64 y40))], 0, []⟩
def k77_o4 (d0 : Int) (w6 : Bool) (w7 : Bool) (gf : List (List Int)) (yy : List (List Int)) (jy : List (List Int)) (gy : List (List Int)) (x : List Int) : GT := (.out (.exit 0 ⟨expand 108 0 [9] [(.ptr 0 0 0 16)], [(.var 16 (.ri .i64 x))], 0, []⟩))
def k77_ls4 (F : Nat) : LoopS := ⟨108, [1, 2, 7, 8, 9, 10], [], [9], [], [6], [], [], fun vals mem np killed => match vals, mem, np, killed with
  | [(.int .i64 d0), (.bool w6), (.ptr 0 0 0 4), (.bool w7), (.ptr 1 0 0 16), (.int .i64 i9)], [(.var 4 (.rv [(.rr 4 gf), (.rr 4 yy), (.rr 4 jy), (.rr 4 gy)])), (.var 16 (.ri .i64 y40))], 0, [] => .br (k77_l4 F d0 w6 w7 gf yy jy gy i9 y40).isSome (k77_o4 d0 w6 w7 gf yy jy gy ((k77_l4 F d0 w6 w7 gf yy jy gy i9 y40).getD default)) .fail
  | _, _, _, _ => .fail⟩
theorem k77_step4 (F : Nat) (d0 : Int) (w6 : Bool) (w7 : Bool) (gf : List (List Int)) (yy : List (List Int)) (jy : List (List Int)) (gy : List (List Int)) (i9 : Int) (y40 : List Int) {R : Type} (k : Out → Option R) : stepS tt (k77_tab F) (k77_LS2 F) 70 (k77_ls4 F) (loopAt 4 (bodyOf Tryz.f22)) (k77_st4 d0 w6 w7 gf yy jy gy i9 y40) k = k77_s4 F d0 w6 w7 gf yy jy gy R (i9, y40) (fun s => k (.norm (k77_st4 d0 w6 w7 gf yy jy gy s.1 s.2))) (fun x => (k77_o4 d0 w6 w7 gf yy jy gy x).run k) := by kernel_rfl
theorem k77_iter4 (F : Nat) (d0 : Int) (w6 : Bool) (w7 : Bool) (gf : List (List Int)) (yy : List (List Int)) (jy : List (List Int)) (gy : List (List Int)) {R : Type} (k : Out → Option R) : ∀ (n : Nat) (i9 : Int) (y40 : List Int), iterS tt (k77_tab F) (k77_LS2 F) 70 (k77_ls4 F) (loopAt 4 (bodyOf Tryz.f22)) n (k77_st4 d0 w6 w7 gf yy jy gy i9 y40) k = loopC (k77_s4 F d0 w6 w7 gf yy jy gy) n (i9, y40) (fun x => (k77_o4 d0 w6 w7 gf yy jy gy x).run k)
  | 0, i9, y40 => rfl
  | n + 1, i9, y40 => (iterS_succ tt (k77_tab F) (k77_LS2 F) 70 (k77_ls4 F) (loopAt 4 (bodyOf Tryz.f22)) n (k77_st4 d0 w6 w7 gf yy jy gy i9 y40) k).trans ((k77_step4 F d0 w6 w7 gf yy jy gy i9 y40 (nextK (iterS tt (k77_tab F) (k77_LS2 F) 70 (k77_ls4 F) (loopAt 4 (bodyOf Tryz.f22)) n) k)).trans (congrArg (fun kn => k77_s4 F d0 w6 w7 gf yy jy gy R (i9, y40) kn _) (funext (fun ⟨i9, y40⟩ => k77_iter4 F d0 w6 w7 gf yy jy gy k n i9 y40))))
theorem k77_lok4 (F : Nat) : LoopOK Tryz.prog (loopAt 4 (bodyOf Tryz.f22)) (k77_ls4 F) := by
  refine loopOK_of mixed ttok deep (k77_tabok F) (loopsOK_at (k77_lsok2 F) 4) (fuel := 70) fun R vals mem np killed k x h => ?_
  simp only [k77_ls4] at h
  split at h
  · rename_i d0 w6 w7 i9 gf yy jy gy y40
    simp only [GT.run] at h
    have hc := (cond_noneL h).1
    replace h := (cond_noneL h).2
    refine ⟨F, (k77_iter4 F d0 w6 w7 gf yy jy gy k F i9 y40).trans ((loopC_use (k77_s4_nat F d0 w6 w7 gf yy jy gy) hc _).trans h)⟩
  · simp only [GT.run] at h
    cases h
noncomputable def k77_LS3 (F : Nat) : LT := (4, k77_ls4 F) :: k77_LS2 F
theorem k77_lsok3 (F : Nat) : LoopsOK Tryz.prog (k77_LS3 F) (bodyOf Tryz.f22) := loopsOK_cons k77_keys (k77_lok4 F) (k77_lsok2 F)
def k77_st23 (r5 : Int) (jp : List Int) (c6 : Int) (yn : List (List Int)) : St := ⟨expand 108 0 [9, 15, 16, 17] [(.ptr 0 0 0 16), (.sl 1 0 (List.length yn)), (.int .i64 r5), (.int .i64 c6)], [(.var 16 (.ri .i64 jp)), (.vec 39 (.rr 2 yn))], 0, []⟩
def k77_o23 (r5 : Int) (jp : List Int) (x : List (List Int)) : GT := (.out (.exit 8 ⟨expand 108 0 [9, 15, 16] [(.ptr 0 0 0 16), (.sl 1 0 (List.length x)), (.int .i64 r5)], [(.var 16 (.ri .i64 jp)), (.vec 39 (.rr 2 x))], 0, []⟩))
def k77_ls23 (F : Nat) : LoopS := ⟨108, [9, 15, 16, 17], [], [9, 15, 16], [], [6], [], [], fun vals mem np killed => match vals, mem, np, killed with
  | [(.ptr 0 0 0 16), (.sl 1 0 q_out4), (.int .i64 r5), (.int .i64 c6)], [(.var 16 (.ri .i64 jp)), (.vec 39 (.rr 2 yn))], 0, [] => .br ((Nat.beq q_out4 (List.length yn)) && (k77_l23 F r5 jp c6 yn).isSome) (k77_o23 r5 jp ((k77_l23 F r5 jp c6 yn).getD default)) .fail
  | _, _, _, _ => .fail⟩
theorem k77_step23 (F : Nat) (r5 : Int) (jp : List Int) (c6 : Int) (yn : List (List Int)) {R : Type} (k : Out → Option R) : stepS tt (k77_tab F) (k77_LS3 F) 70 (k77_ls23 F) (loopAt 23 (bodyOf Tryz.f22)) (k77_st23 r5 jp c6 yn) k = k77_s23 F r5 jp R (c6, yn) (fun s => k (.norm (k77_st23 r5 jp s.1 s.2))) (fun x => (k77_o23 r5 jp x).run k) := by kernel_rfl
theorem k77_iter23 (F : Nat) (r5 : Int) (jp : List Int) {R : Type} (k : Out → Option R) : ∀ (n : Nat) (c6 : Int) (yn : List (List Int)), iterS tt (k77_tab F) (k77_LS3 F) 70 (k77_ls23 F) (loopAt 23 (bodyOf Tryz.f22)) n (k77_st23 r5 jp c6 yn) k = loopC (k77_s23 F r5 jp) n (c6, yn) (fun x => (k77_o23 r5 jp x).run k)
  | 0, c6, yn => rfl
  | n + 1, c6, yn => (iterS_succ tt (k77_tab F) (k77_LS3 F) 70 (k77_ls23 F) (loopAt 23 (bodyOf Tryz.f22)) n (k77_st23 r5 jp c6 yn) k).trans ((k77_step23 F r5 jp c6 yn (nextK (iterS tt (k77_tab F) (k77_LS3 F) 70 (k77_ls23 F) (loopAt 23 (bodyOf Tryz.f22)) n) k)).trans (congrArg (fun kn => k77_s23 F r5 jp R (c6, yn) kn _) (funext (fun ⟨c6, yn⟩ => k77_iter23 F r5 jp k n c6 yn))))
theorem k77_lok23 (F : Nat) : LoopOK Tryz.prog (loopAt 23 (bodyOf Tryz.f22)) (k77_ls23 F) := by
  refine loopOK_of mixed ttok deep (k77_tabok F) (loopsOK_at (k77_lsok3 F) 23) (fuel := 70) fun R vals mem np killed k x h => ?_
  simp only [k77_ls23] at h
  split at h
  · rename_i q_out4 r5 c6 jp yn
    simp only [GT.run] at h
    have hc := (cond_noneL h).1
    replace h := (cond_noneL h).2
    have hg := (and_split hc).1
    replace hc := (and_split hc).2
    obtain rfl := nbeq_nat hg
    refine ⟨F, (k77_iter23 F r5 jp k F c6 yn).trans ((loopC_use (k77_s23_nat F r5 jp) hc _).trans h)⟩
  · simp only [GT.run] at h
    cases h
noncomputable def k77_LS4 (F : Nat) : LT := (23, k77_ls23 F) :: k77_LS3 F
theorem k77_lsok4 (F : Nat) : LoopsOK Tryz.prog (k77_LS4 F) (bodyOf Tryz.f22) := loopsOK_cons k77_keys (k77_lok23 F) (k77_lsok3 F)
def k77_st20 (wy : List Int) (r5 : Int) (gp : List (List Int)) : St := ⟨expand 108 0 [9, 15, 16] [(.ptr 0 0 0 16), (.sl 1 0 (List.length gp)), (.int .i64 r5)], [(.var 16 (.ri .i64 wy)), (.vec 39 (.rr 2 gp))], 0, []⟩
def k77_o20 (wy : List Int) (x : List (List Int)) : GT := (.out (.exit 6 ⟨expand 108 0 [15] [(.sl 0 0 (List.length x))], [(.vec 39 (.rr 2 x))], 0, []⟩))
def k77_ls20 (F : Nat) : LoopS := ⟨108, [9, 15, 16], [], [15], [], [6], [], [], fun vals mem np killed => match vals, mem, np, killed with
  | [(.ptr 0 0 0 16), (.sl 1 0 q_out4), (.int .i64 r5)], [(.var 16 (.ri .i64 wy)), (.vec 39 (.rr 2 gp))], 0, [] => .br ((Nat.beq q_out4 (List.length gp)) && (k77_l20 F wy r5 gp).isSome) (k77_o20 wy ((k77_l20 F wy r5 gp).getD default)) .fail
  | _, _, _, _ => .fail⟩
theorem k77_step20 (F : Nat) (wy : List Int) (r5 : Int) (gp : List (List Int)) {R : Type} (k : Out → Option R) : stepS tt (k77_tab F) (k77_LS4 F) 70 (k77_ls20 F) (loopAt 20 (bodyOf Tryz.f22)) (k77_st20 wy r5 gp) k = k77_s20 F wy R (r5, gp) (fun s => k (.norm (k77_st20 wy s.1 s.2))) (fun x => (k77_o20 wy x).run k) := by kernel_rfl
theorem k77_iter20 (F : Nat) (wy : List Int) {R : Type} (k : Out → Option R) : ∀ (n : Nat) (r5 : Int) (gp : List (List Int)), iterS tt (k77_tab F) (k77_LS4 F) 70 (k77_ls20 F) (loopAt 20 (bodyOf Tryz.f22)) n (k77_st20 wy r5 gp) k = loopC (k77_s20 F wy) n (r5, gp) (fun x => (k77_o20 wy x).run k)
  | 0, r5, gp => rfl
  | n + 1, r5, gp => (iterS_succ tt (k77_tab F) (k77_LS4 F) 70 (k77_ls20 F) (loopAt 20 (bodyOf Tryz.f22)) n (k77_st20 wy r5 gp) k).trans ((k77_step20 F wy r5 gp (nextK (iterS tt (k77_tab F) (k77_LS4 F) 70 (k77_ls20 F) (loopAt 20 (bodyOf Tryz.f22)) n) k)).trans (congrArg (fun kn => k77_s20 F wy R (r5, gp) kn _) (funext (fun ⟨r5, gp⟩ => k77_iter20 F wy k n r5 gp))))
theorem k77_lok20 (F : Nat) : LoopOK Tryz.prog (loopAt 20 (bodyOf Tryz.f22)) (k77_ls20 F) := by
  refine loopOK_of mixed ttok deep (k77_tabok F) (loopsOK_at (k77_lsok4 F) 20) (fuel := 70) fun R vals mem np killed k x h => ?_
  simp only [k77_ls20] at h
  split at h
  · rename_i q_out4 r5 wy gp
    simp only [GT.run] at h
    have hc := (cond_noneL h).1
    replace h := (cond_noneL h).2
    have hg := (and_split hc).1
    replace hc := (and_split hc).2
    obtain rfl := nbeq_nat hg
    refine ⟨F, (k77_iter20 F wy k F r5 gp).trans ((loopC_use (k77_s20_nat F wy) hc _).trans h)⟩
  · simp only [GT.run] at h
    cases h
noncomputable def k77_LS5 (F : Nat) : LT := (20, k77_ls20 F) :: k77_LS4 F
theorem k77_lsok5 (F : Nat) : LoopsOK Tryz.prog (k77_LS5 F) (bodyOf Tryz.f22) := loopsOK_cons k77_keys (k77_lok20 F) (k77_lsok4 F)
theorem k77_run (F : Nat) (b0 : List Int) (d1 : Int) (v40 : Bool) : runS tt (k77_tab F) (k77_LS5 F) [] [] Tryz.f22 (bodyOf Tryz.f22) 70 [(.ints 16 b0), (.int .i64 d1), (.bool v40)] [] = k77_c _ F b0 d1 v40 (fun r => some ⟨(.sl 0 0 (List.length r)), [(.vec 39 (.rr 2 r))], []⟩) := by kernel_rfl
def k77_ent (F : Nat) : Ent := ⟨[], .fresh, fun args mem => match args, mem with
  | [(.ints 16 b0), (.int .i64 d1), (.bool v40)], [] => some ((k77_p F b0 d1 v40).isSome, ⟨(.sl 0 0 (List.length ((k77_p F b0 d1 v40).getD default))), [(.vec 39 (.rr 2 ((k77_p F b0 d1 v40).getD default)))], []⟩)
  | _, _ => none⟩
theorem k77_fok : FunOK Tryz.prog 22 := funOK Tryz.func22 (by kernel_rfl) rfl
theorem k77_meets (F : Nat) : Meets Tryz.prog 22 (k77_ent F) := by
  refine meets_of_runS mixed ttok deep (k77_tabok F) Tryz.func22 (body_some rfl) (k77_lsok5 F) fun args mem hfit ret h => ?_
  clear hfit
  simp only [k77_ent] at h
  split at h
  · rename_i b0 d1 v40
    simp only [Option.some.injEq, Prod.mk.injEq] at h
    obtain ⟨hc, rfl⟩ := h
    exact ⟨[], [], 70, _, (k77_run F b0 d1 v40).trans ((k77_cp _ F b0 d1 v40 _).trans (bind_use hc _)), rfl, rfl, rfl⟩
  · cases h
/-! loop.example/g01194/spec.MustMerge -/
noncomputable def k74_tab (F : Nat) : Tab := [(19, (k91_ent F)), (20, (k101_ent F)), (21, (k95_ent F)), (22, (k77_ent F))]
theorem k74_tabok (F : Nat) : TabOK Tryz.prog (k74_tab F) := (tab_cons (k91_meets F) k91_fok (tab_cons (k101_meets F) k101_fok (tab_cons (k95_meets F) k95_fok (tab_cons (k77_meets F) k77_fok tab_nil))))
noncomputable def k74_LS0 (F : Nat) : LT := []
theorem k74_lsok0 (F : Nat) : LoopsOK Tryz.prog (k74_LS0 F) (bodyOf Tryz.f7) := loopsOK_nil
theorem k74_run (F : Nat) (b0 : List Int) (w3 : Int) : runS tt (k74_tab F) (k74_LS0 F) [] [] Tryz.f7 (bodyOf Tryz.f7) 70 [(.ints 16 b0), (.int .i64 w3)] [] = k74_c _ F b0 w3 (fun r => some ⟨(.tup [(.sl 0 0 (List.length r.2)), (.bool r.1)]), [(.vec 39 (.rr 2 r.2))], []⟩) := by kernel_rfl
def k74_ent (F : Nat) : Ent := ⟨[], .fresh, fun args mem => match args, mem with
  | [(.ints 16 b0), (.int .i64 w3)], [] => some ((k74_p F b0 w3).isSome, ⟨(.tup [(.sl 0 0 (List.length ((k74_p F b0 w3).getD default).2)), (.bool ((k74_p F b0 w3).getD default).1)]), [(.vec 39 (.rr 2 ((k74_p F b0 w3).getD default).2))], []⟩)
  | _, _ => none⟩
theorem k74_fok : FunOK Tryz.prog 7 := funOK Tryz.func7 (by kernel_rfl) rfl
theorem k74_meets (F : Nat) : Meets Tryz.prog 7 (k74_ent F) := by
  refine meets_of_runS mixed ttok deep (k74_tabok F) Tryz.func7 (body_some rfl) (k74_lsok0 F) fun args mem hfit ret h => ?_
  clear hfit
  simp only [k74_ent] at h
  split at h
  · rename_i b0 w3
    simp only [Option.some.injEq, Prod.mk.injEq] at h
    obtain ⟨hc, rfl⟩ := h
    exact ⟨[], [], 70, _, (k74_run F b0 w3).trans ((k74_cp _ F b0 w3 _).trans (bind_use hc _)), rfl, rfl, rfl⟩
  · cases h
/-! loop.example/g01194/laws.rCells -/
noncomputable def k98_tab (F : Nat) : Tab := []
theorem k98_tabok (F : Nat) : TabOK Tryz.prog (k98_tab F) := tab_nil
noncomputable def k98_LS0 (F : Nat) : LT := []
theorem k98_lsok0 (F : Nat) : LoopsOK Tryz.prog (k98_LS0 F) (bodyOf Tryz.f8) := loopsOK_nil
theorem k98_keys : keysOK (bodyOf Tryz.f8) = true := by kernel_rfl
def k98_st4 (a0 : List (List Int)) (b1 : List (List Int)) (i2 : Int) : St := ⟨expand 26 0 [0, 1, 5] [(.rr 2 a0), (.rr 2 b1), (.int .i64 i2)], [], 0, []⟩
def k98_o4 (a0 : List (List Int)) (b1 : List (List Int)) (x : Bool) : GT := (.br x (.out (.ret ⟨expand 26 0 [4] [(.bool false)], [], 0, []⟩)) (.out (.exit 0 ⟨expand 26 0 [] [], [], 0, []⟩)))
def k98_ls4 (F : Nat) : LoopS := ⟨26, [0, 1, 5], [], [], [], [4], [], [], fun vals mem np killed => match vals, mem, np, killed with
  | [(.rr 2 a0), (.rr 2 b1), (.int .i64 i2)], [], 0, [] => .br (k98_l4 F a0 b1 i2).isSome (k98_o4 a0 b1 ((k98_l4 F a0 b1 i2).getD default)) .fail
  | _, _, _, _ => .fail⟩
theorem k98_step4 (F : Nat) (a0 : List (List Int)) (b1 : List (List Int)) (i2 : Int) {R : Type} (k : Out → Option R) : stepS tt (k98_tab F) (k98_LS0 F) 70 (k98_ls4 F) (loopAt 4 (bodyOf Tryz.f8)) (k98_st4 a0 b1 i2) k = k98_s4 F a0 b1 R i2 (fun s => k (.norm (k98_st4 a0 b1 s))) (fun x => (k98_o4 a0 b1 x).run k) := by kernel_rfl
theorem k98_iter4 (F : Nat) (a0 : List (List Int)) (b1 : List (List Int)) {R : Type} (k : Out → Option R) : ∀ (n : Nat) (i2 : Int), iterS tt (k98_tab F) (k98_LS0 F) 70 (k98_ls4 F) (loopAt 4 (bodyOf Tryz.f8)) n (k98_st4 a0 b1 i2) k = loopC (k98_s4 F a0 b1) n i2 (fun x => (k98_o4 a0 b1 x).run k)
  | 0, i2 => rfl
  | n + 1, i2 => (iterS_succ tt (k98_tab F) (k98_LS0 F) 70 (k98_ls4 F) (loopAt 4 (bodyOf Tryz.f8)) n (k98_st4 a0 b1 i2) k).trans ((k98_step4 F a0 b1 i2 (nextK (iterS tt (k98_tab F) (k98_LS0 F) 70 (k98_ls4 F) (loopAt 4 (bodyOf Tryz.f8)) n) k)).trans (congrArg (fun kn => k98_s4 F a0 b1 R i2 kn _) (funext (fun i2 => k98_iter4 F a0 b1 k n i2))))
theorem k98_lok4 (F : Nat) : LoopOK Tryz.prog (loopAt 4 (bodyOf Tryz.f8)) (k98_ls4 F) := by
  refine loopOK_of mixed ttok deep (k98_tabok F) (loopsOK_at (k98_lsok0 F) 4) (fuel := 70) fun R vals mem np killed k x h => ?_
  simp only [k98_ls4] at h
  split at h
  · rename_i a0 b1 i2
    simp only [GT.run] at h
    have hc := (cond_noneL h).1
    replace h := (cond_noneL h).2
    refine ⟨F, (k98_iter4 F a0 b1 k F i2).trans ((loopC_use (k98_s4_nat F a0 b1) hc _).trans h)⟩
  · simp only [GT.run] at h
    cases h
noncomputable def k98_LS1 (F : Nat) : LT := (4, k98_ls4 F) :: k98_LS0 F
theorem k98_lsok1 (F : Nat) : LoopsOK Tryz.prog (k98_LS1 F) (bodyOf Tryz.f8) := loopsOK_cons k98_keys (k98_lok4 F) (k98_lsok0 F)
theorem k98_run (F : Nat) (a0 : List (List Int)) (b1 : List (List Int)) : runS tt (k98_tab F) (k98_LS1 F) [] [] Tryz.f8 (bodyOf Tryz.f8) 70 [(.rr 2 a0), (.rr 2 b1)] [] = k98_c _ F a0 b1 (fun r => some ⟨(.bool r), [], []⟩) := by kernel_rfl
def k98_ent (F : Nat) : Ent := ⟨[], .quiet, fun args mem => match args, mem with
  | [(.rr 2 a0), (.rr 2 b1)], [] => some ((k98_p F a0 b1).isSome, ⟨(.bool ((k98_p F a0 b1).getD default)), [], []⟩)
  | _, _ => none⟩
theorem k98_fok : FunOK Tryz.prog 8 := funOK Tryz.func8 (by kernel_rfl) rfl
theorem k98_meets (F : Nat) : Meets Tryz.prog 8 (k98_ent F) := by
  refine meets_of_runS mixed ttok deep (k98_tabok F) Tryz.func8 (body_some rfl) (k98_lsok1 F) fun args mem hfit ret h => ?_
  clear hfit
  simp only [k98_ent] at h
  split at h
  · rename_i a0 b1
    simp only [Option.some.injEq, Prod.mk.injEq] at h
    obtain ⟨hc, rfl⟩ := h
    exact ⟨[], [], 70, _, (k98_run F a0 b1).trans ((k98_cp _ F a0 b1 _).trans (bind_use hc _)), rfl, rfl, rfl⟩
  · cases h
/-! loop.example/g01194/impl.CanMerge -/
noncomputable def k80_tab (F : Nat) : Tab := [(18, (k39_ent F))]
theorem k80_tabok (F : Nat) : TabOK Tryz.prog (k80_tab F) := (tab_cons (k39_meets F) k39_fok tab_nil)
noncomputable def k80_LS0 (F : Nat) : LT := []
theorem k80_lsok0 (F : Nat) : LoopsOK Tryz.prog (k80_LS0 F) (bodyOf Tryz.f9) := loopsOK_nil
theorem k80_run (F : Nat) (b0 : List Int) (w3 : Int) : runS tt (k80_tab F) (k80_LS0 F) [] [] Tryz.f9 (bodyOf Tryz.f9) 70 [(.ints 16 b0), (.int .i64 w3)] [] = k80_c _ F b0 w3 (fun r => some ⟨(.tup [(.sl 0 0 r.1), (.bool r.2.1)]), [(.vec 39 (.rr 2 r.2.2))], []⟩) := by kernel_rfl
def k80_ent (F : Nat) : Ent := ⟨[], .fresh, fun args mem => match args, mem with
  | [(.ints 16 b0), (.int .i64 w3)], [] => some ((k80_p F b0 w3).isSome, ⟨(.tup [(.sl 0 0 ((k80_p F b0 w3).getD default).1), (.bool ((k80_p F b0 w3).getD default).2.1)]), [(.vec 39 (.rr 2 ((k80_p F b0 w3).getD default).2.2))], []⟩)
  | _, _ => none⟩
theorem k80_fok : FunOK Tryz.prog 9 := funOK Tryz.func9 (by kernel_rfl) rfl
theorem k80_meets (F : Nat) : Meets Tryz.prog 9 (k80_ent F) := by
  refine meets_of_runS mixed ttok deep (k80_tabok F) Tryz.func9 (body_some rfl) (k80_lsok0 F) fun args mem hfit ret h => ?_
  clear hfit
  simp only [k80_ent] at h
  split at h
  · rename_i b0 w3
    simp only [Option.some.injEq, Prod.mk.injEq] at h
    obtain ⟨hc, rfl⟩ := h
    exact ⟨[], [], 70, _, (k80_run F b0 w3).trans ((k80_cp _ F b0 w3 _).trans (bind_use hc _)), rfl, rfl, rfl⟩
  · cases h
/-! loop.example/g01194/spec.CanMerge -/
noncomputable def k85_tab (F : Nat) : Tab := [(19, (k91_ent F)), (20, (k101_ent F)), (21, (k95_ent F)), (22, (k77_ent F))]
theorem k85_tabok (F : Nat) : TabOK Tryz.prog (k85_tab F) := (tab_cons (k91_meets F) k91_fok (tab_cons (k101_meets F) k101_fok (tab_cons (k95_meets F) k95_fok (tab_cons (k77_meets F) k77_fok tab_nil))))
noncomputable def k85_LS0 (F : Nat) : LT := []
theorem k85_lsok0 (F : Nat) : LoopsOK Tryz.prog (k85_LS0 F) (bodyOf Tryz.f10) := loopsOK_nil
theorem k85_run (F : Nat) (b0 : List Int) (w3 : Int) : runS tt (k85_tab F) (k85_LS0 F) [] [] Tryz.f10 (bodyOf Tryz.f10) 70 [(.ints 16 b0), (.int .i64 w3)] [] = k85_c _ F b0 w3 (fun r => some ⟨(.tup [(.sl 0 0 (List.length r.2)), (.bool r.1)]), [(.vec 39 (.rr 2 r.2))], []⟩) := by kernel_rfl
def k85_ent (F : Nat) : Ent := ⟨[], .fresh, fun args mem => match args, mem with
  | [(.ints 16 b0), (.int .i64 w3)], [] => some ((k85_p F b0 w3).isSome, ⟨(.tup [(.sl 0 0 (List.length ((k85_p F b0 w3).getD default).2)), (.bool ((k85_p F b0 w3).getD default).1)]), [(.vec 39 (.rr 2 ((k85_p F b0 w3).getD default).2))], []⟩)
  | _, _ => none⟩
theorem k85_fok : FunOK Tryz.prog 10 := funOK Tryz.func10 (by kernel_rfl) rfl
theorem k85_meets (F : Nat) : Meets Tryz.prog 10 (k85_ent F) := by
  refine meets_of_runS mixed ttok deep (k85_tabok F) Tryz.func10 (body_some rfl) (k85_lsok0 F) fun args mem hfit ret h => ?_
  clear hfit
  simp only [k85_ent] at h
  split at h
  · rename_i b0 w3
    simp only [Option.some.injEq, Prod.mk.injEq] at h
    obtain ⟨hc, rfl⟩ := h
    exact ⟨[], [], 70, _, (k85_run F b0 w3).trans ((k85_cp _ F b0 w3 _).trans (bind_use hc _)), rfl, rfl, rfl⟩
  · cases h
end Go.Proofs.YtabfliifleonaajGreat
