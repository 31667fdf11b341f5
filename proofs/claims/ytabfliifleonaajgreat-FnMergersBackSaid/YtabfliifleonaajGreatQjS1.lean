/-
Pure functions and what the code of them does, by program; without conditions.
-/
import Derived.Test.YtabfliifleonaajGreatQjP1
import Derived.Test.YtabfliifleonaajGreatQjS0
namespace Go.Proofs.YtabfliifleonaajGreat
open Go Go.Lv Go.Lv.P Go.Proofs
set_option linter.unusedVariables false
set_option linter.unusedSimpArgs false
set_option maxRecDepth 100000
/-! loop.example/g01194/spec.l2Put -/
noncomputable def k111_tab (F : Nat) : Tab := []
theorem k111_tabok (F : Nat) : TabOK Tryz.prog (k111_tab F) := tab_nil
noncomputable def k111_LS0 (F : Nat) : LT := []
theorem k111_lsok0 (F : Nat) : LoopsOK Tryz.prog (k111_LS0 F) (bodyOf Tryz.f87) := loopsOK_nil
theorem k111_run (F : Nat) (b0 : List Int) (yi : List Int) (t2 : Int) : runS tt (k111_tab F) (k111_LS0 F) [] [] Tryz.f87 (bodyOf Tryz.f87) 70 [(.ints 16 b0), (.ints 2 yi), (.int .i64 t2)] [] = k111_c _ b0 yi t2 (fun r => some ⟨(.ints 16 r), [], []⟩) := by kernel_rfl
def k111_ent (F : Nat) : Ent := ⟨[], .quiet, fun args mem => match args, mem with
  | [(.ints 16 b0), (.ints 2 yi), (.int .i64 t2)], [] => some ((k111_p b0 yi t2).isSome, ⟨(.ints 16 ((k111_p b0 yi t2).getD default)), [], []⟩)
  | _, _ => none⟩
theorem k111_fok : FunOK Tryz.prog 87 := funOK Tryz.func87 (by kernel_rfl) rfl
theorem k111_meets (F : Nat) : Meets Tryz.prog 87 (k111_ent F) := by
  refine meets_of_runS mixed ttok deep (k111_tabok F) Tryz.func87 (body_some rfl) (k111_lsok0 F) fun args mem hfit ret h => ?_
  clear hfit
  simp only [k111_ent] at h
  split at h
  · rename_i b0 yi t2
    simp only [Option.some.injEq, Prod.mk.injEq] at h
    obtain ⟨hc, rfl⟩ := h
    exact ⟨[], [], 70, _, (k111_run F b0 yi t2).trans ((k111_cp _ b0 yi t2 _).trans (bind_use hc _)), rfl, rfl, rfl⟩
  · cases h
/-! loop.example/g01194/spec.l2Slide -/
noncomputable def k92_tab (F : Nat) : Tab := [(59, (k76_ent F)), (83, (k112_ent F)), (48, (k100_ent F)), (87, (k111_ent F))]
theorem k92_tabok (F : Nat) : TabOK Tryz.prog (k92_tab F) := (tab_cons (k76_meets F) k76_fok (tab_cons (k112_meets F) k112_fok (tab_cons (k100_meets F) k100_fok (tab_cons (k111_meets F) k111_fok tab_nil))))
noncomputable def k92_LS0 (F : Nat) : LT := []
theorem k92_lsok0 (F : Nat) : LoopsOK Tryz.prog (k92_LS0 F) (bodyOf Tryz.f67) := loopsOK_nil
theorem k92_keys : keysOK (bodyOf Tryz.f67) = true := by kernel_rfl
def k92_st3 (d0 : Int) (b12 : List Int) (w39 : Int) (i11 : Int) (wg : List Int) : St := ⟨expand 46 0 [1, 2, 4, 6, 7, 8] [(.int .i64 d0), (.ptr 0 0 0 16), (.ptr 1 0 0 16), (.ptr 2 0 0 16), (.int .i64 w39), (.int .i64 i11)], [(.var 16 (.ri .i64 b12)), (.var 16 (.ri .i64 [(0 : Int), (0 : Int), (0 : Int), (0 : Int), (0 : Int), (0 : Int), (0 : Int), (0 : Int), (0 : Int), (0 : Int), (0 : Int), (0 : Int), (0 : Int), (0 : Int), (0 : Int), (0 : Int)])), (.var 16 (.ri .i64 wg))], 0, []⟩
def k92_o3 (d0 : Int) (b12 : List Int) (x : Int × List Int) : GT := (.out (.exit 0 ⟨expand 46 0 [4, 6, 7] [(.ptr 0 0 0 16), (.ptr 1 0 0 16), (.int .i64 x.1)], [(.var 16 (.ri .i64 [(0 : Int), (0 : Int), (0 : Int), (0 : Int), (0 : Int), (0 : Int), (0 : Int), (0 : Int), (0 : Int), (0 : Int), (0 : Int), (0 : Int), (0 : Int), (0 : Int), (0 : Int), (0 : Int)])), (.var 16 (.ri .i64 x.2))], 0, []⟩))
def k92_ls3 (F : Nat) : LoopS := ⟨46, [1, 2, 4, 6, 7, 8], [], [4, 6, 7], [], [4, 5], [], [], fun vals mem np killed => match vals, mem, np, killed with
  | [(.int .i64 d0), (.ptr 0 0 0 16), (.ptr 1 0 0 16), (.ptr 2 0 0 16), (.int .i64 w39), (.int .i64 i11)], [(.var 16 (.ri .i64 b12)), (.var 16 (.ri .i64 q_t413)), (.var 16 (.ri .i64 wg))], 0, [] => .br ((q_t413 == ([(0 : Int), (0 : Int), (0 : Int), (0 : Int), (0 : Int), (0 : Int), (0 : Int), (0 : Int), (0 : Int), (0 : Int), (0 : Int), (0 : Int), (0 : Int), (0 : Int), (0 : Int), (0 : Int)] : List Int)) && (k92_l3 F d0 b12 w39 i11 wg).isSome) (k92_o3 d0 b12 ((k92_l3 F d0 b12 w39 i11 wg).getD default)) .fail
  | _, _, _, _ => .fail⟩
theorem k92_step3 (F : Nat) (d0 : Int) (b12 : List Int) (w39 : Int) (i11 : Int) (wg : List Int) {R : Type} (k : Out → Option R) : stepS tt (k92_tab F) (k92_LS0 F) 70 (k92_ls3 F) (loopAt 3 (bodyOf Tryz.f67)) (k92_st3 d0 b12 w39 i11 wg) k = k92_s3 F d0 b12 R (w39, i11, wg) (fun s => k (.norm (k92_st3 d0 b12 s.1 s.2.1 s.2.2))) (fun x => (k92_o3 d0 b12 x).run k) := by kernel_rfl
theorem k92_iter3 (F : Nat) (d0 : Int) (b12 : List Int) {R : Type} (k : Out → Option R) : ∀ (n : Nat) (w39 : Int) (i11 : Int) (wg : List Int), iterS tt (k92_tab F) (k92_LS0 F) 70 (k92_ls3 F) (loopAt 3 (bodyOf Tryz.f67)) n (k92_st3 d0 b12 w39 i11 wg) k = loopC (k92_s3 F d0 b12) n (w39, i11, wg) (fun x => (k92_o3 d0 b12 x).run k)
  | 0, w39, i11, wg => rfl
  | n + 1, w39, i11, wg => (iterS_succ tt (k92_tab F) (k92_LS0 F) 70 (k92_ls3 F) (loopAt 3 (bodyOf Tryz.f67)) n (k92_st3 d0 b12 w39 i11 wg) k).trans ((k92_step3 F d0 b12 w39 i11 wg (nextK (iterS tt (k92_tab F) (k92_LS0 F) 70 (k92_ls3 F) (loopAt 3 (bodyOf Tryz.f67)) n) k)).trans (congrArg (fun kn => k92_s3 F d0 b12 R (w39, i11, wg) kn _) (funext (fun ⟨w39, i11, wg⟩ => k92_iter3 F d0 b12 k n w39 i11 wg))))
theorem k92_lok3 (F : Nat) : LoopOK Tryz.prog (loopAt 3 (bodyOf Tryz.f67)) (k92_ls3 F) := by
  refine loopOK_of mixed ttok deep (k92_tabok F) (loopsOK_at (k92_lsok0 F) 3) (fuel := 70) fun R vals mem np killed k x h => ?_
  simp only [k92_ls3] at h
  split at h
  · rename_i d0 w39 i11 b12 q_t413 wg
    simp only [GT.run] at h
    have hc := (cond_noneL h).1
    replace h := (cond_noneL h).2
    have hg := (and_split hc).1
    replace hc := (and_split hc).2
    obtain rfl := beq_li hg
    refine ⟨F, (k92_iter3 F d0 b12 k F w39 i11 wg).trans ((loopC_use (k92_s3_nat F d0 b12) hc _).trans h)⟩
  · simp only [GT.run] at h
    cases h
noncomputable def k92_LS1 (F : Nat) : LT := (3, k92_ls3 F) :: k92_LS0 F
theorem k92_lsok1 (F : Nat) : LoopsOK Tryz.prog (k92_LS1 F) (bodyOf Tryz.f67) := loopsOK_cons k92_keys (k92_lok3 F) (k92_lsok0 F)
theorem k92_run (F : Nat) (b0 : List Int) (d1 : Int) : runS tt (k92_tab F) (k92_LS1 F) [] [] Tryz.f67 (bodyOf Tryz.f67) 70 [(.ints 16 b0), (.int .i64 d1)] [] = k92_c _ F b0 d1 (fun r => some ⟨(.tup [(.ints 16 r.1), (.int .i64 r.2)]), [], []⟩) := by kernel_rfl
def k92_ent (F : Nat) : Ent := ⟨[], .quiet, fun args mem => match args, mem with
  | [(.ints 16 b0), (.int .i64 d1)], [] => some ((k92_p F b0 d1).isSome, ⟨(.tup [(.ints 16 ((k92_p F b0 d1).getD default).1), (.int .i64 ((k92_p F b0 d1).getD default).2)]), [], []⟩)
  | _, _ => none⟩
theorem k92_fok : FunOK Tryz.prog 67 := funOK Tryz.func67 (by kernel_rfl) rfl
theorem k92_meets (F : Nat) : Meets Tryz.prog 67 (k92_ent F) := by
  refine meets_of_runS mixed ttok deep (k92_tabok F) Tryz.func67 (body_some rfl) (k92_lsok1 F) fun args mem hfit ret h => ?_
  clear hfit
  simp only [k92_ent] at h
  split at h
  · rename_i b0 d1
    simp only [Option.some.injEq, Prod.mk.injEq] at h
    obtain ⟨hc, rfl⟩ := h
    exact ⟨[], [], 70, _, (k92_run F b0 d1).trans ((k92_cp _ F b0 d1 _).trans (bind_use hc _)), rfl, rfl, rfl⟩
  · cases h
/-! loop.example/g01194/spec.l6With -/
noncomputable def k104_tab (F : Nat) : Tab := [(48, (k100_ent F)), (87, (k111_ent F))]
theorem k104_tabok (F : Nat) : TabOK Tryz.prog (k104_tab F) := (tab_cons (k100_meets F) k100_fok (tab_cons (k111_meets F) k111_fok tab_nil))
noncomputable def k104_LS0 (F : Nat) : LT := []
theorem k104_lsok0 (F : Nat) : LoopsOK Tryz.prog (k104_LS0 F) (bodyOf Tryz.f68) := loopsOK_nil
theorem k104_run (F : Nat) (b0 : List Int) (d1 : Int) (i2 : Int) (ji : List Int) : runS tt (k104_tab F) (k104_LS0 F) [] [] Tryz.f68 (bodyOf Tryz.f68) 70 [(.ints 16 b0), (.int .i64 d1), (.int .i64 i2), (.ints 4 ji)] [] = k104_c _ F b0 d1 i2 ji (fun r => some ⟨(.ints 16 r), [], []⟩) := by kernel_rfl
def k104_ent (F : Nat) : Ent := ⟨[], .quiet, fun args mem => match args, mem with
  | [(.ints 16 b0), (.int .i64 d1), (.int .i64 i2), (.ints 4 ji)], [] => some ((k104_p F b0 d1 i2 ji).isSome, ⟨(.ints 16 ((k104_p F b0 d1 i2 ji).getD default)), [], []⟩)
  | _, _ => none⟩
theorem k104_fok : FunOK Tryz.prog 68 := funOK Tryz.func68 (by kernel_rfl) rfl
theorem k104_meets (F : Nat) : Meets Tryz.prog 68 (k104_ent F) := by
  refine meets_of_runS mixed ttok deep (k104_tabok F) Tryz.func68 (body_some rfl) (k104_lsok0 F) fun args mem hfit ret h => ?_
  clear hfit
  simp only [k104_ent] at h
  split at h
  · rename_i b0 d1 i2 ji
    simp only [Option.some.injEq, Prod.mk.injEq] at h
    obtain ⟨hc, rfl⟩ := h
    exact ⟨[], [], 70, _, (k104_run F b0 d1 i2 ji).trans ((k104_cp _ F b0 d1 i2 ji _).trans (bind_use hc _)), rfl, rfl, rfl⟩
  · cases h
/-! (*loop.example/g01194/spec.l1Cur).made -/
noncomputable def k68_tab (F : Nat) : Tab := [(31, (k54_ent F)), (32, (k71_ent F)), (19, (k91_ent F)), (20, (k101_ent F)), (60, (k75_ent F)), (67, (k92_ent F)), (62, (k70_ent F)), (68, (k104_ent F))]
theorem k68_tabok (F : Nat) : TabOK Tryz.prog (k68_tab F) := (tab_cons (k54_meets F) k54_fok (tab_cons (k71_meets F) k71_fok (tab_cons (k91_meets F) k91_fok (tab_cons (k101_meets F) k101_fok (tab_cons (k75_meets F) k75_fok (tab_cons (k92_meets F) k92_fok (tab_cons (k70_meets F) k70_fok (tab_cons (k104_meets F) k104_fok tab_nil))))))))
noncomputable def k68_LS0 (F : Nat) : LT := []
theorem k68_lsok0 (F : Nat) : LoopsOK Tryz.prog (k68_LS0 F) (bodyOf Tryz.f35) := loopsOK_nil
theorem k68_keys : keysOK (bodyOf Tryz.f35) = true := by kernel_rfl
def k68_st6 (d9 : Int) (c11 : List Int) (i10 : Int) (c12 : Int) (c13 : Int) (b15 : List Int) : St := ⟨expand 52 0 [0, 2, 4, 5, 6] [(.ptr 0 0 0 3), (.ptr 1 0 0 16), (.ptr 2 0 0 16), (.int .i64 d9), (.int .i64 i10)], [(.var 3 (.rv [(.ri .u8 c11), (.int .i64 c12), (.int .u64 c13)])), (.var 16 (.ri .i64 [(0 : Int), (0 : Int), (0 : Int), (0 : Int), (0 : Int), (0 : Int), (0 : Int), (0 : Int), (0 : Int), (0 : Int), (0 : Int), (0 : Int), (0 : Int), (0 : Int), (0 : Int), (0 : Int)])), (.var 16 (.ri .i64 b15))], 1, []⟩
def k68_o6 (d9 : Int) (c11 : List Int) (x : Int × Int × List Int) : GT := (.out (.exit 0 ⟨expand 52 0 [2, 4, 5] [(.ptr 1 0 0 16), (.ptr 2 0 0 16), (.int .i64 d9)], [(.var 3 (.rv [(.ri .u8 c11), (.int .i64 x.1), (.int .u64 x.2.1)])), (.var 16 (.ri .i64 [(0 : Int), (0 : Int), (0 : Int), (0 : Int), (0 : Int), (0 : Int), (0 : Int), (0 : Int), (0 : Int), (0 : Int), (0 : Int), (0 : Int), (0 : Int), (0 : Int), (0 : Int), (0 : Int)])), (.var 16 (.ri .i64 x.2.2))], 1, []⟩))
def k68_ls6 (F : Nat) : LoopS := ⟨52, [0, 2, 4, 5, 6], [], [2, 4, 5], [], [2, 3], [], [], fun vals mem np killed => match vals, mem, np, killed with
  | [(.ptr 0 0 0 3), (.ptr 1 0 0 16), (.ptr 2 0 0 16), (.int .i64 d9), (.int .i64 i10)], [(.var 3 (.rv [(.ri .u8 c11), (.int .i64 c12), (.int .u64 c13)])), (.var 16 (.ri .i64 q_t214)), (.var 16 (.ri .i64 b15))], 1, [] => .br ((q_t214 == ([(0 : Int), (0 : Int), (0 : Int), (0 : Int), (0 : Int), (0 : Int), (0 : Int), (0 : Int), (0 : Int), (0 : Int), (0 : Int), (0 : Int), (0 : Int), (0 : Int), (0 : Int), (0 : Int)] : List Int)) && (k68_l6 F d9 c11 i10 c12 c13 b15).isSome) (k68_o6 d9 c11 ((k68_l6 F d9 c11 i10 c12 c13 b15).getD default)) .fail
  | _, _, _, _ => .fail⟩
theorem k68_step6 (F : Nat) (d9 : Int) (c11 : List Int) (i10 : Int) (c12 : Int) (c13 : Int) (b15 : List Int) {R : Type} (k : Out → Option R) : stepS tt (k68_tab F) (k68_LS0 F) 70 (k68_ls6 F) (loopAt 6 (bodyOf Tryz.f35)) (k68_st6 d9 c11 i10 c12 c13 b15) k = k68_s6 F d9 c11 R (i10, c12, c13, b15) (fun s => k (.norm (k68_st6 d9 c11 s.1 s.2.1 s.2.2.1 s.2.2.2))) (fun x => (k68_o6 d9 c11 x).run k) := by kernel_rfl
theorem k68_iter6 (F : Nat) (d9 : Int) (c11 : List Int) {R : Type} (k : Out → Option R) : ∀ (n : Nat) (i10 : Int) (c12 : Int) (c13 : Int) (b15 : List Int), iterS tt (k68_tab F) (k68_LS0 F) 70 (k68_ls6 F) (loopAt 6 (bodyOf Tryz.f35)) n (k68_st6 d9 c11 i10 c12 c13 b15) k = loopC (k68_s6 F d9 c11) n (i10, c12, c13, b15) (fun x => (k68_o6 d9 c11 x).run k)
  | 0, i10, c12, c13, b15 => rfl
  | n + 1, i10, c12, c13, b15 => (iterS_succ tt (k68_tab F) (k68_LS0 F) 70 (k68_ls6 F) (loopAt 6 (bodyOf Tryz.f35)) n (k68_st6 d9 c11 i10 c12 c13 b15) k).trans ((k68_step6 F d9 c11 i10 c12 c13 b15 (nextK (iterS tt (k68_tab F) (k68_LS0 F) 70 (k68_ls6 F) (loopAt 6 (bodyOf Tryz.f35)) n) k)).trans (congrArg (fun kn => k68_s6 F d9 c11 R (i10, c12, c13, b15) kn _) (funext (fun ⟨i10, c12, c13, b15⟩ => k68_iter6 F d9 c11 k n i10 c12 c13 b15))))
theorem k68_lok6 (F : Nat) : LoopOK Tryz.prog (loopAt 6 (bodyOf Tryz.f35)) (k68_ls6 F) := by
  refine loopOK_of mixed ttok deep (k68_tabok F) (loopsOK_at (k68_lsok0 F) 6) (fuel := 70) fun R vals mem np killed k x h => ?_
  simp only [k68_ls6] at h
  split at h
  · rename_i d9 i10 c11 c12 c13 q_t214 b15
    simp only [GT.run] at h
    have hc := (cond_noneL h).1
    replace h := (cond_noneL h).2
    have hg := (and_split hc).1
    replace hc := (and_split hc).2
    obtain rfl := beq_li hg
    refine ⟨F, (k68_iter6 F d9 c11 k F i10 c12 c13 b15).trans ((loopC_use (k68_s6_nat F d9 c11) hc _).trans h)⟩
  · simp only [GT.run] at h
    cases h
noncomputable def k68_LS1 (F : Nat) : LT := (6, k68_ls6 F) :: k68_LS0 F
theorem k68_lsok1 (F : Nat) : LoopsOK Tryz.prog (k68_LS1 F) (bodyOf Tryz.f35) := loopsOK_cons k68_keys (k68_lok6 F) (k68_lsok0 F)
theorem k68_run (F : Nat) (c3 : List Int) (c4 : Int) (c5 : Int) : runS tt (k68_tab F) (k68_LS1 F) [] [] Tryz.f35 (bodyOf Tryz.f35) 70 [(.ptr 0 0 0 3)] [(.var 3 (.rv [(.ri .u8 c3), (.int .i64 c4), (.int .u64 c5)]))] = k68_c _ F c3 c4 c5 (fun r => some ⟨(.tup [(.ints 16 r.1), (.int .i64 r.2.1)]), [(.var 3 (.rv [(.ri .u8 c3), (.int .i64 r.2.2.1), (.int .u64 r.2.2.2)]))], []⟩) := by kernel_rfl
def k68_ent (F : Nat) : Ent := ⟨[], .loud, fun args mem => match args, mem with
  | [(.ptr 0 0 0 3)], [(.var 3 (.rv [(.ri .u8 c3), (.int .i64 c4), (.int .u64 c5)]))] => some ((k68_p F c3 c4 c5).isSome, ⟨(.tup [(.ints 16 ((k68_p F c3 c4 c5).getD default).1), (.int .i64 ((k68_p F c3 c4 c5).getD default).2.1)]), [(.var 3 (.rv [(.ri .u8 c3), (.int .i64 ((k68_p F c3 c4 c5).getD default).2.2.1), (.int .u64 ((k68_p F c3 c4 c5).getD default).2.2.2)]))], []⟩)
  | _, _ => none⟩
theorem k68_fok : FunOK Tryz.prog 35 := funOK Tryz.func35 (by kernel_rfl) rfl
theorem k68_meets (F : Nat) : Meets Tryz.prog 35 (k68_ent F) := by
  refine meets_of_runS mixed ttok deep (k68_tabok F) Tryz.func35 (body_some rfl) (k68_lsok1 F) fun args mem hfit ret h => ?_
  clear hfit
  simp only [k68_ent] at h
  split at h
  · rename_i c3 c4 c5
    simp only [Option.some.injEq, Prod.mk.injEq] at h
    obtain ⟨hc, rfl⟩ := h
    exact ⟨[], [], 70, _, (k68_run F c3 c4 c5).trans ((k68_cp _ F c3 c4 c5 _).trans (bind_use hc _)), rfl, rfl, rfl⟩
  · cases h
/-! loop.example/g01194/spec.DrawCountBefore -/
noncomputable def k31_tab (F : Nat) : Tab := [(35, (k68_ent F))]
theorem k31_tabok (F : Nat) : TabOK Tryz.prog (k31_tab F) := (tab_cons (k68_meets F) k68_fok tab_nil)
noncomputable def k31_LS0 (F : Nat) : LT := []
theorem k31_lsok0 (F : Nat) : LoopsOK Tryz.prog (k31_LS0 F) (bodyOf Tryz.f17) := loopsOK_nil
theorem k31_run (F : Nat) (j9 : List Int) : runS tt (k31_tab F) (k31_LS0 F) [] [] Tryz.f17 (bodyOf Tryz.f17) 70 [(.ri .u8 j9)] [] = k31_c _ F j9 (fun r => some ⟨(.tup [(.ints 16 r.1), (.int .i64 r.2)]), [], []⟩) := by kernel_rfl
def k31_ent (F : Nat) : Ent := ⟨[], .quiet, fun args mem => match args, mem with
  | [(.ri .u8 j9)], [] => some ((k31_p F j9).isSome, ⟨(.tup [(.ints 16 ((k31_p F j9).getD default).1), (.int .i64 ((k31_p F j9).getD default).2)]), [], []⟩)
  | _, _ => none⟩
theorem k31_fok : FunOK Tryz.prog 17 := funOK Tryz.func17 (by kernel_rfl) rfl
theorem k31_meets (F : Nat) : Meets Tryz.prog 17 (k31_ent F) := by
  refine meets_of_runS mixed ttok deep (k31_tabok F) Tryz.func17 (body_some rfl) (k31_lsok0 F) fun args mem hfit ret h => ?_
  clear hfit
  simp only [k31_ent] at h
  split at h
  · rename_i j9
    simp only [Option.some.injEq, Prod.mk.injEq] at h
    obtain ⟨hc, rfl⟩ := h
    exact ⟨[], [], 70, _, (k31_run F j9).trans ((k31_cp _ F j9 _).trans (bind_use hc _)), rfl, rfl, rfl⟩
  · cases h
/-! loop.example/g01194/spec.DrawMustMerge -/
noncomputable def k38_tab (F : Nat) : Tab := [(17, (k31_ent F))]
theorem k38_tabok (F : Nat) : TabOK Tryz.prog (k38_tab F) := (tab_cons (k31_meets F) k31_fok tab_nil)
noncomputable def k38_LS0 (F : Nat) : LT := []
theorem k38_lsok0 (F : Nat) : LoopsOK Tryz.prog (k38_LS0 F) (bodyOf Tryz.f5) := loopsOK_nil
theorem k38_run (F : Nat) (j9 : List Int) : runS tt (k38_tab F) (k38_LS0 F) [] [] Tryz.f5 (bodyOf Tryz.f5) 70 [(.ri .u8 j9)] [] = k38_c _ F j9 (fun r => some ⟨(.tup [(.ints 16 r.1), (.int .i64 r.2)]), [], []⟩) := by kernel_rfl
def k38_ent (F : Nat) : Ent := ⟨[], .quiet, fun args mem => match args, mem with
  | [(.ri .u8 j9)], [] => some ((k38_p F j9).isSome, ⟨(.tup [(.ints 16 ((k38_p F j9).getD default).1), (.int .i64 ((k38_p F j9).getD default).2)]), [], []⟩)
  | _, _ => none⟩
theorem k38_fok : FunOK Tryz.prog 5 := funOK Tryz.func5 (by kernel_rfl) rfl
theorem k38_meets (F : Nat) : Meets Tryz.prog 5 (k38_ent F) := by
  refine meets_of_runS mixed ttok deep (k38_tabok F) Tryz.func5 (body_some rfl) (k38_lsok0 F) fun args mem hfit ret h => ?_
  clear hfit
  simp only [k38_ent] at h
  split at h
  · rename_i j9
    simp only [Option.some.injEq, Prod.mk.injEq] at h
    obtain ⟨hc, rfl⟩ := h
    exact ⟨[], [], 70, _, (k38_run F j9).trans ((k38_cp _ F j9 _).trans (bind_use hc _)), rfl, rfl, rfl⟩
  · cases h
/-! loop.example/g01194/impl.in -/
noncomputable def k117_tab (F : Nat) : Tab := []
theorem k117_tabok (F : Nat) : TabOK Tryz.prog (k117_tab F) := tab_nil
noncomputable def k117_LS0 (F : Nat) : LT := []
theorem k117_lsok0 (F : Nat) : LoopsOK Tryz.prog (k117_LS0 F) (bodyOf Tryz.f53) := loopsOK_nil
theorem k117_run (F : Nat) (n0 : Int) (y41 : Int) (j41 : Int) : runS tt (k117_tab F) (k117_LS0 F) [] [] Tryz.f53 (bodyOf Tryz.f53) 70 [(.int .i64 n0), (.int .i64 y41), (.int .i64 j41)] [] = k117_c _ n0 y41 j41 (fun r => some ⟨(.bool r), [], []⟩) := by kernel_rfl
def k117_ent (F : Nat) : Ent := ⟨[], .quiet, fun args mem => match args, mem with
  | [(.int .i64 n0), (.int .i64 y41), (.int .i64 j41)], [] => some (true, ⟨(.bool (k117_v n0 y41 j41)), [], []⟩)
  | _, _ => none⟩
theorem k117_fok : FunOK Tryz.prog 53 := funOK Tryz.func53 (by kernel_rfl) rfl
theorem k117_meets (F : Nat) : Meets Tryz.prog 53 (k117_ent F) := by
  refine meets_of_runS mixed ttok deep (k117_tabok F) Tryz.func53 (body_some rfl) (k117_lsok0 F) fun args mem hfit ret h => ?_
  clear hfit
  simp only [k117_ent] at h
  split at h
  · rename_i n0 y41 j41
    simp only [Option.some.injEq, Prod.mk.injEq] at h
    obtain ⟨hc, rfl⟩ := h
    exact ⟨[], [], 70, _, (k117_run F n0 y41 j41).trans (k117_cv _ n0 y41 j41 _), rfl, rfl, rfl⟩
  · cases h
/-! loop.example/g01194/impl.IsRow$1 -/
noncomputable def k81_tab (F : Nat) : Tab := [(53, (k117_ent F))]
theorem k81_tabok (F : Nat) : TabOK Tryz.prog (k81_tab F) := (tab_cons (k117_meets F) k117_fok tab_nil)
noncomputable def k81_LS0 (F : Nat) : LT := []
theorem k81_lsok0 (F : Nat) : LoopsOK Tryz.prog (k81_LS0 F) (bodyOf Tryz.f73) := loopsOK_nil
theorem k81_run (F : Nat) (n0 : Int) : runS tt (k81_tab F) (k81_LS0 F) [] [] Tryz.f73 (bodyOf Tryz.f73) 70 [(.int .i64 n0)] [] = k81_c _ n0 (fun r => some ⟨(.bool r), [], []⟩) := by kernel_rfl
def k81_ent (F : Nat) : Ent := ⟨[], .quiet, fun args mem => match args, mem with
  | [(.int .i64 n0)], [] => some (true, ⟨(.bool (k81_v n0)), [], []⟩)
  | _, _ => none⟩
theorem k81_fok : FunOK Tryz.prog 73 := funOK Tryz.func73 (by kernel_rfl) rfl
theorem k81_meets (F : Nat) : Meets Tryz.prog 73 (k81_ent F) := by
  refine meets_of_runS mixed ttok deep (k81_tabok F) Tryz.func73 (body_some rfl) (k81_lsok0 F) fun args mem hfit ret h => ?_
  clear hfit
  simp only [k81_ent] at h
  split at h
  · rename_i n0
    simp only [Option.some.injEq, Prod.mk.injEq] at h
    obtain ⟨hc, rfl⟩ := h
    exact ⟨[], [], 70, _, (k81_run F n0).trans (k81_cv _ n0 _), rfl, rfl, rfl⟩
  · cases h
/-! slices.IndexFunc[[]int,int] -/
noncomputable def k22_tab (F : Nat) : Tab := [(73, (k81_ent F))]
theorem k22_tabok (F : Nat) : TabOK Tryz.prog (k22_tab F) := (tab_cons (k81_meets F) k81_fok tab_nil)
noncomputable def k22_LS0 (F : Nat) : LT := []
theorem k22_lsok0 (F : Nat) : LoopsOK Tryz.prog (k22_LS0 F) (bodyOf Tryz.f80) := loopsOK_nil
theorem k22_keys : keysOK (bodyOf Tryz.f80) = true := by kernel_rfl
def k22_st2 (s0 : List Int) (t71 : Int) (t82 : Int) : St := ⟨expand 19 0 [0, 1, 7, 8] [(.ri .i64 s0), (.fn 73 [] []), (.int .i64 t71), (.int .i64 t82)], [], 0, []⟩
def k22_o2 (s0 : List Int) (t71 : Int) (x : Bool × Int) : GT := (.br x.1 (.out (.ret ⟨expand 19 0 [4] [(.int .i64 x.2)], [], 0, []⟩)) (.out (.exit 0 ⟨expand 19 0 [] [], [], 0, []⟩)))
def k22_ls2 (F : Nat) : LoopS := ⟨19, [0, 1, 7, 8], [], [], [], [4], [], [], fun vals mem np killed => match vals, mem, np, killed with
  | [(.ri .i64 s0), (.fn 73 [] []), (.int .i64 t71), (.int .i64 t82)], [], 0, [] => .br (k22_l2 F s0 t71 t82).isSome (k22_o2 s0 t71 ((k22_l2 F s0 t71 t82).getD default)) .fail
  | _, _, _, _ => .fail⟩
theorem k22_step2 (F : Nat) (s0 : List Int) (t71 : Int) (t82 : Int) {R : Type} (k : Out → Option R) : stepS tt (k22_tab F) (k22_LS0 F) 70 (k22_ls2 F) (loopAt 2 (bodyOf Tryz.f80)) (k22_st2 s0 t71 t82) k = k22_s2 F s0 t71 R t82 (fun s => k (.norm (k22_st2 s0 t71 s))) (fun x => (k22_o2 s0 t71 x).run k) := by kernel_rfl
theorem k22_iter2 (F : Nat) (s0 : List Int) (t71 : Int) {R : Type} (k : Out → Option R) : ∀ (n : Nat) (t82 : Int), iterS tt (k22_tab F) (k22_LS0 F) 70 (k22_ls2 F) (loopAt 2 (bodyOf Tryz.f80)) n (k22_st2 s0 t71 t82) k = loopC (k22_s2 F s0 t71) n t82 (fun x => (k22_o2 s0 t71 x).run k)
  | 0, t82 => rfl
  | n + 1, t82 => (iterS_succ tt (k22_tab F) (k22_LS0 F) 70 (k22_ls2 F) (loopAt 2 (bodyOf Tryz.f80)) n (k22_st2 s0 t71 t82) k).trans ((k22_step2 F s0 t71 t82 (nextK (iterS tt (k22_tab F) (k22_LS0 F) 70 (k22_ls2 F) (loopAt 2 (bodyOf Tryz.f80)) n) k)).trans (congrArg (fun kn => k22_s2 F s0 t71 R t82 kn _) (funext (fun t82 => k22_iter2 F s0 t71 k n t82))))
theorem k22_lok2 (F : Nat) : LoopOK Tryz.prog (loopAt 2 (bodyOf Tryz.f80)) (k22_ls2 F) := by
  refine loopOK_of mixed ttok deep (k22_tabok F) (loopsOK_at (k22_lsok0 F) 2) (fuel := 70) fun R vals mem np killed k x h => ?_
  simp only [k22_ls2] at h
  split at h
  · rename_i s0 t71 t82
    simp only [GT.run] at h
    have hc := (cond_noneL h).1
    replace h := (cond_noneL h).2
    refine ⟨F, (k22_iter2 F s0 t71 k F t82).trans ((loopC_use (k22_s2_nat F s0 t71) hc _).trans h)⟩
  · simp only [GT.run] at h
    cases h
noncomputable def k22_LS1 (F : Nat) : LT := (2, k22_ls2 F) :: k22_LS0 F
theorem k22_lsok1 (F : Nat) : LoopsOK Tryz.prog (k22_LS1 F) (bodyOf Tryz.f80) := loopsOK_cons k22_keys (k22_lok2 F) (k22_lsok0 F)
theorem k22_run (F : Nat) (s0 : List Int) : runS tt (k22_tab F) (k22_LS1 F) [] [] Tryz.f80 (bodyOf Tryz.f80) 70 [(.ri .i64 s0), (.fn 73 [] [])] [] = k22_c _ F s0 (fun r => some ⟨(.int .i64 r), [], []⟩) := by kernel_rfl
def k22_ent (F : Nat) : Ent := ⟨[], .quiet, fun args mem => match args, mem with
  | [(.ri .i64 s0), (.fn 73 [] [])], [] => some ((k22_p F s0).isSome, ⟨(.int .i64 ((k22_p F s0).getD default)), [], []⟩)
  | _, _ => none⟩
theorem k22_fok : FunOK Tryz.prog 80 := funOK Tryz.func80 (by kernel_rfl) rfl
theorem k22_meets (F : Nat) : Meets Tryz.prog 80 (k22_ent F) := by
  refine meets_of_runS mixed ttok deep (k22_tabok F) Tryz.func80 (body_some rfl) (k22_lsok1 F) fun args mem hfit ret h => ?_
  clear hfit
  simp only [k22_ent] at h
  split at h
  · rename_i s0
    simp only [Option.some.injEq, Prod.mk.injEq] at h
    obtain ⟨hc, rfl⟩ := h
    exact ⟨[], [], 70, _, (k22_run F s0).trans ((k22_cp _ F s0 _).trans (bind_use hc _)), rfl, rfl, rfl⟩
  · cases h
/-! slices.ContainsFunc[[]int,int] -/
noncomputable def k20_tab (F : Nat) : Tab := [(80, (k22_ent F))]
theorem k20_tabok (F : Nat) : TabOK Tryz.prog (k20_tab F) := (tab_cons (k22_meets F) k22_fok tab_nil)
noncomputable def k20_LS0 (F : Nat) : LT := []
theorem k20_lsok0 (F : Nat) : LoopsOK Tryz.prog (k20_LS0 F) (bodyOf Tryz.f72) := loopsOK_nil
theorem k20_run (F : Nat) (s0 : List Int) : runS tt (k20_tab F) (k20_LS0 F) [] [] Tryz.f72 (bodyOf Tryz.f72) 70 [(.ri .i64 s0), (.fn 73 [] [])] [] = k20_c _ F s0 (fun r => some ⟨(.bool r), [], []⟩) := by kernel_rfl
def k20_ent (F : Nat) : Ent := ⟨[], .quiet, fun args mem => match args, mem with
  | [(.ri .i64 s0), (.fn 73 [] [])], [] => some ((k20_p F s0).isSome, ⟨(.bool ((k20_p F s0).getD default)), [], []⟩)
  | _, _ => none⟩
theorem k20_fok : FunOK Tryz.prog 72 := funOK Tryz.func72 (by kernel_rfl) rfl
theorem k20_meets (F : Nat) : Meets Tryz.prog 72 (k20_ent F) := by
  refine meets_of_runS mixed ttok deep (k20_tabok F) Tryz.func72 (body_some rfl) (k20_lsok0 F) fun args mem hfit ret h => ?_
  clear hfit
  simp only [k20_ent] at h
  split at h
  · rename_i s0
    simp only [Option.some.injEq, Prod.mk.injEq] at h
    obtain ⟨hc, rfl⟩ := h
    exact ⟨[], [], 70, _, (k20_run F s0).trans ((k20_cp _ F s0 _).trans (bind_use hc _)), rfl, rfl, rfl⟩
  · cases h
/-! loop.example/g01194/impl.IsRow -/
noncomputable def k105_tab (F : Nat) : Tab := [(72, (k20_ent F))]
theorem k105_tabok (F : Nat) : TabOK Tryz.prog (k105_tab F) := (tab_cons (k20_meets F) k20_fok tab_nil)
noncomputable def k105_LS0 (F : Nat) : LT := []
theorem k105_lsok0 (F : Nat) : LoopsOK Tryz.prog (k105_LS0 F) (bodyOf Tryz.f52) := loopsOK_nil
theorem k105_run (F : Nat) (g4 : List Int) : runS tt (k105_tab F) (k105_LS0 F) [] [] Tryz.f52 (bodyOf Tryz.f52) 70 [(.ints 4 g4)] [] = k105_c _ F g4 (fun r => some ⟨(.bool r), [], []⟩) := by kernel_rfl
def k105_ent (F : Nat) : Ent := ⟨[], .quiet, fun args mem => match args, mem with
  | [(.ints 4 g4)], [] => some ((k105_p F g4).isSome, ⟨(.bool ((k105_p F g4).getD default)), [], []⟩)
  | _, _ => none⟩
theorem k105_fok : FunOK Tryz.prog 52 := funOK Tryz.func52 (by kernel_rfl) rfl
theorem k105_meets (F : Nat) : Meets Tryz.prog 52 (k105_ent F) := by
  refine meets_of_runS mixed ttok deep (k105_tabok F) Tryz.func52 (body_some rfl) (k105_lsok0 F) fun args mem hfit ret h => ?_
  clear hfit
  simp only [k105_ent] at h
  split at h
  · rename_i g4
    simp only [Option.some.injEq, Prod.mk.injEq] at h
    obtain ⟨hc, rfl⟩ := h
    exact ⟨[], [], 70, _, (k105_run F g4).trans ((k105_cp _ F g4 _).trans (bind_use hc _)), rfl, rfl, rfl⟩
  · cases h
/-! loop.example/g01194/impl.IsBoard$1 -/
noncomputable def k58_tab (F : Nat) : Tab := [(52, (k105_ent F))]
theorem k58_tabok (F : Nat) : TabOK Tryz.prog (k58_tab F) := (tab_cons (k105_meets F) k105_fok tab_nil)
noncomputable def k58_LS0 (F : Nat) : LT := []
theorem k58_lsok0 (F : Nat) : LoopsOK Tryz.prog (k58_LS0 F) (bodyOf Tryz.f51) := loopsOK_nil
theorem k58_run (F : Nat) (g4 : List Int) : runS tt (k58_tab F) (k58_LS0 F) [] [] Tryz.f51 (bodyOf Tryz.f51) 70 [(.ints 4 g4)] [] = k58_c _ F g4 (fun r => some ⟨(.bool r), [], []⟩) := by kernel_rfl
def k58_ent (F : Nat) : Ent := ⟨[], .quiet, fun args mem => match args, mem with
  | [(.ints 4 g4)], [] => some ((k58_p F g4).isSome, ⟨(.bool ((k58_p F g4).getD default)), [], []⟩)
  | _, _ => none⟩
theorem k58_fok : FunOK Tryz.prog 51 := funOK Tryz.func51 (by kernel_rfl) rfl
theorem k58_meets (F : Nat) : Meets Tryz.prog 51 (k58_ent F) := by
  refine meets_of_runS mixed ttok deep (k58_tabok F) Tryz.func51 (body_some rfl) (k58_lsok0 F) fun args mem hfit ret h => ?_
  clear hfit
  simp only [k58_ent] at h
  split at h
  · rename_i g4
    simp only [Option.some.injEq, Prod.mk.injEq] at h
    obtain ⟨hc, rfl⟩ := h
    exact ⟨[], [], 70, _, (k58_run F g4).trans ((k58_cp _ F g4 _).trans (bind_use hc _)), rfl, rfl, rfl⟩
  · cases h
/-! slices.IndexFunc[[][4]int,[4]int] -/
noncomputable def k19_tab (F : Nat) : Tab := [(51, (k58_ent F))]
theorem k19_tabok (F : Nat) : TabOK Tryz.prog (k19_tab F) := (tab_cons (k58_meets F) k58_fok tab_nil)
noncomputable def k19_LS0 (F : Nat) : LT := []
theorem k19_lsok0 (F : Nat) : LoopsOK Tryz.prog (k19_LS0 F) (bodyOf Tryz.f69) := loopsOK_nil
theorem k19_keys : keysOK (bodyOf Tryz.f69) = true := by kernel_rfl
def k19_st2 (s0 : List (List Int)) (t71 : Int) (t82 : Int) : St := ⟨expand 19 0 [0, 1, 7, 8] [(.rr 4 s0), (.fn 51 [] []), (.int .i64 t71), (.int .i64 t82)], [], 0, []⟩
def k19_o2 (s0 : List (List Int)) (t71 : Int) (x : Bool × Int) : GT := (.br x.1 (.out (.ret ⟨expand 19 0 [4] [(.int .i64 x.2)], [], 0, []⟩)) (.out (.exit 0 ⟨expand 19 0 [] [], [], 0, []⟩)))
def k19_ls2 (F : Nat) : LoopS := ⟨19, [0, 1, 7, 8], [], [], [], [4], [], [], fun vals mem np killed => match vals, mem, np, killed with
  | [(.rr 4 s0), (.fn 51 [] []), (.int .i64 t71), (.int .i64 t82)], [], 0, [] => .br (k19_l2 F s0 t71 t82).isSome (k19_o2 s0 t71 ((k19_l2 F s0 t71 t82).getD default)) .fail
  | _, _, _, _ => .fail⟩
theorem k19_step2 (F : Nat) (s0 : List (List Int)) (t71 : Int) (t82 : Int) {R : Type} (k : Out → Option R) : stepS tt (k19_tab F) (k19_LS0 F) 70 (k19_ls2 F) (loopAt 2 (bodyOf Tryz.f69)) (k19_st2 s0 t71 t82) k = k19_s2 F s0 t71 R t82 (fun s => k (.norm (k19_st2 s0 t71 s))) (fun x => (k19_o2 s0 t71 x).run k) := by kernel_rfl
theorem k19_iter2 (F : Nat) (s0 : List (List Int)) (t71 : Int) {R : Type} (k : Out → Option R) : ∀ (n : Nat) (t82 : Int), iterS tt (k19_tab F) (k19_LS0 F) 70 (k19_ls2 F) (loopAt 2 (bodyOf Tryz.f69)) n (k19_st2 s0 t71 t82) k = loopC (k19_s2 F s0 t71) n t82 (fun x => (k19_o2 s0 t71 x).run k)
  | 0, t82 => rfl
  | n + 1, t82 => (iterS_succ tt (k19_tab F) (k19_LS0 F) 70 (k19_ls2 F) (loopAt 2 (bodyOf Tryz.f69)) n (k19_st2 s0 t71 t82) k).trans ((k19_step2 F s0 t71 t82 (nextK (iterS tt (k19_tab F) (k19_LS0 F) 70 (k19_ls2 F) (loopAt 2 (bodyOf Tryz.f69)) n) k)).trans (congrArg (fun kn => k19_s2 F s0 t71 R t82 kn _) (funext (fun t82 => k19_iter2 F s0 t71 k n t82))))
theorem k19_lok2 (F : Nat) : LoopOK Tryz.prog (loopAt 2 (bodyOf Tryz.f69)) (k19_ls2 F) := by
  refine loopOK_of mixed ttok deep (k19_tabok F) (loopsOK_at (k19_lsok0 F) 2) (fuel := 70) fun R vals mem np killed k x h => ?_
  simp only [k19_ls2] at h
  split at h
  · rename_i s0 t71 t82
    simp only [GT.run] at h
    have hc := (cond_noneL h).1
    replace h := (cond_noneL h).2
    refine ⟨F, (k19_iter2 F s0 t71 k F t82).trans ((loopC_use (k19_s2_nat F s0 t71) hc _).trans h)⟩
  · simp only [GT.run] at h
    cases h
noncomputable def k19_LS1 (F : Nat) : LT := (2, k19_ls2 F) :: k19_LS0 F
theorem k19_lsok1 (F : Nat) : LoopsOK Tryz.prog (k19_LS1 F) (bodyOf Tryz.f69) := loopsOK_cons k19_keys (k19_lok2 F) (k19_lsok0 F)
theorem k19_run (F : Nat) (s0 : List (List Int)) : runS tt (k19_tab F) (k19_LS1 F) [] [] Tryz.f69 (bodyOf Tryz.f69) 70 [(.rr 4 s0), (.fn 51 [] [])] [] = k19_c _ F s0 (fun r => some ⟨(.int .i64 r), [], []⟩) := by kernel_rfl
def k19_ent (F : Nat) : Ent := ⟨[], .quiet, fun args mem => match args, mem with
  | [(.rr 4 s0), (.fn 51 [] [])], [] => some ((k19_p F s0).isSome, ⟨(.int .i64 ((k19_p F s0).getD default)), [], []⟩)
  | _, _ => none⟩
theorem k19_fok : FunOK Tryz.prog 69 := funOK Tryz.func69 (by kernel_rfl) rfl
theorem k19_meets (F : Nat) : Meets Tryz.prog 69 (k19_ent F) := by
  refine meets_of_runS mixed ttok deep (k19_tabok F) Tryz.func69 (body_some rfl) (k19_lsok1 F) fun args mem hfit ret h => ?_
  clear hfit
  simp only [k19_ent] at h
  split at h
  · rename_i s0
    simp only [Option.some.injEq, Prod.mk.injEq] at h
    obtain ⟨hc, rfl⟩ := h
    exact ⟨[], [], 70, _, (k19_run F s0).trans ((k19_cp _ F s0 _).trans (bind_use hc _)), rfl, rfl, rfl⟩
  · cases h
/-! slices.ContainsFunc[[][4]int,[4]int] -/
noncomputable def k18_tab (F : Nat) : Tab := [(69, (k19_ent F))]
theorem k18_tabok (F : Nat) : TabOK Tryz.prog (k18_tab F) := (tab_cons (k19_meets F) k19_fok tab_nil)
noncomputable def k18_LS0 (F : Nat) : LT := []
theorem k18_lsok0 (F : Nat) : LoopsOK Tryz.prog (k18_LS0 F) (bodyOf Tryz.f50) := loopsOK_nil
theorem k18_run (F : Nat) (s0 : List (List Int)) : runS tt (k18_tab F) (k18_LS0 F) [] [] Tryz.f50 (bodyOf Tryz.f50) 70 [(.rr 4 s0), (.fn 51 [] [])] [] = k18_c _ F s0 (fun r => some ⟨(.bool r), [], []⟩) := by kernel_rfl
def k18_ent (F : Nat) : Ent := ⟨[], .quiet, fun args mem => match args, mem with
  | [(.rr 4 s0), (.fn 51 [] [])], [] => some ((k18_p F s0).isSome, ⟨(.bool ((k18_p F s0).getD default)), [], []⟩)
  | _, _ => none⟩
theorem k18_fok : FunOK Tryz.prog 50 := funOK Tryz.func50 (by kernel_rfl) rfl
theorem k18_meets (F : Nat) : Meets Tryz.prog 50 (k18_ent F) := by
  refine meets_of_runS mixed ttok deep (k18_tabok F) Tryz.func50 (body_some rfl) (k18_lsok0 F) fun args mem hfit ret h => ?_
  clear hfit
  simp only [k18_ent] at h
  split at h
  · rename_i s0
    simp only [Option.some.injEq, Prod.mk.injEq] at h
    obtain ⟨hc, rfl⟩ := h
    exact ⟨[], [], 70, _, (k18_run F s0).trans ((k18_cp _ F s0 _).trans (bind_use hc _)), rfl, rfl, rfl⟩
  · cases h
/-! loop.example/g01194/impl.IsBoard -/
noncomputable def k89_tab (F : Nat) : Tab := [(50, (k18_ent F))]
theorem k89_tabok (F : Nat) : TabOK Tryz.prog (k89_tab F) := (tab_cons (k18_meets F) k18_fok tab_nil)
noncomputable def k89_LS0 (F : Nat) : LT := []
theorem k89_lsok0 (F : Nat) : LoopsOK Tryz.prog (k89_LS0 F) (bodyOf Tryz.f23) := loopsOK_nil
theorem k89_run (F : Nat) (b0 : List Int) : runS tt (k89_tab F) (k89_LS0 F) [] [] Tryz.f23 (bodyOf Tryz.f23) 70 [(.ints 16 b0)] [] = k89_c _ F b0 (fun r => some ⟨(.bool r), [], []⟩) := by kernel_rfl
def k89_ent (F : Nat) : Ent := ⟨[], .quiet, fun args mem => match args, mem with
  | [(.ints 16 b0)], [] => some ((k89_p F b0).isSome, ⟨(.bool ((k89_p F b0).getD default)), [], []⟩)
  | _, _ => none⟩
theorem k89_fok : FunOK Tryz.prog 23 := funOK Tryz.func23 (by kernel_rfl) rfl
theorem k89_meets (F : Nat) : Meets Tryz.prog 23 (k89_ent F) := by
  refine meets_of_runS mixed ttok deep (k89_tabok F) Tryz.func23 (body_some rfl) (k89_lsok0 F) fun args mem hfit ret h => ?_
  clear hfit
  simp only [k89_ent] at h
  split at h
  · rename_i b0
    simp only [Option.some.injEq, Prod.mk.injEq] at h
    obtain ⟨hc, rfl⟩ := h
    exact ⟨[], [], 70, _, (k89_run F b0).trans ((k89_cp _ F b0 _).trans (bind_use hc _)), rfl, rfl, rfl⟩
  · cases h
/-! loop.example/g01194/impl.isDirection -/
noncomputable def k52_tab (F : Nat) : Tab := [(53, (k117_ent F))]
theorem k52_tabok (F : Nat) : TabOK Tryz.prog (k52_tab F) := (tab_cons (k117_meets F) k117_fok tab_nil)
noncomputable def k52_LS0 (F : Nat) : LT := []
theorem k52_lsok0 (F : Nat) : LoopsOK Tryz.prog (k52_LS0 F) (bodyOf Tryz.f24) := loopsOK_nil
theorem k52_run (F : Nat) (d0 : Int) : runS tt (k52_tab F) (k52_LS0 F) [] [] Tryz.f24 (bodyOf Tryz.f24) 70 [(.int .i64 d0)] [] = k52_c _ d0 (fun r => some ⟨(.bool r), [], []⟩) := by kernel_rfl
def k52_ent (F : Nat) : Ent := ⟨[], .quiet, fun args mem => match args, mem with
  | [(.int .i64 d0)], [] => some (true, ⟨(.bool (k52_v d0)), [], []⟩)
  | _, _ => none⟩
theorem k52_fok : FunOK Tryz.prog 24 := funOK Tryz.func24 (by kernel_rfl) rfl
theorem k52_meets (F : Nat) : Meets Tryz.prog 24 (k52_ent F) := by
  refine meets_of_runS mixed ttok deep (k52_tabok F) Tryz.func24 (body_some rfl) (k52_lsok0 F) fun args mem hfit ret h => ?_
  clear hfit
  simp only [k52_ent] at h
  split at h
  · rename_i d0
    simp only [Option.some.injEq, Prod.mk.injEq] at h
    obtain ⟨hc, rfl⟩ := h
    exact ⟨[], [], 70, _, (k52_run F d0).trans (k52_cv _ d0 _), rfl, rfl, rfl⟩
  · cases h
/-! loop.example/g01194/impl.lineCell -/
noncomputable def k82_tab (F : Nat) : Tab := []
theorem k82_tabok (F : Nat) : TabOK Tryz.prog (k82_tab F) := tab_nil
noncomputable def k82_LS0 (F : Nat) : LT := []
theorem k82_lsok0 (F : Nat) : LoopsOK Tryz.prog (k82_LS0 F) (bodyOf Tryz.f42) := loopsOK_nil
theorem k82_run (F : Nat) (j4 : Int) (i1 : Int) (k2 : Int) : runS tt (k82_tab F) (k82_LS0 F) [] [] Tryz.f42 (bodyOf Tryz.f42) 70 [(.int .i64 j4), (.int .i64 i1), (.int .i64 k2)] [] = k82_c _ j4 i1 k2 (fun r => some ⟨(.ints 2 r), [], []⟩) := by kernel_rfl
def k82_ent (F : Nat) : Ent := ⟨[], .quiet, fun args mem => match args, mem with
  | [(.int .i64 j4), (.int .i64 i1), (.int .i64 k2)], [] => some (true, ⟨(.ints 2 (k82_v j4 i1 k2)), [], []⟩)
  | _, _ => none⟩
theorem k82_fok : FunOK Tryz.prog 42 := funOK Tryz.func42 (by kernel_rfl) rfl
theorem k82_meets (F : Nat) : Meets Tryz.prog 42 (k82_ent F) := by
  refine meets_of_runS mixed ttok deep (k82_tabok F) Tryz.func42 (body_some rfl) (k82_lsok0 F) fun args mem hfit ret h => ?_
  clear hfit
  simp only [k82_ent] at h
  split at h
  · rename_i j4 i1 k2
    simp only [Option.some.injEq, Prod.mk.injEq] at h
    obtain ⟨hc, rfl⟩ := h
    exact ⟨[], [], 70, _, (k82_run F j4 i1 k2).trans (k82_cv _ j4 i1 k2 _), rfl, rfl, rfl⟩
  · cases h
/-! (*loop.example/g01194/impl.Board).at -/
noncomputable def k79_tab (F : Nat) : Tab := []
theorem k79_tabok (F : Nat) : TabOK Tryz.prog (k79_tab F) := tab_nil
noncomputable def k79_LS0 (F : Nat) : LT := []
theorem k79_lsok0 (F : Nat) : LoopsOK Tryz.prog (k79_LS0 F) (bodyOf Tryz.f66) := loopsOK_nil
theorem k79_run (F : Nat) (g40 : List Int) (b4 : List Int) : runS tt (k79_tab F) (k79_LS0 F) [] [] Tryz.f66 (bodyOf Tryz.f66) 70 [(.ptr 0 0 0 16), (.ints 2 g40)] [(.var 16 (.ri .i64 b4))] = k79_c _ g40 b4 (fun r => some ⟨(.ptr 0 0 r 1), [(.var 16 (.ri .i64 b4))], []⟩) := by kernel_rfl
def k79_ent (F : Nat) : Ent := ⟨[], .quiet, fun args mem => match args, mem with
  | [(.ptr 0 0 0 16), (.ints 2 g40)], [(.var 16 (.ri .i64 b4))] => some ((k79_p g40 b4).isSome, ⟨(.ptr 0 0 ((k79_p g40 b4).getD default) 1), [], []⟩)
  | _, _ => none⟩
theorem k79_fok : FunOK Tryz.prog 66 := funOK Tryz.func66 (by kernel_rfl) rfl
theorem k79_meets (F : Nat) : Meets Tryz.prog 66 (k79_ent F) := by
  refine meets_of_runS mixed ttok deep (k79_tabok F) Tryz.func66 (body_some rfl) (k79_lsok0 F) fun args mem hfit ret h => ?_
  clear hfit
  simp only [k79_ent] at h
  split at h
  · rename_i g40 b4
    simp only [Option.some.injEq, Prod.mk.injEq] at h
    obtain ⟨hc, rfl⟩ := h
    exact ⟨[], [], 70, _, (k79_run F g40 b4).trans ((k79_cp _ g40 b4 _).trans (bind_use hc _)), rfl, rfl, rfl⟩
  · cases h
/-! (loop.example/g01194/impl.Board).line -/
noncomputable def k56_tab (F : Nat) : Tab := [(42, (k82_ent F)), (66, (k79_ent F))]
theorem k56_tabok (F : Nat) : TabOK Tryz.prog (k56_tab F) := (tab_cons (k82_meets F) k82_fok (tab_cons (k79_meets F) k79_fok tab_nil))
noncomputable def k56_LS0 (F : Nat) : LT := []
theorem k56_lsok0 (F : Nat) : LoopsOK Tryz.prog (k56_LS0 F) (bodyOf Tryz.f37) := loopsOK_nil
theorem k56_run (F : Nat) (b0 : List Int) (w3 : Int) (i2 : Int) : runS tt (k56_tab F) (k56_LS0 F) [] [] Tryz.f37 (bodyOf Tryz.f37) 70 [(.ints 16 b0), (.int .i64 w3), (.int .i64 i2)] [] = k56_c _ b0 w3 i2 (fun r => some ⟨(.ints 4 r), [], []⟩) := by kernel_rfl
def k56_ent (F : Nat) : Ent := ⟨[], .quiet, fun args mem => match args, mem with
  | [(.ints 16 b0), (.int .i64 w3), (.int .i64 i2)], [] => some ((k56_p b0 w3 i2).isSome, ⟨(.ints 4 ((k56_p b0 w3 i2).getD default)), [], []⟩)
  | _, _ => none⟩
theorem k56_fok : FunOK Tryz.prog 37 := funOK Tryz.func37 (by kernel_rfl) rfl
theorem k56_meets (F : Nat) : Meets Tryz.prog 37 (k56_ent F) := by
  refine meets_of_runS mixed ttok deep (k56_tabok F) Tryz.func37 (body_some rfl) (k56_lsok0 F) fun args mem hfit ret h => ?_
  clear hfit
  simp only [k56_ent] at h
  split at h
  · rename_i b0 w3 i2
    simp only [Option.some.injEq, Prod.mk.injEq] at h
    obtain ⟨hc, rfl⟩ := h
    exact ⟨[], [], 70, _, (k56_run F b0 w3 i2).trans ((k56_cp _ b0 w3 i2 _).trans (bind_use hc _)), rfl, rfl, rfl⟩
  · cases h
/-! slices.Clone[[]int,int] -/
def slices_Clone_intint_ent (F : Nat) : Ent := ⟨[], .fresh, fun args mem => match args, mem with
  | [(.ri .i64 xs)], [] => some (fits xs.length 8, ⟨.sl 0 0 xs.length, [.vec 3 (.ri .i64 xs)], []⟩)
  | _, _ => none⟩
theorem slices_Clone_intint_fok : FunOK Tryz.prog 56 := funOK Tryz.func56 (by kernel_rfl) rfl
theorem slices_Clone_intint_meets (F : Nat) : Meets Tryz.prog 56 (slices_Clone_intint_ent F) := by
  have hb : Tryz.f56.body = some (.seq _ (.seq (.seq (.region _ #[_, _] false) _) _)) := rfl
  refine meets_nil (fuel := 70) (fn := Tryz.f56) mixed ttok deep tab_nil Tryz.func56 hb loopsOK_nil rfl rfl rfl rfl rfl rfl Tryz.underlying49 fun args mem hfit ret hg => ?_
  clear hfit
  simp only [slices_Clone_intint_ent] at hg
  split at hg
  · rename_i xs
    simp only [Option.some.injEq, Prod.mk.injEq] at hg
    obtain ⟨hc, rfl⟩ := hg
    refine ⟨⟨[(.ri .i64 xs), .undef, .z0, .undef, .undef, .undef, .undef, .undef], [], 0, []⟩, fun R k => by kernel_rfl, rfl, Nat.le_of_ble_eq_true rfl, fun b hb => ?_⟩
    cases b with
    | true =>
      obtain rfl : xs = [] := List.eq_nil_of_length_eq_zero (hb rfl)
      exact ⟨[⟨2, 3, (.ri .i64 [])⟩], [], _, (by kernel_rfl : _ = some ⟨.sl 0 0 0, [.vec 3 (.ri .i64 [])], []⟩), rfl, rfl, rfl⟩
    | false =>
      refine ⟨[], [], ⟨.sl 0 0 xs.length, [.vec 3 (.ri .i64 xs)], []⟩, Eq.trans (by kernel_rfl : _ = bif fits xs.length 8 then some (⟨.sl 0 0 xs.length, [.vec 3 (.ri .i64 xs)], []⟩ : Ret) else none) ?_, rfl, rfl, rfl⟩
      rw [hc]; rfl
  · cases hg
/-! loop.example/g01194/impl.tiles$1 -/
noncomputable def k84_tab (F : Nat) : Tab := []
theorem k84_tabok (F : Nat) : TabOK Tryz.prog (k84_tab F) := tab_nil
noncomputable def k84_LS0 (F : Nat) : LT := []
theorem k84_lsok0 (F : Nat) : LoopsOK Tryz.prog (k84_LS0 F) (bodyOf Tryz.f57) := loopsOK_nil
theorem k84_run (F : Nat) (n0 : Int) : runS tt (k84_tab F) (k84_LS0 F) [] [] Tryz.f57 (bodyOf Tryz.f57) 70 [(.int .i64 n0)] [] = k84_c _ n0 (fun r => some ⟨(.bool r), [], []⟩) := by kernel_rfl
def k84_ent (F : Nat) : Ent := ⟨[], .quiet, fun args mem => match args, mem with
  | [(.int .i64 n0)], [] => some (true, ⟨(.bool (k84_v n0)), [], []⟩)
  | _, _ => none⟩
theorem k84_fok : FunOK Tryz.prog 57 := funOK Tryz.func57 (by kernel_rfl) rfl
theorem k84_meets (F : Nat) : Meets Tryz.prog 57 (k84_ent F) := by
  refine meets_of_runS mixed ttok deep (k84_tabok F) Tryz.func57 (body_some rfl) (k84_lsok0 F) fun args mem hfit ret h => ?_
  clear hfit
  simp only [k84_ent] at h
  split at h
  · rename_i n0
    simp only [Option.some.injEq, Prod.mk.injEq] at h
    obtain ⟨hc, rfl⟩ := h
    exact ⟨[], [], 70, _, (k84_run F n0).trans (k84_cv _ n0 _), rfl, rfl, rfl⟩
  · cases h
/-! slices.IndexFunc[[]int,int] -/
noncomputable def k23_tab (F : Nat) : Tab := [(57, (k84_ent F))]
theorem k23_tabok (F : Nat) : TabOK Tryz.prog (k23_tab F) := (tab_cons (k84_meets F) k84_fok tab_nil)
noncomputable def k23_LS0 (F : Nat) : LT := []
theorem k23_lsok0 (F : Nat) : LoopsOK Tryz.prog (k23_LS0 F) (bodyOf Tryz.f80) := loopsOK_nil
theorem k23_keys : keysOK (bodyOf Tryz.f80) = true := by kernel_rfl
def k23_st2 (s0 : List Int) (t71 : Int) (t82 : Int) : St := ⟨expand 19 0 [0, 1, 7, 8] [(.ri .i64 s0), (.fn 57 [] []), (.int .i64 t71), (.int .i64 t82)], [], 0, []⟩
def k23_o2 (s0 : List Int) (t71 : Int) (x : Bool × Int) : GT := (.br x.1 (.out (.ret ⟨expand 19 0 [4] [(.int .i64 x.2)], [], 0, []⟩)) (.out (.exit 0 ⟨expand 19 0 [] [], [], 0, []⟩)))
def k23_ls2 (F : Nat) : LoopS := ⟨19, [0, 1, 7, 8], [], [], [], [4], [], [], fun vals mem np killed => match vals, mem, np, killed with
  | [(.ri .i64 s0), (.fn 57 [] []), (.int .i64 t71), (.int .i64 t82)], [], 0, [] => .br (k23_l2 F s0 t71 t82).isSome (k23_o2 s0 t71 ((k23_l2 F s0 t71 t82).getD default)) .fail
  | _, _, _, _ => .fail⟩
theorem k23_step2 (F : Nat) (s0 : List Int) (t71 : Int) (t82 : Int) {R : Type} (k : Out → Option R) : stepS tt (k23_tab F) (k23_LS0 F) 70 (k23_ls2 F) (loopAt 2 (bodyOf Tryz.f80)) (k23_st2 s0 t71 t82) k = k23_s2 F s0 t71 R t82 (fun s => k (.norm (k23_st2 s0 t71 s))) (fun x => (k23_o2 s0 t71 x).run k) := by kernel_rfl
theorem k23_iter2 (F : Nat) (s0 : List Int) (t71 : Int) {R : Type} (k : Out → Option R) : ∀ (n : Nat) (t82 : Int), iterS tt (k23_tab F) (k23_LS0 F) 70 (k23_ls2 F) (loopAt 2 (bodyOf Tryz.f80)) n (k23_st2 s0 t71 t82) k = loopC (k23_s2 F s0 t71) n t82 (fun x => (k23_o2 s0 t71 x).run k)
  | 0, t82 => rfl
  | n + 1, t82 => (iterS_succ tt (k23_tab F) (k23_LS0 F) 70 (k23_ls2 F) (loopAt 2 (bodyOf Tryz.f80)) n (k23_st2 s0 t71 t82) k).trans ((k23_step2 F s0 t71 t82 (nextK (iterS tt (k23_tab F) (k23_LS0 F) 70 (k23_ls2 F) (loopAt 2 (bodyOf Tryz.f80)) n) k)).trans (congrArg (fun kn => k23_s2 F s0 t71 R t82 kn _) (funext (fun t82 => k23_iter2 F s0 t71 k n t82))))
theorem k23_lok2 (F : Nat) : LoopOK Tryz.prog (loopAt 2 (bodyOf Tryz.f80)) (k23_ls2 F) := by
  refine loopOK_of mixed ttok deep (k23_tabok F) (loopsOK_at (k23_lsok0 F) 2) (fuel := 70) fun R vals mem np killed k x h => ?_
  simp only [k23_ls2] at h
  split at h
  · rename_i s0 t71 t82
    simp only [GT.run] at h
    have hc := (cond_noneL h).1
    replace h := (cond_noneL h).2
    refine ⟨F, (k23_iter2 F s0 t71 k F t82).trans ((loopC_use (k23_s2_nat F s0 t71) hc _).trans h)⟩
  · simp only [GT.run] at h
    cases h
noncomputable def k23_LS1 (F : Nat) : LT := (2, k23_ls2 F) :: k23_LS0 F
theorem k23_lsok1 (F : Nat) : LoopsOK Tryz.prog (k23_LS1 F) (bodyOf Tryz.f80) := loopsOK_cons k23_keys (k23_lok2 F) (k23_lsok0 F)
theorem k23_run (F : Nat) (s0 : List Int) : runS tt (k23_tab F) (k23_LS1 F) [] [] Tryz.f80 (bodyOf Tryz.f80) 70 [(.ri .i64 s0), (.fn 57 [] [])] [] = k23_c _ F s0 (fun r => some ⟨(.int .i64 r), [], []⟩) := by kernel_rfl
def k23_ent (F : Nat) : Ent := ⟨[], .quiet, fun args mem => match args, mem with
  | [(.ri .i64 s0), (.fn 57 [] [])], [] => some ((k23_p F s0).isSome, ⟨(.int .i64 ((k23_p F s0).getD default)), [], []⟩)
  | _, _ => none⟩
theorem k23_fok : FunOK Tryz.prog 80 := funOK Tryz.func80 (by kernel_rfl) rfl
theorem k23_meets (F : Nat) : Meets Tryz.prog 80 (k23_ent F) := by
  refine meets_of_runS mixed ttok deep (k23_tabok F) Tryz.func80 (body_some rfl) (k23_lsok1 F) fun args mem hfit ret h => ?_
  clear hfit
  simp only [k23_ent] at h
  split at h
  · rename_i s0
    simp only [Option.some.injEq, Prod.mk.injEq] at h
    obtain ⟨hc, rfl⟩ := h
    exact ⟨[], [], 70, _, (k23_run F s0).trans ((k23_cp _ F s0 _).trans (bind_use hc _)), rfl, rfl, rfl⟩
  · cases h
end Go.Proofs.YtabfliifleonaajGreat
