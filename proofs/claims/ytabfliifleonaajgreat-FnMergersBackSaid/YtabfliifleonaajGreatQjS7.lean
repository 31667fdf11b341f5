/-
Pure functions and what the code of them does, by program; without conditions.
-/
import Derived.Test.YtabfliifleonaajGreatQjP7
import Derived.Test.YtabfliifleonaajGreatQjS6
namespace Go.Proofs.YtabfliifleonaajGreat
open Go Go.Lv Go.Lv.P Go.Proofs
set_option linter.unusedVariables false
set_option linter.unusedSimpArgs false
set_option maxRecDepth 100000
/-! loop.example/g01194/impl.MostBefore -/
noncomputable def k59_tab (F : Nat) : Tab := [(23, (k89_ent F)), (24, (k52_ent F)), (25, (k26_ent F)), (26, (k27_ent F)), (27, (k108_ent F))]
theorem k59_tabok (F : Nat) : TabOK Tryz.prog (k59_tab F) := (tab_cons (k89_meets F) k89_fok (tab_cons (k52_meets F) k52_fok (tab_cons (k26_meets F) k26_fok (tab_cons (k27_meets F) k27_fok (tab_cons (k108_meets F) k108_fok tab_nil)))))
noncomputable def k59_LS0 (F : Nat) : LT := []
theorem k59_lsok0 (F : Nat) : LoopsOK Tryz.prog (k59_LS0 F) (bodyOf Tryz.f11) := loopsOK_nil
theorem k59_keys : keysOK (bodyOf Tryz.f11) = true := by kernel_rfl
def k59_st9 (w5 : Int) (wf : List (List Int)) (vf : List (List Int)) (yg : List (List Int)) (vy : List (List Int)) (yz : Int) (wp : List (List Int)) (jz : Int) (y39 : Int) (y38 : Int) : St := ⟨expand 49 0 [6, 9, 28, 29, 32, 33, 34] [(.int .i64 w5), (.int .i64 y39), (.agg [(.rr 4 wf), (.rr 4 vf), (.rr 4 yg), (.rr 4 vy)]), (.int .i64 yz), (.rr 4 wp), (.int .i64 jz), (.int .i64 y38)], [], 0, []⟩
def k59_o9 (w5 : Int) (wf : List (List Int)) (vf : List (List Int)) (yg : List (List Int)) (vy : List (List Int)) (yz : Int) (wp : List (List Int)) (jz : Int) (x : Int) : GT := (.out (.exit 2 ⟨expand 49 0 [6, 9, 28, 29] [(.int .i64 w5), (.int .i64 x), (.agg [(.rr 4 wf), (.rr 4 vf), (.rr 4 yg), (.rr 4 vy)]), (.int .i64 yz)], [], 0, []⟩))
def k59_ls9 (F : Nat) : LoopS := ⟨49, [6, 9, 28, 29, 32, 33, 34], [], [6, 9, 28, 29], [], [4, 5], [], [], fun vals mem np killed => match vals, mem, np, killed with
  | [(.int .i64 w5), (.int .i64 y39), (.agg [(.rr 4 wf), (.rr 4 vf), (.rr 4 yg), (.rr 4 vy)]), (.int .i64 yz), (.rr 4 wp), (.int .i64 jz), (.int .i64 y38)], [], 0, [] => .br (k59_l9 F w5 wf vf yg vy yz wp jz y39 y38).isSome (k59_o9 w5 wf vf yg vy yz wp jz ((k59_l9 F w5 wf vf yg vy yz wp jz y39 y38).getD default)) .fail
  | _, _, _, _ => .fail⟩
theorem k59_step9 (F : Nat) (w5 : Int) (wf : List (List Int)) (vf : List (List Int)) (yg : List (List Int)) (vy : List (List Int)) (yz : Int) (wp : List (List Int)) (jz : Int) (y39 : Int) (y38 : Int) {R : Type} (k : Out → Option R) : stepS tt (k59_tab F) (k59_LS0 F) 70 (k59_ls9 F) (loopAt 9 (bodyOf Tryz.f11)) (k59_st9 w5 wf vf yg vy yz wp jz y39 y38) k = k59_s9 F w5 wf vf yg vy yz wp jz R (y39, y38) (fun s => k (.norm (k59_st9 w5 wf vf yg vy yz wp jz s.1 s.2))) (fun x => (k59_o9 w5 wf vf yg vy yz wp jz x).run k) := by kernel_rfl
theorem k59_iter9 (F : Nat) (w5 : Int) (wf : List (List Int)) (vf : List (List Int)) (yg : List (List Int)) (vy : List (List Int)) (yz : Int) (wp : List (List Int)) (jz : Int) {R : Type} (k : Out → Option R) : ∀ (n : Nat) (y39 : Int) (y38 : Int), iterS tt (k59_tab F) (k59_LS0 F) 70 (k59_ls9 F) (loopAt 9 (bodyOf Tryz.f11)) n (k59_st9 w5 wf vf yg vy yz wp jz y39 y38) k = loopC (k59_s9 F w5 wf vf yg vy yz wp jz) n (y39, y38) (fun x => (k59_o9 w5 wf vf yg vy yz wp jz x).run k)
  | 0, y39, y38 => rfl
  | n + 1, y39, y38 => (iterS_succ tt (k59_tab F) (k59_LS0 F) 70 (k59_ls9 F) (loopAt 9 (bodyOf Tryz.f11)) n (k59_st9 w5 wf vf yg vy yz wp jz y39 y38) k).trans ((k59_step9 F w5 wf vf yg vy yz wp jz y39 y38 (nextK (iterS tt (k59_tab F) (k59_LS0 F) 70 (k59_ls9 F) (loopAt 9 (bodyOf Tryz.f11)) n) k)).trans (congrArg (fun kn => k59_s9 F w5 wf vf yg vy yz wp jz R (y39, y38) kn _) (funext (fun ⟨y39, y38⟩ => k59_iter9 F w5 wf vf yg vy yz wp jz k n y39 y38))))
theorem k59_lok9 (F : Nat) : LoopOK Tryz.prog (loopAt 9 (bodyOf Tryz.f11)) (k59_ls9 F) := by
  refine loopOK_of mixed ttok deep (k59_tabok F) (loopsOK_at (k59_lsok0 F) 9) (fuel := 70) fun R vals mem np killed k x h => ?_
  simp only [k59_ls9] at h
  split at h
  · rename_i w5 y39 wf vf yg vy yz wp jz y38
    simp only [GT.run] at h
    have hc := (cond_noneL h).1
    replace h := (cond_noneL h).2
    refine ⟨F, (k59_iter9 F w5 wf vf yg vy yz wp jz k F y39 y38).trans ((loopC_use (k59_s9_nat F w5 wf vf yg vy yz wp jz) hc _).trans h)⟩
  · simp only [GT.run] at h
    cases h
noncomputable def k59_LS1 (F : Nat) : LT := (9, k59_ls9 F) :: k59_LS0 F
theorem k59_lsok1 (F : Nat) : LoopsOK Tryz.prog (k59_LS1 F) (bodyOf Tryz.f11) := loopsOK_cons k59_keys (k59_lok9 F) (k59_lsok0 F)
def k59_st5 (vp : List (List Int)) (wf : List (List Int)) (vf : List (List Int)) (yg : List (List Int)) (w5 : Int) (gz : Int) : St := ⟨expand 49 0 [6, 28, 29] [(.int .i64 w5), (.agg [(.rr 4 vp), (.rr 4 wf), (.rr 4 vf), (.rr 4 yg)]), (.int .i64 gz)], [], 0, []⟩
def k59_o5 (vp : List (List Int)) (wf : List (List Int)) (vf : List (List Int)) (yg : List (List Int)) (x : Int) : GT := (.out (.exit 0 ⟨expand 49 0 [6] [(.int .i64 x)], [], 0, []⟩))
def k59_ls5 (F : Nat) : LoopS := ⟨49, [6, 28, 29], [], [6], [], [4, 5], [], [], fun vals mem np killed => match vals, mem, np, killed with
  | [(.int .i64 w5), (.agg [(.rr 4 vp), (.rr 4 wf), (.rr 4 vf), (.rr 4 yg)]), (.int .i64 gz)], [], 0, [] => .br (k59_l5 F vp wf vf yg w5 gz).isSome (k59_o5 vp wf vf yg ((k59_l5 F vp wf vf yg w5 gz).getD default)) .fail
  | _, _, _, _ => .fail⟩
theorem k59_step5 (F : Nat) (vp : List (List Int)) (wf : List (List Int)) (vf : List (List Int)) (yg : List (List Int)) (w5 : Int) (gz : Int) {R : Type} (k : Out → Option R) : stepS tt (k59_tab F) (k59_LS1 F) 70 (k59_ls5 F) (loopAt 5 (bodyOf Tryz.f11)) (k59_st5 vp wf vf yg w5 gz) k = k59_s5 F vp wf vf yg R (w5, gz) (fun s => k (.norm (k59_st5 vp wf vf yg s.1 s.2))) (fun x => (k59_o5 vp wf vf yg x).run k) := by kernel_rfl
theorem k59_iter5 (F : Nat) (vp : List (List Int)) (wf : List (List Int)) (vf : List (List Int)) (yg : List (List Int)) {R : Type} (k : Out → Option R) : ∀ (n : Nat) (w5 : Int) (gz : Int), iterS tt (k59_tab F) (k59_LS1 F) 70 (k59_ls5 F) (loopAt 5 (bodyOf Tryz.f11)) n (k59_st5 vp wf vf yg w5 gz) k = loopC (k59_s5 F vp wf vf yg) n (w5, gz) (fun x => (k59_o5 vp wf vf yg x).run k)
  | 0, w5, gz => rfl
  | n + 1, w5, gz => (iterS_succ tt (k59_tab F) (k59_LS1 F) 70 (k59_ls5 F) (loopAt 5 (bodyOf Tryz.f11)) n (k59_st5 vp wf vf yg w5 gz) k).trans ((k59_step5 F vp wf vf yg w5 gz (nextK (iterS tt (k59_tab F) (k59_LS1 F) 70 (k59_ls5 F) (loopAt 5 (bodyOf Tryz.f11)) n) k)).trans (congrArg (fun kn => k59_s5 F vp wf vf yg R (w5, gz) kn _) (funext (fun ⟨w5, gz⟩ => k59_iter5 F vp wf vf yg k n w5 gz))))
theorem k59_lok5 (F : Nat) : LoopOK Tryz.prog (loopAt 5 (bodyOf Tryz.f11)) (k59_ls5 F) := by
  refine loopOK_of mixed ttok deep (k59_tabok F) (loopsOK_at (k59_lsok1 F) 5) (fuel := 70) fun R vals mem np killed k x h => ?_
  simp only [k59_ls5] at h
  split at h
  · rename_i w5 vp wf vf yg gz
    simp only [GT.run] at h
    have hc := (cond_noneL h).1
    replace h := (cond_noneL h).2
    refine ⟨F, (k59_iter5 F vp wf vf yg k F w5 gz).trans ((loopC_use (k59_s5_nat F vp wf vf yg) hc _).trans h)⟩
  · simp only [GT.run] at h
    cases h
noncomputable def k59_LS2 (F : Nat) : LT := (5, k59_ls5 F) :: k59_LS1 F
theorem k59_lsok2 (F : Nat) : LoopsOK Tryz.prog (k59_LS2 F) (bodyOf Tryz.f11) := loopsOK_cons k59_keys (k59_lok5 F) (k59_lsok1 F)
theorem k59_run (F : Nat) (b0 : List Int) (w3 : Int) : runS tt (k59_tab F) (k59_LS2 F) [] [] Tryz.f11 (bodyOf Tryz.f11) 70 [(.ints 16 b0), (.int .i64 w3)] [] = k59_c _ F b0 w3 (fun r => some ⟨(.tup [(.int .i64 r.1), (.bool r.2)]), [], []⟩) := by kernel_rfl
def k59_ent (F : Nat) : Ent := ⟨[], .quiet, fun args mem => match args, mem with
  | [(.ints 16 b0), (.int .i64 w3)], [] => some ((k59_p F b0 w3).isSome, ⟨(.tup [(.int .i64 ((k59_p F b0 w3).getD default).1), (.bool ((k59_p F b0 w3).getD default).2)]), [], []⟩)
  | _, _ => none⟩
theorem k59_fok : FunOK Tryz.prog 11 := funOK Tryz.func11 (by kernel_rfl) rfl
theorem k59_meets (F : Nat) : Meets Tryz.prog 11 (k59_ent F) := by
  refine meets_of_runS mixed ttok deep (k59_tabok F) Tryz.func11 (body_some rfl) (k59_lsok2 F) fun args mem hfit ret h => ?_
  clear hfit
  simp only [k59_ent] at h
  split at h
  · rename_i b0 w3
    simp only [Option.some.injEq, Prod.mk.injEq] at h
    obtain ⟨hc, rfl⟩ := h
    exact ⟨[], [], 70, _, (k59_run F b0 w3).trans ((k59_cp _ F b0 w3 _).trans (bind_use hc _)), rfl, rfl, rfl⟩
  · cases h
/-! loop.example/g01194/spec.l4Many -/
noncomputable def k103_tab (F : Nat) : Tab := []
theorem k103_tabok (F : Nat) : TabOK Tryz.prog (k103_tab F) := tab_nil
noncomputable def k103_LS0 (F : Nat) : LT := []
theorem k103_lsok0 (F : Nat) : LoopsOK Tryz.prog (k103_LS0 F) (bodyOf Tryz.f30) := loopsOK_nil
theorem k103_keys : keysOK (bodyOf Tryz.f30) = true := by kernel_rfl
def k103_st3 (j8 : List Int) (j39 : Int) (k4 : Int) : St := ⟨expand 16 0 [1, 3, 4] [(.ptr 0 0 0 4), (.int .i64 j39), (.int .i64 k4)], [(.var 4 (.ri .i64 j8))], 0, []⟩
def k103_o3 (j8 : List Int) (x : Int) : GT := (.out (.exit 0 ⟨expand 16 0 [3] [(.int .i64 x)], [], 0, []⟩))
def k103_ls3 (F : Nat) : LoopS := ⟨16, [1, 3, 4], [], [3], [], [2], [], [], fun vals mem np killed => match vals, mem, np, killed with
  | [(.ptr 0 0 0 4), (.int .i64 j39), (.int .i64 k4)], [(.var 4 (.ri .i64 j8))], 0, [] => .br (k103_l3 F j8 j39 k4).isSome (k103_o3 j8 ((k103_l3 F j8 j39 k4).getD default)) .fail
  | _, _, _, _ => .fail⟩
theorem k103_step3 (F : Nat) (j8 : List Int) (j39 : Int) (k4 : Int) {R : Type} (k : Out → Option R) : stepS tt (k103_tab F) (k103_LS0 F) 70 (k103_ls3 F) (loopAt 3 (bodyOf Tryz.f30)) (k103_st3 j8 j39 k4) k = k103_s3 F j8 R (j39, k4) (fun s => k (.norm (k103_st3 j8 s.1 s.2))) (fun x => (k103_o3 j8 x).run k) := by kernel_rfl
theorem k103_iter3 (F : Nat) (j8 : List Int) {R : Type} (k : Out → Option R) : ∀ (n : Nat) (j39 : Int) (k4 : Int), iterS tt (k103_tab F) (k103_LS0 F) 70 (k103_ls3 F) (loopAt 3 (bodyOf Tryz.f30)) n (k103_st3 j8 j39 k4) k = loopC (k103_s3 F j8) n (j39, k4) (fun x => (k103_o3 j8 x).run k)
  | 0, j39, k4 => rfl
  | n + 1, j39, k4 => (iterS_succ tt (k103_tab F) (k103_LS0 F) 70 (k103_ls3 F) (loopAt 3 (bodyOf Tryz.f30)) n (k103_st3 j8 j39 k4) k).trans ((k103_step3 F j8 j39 k4 (nextK (iterS tt (k103_tab F) (k103_LS0 F) 70 (k103_ls3 F) (loopAt 3 (bodyOf Tryz.f30)) n) k)).trans (congrArg (fun kn => k103_s3 F j8 R (j39, k4) kn _) (funext (fun ⟨j39, k4⟩ => k103_iter3 F j8 k n j39 k4))))
theorem k103_lok3 (F : Nat) : LoopOK Tryz.prog (loopAt 3 (bodyOf Tryz.f30)) (k103_ls3 F) := by
  refine loopOK_of mixed ttok deep (k103_tabok F) (loopsOK_at (k103_lsok0 F) 3) (fuel := 70) fun R vals mem np killed k x h => ?_
  simp only [k103_ls3] at h
  split at h
  · rename_i j39 k4 j8
    simp only [GT.run] at h
    have hc := (cond_noneL h).1
    replace h := (cond_noneL h).2
    refine ⟨F, (k103_iter3 F j8 k F j39 k4).trans ((loopC_use (k103_s3_nat F j8) hc _).trans h)⟩
  · simp only [GT.run] at h
    cases h
noncomputable def k103_LS1 (F : Nat) : LT := (3, k103_ls3 F) :: k103_LS0 F
theorem k103_lsok1 (F : Nat) : LoopsOK Tryz.prog (k103_LS1 F) (bodyOf Tryz.f30) := loopsOK_cons k103_keys (k103_lok3 F) (k103_lsok0 F)
theorem k103_run (F : Nat) (g4 : List Int) : runS tt (k103_tab F) (k103_LS1 F) [] [] Tryz.f30 (bodyOf Tryz.f30) 70 [(.ints 4 g4)] [] = k103_c _ F g4 (fun r => some ⟨(.int .i64 r), [], []⟩) := by kernel_rfl
def k103_ent (F : Nat) : Ent := ⟨[], .quiet, fun args mem => match args, mem with
  | [(.ints 4 g4)], [] => some ((k103_p F g4).isSome, ⟨(.int .i64 ((k103_p F g4).getD default)), [], []⟩)
  | _, _ => none⟩
theorem k103_fok : FunOK Tryz.prog 30 := funOK Tryz.func30 (by kernel_rfl) rfl
theorem k103_meets (F : Nat) : Meets Tryz.prog 30 (k103_ent F) := by
  refine meets_of_runS mixed ttok deep (k103_tabok F) Tryz.func30 (body_some rfl) (k103_lsok1 F) fun args mem hfit ret h => ?_
  clear hfit
  simp only [k103_ent] at h
  split at h
  · rename_i g4
    simp only [Option.some.injEq, Prod.mk.injEq] at h
    obtain ⟨hc, rfl⟩ := h
    exact ⟨[], [], 70, _, (k103_run F g4).trans ((k103_cp _ F g4 _).trans (bind_use hc _)), rfl, rfl, rfl⟩
  · cases h
/-! loop.example/g01194/spec.l1Most -/
noncomputable def k99_tab (F : Nat) : Tab := []
theorem k99_tabok (F : Nat) : TabOK Tryz.prog (k99_tab F) := tab_nil
noncomputable def k99_LS0 (F : Nat) : LT := []
theorem k99_lsok0 (F : Nat) : LoopsOK Tryz.prog (k99_LS0 F) (bodyOf Tryz.f29) := loopsOK_nil
theorem k99_run (F : Nat) (a0 : Int) (b1 : Int) : runS tt (k99_tab F) (k99_LS0 F) [] [] Tryz.f29 (bodyOf Tryz.f29) 70 [(.int .i64 a0), (.int .i64 b1)] [] = k99_c _ a0 b1 (fun r => some ⟨(.int .i64 r), [], []⟩) := by kernel_rfl
def k99_ent (F : Nat) : Ent := ⟨[], .quiet, fun args mem => match args, mem with
  | [(.int .i64 a0), (.int .i64 b1)], [] => some (true, ⟨(.int .i64 (k99_v a0 b1)), [], []⟩)
  | _, _ => none⟩
theorem k99_fok : FunOK Tryz.prog 29 := funOK Tryz.func29 (by kernel_rfl) rfl
theorem k99_meets (F : Nat) : Meets Tryz.prog 29 (k99_ent F) := by
  refine meets_of_runS mixed ttok deep (k99_tabok F) Tryz.func29 (body_some rfl) (k99_lsok0 F) fun args mem hfit ret h => ?_
  clear hfit
  simp only [k99_ent] at h
  split at h
  · rename_i a0 b1
    simp only [Option.some.injEq, Prod.mk.injEq] at h
    obtain ⟨hc, rfl⟩ := h
    exact ⟨[], [], 70, _, (k99_run F a0 b1).trans (k99_cv _ a0 b1 _), rfl, rfl, rfl⟩
  · cases h
/-! loop.example/g01194/spec.MostBefore -/
noncomputable def k67_tab (F : Nat) : Tab := [(19, (k91_ent F)), (20, (k101_ent F)), (21, (k95_ent F)), (28, (k96_ent F)), (30, (k103_ent F)), (29, (k99_ent F))]
theorem k67_tabok (F : Nat) : TabOK Tryz.prog (k67_tab F) := (tab_cons (k91_meets F) k91_fok (tab_cons (k101_meets F) k101_fok (tab_cons (k95_meets F) k95_fok (tab_cons (k96_meets F) k96_fok (tab_cons (k103_meets F) k103_fok (tab_cons (k99_meets F) k99_fok tab_nil))))))
noncomputable def k67_LS0 (F : Nat) : LT := []
theorem k67_lsok0 (F : Nat) : LoopsOK Tryz.prog (k67_LS0 F) (bodyOf Tryz.f12) := loopsOK_nil
theorem k67_keys : keysOK (bodyOf Tryz.f12) = true := by kernel_rfl
def k67_st9 (w5 : Int) (i4 : Int) (jg : List (List Int)) (gg : List (List Int)) (yq : List (List Int)) (gf : List (List Int)) (j40 : Int) (k6 : Int) : St := ⟨expand 53 0 [6, 7, 8, 9, 10] [(.int .i64 w5), (.ptr 0 0 0 4), (.int .i64 i4), (.int .i64 j40), (.int .i64 k6)], [(.var 4 (.rv [(.rr 4 jg), (.rr 4 gg), (.rr 4 yq), (.rr 4 gf)]))], 0, []⟩
def k67_o9 (w5 : Int) (i4 : Int) (jg : List (List Int)) (gg : List (List Int)) (yq : List (List Int)) (gf : List (List Int)) (x : Int) : GT := (.out (.exit 2 ⟨expand 53 0 [6, 7, 8, 9] [(.int .i64 w5), (.ptr 0 0 0 4), (.int .i64 i4), (.int .i64 x)], [(.var 4 (.rv [(.rr 4 jg), (.rr 4 gg), (.rr 4 yq), (.rr 4 gf)]))], 0, []⟩))
def k67_ls9 (F : Nat) : LoopS := ⟨53, [6, 7, 8, 9, 10], [], [6, 7, 8, 9], [], [4, 5], [], [], fun vals mem np killed => match vals, mem, np, killed with
  | [(.int .i64 w5), (.ptr 0 0 0 4), (.int .i64 i4), (.int .i64 j40), (.int .i64 k6)], [(.var 4 (.rv [(.rr 4 jg), (.rr 4 gg), (.rr 4 yq), (.rr 4 gf)]))], 0, [] => .br (k67_l9 F w5 i4 jg gg yq gf j40 k6).isSome (k67_o9 w5 i4 jg gg yq gf ((k67_l9 F w5 i4 jg gg yq gf j40 k6).getD default)) .fail
  | _, _, _, _ => .fail⟩
theorem k67_step9 (F : Nat) (w5 : Int) (i4 : Int) (jg : List (List Int)) (gg : List (List Int)) (yq : List (List Int)) (gf : List (List Int)) (j40 : Int) (k6 : Int) {R : Type} (k : Out → Option R) : stepS tt (k67_tab F) (k67_LS0 F) 70 (k67_ls9 F) (loopAt 9 (bodyOf Tryz.f12)) (k67_st9 w5 i4 jg gg yq gf j40 k6) k = k67_s9 F w5 i4 jg gg yq gf R (j40, k6) (fun s => k (.norm (k67_st9 w5 i4 jg gg yq gf s.1 s.2))) (fun x => (k67_o9 w5 i4 jg gg yq gf x).run k) := by kernel_rfl
theorem k67_iter9 (F : Nat) (w5 : Int) (i4 : Int) (jg : List (List Int)) (gg : List (List Int)) (yq : List (List Int)) (gf : List (List Int)) {R : Type} (k : Out → Option R) : ∀ (n : Nat) (j40 : Int) (k6 : Int), iterS tt (k67_tab F) (k67_LS0 F) 70 (k67_ls9 F) (loopAt 9 (bodyOf Tryz.f12)) n (k67_st9 w5 i4 jg gg yq gf j40 k6) k = loopC (k67_s9 F w5 i4 jg gg yq gf) n (j40, k6) (fun x => (k67_o9 w5 i4 jg gg yq gf x).run k)
  | 0, j40, k6 => rfl
  | n + 1, j40, k6 => (iterS_succ tt (k67_tab F) (k67_LS0 F) 70 (k67_ls9 F) (loopAt 9 (bodyOf Tryz.f12)) n (k67_st9 w5 i4 jg gg yq gf j40 k6) k).trans ((k67_step9 F w5 i4 jg gg yq gf j40 k6 (nextK (iterS tt (k67_tab F) (k67_LS0 F) 70 (k67_ls9 F) (loopAt 9 (bodyOf Tryz.f12)) n) k)).trans (congrArg (fun kn => k67_s9 F w5 i4 jg gg yq gf R (j40, k6) kn _) (funext (fun ⟨j40, k6⟩ => k67_iter9 F w5 i4 jg gg yq gf k n j40 k6))))
theorem k67_lok9 (F : Nat) : LoopOK Tryz.prog (loopAt 9 (bodyOf Tryz.f12)) (k67_ls9 F) := by
  refine loopOK_of mixed ttok deep (k67_tabok F) (loopsOK_at (k67_lsok0 F) 9) (fuel := 70) fun R vals mem np killed k x h => ?_
  simp only [k67_ls9] at h
  split at h
  · rename_i w5 i4 j40 k6 jg gg yq gf
    simp only [GT.run] at h
    have hc := (cond_noneL h).1
    replace h := (cond_noneL h).2
    refine ⟨F, (k67_iter9 F w5 i4 jg gg yq gf k F j40 k6).trans ((loopC_use (k67_s9_nat F w5 i4 jg gg yq gf) hc _).trans h)⟩
  · simp only [GT.run] at h
    cases h
noncomputable def k67_LS1 (F : Nat) : LT := (9, k67_ls9 F) :: k67_LS0 F
theorem k67_lsok1 (F : Nat) : LoopsOK Tryz.prog (k67_LS1 F) (bodyOf Tryz.f12) := loopsOK_cons k67_keys (k67_lok9 F) (k67_lsok0 F)
def k67_st5 (wz : List (List Int)) (vz : List (List Int)) (jg : List (List Int)) (gg : List (List Int)) (w5 : Int) (i4 : Int) : St := ⟨expand 53 0 [6, 7, 8] [(.int .i64 w5), (.ptr 0 0 0 4), (.int .i64 i4)], [(.var 4 (.rv [(.rr 4 wz), (.rr 4 vz), (.rr 4 jg), (.rr 4 gg)]))], 0, []⟩
def k67_o5 (wz : List (List Int)) (vz : List (List Int)) (jg : List (List Int)) (gg : List (List Int)) (x : Int) : GT := (.out (.exit 0 ⟨expand 53 0 [6] [(.int .i64 x)], [], 0, []⟩))
def k67_ls5 (F : Nat) : LoopS := ⟨53, [6, 7, 8], [], [6], [], [4, 5], [], [], fun vals mem np killed => match vals, mem, np, killed with
  | [(.int .i64 w5), (.ptr 0 0 0 4), (.int .i64 i4)], [(.var 4 (.rv [(.rr 4 wz), (.rr 4 vz), (.rr 4 jg), (.rr 4 gg)]))], 0, [] => .br (k67_l5 F wz vz jg gg w5 i4).isSome (k67_o5 wz vz jg gg ((k67_l5 F wz vz jg gg w5 i4).getD default)) .fail
  | _, _, _, _ => .fail⟩
theorem k67_step5 (F : Nat) (wz : List (List Int)) (vz : List (List Int)) (jg : List (List Int)) (gg : List (List Int)) (w5 : Int) (i4 : Int) {R : Type} (k : Out → Option R) : stepS tt (k67_tab F) (k67_LS1 F) 70 (k67_ls5 F) (loopAt 5 (bodyOf Tryz.f12)) (k67_st5 wz vz jg gg w5 i4) k = k67_s5 F wz vz jg gg R (w5, i4) (fun s => k (.norm (k67_st5 wz vz jg gg s.1 s.2))) (fun x => (k67_o5 wz vz jg gg x).run k) := by kernel_rfl
theorem k67_iter5 (F : Nat) (wz : List (List Int)) (vz : List (List Int)) (jg : List (List Int)) (gg : List (List Int)) {R : Type} (k : Out → Option R) : ∀ (n : Nat) (w5 : Int) (i4 : Int), iterS tt (k67_tab F) (k67_LS1 F) 70 (k67_ls5 F) (loopAt 5 (bodyOf Tryz.f12)) n (k67_st5 wz vz jg gg w5 i4) k = loopC (k67_s5 F wz vz jg gg) n (w5, i4) (fun x => (k67_o5 wz vz jg gg x).run k)
  | 0, w5, i4 => rfl
  | n + 1, w5, i4 => (iterS_succ tt (k67_tab F) (k67_LS1 F) 70 (k67_ls5 F) (loopAt 5 (bodyOf Tryz.f12)) n (k67_st5 wz vz jg gg w5 i4) k).trans ((k67_step5 F wz vz jg gg w5 i4 (nextK (iterS tt (k67_tab F) (k67_LS1 F) 70 (k67_ls5 F) (loopAt 5 (bodyOf Tryz.f12)) n) k)).trans (congrArg (fun kn => k67_s5 F wz vz jg gg R (w5, i4) kn _) (funext (fun ⟨w5, i4⟩ => k67_iter5 F wz vz jg gg k n w5 i4))))
theorem k67_lok5 (F : Nat) : LoopOK Tryz.prog (loopAt 5 (bodyOf Tryz.f12)) (k67_ls5 F) := by
  refine loopOK_of mixed ttok deep (k67_tabok F) (loopsOK_at (k67_lsok1 F) 5) (fuel := 70) fun R vals mem np killed k x h => ?_
  simp only [k67_ls5] at h
  split at h
  · rename_i w5 i4 wz vz jg gg
    simp only [GT.run] at h
    have hc := (cond_noneL h).1
    replace h := (cond_noneL h).2
    refine ⟨F, (k67_iter5 F wz vz jg gg k F w5 i4).trans ((loopC_use (k67_s5_nat F wz vz jg gg) hc _).trans h)⟩
  · simp only [GT.run] at h
    cases h
noncomputable def k67_LS2 (F : Nat) : LT := (5, k67_ls5 F) :: k67_LS1 F
theorem k67_lsok2 (F : Nat) : LoopsOK Tryz.prog (k67_LS2 F) (bodyOf Tryz.f12) := loopsOK_cons k67_keys (k67_lok5 F) (k67_lsok1 F)
theorem k67_run (F : Nat) (b0 : List Int) (w3 : Int) : runS tt (k67_tab F) (k67_LS2 F) [] [] Tryz.f12 (bodyOf Tryz.f12) 70 [(.ints 16 b0), (.int .i64 w3)] [] = k67_c _ F b0 w3 (fun r => some ⟨(.tup [(.int .i64 r.1), (.bool r.2)]), [], []⟩) := by kernel_rfl
def k67_ent (F : Nat) : Ent := ⟨[], .quiet, fun args mem => match args, mem with
  | [(.ints 16 b0), (.int .i64 w3)], [] => some ((k67_p F b0 w3).isSome, ⟨(.tup [(.int .i64 ((k67_p F b0 w3).getD default).1), (.bool ((k67_p F b0 w3).getD default).2)]), [], []⟩)
  | _, _ => none⟩
theorem k67_fok : FunOK Tryz.prog 12 := funOK Tryz.func12 (by kernel_rfl) rfl
theorem k67_meets (F : Nat) : Meets Tryz.prog 12 (k67_ent F) := by
  refine meets_of_runS mixed ttok deep (k67_tabok F) Tryz.func12 (body_some rfl) (k67_lsok2 F) fun args mem hfit ret h => ?_
  clear hfit
  simp only [k67_ent] at h
  split at h
  · rename_i b0 w3
    simp only [Option.some.injEq, Prod.mk.injEq] at h
    obtain ⟨hc, rfl⟩ := h
    exact ⟨[], [], 70, _, (k67_run F b0 w3).trans ((k67_cp _ F b0 w3 _).trans (bind_use hc _)), rfl, rfl, rfl⟩
  · cases h
/-! loop.example/g01194/spec.DrawSlideBoard -/
noncomputable def k35_tab (F : Nat) : Tab := [(31, (k54_ent F)), (32, (k71_ent F))]
theorem k35_tabok (F : Nat) : TabOK Tryz.prog (k35_tab F) := (tab_cons (k54_meets F) k54_fok (tab_cons (k71_meets F) k71_fok tab_nil))
noncomputable def k35_LS0 (F : Nat) : LT := []
theorem k35_lsok0 (F : Nat) : LoopsOK Tryz.prog (k35_LS0 F) (bodyOf Tryz.f13) := loopsOK_nil
theorem k35_run (F : Nat) (j9 : List Int) : runS tt (k35_tab F) (k35_LS0 F) [] [] Tryz.f13 (bodyOf Tryz.f13) 70 [(.ri .u8 j9)] [] = k35_c _ F j9 (fun r => some ⟨(.tup [(.ints 16 r.1), (.int .i64 r.2)]), [], []⟩) := by kernel_rfl
def k35_ent (F : Nat) : Ent := ⟨[], .quiet, fun args mem => match args, mem with
  | [(.ri .u8 j9)], [] => some ((k35_p F j9).isSome, ⟨(.tup [(.ints 16 ((k35_p F j9).getD default).1), (.int .i64 ((k35_p F j9).getD default).2)]), [], []⟩)
  | _, _ => none⟩
theorem k35_fok : FunOK Tryz.prog 13 := funOK Tryz.func13 (by kernel_rfl) rfl
theorem k35_meets (F : Nat) : Meets Tryz.prog 13 (k35_ent F) := by
  refine meets_of_runS mixed ttok deep (k35_tabok F) Tryz.func13 (body_some rfl) (k35_lsok0 F) fun args mem hfit ret h => ?_
  clear hfit
  simp only [k35_ent] at h
  split at h
  · rename_i j9
    simp only [Option.some.injEq, Prod.mk.injEq] at h
    obtain ⟨hc, rfl⟩ := h
    exact ⟨[], [], 70, _, (k35_run F j9).trans ((k35_cp _ F j9 _).trans (bind_use hc _)), rfl, rfl, rfl⟩
  · cases h
/-! loop.example/g01194/impl.SlideBoard -/
noncomputable def k60_tab (F : Nat) : Tab := [(23, (k89_ent F)), (24, (k52_ent F)), (33, (k50_ent F))]
theorem k60_tabok (F : Nat) : TabOK Tryz.prog (k60_tab F) := (tab_cons (k89_meets F) k89_fok (tab_cons (k52_meets F) k52_fok (tab_cons (k50_meets F) k50_fok tab_nil)))
noncomputable def k60_LS0 (F : Nat) : LT := []
theorem k60_lsok0 (F : Nat) : LoopsOK Tryz.prog (k60_LS0 F) (bodyOf Tryz.f14) := loopsOK_nil
theorem k60_run (F : Nat) (b0 : List Int) (w3 : Int) : runS tt (k60_tab F) (k60_LS0 F) [] [] Tryz.f14 (bodyOf Tryz.f14) 70 [(.ints 16 b0), (.int .i64 w3)] [] = k60_c _ F b0 w3 (fun r => some ⟨(.tup [(.ints 16 r.1), (.int .i64 r.2.1), (.bool r.2.2)]), [], []⟩) := by kernel_rfl
def k60_ent (F : Nat) : Ent := ⟨[], .quiet, fun args mem => match args, mem with
  | [(.ints 16 b0), (.int .i64 w3)], [] => some ((k60_p F b0 w3).isSome, ⟨(.tup [(.ints 16 ((k60_p F b0 w3).getD default).1), (.int .i64 ((k60_p F b0 w3).getD default).2.1), (.bool ((k60_p F b0 w3).getD default).2.2)]), [], []⟩)
  | _, _ => none⟩
theorem k60_fok : FunOK Tryz.prog 14 := funOK Tryz.func14 (by kernel_rfl) rfl
theorem k60_meets (F : Nat) : Meets Tryz.prog 14 (k60_ent F) := by
  refine meets_of_runS mixed ttok deep (k60_tabok F) Tryz.func14 (body_some rfl) (k60_lsok0 F) fun args mem hfit ret h => ?_
  clear hfit
  simp only [k60_ent] at h
  split at h
  · rename_i b0 w3
    simp only [Option.some.injEq, Prod.mk.injEq] at h
    obtain ⟨hc, rfl⟩ := h
    exact ⟨[], [], 70, _, (k60_run F b0 w3).trans ((k60_cp _ F b0 w3 _).trans (bind_use hc _)), rfl, rfl, rfl⟩
  · cases h
/-! loop.example/g01194/impl.CountBefore -/
noncomputable def k51_tab (F : Nat) : Tab := [(23, (k89_ent F)), (24, (k52_ent F)), (25, (k26_ent F))]
theorem k51_tabok (F : Nat) : TabOK Tryz.prog (k51_tab F) := (tab_cons (k89_meets F) k89_fok (tab_cons (k52_meets F) k52_fok (tab_cons (k26_meets F) k26_fok tab_nil)))
noncomputable def k51_LS0 (F : Nat) : LT := []
theorem k51_lsok0 (F : Nat) : LoopsOK Tryz.prog (k51_LS0 F) (bodyOf Tryz.f15) := loopsOK_nil
theorem k51_run (F : Nat) (b0 : List Int) (w3 : Int) : runS tt (k51_tab F) (k51_LS0 F) [] [] Tryz.f15 (bodyOf Tryz.f15) 70 [(.ints 16 b0), (.int .i64 w3)] [] = k51_c _ F b0 w3 (fun r => some ⟨(.tup [(.int .i64 r.1), (.bool r.2)]), [], []⟩) := by kernel_rfl
def k51_ent (F : Nat) : Ent := ⟨[], .quiet, fun args mem => match args, mem with
  | [(.ints 16 b0), (.int .i64 w3)], [] => some ((k51_p F b0 w3).isSome, ⟨(.tup [(.int .i64 ((k51_p F b0 w3).getD default).1), (.bool ((k51_p F b0 w3).getD default).2)]), [], []⟩)
  | _, _ => none⟩
theorem k51_fok : FunOK Tryz.prog 15 := funOK Tryz.func15 (by kernel_rfl) rfl
theorem k51_meets (F : Nat) : Meets Tryz.prog 15 (k51_ent F) := by
  refine meets_of_runS mixed ttok deep (k51_tabok F) Tryz.func15 (body_some rfl) (k51_lsok0 F) fun args mem hfit ret h => ?_
  clear hfit
  simp only [k51_ent] at h
  split at h
  · rename_i b0 w3
    simp only [Option.some.injEq, Prod.mk.injEq] at h
    obtain ⟨hc, rfl⟩ := h
    exact ⟨[], [], 70, _, (k51_run F b0 w3).trans ((k51_cp _ F b0 w3 _).trans (bind_use hc _)), rfl, rfl, rfl⟩
  · cases h
/-! (loop.example/g01194/impl.Board).empty$1 -/
noncomputable def k32_tab (F : Nat) : Tab := [(66, (k79_ent F))]
theorem k32_tabok (F : Nat) : TabOK Tryz.prog (k32_tab F) := (tab_cons (k79_meets F) k79_fok tab_nil)
noncomputable def k32_LS0 (F : Nat) : LT := []
theorem k32_lsok0 (F : Nat) : LoopsOK Tryz.prog (k32_LS0 F) (bodyOf Tryz.f65) := loopsOK_nil
theorem k32_run (F : Nat) (yl : List Int) (a14 : List Int) : runS tt (k32_tab F) (k32_LS0 F) [] [] Tryz.f65 (bodyOf Tryz.f65) 70 [(.ints 2 yl), (.ptr 0 0 0 16)] [(.var 16 (.ri .i64 a14))] = k32_c _ yl a14 (fun r => some ⟨(.bool r), [(.var 16 (.ri .i64 a14))], []⟩) := by kernel_rfl
def k32_ent (F : Nat) : Ent := ⟨[], .quiet, fun args mem => match args, mem with
  | [(.ints 2 yl), (.ptr 0 0 0 16)], [(.var 16 (.ri .i64 a14))] => some ((k32_p yl a14).isSome, ⟨(.bool ((k32_p yl a14).getD default)), [], []⟩)
  | _, _ => none⟩
theorem k32_fok : FunOK Tryz.prog 65 := funOK Tryz.func65 (by kernel_rfl) rfl
theorem k32_meets (F : Nat) : Meets Tryz.prog 65 (k32_ent F) := by
  refine meets_of_runS mixed ttok deep (k32_tabok F) Tryz.func65 (body_some rfl) (k32_lsok0 F) fun args mem hfit ret h => ?_
  clear hfit
  simp only [k32_ent] at h
  split at h
  · rename_i yl a14
    simp only [Option.some.injEq, Prod.mk.injEq] at h
    obtain ⟨hc, rfl⟩ := h
    exact ⟨[], [], 70, _, (k32_run F yl a14).trans ((k32_cp _ yl a14 _).trans (bind_use hc _)), rfl, rfl, rfl⟩
  · cases h
/-! slices.IndexFunc[[][2]int,[2]int] -/
noncomputable def k17_tab (F : Nat) : Tab := [(65, (k32_ent F))]
theorem k17_tabok (F : Nat) : TabOK Tryz.prog (k17_tab F) := (tab_cons (k32_meets F) k32_fok tab_nil)
noncomputable def k17_LS0 (F : Nat) : LT := []
theorem k17_lsok0 (F : Nat) : LoopsOK Tryz.prog (k17_LS0 F) (bodyOf Tryz.f71) := loopsOK_nil
theorem k17_keys : keysOK (bodyOf Tryz.f71) = true := by kernel_rfl
def k17_st2 (s0 : List (List Int)) (t74 : Int) (f6 : List Int) (t85 : Int) : St := ⟨expand 19 0 [0, 1, 7, 8] [(.rr 2 s0), (.fn 65 [] [(.ptr 0 0 0 16)]), (.int .i64 t74), (.int .i64 t85)], [(.var 16 (.ri .i64 f6))], 1, []⟩
def k17_o2 (s0 : List (List Int)) (t74 : Int) (f6 : List Int) (x : Bool × Int) : GT := (.br x.1 (.out (.ret ⟨expand 19 0 [4] [(.int .i64 x.2)], [(.var 16 (.ri .i64 f6))], 1, []⟩)) (.out (.exit 0 ⟨expand 19 0 [] [], [(.var 16 (.ri .i64 f6))], 1, []⟩)))
def k17_ls2 (F : Nat) : LoopS := ⟨19, [0, 1, 7, 8], [], [], [], [4], [], [], fun vals mem np killed => match vals, mem, np, killed with
  | [(.rr 2 s0), (.fn 65 [] [(.ptr 0 0 0 16)]), (.int .i64 t74), (.int .i64 t85)], [(.var 16 (.ri .i64 f6))], 1, [] => .br (k17_l2 F s0 t74 f6 t85).isSome (k17_o2 s0 t74 f6 ((k17_l2 F s0 t74 f6 t85).getD default)) .fail
  | _, _, _, _ => .fail⟩
theorem k17_step2 (F : Nat) (s0 : List (List Int)) (t74 : Int) (f6 : List Int) (t85 : Int) {R : Type} (k : Out → Option R) : stepS tt (k17_tab F) (k17_LS0 F) 70 (k17_ls2 F) (loopAt 2 (bodyOf Tryz.f71)) (k17_st2 s0 t74 f6 t85) k = k17_s2 F s0 t74 f6 R t85 (fun s => k (.norm (k17_st2 s0 t74 f6 s))) (fun x => (k17_o2 s0 t74 f6 x).run k) := by kernel_rfl
theorem k17_iter2 (F : Nat) (s0 : List (List Int)) (t74 : Int) (f6 : List Int) {R : Type} (k : Out → Option R) : ∀ (n : Nat) (t85 : Int), iterS tt (k17_tab F) (k17_LS0 F) 70 (k17_ls2 F) (loopAt 2 (bodyOf Tryz.f71)) n (k17_st2 s0 t74 f6 t85) k = loopC (k17_s2 F s0 t74 f6) n t85 (fun x => (k17_o2 s0 t74 f6 x).run k)
  | 0, t85 => rfl
  | n + 1, t85 => (iterS_succ tt (k17_tab F) (k17_LS0 F) 70 (k17_ls2 F) (loopAt 2 (bodyOf Tryz.f71)) n (k17_st2 s0 t74 f6 t85) k).trans ((k17_step2 F s0 t74 f6 t85 (nextK (iterS tt (k17_tab F) (k17_LS0 F) 70 (k17_ls2 F) (loopAt 2 (bodyOf Tryz.f71)) n) k)).trans (congrArg (fun kn => k17_s2 F s0 t74 f6 R t85 kn _) (funext (fun t85 => k17_iter2 F s0 t74 f6 k n t85))))
theorem k17_lok2 (F : Nat) : LoopOK Tryz.prog (loopAt 2 (bodyOf Tryz.f71)) (k17_ls2 F) := by
  refine loopOK_of mixed ttok deep (k17_tabok F) (loopsOK_at (k17_lsok0 F) 2) (fuel := 70) fun R vals mem np killed k x h => ?_
  simp only [k17_ls2] at h
  split at h
  · rename_i s0 t74 t85 f6
    simp only [GT.run] at h
    have hc := (cond_noneL h).1
    replace h := (cond_noneL h).2
    refine ⟨F, (k17_iter2 F s0 t74 f6 k F t85).trans ((loopC_use (k17_s2_nat F s0 t74 f6) hc _).trans h)⟩
  · simp only [GT.run] at h
    cases h
noncomputable def k17_LS1 (F : Nat) : LT := (2, k17_ls2 F) :: k17_LS0 F
theorem k17_lsok1 (F : Nat) : LoopsOK Tryz.prog (k17_LS1 F) (bodyOf Tryz.f71) := loopsOK_cons k17_keys (k17_lok2 F) (k17_lsok0 F)
theorem k17_run (F : Nat) (s0 : List (List Int)) (f4 : List Int) : runS tt (k17_tab F) (k17_LS1 F) [] [] Tryz.f71 (bodyOf Tryz.f71) 70 [(.rr 2 s0), (.fn 65 [] [(.ptr 0 0 0 16)])] [(.var 16 (.ri .i64 f4))] = k17_c _ F s0 f4 (fun r => some ⟨(.int .i64 r), [(.var 16 (.ri .i64 f4))], []⟩) := by kernel_rfl
def k17_ent (F : Nat) : Ent := ⟨[], .quiet, fun args mem => match args, mem with
  | [(.rr 2 s0), (.fn 65 [] [(.ptr 0 0 0 16)])], [(.var 16 (.ri .i64 f4))] => some ((k17_p F s0 f4).isSome, ⟨(.int .i64 ((k17_p F s0 f4).getD default)), [], []⟩)
  | _, _ => none⟩
theorem k17_fok : FunOK Tryz.prog 71 := funOK Tryz.func71 (by kernel_rfl) rfl
theorem k17_meets (F : Nat) : Meets Tryz.prog 71 (k17_ent F) := by
  refine meets_of_runS mixed ttok deep (k17_tabok F) Tryz.func71 (body_some rfl) (k17_lsok1 F) fun args mem hfit ret h => ?_
  clear hfit
  simp only [k17_ent] at h
  split at h
  · rename_i s0 f4
    simp only [Option.some.injEq, Prod.mk.injEq] at h
    obtain ⟨hc, rfl⟩ := h
    exact ⟨[], [], 70, _, (k17_run F s0 f4).trans ((k17_cp _ F s0 f4 _).trans (bind_use hc _)), rfl, rfl, rfl⟩
  · cases h
/-! slices.DeleteFunc[[][2]int,[2]int] -/
noncomputable def k14_tab (F : Nat) : Tab := [(71, (k17_ent F)), (65, (k32_ent F))]
theorem k14_tabok (F : Nat) : TabOK Tryz.prog (k14_tab F) := (tab_cons (k17_meets F) k17_fok (tab_cons (k32_meets F) k32_fok tab_nil))
noncomputable def k14_LS0 (F : Nat) : LT := []
theorem k14_lsok0 (F : Nat) : LoopsOK Tryz.prog (k14_LS0 F) (bodyOf Tryz.f43) := loopsOK_nil
theorem k14_keys : keysOK (bodyOf Tryz.f43) = true := by kernel_rfl
def k14_st5 (s1 : Nat) (gd : List Int) (i5 : Int) (j6 : Int) (s7 : List (List Int)) : St := ⟨expand 42 0 [0, 1, 5, 6] [(.sl 0 0 s1), (.fn 65 [] [(.ptr 1 0 0 16)]), (.int .i64 i5), (.int .i64 j6)], [(.vec 39 (.rr 2 s7)), (.var 16 (.ri .i64 gd))], 2, []⟩
def k14_o5 (s1 : Nat) (gd : List Int) (x : Int × List (List Int)) : GT := (.out (.exit 0 ⟨expand 42 0 [0, 5] [(.sl 0 0 s1), (.int .i64 x.1)], [(.vec 39 (.rr 2 x.2)), (.var 16 (.ri .i64 gd))], 2, []⟩))
def k14_ls5 (F : Nat) : LoopS := ⟨42, [0, 1, 5, 6], [], [0, 5], [], [4], [], [], fun vals mem np killed => match vals, mem, np, killed with
  | [(.sl 0 0 s1), (.fn 65 [] [(.ptr 1 0 0 16)]), (.int .i64 i5), (.int .i64 j6)], [(.vec 39 (.rr 2 s7)), (.var 16 (.ri .i64 gd))], 2, [] => .br (k14_l5 F s1 gd i5 j6 s7).isSome (k14_o5 s1 gd ((k14_l5 F s1 gd i5 j6 s7).getD default)) .fail
  | _, _, _, _ => .fail⟩
theorem k14_step5 (F : Nat) (s1 : Nat) (gd : List Int) (i5 : Int) (j6 : Int) (s7 : List (List Int)) {R : Type} (k : Out → Option R) : stepS tt (k14_tab F) (k14_LS0 F) 70 (k14_ls5 F) (loopAt 5 (bodyOf Tryz.f43)) (k14_st5 s1 gd i5 j6 s7) k = k14_s5 F s1 gd R (i5, j6, s7) (fun s => k (.norm (k14_st5 s1 gd s.1 s.2.1 s.2.2))) (fun x => (k14_o5 s1 gd x).run k) := by kernel_rfl
theorem k14_iter5 (F : Nat) (s1 : Nat) (gd : List Int) {R : Type} (k : Out → Option R) : ∀ (n : Nat) (i5 : Int) (j6 : Int) (s7 : List (List Int)), iterS tt (k14_tab F) (k14_LS0 F) 70 (k14_ls5 F) (loopAt 5 (bodyOf Tryz.f43)) n (k14_st5 s1 gd i5 j6 s7) k = loopC (k14_s5 F s1 gd) n (i5, j6, s7) (fun x => (k14_o5 s1 gd x).run k)
  | 0, i5, j6, s7 => rfl
  | n + 1, i5, j6, s7 => (iterS_succ tt (k14_tab F) (k14_LS0 F) 70 (k14_ls5 F) (loopAt 5 (bodyOf Tryz.f43)) n (k14_st5 s1 gd i5 j6 s7) k).trans ((k14_step5 F s1 gd i5 j6 s7 (nextK (iterS tt (k14_tab F) (k14_LS0 F) 70 (k14_ls5 F) (loopAt 5 (bodyOf Tryz.f43)) n) k)).trans (congrArg (fun kn => k14_s5 F s1 gd R (i5, j6, s7) kn _) (funext (fun ⟨i5, j6, s7⟩ => k14_iter5 F s1 gd k n i5 j6 s7))))
theorem k14_lok5 (F : Nat) : LoopOK Tryz.prog (loopAt 5 (bodyOf Tryz.f43)) (k14_ls5 F) := by
  refine loopOK_of mixed ttok deep (k14_tabok F) (loopsOK_at (k14_lsok0 F) 5) (fuel := 70) fun R vals mem np killed k x h => ?_
  simp only [k14_ls5] at h
  split at h
  · rename_i s1 i5 j6 s7 gd
    simp only [GT.run] at h
    have hc := (cond_noneL h).1
    replace h := (cond_noneL h).2
    refine ⟨F, (k14_iter5 F s1 gd k F i5 j6 s7).trans ((loopC_use (k14_s5_nat F s1 gd) hc _).trans h)⟩
  · simp only [GT.run] at h
    cases h
noncomputable def k14_LS1 (F : Nat) : LT := (5, k14_ls5 F) :: k14_LS0 F
theorem k14_lsok1 (F : Nat) : LoopsOK Tryz.prog (k14_LS1 F) (bodyOf Tryz.f43) := loopsOK_cons k14_keys (k14_lok5 F) (k14_lsok0 F)
theorem k14_run (F : Nat) (s5 : List (List Int)) (vh : List Int) : runS tt (k14_tab F) (k14_LS1 F) [] [] Tryz.f43 (bodyOf Tryz.f43) 70 [(.sl 0 0 (List.length s5)), (.fn 65 [] [(.ptr 1 0 0 16)])] [(.vec 39 (.rr 2 s5)), (.var 16 (.ri .i64 vh))] = k14_c _ F s5 vh (fun r => some ⟨(.sl 0 0 r.1), [(.vec 39 (.rr 2 r.2)), (.var 16 (.ri .i64 vh))], []⟩) := by kernel_rfl
def k14_ent (F : Nat) : Ent := ⟨[true], .loud, fun args mem => match args, mem with
  | [(.sl 0 0 q_s1), (.fn 65 [] [(.ptr 1 0 0 16)])], [(.vec 39 (.rr 2 s5)), (.var 16 (.ri .i64 vh))] => some (((Nat.beq q_s1 (List.length s5)) && (k14_p F s5 vh).isSome), ⟨(.sl 0 0 ((k14_p F s5 vh).getD default).1), [(.vec 39 (.rr 2 ((k14_p F s5 vh).getD default).2)), (.var 16 (.ri .i64 vh))], []⟩)
  | _, _ => none⟩
theorem k14_fok : FunOK Tryz.prog 43 := funOK Tryz.func43 (by kernel_rfl) rfl
theorem k14_meets (F : Nat) : Meets Tryz.prog 43 (k14_ent F) := by
  refine meets_of_runS mixed ttok deep (k14_tabok F) Tryz.func43 (body_some rfl) (k14_lsok1 F) fun args mem hfit ret h => ?_
  clear hfit
  simp only [k14_ent] at h
  split at h
  · rename_i q_s1 s5 vh
    simp only [Option.some.injEq, Prod.mk.injEq] at h
    obtain ⟨hc, rfl⟩ := h
    have hg := (and_split hc).1
    replace hc := (and_split hc).2
    obtain rfl := nbeq_nat hg
    exact ⟨[], [], 70, _, (k14_run F s5 vh).trans ((k14_cp _ F s5 vh _).trans (bind_use hc _)), rfl, rfl, rfl⟩
  · cases h
/-! (loop.example/g01194/impl.Board).empty -/
noncomputable def k49_tab (F : Nat) : Tab := [(44, (k107_ent F)), (43, (k14_ent F))]
theorem k49_tabok (F : Nat) : TabOK Tryz.prog (k49_tab F) := (tab_cons (k107_meets F) k107_fok (tab_cons (k14_meets F) k14_fok tab_nil))
noncomputable def k49_LS0 (F : Nat) : LT := []
theorem k49_lsok0 (F : Nat) : LoopsOK Tryz.prog (k49_LS0 F) (bodyOf Tryz.f34) := loopsOK_nil
theorem k49_run (F : Nat) (b0 : List Int) : runS tt (k49_tab F) (k49_LS0 F) [] [] Tryz.f34 (bodyOf Tryz.f34) 70 [(.ints 16 b0)] [] = k49_c _ F b0 (fun r => some ⟨(.sl 0 0 r.1), [(.vec 39 (.rr 2 r.2))], []⟩) := by kernel_rfl
def k49_ent (F : Nat) : Ent := ⟨[], .fresh, fun args mem => match args, mem with
  | [(.ints 16 b0)], [] => some ((k49_p F b0).isSome, ⟨(.sl 0 0 ((k49_p F b0).getD default).1), [(.vec 39 (.rr 2 ((k49_p F b0).getD default).2))], []⟩)
  | _, _ => none⟩
theorem k49_fok : FunOK Tryz.prog 34 := funOK Tryz.func34 (by kernel_rfl) rfl
theorem k49_meets (F : Nat) : Meets Tryz.prog 34 (k49_ent F) := by
  refine meets_of_runS mixed ttok deep (k49_tabok F) Tryz.func34 (body_some rfl) (k49_lsok0 F) fun args mem hfit ret h => ?_
  clear hfit
  simp only [k49_ent] at h
  split at h
  · rename_i b0
    simp only [Option.some.injEq, Prod.mk.injEq] at h
    obtain ⟨hc, rfl⟩ := h
    exact ⟨[], [], 70, _, (k49_run F b0).trans ((k49_cp _ F b0 _).trans (bind_use hc _)), rfl, rfl, rfl⟩
  · cases h
/-! loop.example/g01194/impl.EmptyCells -/
noncomputable def k57_tab (F : Nat) : Tab := [(23, (k89_ent F)), (34, (k49_ent F))]
theorem k57_tabok (F : Nat) : TabOK Tryz.prog (k57_tab F) := (tab_cons (k89_meets F) k89_fok (tab_cons (k49_meets F) k49_fok tab_nil))
noncomputable def k57_LS0 (F : Nat) : LT := []
theorem k57_lsok0 (F : Nat) : LoopsOK Tryz.prog (k57_LS0 F) (bodyOf Tryz.f16) := loopsOK_nil
theorem k57_run (F : Nat) (b0 : List Int) : runS tt (k57_tab F) (k57_LS0 F) [⟨2, 39, (.rr 2 ([] : List (List Int)))⟩] [] Tryz.f16 (bodyOf Tryz.f16) 70 [(.ints 16 b0)] [] = k57_c _ F b0 (fun r => some ⟨(.tup [(.sl 0 0 r.1), (.bool r.2.1)]), [(.vec 39 (.rr 2 r.2.2))], []⟩) := by kernel_rfl
def k57_ent (F : Nat) : Ent := ⟨[], .fresh, fun args mem => match args, mem with
  | [(.ints 16 b0)], [] => some ((k57_p F b0).isSome, ⟨(.tup [(.sl 0 0 ((k57_p F b0).getD default).1), (.bool ((k57_p F b0).getD default).2.1)]), [(.vec 39 (.rr 2 ((k57_p F b0).getD default).2.2))], []⟩)
  | _, _ => none⟩
theorem k57_fok : FunOK Tryz.prog 16 := funOK Tryz.func16 (by kernel_rfl) rfl
theorem k57_meets (F : Nat) : Meets Tryz.prog 16 (k57_ent F) := by
  refine meets_of_runS mixed ttok deep (k57_tabok F) Tryz.func16 (body_some rfl) (k57_lsok0 F) fun args mem hfit ret h => ?_
  clear hfit
  simp only [k57_ent] at h
  split at h
  · rename_i b0
    simp only [Option.some.injEq, Prod.mk.injEq] at h
    obtain ⟨hc, rfl⟩ := h
    exact ⟨[⟨2, 39, (.rr 2 ([] : List (List Int)))⟩], [], 70, _, (k57_run F b0).trans ((k57_cp _ F b0 _).trans (bind_use hc _)), rfl, rfl, rfl⟩
  · cases h
end Go.Proofs.YtabfliifleonaajGreat
