/-
Pure functions and what the code of them does, by program; without conditions.
-/
import Derived.Test.YtabfliifleonaajGreatQjPG1
import Derived.Test.YtabfliifleonaajGreatQjP3
import Derived.Test.YtabfliifleonaajGreatQjS2
namespace Go.Proofs.YtabfliifleonaajGreat
open Go Go.Lv Go.Lv.P Go.Proofs
set_option linter.unusedVariables false
set_option linter.unusedSimpArgs false
set_option maxRecDepth 100000
/-! slices.Compare[[]int,int] -/
noncomputable def k28_tab (F : Nat) : Tab := [(91, (k55_ent F))]
theorem k28_tabok (F : Nat) : TabOK Tryz.prog (k28_tab F) := (tab_cons (k55_meets F) k55_fok tab_nil)
noncomputable def k28_LS0 (F : Nat) : LT := []
theorem k28_lsok0 (F : Nat) : LoopsOK Tryz.prog (k28_LS0 F) (bodyOf Tryz.f78) := loopsOK_nil
theorem k28_keys : keysOK (bodyOf Tryz.f78) = true := by kernel_rfl
def k28_st2 (s10 : List Int) (s21 : List Int) (t92 : List Int) (vr : Int) (yk : Int) : St := ⟨expand 36 0 [0, 1, 9, 10, 11] [(.ri .i64 s10), (.ri .i64 s21), (.ri .i64 t92), (.int .i64 vr), (.int .i64 yk)], [], 0, []⟩
def k28_o2 (s10 : List Int) (s21 : List Int) (t92 : List Int) (vr : Int) (x : Bool × Int) : GT := (.br x.1 (.out (.ret ⟨expand 36 0 [4] [(.int .i64 x.2)], [], 0, []⟩)) (.out (.exit 0 ⟨expand 36 0 [0, 1] [(.ri .i64 s10), (.ri .i64 s21)], [], 0, []⟩)))
def k28_ls2 (F : Nat) : LoopS := ⟨36, [0, 1, 9, 10, 11], [], [0, 1], [], [4], [], [], fun vals mem np killed => match vals, mem, np, killed with
  | [(.ri .i64 s10), (.ri .i64 s21), (.ri .i64 t92), (.int .i64 vr), (.int .i64 yk)], [], 0, [] => .br (k28_l2 F s10 s21 t92 vr yk).isSome (k28_o2 s10 s21 t92 vr ((k28_l2 F s10 s21 t92 vr yk).getD default)) .fail
  | _, _, _, _ => .fail⟩
theorem k28_step2 (F : Nat) (s10 : List Int) (s21 : List Int) (t92 : List Int) (vr : Int) (yk : Int) {R : Type} (k : Out → Option R) : stepS tt (k28_tab F) (k28_LS0 F) 70 (k28_ls2 F) (loopAt 2 (bodyOf Tryz.f78)) (k28_st2 s10 s21 t92 vr yk) k = k28_s2 F s10 s21 t92 vr R yk (fun s => k (.norm (k28_st2 s10 s21 t92 vr s))) (fun x => (k28_o2 s10 s21 t92 vr x).run k) := by kernel_rfl
theorem k28_iter2 (F : Nat) (s10 : List Int) (s21 : List Int) (t92 : List Int) (vr : Int) {R : Type} (k : Out → Option R) : ∀ (n : Nat) (yk : Int), iterS tt (k28_tab F) (k28_LS0 F) 70 (k28_ls2 F) (loopAt 2 (bodyOf Tryz.f78)) n (k28_st2 s10 s21 t92 vr yk) k = loopC (k28_s2 F s10 s21 t92 vr) n yk (fun x => (k28_o2 s10 s21 t92 vr x).run k)
  | 0, yk => rfl
  | n + 1, yk => (iterS_succ tt (k28_tab F) (k28_LS0 F) 70 (k28_ls2 F) (loopAt 2 (bodyOf Tryz.f78)) n (k28_st2 s10 s21 t92 vr yk) k).trans ((k28_step2 F s10 s21 t92 vr yk (nextK (iterS tt (k28_tab F) (k28_LS0 F) 70 (k28_ls2 F) (loopAt 2 (bodyOf Tryz.f78)) n) k)).trans (congrArg (fun kn => k28_s2 F s10 s21 t92 vr R yk kn _) (funext (fun yk => k28_iter2 F s10 s21 t92 vr k n yk))))
theorem k28_lok2 (F : Nat) : LoopOK Tryz.prog (loopAt 2 (bodyOf Tryz.f78)) (k28_ls2 F) := by
  refine loopOK_of mixed ttok deep (k28_tabok F) (loopsOK_at (k28_lsok0 F) 2) (fuel := 70) fun R vals mem np killed k x h => ?_
  simp only [k28_ls2] at h
  split at h
  · rename_i s10 s21 t92 vr yk
    simp only [GT.run] at h
    have hc := (cond_noneL h).1
    replace h := (cond_noneL h).2
    refine ⟨F, (k28_iter2 F s10 s21 t92 vr k F yk).trans ((loopC_use (k28_s2_nat F s10 s21 t92 vr) hc _).trans h)⟩
  · simp only [GT.run] at h
    cases h
noncomputable def k28_LS1 (F : Nat) : LT := (2, k28_ls2 F) :: k28_LS0 F
theorem k28_lsok1 (F : Nat) : LoopsOK Tryz.prog (k28_LS1 F) (bodyOf Tryz.f78) := loopsOK_cons k28_keys (k28_lok2 F) (k28_lsok0 F)
theorem k28_run (F : Nat) (s10 : List Int) (s21 : List Int) : runS tt (k28_tab F) (k28_LS1 F) [] [] Tryz.f78 (bodyOf Tryz.f78) 70 [(.ri .i64 s10), (.ri .i64 s21)] [] = k28_c _ F s10 s21 (fun r => some ⟨(.int .i64 r), [], []⟩) := by kernel_rfl
def k28_ent (F : Nat) : Ent := ⟨[], .quiet, fun args mem => match args, mem with
  | [(.ri .i64 s10), (.ri .i64 s21)], [] => some ((k28_p F s10 s21).isSome, ⟨(.int .i64 ((k28_p F s10 s21).getD default)), [], []⟩)
  | _, _ => none⟩
theorem k28_fok : FunOK Tryz.prog 78 := funOK Tryz.func78 (by kernel_rfl) rfl
theorem k28_meets (F : Nat) : Meets Tryz.prog 78 (k28_ent F) := by
  refine meets_of_runS mixed ttok deep (k28_tabok F) Tryz.func78 (body_some rfl) (k28_lsok1 F) fun args mem hfit ret h => ?_
  clear hfit
  simp only [k28_ent] at h
  split at h
  · rename_i s10 s21
    simp only [Option.some.injEq, Prod.mk.injEq] at h
    obtain ⟨hc, rfl⟩ := h
    exact ⟨[], [], 70, _, (k28_run F s10 s21).trans ((k28_cp _ F s10 s21 _).trans (bind_use hc _)), rfl, rfl, rfl⟩
  · cases h
/-! loop.example/g01194/impl.rowsBefore$1 -/
noncomputable def k36_tab (F : Nat) : Tab := [(78, (k28_ent F))]
theorem k36_tabok (F : Nat) : TabOK Tryz.prog (k36_tab F) := (tab_cons (k28_meets F) k28_fok tab_nil)
noncomputable def k36_LS0 (F : Nat) : LT := []
theorem k36_lsok0 (F : Nat) : LoopsOK Tryz.prog (k36_LS0 F) (bodyOf Tryz.f77) := loopsOK_nil
theorem k36_run (F : Nat) (a0 : List Int) (b1 : List Int) : runS tt (k36_tab F) (k36_LS0 F) [] [] Tryz.f77 (bodyOf Tryz.f77) 70 [(.ints 4 a0), (.ints 4 b1)] [] = k36_c _ F a0 b1 (fun r => some ⟨(.int .i64 r), [], []⟩) := by kernel_rfl
def k36_ent (F : Nat) : Ent := ⟨[], .quiet, fun args mem => match args, mem with
  | [(.ints 4 a0), (.ints 4 b1)], [] => some ((k36_p F a0 b1).isSome, ⟨(.int .i64 ((k36_p F a0 b1).getD default)), [], []⟩)
  | _, _ => none⟩
theorem k36_fok : FunOK Tryz.prog 77 := funOK Tryz.func77 (by kernel_rfl) rfl
theorem k36_meets (F : Nat) : Meets Tryz.prog 77 (k36_ent F) := by
  refine meets_of_runS mixed ttok deep (k36_tabok F) Tryz.func77 (body_some rfl) (k36_lsok0 F) fun args mem hfit ret h => ?_
  clear hfit
  simp only [k36_ent] at h
  split at h
  · rename_i a0 b1
    simp only [Option.some.injEq, Prod.mk.injEq] at h
    obtain ⟨hc, rfl⟩ := h
    exact ⟨[], [], 70, _, (k36_run F a0 b1).trans ((k36_cp _ F a0 b1 _).trans (bind_use hc _)), rfl, rfl, rfl⟩
  · cases h
/-! slices.SortFunc[[][4]int,[4]int] -/
def slices_SortFunc_4int4int_impl_rowsBefore_f1_ent (F : Nat) : Ent := sortEnt 77 4 24 F
theorem slices_SortFunc_4int4int_impl_rowsBefore_f1_fok : FunOK Tryz.prog 76 := funOK Tryz.func76 (by kernel_rfl) rfl
theorem slices_SortFunc_4int4int_impl_rowsBefore_f1_meets (F : Nat) : Meets Tryz.prog 76 (slices_SortFunc_4int4int_impl_rowsBefore_f1_ent F) := by
  refine meets_sortK Tryz.sort76 4 24 F Tryz.isAgg24 Tryz.sizeOf24 77 (enters_of Tryz.func77 (by kernel_rfl) rfl) (k36_ent F) (k36_meets F) rfl fun hF x y hx hy => ?_
  simp only [k36_ent, k36_cmp F hF hx hy, Option.isSome_some, Option.getD_some]
/-! slices.Compact[[][4]int,[4]int] -/
noncomputable def k24_tab (F : Nat) : Tab := []
theorem k24_tabok (F : Nat) : TabOK Tryz.prog (k24_tab F) := tab_nil
noncomputable def k24_LS0 (F : Nat) : LT := []
theorem k24_lsok0 (F : Nat) : LoopsOK Tryz.prog (k24_LS0 F) (bodyOf Tryz.f79) := loopsOK_nil
theorem k24_keys : keysOK (bodyOf Tryz.f79) = true := by kernel_rfl
def k24_st9 (s1 : Nat) (s23 : Nat) (s24 : Nat) (k2 : Int) (k25 : Int) (s6 : List (List Int)) : St := ⟨expand 61 0 [0, 3, 4, 5] [(.sl 0 0 s1), (.int .i64 k2), (.sl 0 s23 s24), (.int .i64 k25)], [(.vec 24 (.rr 4 s6))], 1, []⟩
def k24_o9 (s1 : Nat) (s23 : Nat) (s24 : Nat) (x : Int × List (List Int)) : GT := (.out (.exit 2 ⟨expand 61 0 [0, 3] [(.sl 0 0 s1), (.int .i64 x.1)], [(.vec 24 (.rr 4 x.2))], 1, []⟩))
def k24_ls9 (F : Nat) : LoopS := ⟨61, [0, 3, 4, 5], [], [0, 3], [], [2], [], [], fun vals mem np killed => match vals, mem, np, killed with
  | [(.sl 0 0 s1), (.int .i64 k2), (.sl 0 s23 s24), (.int .i64 k25)], [(.vec 24 (.rr 4 s6))], 1, [] => .br (k24_l9 F s1 s23 s24 k2 k25 s6).isSome (k24_o9 s1 s23 s24 ((k24_l9 F s1 s23 s24 k2 k25 s6).getD default)) .fail
  | _, _, _, _ => .fail⟩
theorem k24_step9 (F : Nat) (s1 : Nat) (s23 : Nat) (s24 : Nat) (k2 : Int) (k25 : Int) (s6 : List (List Int)) {R : Type} (k : Out → Option R) : stepS tt (k24_tab F) (k24_LS0 F) 70 (k24_ls9 F) (loopAt 9 (bodyOf Tryz.f79)) (k24_st9 s1 s23 s24 k2 k25 s6) k = k24_s9 F s1 s23 s24 R (k2, k25, s6) (fun s => k (.norm (k24_st9 s1 s23 s24 s.1 s.2.1 s.2.2))) (fun x => (k24_o9 s1 s23 s24 x).run k) := by kernel_rfl
theorem k24_iter9 (F : Nat) (s1 : Nat) (s23 : Nat) (s24 : Nat) {R : Type} (k : Out → Option R) : ∀ (n : Nat) (k2 : Int) (k25 : Int) (s6 : List (List Int)), iterS tt (k24_tab F) (k24_LS0 F) 70 (k24_ls9 F) (loopAt 9 (bodyOf Tryz.f79)) n (k24_st9 s1 s23 s24 k2 k25 s6) k = loopC (k24_s9 F s1 s23 s24) n (k2, k25, s6) (fun x => (k24_o9 s1 s23 s24 x).run k)
  | 0, k2, k25, s6 => rfl
  | n + 1, k2, k25, s6 => (iterS_succ tt (k24_tab F) (k24_LS0 F) 70 (k24_ls9 F) (loopAt 9 (bodyOf Tryz.f79)) n (k24_st9 s1 s23 s24 k2 k25 s6) k).trans ((k24_step9 F s1 s23 s24 k2 k25 s6 (nextK (iterS tt (k24_tab F) (k24_LS0 F) 70 (k24_ls9 F) (loopAt 9 (bodyOf Tryz.f79)) n) k)).trans (congrArg (fun kn => k24_s9 F s1 s23 s24 R (k2, k25, s6) kn _) (funext (fun ⟨k2, k25, s6⟩ => k24_iter9 F s1 s23 s24 k n k2 k25 s6))))
theorem k24_lok9 (F : Nat) : LoopOK Tryz.prog (loopAt 9 (bodyOf Tryz.f79)) (k24_ls9 F) := by
  refine loopOK_of mixed ttok deep (k24_tabok F) (loopsOK_at (k24_lsok0 F) 9) (fuel := 70) fun R vals mem np killed k x h => ?_
  simp only [k24_ls9] at h
  split at h
  · rename_i s1 k2 s23 s24 k25 s6
    simp only [GT.run] at h
    have hc := (cond_noneL h).1
    replace h := (cond_noneL h).2
    refine ⟨F, (k24_iter9 F s1 s23 s24 k F k2 k25 s6).trans ((loopC_use (k24_s9_nat F s1 s23 s24) hc _).trans h)⟩
  · simp only [GT.run] at h
    cases h
noncomputable def k24_LS1 (F : Nat) : LT := (9, k24_ls9 F) :: k24_LS0 F
theorem k24_lsok1 (F : Nat) : LoopsOK Tryz.prog (k24_LS1 F) (bodyOf Tryz.f79) := loopsOK_cons k24_keys (k24_lok9 F) (k24_lsok0 F)
def k24_st4 (s1 : Nat) (s3 : List (List Int)) (k2 : Int) : St := ⟨expand 61 0 [0, 3] [(.sl 0 0 s1), (.int .i64 k2)], [(.vec 24 (.rr 4 s3))], 1, []⟩
def k24_o4 (s1 : Nat) (s3 : List (List Int)) (x : Bool × Nat × List (List Int)) : GT := (.br x.1 (.out (.ret ⟨expand 61 0 [2] [(.sl 0 0 x.2.1)], [(.vec 24 (.rr 4 x.2.2))], 1, []⟩)) (.out (.exit 0 ⟨expand 61 0 [0] [(.sl 0 0 s1)], [(.vec 24 (.rr 4 s3))], 1, []⟩)))
def k24_ls4 (F : Nat) : LoopS := ⟨61, [0, 3], [], [0], [], [2], [], [], fun vals mem np killed => match vals, mem, np, killed with
  | [(.sl 0 0 s1), (.int .i64 k2)], [(.vec 24 (.rr 4 s3))], 1, [] => .br (k24_l4 F s1 s3 k2).isSome (k24_o4 s1 s3 ((k24_l4 F s1 s3 k2).getD default)) .fail
  | _, _, _, _ => .fail⟩
theorem k24_step4 (F : Nat) (s1 : Nat) (s3 : List (List Int)) (k2 : Int) {R : Type} (k : Out → Option R) : stepS tt (k24_tab F) (k24_LS1 F) 70 (k24_ls4 F) (loopAt 4 (bodyOf Tryz.f79)) (k24_st4 s1 s3 k2) k = k24_s4 F s1 s3 R k2 (fun s => k (.norm (k24_st4 s1 s3 s))) (fun x => (k24_o4 s1 s3 x).run k) := by kernel_rfl
theorem k24_iter4 (F : Nat) (s1 : Nat) (s3 : List (List Int)) {R : Type} (k : Out → Option R) : ∀ (n : Nat) (k2 : Int), iterS tt (k24_tab F) (k24_LS1 F) 70 (k24_ls4 F) (loopAt 4 (bodyOf Tryz.f79)) n (k24_st4 s1 s3 k2) k = loopC (k24_s4 F s1 s3) n k2 (fun x => (k24_o4 s1 s3 x).run k)
  | 0, k2 => rfl
  | n + 1, k2 => (iterS_succ tt (k24_tab F) (k24_LS1 F) 70 (k24_ls4 F) (loopAt 4 (bodyOf Tryz.f79)) n (k24_st4 s1 s3 k2) k).trans ((k24_step4 F s1 s3 k2 (nextK (iterS tt (k24_tab F) (k24_LS1 F) 70 (k24_ls4 F) (loopAt 4 (bodyOf Tryz.f79)) n) k)).trans (congrArg (fun kn => k24_s4 F s1 s3 R k2 kn _) (funext (fun k2 => k24_iter4 F s1 s3 k n k2))))
theorem k24_lok4 (F : Nat) : LoopOK Tryz.prog (loopAt 4 (bodyOf Tryz.f79)) (k24_ls4 F) := by
  refine loopOK_of mixed ttok deep (k24_tabok F) (loopsOK_at (k24_lsok1 F) 4) (fuel := 70) fun R vals mem np killed k x h => ?_
  simp only [k24_ls4] at h
  split at h
  · rename_i s1 k2 s3
    simp only [GT.run] at h
    have hc := (cond_noneL h).1
    replace h := (cond_noneL h).2
    refine ⟨F, (k24_iter4 F s1 s3 k F k2).trans ((loopC_use (k24_s4_nat F s1 s3) hc _).trans h)⟩
  · simp only [GT.run] at h
    cases h
noncomputable def k24_LS2 (F : Nat) : LT := (4, k24_ls4 F) :: k24_LS1 F
theorem k24_lsok2 (F : Nat) : LoopsOK Tryz.prog (k24_LS2 F) (bodyOf Tryz.f79) := loopsOK_cons k24_keys (k24_lok4 F) (k24_lsok1 F)
theorem k24_run (F : Nat) (s1 : Nat) (s2 : List (List Int)) : runS tt (k24_tab F) (k24_LS2 F) [] [] Tryz.f79 (bodyOf Tryz.f79) 70 [(.sl 0 0 s1)] [(.vec 24 (.rr 4 s2))] = k24_c _ F s1 s2 (fun r => some ⟨(.sl 0 0 r.1), [(.vec 24 (.rr 4 r.2))], []⟩) := by kernel_rfl
def k24_ent (F : Nat) : Ent := ⟨[true], .loud, fun args mem => match args, mem with
  | [(.sl 0 0 s1)], [(.vec 24 (.rr 4 s2))] => some ((k24_p F s1 s2).isSome, ⟨(.sl 0 0 ((k24_p F s1 s2).getD default).1), [(.vec 24 (.rr 4 ((k24_p F s1 s2).getD default).2))], []⟩)
  | _, _ => none⟩
theorem k24_fok : FunOK Tryz.prog 79 := funOK Tryz.func79 (by kernel_rfl) rfl
theorem k24_meets (F : Nat) : Meets Tryz.prog 79 (k24_ent F) := by
  refine meets_of_runS mixed ttok deep (k24_tabok F) Tryz.func79 (body_some rfl) (k24_lsok2 F) fun args mem hfit ret h => ?_
  clear hfit
  simp only [k24_ent] at h
  split at h
  · rename_i s1 s2
    simp only [Option.some.injEq, Prod.mk.injEq] at h
    obtain ⟨hc, rfl⟩ := h
    exact ⟨[], [], 70, _, (k24_run F s1 s2).trans ((k24_cp _ F s1 s2 _).trans (bind_use hc _)), rfl, rfl, rfl⟩
  · cases h
/-! loop.example/g01194/impl.rowsBefore -/
noncomputable def k66_tab (F : Nat) : Tab := [(74, (k90_ent F)), (27, (k108_ent F)), (75, (k106_ent F)), (41, (k83_ent F)), (76, (slices_SortFunc_4int4int_impl_rowsBefore_f1_ent F)), (79, (k24_ent F))]
theorem k66_tabok (F : Nat) : TabOK Tryz.prog (k66_tab F) := (tab_cons (k90_meets F) k90_fok (tab_cons (k108_meets F) k108_fok (tab_cons (k106_meets F) k106_fok (tab_cons (k83_meets F) k83_fok (tab_cons (slices_SortFunc_4int4int_impl_rowsBefore_f1_meets F) slices_SortFunc_4int4int_impl_rowsBefore_f1_fok (tab_cons (k24_meets F) k24_fok tab_nil))))))
noncomputable def k66_LS0 (F : Nat) : LT := []
theorem k66_lsok0 (F : Nat) : LoopsOK Tryz.prog (k66_LS0 F) (bodyOf Tryz.f54) := loopsOK_nil
theorem k66_keys : keysOK (bodyOf Tryz.f54) = true := by kernel_rfl
def k66_st12 (jb : List Int) (ys : Int) (js : Int) (ws : Int) (vs : Int) (yt : List Int) (jk : List (List Int)) (gk : List (List Int)) (k10 : Int) (gn : Int) (v36 : List Int) : St := ⟨expand 74 0 [1, 3, 5, 6, 7, 8, 20, 21, 22, 26, 30] [(.ptr 0 0 0 4), (.sl 1 0 (List.length jk)), (.ri .i64 jb), (.int .i64 ys), (.ptr 2 0 0 4), (.int .i64 k10), (.sl 3 0 (List.length gk)), (.int .i64 js), (.int .i64 ws), (.int .i64 vs), (.int .i64 gn)], [(.var 4 (.ri .i64 yt)), (.vec 24 (.rr 4 jk)), (.var 4 (.ri .i64 v36)), (.vec 49 (.rl .i64 gk))], 0, []⟩
def k66_o12 (jb : List Int) (ys : Int) (js : Int) (ws : Int) (vs : Int) (yt : List Int) (jk : List (List Int)) (gk : List (List Int)) (x : Int × List Int) : GT := (.out (.exit 4 ⟨expand 74 0 [1, 3, 5, 7, 8, 20, 21, 22, 26] [(.ptr 0 0 0 4), (.sl 1 0 (List.length jk)), (.ri .i64 jb), (.ptr 2 0 0 4), (.int .i64 x.1), (.sl 3 0 (List.length gk)), (.int .i64 js), (.int .i64 ws), (.int .i64 vs)], [(.var 4 (.ri .i64 yt)), (.vec 24 (.rr 4 jk)), (.var 4 (.ri .i64 x.2)), (.vec 49 (.rl .i64 gk))], 0, []⟩))
def k66_ls12 (F : Nat) : LoopS := ⟨74, [1, 3, 5, 6, 7, 8, 20, 21, 22, 26, 30], [], [1, 3, 5, 7, 8, 20, 21, 22, 26], [], [2], [], [], fun vals mem np killed => match vals, mem, np, killed with
  | [(.ptr 0 0 0 4), (.sl 1 0 q_out4), (.ri .i64 jb), (.int .i64 ys), (.ptr 2 0 0 4), (.int .i64 k10), (.sl 3 0 q_t2012), (.int .i64 js), (.int .i64 ws), (.int .i64 vs), (.int .i64 gn)], [(.var 4 (.ri .i64 yt)), (.vec 24 (.rr 4 jk)), (.var 4 (.ri .i64 v36)), (.vec 49 (.rl .i64 gk))], 0, [] => .br ((Nat.beq q_out4 (List.length jk)) && ((Nat.beq q_t2012 (List.length gk)) && (k66_l12 F jb ys js ws vs yt jk gk k10 gn v36).isSome)) (k66_o12 jb ys js ws vs yt jk gk ((k66_l12 F jb ys js ws vs yt jk gk k10 gn v36).getD default)) .fail
  | _, _, _, _ => .fail⟩
theorem k66_step12 (F : Nat) (jb : List Int) (ys : Int) (js : Int) (ws : Int) (vs : Int) (yt : List Int) (jk : List (List Int)) (gk : List (List Int)) (k10 : Int) (gn : Int) (v36 : List Int) {R : Type} (k : Out → Option R) : stepS tt (k66_tab F) (k66_LS0 F) 70 (k66_ls12 F) (loopAt 12 (bodyOf Tryz.f54)) (k66_st12 jb ys js ws vs yt jk gk k10 gn v36) k = k66_s12 F jb ys js ws vs yt jk gk R (k10, gn, v36) (fun s => k (.norm (k66_st12 jb ys js ws vs yt jk gk s.1 s.2.1 s.2.2))) (fun x => (k66_o12 jb ys js ws vs yt jk gk x).run k) := by kernel_rfl
theorem k66_iter12 (F : Nat) (jb : List Int) (ys : Int) (js : Int) (ws : Int) (vs : Int) (yt : List Int) (jk : List (List Int)) (gk : List (List Int)) {R : Type} (k : Out → Option R) : ∀ (n : Nat) (k10 : Int) (gn : Int) (v36 : List Int), iterS tt (k66_tab F) (k66_LS0 F) 70 (k66_ls12 F) (loopAt 12 (bodyOf Tryz.f54)) n (k66_st12 jb ys js ws vs yt jk gk k10 gn v36) k = loopC (k66_s12 F jb ys js ws vs yt jk gk) n (k10, gn, v36) (fun x => (k66_o12 jb ys js ws vs yt jk gk x).run k)
  | 0, k10, gn, v36 => rfl
  | n + 1, k10, gn, v36 => (iterS_succ tt (k66_tab F) (k66_LS0 F) 70 (k66_ls12 F) (loopAt 12 (bodyOf Tryz.f54)) n (k66_st12 jb ys js ws vs yt jk gk k10 gn v36) k).trans ((k66_step12 F jb ys js ws vs yt jk gk k10 gn v36 (nextK (iterS tt (k66_tab F) (k66_LS0 F) 70 (k66_ls12 F) (loopAt 12 (bodyOf Tryz.f54)) n) k)).trans (congrArg (fun kn => k66_s12 F jb ys js ws vs yt jk gk R (k10, gn, v36) kn _) (funext (fun ⟨k10, gn, v36⟩ => k66_iter12 F jb ys js ws vs yt jk gk k n k10 gn v36))))
theorem k66_lok12 (F : Nat) : LoopOK Tryz.prog (loopAt 12 (bodyOf Tryz.f54)) (k66_ls12 F) := by
  refine loopOK_of mixed ttok deep (k66_tabok F) (loopsOK_at (k66_lsok0 F) 12) (fuel := 70) fun R vals mem np killed k x h => ?_
  simp only [k66_ls12] at h
  split at h
  · rename_i q_out4 jb ys k10 q_t2012 js ws vs gn yt jk v36 gk
    simp only [GT.run] at h
    have hc := (cond_noneL h).1
    replace h := (cond_noneL h).2
    have hg := (and_split hc).1
    replace hc := (and_split hc).2
    obtain rfl := nbeq_nat hg
    have hg := (and_split hc).1
    replace hc := (and_split hc).2
    obtain rfl := nbeq_nat hg
    refine ⟨F, (k66_iter12 F jb ys js ws vs yt jk gk k F k10 gn v36).trans ((loopC_use (k66_s12_nat F jb ys js ws vs yt jk gk) hc _).trans h)⟩
  · simp only [GT.run] at h
    cases h
noncomputable def k66_LS1 (F : Nat) : LT := (12, k66_ls12 F) :: k66_LS0 F
theorem k66_lsok1 (F : Nat) : LoopsOK Tryz.prog (k66_LS1 F) (bodyOf Tryz.f54) := loopsOK_cons k66_keys (k66_lok12 F) (k66_lsok0 F)
def k66_st8 (jb : List Int) (wn : Int) (vn : Int) (vk : List Int) (wi : List (List Int)) (y37 : Int) (vi : List (List Int)) : St := ⟨expand 74 0 [1, 3, 5, 20, 21, 22, 26] [(.ptr 0 0 0 4), (.sl 1 0 (List.length vi)), (.ri .i64 jb), (.sl 2 0 (List.length wi)), (.int .i64 wn), (.int .i64 vn), (.int .i64 y37)], [(.var 4 (.ri .i64 vk)), (.vec 24 (.rr 4 vi)), (.vec 49 (.rl .i64 wi))], 0, []⟩
def k66_o8 (jb : List Int) (wn : Int) (vn : Int) (vk : List Int) (wi : List (List Int)) (x : List (List Int)) : GT := (.out (.exit 2 ⟨expand 74 0 [1, 3, 20, 21, 22] [(.ptr 0 0 0 4), (.sl 1 0 (List.length x)), (.sl 2 0 (List.length wi)), (.int .i64 wn), (.int .i64 vn)], [(.var 4 (.ri .i64 vk)), (.vec 24 (.rr 4 x)), (.vec 49 (.rl .i64 wi))], 0, []⟩))
def k66_ls8 (F : Nat) : LoopS := ⟨74, [1, 3, 5, 20, 21, 22, 26], [], [1, 3, 20, 21, 22], [], [2], [], [], fun vals mem np killed => match vals, mem, np, killed with
  | [(.ptr 0 0 0 4), (.sl 1 0 q_out4), (.ri .i64 jb), (.sl 2 0 q_t207), (.int .i64 wn), (.int .i64 vn), (.int .i64 y37)], [(.var 4 (.ri .i64 vk)), (.vec 24 (.rr 4 vi)), (.vec 49 (.rl .i64 wi))], 0, [] => .br ((Nat.beq q_out4 (List.length vi)) && ((Nat.beq q_t207 (List.length wi)) && (k66_l8 F jb wn vn vk wi y37 vi).isSome)) (k66_o8 jb wn vn vk wi ((k66_l8 F jb wn vn vk wi y37 vi).getD default)) .fail
  | _, _, _, _ => .fail⟩
theorem k66_step8 (F : Nat) (jb : List Int) (wn : Int) (vn : Int) (vk : List Int) (wi : List (List Int)) (y37 : Int) (vi : List (List Int)) {R : Type} (k : Out → Option R) : stepS tt (k66_tab F) (k66_LS1 F) 70 (k66_ls8 F) (loopAt 8 (bodyOf Tryz.f54)) (k66_st8 jb wn vn vk wi y37 vi) k = k66_s8 F jb wn vn vk wi R (y37, vi) (fun s => k (.norm (k66_st8 jb wn vn vk wi s.1 s.2))) (fun x => (k66_o8 jb wn vn vk wi x).run k) := by kernel_rfl
theorem k66_iter8 (F : Nat) (jb : List Int) (wn : Int) (vn : Int) (vk : List Int) (wi : List (List Int)) {R : Type} (k : Out → Option R) : ∀ (n : Nat) (y37 : Int) (vi : List (List Int)), iterS tt (k66_tab F) (k66_LS1 F) 70 (k66_ls8 F) (loopAt 8 (bodyOf Tryz.f54)) n (k66_st8 jb wn vn vk wi y37 vi) k = loopC (k66_s8 F jb wn vn vk wi) n (y37, vi) (fun x => (k66_o8 jb wn vn vk wi x).run k)
  | 0, y37, vi => rfl
  | n + 1, y37, vi => (iterS_succ tt (k66_tab F) (k66_LS1 F) 70 (k66_ls8 F) (loopAt 8 (bodyOf Tryz.f54)) n (k66_st8 jb wn vn vk wi y37 vi) k).trans ((k66_step8 F jb wn vn vk wi y37 vi (nextK (iterS tt (k66_tab F) (k66_LS1 F) 70 (k66_ls8 F) (loopAt 8 (bodyOf Tryz.f54)) n) k)).trans (congrArg (fun kn => k66_s8 F jb wn vn vk wi R (y37, vi) kn _) (funext (fun ⟨y37, vi⟩ => k66_iter8 F jb wn vn vk wi k n y37 vi))))
theorem k66_lok8 (F : Nat) : LoopOK Tryz.prog (loopAt 8 (bodyOf Tryz.f54)) (k66_ls8 F) := by
  refine loopOK_of mixed ttok deep (k66_tabok F) (loopsOK_at (k66_lsok1 F) 8) (fuel := 70) fun R vals mem np killed k x h => ?_
  simp only [k66_ls8] at h
  split at h
  · rename_i q_out4 jb q_t207 wn vn y37 vk vi wi
    simp only [GT.run] at h
    have hc := (cond_noneL h).1
    replace h := (cond_noneL h).2
    have hg := (and_split hc).1
    replace hc := (and_split hc).2
    obtain rfl := nbeq_nat hg
    have hg := (and_split hc).1
    replace hc := (and_split hc).2
    obtain rfl := nbeq_nat hg
    refine ⟨F, (k66_iter8 F jb wn vn vk wi k F y37 vi).trans ((loopC_use (k66_s8_nat F jb wn vn vk wi) hc _).trans h)⟩
  · simp only [GT.run] at h
    cases h
noncomputable def k66_LS2 (F : Nat) : LT := (8, k66_ls8 F) :: k66_LS1 F
theorem k66_lsok2 (F : Nat) : LoopsOK Tryz.prog (k66_LS2 F) (bodyOf Tryz.f54) := loopsOK_cons k66_keys (k66_lok8 F) (k66_lsok1 F)
def k66_st5 (yo : Int) (jt : List Int) (yj : List (List Int)) (gt : Int) (we : List (List Int)) : St := ⟨expand 74 0 [1, 3, 20, 21, 22] [(.ptr 0 0 0 4), (.sl 1 0 (List.length we)), (.sl 2 0 (List.length yj)), (.int .i64 yo), (.int .i64 gt)], [(.var 4 (.ri .i64 jt)), (.vec 24 (.rr 4 we)), (.vec 49 (.rl .i64 yj))], 0, []⟩
def k66_o5 (yo : Int) (jt : List Int) (yj : List (List Int)) (x : List (List Int)) : GT := (.out (.exit 0 ⟨expand 74 0 [3] [(.sl 0 0 (List.length x))], [(.vec 24 (.rr 4 x))], 0, []⟩))
def k66_ls5 (F : Nat) : LoopS := ⟨74, [1, 3, 20, 21, 22], [], [3], [], [2], [], [], fun vals mem np killed => match vals, mem, np, killed with
  | [(.ptr 0 0 0 4), (.sl 1 0 q_out4), (.sl 2 0 q_t206), (.int .i64 yo), (.int .i64 gt)], [(.var 4 (.ri .i64 jt)), (.vec 24 (.rr 4 we)), (.vec 49 (.rl .i64 yj))], 0, [] => .br ((Nat.beq q_out4 (List.length we)) && ((Nat.beq q_t206 (List.length yj)) && (k66_l5 F yo jt yj gt we).isSome)) (k66_o5 yo jt yj ((k66_l5 F yo jt yj gt we).getD default)) .fail
  | _, _, _, _ => .fail⟩
theorem k66_step5 (F : Nat) (yo : Int) (jt : List Int) (yj : List (List Int)) (gt : Int) (we : List (List Int)) {R : Type} (k : Out → Option R) : stepS tt (k66_tab F) (k66_LS2 F) 70 (k66_ls5 F) (loopAt 5 (bodyOf Tryz.f54)) (k66_st5 yo jt yj gt we) k = k66_s5 F yo jt yj R (gt, we) (fun s => k (.norm (k66_st5 yo jt yj s.1 s.2))) (fun x => (k66_o5 yo jt yj x).run k) := by kernel_rfl
theorem k66_iter5 (F : Nat) (yo : Int) (jt : List Int) (yj : List (List Int)) {R : Type} (k : Out → Option R) : ∀ (n : Nat) (gt : Int) (we : List (List Int)), iterS tt (k66_tab F) (k66_LS2 F) 70 (k66_ls5 F) (loopAt 5 (bodyOf Tryz.f54)) n (k66_st5 yo jt yj gt we) k = loopC (k66_s5 F yo jt yj) n (gt, we) (fun x => (k66_o5 yo jt yj x).run k)
  | 0, gt, we => rfl
  | n + 1, gt, we => (iterS_succ tt (k66_tab F) (k66_LS2 F) 70 (k66_ls5 F) (loopAt 5 (bodyOf Tryz.f54)) n (k66_st5 yo jt yj gt we) k).trans ((k66_step5 F yo jt yj gt we (nextK (iterS tt (k66_tab F) (k66_LS2 F) 70 (k66_ls5 F) (loopAt 5 (bodyOf Tryz.f54)) n) k)).trans (congrArg (fun kn => k66_s5 F yo jt yj R (gt, we) kn _) (funext (fun ⟨gt, we⟩ => k66_iter5 F yo jt yj k n gt we))))
theorem k66_lok5 (F : Nat) : LoopOK Tryz.prog (loopAt 5 (bodyOf Tryz.f54)) (k66_ls5 F) := by
  refine loopOK_of mixed ttok deep (k66_tabok F) (loopsOK_at (k66_lsok2 F) 5) (fuel := 70) fun R vals mem np killed k x h => ?_
  simp only [k66_ls5] at h
  split at h
  · rename_i q_out4 q_t206 yo gt jt we yj
    simp only [GT.run] at h
    have hc := (cond_noneL h).1
    replace h := (cond_noneL h).2
    have hg := (and_split hc).1
    replace hc := (and_split hc).2
    obtain rfl := nbeq_nat hg
    have hg := (and_split hc).1
    replace hc := (and_split hc).2
    obtain rfl := nbeq_nat hg
    refine ⟨F, (k66_iter5 F yo jt yj k F gt we).trans ((loopC_use (k66_s5_nat F yo jt yj) hc _).trans h)⟩
  · simp only [GT.run] at h
    cases h
noncomputable def k66_LS3 (F : Nat) : LT := (5, k66_ls5 F) :: k66_LS2 F
theorem k66_lsok3 (F : Nat) : LoopsOK Tryz.prog (k66_LS3 F) (bodyOf Tryz.f54) := loopsOK_cons k66_keys (k66_lok5 F) (k66_lsok2 F)
theorem k66_run (F : Nat) (g4 : List Int) : runS tt (k66_tab F) (k66_LS3 F) [] [] Tryz.f54 (bodyOf Tryz.f54) 70 [(.ints 4 g4)] [] = k66_c _ F g4 (fun r => some ⟨(.sl 0 0 r.1), [(.vec 24 (.rr 4 r.2))], []⟩) := by kernel_rfl
def k66_ent (F : Nat) : Ent := ⟨[], .fresh, fun args mem => match args, mem with
  | [(.ints 4 g4)], [] => some ((k66_p F g4).isSome, ⟨(.sl 0 0 ((k66_p F g4).getD default).1), [(.vec 24 (.rr 4 ((k66_p F g4).getD default).2))], []⟩)
  | _, _ => none⟩
theorem k66_fok : FunOK Tryz.prog 54 := funOK Tryz.func54 (by kernel_rfl) rfl
theorem k66_meets (F : Nat) : Meets Tryz.prog 54 (k66_ent F) := by
  refine meets_of_runS mixed ttok deep (k66_tabok F) Tryz.func54 (body_some rfl) (k66_lsok3 F) fun args mem hfit ret h => ?_
  clear hfit
  simp only [k66_ent] at h
  split at h
  · rename_i g4
    simp only [Option.some.injEq, Prod.mk.injEq] at h
    obtain ⟨hc, rfl⟩ := h
    exact ⟨[], [], 70, _, (k66_run F g4).trans ((k66_cp _ F g4 _).trans (bind_use hc _)), rfl, rfl, rfl⟩
  · cases h
/-! (loop.example/g01194/impl.Board).linesBefore -/
noncomputable def k27_tab (F : Nat) : Tab := [(37, (k56_ent F)), (54, (k66_ent F))]
theorem k27_tabok (F : Nat) : TabOK Tryz.prog (k27_tab F) := (tab_cons (k56_meets F) k56_fok (tab_cons (k66_meets F) k66_fok tab_nil))
noncomputable def k27_LS0 (F : Nat) : LT := []
theorem k27_lsok0 (F : Nat) : LoopsOK Tryz.prog (k27_LS0 F) (bodyOf Tryz.f26) := loopsOK_nil
theorem k27_run (F : Nat) (b0 : List Int) (w3 : Int) : runS tt (k27_tab F) (k27_LS0 F) [] [] Tryz.f26 (bodyOf Tryz.f26) 70 [(.ints 16 b0), (.int .i64 w3)] [] = k27_c _ F b0 w3 (fun r => some ⟨(.agg [(.rr 4 r.1), (.rr 4 r.2.1), (.rr 4 r.2.2.1), (.rr 4 r.2.2.2)]), [], []⟩) := by kernel_rfl
def k27_ent (F : Nat) : Ent := ⟨[], .quiet, fun args mem => match args, mem with
  | [(.ints 16 b0), (.int .i64 w3)], [] => some ((k27_p F b0 w3).isSome, ⟨(.agg [(.rr 4 ((k27_p F b0 w3).getD default).1), (.rr 4 ((k27_p F b0 w3).getD default).2.1), (.rr 4 ((k27_p F b0 w3).getD default).2.2.1), (.rr 4 ((k27_p F b0 w3).getD default).2.2.2)]), [], []⟩)
  | _, _ => none⟩
theorem k27_fok : FunOK Tryz.prog 26 := funOK Tryz.func26 (by kernel_rfl) rfl
theorem k27_meets (F : Nat) : Meets Tryz.prog 26 (k27_ent F) := by
  refine meets_of_runS mixed ttok deep (k27_tabok F) Tryz.func26 (body_some rfl) (k27_lsok0 F) fun args mem hfit ret h => ?_
  clear hfit
  simp only [k27_ent] at h
  split at h
  · rename_i b0 w3
    simp only [Option.some.injEq, Prod.mk.injEq] at h
    obtain ⟨hc, rfl⟩ := h
    exact ⟨[], [], 70, _, (k27_run F b0 w3).trans ((k27_cp _ F b0 w3 _).trans (bind_use hc _)), rfl, rfl, rfl⟩
  · cases h
/-! (loop.example/g01194/impl.Board).withLine -/
noncomputable def k33_tab (F : Nat) : Tab := [(42, (k82_ent F)), (66, (k79_ent F))]
theorem k33_tabok (F : Nat) : TabOK Tryz.prog (k33_tab F) := (tab_cons (k82_meets F) k82_fok (tab_cons (k79_meets F) k79_fok tab_nil))
noncomputable def k33_LS0 (F : Nat) : LT := []
theorem k33_lsok0 (F : Nat) : LoopsOK Tryz.prog (k33_LS0 F) (bodyOf Tryz.f64) := loopsOK_nil
theorem k33_run (F : Nat) (b0 : List Int) (w3 : Int) (i2 : Int) (ji : List Int) : runS tt (k33_tab F) (k33_LS0 F) [] [] Tryz.f64 (bodyOf Tryz.f64) 70 [(.ints 16 b0), (.int .i64 w3), (.int .i64 i2), (.ints 4 ji)] [] = k33_c _ b0 w3 i2 ji (fun r => some ⟨(.ints 16 r), [], []⟩) := by kernel_rfl
def k33_ent (F : Nat) : Ent := ⟨[], .quiet, fun args mem => match args, mem with
  | [(.ints 16 b0), (.int .i64 w3), (.int .i64 i2), (.ints 4 ji)], [] => some ((k33_p b0 w3 i2 ji).isSome, ⟨(.ints 16 ((k33_p b0 w3 i2 ji).getD default)), [], []⟩)
  | _, _ => none⟩
theorem k33_fok : FunOK Tryz.prog 64 := funOK Tryz.func64 (by kernel_rfl) rfl
theorem k33_meets (F : Nat) : Meets Tryz.prog 64 (k33_ent F) := by
  refine meets_of_runS mixed ttok deep (k33_tabok F) Tryz.func64 (body_some rfl) (k33_lsok0 F) fun args mem hfit ret h => ?_
  clear hfit
  simp only [k33_ent] at h
  split at h
  · rename_i b0 w3 i2 ji
    simp only [Option.some.injEq, Prod.mk.injEq] at h
    obtain ⟨hc, rfl⟩ := h
    exact ⟨[], [], 70, _, (k33_run F b0 w3 i2 ji).trans ((k33_cp _ b0 w3 i2 ji _).trans (bind_use hc _)), rfl, rfl, rfl⟩
  · cases h
/-! (loop.example/g01194/impl.Board).slide -/
noncomputable def k50_tab (F : Nat) : Tab := [(37, (k56_ent F)), (41, (k83_ent F)), (64, (k33_ent F))]
theorem k50_tabok (F : Nat) : TabOK Tryz.prog (k50_tab F) := (tab_cons (k56_meets F) k56_fok (tab_cons (k83_meets F) k83_fok (tab_cons (k33_meets F) k33_fok tab_nil)))
noncomputable def k50_LS0 (F : Nat) : LT := []
theorem k50_lsok0 (F : Nat) : LoopsOK Tryz.prog (k50_LS0 F) (bodyOf Tryz.f33) := loopsOK_nil
theorem k50_keys : keysOK (bodyOf Tryz.f33) = true := by kernel_rfl
def k50_st8 (j4 : Int) (w8 : Int) (vg : Int) (wt : List Bool) (b15 : List Int) (vt : List Int) (wh : Int) (j37 : Int) : St := ⟨expand 49 0 [1, 2, 4, 7, 8, 9, 17, 37, 38] [(.int .i64 j4), (.ptr 0 0 0 16), (.ptr 1 0 0 16), (.ptr 2 0 0 16), (.int .i64 w8), (.int .i64 wh), (.int .i64 vg), (.bools 4 wt), (.int .i64 j37)], [(.var 16 (.ri .i64 b15)), (.var 16 (.ri .i64 [(0 : Int), (0 : Int), (0 : Int), (0 : Int), (0 : Int), (0 : Int), (0 : Int), (0 : Int), (0 : Int), (0 : Int), (0 : Int), (0 : Int), (0 : Int), (0 : Int), (0 : Int), (0 : Int)])), (.var 16 (.ri .i64 vt))], 0, []⟩
def k50_o8 (j4 : Int) (w8 : Int) (vg : Int) (wt : List Bool) (b15 : List Int) (vt : List Int) (x : Int) : GT := (.out (.exit 2 ⟨expand 49 0 [1, 2, 4, 7, 8, 9, 17] [(.int .i64 j4), (.ptr 0 0 0 16), (.ptr 1 0 0 16), (.ptr 2 0 0 16), (.int .i64 w8), (.int .i64 x), (.int .i64 vg)], [(.var 16 (.ri .i64 b15)), (.var 16 (.ri .i64 [(0 : Int), (0 : Int), (0 : Int), (0 : Int), (0 : Int), (0 : Int), (0 : Int), (0 : Int), (0 : Int), (0 : Int), (0 : Int), (0 : Int), (0 : Int), (0 : Int), (0 : Int), (0 : Int)])), (.var 16 (.ri .i64 vt))], 0, []⟩))
def k50_ls8 (F : Nat) : LoopS := ⟨49, [1, 2, 4, 7, 8, 9, 17, 37, 38], [], [1, 2, 4, 7, 8, 9, 17], [], [4, 5, 6], [], [], fun vals mem np killed => match vals, mem, np, killed with
  | [(.int .i64 j4), (.ptr 0 0 0 16), (.ptr 1 0 0 16), (.ptr 2 0 0 16), (.int .i64 w8), (.int .i64 wh), (.int .i64 vg), (.bools 4 wt), (.int .i64 j37)], [(.var 16 (.ri .i64 b15)), (.var 16 (.ri .i64 q_t416)), (.var 16 (.ri .i64 vt))], 0, [] => .br ((q_t416 == ([(0 : Int), (0 : Int), (0 : Int), (0 : Int), (0 : Int), (0 : Int), (0 : Int), (0 : Int), (0 : Int), (0 : Int), (0 : Int), (0 : Int), (0 : Int), (0 : Int), (0 : Int), (0 : Int)] : List Int)) && (k50_l8 F j4 w8 vg wt b15 vt wh j37).isSome) (k50_o8 j4 w8 vg wt b15 vt ((k50_l8 F j4 w8 vg wt b15 vt wh j37).getD default)) .fail
  | _, _, _, _ => .fail⟩
theorem k50_step8 (F : Nat) (j4 : Int) (w8 : Int) (vg : Int) (wt : List Bool) (b15 : List Int) (vt : List Int) (wh : Int) (j37 : Int) {R : Type} (k : Out → Option R) : stepS tt (k50_tab F) (k50_LS0 F) 70 (k50_ls8 F) (loopAt 8 (bodyOf Tryz.f33)) (k50_st8 j4 w8 vg wt b15 vt wh j37) k = k50_s8 F j4 w8 vg wt b15 vt R (wh, j37) (fun s => k (.norm (k50_st8 j4 w8 vg wt b15 vt s.1 s.2))) (fun x => (k50_o8 j4 w8 vg wt b15 vt x).run k) := by kernel_rfl
theorem k50_iter8 (F : Nat) (j4 : Int) (w8 : Int) (vg : Int) (wt : List Bool) (b15 : List Int) (vt : List Int) {R : Type} (k : Out → Option R) : ∀ (n : Nat) (wh : Int) (j37 : Int), iterS tt (k50_tab F) (k50_LS0 F) 70 (k50_ls8 F) (loopAt 8 (bodyOf Tryz.f33)) n (k50_st8 j4 w8 vg wt b15 vt wh j37) k = loopC (k50_s8 F j4 w8 vg wt b15 vt) n (wh, j37) (fun x => (k50_o8 j4 w8 vg wt b15 vt x).run k)
  | 0, wh, j37 => rfl
  | n + 1, wh, j37 => (iterS_succ tt (k50_tab F) (k50_LS0 F) 70 (k50_ls8 F) (loopAt 8 (bodyOf Tryz.f33)) n (k50_st8 j4 w8 vg wt b15 vt wh j37) k).trans ((k50_step8 F j4 w8 vg wt b15 vt wh j37 (nextK (iterS tt (k50_tab F) (k50_LS0 F) 70 (k50_ls8 F) (loopAt 8 (bodyOf Tryz.f33)) n) k)).trans (congrArg (fun kn => k50_s8 F j4 w8 vg wt b15 vt R (wh, j37) kn _) (funext (fun ⟨wh, j37⟩ => k50_iter8 F j4 w8 vg wt b15 vt k n wh j37))))
theorem k50_lok8 (F : Nat) : LoopOK Tryz.prog (loopAt 8 (bodyOf Tryz.f33)) (k50_ls8 F) := by
  refine loopOK_of mixed ttok deep (k50_tabok F) (loopsOK_at (k50_lsok0 F) 8) (fuel := 70) fun R vals mem np killed k x h => ?_
  simp only [k50_ls8] at h
  split at h
  · rename_i j4 w8 wh vg wt j37 b15 q_t416 vt
    simp only [GT.run] at h
    have hc := (cond_noneL h).1
    replace h := (cond_noneL h).2
    have hg := (and_split hc).1
    replace hc := (and_split hc).2
    obtain rfl := beq_li hg
    refine ⟨F, (k50_iter8 F j4 w8 vg wt b15 vt k F wh j37).trans ((loopC_use (k50_s8_nat F j4 w8 vg wt b15 vt) hc _).trans h)⟩
  · simp only [GT.run] at h
    cases h
noncomputable def k50_LS1 (F : Nat) : LT := (8, k50_ls8 F) :: k50_LS0 F
theorem k50_lsok1 (F : Nat) : LoopsOK Tryz.prog (k50_LS1 F) (bodyOf Tryz.f33) := loopsOK_cons k50_keys (k50_lok8 F) (k50_lsok0 F)
def k50_st3 (j4 : Int) (b13 : List Int) (w8 : Int) (wh : Int) (vg : Int) (gh : List Int) : St := ⟨expand 49 0 [1, 2, 4, 7, 8, 9, 17] [(.int .i64 j4), (.ptr 0 0 0 16), (.ptr 1 0 0 16), (.ptr 2 0 0 16), (.int .i64 w8), (.int .i64 wh), (.int .i64 vg)], [(.var 16 (.ri .i64 b13)), (.var 16 (.ri .i64 [(0 : Int), (0 : Int), (0 : Int), (0 : Int), (0 : Int), (0 : Int), (0 : Int), (0 : Int), (0 : Int), (0 : Int), (0 : Int), (0 : Int), (0 : Int), (0 : Int), (0 : Int), (0 : Int)])), (.var 16 (.ri .i64 gh))], 0, []⟩
def k50_o3 (j4 : Int) (b13 : List Int) (x : Int × Int × List Int) : GT := (.out (.exit 0 ⟨expand 49 0 [4, 7, 8, 9] [(.ptr 0 0 0 16), (.ptr 1 0 0 16), (.int .i64 x.1), (.int .i64 x.2.1)], [(.var 16 (.ri .i64 [(0 : Int), (0 : Int), (0 : Int), (0 : Int), (0 : Int), (0 : Int), (0 : Int), (0 : Int), (0 : Int), (0 : Int), (0 : Int), (0 : Int), (0 : Int), (0 : Int), (0 : Int), (0 : Int)])), (.var 16 (.ri .i64 x.2.2))], 0, []⟩))
def k50_ls3 (F : Nat) : LoopS := ⟨49, [1, 2, 4, 7, 8, 9, 17], [], [4, 7, 8, 9], [], [4, 5, 6], [], [], fun vals mem np killed => match vals, mem, np, killed with
  | [(.int .i64 j4), (.ptr 0 0 0 16), (.ptr 1 0 0 16), (.ptr 2 0 0 16), (.int .i64 w8), (.int .i64 wh), (.int .i64 vg)], [(.var 16 (.ri .i64 b13)), (.var 16 (.ri .i64 q_t414)), (.var 16 (.ri .i64 gh))], 0, [] => .br ((q_t414 == ([(0 : Int), (0 : Int), (0 : Int), (0 : Int), (0 : Int), (0 : Int), (0 : Int), (0 : Int), (0 : Int), (0 : Int), (0 : Int), (0 : Int), (0 : Int), (0 : Int), (0 : Int), (0 : Int)] : List Int)) && (k50_l3 F j4 b13 w8 wh vg gh).isSome) (k50_o3 j4 b13 ((k50_l3 F j4 b13 w8 wh vg gh).getD default)) .fail
  | _, _, _, _ => .fail⟩
theorem k50_step3 (F : Nat) (j4 : Int) (b13 : List Int) (w8 : Int) (wh : Int) (vg : Int) (gh : List Int) {R : Type} (k : Out → Option R) : stepS tt (k50_tab F) (k50_LS1 F) 70 (k50_ls3 F) (loopAt 3 (bodyOf Tryz.f33)) (k50_st3 j4 b13 w8 wh vg gh) k = k50_s3 F j4 b13 R (w8, wh, vg, gh) (fun s => k (.norm (k50_st3 j4 b13 s.1 s.2.1 s.2.2.1 s.2.2.2))) (fun x => (k50_o3 j4 b13 x).run k) := by kernel_rfl
theorem k50_iter3 (F : Nat) (j4 : Int) (b13 : List Int) {R : Type} (k : Out → Option R) : ∀ (n : Nat) (w8 : Int) (wh : Int) (vg : Int) (gh : List Int), iterS tt (k50_tab F) (k50_LS1 F) 70 (k50_ls3 F) (loopAt 3 (bodyOf Tryz.f33)) n (k50_st3 j4 b13 w8 wh vg gh) k = loopC (k50_s3 F j4 b13) n (w8, wh, vg, gh) (fun x => (k50_o3 j4 b13 x).run k)
  | 0, w8, wh, vg, gh => rfl
  | n + 1, w8, wh, vg, gh => (iterS_succ tt (k50_tab F) (k50_LS1 F) 70 (k50_ls3 F) (loopAt 3 (bodyOf Tryz.f33)) n (k50_st3 j4 b13 w8 wh vg gh) k).trans ((k50_step3 F j4 b13 w8 wh vg gh (nextK (iterS tt (k50_tab F) (k50_LS1 F) 70 (k50_ls3 F) (loopAt 3 (bodyOf Tryz.f33)) n) k)).trans (congrArg (fun kn => k50_s3 F j4 b13 R (w8, wh, vg, gh) kn _) (funext (fun ⟨w8, wh, vg, gh⟩ => k50_iter3 F j4 b13 k n w8 wh vg gh))))
theorem k50_lok3 (F : Nat) : LoopOK Tryz.prog (loopAt 3 (bodyOf Tryz.f33)) (k50_ls3 F) := by
  refine loopOK_of mixed ttok deep (k50_tabok F) (loopsOK_at (k50_lsok1 F) 3) (fuel := 70) fun R vals mem np killed k x h => ?_
  simp only [k50_ls3] at h
  split at h
  · rename_i j4 w8 wh vg b13 q_t414 gh
    simp only [GT.run] at h
    have hc := (cond_noneL h).1
    replace h := (cond_noneL h).2
    have hg := (and_split hc).1
    replace hc := (and_split hc).2
    obtain rfl := beq_li hg
    refine ⟨F, (k50_iter3 F j4 b13 k F w8 wh vg gh).trans ((loopC_use (k50_s3_nat F j4 b13) hc _).trans h)⟩
  · simp only [GT.run] at h
    cases h
noncomputable def k50_LS2 (F : Nat) : LT := (3, k50_ls3 F) :: k50_LS1 F
theorem k50_lsok2 (F : Nat) : LoopsOK Tryz.prog (k50_LS2 F) (bodyOf Tryz.f33) := loopsOK_cons k50_keys (k50_lok3 F) (k50_lsok1 F)
theorem k50_run (F : Nat) (b0 : List Int) (w3 : Int) : runS tt (k50_tab F) (k50_LS2 F) [] [] Tryz.f33 (bodyOf Tryz.f33) 70 [(.ints 16 b0), (.int .i64 w3)] [] = k50_c _ F b0 w3 (fun r => some ⟨(.tup [(.ints 16 r.1), (.int .i64 r.2.1), (.int .i64 r.2.2)]), [], []⟩) := by kernel_rfl
def k50_ent (F : Nat) : Ent := ⟨[], .quiet, fun args mem => match args, mem with
  | [(.ints 16 b0), (.int .i64 w3)], [] => some ((k50_p F b0 w3).isSome, ⟨(.tup [(.ints 16 ((k50_p F b0 w3).getD default).1), (.int .i64 ((k50_p F b0 w3).getD default).2.1), (.int .i64 ((k50_p F b0 w3).getD default).2.2)]), [], []⟩)
  | _, _ => none⟩
theorem k50_fok : FunOK Tryz.prog 33 := funOK Tryz.func33 (by kernel_rfl) rfl
theorem k50_meets (F : Nat) : Meets Tryz.prog 33 (k50_ent F) := by
  refine meets_of_runS mixed ttok deep (k50_tabok F) Tryz.func33 (body_some rfl) (k50_lsok2 F) fun args mem hfit ret h => ?_
  clear hfit
  simp only [k50_ent] at h
  split at h
  · rename_i b0 w3
    simp only [Option.some.injEq, Prod.mk.injEq] at h
    obtain ⟨hc, rfl⟩ := h
    exact ⟨[], [], 70, _, (k50_run F b0 w3).trans ((k50_cp _ F b0 w3 _).trans (bind_use hc _)), rfl, rfl, rfl⟩
  · cases h
/-! (loop.example/g01194/impl.Board).slides -/
noncomputable def k40_tab (F : Nat) : Tab := [(33, (k50_ent F))]
theorem k40_tabok (F : Nat) : TabOK Tryz.prog (k40_tab F) := (tab_cons (k50_meets F) k50_fok tab_nil)
noncomputable def k40_LS0 (F : Nat) : LT := []
theorem k40_lsok0 (F : Nat) : LoopsOK Tryz.prog (k40_LS0 F) (bodyOf Tryz.f36) := loopsOK_nil
theorem k40_keys : keysOK (bodyOf Tryz.f36) = true := by kernel_rfl
def k40_st2 (t76 : List Int) (t87 : Int) (t98 : Int) (b9 : List Int) : St := ⟨expand 22 0 [2, 4, 7, 8, 9] [(.ptr 0 0 0 16), (.ptr 1 0 0 16), (.ri .i64 t76), (.int .i64 t87), (.int .i64 t98)], [(.var 16 (.ri .i64 b9)), (.var 16 (.ri .i64 [(0 : Int), (0 : Int), (0 : Int), (0 : Int), (0 : Int), (0 : Int), (0 : Int), (0 : Int), (0 : Int), (0 : Int), (0 : Int), (0 : Int), (0 : Int), (0 : Int), (0 : Int), (0 : Int)]))], 0, []⟩
def k40_o2 (t76 : List Int) (t87 : Int) (x : List Int) : GT := (.out (.exit 0 ⟨expand 22 0 [2, 4] [(.ptr 0 0 0 16), (.ptr 1 0 0 16)], [(.var 16 (.ri .i64 x)), (.var 16 (.ri .i64 [(0 : Int), (0 : Int), (0 : Int), (0 : Int), (0 : Int), (0 : Int), (0 : Int), (0 : Int), (0 : Int), (0 : Int), (0 : Int), (0 : Int), (0 : Int), (0 : Int), (0 : Int), (0 : Int)]))], 0, []⟩))
def k40_ls2 (F : Nat) : LoopS := ⟨22, [2, 4, 7, 8, 9], [], [2, 4], [], [4], [], [], fun vals mem np killed => match vals, mem, np, killed with
  | [(.ptr 0 0 0 16), (.ptr 1 0 0 16), (.ri .i64 t76), (.int .i64 t87), (.int .i64 t98)], [(.var 16 (.ri .i64 b9)), (.var 16 (.ri .i64 q_t410))], 0, [] => .br ((q_t410 == ([(0 : Int), (0 : Int), (0 : Int), (0 : Int), (0 : Int), (0 : Int), (0 : Int), (0 : Int), (0 : Int), (0 : Int), (0 : Int), (0 : Int), (0 : Int), (0 : Int), (0 : Int), (0 : Int)] : List Int)) && (k40_l2 F t76 t87 t98 b9).isSome) (k40_o2 t76 t87 ((k40_l2 F t76 t87 t98 b9).getD default)) .fail
  | _, _, _, _ => .fail⟩
theorem k40_step2 (F : Nat) (t76 : List Int) (t87 : Int) (t98 : Int) (b9 : List Int) {R : Type} (k : Out → Option R) : stepS tt (k40_tab F) (k40_LS0 F) 70 (k40_ls2 F) (loopAt 2 (bodyOf Tryz.f36)) (k40_st2 t76 t87 t98 b9) k = k40_s2 F t76 t87 R (t98, b9) (fun s => k (.norm (k40_st2 t76 t87 s.1 s.2))) (fun x => (k40_o2 t76 t87 x).run k) := by kernel_rfl
theorem k40_iter2 (F : Nat) (t76 : List Int) (t87 : Int) {R : Type} (k : Out → Option R) : ∀ (n : Nat) (t98 : Int) (b9 : List Int), iterS tt (k40_tab F) (k40_LS0 F) 70 (k40_ls2 F) (loopAt 2 (bodyOf Tryz.f36)) n (k40_st2 t76 t87 t98 b9) k = loopC (k40_s2 F t76 t87) n (t98, b9) (fun x => (k40_o2 t76 t87 x).run k)
  | 0, t98, b9 => rfl
  | n + 1, t98, b9 => (iterS_succ tt (k40_tab F) (k40_LS0 F) 70 (k40_ls2 F) (loopAt 2 (bodyOf Tryz.f36)) n (k40_st2 t76 t87 t98 b9) k).trans ((k40_step2 F t76 t87 t98 b9 (nextK (iterS tt (k40_tab F) (k40_LS0 F) 70 (k40_ls2 F) (loopAt 2 (bodyOf Tryz.f36)) n) k)).trans (congrArg (fun kn => k40_s2 F t76 t87 R (t98, b9) kn _) (funext (fun ⟨t98, b9⟩ => k40_iter2 F t76 t87 k n t98 b9))))
theorem k40_lok2 (F : Nat) : LoopOK Tryz.prog (loopAt 2 (bodyOf Tryz.f36)) (k40_ls2 F) := by
  refine loopOK_of mixed ttok deep (k40_tabok F) (loopsOK_at (k40_lsok0 F) 2) (fuel := 70) fun R vals mem np killed k x h => ?_
  simp only [k40_ls2] at h
  split at h
  · rename_i t76 t87 t98 b9 q_t410
    simp only [GT.run] at h
    have hc := (cond_noneL h).1
    replace h := (cond_noneL h).2
    have hg := (and_split hc).1
    replace hc := (and_split hc).2
    obtain rfl := beq_li hg
    refine ⟨F, (k40_iter2 F t76 t87 k F t98 b9).trans ((loopC_use (k40_s2_nat F t76 t87) hc _).trans h)⟩
  · simp only [GT.run] at h
    cases h
noncomputable def k40_LS1 (F : Nat) : LT := (2, k40_ls2 F) :: k40_LS0 F
theorem k40_lsok1 (F : Nat) : LoopsOK Tryz.prog (k40_LS1 F) (bodyOf Tryz.f36) := loopsOK_cons k40_keys (k40_lok2 F) (k40_lsok0 F)
theorem k40_run (F : Nat) (b0 : List Int) (list1 : List Int) : runS tt (k40_tab F) (k40_LS1 F) [] [] Tryz.f36 (bodyOf Tryz.f36) 70 [(.ints 16 b0), (.ri .i64 list1)] [] = k40_c _ F b0 list1 (fun r => some ⟨(.ints 16 r), [], []⟩) := by kernel_rfl
def k40_ent (F : Nat) : Ent := ⟨[], .quiet, fun args mem => match args, mem with
  | [(.ints 16 b0), (.ri .i64 list1)], [] => some ((k40_p F b0 list1).isSome, ⟨(.ints 16 ((k40_p F b0 list1).getD default)), [], []⟩)
  | _, _ => none⟩
theorem k40_fok : FunOK Tryz.prog 36 := funOK Tryz.func36 (by kernel_rfl) rfl
theorem k40_meets (F : Nat) : Meets Tryz.prog 36 (k40_ent F) := by
  refine meets_of_runS mixed ttok deep (k40_tabok F) Tryz.func36 (body_some rfl) (k40_lsok1 F) fun args mem hfit ret h => ?_
  clear hfit
  simp only [k40_ent] at h
  split at h
  · rename_i b0 list1
    simp only [Option.some.injEq, Prod.mk.injEq] at h
    obtain ⟨hc, rfl⟩ := h
    exact ⟨[], [], 70, _, (k40_run F b0 list1).trans ((k40_cp _ F b0 list1 _).trans (bind_use hc _)), rfl, rfl, rfl⟩
  · cases h
/-! (loop.example/g01194/impl.Board).countBefore -/
noncomputable def k26_tab (F : Nat) : Tab := [(26, (k27_ent F)), (36, (k40_ent F))]
theorem k26_tabok (F : Nat) : TabOK Tryz.prog (k26_tab F) := (tab_cons (k27_meets F) k27_fok (tab_cons (k40_meets F) k40_fok tab_nil))
noncomputable def k26_LS0 (F : Nat) : LT := []
theorem k26_lsok0 (F : Nat) : LoopsOK Tryz.prog (k26_LS0 F) (bodyOf Tryz.f25) := loopsOK_nil
theorem k26_run (F : Nat) (b0 : List Int) (w3 : Int) : runS tt (k26_tab F) (k26_LS0 F) [] [] Tryz.f25 (bodyOf Tryz.f25) 70 [(.ints 16 b0), (.int .i64 w3)] [] = k26_c _ F b0 w3 (fun r => some ⟨(.int .i64 r), [], []⟩) := by kernel_rfl
def k26_ent (F : Nat) : Ent := ⟨[], .quiet, fun args mem => match args, mem with
  | [(.ints 16 b0), (.int .i64 w3)], [] => some ((k26_p F b0 w3).isSome, ⟨(.int .i64 ((k26_p F b0 w3).getD default)), [], []⟩)
  | _, _ => none⟩
theorem k26_fok : FunOK Tryz.prog 25 := funOK Tryz.func25 (by kernel_rfl) rfl
theorem k26_meets (F : Nat) : Meets Tryz.prog 25 (k26_ent F) := by
  refine meets_of_runS mixed ttok deep (k26_tabok F) Tryz.func25 (body_some rfl) (k26_lsok0 F) fun args mem hfit ret h => ?_
  clear hfit
  simp only [k26_ent] at h
  split at h
  · rename_i b0 w3
    simp only [Option.some.injEq, Prod.mk.injEq] at h
    obtain ⟨hc, rfl⟩ := h
    exact ⟨[], [], 70, _, (k26_run F b0 w3).trans ((k26_cp _ F b0 w3 _).trans (bind_use hc _)), rfl, rfl, rfl⟩
  · cases h
/-! slices.Clone[[][4]int,[4]int] -/
def slices_Clone_4int4int_ent (F : Nat) : Ent := ⟨[], .fresh, fun args mem => match args, mem with
  | [(.rr 4 xs)], [] => some (fits xs.length 32, ⟨.sl 0 0 xs.length, [.vec 24 (.rr 4 xs)], []⟩)
  | _, _ => none⟩
theorem slices_Clone_4int4int_fok : FunOK Tryz.prog 39 := funOK Tryz.func39 (by kernel_rfl) rfl
theorem slices_Clone_4int4int_meets (F : Nat) : Meets Tryz.prog 39 (slices_Clone_4int4int_ent F) := by
  have hb : Tryz.f39.body = some (.seq _ (.seq (.seq (.region _ #[_, _] false) _) _)) := rfl
  refine meets_nil (fuel := 70) (fn := Tryz.f39) mixed ttok deep tab_nil Tryz.func39 hb loopsOK_nil rfl rfl rfl rfl rfl rfl Tryz.underlying46 fun args mem hfit ret hg => ?_
  clear hfit
  simp only [slices_Clone_4int4int_ent] at hg
  split at hg
  · rename_i xs
    simp only [Option.some.injEq, Prod.mk.injEq] at hg
    obtain ⟨hc, rfl⟩ := hg
    refine ⟨⟨[(.rr 4 xs), .undef, .z0, .undef, .undef, .undef, .undef, .undef], [], 0, []⟩, fun R k => by kernel_rfl, rfl, Nat.le_of_ble_eq_true rfl, fun b hb => ?_⟩
    cases b with
    | true =>
      obtain rfl : xs = [] := List.eq_nil_of_length_eq_zero (hb rfl)
      exact ⟨[⟨2, 24, (.rr 4 [])⟩], [], _, (by kernel_rfl : _ = some ⟨.sl 0 0 0, [.vec 24 (.rr 4 [])], []⟩), rfl, rfl, rfl⟩
    | false =>
      refine ⟨[], [], ⟨.sl 0 0 xs.length, [.vec 24 (.rr 4 xs)], []⟩, Eq.trans (by kernel_rfl : _ = bif fits xs.length 32 then some (⟨.sl 0 0 xs.length, [.vec 24 (.rr 4 xs)], []⟩ : Ret) else none) ?_, rfl, rfl, rfl⟩
      rw [hc]; rfl
  · cases hg
end Go.Proofs.YtabfliifleonaajGreat
