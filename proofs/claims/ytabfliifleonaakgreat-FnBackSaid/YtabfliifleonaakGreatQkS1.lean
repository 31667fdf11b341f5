/-
Pure functions and what the code of them does, by program; without conditions.
-/
import Derived.Test.YtabfliifleonaakGreatQkP1
import Derived.Test.YtabfliifleonaakGreatQkS0
namespace Go.Proofs.YtabfliifleonaakGreat
open Go Go.Lv Go.Lv.P Go.Proofs
set_option linter.unusedVariables false
set_option linter.unusedSimpArgs false
set_option maxRecDepth 100000
noncomputable def k124_tab (F : Nat) : Tab := []
theorem k124_tabok (F : Nat) : TabOK Tryz.prog (k124_tab F) := u015
noncomputable def k124_LS0 (F : Nat) : LT := []
theorem k124_lsok0 (F : Nat) : u011 Tryz.prog (k124_LS0 F) (u000 Tryz.f45) := u005
theorem k124_run (F : Nat) (b0 : List Int) (wf : List Int) (t2 : Int) : runS tt (k124_tab F) (k124_LS0 F) [] [] Tryz.f45 (u000 Tryz.f45) 70 [(.ints 16 b0), (.ints 2 wf), (.int .i64 t2)] [] = k124_c _ b0 wf t2 (fun r => some ⟨(.ints 16 r), [], []⟩) := by kernel_rfl
def k124_ent (F : Nat) : Ent := ⟨[], .quiet, fun args mem => match args, mem with
  | [(.ints 16 b0), (.ints 2 wf), (.int .i64 t2)], [] => some ((k124_p b0 wf t2).isSome, ⟨(.ints 16 ((k124_p b0 wf t2).getD default)), [], []⟩)
  | _, _ => none⟩
theorem k124_fok : FunOK Tryz.prog 45 := funOK Tryz.func45 (by kernel_rfl) rfl
theorem k124_meets (F : Nat) : Meets Tryz.prog 45 (k124_ent F) := by
  refine u002 mixed ttok deep (k124_tabok F) Tryz.func45 (u009 rfl) (k124_lsok0 F) fun args mem hfit ret h => ?_
  clear hfit
  simp only [k124_ent] at h
  split at h
  · rename_i b0 wf t2
    simp only [Option.some.injEq, Prod.mk.injEq] at h
    obtain ⟨hc, rfl⟩ := h
    exact ⟨[], [], 70, _, (k124_run F b0 wf t2).trans ((k124_cp _ b0 wf t2 _).trans (u014 hc _)), rfl, rfl, rfl⟩
  · cases h
noncomputable def k101_tab (F : Nat) : Tab := [(93, (k74_ent F)), (96, (k125_ent F)), (94, (k113_ent F)), (45, (k124_ent F))]
theorem k101_tabok (F : Nat) : TabOK Tryz.prog (k101_tab F) := (u001 (k74_meets F) k74_fok (u001 (k125_meets F) k125_fok (u001 (k113_meets F) k113_fok (u001 (k124_meets F) k124_fok u015))))
noncomputable def k101_LS0 (F : Nat) : LT := []
theorem k101_lsok0 (F : Nat) : u011 Tryz.prog (k101_LS0 F) (u000 Tryz.f75) := u005
theorem k101_keys : u059 (u000 Tryz.f75) = true := by kernel_rfl
def k101_st3 (d0 : Int) (b12 : List Int) (gx : Int) (i11 : Int) (ge : List Int) : St := ⟨u018 46 0 [1, 2, 4, 6, 7, 8] [(.int .i64 d0), (.ptr 0 0 0 16), (.ptr 1 0 0 16), (.ptr 2 0 0 16), (.int .i64 gx), (.int .i64 i11)], [(.var 16 (.ri .i64 b12)), (.var 16 (.ri .i64 [(0 : Int), (0 : Int), (0 : Int), (0 : Int), (0 : Int), (0 : Int), (0 : Int), (0 : Int), (0 : Int), (0 : Int), (0 : Int), (0 : Int), (0 : Int), (0 : Int), (0 : Int), (0 : Int)])), (.var 16 (.ri .i64 ge))], 0, []⟩
def k101_o3 (d0 : Int) (b12 : List Int) (x : Int × List Int) : GT := (.out (.exit 0 ⟨u018 46 0 [4, 6, 7] [(.ptr 0 0 0 16), (.ptr 1 0 0 16), (.int .i64 x.1)], [(.var 16 (.ri .i64 [(0 : Int), (0 : Int), (0 : Int), (0 : Int), (0 : Int), (0 : Int), (0 : Int), (0 : Int), (0 : Int), (0 : Int), (0 : Int), (0 : Int), (0 : Int), (0 : Int), (0 : Int), (0 : Int)])), (.var 16 (.ri .i64 x.2))], 0, []⟩))
def k101_ls3 (F : Nat) : LoopS := ⟨46, [1, 2, 4, 6, 7, 8], [], [4, 6, 7], [], [4, 5], [], [], fun vals mem np killed => match vals, mem, np, killed with
  | [(.int .i64 d0), (.ptr 0 0 0 16), (.ptr 1 0 0 16), (.ptr 2 0 0 16), (.int .i64 gx), (.int .i64 i11)], [(.var 16 (.ri .i64 b12)), (.var 16 (.ri .i64 q_t413)), (.var 16 (.ri .i64 ge))], 0, [] => .br ((q_t413 == ([(0 : Int), (0 : Int), (0 : Int), (0 : Int), (0 : Int), (0 : Int), (0 : Int), (0 : Int), (0 : Int), (0 : Int), (0 : Int), (0 : Int), (0 : Int), (0 : Int), (0 : Int), (0 : Int)] : List Int)) && (k101_l3 F d0 b12 gx i11 ge).isSome) (k101_o3 d0 b12 ((k101_l3 F d0 b12 gx i11 ge).getD default)) .fail
  | _, _, _, _ => .fail⟩
theorem k101_step3 (F : Nat) (d0 : Int) (b12 : List Int) (gx : Int) (i11 : Int) (ge : List Int) {R : Type} (k : Out → Option R) : stepS tt (k101_tab F) (k101_LS0 F) 70 (k101_ls3 F) (u010 3 (u000 Tryz.f75)) (k101_st3 d0 b12 gx i11 ge) k = k101_s3 F d0 b12 R (gx, i11, ge) (fun s => k (.norm (k101_st3 d0 b12 s.1 s.2.1 s.2.2))) (fun x => (k101_o3 d0 b12 x).run k) := by kernel_rfl
theorem k101_iter3 (F : Nat) (d0 : Int) (b12 : List Int) {R : Type} (k : Out → Option R) : ∀ (n : Nat) (gx : Int) (i11 : Int) (ge : List Int), iterS tt (k101_tab F) (k101_LS0 F) 70 (k101_ls3 F) (u010 3 (u000 Tryz.f75)) n (k101_st3 d0 b12 gx i11 ge) k = loopC (k101_s3 F d0 b12) n (gx, i11, ge) (fun x => (k101_o3 d0 b12 x).run k)
  | 0, gx, i11, ge => rfl
  | n + 1, gx, i11, ge => (u017 tt (k101_tab F) (k101_LS0 F) 70 (k101_ls3 F) (u010 3 (u000 Tryz.f75)) n (k101_st3 d0 b12 gx i11 ge) k).trans ((k101_step3 F d0 b12 gx i11 ge (nextK (iterS tt (k101_tab F) (k101_LS0 F) 70 (k101_ls3 F) (u010 3 (u000 Tryz.f75)) n) k)).trans (congrArg (fun kn => k101_s3 F d0 b12 R (gx, i11, ge) kn _) (funext (fun ⟨gx, i11, ge⟩ => k101_iter3 F d0 b12 k n gx i11 ge))))
theorem k101_lok3 (F : Nat) : u041 Tryz.prog (u010 3 (u000 Tryz.f75)) (k101_ls3 F) := by
  refine u019 mixed ttok deep (k101_tabok F) (u016 (k101_lsok0 F) 3) (fuel := 70) fun R vals mem np killed k x h => ?_
  simp only [k101_ls3] at h
  split at h
  · rename_i d0 gx i11 b12 q_t413 ge
    simp only [GT.run] at h
    have hc := (u007 h).1
    replace h := (u007 h).2
    have hg := (u013 hc).1
    replace hc := (u013 hc).2
    obtain rfl := u208 hg
    refine ⟨F, (k101_iter3 F d0 b12 k F gx i11 ge).trans ((u020 (k101_s3_nat F d0 b12) hc _).trans h)⟩
  · simp only [GT.run] at h
    cases h
noncomputable def k101_LS1 (F : Nat) : LT := (3, k101_ls3 F) :: k101_LS0 F
theorem k101_lsok1 (F : Nat) : u011 Tryz.prog (k101_LS1 F) (u000 Tryz.f75) := u012 k101_keys (k101_lok3 F) (k101_lsok0 F)
theorem k101_run (F : Nat) (b0 : List Int) (d1 : Int) : runS tt (k101_tab F) (k101_LS1 F) [] [] Tryz.f75 (u000 Tryz.f75) 70 [(.ints 16 b0), (.int .i64 d1)] [] = k101_c _ F b0 d1 (fun r => some ⟨(.tup [(.ints 16 r.1), (.int .i64 r.2)]), [], []⟩) := by kernel_rfl
def k101_ent (F : Nat) : Ent := ⟨[], .quiet, fun args mem => match args, mem with
  | [(.ints 16 b0), (.int .i64 d1)], [] => some ((k101_p F b0 d1).isSome, ⟨(.tup [(.ints 16 ((k101_p F b0 d1).getD default).1), (.int .i64 ((k101_p F b0 d1).getD default).2)]), [], []⟩)
  | _, _ => none⟩
theorem k101_fok : FunOK Tryz.prog 75 := funOK Tryz.func75 (by kernel_rfl) rfl
theorem k101_meets (F : Nat) : Meets Tryz.prog 75 (k101_ent F) := by
  refine u002 mixed ttok deep (k101_tabok F) Tryz.func75 (u009 rfl) (k101_lsok1 F) fun args mem hfit ret h => ?_
  clear hfit
  simp only [k101_ent] at h
  split at h
  · rename_i b0 d1
    simp only [Option.some.injEq, Prod.mk.injEq] at h
    obtain ⟨hc, rfl⟩ := h
    exact ⟨[], [], 70, _, (k101_run F b0 d1).trans ((k101_cp _ F b0 d1 _).trans (u014 hc _)), rfl, rfl, rfl⟩
  · cases h
noncomputable def k116_tab (F : Nat) : Tab := [(94, (k113_ent F)), (45, (k124_ent F))]
theorem k116_tabok (F : Nat) : TabOK Tryz.prog (k116_tab F) := (u001 (k113_meets F) k113_fok (u001 (k124_meets F) k124_fok u015))
noncomputable def k116_LS0 (F : Nat) : LT := []
theorem k116_lsok0 (F : Nat) : u011 Tryz.prog (k116_LS0 F) (u000 Tryz.f71) := u005
theorem k116_run (F : Nat) (b0 : List Int) (d1 : Int) (i2 : Int) (wg : List Int) : runS tt (k116_tab F) (k116_LS0 F) [] [] Tryz.f71 (u000 Tryz.f71) 70 [(.ints 16 b0), (.int .i64 d1), (.int .i64 i2), (.ints 4 wg)] [] = k116_c _ F b0 d1 i2 wg (fun r => some ⟨(.ints 16 r), [], []⟩) := by kernel_rfl
def k116_ent (F : Nat) : Ent := ⟨[], .quiet, fun args mem => match args, mem with
  | [(.ints 16 b0), (.int .i64 d1), (.int .i64 i2), (.ints 4 wg)], [] => some ((k116_p F b0 d1 i2 wg).isSome, ⟨(.ints 16 ((k116_p F b0 d1 i2 wg).getD default)), [], []⟩)
  | _, _ => none⟩
theorem k116_fok : FunOK Tryz.prog 71 := funOK Tryz.func71 (by kernel_rfl) rfl
theorem k116_meets (F : Nat) : Meets Tryz.prog 71 (k116_ent F) := by
  refine u002 mixed ttok deep (k116_tabok F) Tryz.func71 (u009 rfl) (k116_lsok0 F) fun args mem hfit ret h => ?_
  clear hfit
  simp only [k116_ent] at h
  split at h
  · rename_i b0 d1 i2 wg
    simp only [Option.some.injEq, Prod.mk.injEq] at h
    obtain ⟨hc, rfl⟩ := h
    exact ⟨[], [], 70, _, (k116_run F b0 d1 i2 wg).trans ((k116_cp _ F b0 d1 i2 wg _).trans (u014 hc _)), rfl, rfl, rfl⟩
  · cases h
noncomputable def k65_tab (F : Nat) : Tab := [(72, (k53_ent F)), (73, (k68_ent F)), (37, (k99_ent F)), (38, (k114_ent F)), (74, (k73_ent F)), (75, (k101_ent F)), (46, (k67_ent F)), (71, (k116_ent F))]
theorem k65_tabok (F : Nat) : TabOK Tryz.prog (k65_tab F) := (u001 (k53_meets F) k53_fok (u001 (k68_meets F) k68_fok (u001 (k99_meets F) k99_fok (u001 (k114_meets F) k114_fok (u001 (k73_meets F) k73_fok (u001 (k101_meets F) k101_fok (u001 (k67_meets F) k67_fok (u001 (k116_meets F) k116_fok u015))))))))
noncomputable def k65_LS0 (F : Nat) : LT := []
theorem k65_lsok0 (F : Nat) : u011 Tryz.prog (k65_LS0 F) (u000 Tryz.f43) := u005
theorem k65_keys : u059 (u000 Tryz.f43) = true := by kernel_rfl
def k65_st6 (d9 : Int) (c11 : List Int) (i10 : Int) (c12 : Int) (c13 : Int) (b15 : List Int) : St := ⟨u018 52 0 [0, 2, 4, 5, 6] [(.ptr 0 0 0 3), (.ptr 1 0 0 16), (.ptr 2 0 0 16), (.int .i64 d9), (.int .i64 i10)], [(.var 3 (.rv [(.ri .u8 c11), (.int .i64 c12), (.int .u64 c13)])), (.var 16 (.ri .i64 [(0 : Int), (0 : Int), (0 : Int), (0 : Int), (0 : Int), (0 : Int), (0 : Int), (0 : Int), (0 : Int), (0 : Int), (0 : Int), (0 : Int), (0 : Int), (0 : Int), (0 : Int), (0 : Int)])), (.var 16 (.ri .i64 b15))], 1, []⟩
def k65_o6 (d9 : Int) (c11 : List Int) (x : Int × Int × List Int) : GT := (.out (.exit 0 ⟨u018 52 0 [2, 4, 5] [(.ptr 1 0 0 16), (.ptr 2 0 0 16), (.int .i64 d9)], [(.var 3 (.rv [(.ri .u8 c11), (.int .i64 x.1), (.int .u64 x.2.1)])), (.var 16 (.ri .i64 [(0 : Int), (0 : Int), (0 : Int), (0 : Int), (0 : Int), (0 : Int), (0 : Int), (0 : Int), (0 : Int), (0 : Int), (0 : Int), (0 : Int), (0 : Int), (0 : Int), (0 : Int), (0 : Int)])), (.var 16 (.ri .i64 x.2.2))], 1, []⟩))
def k65_ls6 (F : Nat) : LoopS := ⟨52, [0, 2, 4, 5, 6], [], [2, 4, 5], [], [2, 3], [], [], fun vals mem np killed => match vals, mem, np, killed with
  | [(.ptr 0 0 0 3), (.ptr 1 0 0 16), (.ptr 2 0 0 16), (.int .i64 d9), (.int .i64 i10)], [(.var 3 (.rv [(.ri .u8 c11), (.int .i64 c12), (.int .u64 c13)])), (.var 16 (.ri .i64 q_t214)), (.var 16 (.ri .i64 b15))], 1, [] => .br ((q_t214 == ([(0 : Int), (0 : Int), (0 : Int), (0 : Int), (0 : Int), (0 : Int), (0 : Int), (0 : Int), (0 : Int), (0 : Int), (0 : Int), (0 : Int), (0 : Int), (0 : Int), (0 : Int), (0 : Int)] : List Int)) && (k65_l6 F d9 c11 i10 c12 c13 b15).isSome) (k65_o6 d9 c11 ((k65_l6 F d9 c11 i10 c12 c13 b15).getD default)) .fail
  | _, _, _, _ => .fail⟩
theorem k65_step6 (F : Nat) (d9 : Int) (c11 : List Int) (i10 : Int) (c12 : Int) (c13 : Int) (b15 : List Int) {R : Type} (k : Out → Option R) : stepS tt (k65_tab F) (k65_LS0 F) 70 (k65_ls6 F) (u010 6 (u000 Tryz.f43)) (k65_st6 d9 c11 i10 c12 c13 b15) k = k65_s6 F d9 c11 R (i10, c12, c13, b15) (fun s => k (.norm (k65_st6 d9 c11 s.1 s.2.1 s.2.2.1 s.2.2.2))) (fun x => (k65_o6 d9 c11 x).run k) := by kernel_rfl
theorem k65_iter6 (F : Nat) (d9 : Int) (c11 : List Int) {R : Type} (k : Out → Option R) : ∀ (n : Nat) (i10 : Int) (c12 : Int) (c13 : Int) (b15 : List Int), iterS tt (k65_tab F) (k65_LS0 F) 70 (k65_ls6 F) (u010 6 (u000 Tryz.f43)) n (k65_st6 d9 c11 i10 c12 c13 b15) k = loopC (k65_s6 F d9 c11) n (i10, c12, c13, b15) (fun x => (k65_o6 d9 c11 x).run k)
  | 0, i10, c12, c13, b15 => rfl
  | n + 1, i10, c12, c13, b15 => (u017 tt (k65_tab F) (k65_LS0 F) 70 (k65_ls6 F) (u010 6 (u000 Tryz.f43)) n (k65_st6 d9 c11 i10 c12 c13 b15) k).trans ((k65_step6 F d9 c11 i10 c12 c13 b15 (nextK (iterS tt (k65_tab F) (k65_LS0 F) 70 (k65_ls6 F) (u010 6 (u000 Tryz.f43)) n) k)).trans (congrArg (fun kn => k65_s6 F d9 c11 R (i10, c12, c13, b15) kn _) (funext (fun ⟨i10, c12, c13, b15⟩ => k65_iter6 F d9 c11 k n i10 c12 c13 b15))))
theorem k65_lok6 (F : Nat) : u041 Tryz.prog (u010 6 (u000 Tryz.f43)) (k65_ls6 F) := by
  refine u019 mixed ttok deep (k65_tabok F) (u016 (k65_lsok0 F) 6) (fuel := 70) fun R vals mem np killed k x h => ?_
  simp only [k65_ls6] at h
  split at h
  · rename_i d9 i10 c11 c12 c13 q_t214 b15
    simp only [GT.run] at h
    have hc := (u007 h).1
    replace h := (u007 h).2
    have hg := (u013 hc).1
    replace hc := (u013 hc).2
    obtain rfl := u208 hg
    refine ⟨F, (k65_iter6 F d9 c11 k F i10 c12 c13 b15).trans ((u020 (k65_s6_nat F d9 c11) hc _).trans h)⟩
  · simp only [GT.run] at h
    cases h
noncomputable def k65_LS1 (F : Nat) : LT := (6, k65_ls6 F) :: k65_LS0 F
theorem k65_lsok1 (F : Nat) : u011 Tryz.prog (k65_LS1 F) (u000 Tryz.f43) := u012 k65_keys (k65_lok6 F) (k65_lsok0 F)
theorem k65_run (F : Nat) (c3 : List Int) (c4 : Int) (c5 : Int) : runS tt (k65_tab F) (k65_LS1 F) [] [] Tryz.f43 (u000 Tryz.f43) 70 [(.ptr 0 0 0 3)] [(.var 3 (.rv [(.ri .u8 c3), (.int .i64 c4), (.int .u64 c5)]))] = k65_c _ F c3 c4 c5 (fun r => some ⟨(.tup [(.ints 16 r.1), (.int .i64 r.2.1)]), [(.var 3 (.rv [(.ri .u8 c3), (.int .i64 r.2.2.1), (.int .u64 r.2.2.2)]))], []⟩) := by kernel_rfl
def k65_ent (F : Nat) : Ent := ⟨[], .loud, fun args mem => match args, mem with
  | [(.ptr 0 0 0 3)], [(.var 3 (.rv [(.ri .u8 c3), (.int .i64 c4), (.int .u64 c5)]))] => some ((k65_p F c3 c4 c5).isSome, ⟨(.tup [(.ints 16 ((k65_p F c3 c4 c5).getD default).1), (.int .i64 ((k65_p F c3 c4 c5).getD default).2.1)]), [(.var 3 (.rv [(.ri .u8 c3), (.int .i64 ((k65_p F c3 c4 c5).getD default).2.2.1), (.int .u64 ((k65_p F c3 c4 c5).getD default).2.2.2)]))], []⟩)
  | _, _ => none⟩
theorem k65_fok : FunOK Tryz.prog 43 := funOK Tryz.func43 (by kernel_rfl) rfl
theorem k65_meets (F : Nat) : Meets Tryz.prog 43 (k65_ent F) := by
  refine u002 mixed ttok deep (k65_tabok F) Tryz.func43 (u009 rfl) (k65_lsok1 F) fun args mem hfit ret h => ?_
  clear hfit
  simp only [k65_ent] at h
  split at h
  · rename_i c3 c4 c5
    simp only [Option.some.injEq, Prod.mk.injEq] at h
    obtain ⟨hc, rfl⟩ := h
    exact ⟨[], [], 70, _, (k65_run F c3 c4 c5).trans ((k65_cp _ F c3 c4 c5 _).trans (u014 hc _)), rfl, rfl, rfl⟩
  · cases h
noncomputable def k28_tab (F : Nat) : Tab := [(43, (k65_ent F))]
theorem k28_tabok (F : Nat) : TabOK Tryz.prog (k28_tab F) := (u001 (k65_meets F) k65_fok u015)
noncomputable def k28_LS0 (F : Nat) : LT := []
theorem k28_lsok0 (F : Nat) : u011 Tryz.prog (k28_LS0 F) (u000 Tryz.f28) := u005
theorem k28_run (F : Nat) (j2 : List Int) : runS tt (k28_tab F) (k28_LS0 F) [] [] Tryz.f28 (u000 Tryz.f28) 70 [(.ri .u8 j2)] [] = k28_c _ F j2 (fun r => some ⟨(.tup [(.ints 16 r.1), (.int .i64 r.2)]), [], []⟩) := by kernel_rfl
def k28_ent (F : Nat) : Ent := ⟨[], .quiet, fun args mem => match args, mem with
  | [(.ri .u8 j2)], [] => some ((k28_p F j2).isSome, ⟨(.tup [(.ints 16 ((k28_p F j2).getD default).1), (.int .i64 ((k28_p F j2).getD default).2)]), [], []⟩)
  | _, _ => none⟩
theorem k28_fok : FunOK Tryz.prog 28 := funOK Tryz.func28 (by kernel_rfl) rfl
theorem k28_meets (F : Nat) : Meets Tryz.prog 28 (k28_ent F) := by
  refine u002 mixed ttok deep (k28_tabok F) Tryz.func28 (u009 rfl) (k28_lsok0 F) fun args mem hfit ret h => ?_
  clear hfit
  simp only [k28_ent] at h
  split at h
  · rename_i j2
    simp only [Option.some.injEq, Prod.mk.injEq] at h
    obtain ⟨hc, rfl⟩ := h
    exact ⟨[], [], 70, _, (k28_run F j2).trans ((k28_cp _ F j2 _).trans (u014 hc _)), rfl, rfl, rfl⟩
  · cases h
noncomputable def k24_tab (F : Nat) : Tab := [(28, (k28_ent F))]
theorem k24_tabok (F : Nat) : TabOK Tryz.prog (k24_tab F) := (u001 (k28_meets F) k28_fok u015)
noncomputable def k24_LS0 (F : Nat) : LT := []
theorem k24_lsok0 (F : Nat) : u011 Tryz.prog (k24_LS0 F) (u000 Tryz.f5) := u005
theorem k24_run (F : Nat) (j2 : List Int) : runS tt (k24_tab F) (k24_LS0 F) [] [] Tryz.f5 (u000 Tryz.f5) 70 [(.ri .u8 j2)] [] = k24_c _ F j2 (fun r => some ⟨(.tup [(.ints 16 r.1), (.int .i64 r.2)]), [], []⟩) := by kernel_rfl
def k24_ent (F : Nat) : Ent := ⟨[], .quiet, fun args mem => match args, mem with
  | [(.ri .u8 j2)], [] => some ((k24_p F j2).isSome, ⟨(.tup [(.ints 16 ((k24_p F j2).getD default).1), (.int .i64 ((k24_p F j2).getD default).2)]), [], []⟩)
  | _, _ => none⟩
theorem k24_fok : FunOK Tryz.prog 5 := funOK Tryz.func5 (by kernel_rfl) rfl
theorem k24_meets (F : Nat) : Meets Tryz.prog 5 (k24_ent F) := by
  refine u002 mixed ttok deep (k24_tabok F) Tryz.func5 (u009 rfl) (k24_lsok0 F) fun args mem hfit ret h => ?_
  clear hfit
  simp only [k24_ent] at h
  split at h
  · rename_i j2
    simp only [Option.some.injEq, Prod.mk.injEq] at h
    obtain ⟨hc, rfl⟩ := h
    exact ⟨[], [], 70, _, (k24_run F j2).trans ((k24_cp _ F j2 _).trans (u014 hc _)), rfl, rfl, rfl⟩
  · cases h
noncomputable def k132_tab (F : Nat) : Tab := []
theorem k132_tabok (F : Nat) : TabOK Tryz.prog (k132_tab F) := u015
noncomputable def k132_LS0 (F : Nat) : LT := []
theorem k132_lsok0 (F : Nat) : u011 Tryz.prog (k132_LS0 F) (u000 Tryz.f51) := u005
theorem k132_run (F : Nat) (n0 : Int) (yz : Int) (jz : Int) : runS tt (k132_tab F) (k132_LS0 F) [] [] Tryz.f51 (u000 Tryz.f51) 70 [(.int .i64 n0), (.int .i64 yz), (.int .i64 jz)] [] = k132_c _ n0 yz jz (fun r => some ⟨(.bool r), [], []⟩) := by kernel_rfl
def k132_ent (F : Nat) : Ent := ⟨[], .quiet, fun args mem => match args, mem with
  | [(.int .i64 n0), (.int .i64 yz), (.int .i64 jz)], [] => some (true, ⟨(.bool (k132_v n0 yz jz)), [], []⟩)
  | _, _ => none⟩
theorem k132_fok : FunOK Tryz.prog 51 := funOK Tryz.func51 (by kernel_rfl) rfl
theorem k132_meets (F : Nat) : Meets Tryz.prog 51 (k132_ent F) := by
  refine u002 mixed ttok deep (k132_tabok F) Tryz.func51 (u009 rfl) (k132_lsok0 F) fun args mem hfit ret h => ?_
  clear hfit
  simp only [k132_ent] at h
  split at h
  · rename_i n0 yz jz
    simp only [Option.some.injEq, Prod.mk.injEq] at h
    obtain ⟨hc, rfl⟩ := h
    exact ⟨[], [], 70, _, (k132_run F n0 yz jz).trans (k132_cv _ n0 yz jz _), rfl, rfl, rfl⟩
  · cases h
noncomputable def k79_tab (F : Nat) : Tab := [(51, (k132_ent F))]
theorem k79_tabok (F : Nat) : TabOK Tryz.prog (k79_tab F) := (u001 (k132_meets F) k132_fok u015)
noncomputable def k79_LS0 (F : Nat) : LT := []
theorem k79_lsok0 (F : Nat) : u011 Tryz.prog (k79_LS0 F) (u000 Tryz.f83) := u005
theorem k79_run (F : Nat) (n0 : Int) : runS tt (k79_tab F) (k79_LS0 F) [] [] Tryz.f83 (u000 Tryz.f83) 70 [(.int .i64 n0)] [] = k79_c _ n0 (fun r => some ⟨(.bool r), [], []⟩) := by kernel_rfl
def k79_ent (F : Nat) : Ent := ⟨[], .quiet, fun args mem => match args, mem with
  | [(.int .i64 n0)], [] => some (true, ⟨(.bool (k79_v n0)), [], []⟩)
  | _, _ => none⟩
theorem k79_fok : FunOK Tryz.prog 83 := funOK Tryz.func83 (by kernel_rfl) rfl
theorem k79_meets (F : Nat) : Meets Tryz.prog 83 (k79_ent F) := by
  refine u002 mixed ttok deep (k79_tabok F) Tryz.func83 (u009 rfl) (k79_lsok0 F) fun args mem hfit ret h => ?_
  clear hfit
  simp only [k79_ent] at h
  split at h
  · rename_i n0
    simp only [Option.some.injEq, Prod.mk.injEq] at h
    obtain ⟨hc, rfl⟩ := h
    exact ⟨[], [], 70, _, (k79_run F n0).trans (k79_cv _ n0 _), rfl, rfl, rfl⟩
  · cases h
noncomputable def k17_tab (F : Nat) : Tab := [(83, (k79_ent F))]
theorem k17_tabok (F : Nat) : TabOK Tryz.prog (k17_tab F) := (u001 (k79_meets F) k79_fok u015)
noncomputable def k17_LS0 (F : Nat) : LT := []
theorem k17_lsok0 (F : Nat) : u011 Tryz.prog (k17_LS0 F) (u000 Tryz.f100) := u005
theorem k17_keys : u059 (u000 Tryz.f100) = true := by kernel_rfl
def k17_st2 (s0 : List Int) (t71 : Int) (t82 : Int) : St := ⟨u018 19 0 [0, 1, 7, 8] [(.ri .i64 s0), (.fn 83 [] []), (.int .i64 t71), (.int .i64 t82)], [], 0, []⟩
def k17_o2 (s0 : List Int) (t71 : Int) (x : Bool × Int) : GT := (.br x.1 (.out (.ret ⟨u018 19 0 [4] [(.int .i64 x.2)], [], 0, []⟩)) (.out (.exit 0 ⟨u018 19 0 [] [], [], 0, []⟩)))
def k17_ls2 (F : Nat) : LoopS := ⟨19, [0, 1, 7, 8], [], [], [], [4], [], [], fun vals mem np killed => match vals, mem, np, killed with
  | [(.ri .i64 s0), (.fn 83 [] []), (.int .i64 t71), (.int .i64 t82)], [], 0, [] => .br (k17_l2 F s0 t71 t82).isSome (k17_o2 s0 t71 ((k17_l2 F s0 t71 t82).getD default)) .fail
  | _, _, _, _ => .fail⟩
theorem k17_step2 (F : Nat) (s0 : List Int) (t71 : Int) (t82 : Int) {R : Type} (k : Out → Option R) : stepS tt (k17_tab F) (k17_LS0 F) 70 (k17_ls2 F) (u010 2 (u000 Tryz.f100)) (k17_st2 s0 t71 t82) k = k17_s2 F s0 t71 R t82 (fun s => k (.norm (k17_st2 s0 t71 s))) (fun x => (k17_o2 s0 t71 x).run k) := by kernel_rfl
theorem k17_iter2 (F : Nat) (s0 : List Int) (t71 : Int) {R : Type} (k : Out → Option R) : ∀ (n : Nat) (t82 : Int), iterS tt (k17_tab F) (k17_LS0 F) 70 (k17_ls2 F) (u010 2 (u000 Tryz.f100)) n (k17_st2 s0 t71 t82) k = loopC (k17_s2 F s0 t71) n t82 (fun x => (k17_o2 s0 t71 x).run k)
  | 0, t82 => rfl
  | n + 1, t82 => (u017 tt (k17_tab F) (k17_LS0 F) 70 (k17_ls2 F) (u010 2 (u000 Tryz.f100)) n (k17_st2 s0 t71 t82) k).trans ((k17_step2 F s0 t71 t82 (nextK (iterS tt (k17_tab F) (k17_LS0 F) 70 (k17_ls2 F) (u010 2 (u000 Tryz.f100)) n) k)).trans (congrArg (fun kn => k17_s2 F s0 t71 R t82 kn _) (funext (fun t82 => k17_iter2 F s0 t71 k n t82))))
theorem k17_lok2 (F : Nat) : u041 Tryz.prog (u010 2 (u000 Tryz.f100)) (k17_ls2 F) := by
  refine u019 mixed ttok deep (k17_tabok F) (u016 (k17_lsok0 F) 2) (fuel := 70) fun R vals mem np killed k x h => ?_
  simp only [k17_ls2] at h
  split at h
  · rename_i s0 t71 t82
    simp only [GT.run] at h
    have hc := (u007 h).1
    replace h := (u007 h).2
    refine ⟨F, (k17_iter2 F s0 t71 k F t82).trans ((u020 (k17_s2_nat F s0 t71) hc _).trans h)⟩
  · simp only [GT.run] at h
    cases h
noncomputable def k17_LS1 (F : Nat) : LT := (2, k17_ls2 F) :: k17_LS0 F
theorem k17_lsok1 (F : Nat) : u011 Tryz.prog (k17_LS1 F) (u000 Tryz.f100) := u012 k17_keys (k17_lok2 F) (k17_lsok0 F)
theorem k17_run (F : Nat) (s0 : List Int) : runS tt (k17_tab F) (k17_LS1 F) [] [] Tryz.f100 (u000 Tryz.f100) 70 [(.ri .i64 s0), (.fn 83 [] [])] [] = k17_c _ F s0 (fun r => some ⟨(.int .i64 r), [], []⟩) := by kernel_rfl
def k17_ent (F : Nat) : Ent := ⟨[], .quiet, fun args mem => match args, mem with
  | [(.ri .i64 s0), (.fn 83 [] [])], [] => some ((k17_p F s0).isSome, ⟨(.int .i64 ((k17_p F s0).getD default)), [], []⟩)
  | _, _ => none⟩
theorem k17_fok : FunOK Tryz.prog 100 := funOK Tryz.func100 (by kernel_rfl) rfl
theorem k17_meets (F : Nat) : Meets Tryz.prog 100 (k17_ent F) := by
  refine u002 mixed ttok deep (k17_tabok F) Tryz.func100 (u009 rfl) (k17_lsok1 F) fun args mem hfit ret h => ?_
  clear hfit
  simp only [k17_ent] at h
  split at h
  · rename_i s0
    simp only [Option.some.injEq, Prod.mk.injEq] at h
    obtain ⟨hc, rfl⟩ := h
    exact ⟨[], [], 70, _, (k17_run F s0).trans ((k17_cp _ F s0 _).trans (u014 hc _)), rfl, rfl, rfl⟩
  · cases h
noncomputable def k15_tab (F : Nat) : Tab := [(100, (k17_ent F))]
theorem k15_tabok (F : Nat) : TabOK Tryz.prog (k15_tab F) := (u001 (k17_meets F) k17_fok u015)
noncomputable def k15_LS0 (F : Nat) : LT := []
theorem k15_lsok0 (F : Nat) : u011 Tryz.prog (k15_LS0 F) (u000 Tryz.f82) := u005
theorem k15_run (F : Nat) (s0 : List Int) : runS tt (k15_tab F) (k15_LS0 F) [] [] Tryz.f82 (u000 Tryz.f82) 70 [(.ri .i64 s0), (.fn 83 [] [])] [] = k15_c _ F s0 (fun r => some ⟨(.bool r), [], []⟩) := by kernel_rfl
def k15_ent (F : Nat) : Ent := ⟨[], .quiet, fun args mem => match args, mem with
  | [(.ri .i64 s0), (.fn 83 [] [])], [] => some ((k15_p F s0).isSome, ⟨(.bool ((k15_p F s0).getD default)), [], []⟩)
  | _, _ => none⟩
theorem k15_fok : FunOK Tryz.prog 82 := funOK Tryz.func82 (by kernel_rfl) rfl
theorem k15_meets (F : Nat) : Meets Tryz.prog 82 (k15_ent F) := by
  refine u002 mixed ttok deep (k15_tabok F) Tryz.func82 (u009 rfl) (k15_lsok0 F) fun args mem hfit ret h => ?_
  clear hfit
  simp only [k15_ent] at h
  split at h
  · rename_i s0
    simp only [Option.some.injEq, Prod.mk.injEq] at h
    obtain ⟨hc, rfl⟩ := h
    exact ⟨[], [], 70, _, (k15_run F s0).trans ((k15_cp _ F s0 _).trans (u014 hc _)), rfl, rfl, rfl⟩
  · cases h
noncomputable def k117_tab (F : Nat) : Tab := [(82, (k15_ent F))]
theorem k117_tabok (F : Nat) : TabOK Tryz.prog (k117_tab F) := (u001 (k15_meets F) k15_fok u015)
noncomputable def k117_LS0 (F : Nat) : LT := []
theorem k117_lsok0 (F : Nat) : u011 Tryz.prog (k117_LS0 F) (u000 Tryz.f60) := u005
theorem k117_run (F : Nat) (w4 : List Int) : runS tt (k117_tab F) (k117_LS0 F) [] [] Tryz.f60 (u000 Tryz.f60) 70 [(.ints 4 w4)] [] = k117_c _ F w4 (fun r => some ⟨(.bool r), [], []⟩) := by kernel_rfl
def k117_ent (F : Nat) : Ent := ⟨[], .quiet, fun args mem => match args, mem with
  | [(.ints 4 w4)], [] => some ((k117_p F w4).isSome, ⟨(.bool ((k117_p F w4).getD default)), [], []⟩)
  | _, _ => none⟩
theorem k117_fok : FunOK Tryz.prog 60 := funOK Tryz.func60 (by kernel_rfl) rfl
theorem k117_meets (F : Nat) : Meets Tryz.prog 60 (k117_ent F) := by
  refine u002 mixed ttok deep (k117_tabok F) Tryz.func60 (u009 rfl) (k117_lsok0 F) fun args mem hfit ret h => ?_
  clear hfit
  simp only [k117_ent] at h
  split at h
  · rename_i w4
    simp only [Option.some.injEq, Prod.mk.injEq] at h
    obtain ⟨hc, rfl⟩ := h
    exact ⟨[], [], 70, _, (k117_run F w4).trans ((k117_cp _ F w4 _).trans (u014 hc _)), rfl, rfl, rfl⟩
  · cases h
noncomputable def k57_tab (F : Nat) : Tab := [(60, (k117_ent F))]
theorem k57_tabok (F : Nat) : TabOK Tryz.prog (k57_tab F) := (u001 (k117_meets F) k117_fok u015)
noncomputable def k57_LS0 (F : Nat) : LT := []
theorem k57_lsok0 (F : Nat) : u011 Tryz.prog (k57_LS0 F) (u000 Tryz.f59) := u005
theorem k57_run (F : Nat) (w4 : List Int) : runS tt (k57_tab F) (k57_LS0 F) [] [] Tryz.f59 (u000 Tryz.f59) 70 [(.ints 4 w4)] [] = k57_c _ F w4 (fun r => some ⟨(.bool r), [], []⟩) := by kernel_rfl
def k57_ent (F : Nat) : Ent := ⟨[], .quiet, fun args mem => match args, mem with
  | [(.ints 4 w4)], [] => some ((k57_p F w4).isSome, ⟨(.bool ((k57_p F w4).getD default)), [], []⟩)
  | _, _ => none⟩
theorem k57_fok : FunOK Tryz.prog 59 := funOK Tryz.func59 (by kernel_rfl) rfl
theorem k57_meets (F : Nat) : Meets Tryz.prog 59 (k57_ent F) := by
  refine u002 mixed ttok deep (k57_tabok F) Tryz.func59 (u009 rfl) (k57_lsok0 F) fun args mem hfit ret h => ?_
  clear hfit
  simp only [k57_ent] at h
  split at h
  · rename_i w4
    simp only [Option.some.injEq, Prod.mk.injEq] at h
    obtain ⟨hc, rfl⟩ := h
    exact ⟨[], [], 70, _, (k57_run F w4).trans ((k57_cp _ F w4 _).trans (u014 hc _)), rfl, rfl, rfl⟩
  · cases h
noncomputable def k14_tab (F : Nat) : Tab := [(59, (k57_ent F))]
theorem k14_tabok (F : Nat) : TabOK Tryz.prog (k14_tab F) := (u001 (k57_meets F) k57_fok u015)
noncomputable def k14_LS0 (F : Nat) : LT := []
theorem k14_lsok0 (F : Nat) : u011 Tryz.prog (k14_LS0 F) (u000 Tryz.f81) := u005
theorem k14_keys : u059 (u000 Tryz.f81) = true := by kernel_rfl
def k14_st2 (s0 : List (List Int)) (t71 : Int) (t82 : Int) : St := ⟨u018 19 0 [0, 1, 7, 8] [(.rr 4 s0), (.fn 59 [] []), (.int .i64 t71), (.int .i64 t82)], [], 0, []⟩
def k14_o2 (s0 : List (List Int)) (t71 : Int) (x : Bool × Int) : GT := (.br x.1 (.out (.ret ⟨u018 19 0 [4] [(.int .i64 x.2)], [], 0, []⟩)) (.out (.exit 0 ⟨u018 19 0 [] [], [], 0, []⟩)))
def k14_ls2 (F : Nat) : LoopS := ⟨19, [0, 1, 7, 8], [], [], [], [4], [], [], fun vals mem np killed => match vals, mem, np, killed with
  | [(.rr 4 s0), (.fn 59 [] []), (.int .i64 t71), (.int .i64 t82)], [], 0, [] => .br (k14_l2 F s0 t71 t82).isSome (k14_o2 s0 t71 ((k14_l2 F s0 t71 t82).getD default)) .fail
  | _, _, _, _ => .fail⟩
theorem k14_step2 (F : Nat) (s0 : List (List Int)) (t71 : Int) (t82 : Int) {R : Type} (k : Out → Option R) : stepS tt (k14_tab F) (k14_LS0 F) 70 (k14_ls2 F) (u010 2 (u000 Tryz.f81)) (k14_st2 s0 t71 t82) k = k14_s2 F s0 t71 R t82 (fun s => k (.norm (k14_st2 s0 t71 s))) (fun x => (k14_o2 s0 t71 x).run k) := by kernel_rfl
theorem k14_iter2 (F : Nat) (s0 : List (List Int)) (t71 : Int) {R : Type} (k : Out → Option R) : ∀ (n : Nat) (t82 : Int), iterS tt (k14_tab F) (k14_LS0 F) 70 (k14_ls2 F) (u010 2 (u000 Tryz.f81)) n (k14_st2 s0 t71 t82) k = loopC (k14_s2 F s0 t71) n t82 (fun x => (k14_o2 s0 t71 x).run k)
  | 0, t82 => rfl
  | n + 1, t82 => (u017 tt (k14_tab F) (k14_LS0 F) 70 (k14_ls2 F) (u010 2 (u000 Tryz.f81)) n (k14_st2 s0 t71 t82) k).trans ((k14_step2 F s0 t71 t82 (nextK (iterS tt (k14_tab F) (k14_LS0 F) 70 (k14_ls2 F) (u010 2 (u000 Tryz.f81)) n) k)).trans (congrArg (fun kn => k14_s2 F s0 t71 R t82 kn _) (funext (fun t82 => k14_iter2 F s0 t71 k n t82))))
theorem k14_lok2 (F : Nat) : u041 Tryz.prog (u010 2 (u000 Tryz.f81)) (k14_ls2 F) := by
  refine u019 mixed ttok deep (k14_tabok F) (u016 (k14_lsok0 F) 2) (fuel := 70) fun R vals mem np killed k x h => ?_
  simp only [k14_ls2] at h
  split at h
  · rename_i s0 t71 t82
    simp only [GT.run] at h
    have hc := (u007 h).1
    replace h := (u007 h).2
    refine ⟨F, (k14_iter2 F s0 t71 k F t82).trans ((u020 (k14_s2_nat F s0 t71) hc _).trans h)⟩
  · simp only [GT.run] at h
    cases h
noncomputable def k14_LS1 (F : Nat) : LT := (2, k14_ls2 F) :: k14_LS0 F
theorem k14_lsok1 (F : Nat) : u011 Tryz.prog (k14_LS1 F) (u000 Tryz.f81) := u012 k14_keys (k14_lok2 F) (k14_lsok0 F)
theorem k14_run (F : Nat) (s0 : List (List Int)) : runS tt (k14_tab F) (k14_LS1 F) [] [] Tryz.f81 (u000 Tryz.f81) 70 [(.rr 4 s0), (.fn 59 [] [])] [] = k14_c _ F s0 (fun r => some ⟨(.int .i64 r), [], []⟩) := by kernel_rfl
def k14_ent (F : Nat) : Ent := ⟨[], .quiet, fun args mem => match args, mem with
  | [(.rr 4 s0), (.fn 59 [] [])], [] => some ((k14_p F s0).isSome, ⟨(.int .i64 ((k14_p F s0).getD default)), [], []⟩)
  | _, _ => none⟩
theorem k14_fok : FunOK Tryz.prog 81 := funOK Tryz.func81 (by kernel_rfl) rfl
theorem k14_meets (F : Nat) : Meets Tryz.prog 81 (k14_ent F) := by
  refine u002 mixed ttok deep (k14_tabok F) Tryz.func81 (u009 rfl) (k14_lsok1 F) fun args mem hfit ret h => ?_
  clear hfit
  simp only [k14_ent] at h
  split at h
  · rename_i s0
    simp only [Option.some.injEq, Prod.mk.injEq] at h
    obtain ⟨hc, rfl⟩ := h
    exact ⟨[], [], 70, _, (k14_run F s0).trans ((k14_cp _ F s0 _).trans (u014 hc _)), rfl, rfl, rfl⟩
  · cases h
noncomputable def k9_tab (F : Nat) : Tab := [(81, (k14_ent F))]
theorem k9_tabok (F : Nat) : TabOK Tryz.prog (k9_tab F) := (u001 (k14_meets F) k14_fok u015)
noncomputable def k9_LS0 (F : Nat) : LT := []
theorem k9_lsok0 (F : Nat) : u011 Tryz.prog (k9_LS0 F) (u000 Tryz.f58) := u005
theorem k9_run (F : Nat) (s0 : List (List Int)) : runS tt (k9_tab F) (k9_LS0 F) [] [] Tryz.f58 (u000 Tryz.f58) 70 [(.rr 4 s0), (.fn 59 [] [])] [] = k9_c _ F s0 (fun r => some ⟨(.bool r), [], []⟩) := by kernel_rfl
def k9_ent (F : Nat) : Ent := ⟨[], .quiet, fun args mem => match args, mem with
  | [(.rr 4 s0), (.fn 59 [] [])], [] => some ((k9_p F s0).isSome, ⟨(.bool ((k9_p F s0).getD default)), [], []⟩)
  | _, _ => none⟩
theorem k9_fok : FunOK Tryz.prog 58 := funOK Tryz.func58 (by kernel_rfl) rfl
theorem k9_meets (F : Nat) : Meets Tryz.prog 58 (k9_ent F) := by
  refine u002 mixed ttok deep (k9_tabok F) Tryz.func58 (u009 rfl) (k9_lsok0 F) fun args mem hfit ret h => ?_
  clear hfit
  simp only [k9_ent] at h
  split at h
  · rename_i s0
    simp only [Option.some.injEq, Prod.mk.injEq] at h
    obtain ⟨hc, rfl⟩ := h
    exact ⟨[], [], 70, _, (k9_run F s0).trans ((k9_cp _ F s0 _).trans (u014 hc _)), rfl, rfl, rfl⟩
  · cases h
noncomputable def k96_tab (F : Nat) : Tab := [(58, (k9_ent F))]
theorem k96_tabok (F : Nat) : TabOK Tryz.prog (k96_tab F) := (u001 (k9_meets F) k9_fok u015)
noncomputable def k96_LS0 (F : Nat) : LT := []
theorem k96_lsok0 (F : Nat) : u011 Tryz.prog (k96_LS0 F) (u000 Tryz.f29) := u005
theorem k96_run (F : Nat) (b0 : List Int) : runS tt (k96_tab F) (k96_LS0 F) [] [] Tryz.f29 (u000 Tryz.f29) 70 [(.ints 16 b0)] [] = k96_c _ F b0 (fun r => some ⟨(.bool r), [], []⟩) := by kernel_rfl
def k96_ent (F : Nat) : Ent := ⟨[], .quiet, fun args mem => match args, mem with
  | [(.ints 16 b0)], [] => some ((k96_p F b0).isSome, ⟨(.bool ((k96_p F b0).getD default)), [], []⟩)
  | _, _ => none⟩
theorem k96_fok : FunOK Tryz.prog 29 := funOK Tryz.func29 (by kernel_rfl) rfl
theorem k96_meets (F : Nat) : Meets Tryz.prog 29 (k96_ent F) := by
  refine u002 mixed ttok deep (k96_tabok F) Tryz.func29 (u009 rfl) (k96_lsok0 F) fun args mem hfit ret h => ?_
  clear hfit
  simp only [k96_ent] at h
  split at h
  · rename_i b0
    simp only [Option.some.injEq, Prod.mk.injEq] at h
    obtain ⟨hc, rfl⟩ := h
    exact ⟨[], [], 70, _, (k96_run F b0).trans ((k96_cp _ F b0 _).trans (u014 hc _)), rfl, rfl, rfl⟩
  · cases h
noncomputable def k50_tab (F : Nat) : Tab := [(51, (k132_ent F))]
theorem k50_tabok (F : Nat) : TabOK Tryz.prog (k50_tab F) := (u001 (k132_meets F) k132_fok u015)
noncomputable def k50_LS0 (F : Nat) : LT := []
theorem k50_lsok0 (F : Nat) : u011 Tryz.prog (k50_LS0 F) (u000 Tryz.f30) := u005
theorem k50_run (F : Nat) (d0 : Int) : runS tt (k50_tab F) (k50_LS0 F) [] [] Tryz.f30 (u000 Tryz.f30) 70 [(.int .i64 d0)] [] = k50_c _ d0 (fun r => some ⟨(.bool r), [], []⟩) := by kernel_rfl
def k50_ent (F : Nat) : Ent := ⟨[], .quiet, fun args mem => match args, mem with
  | [(.int .i64 d0)], [] => some (true, ⟨(.bool (k50_v d0)), [], []⟩)
  | _, _ => none⟩
theorem k50_fok : FunOK Tryz.prog 30 := funOK Tryz.func30 (by kernel_rfl) rfl
theorem k50_meets (F : Nat) : Meets Tryz.prog 30 (k50_ent F) := by
  refine u002 mixed ttok deep (k50_tabok F) Tryz.func30 (u009 rfl) (k50_lsok0 F) fun args mem hfit ret h => ?_
  clear hfit
  simp only [k50_ent] at h
  split at h
  · rename_i d0
    simp only [Option.some.injEq, Prod.mk.injEq] at h
    obtain ⟨hc, rfl⟩ := h
    exact ⟨[], [], 70, _, (k50_run F d0).trans (k50_cv _ d0 _), rfl, rfl, rfl⟩
  · cases h
noncomputable def k82_tab (F : Nat) : Tab := []
theorem k82_tabok (F : Nat) : TabOK Tryz.prog (k82_tab F) := u015
noncomputable def k82_LS0 (F : Nat) : LT := []
theorem k82_lsok0 (F : Nat) : u011 Tryz.prog (k82_LS0 F) (u000 Tryz.f64) := u005
theorem k82_run (F : Nat) (j4 : Int) (i1 : Int) (k2 : Int) : runS tt (k82_tab F) (k82_LS0 F) [] [] Tryz.f64 (u000 Tryz.f64) 70 [(.int .i64 j4), (.int .i64 i1), (.int .i64 k2)] [] = k82_c _ j4 i1 k2 (fun r => some ⟨(.ints 2 r), [], []⟩) := by kernel_rfl
def k82_ent (F : Nat) : Ent := ⟨[], .quiet, fun args mem => match args, mem with
  | [(.int .i64 j4), (.int .i64 i1), (.int .i64 k2)], [] => some (true, ⟨(.ints 2 (k82_v j4 i1 k2)), [], []⟩)
  | _, _ => none⟩
theorem k82_fok : FunOK Tryz.prog 64 := funOK Tryz.func64 (by kernel_rfl) rfl
theorem k82_meets (F : Nat) : Meets Tryz.prog 64 (k82_ent F) := by
  refine u002 mixed ttok deep (k82_tabok F) Tryz.func64 (u009 rfl) (k82_lsok0 F) fun args mem hfit ret h => ?_
  clear hfit
  simp only [k82_ent] at h
  split at h
  · rename_i j4 i1 k2
    simp only [Option.some.injEq, Prod.mk.injEq] at h
    obtain ⟨hc, rfl⟩ := h
    exact ⟨[], [], 70, _, (k82_run F j4 i1 k2).trans (k82_cv _ j4 i1 k2 _), rfl, rfl, rfl⟩
  · cases h
noncomputable def k78_tab (F : Nat) : Tab := []
theorem k78_tabok (F : Nat) : TabOK Tryz.prog (k78_tab F) := u015
noncomputable def k78_LS0 (F : Nat) : LT := []
theorem k78_lsok0 (F : Nat) : u011 Tryz.prog (k78_LS0 F) (u000 Tryz.f50) := u005
theorem k78_run (F : Nat) (vx : List Int) (b4 : List Int) : runS tt (k78_tab F) (k78_LS0 F) [] [] Tryz.f50 (u000 Tryz.f50) 70 [(.ptr 0 0 0 16), (.ints 2 vx)] [(.var 16 (.ri .i64 b4))] = k78_c _ vx b4 (fun r => some ⟨(.ptr 0 0 r 1), [(.var 16 (.ri .i64 b4))], []⟩) := by kernel_rfl
def k78_ent (F : Nat) : Ent := ⟨[], .quiet, fun args mem => match args, mem with
  | [(.ptr 0 0 0 16), (.ints 2 vx)], [(.var 16 (.ri .i64 b4))] => some ((k78_p vx b4).isSome, ⟨(.ptr 0 0 ((k78_p vx b4).getD default) 1), [], []⟩)
  | _, _ => none⟩
theorem k78_fok : FunOK Tryz.prog 50 := funOK Tryz.func50 (by kernel_rfl) rfl
theorem k78_meets (F : Nat) : Meets Tryz.prog 50 (k78_ent F) := by
  refine u002 mixed ttok deep (k78_tabok F) Tryz.func50 (u009 rfl) (k78_lsok0 F) fun args mem hfit ret h => ?_
  clear hfit
  simp only [k78_ent] at h
  split at h
  · rename_i vx b4
    simp only [Option.some.injEq, Prod.mk.injEq] at h
    obtain ⟨hc, rfl⟩ := h
    exact ⟨[], [], 70, _, (k78_run F vx b4).trans ((k78_cp _ vx b4 _).trans (u014 hc _)), rfl, rfl, rfl⟩
  · cases h
noncomputable def k56_tab (F : Nat) : Tab := [(64, (k82_ent F)), (50, (k78_ent F))]
theorem k56_tabok (F : Nat) : TabOK Tryz.prog (k56_tab F) := (u001 (k82_meets F) k82_fok (u001 (k78_meets F) k78_fok u015))
noncomputable def k56_LS0 (F : Nat) : LT := []
theorem k56_lsok0 (F : Nat) : u011 Tryz.prog (k56_LS0 F) (u000 Tryz.f63) := u005
theorem k56_run (F : Nat) (b0 : List Int) (j1 : Int) (i2 : Int) : runS tt (k56_tab F) (k56_LS0 F) [] [] Tryz.f63 (u000 Tryz.f63) 70 [(.ints 16 b0), (.int .i64 j1), (.int .i64 i2)] [] = k56_c _ b0 j1 i2 (fun r => some ⟨(.ints 4 r), [], []⟩) := by kernel_rfl
def k56_ent (F : Nat) : Ent := ⟨[], .quiet, fun args mem => match args, mem with
  | [(.ints 16 b0), (.int .i64 j1), (.int .i64 i2)], [] => some ((k56_p b0 j1 i2).isSome, ⟨(.ints 4 ((k56_p b0 j1 i2).getD default)), [], []⟩)
  | _, _ => none⟩
theorem k56_fok : FunOK Tryz.prog 63 := funOK Tryz.func63 (by kernel_rfl) rfl
theorem k56_meets (F : Nat) : Meets Tryz.prog 63 (k56_ent F) := by
  refine u002 mixed ttok deep (k56_tabok F) Tryz.func63 (u009 rfl) (k56_lsok0 F) fun args mem hfit ret h => ?_
  clear hfit
  simp only [k56_ent] at h
  split at h
  · rename_i b0 j1 i2
    simp only [Option.some.injEq, Prod.mk.injEq] at h
    obtain ⟨hc, rfl⟩ := h
    exact ⟨[], [], 70, _, (k56_run F b0 j1 i2).trans ((k56_cp _ b0 j1 i2 _).trans (u014 hc _)), rfl, rfl, rfl⟩
  · cases h
def u025 (F : Nat) : Ent := ⟨[], .fresh, fun args mem => match args, mem with
  | [(.ri .i64 xs)], [] => some (fits xs.length 8, ⟨.sl 0 0 xs.length, [.vec 3 (.ri .i64 xs)], []⟩)
  | _, _ => none⟩
theorem u027 : FunOK Tryz.prog 102 := funOK Tryz.func102 (by kernel_rfl) rfl
theorem u023 (F : Nat) : Meets Tryz.prog 102 (u025 F) := by
  have hb : Tryz.f102.body = some (.seq _ (.seq (.seq (.region _ #[_, _] false) _) _)) := rfl
  refine meets_nil (fuel := 70) (fn := Tryz.f102) mixed ttok deep u015 Tryz.func102 hb u005 rfl rfl rfl rfl rfl rfl Tryz.underlying35 fun args mem hfit ret hg => ?_
  clear hfit
  simp only [u025] at hg
  split at hg
  · rename_i xs
    simp only [Option.some.injEq, Prod.mk.injEq] at hg
    obtain ⟨hc, rfl⟩ := hg
    refine ⟨⟨[(.ri .i64 xs), .undef, .z0, .undef, .undef, .undef, .undef, .undef], [], 0, []⟩, fun R k => by kernel_rfl, rfl, Nat.le_of_ble_eq_true rfl, fun b hb => ?_⟩
    cases b with
    | true =>
      obtain rfl : xs = [] := List.eq_nil_of_length_eq_zero (hb rfl)
      exact ⟨[⟨2, 3, (.ri .i64 [])⟩], [], _, (by kernel_rfl : _ = some ⟨.sl 0 0 0, [.vec 3 (.ri .i64 [])], []⟩), rfl, rfl, rfl⟩
    | false =>
      refine ⟨[], [], ⟨.sl 0 0 xs.length, [.vec 3 (.ri .i64 xs)], []⟩, Eq.trans (by kernel_rfl : _ = bif fits xs.length 8 then some (⟨.sl 0 0 xs.length, [.vec 3 (.ri .i64 xs)], []⟩ : Ret) else none) ?_, rfl, rfl, rfl⟩
      rw [hc]; rfl
  · cases hg
noncomputable def k84_tab (F : Nat) : Tab := []
theorem k84_tabok (F : Nat) : TabOK Tryz.prog (k84_tab F) := u015
noncomputable def k84_LS0 (F : Nat) : LT := []
theorem k84_lsok0 (F : Nat) : u011 Tryz.prog (k84_LS0 F) (u000 Tryz.f104) := u005
theorem k84_run (F : Nat) (n0 : Int) : runS tt (k84_tab F) (k84_LS0 F) [] [] Tryz.f104 (u000 Tryz.f104) 70 [(.int .i64 n0)] [] = k84_c _ n0 (fun r => some ⟨(.bool r), [], []⟩) := by kernel_rfl
def k84_ent (F : Nat) : Ent := ⟨[], .quiet, fun args mem => match args, mem with
  | [(.int .i64 n0)], [] => some (true, ⟨(.bool (k84_v n0)), [], []⟩)
  | _, _ => none⟩
theorem k84_fok : FunOK Tryz.prog 104 := funOK Tryz.func104 (by kernel_rfl) rfl
theorem k84_meets (F : Nat) : Meets Tryz.prog 104 (k84_ent F) := by
  refine u002 mixed ttok deep (k84_tabok F) Tryz.func104 (u009 rfl) (k84_lsok0 F) fun args mem hfit ret h => ?_
  clear hfit
  simp only [k84_ent] at h
  split at h
  · rename_i n0
    simp only [Option.some.injEq, Prod.mk.injEq] at h
    obtain ⟨hc, rfl⟩ := h
    exact ⟨[], [], 70, _, (k84_run F n0).trans (k84_cv _ n0 _), rfl, rfl, rfl⟩
  · cases h
noncomputable def k18_tab (F : Nat) : Tab := [(104, (k84_ent F))]
theorem k18_tabok (F : Nat) : TabOK Tryz.prog (k18_tab F) := (u001 (k84_meets F) k84_fok u015)
noncomputable def k18_LS0 (F : Nat) : LT := []
theorem k18_lsok0 (F : Nat) : u011 Tryz.prog (k18_LS0 F) (u000 Tryz.f100) := u005
theorem k18_keys : u059 (u000 Tryz.f100) = true := by kernel_rfl
def k18_st2 (s0 : List Int) (t71 : Int) (t82 : Int) : St := ⟨u018 19 0 [0, 1, 7, 8] [(.ri .i64 s0), (.fn 104 [] []), (.int .i64 t71), (.int .i64 t82)], [], 0, []⟩
def k18_o2 (s0 : List Int) (t71 : Int) (x : Bool × Int) : GT := (.br x.1 (.out (.ret ⟨u018 19 0 [4] [(.int .i64 x.2)], [], 0, []⟩)) (.out (.exit 0 ⟨u018 19 0 [] [], [], 0, []⟩)))
def k18_ls2 (F : Nat) : LoopS := ⟨19, [0, 1, 7, 8], [], [], [], [4], [], [], fun vals mem np killed => match vals, mem, np, killed with
  | [(.ri .i64 s0), (.fn 104 [] []), (.int .i64 t71), (.int .i64 t82)], [], 0, [] => .br (k18_l2 F s0 t71 t82).isSome (k18_o2 s0 t71 ((k18_l2 F s0 t71 t82).getD default)) .fail
  | _, _, _, _ => .fail⟩
theorem k18_step2 (F : Nat) (s0 : List Int) (t71 : Int) (t82 : Int) {R : Type} (k : Out → Option R) : stepS tt (k18_tab F) (k18_LS0 F) 70 (k18_ls2 F) (u010 2 (u000 Tryz.f100)) (k18_st2 s0 t71 t82) k = k18_s2 F s0 t71 R t82 (fun s => k (.norm (k18_st2 s0 t71 s))) (fun x => (k18_o2 s0 t71 x).run k) := by kernel_rfl
theorem k18_iter2 (F : Nat) (s0 : List Int) (t71 : Int) {R : Type} (k : Out → Option R) : ∀ (n : Nat) (t82 : Int), iterS tt (k18_tab F) (k18_LS0 F) 70 (k18_ls2 F) (u010 2 (u000 Tryz.f100)) n (k18_st2 s0 t71 t82) k = loopC (k18_s2 F s0 t71) n t82 (fun x => (k18_o2 s0 t71 x).run k)
  | 0, t82 => rfl
  | n + 1, t82 => (u017 tt (k18_tab F) (k18_LS0 F) 70 (k18_ls2 F) (u010 2 (u000 Tryz.f100)) n (k18_st2 s0 t71 t82) k).trans ((k18_step2 F s0 t71 t82 (nextK (iterS tt (k18_tab F) (k18_LS0 F) 70 (k18_ls2 F) (u010 2 (u000 Tryz.f100)) n) k)).trans (congrArg (fun kn => k18_s2 F s0 t71 R t82 kn _) (funext (fun t82 => k18_iter2 F s0 t71 k n t82))))
theorem k18_lok2 (F : Nat) : u041 Tryz.prog (u010 2 (u000 Tryz.f100)) (k18_ls2 F) := by
  refine u019 mixed ttok deep (k18_tabok F) (u016 (k18_lsok0 F) 2) (fuel := 70) fun R vals mem np killed k x h => ?_
  simp only [k18_ls2] at h
  split at h
  · rename_i s0 t71 t82
    simp only [GT.run] at h
    have hc := (u007 h).1
    replace h := (u007 h).2
    refine ⟨F, (k18_iter2 F s0 t71 k F t82).trans ((u020 (k18_s2_nat F s0 t71) hc _).trans h)⟩
  · simp only [GT.run] at h
    cases h
noncomputable def k18_LS1 (F : Nat) : LT := (2, k18_ls2 F) :: k18_LS0 F
theorem k18_lsok1 (F : Nat) : u011 Tryz.prog (k18_LS1 F) (u000 Tryz.f100) := u012 k18_keys (k18_lok2 F) (k18_lsok0 F)
theorem k18_run (F : Nat) (s0 : List Int) : runS tt (k18_tab F) (k18_LS1 F) [] [] Tryz.f100 (u000 Tryz.f100) 70 [(.ri .i64 s0), (.fn 104 [] [])] [] = k18_c _ F s0 (fun r => some ⟨(.int .i64 r), [], []⟩) := by kernel_rfl
def k18_ent (F : Nat) : Ent := ⟨[], .quiet, fun args mem => match args, mem with
  | [(.ri .i64 s0), (.fn 104 [] [])], [] => some ((k18_p F s0).isSome, ⟨(.int .i64 ((k18_p F s0).getD default)), [], []⟩)
  | _, _ => none⟩
theorem k18_fok : FunOK Tryz.prog 100 := funOK Tryz.func100 (by kernel_rfl) rfl
theorem k18_meets (F : Nat) : Meets Tryz.prog 100 (k18_ent F) := by
  refine u002 mixed ttok deep (k18_tabok F) Tryz.func100 (u009 rfl) (k18_lsok1 F) fun args mem hfit ret h => ?_
  clear hfit
  simp only [k18_ent] at h
  split at h
  · rename_i s0
    simp only [Option.some.injEq, Prod.mk.injEq] at h
    obtain ⟨hc, rfl⟩ := h
    exact ⟨[], [], 70, _, (k18_run F s0).trans ((k18_cp _ F s0 _).trans (u014 hc _)), rfl, rfl, rfl⟩
  · cases h
end Go.Proofs.YtabfliifleonaakGreat
