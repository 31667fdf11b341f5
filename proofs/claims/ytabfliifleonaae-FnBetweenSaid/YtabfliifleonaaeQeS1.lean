/-
Pure functions and what the code of them does, by program; without conditions.
-/
import Derived.Test.YtabfliifleonaaeQeP1
import Derived.Test.YtabfliifleonaaeQeS0
namespace Go.Proofs.Ytabfliifleonaae
open Go Go.Lv Go.Lv.P Go.Proofs
set_option linter.unusedVariables false
set_option linter.unusedSimpArgs false
set_option maxRecDepth 100000
/-! loop.example/g01194/spec.l2Put -/
noncomputable def spec_l2Put_tab (F : Nat) : Tab := []
theorem spec_l2Put_tabok (F : Nat) : TabOK Try.prog (spec_l2Put_tab F) := tab_nil
noncomputable def spec_l2Put_LS0 (F : Nat) : LT := []
theorem spec_l2Put_lsok0 (F : Nat) : LoopsOK Try.prog (spec_l2Put_LS0 F) (bodyOf Try.f58) := loopsOK_nil
theorem spec_l2Put_run (F : Nat) (b0 : List Int) (cell1 : List Int) (t2 : Int) : runS tt (spec_l2Put_tab F) (spec_l2Put_LS0 F) [] [] Try.f58 (bodyOf Try.f58) 70 [(.ints 16 b0), (.ints 2 cell1), (.int .i64 t2)] [] = spec_l2Put_c _ b0 cell1 t2 (fun r => some ⟨(.ints 16 r), [], []⟩) := by kernel_rfl
def spec_l2Put_ent (F : Nat) : Ent := ⟨[], .quiet, fun args mem => match args, mem with
  | [(.ints 16 b0), (.ints 2 cell1), (.int .i64 t2)], [] => some ((spec_l2Put_p b0 cell1 t2).isSome, ⟨(.ints 16 ((spec_l2Put_p b0 cell1 t2).getD default)), [], []⟩)
  | _, _ => none⟩
theorem spec_l2Put_fok : FunOK Try.prog 58 := funOK Try.func58 (by kernel_rfl) rfl
theorem spec_l2Put_meets (F : Nat) : Meets Try.prog 58 (spec_l2Put_ent F) := by
  refine meets_of_runS mixed ttok deep (spec_l2Put_tabok F) Try.func58 (body_some rfl) (spec_l2Put_lsok0 F) fun args mem hfit ret h => ?_
  clear hfit
  simp only [spec_l2Put_ent] at h
  split at h
  · rename_i b0 cell1 t2
    simp only [Option.some.injEq, Prod.mk.injEq] at h
    obtain ⟨hc, rfl⟩ := h
    exact ⟨[], [], 70, _, (spec_l2Put_run F b0 cell1 t2).trans ((spec_l2Put_cp _ b0 cell1 t2 _).trans (bind_use hc _)), rfl, rfl, rfl⟩
  · cases h

/-! loop.example/g01194/spec.l2Slide -/
noncomputable def spec_l2Slide_tab (F : Nat) : Tab := [(73, (spec_l2Numbers_ent F)), (72, (spec_l2Row_ent F)), (74, (spec_l2Line_ent F)), (58, (spec_l2Put_ent F))]
theorem spec_l2Slide_tabok (F : Nat) : TabOK Try.prog (spec_l2Slide_tab F) := (tab_cons (spec_l2Numbers_meets F) spec_l2Numbers_fok (tab_cons (spec_l2Row_meets F) spec_l2Row_fok (tab_cons (spec_l2Line_meets F) spec_l2Line_fok (tab_cons (spec_l2Put_meets F) spec_l2Put_fok tab_nil))))
noncomputable def spec_l2Slide_LS0 (F : Nat) : LT := []
theorem spec_l2Slide_lsok0 (F : Nat) : LoopsOK Try.prog (spec_l2Slide_LS0 F) (bodyOf Try.f65) := loopsOK_nil
theorem spec_l2Slide_keys : keysOK (bodyOf Try.f65) = true := by kernel_rfl
def spec_l2Slide_st3 (d0 : Int) (b12 : List Int) (sum10 : Int) (i11 : Int) (out14 : List Int) : St := ⟨expand 46 0 [1, 2, 4, 6, 7, 8] [(.int .i64 d0), (.ptr 0 0 0 16), (.ptr 1 0 0 16), (.ptr 2 0 0 16), (.int .i64 sum10), (.int .i64 i11)], [(.var 16 (.ri .i64 b12)), (.var 16 (.ri .i64 [(0 : Int), (0 : Int), (0 : Int), (0 : Int), (0 : Int), (0 : Int), (0 : Int), (0 : Int), (0 : Int), (0 : Int), (0 : Int), (0 : Int), (0 : Int), (0 : Int), (0 : Int), (0 : Int)])), (.var 16 (.ri .i64 out14))], 0, []⟩
def spec_l2Slide_o3 (d0 : Int) (b12 : List Int) (x : Int × List Int) : GT := (.out (.exit 0 ⟨expand 46 0 [4, 6, 7] [(.ptr 0 0 0 16), (.ptr 1 0 0 16), (.int .i64 x.1)], [(.var 16 (.ri .i64 [(0 : Int), (0 : Int), (0 : Int), (0 : Int), (0 : Int), (0 : Int), (0 : Int), (0 : Int), (0 : Int), (0 : Int), (0 : Int), (0 : Int), (0 : Int), (0 : Int), (0 : Int), (0 : Int)])), (.var 16 (.ri .i64 x.2))], 0, []⟩))
def spec_l2Slide_ls3 (F : Nat) : LoopS := ⟨46, [1, 2, 4, 6, 7, 8], [], [4, 6, 7], [], [4, 5], [], [], fun vals mem np killed => match vals, mem, np, killed with
  | [(.int .i64 d0), (.ptr 0 0 0 16), (.ptr 1 0 0 16), (.ptr 2 0 0 16), (.int .i64 sum10), (.int .i64 i11)], [(.var 16 (.ri .i64 b12)), (.var 16 (.ri .i64 q_t413)), (.var 16 (.ri .i64 out14))], 0, [] => .br ((q_t413 == ([(0 : Int), (0 : Int), (0 : Int), (0 : Int), (0 : Int), (0 : Int), (0 : Int), (0 : Int), (0 : Int), (0 : Int), (0 : Int), (0 : Int), (0 : Int), (0 : Int), (0 : Int), (0 : Int)] : List Int)) && (spec_l2Slide_l3 F d0 b12 sum10 i11 out14).isSome) (spec_l2Slide_o3 d0 b12 ((spec_l2Slide_l3 F d0 b12 sum10 i11 out14).getD default)) .fail
  | _, _, _, _ => .fail⟩
theorem spec_l2Slide_step3 (F : Nat) (d0 : Int) (b12 : List Int) (sum10 : Int) (i11 : Int) (out14 : List Int) {R : Type} (k : Out → Option R) : stepS tt (spec_l2Slide_tab F) (spec_l2Slide_LS0 F) 70 (spec_l2Slide_ls3 F) (loopAt 3 (bodyOf Try.f65)) (spec_l2Slide_st3 d0 b12 sum10 i11 out14) k = spec_l2Slide_s3 F d0 b12 R (sum10, i11, out14) (fun s => k (.norm (spec_l2Slide_st3 d0 b12 s.1 s.2.1 s.2.2))) (fun x => (spec_l2Slide_o3 d0 b12 x).run k) := by kernel_rfl
theorem spec_l2Slide_iter3 (F : Nat) (d0 : Int) (b12 : List Int) {R : Type} (k : Out → Option R) : ∀ (n : Nat) (sum10 : Int) (i11 : Int) (out14 : List Int), iterS tt (spec_l2Slide_tab F) (spec_l2Slide_LS0 F) 70 (spec_l2Slide_ls3 F) (loopAt 3 (bodyOf Try.f65)) n (spec_l2Slide_st3 d0 b12 sum10 i11 out14) k = loopC (spec_l2Slide_s3 F d0 b12) n (sum10, i11, out14) (fun x => (spec_l2Slide_o3 d0 b12 x).run k)
  | 0, sum10, i11, out14 => rfl
  | n + 1, sum10, i11, out14 => (iterS_succ tt (spec_l2Slide_tab F) (spec_l2Slide_LS0 F) 70 (spec_l2Slide_ls3 F) (loopAt 3 (bodyOf Try.f65)) n (spec_l2Slide_st3 d0 b12 sum10 i11 out14) k).trans ((spec_l2Slide_step3 F d0 b12 sum10 i11 out14 (nextK (iterS tt (spec_l2Slide_tab F) (spec_l2Slide_LS0 F) 70 (spec_l2Slide_ls3 F) (loopAt 3 (bodyOf Try.f65)) n) k)).trans (congrArg (fun kn => spec_l2Slide_s3 F d0 b12 R (sum10, i11, out14) kn _) (funext (fun ⟨sum10, i11, out14⟩ => spec_l2Slide_iter3 F d0 b12 k n sum10 i11 out14))))
theorem spec_l2Slide_lok3 (F : Nat) : LoopOK Try.prog (loopAt 3 (bodyOf Try.f65)) (spec_l2Slide_ls3 F) := by
  refine loopOK_of mixed ttok deep (spec_l2Slide_tabok F) (loopsOK_at (spec_l2Slide_lsok0 F) 3) (fuel := 70) fun R vals mem np killed k x h => ?_
  simp only [spec_l2Slide_ls3] at h
  split at h
  · rename_i d0 sum10 i11 b12 q_t413 out14
    simp only [GT.run] at h
    have hc := (cond_noneL h).1
    replace h := (cond_noneL h).2
    have hg := (and_split hc).1
    replace hc := (and_split hc).2
    obtain rfl := beq_li hg
    refine ⟨F, (spec_l2Slide_iter3 F d0 b12 k F sum10 i11 out14).trans ((loopC_use (spec_l2Slide_s3_nat F d0 b12) hc _).trans h)⟩
  · simp only [GT.run] at h
    cases h
noncomputable def spec_l2Slide_LS1 (F : Nat) : LT := (3, spec_l2Slide_ls3 F) :: spec_l2Slide_LS0 F
theorem spec_l2Slide_lsok1 (F : Nat) : LoopsOK Try.prog (spec_l2Slide_LS1 F) (bodyOf Try.f65) := loopsOK_cons spec_l2Slide_keys (spec_l2Slide_lok3 F) (spec_l2Slide_lsok0 F)
theorem spec_l2Slide_run (F : Nat) (b0 : List Int) (d1 : Int) : runS tt (spec_l2Slide_tab F) (spec_l2Slide_LS1 F) [] [] Try.f65 (bodyOf Try.f65) 70 [(.ints 16 b0), (.int .i64 d1)] [] = spec_l2Slide_c _ F b0 d1 (fun r => some ⟨(.tup [(.ints 16 r.1), (.int .i64 r.2)]), [], []⟩) := by kernel_rfl
def spec_l2Slide_ent (F : Nat) : Ent := ⟨[], .quiet, fun args mem => match args, mem with
  | [(.ints 16 b0), (.int .i64 d1)], [] => some ((spec_l2Slide_p F b0 d1).isSome, ⟨(.tup [(.ints 16 ((spec_l2Slide_p F b0 d1).getD default).1), (.int .i64 ((spec_l2Slide_p F b0 d1).getD default).2)]), [], []⟩)
  | _, _ => none⟩
theorem spec_l2Slide_fok : FunOK Try.prog 65 := funOK Try.func65 (by kernel_rfl) rfl
theorem spec_l2Slide_meets (F : Nat) : Meets Try.prog 65 (spec_l2Slide_ent F) := by
  refine meets_of_runS mixed ttok deep (spec_l2Slide_tabok F) Try.func65 (body_some rfl) (spec_l2Slide_lsok1 F) fun args mem hfit ret h => ?_
  clear hfit
  simp only [spec_l2Slide_ent] at h
  split at h
  · rename_i b0 d1
    simp only [Option.some.injEq, Prod.mk.injEq] at h
    obtain ⟨hc, rfl⟩ := h
    exact ⟨[], [], 70, _, (spec_l2Slide_run F b0 d1).trans ((spec_l2Slide_cp _ F b0 d1 _).trans (bind_use hc _)), rfl, rfl, rfl⟩
  · cases h

/-! loop.example/g01194/spec.l2Empty -/
noncomputable def spec_l2Empty_tab (F : Nat) : Tab := []
theorem spec_l2Empty_tabok (F : Nat) : TabOK Try.prog (spec_l2Empty_tab F) := tab_nil
noncomputable def spec_l2Empty_LS0 (F : Nat) : LT := []
theorem spec_l2Empty_lsok0 (F : Nat) : LoopsOK Try.prog (spec_l2Empty_LS0 F) (bodyOf Try.f75) := loopsOK_nil
theorem spec_l2Empty_keys : keysOK (bodyOf Try.f75) = true := by kernel_rfl
def spec_l2Empty_st6 (r5 : Int) (b7 : List Int) (c6 : Int) (out8 : List (List Int)) : St := ⟨expand 29 0 [1, 3, 4, 5] [(.ptr 0 0 0 16), (.sl 1 0 (List.length out8)), (.int .i64 r5), (.int .i64 c6)], [(.var 16 (.ri .i64 b7)), (.vec 51 (.rr 2 out8))], 0, []⟩
def spec_l2Empty_o6 (r5 : Int) (b7 : List Int) (x : List (List Int)) : GT := (.out (.exit 2 ⟨expand 29 0 [1, 3, 4] [(.ptr 0 0 0 16), (.sl 1 0 (List.length x)), (.int .i64 r5)], [(.var 16 (.ri .i64 b7)), (.vec 51 (.rr 2 x))], 0, []⟩))
def spec_l2Empty_ls6 (F : Nat) : LoopS := ⟨29, [1, 3, 4, 5], [], [1, 3, 4], [], [2], [], [], fun vals mem np killed => match vals, mem, np, killed with
  | [(.ptr 0 0 0 16), (.sl 1 0 q_out4), (.int .i64 r5), (.int .i64 c6)], [(.var 16 (.ri .i64 b7)), (.vec 51 (.rr 2 out8))], 0, [] => .br ((Nat.beq q_out4 (List.length out8)) && (spec_l2Empty_l6 F r5 b7 c6 out8).isSome) (spec_l2Empty_o6 r5 b7 ((spec_l2Empty_l6 F r5 b7 c6 out8).getD default)) .fail
  | _, _, _, _ => .fail⟩
theorem spec_l2Empty_step6 (F : Nat) (r5 : Int) (b7 : List Int) (c6 : Int) (out8 : List (List Int)) {R : Type} (k : Out → Option R) : stepS tt (spec_l2Empty_tab F) (spec_l2Empty_LS0 F) 70 (spec_l2Empty_ls6 F) (loopAt 6 (bodyOf Try.f75)) (spec_l2Empty_st6 r5 b7 c6 out8) k = spec_l2Empty_s6 F r5 b7 R (c6, out8) (fun s => k (.norm (spec_l2Empty_st6 r5 b7 s.1 s.2))) (fun x => (spec_l2Empty_o6 r5 b7 x).run k) := by kernel_rfl
theorem spec_l2Empty_iter6 (F : Nat) (r5 : Int) (b7 : List Int) {R : Type} (k : Out → Option R) : ∀ (n : Nat) (c6 : Int) (out8 : List (List Int)), iterS tt (spec_l2Empty_tab F) (spec_l2Empty_LS0 F) 70 (spec_l2Empty_ls6 F) (loopAt 6 (bodyOf Try.f75)) n (spec_l2Empty_st6 r5 b7 c6 out8) k = loopC (spec_l2Empty_s6 F r5 b7) n (c6, out8) (fun x => (spec_l2Empty_o6 r5 b7 x).run k)
  | 0, c6, out8 => rfl
  | n + 1, c6, out8 => (iterS_succ tt (spec_l2Empty_tab F) (spec_l2Empty_LS0 F) 70 (spec_l2Empty_ls6 F) (loopAt 6 (bodyOf Try.f75)) n (spec_l2Empty_st6 r5 b7 c6 out8) k).trans ((spec_l2Empty_step6 F r5 b7 c6 out8 (nextK (iterS tt (spec_l2Empty_tab F) (spec_l2Empty_LS0 F) 70 (spec_l2Empty_ls6 F) (loopAt 6 (bodyOf Try.f75)) n) k)).trans (congrArg (fun kn => spec_l2Empty_s6 F r5 b7 R (c6, out8) kn _) (funext (fun ⟨c6, out8⟩ => spec_l2Empty_iter6 F r5 b7 k n c6 out8))))
theorem spec_l2Empty_lok6 (F : Nat) : LoopOK Try.prog (loopAt 6 (bodyOf Try.f75)) (spec_l2Empty_ls6 F) := by
  refine loopOK_of mixed ttok deep (spec_l2Empty_tabok F) (loopsOK_at (spec_l2Empty_lsok0 F) 6) (fuel := 70) fun R vals mem np killed k x h => ?_
  simp only [spec_l2Empty_ls6] at h
  split at h
  · rename_i q_out4 r5 c6 b7 out8
    simp only [GT.run] at h
    have hc := (cond_noneL h).1
    replace h := (cond_noneL h).2
    have hg := (and_split hc).1
    replace hc := (and_split hc).2
    obtain rfl := nbeq_nat hg
    refine ⟨F, (spec_l2Empty_iter6 F r5 b7 k F c6 out8).trans ((loopC_use (spec_l2Empty_s6_nat F r5 b7) hc _).trans h)⟩
  · simp only [GT.run] at h
    cases h
noncomputable def spec_l2Empty_LS1 (F : Nat) : LT := (6, spec_l2Empty_ls6 F) :: spec_l2Empty_LS0 F
theorem spec_l2Empty_lsok1 (F : Nat) : LoopsOK Try.prog (spec_l2Empty_LS1 F) (bodyOf Try.f75) := loopsOK_cons spec_l2Empty_keys (spec_l2Empty_lok6 F) (spec_l2Empty_lsok0 F)
def spec_l2Empty_st3 (b6 : List Int) (r5 : Int) (out7 : List (List Int)) : St := ⟨expand 29 0 [1, 3, 4] [(.ptr 0 0 0 16), (.sl 1 0 (List.length out7)), (.int .i64 r5)], [(.var 16 (.ri .i64 b6)), (.vec 51 (.rr 2 out7))], 0, []⟩
def spec_l2Empty_o3 (b6 : List Int) (x : List (List Int)) : GT := (.out (.exit 0 ⟨expand 29 0 [3] [(.sl 0 0 (List.length x))], [(.vec 51 (.rr 2 x))], 0, []⟩))
def spec_l2Empty_ls3 (F : Nat) : LoopS := ⟨29, [1, 3, 4], [], [3], [], [2], [], [], fun vals mem np killed => match vals, mem, np, killed with
  | [(.ptr 0 0 0 16), (.sl 1 0 q_out4), (.int .i64 r5)], [(.var 16 (.ri .i64 b6)), (.vec 51 (.rr 2 out7))], 0, [] => .br ((Nat.beq q_out4 (List.length out7)) && (spec_l2Empty_l3 F b6 r5 out7).isSome) (spec_l2Empty_o3 b6 ((spec_l2Empty_l3 F b6 r5 out7).getD default)) .fail
  | _, _, _, _ => .fail⟩
theorem spec_l2Empty_step3 (F : Nat) (b6 : List Int) (r5 : Int) (out7 : List (List Int)) {R : Type} (k : Out → Option R) : stepS tt (spec_l2Empty_tab F) (spec_l2Empty_LS1 F) 70 (spec_l2Empty_ls3 F) (loopAt 3 (bodyOf Try.f75)) (spec_l2Empty_st3 b6 r5 out7) k = spec_l2Empty_s3 F b6 R (r5, out7) (fun s => k (.norm (spec_l2Empty_st3 b6 s.1 s.2))) (fun x => (spec_l2Empty_o3 b6 x).run k) := by kernel_rfl
theorem spec_l2Empty_iter3 (F : Nat) (b6 : List Int) {R : Type} (k : Out → Option R) : ∀ (n : Nat) (r5 : Int) (out7 : List (List Int)), iterS tt (spec_l2Empty_tab F) (spec_l2Empty_LS1 F) 70 (spec_l2Empty_ls3 F) (loopAt 3 (bodyOf Try.f75)) n (spec_l2Empty_st3 b6 r5 out7) k = loopC (spec_l2Empty_s3 F b6) n (r5, out7) (fun x => (spec_l2Empty_o3 b6 x).run k)
  | 0, r5, out7 => rfl
  | n + 1, r5, out7 => (iterS_succ tt (spec_l2Empty_tab F) (spec_l2Empty_LS1 F) 70 (spec_l2Empty_ls3 F) (loopAt 3 (bodyOf Try.f75)) n (spec_l2Empty_st3 b6 r5 out7) k).trans ((spec_l2Empty_step3 F b6 r5 out7 (nextK (iterS tt (spec_l2Empty_tab F) (spec_l2Empty_LS1 F) 70 (spec_l2Empty_ls3 F) (loopAt 3 (bodyOf Try.f75)) n) k)).trans (congrArg (fun kn => spec_l2Empty_s3 F b6 R (r5, out7) kn _) (funext (fun ⟨r5, out7⟩ => spec_l2Empty_iter3 F b6 k n r5 out7))))
theorem spec_l2Empty_lok3 (F : Nat) : LoopOK Try.prog (loopAt 3 (bodyOf Try.f75)) (spec_l2Empty_ls3 F) := by
  refine loopOK_of mixed ttok deep (spec_l2Empty_tabok F) (loopsOK_at (spec_l2Empty_lsok1 F) 3) (fuel := 70) fun R vals mem np killed k x h => ?_
  simp only [spec_l2Empty_ls3] at h
  split at h
  · rename_i q_out4 r5 b6 out7
    simp only [GT.run] at h
    have hc := (cond_noneL h).1
    replace h := (cond_noneL h).2
    have hg := (and_split hc).1
    replace hc := (and_split hc).2
    obtain rfl := nbeq_nat hg
    refine ⟨F, (spec_l2Empty_iter3 F b6 k F r5 out7).trans ((loopC_use (spec_l2Empty_s3_nat F b6) hc _).trans h)⟩
  · simp only [GT.run] at h
    cases h
noncomputable def spec_l2Empty_LS2 (F : Nat) : LT := (3, spec_l2Empty_ls3 F) :: spec_l2Empty_LS1 F
theorem spec_l2Empty_lsok2 (F : Nat) : LoopsOK Try.prog (spec_l2Empty_LS2 F) (bodyOf Try.f75) := loopsOK_cons spec_l2Empty_keys (spec_l2Empty_lok3 F) (spec_l2Empty_lsok1 F)
theorem spec_l2Empty_run (F : Nat) (b0 : List Int) : runS tt (spec_l2Empty_tab F) (spec_l2Empty_LS2 F) [] [] Try.f75 (bodyOf Try.f75) 70 [(.ints 16 b0)] [] = spec_l2Empty_c _ F b0 (fun r => some ⟨(.sl 0 0 (List.length r)), [(.vec 51 (.rr 2 r))], []⟩) := by kernel_rfl
def spec_l2Empty_ent (F : Nat) : Ent := ⟨[], .fresh, fun args mem => match args, mem with
  | [(.ints 16 b0)], [] => some ((spec_l2Empty_p F b0).isSome, ⟨(.sl 0 0 (List.length ((spec_l2Empty_p F b0).getD default))), [(.vec 51 (.rr 2 ((spec_l2Empty_p F b0).getD default)))], []⟩)
  | _, _ => none⟩
theorem spec_l2Empty_fok : FunOK Try.prog 75 := funOK Try.func75 (by kernel_rfl) rfl
theorem spec_l2Empty_meets (F : Nat) : Meets Try.prog 75 (spec_l2Empty_ent F) := by
  refine meets_of_runS mixed ttok deep (spec_l2Empty_tabok F) Try.func75 (body_some rfl) (spec_l2Empty_lsok2 F) fun args mem hfit ret h => ?_
  clear hfit
  simp only [spec_l2Empty_ent] at h
  split at h
  · rename_i b0
    simp only [Option.some.injEq, Prod.mk.injEq] at h
    obtain ⟨hc, rfl⟩ := h
    exact ⟨[], [], 70, _, (spec_l2Empty_run F b0).trans ((spec_l2Empty_cp _ F b0 _).trans (bind_use hc _)), rfl, rfl, rfl⟩
  · cases h

/-! loop.example/g01194/spec.l5Steps -/
noncomputable def spec_l5Steps_tab (F : Nat) : Tab := [(65, (spec_l2Slide_ent F)), (75, (spec_l2Empty_ent F))]
theorem spec_l5Steps_tabok (F : Nat) : TabOK Try.prog (spec_l5Steps_tab F) := (tab_cons (spec_l2Slide_meets F) spec_l2Slide_fok (tab_cons (spec_l2Empty_meets F) spec_l2Empty_fok tab_nil))
noncomputable def spec_l5Steps_LS0 (F : Nat) : LT := []
theorem spec_l5Steps_lsok0 (F : Nat) : LoopsOK Try.prog (spec_l5Steps_LS0 F) (bodyOf Try.f67) := loopsOK_nil
theorem spec_l5Steps_keys : keysOK (bodyOf Try.f67) = true := by kernel_rfl
def spec_l5Steps_st7 (d0 : Int) (empty7 : List (List Int)) (i5 : Int) (out6 : List (List Int)) : St := ⟨expand 45 0 [1, 5, 8, 9] [(.int .i64 d0), (.sl 0 0 (List.length out6)), (.sl 1 0 (List.length empty7)), (.int .i64 i5)], [(.vec 53 (.rr 4 out6)), (.vec 51 (.rr 2 empty7))], 0, []⟩
def spec_l5Steps_o7 (d0 : Int) (empty7 : List (List Int)) (x : List (List Int)) : GT := (.out (.exit 0 ⟨expand 45 0 [5] [(.sl 0 0 (List.length x))], [(.vec 53 (.rr 4 x))], 0, []⟩))
def spec_l5Steps_ls7 (F : Nat) : LoopS := ⟨45, [1, 5, 8, 9], [], [5], [], [4], [], [], fun vals mem np killed => match vals, mem, np, killed with
  | [(.int .i64 d0), (.sl 0 0 q_out2), (.sl 1 0 q_empty4), (.int .i64 i5)], [(.vec 53 (.rr 4 out6)), (.vec 51 (.rr 2 empty7))], 0, [] => .br ((Nat.beq q_out2 (List.length out6)) && ((Nat.beq q_empty4 (List.length empty7)) && (spec_l5Steps_l7 F d0 empty7 i5 out6).isSome)) (spec_l5Steps_o7 d0 empty7 ((spec_l5Steps_l7 F d0 empty7 i5 out6).getD default)) .fail
  | _, _, _, _ => .fail⟩
theorem spec_l5Steps_step7 (F : Nat) (d0 : Int) (empty7 : List (List Int)) (i5 : Int) (out6 : List (List Int)) {R : Type} (k : Out → Option R) : stepS tt (spec_l5Steps_tab F) (spec_l5Steps_LS0 F) 70 (spec_l5Steps_ls7 F) (loopAt 7 (bodyOf Try.f67)) (spec_l5Steps_st7 d0 empty7 i5 out6) k = spec_l5Steps_s7 F d0 empty7 R (i5, out6) (fun s => k (.norm (spec_l5Steps_st7 d0 empty7 s.1 s.2))) (fun x => (spec_l5Steps_o7 d0 empty7 x).run k) := by kernel_rfl
theorem spec_l5Steps_iter7 (F : Nat) (d0 : Int) (empty7 : List (List Int)) {R : Type} (k : Out → Option R) : ∀ (n : Nat) (i5 : Int) (out6 : List (List Int)), iterS tt (spec_l5Steps_tab F) (spec_l5Steps_LS0 F) 70 (spec_l5Steps_ls7 F) (loopAt 7 (bodyOf Try.f67)) n (spec_l5Steps_st7 d0 empty7 i5 out6) k = loopC (spec_l5Steps_s7 F d0 empty7) n (i5, out6) (fun x => (spec_l5Steps_o7 d0 empty7 x).run k)
  | 0, i5, out6 => rfl
  | n + 1, i5, out6 => (iterS_succ tt (spec_l5Steps_tab F) (spec_l5Steps_LS0 F) 70 (spec_l5Steps_ls7 F) (loopAt 7 (bodyOf Try.f67)) n (spec_l5Steps_st7 d0 empty7 i5 out6) k).trans ((spec_l5Steps_step7 F d0 empty7 i5 out6 (nextK (iterS tt (spec_l5Steps_tab F) (spec_l5Steps_LS0 F) 70 (spec_l5Steps_ls7 F) (loopAt 7 (bodyOf Try.f67)) n) k)).trans (congrArg (fun kn => spec_l5Steps_s7 F d0 empty7 R (i5, out6) kn _) (funext (fun ⟨i5, out6⟩ => spec_l5Steps_iter7 F d0 empty7 k n i5 out6))))
theorem spec_l5Steps_lok7 (F : Nat) : LoopOK Try.prog (loopAt 7 (bodyOf Try.f67)) (spec_l5Steps_ls7 F) := by
  refine loopOK_of mixed ttok deep (spec_l5Steps_tabok F) (loopsOK_at (spec_l5Steps_lsok0 F) 7) (fuel := 70) fun R vals mem np killed k x h => ?_
  simp only [spec_l5Steps_ls7] at h
  split at h
  · rename_i d0 q_out2 q_empty4 i5 out6 empty7
    simp only [GT.run] at h
    have hc := (cond_noneL h).1
    replace h := (cond_noneL h).2
    have hg := (and_split hc).1
    replace hc := (and_split hc).2
    obtain rfl := nbeq_nat hg
    have hg := (and_split hc).1
    replace hc := (and_split hc).2
    obtain rfl := nbeq_nat hg
    refine ⟨F, (spec_l5Steps_iter7 F d0 empty7 k F i5 out6).trans ((loopC_use (spec_l5Steps_s7_nat F d0 empty7) hc _).trans h)⟩
  · simp only [GT.run] at h
    cases h
noncomputable def spec_l5Steps_LS1 (F : Nat) : LT := (7, spec_l5Steps_ls7 F) :: spec_l5Steps_LS0 F
theorem spec_l5Steps_lsok1 (F : Nat) : LoopsOK Try.prog (spec_l5Steps_LS1 F) (bodyOf Try.f67) := loopsOK_cons spec_l5Steps_keys (spec_l5Steps_lok7 F) (spec_l5Steps_lsok0 F)
theorem spec_l5Steps_run (F : Nat) (b0 : List Int) (d1 : Int) : runS tt (spec_l5Steps_tab F) (spec_l5Steps_LS1 F) [] [] Try.f67 (bodyOf Try.f67) 70 [(.ints 16 b0), (.int .i64 d1)] [] = spec_l5Steps_c _ F b0 d1 (fun r => some ⟨(.sl 0 0 (List.length r)), [(.vec 53 (.rr 4 r))], []⟩) := by kernel_rfl
def spec_l5Steps_ent (F : Nat) : Ent := ⟨[], .fresh, fun args mem => match args, mem with
  | [(.ints 16 b0), (.int .i64 d1)], [] => some ((spec_l5Steps_p F b0 d1).isSome, ⟨(.sl 0 0 (List.length ((spec_l5Steps_p F b0 d1).getD default))), [(.vec 53 (.rr 4 ((spec_l5Steps_p F b0 d1).getD default)))], []⟩)
  | _, _ => none⟩
theorem spec_l5Steps_fok : FunOK Try.prog 67 := funOK Try.func67 (by kernel_rfl) rfl
theorem spec_l5Steps_meets (F : Nat) : Meets Try.prog 67 (spec_l5Steps_ent F) := by
  refine meets_of_runS mixed ttok deep (spec_l5Steps_tabok F) Try.func67 (body_some rfl) (spec_l5Steps_lsok1 F) fun args mem hfit ret h => ?_
  clear hfit
  simp only [spec_l5Steps_ent] at h
  split at h
  · rename_i b0 d1
    simp only [Option.some.injEq, Prod.mk.injEq] at h
    obtain ⟨hc, rfl⟩ := h
    exact ⟨[], [], 70, _, (spec_l5Steps_run F b0 d1).trans ((spec_l5Steps_cp _ F b0 d1 _).trans (bind_use hc _)), rfl, rfl, rfl⟩
  · cases h

/-! loop.example/g01194/spec.l5All -/
noncomputable def spec_l5All_tab (F : Nat) : Tab := [(67, (spec_l5Steps_ent F))]
theorem spec_l5All_tabok (F : Nat) : TabOK Try.prog (spec_l5All_tab F) := (tab_cons (spec_l5Steps_meets F) spec_l5Steps_fok tab_nil)
noncomputable def spec_l5All_LS0 (F : Nat) : LT := []
theorem spec_l5All_lsok0 (F : Nat) : LoopsOK Try.prog (spec_l5All_LS0 F) (bodyOf Try.f46) := loopsOK_nil
theorem spec_l5All_keys : keysOK (bodyOf Try.f46) = true := by kernel_rfl
def spec_l5All_st3 (b6 : List Int) (d5 : Int) (out7 : List (List Int)) : St := ⟨expand 16 0 [1, 3, 4] [(.ptr 0 0 0 16), (.sl 1 0 (List.length out7)), (.int .i64 d5)], [(.var 16 (.ri .i64 b6)), (.vec 53 (.rr 4 out7))], 0, []⟩
def spec_l5All_o3 (b6 : List Int) (x : List (List Int)) : GT := (.out (.exit 0 ⟨expand 16 0 [3] [(.sl 0 0 (List.length x))], [(.vec 53 (.rr 4 x))], 0, []⟩))
def spec_l5All_ls3 (F : Nat) : LoopS := ⟨16, [1, 3, 4], [], [3], [], [2], [], [], fun vals mem np killed => match vals, mem, np, killed with
  | [(.ptr 0 0 0 16), (.sl 1 0 q_out4), (.int .i64 d5)], [(.var 16 (.ri .i64 b6)), (.vec 53 (.rr 4 out7))], 0, [] => .br ((Nat.beq q_out4 (List.length out7)) && (spec_l5All_l3 F b6 d5 out7).isSome) (spec_l5All_o3 b6 ((spec_l5All_l3 F b6 d5 out7).getD default)) .fail
  | _, _, _, _ => .fail⟩
theorem spec_l5All_step3 (F : Nat) (b6 : List Int) (d5 : Int) (out7 : List (List Int)) {R : Type} (k : Out → Option R) : stepS tt (spec_l5All_tab F) (spec_l5All_LS0 F) 70 (spec_l5All_ls3 F) (loopAt 3 (bodyOf Try.f46)) (spec_l5All_st3 b6 d5 out7) k = spec_l5All_s3 F b6 R (d5, out7) (fun s => k (.norm (spec_l5All_st3 b6 s.1 s.2))) (fun x => (spec_l5All_o3 b6 x).run k) := by kernel_rfl
theorem spec_l5All_iter3 (F : Nat) (b6 : List Int) {R : Type} (k : Out → Option R) : ∀ (n : Nat) (d5 : Int) (out7 : List (List Int)), iterS tt (spec_l5All_tab F) (spec_l5All_LS0 F) 70 (spec_l5All_ls3 F) (loopAt 3 (bodyOf Try.f46)) n (spec_l5All_st3 b6 d5 out7) k = loopC (spec_l5All_s3 F b6) n (d5, out7) (fun x => (spec_l5All_o3 b6 x).run k)
  | 0, d5, out7 => rfl
  | n + 1, d5, out7 => (iterS_succ tt (spec_l5All_tab F) (spec_l5All_LS0 F) 70 (spec_l5All_ls3 F) (loopAt 3 (bodyOf Try.f46)) n (spec_l5All_st3 b6 d5 out7) k).trans ((spec_l5All_step3 F b6 d5 out7 (nextK (iterS tt (spec_l5All_tab F) (spec_l5All_LS0 F) 70 (spec_l5All_ls3 F) (loopAt 3 (bodyOf Try.f46)) n) k)).trans (congrArg (fun kn => spec_l5All_s3 F b6 R (d5, out7) kn _) (funext (fun ⟨d5, out7⟩ => spec_l5All_iter3 F b6 k n d5 out7))))
theorem spec_l5All_lok3 (F : Nat) : LoopOK Try.prog (loopAt 3 (bodyOf Try.f46)) (spec_l5All_ls3 F) := by
  refine loopOK_of mixed ttok deep (spec_l5All_tabok F) (loopsOK_at (spec_l5All_lsok0 F) 3) (fuel := 70) fun R vals mem np killed k x h => ?_
  simp only [spec_l5All_ls3] at h
  split at h
  · rename_i q_out4 d5 b6 out7
    simp only [GT.run] at h
    have hc := (cond_noneL h).1
    replace h := (cond_noneL h).2
    have hg := (and_split hc).1
    replace hc := (and_split hc).2
    obtain rfl := nbeq_nat hg
    refine ⟨F, (spec_l5All_iter3 F b6 k F d5 out7).trans ((loopC_use (spec_l5All_s3_nat F b6) hc _).trans h)⟩
  · simp only [GT.run] at h
    cases h
noncomputable def spec_l5All_LS1 (F : Nat) : LT := (3, spec_l5All_ls3 F) :: spec_l5All_LS0 F
theorem spec_l5All_lsok1 (F : Nat) : LoopsOK Try.prog (spec_l5All_LS1 F) (bodyOf Try.f46) := loopsOK_cons spec_l5All_keys (spec_l5All_lok3 F) (spec_l5All_lsok0 F)
theorem spec_l5All_run (F : Nat) (b0 : List Int) : runS tt (spec_l5All_tab F) (spec_l5All_LS1 F) [] [] Try.f46 (bodyOf Try.f46) 70 [(.ints 16 b0)] [] = spec_l5All_c _ F b0 (fun r => some ⟨(.sl 0 0 (List.length r)), [(.vec 53 (.rr 4 r))], []⟩) := by kernel_rfl
def spec_l5All_ent (F : Nat) : Ent := ⟨[], .fresh, fun args mem => match args, mem with
  | [(.ints 16 b0)], [] => some ((spec_l5All_p F b0).isSome, ⟨(.sl 0 0 (List.length ((spec_l5All_p F b0).getD default))), [(.vec 53 (.rr 4 ((spec_l5All_p F b0).getD default)))], []⟩)
  | _, _ => none⟩
theorem spec_l5All_fok : FunOK Try.prog 46 := funOK Try.func46 (by kernel_rfl) rfl
theorem spec_l5All_meets (F : Nat) : Meets Try.prog 46 (spec_l5All_ent F) := by
  refine meets_of_runS mixed ttok deep (spec_l5All_tabok F) Try.func46 (body_some rfl) (spec_l5All_lsok1 F) fun args mem hfit ret h => ?_
  clear hfit
  simp only [spec_l5All_ent] at h
  split at h
  · rename_i b0
    simp only [Option.some.injEq, Prod.mk.injEq] at h
    obtain ⟨hc, rfl⟩ := h
    exact ⟨[], [], 70, _, (spec_l5All_run F b0).trans ((spec_l5All_cp _ F b0 _).trans (bind_use hc _)), rfl, rfl, rfl⟩
  · cases h

/-! (*loop.example/g01194/spec.l1Cur).step5 -/
noncomputable def spec_l1Cur_step5_tab (F : Nat) : Tab := [(44, (spec_l1Cur_side_ent F)), (45, (spec_l1Cur_cell_ent F)), (27, (spec_l1Cur_pick_ent F)), (24, (spec_l2Board_ent F)), (19, (spec_l1Cur_one_ent F)), (46, (spec_l5All_ent F)), (26, (spec_l1Cur_among_ent F))]
theorem spec_l1Cur_step5_tabok (F : Nat) : TabOK Try.prog (spec_l1Cur_step5_tab F) := (tab_cons (spec_l1Cur_side_meets F) spec_l1Cur_side_fok (tab_cons (spec_l1Cur_cell_meets F) spec_l1Cur_cell_fok (tab_cons (spec_l1Cur_pick_meets F) spec_l1Cur_pick_fok (tab_cons (spec_l2Board_meets F) spec_l2Board_fok (tab_cons (spec_l1Cur_one_meets F) spec_l1Cur_one_fok (tab_cons (spec_l5All_meets F) spec_l5All_fok (tab_cons (spec_l1Cur_among_meets F) spec_l1Cur_among_fok tab_nil)))))))
noncomputable def spec_l1Cur_step5_LS0 (F : Nat) : LT := []
theorem spec_l1Cur_step5_lsok0 (F : Nat) : LoopsOK Try.prog (spec_l1Cur_step5_LS0 F) (bodyOf Try.f21) := loopsOK_nil
theorem spec_l1Cur_step5_run (F : Nat) (b3 : List Int) (c4 : List Int) (c5 : Int) (c6 : Int) : runS tt (spec_l1Cur_step5_tab F) (spec_l1Cur_step5_LS0 F) [] [] Try.f21 (bodyOf Try.f21) 70 [(.ptr 0 0 0 3), (.ints 16 b3)] [(.var 3 (.rv [(.ri .u8 c4), (.int .i64 c5), (.int .u64 c6)]))] = spec_l1Cur_step5_c _ F b3 c4 c5 c6 (fun r => some ⟨(.ints 4 r.1), [(.var 3 (.rv [(.ri .u8 c4), (.int .i64 r.2.1), (.int .u64 r.2.2)]))], []⟩) := by kernel_rfl
def spec_l1Cur_step5_ent (F : Nat) : Ent := ⟨[], .loud, fun args mem => match args, mem with
  | [(.ptr 0 0 0 3), (.ints 16 b3)], [(.var 3 (.rv [(.ri .u8 c4), (.int .i64 c5), (.int .u64 c6)]))] => some ((spec_l1Cur_step5_p F b3 c4 c5 c6).isSome, ⟨(.ints 4 ((spec_l1Cur_step5_p F b3 c4 c5 c6).getD default).1), [(.var 3 (.rv [(.ri .u8 c4), (.int .i64 ((spec_l1Cur_step5_p F b3 c4 c5 c6).getD default).2.1), (.int .u64 ((spec_l1Cur_step5_p F b3 c4 c5 c6).getD default).2.2)]))], []⟩)
  | _, _ => none⟩
theorem spec_l1Cur_step5_fok : FunOK Try.prog 21 := funOK Try.func21 (by kernel_rfl) rfl
theorem spec_l1Cur_step5_meets (F : Nat) : Meets Try.prog 21 (spec_l1Cur_step5_ent F) := by
  refine meets_of_runS mixed ttok deep (spec_l1Cur_step5_tabok F) Try.func21 (body_some rfl) (spec_l1Cur_step5_lsok0 F) fun args mem hfit ret h => ?_
  clear hfit
  simp only [spec_l1Cur_step5_ent] at h
  split at h
  · rename_i b3 c4 c5 c6
    simp only [Option.some.injEq, Prod.mk.injEq] at h
    obtain ⟨hc, rfl⟩ := h
    exact ⟨[], [], 70, _, (spec_l1Cur_step5_run F b3 c4 c5 c6).trans ((spec_l1Cur_step5_cp _ F b3 c4 c5 c6 _).trans (bind_use hc _)), rfl, rfl, rfl⟩
  · cases h

/-! loop.example/g01194/spec.l2Side -/
noncomputable def spec_l2Side_tab (F : Nat) : Tab := [(30, (spec_l1In_ent F))]
theorem spec_l2Side_tabok (F : Nat) : TabOK Try.prog (spec_l2Side_tab F) := (tab_cons (spec_l1In_meets F) spec_l1In_fok tab_nil)
noncomputable def spec_l2Side_LS0 (F : Nat) : LT := []
theorem spec_l2Side_lsok0 (F : Nat) : LoopsOK Try.prog (spec_l2Side_LS0 F) (bodyOf Try.f63) := loopsOK_nil
theorem spec_l2Side_run (F : Nat) (d0 : Int) : runS tt (spec_l2Side_tab F) (spec_l2Side_LS0 F) [] [] Try.f63 (bodyOf Try.f63) 70 [(.int .i64 d0)] [] = spec_l2Side_c _ d0 (fun r => some ⟨(.bool r), [], []⟩) := by kernel_rfl
def spec_l2Side_ent (F : Nat) : Ent := ⟨[], .quiet, fun args mem => match args, mem with
  | [(.int .i64 d0)], [] => some (true, ⟨(.bool (spec_l2Side_v d0)), [], []⟩)
  | _, _ => none⟩
theorem spec_l2Side_fok : FunOK Try.prog 63 := funOK Try.func63 (by kernel_rfl) rfl
theorem spec_l2Side_meets (F : Nat) : Meets Try.prog 63 (spec_l2Side_ent F) := by
  refine meets_of_runS mixed ttok deep (spec_l2Side_tabok F) Try.func63 (body_some rfl) (spec_l2Side_lsok0 F) fun args mem hfit ret h => ?_
  clear hfit
  simp only [spec_l2Side_ent] at h
  split at h
  · rename_i d0
    simp only [Option.some.injEq, Prod.mk.injEq] at h
    obtain ⟨hc, rfl⟩ := h
    exact ⟨[], [], 70, _, (spec_l2Side_run F d0).trans (spec_l2Side_cv _ d0 _), rfl, rfl, rfl⟩
  · cases h

/-! loop.example/g01194/spec.l2Cell -/
noncomputable def spec_l2Cell_tab (F : Nat) : Tab := [(30, (spec_l1In_ent F))]
theorem spec_l2Cell_tabok (F : Nat) : TabOK Try.prog (spec_l2Cell_tab F) := (tab_cons (spec_l1In_meets F) spec_l1In_fok tab_nil)
noncomputable def spec_l2Cell_LS0 (F : Nat) : LT := []
theorem spec_l2Cell_lsok0 (F : Nat) : LoopsOK Try.prog (spec_l2Cell_LS0 F) (bodyOf Try.f64) := loopsOK_nil
theorem spec_l2Cell_run (F : Nat) (cell0 : List Int) : runS tt (spec_l2Cell_tab F) (spec_l2Cell_LS0 F) [] [] Try.f64 (bodyOf Try.f64) 70 [(.ints 2 cell0)] [] = spec_l2Cell_c _ cell0 (fun r => some ⟨(.bool r), [], []⟩) := by kernel_rfl
def spec_l2Cell_ent (F : Nat) : Ent := ⟨[], .quiet, fun args mem => match args, mem with
  | [(.ints 2 cell0)], [] => some (true, ⟨(.bool (spec_l2Cell_v cell0)), [], []⟩)
  | _, _ => none⟩
theorem spec_l2Cell_fok : FunOK Try.prog 64 := funOK Try.func64 (by kernel_rfl) rfl
theorem spec_l2Cell_meets (F : Nat) : Meets Try.prog 64 (spec_l2Cell_ent F) := by
  refine meets_of_runS mixed ttok deep (spec_l2Cell_tabok F) Try.func64 (body_some rfl) (spec_l2Cell_lsok0 F) fun args mem hfit ret h => ?_
  clear hfit
  simp only [spec_l2Cell_ent] at h
  split at h
  · rename_i cell0
    simp only [Option.some.injEq, Prod.mk.injEq] at h
    obtain ⟨hc, rfl⟩ := h
    exact ⟨[], [], 70, _, (spec_l2Cell_run F cell0).trans (spec_l2Cell_cv _ cell0 _), rfl, rfl, rfl⟩
  · cases h

/-! loop.example/g01194/spec.l5Do -/
noncomputable def spec_l5Do_tab (F : Nat) : Tab := [(63, (spec_l2Side_ent F)), (64, (spec_l2Cell_ent F)), (30, (spec_l1In_ent F)), (65, (spec_l2Slide_ent F)), (66, (spec_l2At_ent F)), (58, (spec_l2Put_ent F))]
theorem spec_l5Do_tabok (F : Nat) : TabOK Try.prog (spec_l5Do_tab F) := (tab_cons (spec_l2Side_meets F) spec_l2Side_fok (tab_cons (spec_l2Cell_meets F) spec_l2Cell_fok (tab_cons (spec_l1In_meets F) spec_l1In_fok (tab_cons (spec_l2Slide_meets F) spec_l2Slide_fok (tab_cons (spec_l2At_meets F) spec_l2At_fok (tab_cons (spec_l2Put_meets F) spec_l2Put_fok tab_nil))))))
noncomputable def spec_l5Do_LS0 (F : Nat) : LT := []
theorem spec_l5Do_lsok0 (F : Nat) : LoopsOK Try.prog (spec_l5Do_LS0 F) (bodyOf Try.f43) := loopsOK_nil
theorem spec_l5Do_run (F : Nat) (b0 : List Int) (s1 : List Int) : runS tt (spec_l5Do_tab F) (spec_l5Do_LS0 F) [] [] Try.f43 (bodyOf Try.f43) 70 [(.ints 16 b0), (.ints 4 s1)] [] = spec_l5Do_c _ F b0 s1 (fun r => some ⟨(.tup [(.ints 16 r.1), (.int .i64 r.2.1), (.bool r.2.2)]), [], []⟩) := by kernel_rfl
def spec_l5Do_ent (F : Nat) : Ent := ⟨[], .quiet, fun args mem => match args, mem with
  | [(.ints 16 b0), (.ints 4 s1)], [] => some ((spec_l5Do_p F b0 s1).isSome, ⟨(.tup [(.ints 16 ((spec_l5Do_p F b0 s1).getD default).1), (.int .i64 ((spec_l5Do_p F b0 s1).getD default).2.1), (.bool ((spec_l5Do_p F b0 s1).getD default).2.2)]), [], []⟩)
  | _, _ => none⟩
theorem spec_l5Do_fok : FunOK Try.prog 43 := funOK Try.func43 (by kernel_rfl) rfl
theorem spec_l5Do_meets (F : Nat) : Meets Try.prog 43 (spec_l5Do_ent F) := by
  refine meets_of_runS mixed ttok deep (spec_l5Do_tabok F) Try.func43 (body_some rfl) (spec_l5Do_lsok0 F) fun args mem hfit ret h => ?_
  clear hfit
  simp only [spec_l5Do_ent] at h
  split at h
  · rename_i b0 s1
    simp only [Option.some.injEq, Prod.mk.injEq] at h
    obtain ⟨hc, rfl⟩ := h
    exact ⟨[], [], 70, _, (spec_l5Do_run F b0 s1).trans ((spec_l5Do_cp _ F b0 s1 _).trans (bind_use hc _)), rfl, rfl, rfl⟩
  · cases h

/-! loop.example/g01194/spec.PlaySteps -/
noncomputable def spec_PlaySteps_tab (F : Nat) : Tab := [(24, (spec_l2Board_ent F)), (43, (spec_l5Do_ent F))]
theorem spec_PlaySteps_tabok (F : Nat) : TabOK Try.prog (spec_PlaySteps_tab F) := (tab_cons (spec_l2Board_meets F) spec_l2Board_fok (tab_cons (spec_l5Do_meets F) spec_l5Do_fok tab_nil))
noncomputable def spec_PlaySteps_LS0 (F : Nat) : LT := []
theorem spec_PlaySteps_lsok0 (F : Nat) : LoopsOK Try.prog (spec_PlaySteps_LS0 F) (bodyOf Try.f20) := loopsOK_nil
theorem spec_PlaySteps_keys : keysOK (bodyOf Try.f20) = true := by kernel_rfl
def spec_PlaySteps_st5 (list0 : List (List Int)) (sum7 : Int) (i8 : Int) (b9 : List Int) : St := ⟨expand 46 0 [1, 2, 4, 8, 9] [(.rr 4 list0), (.ptr 0 0 0 16), (.ptr 1 0 0 16), (.int .i64 sum7), (.int .i64 i8)], [(.var 16 (.ri .i64 b9)), (.var 16 (.ri .i64 [(0 : Int), (0 : Int), (0 : Int), (0 : Int), (0 : Int), (0 : Int), (0 : Int), (0 : Int), (0 : Int), (0 : Int), (0 : Int), (0 : Int), (0 : Int), (0 : Int), (0 : Int), (0 : Int)]))], 0, []⟩
def spec_PlaySteps_o5 (list0 : List (List Int)) (x : Bool × Int × Int × List Int × Int × List Int) : GT := (.br x.1 (.out (.ret ⟨expand 46 0 [4, 5, 6, 7] [(.ptr 0 0 0 16), (.int .i64 x.2.1), (.int .i64 x.2.2.1), (.bool true)], [(.var 16 (.ri .i64 x.2.2.2.1))], 0, []⟩)) (.out (.exit 0 ⟨expand 46 0 [1, 2, 4, 8] [(.rr 4 list0), (.ptr 0 0 0 16), (.ptr 1 0 0 16), (.int .i64 x.2.2.2.2.1)], [(.var 16 (.ri .i64 x.2.2.2.2.2)), (.var 16 (.ri .i64 [(0 : Int), (0 : Int), (0 : Int), (0 : Int), (0 : Int), (0 : Int), (0 : Int), (0 : Int), (0 : Int), (0 : Int), (0 : Int), (0 : Int), (0 : Int), (0 : Int), (0 : Int), (0 : Int)]))], 0, []⟩)))
def spec_PlaySteps_ls5 (F : Nat) : LoopS := ⟨46, [1, 2, 4, 8, 9], [], [1, 2, 4, 8], [], [4, 5, 6, 7], [], [], fun vals mem np killed => match vals, mem, np, killed with
  | [(.rr 4 list0), (.ptr 0 0 0 16), (.ptr 1 0 0 16), (.int .i64 sum7), (.int .i64 i8)], [(.var 16 (.ri .i64 b9)), (.var 16 (.ri .i64 q_t410))], 0, [] => .br ((q_t410 == ([(0 : Int), (0 : Int), (0 : Int), (0 : Int), (0 : Int), (0 : Int), (0 : Int), (0 : Int), (0 : Int), (0 : Int), (0 : Int), (0 : Int), (0 : Int), (0 : Int), (0 : Int), (0 : Int)] : List Int)) && (spec_PlaySteps_l5 F list0 sum7 i8 b9).isSome) (spec_PlaySteps_o5 list0 ((spec_PlaySteps_l5 F list0 sum7 i8 b9).getD default)) .fail
  | _, _, _, _ => .fail⟩
theorem spec_PlaySteps_step5 (F : Nat) (list0 : List (List Int)) (sum7 : Int) (i8 : Int) (b9 : List Int) {R : Type} (k : Out → Option R) : stepS tt (spec_PlaySteps_tab F) (spec_PlaySteps_LS0 F) 70 (spec_PlaySteps_ls5 F) (loopAt 5 (bodyOf Try.f20)) (spec_PlaySteps_st5 list0 sum7 i8 b9) k = spec_PlaySteps_s5 F list0 R (sum7, i8, b9) (fun s => k (.norm (spec_PlaySteps_st5 list0 s.1 s.2.1 s.2.2))) (fun x => (spec_PlaySteps_o5 list0 x).run k) := by kernel_rfl
theorem spec_PlaySteps_iter5 (F : Nat) (list0 : List (List Int)) {R : Type} (k : Out → Option R) : ∀ (n : Nat) (sum7 : Int) (i8 : Int) (b9 : List Int), iterS tt (spec_PlaySteps_tab F) (spec_PlaySteps_LS0 F) 70 (spec_PlaySteps_ls5 F) (loopAt 5 (bodyOf Try.f20)) n (spec_PlaySteps_st5 list0 sum7 i8 b9) k = loopC (spec_PlaySteps_s5 F list0) n (sum7, i8, b9) (fun x => (spec_PlaySteps_o5 list0 x).run k)
  | 0, sum7, i8, b9 => rfl
  | n + 1, sum7, i8, b9 => (iterS_succ tt (spec_PlaySteps_tab F) (spec_PlaySteps_LS0 F) 70 (spec_PlaySteps_ls5 F) (loopAt 5 (bodyOf Try.f20)) n (spec_PlaySteps_st5 list0 sum7 i8 b9) k).trans ((spec_PlaySteps_step5 F list0 sum7 i8 b9 (nextK (iterS tt (spec_PlaySteps_tab F) (spec_PlaySteps_LS0 F) 70 (spec_PlaySteps_ls5 F) (loopAt 5 (bodyOf Try.f20)) n) k)).trans (congrArg (fun kn => spec_PlaySteps_s5 F list0 R (sum7, i8, b9) kn _) (funext (fun ⟨sum7, i8, b9⟩ => spec_PlaySteps_iter5 F list0 k n sum7 i8 b9))))
theorem spec_PlaySteps_lok5 (F : Nat) : LoopOK Try.prog (loopAt 5 (bodyOf Try.f20)) (spec_PlaySteps_ls5 F) := by
  refine loopOK_of mixed ttok deep (spec_PlaySteps_tabok F) (loopsOK_at (spec_PlaySteps_lsok0 F) 5) (fuel := 70) fun R vals mem np killed k x h => ?_
  simp only [spec_PlaySteps_ls5] at h
  split at h
  · rename_i list0 sum7 i8 b9 q_t410
    simp only [GT.run] at h
    have hc := (cond_noneL h).1
    replace h := (cond_noneL h).2
    have hg := (and_split hc).1
    replace hc := (and_split hc).2
    obtain rfl := beq_li hg
    refine ⟨F, (spec_PlaySteps_iter5 F list0 k F sum7 i8 b9).trans ((loopC_use (spec_PlaySteps_s5_nat F list0) hc _).trans h)⟩
  · simp only [GT.run] at h
    cases h
noncomputable def spec_PlaySteps_LS1 (F : Nat) : LT := (5, spec_PlaySteps_ls5 F) :: spec_PlaySteps_LS0 F
theorem spec_PlaySteps_lsok1 (F : Nat) : LoopsOK Try.prog (spec_PlaySteps_LS1 F) (bodyOf Try.f20) := loopsOK_cons spec_PlaySteps_keys (spec_PlaySteps_lok5 F) (spec_PlaySteps_lsok0 F)
theorem spec_PlaySteps_run (F : Nat) (b0 : List Int) (list1 : List (List Int)) : runS tt (spec_PlaySteps_tab F) (spec_PlaySteps_LS1 F) [] [] Try.f20 (bodyOf Try.f20) 70 [(.ints 16 b0), (.rr 4 list1)] [] = spec_PlaySteps_c _ F b0 list1 (fun r => some ⟨(.tup [(.ints 16 r.1), (.int .i64 r.2.1), (.int .i64 r.2.2.1), (.bool r.2.2.2)]), [], []⟩) := by kernel_rfl
def spec_PlaySteps_ent (F : Nat) : Ent := ⟨[], .quiet, fun args mem => match args, mem with
  | [(.ints 16 b0), (.rr 4 list1)], [] => some ((spec_PlaySteps_p F b0 list1).isSome, ⟨(.tup [(.ints 16 ((spec_PlaySteps_p F b0 list1).getD default).1), (.int .i64 ((spec_PlaySteps_p F b0 list1).getD default).2.1), (.int .i64 ((spec_PlaySteps_p F b0 list1).getD default).2.2.1), (.bool ((spec_PlaySteps_p F b0 list1).getD default).2.2.2)]), [], []⟩)
  | _, _ => none⟩
theorem spec_PlaySteps_fok : FunOK Try.prog 20 := funOK Try.func20 (by kernel_rfl) rfl
theorem spec_PlaySteps_meets (F : Nat) : Meets Try.prog 20 (spec_PlaySteps_ent F) := by
  refine meets_of_runS mixed ttok deep (spec_PlaySteps_tabok F) Try.func20 (body_some rfl) (spec_PlaySteps_lsok1 F) fun args mem hfit ret h => ?_
  clear hfit
  simp only [spec_PlaySteps_ent] at h
  split at h
  · rename_i b0 list1
    simp only [Option.some.injEq, Prod.mk.injEq] at h
    obtain ⟨hc, rfl⟩ := h
    exact ⟨[], [], 70, _, (spec_PlaySteps_run F b0 list1).trans ((spec_PlaySteps_cp _ F b0 list1 _).trans (bind_use hc _)), rfl, rfl, rfl⟩
  · cases h

/-! loop.example/g01194/spec.DrawMovesBetween -/
noncomputable def spec_DrawMovesBetween_tab (F : Nat) : Tab := [(18, (spec_l1Cur_board_ent F)), (19, (spec_l1Cur_one_ent F)), (21, (spec_l1Cur_step5_ent F)), (20, (spec_PlaySteps_ent F))]
theorem spec_DrawMovesBetween_tabok (F : Nat) : TabOK Try.prog (spec_DrawMovesBetween_tab F) := (tab_cons (spec_l1Cur_board_meets F) spec_l1Cur_board_fok (tab_cons (spec_l1Cur_one_meets F) spec_l1Cur_one_fok (tab_cons (spec_l1Cur_step5_meets F) spec_l1Cur_step5_fok (tab_cons (spec_PlaySteps_meets F) spec_PlaySteps_fok tab_nil))))
noncomputable def spec_DrawMovesBetween_LS0 (F : Nat) : LT := []
theorem spec_DrawMovesBetween_lsok0 (F : Nat) : LoopsOK Try.prog (spec_DrawMovesBetween_LS0 F) (bodyOf Try.f5) := loopsOK_nil
theorem spec_DrawMovesBetween_run (F : Nat) (code0 : List Int) : runS tt (spec_DrawMovesBetween_tab F) (spec_DrawMovesBetween_LS0 F) [] [] Try.f5 (bodyOf Try.f5) 70 [(.ri .u8 code0)] [] = spec_DrawMovesBetween_c _ F code0 (fun r => some ⟨(.tup [(.ints 16 r.1), (.ints 16 r.2)]), [], []⟩) := by kernel_rfl
def spec_DrawMovesBetween_ent (F : Nat) : Ent := ⟨[], .quiet, fun args mem => match args, mem with
  | [(.ri .u8 code0)], [] => some ((spec_DrawMovesBetween_p F code0).isSome, ⟨(.tup [(.ints 16 ((spec_DrawMovesBetween_p F code0).getD default).1), (.ints 16 ((spec_DrawMovesBetween_p F code0).getD default).2)]), [], []⟩)
  | _, _ => none⟩
theorem spec_DrawMovesBetween_fok : FunOK Try.prog 5 := funOK Try.func5 (by kernel_rfl) rfl
theorem spec_DrawMovesBetween_meets (F : Nat) : Meets Try.prog 5 (spec_DrawMovesBetween_ent F) := by
  refine meets_of_runS mixed ttok deep (spec_DrawMovesBetween_tabok F) Try.func5 (body_some rfl) (spec_DrawMovesBetween_lsok0 F) fun args mem hfit ret h => ?_
  clear hfit
  simp only [spec_DrawMovesBetween_ent] at h
  split at h
  · rename_i code0
    simp only [Option.some.injEq, Prod.mk.injEq] at h
    obtain ⟨hc, rfl⟩ := h
    exact ⟨[], [], 70, _, (spec_DrawMovesBetween_run F code0).trans ((spec_DrawMovesBetween_cp _ F code0 _).trans (bind_use hc _)), rfl, rfl, rfl⟩
  · cases h

/-! loop.example/g01194/impl.in -/
noncomputable def impl_in_tab (F : Nat) : Tab := []
theorem impl_in_tabok (F : Nat) : TabOK Try.prog (impl_in_tab F) := tab_nil
noncomputable def impl_in_LS0 (F : Nat) : LT := []
theorem impl_in_lsok0 (F : Nat) : LoopsOK Try.prog (impl_in_LS0 F) (bodyOf Try.f39) := loopsOK_nil
theorem impl_in_run (F : Nat) (n0 : Int) (low1 : Int) (high2 : Int) : runS tt (impl_in_tab F) (impl_in_LS0 F) [] [] Try.f39 (bodyOf Try.f39) 70 [(.int .i64 n0), (.int .i64 low1), (.int .i64 high2)] [] = impl_in_c _ n0 low1 high2 (fun r => some ⟨(.bool r), [], []⟩) := by kernel_rfl
def impl_in_ent (F : Nat) : Ent := ⟨[], .quiet, fun args mem => match args, mem with
  | [(.int .i64 n0), (.int .i64 low1), (.int .i64 high2)], [] => some (true, ⟨(.bool (impl_in_v n0 low1 high2)), [], []⟩)
  | _, _ => none⟩
theorem impl_in_fok : FunOK Try.prog 39 := funOK Try.func39 (by kernel_rfl) rfl
theorem impl_in_meets (F : Nat) : Meets Try.prog 39 (impl_in_ent F) := by
  refine meets_of_runS mixed ttok deep (impl_in_tabok F) Try.func39 (body_some rfl) (impl_in_lsok0 F) fun args mem hfit ret h => ?_
  clear hfit
  simp only [impl_in_ent] at h
  split at h
  · rename_i n0 low1 high2
    simp only [Option.some.injEq, Prod.mk.injEq] at h
    obtain ⟨hc, rfl⟩ := h
    exact ⟨[], [], 70, _, (impl_in_run F n0 low1 high2).trans (impl_in_cv _ n0 low1 high2 _), rfl, rfl, rfl⟩
  · cases h

/-! loop.example/g01194/impl.IsRow$1 -/
noncomputable def impl_IsRow_f1_tab (F : Nat) : Tab := [(39, (impl_in_ent F))]
theorem impl_IsRow_f1_tabok (F : Nat) : TabOK Try.prog (impl_IsRow_f1_tab F) := (tab_cons (impl_in_meets F) impl_in_fok tab_nil)
noncomputable def impl_IsRow_f1_LS0 (F : Nat) : LT := []
theorem impl_IsRow_f1_lsok0 (F : Nat) : LoopsOK Try.prog (impl_IsRow_f1_LS0 F) (bodyOf Try.f69) := loopsOK_nil
theorem impl_IsRow_f1_run (F : Nat) (n0 : Int) : runS tt (impl_IsRow_f1_tab F) (impl_IsRow_f1_LS0 F) [] [] Try.f69 (bodyOf Try.f69) 70 [(.int .i64 n0)] [] = impl_IsRow_f1_c _ n0 (fun r => some ⟨(.bool r), [], []⟩) := by kernel_rfl
def impl_IsRow_f1_ent (F : Nat) : Ent := ⟨[], .quiet, fun args mem => match args, mem with
  | [(.int .i64 n0)], [] => some (true, ⟨(.bool (impl_IsRow_f1_v n0)), [], []⟩)
  | _, _ => none⟩
theorem impl_IsRow_f1_fok : FunOK Try.prog 69 := funOK Try.func69 (by kernel_rfl) rfl
theorem impl_IsRow_f1_meets (F : Nat) : Meets Try.prog 69 (impl_IsRow_f1_ent F) := by
  refine meets_of_runS mixed ttok deep (impl_IsRow_f1_tabok F) Try.func69 (body_some rfl) (impl_IsRow_f1_lsok0 F) fun args mem hfit ret h => ?_
  clear hfit
  simp only [impl_IsRow_f1_ent] at h
  split at h
  · rename_i n0
    simp only [Option.some.injEq, Prod.mk.injEq] at h
    obtain ⟨hc, rfl⟩ := h
    exact ⟨[], [], 70, _, (impl_IsRow_f1_run F n0).trans (impl_IsRow_f1_cv _ n0 _), rfl, rfl, rfl⟩
  · cases h

/-! slices.IndexFunc[[]int,int] -/
noncomputable def slices_IndexFunc_intint_impl_IsRow_f1_tab (F : Nat) : Tab := [(69, (impl_IsRow_f1_ent F))]
theorem slices_IndexFunc_intint_impl_IsRow_f1_tabok (F : Nat) : TabOK Try.prog (slices_IndexFunc_intint_impl_IsRow_f1_tab F) := (tab_cons (impl_IsRow_f1_meets F) impl_IsRow_f1_fok tab_nil)
noncomputable def slices_IndexFunc_intint_impl_IsRow_f1_LS0 (F : Nat) : LT := []
theorem slices_IndexFunc_intint_impl_IsRow_f1_lsok0 (F : Nat) : LoopsOK Try.prog (slices_IndexFunc_intint_impl_IsRow_f1_LS0 F) (bodyOf Try.f59) := loopsOK_nil
theorem slices_IndexFunc_intint_impl_IsRow_f1_keys : keysOK (bodyOf Try.f59) = true := by kernel_rfl
def slices_IndexFunc_intint_impl_IsRow_f1_st2 (s0 : List Int) (t71 : Int) (t82 : Int) : St := ⟨expand 19 0 [0, 1, 7, 8] [(.ri .i64 s0), (.fn 69 [] []), (.int .i64 t71), (.int .i64 t82)], [], 0, []⟩
def slices_IndexFunc_intint_impl_IsRow_f1_o2 (s0 : List Int) (t71 : Int) (x : Bool × Int) : GT := (.br x.1 (.out (.ret ⟨expand 19 0 [4] [(.int .i64 x.2)], [], 0, []⟩)) (.out (.exit 0 ⟨expand 19 0 [] [], [], 0, []⟩)))
def slices_IndexFunc_intint_impl_IsRow_f1_ls2 (F : Nat) : LoopS := ⟨19, [0, 1, 7, 8], [], [], [], [4], [], [], fun vals mem np killed => match vals, mem, np, killed with
  | [(.ri .i64 s0), (.fn 69 [] []), (.int .i64 t71), (.int .i64 t82)], [], 0, [] => .br (slices_IndexFunc_intint_impl_IsRow_f1_l2 F s0 t71 t82).isSome (slices_IndexFunc_intint_impl_IsRow_f1_o2 s0 t71 ((slices_IndexFunc_intint_impl_IsRow_f1_l2 F s0 t71 t82).getD default)) .fail
  | _, _, _, _ => .fail⟩
theorem slices_IndexFunc_intint_impl_IsRow_f1_step2 (F : Nat) (s0 : List Int) (t71 : Int) (t82 : Int) {R : Type} (k : Out → Option R) : stepS tt (slices_IndexFunc_intint_impl_IsRow_f1_tab F) (slices_IndexFunc_intint_impl_IsRow_f1_LS0 F) 70 (slices_IndexFunc_intint_impl_IsRow_f1_ls2 F) (loopAt 2 (bodyOf Try.f59)) (slices_IndexFunc_intint_impl_IsRow_f1_st2 s0 t71 t82) k = slices_IndexFunc_intint_impl_IsRow_f1_s2 F s0 t71 R t82 (fun s => k (.norm (slices_IndexFunc_intint_impl_IsRow_f1_st2 s0 t71 s))) (fun x => (slices_IndexFunc_intint_impl_IsRow_f1_o2 s0 t71 x).run k) := by kernel_rfl
theorem slices_IndexFunc_intint_impl_IsRow_f1_iter2 (F : Nat) (s0 : List Int) (t71 : Int) {R : Type} (k : Out → Option R) : ∀ (n : Nat) (t82 : Int), iterS tt (slices_IndexFunc_intint_impl_IsRow_f1_tab F) (slices_IndexFunc_intint_impl_IsRow_f1_LS0 F) 70 (slices_IndexFunc_intint_impl_IsRow_f1_ls2 F) (loopAt 2 (bodyOf Try.f59)) n (slices_IndexFunc_intint_impl_IsRow_f1_st2 s0 t71 t82) k = loopC (slices_IndexFunc_intint_impl_IsRow_f1_s2 F s0 t71) n t82 (fun x => (slices_IndexFunc_intint_impl_IsRow_f1_o2 s0 t71 x).run k)
  | 0, t82 => rfl
  | n + 1, t82 => (iterS_succ tt (slices_IndexFunc_intint_impl_IsRow_f1_tab F) (slices_IndexFunc_intint_impl_IsRow_f1_LS0 F) 70 (slices_IndexFunc_intint_impl_IsRow_f1_ls2 F) (loopAt 2 (bodyOf Try.f59)) n (slices_IndexFunc_intint_impl_IsRow_f1_st2 s0 t71 t82) k).trans ((slices_IndexFunc_intint_impl_IsRow_f1_step2 F s0 t71 t82 (nextK (iterS tt (slices_IndexFunc_intint_impl_IsRow_f1_tab F) (slices_IndexFunc_intint_impl_IsRow_f1_LS0 F) 70 (slices_IndexFunc_intint_impl_IsRow_f1_ls2 F) (loopAt 2 (bodyOf Try.f59)) n) k)).trans (congrArg (fun kn => slices_IndexFunc_intint_impl_IsRow_f1_s2 F s0 t71 R t82 kn _) (funext (fun t82 => slices_IndexFunc_intint_impl_IsRow_f1_iter2 F s0 t71 k n t82))))
theorem slices_IndexFunc_intint_impl_IsRow_f1_lok2 (F : Nat) : LoopOK Try.prog (loopAt 2 (bodyOf Try.f59)) (slices_IndexFunc_intint_impl_IsRow_f1_ls2 F) := by
  refine loopOK_of mixed ttok deep (slices_IndexFunc_intint_impl_IsRow_f1_tabok F) (loopsOK_at (slices_IndexFunc_intint_impl_IsRow_f1_lsok0 F) 2) (fuel := 70) fun R vals mem np killed k x h => ?_
  simp only [slices_IndexFunc_intint_impl_IsRow_f1_ls2] at h
  split at h
  · rename_i s0 t71 t82
    simp only [GT.run] at h
    have hc := (cond_noneL h).1
    replace h := (cond_noneL h).2
    refine ⟨F, (slices_IndexFunc_intint_impl_IsRow_f1_iter2 F s0 t71 k F t82).trans ((loopC_use (slices_IndexFunc_intint_impl_IsRow_f1_s2_nat F s0 t71) hc _).trans h)⟩
  · simp only [GT.run] at h
    cases h
noncomputable def slices_IndexFunc_intint_impl_IsRow_f1_LS1 (F : Nat) : LT := (2, slices_IndexFunc_intint_impl_IsRow_f1_ls2 F) :: slices_IndexFunc_intint_impl_IsRow_f1_LS0 F
theorem slices_IndexFunc_intint_impl_IsRow_f1_lsok1 (F : Nat) : LoopsOK Try.prog (slices_IndexFunc_intint_impl_IsRow_f1_LS1 F) (bodyOf Try.f59) := loopsOK_cons slices_IndexFunc_intint_impl_IsRow_f1_keys (slices_IndexFunc_intint_impl_IsRow_f1_lok2 F) (slices_IndexFunc_intint_impl_IsRow_f1_lsok0 F)
theorem slices_IndexFunc_intint_impl_IsRow_f1_run (F : Nat) (s0 : List Int) : runS tt (slices_IndexFunc_intint_impl_IsRow_f1_tab F) (slices_IndexFunc_intint_impl_IsRow_f1_LS1 F) [] [] Try.f59 (bodyOf Try.f59) 70 [(.ri .i64 s0), (.fn 69 [] [])] [] = slices_IndexFunc_intint_impl_IsRow_f1_c _ F s0 (fun r => some ⟨(.int .i64 r), [], []⟩) := by kernel_rfl
def slices_IndexFunc_intint_impl_IsRow_f1_ent (F : Nat) : Ent := ⟨[], .quiet, fun args mem => match args, mem with
  | [(.ri .i64 s0), (.fn 69 [] [])], [] => some ((slices_IndexFunc_intint_impl_IsRow_f1_p F s0).isSome, ⟨(.int .i64 ((slices_IndexFunc_intint_impl_IsRow_f1_p F s0).getD default)), [], []⟩)
  | _, _ => none⟩
theorem slices_IndexFunc_intint_impl_IsRow_f1_fok : FunOK Try.prog 59 := funOK Try.func59 (by kernel_rfl) rfl
theorem slices_IndexFunc_intint_impl_IsRow_f1_meets (F : Nat) : Meets Try.prog 59 (slices_IndexFunc_intint_impl_IsRow_f1_ent F) := by
  refine meets_of_runS mixed ttok deep (slices_IndexFunc_intint_impl_IsRow_f1_tabok F) Try.func59 (body_some rfl) (slices_IndexFunc_intint_impl_IsRow_f1_lsok1 F) fun args mem hfit ret h => ?_
  clear hfit
  simp only [slices_IndexFunc_intint_impl_IsRow_f1_ent] at h
  split at h
  · rename_i s0
    simp only [Option.some.injEq, Prod.mk.injEq] at h
    obtain ⟨hc, rfl⟩ := h
    exact ⟨[], [], 70, _, (slices_IndexFunc_intint_impl_IsRow_f1_run F s0).trans ((slices_IndexFunc_intint_impl_IsRow_f1_cp _ F s0 _).trans (bind_use hc _)), rfl, rfl, rfl⟩
  · cases h

/-! slices.ContainsFunc[[]int,int] -/
noncomputable def slices_ContainsFunc_intint_impl_IsRow_f1_tab (F : Nat) : Tab := [(59, (slices_IndexFunc_intint_impl_IsRow_f1_ent F))]
theorem slices_ContainsFunc_intint_impl_IsRow_f1_tabok (F : Nat) : TabOK Try.prog (slices_ContainsFunc_intint_impl_IsRow_f1_tab F) := (tab_cons (slices_IndexFunc_intint_impl_IsRow_f1_meets F) slices_IndexFunc_intint_impl_IsRow_f1_fok tab_nil)
noncomputable def slices_ContainsFunc_intint_impl_IsRow_f1_LS0 (F : Nat) : LT := []
theorem slices_ContainsFunc_intint_impl_IsRow_f1_lsok0 (F : Nat) : LoopsOK Try.prog (slices_ContainsFunc_intint_impl_IsRow_f1_LS0 F) (bodyOf Try.f35) := loopsOK_nil
theorem slices_ContainsFunc_intint_impl_IsRow_f1_run (F : Nat) (s0 : List Int) : runS tt (slices_ContainsFunc_intint_impl_IsRow_f1_tab F) (slices_ContainsFunc_intint_impl_IsRow_f1_LS0 F) [] [] Try.f35 (bodyOf Try.f35) 70 [(.ri .i64 s0), (.fn 69 [] [])] [] = slices_ContainsFunc_intint_impl_IsRow_f1_c _ F s0 (fun r => some ⟨(.bool r), [], []⟩) := by kernel_rfl
def slices_ContainsFunc_intint_impl_IsRow_f1_ent (F : Nat) : Ent := ⟨[], .quiet, fun args mem => match args, mem with
  | [(.ri .i64 s0), (.fn 69 [] [])], [] => some ((slices_ContainsFunc_intint_impl_IsRow_f1_p F s0).isSome, ⟨(.bool ((slices_ContainsFunc_intint_impl_IsRow_f1_p F s0).getD default)), [], []⟩)
  | _, _ => none⟩
theorem slices_ContainsFunc_intint_impl_IsRow_f1_fok : FunOK Try.prog 35 := funOK Try.func35 (by kernel_rfl) rfl
theorem slices_ContainsFunc_intint_impl_IsRow_f1_meets (F : Nat) : Meets Try.prog 35 (slices_ContainsFunc_intint_impl_IsRow_f1_ent F) := by
  refine meets_of_runS mixed ttok deep (slices_ContainsFunc_intint_impl_IsRow_f1_tabok F) Try.func35 (body_some rfl) (slices_ContainsFunc_intint_impl_IsRow_f1_lsok0 F) fun args mem hfit ret h => ?_
  clear hfit
  simp only [slices_ContainsFunc_intint_impl_IsRow_f1_ent] at h
  split at h
  · rename_i s0
    simp only [Option.some.injEq, Prod.mk.injEq] at h
    obtain ⟨hc, rfl⟩ := h
    exact ⟨[], [], 70, _, (slices_ContainsFunc_intint_impl_IsRow_f1_run F s0).trans ((slices_ContainsFunc_intint_impl_IsRow_f1_cp _ F s0 _).trans (bind_use hc _)), rfl, rfl, rfl⟩
  · cases h

/-! loop.example/g01194/impl.IsRow -/
noncomputable def impl_IsRow_tab (F : Nat) : Tab := [(35, (slices_ContainsFunc_intint_impl_IsRow_f1_ent F))]
theorem impl_IsRow_tabok (F : Nat) : TabOK Try.prog (impl_IsRow_tab F) := (tab_cons (slices_ContainsFunc_intint_impl_IsRow_f1_meets F) slices_ContainsFunc_intint_impl_IsRow_f1_fok tab_nil)
noncomputable def impl_IsRow_LS0 (F : Nat) : LT := []
theorem impl_IsRow_lsok0 (F : Nat) : LoopsOK Try.prog (impl_IsRow_LS0 F) (bodyOf Try.f49) := loopsOK_nil
theorem impl_IsRow_run (F : Nat) (row0 : List Int) : runS tt (impl_IsRow_tab F) (impl_IsRow_LS0 F) [] [] Try.f49 (bodyOf Try.f49) 70 [(.ints 4 row0)] [] = impl_IsRow_c _ F row0 (fun r => some ⟨(.bool r), [], []⟩) := by kernel_rfl
def impl_IsRow_ent (F : Nat) : Ent := ⟨[], .quiet, fun args mem => match args, mem with
  | [(.ints 4 row0)], [] => some ((impl_IsRow_p F row0).isSome, ⟨(.bool ((impl_IsRow_p F row0).getD default)), [], []⟩)
  | _, _ => none⟩
theorem impl_IsRow_fok : FunOK Try.prog 49 := funOK Try.func49 (by kernel_rfl) rfl
theorem impl_IsRow_meets (F : Nat) : Meets Try.prog 49 (impl_IsRow_ent F) := by
  refine meets_of_runS mixed ttok deep (impl_IsRow_tabok F) Try.func49 (body_some rfl) (impl_IsRow_lsok0 F) fun args mem hfit ret h => ?_
  clear hfit
  simp only [impl_IsRow_ent] at h
  split at h
  · rename_i row0
    simp only [Option.some.injEq, Prod.mk.injEq] at h
    obtain ⟨hc, rfl⟩ := h
    exact ⟨[], [], 70, _, (impl_IsRow_run F row0).trans ((impl_IsRow_cp _ F row0 _).trans (bind_use hc _)), rfl, rfl, rfl⟩
  · cases h

/-! loop.example/g01194/impl.IsBoard$1 -/
noncomputable def impl_IsBoard_f1_tab (F : Nat) : Tab := [(49, (impl_IsRow_ent F))]
theorem impl_IsBoard_f1_tabok (F : Nat) : TabOK Try.prog (impl_IsBoard_f1_tab F) := (tab_cons (impl_IsRow_meets F) impl_IsRow_fok tab_nil)
noncomputable def impl_IsBoard_f1_LS0 (F : Nat) : LT := []
theorem impl_IsBoard_f1_lsok0 (F : Nat) : LoopsOK Try.prog (impl_IsBoard_f1_LS0 F) (bodyOf Try.f48) := loopsOK_nil
theorem impl_IsBoard_f1_run (F : Nat) (row0 : List Int) : runS tt (impl_IsBoard_f1_tab F) (impl_IsBoard_f1_LS0 F) [] [] Try.f48 (bodyOf Try.f48) 70 [(.ints 4 row0)] [] = impl_IsBoard_f1_c _ F row0 (fun r => some ⟨(.bool r), [], []⟩) := by kernel_rfl
def impl_IsBoard_f1_ent (F : Nat) : Ent := ⟨[], .quiet, fun args mem => match args, mem with
  | [(.ints 4 row0)], [] => some ((impl_IsBoard_f1_p F row0).isSome, ⟨(.bool ((impl_IsBoard_f1_p F row0).getD default)), [], []⟩)
  | _, _ => none⟩
theorem impl_IsBoard_f1_fok : FunOK Try.prog 48 := funOK Try.func48 (by kernel_rfl) rfl
theorem impl_IsBoard_f1_meets (F : Nat) : Meets Try.prog 48 (impl_IsBoard_f1_ent F) := by
  refine meets_of_runS mixed ttok deep (impl_IsBoard_f1_tabok F) Try.func48 (body_some rfl) (impl_IsBoard_f1_lsok0 F) fun args mem hfit ret h => ?_
  clear hfit
  simp only [impl_IsBoard_f1_ent] at h
  split at h
  · rename_i row0
    simp only [Option.some.injEq, Prod.mk.injEq] at h
    obtain ⟨hc, rfl⟩ := h
    exact ⟨[], [], 70, _, (impl_IsBoard_f1_run F row0).trans ((impl_IsBoard_f1_cp _ F row0 _).trans (bind_use hc _)), rfl, rfl, rfl⟩
  · cases h
end Go.Proofs.Ytabfliifleonaae
