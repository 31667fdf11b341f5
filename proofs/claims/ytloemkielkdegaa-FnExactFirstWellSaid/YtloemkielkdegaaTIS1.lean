/-
Pure functions and what the code of them does, by program; without conditions.
-/
import Derived.Test.YtloemkielkdegaaTIP1
import Derived.Test.YtloemkielkdegaaTIS0
namespace Go.Proofs.Ytloemkielkdegaa
open Go Go.Lv Go.Lv.P Go.Proofs
set_option linter.unusedVariables false
set_option linter.unusedSimpArgs false
set_option maxRecDepth 100000
/-! loop.example/g01194/spec.l2Empty -/
noncomputable def spec_l2Empty_tab (F : Nat) : Tab := []
theorem spec_l2Empty_tabok (F : Nat) : TabOK Try.prog (spec_l2Empty_tab F) := tab_nil
noncomputable def spec_l2Empty_LS0 (F : Nat) : LT := []
theorem spec_l2Empty_lsok0 (F : Nat) : LoopsOK Try.prog (spec_l2Empty_LS0 F) (bodyOf Try.f63) := loopsOK_nil
theorem spec_l2Empty_keys : keysOK (bodyOf Try.f63) = true := by kernel_rfl
def spec_l2Empty_st6 (r5 : Int) (b7 : List Int) (c6 : Int) (out8 : List (List Int)) : St := ⟨expand 29 0 [1, 3, 4, 5] [(.ptr 0 0 0 16), (.sl 1 0 (List.length out8)), (.int .i64 r5), (.int .i64 c6)], [(.var 16 (.ri .i64 b7)), (.vec 26 (.rr 2 out8))], 0, []⟩
def spec_l2Empty_o6 (r5 : Int) (b7 : List Int) (x : List (List Int)) : GT := (.out (.exit 2 ⟨expand 29 0 [1, 3, 4] [(.ptr 0 0 0 16), (.sl 1 0 (List.length x)), (.int .i64 r5)], [(.var 16 (.ri .i64 b7)), (.vec 26 (.rr 2 x))], 0, []⟩))
def spec_l2Empty_ls6 (F : Nat) : LoopS := ⟨29, [1, 3, 4, 5], [], [1, 3, 4], [], [2], [], [], fun vals mem np killed => match vals, mem, np, killed with
  | [(.ptr 0 0 0 16), (.sl 1 0 q_out4), (.int .i64 r5), (.int .i64 c6)], [(.var 16 (.ri .i64 b7)), (.vec 26 (.rr 2 out8))], 0, [] => .br ((Nat.beq q_out4 (List.length out8)) && (spec_l2Empty_l6 F r5 b7 c6 out8).isSome) (spec_l2Empty_o6 r5 b7 ((spec_l2Empty_l6 F r5 b7 c6 out8).getD default)) .fail
  | _, _, _, _ => .fail⟩
theorem spec_l2Empty_step6 (F : Nat) (r5 : Int) (b7 : List Int) (c6 : Int) (out8 : List (List Int)) {R : Type} (k : Out → Option R) : stepS tt (spec_l2Empty_tab F) (spec_l2Empty_LS0 F) 70 (spec_l2Empty_ls6 F) (loopAt 6 (bodyOf Try.f63)) (spec_l2Empty_st6 r5 b7 c6 out8) k = spec_l2Empty_s6 F r5 b7 R (c6, out8) (fun s => k (.norm (spec_l2Empty_st6 r5 b7 s.1 s.2))) (fun x => (spec_l2Empty_o6 r5 b7 x).run k) := by kernel_rfl
theorem spec_l2Empty_iter6 (F : Nat) (r5 : Int) (b7 : List Int) {R : Type} (k : Out → Option R) : ∀ (n : Nat) (c6 : Int) (out8 : List (List Int)), iterS tt (spec_l2Empty_tab F) (spec_l2Empty_LS0 F) 70 (spec_l2Empty_ls6 F) (loopAt 6 (bodyOf Try.f63)) n (spec_l2Empty_st6 r5 b7 c6 out8) k = loopC (spec_l2Empty_s6 F r5 b7) n (c6, out8) (fun x => (spec_l2Empty_o6 r5 b7 x).run k)
  | 0, c6, out8 => rfl
  | n + 1, c6, out8 => (iterS_succ tt (spec_l2Empty_tab F) (spec_l2Empty_LS0 F) 70 (spec_l2Empty_ls6 F) (loopAt 6 (bodyOf Try.f63)) n (spec_l2Empty_st6 r5 b7 c6 out8) k).trans ((spec_l2Empty_step6 F r5 b7 c6 out8 (nextK (iterS tt (spec_l2Empty_tab F) (spec_l2Empty_LS0 F) 70 (spec_l2Empty_ls6 F) (loopAt 6 (bodyOf Try.f63)) n) k)).trans (congrArg (fun kn => spec_l2Empty_s6 F r5 b7 R (c6, out8) kn _) (funext (fun ⟨c6, out8⟩ => spec_l2Empty_iter6 F r5 b7 k n c6 out8))))
theorem spec_l2Empty_lok6 (F : Nat) : LoopOK Try.prog (loopAt 6 (bodyOf Try.f63)) (spec_l2Empty_ls6 F) := by
  refine loopOK_of mixed ttok deep (spec_l2Empty_tabok F) (loopsOK_at (spec_l2Empty_lsok0 F) 6) (fuel := 70) fun R vals mem np killed k x h => ?_
  simp only [spec_l2Empty_ls6] at h
  split at h
  · rename_i q_out4 r5 c6 b7 out8
    simp only [GT.run] at h
    have hc := (cond_noneL h).1
    replace h := (cond_noneL h).2
    have hg := (and_split hc).1
    replace hc := (and_split hc).2
    obtain rfl := nbeq_nat hg
    refine ⟨F, (spec_l2Empty_iter6 F r5 b7 k F c6 out8).trans ((loopC_use (spec_l2Empty_s6_nat F r5 b7) hc _).trans h)⟩
  · simp only [GT.run] at h
    cases h
noncomputable def spec_l2Empty_LS1 (F : Nat) : LT := (6, spec_l2Empty_ls6 F) :: spec_l2Empty_LS0 F
theorem spec_l2Empty_lsok1 (F : Nat) : LoopsOK Try.prog (spec_l2Empty_LS1 F) (bodyOf Try.f63) := loopsOK_cons spec_l2Empty_keys (spec_l2Empty_lok6 F) (spec_l2Empty_lsok0 F)
def spec_l2Empty_st3 (b6 : List Int) (r5 : Int) (out7 : List (List Int)) : St := ⟨expand 29 0 [1, 3, 4] [(.ptr 0 0 0 16), (.sl 1 0 (List.length out7)), (.int .i64 r5)], [(.var 16 (.ri .i64 b6)), (.vec 26 (.rr 2 out7))], 0, []⟩
def spec_l2Empty_o3 (b6 : List Int) (x : List (List Int)) : GT := (.out (.exit 0 ⟨expand 29 0 [3] [(.sl 0 0 (List.length x))], [(.vec 26 (.rr 2 x))], 0, []⟩))
def spec_l2Empty_ls3 (F : Nat) : LoopS := ⟨29, [1, 3, 4], [], [3], [], [2], [], [], fun vals mem np killed => match vals, mem, np, killed with
  | [(.ptr 0 0 0 16), (.sl 1 0 q_out4), (.int .i64 r5)], [(.var 16 (.ri .i64 b6)), (.vec 26 (.rr 2 out7))], 0, [] => .br ((Nat.beq q_out4 (List.length out7)) && (spec_l2Empty_l3 F b6 r5 out7).isSome) (spec_l2Empty_o3 b6 ((spec_l2Empty_l3 F b6 r5 out7).getD default)) .fail
  | _, _, _, _ => .fail⟩
theorem spec_l2Empty_step3 (F : Nat) (b6 : List Int) (r5 : Int) (out7 : List (List Int)) {R : Type} (k : Out → Option R) : stepS tt (spec_l2Empty_tab F) (spec_l2Empty_LS1 F) 70 (spec_l2Empty_ls3 F) (loopAt 3 (bodyOf Try.f63)) (spec_l2Empty_st3 b6 r5 out7) k = spec_l2Empty_s3 F b6 R (r5, out7) (fun s => k (.norm (spec_l2Empty_st3 b6 s.1 s.2))) (fun x => (spec_l2Empty_o3 b6 x).run k) := by kernel_rfl
theorem spec_l2Empty_iter3 (F : Nat) (b6 : List Int) {R : Type} (k : Out → Option R) : ∀ (n : Nat) (r5 : Int) (out7 : List (List Int)), iterS tt (spec_l2Empty_tab F) (spec_l2Empty_LS1 F) 70 (spec_l2Empty_ls3 F) (loopAt 3 (bodyOf Try.f63)) n (spec_l2Empty_st3 b6 r5 out7) k = loopC (spec_l2Empty_s3 F b6) n (r5, out7) (fun x => (spec_l2Empty_o3 b6 x).run k)
  | 0, r5, out7 => rfl
  | n + 1, r5, out7 => (iterS_succ tt (spec_l2Empty_tab F) (spec_l2Empty_LS1 F) 70 (spec_l2Empty_ls3 F) (loopAt 3 (bodyOf Try.f63)) n (spec_l2Empty_st3 b6 r5 out7) k).trans ((spec_l2Empty_step3 F b6 r5 out7 (nextK (iterS tt (spec_l2Empty_tab F) (spec_l2Empty_LS1 F) 70 (spec_l2Empty_ls3 F) (loopAt 3 (bodyOf Try.f63)) n) k)).trans (congrArg (fun kn => spec_l2Empty_s3 F b6 R (r5, out7) kn _) (funext (fun ⟨r5, out7⟩ => spec_l2Empty_iter3 F b6 k n r5 out7))))
theorem spec_l2Empty_lok3 (F : Nat) : LoopOK Try.prog (loopAt 3 (bodyOf Try.f63)) (spec_l2Empty_ls3 F) := by
  refine loopOK_of mixed ttok deep (spec_l2Empty_tabok F) (loopsOK_at (spec_l2Empty_lsok1 F) 3) (fuel := 70) fun R vals mem np killed k x h => ?_
  simp only [spec_l2Empty_ls3] at h
  split at h
  · rename_i q_out4 r5 b6 out7
    simp only [GT.run] at h
    have hc := (cond_noneL h).1
    replace h := (cond_noneL h).2
    have hg := (and_split hc).1
    replace hc := (and_split hc).2
    obtain rfl := nbeq_nat hg
    refine ⟨F, (spec_l2Empty_iter3 F b6 k F r5 out7).trans ((loopC_use (spec_l2Empty_s3_nat F b6) hc _).trans h)⟩
  · simp only [GT.run] at h
    cases h
noncomputable def spec_l2Empty_LS2 (F : Nat) : LT := (3, spec_l2Empty_ls3 F) :: spec_l2Empty_LS1 F
theorem spec_l2Empty_lsok2 (F : Nat) : LoopsOK Try.prog (spec_l2Empty_LS2 F) (bodyOf Try.f63) := loopsOK_cons spec_l2Empty_keys (spec_l2Empty_lok3 F) (spec_l2Empty_lsok1 F)
theorem spec_l2Empty_run (F : Nat) (b0 : List Int) : runS tt (spec_l2Empty_tab F) (spec_l2Empty_LS2 F) [] [] Try.f63 (bodyOf Try.f63) 70 [(.ints 16 b0)] [] = spec_l2Empty_c _ F b0 (fun r => some ⟨(.sl 0 0 (List.length r)), [(.vec 26 (.rr 2 r))], []⟩) := by kernel_rfl
def spec_l2Empty_ent (F : Nat) : Ent := ⟨[], .fresh, fun args mem => match args, mem with
  | [(.ints 16 b0)], [] => some ((spec_l2Empty_p F b0).isSome, ⟨(.sl 0 0 (List.length ((spec_l2Empty_p F b0).getD default))), [(.vec 26 (.rr 2 ((spec_l2Empty_p F b0).getD default)))], []⟩)
  | _, _ => none⟩
theorem spec_l2Empty_fok : FunOK Try.prog 63 := funOK Try.func63 (by kernel_rfl) rfl
theorem spec_l2Empty_meets (F : Nat) : Meets Try.prog 63 (spec_l2Empty_ent F) := by
  refine meets_of_runS mixed ttok deep (spec_l2Empty_tabok F) Try.func63 (body_some rfl) (spec_l2Empty_lsok2 F) fun args mem hfit ret h => ?_
  clear hfit
  simp only [spec_l2Empty_ent] at h
  split at h
  · rename_i b0
    simp only [Option.some.injEq, Prod.mk.injEq] at h
    obtain ⟨hc, rfl⟩ := h
    exact ⟨[], [], 70, _, (spec_l2Empty_run F b0).trans ((spec_l2Empty_cp _ F b0 _).trans (bind_use hc _)), rfl, rfl, rfl⟩
  · cases h

/-! loop.example/g01194/spec.l5Steps -/
noncomputable def spec_l5Steps_tab (F : Nat) : Tab := [(34, (spec_l2Slide_ent F)), (63, (spec_l2Empty_ent F))]
theorem spec_l5Steps_tabok (F : Nat) : TabOK Try.prog (spec_l5Steps_tab F) := (tab_cons (spec_l2Slide_meets F) spec_l2Slide_fok (tab_cons (spec_l2Empty_meets F) spec_l2Empty_fok tab_nil))
noncomputable def spec_l5Steps_LS0 (F : Nat) : LT := []
theorem spec_l5Steps_lsok0 (F : Nat) : LoopsOK Try.prog (spec_l5Steps_LS0 F) (bodyOf Try.f35) := loopsOK_nil
theorem spec_l5Steps_keys : keysOK (bodyOf Try.f35) = true := by kernel_rfl
def spec_l5Steps_st7 (d0 : Int) (empty7 : List (List Int)) (i5 : Int) (out6 : List (List Int)) : St := ⟨expand 45 0 [1, 5, 8, 9] [(.int .i64 d0), (.sl 0 0 (List.length out6)), (.sl 1 0 (List.length empty7)), (.int .i64 i5)], [(.vec 64 (.rr 4 out6)), (.vec 26 (.rr 2 empty7))], 0, []⟩
def spec_l5Steps_o7 (d0 : Int) (empty7 : List (List Int)) (x : List (List Int)) : GT := (.out (.exit 0 ⟨expand 45 0 [5] [(.sl 0 0 (List.length x))], [(.vec 64 (.rr 4 x))], 0, []⟩))
def spec_l5Steps_ls7 (F : Nat) : LoopS := ⟨45, [1, 5, 8, 9], [], [5], [], [4], [], [], fun vals mem np killed => match vals, mem, np, killed with
  | [(.int .i64 d0), (.sl 0 0 q_out2), (.sl 1 0 q_empty4), (.int .i64 i5)], [(.vec 64 (.rr 4 out6)), (.vec 26 (.rr 2 empty7))], 0, [] => .br ((Nat.beq q_out2 (List.length out6)) && ((Nat.beq q_empty4 (List.length empty7)) && (spec_l5Steps_l7 F d0 empty7 i5 out6).isSome)) (spec_l5Steps_o7 d0 empty7 ((spec_l5Steps_l7 F d0 empty7 i5 out6).getD default)) .fail
  | _, _, _, _ => .fail⟩
theorem spec_l5Steps_step7 (F : Nat) (d0 : Int) (empty7 : List (List Int)) (i5 : Int) (out6 : List (List Int)) {R : Type} (k : Out → Option R) : stepS tt (spec_l5Steps_tab F) (spec_l5Steps_LS0 F) 70 (spec_l5Steps_ls7 F) (loopAt 7 (bodyOf Try.f35)) (spec_l5Steps_st7 d0 empty7 i5 out6) k = spec_l5Steps_s7 F d0 empty7 R (i5, out6) (fun s => k (.norm (spec_l5Steps_st7 d0 empty7 s.1 s.2))) (fun x => (spec_l5Steps_o7 d0 empty7 x).run k) := by kernel_rfl
theorem spec_l5Steps_iter7 (F : Nat) (d0 : Int) (empty7 : List (List Int)) {R : Type} (k : Out → Option R) : ∀ (n : Nat) (i5 : Int) (out6 : List (List Int)), iterS tt (spec_l5Steps_tab F) (spec_l5Steps_LS0 F) 70 (spec_l5Steps_ls7 F) (loopAt 7 (bodyOf Try.f35)) n (spec_l5Steps_st7 d0 empty7 i5 out6) k = loopC (spec_l5Steps_s7 F d0 empty7) n (i5, out6) (fun x => (spec_l5Steps_o7 d0 empty7 x).run k)
  | 0, i5, out6 => rfl
  | n + 1, i5, out6 => (iterS_succ tt (spec_l5Steps_tab F) (spec_l5Steps_LS0 F) 70 (spec_l5Steps_ls7 F) (loopAt 7 (bodyOf Try.f35)) n (spec_l5Steps_st7 d0 empty7 i5 out6) k).trans ((spec_l5Steps_step7 F d0 empty7 i5 out6 (nextK (iterS tt (spec_l5Steps_tab F) (spec_l5Steps_LS0 F) 70 (spec_l5Steps_ls7 F) (loopAt 7 (bodyOf Try.f35)) n) k)).trans (congrArg (fun kn => spec_l5Steps_s7 F d0 empty7 R (i5, out6) kn _) (funext (fun ⟨i5, out6⟩ => spec_l5Steps_iter7 F d0 empty7 k n i5 out6))))
theorem spec_l5Steps_lok7 (F : Nat) : LoopOK Try.prog (loopAt 7 (bodyOf Try.f35)) (spec_l5Steps_ls7 F) := by
  refine loopOK_of mixed ttok deep (spec_l5Steps_tabok F) (loopsOK_at (spec_l5Steps_lsok0 F) 7) (fuel := 70) fun R vals mem np killed k x h => ?_
  simp only [spec_l5Steps_ls7] at h
  split at h
  · rename_i d0 q_out2 q_empty4 i5 out6 empty7
    simp only [GT.run] at h
    have hc := (cond_noneL h).1
    replace h := (cond_noneL h).2
    have hg := (and_split hc).1
    replace hc := (and_split hc).2
    obtain rfl := nbeq_nat hg
    have hg := (and_split hc).1
    replace hc := (and_split hc).2
    obtain rfl := nbeq_nat hg
    refine ⟨F, (spec_l5Steps_iter7 F d0 empty7 k F i5 out6).trans ((loopC_use (spec_l5Steps_s7_nat F d0 empty7) hc _).trans h)⟩
  · simp only [GT.run] at h
    cases h
noncomputable def spec_l5Steps_LS1 (F : Nat) : LT := (7, spec_l5Steps_ls7 F) :: spec_l5Steps_LS0 F
theorem spec_l5Steps_lsok1 (F : Nat) : LoopsOK Try.prog (spec_l5Steps_LS1 F) (bodyOf Try.f35) := loopsOK_cons spec_l5Steps_keys (spec_l5Steps_lok7 F) (spec_l5Steps_lsok0 F)
theorem spec_l5Steps_run (F : Nat) (b0 : List Int) (d1 : Int) : runS tt (spec_l5Steps_tab F) (spec_l5Steps_LS1 F) [] [] Try.f35 (bodyOf Try.f35) 70 [(.ints 16 b0), (.int .i64 d1)] [] = spec_l5Steps_c _ F b0 d1 (fun r => some ⟨(.sl 0 0 (List.length r)), [(.vec 64 (.rr 4 r))], []⟩) := by kernel_rfl
def spec_l5Steps_ent (F : Nat) : Ent := ⟨[], .fresh, fun args mem => match args, mem with
  | [(.ints 16 b0), (.int .i64 d1)], [] => some ((spec_l5Steps_p F b0 d1).isSome, ⟨(.sl 0 0 (List.length ((spec_l5Steps_p F b0 d1).getD default))), [(.vec 64 (.rr 4 ((spec_l5Steps_p F b0 d1).getD default)))], []⟩)
  | _, _ => none⟩
theorem spec_l5Steps_fok : FunOK Try.prog 35 := funOK Try.func35 (by kernel_rfl) rfl
theorem spec_l5Steps_meets (F : Nat) : Meets Try.prog 35 (spec_l5Steps_ent F) := by
  refine meets_of_runS mixed ttok deep (spec_l5Steps_tabok F) Try.func35 (body_some rfl) (spec_l5Steps_lsok1 F) fun args mem hfit ret h => ?_
  clear hfit
  simp only [spec_l5Steps_ent] at h
  split at h
  · rename_i b0 d1
    simp only [Option.some.injEq, Prod.mk.injEq] at h
    obtain ⟨hc, rfl⟩ := h
    exact ⟨[], [], 70, _, (spec_l5Steps_run F b0 d1).trans ((spec_l5Steps_cp _ F b0 d1 _).trans (bind_use hc _)), rfl, rfl, rfl⟩
  · cases h

/-! loop.example/g01194/spec.l2Side -/
noncomputable def spec_l2Side_tab (F : Nat) : Tab := [(18, (spec_l1In_ent F))]
theorem spec_l2Side_tabok (F : Nat) : TabOK Try.prog (spec_l2Side_tab F) := (tab_cons (spec_l1In_meets F) spec_l1In_fok tab_nil)
noncomputable def spec_l2Side_LS0 (F : Nat) : LT := []
theorem spec_l2Side_lsok0 (F : Nat) : LoopsOK Try.prog (spec_l2Side_LS0 F) (bodyOf Try.f79) := loopsOK_nil
theorem spec_l2Side_run (F : Nat) (d0 : Int) : runS tt (spec_l2Side_tab F) (spec_l2Side_LS0 F) [] [] Try.f79 (bodyOf Try.f79) 70 [(.int .i64 d0)] [] = spec_l2Side_c _ d0 (fun r => some ⟨(.bool r), [], []⟩) := by kernel_rfl
def spec_l2Side_ent (F : Nat) : Ent := ⟨[], .quiet, fun args mem => match args, mem with
  | [(.int .i64 d0)], [] => some (true, ⟨(.bool (spec_l2Side_v d0)), [], []⟩)
  | _, _ => none⟩
theorem spec_l2Side_fok : FunOK Try.prog 79 := funOK Try.func79 (by kernel_rfl) rfl
theorem spec_l2Side_meets (F : Nat) : Meets Try.prog 79 (spec_l2Side_ent F) := by
  refine meets_of_runS mixed ttok deep (spec_l2Side_tabok F) Try.func79 (body_some rfl) (spec_l2Side_lsok0 F) fun args mem hfit ret h => ?_
  clear hfit
  simp only [spec_l2Side_ent] at h
  split at h
  · rename_i d0
    simp only [Option.some.injEq, Prod.mk.injEq] at h
    obtain ⟨hc, rfl⟩ := h
    exact ⟨[], [], 70, _, (spec_l2Side_run F d0).trans (spec_l2Side_cv _ d0 _), rfl, rfl, rfl⟩
  · cases h

/-! loop.example/g01194/spec.l2Cell -/
noncomputable def spec_l2Cell_tab (F : Nat) : Tab := [(18, (spec_l1In_ent F))]
theorem spec_l2Cell_tabok (F : Nat) : TabOK Try.prog (spec_l2Cell_tab F) := (tab_cons (spec_l1In_meets F) spec_l1In_fok tab_nil)
noncomputable def spec_l2Cell_LS0 (F : Nat) : LT := []
theorem spec_l2Cell_lsok0 (F : Nat) : LoopsOK Try.prog (spec_l2Cell_LS0 F) (bodyOf Try.f80) := loopsOK_nil
theorem spec_l2Cell_run (F : Nat) (cell0 : List Int) : runS tt (spec_l2Cell_tab F) (spec_l2Cell_LS0 F) [] [] Try.f80 (bodyOf Try.f80) 70 [(.ints 2 cell0)] [] = spec_l2Cell_c _ cell0 (fun r => some ⟨(.bool r), [], []⟩) := by kernel_rfl
def spec_l2Cell_ent (F : Nat) : Ent := ⟨[], .quiet, fun args mem => match args, mem with
  | [(.ints 2 cell0)], [] => some (true, ⟨(.bool (spec_l2Cell_v cell0)), [], []⟩)
  | _, _ => none⟩
theorem spec_l2Cell_fok : FunOK Try.prog 80 := funOK Try.func80 (by kernel_rfl) rfl
theorem spec_l2Cell_meets (F : Nat) : Meets Try.prog 80 (spec_l2Cell_ent F) := by
  refine meets_of_runS mixed ttok deep (spec_l2Cell_tabok F) Try.func80 (body_some rfl) (spec_l2Cell_lsok0 F) fun args mem hfit ret h => ?_
  clear hfit
  simp only [spec_l2Cell_ent] at h
  split at h
  · rename_i cell0
    simp only [Option.some.injEq, Prod.mk.injEq] at h
    obtain ⟨hc, rfl⟩ := h
    exact ⟨[], [], 70, _, (spec_l2Cell_run F cell0).trans (spec_l2Cell_cv _ cell0 _), rfl, rfl, rfl⟩
  · cases h

/-! loop.example/g01194/spec.l5Do -/
noncomputable def spec_l5Do_tab (F : Nat) : Tab := [(79, (spec_l2Side_ent F)), (80, (spec_l2Cell_ent F)), (18, (spec_l1In_ent F)), (34, (spec_l2Slide_ent F)), (78, (spec_l2At_ent F)), (62, (spec_l2Put_ent F))]
theorem spec_l5Do_tabok (F : Nat) : TabOK Try.prog (spec_l5Do_tab F) := (tab_cons (spec_l2Side_meets F) spec_l2Side_fok (tab_cons (spec_l2Cell_meets F) spec_l2Cell_fok (tab_cons (spec_l1In_meets F) spec_l1In_fok (tab_cons (spec_l2Slide_meets F) spec_l2Slide_fok (tab_cons (spec_l2At_meets F) spec_l2At_fok (tab_cons (spec_l2Put_meets F) spec_l2Put_fok tab_nil))))))
noncomputable def spec_l5Do_LS0 (F : Nat) : LT := []
theorem spec_l5Do_lsok0 (F : Nat) : LoopsOK Try.prog (spec_l5Do_LS0 F) (bodyOf Try.f64) := loopsOK_nil
theorem spec_l5Do_run (F : Nat) (b0 : List Int) (s1 : List Int) : runS tt (spec_l5Do_tab F) (spec_l5Do_LS0 F) [] [] Try.f64 (bodyOf Try.f64) 70 [(.ints 16 b0), (.ints 4 s1)] [] = spec_l5Do_c _ F b0 s1 (fun r => some ⟨(.tup [(.ints 16 r.1), (.int .i64 r.2.1), (.bool r.2.2)]), [], []⟩) := by kernel_rfl
def spec_l5Do_ent (F : Nat) : Ent := ⟨[], .quiet, fun args mem => match args, mem with
  | [(.ints 16 b0), (.ints 4 s1)], [] => some ((spec_l5Do_p F b0 s1).isSome, ⟨(.tup [(.ints 16 ((spec_l5Do_p F b0 s1).getD default).1), (.int .i64 ((spec_l5Do_p F b0 s1).getD default).2.1), (.bool ((spec_l5Do_p F b0 s1).getD default).2.2)]), [], []⟩)
  | _, _ => none⟩
theorem spec_l5Do_fok : FunOK Try.prog 64 := funOK Try.func64 (by kernel_rfl) rfl
theorem spec_l5Do_meets (F : Nat) : Meets Try.prog 64 (spec_l5Do_ent F) := by
  refine meets_of_runS mixed ttok deep (spec_l5Do_tabok F) Try.func64 (body_some rfl) (spec_l5Do_lsok0 F) fun args mem hfit ret h => ?_
  clear hfit
  simp only [spec_l5Do_ent] at h
  split at h
  · rename_i b0 s1
    simp only [Option.some.injEq, Prod.mk.injEq] at h
    obtain ⟨hc, rfl⟩ := h
    exact ⟨[], [], 70, _, (spec_l5Do_run F b0 s1).trans ((spec_l5Do_cp _ F b0 s1 _).trans (bind_use hc _)), rfl, rfl, rfl⟩
  · cases h

/-! loop.example/g01194/spec.l9Boards -/
noncomputable def spec_l9Boards_tab (F : Nat) : Tab := [(64, (spec_l5Do_ent F))]
theorem spec_l9Boards_tabok (F : Nat) : TabOK Try.prog (spec_l9Boards_tab F) := (tab_cons (spec_l5Do_meets F) spec_l5Do_fok tab_nil)
noncomputable def spec_l9Boards_LS0 (F : Nat) : LT := []
theorem spec_l9Boards_lsok0 (F : Nat) : LoopsOK Try.prog (spec_l9Boards_LS0 F) (bodyOf Try.f36) := loopsOK_nil
theorem spec_l9Boards_keys : keysOK (bodyOf Try.f36) = true := by kernel_rfl
def spec_l9Boards_st3 (steps0 : List (List Int)) (b7 : List Int) (i6 : Int) (out8 : List (List Int)) : St := ⟨expand 32 0 [1, 2, 5, 6] [(.rr 4 steps0), (.ptr 0 0 0 16), (.sl 1 0 (List.length out8)), (.int .i64 i6)], [(.var 16 (.ri .i64 b7)), (.vec 29 (.rr 16 out8))], 0, []⟩
def spec_l9Boards_o3 (steps0 : List (List Int)) (b7 : List Int) (x : List (List Int)) : GT := (.out (.exit 0 ⟨expand 32 0 [5] [(.sl 0 0 (List.length x))], [(.vec 29 (.rr 16 x))], 0, []⟩))
def spec_l9Boards_ls3 (F : Nat) : LoopS := ⟨32, [1, 2, 5, 6], [], [5], [], [4], [], [], fun vals mem np killed => match vals, mem, np, killed with
  | [(.rr 4 steps0), (.ptr 0 0 0 16), (.sl 1 0 q_out5), (.int .i64 i6)], [(.var 16 (.ri .i64 b7)), (.vec 29 (.rr 16 out8))], 0, [] => .br ((Nat.beq q_out5 (List.length out8)) && (spec_l9Boards_l3 F steps0 b7 i6 out8).isSome) (spec_l9Boards_o3 steps0 b7 ((spec_l9Boards_l3 F steps0 b7 i6 out8).getD default)) .fail
  | _, _, _, _ => .fail⟩
theorem spec_l9Boards_step3 (F : Nat) (steps0 : List (List Int)) (b7 : List Int) (i6 : Int) (out8 : List (List Int)) {R : Type} (k : Out → Option R) : stepS tt (spec_l9Boards_tab F) (spec_l9Boards_LS0 F) 70 (spec_l9Boards_ls3 F) (loopAt 3 (bodyOf Try.f36)) (spec_l9Boards_st3 steps0 b7 i6 out8) k = spec_l9Boards_s3 F steps0 b7 R (i6, out8) (fun s => k (.norm (spec_l9Boards_st3 steps0 b7 s.1 s.2))) (fun x => (spec_l9Boards_o3 steps0 b7 x).run k) := by kernel_rfl
theorem spec_l9Boards_iter3 (F : Nat) (steps0 : List (List Int)) (b7 : List Int) {R : Type} (k : Out → Option R) : ∀ (n : Nat) (i6 : Int) (out8 : List (List Int)), iterS tt (spec_l9Boards_tab F) (spec_l9Boards_LS0 F) 70 (spec_l9Boards_ls3 F) (loopAt 3 (bodyOf Try.f36)) n (spec_l9Boards_st3 steps0 b7 i6 out8) k = loopC (spec_l9Boards_s3 F steps0 b7) n (i6, out8) (fun x => (spec_l9Boards_o3 steps0 b7 x).run k)
  | 0, i6, out8 => rfl
  | n + 1, i6, out8 => (iterS_succ tt (spec_l9Boards_tab F) (spec_l9Boards_LS0 F) 70 (spec_l9Boards_ls3 F) (loopAt 3 (bodyOf Try.f36)) n (spec_l9Boards_st3 steps0 b7 i6 out8) k).trans ((spec_l9Boards_step3 F steps0 b7 i6 out8 (nextK (iterS tt (spec_l9Boards_tab F) (spec_l9Boards_LS0 F) 70 (spec_l9Boards_ls3 F) (loopAt 3 (bodyOf Try.f36)) n) k)).trans (congrArg (fun kn => spec_l9Boards_s3 F steps0 b7 R (i6, out8) kn _) (funext (fun ⟨i6, out8⟩ => spec_l9Boards_iter3 F steps0 b7 k n i6 out8))))
theorem spec_l9Boards_lok3 (F : Nat) : LoopOK Try.prog (loopAt 3 (bodyOf Try.f36)) (spec_l9Boards_ls3 F) := by
  refine loopOK_of mixed ttok deep (spec_l9Boards_tabok F) (loopsOK_at (spec_l9Boards_lsok0 F) 3) (fuel := 70) fun R vals mem np killed k x h => ?_
  simp only [spec_l9Boards_ls3] at h
  split at h
  · rename_i steps0 q_out5 i6 b7 out8
    simp only [GT.run] at h
    have hc := (cond_noneL h).1
    replace h := (cond_noneL h).2
    have hg := (and_split hc).1
    replace hc := (and_split hc).2
    obtain rfl := nbeq_nat hg
    refine ⟨F, (spec_l9Boards_iter3 F steps0 b7 k F i6 out8).trans ((loopC_use (spec_l9Boards_s3_nat F steps0 b7) hc _).trans h)⟩
  · simp only [GT.run] at h
    cases h
noncomputable def spec_l9Boards_LS1 (F : Nat) : LT := (3, spec_l9Boards_ls3 F) :: spec_l9Boards_LS0 F
theorem spec_l9Boards_lsok1 (F : Nat) : LoopsOK Try.prog (spec_l9Boards_LS1 F) (bodyOf Try.f36) := loopsOK_cons spec_l9Boards_keys (spec_l9Boards_lok3 F) (spec_l9Boards_lsok0 F)
theorem spec_l9Boards_run (F : Nat) (b0 : List Int) (steps1 : List (List Int)) : runS tt (spec_l9Boards_tab F) (spec_l9Boards_LS1 F) [] [] Try.f36 (bodyOf Try.f36) 70 [(.ints 16 b0), (.rr 4 steps1)] [] = spec_l9Boards_c _ F b0 steps1 (fun r => some ⟨(.sl 0 0 (List.length r)), [(.vec 29 (.rr 16 r))], []⟩) := by kernel_rfl
def spec_l9Boards_ent (F : Nat) : Ent := ⟨[], .fresh, fun args mem => match args, mem with
  | [(.ints 16 b0), (.rr 4 steps1)], [] => some ((spec_l9Boards_p F b0 steps1).isSome, ⟨(.sl 0 0 (List.length ((spec_l9Boards_p F b0 steps1).getD default))), [(.vec 29 (.rr 16 ((spec_l9Boards_p F b0 steps1).getD default)))], []⟩)
  | _, _ => none⟩
theorem spec_l9Boards_fok : FunOK Try.prog 36 := funOK Try.func36 (by kernel_rfl) rfl
theorem spec_l9Boards_meets (F : Nat) : Meets Try.prog 36 (spec_l9Boards_ent F) := by
  refine meets_of_runS mixed ttok deep (spec_l9Boards_tabok F) Try.func36 (body_some rfl) (spec_l9Boards_lsok1 F) fun args mem hfit ret h => ?_
  clear hfit
  simp only [spec_l9Boards_ent] at h
  split at h
  · rename_i b0 steps1
    simp only [Option.some.injEq, Prod.mk.injEq] at h
    obtain ⟨hc, rfl⟩ := h
    exact ⟨[], [], 70, _, (spec_l9Boards_run F b0 steps1).trans ((spec_l9Boards_cp _ F b0 steps1 _).trans (bind_use hc _)), rfl, rfl, rfl⟩
  · cases h

/-! loop.example/g01194/spec.l9Weight -/
noncomputable def spec_l9Weight_tab (F : Nat) : Tab := []
theorem spec_l9Weight_tabok (F : Nat) : TabOK Try.prog (spec_l9Weight_tab F) := tab_nil
noncomputable def spec_l9Weight_LS0 (F : Nat) : LT := []
theorem spec_l9Weight_lsok0 (F : Nat) : LoopsOK Try.prog (spec_l9Weight_LS0 F) (bodyOf Try.f39) := loopsOK_nil
theorem spec_l9Weight_run (F : Nat) (s0 : List Int) : runS tt (spec_l9Weight_tab F) (spec_l9Weight_LS0 F) [] [] Try.f39 (bodyOf Try.f39) 70 [(.ints 4 s0)] [] = spec_l9Weight_c _ s0 (fun r => some ⟨(.int .i64 r), [], []⟩) := by kernel_rfl
def spec_l9Weight_ent (F : Nat) : Ent := ⟨[], .quiet, fun args mem => match args, mem with
  | [(.ints 4 s0)], [] => some (true, ⟨(.int .i64 (spec_l9Weight_v s0)), [], []⟩)
  | _, _ => none⟩
theorem spec_l9Weight_fok : FunOK Try.prog 39 := funOK Try.func39 (by kernel_rfl) rfl
theorem spec_l9Weight_meets (F : Nat) : Meets Try.prog 39 (spec_l9Weight_ent F) := by
  refine meets_of_runS mixed ttok deep (spec_l9Weight_tabok F) Try.func39 (body_some rfl) (spec_l9Weight_lsok0 F) fun args mem hfit ret h => ?_
  clear hfit
  simp only [spec_l9Weight_ent] at h
  split at h
  · rename_i s0
    simp only [Option.some.injEq, Prod.mk.injEq] at h
    obtain ⟨hc, rfl⟩ := h
    exact ⟨[], [], 70, _, (spec_l9Weight_run F s0).trans (spec_l9Weight_cv _ s0 _), rfl, rfl, rfl⟩
  · cases h

/-! loop.example/g01194/spec.l1Most -/
noncomputable def spec_l1Most_tab (F : Nat) : Tab := []
theorem spec_l1Most_tabok (F : Nat) : TabOK Try.prog (spec_l1Most_tab F) := tab_nil
noncomputable def spec_l1Most_LS0 (F : Nat) : LT := []
theorem spec_l1Most_lsok0 (F : Nat) : LoopsOK Try.prog (spec_l1Most_LS0 F) (bodyOf Try.f81) := loopsOK_nil
theorem spec_l1Most_run (F : Nat) (a0 : Int) (b1 : Int) : runS tt (spec_l1Most_tab F) (spec_l1Most_LS0 F) [] [] Try.f81 (bodyOf Try.f81) 70 [(.int .i64 a0), (.int .i64 b1)] [] = spec_l1Most_c _ a0 b1 (fun r => some ⟨(.int .i64 r), [], []⟩) := by kernel_rfl
def spec_l1Most_ent (F : Nat) : Ent := ⟨[], .quiet, fun args mem => match args, mem with
  | [(.int .i64 a0), (.int .i64 b1)], [] => some (true, ⟨(.int .i64 (spec_l1Most_v a0 b1)), [], []⟩)
  | _, _ => none⟩
theorem spec_l1Most_fok : FunOK Try.prog 81 := funOK Try.func81 (by kernel_rfl) rfl
theorem spec_l1Most_meets (F : Nat) : Meets Try.prog 81 (spec_l1Most_ent F) := by
  refine meets_of_runS mixed ttok deep (spec_l1Most_tabok F) Try.func81 (body_some rfl) (spec_l1Most_lsok0 F) fun args mem hfit ret h => ?_
  clear hfit
  simp only [spec_l1Most_ent] at h
  split at h
  · rename_i a0 b1
    simp only [Option.some.injEq, Prod.mk.injEq] at h
    obtain ⟨hc, rfl⟩ := h
    exact ⟨[], [], 70, _, (spec_l1Most_run F a0 b1).trans (spec_l1Most_cv _ a0 b1 _), rfl, rfl, rfl⟩
  · cases h

/-! loop.example/g01194/spec.l9Cut -/
noncomputable def spec_l9Cut_tab (F : Nat) : Tab := [(81, (spec_l1Most_ent F))]
theorem spec_l9Cut_tabok (F : Nat) : TabOK Try.prog (spec_l9Cut_tab F) := (tab_cons (spec_l1Most_meets F) spec_l1Most_fok tab_nil)
noncomputable def spec_l9Cut_LS0 (F : Nat) : LT := []
theorem spec_l9Cut_lsok0 (F : Nat) : LoopsOK Try.prog (spec_l9Cut_LS0 F) (bodyOf Try.f65) := loopsOK_nil
theorem spec_l9Cut_keys : keysOK (bodyOf Try.f65) = true := by kernel_rfl
def spec_l9Cut_st2 (a0 : Int) (b1 : Int) (x5 : Int) (y6 : Int) : St := ⟨expand 24 0 [0, 1, 4, 5, 6] [(.int .i64 a0), (.int .i64 b1), (.ptr 0 0 0 2), (.int .i64 x5), (.int .i64 y6)], [(.var 2 (.ri .i64 [(0 : Int), (0 : Int)]))], 0, []⟩
def spec_l9Cut_o2 (a0 : Int) (b1 : Int) (x : Int) : GT := (.out (.exit 0 ⟨expand 24 0 [0, 1, 4, 5] [(.int .i64 a0), (.int .i64 b1), (.ptr 0 0 0 2), (.int .i64 x)], [(.var 2 (.ri .i64 [(0 : Int), (0 : Int)]))], 0, []⟩))
def spec_l9Cut_ls2 (F : Nat) : LoopS := ⟨24, [0, 1, 4, 5, 6], [], [0, 1, 4, 5], [], [4], [], [], fun vals mem np killed => match vals, mem, np, killed with
  | [(.int .i64 a0), (.int .i64 b1), (.ptr 0 0 0 2), (.int .i64 x5), (.int .i64 y6)], [(.var 2 (.ri .i64 q_t47))], 0, [] => .br ((q_t47 == ([(0 : Int), (0 : Int)] : List Int)) && (spec_l9Cut_l2 F a0 b1 x5 y6).isSome) (spec_l9Cut_o2 a0 b1 ((spec_l9Cut_l2 F a0 b1 x5 y6).getD default)) .fail
  | _, _, _, _ => .fail⟩
theorem spec_l9Cut_step2 (F : Nat) (a0 : Int) (b1 : Int) (x5 : Int) (y6 : Int) {R : Type} (k : Out → Option R) : stepS tt (spec_l9Cut_tab F) (spec_l9Cut_LS0 F) 70 (spec_l9Cut_ls2 F) (loopAt 2 (bodyOf Try.f65)) (spec_l9Cut_st2 a0 b1 x5 y6) k = spec_l9Cut_s2 F a0 b1 R (x5, y6) (fun s => k (.norm (spec_l9Cut_st2 a0 b1 s.1 s.2))) (fun x => (spec_l9Cut_o2 a0 b1 x).run k) := by kernel_rfl
theorem spec_l9Cut_iter2 (F : Nat) (a0 : Int) (b1 : Int) {R : Type} (k : Out → Option R) : ∀ (n : Nat) (x5 : Int) (y6 : Int), iterS tt (spec_l9Cut_tab F) (spec_l9Cut_LS0 F) 70 (spec_l9Cut_ls2 F) (loopAt 2 (bodyOf Try.f65)) n (spec_l9Cut_st2 a0 b1 x5 y6) k = loopC (spec_l9Cut_s2 F a0 b1) n (x5, y6) (fun x => (spec_l9Cut_o2 a0 b1 x).run k)
  | 0, x5, y6 => rfl
  | n + 1, x5, y6 => (iterS_succ tt (spec_l9Cut_tab F) (spec_l9Cut_LS0 F) 70 (spec_l9Cut_ls2 F) (loopAt 2 (bodyOf Try.f65)) n (spec_l9Cut_st2 a0 b1 x5 y6) k).trans ((spec_l9Cut_step2 F a0 b1 x5 y6 (nextK (iterS tt (spec_l9Cut_tab F) (spec_l9Cut_LS0 F) 70 (spec_l9Cut_ls2 F) (loopAt 2 (bodyOf Try.f65)) n) k)).trans (congrArg (fun kn => spec_l9Cut_s2 F a0 b1 R (x5, y6) kn _) (funext (fun ⟨x5, y6⟩ => spec_l9Cut_iter2 F a0 b1 k n x5 y6))))
theorem spec_l9Cut_lok2 (F : Nat) : LoopOK Try.prog (loopAt 2 (bodyOf Try.f65)) (spec_l9Cut_ls2 F) := by
  refine loopOK_of mixed ttok deep (spec_l9Cut_tabok F) (loopsOK_at (spec_l9Cut_lsok0 F) 2) (fuel := 70) fun R vals mem np killed k x h => ?_
  simp only [spec_l9Cut_ls2] at h
  split at h
  · rename_i a0 b1 x5 y6 q_t47
    simp only [GT.run] at h
    have hc := (cond_noneL h).1
    replace h := (cond_noneL h).2
    have hg := (and_split hc).1
    replace hc := (and_split hc).2
    obtain rfl := beq_li hg
    refine ⟨F, (spec_l9Cut_iter2 F a0 b1 k F x5 y6).trans ((loopC_use (spec_l9Cut_s2_nat F a0 b1) hc _).trans h)⟩
  · simp only [GT.run] at h
    cases h
noncomputable def spec_l9Cut_LS1 (F : Nat) : LT := (2, spec_l9Cut_ls2 F) :: spec_l9Cut_LS0 F
theorem spec_l9Cut_lsok1 (F : Nat) : LoopsOK Try.prog (spec_l9Cut_LS1 F) (bodyOf Try.f65) := loopsOK_cons spec_l9Cut_keys (spec_l9Cut_lok2 F) (spec_l9Cut_lsok0 F)
theorem spec_l9Cut_run (F : Nat) (a0 : Int) (b1 : Int) : runS tt (spec_l9Cut_tab F) (spec_l9Cut_LS1 F) [] [] Try.f65 (bodyOf Try.f65) 70 [(.int .i64 a0), (.int .i64 b1)] [] = spec_l9Cut_c _ F a0 b1 (fun r => some ⟨(.ints 2 r), [], []⟩) := by kernel_rfl
def spec_l9Cut_ent (F : Nat) : Ent := ⟨[], .quiet, fun args mem => match args, mem with
  | [(.int .i64 a0), (.int .i64 b1)], [] => some ((spec_l9Cut_p F a0 b1).isSome, ⟨(.ints 2 ((spec_l9Cut_p F a0 b1).getD default)), [], []⟩)
  | _, _ => none⟩
theorem spec_l9Cut_fok : FunOK Try.prog 65 := funOK Try.func65 (by kernel_rfl) rfl
theorem spec_l9Cut_meets (F : Nat) : Meets Try.prog 65 (spec_l9Cut_ent F) := by
  refine meets_of_runS mixed ttok deep (spec_l9Cut_tabok F) Try.func65 (body_some rfl) (spec_l9Cut_lsok1 F) fun args mem hfit ret h => ?_
  clear hfit
  simp only [spec_l9Cut_ent] at h
  split at h
  · rename_i a0 b1
    simp only [Option.some.injEq, Prod.mk.injEq] at h
    obtain ⟨hc, rfl⟩ := h
    exact ⟨[], [], 70, _, (spec_l9Cut_run F a0 b1).trans ((spec_l9Cut_cp _ F a0 b1 _).trans (bind_use hc _)), rfl, rfl, rfl⟩
  · cases h

/-! loop.example/g01194/spec.l9Part -/
noncomputable def spec_l9Part_tab (F : Nat) : Tab := [(65, (spec_l9Cut_ent F))]
theorem spec_l9Part_tabok (F : Nat) : TabOK Try.prog (spec_l9Part_tab F) := (tab_cons (spec_l9Cut_meets F) spec_l9Cut_fok tab_nil)
noncomputable def spec_l9Part_LS0 (F : Nat) : LT := []
theorem spec_l9Part_lsok0 (F : Nat) : LoopsOK Try.prog (spec_l9Part_LS0 F) (bodyOf Try.f38) := loopsOK_nil
theorem spec_l9Part_run (F : Nat) (f0 : List Int) (weight1 : Int) (all2 : Int) : runS tt (spec_l9Part_tab F) (spec_l9Part_LS0 F) [] [] Try.f38 (bodyOf Try.f38) 70 [(.ints 2 f0), (.int .i64 weight1), (.int .i64 all2)] [] = spec_l9Part_c _ F f0 weight1 all2 (fun r => some ⟨(.ints 2 r), [], []⟩) := by kernel_rfl
def spec_l9Part_ent (F : Nat) : Ent := ⟨[], .quiet, fun args mem => match args, mem with
  | [(.ints 2 f0), (.int .i64 weight1), (.int .i64 all2)], [] => some ((spec_l9Part_p F f0 weight1 all2).isSome, ⟨(.ints 2 ((spec_l9Part_p F f0 weight1 all2).getD default)), [], []⟩)
  | _, _ => none⟩
theorem spec_l9Part_fok : FunOK Try.prog 38 := funOK Try.func38 (by kernel_rfl) rfl
theorem spec_l9Part_meets (F : Nat) : Meets Try.prog 38 (spec_l9Part_ent F) := by
  refine meets_of_runS mixed ttok deep (spec_l9Part_tabok F) Try.func38 (body_some rfl) (spec_l9Part_lsok0 F) fun args mem hfit ret h => ?_
  clear hfit
  simp only [spec_l9Part_ent] at h
  split at h
  · rename_i f0 weight1 all2
    simp only [Option.some.injEq, Prod.mk.injEq] at h
    obtain ⟨hc, rfl⟩ := h
    exact ⟨[], [], 70, _, (spec_l9Part_run F f0 weight1 all2).trans ((spec_l9Part_cp _ F f0 weight1 all2 _).trans (bind_use hc _)), rfl, rfl, rfl⟩
  · cases h

/-! loop.example/g01194/spec.l9Plus -/
noncomputable def spec_l9Plus_tab (F : Nat) : Tab := [(65, (spec_l9Cut_ent F))]
theorem spec_l9Plus_tabok (F : Nat) : TabOK Try.prog (spec_l9Plus_tab F) := (tab_cons (spec_l9Cut_meets F) spec_l9Cut_fok tab_nil)
noncomputable def spec_l9Plus_LS0 (F : Nat) : LT := []
theorem spec_l9Plus_lsok0 (F : Nat) : LoopsOK Try.prog (spec_l9Plus_LS0 F) (bodyOf Try.f37) := loopsOK_nil
theorem spec_l9Plus_run (F : Nat) (a0 : List Int) (b1 : List Int) : runS tt (spec_l9Plus_tab F) (spec_l9Plus_LS0 F) [] [] Try.f37 (bodyOf Try.f37) 70 [(.ints 2 a0), (.ints 2 b1)] [] = spec_l9Plus_c _ F a0 b1 (fun r => some ⟨(.ints 2 r), [], []⟩) := by kernel_rfl
def spec_l9Plus_ent (F : Nat) : Ent := ⟨[], .quiet, fun args mem => match args, mem with
  | [(.ints 2 a0), (.ints 2 b1)], [] => some ((spec_l9Plus_p F a0 b1).isSome, ⟨(.ints 2 ((spec_l9Plus_p F a0 b1).getD default)), [], []⟩)
  | _, _ => none⟩
theorem spec_l9Plus_fok : FunOK Try.prog 37 := funOK Try.func37 (by kernel_rfl) rfl
theorem spec_l9Plus_meets (F : Nat) : Meets Try.prog 37 (spec_l9Plus_ent F) := by
  refine meets_of_runS mixed ttok deep (spec_l9Plus_tabok F) Try.func37 (body_some rfl) (spec_l9Plus_lsok0 F) fun args mem hfit ret h => ?_
  clear hfit
  simp only [spec_l9Plus_ent] at h
  split at h
  · rename_i a0 b1
    simp only [Option.some.injEq, Prod.mk.injEq] at h
    obtain ⟨hc, rfl⟩ := h
    exact ⟨[], [], 70, _, (spec_l9Plus_run F a0 b1).trans ((spec_l9Plus_cp _ F a0 b1 _).trans (bind_use hc _)), rfl, rfl, rfl⟩
  · cases h

/-! loop.example/g01194/spec.l9Score -/
noncomputable def spec_l9Score_n2_tab (F : Nat) : Tab := [(24, (spec_l2Moves_ent F)), (34, (spec_l2Slide_ent F)), (35, (spec_l5Steps_ent F)), (36, (spec_l9Boards_ent F)), (19, (spec_l9Score_n1_ent F)), (39, (spec_l9Weight_ent F)), (38, (spec_l9Part_ent F)), (37, (spec_l9Plus_ent F)), (40, (spec_l9Less_ent F))]
theorem spec_l9Score_n2_tabok (F : Nat) : TabOK Try.prog (spec_l9Score_n2_tab F) := (tab_cons (spec_l2Moves_meets F) spec_l2Moves_fok (tab_cons (spec_l2Slide_meets F) spec_l2Slide_fok (tab_cons (spec_l5Steps_meets F) spec_l5Steps_fok (tab_cons (spec_l9Boards_meets F) spec_l9Boards_fok (tab_cons (spec_l9Score_n1_meets F) spec_l9Score_n1_fok (tab_cons (spec_l9Weight_meets F) spec_l9Weight_fok (tab_cons (spec_l9Part_meets F) spec_l9Part_fok (tab_cons (spec_l9Plus_meets F) spec_l9Plus_fok (tab_cons (spec_l9Less_meets F) spec_l9Less_fok tab_nil)))))))))
noncomputable def spec_l9Score_n2_LS0 (F : Nat) : LT := []
theorem spec_l9Score_n2_lsok0 (F : Nat) : LoopsOK Try.prog (spec_l9Score_n2_LS0 F) (bodyOf Try.f19) := loopsOK_nil
theorem spec_l9Score_n2_keys : keysOK (bodyOf Try.f19) = true := by kernel_rfl
def spec_l9Score_n2_st11 (i12 : Int) (b21 : List Int) (best23 : List Int) (moves24 : List Int) (steps26 : List (List Int)) (all27 : List (List Int)) (k20 : Int) (mean25 : List Int) : St := ⟨expand 78 0 [1, 2, 4, 5, 6, 7, 10, 11, 12, 13] [(.int .i64 (2 : Int)), (.ptr 0 0 0 16), (.ptr 1 0 0 2), (.ptr 2 0 0 2), (.sl 3 0 (List.length moves24)), (.int .i64 i12), (.ptr 4 0 0 2), (.sl 5 0 (List.length steps26)), (.sl 6 0 (List.length all27)), (.int .i64 k20)], [(.var 16 (.ri .i64 b21)), (.var 2 (.ri .i64 [(0 : Int), (0 : Int)])), (.var 2 (.ri .i64 best23)), (.vec 3 (.ri .i64 moves24)), (.var 2 (.ri .i64 mean25)), (.vec 64 (.rr 4 steps26)), (.vec 29 (.rr 16 all27))], 0, []⟩
def spec_l9Score_n2_o11 (i12 : Int) (b21 : List Int) (best23 : List Int) (moves24 : List Int) (steps26 : List (List Int)) (all27 : List (List Int)) (x : List Int) : GT := (.out (.exit 2 ⟨expand 78 0 [1, 2, 4, 5, 6, 7, 10] [(.int .i64 (2 : Int)), (.ptr 0 0 0 16), (.ptr 1 0 0 2), (.ptr 2 0 0 2), (.sl 3 0 (List.length moves24)), (.int .i64 i12), (.ptr 4 0 0 2)], [(.var 16 (.ri .i64 b21)), (.var 2 (.ri .i64 [(0 : Int), (0 : Int)])), (.var 2 (.ri .i64 best23)), (.vec 3 (.ri .i64 moves24)), (.var 2 (.ri .i64 x))], 0, []⟩))
def spec_l9Score_n2_ls11 (F : Nat) : LoopS := ⟨78, [1, 2, 4, 5, 6, 7, 10, 11, 12, 13], [], [1, 2, 4, 5, 6, 7, 10], [], [4], [], [], fun vals mem np killed => match vals, mem, np, killed with
  | [(.int .i64 q_n0), (.ptr 0 0 0 16), (.ptr 1 0 0 2), (.ptr 2 0 0 2), (.sl 3 0 q_moves11), (.int .i64 i12), (.ptr 4 0 0 2), (.sl 5 0 q_steps17), (.sl 6 0 q_all19), (.int .i64 k20)], [(.var 16 (.ri .i64 b21)), (.var 2 (.ri .i64 q_t422)), (.var 2 (.ri .i64 best23)), (.vec 3 (.ri .i64 moves24)), (.var 2 (.ri .i64 mean25)), (.vec 64 (.rr 4 steps26)), (.vec 29 (.rr 16 all27))], 0, [] => .br ((q_n0 == (2 : Int)) && ((q_t422 == ([(0 : Int), (0 : Int)] : List Int)) && ((Nat.beq q_moves11 (List.length moves24)) && ((Nat.beq q_steps17 (List.length steps26)) && ((Nat.beq q_all19 (List.length all27)) && (spec_l9Score_n2_l11 F i12 b21 best23 moves24 steps26 all27 k20 mean25).isSome))))) (spec_l9Score_n2_o11 i12 b21 best23 moves24 steps26 all27 ((spec_l9Score_n2_l11 F i12 b21 best23 moves24 steps26 all27 k20 mean25).getD default)) .fail
  | _, _, _, _ => .fail⟩
theorem spec_l9Score_n2_step11 (F : Nat) (i12 : Int) (b21 : List Int) (best23 : List Int) (moves24 : List Int) (steps26 : List (List Int)) (all27 : List (List Int)) (k20 : Int) (mean25 : List Int) {R : Type} (k : Out → Option R) : stepS tt (spec_l9Score_n2_tab F) (spec_l9Score_n2_LS0 F) 70 (spec_l9Score_n2_ls11 F) (loopAt 11 (bodyOf Try.f19)) (spec_l9Score_n2_st11 i12 b21 best23 moves24 steps26 all27 k20 mean25) k = spec_l9Score_n2_s11 F i12 b21 best23 moves24 steps26 all27 R (k20, mean25) (fun s => k (.norm (spec_l9Score_n2_st11 i12 b21 best23 moves24 steps26 all27 s.1 s.2))) (fun x => (spec_l9Score_n2_o11 i12 b21 best23 moves24 steps26 all27 x).run k) := by kernel_rfl
theorem spec_l9Score_n2_iter11 (F : Nat) (i12 : Int) (b21 : List Int) (best23 : List Int) (moves24 : List Int) (steps26 : List (List Int)) (all27 : List (List Int)) {R : Type} (k : Out → Option R) : ∀ (n : Nat) (k20 : Int) (mean25 : List Int), iterS tt (spec_l9Score_n2_tab F) (spec_l9Score_n2_LS0 F) 70 (spec_l9Score_n2_ls11 F) (loopAt 11 (bodyOf Try.f19)) n (spec_l9Score_n2_st11 i12 b21 best23 moves24 steps26 all27 k20 mean25) k = loopC (spec_l9Score_n2_s11 F i12 b21 best23 moves24 steps26 all27) n (k20, mean25) (fun x => (spec_l9Score_n2_o11 i12 b21 best23 moves24 steps26 all27 x).run k)
  | 0, k20, mean25 => rfl
  | n + 1, k20, mean25 => (iterS_succ tt (spec_l9Score_n2_tab F) (spec_l9Score_n2_LS0 F) 70 (spec_l9Score_n2_ls11 F) (loopAt 11 (bodyOf Try.f19)) n (spec_l9Score_n2_st11 i12 b21 best23 moves24 steps26 all27 k20 mean25) k).trans ((spec_l9Score_n2_step11 F i12 b21 best23 moves24 steps26 all27 k20 mean25 (nextK (iterS tt (spec_l9Score_n2_tab F) (spec_l9Score_n2_LS0 F) 70 (spec_l9Score_n2_ls11 F) (loopAt 11 (bodyOf Try.f19)) n) k)).trans (congrArg (fun kn => spec_l9Score_n2_s11 F i12 b21 best23 moves24 steps26 all27 R (k20, mean25) kn _) (funext (fun ⟨k20, mean25⟩ => spec_l9Score_n2_iter11 F i12 b21 best23 moves24 steps26 all27 k n k20 mean25))))
theorem spec_l9Score_n2_lok11 (F : Nat) : LoopOK Try.prog (loopAt 11 (bodyOf Try.f19)) (spec_l9Score_n2_ls11 F) := by
  refine loopOK_of mixed ttok deep (spec_l9Score_n2_tabok F) (loopsOK_at (spec_l9Score_n2_lsok0 F) 11) (fuel := 70) fun R vals mem np killed k x h => ?_
  simp only [spec_l9Score_n2_ls11] at h
  split at h
  · rename_i q_n0 q_moves11 i12 q_steps17 q_all19 k20 b21 q_t422 best23 moves24 mean25 steps26 all27
    simp only [GT.run] at h
    have hc := (cond_noneL h).1
    replace h := (cond_noneL h).2
    have hg := (and_split hc).1
    replace hc := (and_split hc).2
    obtain rfl := beq_int hg
    have hg := (and_split hc).1
    replace hc := (and_split hc).2
    obtain rfl := beq_li hg
    have hg := (and_split hc).1
    replace hc := (and_split hc).2
    obtain rfl := nbeq_nat hg
    have hg := (and_split hc).1
    replace hc := (and_split hc).2
    obtain rfl := nbeq_nat hg
    have hg := (and_split hc).1
    replace hc := (and_split hc).2
    obtain rfl := nbeq_nat hg
    refine ⟨F, (spec_l9Score_n2_iter11 F i12 b21 best23 moves24 steps26 all27 k F k20 mean25).trans ((loopC_use (spec_l9Score_n2_s11_nat F i12 b21 best23 moves24 steps26 all27) hc _).trans h)⟩
  · simp only [GT.run] at h
    cases h
noncomputable def spec_l9Score_n2_LS1 (F : Nat) : LT := (11, spec_l9Score_n2_ls11 F) :: spec_l9Score_n2_LS0 F
theorem spec_l9Score_n2_lsok1 (F : Nat) : LoopsOK Try.prog (spec_l9Score_n2_LS1 F) (bodyOf Try.f19) := loopsOK_cons spec_l9Score_n2_keys (spec_l9Score_n2_lok11 F) (spec_l9Score_n2_lsok0 F)
def spec_l9Score_n2_st3 (b13 : List Int) (moves16 : List Int) (i12 : Int) (best15 : List Int) : St := ⟨expand 78 0 [1, 2, 4, 5, 6, 7] [(.int .i64 (2 : Int)), (.ptr 0 0 0 16), (.ptr 1 0 0 2), (.ptr 2 0 0 2), (.sl 3 0 (List.length moves16)), (.int .i64 i12)], [(.var 16 (.ri .i64 b13)), (.var 2 (.ri .i64 [(0 : Int), (0 : Int)])), (.var 2 (.ri .i64 best15)), (.vec 3 (.ri .i64 moves16))], 0, []⟩
def spec_l9Score_n2_o3 (b13 : List Int) (moves16 : List Int) (x : List Int) : GT := (.out (.exit 0 ⟨expand 78 0 [4, 5] [(.ptr 0 0 0 2), (.ptr 1 0 0 2)], [(.var 2 (.ri .i64 [(0 : Int), (0 : Int)])), (.var 2 (.ri .i64 x))], 0, []⟩))
def spec_l9Score_n2_ls3 (F : Nat) : LoopS := ⟨78, [1, 2, 4, 5, 6, 7], [], [4, 5], [], [4], [], [], fun vals mem np killed => match vals, mem, np, killed with
  | [(.int .i64 q_n0), (.ptr 0 0 0 16), (.ptr 1 0 0 2), (.ptr 2 0 0 2), (.sl 3 0 q_moves11), (.int .i64 i12)], [(.var 16 (.ri .i64 b13)), (.var 2 (.ri .i64 q_t414)), (.var 2 (.ri .i64 best15)), (.vec 3 (.ri .i64 moves16))], 0, [] => .br ((q_n0 == (2 : Int)) && ((q_t414 == ([(0 : Int), (0 : Int)] : List Int)) && ((Nat.beq q_moves11 (List.length moves16)) && (spec_l9Score_n2_l3 F b13 moves16 i12 best15).isSome))) (spec_l9Score_n2_o3 b13 moves16 ((spec_l9Score_n2_l3 F b13 moves16 i12 best15).getD default)) .fail
  | _, _, _, _ => .fail⟩
theorem spec_l9Score_n2_step3 (F : Nat) (b13 : List Int) (moves16 : List Int) (i12 : Int) (best15 : List Int) {R : Type} (k : Out → Option R) : stepS tt (spec_l9Score_n2_tab F) (spec_l9Score_n2_LS1 F) 70 (spec_l9Score_n2_ls3 F) (loopAt 3 (bodyOf Try.f19)) (spec_l9Score_n2_st3 b13 moves16 i12 best15) k = spec_l9Score_n2_s3 F b13 moves16 R (i12, best15) (fun s => k (.norm (spec_l9Score_n2_st3 b13 moves16 s.1 s.2))) (fun x => (spec_l9Score_n2_o3 b13 moves16 x).run k) := by kernel_rfl
theorem spec_l9Score_n2_iter3 (F : Nat) (b13 : List Int) (moves16 : List Int) {R : Type} (k : Out → Option R) : ∀ (n : Nat) (i12 : Int) (best15 : List Int), iterS tt (spec_l9Score_n2_tab F) (spec_l9Score_n2_LS1 F) 70 (spec_l9Score_n2_ls3 F) (loopAt 3 (bodyOf Try.f19)) n (spec_l9Score_n2_st3 b13 moves16 i12 best15) k = loopC (spec_l9Score_n2_s3 F b13 moves16) n (i12, best15) (fun x => (spec_l9Score_n2_o3 b13 moves16 x).run k)
  | 0, i12, best15 => rfl
  | n + 1, i12, best15 => (iterS_succ tt (spec_l9Score_n2_tab F) (spec_l9Score_n2_LS1 F) 70 (spec_l9Score_n2_ls3 F) (loopAt 3 (bodyOf Try.f19)) n (spec_l9Score_n2_st3 b13 moves16 i12 best15) k).trans ((spec_l9Score_n2_step3 F b13 moves16 i12 best15 (nextK (iterS tt (spec_l9Score_n2_tab F) (spec_l9Score_n2_LS1 F) 70 (spec_l9Score_n2_ls3 F) (loopAt 3 (bodyOf Try.f19)) n) k)).trans (congrArg (fun kn => spec_l9Score_n2_s3 F b13 moves16 R (i12, best15) kn _) (funext (fun ⟨i12, best15⟩ => spec_l9Score_n2_iter3 F b13 moves16 k n i12 best15))))
theorem spec_l9Score_n2_lok3 (F : Nat) : LoopOK Try.prog (loopAt 3 (bodyOf Try.f19)) (spec_l9Score_n2_ls3 F) := by
  refine loopOK_of mixed ttok deep (spec_l9Score_n2_tabok F) (loopsOK_at (spec_l9Score_n2_lsok1 F) 3) (fuel := 70) fun R vals mem np killed k x h => ?_
  simp only [spec_l9Score_n2_ls3] at h
  split at h
  · rename_i q_n0 q_moves11 i12 b13 q_t414 best15 moves16
    simp only [GT.run] at h
    have hc := (cond_noneL h).1
    replace h := (cond_noneL h).2
    have hg := (and_split hc).1
    replace hc := (and_split hc).2
    obtain rfl := beq_int hg
    have hg := (and_split hc).1
    replace hc := (and_split hc).2
    obtain rfl := beq_li hg
    have hg := (and_split hc).1
    replace hc := (and_split hc).2
    obtain rfl := nbeq_nat hg
    refine ⟨F, (spec_l9Score_n2_iter3 F b13 moves16 k F i12 best15).trans ((loopC_use (spec_l9Score_n2_s3_nat F b13 moves16) hc _).trans h)⟩
  · simp only [GT.run] at h
    cases h
noncomputable def spec_l9Score_n2_LS2 (F : Nat) : LT := (3, spec_l9Score_n2_ls3 F) :: spec_l9Score_n2_LS1 F
theorem spec_l9Score_n2_lsok2 (F : Nat) : LoopsOK Try.prog (spec_l9Score_n2_LS2 F) (bodyOf Try.f19) := loopsOK_cons spec_l9Score_n2_keys (spec_l9Score_n2_lok3 F) (spec_l9Score_n2_lsok1 F)
theorem spec_l9Score_n2_run (F : Nat) (b0 : List Int) : runS tt (spec_l9Score_n2_tab F) (spec_l9Score_n2_LS2 F) [] [] Try.f19 (bodyOf Try.f19) 70 [(.ints 16 b0), (.int .i64 (2 : Int))] [] = spec_l9Score_n2_c _ F b0 (fun r => some ⟨(.ints 2 r), [], []⟩) := by kernel_rfl
def spec_l9Score_n2_ent (F : Nat) : Ent := ⟨[], .quiet, fun args mem => match args, mem with
  | [(.ints 16 b0), (.int .i64 q_n1)], [] => bif (q_n1 == (2 : Int)) then some ((spec_l9Score_n2_p F b0).isSome, ⟨(.ints 2 ((spec_l9Score_n2_p F b0).getD default)), [], []⟩) else none
  | _, _ => none⟩
theorem spec_l9Score_n2_fok : FunOK Try.prog 19 := funOK Try.func19 (by kernel_rfl) rfl
theorem spec_l9Score_n2_meets (F : Nat) : Meets Try.prog 19 (spec_l9Score_n2_ent F) := by
  refine meets_of_runS mixed ttok deep (spec_l9Score_n2_tabok F) Try.func19 (body_some rfl) (spec_l9Score_n2_lsok2 F) fun args mem hfit ret h => ?_
  clear hfit
  simp only [spec_l9Score_n2_ent] at h
  split at h
  · rename_i b0 q_n1
    have hg0 := (cond_noneL h).1
    replace h := (cond_noneL h).2
    obtain rfl := beq_int hg0
    simp only [Option.some.injEq, Prod.mk.injEq] at h
    obtain ⟨hc, rfl⟩ := h
    exact ⟨[], [], 70, _, (spec_l9Score_n2_run F b0).trans ((spec_l9Score_n2_cp _ F b0 _).trans (bind_use hc _)), rfl, rfl, rfl⟩
  · cases h

/-! loop.example/g01194/spec.l9Score -/
def spec_l9Score_ent (F : Nat) : Ent := ⟨[], .quiet, fun args mem => match args, mem with
  | [(.ints 16 b0), (.int .i64 n1)], [] => some ((spec_l9Score_p F b0 n1).isSome, ⟨(.ints 2 ((spec_l9Score_p F b0 n1).getD default)), [], []⟩)
  | _, _ => none⟩
theorem spec_l9Score_fok : FunOK Try.prog 19 := funOK Try.func19 (by kernel_rfl) rfl
theorem spec_l9Score_meets (F : Nat) : Meets Try.prog 19 (spec_l9Score_ent F) := by
  intro fr w ρ mem args reals hw ha ret hg
  simp only [spec_l9Score_ent] at hg
  split at hg
  · rename_i b0 n1
    simp only [Option.some.injEq, Prod.mk.injEq] at hg
    obtain ⟨hc, rfl⟩ := hg
    by_cases hn0 : (n1 == (0 : Int)) = true
    · obtain rfl := beq_int hn0
      have e : spec_l9Score_p F b0 (0 : Int) = (bif (Option.isSome (spec_l9Score_n0_p F b0)) then some [(0 : Int), (1 : Int)] else none) := by kernel_rfl
      have hg' : (spec_l9Score_n0_ent F).g [(.ints 16 b0), (.int .i64 (0 : Int))] [] = some ((Option.isSome (spec_l9Score_n0_p F b0)), ⟨(.ints 2 [(0 : Int), (1 : Int)]), [], []⟩) := by kernel_rfl
      rw [e] at hc
      have hC := isSome_cond hc
      rw [hC] at hg'
      have h9 := spec_l9Score_n0_meets F fr w ρ _ _ reals hw ha _ hg'
      simp only [e, hC, cond_true, Option.getD_some]
      exact h9
    · replace hn0 : (n1 == (0 : Int)) = false := by simpa using hn0
      by_cases hn1 : (n1 == (1 : Int)) = true
      · obtain rfl := beq_int hn1
        have e : spec_l9Score_p F b0 (1 : Int) = (bif (Option.isSome (spec_l9Score_n1_p F b0)) then some (Option.getD (spec_l9Score_n1_p F b0) default) else none) := by kernel_rfl
        have hg' : (spec_l9Score_n1_ent F).g [(.ints 16 b0), (.int .i64 (1 : Int))] [] = some ((Option.isSome (spec_l9Score_n1_p F b0)), ⟨(.ints 2 (Option.getD (spec_l9Score_n1_p F b0) default)), [], []⟩) := by kernel_rfl
        rw [e] at hc
        have hC := isSome_cond hc
        rw [hC] at hg'
        have h9 := spec_l9Score_n1_meets F fr w ρ _ _ reals hw ha _ hg'
        simp only [e, hC, cond_true, Option.getD_some]
        exact h9
      · replace hn1 : (n1 == (1 : Int)) = false := by simpa using hn1
        by_cases hn2 : (n1 == (2 : Int)) = true
        · obtain rfl := beq_int hn2
          have e : spec_l9Score_p F b0 (2 : Int) = (bif (Option.isSome (spec_l9Score_n2_p F b0)) then some (Option.getD (spec_l9Score_n2_p F b0) default) else none) := by kernel_rfl
          have hg' : (spec_l9Score_n2_ent F).g [(.ints 16 b0), (.int .i64 (2 : Int))] [] = some ((Option.isSome (spec_l9Score_n2_p F b0)), ⟨(.ints 2 (Option.getD (spec_l9Score_n2_p F b0) default)), [], []⟩) := by kernel_rfl
          rw [e] at hc
          have hC := isSome_cond hc
          rw [hC] at hg'
          have h9 := spec_l9Score_n2_meets F fr w ρ _ _ reals hw ha _ hg'
          simp only [e, hC, cond_true, Option.getD_some]
          exact h9
        · replace hn2 : (n1 == (2 : Int)) = false := by simpa using hn2
          exfalso
          have e : spec_l9Score_p F b0 n1 = none := by simp only [spec_l9Score_p, spec_l9Score_c, hn0, hn1, hn2, cond_false]
          rw [e] at hc
          cases hc
  · cases hg

/-! loop.example/g01194/spec.MeanScore -/
noncomputable def spec_MeanScore_tab (F : Nat) : Tab := [(17, (spec_l2Board_ent F)), (18, (spec_l1In_ent F)), (19, (spec_l9Score_ent F))]
theorem spec_MeanScore_tabok (F : Nat) : TabOK Try.prog (spec_MeanScore_tab F) := (tab_cons (spec_l2Board_meets F) spec_l2Board_fok (tab_cons (spec_l1In_meets F) spec_l1In_fok (tab_cons (spec_l9Score_meets F) spec_l9Score_fok tab_nil)))
noncomputable def spec_MeanScore_LS0 (F : Nat) : LT := []
theorem spec_MeanScore_lsok0 (F : Nat) : LoopsOK Try.prog (spec_MeanScore_LS0 F) (bodyOf Try.f7) := loopsOK_nil
theorem spec_MeanScore_run (F : Nat) (b0 : List Int) (n1 : Int) : runS tt (spec_MeanScore_tab F) (spec_MeanScore_LS0 F) [] [] Try.f7 (bodyOf Try.f7) 70 [(.ints 16 b0), (.int .i64 n1)] [] = spec_MeanScore_c _ F b0 n1 (fun r => some ⟨(.tup [(.ints 2 r.1), (.bool r.2)]), [], []⟩) := by kernel_rfl
def spec_MeanScore_ent (F : Nat) : Ent := ⟨[], .quiet, fun args mem => match args, mem with
  | [(.ints 16 b0), (.int .i64 n1)], [] => some ((spec_MeanScore_p F b0 n1).isSome, ⟨(.tup [(.ints 2 ((spec_MeanScore_p F b0 n1).getD default).1), (.bool ((spec_MeanScore_p F b0 n1).getD default).2)]), [], []⟩)
  | _, _ => none⟩
theorem spec_MeanScore_fok : FunOK Try.prog 7 := funOK Try.func7 (by kernel_rfl) rfl
theorem spec_MeanScore_meets (F : Nat) : Meets Try.prog 7 (spec_MeanScore_ent F) := by
  refine meets_of_runS mixed ttok deep (spec_MeanScore_tabok F) Try.func7 (body_some rfl) (spec_MeanScore_lsok0 F) fun args mem hfit ret h => ?_
  clear hfit
  simp only [spec_MeanScore_ent] at h
  split at h
  · rename_i b0 n1
    simp only [Option.some.injEq, Prod.mk.injEq] at h
    obtain ⟨hc, rfl⟩ := h
    exact ⟨[], [], 70, _, (spec_MeanScore_run F b0 n1).trans ((spec_MeanScore_cp _ F b0 n1 _).trans (bind_use hc _)), rfl, rfl, rfl⟩
  · cases h

/-! loop.example/g01194/impl.in -/
noncomputable def impl_in_tab (F : Nat) : Tab := []
theorem impl_in_tabok (F : Nat) : TabOK Try.prog (impl_in_tab F) := tab_nil
noncomputable def impl_in_LS0 (F : Nat) : LT := []
theorem impl_in_lsok0 (F : Nat) : LoopsOK Try.prog (impl_in_LS0 F) (bodyOf Try.f22) := loopsOK_nil
theorem impl_in_run (F : Nat) (n0 : Int) (low1 : Int) (high2 : Int) : runS tt (impl_in_tab F) (impl_in_LS0 F) [] [] Try.f22 (bodyOf Try.f22) 70 [(.int .i64 n0), (.int .i64 low1), (.int .i64 high2)] [] = impl_in_c _ n0 low1 high2 (fun r => some ⟨(.bool r), [], []⟩) := by kernel_rfl
def impl_in_ent (F : Nat) : Ent := ⟨[], .quiet, fun args mem => match args, mem with
  | [(.int .i64 n0), (.int .i64 low1), (.int .i64 high2)], [] => some (true, ⟨(.bool (impl_in_v n0 low1 high2)), [], []⟩)
  | _, _ => none⟩
theorem impl_in_fok : FunOK Try.prog 22 := funOK Try.func22 (by kernel_rfl) rfl
theorem impl_in_meets (F : Nat) : Meets Try.prog 22 (impl_in_ent F) := by
  refine meets_of_runS mixed ttok deep (impl_in_tabok F) Try.func22 (body_some rfl) (impl_in_lsok0 F) fun args mem hfit ret h => ?_
  clear hfit
  simp only [impl_in_ent] at h
  split at h
  · rename_i n0 low1 high2
    simp only [Option.some.injEq, Prod.mk.injEq] at h
    obtain ⟨hc, rfl⟩ := h
    exact ⟨[], [], 70, _, (impl_in_run F n0 low1 high2).trans (impl_in_cv _ n0 low1 high2 _), rfl, rfl, rfl⟩
  · cases h

/-! loop.example/g01194/impl.IsRow$1 -/
noncomputable def impl_IsRow_f1_tab (F : Nat) : Tab := [(22, (impl_in_ent F))]
theorem impl_IsRow_f1_tabok (F : Nat) : TabOK Try.prog (impl_IsRow_f1_tab F) := (tab_cons (impl_in_meets F) impl_in_fok tab_nil)
noncomputable def impl_IsRow_f1_LS0 (F : Nat) : LT := []
theorem impl_IsRow_f1_lsok0 (F : Nat) : LoopsOK Try.prog (impl_IsRow_f1_LS0 F) (bodyOf Try.f68) := loopsOK_nil
theorem impl_IsRow_f1_run (F : Nat) (n0 : Int) : runS tt (impl_IsRow_f1_tab F) (impl_IsRow_f1_LS0 F) [] [] Try.f68 (bodyOf Try.f68) 70 [(.int .i64 n0)] [] = impl_IsRow_f1_c _ n0 (fun r => some ⟨(.bool r), [], []⟩) := by kernel_rfl
def impl_IsRow_f1_ent (F : Nat) : Ent := ⟨[], .quiet, fun args mem => match args, mem with
  | [(.int .i64 n0)], [] => some (true, ⟨(.bool (impl_IsRow_f1_v n0)), [], []⟩)
  | _, _ => none⟩
theorem impl_IsRow_f1_fok : FunOK Try.prog 68 := funOK Try.func68 (by kernel_rfl) rfl
theorem impl_IsRow_f1_meets (F : Nat) : Meets Try.prog 68 (impl_IsRow_f1_ent F) := by
  refine meets_of_runS mixed ttok deep (impl_IsRow_f1_tabok F) Try.func68 (body_some rfl) (impl_IsRow_f1_lsok0 F) fun args mem hfit ret h => ?_
  clear hfit
  simp only [impl_IsRow_f1_ent] at h
  split at h
  · rename_i n0
    simp only [Option.some.injEq, Prod.mk.injEq] at h
    obtain ⟨hc, rfl⟩ := h
    exact ⟨[], [], 70, _, (impl_IsRow_f1_run F n0).trans (impl_IsRow_f1_cv _ n0 _), rfl, rfl, rfl⟩
  · cases h

/-! slices.IndexFunc[[]int,int] -/
noncomputable def slices_IndexFunc_intint_impl_IsRow_f1_tab (F : Nat) : Tab := [(68, (impl_IsRow_f1_ent F))]
theorem slices_IndexFunc_intint_impl_IsRow_f1_tabok (F : Nat) : TabOK Try.prog (slices_IndexFunc_intint_impl_IsRow_f1_tab F) := (tab_cons (impl_IsRow_f1_meets F) impl_IsRow_f1_fok tab_nil)
noncomputable def slices_IndexFunc_intint_impl_IsRow_f1_LS0 (F : Nat) : LT := []
theorem slices_IndexFunc_intint_impl_IsRow_f1_lsok0 (F : Nat) : LoopsOK Try.prog (slices_IndexFunc_intint_impl_IsRow_f1_LS0 F) (bodyOf Try.f82) := loopsOK_nil
theorem slices_IndexFunc_intint_impl_IsRow_f1_keys : keysOK (bodyOf Try.f82) = true := by kernel_rfl
def slices_IndexFunc_intint_impl_IsRow_f1_st2 (s0 : List Int) (t71 : Int) (t82 : Int) : St := ⟨expand 19 0 [0, 1, 7, 8] [(.ri .i64 s0), (.fn 68 [] []), (.int .i64 t71), (.int .i64 t82)], [], 0, []⟩
def slices_IndexFunc_intint_impl_IsRow_f1_o2 (s0 : List Int) (t71 : Int) (x : Bool × Int) : GT := (.br x.1 (.out (.ret ⟨expand 19 0 [4] [(.int .i64 x.2)], [], 0, []⟩)) (.out (.exit 0 ⟨expand 19 0 [] [], [], 0, []⟩)))
def slices_IndexFunc_intint_impl_IsRow_f1_ls2 (F : Nat) : LoopS := ⟨19, [0, 1, 7, 8], [], [], [], [4], [], [], fun vals mem np killed => match vals, mem, np, killed with
  | [(.ri .i64 s0), (.fn 68 [] []), (.int .i64 t71), (.int .i64 t82)], [], 0, [] => .br (slices_IndexFunc_intint_impl_IsRow_f1_l2 F s0 t71 t82).isSome (slices_IndexFunc_intint_impl_IsRow_f1_o2 s0 t71 ((slices_IndexFunc_intint_impl_IsRow_f1_l2 F s0 t71 t82).getD default)) .fail
  | _, _, _, _ => .fail⟩
theorem slices_IndexFunc_intint_impl_IsRow_f1_step2 (F : Nat) (s0 : List Int) (t71 : Int) (t82 : Int) {R : Type} (k : Out → Option R) : stepS tt (slices_IndexFunc_intint_impl_IsRow_f1_tab F) (slices_IndexFunc_intint_impl_IsRow_f1_LS0 F) 70 (slices_IndexFunc_intint_impl_IsRow_f1_ls2 F) (loopAt 2 (bodyOf Try.f82)) (slices_IndexFunc_intint_impl_IsRow_f1_st2 s0 t71 t82) k = slices_IndexFunc_intint_impl_IsRow_f1_s2 F s0 t71 R t82 (fun s => k (.norm (slices_IndexFunc_intint_impl_IsRow_f1_st2 s0 t71 s))) (fun x => (slices_IndexFunc_intint_impl_IsRow_f1_o2 s0 t71 x).run k) := by kernel_rfl
theorem slices_IndexFunc_intint_impl_IsRow_f1_iter2 (F : Nat) (s0 : List Int) (t71 : Int) {R : Type} (k : Out → Option R) : ∀ (n : Nat) (t82 : Int), iterS tt (slices_IndexFunc_intint_impl_IsRow_f1_tab F) (slices_IndexFunc_intint_impl_IsRow_f1_LS0 F) 70 (slices_IndexFunc_intint_impl_IsRow_f1_ls2 F) (loopAt 2 (bodyOf Try.f82)) n (slices_IndexFunc_intint_impl_IsRow_f1_st2 s0 t71 t82) k = loopC (slices_IndexFunc_intint_impl_IsRow_f1_s2 F s0 t71) n t82 (fun x => (slices_IndexFunc_intint_impl_IsRow_f1_o2 s0 t71 x).run k)
  | 0, t82 => rfl
  | n + 1, t82 => (iterS_succ tt (slices_IndexFunc_intint_impl_IsRow_f1_tab F) (slices_IndexFunc_intint_impl_IsRow_f1_LS0 F) 70 (slices_IndexFunc_intint_impl_IsRow_f1_ls2 F) (loopAt 2 (bodyOf Try.f82)) n (slices_IndexFunc_intint_impl_IsRow_f1_st2 s0 t71 t82) k).trans ((slices_IndexFunc_intint_impl_IsRow_f1_step2 F s0 t71 t82 (nextK (iterS tt (slices_IndexFunc_intint_impl_IsRow_f1_tab F) (slices_IndexFunc_intint_impl_IsRow_f1_LS0 F) 70 (slices_IndexFunc_intint_impl_IsRow_f1_ls2 F) (loopAt 2 (bodyOf Try.f82)) n) k)).trans (congrArg (fun kn => slices_IndexFunc_intint_impl_IsRow_f1_s2 F s0 t71 R t82 kn _) (funext (fun t82 => slices_IndexFunc_intint_impl_IsRow_f1_iter2 F s0 t71 k n t82))))
theorem slices_IndexFunc_intint_impl_IsRow_f1_lok2 (F : Nat) : LoopOK Try.prog (loopAt 2 (bodyOf Try.f82)) (slices_IndexFunc_intint_impl_IsRow_f1_ls2 F) := by
  refine loopOK_of mixed ttok deep (slices_IndexFunc_intint_impl_IsRow_f1_tabok F) (loopsOK_at (slices_IndexFunc_intint_impl_IsRow_f1_lsok0 F) 2) (fuel := 70) fun R vals mem np killed k x h => ?_
  simp only [slices_IndexFunc_intint_impl_IsRow_f1_ls2] at h
  split at h
  · rename_i s0 t71 t82
    simp only [GT.run] at h
    have hc := (cond_noneL h).1
    replace h := (cond_noneL h).2
    refine ⟨F, (slices_IndexFunc_intint_impl_IsRow_f1_iter2 F s0 t71 k F t82).trans ((loopC_use (slices_IndexFunc_intint_impl_IsRow_f1_s2_nat F s0 t71) hc _).trans h)⟩
  · simp only [GT.run] at h
    cases h
noncomputable def slices_IndexFunc_intint_impl_IsRow_f1_LS1 (F : Nat) : LT := (2, slices_IndexFunc_intint_impl_IsRow_f1_ls2 F) :: slices_IndexFunc_intint_impl_IsRow_f1_LS0 F
theorem slices_IndexFunc_intint_impl_IsRow_f1_lsok1 (F : Nat) : LoopsOK Try.prog (slices_IndexFunc_intint_impl_IsRow_f1_LS1 F) (bodyOf Try.f82) := loopsOK_cons slices_IndexFunc_intint_impl_IsRow_f1_keys (slices_IndexFunc_intint_impl_IsRow_f1_lok2 F) (slices_IndexFunc_intint_impl_IsRow_f1_lsok0 F)
theorem slices_IndexFunc_intint_impl_IsRow_f1_run (F : Nat) (s0 : List Int) : runS tt (slices_IndexFunc_intint_impl_IsRow_f1_tab F) (slices_IndexFunc_intint_impl_IsRow_f1_LS1 F) [] [] Try.f82 (bodyOf Try.f82) 70 [(.ri .i64 s0), (.fn 68 [] [])] [] = slices_IndexFunc_intint_impl_IsRow_f1_c _ F s0 (fun r => some ⟨(.int .i64 r), [], []⟩) := by kernel_rfl
def slices_IndexFunc_intint_impl_IsRow_f1_ent (F : Nat) : Ent := ⟨[], .quiet, fun args mem => match args, mem with
  | [(.ri .i64 s0), (.fn 68 [] [])], [] => some ((slices_IndexFunc_intint_impl_IsRow_f1_p F s0).isSome, ⟨(.int .i64 ((slices_IndexFunc_intint_impl_IsRow_f1_p F s0).getD default)), [], []⟩)
  | _, _ => none⟩
theorem slices_IndexFunc_intint_impl_IsRow_f1_fok : FunOK Try.prog 82 := funOK Try.func82 (by kernel_rfl) rfl
theorem slices_IndexFunc_intint_impl_IsRow_f1_meets (F : Nat) : Meets Try.prog 82 (slices_IndexFunc_intint_impl_IsRow_f1_ent F) := by
  refine meets_of_runS mixed ttok deep (slices_IndexFunc_intint_impl_IsRow_f1_tabok F) Try.func82 (body_some rfl) (slices_IndexFunc_intint_impl_IsRow_f1_lsok1 F) fun args mem hfit ret h => ?_
  clear hfit
  simp only [slices_IndexFunc_intint_impl_IsRow_f1_ent] at h
  split at h
  · rename_i s0
    simp only [Option.some.injEq, Prod.mk.injEq] at h
    obtain ⟨hc, rfl⟩ := h
    exact ⟨[], [], 70, _, (slices_IndexFunc_intint_impl_IsRow_f1_run F s0).trans ((slices_IndexFunc_intint_impl_IsRow_f1_cp _ F s0 _).trans (bind_use hc _)), rfl, rfl, rfl⟩
  · cases h
end Go.Proofs.Ytloemkielkdegaa
