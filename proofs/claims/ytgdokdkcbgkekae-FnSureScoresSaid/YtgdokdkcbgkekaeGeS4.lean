/-
Pure functions and what the code of them does, by program; without conditions.
-/
import Derived.Test.YtgdokdkcbgkekaeGeP4
import Derived.Test.YtgdokdkcbgkekaeGeS3
namespace Go.Proofs.Ytgdokdkcbgkekae
open Go Go.Lv Go.Lv.P Go.Proofs
set_option linter.unusedVariables false
set_option linter.unusedSimpArgs false
set_option maxRecDepth 100000
/-! loop.example/g01194/spec.l2Empty -/
noncomputable def spec_l2Empty_tab (F : Nat) : Tab := []
theorem spec_l2Empty_tabok (F : Nat) : TabOK Try.prog (spec_l2Empty_tab F) := tab_nil
noncomputable def spec_l2Empty_LS0 (F : Nat) : LT := []
theorem spec_l2Empty_lsok0 (F : Nat) : LoopsOK Try.prog (spec_l2Empty_LS0 F) (bodyOf Try.f42) := loopsOK_nil
theorem spec_l2Empty_keys : keysOK (bodyOf Try.f42) = true := by kernel_rfl
def spec_l2Empty_st6 (r5 : Int) (b7 : List Int) (c6 : Int) (out8 : List (List Int)) : St := ⟨expand 29 0 [1, 3, 4, 5] [(.ptr 0 0 0 16), (.sl 1 0 (List.length out8)), (.int .i64 r5), (.int .i64 c6)], [(.var 16 (.ri .i64 b7)), (.vec 70 (.rr 2 out8))], 0, []⟩
def spec_l2Empty_o6 (r5 : Int) (b7 : List Int) (x : List (List Int)) : GT := (.out (.exit 2 ⟨expand 29 0 [1, 3, 4] [(.ptr 0 0 0 16), (.sl 1 0 (List.length x)), (.int .i64 r5)], [(.var 16 (.ri .i64 b7)), (.vec 70 (.rr 2 x))], 0, []⟩))
def spec_l2Empty_ls6 (F : Nat) : LoopS := ⟨29, [1, 3, 4, 5], [], [1, 3, 4], [], [2], [], [], fun vals mem np killed => match vals, mem, np, killed with
  | [(.ptr 0 0 0 16), (.sl 1 0 q_out4), (.int .i64 r5), (.int .i64 c6)], [(.var 16 (.ri .i64 b7)), (.vec 70 (.rr 2 out8))], 0, [] => .br ((Nat.beq q_out4 (List.length out8)) && (spec_l2Empty_l6 F r5 b7 c6 out8).isSome) (spec_l2Empty_o6 r5 b7 ((spec_l2Empty_l6 F r5 b7 c6 out8).getD default)) .fail
  | _, _, _, _ => .fail⟩
theorem spec_l2Empty_step6 (F : Nat) (r5 : Int) (b7 : List Int) (c6 : Int) (out8 : List (List Int)) {R : Type} (k : Out → Option R) : stepS tt (spec_l2Empty_tab F) (spec_l2Empty_LS0 F) 70 (spec_l2Empty_ls6 F) (loopAt 6 (bodyOf Try.f42)) (spec_l2Empty_st6 r5 b7 c6 out8) k = spec_l2Empty_s6 F r5 b7 R (c6, out8) (fun s => k (.norm (spec_l2Empty_st6 r5 b7 s.1 s.2))) (fun x => (spec_l2Empty_o6 r5 b7 x).run k) := by kernel_rfl
theorem spec_l2Empty_iter6 (F : Nat) (r5 : Int) (b7 : List Int) {R : Type} (k : Out → Option R) : ∀ (n : Nat) (c6 : Int) (out8 : List (List Int)), iterS tt (spec_l2Empty_tab F) (spec_l2Empty_LS0 F) 70 (spec_l2Empty_ls6 F) (loopAt 6 (bodyOf Try.f42)) n (spec_l2Empty_st6 r5 b7 c6 out8) k = loopC (spec_l2Empty_s6 F r5 b7) n (c6, out8) (fun x => (spec_l2Empty_o6 r5 b7 x).run k)
  | 0, c6, out8 => rfl
  | n + 1, c6, out8 => (iterS_succ tt (spec_l2Empty_tab F) (spec_l2Empty_LS0 F) 70 (spec_l2Empty_ls6 F) (loopAt 6 (bodyOf Try.f42)) n (spec_l2Empty_st6 r5 b7 c6 out8) k).trans ((spec_l2Empty_step6 F r5 b7 c6 out8 (nextK (iterS tt (spec_l2Empty_tab F) (spec_l2Empty_LS0 F) 70 (spec_l2Empty_ls6 F) (loopAt 6 (bodyOf Try.f42)) n) k)).trans (congrArg (fun kn => spec_l2Empty_s6 F r5 b7 R (c6, out8) kn _) (funext (fun ⟨c6, out8⟩ => spec_l2Empty_iter6 F r5 b7 k n c6 out8))))
theorem spec_l2Empty_lok6 (F : Nat) : LoopOK Try.prog (loopAt 6 (bodyOf Try.f42)) (spec_l2Empty_ls6 F) := by
  refine loopOK_of mixed ttok deep (spec_l2Empty_tabok F) (loopsOK_at (spec_l2Empty_lsok0 F) 6) (fuel := 70) fun R vals mem np killed k x h => ?_
  simp only [spec_l2Empty_ls6] at h
  split at h
  · rename_i q_out4 r5 c6 b7 out8
    simp only [GT.run] at h
    have hc := (cond_noneL h).1
    replace h := (cond_noneL h).2
    have hg := (and_split hc).1
    replace hc := (and_split hc).2
    obtain rfl := nbeq_nat hg
    refine ⟨F, (spec_l2Empty_iter6 F r5 b7 k F c6 out8).trans ((loopC_use (spec_l2Empty_s6_nat F r5 b7) hc _).trans h)⟩
  · simp only [GT.run] at h
    cases h
noncomputable def spec_l2Empty_LS1 (F : Nat) : LT := (6, spec_l2Empty_ls6 F) :: spec_l2Empty_LS0 F
theorem spec_l2Empty_lsok1 (F : Nat) : LoopsOK Try.prog (spec_l2Empty_LS1 F) (bodyOf Try.f42) := loopsOK_cons spec_l2Empty_keys (spec_l2Empty_lok6 F) (spec_l2Empty_lsok0 F)
def spec_l2Empty_st3 (b6 : List Int) (r5 : Int) (out7 : List (List Int)) : St := ⟨expand 29 0 [1, 3, 4] [(.ptr 0 0 0 16), (.sl 1 0 (List.length out7)), (.int .i64 r5)], [(.var 16 (.ri .i64 b6)), (.vec 70 (.rr 2 out7))], 0, []⟩
def spec_l2Empty_o3 (b6 : List Int) (x : List (List Int)) : GT := (.out (.exit 0 ⟨expand 29 0 [3] [(.sl 0 0 (List.length x))], [(.vec 70 (.rr 2 x))], 0, []⟩))
def spec_l2Empty_ls3 (F : Nat) : LoopS := ⟨29, [1, 3, 4], [], [3], [], [2], [], [], fun vals mem np killed => match vals, mem, np, killed with
  | [(.ptr 0 0 0 16), (.sl 1 0 q_out4), (.int .i64 r5)], [(.var 16 (.ri .i64 b6)), (.vec 70 (.rr 2 out7))], 0, [] => .br ((Nat.beq q_out4 (List.length out7)) && (spec_l2Empty_l3 F b6 r5 out7).isSome) (spec_l2Empty_o3 b6 ((spec_l2Empty_l3 F b6 r5 out7).getD default)) .fail
  | _, _, _, _ => .fail⟩
theorem spec_l2Empty_step3 (F : Nat) (b6 : List Int) (r5 : Int) (out7 : List (List Int)) {R : Type} (k : Out → Option R) : stepS tt (spec_l2Empty_tab F) (spec_l2Empty_LS1 F) 70 (spec_l2Empty_ls3 F) (loopAt 3 (bodyOf Try.f42)) (spec_l2Empty_st3 b6 r5 out7) k = spec_l2Empty_s3 F b6 R (r5, out7) (fun s => k (.norm (spec_l2Empty_st3 b6 s.1 s.2))) (fun x => (spec_l2Empty_o3 b6 x).run k) := by kernel_rfl
theorem spec_l2Empty_iter3 (F : Nat) (b6 : List Int) {R : Type} (k : Out → Option R) : ∀ (n : Nat) (r5 : Int) (out7 : List (List Int)), iterS tt (spec_l2Empty_tab F) (spec_l2Empty_LS1 F) 70 (spec_l2Empty_ls3 F) (loopAt 3 (bodyOf Try.f42)) n (spec_l2Empty_st3 b6 r5 out7) k = loopC (spec_l2Empty_s3 F b6) n (r5, out7) (fun x => (spec_l2Empty_o3 b6 x).run k)
  | 0, r5, out7 => rfl
  | n + 1, r5, out7 => (iterS_succ tt (spec_l2Empty_tab F) (spec_l2Empty_LS1 F) 70 (spec_l2Empty_ls3 F) (loopAt 3 (bodyOf Try.f42)) n (spec_l2Empty_st3 b6 r5 out7) k).trans ((spec_l2Empty_step3 F b6 r5 out7 (nextK (iterS tt (spec_l2Empty_tab F) (spec_l2Empty_LS1 F) 70 (spec_l2Empty_ls3 F) (loopAt 3 (bodyOf Try.f42)) n) k)).trans (congrArg (fun kn => spec_l2Empty_s3 F b6 R (r5, out7) kn _) (funext (fun ⟨r5, out7⟩ => spec_l2Empty_iter3 F b6 k n r5 out7))))
theorem spec_l2Empty_lok3 (F : Nat) : LoopOK Try.prog (loopAt 3 (bodyOf Try.f42)) (spec_l2Empty_ls3 F) := by
  refine loopOK_of mixed ttok deep (spec_l2Empty_tabok F) (loopsOK_at (spec_l2Empty_lsok1 F) 3) (fuel := 70) fun R vals mem np killed k x h => ?_
  simp only [spec_l2Empty_ls3] at h
  split at h
  · rename_i q_out4 r5 b6 out7
    simp only [GT.run] at h
    have hc := (cond_noneL h).1
    replace h := (cond_noneL h).2
    have hg := (and_split hc).1
    replace hc := (and_split hc).2
    obtain rfl := nbeq_nat hg
    refine ⟨F, (spec_l2Empty_iter3 F b6 k F r5 out7).trans ((loopC_use (spec_l2Empty_s3_nat F b6) hc _).trans h)⟩
  · simp only [GT.run] at h
    cases h
noncomputable def spec_l2Empty_LS2 (F : Nat) : LT := (3, spec_l2Empty_ls3 F) :: spec_l2Empty_LS1 F
theorem spec_l2Empty_lsok2 (F : Nat) : LoopsOK Try.prog (spec_l2Empty_LS2 F) (bodyOf Try.f42) := loopsOK_cons spec_l2Empty_keys (spec_l2Empty_lok3 F) (spec_l2Empty_lsok1 F)
theorem spec_l2Empty_run (F : Nat) (b0 : List Int) : runS tt (spec_l2Empty_tab F) (spec_l2Empty_LS2 F) [] [] Try.f42 (bodyOf Try.f42) 70 [(.ints 16 b0)] [] = spec_l2Empty_c _ F b0 (fun r => some ⟨(.sl 0 0 (List.length r)), [(.vec 70 (.rr 2 r))], []⟩) := by kernel_rfl
def spec_l2Empty_ent (F : Nat) : Ent := ⟨[], .fresh, fun args mem => match args, mem with
  | [(.ints 16 b0)], [] => some ((spec_l2Empty_p F b0).isSome, ⟨(.sl 0 0 (List.length ((spec_l2Empty_p F b0).getD default))), [(.vec 70 (.rr 2 ((spec_l2Empty_p F b0).getD default)))], []⟩)
  | _, _ => none⟩
theorem spec_l2Empty_fok : FunOK Try.prog 42 := funOK Try.func42 (by kernel_rfl) rfl
theorem spec_l2Empty_meets (F : Nat) : Meets Try.prog 42 (spec_l2Empty_ent F) := by
  refine meets_of_runS mixed ttok deep (spec_l2Empty_tabok F) Try.func42 (body_some rfl) (spec_l2Empty_lsok2 F) fun args mem hfit ret h => ?_
  clear hfit
  simp only [spec_l2Empty_ent] at h
  split at h
  · rename_i b0
    simp only [Option.some.injEq, Prod.mk.injEq] at h
    obtain ⟨hc, rfl⟩ := h
    exact ⟨[], [], 70, _, (spec_l2Empty_run F b0).trans ((spec_l2Empty_cp _ F b0 _).trans (bind_use hc _)), rfl, rfl, rfl⟩
  · cases h

/-! loop.example/g01194/spec.l8Places -/
noncomputable def spec_l8Places_tab (F : Nat) : Tab := [(42, (spec_l2Empty_ent F))]
theorem spec_l8Places_tabok (F : Nat) : TabOK Try.prog (spec_l8Places_tab F) := (tab_cons (spec_l2Empty_meets F) spec_l2Empty_fok tab_nil)
noncomputable def spec_l8Places_LS0 (F : Nat) : LT := []
theorem spec_l8Places_lsok0 (F : Nat) : LoopsOK Try.prog (spec_l8Places_LS0 F) (bodyOf Try.f40) := loopsOK_nil
theorem spec_l8Places_keys : keysOK (bodyOf Try.f40) = true := by kernel_rfl
def spec_l8Places_st3 (empty6 : List (List Int)) (i4 : Int) (out5 : List (List Int)) : St := ⟨expand 41 0 [3, 4, 5] [(.sl 0 0 (List.length out5)), (.sl 1 0 (List.length empty6)), (.int .i64 i4)], [(.vec 34 (.rr 3 out5)), (.vec 70 (.rr 2 empty6))], 0, []⟩
def spec_l8Places_o3 (empty6 : List (List Int)) (x : List (List Int)) : GT := (.out (.exit 0 ⟨expand 41 0 [3] [(.sl 0 0 (List.length x))], [(.vec 34 (.rr 3 x))], 0, []⟩))
def spec_l8Places_ls3 (F : Nat) : LoopS := ⟨41, [3, 4, 5], [], [3], [], [2], [], [], fun vals mem np killed => match vals, mem, np, killed with
  | [(.sl 0 0 q_out1), (.sl 1 0 q_empty3), (.int .i64 i4)], [(.vec 34 (.rr 3 out5)), (.vec 70 (.rr 2 empty6))], 0, [] => .br ((Nat.beq q_out1 (List.length out5)) && ((Nat.beq q_empty3 (List.length empty6)) && (spec_l8Places_l3 F empty6 i4 out5).isSome)) (spec_l8Places_o3 empty6 ((spec_l8Places_l3 F empty6 i4 out5).getD default)) .fail
  | _, _, _, _ => .fail⟩
theorem spec_l8Places_step3 (F : Nat) (empty6 : List (List Int)) (i4 : Int) (out5 : List (List Int)) {R : Type} (k : Out → Option R) : stepS tt (spec_l8Places_tab F) (spec_l8Places_LS0 F) 70 (spec_l8Places_ls3 F) (loopAt 3 (bodyOf Try.f40)) (spec_l8Places_st3 empty6 i4 out5) k = spec_l8Places_s3 F empty6 R (i4, out5) (fun s => k (.norm (spec_l8Places_st3 empty6 s.1 s.2))) (fun x => (spec_l8Places_o3 empty6 x).run k) := by kernel_rfl
theorem spec_l8Places_iter3 (F : Nat) (empty6 : List (List Int)) {R : Type} (k : Out → Option R) : ∀ (n : Nat) (i4 : Int) (out5 : List (List Int)), iterS tt (spec_l8Places_tab F) (spec_l8Places_LS0 F) 70 (spec_l8Places_ls3 F) (loopAt 3 (bodyOf Try.f40)) n (spec_l8Places_st3 empty6 i4 out5) k = loopC (spec_l8Places_s3 F empty6) n (i4, out5) (fun x => (spec_l8Places_o3 empty6 x).run k)
  | 0, i4, out5 => rfl
  | n + 1, i4, out5 => (iterS_succ tt (spec_l8Places_tab F) (spec_l8Places_LS0 F) 70 (spec_l8Places_ls3 F) (loopAt 3 (bodyOf Try.f40)) n (spec_l8Places_st3 empty6 i4 out5) k).trans ((spec_l8Places_step3 F empty6 i4 out5 (nextK (iterS tt (spec_l8Places_tab F) (spec_l8Places_LS0 F) 70 (spec_l8Places_ls3 F) (loopAt 3 (bodyOf Try.f40)) n) k)).trans (congrArg (fun kn => spec_l8Places_s3 F empty6 R (i4, out5) kn _) (funext (fun ⟨i4, out5⟩ => spec_l8Places_iter3 F empty6 k n i4 out5))))
theorem spec_l8Places_lok3 (F : Nat) : LoopOK Try.prog (loopAt 3 (bodyOf Try.f40)) (spec_l8Places_ls3 F) := by
  refine loopOK_of mixed ttok deep (spec_l8Places_tabok F) (loopsOK_at (spec_l8Places_lsok0 F) 3) (fuel := 70) fun R vals mem np killed k x h => ?_
  simp only [spec_l8Places_ls3] at h
  split at h
  · rename_i q_out1 q_empty3 i4 out5 empty6
    simp only [GT.run] at h
    have hc := (cond_noneL h).1
    replace h := (cond_noneL h).2
    have hg := (and_split hc).1
    replace hc := (and_split hc).2
    obtain rfl := nbeq_nat hg
    have hg := (and_split hc).1
    replace hc := (and_split hc).2
    obtain rfl := nbeq_nat hg
    refine ⟨F, (spec_l8Places_iter3 F empty6 k F i4 out5).trans ((loopC_use (spec_l8Places_s3_nat F empty6) hc _).trans h)⟩
  · simp only [GT.run] at h
    cases h
noncomputable def spec_l8Places_LS1 (F : Nat) : LT := (3, spec_l8Places_ls3 F) :: spec_l8Places_LS0 F
theorem spec_l8Places_lsok1 (F : Nat) : LoopsOK Try.prog (spec_l8Places_LS1 F) (bodyOf Try.f40) := loopsOK_cons spec_l8Places_keys (spec_l8Places_lok3 F) (spec_l8Places_lsok0 F)
theorem spec_l8Places_run (F : Nat) (b0 : List Int) : runS tt (spec_l8Places_tab F) (spec_l8Places_LS1 F) [] [] Try.f40 (bodyOf Try.f40) 70 [(.ints 16 b0)] [] = spec_l8Places_c _ F b0 (fun r => some ⟨(.sl 0 0 (List.length r)), [(.vec 34 (.rr 3 r))], []⟩) := by kernel_rfl
def spec_l8Places_ent (F : Nat) : Ent := ⟨[], .fresh, fun args mem => match args, mem with
  | [(.ints 16 b0)], [] => some ((spec_l8Places_p F b0).isSome, ⟨(.sl 0 0 (List.length ((spec_l8Places_p F b0).getD default))), [(.vec 34 (.rr 3 ((spec_l8Places_p F b0).getD default)))], []⟩)
  | _, _ => none⟩
theorem spec_l8Places_fok : FunOK Try.prog 40 := funOK Try.func40 (by kernel_rfl) rfl
theorem spec_l8Places_meets (F : Nat) : Meets Try.prog 40 (spec_l8Places_ent F) := by
  refine meets_of_runS mixed ttok deep (spec_l8Places_tabok F) Try.func40 (body_some rfl) (spec_l8Places_lsok1 F) fun args mem hfit ret h => ?_
  clear hfit
  simp only [spec_l8Places_ent] at h
  split at h
  · rename_i b0
    simp only [Option.some.injEq, Prod.mk.injEq] at h
    obtain ⟨hc, rfl⟩ := h
    exact ⟨[], [], 70, _, (spec_l8Places_run F b0).trans ((spec_l8Places_cp _ F b0 _).trans (bind_use hc _)), rfl, rfl, rfl⟩
  · cases h

/-! loop.example/g01194/spec.l8Put -/
noncomputable def spec_l8Put_tab (F : Nat) : Tab := [(59, (spec_l2Put_ent F))]
theorem spec_l8Put_tabok (F : Nat) : TabOK Try.prog (spec_l8Put_tab F) := (tab_cons (spec_l2Put_meets F) spec_l2Put_fok tab_nil)
noncomputable def spec_l8Put_LS0 (F : Nat) : LT := []
theorem spec_l8Put_lsok0 (F : Nat) : LoopsOK Try.prog (spec_l8Put_LS0 F) (bodyOf Try.f47) := loopsOK_nil
theorem spec_l8Put_run (F : Nat) (b0 : List Int) (p1 : List Int) : runS tt (spec_l8Put_tab F) (spec_l8Put_LS0 F) [] [] Try.f47 (bodyOf Try.f47) 70 [(.ints 16 b0), (.ints 3 p1)] [] = spec_l8Put_c _ b0 p1 (fun r => some ⟨(.ints 16 r), [], []⟩) := by kernel_rfl
def spec_l8Put_ent (F : Nat) : Ent := ⟨[], .quiet, fun args mem => match args, mem with
  | [(.ints 16 b0), (.ints 3 p1)], [] => some ((spec_l8Put_p b0 p1).isSome, ⟨(.ints 16 ((spec_l8Put_p b0 p1).getD default)), [], []⟩)
  | _, _ => none⟩
theorem spec_l8Put_fok : FunOK Try.prog 47 := funOK Try.func47 (by kernel_rfl) rfl
theorem spec_l8Put_meets (F : Nat) : Meets Try.prog 47 (spec_l8Put_ent F) := by
  refine meets_of_runS mixed ttok deep (spec_l8Put_tabok F) Try.func47 (body_some rfl) (spec_l8Put_lsok0 F) fun args mem hfit ret h => ?_
  clear hfit
  simp only [spec_l8Put_ent] at h
  split at h
  · rename_i b0 p1
    simp only [Option.some.injEq, Prod.mk.injEq] at h
    obtain ⟨hc, rfl⟩ := h
    exact ⟨[], [], 70, _, (spec_l8Put_run F b0 p1).trans ((spec_l8Put_cp _ b0 p1 _).trans (bind_use hc _)), rfl, rfl, rfl⟩
  · cases h

/-! loop.example/g01194/spec.l8Least -/
noncomputable def spec_l8Least_n0_tab (F : Nat) : Tab := [(40, (spec_l8Places_ent F)), (47, (spec_l8Put_ent F)), (25, (spec_l8Sure_n0_ent F))]
theorem spec_l8Least_n0_tabok (F : Nat) : TabOK Try.prog (spec_l8Least_n0_tab F) := (tab_cons (spec_l8Places_meets F) spec_l8Places_fok (tab_cons (spec_l8Put_meets F) spec_l8Put_fok (tab_cons (spec_l8Sure_n0_meets F) spec_l8Sure_n0_fok tab_nil)))
noncomputable def spec_l8Least_n0_LS0 (F : Nat) : LT := []
theorem spec_l8Least_n0_lsok0 (F : Nat) : LoopsOK Try.prog (spec_l8Least_n0_LS0 F) (bodyOf Try.f38) := loopsOK_nil
theorem spec_l8Least_n0_keys : keysOK (bodyOf Try.f38) = true := by kernel_rfl
def spec_l8Least_n0_st4 (next14 : List Int) (all16 : List (List Int)) (i13 : Int) (first17 : List Int) : St := ⟨expand 48 0 [1, 2, 4, 6, 7, 8, 9] [(.int .i64 (0 : Int)), (.ptr 0 0 0 16), (.ptr 1 0 0 3), (.sl 2 0 (List.length all16)), (.int .i64 (0 : Int)), (.ptr 3 0 0 3), (.int .i64 i13)], [(.var 16 (.ri .i64 next14)), (.var 3 (.ri .i64 [(0 : Int), (0 : Int), (0 : Int)])), (.vec 34 (.rr 3 all16)), (.var 3 (.ri .i64 first17))], 0, []⟩
def spec_l8Least_n0_o4 (next14 : List Int) (all16 : List (List Int)) (x : List Int) : GT := (.out (.exit 0 ⟨expand 48 0 [4, 7, 8] [(.ptr 0 0 0 3), (.int .i64 (0 : Int)), (.ptr 1 0 0 3)], [(.var 3 (.ri .i64 [(0 : Int), (0 : Int), (0 : Int)])), (.var 3 (.ri .i64 x))], 0, []⟩))
def spec_l8Least_n0_ls4 (F : Nat) : LoopS := ⟨48, [1, 2, 4, 6, 7, 8, 9], [], [4, 7, 8], [], [4, 5], [], [], fun vals mem np killed => match vals, mem, np, killed with
  | [(.int .i64 q_n0), (.ptr 0 0 0 16), (.ptr 1 0 0 3), (.sl 2 0 q_all8), (.int .i64 q_least9), (.ptr 3 0 0 3), (.int .i64 i13)], [(.var 16 (.ri .i64 next14)), (.var 3 (.ri .i64 q_t415)), (.vec 34 (.rr 3 all16)), (.var 3 (.ri .i64 first17))], 0, [] => .br ((q_n0 == (0 : Int)) && ((q_least9 == (0 : Int)) && ((q_t415 == ([(0 : Int), (0 : Int), (0 : Int)] : List Int)) && ((Nat.beq q_all8 (List.length all16)) && (spec_l8Least_n0_l4 F next14 all16 i13 first17).isSome)))) (spec_l8Least_n0_o4 next14 all16 ((spec_l8Least_n0_l4 F next14 all16 i13 first17).getD default)) .fail
  | _, _, _, _ => .fail⟩
theorem spec_l8Least_n0_step4 (F : Nat) (next14 : List Int) (all16 : List (List Int)) (i13 : Int) (first17 : List Int) {R : Type} (k : Out → Option R) : stepS tt (spec_l8Least_n0_tab F) (spec_l8Least_n0_LS0 F) 70 (spec_l8Least_n0_ls4 F) (loopAt 4 (bodyOf Try.f38)) (spec_l8Least_n0_st4 next14 all16 i13 first17) k = spec_l8Least_n0_s4 F next14 all16 R (i13, first17) (fun s => k (.norm (spec_l8Least_n0_st4 next14 all16 s.1 s.2))) (fun x => (spec_l8Least_n0_o4 next14 all16 x).run k) := by kernel_rfl
theorem spec_l8Least_n0_iter4 (F : Nat) (next14 : List Int) (all16 : List (List Int)) {R : Type} (k : Out → Option R) : ∀ (n : Nat) (i13 : Int) (first17 : List Int), iterS tt (spec_l8Least_n0_tab F) (spec_l8Least_n0_LS0 F) 70 (spec_l8Least_n0_ls4 F) (loopAt 4 (bodyOf Try.f38)) n (spec_l8Least_n0_st4 next14 all16 i13 first17) k = loopC (spec_l8Least_n0_s4 F next14 all16) n (i13, first17) (fun x => (spec_l8Least_n0_o4 next14 all16 x).run k)
  | 0, i13, first17 => rfl
  | n + 1, i13, first17 => (iterS_succ tt (spec_l8Least_n0_tab F) (spec_l8Least_n0_LS0 F) 70 (spec_l8Least_n0_ls4 F) (loopAt 4 (bodyOf Try.f38)) n (spec_l8Least_n0_st4 next14 all16 i13 first17) k).trans ((spec_l8Least_n0_step4 F next14 all16 i13 first17 (nextK (iterS tt (spec_l8Least_n0_tab F) (spec_l8Least_n0_LS0 F) 70 (spec_l8Least_n0_ls4 F) (loopAt 4 (bodyOf Try.f38)) n) k)).trans (congrArg (fun kn => spec_l8Least_n0_s4 F next14 all16 R (i13, first17) kn _) (funext (fun ⟨i13, first17⟩ => spec_l8Least_n0_iter4 F next14 all16 k n i13 first17))))
theorem spec_l8Least_n0_lok4 (F : Nat) : LoopOK Try.prog (loopAt 4 (bodyOf Try.f38)) (spec_l8Least_n0_ls4 F) := by
  refine loopOK_of mixed ttok deep (spec_l8Least_n0_tabok F) (loopsOK_at (spec_l8Least_n0_lsok0 F) 4) (fuel := 70) fun R vals mem np killed k x h => ?_
  simp only [spec_l8Least_n0_ls4] at h
  split at h
  · rename_i q_n0 q_all8 q_least9 i13 next14 q_t415 all16 first17
    simp only [GT.run] at h
    have hc := (cond_noneL h).1
    replace h := (cond_noneL h).2
    have hg := (and_split hc).1
    replace hc := (and_split hc).2
    obtain rfl := beq_int hg
    have hg := (and_split hc).1
    replace hc := (and_split hc).2
    obtain rfl := beq_int hg
    have hg := (and_split hc).1
    replace hc := (and_split hc).2
    obtain rfl := beq_li hg
    have hg := (and_split hc).1
    replace hc := (and_split hc).2
    obtain rfl := nbeq_nat hg
    refine ⟨F, (spec_l8Least_n0_iter4 F next14 all16 k F i13 first17).trans ((loopC_use (spec_l8Least_n0_s4_nat F next14 all16) hc _).trans h)⟩
  · simp only [GT.run] at h
    cases h
noncomputable def spec_l8Least_n0_LS1 (F : Nat) : LT := (4, spec_l8Least_n0_ls4 F) :: spec_l8Least_n0_LS0 F
theorem spec_l8Least_n0_lsok1 (F : Nat) : LoopsOK Try.prog (spec_l8Least_n0_LS1 F) (bodyOf Try.f38) := loopsOK_cons spec_l8Least_n0_keys (spec_l8Least_n0_lok4 F) (spec_l8Least_n0_lsok0 F)
theorem spec_l8Least_n0_run (F : Nat) (next0 : List Int) : runS tt (spec_l8Least_n0_tab F) (spec_l8Least_n0_LS1 F) [] [] Try.f38 (bodyOf Try.f38) 70 [(.ints 16 next0), (.int .i64 (0 : Int))] [] = spec_l8Least_n0_c _ F next0 (fun r => some ⟨(.tup [(.ints 3 r), (.int .i64 (0 : Int))]), [], []⟩) := by kernel_rfl
def spec_l8Least_n0_ent (F : Nat) : Ent := ⟨[], .quiet, fun args mem => match args, mem with
  | [(.ints 16 next0), (.int .i64 q_n1)], [] => bif (q_n1 == (0 : Int)) then some ((spec_l8Least_n0_p F next0).isSome, ⟨(.tup [(.ints 3 ((spec_l8Least_n0_p F next0).getD default)), (.int .i64 (0 : Int))]), [], []⟩) else none
  | _, _ => none⟩
theorem spec_l8Least_n0_fok : FunOK Try.prog 38 := funOK Try.func38 (by kernel_rfl) rfl
theorem spec_l8Least_n0_meets (F : Nat) : Meets Try.prog 38 (spec_l8Least_n0_ent F) := by
  refine meets_of_runS mixed ttok deep (spec_l8Least_n0_tabok F) Try.func38 (body_some rfl) (spec_l8Least_n0_lsok1 F) fun args mem hfit ret h => ?_
  clear hfit
  simp only [spec_l8Least_n0_ent] at h
  split at h
  · rename_i next0 q_n1
    have hg0 := (cond_noneL h).1
    replace h := (cond_noneL h).2
    obtain rfl := beq_int hg0
    simp only [Option.some.injEq, Prod.mk.injEq] at h
    obtain ⟨hc, rfl⟩ := h
    exact ⟨[], [], 70, _, (spec_l8Least_n0_run F next0).trans ((spec_l8Least_n0_cp _ F next0 _).trans (bind_use hc _)), rfl, rfl, rfl⟩
  · cases h

/-! loop.example/g01194/spec.l8Sure -/
noncomputable def spec_l8Sure_n1_tab (F : Nat) : Tab := [(37, (spec_l2Slide_ent F)), (38, (spec_l8Least_n0_ent F))]
theorem spec_l8Sure_n1_tabok (F : Nat) : TabOK Try.prog (spec_l8Sure_n1_tab F) := (tab_cons (spec_l2Slide_meets F) spec_l2Slide_fok (tab_cons (spec_l8Least_n0_meets F) spec_l8Least_n0_fok tab_nil))
noncomputable def spec_l8Sure_n1_LS0 (F : Nat) : LT := []
theorem spec_l8Sure_n1_lsok0 (F : Nat) : LoopsOK Try.prog (spec_l8Sure_n1_LS0 F) (bodyOf Try.f25) := loopsOK_nil
theorem spec_l8Sure_n1_keys : keysOK (bodyOf Try.f25) = true := by kernel_rfl
def spec_l8Sure_n1_st3 (b7 : List Int) (best4 : Int) (first5 : Int) (d6 : Int) : St := ⟨expand 52 0 [1, 2, 6, 7, 8] [(.int .i64 (1 : Int)), (.ptr 0 0 0 16), (.int .i64 best4), (.int .i64 first5), (.int .i64 d6)], [(.var 16 (.ri .i64 b7))], 0, []⟩
def spec_l8Sure_n1_o3 (b7 : List Int) (x : Int × Int) : GT := (.out (.exit 0 ⟨expand 52 0 [6, 7] [(.int .i64 x.1), (.int .i64 x.2)], [], 0, []⟩))
def spec_l8Sure_n1_ls3 (F : Nat) : LoopS := ⟨52, [1, 2, 6, 7, 8], [], [6, 7], [], [4, 5], [], [], fun vals mem np killed => match vals, mem, np, killed with
  | [(.int .i64 q_n0), (.ptr 0 0 0 16), (.int .i64 best4), (.int .i64 first5), (.int .i64 d6)], [(.var 16 (.ri .i64 b7))], 0, [] => .br ((q_n0 == (1 : Int)) && (spec_l8Sure_n1_l3 F b7 best4 first5 d6).isSome) (spec_l8Sure_n1_o3 b7 ((spec_l8Sure_n1_l3 F b7 best4 first5 d6).getD default)) .fail
  | _, _, _, _ => .fail⟩
theorem spec_l8Sure_n1_step3 (F : Nat) (b7 : List Int) (best4 : Int) (first5 : Int) (d6 : Int) {R : Type} (k : Out → Option R) : stepS tt (spec_l8Sure_n1_tab F) (spec_l8Sure_n1_LS0 F) 70 (spec_l8Sure_n1_ls3 F) (loopAt 3 (bodyOf Try.f25)) (spec_l8Sure_n1_st3 b7 best4 first5 d6) k = spec_l8Sure_n1_s3 F b7 R (best4, first5, d6) (fun s => k (.norm (spec_l8Sure_n1_st3 b7 s.1 s.2.1 s.2.2))) (fun x => (spec_l8Sure_n1_o3 b7 x).run k) := by kernel_rfl
theorem spec_l8Sure_n1_iter3 (F : Nat) (b7 : List Int) {R : Type} (k : Out → Option R) : ∀ (n : Nat) (best4 : Int) (first5 : Int) (d6 : Int), iterS tt (spec_l8Sure_n1_tab F) (spec_l8Sure_n1_LS0 F) 70 (spec_l8Sure_n1_ls3 F) (loopAt 3 (bodyOf Try.f25)) n (spec_l8Sure_n1_st3 b7 best4 first5 d6) k = loopC (spec_l8Sure_n1_s3 F b7) n (best4, first5, d6) (fun x => (spec_l8Sure_n1_o3 b7 x).run k)
  | 0, best4, first5, d6 => rfl
  | n + 1, best4, first5, d6 => (iterS_succ tt (spec_l8Sure_n1_tab F) (spec_l8Sure_n1_LS0 F) 70 (spec_l8Sure_n1_ls3 F) (loopAt 3 (bodyOf Try.f25)) n (spec_l8Sure_n1_st3 b7 best4 first5 d6) k).trans ((spec_l8Sure_n1_step3 F b7 best4 first5 d6 (nextK (iterS tt (spec_l8Sure_n1_tab F) (spec_l8Sure_n1_LS0 F) 70 (spec_l8Sure_n1_ls3 F) (loopAt 3 (bodyOf Try.f25)) n) k)).trans (congrArg (fun kn => spec_l8Sure_n1_s3 F b7 R (best4, first5, d6) kn _) (funext (fun ⟨best4, first5, d6⟩ => spec_l8Sure_n1_iter3 F b7 k n best4 first5 d6))))
theorem spec_l8Sure_n1_lok3 (F : Nat) : LoopOK Try.prog (loopAt 3 (bodyOf Try.f25)) (spec_l8Sure_n1_ls3 F) := by
  refine loopOK_of mixed ttok deep (spec_l8Sure_n1_tabok F) (loopsOK_at (spec_l8Sure_n1_lsok0 F) 3) (fuel := 70) fun R vals mem np killed k x h => ?_
  simp only [spec_l8Sure_n1_ls3] at h
  split at h
  · rename_i q_n0 best4 first5 d6 b7
    simp only [GT.run] at h
    have hc := (cond_noneL h).1
    replace h := (cond_noneL h).2
    have hg := (and_split hc).1
    replace hc := (and_split hc).2
    obtain rfl := beq_int hg
    refine ⟨F, (spec_l8Sure_n1_iter3 F b7 k F best4 first5 d6).trans ((loopC_use (spec_l8Sure_n1_s3_nat F b7) hc _).trans h)⟩
  · simp only [GT.run] at h
    cases h
noncomputable def spec_l8Sure_n1_LS1 (F : Nat) : LT := (3, spec_l8Sure_n1_ls3 F) :: spec_l8Sure_n1_LS0 F
theorem spec_l8Sure_n1_lsok1 (F : Nat) : LoopsOK Try.prog (spec_l8Sure_n1_LS1 F) (bodyOf Try.f25) := loopsOK_cons spec_l8Sure_n1_keys (spec_l8Sure_n1_lok3 F) (spec_l8Sure_n1_lsok0 F)
theorem spec_l8Sure_n1_run (F : Nat) (b0 : List Int) : runS tt (spec_l8Sure_n1_tab F) (spec_l8Sure_n1_LS1 F) [] [] Try.f25 (bodyOf Try.f25) 70 [(.ints 16 b0), (.int .i64 (1 : Int))] [] = spec_l8Sure_n1_c _ F b0 (fun r => some ⟨(.tup [(.int .i64 r.1), (.int .i64 r.2)]), [], []⟩) := by kernel_rfl
def spec_l8Sure_n1_ent (F : Nat) : Ent := ⟨[], .quiet, fun args mem => match args, mem with
  | [(.ints 16 b0), (.int .i64 q_n1)], [] => bif (q_n1 == (1 : Int)) then some ((spec_l8Sure_n1_p F b0).isSome, ⟨(.tup [(.int .i64 ((spec_l8Sure_n1_p F b0).getD default).1), (.int .i64 ((spec_l8Sure_n1_p F b0).getD default).2)]), [], []⟩) else none
  | _, _ => none⟩
theorem spec_l8Sure_n1_fok : FunOK Try.prog 25 := funOK Try.func25 (by kernel_rfl) rfl
theorem spec_l8Sure_n1_meets (F : Nat) : Meets Try.prog 25 (spec_l8Sure_n1_ent F) := by
  refine meets_of_runS mixed ttok deep (spec_l8Sure_n1_tabok F) Try.func25 (body_some rfl) (spec_l8Sure_n1_lsok1 F) fun args mem hfit ret h => ?_
  clear hfit
  simp only [spec_l8Sure_n1_ent] at h
  split at h
  · rename_i b0 q_n1
    have hg0 := (cond_noneL h).1
    replace h := (cond_noneL h).2
    obtain rfl := beq_int hg0
    simp only [Option.some.injEq, Prod.mk.injEq] at h
    obtain ⟨hc, rfl⟩ := h
    exact ⟨[], [], 70, _, (spec_l8Sure_n1_run F b0).trans ((spec_l8Sure_n1_cp _ F b0 _).trans (bind_use hc _)), rfl, rfl, rfl⟩
  · cases h

/-! loop.example/g01194/spec.l8Least -/
noncomputable def spec_l8Least_n1_tab (F : Nat) : Tab := [(40, (spec_l8Places_ent F)), (47, (spec_l8Put_ent F)), (25, (spec_l8Sure_n1_ent F))]
theorem spec_l8Least_n1_tabok (F : Nat) : TabOK Try.prog (spec_l8Least_n1_tab F) := (tab_cons (spec_l8Places_meets F) spec_l8Places_fok (tab_cons (spec_l8Put_meets F) spec_l8Put_fok (tab_cons (spec_l8Sure_n1_meets F) spec_l8Sure_n1_fok tab_nil)))
noncomputable def spec_l8Least_n1_LS0 (F : Nat) : LT := []
theorem spec_l8Least_n1_lsok0 (F : Nat) : LoopsOK Try.prog (spec_l8Least_n1_LS0 F) (bodyOf Try.f38) := loopsOK_nil
theorem spec_l8Least_n1_keys : keysOK (bodyOf Try.f38) = true := by kernel_rfl
def spec_l8Least_n1_st4 (next14 : List Int) (all16 : List (List Int)) (least9 : Int) (i13 : Int) (first17 : List Int) : St := ⟨expand 48 0 [1, 2, 4, 6, 7, 8, 9] [(.int .i64 (1 : Int)), (.ptr 0 0 0 16), (.ptr 1 0 0 3), (.sl 2 0 (List.length all16)), (.int .i64 least9), (.ptr 3 0 0 3), (.int .i64 i13)], [(.var 16 (.ri .i64 next14)), (.var 3 (.ri .i64 [(0 : Int), (0 : Int), (0 : Int)])), (.vec 34 (.rr 3 all16)), (.var 3 (.ri .i64 first17))], 0, []⟩
def spec_l8Least_n1_o4 (next14 : List Int) (all16 : List (List Int)) (x : Int × List Int) : GT := (.out (.exit 0 ⟨expand 48 0 [4, 7, 8] [(.ptr 0 0 0 3), (.int .i64 x.1), (.ptr 1 0 0 3)], [(.var 3 (.ri .i64 [(0 : Int), (0 : Int), (0 : Int)])), (.var 3 (.ri .i64 x.2))], 0, []⟩))
def spec_l8Least_n1_ls4 (F : Nat) : LoopS := ⟨48, [1, 2, 4, 6, 7, 8, 9], [], [4, 7, 8], [], [4, 5], [], [], fun vals mem np killed => match vals, mem, np, killed with
  | [(.int .i64 q_n0), (.ptr 0 0 0 16), (.ptr 1 0 0 3), (.sl 2 0 q_all8), (.int .i64 least9), (.ptr 3 0 0 3), (.int .i64 i13)], [(.var 16 (.ri .i64 next14)), (.var 3 (.ri .i64 q_t415)), (.vec 34 (.rr 3 all16)), (.var 3 (.ri .i64 first17))], 0, [] => .br ((q_n0 == (1 : Int)) && ((q_t415 == ([(0 : Int), (0 : Int), (0 : Int)] : List Int)) && ((Nat.beq q_all8 (List.length all16)) && (spec_l8Least_n1_l4 F next14 all16 least9 i13 first17).isSome))) (spec_l8Least_n1_o4 next14 all16 ((spec_l8Least_n1_l4 F next14 all16 least9 i13 first17).getD default)) .fail
  | _, _, _, _ => .fail⟩
theorem spec_l8Least_n1_step4 (F : Nat) (next14 : List Int) (all16 : List (List Int)) (least9 : Int) (i13 : Int) (first17 : List Int) {R : Type} (k : Out → Option R) : stepS tt (spec_l8Least_n1_tab F) (spec_l8Least_n1_LS0 F) 70 (spec_l8Least_n1_ls4 F) (loopAt 4 (bodyOf Try.f38)) (spec_l8Least_n1_st4 next14 all16 least9 i13 first17) k = spec_l8Least_n1_s4 F next14 all16 R (least9, i13, first17) (fun s => k (.norm (spec_l8Least_n1_st4 next14 all16 s.1 s.2.1 s.2.2))) (fun x => (spec_l8Least_n1_o4 next14 all16 x).run k) := by kernel_rfl
theorem spec_l8Least_n1_iter4 (F : Nat) (next14 : List Int) (all16 : List (List Int)) {R : Type} (k : Out → Option R) : ∀ (n : Nat) (least9 : Int) (i13 : Int) (first17 : List Int), iterS tt (spec_l8Least_n1_tab F) (spec_l8Least_n1_LS0 F) 70 (spec_l8Least_n1_ls4 F) (loopAt 4 (bodyOf Try.f38)) n (spec_l8Least_n1_st4 next14 all16 least9 i13 first17) k = loopC (spec_l8Least_n1_s4 F next14 all16) n (least9, i13, first17) (fun x => (spec_l8Least_n1_o4 next14 all16 x).run k)
  | 0, least9, i13, first17 => rfl
  | n + 1, least9, i13, first17 => (iterS_succ tt (spec_l8Least_n1_tab F) (spec_l8Least_n1_LS0 F) 70 (spec_l8Least_n1_ls4 F) (loopAt 4 (bodyOf Try.f38)) n (spec_l8Least_n1_st4 next14 all16 least9 i13 first17) k).trans ((spec_l8Least_n1_step4 F next14 all16 least9 i13 first17 (nextK (iterS tt (spec_l8Least_n1_tab F) (spec_l8Least_n1_LS0 F) 70 (spec_l8Least_n1_ls4 F) (loopAt 4 (bodyOf Try.f38)) n) k)).trans (congrArg (fun kn => spec_l8Least_n1_s4 F next14 all16 R (least9, i13, first17) kn _) (funext (fun ⟨least9, i13, first17⟩ => spec_l8Least_n1_iter4 F next14 all16 k n least9 i13 first17))))
theorem spec_l8Least_n1_lok4 (F : Nat) : LoopOK Try.prog (loopAt 4 (bodyOf Try.f38)) (spec_l8Least_n1_ls4 F) := by
  refine loopOK_of mixed ttok deep (spec_l8Least_n1_tabok F) (loopsOK_at (spec_l8Least_n1_lsok0 F) 4) (fuel := 70) fun R vals mem np killed k x h => ?_
  simp only [spec_l8Least_n1_ls4] at h
  split at h
  · rename_i q_n0 q_all8 least9 i13 next14 q_t415 all16 first17
    simp only [GT.run] at h
    have hc := (cond_noneL h).1
    replace h := (cond_noneL h).2
    have hg := (and_split hc).1
    replace hc := (and_split hc).2
    obtain rfl := beq_int hg
    have hg := (and_split hc).1
    replace hc := (and_split hc).2
    obtain rfl := beq_li hg
    have hg := (and_split hc).1
    replace hc := (and_split hc).2
    obtain rfl := nbeq_nat hg
    refine ⟨F, (spec_l8Least_n1_iter4 F next14 all16 k F least9 i13 first17).trans ((loopC_use (spec_l8Least_n1_s4_nat F next14 all16) hc _).trans h)⟩
  · simp only [GT.run] at h
    cases h
noncomputable def spec_l8Least_n1_LS1 (F : Nat) : LT := (4, spec_l8Least_n1_ls4 F) :: spec_l8Least_n1_LS0 F
theorem spec_l8Least_n1_lsok1 (F : Nat) : LoopsOK Try.prog (spec_l8Least_n1_LS1 F) (bodyOf Try.f38) := loopsOK_cons spec_l8Least_n1_keys (spec_l8Least_n1_lok4 F) (spec_l8Least_n1_lsok0 F)
theorem spec_l8Least_n1_run (F : Nat) (next0 : List Int) : runS tt (spec_l8Least_n1_tab F) (spec_l8Least_n1_LS1 F) [] [] Try.f38 (bodyOf Try.f38) 70 [(.ints 16 next0), (.int .i64 (1 : Int))] [] = spec_l8Least_n1_c _ F next0 (fun r => some ⟨(.tup [(.ints 3 r.1), (.int .i64 r.2)]), [], []⟩) := by kernel_rfl
def spec_l8Least_n1_ent (F : Nat) : Ent := ⟨[], .quiet, fun args mem => match args, mem with
  | [(.ints 16 next0), (.int .i64 q_n1)], [] => bif (q_n1 == (1 : Int)) then some ((spec_l8Least_n1_p F next0).isSome, ⟨(.tup [(.ints 3 ((spec_l8Least_n1_p F next0).getD default).1), (.int .i64 ((spec_l8Least_n1_p F next0).getD default).2)]), [], []⟩) else none
  | _, _ => none⟩
theorem spec_l8Least_n1_fok : FunOK Try.prog 38 := funOK Try.func38 (by kernel_rfl) rfl
theorem spec_l8Least_n1_meets (F : Nat) : Meets Try.prog 38 (spec_l8Least_n1_ent F) := by
  refine meets_of_runS mixed ttok deep (spec_l8Least_n1_tabok F) Try.func38 (body_some rfl) (spec_l8Least_n1_lsok1 F) fun args mem hfit ret h => ?_
  clear hfit
  simp only [spec_l8Least_n1_ent] at h
  split at h
  · rename_i next0 q_n1
    have hg0 := (cond_noneL h).1
    replace h := (cond_noneL h).2
    obtain rfl := beq_int hg0
    simp only [Option.some.injEq, Prod.mk.injEq] at h
    obtain ⟨hc, rfl⟩ := h
    exact ⟨[], [], 70, _, (spec_l8Least_n1_run F next0).trans ((spec_l8Least_n1_cp _ F next0 _).trans (bind_use hc _)), rfl, rfl, rfl⟩
  · cases h

/-! loop.example/g01194/spec.l8Sure -/
noncomputable def spec_l8Sure_n2_tab (F : Nat) : Tab := [(37, (spec_l2Slide_ent F)), (38, (spec_l8Least_n1_ent F))]
theorem spec_l8Sure_n2_tabok (F : Nat) : TabOK Try.prog (spec_l8Sure_n2_tab F) := (tab_cons (spec_l2Slide_meets F) spec_l2Slide_fok (tab_cons (spec_l8Least_n1_meets F) spec_l8Least_n1_fok tab_nil))
noncomputable def spec_l8Sure_n2_LS0 (F : Nat) : LT := []
theorem spec_l8Sure_n2_lsok0 (F : Nat) : LoopsOK Try.prog (spec_l8Sure_n2_LS0 F) (bodyOf Try.f25) := loopsOK_nil
theorem spec_l8Sure_n2_keys : keysOK (bodyOf Try.f25) = true := by kernel_rfl
def spec_l8Sure_n2_st3 (b7 : List Int) (best4 : Int) (first5 : Int) (d6 : Int) : St := ⟨expand 52 0 [1, 2, 6, 7, 8] [(.int .i64 (2 : Int)), (.ptr 0 0 0 16), (.int .i64 best4), (.int .i64 first5), (.int .i64 d6)], [(.var 16 (.ri .i64 b7))], 0, []⟩
def spec_l8Sure_n2_o3 (b7 : List Int) (x : Int × Int) : GT := (.out (.exit 0 ⟨expand 52 0 [6, 7] [(.int .i64 x.1), (.int .i64 x.2)], [], 0, []⟩))
def spec_l8Sure_n2_ls3 (F : Nat) : LoopS := ⟨52, [1, 2, 6, 7, 8], [], [6, 7], [], [4, 5], [], [], fun vals mem np killed => match vals, mem, np, killed with
  | [(.int .i64 q_n0), (.ptr 0 0 0 16), (.int .i64 best4), (.int .i64 first5), (.int .i64 d6)], [(.var 16 (.ri .i64 b7))], 0, [] => .br ((q_n0 == (2 : Int)) && (spec_l8Sure_n2_l3 F b7 best4 first5 d6).isSome) (spec_l8Sure_n2_o3 b7 ((spec_l8Sure_n2_l3 F b7 best4 first5 d6).getD default)) .fail
  | _, _, _, _ => .fail⟩
theorem spec_l8Sure_n2_step3 (F : Nat) (b7 : List Int) (best4 : Int) (first5 : Int) (d6 : Int) {R : Type} (k : Out → Option R) : stepS tt (spec_l8Sure_n2_tab F) (spec_l8Sure_n2_LS0 F) 70 (spec_l8Sure_n2_ls3 F) (loopAt 3 (bodyOf Try.f25)) (spec_l8Sure_n2_st3 b7 best4 first5 d6) k = spec_l8Sure_n2_s3 F b7 R (best4, first5, d6) (fun s => k (.norm (spec_l8Sure_n2_st3 b7 s.1 s.2.1 s.2.2))) (fun x => (spec_l8Sure_n2_o3 b7 x).run k) := by kernel_rfl
theorem spec_l8Sure_n2_iter3 (F : Nat) (b7 : List Int) {R : Type} (k : Out → Option R) : ∀ (n : Nat) (best4 : Int) (first5 : Int) (d6 : Int), iterS tt (spec_l8Sure_n2_tab F) (spec_l8Sure_n2_LS0 F) 70 (spec_l8Sure_n2_ls3 F) (loopAt 3 (bodyOf Try.f25)) n (spec_l8Sure_n2_st3 b7 best4 first5 d6) k = loopC (spec_l8Sure_n2_s3 F b7) n (best4, first5, d6) (fun x => (spec_l8Sure_n2_o3 b7 x).run k)
  | 0, best4, first5, d6 => rfl
  | n + 1, best4, first5, d6 => (iterS_succ tt (spec_l8Sure_n2_tab F) (spec_l8Sure_n2_LS0 F) 70 (spec_l8Sure_n2_ls3 F) (loopAt 3 (bodyOf Try.f25)) n (spec_l8Sure_n2_st3 b7 best4 first5 d6) k).trans ((spec_l8Sure_n2_step3 F b7 best4 first5 d6 (nextK (iterS tt (spec_l8Sure_n2_tab F) (spec_l8Sure_n2_LS0 F) 70 (spec_l8Sure_n2_ls3 F) (loopAt 3 (bodyOf Try.f25)) n) k)).trans (congrArg (fun kn => spec_l8Sure_n2_s3 F b7 R (best4, first5, d6) kn _) (funext (fun ⟨best4, first5, d6⟩ => spec_l8Sure_n2_iter3 F b7 k n best4 first5 d6))))
theorem spec_l8Sure_n2_lok3 (F : Nat) : LoopOK Try.prog (loopAt 3 (bodyOf Try.f25)) (spec_l8Sure_n2_ls3 F) := by
  refine loopOK_of mixed ttok deep (spec_l8Sure_n2_tabok F) (loopsOK_at (spec_l8Sure_n2_lsok0 F) 3) (fuel := 70) fun R vals mem np killed k x h => ?_
  simp only [spec_l8Sure_n2_ls3] at h
  split at h
  · rename_i q_n0 best4 first5 d6 b7
    simp only [GT.run] at h
    have hc := (cond_noneL h).1
    replace h := (cond_noneL h).2
    have hg := (and_split hc).1
    replace hc := (and_split hc).2
    obtain rfl := beq_int hg
    refine ⟨F, (spec_l8Sure_n2_iter3 F b7 k F best4 first5 d6).trans ((loopC_use (spec_l8Sure_n2_s3_nat F b7) hc _).trans h)⟩
  · simp only [GT.run] at h
    cases h
noncomputable def spec_l8Sure_n2_LS1 (F : Nat) : LT := (3, spec_l8Sure_n2_ls3 F) :: spec_l8Sure_n2_LS0 F
theorem spec_l8Sure_n2_lsok1 (F : Nat) : LoopsOK Try.prog (spec_l8Sure_n2_LS1 F) (bodyOf Try.f25) := loopsOK_cons spec_l8Sure_n2_keys (spec_l8Sure_n2_lok3 F) (spec_l8Sure_n2_lsok0 F)
theorem spec_l8Sure_n2_run (F : Nat) (b0 : List Int) : runS tt (spec_l8Sure_n2_tab F) (spec_l8Sure_n2_LS1 F) [] [] Try.f25 (bodyOf Try.f25) 70 [(.ints 16 b0), (.int .i64 (2 : Int))] [] = spec_l8Sure_n2_c _ F b0 (fun r => some ⟨(.tup [(.int .i64 r.1), (.int .i64 r.2)]), [], []⟩) := by kernel_rfl
def spec_l8Sure_n2_ent (F : Nat) : Ent := ⟨[], .quiet, fun args mem => match args, mem with
  | [(.ints 16 b0), (.int .i64 q_n1)], [] => bif (q_n1 == (2 : Int)) then some ((spec_l8Sure_n2_p F b0).isSome, ⟨(.tup [(.int .i64 ((spec_l8Sure_n2_p F b0).getD default).1), (.int .i64 ((spec_l8Sure_n2_p F b0).getD default).2)]), [], []⟩) else none
  | _, _ => none⟩
theorem spec_l8Sure_n2_fok : FunOK Try.prog 25 := funOK Try.func25 (by kernel_rfl) rfl
theorem spec_l8Sure_n2_meets (F : Nat) : Meets Try.prog 25 (spec_l8Sure_n2_ent F) := by
  refine meets_of_runS mixed ttok deep (spec_l8Sure_n2_tabok F) Try.func25 (body_some rfl) (spec_l8Sure_n2_lsok1 F) fun args mem hfit ret h => ?_
  clear hfit
  simp only [spec_l8Sure_n2_ent] at h
  split at h
  · rename_i b0 q_n1
    have hg0 := (cond_noneL h).1
    replace h := (cond_noneL h).2
    obtain rfl := beq_int hg0
    simp only [Option.some.injEq, Prod.mk.injEq] at h
    obtain ⟨hc, rfl⟩ := h
    exact ⟨[], [], 70, _, (spec_l8Sure_n2_run F b0).trans ((spec_l8Sure_n2_cp _ F b0 _).trans (bind_use hc _)), rfl, rfl, rfl⟩
  · cases h

/-! loop.example/g01194/spec.l8Sure -/
def spec_l8Sure_ent (F : Nat) : Ent := ⟨[], .quiet, fun args mem => match args, mem with
  | [(.ints 16 b0), (.int .i64 n1)], [] => some ((spec_l8Sure_p F b0 n1).isSome, ⟨(.tup [(.int .i64 ((spec_l8Sure_p F b0 n1).getD default).1), (.int .i64 ((spec_l8Sure_p F b0 n1).getD default).2)]), [], []⟩)
  | _, _ => none⟩
theorem spec_l8Sure_fok : FunOK Try.prog 25 := funOK Try.func25 (by kernel_rfl) rfl
theorem spec_l8Sure_meets (F : Nat) : Meets Try.prog 25 (spec_l8Sure_ent F) := by
  intro fr w ρ mem args reals hw ha ret hg
  simp only [spec_l8Sure_ent] at hg
  split at hg
  · rename_i b0 n1
    simp only [Option.some.injEq, Prod.mk.injEq] at hg
    obtain ⟨hc, rfl⟩ := hg
    by_cases hn0 : (n1 == (0 : Int)) = true
    · obtain rfl := beq_int hn0
      have e : spec_l8Sure_p F b0 (0 : Int) = some ((0 : Int), (-1 : Int)) := by kernel_rfl
      have hg' : (spec_l8Sure_n0_ent F).g [(.ints 16 b0), (.int .i64 (0 : Int))] [] = some (true, ⟨(.tup [(.int .i64 (0 : Int)), (.int .i64 (-1 : Int))]), [], []⟩) := by kernel_rfl
      have h9 := spec_l8Sure_n0_meets F fr w ρ _ _ reals hw ha _ hg'
      simp only [e, cond_true, Option.getD_some]
      exact h9
    · replace hn0 : (n1 == (0 : Int)) = false := by simpa using hn0
      by_cases hn1 : (n1 == (1 : Int)) = true
      · obtain rfl := beq_int hn1
        have e : spec_l8Sure_p F b0 (1 : Int) = (bif (Option.isSome (spec_l8Sure_n1_p F b0)) then some ((Option.getD (spec_l8Sure_n1_p F b0) default).1, (Option.getD (spec_l8Sure_n1_p F b0) default).2) else none) := by kernel_rfl
        have hg' : (spec_l8Sure_n1_ent F).g [(.ints 16 b0), (.int .i64 (1 : Int))] [] = some ((Option.isSome (spec_l8Sure_n1_p F b0)), ⟨(.tup [(.int .i64 (Option.getD (spec_l8Sure_n1_p F b0) default).1), (.int .i64 (Option.getD (spec_l8Sure_n1_p F b0) default).2)]), [], []⟩) := by kernel_rfl
        rw [e] at hc
        have hC := isSome_cond hc
        rw [hC] at hg'
        have h9 := spec_l8Sure_n1_meets F fr w ρ _ _ reals hw ha _ hg'
        simp only [e, hC, cond_true, Option.getD_some]
        exact h9
      · replace hn1 : (n1 == (1 : Int)) = false := by simpa using hn1
        by_cases hn2 : (n1 == (2 : Int)) = true
        · obtain rfl := beq_int hn2
          have e : spec_l8Sure_p F b0 (2 : Int) = (bif (Option.isSome (spec_l8Sure_n2_p F b0)) then some ((Option.getD (spec_l8Sure_n2_p F b0) default).1, (Option.getD (spec_l8Sure_n2_p F b0) default).2) else none) := by kernel_rfl
          have hg' : (spec_l8Sure_n2_ent F).g [(.ints 16 b0), (.int .i64 (2 : Int))] [] = some ((Option.isSome (spec_l8Sure_n2_p F b0)), ⟨(.tup [(.int .i64 (Option.getD (spec_l8Sure_n2_p F b0) default).1), (.int .i64 (Option.getD (spec_l8Sure_n2_p F b0) default).2)]), [], []⟩) := by kernel_rfl
          rw [e] at hc
          have hC := isSome_cond hc
          rw [hC] at hg'
          have h9 := spec_l8Sure_n2_meets F fr w ρ _ _ reals hw ha _ hg'
          simp only [e, hC, cond_true, Option.getD_some]
          exact h9
        · replace hn2 : (n1 == (2 : Int)) = false := by simpa using hn2
          exfalso
          have e : spec_l8Sure_p F b0 n1 = none := by simp only [spec_l8Sure_p, spec_l8Sure_c, hn0, hn1, hn2, cond_false]
          rw [e] at hc
          cases hc
  · cases hg

/-! loop.example/g01194/spec.SureScore -/
noncomputable def spec_SureScore_tab (F : Nat) : Tab := [(23, (spec_l2Board_ent F)), (24, (spec_l1In_ent F)), (25, (spec_l8Sure_ent F))]
theorem spec_SureScore_tabok (F : Nat) : TabOK Try.prog (spec_SureScore_tab F) := (tab_cons (spec_l2Board_meets F) spec_l2Board_fok (tab_cons (spec_l1In_meets F) spec_l1In_fok (tab_cons (spec_l8Sure_meets F) spec_l8Sure_fok tab_nil)))
noncomputable def spec_SureScore_LS0 (F : Nat) : LT := []
theorem spec_SureScore_lsok0 (F : Nat) : LoopsOK Try.prog (spec_SureScore_LS0 F) (bodyOf Try.f7) := loopsOK_nil
theorem spec_SureScore_run (F : Nat) (b0 : List Int) (n1 : Int) : runS tt (spec_SureScore_tab F) (spec_SureScore_LS0 F) [] [] Try.f7 (bodyOf Try.f7) 70 [(.ints 16 b0), (.int .i64 n1)] [] = spec_SureScore_c _ F b0 n1 (fun r => some ⟨(.tup [(.int .i64 r.1), (.bool r.2)]), [], []⟩) := by kernel_rfl
def spec_SureScore_ent (F : Nat) : Ent := ⟨[], .quiet, fun args mem => match args, mem with
  | [(.ints 16 b0), (.int .i64 n1)], [] => some ((spec_SureScore_p F b0 n1).isSome, ⟨(.tup [(.int .i64 ((spec_SureScore_p F b0 n1).getD default).1), (.bool ((spec_SureScore_p F b0 n1).getD default).2)]), [], []⟩)
  | _, _ => none⟩
theorem spec_SureScore_fok : FunOK Try.prog 7 := funOK Try.func7 (by kernel_rfl) rfl
theorem spec_SureScore_meets (F : Nat) : Meets Try.prog 7 (spec_SureScore_ent F) := by
  refine meets_of_runS mixed ttok deep (spec_SureScore_tabok F) Try.func7 (body_some rfl) (spec_SureScore_lsok0 F) fun args mem hfit ret h => ?_
  clear hfit
  simp only [spec_SureScore_ent] at h
  split at h
  · rename_i b0 n1
    simp only [Option.some.injEq, Prod.mk.injEq] at h
    obtain ⟨hc, rfl⟩ := h
    exact ⟨[], [], 70, _, (spec_SureScore_run F b0 n1).trans ((spec_SureScore_cp _ F b0 n1 _).trans (bind_use hc _)), rfl, rfl, rfl⟩
  · cases h

/-! (loop.example/g01194/impl.Board).sureOf -/
def impl_Board_sureOf_ent (F : Nat) : Ent := ⟨[], .quiet, fun args mem => match args, mem with
  | [(.ints 16 b0), (.int .i64 direction1), (.int .i64 n2)], [] => some ((impl_Board_sureOf_p F b0 direction1 n2).isSome, ⟨(.int .i64 ((impl_Board_sureOf_p F b0 direction1 n2).getD default)), [], []⟩)
  | _, _ => none⟩
theorem impl_Board_sureOf_fok : FunOK Try.prog 27 := funOK Try.func27 (by kernel_rfl) rfl
theorem impl_Board_sureOf_meets (F : Nat) : Meets Try.prog 27 (impl_Board_sureOf_ent F) := by
  intro fr w ρ mem args reals hw ha ret hg
  simp only [impl_Board_sureOf_ent] at hg
  split at hg
  · rename_i b0 direction1 n2
    simp only [Option.some.injEq, Prod.mk.injEq] at hg
    obtain ⟨hc, rfl⟩ := hg
    by_cases hn0 : (n2 == (1 : Int)) = true
    · obtain rfl := beq_int hn0
      have e : impl_Board_sureOf_p F b0 direction1 (1 : Int) = (bif (Option.isSome (impl_Board_sureOf_n1_p F b0 direction1)) then some (Option.getD (impl_Board_sureOf_n1_p F b0 direction1) default) else none) := by kernel_rfl
      have hg' : (impl_Board_sureOf_n1_ent F).g [(.ints 16 b0), (.int .i64 direction1), (.int .i64 (1 : Int))] [] = some ((Option.isSome (impl_Board_sureOf_n1_p F b0 direction1)), ⟨(.int .i64 (Option.getD (impl_Board_sureOf_n1_p F b0 direction1) default)), [], []⟩) := by kernel_rfl
      rw [e] at hc
      have hC := isSome_cond hc
      rw [hC] at hg'
      have h9 := impl_Board_sureOf_n1_meets F fr w ρ _ _ reals hw ha _ hg'
      simp only [e, hC, cond_true, Option.getD_some]
      exact h9
    · replace hn0 : (n2 == (1 : Int)) = false := by simpa using hn0
      by_cases hn1 : (n2 == (2 : Int)) = true
      · obtain rfl := beq_int hn1
        have e : impl_Board_sureOf_p F b0 direction1 (2 : Int) = (bif (Option.isSome (impl_Board_sureOf_n2_p F b0 direction1)) then some (Option.getD (impl_Board_sureOf_n2_p F b0 direction1) default) else none) := by kernel_rfl
        have hg' : (impl_Board_sureOf_n2_ent F).g [(.ints 16 b0), (.int .i64 direction1), (.int .i64 (2 : Int))] [] = some ((Option.isSome (impl_Board_sureOf_n2_p F b0 direction1)), ⟨(.int .i64 (Option.getD (impl_Board_sureOf_n2_p F b0 direction1) default)), [], []⟩) := by kernel_rfl
        rw [e] at hc
        have hC := isSome_cond hc
        rw [hC] at hg'
        have h9 := impl_Board_sureOf_n2_meets F fr w ρ _ _ reals hw ha _ hg'
        simp only [e, hC, cond_true, Option.getD_some]
        exact h9
      · replace hn1 : (n2 == (2 : Int)) = false := by simpa using hn1
        exfalso
        have e : impl_Board_sureOf_p F b0 direction1 n2 = none := by simp only [impl_Board_sureOf_p, impl_Board_sureOf_c, hn0, hn1, cond_false]
        rw [e] at hc
        cases hc
  · cases hg

/-! loop.example/g01194/impl.BestSure -/
noncomputable def impl_BestSure_tab (F : Nat) : Tab := [(20, (impl_IsBoard_ent F)), (21, (impl_in_ent F)), (22, (impl_Board_sure_ent F)), (26, (impl_Board_moves_ent F)), (27, (impl_Board_sureOf_ent F))]
theorem impl_BestSure_tabok (F : Nat) : TabOK Try.prog (impl_BestSure_tab F) := (tab_cons (impl_IsBoard_meets F) impl_IsBoard_fok (tab_cons (impl_in_meets F) impl_in_fok (tab_cons (impl_Board_sure_meets F) impl_Board_sure_fok (tab_cons (impl_Board_moves_meets F) impl_Board_moves_fok (tab_cons (impl_Board_sureOf_meets F) impl_Board_sureOf_fok tab_nil)))))
noncomputable def impl_BestSure_LS0 (F : Nat) : LT := []
theorem impl_BestSure_lsok0 (F : Nat) : LoopsOK Try.prog (impl_BestSure_LS0 F) (bodyOf Try.f8) := loopsOK_nil
theorem impl_BestSure_keys : keysOK (bodyOf Try.f8) = true := by kernel_rfl
def impl_BestSure_st5 (n0 : Int) (sure4 : Int) (t227 : Int) (b9 : List Int) (t2110 : List Int) (t238 : Int) : St := ⟨expand 35 0 [1, 2, 6, 21, 22, 23] [(.int .i64 n0), (.ptr 0 0 0 16), (.int .i64 sure4), (.sl 1 0 (List.length t2110)), (.int .i64 t227), (.int .i64 t238)], [(.var 16 (.ri .i64 b9)), (.vec 3 (.ri .i64 t2110))], 0, []⟩
def impl_BestSure_o5 (n0 : Int) (sure4 : Int) (t227 : Int) (b9 : List Int) (t2110 : List Int) (x : Bool × Int) : GT := (.br x.1 (.out (.ret ⟨expand 35 0 [4, 5] [(.int .i64 x.2), (.bool true)], [], 0, []⟩)) (.out (.exit 0 ⟨expand 35 0 [] [], [], 0, []⟩)))
def impl_BestSure_ls5 (F : Nat) : LoopS := ⟨35, [1, 2, 6, 21, 22, 23], [], [], [], [4, 5], [], [], fun vals mem np killed => match vals, mem, np, killed with
  | [(.int .i64 n0), (.ptr 0 0 0 16), (.int .i64 sure4), (.sl 1 0 q_t216), (.int .i64 t227), (.int .i64 t238)], [(.var 16 (.ri .i64 b9)), (.vec 3 (.ri .i64 t2110))], 0, [] => .br ((Nat.beq q_t216 (List.length t2110)) && (impl_BestSure_l5 F n0 sure4 t227 b9 t2110 t238).isSome) (impl_BestSure_o5 n0 sure4 t227 b9 t2110 ((impl_BestSure_l5 F n0 sure4 t227 b9 t2110 t238).getD default)) .fail
  | _, _, _, _ => .fail⟩
theorem impl_BestSure_step5 (F : Nat) (n0 : Int) (sure4 : Int) (t227 : Int) (b9 : List Int) (t2110 : List Int) (t238 : Int) {R : Type} (k : Out → Option R) : stepS tt (impl_BestSure_tab F) (impl_BestSure_LS0 F) 70 (impl_BestSure_ls5 F) (loopAt 5 (bodyOf Try.f8)) (impl_BestSure_st5 n0 sure4 t227 b9 t2110 t238) k = impl_BestSure_s5 F n0 sure4 t227 b9 t2110 R t238 (fun s => k (.norm (impl_BestSure_st5 n0 sure4 t227 b9 t2110 s))) (fun x => (impl_BestSure_o5 n0 sure4 t227 b9 t2110 x).run k) := by kernel_rfl
theorem impl_BestSure_iter5 (F : Nat) (n0 : Int) (sure4 : Int) (t227 : Int) (b9 : List Int) (t2110 : List Int) {R : Type} (k : Out → Option R) : ∀ (n : Nat) (t238 : Int), iterS tt (impl_BestSure_tab F) (impl_BestSure_LS0 F) 70 (impl_BestSure_ls5 F) (loopAt 5 (bodyOf Try.f8)) n (impl_BestSure_st5 n0 sure4 t227 b9 t2110 t238) k = loopC (impl_BestSure_s5 F n0 sure4 t227 b9 t2110) n t238 (fun x => (impl_BestSure_o5 n0 sure4 t227 b9 t2110 x).run k)
  | 0, t238 => rfl
  | n + 1, t238 => (iterS_succ tt (impl_BestSure_tab F) (impl_BestSure_LS0 F) 70 (impl_BestSure_ls5 F) (loopAt 5 (bodyOf Try.f8)) n (impl_BestSure_st5 n0 sure4 t227 b9 t2110 t238) k).trans ((impl_BestSure_step5 F n0 sure4 t227 b9 t2110 t238 (nextK (iterS tt (impl_BestSure_tab F) (impl_BestSure_LS0 F) 70 (impl_BestSure_ls5 F) (loopAt 5 (bodyOf Try.f8)) n) k)).trans (congrArg (fun kn => impl_BestSure_s5 F n0 sure4 t227 b9 t2110 R t238 kn _) (funext (fun t238 => impl_BestSure_iter5 F n0 sure4 t227 b9 t2110 k n t238))))
theorem impl_BestSure_lok5 (F : Nat) : LoopOK Try.prog (loopAt 5 (bodyOf Try.f8)) (impl_BestSure_ls5 F) := by
  refine loopOK_of mixed ttok deep (impl_BestSure_tabok F) (loopsOK_at (impl_BestSure_lsok0 F) 5) (fuel := 70) fun R vals mem np killed k x h => ?_
  simp only [impl_BestSure_ls5] at h
  split at h
  · rename_i n0 sure4 q_t216 t227 t238 b9 t2110
    simp only [GT.run] at h
    have hc := (cond_noneL h).1
    replace h := (cond_noneL h).2
    have hg := (and_split hc).1
    replace hc := (and_split hc).2
    obtain rfl := nbeq_nat hg
    refine ⟨F, (impl_BestSure_iter5 F n0 sure4 t227 b9 t2110 k F t238).trans ((loopC_use (impl_BestSure_s5_nat F n0 sure4 t227 b9 t2110) hc _).trans h)⟩
  · simp only [GT.run] at h
    cases h
noncomputable def impl_BestSure_LS1 (F : Nat) : LT := (5, impl_BestSure_ls5 F) :: impl_BestSure_LS0 F
theorem impl_BestSure_lsok1 (F : Nat) : LoopsOK Try.prog (impl_BestSure_LS1 F) (bodyOf Try.f8) := loopsOK_cons impl_BestSure_keys (impl_BestSure_lok5 F) (impl_BestSure_lsok0 F)
theorem impl_BestSure_run (F : Nat) (b0 : List Int) (n1 : Int) : runS tt (impl_BestSure_tab F) (impl_BestSure_LS1 F) [] [] Try.f8 (bodyOf Try.f8) 70 [(.ints 16 b0), (.int .i64 n1)] [] = impl_BestSure_c _ F b0 n1 (fun r => some ⟨(.tup [(.int .i64 r.1), (.bool r.2)]), [], []⟩) := by kernel_rfl
def impl_BestSure_ent (F : Nat) : Ent := ⟨[], .quiet, fun args mem => match args, mem with
  | [(.ints 16 b0), (.int .i64 n1)], [] => some ((impl_BestSure_p F b0 n1).isSome, ⟨(.tup [(.int .i64 ((impl_BestSure_p F b0 n1).getD default).1), (.bool ((impl_BestSure_p F b0 n1).getD default).2)]), [], []⟩)
  | _, _ => none⟩
theorem impl_BestSure_fok : FunOK Try.prog 8 := funOK Try.func8 (by kernel_rfl) rfl
theorem impl_BestSure_meets (F : Nat) : Meets Try.prog 8 (impl_BestSure_ent F) := by
  refine meets_of_runS mixed ttok deep (impl_BestSure_tabok F) Try.func8 (body_some rfl) (impl_BestSure_lsok1 F) fun args mem hfit ret h => ?_
  clear hfit
  simp only [impl_BestSure_ent] at h
  split at h
  · rename_i b0 n1
    simp only [Option.some.injEq, Prod.mk.injEq] at h
    obtain ⟨hc, rfl⟩ := h
    exact ⟨[], [], 70, _, (impl_BestSure_run F b0 n1).trans ((impl_BestSure_cp _ F b0 n1 _).trans (bind_use hc _)), rfl, rfl, rfl⟩
  · cases h

/-! loop.example/g01194/spec.l1Most -/
noncomputable def spec_l1Most_tab (F : Nat) : Tab := []
theorem spec_l1Most_tabok (F : Nat) : TabOK Try.prog (spec_l1Most_tab F) := tab_nil
noncomputable def spec_l1Most_LS0 (F : Nat) : LT := []
theorem spec_l1Most_lsok0 (F : Nat) : LoopsOK Try.prog (spec_l1Most_LS0 F) (bodyOf Try.f28) := loopsOK_nil
theorem spec_l1Most_run (F : Nat) (a0 : Int) (b1 : Int) : runS tt (spec_l1Most_tab F) (spec_l1Most_LS0 F) [] [] Try.f28 (bodyOf Try.f28) 70 [(.int .i64 a0), (.int .i64 b1)] [] = spec_l1Most_c _ a0 b1 (fun r => some ⟨(.int .i64 r), [], []⟩) := by kernel_rfl
def spec_l1Most_ent (F : Nat) : Ent := ⟨[], .quiet, fun args mem => match args, mem with
  | [(.int .i64 a0), (.int .i64 b1)], [] => some (true, ⟨(.int .i64 (spec_l1Most_v a0 b1)), [], []⟩)
  | _, _ => none⟩
theorem spec_l1Most_fok : FunOK Try.prog 28 := funOK Try.func28 (by kernel_rfl) rfl
theorem spec_l1Most_meets (F : Nat) : Meets Try.prog 28 (spec_l1Most_ent F) := by
  refine meets_of_runS mixed ttok deep (spec_l1Most_tabok F) Try.func28 (body_some rfl) (spec_l1Most_lsok0 F) fun args mem hfit ret h => ?_
  clear hfit
  simp only [spec_l1Most_ent] at h
  split at h
  · rename_i a0 b1
    simp only [Option.some.injEq, Prod.mk.injEq] at h
    obtain ⟨hc, rfl⟩ := h
    exact ⟨[], [], 70, _, (spec_l1Most_run F a0 b1).trans (spec_l1Most_cv _ a0 b1 _), rfl, rfl, rfl⟩
  · cases h

/-! loop.example/g01194/spec.BestSure -/
noncomputable def spec_BestSure_tab (F : Nat) : Tab := [(23, (spec_l2Board_ent F)), (24, (spec_l1In_ent F)), (25, (spec_l8Sure_ent F)), (28, (spec_l1Most_ent F))]
theorem spec_BestSure_tabok (F : Nat) : TabOK Try.prog (spec_BestSure_tab F) := (tab_cons (spec_l2Board_meets F) spec_l2Board_fok (tab_cons (spec_l1In_meets F) spec_l1In_fok (tab_cons (spec_l8Sure_meets F) spec_l8Sure_fok (tab_cons (spec_l1Most_meets F) spec_l1Most_fok tab_nil))))
noncomputable def spec_BestSure_LS0 (F : Nat) : LT := []
theorem spec_BestSure_lsok0 (F : Nat) : LoopsOK Try.prog (spec_BestSure_LS0 F) (bodyOf Try.f9) := loopsOK_nil
theorem spec_BestSure_run (F : Nat) (b0 : List Int) (n1 : Int) : runS tt (spec_BestSure_tab F) (spec_BestSure_LS0 F) [] [] Try.f9 (bodyOf Try.f9) 70 [(.ints 16 b0), (.int .i64 n1)] [] = spec_BestSure_c _ F b0 n1 (fun r => some ⟨(.tup [(.int .i64 r.1), (.bool r.2)]), [], []⟩) := by kernel_rfl
def spec_BestSure_ent (F : Nat) : Ent := ⟨[], .quiet, fun args mem => match args, mem with
  | [(.ints 16 b0), (.int .i64 n1)], [] => some ((spec_BestSure_p F b0 n1).isSome, ⟨(.tup [(.int .i64 ((spec_BestSure_p F b0 n1).getD default).1), (.bool ((spec_BestSure_p F b0 n1).getD default).2)]), [], []⟩)
  | _, _ => none⟩
theorem spec_BestSure_fok : FunOK Try.prog 9 := funOK Try.func9 (by kernel_rfl) rfl
theorem spec_BestSure_meets (F : Nat) : Meets Try.prog 9 (spec_BestSure_ent F) := by
  refine meets_of_runS mixed ttok deep (spec_BestSure_tabok F) Try.func9 (body_some rfl) (spec_BestSure_lsok0 F) fun args mem hfit ret h => ?_
  clear hfit
  simp only [spec_BestSure_ent] at h
  split at h
  · rename_i b0 n1
    simp only [Option.some.injEq, Prod.mk.injEq] at h
    obtain ⟨hc, rfl⟩ := h
    exact ⟨[], [], 70, _, (spec_BestSure_run F b0 n1).trans ((spec_BestSure_cp _ F b0 n1 _).trans (bind_use hc _)), rfl, rfl, rfl⟩
  · cases h

/-! (*loop.example/g01194/spec.l1Cur).side -/
noncomputable def spec_l1Cur_side_tab (F : Nat) : Tab := [(43, (spec_l1Cur_one_ent F)), (29, (spec_l1Cur_among_ent F)), (44, (spec_l1Cur_pick_ent F))]
theorem spec_l1Cur_side_tabok (F : Nat) : TabOK Try.prog (spec_l1Cur_side_tab F) := (tab_cons (spec_l1Cur_one_meets F) spec_l1Cur_one_fok (tab_cons (spec_l1Cur_among_meets F) spec_l1Cur_among_fok (tab_cons (spec_l1Cur_pick_meets F) spec_l1Cur_pick_fok tab_nil)))
noncomputable def spec_l1Cur_side_LS0 (F : Nat) : LT := []
theorem spec_l1Cur_side_lsok0 (F : Nat) : LoopsOK Try.prog (spec_l1Cur_side_LS0 F) (bodyOf Try.f30) := loopsOK_nil
theorem spec_l1Cur_side_run (F : Nat) (c3 : List Int) (c4 : Int) (c5 : Int) : runS tt (spec_l1Cur_side_tab F) (spec_l1Cur_side_LS0 F) [] [] Try.f30 (bodyOf Try.f30) 70 [(.ptr 0 0 0 3)] [(.var 3 (.rv [(.ri .u8 c3), (.int .i64 c4), (.int .u64 c5)]))] = spec_l1Cur_side_c _ c3 c4 c5 (fun r => some ⟨(.int .i64 r.1), [(.var 3 (.rv [(.ri .u8 c3), (.int .i64 r.2.1), (.int .u64 r.2.2)]))], []⟩) := by kernel_rfl
def spec_l1Cur_side_ent (F : Nat) : Ent := ⟨[], .loud, fun args mem => match args, mem with
  | [(.ptr 0 0 0 3)], [(.var 3 (.rv [(.ri .u8 c3), (.int .i64 c4), (.int .u64 c5)]))] => some ((spec_l1Cur_side_p c3 c4 c5).isSome, ⟨(.int .i64 ((spec_l1Cur_side_p c3 c4 c5).getD default).1), [(.var 3 (.rv [(.ri .u8 c3), (.int .i64 ((spec_l1Cur_side_p c3 c4 c5).getD default).2.1), (.int .u64 ((spec_l1Cur_side_p c3 c4 c5).getD default).2.2)]))], []⟩)
  | _, _ => none⟩
theorem spec_l1Cur_side_fok : FunOK Try.prog 30 := funOK Try.func30 (by kernel_rfl) rfl
theorem spec_l1Cur_side_meets (F : Nat) : Meets Try.prog 30 (spec_l1Cur_side_ent F) := by
  refine meets_of_runS mixed ttok deep (spec_l1Cur_side_tabok F) Try.func30 (body_some rfl) (spec_l1Cur_side_lsok0 F) fun args mem hfit ret h => ?_
  clear hfit
  simp only [spec_l1Cur_side_ent] at h
  split at h
  · rename_i c3 c4 c5
    simp only [Option.some.injEq, Prod.mk.injEq] at h
    obtain ⟨hc, rfl⟩ := h
    exact ⟨[], [], 70, _, (spec_l1Cur_side_run F c3 c4 c5).trans ((spec_l1Cur_side_cp _ c3 c4 c5 _).trans (bind_use hc _)), rfl, rfl, rfl⟩
  · cases h

/-! loop.example/g01194/spec.DrawWorstReply -/
noncomputable def spec_DrawWorstReply_tab (F : Nat) : Tab := [(29, (spec_l1Cur_among_ent F)), (30, (spec_l1Cur_side_ent F)), (31, (spec_l1Cur_tight_ent F))]
theorem spec_DrawWorstReply_tabok (F : Nat) : TabOK Try.prog (spec_DrawWorstReply_tab F) := (tab_cons (spec_l1Cur_among_meets F) spec_l1Cur_among_fok (tab_cons (spec_l1Cur_side_meets F) spec_l1Cur_side_fok (tab_cons (spec_l1Cur_tight_meets F) spec_l1Cur_tight_fok tab_nil)))
noncomputable def spec_DrawWorstReply_LS0 (F : Nat) : LT := []
theorem spec_DrawWorstReply_lsok0 (F : Nat) : LoopsOK Try.prog (spec_DrawWorstReply_LS0 F) (bodyOf Try.f10) := loopsOK_nil
theorem spec_DrawWorstReply_run (F : Nat) (code0 : List Int) : runS tt (spec_DrawWorstReply_tab F) (spec_DrawWorstReply_LS0 F) [] [] Try.f10 (bodyOf Try.f10) 70 [(.ri .u8 code0)] [] = spec_DrawWorstReply_c _ F code0 (fun r => some ⟨(.tup [(.ints 16 r.1), (.int .i64 r.2.1), (.int .i64 r.2.2)]), [], []⟩) := by kernel_rfl
def spec_DrawWorstReply_ent (F : Nat) : Ent := ⟨[], .quiet, fun args mem => match args, mem with
  | [(.ri .u8 code0)], [] => some ((spec_DrawWorstReply_p F code0).isSome, ⟨(.tup [(.ints 16 ((spec_DrawWorstReply_p F code0).getD default).1), (.int .i64 ((spec_DrawWorstReply_p F code0).getD default).2.1), (.int .i64 ((spec_DrawWorstReply_p F code0).getD default).2.2)]), [], []⟩)
  | _, _ => none⟩
theorem spec_DrawWorstReply_fok : FunOK Try.prog 10 := funOK Try.func10 (by kernel_rfl) rfl
theorem spec_DrawWorstReply_meets (F : Nat) : Meets Try.prog 10 (spec_DrawWorstReply_ent F) := by
  refine meets_of_runS mixed ttok deep (spec_DrawWorstReply_tabok F) Try.func10 (body_some rfl) (spec_DrawWorstReply_lsok0 F) fun args mem hfit ret h => ?_
  clear hfit
  simp only [spec_DrawWorstReply_ent] at h
  split at h
  · rename_i code0
    simp only [Option.some.injEq, Prod.mk.injEq] at h
    obtain ⟨hc, rfl⟩ := h
    exact ⟨[], [], 70, _, (spec_DrawWorstReply_run F code0).trans ((spec_DrawWorstReply_cp _ F code0 _).trans (bind_use hc _)), rfl, rfl, rfl⟩
  · cases h
end Go.Proofs.Ytgdokdkcbgkekae
