/-
Pure functions and what the code of them does, by program; without conditions.
-/
import Derived.Test.YtmdicfifhppjaaaTBP0
import Derived.Test.YtmdicfifhppjaaaTBA
namespace Go.Proofs.Ytmdicfifhppjaaa
open Go Go.Lv Go.Lv.P Go.Proofs
set_option linter.unusedVariables false
set_option linter.unusedSimpArgs false
set_option maxRecDepth 100000
/-! loop.example/g01194/spec.l1In -/
noncomputable def spec_l1In_tab (F : Nat) : Tab := []
theorem spec_l1In_tabok (F : Nat) : TabOK Try.prog (spec_l1In_tab F) := tab_nil
noncomputable def spec_l1In_LS0 (F : Nat) : LT := []
theorem spec_l1In_lsok0 (F : Nat) : LoopsOK Try.prog (spec_l1In_LS0 F) (bodyOf Try.f52) := loopsOK_nil
theorem spec_l1In_run (F : Nat) (x0 : Int) (a1 : Int) (b2 : Int) : runS tt (spec_l1In_tab F) (spec_l1In_LS0 F) [] [] Try.f52 (bodyOf Try.f52) 70 [(.int .i64 x0), (.int .i64 a1), (.int .i64 b2)] [] = spec_l1In_c _ x0 a1 b2 (fun r => some ⟨(.bool r), [], []⟩) := by kernel_rfl
def spec_l1In_ent (F : Nat) : Ent := ⟨[], .quiet, fun args mem => match args, mem with
  | [(.int .i64 x0), (.int .i64 a1), (.int .i64 b2)], [] => some (true, ⟨(.bool (spec_l1In_v x0 a1 b2)), [], []⟩)
  | _, _ => none⟩
theorem spec_l1In_fok : FunOK Try.prog 52 := funOK Try.func52 (by kernel_rfl) rfl
theorem spec_l1In_meets (F : Nat) : Meets Try.prog 52 (spec_l1In_ent F) := by
  refine meets_of_runS mixed ttok deep (spec_l1In_tabok F) Try.func52 (body_some rfl) (spec_l1In_lsok0 F) fun args mem hfit ret h => ?_
  clear hfit
  simp only [spec_l1In_ent] at h
  split at h
  · rename_i x0 a1 b2
    simp only [Option.some.injEq, Prod.mk.injEq] at h
    obtain ⟨hc, rfl⟩ := h
    exact ⟨[], [], 70, _, (spec_l1In_run F x0 a1 b2).trans (spec_l1In_cv _ x0 a1 b2 _), rfl, rfl, rfl⟩
  · cases h

/-! loop.example/g01194/spec.l2Worth -/
noncomputable def spec_l2Worth_tab (F : Nat) : Tab := []
theorem spec_l2Worth_tabok (F : Nat) : TabOK Try.prog (spec_l2Worth_tab F) := tab_nil
noncomputable def spec_l2Worth_LS0 (F : Nat) : LT := []
theorem spec_l2Worth_lsok0 (F : Nat) : LoopsOK Try.prog (spec_l2Worth_LS0 F) (bodyOf Try.f90) := loopsOK_nil
theorem spec_l2Worth_run (F : Nat) (t0 : Int) : runS tt (spec_l2Worth_tab F) (spec_l2Worth_LS0 F) [] [] Try.f90 (bodyOf Try.f90) 70 [(.int .i64 t0)] [] = spec_l2Worth_c _ t0 (fun r => some ⟨(.int .i64 r), [], []⟩) := by kernel_rfl
def spec_l2Worth_ent (F : Nat) : Ent := ⟨[], .quiet, fun args mem => match args, mem with
  | [(.int .i64 t0)], [] => some ((spec_l2Worth_p t0).isSome, ⟨(.int .i64 ((spec_l2Worth_p t0).getD default)), [], []⟩)
  | _, _ => none⟩
theorem spec_l2Worth_fok : FunOK Try.prog 90 := funOK Try.func90 (by kernel_rfl) rfl
theorem spec_l2Worth_meets (F : Nat) : Meets Try.prog 90 (spec_l2Worth_ent F) := by
  refine meets_of_runS mixed ttok deep (spec_l2Worth_tabok F) Try.func90 (body_some rfl) (spec_l2Worth_lsok0 F) fun args mem hfit ret h => ?_
  clear hfit
  simp only [spec_l2Worth_ent] at h
  split at h
  · rename_i t0
    simp only [Option.some.injEq, Prod.mk.injEq] at h
    obtain ⟨hc, rfl⟩ := h
    exact ⟨[], [], 70, _, (spec_l2Worth_run F t0).trans ((spec_l2Worth_cp _ t0 _).trans (bind_use hc _)), rfl, rfl, rfl⟩
  · cases h

/-! loop.example/g01194/spec.l7Least -/
noncomputable def spec_l7Least_tab (F : Nat) : Tab := [(90, (spec_l2Worth_ent F))]
theorem spec_l7Least_tabok (F : Nat) : TabOK Try.prog (spec_l7Least_tab F) := (tab_cons (spec_l2Worth_meets F) spec_l2Worth_fok tab_nil)
noncomputable def spec_l7Least_LS0 (F : Nat) : LT := []
theorem spec_l7Least_lsok0 (F : Nat) : LoopsOK Try.prog (spec_l7Least_LS0 F) (bodyOf Try.f53) := loopsOK_nil
theorem spec_l7Least_keys : keysOK (bodyOf Try.f53) = true := by kernel_rfl
def spec_l7Least_st5 (t3 : Int) (sum0 : Int) (out4 : List Int) : St := ⟨expand 23 0 [0, 3, 4] [(.int .i64 sum0), (.sl 0 0 (List.length out4)), (.int .i64 t3)], [(.vec 3 (.ri .i64 out4))], 0, []⟩
def spec_l7Least_o5 (t3 : Int) (x : Int × List Int) : GT := (.out (.exit 2 ⟨expand 23 0 [0, 3, 4] [(.int .i64 x.1), (.sl 0 0 (List.length x.2)), (.int .i64 t3)], [(.vec 3 (.ri .i64 x.2))], 0, []⟩))
def spec_l7Least_ls5 (F : Nat) : LoopS := ⟨23, [0, 3, 4], [], [0, 3, 4], [], [2], [], [], fun vals mem np killed => match vals, mem, np, killed with
  | [(.int .i64 sum0), (.sl 0 0 q_out2), (.int .i64 t3)], [(.vec 3 (.ri .i64 out4))], 0, [] => .br ((Nat.beq q_out2 (List.length out4)) && (spec_l7Least_l5 F t3 sum0 out4).isSome) (spec_l7Least_o5 t3 ((spec_l7Least_l5 F t3 sum0 out4).getD default)) .fail
  | _, _, _, _ => .fail⟩
theorem spec_l7Least_step5 (F : Nat) (t3 : Int) (sum0 : Int) (out4 : List Int) {R : Type} (k : Out → Option R) : stepS tt (spec_l7Least_tab F) (spec_l7Least_LS0 F) 70 (spec_l7Least_ls5 F) (loopAt 5 (bodyOf Try.f53)) (spec_l7Least_st5 t3 sum0 out4) k = spec_l7Least_s5 F t3 R (sum0, out4) (fun s => k (.norm (spec_l7Least_st5 t3 s.1 s.2))) (fun x => (spec_l7Least_o5 t3 x).run k) := by kernel_rfl
theorem spec_l7Least_iter5 (F : Nat) (t3 : Int) {R : Type} (k : Out → Option R) : ∀ (n : Nat) (sum0 : Int) (out4 : List Int), iterS tt (spec_l7Least_tab F) (spec_l7Least_LS0 F) 70 (spec_l7Least_ls5 F) (loopAt 5 (bodyOf Try.f53)) n (spec_l7Least_st5 t3 sum0 out4) k = loopC (spec_l7Least_s5 F t3) n (sum0, out4) (fun x => (spec_l7Least_o5 t3 x).run k)
  | 0, sum0, out4 => rfl
  | n + 1, sum0, out4 => (iterS_succ tt (spec_l7Least_tab F) (spec_l7Least_LS0 F) 70 (spec_l7Least_ls5 F) (loopAt 5 (bodyOf Try.f53)) n (spec_l7Least_st5 t3 sum0 out4) k).trans ((spec_l7Least_step5 F t3 sum0 out4 (nextK (iterS tt (spec_l7Least_tab F) (spec_l7Least_LS0 F) 70 (spec_l7Least_ls5 F) (loopAt 5 (bodyOf Try.f53)) n) k)).trans (congrArg (fun kn => spec_l7Least_s5 F t3 R (sum0, out4) kn _) (funext (fun ⟨sum0, out4⟩ => spec_l7Least_iter5 F t3 k n sum0 out4))))
theorem spec_l7Least_lok5 (F : Nat) : LoopOK Try.prog (loopAt 5 (bodyOf Try.f53)) (spec_l7Least_ls5 F) := by
  refine loopOK_of mixed ttok deep (spec_l7Least_tabok F) (loopsOK_at (spec_l7Least_lsok0 F) 5) (fuel := 70) fun R vals mem np killed k x h => ?_
  simp only [spec_l7Least_ls5] at h
  split at h
  · rename_i sum0 q_out2 t3 out4
    simp only [GT.run] at h
    have hc := (cond_noneL h).1
    replace h := (cond_noneL h).2
    have hg := (and_split hc).1
    replace hc := (and_split hc).2
    obtain rfl := nbeq_nat hg
    refine ⟨F, (spec_l7Least_iter5 F t3 k F sum0 out4).trans ((loopC_use (spec_l7Least_s5_nat F t3) hc _).trans h)⟩
  · simp only [GT.run] at h
    cases h
noncomputable def spec_l7Least_LS1 (F : Nat) : LT := (5, spec_l7Least_ls5 F) :: spec_l7Least_LS0 F
theorem spec_l7Least_lsok1 (F : Nat) : LoopsOK Try.prog (spec_l7Least_LS1 F) (bodyOf Try.f53) := loopsOK_cons spec_l7Least_keys (spec_l7Least_lok5 F) (spec_l7Least_lsok0 F)
def spec_l7Least_st3 (sum0 : Int) (t3 : Int) (out4 : List Int) : St := ⟨expand 23 0 [0, 3, 4] [(.int .i64 sum0), (.sl 0 0 (List.length out4)), (.int .i64 t3)], [(.vec 3 (.ri .i64 out4))], 0, []⟩
def spec_l7Least_o3 (x : List Int) : GT := (.out (.exit 0 ⟨expand 23 0 [3] [(.sl 0 0 (List.length x))], [(.vec 3 (.ri .i64 x))], 0, []⟩))
def spec_l7Least_ls3 (F : Nat) : LoopS := ⟨23, [0, 3, 4], [], [3], [], [2], [], [], fun vals mem np killed => match vals, mem, np, killed with
  | [(.int .i64 sum0), (.sl 0 0 q_out2), (.int .i64 t3)], [(.vec 3 (.ri .i64 out4))], 0, [] => .br ((Nat.beq q_out2 (List.length out4)) && (spec_l7Least_l3 F sum0 t3 out4).isSome) (spec_l7Least_o3 ((spec_l7Least_l3 F sum0 t3 out4).getD default)) .fail
  | _, _, _, _ => .fail⟩
theorem spec_l7Least_step3 (F : Nat) (sum0 : Int) (t3 : Int) (out4 : List Int) {R : Type} (k : Out → Option R) : stepS tt (spec_l7Least_tab F) (spec_l7Least_LS1 F) 70 (spec_l7Least_ls3 F) (loopAt 3 (bodyOf Try.f53)) (spec_l7Least_st3 sum0 t3 out4) k = spec_l7Least_s3 F R (sum0, t3, out4) (fun s => k (.norm (spec_l7Least_st3 s.1 s.2.1 s.2.2))) (fun x => (spec_l7Least_o3 x).run k) := by kernel_rfl
theorem spec_l7Least_iter3 (F : Nat) {R : Type} (k : Out → Option R) : ∀ (n : Nat) (sum0 : Int) (t3 : Int) (out4 : List Int), iterS tt (spec_l7Least_tab F) (spec_l7Least_LS1 F) 70 (spec_l7Least_ls3 F) (loopAt 3 (bodyOf Try.f53)) n (spec_l7Least_st3 sum0 t3 out4) k = loopC (spec_l7Least_s3 F) n (sum0, t3, out4) (fun x => (spec_l7Least_o3 x).run k)
  | 0, sum0, t3, out4 => rfl
  | n + 1, sum0, t3, out4 => (iterS_succ tt (spec_l7Least_tab F) (spec_l7Least_LS1 F) 70 (spec_l7Least_ls3 F) (loopAt 3 (bodyOf Try.f53)) n (spec_l7Least_st3 sum0 t3 out4) k).trans ((spec_l7Least_step3 F sum0 t3 out4 (nextK (iterS tt (spec_l7Least_tab F) (spec_l7Least_LS1 F) 70 (spec_l7Least_ls3 F) (loopAt 3 (bodyOf Try.f53)) n) k)).trans (congrArg (fun kn => spec_l7Least_s3 F R (sum0, t3, out4) kn _) (funext (fun ⟨sum0, t3, out4⟩ => spec_l7Least_iter3 F k n sum0 t3 out4))))
theorem spec_l7Least_lok3 (F : Nat) : LoopOK Try.prog (loopAt 3 (bodyOf Try.f53)) (spec_l7Least_ls3 F) := by
  refine loopOK_of mixed ttok deep (spec_l7Least_tabok F) (loopsOK_at (spec_l7Least_lsok1 F) 3) (fuel := 70) fun R vals mem np killed k x h => ?_
  simp only [spec_l7Least_ls3] at h
  split at h
  · rename_i sum0 q_out2 t3 out4
    simp only [GT.run] at h
    have hc := (cond_noneL h).1
    replace h := (cond_noneL h).2
    have hg := (and_split hc).1
    replace hc := (and_split hc).2
    obtain rfl := nbeq_nat hg
    refine ⟨F, (spec_l7Least_iter3 F k F sum0 t3 out4).trans ((loopC_use (spec_l7Least_s3_nat F) hc _).trans h)⟩
  · simp only [GT.run] at h
    cases h
noncomputable def spec_l7Least_LS2 (F : Nat) : LT := (3, spec_l7Least_ls3 F) :: spec_l7Least_LS1 F
theorem spec_l7Least_lsok2 (F : Nat) : LoopsOK Try.prog (spec_l7Least_LS2 F) (bodyOf Try.f53) := loopsOK_cons spec_l7Least_keys (spec_l7Least_lok3 F) (spec_l7Least_lsok1 F)
theorem spec_l7Least_run (F : Nat) (sum0 : Int) : runS tt (spec_l7Least_tab F) (spec_l7Least_LS2 F) [] [] Try.f53 (bodyOf Try.f53) 70 [(.int .i64 sum0)] [] = spec_l7Least_c _ F sum0 (fun r => some ⟨(.sl 0 0 (List.length r)), [(.vec 3 (.ri .i64 r))], []⟩) := by kernel_rfl
def spec_l7Least_ent (F : Nat) : Ent := ⟨[], .fresh, fun args mem => match args, mem with
  | [(.int .i64 sum0)], [] => some ((spec_l7Least_p F sum0).isSome, ⟨(.sl 0 0 (List.length ((spec_l7Least_p F sum0).getD default))), [(.vec 3 (.ri .i64 ((spec_l7Least_p F sum0).getD default)))], []⟩)
  | _, _ => none⟩
theorem spec_l7Least_fok : FunOK Try.prog 53 := funOK Try.func53 (by kernel_rfl) rfl
theorem spec_l7Least_meets (F : Nat) : Meets Try.prog 53 (spec_l7Least_ent F) := by
  refine meets_of_runS mixed ttok deep (spec_l7Least_tabok F) Try.func53 (body_some rfl) (spec_l7Least_lsok2 F) fun args mem hfit ret h => ?_
  clear hfit
  simp only [spec_l7Least_ent] at h
  split at h
  · rename_i sum0
    simp only [Option.some.injEq, Prod.mk.injEq] at h
    obtain ⟨hc, rfl⟩ := h
    exact ⟨[], [], 70, _, (spec_l7Least_run F sum0).trans ((spec_l7Least_cp _ F sum0 _).trans (bind_use hc _)), rfl, rfl, rfl⟩
  · cases h

/-! loop.example/g01194/spec.l7Sum -/
noncomputable def spec_l7Sum_tab (F : Nat) : Tab := [(52, (spec_l1In_ent F)), (53, (spec_l7Least_ent F))]
theorem spec_l7Sum_tabok (F : Nat) : TabOK Try.prog (spec_l7Sum_tab F) := (tab_cons (spec_l1In_meets F) spec_l1In_fok (tab_cons (spec_l7Least_meets F) spec_l7Least_fok tab_nil))
noncomputable def spec_l7Sum_LS0 (F : Nat) : LT := []
theorem spec_l7Sum_lsok0 (F : Nat) : LoopsOK Try.prog (spec_l7Sum_LS0 F) (bodyOf Try.f57) := loopsOK_nil
theorem spec_l7Sum_run (F : Nat) (sum0 : Int) : runS tt (spec_l7Sum_tab F) (spec_l7Sum_LS0 F) [] [] Try.f57 (bodyOf Try.f57) 70 [(.int .i64 sum0)] [] = spec_l7Sum_c _ F sum0 (fun r => some ⟨(.bool r), [], []⟩) := by kernel_rfl
def spec_l7Sum_ent (F : Nat) : Ent := ⟨[], .quiet, fun args mem => match args, mem with
  | [(.int .i64 sum0)], [] => some ((spec_l7Sum_p F sum0).isSome, ⟨(.bool ((spec_l7Sum_p F sum0).getD default)), [], []⟩)
  | _, _ => none⟩
theorem spec_l7Sum_fok : FunOK Try.prog 57 := funOK Try.func57 (by kernel_rfl) rfl
theorem spec_l7Sum_meets (F : Nat) : Meets Try.prog 57 (spec_l7Sum_ent F) := by
  refine meets_of_runS mixed ttok deep (spec_l7Sum_tabok F) Try.func57 (body_some rfl) (spec_l7Sum_lsok0 F) fun args mem hfit ret h => ?_
  clear hfit
  simp only [spec_l7Sum_ent] at h
  split at h
  · rename_i sum0
    simp only [Option.some.injEq, Prod.mk.injEq] at h
    obtain ⟨hc, rfl⟩ := h
    exact ⟨[], [], 70, _, (spec_l7Sum_run F sum0).trans ((spec_l7Sum_cp _ F sum0 _).trans (bind_use hc _)), rfl, rfl, rfl⟩
  · cases h

/-! loop.example/g01194/spec.HighestFor -/
noncomputable def spec_HighestFor_tab (F : Nat) : Tab := [(57, (spec_l7Sum_ent F)), (53, (spec_l7Least_ent F))]
theorem spec_HighestFor_tabok (F : Nat) : TabOK Try.prog (spec_HighestFor_tab F) := (tab_cons (spec_l7Sum_meets F) spec_l7Sum_fok (tab_cons (spec_l7Least_meets F) spec_l7Least_fok tab_nil))
noncomputable def spec_HighestFor_LS0 (F : Nat) : LT := []
theorem spec_HighestFor_lsok0 (F : Nat) : LoopsOK Try.prog (spec_HighestFor_LS0 F) (bodyOf Try.f25) := loopsOK_nil
theorem spec_HighestFor_run (F : Nat) (sum0 : Int) : runS tt (spec_HighestFor_tab F) (spec_HighestFor_LS0 F) [] [] Try.f25 (bodyOf Try.f25) 70 [(.int .i64 sum0)] [] = spec_HighestFor_c _ F sum0 (fun r => some ⟨(.tup [(.int .i64 r.1), (.bool r.2)]), [], []⟩) := by kernel_rfl
def spec_HighestFor_ent (F : Nat) : Ent := ⟨[], .quiet, fun args mem => match args, mem with
  | [(.int .i64 sum0)], [] => some ((spec_HighestFor_p F sum0).isSome, ⟨(.tup [(.int .i64 ((spec_HighestFor_p F sum0).getD default).1), (.bool ((spec_HighestFor_p F sum0).getD default).2)]), [], []⟩)
  | _, _ => none⟩
theorem spec_HighestFor_fok : FunOK Try.prog 25 := funOK Try.func25 (by kernel_rfl) rfl
theorem spec_HighestFor_meets (F : Nat) : Meets Try.prog 25 (spec_HighestFor_ent F) := by
  refine meets_of_runS mixed ttok deep (spec_HighestFor_tabok F) Try.func25 (body_some rfl) (spec_HighestFor_lsok0 F) fun args mem hfit ret h => ?_
  clear hfit
  simp only [spec_HighestFor_ent] at h
  split at h
  · rename_i sum0
    simp only [Option.some.injEq, Prod.mk.injEq] at h
    obtain ⟨hc, rfl⟩ := h
    exact ⟨[], [], 70, _, (spec_HighestFor_run F sum0).trans ((spec_HighestFor_cp _ F sum0 _).trans (bind_use hc _)), rfl, rfl, rfl⟩
  · cases h

/-! loop.example/g01194/impl.in -/
noncomputable def impl_in_tab (F : Nat) : Tab := []
theorem impl_in_tabok (F : Nat) : TabOK Try.prog (impl_in_tab F) := tab_nil
noncomputable def impl_in_LS0 (F : Nat) : LT := []
theorem impl_in_lsok0 (F : Nat) : LoopsOK Try.prog (impl_in_LS0 F) (bodyOf Try.f55) := loopsOK_nil
theorem impl_in_run (F : Nat) (n0 : Int) (low1 : Int) (high2 : Int) : runS tt (impl_in_tab F) (impl_in_LS0 F) [] [] Try.f55 (bodyOf Try.f55) 70 [(.int .i64 n0), (.int .i64 low1), (.int .i64 high2)] [] = impl_in_c _ n0 low1 high2 (fun r => some ⟨(.bool r), [], []⟩) := by kernel_rfl
def impl_in_ent (F : Nat) : Ent := ⟨[], .quiet, fun args mem => match args, mem with
  | [(.int .i64 n0), (.int .i64 low1), (.int .i64 high2)], [] => some (true, ⟨(.bool (impl_in_v n0 low1 high2)), [], []⟩)
  | _, _ => none⟩
theorem impl_in_fok : FunOK Try.prog 55 := funOK Try.func55 (by kernel_rfl) rfl
theorem impl_in_meets (F : Nat) : Meets Try.prog 55 (impl_in_ent F) := by
  refine meets_of_runS mixed ttok deep (impl_in_tabok F) Try.func55 (body_some rfl) (impl_in_lsok0 F) fun args mem hfit ret h => ?_
  clear hfit
  simp only [impl_in_ent] at h
  split at h
  · rename_i n0 low1 high2
    simp only [Option.some.injEq, Prod.mk.injEq] at h
    obtain ⟨hc, rfl⟩ := h
    exact ⟨[], [], 70, _, (impl_in_run F n0 low1 high2).trans (impl_in_cv _ n0 low1 high2 _), rfl, rfl, rfl⟩
  · cases h

/-! loop.example/g01194/impl.isSum -/
noncomputable def impl_isSum_tab (F : Nat) : Tab := [(55, (impl_in_ent F))]
theorem impl_isSum_tabok (F : Nat) : TabOK Try.prog (impl_isSum_tab F) := (tab_cons (impl_in_meets F) impl_in_fok tab_nil)
noncomputable def impl_isSum_LS0 (F : Nat) : LT := []
theorem impl_isSum_lsok0 (F : Nat) : LoopsOK Try.prog (impl_isSum_LS0 F) (bodyOf Try.f54) := loopsOK_nil
theorem impl_isSum_run (F : Nat) (sum0 : Int) : runS tt (impl_isSum_tab F) (impl_isSum_LS0 F) [] [] Try.f54 (bodyOf Try.f54) 70 [(.int .i64 sum0)] [] = impl_isSum_c _ sum0 (fun r => some ⟨(.bool r), [], []⟩) := by kernel_rfl
def impl_isSum_ent (F : Nat) : Ent := ⟨[], .quiet, fun args mem => match args, mem with
  | [(.int .i64 sum0)], [] => some (true, ⟨(.bool (impl_isSum_v sum0)), [], []⟩)
  | _, _ => none⟩
theorem impl_isSum_fok : FunOK Try.prog 54 := funOK Try.func54 (by kernel_rfl) rfl
theorem impl_isSum_meets (F : Nat) : Meets Try.prog 54 (impl_isSum_ent F) := by
  refine meets_of_runS mixed ttok deep (impl_isSum_tabok F) Try.func54 (body_some rfl) (impl_isSum_lsok0 F) fun args mem hfit ret h => ?_
  clear hfit
  simp only [impl_isSum_ent] at h
  split at h
  · rename_i sum0
    simp only [Option.some.injEq, Prod.mk.injEq] at h
    obtain ⟨hc, rfl⟩ := h
    exact ⟨[], [], 70, _, (impl_isSum_run F sum0).trans (impl_isSum_cv _ sum0 _), rfl, rfl, rfl⟩
  · cases h

/-! math/bits.OnesCount64 -/
noncomputable def math_bits_OnesCount64_tab (F : Nat) : Tab := []
theorem math_bits_OnesCount64_tabok (F : Nat) : TabOK Try.prog (math_bits_OnesCount64_tab F) := tab_nil
noncomputable def math_bits_OnesCount64_LS0 (F : Nat) : LT := []
theorem math_bits_OnesCount64_lsok0 (F : Nat) : LoopsOK Try.prog (math_bits_OnesCount64_LS0 F) (bodyOf Try.f112) := loopsOK_nil
theorem math_bits_OnesCount64_run (F : Nat) (x0 : Int) : runS tt (math_bits_OnesCount64_tab F) (math_bits_OnesCount64_LS0 F) [] [] Try.f112 (bodyOf Try.f112) 70 [(.int .u64 x0)] [] = math_bits_OnesCount64_c _ x0 (fun r => some ⟨(.int .i64 r), [], []⟩) := by kernel_rfl
def math_bits_OnesCount64_ent (F : Nat) : Ent := ⟨[], .quiet, fun args mem => match args, mem with
  | [(.int .u64 x0)], [] => some (true, ⟨(.int .i64 (math_bits_OnesCount64_v x0)), [], []⟩)
  | _, _ => none⟩
theorem math_bits_OnesCount64_fok : FunOK Try.prog 112 := funOK Try.func112 (by kernel_rfl) rfl
theorem math_bits_OnesCount64_meets (F : Nat) : Meets Try.prog 112 (math_bits_OnesCount64_ent F) := by
  refine meets_of_runS mixed ttok deep (math_bits_OnesCount64_tabok F) Try.func112 (body_some rfl) (math_bits_OnesCount64_lsok0 F) fun args mem hfit ret h => ?_
  clear hfit
  simp only [math_bits_OnesCount64_ent] at h
  split at h
  · rename_i x0
    simp only [Option.some.injEq, Prod.mk.injEq] at h
    obtain ⟨hc, rfl⟩ := h
    exact ⟨[], [], 70, _, (math_bits_OnesCount64_run F x0).trans (math_bits_OnesCount64_cv _ x0 _), rfl, rfl, rfl⟩
  · cases h

/-! math/bits.OnesCount -/
noncomputable def math_bits_OnesCount_tab (F : Nat) : Tab := [(112, (math_bits_OnesCount64_ent F))]
theorem math_bits_OnesCount_tabok (F : Nat) : TabOK Try.prog (math_bits_OnesCount_tab F) := (tab_cons (math_bits_OnesCount64_meets F) math_bits_OnesCount64_fok tab_nil)
noncomputable def math_bits_OnesCount_LS0 (F : Nat) : LT := []
theorem math_bits_OnesCount_lsok0 (F : Nat) : LoopsOK Try.prog (math_bits_OnesCount_LS0 F) (bodyOf Try.f91) := loopsOK_nil
theorem math_bits_OnesCount_run (F : Nat) (x0 : Int) : runS tt (math_bits_OnesCount_tab F) (math_bits_OnesCount_LS0 F) [] [] Try.f91 (bodyOf Try.f91) 70 [(.int .u64 x0)] [] = math_bits_OnesCount_c _ x0 (fun r => some ⟨(.int .i64 r), [], []⟩) := by kernel_rfl
def math_bits_OnesCount_ent (F : Nat) : Ent := ⟨[], .quiet, fun args mem => match args, mem with
  | [(.int .u64 x0)], [] => some (true, ⟨(.int .i64 (math_bits_OnesCount_v x0)), [], []⟩)
  | _, _ => none⟩
theorem math_bits_OnesCount_fok : FunOK Try.prog 91 := funOK Try.func91 (by kernel_rfl) rfl
theorem math_bits_OnesCount_meets (F : Nat) : Meets Try.prog 91 (math_bits_OnesCount_ent F) := by
  refine meets_of_runS mixed ttok deep (math_bits_OnesCount_tabok F) Try.func91 (body_some rfl) (math_bits_OnesCount_lsok0 F) fun args mem hfit ret h => ?_
  clear hfit
  simp only [math_bits_OnesCount_ent] at h
  split at h
  · rename_i x0
    simp only [Option.some.injEq, Prod.mk.injEq] at h
    obtain ⟨hc, rfl⟩ := h
    exact ⟨[], [], 70, _, (math_bits_OnesCount_run F x0).trans (math_bits_OnesCount_cv _ x0 _), rfl, rfl, rfl⟩
  · cases h

/-! loop.example/g01194/impl.leastTiles -/
noncomputable def impl_leastTiles_tab (F : Nat) : Tab := [(91, (math_bits_OnesCount_ent F))]
theorem impl_leastTiles_tabok (F : Nat) : TabOK Try.prog (impl_leastTiles_tab F) := (tab_cons (math_bits_OnesCount_meets F) math_bits_OnesCount_fok tab_nil)
noncomputable def impl_leastTiles_LS0 (F : Nat) : LT := []
theorem impl_leastTiles_lsok0 (F : Nat) : LoopsOK Try.prog (impl_leastTiles_LS0 F) (bodyOf Try.f56) := loopsOK_nil
theorem impl_leastTiles_run (F : Nat) (sum0 : Int) : runS tt (impl_leastTiles_tab F) (impl_leastTiles_LS0 F) [] [] Try.f56 (bodyOf Try.f56) 70 [(.int .i64 sum0)] [] = impl_leastTiles_c _ sum0 (fun r => some ⟨(.int .i64 r), [], []⟩) := by kernel_rfl
def impl_leastTiles_ent (F : Nat) : Ent := ⟨[], .quiet, fun args mem => match args, mem with
  | [(.int .i64 sum0)], [] => some (true, ⟨(.int .i64 (impl_leastTiles_v sum0)), [], []⟩)
  | _, _ => none⟩
theorem impl_leastTiles_fok : FunOK Try.prog 56 := funOK Try.func56 (by kernel_rfl) rfl
theorem impl_leastTiles_meets (F : Nat) : Meets Try.prog 56 (impl_leastTiles_ent F) := by
  refine meets_of_runS mixed ttok deep (impl_leastTiles_tabok F) Try.func56 (body_some rfl) (impl_leastTiles_lsok0 F) fun args mem hfit ret h => ?_
  clear hfit
  simp only [impl_leastTiles_ent] at h
  split at h
  · rename_i sum0
    simp only [Option.some.injEq, Prod.mk.injEq] at h
    obtain ⟨hc, rfl⟩ := h
    exact ⟨[], [], 70, _, (impl_leastTiles_run F sum0).trans (impl_leastTiles_cv _ sum0 _), rfl, rfl, rfl⟩
  · cases h

/-! loop.example/g01194/impl.isFor -/
noncomputable def impl_isFor_tab (F : Nat) : Tab := [(54, (impl_isSum_ent F)), (56, (impl_leastTiles_ent F))]
theorem impl_isFor_tabok (F : Nat) : TabOK Try.prog (impl_isFor_tab F) := (tab_cons (impl_isSum_meets F) impl_isSum_fok (tab_cons (impl_leastTiles_meets F) impl_leastTiles_fok tab_nil))
noncomputable def impl_isFor_LS0 (F : Nat) : LT := []
theorem impl_isFor_lsok0 (F : Nat) : LoopsOK Try.prog (impl_isFor_LS0 F) (bodyOf Try.f58) := loopsOK_nil
theorem impl_isFor_run (F : Nat) (sum0 : Int) : runS tt (impl_isFor_tab F) (impl_isFor_LS0 F) [] [] Try.f58 (bodyOf Try.f58) 70 [(.int .i64 sum0)] [] = impl_isFor_c _ sum0 (fun r => some ⟨(.bool r), [], []⟩) := by kernel_rfl
def impl_isFor_ent (F : Nat) : Ent := ⟨[], .quiet, fun args mem => match args, mem with
  | [(.int .i64 sum0)], [] => some (true, ⟨(.bool (impl_isFor_v sum0)), [], []⟩)
  | _, _ => none⟩
theorem impl_isFor_fok : FunOK Try.prog 58 := funOK Try.func58 (by kernel_rfl) rfl
theorem impl_isFor_meets (F : Nat) : Meets Try.prog 58 (impl_isFor_ent F) := by
  refine meets_of_runS mixed ttok deep (impl_isFor_tabok F) Try.func58 (body_some rfl) (impl_isFor_lsok0 F) fun args mem hfit ret h => ?_
  clear hfit
  simp only [impl_isFor_ent] at h
  split at h
  · rename_i sum0
    simp only [Option.some.injEq, Prod.mk.injEq] at h
    obtain ⟨hc, rfl⟩ := h
    exact ⟨[], [], 70, _, (impl_isFor_run F sum0).trans (impl_isFor_cv _ sum0 _), rfl, rfl, rfl⟩
  · cases h

/-! math/bits.Len64 -/
def math_bits_Len64_ent (F : Nat) : Ent := ⟨[], .quiet, fun args mem => match args, mem with
  | [.int .u64 x], [] => some (decide (0 ≤ x) && decide (x ≤ 18446744073709551615), ⟨.int .i64 (math_bits_Len64_v x), [], []⟩)
  | _, _ => none⟩
theorem math_bits_Len64_fok : FunOK Try.prog 98 := funOK Try.func98 (by kernel_rfl) rfl
theorem math_bits_Len64_meets (F : Nat) : Meets Try.prog 98 (math_bits_Len64_ent F) := by
  intro fr w ρ mem args reals hw ha ret hg
  simp only [math_bits_Len64_ent] at hg
  split at hg
  · rename_i x
    simp only [Option.some.injEq, Prod.mk.injEq, Bool.and_eq_true, decide_eq_true_eq] at hg
    obtain ⟨⟨h0, h1⟩, rfl⟩ := hg
    cases ha with
    | cons h hr =>
      cases hr
      have h : _ = Value.int .u64 x := h
      subst h
      refine (bits_Len64 x w h0 h1).mono fun e w' ⟨he, hw'⟩ => ?_
      subst he; subst hw'
      exact ⟨_, ρ, rfl, show _ = _ from rfl, hw, Step.refl _ _ _ _⟩
  · cases hg

/-! math/bits.Len -/
noncomputable def math_bits_Len_tab (F : Nat) : Tab := [(98, (math_bits_Len64_ent F))]
theorem math_bits_Len_tabok (F : Nat) : TabOK Try.prog (math_bits_Len_tab F) := (tab_cons (math_bits_Len64_meets F) math_bits_Len64_fok tab_nil)
noncomputable def math_bits_Len_LS0 (F : Nat) : LT := []
theorem math_bits_Len_lsok0 (F : Nat) : LoopsOK Try.prog (math_bits_Len_LS0 F) (bodyOf Try.f68) := loopsOK_nil
theorem math_bits_Len_run (F : Nat) (x0 : Int) : runS tt (math_bits_Len_tab F) (math_bits_Len_LS0 F) [] [] Try.f68 (bodyOf Try.f68) 70 [(.int .u64 x0)] [] = math_bits_Len_c _ x0 (fun r => some ⟨(.int .i64 r), [], []⟩) := by kernel_rfl
def math_bits_Len_ent (F : Nat) : Ent := ⟨[], .quiet, fun args mem => match args, mem with
  | [(.int .u64 x0)], [] => some ((math_bits_Len_p x0).isSome, ⟨(.int .i64 ((math_bits_Len_p x0).getD default)), [], []⟩)
  | _, _ => none⟩
theorem math_bits_Len_fok : FunOK Try.prog 68 := funOK Try.func68 (by kernel_rfl) rfl
theorem math_bits_Len_meets (F : Nat) : Meets Try.prog 68 (math_bits_Len_ent F) := by
  refine meets_of_runS mixed ttok deep (math_bits_Len_tabok F) Try.func68 (body_some rfl) (math_bits_Len_lsok0 F) fun args mem hfit ret h => ?_
  clear hfit
  simp only [math_bits_Len_ent] at h
  split at h
  · rename_i x0
    simp only [Option.some.injEq, Prod.mk.injEq] at h
    obtain ⟨hc, rfl⟩ := h
    exact ⟨[], [], 70, _, (math_bits_Len_run F x0).trans ((math_bits_Len_cp _ x0 _).trans (bind_use hc _)), rfl, rfl, rfl⟩
  · cases h

/-! loop.example/g01194/impl.HighestFor -/
noncomputable def impl_HighestFor_tab (F : Nat) : Tab := [(58, (impl_isFor_ent F)), (68, (math_bits_Len_ent F))]
theorem impl_HighestFor_tabok (F : Nat) : TabOK Try.prog (impl_HighestFor_tab F) := (tab_cons (impl_isFor_meets F) impl_isFor_fok (tab_cons (math_bits_Len_meets F) math_bits_Len_fok tab_nil))
noncomputable def impl_HighestFor_LS0 (F : Nat) : LT := []
theorem impl_HighestFor_lsok0 (F : Nat) : LoopsOK Try.prog (impl_HighestFor_LS0 F) (bodyOf Try.f26) := loopsOK_nil
theorem impl_HighestFor_run (F : Nat) (sum0 : Int) : runS tt (impl_HighestFor_tab F) (impl_HighestFor_LS0 F) [] [] Try.f26 (bodyOf Try.f26) 70 [(.int .i64 sum0)] [] = impl_HighestFor_c _ sum0 (fun r => some ⟨(.tup [(.int .i64 r.1), (.bool r.2)]), [], []⟩) := by kernel_rfl
def impl_HighestFor_ent (F : Nat) : Ent := ⟨[], .quiet, fun args mem => match args, mem with
  | [(.int .i64 sum0)], [] => some ((impl_HighestFor_p sum0).isSome, ⟨(.tup [(.int .i64 ((impl_HighestFor_p sum0).getD default).1), (.bool ((impl_HighestFor_p sum0).getD default).2)]), [], []⟩)
  | _, _ => none⟩
theorem impl_HighestFor_fok : FunOK Try.prog 26 := funOK Try.func26 (by kernel_rfl) rfl
theorem impl_HighestFor_meets (F : Nat) : Meets Try.prog 26 (impl_HighestFor_ent F) := by
  refine meets_of_runS mixed ttok deep (impl_HighestFor_tabok F) Try.func26 (body_some rfl) (impl_HighestFor_lsok0 F) fun args mem hfit ret h => ?_
  clear hfit
  simp only [impl_HighestFor_ent] at h
  split at h
  · rename_i sum0
    simp only [Option.some.injEq, Prod.mk.injEq] at h
    obtain ⟨hc, rfl⟩ := h
    exact ⟨[], [], 70, _, (impl_HighestFor_run F sum0).trans ((impl_HighestFor_cp _ sum0 _).trans (bind_use hc _)), rfl, rfl, rfl⟩
  · cases h

/-! loop.example/g01194/laws.FnExactHighestFor -/
noncomputable def laws_FnExactHighestFor_tab (F : Nat) : Tab := [(25, (spec_HighestFor_ent F)), (26, (impl_HighestFor_ent F))]
theorem laws_FnExactHighestFor_tabok (F : Nat) : TabOK Try.prog (laws_FnExactHighestFor_tab F) := (tab_cons (spec_HighestFor_meets F) spec_HighestFor_fok (tab_cons (impl_HighestFor_meets F) impl_HighestFor_fok tab_nil))
noncomputable def laws_FnExactHighestFor_LS0 (F : Nat) : LT := []
theorem laws_FnExactHighestFor_lsok0 (F : Nat) : LoopsOK Try.prog (laws_FnExactHighestFor_LS0 F) (bodyOf Try.f7) := loopsOK_nil
theorem laws_FnExactHighestFor_run (F : Nat) (aSum0 : Int) : runS tt (laws_FnExactHighestFor_tab F) (laws_FnExactHighestFor_LS0 F) [] [] Try.f7 (bodyOf Try.f7) 70 [(.int .i64 aSum0)] [] = laws_FnExactHighestFor_c _ F aSum0 (fun r => some ⟨(.bool r), [], []⟩) := by kernel_rfl
def laws_FnExactHighestFor_ent (F : Nat) : Ent := ⟨[], .quiet, fun args mem => match args, mem with
  | [(.int .i64 aSum0)], [] => some ((laws_FnExactHighestFor_p F aSum0).isSome, ⟨(.bool ((laws_FnExactHighestFor_p F aSum0).getD default)), [], []⟩)
  | _, _ => none⟩
theorem laws_FnExactHighestFor_fok : FunOK Try.prog 7 := funOK Try.func7 (by kernel_rfl) rfl
theorem laws_FnExactHighestFor_meets (F : Nat) : Meets Try.prog 7 (laws_FnExactHighestFor_ent F) := by
  refine meets_of_runS mixed ttok deep (laws_FnExactHighestFor_tabok F) Try.func7 (body_some rfl) (laws_FnExactHighestFor_lsok0 F) fun args mem hfit ret h => ?_
  clear hfit
  simp only [laws_FnExactHighestFor_ent] at h
  split at h
  · rename_i aSum0
    simp only [Option.some.injEq, Prod.mk.injEq] at h
    obtain ⟨hc, rfl⟩ := h
    exact ⟨[], [], 70, _, (laws_FnExactHighestFor_run F aSum0).trans ((laws_FnExactHighestFor_cp _ F aSum0 _).trans (bind_use hc _)), rfl, rfl, rfl⟩
  · cases h

/-! loop.example/g01194/spec.l2Put -/
noncomputable def spec_l2Put_tab (F : Nat) : Tab := []
theorem spec_l2Put_tabok (F : Nat) : TabOK Try.prog (spec_l2Put_tab F) := tab_nil
noncomputable def spec_l2Put_LS0 (F : Nat) : LT := []
theorem spec_l2Put_lsok0 (F : Nat) : LoopsOK Try.prog (spec_l2Put_LS0 F) (bodyOf Try.f81) := loopsOK_nil
theorem spec_l2Put_run (F : Nat) (b0 : List Int) (cell1 : List Int) (t2 : Int) : runS tt (spec_l2Put_tab F) (spec_l2Put_LS0 F) [] [] Try.f81 (bodyOf Try.f81) 70 [(.ints 16 b0), (.ints 2 cell1), (.int .i64 t2)] [] = spec_l2Put_c _ b0 cell1 t2 (fun r => some ⟨(.ints 16 r), [], []⟩) := by kernel_rfl
def spec_l2Put_ent (F : Nat) : Ent := ⟨[], .quiet, fun args mem => match args, mem with
  | [(.ints 16 b0), (.ints 2 cell1), (.int .i64 t2)], [] => some ((spec_l2Put_p b0 cell1 t2).isSome, ⟨(.ints 16 ((spec_l2Put_p b0 cell1 t2).getD default)), [], []⟩)
  | _, _ => none⟩
theorem spec_l2Put_fok : FunOK Try.prog 81 := funOK Try.func81 (by kernel_rfl) rfl
theorem spec_l2Put_meets (F : Nat) : Meets Try.prog 81 (spec_l2Put_ent F) := by
  refine meets_of_runS mixed ttok deep (spec_l2Put_tabok F) Try.func81 (body_some rfl) (spec_l2Put_lsok0 F) fun args mem hfit ret h => ?_
  clear hfit
  simp only [spec_l2Put_ent] at h
  split at h
  · rename_i b0 cell1 t2
    simp only [Option.some.injEq, Prod.mk.injEq] at h
    obtain ⟨hc, rfl⟩ := h
    exact ⟨[], [], 70, _, (spec_l2Put_run F b0 cell1 t2).trans ((spec_l2Put_cp _ b0 cell1 t2 _).trans (bind_use hc _)), rfl, rfl, rfl⟩
  · cases h

/-! loop.example/g01194/spec.PackedBoard -/
noncomputable def spec_PackedBoard_tab (F : Nat) : Tab := [(57, (spec_l7Sum_ent F)), (53, (spec_l7Least_ent F)), (81, (spec_l2Put_ent F))]
theorem spec_PackedBoard_tabok (F : Nat) : TabOK Try.prog (spec_PackedBoard_tab F) := (tab_cons (spec_l7Sum_meets F) spec_l7Sum_fok (tab_cons (spec_l7Least_meets F) spec_l7Least_fok (tab_cons (spec_l2Put_meets F) spec_l2Put_fok tab_nil)))
noncomputable def spec_PackedBoard_LS0 (F : Nat) : LT := []
theorem spec_PackedBoard_lsok0 (F : Nat) : LoopsOK Try.prog (spec_PackedBoard_LS0 F) (bodyOf Try.f43) := loopsOK_nil
theorem spec_PackedBoard_keys : keysOK (bodyOf Try.f43) = true := by kernel_rfl
def spec_PackedBoard_st5 (list11 : List Int) (i8 : Int) (b10 : List Int) : St := ⟨expand 32 0 [2, 4, 5, 6] [(.ptr 0 0 0 16), (.ptr 1 0 0 16), (.sl 2 0 (List.length list11)), (.int .i64 i8)], [(.var 16 (.ri .i64 [(0 : Int), (0 : Int), (0 : Int), (0 : Int), (0 : Int), (0 : Int), (0 : Int), (0 : Int), (0 : Int), (0 : Int), (0 : Int), (0 : Int), (0 : Int), (0 : Int), (0 : Int), (0 : Int)])), (.var 16 (.ri .i64 b10)), (.vec 3 (.ri .i64 list11))], 0, []⟩
def spec_PackedBoard_o5 (list11 : List Int) (x : List Int) : GT := (.out (.exit 0 ⟨expand 32 0 [2, 4] [(.ptr 0 0 0 16), (.ptr 1 0 0 16)], [(.var 16 (.ri .i64 [(0 : Int), (0 : Int), (0 : Int), (0 : Int), (0 : Int), (0 : Int), (0 : Int), (0 : Int), (0 : Int), (0 : Int), (0 : Int), (0 : Int), (0 : Int), (0 : Int), (0 : Int), (0 : Int)])), (.var 16 (.ri .i64 x))], 0, []⟩))
def spec_PackedBoard_ls5 (F : Nat) : LoopS := ⟨32, [2, 4, 5, 6], [], [2, 4], [], [2, 3], [], [], fun vals mem np killed => match vals, mem, np, killed with
  | [(.ptr 0 0 0 16), (.ptr 1 0 0 16), (.sl 2 0 q_list7), (.int .i64 i8)], [(.var 16 (.ri .i64 q_t29)), (.var 16 (.ri .i64 b10)), (.vec 3 (.ri .i64 list11))], 0, [] => .br ((q_t29 == ([(0 : Int), (0 : Int), (0 : Int), (0 : Int), (0 : Int), (0 : Int), (0 : Int), (0 : Int), (0 : Int), (0 : Int), (0 : Int), (0 : Int), (0 : Int), (0 : Int), (0 : Int), (0 : Int)] : List Int)) && ((Nat.beq q_list7 (List.length list11)) && (spec_PackedBoard_l5 F list11 i8 b10).isSome)) (spec_PackedBoard_o5 list11 ((spec_PackedBoard_l5 F list11 i8 b10).getD default)) .fail
  | _, _, _, _ => .fail⟩
theorem spec_PackedBoard_step5 (F : Nat) (list11 : List Int) (i8 : Int) (b10 : List Int) {R : Type} (k : Out → Option R) : stepS tt (spec_PackedBoard_tab F) (spec_PackedBoard_LS0 F) 70 (spec_PackedBoard_ls5 F) (loopAt 5 (bodyOf Try.f43)) (spec_PackedBoard_st5 list11 i8 b10) k = spec_PackedBoard_s5 F list11 R (i8, b10) (fun s => k (.norm (spec_PackedBoard_st5 list11 s.1 s.2))) (fun x => (spec_PackedBoard_o5 list11 x).run k) := by kernel_rfl
theorem spec_PackedBoard_iter5 (F : Nat) (list11 : List Int) {R : Type} (k : Out → Option R) : ∀ (n : Nat) (i8 : Int) (b10 : List Int), iterS tt (spec_PackedBoard_tab F) (spec_PackedBoard_LS0 F) 70 (spec_PackedBoard_ls5 F) (loopAt 5 (bodyOf Try.f43)) n (spec_PackedBoard_st5 list11 i8 b10) k = loopC (spec_PackedBoard_s5 F list11) n (i8, b10) (fun x => (spec_PackedBoard_o5 list11 x).run k)
  | 0, i8, b10 => rfl
  | n + 1, i8, b10 => (iterS_succ tt (spec_PackedBoard_tab F) (spec_PackedBoard_LS0 F) 70 (spec_PackedBoard_ls5 F) (loopAt 5 (bodyOf Try.f43)) n (spec_PackedBoard_st5 list11 i8 b10) k).trans ((spec_PackedBoard_step5 F list11 i8 b10 (nextK (iterS tt (spec_PackedBoard_tab F) (spec_PackedBoard_LS0 F) 70 (spec_PackedBoard_ls5 F) (loopAt 5 (bodyOf Try.f43)) n) k)).trans (congrArg (fun kn => spec_PackedBoard_s5 F list11 R (i8, b10) kn _) (funext (fun ⟨i8, b10⟩ => spec_PackedBoard_iter5 F list11 k n i8 b10))))
theorem spec_PackedBoard_lok5 (F : Nat) : LoopOK Try.prog (loopAt 5 (bodyOf Try.f43)) (spec_PackedBoard_ls5 F) := by
  refine loopOK_of mixed ttok deep (spec_PackedBoard_tabok F) (loopsOK_at (spec_PackedBoard_lsok0 F) 5) (fuel := 70) fun R vals mem np killed k x h => ?_
  simp only [spec_PackedBoard_ls5] at h
  split at h
  · rename_i q_list7 i8 q_t29 b10 list11
    simp only [GT.run] at h
    have hc := (cond_noneL h).1
    replace h := (cond_noneL h).2
    have hg := (and_split hc).1
    replace hc := (and_split hc).2
    obtain rfl := beq_li hg
    have hg := (and_split hc).1
    replace hc := (and_split hc).2
    obtain rfl := nbeq_nat hg
    refine ⟨F, (spec_PackedBoard_iter5 F list11 k F i8 b10).trans ((loopC_use (spec_PackedBoard_s5_nat F list11) hc _).trans h)⟩
  · simp only [GT.run] at h
    cases h
noncomputable def spec_PackedBoard_LS1 (F : Nat) : LT := (5, spec_PackedBoard_ls5 F) :: spec_PackedBoard_LS0 F
theorem spec_PackedBoard_lsok1 (F : Nat) : LoopsOK Try.prog (spec_PackedBoard_LS1 F) (bodyOf Try.f43) := loopsOK_cons spec_PackedBoard_keys (spec_PackedBoard_lok5 F) (spec_PackedBoard_lsok0 F)
theorem spec_PackedBoard_run (F : Nat) (sum0 : Int) : runS tt (spec_PackedBoard_tab F) (spec_PackedBoard_LS1 F) [] [] Try.f43 (bodyOf Try.f43) 70 [(.int .i64 sum0)] [] = spec_PackedBoard_c _ F sum0 (fun r => some ⟨(.tup [(.ints 16 r.1), (.bool r.2)]), [], []⟩) := by kernel_rfl
def spec_PackedBoard_ent (F : Nat) : Ent := ⟨[], .quiet, fun args mem => match args, mem with
  | [(.int .i64 sum0)], [] => some ((spec_PackedBoard_p F sum0).isSome, ⟨(.tup [(.ints 16 ((spec_PackedBoard_p F sum0).getD default).1), (.bool ((spec_PackedBoard_p F sum0).getD default).2)]), [], []⟩)
  | _, _ => none⟩
theorem spec_PackedBoard_fok : FunOK Try.prog 43 := funOK Try.func43 (by kernel_rfl) rfl
theorem spec_PackedBoard_meets (F : Nat) : Meets Try.prog 43 (spec_PackedBoard_ent F) := by
  refine meets_of_runS mixed ttok deep (spec_PackedBoard_tabok F) Try.func43 (body_some rfl) (spec_PackedBoard_lsok1 F) fun args mem hfit ret h => ?_
  clear hfit
  simp only [spec_PackedBoard_ent] at h
  split at h
  · rename_i sum0
    simp only [Option.some.injEq, Prod.mk.injEq] at h
    obtain ⟨hc, rfl⟩ := h
    exact ⟨[], [], 70, _, (spec_PackedBoard_run F sum0).trans ((spec_PackedBoard_cp _ F sum0 _).trans (bind_use hc _)), rfl, rfl, rfl⟩
  · cases h

/-! loop.example/g01194/impl.cells -/
noncomputable def impl_cells_tab (F : Nat) : Tab := []
theorem impl_cells_tabok (F : Nat) : TabOK Try.prog (impl_cells_tab F) := tab_nil
noncomputable def impl_cells_LS0 (F : Nat) : LT := []
theorem impl_cells_lsok0 (F : Nat) : LoopsOK Try.prog (impl_cells_LS0 F) (bodyOf Try.f82) := loopsOK_nil
theorem impl_cells_run (F : Nat) : runS tt (impl_cells_tab F) (impl_cells_LS0 F) [] [] Try.f82 (bodyOf Try.f82) 70 [] [] = impl_cells_c _ (fun r => some ⟨(.sl 0 0 16), [(.vec 48 (.rr 2 [[(0 : Int), (0 : Int)], [(0 : Int), (1 : Int)], [(0 : Int), (2 : Int)], [(0 : Int), (3 : Int)], [(1 : Int), (0 : Int)], [(1 : Int), (1 : Int)], [(1 : Int), (2 : Int)], [(1 : Int), (3 : Int)], [(2 : Int), (0 : Int)], [(2 : Int), (1 : Int)], [(2 : Int), (2 : Int)], [(2 : Int), (3 : Int)], [(3 : Int), (0 : Int)], [(3 : Int), (1 : Int)], [(3 : Int), (2 : Int)], [(3 : Int), (3 : Int)]]))], []⟩) := by kernel_rfl
def impl_cells_ent (F : Nat) : Ent := ⟨[], .fresh, fun args mem => match args, mem with
  | [], [] => some (true, ⟨(.sl 0 0 16), [(.vec 48 (.rr 2 [[(0 : Int), (0 : Int)], [(0 : Int), (1 : Int)], [(0 : Int), (2 : Int)], [(0 : Int), (3 : Int)], [(1 : Int), (0 : Int)], [(1 : Int), (1 : Int)], [(1 : Int), (2 : Int)], [(1 : Int), (3 : Int)], [(2 : Int), (0 : Int)], [(2 : Int), (1 : Int)], [(2 : Int), (2 : Int)], [(2 : Int), (3 : Int)], [(3 : Int), (0 : Int)], [(3 : Int), (1 : Int)], [(3 : Int), (2 : Int)], [(3 : Int), (3 : Int)]]))], []⟩)
  | _, _ => none⟩
theorem impl_cells_fok : FunOK Try.prog 82 := funOK Try.func82 (by kernel_rfl) rfl
theorem impl_cells_meets (F : Nat) : Meets Try.prog 82 (impl_cells_ent F) := by
  refine meets_of_runS mixed ttok deep (impl_cells_tabok F) Try.func82 (body_some rfl) (impl_cells_lsok0 F) fun args mem hfit ret h => ?_
  clear hfit
  simp only [impl_cells_ent] at h
  split at h
  · simp only [Option.some.injEq, Prod.mk.injEq] at h
    obtain ⟨hc, rfl⟩ := h
    exact ⟨[], [], 70, _, (impl_cells_run F).trans (impl_cells_cv _ _), rfl, rfl, rfl⟩
  · cases h

/-! (*loop.example/g01194/impl.Board).at -/
noncomputable def impl_Board_at_tab (F : Nat) : Tab := []
theorem impl_Board_at_tabok (F : Nat) : TabOK Try.prog (impl_Board_at_tab F) := tab_nil
noncomputable def impl_Board_at_LS0 (F : Nat) : LT := []
theorem impl_Board_at_lsok0 (F : Nat) : LoopsOK Try.prog (impl_Board_at_LS0 F) (bodyOf Try.f83) := loopsOK_nil
theorem impl_Board_at_run (F : Nat) (cell3 : List Int) (b4 : List Int) : runS tt (impl_Board_at_tab F) (impl_Board_at_LS0 F) [] [] Try.f83 (bodyOf Try.f83) 70 [(.ptr 0 0 0 16), (.ints 2 cell3)] [(.var 16 (.ri .i64 b4))] = impl_Board_at_c _ cell3 b4 (fun r => some ⟨(.ptr 0 0 r 1), [(.var 16 (.ri .i64 b4))], []⟩) := by kernel_rfl
def impl_Board_at_ent (F : Nat) : Ent := ⟨[], .quiet, fun args mem => match args, mem with
  | [(.ptr 0 0 0 16), (.ints 2 cell3)], [(.var 16 (.ri .i64 b4))] => some ((impl_Board_at_p cell3 b4).isSome, ⟨(.ptr 0 0 ((impl_Board_at_p cell3 b4).getD default) 1), [], []⟩)
  | _, _ => none⟩
theorem impl_Board_at_fok : FunOK Try.prog 83 := funOK Try.func83 (by kernel_rfl) rfl
theorem impl_Board_at_meets (F : Nat) : Meets Try.prog 83 (impl_Board_at_ent F) := by
  refine meets_of_runS mixed ttok deep (impl_Board_at_tabok F) Try.func83 (body_some rfl) (impl_Board_at_lsok0 F) fun args mem hfit ret h => ?_
  clear hfit
  simp only [impl_Board_at_ent] at h
  split at h
  · rename_i cell3 b4
    simp only [Option.some.injEq, Prod.mk.injEq] at h
    obtain ⟨hc, rfl⟩ := h
    exact ⟨[], [], 70, _, (impl_Board_at_run F cell3 b4).trans ((impl_Board_at_cp _ cell3 b4 _).trans (bind_use hc _)), rfl, rfl, rfl⟩
  · cases h

/-! loop.example/g01194/impl.worth -/
noncomputable def impl_worth_tab (F : Nat) : Tab := []
theorem impl_worth_tabok (F : Nat) : TabOK Try.prog (impl_worth_tab F) := tab_nil
noncomputable def impl_worth_LS0 (F : Nat) : LT := []
theorem impl_worth_lsok0 (F : Nat) : LoopsOK Try.prog (impl_worth_LS0 F) (bodyOf Try.f84) := loopsOK_nil
theorem impl_worth_run (F : Nat) (t0 : Int) : runS tt (impl_worth_tab F) (impl_worth_LS0 F) [] [] Try.f84 (bodyOf Try.f84) 70 [(.int .i64 t0)] [] = impl_worth_c _ t0 (fun r => some ⟨(.int .i64 r), [], []⟩) := by kernel_rfl
def impl_worth_ent (F : Nat) : Ent := ⟨[], .quiet, fun args mem => match args, mem with
  | [(.int .i64 t0)], [] => some ((impl_worth_p t0).isSome, ⟨(.int .i64 ((impl_worth_p t0).getD default)), [], []⟩)
  | _, _ => none⟩
theorem impl_worth_fok : FunOK Try.prog 84 := funOK Try.func84 (by kernel_rfl) rfl
theorem impl_worth_meets (F : Nat) : Meets Try.prog 84 (impl_worth_ent F) := by
  refine meets_of_runS mixed ttok deep (impl_worth_tabok F) Try.func84 (body_some rfl) (impl_worth_lsok0 F) fun args mem hfit ret h => ?_
  clear hfit
  simp only [impl_worth_ent] at h
  split at h
  · rename_i t0
    simp only [Option.some.injEq, Prod.mk.injEq] at h
    obtain ⟨hc, rfl⟩ := h
    exact ⟨[], [], 70, _, (impl_worth_run F t0).trans ((impl_worth_cp _ t0 _).trans (bind_use hc _)), rfl, rfl, rfl⟩
  · cases h

/-! loop.example/g01194/impl.PackedBoard -/
noncomputable def impl_PackedBoard_tab (F : Nat) : Tab := [(58, (impl_isFor_ent F)), (82, (impl_cells_ent F)), (68, (math_bits_Len_ent F)), (83, (impl_Board_at_ent F)), (84, (impl_worth_ent F))]
theorem impl_PackedBoard_tabok (F : Nat) : TabOK Try.prog (impl_PackedBoard_tab F) := (tab_cons (impl_isFor_meets F) impl_isFor_fok (tab_cons (impl_cells_meets F) impl_cells_fok (tab_cons (math_bits_Len_meets F) math_bits_Len_fok (tab_cons (impl_Board_at_meets F) impl_Board_at_fok (tab_cons (impl_worth_meets F) impl_worth_fok tab_nil)))))
noncomputable def impl_PackedBoard_LS0 (F : Nat) : LT := []
theorem impl_PackedBoard_lsok0 (F : Nat) : LoopsOK Try.prog (impl_PackedBoard_LS0 F) (bodyOf Try.f44) := loopsOK_nil
theorem impl_PackedBoard_keys : keysOK (bodyOf Try.f44) = true := by kernel_rfl
def impl_PackedBoard_st5 (sum0 : Int) (t1510 : Int) (out12 : List Int) : St := ⟨expand 36 0 [0, 2, 4, 13, 14, 15] [(.int .i64 sum0), (.ptr 0 0 0 16), (.ptr 1 0 0 16), (.sl 2 0 16), (.int .i64 (16 : Int)), (.int .i64 t1510)], [(.var 16 (.ri .i64 [(0 : Int), (0 : Int), (0 : Int), (0 : Int), (0 : Int), (0 : Int), (0 : Int), (0 : Int), (0 : Int), (0 : Int), (0 : Int), (0 : Int), (0 : Int), (0 : Int), (0 : Int), (0 : Int)])), (.var 16 (.ri .i64 out12)), (.vec 48 (.rr 2 [[(0 : Int), (0 : Int)], [(0 : Int), (1 : Int)], [(0 : Int), (2 : Int)], [(0 : Int), (3 : Int)], [(1 : Int), (0 : Int)], [(1 : Int), (1 : Int)], [(1 : Int), (2 : Int)], [(1 : Int), (3 : Int)], [(2 : Int), (0 : Int)], [(2 : Int), (1 : Int)], [(2 : Int), (2 : Int)], [(2 : Int), (3 : Int)], [(3 : Int), (0 : Int)], [(3 : Int), (1 : Int)], [(3 : Int), (2 : Int)], [(3 : Int), (3 : Int)]]))], 0, []⟩
def impl_PackedBoard_o5 (x : List Int) : GT := (.out (.exit 0 ⟨expand 36 0 [2, 4] [(.ptr 0 0 0 16), (.ptr 1 0 0 16)], [(.var 16 (.ri .i64 [(0 : Int), (0 : Int), (0 : Int), (0 : Int), (0 : Int), (0 : Int), (0 : Int), (0 : Int), (0 : Int), (0 : Int), (0 : Int), (0 : Int), (0 : Int), (0 : Int), (0 : Int), (0 : Int)])), (.var 16 (.ri .i64 x))], 0, []⟩))
def impl_PackedBoard_ls5 (F : Nat) : LoopS := ⟨36, [0, 2, 4, 13, 14, 15], [], [2, 4], [], [2, 3], [], [], fun vals mem np killed => match vals, mem, np, killed with
  | [(.int .i64 sum0), (.ptr 0 0 0 16), (.ptr 1 0 0 16), (.sl 2 0 q_t138), (.int .i64 q_t149), (.int .i64 t1510)], [(.var 16 (.ri .i64 q_t211)), (.var 16 (.ri .i64 out12)), (.vec 48 (.rr 2 q_t1313))], 0, [] => .br ((q_t149 == (16 : Int)) && ((q_t211 == ([(0 : Int), (0 : Int), (0 : Int), (0 : Int), (0 : Int), (0 : Int), (0 : Int), (0 : Int), (0 : Int), (0 : Int), (0 : Int), (0 : Int), (0 : Int), (0 : Int), (0 : Int), (0 : Int)] : List Int)) && ((q_t1313 == ([[(0 : Int), (0 : Int)], [(0 : Int), (1 : Int)], [(0 : Int), (2 : Int)], [(0 : Int), (3 : Int)], [(1 : Int), (0 : Int)], [(1 : Int), (1 : Int)], [(1 : Int), (2 : Int)], [(1 : Int), (3 : Int)], [(2 : Int), (0 : Int)], [(2 : Int), (1 : Int)], [(2 : Int), (2 : Int)], [(2 : Int), (3 : Int)], [(3 : Int), (0 : Int)], [(3 : Int), (1 : Int)], [(3 : Int), (2 : Int)], [(3 : Int), (3 : Int)]] : List (List Int))) && ((Nat.beq q_t138 16) && (impl_PackedBoard_l5 F sum0 t1510 out12).isSome)))) (impl_PackedBoard_o5 ((impl_PackedBoard_l5 F sum0 t1510 out12).getD default)) .fail
  | _, _, _, _ => .fail⟩
theorem impl_PackedBoard_step5 (F : Nat) (sum0 : Int) (t1510 : Int) (out12 : List Int) {R : Type} (k : Out → Option R) : stepS tt (impl_PackedBoard_tab F) (impl_PackedBoard_LS0 F) 70 (impl_PackedBoard_ls5 F) (loopAt 5 (bodyOf Try.f44)) (impl_PackedBoard_st5 sum0 t1510 out12) k = impl_PackedBoard_s5 F R (sum0, t1510, out12) (fun s => k (.norm (impl_PackedBoard_st5 s.1 s.2.1 s.2.2))) (fun x => (impl_PackedBoard_o5 x).run k) := by kernel_rfl
theorem impl_PackedBoard_iter5 (F : Nat) {R : Type} (k : Out → Option R) : ∀ (n : Nat) (sum0 : Int) (t1510 : Int) (out12 : List Int), iterS tt (impl_PackedBoard_tab F) (impl_PackedBoard_LS0 F) 70 (impl_PackedBoard_ls5 F) (loopAt 5 (bodyOf Try.f44)) n (impl_PackedBoard_st5 sum0 t1510 out12) k = loopC (impl_PackedBoard_s5 F) n (sum0, t1510, out12) (fun x => (impl_PackedBoard_o5 x).run k)
  | 0, sum0, t1510, out12 => rfl
  | n + 1, sum0, t1510, out12 => (iterS_succ tt (impl_PackedBoard_tab F) (impl_PackedBoard_LS0 F) 70 (impl_PackedBoard_ls5 F) (loopAt 5 (bodyOf Try.f44)) n (impl_PackedBoard_st5 sum0 t1510 out12) k).trans ((impl_PackedBoard_step5 F sum0 t1510 out12 (nextK (iterS tt (impl_PackedBoard_tab F) (impl_PackedBoard_LS0 F) 70 (impl_PackedBoard_ls5 F) (loopAt 5 (bodyOf Try.f44)) n) k)).trans (congrArg (fun kn => impl_PackedBoard_s5 F R (sum0, t1510, out12) kn _) (funext (fun ⟨sum0, t1510, out12⟩ => impl_PackedBoard_iter5 F k n sum0 t1510 out12))))
theorem impl_PackedBoard_lok5 (F : Nat) : LoopOK Try.prog (loopAt 5 (bodyOf Try.f44)) (impl_PackedBoard_ls5 F) := by
  refine loopOK_of mixed ttok deep (impl_PackedBoard_tabok F) (loopsOK_at (impl_PackedBoard_lsok0 F) 5) (fuel := 70) fun R vals mem np killed k x h => ?_
  simp only [impl_PackedBoard_ls5] at h
  split at h
  · rename_i sum0 q_t138 q_t149 t1510 q_t211 out12 q_t1313
    simp only [GT.run] at h
    have hc := (cond_noneL h).1
    replace h := (cond_noneL h).2
    have hg := (and_split hc).1
    replace hc := (and_split hc).2
    obtain rfl := beq_int hg
    have hg := (and_split hc).1
    replace hc := (and_split hc).2
    obtain rfl := beq_li hg
    have hg := (and_split hc).1
    replace hc := (and_split hc).2
    obtain rfl := beq_lli hg
    have hg := (and_split hc).1
    replace hc := (and_split hc).2
    obtain rfl := nbeq_nat hg
    refine ⟨F, (impl_PackedBoard_iter5 F k F sum0 t1510 out12).trans ((loopC_use (impl_PackedBoard_s5_nat F) hc _).trans h)⟩
  · simp only [GT.run] at h
    cases h
noncomputable def impl_PackedBoard_LS1 (F : Nat) : LT := (5, impl_PackedBoard_ls5 F) :: impl_PackedBoard_LS0 F
theorem impl_PackedBoard_lsok1 (F : Nat) : LoopsOK Try.prog (impl_PackedBoard_LS1 F) (bodyOf Try.f44) := loopsOK_cons impl_PackedBoard_keys (impl_PackedBoard_lok5 F) (impl_PackedBoard_lsok0 F)
theorem impl_PackedBoard_run (F : Nat) (sum0 : Int) : runS tt (impl_PackedBoard_tab F) (impl_PackedBoard_LS1 F) [] [] Try.f44 (bodyOf Try.f44) 70 [(.int .i64 sum0)] [] = impl_PackedBoard_c _ F sum0 (fun r => some ⟨(.tup [(.ints 16 r.1), (.bool r.2)]), [], []⟩) := by kernel_rfl
def impl_PackedBoard_ent (F : Nat) : Ent := ⟨[], .quiet, fun args mem => match args, mem with
  | [(.int .i64 sum0)], [] => some ((impl_PackedBoard_p F sum0).isSome, ⟨(.tup [(.ints 16 ((impl_PackedBoard_p F sum0).getD default).1), (.bool ((impl_PackedBoard_p F sum0).getD default).2)]), [], []⟩)
  | _, _ => none⟩
theorem impl_PackedBoard_fok : FunOK Try.prog 44 := funOK Try.func44 (by kernel_rfl) rfl
theorem impl_PackedBoard_meets (F : Nat) : Meets Try.prog 44 (impl_PackedBoard_ent F) := by
  refine meets_of_runS mixed ttok deep (impl_PackedBoard_tabok F) Try.func44 (body_some rfl) (impl_PackedBoard_lsok1 F) fun args mem hfit ret h => ?_
  clear hfit
  simp only [impl_PackedBoard_ent] at h
  split at h
  · rename_i sum0
    simp only [Option.some.injEq, Prod.mk.injEq] at h
    obtain ⟨hc, rfl⟩ := h
    exact ⟨[], [], 70, _, (impl_PackedBoard_run F sum0).trans ((impl_PackedBoard_cp _ F sum0 _).trans (bind_use hc _)), rfl, rfl, rfl⟩
  · cases h

/-! loop.example/g01194/laws.eqIntA4 -/
noncomputable def laws_eqIntA4_tab (F : Nat) : Tab := []
theorem laws_eqIntA4_tabok (F : Nat) : TabOK Try.prog (laws_eqIntA4_tab F) := tab_nil
noncomputable def laws_eqIntA4_LS0 (F : Nat) : LT := []
theorem laws_eqIntA4_lsok0 (F : Nat) : LoopsOK Try.prog (laws_eqIntA4_LS0 F) (bodyOf Try.f102) := loopsOK_nil
theorem laws_eqIntA4_keys : keysOK (bodyOf Try.f102) = true := by kernel_rfl
def laws_eqIntA4_st2 (a7 : List Int) (b8 : List Int) (i6 : Int) : St := ⟨expand 17 0 [2, 3, 5] [(.ptr 0 0 0 4), (.ptr 1 0 0 4), (.int .i64 i6)], [(.var 4 (.ri .i64 a7)), (.var 4 (.ri .i64 b8))], 0, []⟩
def laws_eqIntA4_o2 (a7 : List Int) (b8 : List Int) (x : Bool) : GT := (.br x (.out (.ret ⟨expand 17 0 [4] [(.bool false)], [], 0, []⟩)) (.out (.exit 0 ⟨expand 17 0 [] [], [], 0, []⟩)))
def laws_eqIntA4_ls2 (F : Nat) : LoopS := ⟨17, [2, 3, 5], [], [], [], [4], [], [], fun vals mem np killed => match vals, mem, np, killed with
  | [(.ptr 0 0 0 4), (.ptr 1 0 0 4), (.int .i64 i6)], [(.var 4 (.ri .i64 a7)), (.var 4 (.ri .i64 b8))], 0, [] => .br (laws_eqIntA4_l2 F a7 b8 i6).isSome (laws_eqIntA4_o2 a7 b8 ((laws_eqIntA4_l2 F a7 b8 i6).getD default)) .fail
  | _, _, _, _ => .fail⟩
theorem laws_eqIntA4_step2 (F : Nat) (a7 : List Int) (b8 : List Int) (i6 : Int) {R : Type} (k : Out → Option R) : stepS tt (laws_eqIntA4_tab F) (laws_eqIntA4_LS0 F) 70 (laws_eqIntA4_ls2 F) (loopAt 2 (bodyOf Try.f102)) (laws_eqIntA4_st2 a7 b8 i6) k = laws_eqIntA4_s2 F a7 b8 R i6 (fun s => k (.norm (laws_eqIntA4_st2 a7 b8 s))) (fun x => (laws_eqIntA4_o2 a7 b8 x).run k) := by kernel_rfl
theorem laws_eqIntA4_iter2 (F : Nat) (a7 : List Int) (b8 : List Int) {R : Type} (k : Out → Option R) : ∀ (n : Nat) (i6 : Int), iterS tt (laws_eqIntA4_tab F) (laws_eqIntA4_LS0 F) 70 (laws_eqIntA4_ls2 F) (loopAt 2 (bodyOf Try.f102)) n (laws_eqIntA4_st2 a7 b8 i6) k = loopC (laws_eqIntA4_s2 F a7 b8) n i6 (fun x => (laws_eqIntA4_o2 a7 b8 x).run k)
  | 0, i6 => rfl
  | n + 1, i6 => (iterS_succ tt (laws_eqIntA4_tab F) (laws_eqIntA4_LS0 F) 70 (laws_eqIntA4_ls2 F) (loopAt 2 (bodyOf Try.f102)) n (laws_eqIntA4_st2 a7 b8 i6) k).trans ((laws_eqIntA4_step2 F a7 b8 i6 (nextK (iterS tt (laws_eqIntA4_tab F) (laws_eqIntA4_LS0 F) 70 (laws_eqIntA4_ls2 F) (loopAt 2 (bodyOf Try.f102)) n) k)).trans (congrArg (fun kn => laws_eqIntA4_s2 F a7 b8 R i6 kn _) (funext (fun i6 => laws_eqIntA4_iter2 F a7 b8 k n i6))))
theorem laws_eqIntA4_lok2 (F : Nat) : LoopOK Try.prog (loopAt 2 (bodyOf Try.f102)) (laws_eqIntA4_ls2 F) := by
  refine loopOK_of mixed ttok deep (laws_eqIntA4_tabok F) (loopsOK_at (laws_eqIntA4_lsok0 F) 2) (fuel := 70) fun R vals mem np killed k x h => ?_
  simp only [laws_eqIntA4_ls2] at h
  split at h
  · rename_i i6 a7 b8
    simp only [GT.run] at h
    have hc := (cond_noneL h).1
    replace h := (cond_noneL h).2
    refine ⟨F, (laws_eqIntA4_iter2 F a7 b8 k F i6).trans ((loopC_use (laws_eqIntA4_s2_nat F a7 b8) hc _).trans h)⟩
  · simp only [GT.run] at h
    cases h
noncomputable def laws_eqIntA4_LS1 (F : Nat) : LT := (2, laws_eqIntA4_ls2 F) :: laws_eqIntA4_LS0 F
theorem laws_eqIntA4_lsok1 (F : Nat) : LoopsOK Try.prog (laws_eqIntA4_LS1 F) (bodyOf Try.f102) := loopsOK_cons laws_eqIntA4_keys (laws_eqIntA4_lok2 F) (laws_eqIntA4_lsok0 F)
theorem laws_eqIntA4_run (F : Nat) (a0 : List Int) (b1 : List Int) : runS tt (laws_eqIntA4_tab F) (laws_eqIntA4_LS1 F) [] [] Try.f102 (bodyOf Try.f102) 70 [(.ints 4 a0), (.ints 4 b1)] [] = laws_eqIntA4_c _ F a0 b1 (fun r => some ⟨(.bool r), [], []⟩) := by kernel_rfl
def laws_eqIntA4_ent (F : Nat) : Ent := ⟨[], .quiet, fun args mem => match args, mem with
  | [(.ints 4 a0), (.ints 4 b1)], [] => some ((laws_eqIntA4_p F a0 b1).isSome, ⟨(.bool ((laws_eqIntA4_p F a0 b1).getD default)), [], []⟩)
  | _, _ => none⟩
theorem laws_eqIntA4_fok : FunOK Try.prog 102 := funOK Try.func102 (by kernel_rfl) rfl
theorem laws_eqIntA4_meets (F : Nat) : Meets Try.prog 102 (laws_eqIntA4_ent F) := by
  refine meets_of_runS mixed ttok deep (laws_eqIntA4_tabok F) Try.func102 (body_some rfl) (laws_eqIntA4_lsok1 F) fun args mem hfit ret h => ?_
  clear hfit
  simp only [laws_eqIntA4_ent] at h
  split at h
  · rename_i a0 b1
    simp only [Option.some.injEq, Prod.mk.injEq] at h
    obtain ⟨hc, rfl⟩ := h
    exact ⟨[], [], 70, _, (laws_eqIntA4_run F a0 b1).trans ((laws_eqIntA4_cp _ F a0 b1 _).trans (bind_use hc _)), rfl, rfl, rfl⟩
  · cases h

/-! loop.example/g01194/laws.eqIntA4A4 -/
noncomputable def laws_eqIntA4A4_tab (F : Nat) : Tab := [(102, (laws_eqIntA4_ent F))]
theorem laws_eqIntA4A4_tabok (F : Nat) : TabOK Try.prog (laws_eqIntA4A4_tab F) := (tab_cons (laws_eqIntA4_meets F) laws_eqIntA4_fok tab_nil)
noncomputable def laws_eqIntA4A4_LS0 (F : Nat) : LT := []
theorem laws_eqIntA4A4_lsok0 (F : Nat) : LoopsOK Try.prog (laws_eqIntA4A4_LS0 F) (bodyOf Try.f72) := loopsOK_nil
theorem laws_eqIntA4A4_keys : keysOK (bodyOf Try.f72) = true := by kernel_rfl
def laws_eqIntA4A4_st2 (a7 : List Int) (b8 : List Int) (i6 : Int) : St := ⟨expand 18 0 [2, 3, 5] [(.ptr 0 0 0 16), (.ptr 1 0 0 16), (.int .i64 i6)], [(.var 16 (.ri .i64 a7)), (.var 16 (.ri .i64 b8))], 0, []⟩
def laws_eqIntA4A4_o2 (a7 : List Int) (b8 : List Int) (x : Bool) : GT := (.br x (.out (.ret ⟨expand 18 0 [4] [(.bool false)], [], 0, []⟩)) (.out (.exit 0 ⟨expand 18 0 [] [], [], 0, []⟩)))
def laws_eqIntA4A4_ls2 (F : Nat) : LoopS := ⟨18, [2, 3, 5], [], [], [], [4], [], [], fun vals mem np killed => match vals, mem, np, killed with
  | [(.ptr 0 0 0 16), (.ptr 1 0 0 16), (.int .i64 i6)], [(.var 16 (.ri .i64 a7)), (.var 16 (.ri .i64 b8))], 0, [] => .br (laws_eqIntA4A4_l2 F a7 b8 i6).isSome (laws_eqIntA4A4_o2 a7 b8 ((laws_eqIntA4A4_l2 F a7 b8 i6).getD default)) .fail
  | _, _, _, _ => .fail⟩
theorem laws_eqIntA4A4_step2 (F : Nat) (a7 : List Int) (b8 : List Int) (i6 : Int) {R : Type} (k : Out → Option R) : stepS tt (laws_eqIntA4A4_tab F) (laws_eqIntA4A4_LS0 F) 70 (laws_eqIntA4A4_ls2 F) (loopAt 2 (bodyOf Try.f72)) (laws_eqIntA4A4_st2 a7 b8 i6) k = laws_eqIntA4A4_s2 F a7 b8 R i6 (fun s => k (.norm (laws_eqIntA4A4_st2 a7 b8 s))) (fun x => (laws_eqIntA4A4_o2 a7 b8 x).run k) := by kernel_rfl
theorem laws_eqIntA4A4_iter2 (F : Nat) (a7 : List Int) (b8 : List Int) {R : Type} (k : Out → Option R) : ∀ (n : Nat) (i6 : Int), iterS tt (laws_eqIntA4A4_tab F) (laws_eqIntA4A4_LS0 F) 70 (laws_eqIntA4A4_ls2 F) (loopAt 2 (bodyOf Try.f72)) n (laws_eqIntA4A4_st2 a7 b8 i6) k = loopC (laws_eqIntA4A4_s2 F a7 b8) n i6 (fun x => (laws_eqIntA4A4_o2 a7 b8 x).run k)
  | 0, i6 => rfl
  | n + 1, i6 => (iterS_succ tt (laws_eqIntA4A4_tab F) (laws_eqIntA4A4_LS0 F) 70 (laws_eqIntA4A4_ls2 F) (loopAt 2 (bodyOf Try.f72)) n (laws_eqIntA4A4_st2 a7 b8 i6) k).trans ((laws_eqIntA4A4_step2 F a7 b8 i6 (nextK (iterS tt (laws_eqIntA4A4_tab F) (laws_eqIntA4A4_LS0 F) 70 (laws_eqIntA4A4_ls2 F) (loopAt 2 (bodyOf Try.f72)) n) k)).trans (congrArg (fun kn => laws_eqIntA4A4_s2 F a7 b8 R i6 kn _) (funext (fun i6 => laws_eqIntA4A4_iter2 F a7 b8 k n i6))))
theorem laws_eqIntA4A4_lok2 (F : Nat) : LoopOK Try.prog (loopAt 2 (bodyOf Try.f72)) (laws_eqIntA4A4_ls2 F) := by
  refine loopOK_of mixed ttok deep (laws_eqIntA4A4_tabok F) (loopsOK_at (laws_eqIntA4A4_lsok0 F) 2) (fuel := 70) fun R vals mem np killed k x h => ?_
  simp only [laws_eqIntA4A4_ls2] at h
  split at h
  · rename_i i6 a7 b8
    simp only [GT.run] at h
    have hc := (cond_noneL h).1
    replace h := (cond_noneL h).2
    refine ⟨F, (laws_eqIntA4A4_iter2 F a7 b8 k F i6).trans ((loopC_use (laws_eqIntA4A4_s2_nat F a7 b8) hc _).trans h)⟩
  · simp only [GT.run] at h
    cases h
noncomputable def laws_eqIntA4A4_LS1 (F : Nat) : LT := (2, laws_eqIntA4A4_ls2 F) :: laws_eqIntA4A4_LS0 F
theorem laws_eqIntA4A4_lsok1 (F : Nat) : LoopsOK Try.prog (laws_eqIntA4A4_LS1 F) (bodyOf Try.f72) := loopsOK_cons laws_eqIntA4A4_keys (laws_eqIntA4A4_lok2 F) (laws_eqIntA4A4_lsok0 F)
theorem laws_eqIntA4A4_run (F : Nat) (a0 : List Int) (b1 : List Int) : runS tt (laws_eqIntA4A4_tab F) (laws_eqIntA4A4_LS1 F) [] [] Try.f72 (bodyOf Try.f72) 70 [(.ints 16 a0), (.ints 16 b1)] [] = laws_eqIntA4A4_c _ F a0 b1 (fun r => some ⟨(.bool r), [], []⟩) := by kernel_rfl
def laws_eqIntA4A4_ent (F : Nat) : Ent := ⟨[], .quiet, fun args mem => match args, mem with
  | [(.ints 16 a0), (.ints 16 b1)], [] => some ((laws_eqIntA4A4_p F a0 b1).isSome, ⟨(.bool ((laws_eqIntA4A4_p F a0 b1).getD default)), [], []⟩)
  | _, _ => none⟩
theorem laws_eqIntA4A4_fok : FunOK Try.prog 72 := funOK Try.func72 (by kernel_rfl) rfl
theorem laws_eqIntA4A4_meets (F : Nat) : Meets Try.prog 72 (laws_eqIntA4A4_ent F) := by
  refine meets_of_runS mixed ttok deep (laws_eqIntA4A4_tabok F) Try.func72 (body_some rfl) (laws_eqIntA4A4_lsok1 F) fun args mem hfit ret h => ?_
  clear hfit
  simp only [laws_eqIntA4A4_ent] at h
  split at h
  · rename_i a0 b1
    simp only [Option.some.injEq, Prod.mk.injEq] at h
    obtain ⟨hc, rfl⟩ := h
    exact ⟨[], [], 70, _, (laws_eqIntA4A4_run F a0 b1).trans ((laws_eqIntA4A4_cp _ F a0 b1 _).trans (bind_use hc _)), rfl, rfl, rfl⟩
  · cases h

/-! loop.example/g01194/laws.eqBoard -/
noncomputable def laws_eqBoard_tab (F : Nat) : Tab := [(72, (laws_eqIntA4A4_ent F))]
theorem laws_eqBoard_tabok (F : Nat) : TabOK Try.prog (laws_eqBoard_tab F) := (tab_cons (laws_eqIntA4A4_meets F) laws_eqIntA4A4_fok tab_nil)
noncomputable def laws_eqBoard_LS0 (F : Nat) : LT := []
theorem laws_eqBoard_lsok0 (F : Nat) : LoopsOK Try.prog (laws_eqBoard_LS0 F) (bodyOf Try.f30) := loopsOK_nil
theorem laws_eqBoard_run (F : Nat) (a0 : List Int) (b1 : List Int) : runS tt (laws_eqBoard_tab F) (laws_eqBoard_LS0 F) [] [] Try.f30 (bodyOf Try.f30) 70 [(.ints 16 a0), (.ints 16 b1)] [] = laws_eqBoard_c _ F a0 b1 (fun r => some ⟨(.bool r), [], []⟩) := by kernel_rfl
def laws_eqBoard_ent (F : Nat) : Ent := ⟨[], .quiet, fun args mem => match args, mem with
  | [(.ints 16 a0), (.ints 16 b1)], [] => some ((laws_eqBoard_p F a0 b1).isSome, ⟨(.bool ((laws_eqBoard_p F a0 b1).getD default)), [], []⟩)
  | _, _ => none⟩
theorem laws_eqBoard_fok : FunOK Try.prog 30 := funOK Try.func30 (by kernel_rfl) rfl
theorem laws_eqBoard_meets (F : Nat) : Meets Try.prog 30 (laws_eqBoard_ent F) := by
  refine meets_of_runS mixed ttok deep (laws_eqBoard_tabok F) Try.func30 (body_some rfl) (laws_eqBoard_lsok0 F) fun args mem hfit ret h => ?_
  clear hfit
  simp only [laws_eqBoard_ent] at h
  split at h
  · rename_i a0 b1
    simp only [Option.some.injEq, Prod.mk.injEq] at h
    obtain ⟨hc, rfl⟩ := h
    exact ⟨[], [], 70, _, (laws_eqBoard_run F a0 b1).trans ((laws_eqBoard_cp _ F a0 b1 _).trans (bind_use hc _)), rfl, rfl, rfl⟩
  · cases h
end Go.Proofs.Ytmdicfifhppjaaa
