/-
Pure functions and what the code of them does, by program; without conditions.
-/
import Derived.Test.YtmdicfifhppjaaaTAP0
import Derived.Test.YtmdicfifhppjaaaTAA
namespace Go.Proofs.Ytmdicfifhppjaaa
open Go Go.Lv Go.Lv.P Go.Proofs
set_option linter.unusedVariables false
set_option linter.unusedSimpArgs false
set_option maxRecDepth 100000
/-! loop.example/g01194/spec.l1In -/
noncomputable def spec_l1In_tab (F : Nat) : Tab := []
theorem spec_l1In_tabok (F : Nat) : TabOK Try.prog (spec_l1In_tab F) := tab_nil
noncomputable def spec_l1In_LS0 (F : Nat) : LT := []
theorem spec_l1In_lsok0 (F : Nat) : LoopsOK Try.prog (spec_l1In_LS0 F) (bodyOf Try.f52) := loopsOK_nil
theorem spec_l1In_run (F : Nat) (x0 : Int) (a1 : Int) (b2 : Int) : runS tt (spec_l1In_tab F) (spec_l1In_LS0 F) [] [] Try.f52 (bodyOf Try.f52) 70 [(.int .i64 x0), (.int .i64 a1), (.int .i64 b2)] [] = spec_l1In_c _ x0 a1 b2 (fun r => some ⟨(.bool r), [], []⟩) := by kernel_rfl
def spec_l1In_ent (F : Nat) : Ent := ⟨[], .quiet, fun args mem => match args, mem with
  | [(.int .i64 x0), (.int .i64 a1), (.int .i64 b2)], [] => some (true, ⟨(.bool (spec_l1In_v x0 a1 b2)), [], []⟩)
  | _, _ => none⟩
theorem spec_l1In_fok : FunOK Try.prog 52 := funOK Try.func52 (by kernel_rfl) rfl
theorem spec_l1In_meets (F : Nat) : Meets Try.prog 52 (spec_l1In_ent F) := by
  refine meets_of_runS mixed ttok deep (spec_l1In_tabok F) Try.func52 (body_some rfl) (spec_l1In_lsok0 F) fun args mem hfit ret h => ?_
  clear hfit
  simp only [spec_l1In_ent] at h
  split at h
  · rename_i x0 a1 b2
    simp only [Option.some.injEq, Prod.mk.injEq] at h
    obtain ⟨hc, rfl⟩ := h
    exact ⟨[], [], 70, _, (spec_l1In_run F x0 a1 b2).trans (spec_l1In_cv _ x0 a1 b2 _), rfl, rfl, rfl⟩
  · cases h

/-! loop.example/g01194/spec.l2Worth -/
noncomputable def spec_l2Worth_tab (F : Nat) : Tab := []
theorem spec_l2Worth_tabok (F : Nat) : TabOK Try.prog (spec_l2Worth_tab F) := tab_nil
noncomputable def spec_l2Worth_LS0 (F : Nat) : LT := []
theorem spec_l2Worth_lsok0 (F : Nat) : LoopsOK Try.prog (spec_l2Worth_LS0 F) (bodyOf Try.f90) := loopsOK_nil
theorem spec_l2Worth_run (F : Nat) (t0 : Int) : runS tt (spec_l2Worth_tab F) (spec_l2Worth_LS0 F) [] [] Try.f90 (bodyOf Try.f90) 70 [(.int .i64 t0)] [] = spec_l2Worth_c _ t0 (fun r => some ⟨(.int .i64 r), [], []⟩) := by kernel_rfl
def spec_l2Worth_ent (F : Nat) : Ent := ⟨[], .quiet, fun args mem => match args, mem with
  | [(.int .i64 t0)], [] => some ((spec_l2Worth_p t0).isSome, ⟨(.int .i64 ((spec_l2Worth_p t0).getD default)), [], []⟩)
  | _, _ => none⟩
theorem spec_l2Worth_fok : FunOK Try.prog 90 := funOK Try.func90 (by kernel_rfl) rfl
theorem spec_l2Worth_meets (F : Nat) : Meets Try.prog 90 (spec_l2Worth_ent F) := by
  refine meets_of_runS mixed ttok deep (spec_l2Worth_tabok F) Try.func90 (body_some rfl) (spec_l2Worth_lsok0 F) fun args mem hfit ret h => ?_
  clear hfit
  simp only [spec_l2Worth_ent] at h
  split at h
  · rename_i t0
    simp only [Option.some.injEq, Prod.mk.injEq] at h
    obtain ⟨hc, rfl⟩ := h
    exact ⟨[], [], 70, _, (spec_l2Worth_run F t0).trans ((spec_l2Worth_cp _ t0 _).trans (bind_use hc _)), rfl, rfl, rfl⟩
  · cases h

/-! loop.example/g01194/spec.l7Least -/
noncomputable def spec_l7Least_tab (F : Nat) : Tab := [(90, (spec_l2Worth_ent F))]
theorem spec_l7Least_tabok (F : Nat) : TabOK Try.prog (spec_l7Least_tab F) := (tab_cons (spec_l2Worth_meets F) spec_l2Worth_fok tab_nil)
noncomputable def spec_l7Least_LS0 (F : Nat) : LT := []
theorem spec_l7Least_lsok0 (F : Nat) : LoopsOK Try.prog (spec_l7Least_LS0 F) (bodyOf Try.f53) := loopsOK_nil
theorem spec_l7Least_keys : keysOK (bodyOf Try.f53) = true := by kernel_rfl
def spec_l7Least_st5 (t3 : Int) (sum0 : Int) (out4 : List Int) : St := ⟨expand 23 0 [0, 3, 4] [(.int .i64 sum0), (.sl 0 0 (List.length out4)), (.int .i64 t3)], [(.vec 3 (.ri .i64 out4))], 0, []⟩
def spec_l7Least_o5 (t3 : Int) (x : Int × List Int) : GT := (.out (.exit 2 ⟨expand 23 0 [0, 3, 4] [(.int .i64 x.1), (.sl 0 0 (List.length x.2)), (.int .i64 t3)], [(.vec 3 (.ri .i64 x.2))], 0, []⟩))
def spec_l7Least_ls5 (F : Nat) : LoopS := ⟨23, [0, 3, 4], [], [0, 3, 4], [], [2], [], [], fun vals mem np killed => match vals, mem, np, killed with
  | [(.int .i64 sum0), (.sl 0 0 q_out2), (.int .i64 t3)], [(.vec 3 (.ri .i64 out4))], 0, [] => .br ((Nat.beq q_out2 (List.length out4)) && (spec_l7Least_l5 F t3 sum0 out4).isSome) (spec_l7Least_o5 t3 ((spec_l7Least_l5 F t3 sum0 out4).getD default)) .fail
  | _, _, _, _ => .fail⟩
theorem spec_l7Least_step5 (F : Nat) (t3 : Int) (sum0 : Int) (out4 : List Int) {R : Type} (k : Out → Option R) : stepS tt (spec_l7Least_tab F) (spec_l7Least_LS0 F) 70 (spec_l7Least_ls5 F) (loopAt 5 (bodyOf Try.f53)) (spec_l7Least_st5 t3 sum0 out4) k = spec_l7Least_s5 F t3 R (sum0, out4) (fun s => k (.norm (spec_l7Least_st5 t3 s.1 s.2))) (fun x => (spec_l7Least_o5 t3 x).run k) := by kernel_rfl
theorem spec_l7Least_iter5 (F : Nat) (t3 : Int) {R : Type} (k : Out → Option R) : ∀ (n : Nat) (sum0 : Int) (out4 : List Int), iterS tt (spec_l7Least_tab F) (spec_l7Least_LS0 F) 70 (spec_l7Least_ls5 F) (loopAt 5 (bodyOf Try.f53)) n (spec_l7Least_st5 t3 sum0 out4) k = loopC (spec_l7Least_s5 F t3) n (sum0, out4) (fun x => (spec_l7Least_o5 t3 x).run k)
  | 0, sum0, out4 => rfl
  | n + 1, sum0, out4 => (iterS_succ tt (spec_l7Least_tab F) (spec_l7Least_LS0 F) 70 (spec_l7Least_ls5 F) (loopAt 5 (bodyOf Try.f53)) n (spec_l7Least_st5 t3 sum0 out4) k).trans ((spec_l7Least_step5 F t3 sum0 out4 (nextK (iterS tt (spec_l7Least_tab F) (spec_l7Least_LS0 F) 70 (spec_l7Least_ls5 F) (loopAt 5 (bodyOf Try.f53)) n) k)).trans (congrArg (fun kn => spec_l7Least_s5 F t3 R (sum0, out4) kn _) (funext (fun ⟨sum0, out4⟩ => spec_l7Least_iter5 F t3 k n sum0 out4))))
theorem spec_l7Least_lok5 (F : Nat) : LoopOK Try.prog (loopAt 5 (bodyOf Try.f53)) (spec_l7Least_ls5 F) := by
  refine loopOK_of mixed ttok deep (spec_l7Least_tabok F) (loopsOK_at (spec_l7Least_lsok0 F) 5) (fuel := 70) fun R vals mem np killed k x h => ?_
  simp only [spec_l7Least_ls5] at h
  split at h
  · rename_i sum0 q_out2 t3 out4
    simp only [GT.run] at h
    have hc := (cond_noneL h).1
    replace h := (cond_noneL h).2
    have hg := (and_split hc).1
    replace hc := (and_split hc).2
    obtain rfl := nbeq_nat hg
    refine ⟨F, (spec_l7Least_iter5 F t3 k F sum0 out4).trans ((loopC_use (spec_l7Least_s5_nat F t3) hc _).trans h)⟩
  · simp only [GT.run] at h
    cases h
noncomputable def spec_l7Least_LS1 (F : Nat) : LT := (5, spec_l7Least_ls5 F) :: spec_l7Least_LS0 F
theorem spec_l7Least_lsok1 (F : Nat) : LoopsOK Try.prog (spec_l7Least_LS1 F) (bodyOf Try.f53) := loopsOK_cons spec_l7Least_keys (spec_l7Least_lok5 F) (spec_l7Least_lsok0 F)
def spec_l7Least_st3 (sum0 : Int) (t3 : Int) (out4 : List Int) : St := ⟨expand 23 0 [0, 3, 4] [(.int .i64 sum0), (.sl 0 0 (List.length out4)), (.int .i64 t3)], [(.vec 3 (.ri .i64 out4))], 0, []⟩
def spec_l7Least_o3 (x : List Int) : GT := (.out (.exit 0 ⟨expand 23 0 [3] [(.sl 0 0 (List.length x))], [(.vec 3 (.ri .i64 x))], 0, []⟩))
def spec_l7Least_ls3 (F : Nat) : LoopS := ⟨23, [0, 3, 4], [], [3], [], [2], [], [], fun vals mem np killed => match vals, mem, np, killed with
  | [(.int .i64 sum0), (.sl 0 0 q_out2), (.int .i64 t3)], [(.vec 3 (.ri .i64 out4))], 0, [] => .br ((Nat.beq q_out2 (List.length out4)) && (spec_l7Least_l3 F sum0 t3 out4).isSome) (spec_l7Least_o3 ((spec_l7Least_l3 F sum0 t3 out4).getD default)) .fail
  | _, _, _, _ => .fail⟩
theorem spec_l7Least_step3 (F : Nat) (sum0 : Int) (t3 : Int) (out4 : List Int) {R : Type} (k : Out → Option R) : stepS tt (spec_l7Least_tab F) (spec_l7Least_LS1 F) 70 (spec_l7Least_ls3 F) (loopAt 3 (bodyOf Try.f53)) (spec_l7Least_st3 sum0 t3 out4) k = spec_l7Least_s3 F R (sum0, t3, out4) (fun s => k (.norm (spec_l7Least_st3 s.1 s.2.1 s.2.2))) (fun x => (spec_l7Least_o3 x).run k) := by kernel_rfl
theorem spec_l7Least_iter3 (F : Nat) {R : Type} (k : Out → Option R) : ∀ (n : Nat) (sum0 : Int) (t3 : Int) (out4 : List Int), iterS tt (spec_l7Least_tab F) (spec_l7Least_LS1 F) 70 (spec_l7Least_ls3 F) (loopAt 3 (bodyOf Try.f53)) n (spec_l7Least_st3 sum0 t3 out4) k = loopC (spec_l7Least_s3 F) n (sum0, t3, out4) (fun x => (spec_l7Least_o3 x).run k)
  | 0, sum0, t3, out4 => rfl
  | n + 1, sum0, t3, out4 => (iterS_succ tt (spec_l7Least_tab F) (spec_l7Least_LS1 F) 70 (spec_l7Least_ls3 F) (loopAt 3 (bodyOf Try.f53)) n (spec_l7Least_st3 sum0 t3 out4) k).trans ((spec_l7Least_step3 F sum0 t3 out4 (nextK (iterS tt (spec_l7Least_tab F) (spec_l7Least_LS1 F) 70 (spec_l7Least_ls3 F) (loopAt 3 (bodyOf Try.f53)) n) k)).trans (congrArg (fun kn => spec_l7Least_s3 F R (sum0, t3, out4) kn _) (funext (fun ⟨sum0, t3, out4⟩ => spec_l7Least_iter3 F k n sum0 t3 out4))))
theorem spec_l7Least_lok3 (F : Nat) : LoopOK Try.prog (loopAt 3 (bodyOf Try.f53)) (spec_l7Least_ls3 F) := by
  refine loopOK_of mixed ttok deep (spec_l7Least_tabok F) (loopsOK_at (spec_l7Least_lsok1 F) 3) (fuel := 70) fun R vals mem np killed k x h => ?_
  simp only [spec_l7Least_ls3] at h
  split at h
  · rename_i sum0 q_out2 t3 out4
    simp only [GT.run] at h
    have hc := (cond_noneL h).1
    replace h := (cond_noneL h).2
    have hg := (and_split hc).1
    replace hc := (and_split hc).2
    obtain rfl := nbeq_nat hg
    refine ⟨F, (spec_l7Least_iter3 F k F sum0 t3 out4).trans ((loopC_use (spec_l7Least_s3_nat F) hc _).trans h)⟩
  · simp only [GT.run] at h
    cases h
noncomputable def spec_l7Least_LS2 (F : Nat) : LT := (3, spec_l7Least_ls3 F) :: spec_l7Least_LS1 F
theorem spec_l7Least_lsok2 (F : Nat) : LoopsOK Try.prog (spec_l7Least_LS2 F) (bodyOf Try.f53) := loopsOK_cons spec_l7Least_keys (spec_l7Least_lok3 F) (spec_l7Least_lsok1 F)
theorem spec_l7Least_run (F : Nat) (sum0 : Int) : runS tt (spec_l7Least_tab F) (spec_l7Least_LS2 F) [] [] Try.f53 (bodyOf Try.f53) 70 [(.int .i64 sum0)] [] = spec_l7Least_c _ F sum0 (fun r => some ⟨(.sl 0 0 (List.length r)), [(.vec 3 (.ri .i64 r))], []⟩) := by kernel_rfl
def spec_l7Least_ent (F : Nat) : Ent := ⟨[], .fresh, fun args mem => match args, mem with
  | [(.int .i64 sum0)], [] => some ((spec_l7Least_p F sum0).isSome, ⟨(.sl 0 0 (List.length ((spec_l7Least_p F sum0).getD default))), [(.vec 3 (.ri .i64 ((spec_l7Least_p F sum0).getD default)))], []⟩)
  | _, _ => none⟩
theorem spec_l7Least_fok : FunOK Try.prog 53 := funOK Try.func53 (by kernel_rfl) rfl
theorem spec_l7Least_meets (F : Nat) : Meets Try.prog 53 (spec_l7Least_ent F) := by
  refine meets_of_runS mixed ttok deep (spec_l7Least_tabok F) Try.func53 (body_some rfl) (spec_l7Least_lsok2 F) fun args mem hfit ret h => ?_
  clear hfit
  simp only [spec_l7Least_ent] at h
  split at h
  · rename_i sum0
    simp only [Option.some.injEq, Prod.mk.injEq] at h
    obtain ⟨hc, rfl⟩ := h
    exact ⟨[], [], 70, _, (spec_l7Least_run F sum0).trans ((spec_l7Least_cp _ F sum0 _).trans (bind_use hc _)), rfl, rfl, rfl⟩
  · cases h

/-! loop.example/g01194/spec.IsPossible -/
noncomputable def spec_IsPossible_tab (F : Nat) : Tab := [(52, (spec_l1In_ent F)), (53, (spec_l7Least_ent F))]
theorem spec_IsPossible_tabok (F : Nat) : TabOK Try.prog (spec_IsPossible_tab F) := (tab_cons (spec_l1In_meets F) spec_l1In_fok (tab_cons (spec_l7Least_meets F) spec_l7Least_fok tab_nil))
noncomputable def spec_IsPossible_LS0 (F : Nat) : LT := []
theorem spec_IsPossible_lsok0 (F : Nat) : LoopsOK Try.prog (spec_IsPossible_LS0 F) (bodyOf Try.f16) := loopsOK_nil
theorem spec_IsPossible_run (F : Nat) (sum0 : Int) (many1 : Int) : runS tt (spec_IsPossible_tab F) (spec_IsPossible_LS0 F) [] [] Try.f16 (bodyOf Try.f16) 70 [(.int .i64 sum0), (.int .i64 many1)] [] = spec_IsPossible_c _ F sum0 many1 (fun r => some ⟨(.tup [(.bool r.1), (.bool r.2)]), [], []⟩) := by kernel_rfl
def spec_IsPossible_ent (F : Nat) : Ent := ⟨[], .quiet, fun args mem => match args, mem with
  | [(.int .i64 sum0), (.int .i64 many1)], [] => some ((spec_IsPossible_p F sum0 many1).isSome, ⟨(.tup [(.bool ((spec_IsPossible_p F sum0 many1).getD default).1), (.bool ((spec_IsPossible_p F sum0 many1).getD default).2)]), [], []⟩)
  | _, _ => none⟩
theorem spec_IsPossible_fok : FunOK Try.prog 16 := funOK Try.func16 (by kernel_rfl) rfl
theorem spec_IsPossible_meets (F : Nat) : Meets Try.prog 16 (spec_IsPossible_ent F) := by
  refine meets_of_runS mixed ttok deep (spec_IsPossible_tabok F) Try.func16 (body_some rfl) (spec_IsPossible_lsok0 F) fun args mem hfit ret h => ?_
  clear hfit
  simp only [spec_IsPossible_ent] at h
  split at h
  · rename_i sum0 many1
    simp only [Option.some.injEq, Prod.mk.injEq] at h
    obtain ⟨hc, rfl⟩ := h
    exact ⟨[], [], 70, _, (spec_IsPossible_run F sum0 many1).trans ((spec_IsPossible_cp _ F sum0 many1 _).trans (bind_use hc _)), rfl, rfl, rfl⟩
  · cases h

/-! loop.example/g01194/impl.in -/
noncomputable def impl_in_tab (F : Nat) : Tab := []
theorem impl_in_tabok (F : Nat) : TabOK Try.prog (impl_in_tab F) := tab_nil
noncomputable def impl_in_LS0 (F : Nat) : LT := []
theorem impl_in_lsok0 (F : Nat) : LoopsOK Try.prog (impl_in_LS0 F) (bodyOf Try.f55) := loopsOK_nil
theorem impl_in_run (F : Nat) (n0 : Int) (low1 : Int) (high2 : Int) : runS tt (impl_in_tab F) (impl_in_LS0 F) [] [] Try.f55 (bodyOf Try.f55) 70 [(.int .i64 n0), (.int .i64 low1), (.int .i64 high2)] [] = impl_in_c _ n0 low1 high2 (fun r => some ⟨(.bool r), [], []⟩) := by kernel_rfl
def impl_in_ent (F : Nat) : Ent := ⟨[], .quiet, fun args mem => match args, mem with
  | [(.int .i64 n0), (.int .i64 low1), (.int .i64 high2)], [] => some (true, ⟨(.bool (impl_in_v n0 low1 high2)), [], []⟩)
  | _, _ => none⟩
theorem impl_in_fok : FunOK Try.prog 55 := funOK Try.func55 (by kernel_rfl) rfl
theorem impl_in_meets (F : Nat) : Meets Try.prog 55 (impl_in_ent F) := by
  refine meets_of_runS mixed ttok deep (impl_in_tabok F) Try.func55 (body_some rfl) (impl_in_lsok0 F) fun args mem hfit ret h => ?_
  clear hfit
  simp only [impl_in_ent] at h
  split at h
  · rename_i n0 low1 high2
    simp only [Option.some.injEq, Prod.mk.injEq] at h
    obtain ⟨hc, rfl⟩ := h
    exact ⟨[], [], 70, _, (impl_in_run F n0 low1 high2).trans (impl_in_cv _ n0 low1 high2 _), rfl, rfl, rfl⟩
  · cases h

/-! loop.example/g01194/impl.isSum -/
noncomputable def impl_isSum_tab (F : Nat) : Tab := [(55, (impl_in_ent F))]
theorem impl_isSum_tabok (F : Nat) : TabOK Try.prog (impl_isSum_tab F) := (tab_cons (impl_in_meets F) impl_in_fok tab_nil)
noncomputable def impl_isSum_LS0 (F : Nat) : LT := []
theorem impl_isSum_lsok0 (F : Nat) : LoopsOK Try.prog (impl_isSum_LS0 F) (bodyOf Try.f54) := loopsOK_nil
theorem impl_isSum_run (F : Nat) (sum0 : Int) : runS tt (impl_isSum_tab F) (impl_isSum_LS0 F) [] [] Try.f54 (bodyOf Try.f54) 70 [(.int .i64 sum0)] [] = impl_isSum_c _ sum0 (fun r => some ⟨(.bool r), [], []⟩) := by kernel_rfl
def impl_isSum_ent (F : Nat) : Ent := ⟨[], .quiet, fun args mem => match args, mem with
  | [(.int .i64 sum0)], [] => some (true, ⟨(.bool (impl_isSum_v sum0)), [], []⟩)
  | _, _ => none⟩
theorem impl_isSum_fok : FunOK Try.prog 54 := funOK Try.func54 (by kernel_rfl) rfl
theorem impl_isSum_meets (F : Nat) : Meets Try.prog 54 (impl_isSum_ent F) := by
  refine meets_of_runS mixed ttok deep (impl_isSum_tabok F) Try.func54 (body_some rfl) (impl_isSum_lsok0 F) fun args mem hfit ret h => ?_
  clear hfit
  simp only [impl_isSum_ent] at h
  split at h
  · rename_i sum0
    simp only [Option.some.injEq, Prod.mk.injEq] at h
    obtain ⟨hc, rfl⟩ := h
    exact ⟨[], [], 70, _, (impl_isSum_run F sum0).trans (impl_isSum_cv _ sum0 _), rfl, rfl, rfl⟩
  · cases h

/-! math/bits.OnesCount64 -/
noncomputable def math_bits_OnesCount64_tab (F : Nat) : Tab := []
theorem math_bits_OnesCount64_tabok (F : Nat) : TabOK Try.prog (math_bits_OnesCount64_tab F) := tab_nil
noncomputable def math_bits_OnesCount64_LS0 (F : Nat) : LT := []
theorem math_bits_OnesCount64_lsok0 (F : Nat) : LoopsOK Try.prog (math_bits_OnesCount64_LS0 F) (bodyOf Try.f112) := loopsOK_nil
theorem math_bits_OnesCount64_run (F : Nat) (x0 : Int) : runS tt (math_bits_OnesCount64_tab F) (math_bits_OnesCount64_LS0 F) [] [] Try.f112 (bodyOf Try.f112) 70 [(.int .u64 x0)] [] = math_bits_OnesCount64_c _ x0 (fun r => some ⟨(.int .i64 r), [], []⟩) := by kernel_rfl
def math_bits_OnesCount64_ent (F : Nat) : Ent := ⟨[], .quiet, fun args mem => match args, mem with
  | [(.int .u64 x0)], [] => some (true, ⟨(.int .i64 (math_bits_OnesCount64_v x0)), [], []⟩)
  | _, _ => none⟩
theorem math_bits_OnesCount64_fok : FunOK Try.prog 112 := funOK Try.func112 (by kernel_rfl) rfl
theorem math_bits_OnesCount64_meets (F : Nat) : Meets Try.prog 112 (math_bits_OnesCount64_ent F) := by
  refine meets_of_runS mixed ttok deep (math_bits_OnesCount64_tabok F) Try.func112 (body_some rfl) (math_bits_OnesCount64_lsok0 F) fun args mem hfit ret h => ?_
  clear hfit
  simp only [math_bits_OnesCount64_ent] at h
  split at h
  · rename_i x0
    simp only [Option.some.injEq, Prod.mk.injEq] at h
    obtain ⟨hc, rfl⟩ := h
    exact ⟨[], [], 70, _, (math_bits_OnesCount64_run F x0).trans (math_bits_OnesCount64_cv _ x0 _), rfl, rfl, rfl⟩
  · cases h

/-! math/bits.OnesCount -/
noncomputable def math_bits_OnesCount_tab (F : Nat) : Tab := [(112, (math_bits_OnesCount64_ent F))]
theorem math_bits_OnesCount_tabok (F : Nat) : TabOK Try.prog (math_bits_OnesCount_tab F) := (tab_cons (math_bits_OnesCount64_meets F) math_bits_OnesCount64_fok tab_nil)
noncomputable def math_bits_OnesCount_LS0 (F : Nat) : LT := []
theorem math_bits_OnesCount_lsok0 (F : Nat) : LoopsOK Try.prog (math_bits_OnesCount_LS0 F) (bodyOf Try.f91) := loopsOK_nil
theorem math_bits_OnesCount_run (F : Nat) (x0 : Int) : runS tt (math_bits_OnesCount_tab F) (math_bits_OnesCount_LS0 F) [] [] Try.f91 (bodyOf Try.f91) 70 [(.int .u64 x0)] [] = math_bits_OnesCount_c _ x0 (fun r => some ⟨(.int .i64 r), [], []⟩) := by kernel_rfl
def math_bits_OnesCount_ent (F : Nat) : Ent := ⟨[], .quiet, fun args mem => match args, mem with
  | [(.int .u64 x0)], [] => some (true, ⟨(.int .i64 (math_bits_OnesCount_v x0)), [], []⟩)
  | _, _ => none⟩
theorem math_bits_OnesCount_fok : FunOK Try.prog 91 := funOK Try.func91 (by kernel_rfl) rfl
theorem math_bits_OnesCount_meets (F : Nat) : Meets Try.prog 91 (math_bits_OnesCount_ent F) := by
  refine meets_of_runS mixed ttok deep (math_bits_OnesCount_tabok F) Try.func91 (body_some rfl) (math_bits_OnesCount_lsok0 F) fun args mem hfit ret h => ?_
  clear hfit
  simp only [math_bits_OnesCount_ent] at h
  split at h
  · rename_i x0
    simp only [Option.some.injEq, Prod.mk.injEq] at h
    obtain ⟨hc, rfl⟩ := h
    exact ⟨[], [], 70, _, (math_bits_OnesCount_run F x0).trans (math_bits_OnesCount_cv _ x0 _), rfl, rfl, rfl⟩
  · cases h

/-! loop.example/g01194/impl.leastTiles -/
noncomputable def impl_leastTiles_tab (F : Nat) : Tab := [(91, (math_bits_OnesCount_ent F))]
theorem impl_leastTiles_tabok (F : Nat) : TabOK Try.prog (impl_leastTiles_tab F) := (tab_cons (math_bits_OnesCount_meets F) math_bits_OnesCount_fok tab_nil)
noncomputable def impl_leastTiles_LS0 (F : Nat) : LT := []
theorem impl_leastTiles_lsok0 (F : Nat) : LoopsOK Try.prog (impl_leastTiles_LS0 F) (bodyOf Try.f56) := loopsOK_nil
theorem impl_leastTiles_run (F : Nat) (sum0 : Int) : runS tt (impl_leastTiles_tab F) (impl_leastTiles_LS0 F) [] [] Try.f56 (bodyOf Try.f56) 70 [(.int .i64 sum0)] [] = impl_leastTiles_c _ sum0 (fun r => some ⟨(.int .i64 r), [], []⟩) := by kernel_rfl
def impl_leastTiles_ent (F : Nat) : Ent := ⟨[], .quiet, fun args mem => match args, mem with
  | [(.int .i64 sum0)], [] => some (true, ⟨(.int .i64 (impl_leastTiles_v sum0)), [], []⟩)
  | _, _ => none⟩
theorem impl_leastTiles_fok : FunOK Try.prog 56 := funOK Try.func56 (by kernel_rfl) rfl
theorem impl_leastTiles_meets (F : Nat) : Meets Try.prog 56 (impl_leastTiles_ent F) := by
  refine meets_of_runS mixed ttok deep (impl_leastTiles_tabok F) Try.func56 (body_some rfl) (impl_leastTiles_lsok0 F) fun args mem hfit ret h => ?_
  clear hfit
  simp only [impl_leastTiles_ent] at h
  split at h
  · rename_i sum0
    simp only [Option.some.injEq, Prod.mk.injEq] at h
    obtain ⟨hc, rfl⟩ := h
    exact ⟨[], [], 70, _, (impl_leastTiles_run F sum0).trans (impl_leastTiles_cv _ sum0 _), rfl, rfl, rfl⟩
  · cases h

/-! loop.example/g01194/impl.IsPossible -/
noncomputable def impl_IsPossible_tab (F : Nat) : Tab := [(54, (impl_isSum_ent F)), (55, (impl_in_ent F)), (56, (impl_leastTiles_ent F))]
theorem impl_IsPossible_tabok (F : Nat) : TabOK Try.prog (impl_IsPossible_tab F) := (tab_cons (impl_isSum_meets F) impl_isSum_fok (tab_cons (impl_in_meets F) impl_in_fok (tab_cons (impl_leastTiles_meets F) impl_leastTiles_fok tab_nil)))
noncomputable def impl_IsPossible_LS0 (F : Nat) : LT := []
theorem impl_IsPossible_lsok0 (F : Nat) : LoopsOK Try.prog (impl_IsPossible_LS0 F) (bodyOf Try.f17) := loopsOK_nil
theorem impl_IsPossible_run (F : Nat) (sum0 : Int) (many1 : Int) : runS tt (impl_IsPossible_tab F) (impl_IsPossible_LS0 F) [] [] Try.f17 (bodyOf Try.f17) 70 [(.int .i64 sum0), (.int .i64 many1)] [] = impl_IsPossible_c _ sum0 many1 (fun r => some ⟨(.tup [(.bool r.1), (.bool r.2)]), [], []⟩) := by kernel_rfl
def impl_IsPossible_ent (F : Nat) : Ent := ⟨[], .quiet, fun args mem => match args, mem with
  | [(.int .i64 sum0), (.int .i64 many1)], [] => some (true, ⟨(.tup [(.bool (impl_IsPossible_v sum0 many1).1), (.bool (impl_IsPossible_v sum0 many1).2)]), [], []⟩)
  | _, _ => none⟩
theorem impl_IsPossible_fok : FunOK Try.prog 17 := funOK Try.func17 (by kernel_rfl) rfl
theorem impl_IsPossible_meets (F : Nat) : Meets Try.prog 17 (impl_IsPossible_ent F) := by
  refine meets_of_runS mixed ttok deep (impl_IsPossible_tabok F) Try.func17 (body_some rfl) (impl_IsPossible_lsok0 F) fun args mem hfit ret h => ?_
  clear hfit
  simp only [impl_IsPossible_ent] at h
  split at h
  · rename_i sum0 many1
    simp only [Option.some.injEq, Prod.mk.injEq] at h
    obtain ⟨hc, rfl⟩ := h
    exact ⟨[], [], 70, _, (impl_IsPossible_run F sum0 many1).trans (impl_IsPossible_cv _ sum0 many1 _), rfl, rfl, rfl⟩
  · cases h

/-! loop.example/g01194/laws.FnExactIsPossible -/
noncomputable def laws_FnExactIsPossible_tab (F : Nat) : Tab := [(16, (spec_IsPossible_ent F)), (17, (impl_IsPossible_ent F))]
theorem laws_FnExactIsPossible_tabok (F : Nat) : TabOK Try.prog (laws_FnExactIsPossible_tab F) := (tab_cons (spec_IsPossible_meets F) spec_IsPossible_fok (tab_cons (impl_IsPossible_meets F) impl_IsPossible_fok tab_nil))
noncomputable def laws_FnExactIsPossible_LS0 (F : Nat) : LT := []
theorem laws_FnExactIsPossible_lsok0 (F : Nat) : LoopsOK Try.prog (laws_FnExactIsPossible_LS0 F) (bodyOf Try.f3) := loopsOK_nil
theorem laws_FnExactIsPossible_run (F : Nat) (aSum0 : Int) (aMany1 : Int) : runS tt (laws_FnExactIsPossible_tab F) (laws_FnExactIsPossible_LS0 F) [] [] Try.f3 (bodyOf Try.f3) 70 [(.int .i64 aSum0), (.int .i64 aMany1)] [] = laws_FnExactIsPossible_c _ F aSum0 aMany1 (fun r => some ⟨(.bool r), [], []⟩) := by kernel_rfl
def laws_FnExactIsPossible_ent (F : Nat) : Ent := ⟨[], .quiet, fun args mem => match args, mem with
  | [(.int .i64 aSum0), (.int .i64 aMany1)], [] => some ((laws_FnExactIsPossible_p F aSum0 aMany1).isSome, ⟨(.bool ((laws_FnExactIsPossible_p F aSum0 aMany1).getD default)), [], []⟩)
  | _, _ => none⟩
theorem laws_FnExactIsPossible_fok : FunOK Try.prog 3 := funOK Try.func3 (by kernel_rfl) rfl
theorem laws_FnExactIsPossible_meets (F : Nat) : Meets Try.prog 3 (laws_FnExactIsPossible_ent F) := by
  refine meets_of_runS mixed ttok deep (laws_FnExactIsPossible_tabok F) Try.func3 (body_some rfl) (laws_FnExactIsPossible_lsok0 F) fun args mem hfit ret h => ?_
  clear hfit
  simp only [laws_FnExactIsPossible_ent] at h
  split at h
  · rename_i aSum0 aMany1
    simp only [Option.some.injEq, Prod.mk.injEq] at h
    obtain ⟨hc, rfl⟩ := h
    exact ⟨[], [], 70, _, (laws_FnExactIsPossible_run F aSum0 aMany1).trans ((laws_FnExactIsPossible_cp _ F aSum0 aMany1 _).trans (bind_use hc _)), rfl, rfl, rfl⟩
  · cases h

/-! loop.example/g01194/spec.l7Sum -/
noncomputable def spec_l7Sum_tab (F : Nat) : Tab := [(52, (spec_l1In_ent F)), (53, (spec_l7Least_ent F))]
theorem spec_l7Sum_tabok (F : Nat) : TabOK Try.prog (spec_l7Sum_tab F) := (tab_cons (spec_l1In_meets F) spec_l1In_fok (tab_cons (spec_l7Least_meets F) spec_l7Least_fok tab_nil))
noncomputable def spec_l7Sum_LS0 (F : Nat) : LT := []
theorem spec_l7Sum_lsok0 (F : Nat) : LoopsOK Try.prog (spec_l7Sum_LS0 F) (bodyOf Try.f57) := loopsOK_nil
theorem spec_l7Sum_run (F : Nat) (sum0 : Int) : runS tt (spec_l7Sum_tab F) (spec_l7Sum_LS0 F) [] [] Try.f57 (bodyOf Try.f57) 70 [(.int .i64 sum0)] [] = spec_l7Sum_c _ F sum0 (fun r => some ⟨(.bool r), [], []⟩) := by kernel_rfl
def spec_l7Sum_ent (F : Nat) : Ent := ⟨[], .quiet, fun args mem => match args, mem with
  | [(.int .i64 sum0)], [] => some ((spec_l7Sum_p F sum0).isSome, ⟨(.bool ((spec_l7Sum_p F sum0).getD default)), [], []⟩)
  | _, _ => none⟩
theorem spec_l7Sum_fok : FunOK Try.prog 57 := funOK Try.func57 (by kernel_rfl) rfl
theorem spec_l7Sum_meets (F : Nat) : Meets Try.prog 57 (spec_l7Sum_ent F) := by
  refine meets_of_runS mixed ttok deep (spec_l7Sum_tabok F) Try.func57 (body_some rfl) (spec_l7Sum_lsok0 F) fun args mem hfit ret h => ?_
  clear hfit
  simp only [spec_l7Sum_ent] at h
  split at h
  · rename_i sum0
    simp only [Option.some.injEq, Prod.mk.injEq] at h
    obtain ⟨hc, rfl⟩ := h
    exact ⟨[], [], 70, _, (spec_l7Sum_run F sum0).trans ((spec_l7Sum_cp _ F sum0 _).trans (bind_use hc _)), rfl, rfl, rfl⟩
  · cases h

/-! loop.example/g01194/spec.LeastTiles -/
noncomputable def spec_LeastTiles_tab (F : Nat) : Tab := [(57, (spec_l7Sum_ent F)), (53, (spec_l7Least_ent F))]
theorem spec_LeastTiles_tabok (F : Nat) : TabOK Try.prog (spec_LeastTiles_tab F) := (tab_cons (spec_l7Sum_meets F) spec_l7Sum_fok (tab_cons (spec_l7Least_meets F) spec_l7Least_fok tab_nil))
noncomputable def spec_LeastTiles_LS0 (F : Nat) : LT := []
theorem spec_LeastTiles_lsok0 (F : Nat) : LoopsOK Try.prog (spec_LeastTiles_LS0 F) (bodyOf Try.f18) := loopsOK_nil
theorem spec_LeastTiles_run (F : Nat) (sum0 : Int) : runS tt (spec_LeastTiles_tab F) (spec_LeastTiles_LS0 F) [] [] Try.f18 (bodyOf Try.f18) 70 [(.int .i64 sum0)] [] = spec_LeastTiles_c _ F sum0 (fun r => some ⟨(.tup [(.int .i64 r.1), (.bool r.2)]), [], []⟩) := by kernel_rfl
def spec_LeastTiles_ent (F : Nat) : Ent := ⟨[], .quiet, fun args mem => match args, mem with
  | [(.int .i64 sum0)], [] => some ((spec_LeastTiles_p F sum0).isSome, ⟨(.tup [(.int .i64 ((spec_LeastTiles_p F sum0).getD default).1), (.bool ((spec_LeastTiles_p F sum0).getD default).2)]), [], []⟩)
  | _, _ => none⟩
theorem spec_LeastTiles_fok : FunOK Try.prog 18 := funOK Try.func18 (by kernel_rfl) rfl
theorem spec_LeastTiles_meets (F : Nat) : Meets Try.prog 18 (spec_LeastTiles_ent F) := by
  refine meets_of_runS mixed ttok deep (spec_LeastTiles_tabok F) Try.func18 (body_some rfl) (spec_LeastTiles_lsok0 F) fun args mem hfit ret h => ?_
  clear hfit
  simp only [spec_LeastTiles_ent] at h
  split at h
  · rename_i sum0
    simp only [Option.some.injEq, Prod.mk.injEq] at h
    obtain ⟨hc, rfl⟩ := h
    exact ⟨[], [], 70, _, (spec_LeastTiles_run F sum0).trans ((spec_LeastTiles_cp _ F sum0 _).trans (bind_use hc _)), rfl, rfl, rfl⟩
  · cases h

/-! loop.example/g01194/impl.isFor -/
noncomputable def impl_isFor_tab (F : Nat) : Tab := [(54, (impl_isSum_ent F)), (56, (impl_leastTiles_ent F))]
theorem impl_isFor_tabok (F : Nat) : TabOK Try.prog (impl_isFor_tab F) := (tab_cons (impl_isSum_meets F) impl_isSum_fok (tab_cons (impl_leastTiles_meets F) impl_leastTiles_fok tab_nil))
noncomputable def impl_isFor_LS0 (F : Nat) : LT := []
theorem impl_isFor_lsok0 (F : Nat) : LoopsOK Try.prog (impl_isFor_LS0 F) (bodyOf Try.f58) := loopsOK_nil
theorem impl_isFor_run (F : Nat) (sum0 : Int) : runS tt (impl_isFor_tab F) (impl_isFor_LS0 F) [] [] Try.f58 (bodyOf Try.f58) 70 [(.int .i64 sum0)] [] = impl_isFor_c _ sum0 (fun r => some ⟨(.bool r), [], []⟩) := by kernel_rfl
def impl_isFor_ent (F : Nat) : Ent := ⟨[], .quiet, fun args mem => match args, mem with
  | [(.int .i64 sum0)], [] => some (true, ⟨(.bool (impl_isFor_v sum0)), [], []⟩)
  | _, _ => none⟩
theorem impl_isFor_fok : FunOK Try.prog 58 := funOK Try.func58 (by kernel_rfl) rfl
theorem impl_isFor_meets (F : Nat) : Meets Try.prog 58 (impl_isFor_ent F) := by
  refine meets_of_runS mixed ttok deep (impl_isFor_tabok F) Try.func58 (body_some rfl) (impl_isFor_lsok0 F) fun args mem hfit ret h => ?_
  clear hfit
  simp only [impl_isFor_ent] at h
  split at h
  · rename_i sum0
    simp only [Option.some.injEq, Prod.mk.injEq] at h
    obtain ⟨hc, rfl⟩ := h
    exact ⟨[], [], 70, _, (impl_isFor_run F sum0).trans (impl_isFor_cv _ sum0 _), rfl, rfl, rfl⟩
  · cases h

/-! loop.example/g01194/impl.LeastTiles -/
noncomputable def impl_LeastTiles_tab (F : Nat) : Tab := [(58, (impl_isFor_ent F)), (56, (impl_leastTiles_ent F))]
theorem impl_LeastTiles_tabok (F : Nat) : TabOK Try.prog (impl_LeastTiles_tab F) := (tab_cons (impl_isFor_meets F) impl_isFor_fok (tab_cons (impl_leastTiles_meets F) impl_leastTiles_fok tab_nil))
noncomputable def impl_LeastTiles_LS0 (F : Nat) : LT := []
theorem impl_LeastTiles_lsok0 (F : Nat) : LoopsOK Try.prog (impl_LeastTiles_LS0 F) (bodyOf Try.f19) := loopsOK_nil
theorem impl_LeastTiles_run (F : Nat) (sum0 : Int) : runS tt (impl_LeastTiles_tab F) (impl_LeastTiles_LS0 F) [] [] Try.f19 (bodyOf Try.f19) 70 [(.int .i64 sum0)] [] = impl_LeastTiles_c _ sum0 (fun r => some ⟨(.tup [(.int .i64 r.1), (.bool r.2)]), [], []⟩) := by kernel_rfl
def impl_LeastTiles_ent (F : Nat) : Ent := ⟨[], .quiet, fun args mem => match args, mem with
  | [(.int .i64 sum0)], [] => some (true, ⟨(.tup [(.int .i64 (impl_LeastTiles_v sum0).1), (.bool (impl_LeastTiles_v sum0).2)]), [], []⟩)
  | _, _ => none⟩
theorem impl_LeastTiles_fok : FunOK Try.prog 19 := funOK Try.func19 (by kernel_rfl) rfl
theorem impl_LeastTiles_meets (F : Nat) : Meets Try.prog 19 (impl_LeastTiles_ent F) := by
  refine meets_of_runS mixed ttok deep (impl_LeastTiles_tabok F) Try.func19 (body_some rfl) (impl_LeastTiles_lsok0 F) fun args mem hfit ret h => ?_
  clear hfit
  simp only [impl_LeastTiles_ent] at h
  split at h
  · rename_i sum0
    simp only [Option.some.injEq, Prod.mk.injEq] at h
    obtain ⟨hc, rfl⟩ := h
    exact ⟨[], [], 70, _, (impl_LeastTiles_run F sum0).trans (impl_LeastTiles_cv _ sum0 _), rfl, rfl, rfl⟩
  · cases h

/-! loop.example/g01194/laws.FnExactLeastTiles -/
noncomputable def laws_FnExactLeastTiles_tab (F : Nat) : Tab := [(18, (spec_LeastTiles_ent F)), (19, (impl_LeastTiles_ent F))]
theorem laws_FnExactLeastTiles_tabok (F : Nat) : TabOK Try.prog (laws_FnExactLeastTiles_tab F) := (tab_cons (spec_LeastTiles_meets F) spec_LeastTiles_fok (tab_cons (impl_LeastTiles_meets F) impl_LeastTiles_fok tab_nil))
noncomputable def laws_FnExactLeastTiles_LS0 (F : Nat) : LT := []
theorem laws_FnExactLeastTiles_lsok0 (F : Nat) : LoopsOK Try.prog (laws_FnExactLeastTiles_LS0 F) (bodyOf Try.f4) := loopsOK_nil
theorem laws_FnExactLeastTiles_run (F : Nat) (aSum0 : Int) : runS tt (laws_FnExactLeastTiles_tab F) (laws_FnExactLeastTiles_LS0 F) [] [] Try.f4 (bodyOf Try.f4) 70 [(.int .i64 aSum0)] [] = laws_FnExactLeastTiles_c _ F aSum0 (fun r => some ⟨(.bool r), [], []⟩) := by kernel_rfl
def laws_FnExactLeastTiles_ent (F : Nat) : Ent := ⟨[], .quiet, fun args mem => match args, mem with
  | [(.int .i64 aSum0)], [] => some ((laws_FnExactLeastTiles_p F aSum0).isSome, ⟨(.bool ((laws_FnExactLeastTiles_p F aSum0).getD default)), [], []⟩)
  | _, _ => none⟩
theorem laws_FnExactLeastTiles_fok : FunOK Try.prog 4 := funOK Try.func4 (by kernel_rfl) rfl
theorem laws_FnExactLeastTiles_meets (F : Nat) : Meets Try.prog 4 (laws_FnExactLeastTiles_ent F) := by
  refine meets_of_runS mixed ttok deep (laws_FnExactLeastTiles_tabok F) Try.func4 (body_some rfl) (laws_FnExactLeastTiles_lsok0 F) fun args mem hfit ret h => ?_
  clear hfit
  simp only [laws_FnExactLeastTiles_ent] at h
  split at h
  · rename_i aSum0
    simp only [Option.some.injEq, Prod.mk.injEq] at h
    obtain ⟨hc, rfl⟩ := h
    exact ⟨[], [], 70, _, (laws_FnExactLeastTiles_run F aSum0).trans ((laws_FnExactLeastTiles_cp _ F aSum0 _).trans (bind_use hc _)), rfl, rfl, rfl⟩
  · cases h

/-! loop.example/g01194/laws.toIntA4 -/
noncomputable def laws_toIntA4_tab (F : Nat) : Tab := []
theorem laws_toIntA4_tabok (F : Nat) : TabOK Try.prog (laws_toIntA4_tab F) := tab_nil
noncomputable def laws_toIntA4_LS0 (F : Nat) : LT := []
theorem laws_toIntA4_lsok0 (F : Nat) : LoopsOK Try.prog (laws_toIntA4_LS0 F) (bodyOf Try.f92) := loopsOK_nil
theorem laws_toIntA4_run (F : Nat) (a0 : List Int) : runS tt (laws_toIntA4_tab F) (laws_toIntA4_LS0 F) [] [] Try.f92 (bodyOf Try.f92) 70 [(.ints 4 a0)] [] = laws_toIntA4_c _ a0 (fun r => some ⟨(.ints 4 r), [], []⟩) := by kernel_rfl
def laws_toIntA4_ent (F : Nat) : Ent := ⟨[], .quiet, fun args mem => match args, mem with
  | [(.ints 4 a0)], [] => some (true, ⟨(.ints 4 (laws_toIntA4_v a0)), [], []⟩)
  | _, _ => none⟩
theorem laws_toIntA4_fok : FunOK Try.prog 92 := funOK Try.func92 (by kernel_rfl) rfl
theorem laws_toIntA4_meets (F : Nat) : Meets Try.prog 92 (laws_toIntA4_ent F) := by
  refine meets_of_runS mixed ttok deep (laws_toIntA4_tabok F) Try.func92 (body_some rfl) (laws_toIntA4_lsok0 F) fun args mem hfit ret h => ?_
  clear hfit
  simp only [laws_toIntA4_ent] at h
  split at h
  · rename_i a0
    simp only [Option.some.injEq, Prod.mk.injEq] at h
    obtain ⟨hc, rfl⟩ := h
    exact ⟨[], [], 70, _, (laws_toIntA4_run F a0).trans (laws_toIntA4_cv _ a0 _), rfl, rfl, rfl⟩
  · cases h

/-! loop.example/g01194/laws.toIntA4A4 -/
noncomputable def laws_toIntA4A4_tab (F : Nat) : Tab := [(92, (laws_toIntA4_ent F))]
theorem laws_toIntA4A4_tabok (F : Nat) : TabOK Try.prog (laws_toIntA4A4_tab F) := (tab_cons (laws_toIntA4_meets F) laws_toIntA4_fok tab_nil)
noncomputable def laws_toIntA4A4_LS0 (F : Nat) : LT := []
theorem laws_toIntA4A4_lsok0 (F : Nat) : LoopsOK Try.prog (laws_toIntA4A4_LS0 F) (bodyOf Try.f60) := loopsOK_nil
theorem laws_toIntA4A4_run (F : Nat) (a0 : List Int) : runS tt (laws_toIntA4A4_tab F) (laws_toIntA4A4_LS0 F) [] [] Try.f60 (bodyOf Try.f60) 70 [(.ints 16 a0)] [] = laws_toIntA4A4_c _ a0 (fun r => some ⟨(.ints 16 r), [], []⟩) := by kernel_rfl
def laws_toIntA4A4_ent (F : Nat) : Ent := ⟨[], .quiet, fun args mem => match args, mem with
  | [(.ints 16 a0)], [] => some (true, ⟨(.ints 16 (laws_toIntA4A4_v a0)), [], []⟩)
  | _, _ => none⟩
theorem laws_toIntA4A4_fok : FunOK Try.prog 60 := funOK Try.func60 (by kernel_rfl) rfl
theorem laws_toIntA4A4_meets (F : Nat) : Meets Try.prog 60 (laws_toIntA4A4_ent F) := by
  refine meets_of_runS mixed ttok deep (laws_toIntA4A4_tabok F) Try.func60 (body_some rfl) (laws_toIntA4A4_lsok0 F) fun args mem hfit ret h => ?_
  clear hfit
  simp only [laws_toIntA4A4_ent] at h
  split at h
  · rename_i a0
    simp only [Option.some.injEq, Prod.mk.injEq] at h
    obtain ⟨hc, rfl⟩ := h
    exact ⟨[], [], 70, _, (laws_toIntA4A4_run F a0).trans (laws_toIntA4A4_cv _ a0 _), rfl, rfl, rfl⟩
  · cases h

/-! loop.example/g01194/laws.toBoard -/
noncomputable def laws_toBoard_tab (F : Nat) : Tab := [(60, (laws_toIntA4A4_ent F))]
theorem laws_toBoard_tabok (F : Nat) : TabOK Try.prog (laws_toBoard_tab F) := (tab_cons (laws_toIntA4A4_meets F) laws_toIntA4A4_fok tab_nil)
noncomputable def laws_toBoard_LS0 (F : Nat) : LT := []
theorem laws_toBoard_lsok0 (F : Nat) : LoopsOK Try.prog (laws_toBoard_LS0 F) (bodyOf Try.f21) := loopsOK_nil
theorem laws_toBoard_run (F : Nat) (a0 : List Int) : runS tt (laws_toBoard_tab F) (laws_toBoard_LS0 F) [] [] Try.f21 (bodyOf Try.f21) 70 [(.ints 16 a0)] [] = laws_toBoard_c _ a0 (fun r => some ⟨(.ints 16 r), [], []⟩) := by kernel_rfl
def laws_toBoard_ent (F : Nat) : Ent := ⟨[], .quiet, fun args mem => match args, mem with
  | [(.ints 16 a0)], [] => some (true, ⟨(.ints 16 (laws_toBoard_v a0)), [], []⟩)
  | _, _ => none⟩
theorem laws_toBoard_fok : FunOK Try.prog 21 := funOK Try.func21 (by kernel_rfl) rfl
theorem laws_toBoard_meets (F : Nat) : Meets Try.prog 21 (laws_toBoard_ent F) := by
  refine meets_of_runS mixed ttok deep (laws_toBoard_tabok F) Try.func21 (body_some rfl) (laws_toBoard_lsok0 F) fun args mem hfit ret h => ?_
  clear hfit
  simp only [laws_toBoard_ent] at h
  split at h
  · rename_i a0
    simp only [Option.some.injEq, Prod.mk.injEq] at h
    obtain ⟨hc, rfl⟩ := h
    exact ⟨[], [], 70, _, (laws_toBoard_run F a0).trans (laws_toBoard_cv _ a0 _), rfl, rfl, rfl⟩
  · cases h

/-! loop.example/g01194/spec.l2Board -/
noncomputable def spec_l2Board_tab (F : Nat) : Tab := [(52, (spec_l1In_ent F))]
theorem spec_l2Board_tabok (F : Nat) : TabOK Try.prog (spec_l2Board_tab F) := (tab_cons (spec_l1In_meets F) spec_l1In_fok tab_nil)
noncomputable def spec_l2Board_LS0 (F : Nat) : LT := []
theorem spec_l2Board_lsok0 (F : Nat) : LoopsOK Try.prog (spec_l2Board_LS0 F) (bodyOf Try.f64) := loopsOK_nil
theorem spec_l2Board_keys : keysOK (bodyOf Try.f64) = true := by kernel_rfl
def spec_l2Board_st5 (r3 : Int) (b5 : List Int) (c4 : Int) : St := ⟨expand 21 0 [1, 3, 4] [(.ptr 0 0 0 16), (.int .i64 r3), (.int .i64 c4)], [(.var 16 (.ri .i64 b5))], 0, []⟩
def spec_l2Board_o5 (r3 : Int) (b5 : List Int) (x : Bool) : GT := (.br x (.out (.ret ⟨expand 21 0 [2] [(.bool false)], [], 0, []⟩)) (.out (.exit 2 ⟨expand 21 0 [1, 3] [(.ptr 0 0 0 16), (.int .i64 r3)], [(.var 16 (.ri .i64 b5))], 0, []⟩)))
def spec_l2Board_ls5 (F : Nat) : LoopS := ⟨21, [1, 3, 4], [], [1, 3], [], [2], [], [], fun vals mem np killed => match vals, mem, np, killed with
  | [(.ptr 0 0 0 16), (.int .i64 r3), (.int .i64 c4)], [(.var 16 (.ri .i64 b5))], 0, [] => .br (spec_l2Board_l5 F r3 b5 c4).isSome (spec_l2Board_o5 r3 b5 ((spec_l2Board_l5 F r3 b5 c4).getD default)) .fail
  | _, _, _, _ => .fail⟩
theorem spec_l2Board_step5 (F : Nat) (r3 : Int) (b5 : List Int) (c4 : Int) {R : Type} (k : Out → Option R) : stepS tt (spec_l2Board_tab F) (spec_l2Board_LS0 F) 70 (spec_l2Board_ls5 F) (loopAt 5 (bodyOf Try.f64)) (spec_l2Board_st5 r3 b5 c4) k = spec_l2Board_s5 F r3 b5 R c4 (fun s => k (.norm (spec_l2Board_st5 r3 b5 s))) (fun x => (spec_l2Board_o5 r3 b5 x).run k) := by kernel_rfl
theorem spec_l2Board_iter5 (F : Nat) (r3 : Int) (b5 : List Int) {R : Type} (k : Out → Option R) : ∀ (n : Nat) (c4 : Int), iterS tt (spec_l2Board_tab F) (spec_l2Board_LS0 F) 70 (spec_l2Board_ls5 F) (loopAt 5 (bodyOf Try.f64)) n (spec_l2Board_st5 r3 b5 c4) k = loopC (spec_l2Board_s5 F r3 b5) n c4 (fun x => (spec_l2Board_o5 r3 b5 x).run k)
  | 0, c4 => rfl
  | n + 1, c4 => (iterS_succ tt (spec_l2Board_tab F) (spec_l2Board_LS0 F) 70 (spec_l2Board_ls5 F) (loopAt 5 (bodyOf Try.f64)) n (spec_l2Board_st5 r3 b5 c4) k).trans ((spec_l2Board_step5 F r3 b5 c4 (nextK (iterS tt (spec_l2Board_tab F) (spec_l2Board_LS0 F) 70 (spec_l2Board_ls5 F) (loopAt 5 (bodyOf Try.f64)) n) k)).trans (congrArg (fun kn => spec_l2Board_s5 F r3 b5 R c4 kn _) (funext (fun c4 => spec_l2Board_iter5 F r3 b5 k n c4))))
theorem spec_l2Board_lok5 (F : Nat) : LoopOK Try.prog (loopAt 5 (bodyOf Try.f64)) (spec_l2Board_ls5 F) := by
  refine loopOK_of mixed ttok deep (spec_l2Board_tabok F) (loopsOK_at (spec_l2Board_lsok0 F) 5) (fuel := 70) fun R vals mem np killed k x h => ?_
  simp only [spec_l2Board_ls5] at h
  split at h
  · rename_i r3 c4 b5
    simp only [GT.run] at h
    have hc := (cond_noneL h).1
    replace h := (cond_noneL h).2
    refine ⟨F, (spec_l2Board_iter5 F r3 b5 k F c4).trans ((loopC_use (spec_l2Board_s5_nat F r3 b5) hc _).trans h)⟩
  · simp only [GT.run] at h
    cases h
noncomputable def spec_l2Board_LS1 (F : Nat) : LT := (5, spec_l2Board_ls5 F) :: spec_l2Board_LS0 F
theorem spec_l2Board_lsok1 (F : Nat) : LoopsOK Try.prog (spec_l2Board_LS1 F) (bodyOf Try.f64) := loopsOK_cons spec_l2Board_keys (spec_l2Board_lok5 F) (spec_l2Board_lsok0 F)
def spec_l2Board_st2 (b4 : List Int) (r3 : Int) : St := ⟨expand 21 0 [1, 3] [(.ptr 0 0 0 16), (.int .i64 r3)], [(.var 16 (.ri .i64 b4))], 0, []⟩
def spec_l2Board_o2 (b4 : List Int) (x : Bool) : GT := (.br x (.out (.ret ⟨expand 21 0 [2] [(.bool false)], [], 0, []⟩)) (.out (.exit 0 ⟨expand 21 0 [] [], [], 0, []⟩)))
def spec_l2Board_ls2 (F : Nat) : LoopS := ⟨21, [1, 3], [], [], [], [2], [], [], fun vals mem np killed => match vals, mem, np, killed with
  | [(.ptr 0 0 0 16), (.int .i64 r3)], [(.var 16 (.ri .i64 b4))], 0, [] => .br (spec_l2Board_l2 F b4 r3).isSome (spec_l2Board_o2 b4 ((spec_l2Board_l2 F b4 r3).getD default)) .fail
  | _, _, _, _ => .fail⟩
theorem spec_l2Board_step2 (F : Nat) (b4 : List Int) (r3 : Int) {R : Type} (k : Out → Option R) : stepS tt (spec_l2Board_tab F) (spec_l2Board_LS1 F) 70 (spec_l2Board_ls2 F) (loopAt 2 (bodyOf Try.f64)) (spec_l2Board_st2 b4 r3) k = spec_l2Board_s2 F b4 R r3 (fun s => k (.norm (spec_l2Board_st2 b4 s))) (fun x => (spec_l2Board_o2 b4 x).run k) := by kernel_rfl
theorem spec_l2Board_iter2 (F : Nat) (b4 : List Int) {R : Type} (k : Out → Option R) : ∀ (n : Nat) (r3 : Int), iterS tt (spec_l2Board_tab F) (spec_l2Board_LS1 F) 70 (spec_l2Board_ls2 F) (loopAt 2 (bodyOf Try.f64)) n (spec_l2Board_st2 b4 r3) k = loopC (spec_l2Board_s2 F b4) n r3 (fun x => (spec_l2Board_o2 b4 x).run k)
  | 0, r3 => rfl
  | n + 1, r3 => (iterS_succ tt (spec_l2Board_tab F) (spec_l2Board_LS1 F) 70 (spec_l2Board_ls2 F) (loopAt 2 (bodyOf Try.f64)) n (spec_l2Board_st2 b4 r3) k).trans ((spec_l2Board_step2 F b4 r3 (nextK (iterS tt (spec_l2Board_tab F) (spec_l2Board_LS1 F) 70 (spec_l2Board_ls2 F) (loopAt 2 (bodyOf Try.f64)) n) k)).trans (congrArg (fun kn => spec_l2Board_s2 F b4 R r3 kn _) (funext (fun r3 => spec_l2Board_iter2 F b4 k n r3))))
theorem spec_l2Board_lok2 (F : Nat) : LoopOK Try.prog (loopAt 2 (bodyOf Try.f64)) (spec_l2Board_ls2 F) := by
  refine loopOK_of mixed ttok deep (spec_l2Board_tabok F) (loopsOK_at (spec_l2Board_lsok1 F) 2) (fuel := 70) fun R vals mem np killed k x h => ?_
  simp only [spec_l2Board_ls2] at h
  split at h
  · rename_i r3 b4
    simp only [GT.run] at h
    have hc := (cond_noneL h).1
    replace h := (cond_noneL h).2
    refine ⟨F, (spec_l2Board_iter2 F b4 k F r3).trans ((loopC_use (spec_l2Board_s2_nat F b4) hc _).trans h)⟩
  · simp only [GT.run] at h
    cases h
noncomputable def spec_l2Board_LS2 (F : Nat) : LT := (2, spec_l2Board_ls2 F) :: spec_l2Board_LS1 F
theorem spec_l2Board_lsok2 (F : Nat) : LoopsOK Try.prog (spec_l2Board_LS2 F) (bodyOf Try.f64) := loopsOK_cons spec_l2Board_keys (spec_l2Board_lok2 F) (spec_l2Board_lsok1 F)
theorem spec_l2Board_run (F : Nat) (b0 : List Int) : runS tt (spec_l2Board_tab F) (spec_l2Board_LS2 F) [] [] Try.f64 (bodyOf Try.f64) 70 [(.ints 16 b0)] [] = spec_l2Board_c _ F b0 (fun r => some ⟨(.bool r), [], []⟩) := by kernel_rfl
def spec_l2Board_ent (F : Nat) : Ent := ⟨[], .quiet, fun args mem => match args, mem with
  | [(.ints 16 b0)], [] => some ((spec_l2Board_p F b0).isSome, ⟨(.bool ((spec_l2Board_p F b0).getD default)), [], []⟩)
  | _, _ => none⟩
theorem spec_l2Board_fok : FunOK Try.prog 64 := funOK Try.func64 (by kernel_rfl) rfl
theorem spec_l2Board_meets (F : Nat) : Meets Try.prog 64 (spec_l2Board_ent F) := by
  refine meets_of_runS mixed ttok deep (spec_l2Board_tabok F) Try.func64 (body_some rfl) (spec_l2Board_lsok2 F) fun args mem hfit ret h => ?_
  clear hfit
  simp only [spec_l2Board_ent] at h
  split at h
  · rename_i b0
    simp only [Option.some.injEq, Prod.mk.injEq] at h
    obtain ⟨hc, rfl⟩ := h
    exact ⟨[], [], 70, _, (spec_l2Board_run F b0).trans ((spec_l2Board_cp _ F b0 _).trans (bind_use hc _)), rfl, rfl, rfl⟩
  · cases h

/-! loop.example/g01194/spec.CountTiles -/
noncomputable def spec_CountTiles_tab (F : Nat) : Tab := [(64, (spec_l2Board_ent F))]
theorem spec_CountTiles_tabok (F : Nat) : TabOK Try.prog (spec_CountTiles_tab F) := (tab_cons (spec_l2Board_meets F) spec_l2Board_fok tab_nil)
noncomputable def spec_CountTiles_LS0 (F : Nat) : LT := []
theorem spec_CountTiles_lsok0 (F : Nat) : LoopsOK Try.prog (spec_CountTiles_LS0 F) (bodyOf Try.f59) := loopsOK_nil
theorem spec_CountTiles_keys : keysOK (bodyOf Try.f59) = true := by kernel_rfl
def spec_CountTiles_st5 (b10 : List Int) (r9 : Int) (out12 : List Int) : St := ⟨expand 31 0 [1, 2, 4, 5] [(.ptr 0 0 0 16), (.ptr 1 0 0 18), (.ptr 2 0 0 18), (.int .i64 r9)], [(.var 16 (.ri .i64 b10)), (.var 18 (.ri .i64 [(0 : Int), (0 : Int), (0 : Int), (0 : Int), (0 : Int), (0 : Int), (0 : Int), (0 : Int), (0 : Int), (0 : Int), (0 : Int), (0 : Int), (0 : Int), (0 : Int), (0 : Int), (0 : Int), (0 : Int), (0 : Int)])), (.var 18 (.ri .i64 out12))], 0, []⟩
def spec_CountTiles_o5 (b10 : List Int) (x : List Int) : GT := (.out (.exit 0 ⟨expand 31 0 [2, 4] [(.ptr 0 0 0 18), (.ptr 1 0 0 18)], [(.var 18 (.ri .i64 [(0 : Int), (0 : Int), (0 : Int), (0 : Int), (0 : Int), (0 : Int), (0 : Int), (0 : Int), (0 : Int), (0 : Int), (0 : Int), (0 : Int), (0 : Int), (0 : Int), (0 : Int), (0 : Int), (0 : Int), (0 : Int)])), (.var 18 (.ri .i64 x))], 0, []⟩))
def spec_CountTiles_ls5 (F : Nat) : LoopS := ⟨31, [1, 2, 4, 5], [], [2, 4], [], [2, 3], [], [], fun vals mem np killed => match vals, mem, np, killed with
  | [(.ptr 0 0 0 16), (.ptr 1 0 0 18), (.ptr 2 0 0 18), (.int .i64 r9)], [(.var 16 (.ri .i64 b10)), (.var 18 (.ri .i64 q_t211)), (.var 18 (.ri .i64 out12))], 0, [] => .br ((q_t211 == ([(0 : Int), (0 : Int), (0 : Int), (0 : Int), (0 : Int), (0 : Int), (0 : Int), (0 : Int), (0 : Int), (0 : Int), (0 : Int), (0 : Int), (0 : Int), (0 : Int), (0 : Int), (0 : Int), (0 : Int), (0 : Int)] : List Int)) && (spec_CountTiles_l5 F b10 r9 out12).isSome) (spec_CountTiles_o5 b10 ((spec_CountTiles_l5 F b10 r9 out12).getD default)) .fail
  | _, _, _, _ => .fail⟩
theorem spec_CountTiles_step5 (F : Nat) (b10 : List Int) (r9 : Int) (out12 : List Int) {R : Type} (k : Out → Option R) : stepS tt (spec_CountTiles_tab F) (spec_CountTiles_LS0 F) 70 (spec_CountTiles_ls5 F) (loopAt 5 (bodyOf Try.f59)) (spec_CountTiles_st5 b10 r9 out12) k = spec_CountTiles_s5 F b10 R (r9, out12) (fun s => k (.norm (spec_CountTiles_st5 b10 s.1 s.2))) (fun x => (spec_CountTiles_o5 b10 x).run k) := by kernel_rfl
theorem spec_CountTiles_iter5 (F : Nat) (b10 : List Int) {R : Type} (k : Out → Option R) : ∀ (n : Nat) (r9 : Int) (out12 : List Int), iterS tt (spec_CountTiles_tab F) (spec_CountTiles_LS0 F) 70 (spec_CountTiles_ls5 F) (loopAt 5 (bodyOf Try.f59)) n (spec_CountTiles_st5 b10 r9 out12) k = loopC (spec_CountTiles_s5 F b10) n (r9, out12) (fun x => (spec_CountTiles_o5 b10 x).run k)
  | 0, r9, out12 => rfl
  | n + 1, r9, out12 => (iterS_succ tt (spec_CountTiles_tab F) (spec_CountTiles_LS0 F) 70 (spec_CountTiles_ls5 F) (loopAt 5 (bodyOf Try.f59)) n (spec_CountTiles_st5 b10 r9 out12) k).trans ((spec_CountTiles_step5 F b10 r9 out12 (nextK (iterS tt (spec_CountTiles_tab F) (spec_CountTiles_LS0 F) 70 (spec_CountTiles_ls5 F) (loopAt 5 (bodyOf Try.f59)) n) k)).trans (congrArg (fun kn => spec_CountTiles_s5 F b10 R (r9, out12) kn _) (funext (fun ⟨r9, out12⟩ => spec_CountTiles_iter5 F b10 k n r9 out12))))
theorem spec_CountTiles_lok5 (F : Nat) : LoopOK Try.prog (loopAt 5 (bodyOf Try.f59)) (spec_CountTiles_ls5 F) := by
  refine loopOK_of mixed ttok deep (spec_CountTiles_tabok F) (loopsOK_at (spec_CountTiles_lsok0 F) 5) (fuel := 70) fun R vals mem np killed k x h => ?_
  simp only [spec_CountTiles_ls5] at h
  split at h
  · rename_i r9 b10 q_t211 out12
    simp only [GT.run] at h
    have hc := (cond_noneL h).1
    replace h := (cond_noneL h).2
    have hg := (and_split hc).1
    replace hc := (and_split hc).2
    obtain rfl := beq_li hg
    refine ⟨F, (spec_CountTiles_iter5 F b10 k F r9 out12).trans ((loopC_use (spec_CountTiles_s5_nat F b10) hc _).trans h)⟩
  · simp only [GT.run] at h
    cases h
noncomputable def spec_CountTiles_LS1 (F : Nat) : LT := (5, spec_CountTiles_ls5 F) :: spec_CountTiles_LS0 F
theorem spec_CountTiles_lsok1 (F : Nat) : LoopsOK Try.prog (spec_CountTiles_LS1 F) (bodyOf Try.f59) := loopsOK_cons spec_CountTiles_keys (spec_CountTiles_lok5 F) (spec_CountTiles_lsok0 F)
theorem spec_CountTiles_run (F : Nat) (b0 : List Int) : runS tt (spec_CountTiles_tab F) (spec_CountTiles_LS1 F) [] [] Try.f59 (bodyOf Try.f59) 70 [(.ints 16 b0)] [] = spec_CountTiles_c _ F b0 (fun r => some ⟨(.tup [(.ints 18 r.1), (.bool r.2)]), [], []⟩) := by kernel_rfl
def spec_CountTiles_ent (F : Nat) : Ent := ⟨[], .quiet, fun args mem => match args, mem with
  | [(.ints 16 b0)], [] => some ((spec_CountTiles_p F b0).isSome, ⟨(.tup [(.ints 18 ((spec_CountTiles_p F b0).getD default).1), (.bool ((spec_CountTiles_p F b0).getD default).2)]), [], []⟩)
  | _, _ => none⟩
theorem spec_CountTiles_fok : FunOK Try.prog 59 := funOK Try.func59 (by kernel_rfl) rfl
theorem spec_CountTiles_meets (F : Nat) : Meets Try.prog 59 (spec_CountTiles_ent F) := by
  refine meets_of_runS mixed ttok deep (spec_CountTiles_tabok F) Try.func59 (body_some rfl) (spec_CountTiles_lsok1 F) fun args mem hfit ret h => ?_
  clear hfit
  simp only [spec_CountTiles_ent] at h
  split at h
  · rename_i b0
    simp only [Option.some.injEq, Prod.mk.injEq] at h
    obtain ⟨hc, rfl⟩ := h
    exact ⟨[], [], 70, _, (spec_CountTiles_run F b0).trans ((spec_CountTiles_cp _ F b0 _).trans (bind_use hc _)), rfl, rfl, rfl⟩
  · cases h

/-! loop.example/g01194/spec.IsPackedBoard -/
noncomputable def spec_IsPackedBoard_tab (F : Nat) : Tab := [(59, (spec_CountTiles_ent F))]
theorem spec_IsPackedBoard_tabok (F : Nat) : TabOK Try.prog (spec_IsPackedBoard_tab F) := (tab_cons (spec_CountTiles_meets F) spec_CountTiles_fok tab_nil)
noncomputable def spec_IsPackedBoard_LS0 (F : Nat) : LT := []
theorem spec_IsPackedBoard_lsok0 (F : Nat) : LoopsOK Try.prog (spec_IsPackedBoard_LS0 F) (bodyOf Try.f20) := loopsOK_nil
theorem spec_IsPackedBoard_keys : keysOK (bodyOf Try.f20) = true := by kernel_rfl
def spec_IsPackedBoard_st3 (ok3 : Bool) (counts5 : List Int) (t4 : Int) : St := ⟨expand 22 0 [4, 5, 6] [(.ptr 0 0 0 18), (.bool ok3), (.int .i64 t4)], [(.var 18 (.ri .i64 counts5))], 0, []⟩
def spec_IsPackedBoard_o3 (ok3 : Bool) (counts5 : List Int) (x : Bool) : GT := (.br x (.out (.ret ⟨expand 22 0 [2, 3] [(.bool false), (.bool true)], [], 0, []⟩)) (.out (.exit 0 ⟨expand 22 0 [5] [(.bool ok3)], [], 0, []⟩)))
def spec_IsPackedBoard_ls3 (F : Nat) : LoopS := ⟨22, [4, 5, 6], [], [5], [], [2, 3], [], [], fun vals mem np killed => match vals, mem, np, killed with
  | [(.ptr 0 0 0 18), (.bool ok3), (.int .i64 t4)], [(.var 18 (.ri .i64 counts5))], 0, [] => .br (spec_IsPackedBoard_l3 F ok3 counts5 t4).isSome (spec_IsPackedBoard_o3 ok3 counts5 ((spec_IsPackedBoard_l3 F ok3 counts5 t4).getD default)) .fail
  | _, _, _, _ => .fail⟩
theorem spec_IsPackedBoard_step3 (F : Nat) (ok3 : Bool) (counts5 : List Int) (t4 : Int) {R : Type} (k : Out → Option R) : stepS tt (spec_IsPackedBoard_tab F) (spec_IsPackedBoard_LS0 F) 70 (spec_IsPackedBoard_ls3 F) (loopAt 3 (bodyOf Try.f20)) (spec_IsPackedBoard_st3 ok3 counts5 t4) k = spec_IsPackedBoard_s3 F ok3 counts5 R t4 (fun s => k (.norm (spec_IsPackedBoard_st3 ok3 counts5 s))) (fun x => (spec_IsPackedBoard_o3 ok3 counts5 x).run k) := by kernel_rfl
theorem spec_IsPackedBoard_iter3 (F : Nat) (ok3 : Bool) (counts5 : List Int) {R : Type} (k : Out → Option R) : ∀ (n : Nat) (t4 : Int), iterS tt (spec_IsPackedBoard_tab F) (spec_IsPackedBoard_LS0 F) 70 (spec_IsPackedBoard_ls3 F) (loopAt 3 (bodyOf Try.f20)) n (spec_IsPackedBoard_st3 ok3 counts5 t4) k = loopC (spec_IsPackedBoard_s3 F ok3 counts5) n t4 (fun x => (spec_IsPackedBoard_o3 ok3 counts5 x).run k)
  | 0, t4 => rfl
  | n + 1, t4 => (iterS_succ tt (spec_IsPackedBoard_tab F) (spec_IsPackedBoard_LS0 F) 70 (spec_IsPackedBoard_ls3 F) (loopAt 3 (bodyOf Try.f20)) n (spec_IsPackedBoard_st3 ok3 counts5 t4) k).trans ((spec_IsPackedBoard_step3 F ok3 counts5 t4 (nextK (iterS tt (spec_IsPackedBoard_tab F) (spec_IsPackedBoard_LS0 F) 70 (spec_IsPackedBoard_ls3 F) (loopAt 3 (bodyOf Try.f20)) n) k)).trans (congrArg (fun kn => spec_IsPackedBoard_s3 F ok3 counts5 R t4 kn _) (funext (fun t4 => spec_IsPackedBoard_iter3 F ok3 counts5 k n t4))))
theorem spec_IsPackedBoard_lok3 (F : Nat) : LoopOK Try.prog (loopAt 3 (bodyOf Try.f20)) (spec_IsPackedBoard_ls3 F) := by
  refine loopOK_of mixed ttok deep (spec_IsPackedBoard_tabok F) (loopsOK_at (spec_IsPackedBoard_lsok0 F) 3) (fuel := 70) fun R vals mem np killed k x h => ?_
  simp only [spec_IsPackedBoard_ls3] at h
  split at h
  · rename_i ok3 t4 counts5
    simp only [GT.run] at h
    have hc := (cond_noneL h).1
    replace h := (cond_noneL h).2
    refine ⟨F, (spec_IsPackedBoard_iter3 F ok3 counts5 k F t4).trans ((loopC_use (spec_IsPackedBoard_s3_nat F ok3 counts5) hc _).trans h)⟩
  · simp only [GT.run] at h
    cases h
noncomputable def spec_IsPackedBoard_LS1 (F : Nat) : LT := (3, spec_IsPackedBoard_ls3 F) :: spec_IsPackedBoard_LS0 F
theorem spec_IsPackedBoard_lsok1 (F : Nat) : LoopsOK Try.prog (spec_IsPackedBoard_LS1 F) (bodyOf Try.f20) := loopsOK_cons spec_IsPackedBoard_keys (spec_IsPackedBoard_lok3 F) (spec_IsPackedBoard_lsok0 F)
theorem spec_IsPackedBoard_run (F : Nat) (b0 : List Int) : runS tt (spec_IsPackedBoard_tab F) (spec_IsPackedBoard_LS1 F) [] [] Try.f20 (bodyOf Try.f20) 70 [(.ints 16 b0)] [] = spec_IsPackedBoard_c _ F b0 (fun r => some ⟨(.tup [(.bool r.1), (.bool r.2)]), [], []⟩) := by kernel_rfl
def spec_IsPackedBoard_ent (F : Nat) : Ent := ⟨[], .quiet, fun args mem => match args, mem with
  | [(.ints 16 b0)], [] => some ((spec_IsPackedBoard_p F b0).isSome, ⟨(.tup [(.bool ((spec_IsPackedBoard_p F b0).getD default).1), (.bool ((spec_IsPackedBoard_p F b0).getD default).2)]), [], []⟩)
  | _, _ => none⟩
theorem spec_IsPackedBoard_fok : FunOK Try.prog 20 := funOK Try.func20 (by kernel_rfl) rfl
theorem spec_IsPackedBoard_meets (F : Nat) : Meets Try.prog 20 (spec_IsPackedBoard_ent F) := by
  refine meets_of_runS mixed ttok deep (spec_IsPackedBoard_tabok F) Try.func20 (body_some rfl) (spec_IsPackedBoard_lsok1 F) fun args mem hfit ret h => ?_
  clear hfit
  simp only [spec_IsPackedBoard_ent] at h
  split at h
  · rename_i b0
    simp only [Option.some.injEq, Prod.mk.injEq] at h
    obtain ⟨hc, rfl⟩ := h
    exact ⟨[], [], 70, _, (spec_IsPackedBoard_run F b0).trans ((spec_IsPackedBoard_cp _ F b0 _).trans (bind_use hc _)), rfl, rfl, rfl⟩
  · cases h

/-! loop.example/g01194/impl.IsRow$1 -/
noncomputable def impl_IsRow_f1_tab (F : Nat) : Tab := [(55, (impl_in_ent F))]
theorem impl_IsRow_f1_tabok (F : Nat) : TabOK Try.prog (impl_IsRow_f1_tab F) := (tab_cons (impl_in_meets F) impl_in_fok tab_nil)
noncomputable def impl_IsRow_f1_LS0 (F : Nat) : LT := []
theorem impl_IsRow_f1_lsok0 (F : Nat) : LoopsOK Try.prog (impl_IsRow_f1_LS0 F) (bodyOf Try.f114) := loopsOK_nil
theorem impl_IsRow_f1_run (F : Nat) (n0 : Int) : runS tt (impl_IsRow_f1_tab F) (impl_IsRow_f1_LS0 F) [] [] Try.f114 (bodyOf Try.f114) 70 [(.int .i64 n0)] [] = impl_IsRow_f1_c _ n0 (fun r => some ⟨(.bool r), [], []⟩) := by kernel_rfl
def impl_IsRow_f1_ent (F : Nat) : Ent := ⟨[], .quiet, fun args mem => match args, mem with
  | [(.int .i64 n0)], [] => some (true, ⟨(.bool (impl_IsRow_f1_v n0)), [], []⟩)
  | _, _ => none⟩
theorem impl_IsRow_f1_fok : FunOK Try.prog 114 := funOK Try.func114 (by kernel_rfl) rfl
theorem impl_IsRow_f1_meets (F : Nat) : Meets Try.prog 114 (impl_IsRow_f1_ent F) := by
  refine meets_of_runS mixed ttok deep (impl_IsRow_f1_tabok F) Try.func114 (body_some rfl) (impl_IsRow_f1_lsok0 F) fun args mem hfit ret h => ?_
  clear hfit
  simp only [impl_IsRow_f1_ent] at h
  split at h
  · rename_i n0
    simp only [Option.some.injEq, Prod.mk.injEq] at h
    obtain ⟨hc, rfl⟩ := h
    exact ⟨[], [], 70, _, (impl_IsRow_f1_run F n0).trans (impl_IsRow_f1_cv _ n0 _), rfl, rfl, rfl⟩
  · cases h
end Go.Proofs.Ytmdicfifhppjaaa
