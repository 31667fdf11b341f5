/-
Pure functions and what the code of them does, by program; without conditions.
-/
import Derived.Test.YtabfliifleonaahQhP5
import Derived.Test.YtabfliifleonaahQhS4
namespace Go.Proofs.Ytabfliifleonaah
open Go Go.Lv Go.Lv.P Go.Proofs
set_option linter.unusedVariables false
set_option linter.unusedSimpArgs false
set_option maxRecDepth 100000
/-! (loop.example/g01194/impl.Board).flat -/
noncomputable def impl_Board_flat_tab (F : Nat) : Tab := [(79, (slices_Concat_intint_ent F))]
theorem impl_Board_flat_tabok (F : Nat) : TabOK Try.prog (impl_Board_flat_tab F) := (tab_cons (slices_Concat_intint_meets F) slices_Concat_intint_fok tab_nil)
noncomputable def impl_Board_flat_LS0 (F : Nat) : LT := []
theorem impl_Board_flat_lsok0 (F : Nat) : LoopsOK Try.prog (impl_Board_flat_LS0 F) (bodyOf Try.f61) := loopsOK_nil
theorem impl_Board_flat_run (F : Nat) (b0 : List Int) : runS tt (impl_Board_flat_tab F) (impl_Board_flat_LS0 F) [] [] Try.f61 (bodyOf Try.f61) 70 [(.ints 16 b0)] [] = impl_Board_flat_c _ b0 (fun r => some ⟨(.sl 0 0 (List.length r)), [(.vec 3 (.ri .i64 r))], []⟩) := by kernel_rfl
def impl_Board_flat_ent (F : Nat) : Ent := ⟨[], .fresh, fun args mem => match args, mem with
  | [(.ints 16 b0)], [] => some ((impl_Board_flat_p b0).isSome, ⟨(.sl 0 0 (List.length ((impl_Board_flat_p b0).getD default))), [(.vec 3 (.ri .i64 ((impl_Board_flat_p b0).getD default)))], []⟩)
  | _, _ => none⟩
theorem impl_Board_flat_fok : FunOK Try.prog 61 := funOK Try.func61 (by kernel_rfl) rfl
theorem impl_Board_flat_meets (F : Nat) : Meets Try.prog 61 (impl_Board_flat_ent F) := by
  refine meets_of_runS mixed ttok deep (impl_Board_flat_tabok F) Try.func61 (body_some rfl) (impl_Board_flat_lsok0 F) fun args mem hfit ret h => ?_
  clear hfit
  simp only [impl_Board_flat_ent] at h
  split at h
  · rename_i b0
    simp only [Option.some.injEq, Prod.mk.injEq] at h
    obtain ⟨hc, rfl⟩ := h
    exact ⟨[], [], 70, _, (impl_Board_flat_run F b0).trans ((impl_Board_flat_cp _ b0 _).trans (bind_use hc _)), rfl, rfl, rfl⟩
  · cases h

/-! (loop.example/g01194/impl.Board).potential -/
noncomputable def impl_Board_potential_tab (F : Nat) : Tab := [(61, (impl_Board_flat_ent F)), (62, (impl_worth_ent F))]
theorem impl_Board_potential_tabok (F : Nat) : TabOK Try.prog (impl_Board_potential_tab F) := (tab_cons (impl_Board_flat_meets F) impl_Board_flat_fok (tab_cons (impl_worth_meets F) impl_worth_fok tab_nil))
noncomputable def impl_Board_potential_LS0 (F : Nat) : LT := []
theorem impl_Board_potential_lsok0 (F : Nat) : LoopsOK Try.prog (impl_Board_potential_LS0 F) (bodyOf Try.f39) := loopsOK_nil
theorem impl_Board_potential_keys : keysOK (bodyOf Try.f39) = true := by kernel_rfl
def impl_Board_potential_st3 (t83 : Int) (t75 : List Int) (sum0 : Int) (t94 : Int) : St := ⟨expand 24 0 [3, 7, 8, 9] [(.int .i64 sum0), (.sl 0 0 (List.length t75)), (.int .i64 t83), (.int .i64 t94)], [(.vec 3 (.ri .i64 t75))], 0, []⟩
def impl_Board_potential_o3 (t83 : Int) (t75 : List Int) (x : Int) : GT := (.out (.exit 0 ⟨expand 24 0 [3] [(.int .i64 x)], [], 0, []⟩))
def impl_Board_potential_ls3 (F : Nat) : LoopS := ⟨24, [3, 7, 8, 9], [], [3], [], [2], [], [], fun vals mem np killed => match vals, mem, np, killed with
  | [(.int .i64 sum0), (.sl 0 0 q_t72), (.int .i64 t83), (.int .i64 t94)], [(.vec 3 (.ri .i64 t75))], 0, [] => .br ((Nat.beq q_t72 (List.length t75)) && (impl_Board_potential_l3 F t83 t75 sum0 t94).isSome) (impl_Board_potential_o3 t83 t75 ((impl_Board_potential_l3 F t83 t75 sum0 t94).getD default)) .fail
  | _, _, _, _ => .fail⟩
theorem impl_Board_potential_step3 (F : Nat) (t83 : Int) (t75 : List Int) (sum0 : Int) (t94 : Int) {R : Type} (k : Out → Option R) : stepS tt (impl_Board_potential_tab F) (impl_Board_potential_LS0 F) 70 (impl_Board_potential_ls3 F) (loopAt 3 (bodyOf Try.f39)) (impl_Board_potential_st3 t83 t75 sum0 t94) k = impl_Board_potential_s3 F t83 t75 R (sum0, t94) (fun s => k (.norm (impl_Board_potential_st3 t83 t75 s.1 s.2))) (fun x => (impl_Board_potential_o3 t83 t75 x).run k) := by kernel_rfl
theorem impl_Board_potential_iter3 (F : Nat) (t83 : Int) (t75 : List Int) {R : Type} (k : Out → Option R) : ∀ (n : Nat) (sum0 : Int) (t94 : Int), iterS tt (impl_Board_potential_tab F) (impl_Board_potential_LS0 F) 70 (impl_Board_potential_ls3 F) (loopAt 3 (bodyOf Try.f39)) n (impl_Board_potential_st3 t83 t75 sum0 t94) k = loopC (impl_Board_potential_s3 F t83 t75) n (sum0, t94) (fun x => (impl_Board_potential_o3 t83 t75 x).run k)
  | 0, sum0, t94 => rfl
  | n + 1, sum0, t94 => (iterS_succ tt (impl_Board_potential_tab F) (impl_Board_potential_LS0 F) 70 (impl_Board_potential_ls3 F) (loopAt 3 (bodyOf Try.f39)) n (impl_Board_potential_st3 t83 t75 sum0 t94) k).trans ((impl_Board_potential_step3 F t83 t75 sum0 t94 (nextK (iterS tt (impl_Board_potential_tab F) (impl_Board_potential_LS0 F) 70 (impl_Board_potential_ls3 F) (loopAt 3 (bodyOf Try.f39)) n) k)).trans (congrArg (fun kn => impl_Board_potential_s3 F t83 t75 R (sum0, t94) kn _) (funext (fun ⟨sum0, t94⟩ => impl_Board_potential_iter3 F t83 t75 k n sum0 t94))))
theorem impl_Board_potential_lok3 (F : Nat) : LoopOK Try.prog (loopAt 3 (bodyOf Try.f39)) (impl_Board_potential_ls3 F) := by
  refine loopOK_of mixed ttok deep (impl_Board_potential_tabok F) (loopsOK_at (impl_Board_potential_lsok0 F) 3) (fuel := 70) fun R vals mem np killed k x h => ?_
  simp only [impl_Board_potential_ls3] at h
  split at h
  · rename_i sum0 q_t72 t83 t94 t75
    simp only [GT.run] at h
    have hc := (cond_noneL h).1
    replace h := (cond_noneL h).2
    have hg := (and_split hc).1
    replace hc := (and_split hc).2
    obtain rfl := nbeq_nat hg
    refine ⟨F, (impl_Board_potential_iter3 F t83 t75 k F sum0 t94).trans ((loopC_use (impl_Board_potential_s3_nat F t83 t75) hc _).trans h)⟩
  · simp only [GT.run] at h
    cases h
noncomputable def impl_Board_potential_LS1 (F : Nat) : LT := (3, impl_Board_potential_ls3 F) :: impl_Board_potential_LS0 F
theorem impl_Board_potential_lsok1 (F : Nat) : LoopsOK Try.prog (impl_Board_potential_LS1 F) (bodyOf Try.f39) := loopsOK_cons impl_Board_potential_keys (impl_Board_potential_lok3 F) (impl_Board_potential_lsok0 F)
theorem impl_Board_potential_run (F : Nat) (b0 : List Int) : runS tt (impl_Board_potential_tab F) (impl_Board_potential_LS1 F) [] [] Try.f39 (bodyOf Try.f39) 70 [(.ints 16 b0)] [] = impl_Board_potential_c _ F b0 (fun r => some ⟨(.int .i64 r), [], []⟩) := by kernel_rfl
def impl_Board_potential_ent (F : Nat) : Ent := ⟨[], .quiet, fun args mem => match args, mem with
  | [(.ints 16 b0)], [] => some ((impl_Board_potential_p F b0).isSome, ⟨(.int .i64 ((impl_Board_potential_p F b0).getD default)), [], []⟩)
  | _, _ => none⟩
theorem impl_Board_potential_fok : FunOK Try.prog 39 := funOK Try.func39 (by kernel_rfl) rfl
theorem impl_Board_potential_meets (F : Nat) : Meets Try.prog 39 (impl_Board_potential_ent F) := by
  refine meets_of_runS mixed ttok deep (impl_Board_potential_tabok F) Try.func39 (body_some rfl) (impl_Board_potential_lsok1 F) fun args mem hfit ret h => ?_
  clear hfit
  simp only [impl_Board_potential_ent] at h
  split at h
  · rename_i b0
    simp only [Option.some.injEq, Prod.mk.injEq] at h
    obtain ⟨hc, rfl⟩ := h
    exact ⟨[], [], 70, _, (impl_Board_potential_run F b0).trans ((impl_Board_potential_cp _ F b0 _).trans (bind_use hc _)), rfl, rfl, rfl⟩
  · cases h

/-! loop.example/g01194/impl.PotentialOf -/
noncomputable def impl_PotentialOf_tab (F : Nat) : Tab := [(23, (impl_IsBoard_ent F)), (39, (impl_Board_potential_ent F))]
theorem impl_PotentialOf_tabok (F : Nat) : TabOK Try.prog (impl_PotentialOf_tab F) := (tab_cons (impl_IsBoard_meets F) impl_IsBoard_fok (tab_cons (impl_Board_potential_meets F) impl_Board_potential_fok tab_nil))
noncomputable def impl_PotentialOf_LS0 (F : Nat) : LT := []
theorem impl_PotentialOf_lsok0 (F : Nat) : LoopsOK Try.prog (impl_PotentialOf_LS0 F) (bodyOf Try.f16) := loopsOK_nil
theorem impl_PotentialOf_run (F : Nat) (b0 : List Int) : runS tt (impl_PotentialOf_tab F) (impl_PotentialOf_LS0 F) [] [] Try.f16 (bodyOf Try.f16) 70 [(.ints 16 b0)] [] = impl_PotentialOf_c _ F b0 (fun r => some ⟨(.tup [(.int .i64 r.1), (.bool r.2)]), [], []⟩) := by kernel_rfl
def impl_PotentialOf_ent (F : Nat) : Ent := ⟨[], .quiet, fun args mem => match args, mem with
  | [(.ints 16 b0)], [] => some ((impl_PotentialOf_p F b0).isSome, ⟨(.tup [(.int .i64 ((impl_PotentialOf_p F b0).getD default).1), (.bool ((impl_PotentialOf_p F b0).getD default).2)]), [], []⟩)
  | _, _ => none⟩
theorem impl_PotentialOf_fok : FunOK Try.prog 16 := funOK Try.func16 (by kernel_rfl) rfl
theorem impl_PotentialOf_meets (F : Nat) : Meets Try.prog 16 (impl_PotentialOf_ent F) := by
  refine meets_of_runS mixed ttok deep (impl_PotentialOf_tabok F) Try.func16 (body_some rfl) (impl_PotentialOf_lsok0 F) fun args mem hfit ret h => ?_
  clear hfit
  simp only [impl_PotentialOf_ent] at h
  split at h
  · rename_i b0
    simp only [Option.some.injEq, Prod.mk.injEq] at h
    obtain ⟨hc, rfl⟩ := h
    exact ⟨[], [], 70, _, (impl_PotentialOf_run F b0).trans ((impl_PotentialOf_cp _ F b0 _).trans (bind_use hc _)), rfl, rfl, rfl⟩
  · cases h

/-! loop.example/g01194/impl.HighestTile -/
noncomputable def impl_HighestTile_tab (F : Nat) : Tab := [(23, (impl_IsBoard_ent F)), (34, (impl_Board_highest_ent F))]
theorem impl_HighestTile_tabok (F : Nat) : TabOK Try.prog (impl_HighestTile_tab F) := (tab_cons (impl_IsBoard_meets F) impl_IsBoard_fok (tab_cons (impl_Board_highest_meets F) impl_Board_highest_fok tab_nil))
noncomputable def impl_HighestTile_LS0 (F : Nat) : LT := []
theorem impl_HighestTile_lsok0 (F : Nat) : LoopsOK Try.prog (impl_HighestTile_LS0 F) (bodyOf Try.f17) := loopsOK_nil
theorem impl_HighestTile_run (F : Nat) (b0 : List Int) : runS tt (impl_HighestTile_tab F) (impl_HighestTile_LS0 F) [] [] Try.f17 (bodyOf Try.f17) 70 [(.ints 16 b0)] [] = impl_HighestTile_c _ F b0 (fun r => some ⟨(.tup [(.int .i64 r.1), (.ints 2 r.2.1), (.bool r.2.2)]), [], []⟩) := by kernel_rfl
def impl_HighestTile_ent (F : Nat) : Ent := ⟨[], .quiet, fun args mem => match args, mem with
  | [(.ints 16 b0)], [] => some ((impl_HighestTile_p F b0).isSome, ⟨(.tup [(.int .i64 ((impl_HighestTile_p F b0).getD default).1), (.ints 2 ((impl_HighestTile_p F b0).getD default).2.1), (.bool ((impl_HighestTile_p F b0).getD default).2.2)]), [], []⟩)
  | _, _ => none⟩
theorem impl_HighestTile_fok : FunOK Try.prog 17 := funOK Try.func17 (by kernel_rfl) rfl
theorem impl_HighestTile_meets (F : Nat) : Meets Try.prog 17 (impl_HighestTile_ent F) := by
  refine meets_of_runS mixed ttok deep (impl_HighestTile_tabok F) Try.func17 (body_some rfl) (impl_HighestTile_lsok0 F) fun args mem hfit ret h => ?_
  clear hfit
  simp only [impl_HighestTile_ent] at h
  split at h
  · rename_i b0
    simp only [Option.some.injEq, Prod.mk.injEq] at h
    obtain ⟨hc, rfl⟩ := h
    exact ⟨[], [], 70, _, (impl_HighestTile_run F b0).trans ((impl_HighestTile_cp _ F b0 _).trans (bind_use hc _)), rfl, rfl, rfl⟩
  · cases h

/-! (loop.example/g01194/impl.Board).sum -/
noncomputable def impl_Board_sum_tab (F : Nat) : Tab := [(57, (impl_cells_ent F)), (58, (impl_Board_at_ent F)), (62, (impl_worth_ent F))]
theorem impl_Board_sum_tabok (F : Nat) : TabOK Try.prog (impl_Board_sum_tab F) := (tab_cons (impl_cells_meets F) impl_cells_fok (tab_cons (impl_Board_at_meets F) impl_Board_at_fok (tab_cons (impl_worth_meets F) impl_worth_fok tab_nil)))
noncomputable def impl_Board_sum_LS0 (F : Nat) : LT := []
theorem impl_Board_sum_lsok0 (F : Nat) : LoopsOK Try.prog (impl_Board_sum_LS0 F) (bodyOf Try.f67) := loopsOK_nil
theorem impl_Board_sum_run (F : Nat) (b0 : List Int) : runS tt (impl_Board_sum_tab F) (impl_Board_sum_LS0 F) [] [] Try.f67 (bodyOf Try.f67) 70 [(.ints 16 b0)] [] = impl_Board_sum_c _ b0 (fun r => some ⟨(.int .i64 r), [], []⟩) := by kernel_rfl
def impl_Board_sum_ent (F : Nat) : Ent := ⟨[], .quiet, fun args mem => match args, mem with
  | [(.ints 16 b0)], [] => some ((impl_Board_sum_p b0).isSome, ⟨(.int .i64 ((impl_Board_sum_p b0).getD default)), [], []⟩)
  | _, _ => none⟩
theorem impl_Board_sum_fok : FunOK Try.prog 67 := funOK Try.func67 (by kernel_rfl) rfl
theorem impl_Board_sum_meets (F : Nat) : Meets Try.prog 67 (impl_Board_sum_ent F) := by
  refine meets_of_runS mixed ttok deep (impl_Board_sum_tabok F) Try.func67 (body_some rfl) (impl_Board_sum_lsok0 F) fun args mem hfit ret h => ?_
  clear hfit
  simp only [impl_Board_sum_ent] at h
  split at h
  · rename_i b0
    simp only [Option.some.injEq, Prod.mk.injEq] at h
    obtain ⟨hc, rfl⟩ := h
    exact ⟨[], [], 70, _, (impl_Board_sum_run F b0).trans ((impl_Board_sum_cp _ b0 _).trans (bind_use hc _)), rfl, rfl, rfl⟩
  · cases h

/-! loop.example/g01194/impl.SumOf -/
noncomputable def impl_SumOf_tab (F : Nat) : Tab := [(23, (impl_IsBoard_ent F)), (67, (impl_Board_sum_ent F))]
theorem impl_SumOf_tabok (F : Nat) : TabOK Try.prog (impl_SumOf_tab F) := (tab_cons (impl_IsBoard_meets F) impl_IsBoard_fok (tab_cons (impl_Board_sum_meets F) impl_Board_sum_fok tab_nil))
noncomputable def impl_SumOf_LS0 (F : Nat) : LT := []
theorem impl_SumOf_lsok0 (F : Nat) : LoopsOK Try.prog (impl_SumOf_LS0 F) (bodyOf Try.f42) := loopsOK_nil
theorem impl_SumOf_run (F : Nat) (b0 : List Int) : runS tt (impl_SumOf_tab F) (impl_SumOf_LS0 F) [] [] Try.f42 (bodyOf Try.f42) 70 [(.ints 16 b0)] [] = impl_SumOf_c _ F b0 (fun r => some ⟨(.tup [(.int .i64 r.1), (.bool r.2)]), [], []⟩) := by kernel_rfl
def impl_SumOf_ent (F : Nat) : Ent := ⟨[], .quiet, fun args mem => match args, mem with
  | [(.ints 16 b0)], [] => some ((impl_SumOf_p F b0).isSome, ⟨(.tup [(.int .i64 ((impl_SumOf_p F b0).getD default).1), (.bool ((impl_SumOf_p F b0).getD default).2)]), [], []⟩)
  | _, _ => none⟩
theorem impl_SumOf_fok : FunOK Try.prog 42 := funOK Try.func42 (by kernel_rfl) rfl
theorem impl_SumOf_meets (F : Nat) : Meets Try.prog 42 (impl_SumOf_ent F) := by
  refine meets_of_runS mixed ttok deep (impl_SumOf_tabok F) Try.func42 (body_some rfl) (impl_SumOf_lsok0 F) fun args mem hfit ret h => ?_
  clear hfit
  simp only [impl_SumOf_ent] at h
  split at h
  · rename_i b0
    simp only [Option.some.injEq, Prod.mk.injEq] at h
    obtain ⟨hc, rfl⟩ := h
    exact ⟨[], [], 70, _, (impl_SumOf_run F b0).trans ((impl_SumOf_cp _ F b0 _).trans (bind_use hc _)), rfl, rfl, rfl⟩
  · cases h

/-! loop.example/g01194/laws.vSum2 -/
noncomputable def laws_vSum2_tab (F : Nat) : Tab := [(42, (impl_SumOf_ent F))]
theorem laws_vSum2_tabok (F : Nat) : TabOK Try.prog (laws_vSum2_tab F) := (tab_cons (impl_SumOf_meets F) impl_SumOf_fok tab_nil)
noncomputable def laws_vSum2_LS0 (F : Nat) : LT := []
theorem laws_vSum2_lsok0 (F : Nat) : LoopsOK Try.prog (laws_vSum2_LS0 F) (bodyOf Try.f19) := loopsOK_nil
theorem laws_vSum2_run (F : Nat) (b0 : List Int) : runS tt (laws_vSum2_tab F) (laws_vSum2_LS0 F) [] [] Try.f19 (bodyOf Try.f19) 70 [(.ints 16 b0)] [] = laws_vSum2_c _ F b0 (fun r => some ⟨(.int .i64 r), [], []⟩) := by kernel_rfl
def laws_vSum2_ent (F : Nat) : Ent := ⟨[], .quiet, fun args mem => match args, mem with
  | [(.ints 16 b0)], [] => some ((laws_vSum2_p F b0).isSome, ⟨(.int .i64 ((laws_vSum2_p F b0).getD default)), [], []⟩)
  | _, _ => none⟩
theorem laws_vSum2_fok : FunOK Try.prog 19 := funOK Try.func19 (by kernel_rfl) rfl
theorem laws_vSum2_meets (F : Nat) : Meets Try.prog 19 (laws_vSum2_ent F) := by
  refine meets_of_runS mixed ttok deep (laws_vSum2_tabok F) Try.func19 (body_some rfl) (laws_vSum2_lsok0 F) fun args mem hfit ret h => ?_
  clear hfit
  simp only [laws_vSum2_ent] at h
  split at h
  · rename_i b0
    simp only [Option.some.injEq, Prod.mk.injEq] at h
    obtain ⟨hc, rfl⟩ := h
    exact ⟨[], [], 70, _, (laws_vSum2_run F b0).trans ((laws_vSum2_cp _ F b0 _).trans (bind_use hc _)), rfl, rfl, rfl⟩
  · cases h

/-! loop.example/g01194/impl.isSum -/
noncomputable def impl_isSum_tab (F : Nat) : Tab := [(29, (impl_in_ent F))]
theorem impl_isSum_tabok (F : Nat) : TabOK Try.prog (impl_isSum_tab F) := (tab_cons (impl_in_meets F) impl_in_fok tab_nil)
noncomputable def impl_isSum_LS0 (F : Nat) : LT := []
theorem impl_isSum_lsok0 (F : Nat) : LoopsOK Try.prog (impl_isSum_LS0 F) (bodyOf Try.f63) := loopsOK_nil
theorem impl_isSum_run (F : Nat) (sum0 : Int) : runS tt (impl_isSum_tab F) (impl_isSum_LS0 F) [] [] Try.f63 (bodyOf Try.f63) 70 [(.int .i64 sum0)] [] = impl_isSum_c _ sum0 (fun r => some ⟨(.bool r), [], []⟩) := by kernel_rfl
def impl_isSum_ent (F : Nat) : Ent := ⟨[], .quiet, fun args mem => match args, mem with
  | [(.int .i64 sum0)], [] => some (true, ⟨(.bool (impl_isSum_v sum0)), [], []⟩)
  | _, _ => none⟩
theorem impl_isSum_fok : FunOK Try.prog 63 := funOK Try.func63 (by kernel_rfl) rfl
theorem impl_isSum_meets (F : Nat) : Meets Try.prog 63 (impl_isSum_ent F) := by
  refine meets_of_runS mixed ttok deep (impl_isSum_tabok F) Try.func63 (body_some rfl) (impl_isSum_lsok0 F) fun args mem hfit ret h => ?_
  clear hfit
  simp only [impl_isSum_ent] at h
  split at h
  · rename_i sum0
    simp only [Option.some.injEq, Prod.mk.injEq] at h
    obtain ⟨hc, rfl⟩ := h
    exact ⟨[], [], 70, _, (impl_isSum_run F sum0).trans (impl_isSum_cv _ sum0 _), rfl, rfl, rfl⟩
  · cases h

/-! math/bits.OnesCount64 -/
noncomputable def math_bits_OnesCount64_tab (F : Nat) : Tab := []
theorem math_bits_OnesCount64_tabok (F : Nat) : TabOK Try.prog (math_bits_OnesCount64_tab F) := tab_nil
noncomputable def math_bits_OnesCount64_LS0 (F : Nat) : LT := []
theorem math_bits_OnesCount64_lsok0 (F : Nat) : LoopsOK Try.prog (math_bits_OnesCount64_LS0 F) (bodyOf Try.f88) := loopsOK_nil
theorem math_bits_OnesCount64_run (F : Nat) (x0 : Int) : runS tt (math_bits_OnesCount64_tab F) (math_bits_OnesCount64_LS0 F) [] [] Try.f88 (bodyOf Try.f88) 70 [(.int .u64 x0)] [] = math_bits_OnesCount64_c _ x0 (fun r => some ⟨(.int .i64 r), [], []⟩) := by kernel_rfl
def math_bits_OnesCount64_ent (F : Nat) : Ent := ⟨[], .quiet, fun args mem => match args, mem with
  | [(.int .u64 x0)], [] => some (true, ⟨(.int .i64 (math_bits_OnesCount64_v x0)), [], []⟩)
  | _, _ => none⟩
theorem math_bits_OnesCount64_fok : FunOK Try.prog 88 := funOK Try.func88 (by kernel_rfl) rfl
theorem math_bits_OnesCount64_meets (F : Nat) : Meets Try.prog 88 (math_bits_OnesCount64_ent F) := by
  refine meets_of_runS mixed ttok deep (math_bits_OnesCount64_tabok F) Try.func88 (body_some rfl) (math_bits_OnesCount64_lsok0 F) fun args mem hfit ret h => ?_
  clear hfit
  simp only [math_bits_OnesCount64_ent] at h
  split at h
  · rename_i x0
    simp only [Option.some.injEq, Prod.mk.injEq] at h
    obtain ⟨hc, rfl⟩ := h
    exact ⟨[], [], 70, _, (math_bits_OnesCount64_run F x0).trans (math_bits_OnesCount64_cv _ x0 _), rfl, rfl, rfl⟩
  · cases h

/-! math/bits.OnesCount -/
noncomputable def math_bits_OnesCount_tab (F : Nat) : Tab := [(88, (math_bits_OnesCount64_ent F))]
theorem math_bits_OnesCount_tabok (F : Nat) : TabOK Try.prog (math_bits_OnesCount_tab F) := (tab_cons (math_bits_OnesCount64_meets F) math_bits_OnesCount64_fok tab_nil)
noncomputable def math_bits_OnesCount_LS0 (F : Nat) : LT := []
theorem math_bits_OnesCount_lsok0 (F : Nat) : LoopsOK Try.prog (math_bits_OnesCount_LS0 F) (bodyOf Try.f80) := loopsOK_nil
theorem math_bits_OnesCount_run (F : Nat) (x0 : Int) : runS tt (math_bits_OnesCount_tab F) (math_bits_OnesCount_LS0 F) [] [] Try.f80 (bodyOf Try.f80) 70 [(.int .u64 x0)] [] = math_bits_OnesCount_c _ x0 (fun r => some ⟨(.int .i64 r), [], []⟩) := by kernel_rfl
def math_bits_OnesCount_ent (F : Nat) : Ent := ⟨[], .quiet, fun args mem => match args, mem with
  | [(.int .u64 x0)], [] => some (true, ⟨(.int .i64 (math_bits_OnesCount_v x0)), [], []⟩)
  | _, _ => none⟩
theorem math_bits_OnesCount_fok : FunOK Try.prog 80 := funOK Try.func80 (by kernel_rfl) rfl
theorem math_bits_OnesCount_meets (F : Nat) : Meets Try.prog 80 (math_bits_OnesCount_ent F) := by
  refine meets_of_runS mixed ttok deep (math_bits_OnesCount_tabok F) Try.func80 (body_some rfl) (math_bits_OnesCount_lsok0 F) fun args mem hfit ret h => ?_
  clear hfit
  simp only [math_bits_OnesCount_ent] at h
  split at h
  · rename_i x0
    simp only [Option.some.injEq, Prod.mk.injEq] at h
    obtain ⟨hc, rfl⟩ := h
    exact ⟨[], [], 70, _, (math_bits_OnesCount_run F x0).trans (math_bits_OnesCount_cv _ x0 _), rfl, rfl, rfl⟩
  · cases h

/-! loop.example/g01194/impl.leastTiles -/
noncomputable def impl_leastTiles_tab (F : Nat) : Tab := [(80, (math_bits_OnesCount_ent F))]
theorem impl_leastTiles_tabok (F : Nat) : TabOK Try.prog (impl_leastTiles_tab F) := (tab_cons (math_bits_OnesCount_meets F) math_bits_OnesCount_fok tab_nil)
noncomputable def impl_leastTiles_LS0 (F : Nat) : LT := []
theorem impl_leastTiles_lsok0 (F : Nat) : LoopsOK Try.prog (impl_leastTiles_LS0 F) (bodyOf Try.f64) := loopsOK_nil
theorem impl_leastTiles_run (F : Nat) (sum0 : Int) : runS tt (impl_leastTiles_tab F) (impl_leastTiles_LS0 F) [] [] Try.f64 (bodyOf Try.f64) 70 [(.int .i64 sum0)] [] = impl_leastTiles_c _ sum0 (fun r => some ⟨(.int .i64 r), [], []⟩) := by kernel_rfl
def impl_leastTiles_ent (F : Nat) : Ent := ⟨[], .quiet, fun args mem => match args, mem with
  | [(.int .i64 sum0)], [] => some (true, ⟨(.int .i64 (impl_leastTiles_v sum0)), [], []⟩)
  | _, _ => none⟩
theorem impl_leastTiles_fok : FunOK Try.prog 64 := funOK Try.func64 (by kernel_rfl) rfl
theorem impl_leastTiles_meets (F : Nat) : Meets Try.prog 64 (impl_leastTiles_ent F) := by
  refine meets_of_runS mixed ttok deep (impl_leastTiles_tabok F) Try.func64 (body_some rfl) (impl_leastTiles_lsok0 F) fun args mem hfit ret h => ?_
  clear hfit
  simp only [impl_leastTiles_ent] at h
  split at h
  · rename_i sum0
    simp only [Option.some.injEq, Prod.mk.injEq] at h
    obtain ⟨hc, rfl⟩ := h
    exact ⟨[], [], 70, _, (impl_leastTiles_run F sum0).trans (impl_leastTiles_cv _ sum0 _), rfl, rfl, rfl⟩
  · cases h

/-! loop.example/g01194/impl.isFor -/
noncomputable def impl_isFor_tab (F : Nat) : Tab := [(63, (impl_isSum_ent F)), (64, (impl_leastTiles_ent F))]
theorem impl_isFor_tabok (F : Nat) : TabOK Try.prog (impl_isFor_tab F) := (tab_cons (impl_isSum_meets F) impl_isSum_fok (tab_cons (impl_leastTiles_meets F) impl_leastTiles_fok tab_nil))
noncomputable def impl_isFor_LS0 (F : Nat) : LT := []
theorem impl_isFor_lsok0 (F : Nat) : LoopsOK Try.prog (impl_isFor_LS0 F) (bodyOf Try.f40) := loopsOK_nil
theorem impl_isFor_run (F : Nat) (sum0 : Int) : runS tt (impl_isFor_tab F) (impl_isFor_LS0 F) [] [] Try.f40 (bodyOf Try.f40) 70 [(.int .i64 sum0)] [] = impl_isFor_c _ sum0 (fun r => some ⟨(.bool r), [], []⟩) := by kernel_rfl
def impl_isFor_ent (F : Nat) : Ent := ⟨[], .quiet, fun args mem => match args, mem with
  | [(.int .i64 sum0)], [] => some (true, ⟨(.bool (impl_isFor_v sum0)), [], []⟩)
  | _, _ => none⟩
theorem impl_isFor_fok : FunOK Try.prog 40 := funOK Try.func40 (by kernel_rfl) rfl
theorem impl_isFor_meets (F : Nat) : Meets Try.prog 40 (impl_isFor_ent F) := by
  refine meets_of_runS mixed ttok deep (impl_isFor_tabok F) Try.func40 (body_some rfl) (impl_isFor_lsok0 F) fun args mem hfit ret h => ?_
  clear hfit
  simp only [impl_isFor_ent] at h
  split at h
  · rename_i sum0
    simp only [Option.some.injEq, Prod.mk.injEq] at h
    obtain ⟨hc, rfl⟩ := h
    exact ⟨[], [], 70, _, (impl_isFor_run F sum0).trans (impl_isFor_cv _ sum0 _), rfl, rfl, rfl⟩
  · cases h

/-! math/bits.Len64 -/
def math_bits_Len64_ent (F : Nat) : Ent := ⟨[], .quiet, fun args mem => match args, mem with
  | [.int .u64 x], [] => some (decide (0 ≤ x) && decide (x ≤ 18446744073709551615), ⟨.int .i64 (math_bits_Len64_v x), [], []⟩)
  | _, _ => none⟩
theorem math_bits_Len64_fok : FunOK Try.prog 66 := funOK Try.func66 (by kernel_rfl) rfl
theorem math_bits_Len64_meets (F : Nat) : Meets Try.prog 66 (math_bits_Len64_ent F) := by
  intro fr w ρ mem args reals hw ha ret hg
  simp only [math_bits_Len64_ent] at hg
  split at hg
  · rename_i x
    simp only [Option.some.injEq, Prod.mk.injEq, Bool.and_eq_true, decide_eq_true_eq] at hg
    obtain ⟨⟨h0, h1⟩, rfl⟩ := hg
    cases ha with
    | cons h hr =>
      cases hr
      have h : _ = Value.int .u64 x := h
      subst h
      refine (bits_Len64 x w h0 h1).mono fun e w' ⟨he, hw'⟩ => ?_
      subst he; subst hw'
      exact ⟨_, ρ, rfl, show _ = _ from rfl, hw, Step.refl _ _ _ _⟩
  · cases hg

/-! math/bits.Len -/
noncomputable def math_bits_Len_tab (F : Nat) : Tab := [(66, (math_bits_Len64_ent F))]
theorem math_bits_Len_tabok (F : Nat) : TabOK Try.prog (math_bits_Len_tab F) := (tab_cons (math_bits_Len64_meets F) math_bits_Len64_fok tab_nil)
noncomputable def math_bits_Len_LS0 (F : Nat) : LT := []
theorem math_bits_Len_lsok0 (F : Nat) : LoopsOK Try.prog (math_bits_Len_LS0 F) (bodyOf Try.f41) := loopsOK_nil
theorem math_bits_Len_run (F : Nat) (x0 : Int) : runS tt (math_bits_Len_tab F) (math_bits_Len_LS0 F) [] [] Try.f41 (bodyOf Try.f41) 70 [(.int .u64 x0)] [] = math_bits_Len_c _ x0 (fun r => some ⟨(.int .i64 r), [], []⟩) := by kernel_rfl
def math_bits_Len_ent (F : Nat) : Ent := ⟨[], .quiet, fun args mem => match args, mem with
  | [(.int .u64 x0)], [] => some ((math_bits_Len_p x0).isSome, ⟨(.int .i64 ((math_bits_Len_p x0).getD default)), [], []⟩)
  | _, _ => none⟩
theorem math_bits_Len_fok : FunOK Try.prog 41 := funOK Try.func41 (by kernel_rfl) rfl
theorem math_bits_Len_meets (F : Nat) : Meets Try.prog 41 (math_bits_Len_ent F) := by
  refine meets_of_runS mixed ttok deep (math_bits_Len_tabok F) Try.func41 (body_some rfl) (math_bits_Len_lsok0 F) fun args mem hfit ret h => ?_
  clear hfit
  simp only [math_bits_Len_ent] at h
  split at h
  · rename_i x0
    simp only [Option.some.injEq, Prod.mk.injEq] at h
    obtain ⟨hc, rfl⟩ := h
    exact ⟨[], [], 70, _, (math_bits_Len_run F x0).trans ((math_bits_Len_cp _ x0 _).trans (bind_use hc _)), rfl, rfl, rfl⟩
  · cases h

/-! loop.example/g01194/impl.HighestFor -/
noncomputable def impl_HighestFor_tab (F : Nat) : Tab := [(40, (impl_isFor_ent F)), (41, (math_bits_Len_ent F))]
theorem impl_HighestFor_tabok (F : Nat) : TabOK Try.prog (impl_HighestFor_tab F) := (tab_cons (impl_isFor_meets F) impl_isFor_fok (tab_cons (math_bits_Len_meets F) math_bits_Len_fok tab_nil))
noncomputable def impl_HighestFor_LS0 (F : Nat) : LT := []
theorem impl_HighestFor_lsok0 (F : Nat) : LoopsOK Try.prog (impl_HighestFor_LS0 F) (bodyOf Try.f18) := loopsOK_nil
theorem impl_HighestFor_run (F : Nat) (sum0 : Int) : runS tt (impl_HighestFor_tab F) (impl_HighestFor_LS0 F) [] [] Try.f18 (bodyOf Try.f18) 70 [(.int .i64 sum0)] [] = impl_HighestFor_c _ sum0 (fun r => some ⟨(.tup [(.int .i64 r.1), (.bool r.2)]), [], []⟩) := by kernel_rfl
def impl_HighestFor_ent (F : Nat) : Ent := ⟨[], .quiet, fun args mem => match args, mem with
  | [(.int .i64 sum0)], [] => some ((impl_HighestFor_p sum0).isSome, ⟨(.tup [(.int .i64 ((impl_HighestFor_p sum0).getD default).1), (.bool ((impl_HighestFor_p sum0).getD default).2)]), [], []⟩)
  | _, _ => none⟩
theorem impl_HighestFor_fok : FunOK Try.prog 18 := funOK Try.func18 (by kernel_rfl) rfl
theorem impl_HighestFor_meets (F : Nat) : Meets Try.prog 18 (impl_HighestFor_ent F) := by
  refine meets_of_runS mixed ttok deep (impl_HighestFor_tabok F) Try.func18 (body_some rfl) (impl_HighestFor_lsok0 F) fun args mem hfit ret h => ?_
  clear hfit
  simp only [impl_HighestFor_ent] at h
  split at h
  · rename_i sum0
    simp only [Option.some.injEq, Prod.mk.injEq] at h
    obtain ⟨hc, rfl⟩ := h
    exact ⟨[], [], 70, _, (impl_HighestFor_run F sum0).trans ((impl_HighestFor_cp _ sum0 _).trans (bind_use hc _)), rfl, rfl, rfl⟩
  · cases h

/-! loop.example/g01194/laws.FnSlides -/
noncomputable def laws_FnSlides_tab (F : Nat) : Tab := [(4, (laws_vBig_ent F)), (5, (spec_DrawDoSlides_ent F)), (6, (impl_DoSlides_ent F)), (7, (spec_DoSlides_ent F)), (9, (laws_vCut_ent F)), (8, (spec_DrawSlideCycle_ent F)), (10, (impl_SlideCycle_ent F)), (11, (spec_SlideCycle_ent F)), (12, (spec_DrawHighestBySlides_ent F)), (13, (impl_HighestBySlides_ent F)), (14, (spec_HighestBySlides_ent F)), (15, (impl_SlideBoard_ent F)), (16, (impl_PotentialOf_ent F)), (17, (impl_HighestTile_ent F)), (19, (laws_vSum2_ent F)), (18, (impl_HighestFor_ent F))]
theorem laws_FnSlides_tabok (F : Nat) : TabOK Try.prog (laws_FnSlides_tab F) := (tab_cons (laws_vBig_meets F) laws_vBig_fok (tab_cons (spec_DrawDoSlides_meets F) spec_DrawDoSlides_fok (tab_cons (impl_DoSlides_meets F) impl_DoSlides_fok (tab_cons (spec_DoSlides_meets F) spec_DoSlides_fok (tab_cons (laws_vCut_meets F) laws_vCut_fok (tab_cons (spec_DrawSlideCycle_meets F) spec_DrawSlideCycle_fok (tab_cons (impl_SlideCycle_meets F) impl_SlideCycle_fok (tab_cons (spec_SlideCycle_meets F) spec_SlideCycle_fok (tab_cons (spec_DrawHighestBySlides_meets F) spec_DrawHighestBySlides_fok (tab_cons (impl_HighestBySlides_meets F) impl_HighestBySlides_fok (tab_cons (spec_HighestBySlides_meets F) spec_HighestBySlides_fok (tab_cons (impl_SlideBoard_meets F) impl_SlideBoard_fok (tab_cons (impl_PotentialOf_meets F) impl_PotentialOf_fok (tab_cons (impl_HighestTile_meets F) impl_HighestTile_fok (tab_cons (laws_vSum2_meets F) laws_vSum2_fok (tab_cons (impl_HighestFor_meets F) impl_HighestFor_fok tab_nil))))))))))))))))
noncomputable def laws_FnSlides_LS0 (F : Nat) : LT := []
theorem laws_FnSlides_lsok0 (F : Nat) : LoopsOK Try.prog (laws_FnSlides_LS0 F) (bodyOf Try.f3) := loopsOK_nil
theorem laws_FnSlides_keys : keysOK (bodyOf Try.f3) = true := by kernel_rfl
def laws_FnSlides_st17 (score8 : Int) (ahead14 : Int) (long15 : Int) (fine16 : Bool) (top20 : Int) (there21 : Bool) (b27 : List Int) (list28 : List Int) (end29 : List Int) (u30 : List Int) (round31 : List Int) (w32 : List Int) (sum25 : Int) (i26 : Int) (now33 : List Int) : St := ⟨expand 284 0 [3, 4, 5, 6, 11, 12, 13, 14, 15, 19, 20, 21, 24, 25, 26] [(.ptr 0 0 0 16), (.sl 1 0 (List.length list28)), (.ptr 2 0 0 16), (.int .i64 score8), (.ptr 3 0 0 16), (.sl 4 0 (List.length round31)), (.int .i64 ahead14), (.int .i64 long15), (.bool fine16), (.ptr 5 0 0 16), (.int .i64 top20), (.bool there21), (.ptr 6 0 0 16), (.int .i64 sum25), (.int .i64 i26)], [(.var 16 (.ri .i64 b27)), (.vec 3 (.ri .i64 list28)), (.var 16 (.ri .i64 end29)), (.var 16 (.ri .i64 u30)), (.vec 3 (.ri .i64 round31)), (.var 16 (.ri .i64 w32)), (.var 16 (.ri .i64 now33))], 0, []⟩
def laws_FnSlides_o17 (score8 : Int) (ahead14 : Int) (long15 : Int) (fine16 : Bool) (top20 : Int) (there21 : Bool) (b27 : List Int) (list28 : List Int) (end29 : List Int) (u30 : List Int) (round31 : List Int) (w32 : List Int) (x : Bool × Int × List Int) : GT := (.br x.1 (.out (.ret ⟨expand 284 0 [2] [(.bool false)], [], 0, []⟩)) (.out (.exit 0 ⟨expand 284 0 [3, 5, 6, 11, 12, 13, 14, 15, 19, 20, 21, 24, 25] [(.ptr 0 0 0 16), (.ptr 1 0 0 16), (.int .i64 score8), (.ptr 2 0 0 16), (.sl 3 0 (List.length round31)), (.int .i64 ahead14), (.int .i64 long15), (.bool fine16), (.ptr 4 0 0 16), (.int .i64 top20), (.bool there21), (.ptr 5 0 0 16), (.int .i64 x.2.1)], [(.var 16 (.ri .i64 b27)), (.var 16 (.ri .i64 end29)), (.var 16 (.ri .i64 u30)), (.vec 3 (.ri .i64 round31)), (.var 16 (.ri .i64 w32)), (.var 16 (.ri .i64 x.2.2))], 0, []⟩)))
def laws_FnSlides_ls17 (F : Nat) : LoopS := ⟨284, [3, 4, 5, 6, 11, 12, 13, 14, 15, 19, 20, 21, 24, 25, 26], [], [3, 5, 6, 11, 12, 13, 14, 15, 19, 20, 21, 24, 25], [], [2], [], [], fun vals mem np killed => match vals, mem, np, killed with
  | [(.ptr 0 0 0 16), (.sl 1 0 q_list4), (.ptr 2 0 0 16), (.int .i64 score8), (.ptr 3 0 0 16), (.sl 4 0 q_round13), (.int .i64 ahead14), (.int .i64 long15), (.bool fine16), (.ptr 5 0 0 16), (.int .i64 top20), (.bool there21), (.ptr 6 0 0 16), (.int .i64 sum25), (.int .i64 i26)], [(.var 16 (.ri .i64 b27)), (.vec 3 (.ri .i64 list28)), (.var 16 (.ri .i64 end29)), (.var 16 (.ri .i64 u30)), (.vec 3 (.ri .i64 round31)), (.var 16 (.ri .i64 w32)), (.var 16 (.ri .i64 now33))], 0, [] => .br ((Nat.beq q_list4 (List.length list28)) && ((Nat.beq q_round13 (List.length round31)) && (laws_FnSlides_l17 F score8 ahead14 long15 fine16 top20 there21 b27 list28 end29 u30 round31 w32 sum25 i26 now33).isSome)) (laws_FnSlides_o17 score8 ahead14 long15 fine16 top20 there21 b27 list28 end29 u30 round31 w32 ((laws_FnSlides_l17 F score8 ahead14 long15 fine16 top20 there21 b27 list28 end29 u30 round31 w32 sum25 i26 now33).getD default)) .fail
  | _, _, _, _ => .fail⟩
theorem laws_FnSlides_step17 (F : Nat) (score8 : Int) (ahead14 : Int) (long15 : Int) (fine16 : Bool) (top20 : Int) (there21 : Bool) (b27 : List Int) (list28 : List Int) (end29 : List Int) (u30 : List Int) (round31 : List Int) (w32 : List Int) (sum25 : Int) (i26 : Int) (now33 : List Int) {R : Type} (k : Out → Option R) : stepS tt (laws_FnSlides_tab F) (laws_FnSlides_LS0 F) 70 (laws_FnSlides_ls17 F) (loopAt 17 (bodyOf Try.f3)) (laws_FnSlides_st17 score8 ahead14 long15 fine16 top20 there21 b27 list28 end29 u30 round31 w32 sum25 i26 now33) k = laws_FnSlides_s17 F score8 ahead14 long15 fine16 top20 there21 b27 list28 end29 u30 round31 w32 R (sum25, i26, now33) (fun s => k (.norm (laws_FnSlides_st17 score8 ahead14 long15 fine16 top20 there21 b27 list28 end29 u30 round31 w32 s.1 s.2.1 s.2.2))) (fun x => (laws_FnSlides_o17 score8 ahead14 long15 fine16 top20 there21 b27 list28 end29 u30 round31 w32 x).run k) := by kernel_rfl
theorem laws_FnSlides_iter17 (F : Nat) (score8 : Int) (ahead14 : Int) (long15 : Int) (fine16 : Bool) (top20 : Int) (there21 : Bool) (b27 : List Int) (list28 : List Int) (end29 : List Int) (u30 : List Int) (round31 : List Int) (w32 : List Int) {R : Type} (k : Out → Option R) : ∀ (n : Nat) (sum25 : Int) (i26 : Int) (now33 : List Int), iterS tt (laws_FnSlides_tab F) (laws_FnSlides_LS0 F) 70 (laws_FnSlides_ls17 F) (loopAt 17 (bodyOf Try.f3)) n (laws_FnSlides_st17 score8 ahead14 long15 fine16 top20 there21 b27 list28 end29 u30 round31 w32 sum25 i26 now33) k = loopC (laws_FnSlides_s17 F score8 ahead14 long15 fine16 top20 there21 b27 list28 end29 u30 round31 w32) n (sum25, i26, now33) (fun x => (laws_FnSlides_o17 score8 ahead14 long15 fine16 top20 there21 b27 list28 end29 u30 round31 w32 x).run k)
  | 0, sum25, i26, now33 => rfl
  | n + 1, sum25, i26, now33 => (iterS_succ tt (laws_FnSlides_tab F) (laws_FnSlides_LS0 F) 70 (laws_FnSlides_ls17 F) (loopAt 17 (bodyOf Try.f3)) n (laws_FnSlides_st17 score8 ahead14 long15 fine16 top20 there21 b27 list28 end29 u30 round31 w32 sum25 i26 now33) k).trans ((laws_FnSlides_step17 F score8 ahead14 long15 fine16 top20 there21 b27 list28 end29 u30 round31 w32 sum25 i26 now33 (nextK (iterS tt (laws_FnSlides_tab F) (laws_FnSlides_LS0 F) 70 (laws_FnSlides_ls17 F) (loopAt 17 (bodyOf Try.f3)) n) k)).trans (congrArg (fun kn => laws_FnSlides_s17 F score8 ahead14 long15 fine16 top20 there21 b27 list28 end29 u30 round31 w32 R (sum25, i26, now33) kn _) (funext (fun ⟨sum25, i26, now33⟩ => laws_FnSlides_iter17 F score8 ahead14 long15 fine16 top20 there21 b27 list28 end29 u30 round31 w32 k n sum25 i26 now33))))
theorem laws_FnSlides_lok17 (F : Nat) : LoopOK Try.prog (loopAt 17 (bodyOf Try.f3)) (laws_FnSlides_ls17 F) := by
  refine loopOK_of mixed ttok deep (laws_FnSlides_tabok F) (loopsOK_at (laws_FnSlides_lsok0 F) 17) (fuel := 70) fun R vals mem np killed k x h => ?_
  simp only [laws_FnSlides_ls17] at h
  split at h
  · rename_i q_list4 score8 q_round13 ahead14 long15 fine16 top20 there21 sum25 i26 b27 list28 end29 u30 round31 w32 now33
    simp only [GT.run] at h
    have hc := (cond_noneL h).1
    replace h := (cond_noneL h).2
    have hg := (and_split hc).1
    replace hc := (and_split hc).2
    obtain rfl := nbeq_nat hg
    have hg := (and_split hc).1
    replace hc := (and_split hc).2
    obtain rfl := nbeq_nat hg
    refine ⟨F, (laws_FnSlides_iter17 F score8 ahead14 long15 fine16 top20 there21 b27 list28 end29 u30 round31 w32 k F sum25 i26 now33).trans ((loopC_use (laws_FnSlides_s17_nat F score8 ahead14 long15 fine16 top20 there21 b27 list28 end29 u30 round31 w32) hc _).trans h)⟩
  · simp only [GT.run] at h
    cases h
noncomputable def laws_FnSlides_LS1 (F : Nat) : LT := (17, laws_FnSlides_ls17 F) :: laws_FnSlides_LS0 F
theorem laws_FnSlides_lsok1 (F : Nat) : LoopsOK Try.prog (laws_FnSlides_LS1 F) (bodyOf Try.f3) := loopsOK_cons laws_FnSlides_keys (laws_FnSlides_lok17 F) (laws_FnSlides_lsok0 F)
def laws_FnSlides_st31 (ahead2 : Int) (long3 : Int) (top7 : Int) (there8 : Bool) (round13 : List Int) (w14 : List Int) (i12 : Int) (now15 : List Int) : St := ⟨expand 284 0 [12, 13, 14, 19, 20, 21, 34, 35] [(.sl 0 0 (List.length round13)), (.int .i64 ahead2), (.int .i64 long3), (.ptr 1 0 0 16), (.int .i64 top7), (.bool there8), (.ptr 2 0 0 16), (.int .i64 i12)], [(.vec 3 (.ri .i64 round13)), (.var 16 (.ri .i64 w14)), (.var 16 (.ri .i64 now15))], 0, []⟩
def laws_FnSlides_o31 (ahead2 : Int) (long3 : Int) (top7 : Int) (there8 : Bool) (round13 : List Int) (w14 : List Int) (x : Bool × List Int) : GT := (.br x.1 (.out (.ret ⟨expand 284 0 [2] [(.bool false)], [], 0, []⟩)) (.out (.exit 2 ⟨expand 284 0 [12, 14, 19, 20, 21, 34] [(.sl 0 0 (List.length round13)), (.int .i64 long3), (.ptr 1 0 0 16), (.int .i64 top7), (.bool there8), (.ptr 2 0 0 16)], [(.vec 3 (.ri .i64 round13)), (.var 16 (.ri .i64 w14)), (.var 16 (.ri .i64 x.2))], 0, []⟩)))
def laws_FnSlides_ls31 (F : Nat) : LoopS := ⟨284, [12, 13, 14, 19, 20, 21, 34, 35], [], [12, 14, 19, 20, 21, 34], [], [2], [], [], fun vals mem np killed => match vals, mem, np, killed with
  | [(.sl 0 0 q_round1), (.int .i64 ahead2), (.int .i64 long3), (.ptr 1 0 0 16), (.int .i64 top7), (.bool there8), (.ptr 2 0 0 16), (.int .i64 i12)], [(.vec 3 (.ri .i64 round13)), (.var 16 (.ri .i64 w14)), (.var 16 (.ri .i64 now15))], 0, [] => .br ((Nat.beq q_round1 (List.length round13)) && (laws_FnSlides_l31 F ahead2 long3 top7 there8 round13 w14 i12 now15).isSome) (laws_FnSlides_o31 ahead2 long3 top7 there8 round13 w14 ((laws_FnSlides_l31 F ahead2 long3 top7 there8 round13 w14 i12 now15).getD default)) .fail
  | _, _, _, _ => .fail⟩
theorem laws_FnSlides_step31 (F : Nat) (ahead2 : Int) (long3 : Int) (top7 : Int) (there8 : Bool) (round13 : List Int) (w14 : List Int) (i12 : Int) (now15 : List Int) {R : Type} (k : Out → Option R) : stepS tt (laws_FnSlides_tab F) (laws_FnSlides_LS1 F) 70 (laws_FnSlides_ls31 F) (loopAt 31 (bodyOf Try.f3)) (laws_FnSlides_st31 ahead2 long3 top7 there8 round13 w14 i12 now15) k = laws_FnSlides_s31 F ahead2 long3 top7 there8 round13 w14 R (i12, now15) (fun s => k (.norm (laws_FnSlides_st31 ahead2 long3 top7 there8 round13 w14 s.1 s.2))) (fun x => (laws_FnSlides_o31 ahead2 long3 top7 there8 round13 w14 x).run k) := by kernel_rfl
theorem laws_FnSlides_iter31 (F : Nat) (ahead2 : Int) (long3 : Int) (top7 : Int) (there8 : Bool) (round13 : List Int) (w14 : List Int) {R : Type} (k : Out → Option R) : ∀ (n : Nat) (i12 : Int) (now15 : List Int), iterS tt (laws_FnSlides_tab F) (laws_FnSlides_LS1 F) 70 (laws_FnSlides_ls31 F) (loopAt 31 (bodyOf Try.f3)) n (laws_FnSlides_st31 ahead2 long3 top7 there8 round13 w14 i12 now15) k = loopC (laws_FnSlides_s31 F ahead2 long3 top7 there8 round13 w14) n (i12, now15) (fun x => (laws_FnSlides_o31 ahead2 long3 top7 there8 round13 w14 x).run k)
  | 0, i12, now15 => rfl
  | n + 1, i12, now15 => (iterS_succ tt (laws_FnSlides_tab F) (laws_FnSlides_LS1 F) 70 (laws_FnSlides_ls31 F) (loopAt 31 (bodyOf Try.f3)) n (laws_FnSlides_st31 ahead2 long3 top7 there8 round13 w14 i12 now15) k).trans ((laws_FnSlides_step31 F ahead2 long3 top7 there8 round13 w14 i12 now15 (nextK (iterS tt (laws_FnSlides_tab F) (laws_FnSlides_LS1 F) 70 (laws_FnSlides_ls31 F) (loopAt 31 (bodyOf Try.f3)) n) k)).trans (congrArg (fun kn => laws_FnSlides_s31 F ahead2 long3 top7 there8 round13 w14 R (i12, now15) kn _) (funext (fun ⟨i12, now15⟩ => laws_FnSlides_iter31 F ahead2 long3 top7 there8 round13 w14 k n i12 now15))))
theorem laws_FnSlides_lok31 (F : Nat) : LoopOK Try.prog (loopAt 31 (bodyOf Try.f3)) (laws_FnSlides_ls31 F) := by
  refine loopOK_of mixed ttok deep (laws_FnSlides_tabok F) (loopsOK_at (laws_FnSlides_lsok1 F) 31) (fuel := 70) fun R vals mem np killed k x h => ?_
  simp only [laws_FnSlides_ls31] at h
  split at h
  · rename_i q_round1 ahead2 long3 top7 there8 i12 round13 w14 now15
    simp only [GT.run] at h
    have hc := (cond_noneL h).1
    replace h := (cond_noneL h).2
    have hg := (and_split hc).1
    replace hc := (and_split hc).2
    obtain rfl := nbeq_nat hg
    refine ⟨F, (laws_FnSlides_iter31 F ahead2 long3 top7 there8 round13 w14 k F i12 now15).trans ((loopC_use (laws_FnSlides_s31_nat F ahead2 long3 top7 there8 round13 w14) hc _).trans h)⟩
  · simp only [GT.run] at h
    cases h
noncomputable def laws_FnSlides_LS2 (F : Nat) : LT := (31, laws_FnSlides_ls31 F) :: laws_FnSlides_LS1 F
theorem laws_FnSlides_lsok2 (F : Nat) : LoopsOK Try.prog (laws_FnSlides_LS2 F) (bodyOf Try.f3) := loopsOK_cons laws_FnSlides_keys (laws_FnSlides_lok31 F) (laws_FnSlides_lsok1 F)
def laws_FnSlides_st39 (long2 : Int) (top6 : Int) (there7 : Bool) (round15 : List Int) (w16 : List Int) (now17 : List Int) (i14 : Int) (back18 : List Int) : St := ⟨expand 284 0 [12, 14, 19, 20, 21, 34, 39, 40] [(.sl 0 0 (List.length round15)), (.int .i64 long2), (.ptr 1 0 0 16), (.int .i64 top6), (.bool there7), (.ptr 2 0 0 16), (.ptr 3 0 0 16), (.int .i64 i14)], [(.vec 3 (.ri .i64 round15)), (.var 16 (.ri .i64 w16)), (.var 16 (.ri .i64 now17)), (.var 16 (.ri .i64 back18))], 0, []⟩
def laws_FnSlides_o39 (long2 : Int) (top6 : Int) (there7 : Bool) (round15 : List Int) (w16 : List Int) (now17 : List Int) (x : Bool × List Int) : GT := (.br x.1 (.out (.ret ⟨expand 284 0 [2] [(.bool false)], [], 0, []⟩)) (.out (.exit 4 ⟨expand 284 0 [14, 19, 20, 21, 34, 39] [(.int .i64 long2), (.ptr 0 0 0 16), (.int .i64 top6), (.bool there7), (.ptr 1 0 0 16), (.ptr 2 0 0 16)], [(.var 16 (.ri .i64 w16)), (.var 16 (.ri .i64 now17)), (.var 16 (.ri .i64 x.2))], 0, []⟩)))
def laws_FnSlides_ls39 (F : Nat) : LoopS := ⟨284, [12, 14, 19, 20, 21, 34, 39, 40], [], [14, 19, 20, 21, 34, 39], [], [2], [], [], fun vals mem np killed => match vals, mem, np, killed with
  | [(.sl 0 0 q_round1), (.int .i64 long2), (.ptr 1 0 0 16), (.int .i64 top6), (.bool there7), (.ptr 2 0 0 16), (.ptr 3 0 0 16), (.int .i64 i14)], [(.vec 3 (.ri .i64 round15)), (.var 16 (.ri .i64 w16)), (.var 16 (.ri .i64 now17)), (.var 16 (.ri .i64 back18))], 0, [] => .br ((Nat.beq q_round1 (List.length round15)) && (laws_FnSlides_l39 F long2 top6 there7 round15 w16 now17 i14 back18).isSome) (laws_FnSlides_o39 long2 top6 there7 round15 w16 now17 ((laws_FnSlides_l39 F long2 top6 there7 round15 w16 now17 i14 back18).getD default)) .fail
  | _, _, _, _ => .fail⟩
theorem laws_FnSlides_step39 (F : Nat) (long2 : Int) (top6 : Int) (there7 : Bool) (round15 : List Int) (w16 : List Int) (now17 : List Int) (i14 : Int) (back18 : List Int) {R : Type} (k : Out → Option R) : stepS tt (laws_FnSlides_tab F) (laws_FnSlides_LS2 F) 70 (laws_FnSlides_ls39 F) (loopAt 39 (bodyOf Try.f3)) (laws_FnSlides_st39 long2 top6 there7 round15 w16 now17 i14 back18) k = laws_FnSlides_s39 F long2 top6 there7 round15 w16 now17 R (i14, back18) (fun s => k (.norm (laws_FnSlides_st39 long2 top6 there7 round15 w16 now17 s.1 s.2))) (fun x => (laws_FnSlides_o39 long2 top6 there7 round15 w16 now17 x).run k) := by kernel_rfl
theorem laws_FnSlides_iter39 (F : Nat) (long2 : Int) (top6 : Int) (there7 : Bool) (round15 : List Int) (w16 : List Int) (now17 : List Int) {R : Type} (k : Out → Option R) : ∀ (n : Nat) (i14 : Int) (back18 : List Int), iterS tt (laws_FnSlides_tab F) (laws_FnSlides_LS2 F) 70 (laws_FnSlides_ls39 F) (loopAt 39 (bodyOf Try.f3)) n (laws_FnSlides_st39 long2 top6 there7 round15 w16 now17 i14 back18) k = loopC (laws_FnSlides_s39 F long2 top6 there7 round15 w16 now17) n (i14, back18) (fun x => (laws_FnSlides_o39 long2 top6 there7 round15 w16 now17 x).run k)
  | 0, i14, back18 => rfl
  | n + 1, i14, back18 => (iterS_succ tt (laws_FnSlides_tab F) (laws_FnSlides_LS2 F) 70 (laws_FnSlides_ls39 F) (loopAt 39 (bodyOf Try.f3)) n (laws_FnSlides_st39 long2 top6 there7 round15 w16 now17 i14 back18) k).trans ((laws_FnSlides_step39 F long2 top6 there7 round15 w16 now17 i14 back18 (nextK (iterS tt (laws_FnSlides_tab F) (laws_FnSlides_LS2 F) 70 (laws_FnSlides_ls39 F) (loopAt 39 (bodyOf Try.f3)) n) k)).trans (congrArg (fun kn => laws_FnSlides_s39 F long2 top6 there7 round15 w16 now17 R (i14, back18) kn _) (funext (fun ⟨i14, back18⟩ => laws_FnSlides_iter39 F long2 top6 there7 round15 w16 now17 k n i14 back18))))
theorem laws_FnSlides_lok39 (F : Nat) : LoopOK Try.prog (loopAt 39 (bodyOf Try.f3)) (laws_FnSlides_ls39 F) := by
  refine loopOK_of mixed ttok deep (laws_FnSlides_tabok F) (loopsOK_at (laws_FnSlides_lsok2 F) 39) (fuel := 70) fun R vals mem np killed k x h => ?_
  simp only [laws_FnSlides_ls39] at h
  split at h
  · rename_i q_round1 long2 top6 there7 i14 round15 w16 now17 back18
    simp only [GT.run] at h
    have hc := (cond_noneL h).1
    replace h := (cond_noneL h).2
    have hg := (and_split hc).1
    replace hc := (and_split hc).2
    obtain rfl := nbeq_nat hg
    refine ⟨F, (laws_FnSlides_iter39 F long2 top6 there7 round15 w16 now17 k F i14 back18).trans ((loopC_use (laws_FnSlides_s39_nat F long2 top6 there7 round15 w16 now17) hc _).trans h)⟩
  · simp only [GT.run] at h
    cases h
noncomputable def laws_FnSlides_LS3 (F : Nat) : LT := (39, laws_FnSlides_ls39 F) :: laws_FnSlides_LS2 F
theorem laws_FnSlides_lsok3 (F : Nat) : LoopsOK Try.prog (laws_FnSlides_LS3 F) (bodyOf Try.f3) := loopsOK_cons laws_FnSlides_keys (laws_FnSlides_lok39 F) (laws_FnSlides_lsok2 F)
theorem laws_FnSlides_run (F : Nat) (code0 : List Int) : runS tt (laws_FnSlides_tab F) (laws_FnSlides_LS3 F) [] [] Try.f3 (bodyOf Try.f3) 70 [(.ri .u8 code0)] [] = laws_FnSlides_c _ F code0 (fun r => some ⟨(.bool r), [], []⟩) := by kernel_rfl
def laws_FnSlides_ent (F : Nat) : Ent := ⟨[], .quiet, fun args mem => match args, mem with
  | [(.ri .u8 code0)], [] => some ((laws_FnSlides_p F code0).isSome, ⟨(.bool ((laws_FnSlides_p F code0).getD default)), [], []⟩)
  | _, _ => none⟩
theorem laws_FnSlides_fok : FunOK Try.prog 3 := funOK Try.func3 (by kernel_rfl) rfl
theorem laws_FnSlides_meets (F : Nat) : Meets Try.prog 3 (laws_FnSlides_ent F) := by
  refine meets_of_runS mixed ttok deep (laws_FnSlides_tabok F) Try.func3 (body_some rfl) (laws_FnSlides_lsok3 F) fun args mem hfit ret h => ?_
  clear hfit
  simp only [laws_FnSlides_ent] at h
  split at h
  · rename_i code0
    simp only [Option.some.injEq, Prod.mk.injEq] at h
    obtain ⟨hc, rfl⟩ := h
    exact ⟨[], [], 70, _, (laws_FnSlides_run F code0).trans ((laws_FnSlides_cp _ F code0 _).trans (bind_use hc _)), rfl, rfl, rfl⟩
  · cases h
end Go.Proofs.Ytabfliifleonaah
