/-
Pure functions and what the code of them does, by program; without conditions.
-/
import Derived.Test.YtloemkielkdegaaTIP7
import Derived.Test.YtloemkielkdegaaTIS6
namespace Go.Proofs.Ytloemkielkdegaa
open Go Go.Lv Go.Lv.P Go.Proofs
set_option linter.unusedVariables false
set_option linter.unusedSimpArgs false
set_option maxRecDepth 100000
/-! loop.example/g01194/spec.l7Potential -/
noncomputable def spec_l7Potential_tab (F : Nat) : Tab := [(56, (spec_l2Worth_ent F))]
theorem spec_l7Potential_tabok (F : Nat) : TabOK Try.prog (spec_l7Potential_tab F) := (tab_cons (spec_l2Worth_meets F) spec_l2Worth_fok tab_nil)
noncomputable def spec_l7Potential_LS0 (F : Nat) : LT := []
theorem spec_l7Potential_lsok0 (F : Nat) : LoopsOK Try.prog (spec_l7Potential_LS0 F) (bodyOf Try.f31) := loopsOK_nil
theorem spec_l7Potential_keys : keysOK (bodyOf Try.f31) = true := by kernel_rfl
def spec_l7Potential_st6 (r4 : Int) (b6 : List Int) (sum3 : Int) (c5 : Int) : St := ⟨expand 31 0 [1, 3, 4, 5] [(.ptr 0 0 0 16), (.int .i64 sum3), (.int .i64 r4), (.int .i64 c5)], [(.var 16 (.ri .i64 b6))], 0, []⟩
def spec_l7Potential_o6 (r4 : Int) (b6 : List Int) (x : Int) : GT := (.out (.exit 2 ⟨expand 31 0 [1, 3, 4] [(.ptr 0 0 0 16), (.int .i64 x), (.int .i64 r4)], [(.var 16 (.ri .i64 b6))], 0, []⟩))
def spec_l7Potential_ls6 (F : Nat) : LoopS := ⟨31, [1, 3, 4, 5], [], [1, 3, 4], [], [2], [], [], fun vals mem np killed => match vals, mem, np, killed with
  | [(.ptr 0 0 0 16), (.int .i64 sum3), (.int .i64 r4), (.int .i64 c5)], [(.var 16 (.ri .i64 b6))], 0, [] => .br (spec_l7Potential_l6 F r4 b6 sum3 c5).isSome (spec_l7Potential_o6 r4 b6 ((spec_l7Potential_l6 F r4 b6 sum3 c5).getD default)) .fail
  | _, _, _, _ => .fail⟩
theorem spec_l7Potential_step6 (F : Nat) (r4 : Int) (b6 : List Int) (sum3 : Int) (c5 : Int) {R : Type} (k : Out → Option R) : stepS tt (spec_l7Potential_tab F) (spec_l7Potential_LS0 F) 70 (spec_l7Potential_ls6 F) (loopAt 6 (bodyOf Try.f31)) (spec_l7Potential_st6 r4 b6 sum3 c5) k = spec_l7Potential_s6 F r4 b6 R (sum3, c5) (fun s => k (.norm (spec_l7Potential_st6 r4 b6 s.1 s.2))) (fun x => (spec_l7Potential_o6 r4 b6 x).run k) := by kernel_rfl
theorem spec_l7Potential_iter6 (F : Nat) (r4 : Int) (b6 : List Int) {R : Type} (k : Out → Option R) : ∀ (n : Nat) (sum3 : Int) (c5 : Int), iterS tt (spec_l7Potential_tab F) (spec_l7Potential_LS0 F) 70 (spec_l7Potential_ls6 F) (loopAt 6 (bodyOf Try.f31)) n (spec_l7Potential_st6 r4 b6 sum3 c5) k = loopC (spec_l7Potential_s6 F r4 b6) n (sum3, c5) (fun x => (spec_l7Potential_o6 r4 b6 x).run k)
  | 0, sum3, c5 => rfl
  | n + 1, sum3, c5 => (iterS_succ tt (spec_l7Potential_tab F) (spec_l7Potential_LS0 F) 70 (spec_l7Potential_ls6 F) (loopAt 6 (bodyOf Try.f31)) n (spec_l7Potential_st6 r4 b6 sum3 c5) k).trans ((spec_l7Potential_step6 F r4 b6 sum3 c5 (nextK (iterS tt (spec_l7Potential_tab F) (spec_l7Potential_LS0 F) 70 (spec_l7Potential_ls6 F) (loopAt 6 (bodyOf Try.f31)) n) k)).trans (congrArg (fun kn => spec_l7Potential_s6 F r4 b6 R (sum3, c5) kn _) (funext (fun ⟨sum3, c5⟩ => spec_l7Potential_iter6 F r4 b6 k n sum3 c5))))
theorem spec_l7Potential_lok6 (F : Nat) : LoopOK Try.prog (loopAt 6 (bodyOf Try.f31)) (spec_l7Potential_ls6 F) := by
  refine loopOK_of mixed ttok deep (spec_l7Potential_tabok F) (loopsOK_at (spec_l7Potential_lsok0 F) 6) (fuel := 70) fun R vals mem np killed k x h => ?_
  simp only [spec_l7Potential_ls6] at h
  split at h
  · rename_i sum3 r4 c5 b6
    simp only [GT.run] at h
    have hc := (cond_noneL h).1
    replace h := (cond_noneL h).2
    refine ⟨F, (spec_l7Potential_iter6 F r4 b6 k F sum3 c5).trans ((loopC_use (spec_l7Potential_s6_nat F r4 b6) hc _).trans h)⟩
  · simp only [GT.run] at h
    cases h
noncomputable def spec_l7Potential_LS1 (F : Nat) : LT := (6, spec_l7Potential_ls6 F) :: spec_l7Potential_LS0 F
theorem spec_l7Potential_lsok1 (F : Nat) : LoopsOK Try.prog (spec_l7Potential_LS1 F) (bodyOf Try.f31) := loopsOK_cons spec_l7Potential_keys (spec_l7Potential_lok6 F) (spec_l7Potential_lsok0 F)
def spec_l7Potential_st3 (b5 : List Int) (sum3 : Int) (r4 : Int) : St := ⟨expand 31 0 [1, 3, 4] [(.ptr 0 0 0 16), (.int .i64 sum3), (.int .i64 r4)], [(.var 16 (.ri .i64 b5))], 0, []⟩
def spec_l7Potential_o3 (b5 : List Int) (x : Int) : GT := (.out (.exit 0 ⟨expand 31 0 [3] [(.int .i64 x)], [], 0, []⟩))
def spec_l7Potential_ls3 (F : Nat) : LoopS := ⟨31, [1, 3, 4], [], [3], [], [2], [], [], fun vals mem np killed => match vals, mem, np, killed with
  | [(.ptr 0 0 0 16), (.int .i64 sum3), (.int .i64 r4)], [(.var 16 (.ri .i64 b5))], 0, [] => .br (spec_l7Potential_l3 F b5 sum3 r4).isSome (spec_l7Potential_o3 b5 ((spec_l7Potential_l3 F b5 sum3 r4).getD default)) .fail
  | _, _, _, _ => .fail⟩
theorem spec_l7Potential_step3 (F : Nat) (b5 : List Int) (sum3 : Int) (r4 : Int) {R : Type} (k : Out → Option R) : stepS tt (spec_l7Potential_tab F) (spec_l7Potential_LS1 F) 70 (spec_l7Potential_ls3 F) (loopAt 3 (bodyOf Try.f31)) (spec_l7Potential_st3 b5 sum3 r4) k = spec_l7Potential_s3 F b5 R (sum3, r4) (fun s => k (.norm (spec_l7Potential_st3 b5 s.1 s.2))) (fun x => (spec_l7Potential_o3 b5 x).run k) := by kernel_rfl
theorem spec_l7Potential_iter3 (F : Nat) (b5 : List Int) {R : Type} (k : Out → Option R) : ∀ (n : Nat) (sum3 : Int) (r4 : Int), iterS tt (spec_l7Potential_tab F) (spec_l7Potential_LS1 F) 70 (spec_l7Potential_ls3 F) (loopAt 3 (bodyOf Try.f31)) n (spec_l7Potential_st3 b5 sum3 r4) k = loopC (spec_l7Potential_s3 F b5) n (sum3, r4) (fun x => (spec_l7Potential_o3 b5 x).run k)
  | 0, sum3, r4 => rfl
  | n + 1, sum3, r4 => (iterS_succ tt (spec_l7Potential_tab F) (spec_l7Potential_LS1 F) 70 (spec_l7Potential_ls3 F) (loopAt 3 (bodyOf Try.f31)) n (spec_l7Potential_st3 b5 sum3 r4) k).trans ((spec_l7Potential_step3 F b5 sum3 r4 (nextK (iterS tt (spec_l7Potential_tab F) (spec_l7Potential_LS1 F) 70 (spec_l7Potential_ls3 F) (loopAt 3 (bodyOf Try.f31)) n) k)).trans (congrArg (fun kn => spec_l7Potential_s3 F b5 R (sum3, r4) kn _) (funext (fun ⟨sum3, r4⟩ => spec_l7Potential_iter3 F b5 k n sum3 r4))))
theorem spec_l7Potential_lok3 (F : Nat) : LoopOK Try.prog (loopAt 3 (bodyOf Try.f31)) (spec_l7Potential_ls3 F) := by
  refine loopOK_of mixed ttok deep (spec_l7Potential_tabok F) (loopsOK_at (spec_l7Potential_lsok1 F) 3) (fuel := 70) fun R vals mem np killed k x h => ?_
  simp only [spec_l7Potential_ls3] at h
  split at h
  · rename_i sum3 r4 b5
    simp only [GT.run] at h
    have hc := (cond_noneL h).1
    replace h := (cond_noneL h).2
    refine ⟨F, (spec_l7Potential_iter3 F b5 k F sum3 r4).trans ((loopC_use (spec_l7Potential_s3_nat F b5) hc _).trans h)⟩
  · simp only [GT.run] at h
    cases h
noncomputable def spec_l7Potential_LS2 (F : Nat) : LT := (3, spec_l7Potential_ls3 F) :: spec_l7Potential_LS1 F
theorem spec_l7Potential_lsok2 (F : Nat) : LoopsOK Try.prog (spec_l7Potential_LS2 F) (bodyOf Try.f31) := loopsOK_cons spec_l7Potential_keys (spec_l7Potential_lok3 F) (spec_l7Potential_lsok1 F)
theorem spec_l7Potential_run (F : Nat) (b0 : List Int) : runS tt (spec_l7Potential_tab F) (spec_l7Potential_LS2 F) [] [] Try.f31 (bodyOf Try.f31) 70 [(.ints 16 b0)] [] = spec_l7Potential_c _ F b0 (fun r => some ⟨(.int .i64 r), [], []⟩) := by kernel_rfl
def spec_l7Potential_ent (F : Nat) : Ent := ⟨[], .quiet, fun args mem => match args, mem with
  | [(.ints 16 b0)], [] => some ((spec_l7Potential_p F b0).isSome, ⟨(.int .i64 ((spec_l7Potential_p F b0).getD default)), [], []⟩)
  | _, _ => none⟩
theorem spec_l7Potential_fok : FunOK Try.prog 31 := funOK Try.func31 (by kernel_rfl) rfl
theorem spec_l7Potential_meets (F : Nat) : Meets Try.prog 31 (spec_l7Potential_ent F) := by
  refine meets_of_runS mixed ttok deep (spec_l7Potential_tabok F) Try.func31 (body_some rfl) (spec_l7Potential_lsok2 F) fun args mem hfit ret h => ?_
  clear hfit
  simp only [spec_l7Potential_ent] at h
  split at h
  · rename_i b0
    simp only [Option.some.injEq, Prod.mk.injEq] at h
    obtain ⟨hc, rfl⟩ := h
    exact ⟨[], [], 70, _, (spec_l7Potential_run F b0).trans ((spec_l7Potential_cp _ F b0 _).trans (bind_use hc _)), rfl, rfl, rfl⟩
  · cases h

/-! loop.example/g01194/spec.PotentialOf -/
noncomputable def spec_PotentialOf_tab (F : Nat) : Tab := [(17, (spec_l2Board_ent F)), (31, (spec_l7Potential_ent F))]
theorem spec_PotentialOf_tabok (F : Nat) : TabOK Try.prog (spec_PotentialOf_tab F) := (tab_cons (spec_l2Board_meets F) spec_l2Board_fok (tab_cons (spec_l7Potential_meets F) spec_l7Potential_fok tab_nil))
noncomputable def spec_PotentialOf_LS0 (F : Nat) : LT := []
theorem spec_PotentialOf_lsok0 (F : Nat) : LoopsOK Try.prog (spec_PotentialOf_LS0 F) (bodyOf Try.f13) := loopsOK_nil
theorem spec_PotentialOf_run (F : Nat) (b0 : List Int) : runS tt (spec_PotentialOf_tab F) (spec_PotentialOf_LS0 F) [] [] Try.f13 (bodyOf Try.f13) 70 [(.ints 16 b0)] [] = spec_PotentialOf_c _ F b0 (fun r => some ⟨(.tup [(.int .i64 r.1), (.bool r.2)]), [], []⟩) := by kernel_rfl
def spec_PotentialOf_ent (F : Nat) : Ent := ⟨[], .quiet, fun args mem => match args, mem with
  | [(.ints 16 b0)], [] => some ((spec_PotentialOf_p F b0).isSome, ⟨(.tup [(.int .i64 ((spec_PotentialOf_p F b0).getD default).1), (.bool ((spec_PotentialOf_p F b0).getD default).2)]), [], []⟩)
  | _, _ => none⟩
theorem spec_PotentialOf_fok : FunOK Try.prog 13 := funOK Try.func13 (by kernel_rfl) rfl
theorem spec_PotentialOf_meets (F : Nat) : Meets Try.prog 13 (spec_PotentialOf_ent F) := by
  refine meets_of_runS mixed ttok deep (spec_PotentialOf_tabok F) Try.func13 (body_some rfl) (spec_PotentialOf_lsok0 F) fun args mem hfit ret h => ?_
  clear hfit
  simp only [spec_PotentialOf_ent] at h
  split at h
  · rename_i b0
    simp only [Option.some.injEq, Prod.mk.injEq] at h
    obtain ⟨hc, rfl⟩ := h
    exact ⟨[], [], 70, _, (spec_PotentialOf_run F b0).trans ((spec_PotentialOf_cp _ F b0 _).trans (bind_use hc _)), rfl, rfl, rfl⟩
  · cases h

/-! slices.Grow[[]int,int] -/
noncomputable def slices_Grow_intint_tab (F : Nat) : Tab := []
theorem slices_Grow_intint_tabok (F : Nat) : TabOK Try.prog (slices_Grow_intint_tab F) := tab_nil
noncomputable def slices_Grow_intint_LS0 (F : Nat) : LT := []
theorem slices_Grow_intint_lsok0 (F : Nat) : LoopsOK Try.prog (slices_Grow_intint_LS0 F) (bodyOf Try.f89) := loopsOK_nil
theorem slices_Grow_intint_run (F : Nat) (n0 : Int) : runS tt (slices_Grow_intint_tab F) (slices_Grow_intint_LS0 F) [⟨4, 3, (.ri .i64 ([] : List Int))⟩] [] Try.f89 (bodyOf Try.f89) 70 [.z0, (.int .i64 n0)] [] = slices_Grow_intint_c _ n0 (fun r => some ⟨(.sl 0 0 0), [(.vec 3 (.ri .i64 r))], []⟩) := by kernel_rfl
def slices_Grow_intint_ent (F : Nat) : Ent := ⟨[true], .fresh, fun args mem => match args, mem with
  | [.z0, (.int .i64 n0)], [] => some ((slices_Grow_intint_p n0).isSome, ⟨(.sl 0 0 0), [(.vec 3 (.ri .i64 ((slices_Grow_intint_p n0).getD default)))], []⟩)
  | _, _ => none⟩
theorem slices_Grow_intint_fok : FunOK Try.prog 89 := funOK Try.func89 (by kernel_rfl) rfl
theorem slices_Grow_intint_meets (F : Nat) : Meets Try.prog 89 (slices_Grow_intint_ent F) := by
  refine meets_of_runS mixed ttok deep (slices_Grow_intint_tabok F) Try.func89 (body_some rfl) (slices_Grow_intint_lsok0 F) fun args mem hfit ret h => ?_
  clear hfit
  simp only [slices_Grow_intint_ent] at h
  split at h
  · rename_i n0
    simp only [Option.some.injEq, Prod.mk.injEq] at h
    obtain ⟨hc, rfl⟩ := h
    exact ⟨[⟨4, 3, (.ri .i64 ([] : List Int))⟩], [], 70, _, (slices_Grow_intint_run F n0).trans ((slices_Grow_intint_cp _ n0 _).trans (bind_use hc _)), rfl, rfl, rfl⟩
  · cases h

/-! slices.Concat[[]int,int] -/
noncomputable def slices_Concat_intint_tab (F : Nat) : Tab := [(89, (slices_Grow_intint_ent F))]
theorem slices_Concat_intint_tabok (F : Nat) : TabOK Try.prog (slices_Concat_intint_tab F) := (tab_cons (slices_Grow_intint_meets F) slices_Grow_intint_fok tab_nil)
noncomputable def slices_Concat_intint_LS0 (F : Nat) : LT := []
theorem slices_Concat_intint_lsok0 (F : Nat) : LoopsOK Try.prog (slices_Concat_intint_LS0 F) (bodyOf Try.f77) := loopsOK_nil
theorem slices_Concat_intint_run (F : Nat) (slices0 : List Int) (slices1 : List Int) (slices2 : List Int) (slices3 : List Int) : runS tt (slices_Concat_intint_tab F) (slices_Concat_intint_LS0 F) [] [] Try.f77 (bodyOf Try.f77) 70 [(.rv [(.ri .i64 slices0), (.ri .i64 slices1), (.ri .i64 slices2), (.ri .i64 slices3)])] [] = slices_Concat_intint_c _ slices0 slices1 slices2 slices3 (fun r => some ⟨(.sl 0 0 (List.length r)), [(.vec 3 (.ri .i64 r))], []⟩) := by kernel_rfl
def slices_Concat_intint_ent (F : Nat) : Ent := ⟨[], .fresh, fun args mem => match args, mem with
  | [(.rv [(.ri .i64 slices0), (.ri .i64 slices1), (.ri .i64 slices2), (.ri .i64 slices3)])], [] => some ((slices_Concat_intint_p slices0 slices1 slices2 slices3).isSome, ⟨(.sl 0 0 (List.length ((slices_Concat_intint_p slices0 slices1 slices2 slices3).getD default))), [(.vec 3 (.ri .i64 ((slices_Concat_intint_p slices0 slices1 slices2 slices3).getD default)))], []⟩)
  | _, _ => none⟩
theorem slices_Concat_intint_fok : FunOK Try.prog 77 := funOK Try.func77 (by kernel_rfl) rfl
theorem slices_Concat_intint_meets (F : Nat) : Meets Try.prog 77 (slices_Concat_intint_ent F) := by
  refine meets_of_runS mixed ttok deep (slices_Concat_intint_tabok F) Try.func77 (body_some rfl) (slices_Concat_intint_lsok0 F) fun args mem hfit ret h => ?_
  clear hfit
  simp only [slices_Concat_intint_ent] at h
  split at h
  · rename_i slices0 slices1 slices2 slices3
    simp only [Option.some.injEq, Prod.mk.injEq] at h
    obtain ⟨hc, rfl⟩ := h
    exact ⟨[], [], 70, _, (slices_Concat_intint_run F slices0 slices1 slices2 slices3).trans ((slices_Concat_intint_cp _ slices0 slices1 slices2 slices3 _).trans (bind_use hc _)), rfl, rfl, rfl⟩
  · cases h

/-! (loop.example/g01194/impl.Board).flat -/
noncomputable def impl_Board_flat_tab (F : Nat) : Tab := [(77, (slices_Concat_intint_ent F))]
theorem impl_Board_flat_tabok (F : Nat) : TabOK Try.prog (impl_Board_flat_tab F) := (tab_cons (slices_Concat_intint_meets F) slices_Concat_intint_fok tab_nil)
noncomputable def impl_Board_flat_LS0 (F : Nat) : LT := []
theorem impl_Board_flat_lsok0 (F : Nat) : LoopsOK Try.prog (impl_Board_flat_LS0 F) (bodyOf Try.f57) := loopsOK_nil
theorem impl_Board_flat_run (F : Nat) (b0 : List Int) : runS tt (impl_Board_flat_tab F) (impl_Board_flat_LS0 F) [] [] Try.f57 (bodyOf Try.f57) 70 [(.ints 16 b0)] [] = impl_Board_flat_c _ b0 (fun r => some ⟨(.sl 0 0 (List.length r)), [(.vec 3 (.ri .i64 r))], []⟩) := by kernel_rfl
def impl_Board_flat_ent (F : Nat) : Ent := ⟨[], .fresh, fun args mem => match args, mem with
  | [(.ints 16 b0)], [] => some ((impl_Board_flat_p b0).isSome, ⟨(.sl 0 0 (List.length ((impl_Board_flat_p b0).getD default))), [(.vec 3 (.ri .i64 ((impl_Board_flat_p b0).getD default)))], []⟩)
  | _, _ => none⟩
theorem impl_Board_flat_fok : FunOK Try.prog 57 := funOK Try.func57 (by kernel_rfl) rfl
theorem impl_Board_flat_meets (F : Nat) : Meets Try.prog 57 (impl_Board_flat_ent F) := by
  refine meets_of_runS mixed ttok deep (impl_Board_flat_tabok F) Try.func57 (body_some rfl) (impl_Board_flat_lsok0 F) fun args mem hfit ret h => ?_
  clear hfit
  simp only [impl_Board_flat_ent] at h
  split at h
  · rename_i b0
    simp only [Option.some.injEq, Prod.mk.injEq] at h
    obtain ⟨hc, rfl⟩ := h
    exact ⟨[], [], 70, _, (impl_Board_flat_run F b0).trans ((impl_Board_flat_cp _ b0 _).trans (bind_use hc _)), rfl, rfl, rfl⟩
  · cases h

/-! (loop.example/g01194/impl.Board).potential -/
noncomputable def impl_Board_potential_tab (F : Nat) : Tab := [(57, (impl_Board_flat_ent F)), (58, (impl_worth_ent F))]
theorem impl_Board_potential_tabok (F : Nat) : TabOK Try.prog (impl_Board_potential_tab F) := (tab_cons (impl_Board_flat_meets F) impl_Board_flat_fok (tab_cons (impl_worth_meets F) impl_worth_fok tab_nil))
noncomputable def impl_Board_potential_LS0 (F : Nat) : LT := []
theorem impl_Board_potential_lsok0 (F : Nat) : LoopsOK Try.prog (impl_Board_potential_LS0 F) (bodyOf Try.f32) := loopsOK_nil
theorem impl_Board_potential_keys : keysOK (bodyOf Try.f32) = true := by kernel_rfl
def impl_Board_potential_st3 (t83 : Int) (t75 : List Int) (sum0 : Int) (t94 : Int) : St := ⟨expand 24 0 [3, 7, 8, 9] [(.int .i64 sum0), (.sl 0 0 (List.length t75)), (.int .i64 t83), (.int .i64 t94)], [(.vec 3 (.ri .i64 t75))], 0, []⟩
def impl_Board_potential_o3 (t83 : Int) (t75 : List Int) (x : Int) : GT := (.out (.exit 0 ⟨expand 24 0 [3] [(.int .i64 x)], [], 0, []⟩))
def impl_Board_potential_ls3 (F : Nat) : LoopS := ⟨24, [3, 7, 8, 9], [], [3], [], [2], [], [], fun vals mem np killed => match vals, mem, np, killed with
  | [(.int .i64 sum0), (.sl 0 0 q_t72), (.int .i64 t83), (.int .i64 t94)], [(.vec 3 (.ri .i64 t75))], 0, [] => .br ((Nat.beq q_t72 (List.length t75)) && (impl_Board_potential_l3 F t83 t75 sum0 t94).isSome) (impl_Board_potential_o3 t83 t75 ((impl_Board_potential_l3 F t83 t75 sum0 t94).getD default)) .fail
  | _, _, _, _ => .fail⟩
theorem impl_Board_potential_step3 (F : Nat) (t83 : Int) (t75 : List Int) (sum0 : Int) (t94 : Int) {R : Type} (k : Out → Option R) : stepS tt (impl_Board_potential_tab F) (impl_Board_potential_LS0 F) 70 (impl_Board_potential_ls3 F) (loopAt 3 (bodyOf Try.f32)) (impl_Board_potential_st3 t83 t75 sum0 t94) k = impl_Board_potential_s3 F t83 t75 R (sum0, t94) (fun s => k (.norm (impl_Board_potential_st3 t83 t75 s.1 s.2))) (fun x => (impl_Board_potential_o3 t83 t75 x).run k) := by kernel_rfl
theorem impl_Board_potential_iter3 (F : Nat) (t83 : Int) (t75 : List Int) {R : Type} (k : Out → Option R) : ∀ (n : Nat) (sum0 : Int) (t94 : Int), iterS tt (impl_Board_potential_tab F) (impl_Board_potential_LS0 F) 70 (impl_Board_potential_ls3 F) (loopAt 3 (bodyOf Try.f32)) n (impl_Board_potential_st3 t83 t75 sum0 t94) k = loopC (impl_Board_potential_s3 F t83 t75) n (sum0, t94) (fun x => (impl_Board_potential_o3 t83 t75 x).run k)
  | 0, sum0, t94 => rfl
  | n + 1, sum0, t94 => (iterS_succ tt (impl_Board_potential_tab F) (impl_Board_potential_LS0 F) 70 (impl_Board_potential_ls3 F) (loopAt 3 (bodyOf Try.f32)) n (impl_Board_potential_st3 t83 t75 sum0 t94) k).trans ((impl_Board_potential_step3 F t83 t75 sum0 t94 (nextK (iterS tt (impl_Board_potential_tab F) (impl_Board_potential_LS0 F) 70 (impl_Board_potential_ls3 F) (loopAt 3 (bodyOf Try.f32)) n) k)).trans (congrArg (fun kn => impl_Board_potential_s3 F t83 t75 R (sum0, t94) kn _) (funext (fun ⟨sum0, t94⟩ => impl_Board_potential_iter3 F t83 t75 k n sum0 t94))))
theorem impl_Board_potential_lok3 (F : Nat) : LoopOK Try.prog (loopAt 3 (bodyOf Try.f32)) (impl_Board_potential_ls3 F) := by
  refine loopOK_of mixed ttok deep (impl_Board_potential_tabok F) (loopsOK_at (impl_Board_potential_lsok0 F) 3) (fuel := 70) fun R vals mem np killed k x h => ?_
  simp only [impl_Board_potential_ls3] at h
  split at h
  · rename_i sum0 q_t72 t83 t94 t75
    simp only [GT.run] at h
    have hc := (cond_noneL h).1
    replace h := (cond_noneL h).2
    have hg := (and_split hc).1
    replace hc := (and_split hc).2
    obtain rfl := nbeq_nat hg
    refine ⟨F, (impl_Board_potential_iter3 F t83 t75 k F sum0 t94).trans ((loopC_use (impl_Board_potential_s3_nat F t83 t75) hc _).trans h)⟩
  · simp only [GT.run] at h
    cases h
noncomputable def impl_Board_potential_LS1 (F : Nat) : LT := (3, impl_Board_potential_ls3 F) :: impl_Board_potential_LS0 F
theorem impl_Board_potential_lsok1 (F : Nat) : LoopsOK Try.prog (impl_Board_potential_LS1 F) (bodyOf Try.f32) := loopsOK_cons impl_Board_potential_keys (impl_Board_potential_lok3 F) (impl_Board_potential_lsok0 F)
theorem impl_Board_potential_run (F : Nat) (b0 : List Int) : runS tt (impl_Board_potential_tab F) (impl_Board_potential_LS1 F) [] [] Try.f32 (bodyOf Try.f32) 70 [(.ints 16 b0)] [] = impl_Board_potential_c _ F b0 (fun r => some ⟨(.int .i64 r), [], []⟩) := by kernel_rfl
def impl_Board_potential_ent (F : Nat) : Ent := ⟨[], .quiet, fun args mem => match args, mem with
  | [(.ints 16 b0)], [] => some ((impl_Board_potential_p F b0).isSome, ⟨(.int .i64 ((impl_Board_potential_p F b0).getD default)), [], []⟩)
  | _, _ => none⟩
theorem impl_Board_potential_fok : FunOK Try.prog 32 := funOK Try.func32 (by kernel_rfl) rfl
theorem impl_Board_potential_meets (F : Nat) : Meets Try.prog 32 (impl_Board_potential_ent F) := by
  refine meets_of_runS mixed ttok deep (impl_Board_potential_tabok F) Try.func32 (body_some rfl) (impl_Board_potential_lsok1 F) fun args mem hfit ret h => ?_
  clear hfit
  simp only [impl_Board_potential_ent] at h
  split at h
  · rename_i b0
    simp only [Option.some.injEq, Prod.mk.injEq] at h
    obtain ⟨hc, rfl⟩ := h
    exact ⟨[], [], 70, _, (impl_Board_potential_run F b0).trans ((impl_Board_potential_cp _ F b0 _).trans (bind_use hc _)), rfl, rfl, rfl⟩
  · cases h

/-! loop.example/g01194/impl.PotentialOf -/
noncomputable def impl_PotentialOf_tab (F : Nat) : Tab := [(21, (impl_IsBoard_ent F)), (32, (impl_Board_potential_ent F))]
theorem impl_PotentialOf_tabok (F : Nat) : TabOK Try.prog (impl_PotentialOf_tab F) := (tab_cons (impl_IsBoard_meets F) impl_IsBoard_fok (tab_cons (impl_Board_potential_meets F) impl_Board_potential_fok tab_nil))
noncomputable def impl_PotentialOf_LS0 (F : Nat) : LT := []
theorem impl_PotentialOf_lsok0 (F : Nat) : LoopsOK Try.prog (impl_PotentialOf_LS0 F) (bodyOf Try.f14) := loopsOK_nil
theorem impl_PotentialOf_run (F : Nat) (b0 : List Int) : runS tt (impl_PotentialOf_tab F) (impl_PotentialOf_LS0 F) [] [] Try.f14 (bodyOf Try.f14) 70 [(.ints 16 b0)] [] = impl_PotentialOf_c _ F b0 (fun r => some ⟨(.tup [(.int .i64 r.1), (.bool r.2)]), [], []⟩) := by kernel_rfl
def impl_PotentialOf_ent (F : Nat) : Ent := ⟨[], .quiet, fun args mem => match args, mem with
  | [(.ints 16 b0)], [] => some ((impl_PotentialOf_p F b0).isSome, ⟨(.tup [(.int .i64 ((impl_PotentialOf_p F b0).getD default).1), (.bool ((impl_PotentialOf_p F b0).getD default).2)]), [], []⟩)
  | _, _ => none⟩
theorem impl_PotentialOf_fok : FunOK Try.prog 14 := funOK Try.func14 (by kernel_rfl) rfl
theorem impl_PotentialOf_meets (F : Nat) : Meets Try.prog 14 (impl_PotentialOf_ent F) := by
  refine meets_of_runS mixed ttok deep (impl_PotentialOf_tabok F) Try.func14 (body_some rfl) (impl_PotentialOf_lsok0 F) fun args mem hfit ret h => ?_
  clear hfit
  simp only [impl_PotentialOf_ent] at h
  split at h
  · rename_i b0
    simp only [Option.some.injEq, Prod.mk.injEq] at h
    obtain ⟨hc, rfl⟩ := h
    exact ⟨[], [], 70, _, (impl_PotentialOf_run F b0).trans ((impl_PotentialOf_cp _ F b0 _).trans (bind_use hc _)), rfl, rfl, rfl⟩
  · cases h

/-! loop.example/g01194/laws.FnExactPotentialOf -/
noncomputable def laws_FnExactPotentialOf_tab (F : Nat) : Tab := [(8, (laws_toBoard_ent F)), (13, (spec_PotentialOf_ent F)), (14, (impl_PotentialOf_ent F))]
theorem laws_FnExactPotentialOf_tabok (F : Nat) : TabOK Try.prog (laws_FnExactPotentialOf_tab F) := (tab_cons (laws_toBoard_meets F) laws_toBoard_fok (tab_cons (spec_PotentialOf_meets F) spec_PotentialOf_fok (tab_cons (impl_PotentialOf_meets F) impl_PotentialOf_fok tab_nil)))
noncomputable def laws_FnExactPotentialOf_LS0 (F : Nat) : LT := []
theorem laws_FnExactPotentialOf_lsok0 (F : Nat) : LoopsOK Try.prog (laws_FnExactPotentialOf_LS0 F) (bodyOf Try.f5) := loopsOK_nil
theorem laws_FnExactPotentialOf_run (F : Nat) (aB0 : List Int) : runS tt (laws_FnExactPotentialOf_tab F) (laws_FnExactPotentialOf_LS0 F) [] [] Try.f5 (bodyOf Try.f5) 70 [(.ints 16 aB0)] [] = laws_FnExactPotentialOf_c _ F aB0 (fun r => some ⟨(.bool r), [], []⟩) := by kernel_rfl
def laws_FnExactPotentialOf_ent (F : Nat) : Ent := ⟨[], .quiet, fun args mem => match args, mem with
  | [(.ints 16 aB0)], [] => some ((laws_FnExactPotentialOf_p F aB0).isSome, ⟨(.bool ((laws_FnExactPotentialOf_p F aB0).getD default)), [], []⟩)
  | _, _ => none⟩
theorem laws_FnExactPotentialOf_fok : FunOK Try.prog 5 := funOK Try.func5 (by kernel_rfl) rfl
theorem laws_FnExactPotentialOf_meets (F : Nat) : Meets Try.prog 5 (laws_FnExactPotentialOf_ent F) := by
  refine meets_of_runS mixed ttok deep (laws_FnExactPotentialOf_tabok F) Try.func5 (body_some rfl) (laws_FnExactPotentialOf_lsok0 F) fun args mem hfit ret h => ?_
  clear hfit
  simp only [laws_FnExactPotentialOf_ent] at h
  split at h
  · rename_i aB0
    simp only [Option.some.injEq, Prod.mk.injEq] at h
    obtain ⟨hc, rfl⟩ := h
    exact ⟨[], [], 70, _, (laws_FnExactPotentialOf_run F aB0).trans ((laws_FnExactPotentialOf_cp _ F aB0 _).trans (bind_use hc _)), rfl, rfl, rfl⟩
  · cases h

/-! loop.example/g01194/spec.ScoreBetween -/
noncomputable def spec_ScoreBetween_tab (F : Nat) : Tab := [(17, (spec_l2Board_ent F)), (18, (spec_l1In_ent F)), (31, (spec_l7Potential_ent F))]
theorem spec_ScoreBetween_tabok (F : Nat) : TabOK Try.prog (spec_ScoreBetween_tab F) := (tab_cons (spec_l2Board_meets F) spec_l2Board_fok (tab_cons (spec_l1In_meets F) spec_l1In_fok (tab_cons (spec_l7Potential_meets F) spec_l7Potential_fok tab_nil)))
noncomputable def spec_ScoreBetween_LS0 (F : Nat) : LT := []
theorem spec_ScoreBetween_lsok0 (F : Nat) : LoopsOK Try.prog (spec_ScoreBetween_LS0 F) (bodyOf Try.f15) := loopsOK_nil
theorem spec_ScoreBetween_run (F : Nat) (a0 : List Int) (b1 : List Int) (twos2 : Int) : runS tt (spec_ScoreBetween_tab F) (spec_ScoreBetween_LS0 F) [] [] Try.f15 (bodyOf Try.f15) 70 [(.ints 16 a0), (.ints 16 b1), (.int .i64 twos2)] [] = spec_ScoreBetween_c _ F a0 b1 twos2 (fun r => some ⟨(.tup [(.int .i64 r.1), (.bool r.2)]), [], []⟩) := by kernel_rfl
def spec_ScoreBetween_ent (F : Nat) : Ent := ⟨[], .quiet, fun args mem => match args, mem with
  | [(.ints 16 a0), (.ints 16 b1), (.int .i64 twos2)], [] => some ((spec_ScoreBetween_p F a0 b1 twos2).isSome, ⟨(.tup [(.int .i64 ((spec_ScoreBetween_p F a0 b1 twos2).getD default).1), (.bool ((spec_ScoreBetween_p F a0 b1 twos2).getD default).2)]), [], []⟩)
  | _, _ => none⟩
theorem spec_ScoreBetween_fok : FunOK Try.prog 15 := funOK Try.func15 (by kernel_rfl) rfl
theorem spec_ScoreBetween_meets (F : Nat) : Meets Try.prog 15 (spec_ScoreBetween_ent F) := by
  refine meets_of_runS mixed ttok deep (spec_ScoreBetween_tabok F) Try.func15 (body_some rfl) (spec_ScoreBetween_lsok0 F) fun args mem hfit ret h => ?_
  clear hfit
  simp only [spec_ScoreBetween_ent] at h
  split at h
  · rename_i a0 b1 twos2
    simp only [Option.some.injEq, Prod.mk.injEq] at h
    obtain ⟨hc, rfl⟩ := h
    exact ⟨[], [], 70, _, (spec_ScoreBetween_run F a0 b1 twos2).trans ((spec_ScoreBetween_cp _ F a0 b1 twos2 _).trans (bind_use hc _)), rfl, rfl, rfl⟩
  · cases h

/-! loop.example/g01194/impl.isSum -/
noncomputable def impl_isSum_tab (F : Nat) : Tab := [(22, (impl_in_ent F))]
theorem impl_isSum_tabok (F : Nat) : TabOK Try.prog (impl_isSum_tab F) := (tab_cons (impl_in_meets F) impl_in_fok tab_nil)
noncomputable def impl_isSum_LS0 (F : Nat) : LT := []
theorem impl_isSum_lsok0 (F : Nat) : LoopsOK Try.prog (impl_isSum_LS0 F) (bodyOf Try.f33) := loopsOK_nil
theorem impl_isSum_run (F : Nat) (sum0 : Int) : runS tt (impl_isSum_tab F) (impl_isSum_LS0 F) [] [] Try.f33 (bodyOf Try.f33) 70 [(.int .i64 sum0)] [] = impl_isSum_c _ sum0 (fun r => some ⟨(.bool r), [], []⟩) := by kernel_rfl
def impl_isSum_ent (F : Nat) : Ent := ⟨[], .quiet, fun args mem => match args, mem with
  | [(.int .i64 sum0)], [] => some (true, ⟨(.bool (impl_isSum_v sum0)), [], []⟩)
  | _, _ => none⟩
theorem impl_isSum_fok : FunOK Try.prog 33 := funOK Try.func33 (by kernel_rfl) rfl
theorem impl_isSum_meets (F : Nat) : Meets Try.prog 33 (impl_isSum_ent F) := by
  refine meets_of_runS mixed ttok deep (impl_isSum_tabok F) Try.func33 (body_some rfl) (impl_isSum_lsok0 F) fun args mem hfit ret h => ?_
  clear hfit
  simp only [impl_isSum_ent] at h
  split at h
  · rename_i sum0
    simp only [Option.some.injEq, Prod.mk.injEq] at h
    obtain ⟨hc, rfl⟩ := h
    exact ⟨[], [], 70, _, (impl_isSum_run F sum0).trans (impl_isSum_cv _ sum0 _), rfl, rfl, rfl⟩
  · cases h

/-! loop.example/g01194/impl.ScoreBetween -/
noncomputable def impl_ScoreBetween_tab (F : Nat) : Tab := [(21, (impl_IsBoard_ent F)), (33, (impl_isSum_ent F)), (32, (impl_Board_potential_ent F))]
theorem impl_ScoreBetween_tabok (F : Nat) : TabOK Try.prog (impl_ScoreBetween_tab F) := (tab_cons (impl_IsBoard_meets F) impl_IsBoard_fok (tab_cons (impl_isSum_meets F) impl_isSum_fok (tab_cons (impl_Board_potential_meets F) impl_Board_potential_fok tab_nil)))
noncomputable def impl_ScoreBetween_LS0 (F : Nat) : LT := []
theorem impl_ScoreBetween_lsok0 (F : Nat) : LoopsOK Try.prog (impl_ScoreBetween_LS0 F) (bodyOf Try.f16) := loopsOK_nil
theorem impl_ScoreBetween_run (F : Nat) (a0 : List Int) (b1 : List Int) (twos2 : Int) : runS tt (impl_ScoreBetween_tab F) (impl_ScoreBetween_LS0 F) [] [] Try.f16 (bodyOf Try.f16) 70 [(.ints 16 a0), (.ints 16 b1), (.int .i64 twos2)] [] = impl_ScoreBetween_c _ F a0 b1 twos2 (fun r => some ⟨(.tup [(.int .i64 r.1), (.bool r.2)]), [], []⟩) := by kernel_rfl
def impl_ScoreBetween_ent (F : Nat) : Ent := ⟨[], .quiet, fun args mem => match args, mem with
  | [(.ints 16 a0), (.ints 16 b1), (.int .i64 twos2)], [] => some ((impl_ScoreBetween_p F a0 b1 twos2).isSome, ⟨(.tup [(.int .i64 ((impl_ScoreBetween_p F a0 b1 twos2).getD default).1), (.bool ((impl_ScoreBetween_p F a0 b1 twos2).getD default).2)]), [], []⟩)
  | _, _ => none⟩
theorem impl_ScoreBetween_fok : FunOK Try.prog 16 := funOK Try.func16 (by kernel_rfl) rfl
theorem impl_ScoreBetween_meets (F : Nat) : Meets Try.prog 16 (impl_ScoreBetween_ent F) := by
  refine meets_of_runS mixed ttok deep (impl_ScoreBetween_tabok F) Try.func16 (body_some rfl) (impl_ScoreBetween_lsok0 F) fun args mem hfit ret h => ?_
  clear hfit
  simp only [impl_ScoreBetween_ent] at h
  split at h
  · rename_i a0 b1 twos2
    simp only [Option.some.injEq, Prod.mk.injEq] at h
    obtain ⟨hc, rfl⟩ := h
    exact ⟨[], [], 70, _, (impl_ScoreBetween_run F a0 b1 twos2).trans ((impl_ScoreBetween_cp _ F a0 b1 twos2 _).trans (bind_use hc _)), rfl, rfl, rfl⟩
  · cases h

/-! loop.example/g01194/laws.FnExactScoreBetween -/
noncomputable def laws_FnExactScoreBetween_tab (F : Nat) : Tab := [(8, (laws_toBoard_ent F)), (15, (spec_ScoreBetween_ent F)), (16, (impl_ScoreBetween_ent F))]
theorem laws_FnExactScoreBetween_tabok (F : Nat) : TabOK Try.prog (laws_FnExactScoreBetween_tab F) := (tab_cons (laws_toBoard_meets F) laws_toBoard_fok (tab_cons (spec_ScoreBetween_meets F) spec_ScoreBetween_fok (tab_cons (impl_ScoreBetween_meets F) impl_ScoreBetween_fok tab_nil)))
noncomputable def laws_FnExactScoreBetween_LS0 (F : Nat) : LT := []
theorem laws_FnExactScoreBetween_lsok0 (F : Nat) : LoopsOK Try.prog (laws_FnExactScoreBetween_LS0 F) (bodyOf Try.f6) := loopsOK_nil
theorem laws_FnExactScoreBetween_run (F : Nat) (aA0 : List Int) (aB1 : List Int) (aTwos2 : Int) : runS tt (laws_FnExactScoreBetween_tab F) (laws_FnExactScoreBetween_LS0 F) [] [] Try.f6 (bodyOf Try.f6) 70 [(.ints 16 aA0), (.ints 16 aB1), (.int .i64 aTwos2)] [] = laws_FnExactScoreBetween_c _ F aA0 aB1 aTwos2 (fun r => some ⟨(.bool r), [], []⟩) := by kernel_rfl
def laws_FnExactScoreBetween_ent (F : Nat) : Ent := ⟨[], .quiet, fun args mem => match args, mem with
  | [(.ints 16 aA0), (.ints 16 aB1), (.int .i64 aTwos2)], [] => some ((laws_FnExactScoreBetween_p F aA0 aB1 aTwos2).isSome, ⟨(.bool ((laws_FnExactScoreBetween_p F aA0 aB1 aTwos2).getD default)), [], []⟩)
  | _, _ => none⟩
theorem laws_FnExactScoreBetween_fok : FunOK Try.prog 6 := funOK Try.func6 (by kernel_rfl) rfl
theorem laws_FnExactScoreBetween_meets (F : Nat) : Meets Try.prog 6 (laws_FnExactScoreBetween_ent F) := by
  refine meets_of_runS mixed ttok deep (laws_FnExactScoreBetween_tabok F) Try.func6 (body_some rfl) (laws_FnExactScoreBetween_lsok0 F) fun args mem hfit ret h => ?_
  clear hfit
  simp only [laws_FnExactScoreBetween_ent] at h
  split at h
  · rename_i aA0 aB1 aTwos2
    simp only [Option.some.injEq, Prod.mk.injEq] at h
    obtain ⟨hc, rfl⟩ := h
    exact ⟨[], [], 70, _, (laws_FnExactScoreBetween_run F aA0 aB1 aTwos2).trans ((laws_FnExactScoreBetween_cp _ F aA0 aB1 aTwos2 _).trans (bind_use hc _)), rfl, rfl, rfl⟩
  · cases h
end Go.Proofs.Ytloemkielkdegaa
