/-
Pure functions and what the code of them does, by program; without conditions.
-/
import Derived.Test.YtabfliifleonaaaQaP3
import Derived.Test.YtabfliifleonaaaQaS2
namespace Go.Proofs.Ytabfliifleonaaa
open Go Go.Lv Go.Lv.P Go.Proofs
set_option linter.unusedVariables false
set_option linter.unusedSimpArgs false
set_option maxRecDepth 100000
/-! loop.example/g01194/spec.l7Potential -/
noncomputable def spec_l7Potential_tab (F : Nat) : Tab := [(55, (spec_l2Worth_ent F))]
theorem spec_l7Potential_tabok (F : Nat) : TabOK Try.prog (spec_l7Potential_tab F) := (tab_cons (spec_l2Worth_meets F) spec_l2Worth_fok tab_nil)
noncomputable def spec_l7Potential_LS0 (F : Nat) : LT := []
theorem spec_l7Potential_lsok0 (F : Nat) : LoopsOK Try.prog (spec_l7Potential_LS0 F) (bodyOf Try.f49) := loopsOK_nil
theorem spec_l7Potential_keys : keysOK (bodyOf Try.f49) = true := by kernel_rfl
def spec_l7Potential_st6 (r4 : Int) (b6 : List Int) (sum3 : Int) (c5 : Int) : St := ⟨expand 31 0 [1, 3, 4, 5] [(.ptr 0 0 0 16), (.int .i64 sum3), (.int .i64 r4), (.int .i64 c5)], [(.var 16 (.ri .i64 b6))], 0, []⟩
def spec_l7Potential_o6 (r4 : Int) (b6 : List Int) (x : Int) : GT := (.out (.exit 2 ⟨expand 31 0 [1, 3, 4] [(.ptr 0 0 0 16), (.int .i64 x), (.int .i64 r4)], [(.var 16 (.ri .i64 b6))], 0, []⟩))
def spec_l7Potential_ls6 (F : Nat) : LoopS := ⟨31, [1, 3, 4, 5], [], [1, 3, 4], [], [2], [], [], fun vals mem np killed => match vals, mem, np, killed with
  | [(.ptr 0 0 0 16), (.int .i64 sum3), (.int .i64 r4), (.int .i64 c5)], [(.var 16 (.ri .i64 b6))], 0, [] => .br (spec_l7Potential_l6 F r4 b6 sum3 c5).isSome (spec_l7Potential_o6 r4 b6 ((spec_l7Potential_l6 F r4 b6 sum3 c5).getD default)) .fail
  | _, _, _, _ => .fail⟩
theorem spec_l7Potential_step6 (F : Nat) (r4 : Int) (b6 : List Int) (sum3 : Int) (c5 : Int) {R : Type} (k : Out → Option R) : stepS tt (spec_l7Potential_tab F) (spec_l7Potential_LS0 F) 70 (spec_l7Potential_ls6 F) (loopAt 6 (bodyOf Try.f49)) (spec_l7Potential_st6 r4 b6 sum3 c5) k = spec_l7Potential_s6 F r4 b6 R (sum3, c5) (fun s => k (.norm (spec_l7Potential_st6 r4 b6 s.1 s.2))) (fun x => (spec_l7Potential_o6 r4 b6 x).run k) := by kernel_rfl
theorem spec_l7Potential_iter6 (F : Nat) (r4 : Int) (b6 : List Int) {R : Type} (k : Out → Option R) : ∀ (n : Nat) (sum3 : Int) (c5 : Int), iterS tt (spec_l7Potential_tab F) (spec_l7Potential_LS0 F) 70 (spec_l7Potential_ls6 F) (loopAt 6 (bodyOf Try.f49)) n (spec_l7Potential_st6 r4 b6 sum3 c5) k = loopC (spec_l7Potential_s6 F r4 b6) n (sum3, c5) (fun x => (spec_l7Potential_o6 r4 b6 x).run k)
  | 0, sum3, c5 => rfl
  | n + 1, sum3, c5 => (iterS_succ tt (spec_l7Potential_tab F) (spec_l7Potential_LS0 F) 70 (spec_l7Potential_ls6 F) (loopAt 6 (bodyOf Try.f49)) n (spec_l7Potential_st6 r4 b6 sum3 c5) k).trans ((spec_l7Potential_step6 F r4 b6 sum3 c5 (nextK (iterS tt (spec_l7Potential_tab F) (spec_l7Potential_LS0 F) 70 (spec_l7Potential_ls6 F) (loopAt 6 (bodyOf Try.f49)) n) k)).trans (congrArg (fun kn => spec_l7Potential_s6 F r4 b6 R (sum3, c5) kn _) (funext (fun ⟨sum3, c5⟩ => spec_l7Potential_iter6 F r4 b6 k n sum3 c5))))
theorem spec_l7Potential_lok6 (F : Nat) : LoopOK Try.prog (loopAt 6 (bodyOf Try.f49)) (spec_l7Potential_ls6 F) := by
  refine loopOK_of mixed ttok deep (spec_l7Potential_tabok F) (loopsOK_at (spec_l7Potential_lsok0 F) 6) (fuel := 70) fun R vals mem np killed k x h => ?_
  simp only [spec_l7Potential_ls6] at h
  split at h
  · rename_i sum3 r4 c5 b6
    simp only [GT.run] at h
    have hc := (cond_noneL h).1
    replace h := (cond_noneL h).2
    refine ⟨F, (spec_l7Potential_iter6 F r4 b6 k F sum3 c5).trans ((loopC_use (spec_l7Potential_s6_nat F r4 b6) hc _).trans h)⟩
  · simp only [GT.run] at h
    cases h
noncomputable def spec_l7Potential_LS1 (F : Nat) : LT := (6, spec_l7Potential_ls6 F) :: spec_l7Potential_LS0 F
theorem spec_l7Potential_lsok1 (F : Nat) : LoopsOK Try.prog (spec_l7Potential_LS1 F) (bodyOf Try.f49) := loopsOK_cons spec_l7Potential_keys (spec_l7Potential_lok6 F) (spec_l7Potential_lsok0 F)
def spec_l7Potential_st3 (b5 : List Int) (sum3 : Int) (r4 : Int) : St := ⟨expand 31 0 [1, 3, 4] [(.ptr 0 0 0 16), (.int .i64 sum3), (.int .i64 r4)], [(.var 16 (.ri .i64 b5))], 0, []⟩
def spec_l7Potential_o3 (b5 : List Int) (x : Int) : GT := (.out (.exit 0 ⟨expand 31 0 [3] [(.int .i64 x)], [], 0, []⟩))
def spec_l7Potential_ls3 (F : Nat) : LoopS := ⟨31, [1, 3, 4], [], [3], [], [2], [], [], fun vals mem np killed => match vals, mem, np, killed with
  | [(.ptr 0 0 0 16), (.int .i64 sum3), (.int .i64 r4)], [(.var 16 (.ri .i64 b5))], 0, [] => .br (spec_l7Potential_l3 F b5 sum3 r4).isSome (spec_l7Potential_o3 b5 ((spec_l7Potential_l3 F b5 sum3 r4).getD default)) .fail
  | _, _, _, _ => .fail⟩
theorem spec_l7Potential_step3 (F : Nat) (b5 : List Int) (sum3 : Int) (r4 : Int) {R : Type} (k : Out → Option R) : stepS tt (spec_l7Potential_tab F) (spec_l7Potential_LS1 F) 70 (spec_l7Potential_ls3 F) (loopAt 3 (bodyOf Try.f49)) (spec_l7Potential_st3 b5 sum3 r4) k = spec_l7Potential_s3 F b5 R (sum3, r4) (fun s => k (.norm (spec_l7Potential_st3 b5 s.1 s.2))) (fun x => (spec_l7Potential_o3 b5 x).run k) := by kernel_rfl
theorem spec_l7Potential_iter3 (F : Nat) (b5 : List Int) {R : Type} (k : Out → Option R) : ∀ (n : Nat) (sum3 : Int) (r4 : Int), iterS tt (spec_l7Potential_tab F) (spec_l7Potential_LS1 F) 70 (spec_l7Potential_ls3 F) (loopAt 3 (bodyOf Try.f49)) n (spec_l7Potential_st3 b5 sum3 r4) k = loopC (spec_l7Potential_s3 F b5) n (sum3, r4) (fun x => (spec_l7Potential_o3 b5 x).run k)
  | 0, sum3, r4 => rfl
  | n + 1, sum3, r4 => (iterS_succ tt (spec_l7Potential_tab F) (spec_l7Potential_LS1 F) 70 (spec_l7Potential_ls3 F) (loopAt 3 (bodyOf Try.f49)) n (spec_l7Potential_st3 b5 sum3 r4) k).trans ((spec_l7Potential_step3 F b5 sum3 r4 (nextK (iterS tt (spec_l7Potential_tab F) (spec_l7Potential_LS1 F) 70 (spec_l7Potential_ls3 F) (loopAt 3 (bodyOf Try.f49)) n) k)).trans (congrArg (fun kn => spec_l7Potential_s3 F b5 R (sum3, r4) kn _) (funext (fun ⟨sum3, r4⟩ => spec_l7Potential_iter3 F b5 k n sum3 r4))))
theorem spec_l7Potential_lok3 (F : Nat) : LoopOK Try.prog (loopAt 3 (bodyOf Try.f49)) (spec_l7Potential_ls3 F) := by
  refine loopOK_of mixed ttok deep (spec_l7Potential_tabok F) (loopsOK_at (spec_l7Potential_lsok1 F) 3) (fuel := 70) fun R vals mem np killed k x h => ?_
  simp only [spec_l7Potential_ls3] at h
  split at h
  · rename_i sum3 r4 b5
    simp only [GT.run] at h
    have hc := (cond_noneL h).1
    replace h := (cond_noneL h).2
    refine ⟨F, (spec_l7Potential_iter3 F b5 k F sum3 r4).trans ((loopC_use (spec_l7Potential_s3_nat F b5) hc _).trans h)⟩
  · simp only [GT.run] at h
    cases h
noncomputable def spec_l7Potential_LS2 (F : Nat) : LT := (3, spec_l7Potential_ls3 F) :: spec_l7Potential_LS1 F
theorem spec_l7Potential_lsok2 (F : Nat) : LoopsOK Try.prog (spec_l7Potential_LS2 F) (bodyOf Try.f49) := loopsOK_cons spec_l7Potential_keys (spec_l7Potential_lok3 F) (spec_l7Potential_lsok1 F)
theorem spec_l7Potential_run (F : Nat) (b0 : List Int) : runS tt (spec_l7Potential_tab F) (spec_l7Potential_LS2 F) [] [] Try.f49 (bodyOf Try.f49) 70 [(.ints 16 b0)] [] = spec_l7Potential_c _ F b0 (fun r => some ⟨(.int .i64 r), [], []⟩) := by kernel_rfl
def spec_l7Potential_ent (F : Nat) : Ent := ⟨[], .quiet, fun args mem => match args, mem with
  | [(.ints 16 b0)], [] => some ((spec_l7Potential_p F b0).isSome, ⟨(.int .i64 ((spec_l7Potential_p F b0).getD default)), [], []⟩)
  | _, _ => none⟩
theorem spec_l7Potential_fok : FunOK Try.prog 49 := funOK Try.func49 (by kernel_rfl) rfl
theorem spec_l7Potential_meets (F : Nat) : Meets Try.prog 49 (spec_l7Potential_ent F) := by
  refine meets_of_runS mixed ttok deep (spec_l7Potential_tabok F) Try.func49 (body_some rfl) (spec_l7Potential_lsok2 F) fun args mem hfit ret h => ?_
  clear hfit
  simp only [spec_l7Potential_ent] at h
  split at h
  · rename_i b0
    simp only [Option.some.injEq, Prod.mk.injEq] at h
    obtain ⟨hc, rfl⟩ := h
    exact ⟨[], [], 70, _, (spec_l7Potential_run F b0).trans ((spec_l7Potential_cp _ F b0 _).trans (bind_use hc _)), rfl, rfl, rfl⟩
  · cases h

/-! loop.example/g01194/spec.PotentialOf -/
noncomputable def spec_PotentialOf_tab (F : Nat) : Tab := [(45, (spec_l2Board_ent F)), (49, (spec_l7Potential_ent F))]
theorem spec_PotentialOf_tabok (F : Nat) : TabOK Try.prog (spec_PotentialOf_tab F) := (tab_cons (spec_l2Board_meets F) spec_l2Board_fok (tab_cons (spec_l7Potential_meets F) spec_l7Potential_fok tab_nil))
noncomputable def spec_PotentialOf_LS0 (F : Nat) : LT := []
theorem spec_PotentialOf_lsok0 (F : Nat) : LoopsOK Try.prog (spec_PotentialOf_LS0 F) (bodyOf Try.f20) := loopsOK_nil
theorem spec_PotentialOf_run (F : Nat) (b0 : List Int) : runS tt (spec_PotentialOf_tab F) (spec_PotentialOf_LS0 F) [] [] Try.f20 (bodyOf Try.f20) 70 [(.ints 16 b0)] [] = spec_PotentialOf_c _ F b0 (fun r => some ⟨(.tup [(.int .i64 r.1), (.bool r.2)]), [], []⟩) := by kernel_rfl
def spec_PotentialOf_ent (F : Nat) : Ent := ⟨[], .quiet, fun args mem => match args, mem with
  | [(.ints 16 b0)], [] => some ((spec_PotentialOf_p F b0).isSome, ⟨(.tup [(.int .i64 ((spec_PotentialOf_p F b0).getD default).1), (.bool ((spec_PotentialOf_p F b0).getD default).2)]), [], []⟩)
  | _, _ => none⟩
theorem spec_PotentialOf_fok : FunOK Try.prog 20 := funOK Try.func20 (by kernel_rfl) rfl
theorem spec_PotentialOf_meets (F : Nat) : Meets Try.prog 20 (spec_PotentialOf_ent F) := by
  refine meets_of_runS mixed ttok deep (spec_PotentialOf_tabok F) Try.func20 (body_some rfl) (spec_PotentialOf_lsok0 F) fun args mem hfit ret h => ?_
  clear hfit
  simp only [spec_PotentialOf_ent] at h
  split at h
  · rename_i b0
    simp only [Option.some.injEq, Prod.mk.injEq] at h
    obtain ⟨hc, rfl⟩ := h
    exact ⟨[], [], 70, _, (spec_PotentialOf_run F b0).trans ((spec_PotentialOf_cp _ F b0 _).trans (bind_use hc _)), rfl, rfl, rfl⟩
  · cases h

/-! loop.example/g01194/impl.SumOf -/
noncomputable def impl_SumOf_tab (F : Nat) : Tab := [(42, (impl_IsBoard_ent F)), (44, (impl_Board_sum_ent F))]
theorem impl_SumOf_tabok (F : Nat) : TabOK Try.prog (impl_SumOf_tab F) := (tab_cons (impl_IsBoard_meets F) impl_IsBoard_fok (tab_cons (impl_Board_sum_meets F) impl_Board_sum_fok tab_nil))
noncomputable def impl_SumOf_LS0 (F : Nat) : LT := []
theorem impl_SumOf_lsok0 (F : Nat) : LoopsOK Try.prog (impl_SumOf_LS0 F) (bodyOf Try.f21) := loopsOK_nil
theorem impl_SumOf_run (F : Nat) (b0 : List Int) : runS tt (impl_SumOf_tab F) (impl_SumOf_LS0 F) [] [] Try.f21 (bodyOf Try.f21) 70 [(.ints 16 b0)] [] = impl_SumOf_c _ F b0 (fun r => some ⟨(.tup [(.int .i64 r.1), (.bool r.2)]), [], []⟩) := by kernel_rfl
def impl_SumOf_ent (F : Nat) : Ent := ⟨[], .quiet, fun args mem => match args, mem with
  | [(.ints 16 b0)], [] => some ((impl_SumOf_p F b0).isSome, ⟨(.tup [(.int .i64 ((impl_SumOf_p F b0).getD default).1), (.bool ((impl_SumOf_p F b0).getD default).2)]), [], []⟩)
  | _, _ => none⟩
theorem impl_SumOf_fok : FunOK Try.prog 21 := funOK Try.func21 (by kernel_rfl) rfl
theorem impl_SumOf_meets (F : Nat) : Meets Try.prog 21 (impl_SumOf_ent F) := by
  refine meets_of_runS mixed ttok deep (impl_SumOf_tabok F) Try.func21 (body_some rfl) (impl_SumOf_lsok0 F) fun args mem hfit ret h => ?_
  clear hfit
  simp only [impl_SumOf_ent] at h
  split at h
  · rename_i b0
    simp only [Option.some.injEq, Prod.mk.injEq] at h
    obtain ⟨hc, rfl⟩ := h
    exact ⟨[], [], 70, _, (impl_SumOf_run F b0).trans ((impl_SumOf_cp _ F b0 _).trans (bind_use hc _)), rfl, rfl, rfl⟩
  · cases h

/-! loop.example/g01194/impl.CountTiles -/
noncomputable def impl_CountTiles_tab (F : Nat) : Tab := [(42, (impl_IsBoard_ent F)), (31, (impl_cells_ent F)), (33, (impl_Board_at_ent F))]
theorem impl_CountTiles_tabok (F : Nat) : TabOK Try.prog (impl_CountTiles_tab F) := (tab_cons (impl_IsBoard_meets F) impl_IsBoard_fok (tab_cons (impl_cells_meets F) impl_cells_fok (tab_cons (impl_Board_at_meets F) impl_Board_at_fok tab_nil)))
noncomputable def impl_CountTiles_LS0 (F : Nat) : LT := []
theorem impl_CountTiles_lsok0 (F : Nat) : LoopsOK Try.prog (impl_CountTiles_LS0 F) (bodyOf Try.f22) := loopsOK_nil
theorem impl_CountTiles_keys : keysOK (bodyOf Try.f22) = true := by kernel_rfl
def impl_CountTiles_st5 (b13 : List Int) (t1412 : Int) (out15 : List Int) : St := ⟨expand 28 0 [1, 2, 4, 12, 13, 14] [(.ptr 0 0 0 16), (.ptr 1 0 0 18), (.ptr 2 0 0 18), (.sl 3 0 16), (.int .i64 (16 : Int)), (.int .i64 t1412)], [(.var 16 (.ri .i64 b13)), (.var 18 (.ri .i64 [(0 : Int), (0 : Int), (0 : Int), (0 : Int), (0 : Int), (0 : Int), (0 : Int), (0 : Int), (0 : Int), (0 : Int), (0 : Int), (0 : Int), (0 : Int), (0 : Int), (0 : Int), (0 : Int), (0 : Int), (0 : Int)])), (.var 18 (.ri .i64 out15)), (.vec 43 (.rr 2 [[(0 : Int), (0 : Int)], [(0 : Int), (1 : Int)], [(0 : Int), (2 : Int)], [(0 : Int), (3 : Int)], [(1 : Int), (0 : Int)], [(1 : Int), (1 : Int)], [(1 : Int), (2 : Int)], [(1 : Int), (3 : Int)], [(2 : Int), (0 : Int)], [(2 : Int), (1 : Int)], [(2 : Int), (2 : Int)], [(2 : Int), (3 : Int)], [(3 : Int), (0 : Int)], [(3 : Int), (1 : Int)], [(3 : Int), (2 : Int)], [(3 : Int), (3 : Int)]]))], 0, []⟩
def impl_CountTiles_o5 (b13 : List Int) (x : List Int) : GT := (.out (.exit 0 ⟨expand 28 0 [2, 4] [(.ptr 0 0 0 18), (.ptr 1 0 0 18)], [(.var 18 (.ri .i64 [(0 : Int), (0 : Int), (0 : Int), (0 : Int), (0 : Int), (0 : Int), (0 : Int), (0 : Int), (0 : Int), (0 : Int), (0 : Int), (0 : Int), (0 : Int), (0 : Int), (0 : Int), (0 : Int), (0 : Int), (0 : Int)])), (.var 18 (.ri .i64 x))], 0, []⟩))
def impl_CountTiles_ls5 (F : Nat) : LoopS := ⟨28, [1, 2, 4, 12, 13, 14], [], [2, 4], [], [2, 3], [], [], fun vals mem np killed => match vals, mem, np, killed with
  | [(.ptr 0 0 0 16), (.ptr 1 0 0 18), (.ptr 2 0 0 18), (.sl 3 0 q_t1210), (.int .i64 q_t1311), (.int .i64 t1412)], [(.var 16 (.ri .i64 b13)), (.var 18 (.ri .i64 q_t214)), (.var 18 (.ri .i64 out15)), (.vec 43 (.rr 2 q_t1216))], 0, [] => .br ((q_t1311 == (16 : Int)) && ((q_t214 == ([(0 : Int), (0 : Int), (0 : Int), (0 : Int), (0 : Int), (0 : Int), (0 : Int), (0 : Int), (0 : Int), (0 : Int), (0 : Int), (0 : Int), (0 : Int), (0 : Int), (0 : Int), (0 : Int), (0 : Int), (0 : Int)] : List Int)) && ((q_t1216 == ([[(0 : Int), (0 : Int)], [(0 : Int), (1 : Int)], [(0 : Int), (2 : Int)], [(0 : Int), (3 : Int)], [(1 : Int), (0 : Int)], [(1 : Int), (1 : Int)], [(1 : Int), (2 : Int)], [(1 : Int), (3 : Int)], [(2 : Int), (0 : Int)], [(2 : Int), (1 : Int)], [(2 : Int), (2 : Int)], [(2 : Int), (3 : Int)], [(3 : Int), (0 : Int)], [(3 : Int), (1 : Int)], [(3 : Int), (2 : Int)], [(3 : Int), (3 : Int)]] : List (List Int))) && ((Nat.beq q_t1210 16) && (impl_CountTiles_l5 F b13 t1412 out15).isSome)))) (impl_CountTiles_o5 b13 ((impl_CountTiles_l5 F b13 t1412 out15).getD default)) .fail
  | _, _, _, _ => .fail⟩
theorem impl_CountTiles_step5 (F : Nat) (b13 : List Int) (t1412 : Int) (out15 : List Int) {R : Type} (k : Out → Option R) : stepS tt (impl_CountTiles_tab F) (impl_CountTiles_LS0 F) 70 (impl_CountTiles_ls5 F) (loopAt 5 (bodyOf Try.f22)) (impl_CountTiles_st5 b13 t1412 out15) k = impl_CountTiles_s5 F b13 R (t1412, out15) (fun s => k (.norm (impl_CountTiles_st5 b13 s.1 s.2))) (fun x => (impl_CountTiles_o5 b13 x).run k) := by kernel_rfl
theorem impl_CountTiles_iter5 (F : Nat) (b13 : List Int) {R : Type} (k : Out → Option R) : ∀ (n : Nat) (t1412 : Int) (out15 : List Int), iterS tt (impl_CountTiles_tab F) (impl_CountTiles_LS0 F) 70 (impl_CountTiles_ls5 F) (loopAt 5 (bodyOf Try.f22)) n (impl_CountTiles_st5 b13 t1412 out15) k = loopC (impl_CountTiles_s5 F b13) n (t1412, out15) (fun x => (impl_CountTiles_o5 b13 x).run k)
  | 0, t1412, out15 => rfl
  | n + 1, t1412, out15 => (iterS_succ tt (impl_CountTiles_tab F) (impl_CountTiles_LS0 F) 70 (impl_CountTiles_ls5 F) (loopAt 5 (bodyOf Try.f22)) n (impl_CountTiles_st5 b13 t1412 out15) k).trans ((impl_CountTiles_step5 F b13 t1412 out15 (nextK (iterS tt (impl_CountTiles_tab F) (impl_CountTiles_LS0 F) 70 (impl_CountTiles_ls5 F) (loopAt 5 (bodyOf Try.f22)) n) k)).trans (congrArg (fun kn => impl_CountTiles_s5 F b13 R (t1412, out15) kn _) (funext (fun ⟨t1412, out15⟩ => impl_CountTiles_iter5 F b13 k n t1412 out15))))
theorem impl_CountTiles_lok5 (F : Nat) : LoopOK Try.prog (loopAt 5 (bodyOf Try.f22)) (impl_CountTiles_ls5 F) := by
  refine loopOK_of mixed ttok deep (impl_CountTiles_tabok F) (loopsOK_at (impl_CountTiles_lsok0 F) 5) (fuel := 70) fun R vals mem np killed k x h => ?_
  simp only [impl_CountTiles_ls5] at h
  split at h
  · rename_i q_t1210 q_t1311 t1412 b13 q_t214 out15 q_t1216
    simp only [GT.run] at h
    have hc := (cond_noneL h).1
    replace h := (cond_noneL h).2
    have hg := (and_split hc).1
    replace hc := (and_split hc).2
    obtain rfl := beq_int hg
    have hg := (and_split hc).1
    replace hc := (and_split hc).2
    obtain rfl := beq_li hg
    have hg := (and_split hc).1
    replace hc := (and_split hc).2
    obtain rfl := beq_lli hg
    have hg := (and_split hc).1
    replace hc := (and_split hc).2
    obtain rfl := nbeq_nat hg
    refine ⟨F, (impl_CountTiles_iter5 F b13 k F t1412 out15).trans ((loopC_use (impl_CountTiles_s5_nat F b13) hc _).trans h)⟩
  · simp only [GT.run] at h
    cases h
noncomputable def impl_CountTiles_LS1 (F : Nat) : LT := (5, impl_CountTiles_ls5 F) :: impl_CountTiles_LS0 F
theorem impl_CountTiles_lsok1 (F : Nat) : LoopsOK Try.prog (impl_CountTiles_LS1 F) (bodyOf Try.f22) := loopsOK_cons impl_CountTiles_keys (impl_CountTiles_lok5 F) (impl_CountTiles_lsok0 F)
theorem impl_CountTiles_run (F : Nat) (b0 : List Int) : runS tt (impl_CountTiles_tab F) (impl_CountTiles_LS1 F) [] [] Try.f22 (bodyOf Try.f22) 70 [(.ints 16 b0)] [] = impl_CountTiles_c _ F b0 (fun r => some ⟨(.tup [(.ints 18 r.1), (.bool r.2)]), [], []⟩) := by kernel_rfl
def impl_CountTiles_ent (F : Nat) : Ent := ⟨[], .quiet, fun args mem => match args, mem with
  | [(.ints 16 b0)], [] => some ((impl_CountTiles_p F b0).isSome, ⟨(.tup [(.ints 18 ((impl_CountTiles_p F b0).getD default).1), (.bool ((impl_CountTiles_p F b0).getD default).2)]), [], []⟩)
  | _, _ => none⟩
theorem impl_CountTiles_fok : FunOK Try.prog 22 := funOK Try.func22 (by kernel_rfl) rfl
theorem impl_CountTiles_meets (F : Nat) : Meets Try.prog 22 (impl_CountTiles_ent F) := by
  refine meets_of_runS mixed ttok deep (impl_CountTiles_tabok F) Try.func22 (body_some rfl) (impl_CountTiles_lsok1 F) fun args mem hfit ret h => ?_
  clear hfit
  simp only [impl_CountTiles_ent] at h
  split at h
  · rename_i b0
    simp only [Option.some.injEq, Prod.mk.injEq] at h
    obtain ⟨hc, rfl⟩ := h
    exact ⟨[], [], 70, _, (impl_CountTiles_run F b0).trans ((impl_CountTiles_cp _ F b0 _).trans (bind_use hc _)), rfl, rfl, rfl⟩
  · cases h

/-! (loop.example/g01194/impl.Board).highest -/
noncomputable def impl_Board_highest_tab (F : Nat) : Tab := [(31, (impl_cells_ent F)), (33, (impl_Board_at_ent F))]
theorem impl_Board_highest_tabok (F : Nat) : TabOK Try.prog (impl_Board_highest_tab F) := (tab_cons (impl_cells_meets F) impl_cells_fok (tab_cons (impl_Board_at_meets F) impl_Board_at_fok tab_nil))
noncomputable def impl_Board_highest_LS0 (F : Nat) : LT := []
theorem impl_Board_highest_lsok0 (F : Nat) : LoopsOK Try.prog (impl_Board_highest_LS0 F) (bodyOf Try.f50) := loopsOK_nil
theorem impl_Board_highest_keys : keysOK (bodyOf Try.f50) = true := by kernel_rfl
def impl_Board_highest_st3 (b14 : List Int) (most6 : Int) (t1213 : Int) (at16 : List Int) : St := ⟨expand 28 0 [1, 3, 4, 5, 10, 11, 12] [(.ptr 0 0 0 16), (.ptr 1 0 0 2), (.int .i64 most6), (.ptr 2 0 0 2), (.sl 3 0 16), (.int .i64 (16 : Int)), (.int .i64 t1213)], [(.var 16 (.ri .i64 b14)), (.var 2 (.ri .i64 [(0 : Int), (0 : Int)])), (.var 2 (.ri .i64 at16)), (.vec 43 (.rr 2 [[(0 : Int), (0 : Int)], [(0 : Int), (1 : Int)], [(0 : Int), (2 : Int)], [(0 : Int), (3 : Int)], [(1 : Int), (0 : Int)], [(1 : Int), (1 : Int)], [(1 : Int), (2 : Int)], [(1 : Int), (3 : Int)], [(2 : Int), (0 : Int)], [(2 : Int), (1 : Int)], [(2 : Int), (2 : Int)], [(2 : Int), (3 : Int)], [(3 : Int), (0 : Int)], [(3 : Int), (1 : Int)], [(3 : Int), (2 : Int)], [(3 : Int), (3 : Int)]]))], 0, []⟩
def impl_Board_highest_o3 (b14 : List Int) (x : Int × List Int) : GT := (.out (.exit 0 ⟨expand 28 0 [3, 4, 5] [(.ptr 0 0 0 2), (.int .i64 x.1), (.ptr 1 0 0 2)], [(.var 2 (.ri .i64 [(0 : Int), (0 : Int)])), (.var 2 (.ri .i64 x.2))], 0, []⟩))
def impl_Board_highest_ls3 (F : Nat) : LoopS := ⟨28, [1, 3, 4, 5, 10, 11, 12], [], [3, 4, 5], [], [2, 3], [], [], fun vals mem np killed => match vals, mem, np, killed with
  | [(.ptr 0 0 0 16), (.ptr 1 0 0 2), (.int .i64 most6), (.ptr 2 0 0 2), (.sl 3 0 q_t1011), (.int .i64 q_t1112), (.int .i64 t1213)], [(.var 16 (.ri .i64 b14)), (.var 2 (.ri .i64 q_t315)), (.var 2 (.ri .i64 at16)), (.vec 43 (.rr 2 q_t1017))], 0, [] => .br ((q_t1112 == (16 : Int)) && ((q_t315 == ([(0 : Int), (0 : Int)] : List Int)) && ((q_t1017 == ([[(0 : Int), (0 : Int)], [(0 : Int), (1 : Int)], [(0 : Int), (2 : Int)], [(0 : Int), (3 : Int)], [(1 : Int), (0 : Int)], [(1 : Int), (1 : Int)], [(1 : Int), (2 : Int)], [(1 : Int), (3 : Int)], [(2 : Int), (0 : Int)], [(2 : Int), (1 : Int)], [(2 : Int), (2 : Int)], [(2 : Int), (3 : Int)], [(3 : Int), (0 : Int)], [(3 : Int), (1 : Int)], [(3 : Int), (2 : Int)], [(3 : Int), (3 : Int)]] : List (List Int))) && ((Nat.beq q_t1011 16) && (impl_Board_highest_l3 F b14 most6 t1213 at16).isSome)))) (impl_Board_highest_o3 b14 ((impl_Board_highest_l3 F b14 most6 t1213 at16).getD default)) .fail
  | _, _, _, _ => .fail⟩
theorem impl_Board_highest_step3 (F : Nat) (b14 : List Int) (most6 : Int) (t1213 : Int) (at16 : List Int) {R : Type} (k : Out → Option R) : stepS tt (impl_Board_highest_tab F) (impl_Board_highest_LS0 F) 70 (impl_Board_highest_ls3 F) (loopAt 3 (bodyOf Try.f50)) (impl_Board_highest_st3 b14 most6 t1213 at16) k = impl_Board_highest_s3 F b14 R (most6, t1213, at16) (fun s => k (.norm (impl_Board_highest_st3 b14 s.1 s.2.1 s.2.2))) (fun x => (impl_Board_highest_o3 b14 x).run k) := by kernel_rfl
theorem impl_Board_highest_iter3 (F : Nat) (b14 : List Int) {R : Type} (k : Out → Option R) : ∀ (n : Nat) (most6 : Int) (t1213 : Int) (at16 : List Int), iterS tt (impl_Board_highest_tab F) (impl_Board_highest_LS0 F) 70 (impl_Board_highest_ls3 F) (loopAt 3 (bodyOf Try.f50)) n (impl_Board_highest_st3 b14 most6 t1213 at16) k = loopC (impl_Board_highest_s3 F b14) n (most6, t1213, at16) (fun x => (impl_Board_highest_o3 b14 x).run k)
  | 0, most6, t1213, at16 => rfl
  | n + 1, most6, t1213, at16 => (iterS_succ tt (impl_Board_highest_tab F) (impl_Board_highest_LS0 F) 70 (impl_Board_highest_ls3 F) (loopAt 3 (bodyOf Try.f50)) n (impl_Board_highest_st3 b14 most6 t1213 at16) k).trans ((impl_Board_highest_step3 F b14 most6 t1213 at16 (nextK (iterS tt (impl_Board_highest_tab F) (impl_Board_highest_LS0 F) 70 (impl_Board_highest_ls3 F) (loopAt 3 (bodyOf Try.f50)) n) k)).trans (congrArg (fun kn => impl_Board_highest_s3 F b14 R (most6, t1213, at16) kn _) (funext (fun ⟨most6, t1213, at16⟩ => impl_Board_highest_iter3 F b14 k n most6 t1213 at16))))
theorem impl_Board_highest_lok3 (F : Nat) : LoopOK Try.prog (loopAt 3 (bodyOf Try.f50)) (impl_Board_highest_ls3 F) := by
  refine loopOK_of mixed ttok deep (impl_Board_highest_tabok F) (loopsOK_at (impl_Board_highest_lsok0 F) 3) (fuel := 70) fun R vals mem np killed k x h => ?_
  simp only [impl_Board_highest_ls3] at h
  split at h
  · rename_i most6 q_t1011 q_t1112 t1213 b14 q_t315 at16 q_t1017
    simp only [GT.run] at h
    have hc := (cond_noneL h).1
    replace h := (cond_noneL h).2
    have hg := (and_split hc).1
    replace hc := (and_split hc).2
    obtain rfl := beq_int hg
    have hg := (and_split hc).1
    replace hc := (and_split hc).2
    obtain rfl := beq_li hg
    have hg := (and_split hc).1
    replace hc := (and_split hc).2
    obtain rfl := beq_lli hg
    have hg := (and_split hc).1
    replace hc := (and_split hc).2
    obtain rfl := nbeq_nat hg
    refine ⟨F, (impl_Board_highest_iter3 F b14 k F most6 t1213 at16).trans ((loopC_use (impl_Board_highest_s3_nat F b14) hc _).trans h)⟩
  · simp only [GT.run] at h
    cases h
noncomputable def impl_Board_highest_LS1 (F : Nat) : LT := (3, impl_Board_highest_ls3 F) :: impl_Board_highest_LS0 F
theorem impl_Board_highest_lsok1 (F : Nat) : LoopsOK Try.prog (impl_Board_highest_LS1 F) (bodyOf Try.f50) := loopsOK_cons impl_Board_highest_keys (impl_Board_highest_lok3 F) (impl_Board_highest_lsok0 F)
theorem impl_Board_highest_run (F : Nat) (b0 : List Int) : runS tt (impl_Board_highest_tab F) (impl_Board_highest_LS1 F) [] [] Try.f50 (bodyOf Try.f50) 70 [(.ints 16 b0)] [] = impl_Board_highest_c _ F b0 (fun r => some ⟨(.tup [(.int .i64 r.1), (.ints 2 r.2)]), [], []⟩) := by kernel_rfl
def impl_Board_highest_ent (F : Nat) : Ent := ⟨[], .quiet, fun args mem => match args, mem with
  | [(.ints 16 b0)], [] => some ((impl_Board_highest_p F b0).isSome, ⟨(.tup [(.int .i64 ((impl_Board_highest_p F b0).getD default).1), (.ints 2 ((impl_Board_highest_p F b0).getD default).2)]), [], []⟩)
  | _, _ => none⟩
theorem impl_Board_highest_fok : FunOK Try.prog 50 := funOK Try.func50 (by kernel_rfl) rfl
theorem impl_Board_highest_meets (F : Nat) : Meets Try.prog 50 (impl_Board_highest_ent F) := by
  refine meets_of_runS mixed ttok deep (impl_Board_highest_tabok F) Try.func50 (body_some rfl) (impl_Board_highest_lsok1 F) fun args mem hfit ret h => ?_
  clear hfit
  simp only [impl_Board_highest_ent] at h
  split at h
  · rename_i b0
    simp only [Option.some.injEq, Prod.mk.injEq] at h
    obtain ⟨hc, rfl⟩ := h
    exact ⟨[], [], 70, _, (impl_Board_highest_run F b0).trans ((impl_Board_highest_cp _ F b0 _).trans (bind_use hc _)), rfl, rfl, rfl⟩
  · cases h

/-! loop.example/g01194/impl.HighestTile -/
noncomputable def impl_HighestTile_tab (F : Nat) : Tab := [(42, (impl_IsBoard_ent F)), (50, (impl_Board_highest_ent F))]
theorem impl_HighestTile_tabok (F : Nat) : TabOK Try.prog (impl_HighestTile_tab F) := (tab_cons (impl_IsBoard_meets F) impl_IsBoard_fok (tab_cons (impl_Board_highest_meets F) impl_Board_highest_fok tab_nil))
noncomputable def impl_HighestTile_LS0 (F : Nat) : LT := []
theorem impl_HighestTile_lsok0 (F : Nat) : LoopsOK Try.prog (impl_HighestTile_LS0 F) (bodyOf Try.f23) := loopsOK_nil
theorem impl_HighestTile_run (F : Nat) (b0 : List Int) : runS tt (impl_HighestTile_tab F) (impl_HighestTile_LS0 F) [] [] Try.f23 (bodyOf Try.f23) 70 [(.ints 16 b0)] [] = impl_HighestTile_c _ F b0 (fun r => some ⟨(.tup [(.int .i64 r.1), (.ints 2 r.2.1), (.bool r.2.2)]), [], []⟩) := by kernel_rfl
def impl_HighestTile_ent (F : Nat) : Ent := ⟨[], .quiet, fun args mem => match args, mem with
  | [(.ints 16 b0)], [] => some ((impl_HighestTile_p F b0).isSome, ⟨(.tup [(.int .i64 ((impl_HighestTile_p F b0).getD default).1), (.ints 2 ((impl_HighestTile_p F b0).getD default).2.1), (.bool ((impl_HighestTile_p F b0).getD default).2.2)]), [], []⟩)
  | _, _ => none⟩
theorem impl_HighestTile_fok : FunOK Try.prog 23 := funOK Try.func23 (by kernel_rfl) rfl
theorem impl_HighestTile_meets (F : Nat) : Meets Try.prog 23 (impl_HighestTile_ent F) := by
  refine meets_of_runS mixed ttok deep (impl_HighestTile_tabok F) Try.func23 (body_some rfl) (impl_HighestTile_lsok0 F) fun args mem hfit ret h => ?_
  clear hfit
  simp only [impl_HighestTile_ent] at h
  split at h
  · rename_i b0
    simp only [Option.some.injEq, Prod.mk.injEq] at h
    obtain ⟨hc, rfl⟩ := h
    exact ⟨[], [], 70, _, (impl_HighestTile_run F b0).trans ((impl_HighestTile_cp _ F b0 _).trans (bind_use hc _)), rfl, rfl, rfl⟩
  · cases h

/-! loop.example/g01194/impl.EmptyCells -/
noncomputable def impl_EmptyCells_tab (F : Nat) : Tab := [(42, (impl_IsBoard_ent F)), (43, (impl_Board_empty_ent F))]
theorem impl_EmptyCells_tabok (F : Nat) : TabOK Try.prog (impl_EmptyCells_tab F) := (tab_cons (impl_IsBoard_meets F) impl_IsBoard_fok (tab_cons (impl_Board_empty_meets F) impl_Board_empty_fok tab_nil))
noncomputable def impl_EmptyCells_LS0 (F : Nat) : LT := []
theorem impl_EmptyCells_lsok0 (F : Nat) : LoopsOK Try.prog (impl_EmptyCells_LS0 F) (bodyOf Try.f24) := loopsOK_nil
theorem impl_EmptyCells_run (F : Nat) (b0 : List Int) : runS tt (impl_EmptyCells_tab F) (impl_EmptyCells_LS0 F) [⟨2, 43, (.rr 2 ([] : List (List Int)))⟩] [] Try.f24 (bodyOf Try.f24) 70 [(.ints 16 b0)] [] = impl_EmptyCells_c _ F b0 (fun r => some ⟨(.tup [(.sl 0 0 r.1), (.bool r.2.1)]), [(.vec 43 (.rr 2 r.2.2))], []⟩) := by kernel_rfl
def impl_EmptyCells_ent (F : Nat) : Ent := ⟨[], .fresh, fun args mem => match args, mem with
  | [(.ints 16 b0)], [] => some ((impl_EmptyCells_p F b0).isSome, ⟨(.tup [(.sl 0 0 ((impl_EmptyCells_p F b0).getD default).1), (.bool ((impl_EmptyCells_p F b0).getD default).2.1)]), [(.vec 43 (.rr 2 ((impl_EmptyCells_p F b0).getD default).2.2))], []⟩)
  | _, _ => none⟩
theorem impl_EmptyCells_fok : FunOK Try.prog 24 := funOK Try.func24 (by kernel_rfl) rfl
theorem impl_EmptyCells_meets (F : Nat) : Meets Try.prog 24 (impl_EmptyCells_ent F) := by
  refine meets_of_runS mixed ttok deep (impl_EmptyCells_tabok F) Try.func24 (body_some rfl) (impl_EmptyCells_lsok0 F) fun args mem hfit ret h => ?_
  clear hfit
  simp only [impl_EmptyCells_ent] at h
  split at h
  · rename_i b0
    simp only [Option.some.injEq, Prod.mk.injEq] at h
    obtain ⟨hc, rfl⟩ := h
    exact ⟨[⟨2, 43, (.rr 2 ([] : List (List Int)))⟩], [], 70, _, (impl_EmptyCells_run F b0).trans ((impl_EmptyCells_cp _ F b0 _).trans (bind_use hc _)), rfl, rfl, rfl⟩
  · cases h

/-! loop.example/g01194/impl.isDirection -/
noncomputable def impl_isDirection_tab (F : Nat) : Tab := [(39, (impl_in_ent F))]
theorem impl_isDirection_tabok (F : Nat) : TabOK Try.prog (impl_isDirection_tab F) := (tab_cons (impl_in_meets F) impl_in_fok tab_nil)
noncomputable def impl_isDirection_LS0 (F : Nat) : LT := []
theorem impl_isDirection_lsok0 (F : Nat) : LoopsOK Try.prog (impl_isDirection_LS0 F) (bodyOf Try.f51) := loopsOK_nil
theorem impl_isDirection_run (F : Nat) (d0 : Int) : runS tt (impl_isDirection_tab F) (impl_isDirection_LS0 F) [] [] Try.f51 (bodyOf Try.f51) 70 [(.int .i64 d0)] [] = impl_isDirection_c _ d0 (fun r => some ⟨(.bool r), [], []⟩) := by kernel_rfl
def impl_isDirection_ent (F : Nat) : Ent := ⟨[], .quiet, fun args mem => match args, mem with
  | [(.int .i64 d0)], [] => some (true, ⟨(.bool (impl_isDirection_v d0)), [], []⟩)
  | _, _ => none⟩
theorem impl_isDirection_fok : FunOK Try.prog 51 := funOK Try.func51 (by kernel_rfl) rfl
theorem impl_isDirection_meets (F : Nat) : Meets Try.prog 51 (impl_isDirection_ent F) := by
  refine meets_of_runS mixed ttok deep (impl_isDirection_tabok F) Try.func51 (body_some rfl) (impl_isDirection_lsok0 F) fun args mem hfit ret h => ?_
  clear hfit
  simp only [impl_isDirection_ent] at h
  split at h
  · rename_i d0
    simp only [Option.some.injEq, Prod.mk.injEq] at h
    obtain ⟨hc, rfl⟩ := h
    exact ⟨[], [], 70, _, (impl_isDirection_run F d0).trans (impl_isDirection_cv _ d0 _), rfl, rfl, rfl⟩
  · cases h

/-! loop.example/g01194/impl.lineCell -/
noncomputable def impl_lineCell_tab (F : Nat) : Tab := []
theorem impl_lineCell_tabok (F : Nat) : TabOK Try.prog (impl_lineCell_tab F) := tab_nil
noncomputable def impl_lineCell_LS0 (F : Nat) : LT := []
theorem impl_lineCell_lsok0 (F : Nat) : LoopsOK Try.prog (impl_lineCell_LS0 F) (bodyOf Try.f79) := loopsOK_nil
theorem impl_lineCell_run (F : Nat) (direction0 : Int) (i1 : Int) (k2 : Int) : runS tt (impl_lineCell_tab F) (impl_lineCell_LS0 F) [] [] Try.f79 (bodyOf Try.f79) 70 [(.int .i64 direction0), (.int .i64 i1), (.int .i64 k2)] [] = impl_lineCell_c _ direction0 i1 k2 (fun r => some ⟨(.ints 2 r), [], []⟩) := by kernel_rfl
def impl_lineCell_ent (F : Nat) : Ent := ⟨[], .quiet, fun args mem => match args, mem with
  | [(.int .i64 direction0), (.int .i64 i1), (.int .i64 k2)], [] => some (true, ⟨(.ints 2 (impl_lineCell_v direction0 i1 k2)), [], []⟩)
  | _, _ => none⟩
theorem impl_lineCell_fok : FunOK Try.prog 79 := funOK Try.func79 (by kernel_rfl) rfl
theorem impl_lineCell_meets (F : Nat) : Meets Try.prog 79 (impl_lineCell_ent F) := by
  refine meets_of_runS mixed ttok deep (impl_lineCell_tabok F) Try.func79 (body_some rfl) (impl_lineCell_lsok0 F) fun args mem hfit ret h => ?_
  clear hfit
  simp only [impl_lineCell_ent] at h
  split at h
  · rename_i direction0 i1 k2
    simp only [Option.some.injEq, Prod.mk.injEq] at h
    obtain ⟨hc, rfl⟩ := h
    exact ⟨[], [], 70, _, (impl_lineCell_run F direction0 i1 k2).trans (impl_lineCell_cv _ direction0 i1 k2 _), rfl, rfl, rfl⟩
  · cases h

/-! (loop.example/g01194/impl.Board).line -/
noncomputable def impl_Board_line_tab (F : Nat) : Tab := [(79, (impl_lineCell_ent F)), (33, (impl_Board_at_ent F))]
theorem impl_Board_line_tabok (F : Nat) : TabOK Try.prog (impl_Board_line_tab F) := (tab_cons (impl_lineCell_meets F) impl_lineCell_fok (tab_cons (impl_Board_at_meets F) impl_Board_at_fok tab_nil))
noncomputable def impl_Board_line_LS0 (F : Nat) : LT := []
theorem impl_Board_line_lsok0 (F : Nat) : LoopsOK Try.prog (impl_Board_line_LS0 F) (bodyOf Try.f68) := loopsOK_nil
theorem impl_Board_line_run (F : Nat) (b0 : List Int) (direction1 : Int) (i2 : Int) : runS tt (impl_Board_line_tab F) (impl_Board_line_LS0 F) [] [] Try.f68 (bodyOf Try.f68) 70 [(.ints 16 b0), (.int .i64 direction1), (.int .i64 i2)] [] = impl_Board_line_c _ b0 direction1 i2 (fun r => some ⟨(.ints 4 r), [], []⟩) := by kernel_rfl
def impl_Board_line_ent (F : Nat) : Ent := ⟨[], .quiet, fun args mem => match args, mem with
  | [(.ints 16 b0), (.int .i64 direction1), (.int .i64 i2)], [] => some ((impl_Board_line_p b0 direction1 i2).isSome, ⟨(.ints 4 ((impl_Board_line_p b0 direction1 i2).getD default)), [], []⟩)
  | _, _ => none⟩
theorem impl_Board_line_fok : FunOK Try.prog 68 := funOK Try.func68 (by kernel_rfl) rfl
theorem impl_Board_line_meets (F : Nat) : Meets Try.prog 68 (impl_Board_line_ent F) := by
  refine meets_of_runS mixed ttok deep (impl_Board_line_tabok F) Try.func68 (body_some rfl) (impl_Board_line_lsok0 F) fun args mem hfit ret h => ?_
  clear hfit
  simp only [impl_Board_line_ent] at h
  split at h
  · rename_i b0 direction1 i2
    simp only [Option.some.injEq, Prod.mk.injEq] at h
    obtain ⟨hc, rfl⟩ := h
    exact ⟨[], [], 70, _, (impl_Board_line_run F b0 direction1 i2).trans ((impl_Board_line_cp _ b0 direction1 i2 _).trans (bind_use hc _)), rfl, rfl, rfl⟩
  · cases h

/-! slices.Clone[[]int,int] -/
def slices_Clone_intint_ent (F : Nat) : Ent := ⟨[], .fresh, fun args mem => match args, mem with
  | [(.ri .i64 xs)], [] => some (fits xs.length 8, ⟨.sl 0 0 xs.length, [.vec 3 (.ri .i64 xs)], []⟩)
  | _, _ => none⟩
theorem slices_Clone_intint_fok : FunOK Try.prog 83 := funOK Try.func83 (by kernel_rfl) rfl
theorem slices_Clone_intint_meets (F : Nat) : Meets Try.prog 83 (slices_Clone_intint_ent F) := by
  have hb : Try.f83.body = some (.seq _ (.seq (.seq (.region _ #[_, _] false) _) _)) := rfl
  refine meets_nil (fuel := 70) (fn := Try.f83) mixed ttok deep tab_nil Try.func83 hb loopsOK_nil rfl rfl rfl rfl rfl rfl Try.underlying57 fun args mem hfit ret hg => ?_
  clear hfit
  simp only [slices_Clone_intint_ent] at hg
  split at hg
  · rename_i xs
    simp only [Option.some.injEq, Prod.mk.injEq] at hg
    obtain ⟨hc, rfl⟩ := hg
    refine ⟨⟨[(.ri .i64 xs), .undef, .z0, .undef, .undef, .undef, .undef, .undef], [], 0, []⟩, fun R k => by kernel_rfl, rfl, Nat.le_of_ble_eq_true rfl, fun b hb => ?_⟩
    cases b with
    | true =>
      obtain rfl : xs = [] := List.eq_nil_of_length_eq_zero (hb rfl)
      exact ⟨[⟨2, 3, (.ri .i64 [])⟩], [], _, (by kernel_rfl : _ = some ⟨.sl 0 0 0, [.vec 3 (.ri .i64 [])], []⟩), rfl, rfl, rfl⟩
    | false =>
      refine ⟨[], [], ⟨.sl 0 0 xs.length, [.vec 3 (.ri .i64 xs)], []⟩, Eq.trans (by kernel_rfl : _ = bif fits xs.length 8 then some (⟨.sl 0 0 xs.length, [.vec 3 (.ri .i64 xs)], []⟩ : Ret) else none) ?_, rfl, rfl, rfl⟩
      rw [hc]; rfl
  · cases hg

/-! loop.example/g01194/impl.tiles$1 -/
noncomputable def impl_tiles_f1_tab (F : Nat) : Tab := []
theorem impl_tiles_f1_tabok (F : Nat) : TabOK Try.prog (impl_tiles_f1_tab F) := tab_nil
noncomputable def impl_tiles_f1_LS0 (F : Nat) : LT := []
theorem impl_tiles_f1_lsok0 (F : Nat) : LoopsOK Try.prog (impl_tiles_f1_LS0 F) (bodyOf Try.f84) := loopsOK_nil
theorem impl_tiles_f1_run (F : Nat) (n0 : Int) : runS tt (impl_tiles_f1_tab F) (impl_tiles_f1_LS0 F) [] [] Try.f84 (bodyOf Try.f84) 70 [(.int .i64 n0)] [] = impl_tiles_f1_c _ n0 (fun r => some ⟨(.bool r), [], []⟩) := by kernel_rfl
def impl_tiles_f1_ent (F : Nat) : Ent := ⟨[], .quiet, fun args mem => match args, mem with
  | [(.int .i64 n0)], [] => some (true, ⟨(.bool (impl_tiles_f1_v n0)), [], []⟩)
  | _, _ => none⟩
theorem impl_tiles_f1_fok : FunOK Try.prog 84 := funOK Try.func84 (by kernel_rfl) rfl
theorem impl_tiles_f1_meets (F : Nat) : Meets Try.prog 84 (impl_tiles_f1_ent F) := by
  refine meets_of_runS mixed ttok deep (impl_tiles_f1_tabok F) Try.func84 (body_some rfl) (impl_tiles_f1_lsok0 F) fun args mem hfit ret h => ?_
  clear hfit
  simp only [impl_tiles_f1_ent] at h
  split at h
  · rename_i n0
    simp only [Option.some.injEq, Prod.mk.injEq] at h
    obtain ⟨hc, rfl⟩ := h
    exact ⟨[], [], 70, _, (impl_tiles_f1_run F n0).trans (impl_tiles_f1_cv _ n0 _), rfl, rfl, rfl⟩
  · cases h

/-! slices.IndexFunc[[]int,int] -/
noncomputable def slices_IndexFunc_intint_impl_tiles_f1_tab (F : Nat) : Tab := [(84, (impl_tiles_f1_ent F))]
theorem slices_IndexFunc_intint_impl_tiles_f1_tabok (F : Nat) : TabOK Try.prog (slices_IndexFunc_intint_impl_tiles_f1_tab F) := (tab_cons (impl_tiles_f1_meets F) impl_tiles_f1_fok tab_nil)
noncomputable def slices_IndexFunc_intint_impl_tiles_f1_LS0 (F : Nat) : LT := []
theorem slices_IndexFunc_intint_impl_tiles_f1_lsok0 (F : Nat) : LoopsOK Try.prog (slices_IndexFunc_intint_impl_tiles_f1_LS0 F) (bodyOf Try.f80) := loopsOK_nil
theorem slices_IndexFunc_intint_impl_tiles_f1_keys : keysOK (bodyOf Try.f80) = true := by kernel_rfl
def slices_IndexFunc_intint_impl_tiles_f1_st2 (s0 : List Int) (t71 : Int) (t82 : Int) : St := ⟨expand 19 0 [0, 1, 7, 8] [(.ri .i64 s0), (.fn 84 [] []), (.int .i64 t71), (.int .i64 t82)], [], 0, []⟩
def slices_IndexFunc_intint_impl_tiles_f1_o2 (s0 : List Int) (t71 : Int) (x : Bool × Int) : GT := (.br x.1 (.out (.ret ⟨expand 19 0 [4] [(.int .i64 x.2)], [], 0, []⟩)) (.out (.exit 0 ⟨expand 19 0 [] [], [], 0, []⟩)))
def slices_IndexFunc_intint_impl_tiles_f1_ls2 (F : Nat) : LoopS := ⟨19, [0, 1, 7, 8], [], [], [], [4], [], [], fun vals mem np killed => match vals, mem, np, killed with
  | [(.ri .i64 s0), (.fn 84 [] []), (.int .i64 t71), (.int .i64 t82)], [], 0, [] => .br (slices_IndexFunc_intint_impl_tiles_f1_l2 F s0 t71 t82).isSome (slices_IndexFunc_intint_impl_tiles_f1_o2 s0 t71 ((slices_IndexFunc_intint_impl_tiles_f1_l2 F s0 t71 t82).getD default)) .fail
  | _, _, _, _ => .fail⟩
theorem slices_IndexFunc_intint_impl_tiles_f1_step2 (F : Nat) (s0 : List Int) (t71 : Int) (t82 : Int) {R : Type} (k : Out → Option R) : stepS tt (slices_IndexFunc_intint_impl_tiles_f1_tab F) (slices_IndexFunc_intint_impl_tiles_f1_LS0 F) 70 (slices_IndexFunc_intint_impl_tiles_f1_ls2 F) (loopAt 2 (bodyOf Try.f80)) (slices_IndexFunc_intint_impl_tiles_f1_st2 s0 t71 t82) k = slices_IndexFunc_intint_impl_tiles_f1_s2 F s0 t71 R t82 (fun s => k (.norm (slices_IndexFunc_intint_impl_tiles_f1_st2 s0 t71 s))) (fun x => (slices_IndexFunc_intint_impl_tiles_f1_o2 s0 t71 x).run k) := by kernel_rfl
theorem slices_IndexFunc_intint_impl_tiles_f1_iter2 (F : Nat) (s0 : List Int) (t71 : Int) {R : Type} (k : Out → Option R) : ∀ (n : Nat) (t82 : Int), iterS tt (slices_IndexFunc_intint_impl_tiles_f1_tab F) (slices_IndexFunc_intint_impl_tiles_f1_LS0 F) 70 (slices_IndexFunc_intint_impl_tiles_f1_ls2 F) (loopAt 2 (bodyOf Try.f80)) n (slices_IndexFunc_intint_impl_tiles_f1_st2 s0 t71 t82) k = loopC (slices_IndexFunc_intint_impl_tiles_f1_s2 F s0 t71) n t82 (fun x => (slices_IndexFunc_intint_impl_tiles_f1_o2 s0 t71 x).run k)
  | 0, t82 => rfl
  | n + 1, t82 => (iterS_succ tt (slices_IndexFunc_intint_impl_tiles_f1_tab F) (slices_IndexFunc_intint_impl_tiles_f1_LS0 F) 70 (slices_IndexFunc_intint_impl_tiles_f1_ls2 F) (loopAt 2 (bodyOf Try.f80)) n (slices_IndexFunc_intint_impl_tiles_f1_st2 s0 t71 t82) k).trans ((slices_IndexFunc_intint_impl_tiles_f1_step2 F s0 t71 t82 (nextK (iterS tt (slices_IndexFunc_intint_impl_tiles_f1_tab F) (slices_IndexFunc_intint_impl_tiles_f1_LS0 F) 70 (slices_IndexFunc_intint_impl_tiles_f1_ls2 F) (loopAt 2 (bodyOf Try.f80)) n) k)).trans (congrArg (fun kn => slices_IndexFunc_intint_impl_tiles_f1_s2 F s0 t71 R t82 kn _) (funext (fun t82 => slices_IndexFunc_intint_impl_tiles_f1_iter2 F s0 t71 k n t82))))
theorem slices_IndexFunc_intint_impl_tiles_f1_lok2 (F : Nat) : LoopOK Try.prog (loopAt 2 (bodyOf Try.f80)) (slices_IndexFunc_intint_impl_tiles_f1_ls2 F) := by
  refine loopOK_of mixed ttok deep (slices_IndexFunc_intint_impl_tiles_f1_tabok F) (loopsOK_at (slices_IndexFunc_intint_impl_tiles_f1_lsok0 F) 2) (fuel := 70) fun R vals mem np killed k x h => ?_
  simp only [slices_IndexFunc_intint_impl_tiles_f1_ls2] at h
  split at h
  · rename_i s0 t71 t82
    simp only [GT.run] at h
    have hc := (cond_noneL h).1
    replace h := (cond_noneL h).2
    refine ⟨F, (slices_IndexFunc_intint_impl_tiles_f1_iter2 F s0 t71 k F t82).trans ((loopC_use (slices_IndexFunc_intint_impl_tiles_f1_s2_nat F s0 t71) hc _).trans h)⟩
  · simp only [GT.run] at h
    cases h
noncomputable def slices_IndexFunc_intint_impl_tiles_f1_LS1 (F : Nat) : LT := (2, slices_IndexFunc_intint_impl_tiles_f1_ls2 F) :: slices_IndexFunc_intint_impl_tiles_f1_LS0 F
theorem slices_IndexFunc_intint_impl_tiles_f1_lsok1 (F : Nat) : LoopsOK Try.prog (slices_IndexFunc_intint_impl_tiles_f1_LS1 F) (bodyOf Try.f80) := loopsOK_cons slices_IndexFunc_intint_impl_tiles_f1_keys (slices_IndexFunc_intint_impl_tiles_f1_lok2 F) (slices_IndexFunc_intint_impl_tiles_f1_lsok0 F)
theorem slices_IndexFunc_intint_impl_tiles_f1_run (F : Nat) (s0 : List Int) : runS tt (slices_IndexFunc_intint_impl_tiles_f1_tab F) (slices_IndexFunc_intint_impl_tiles_f1_LS1 F) [] [] Try.f80 (bodyOf Try.f80) 70 [(.ri .i64 s0), (.fn 84 [] [])] [] = slices_IndexFunc_intint_impl_tiles_f1_c _ F s0 (fun r => some ⟨(.int .i64 r), [], []⟩) := by kernel_rfl
def slices_IndexFunc_intint_impl_tiles_f1_ent (F : Nat) : Ent := ⟨[], .quiet, fun args mem => match args, mem with
  | [(.ri .i64 s0), (.fn 84 [] [])], [] => some ((slices_IndexFunc_intint_impl_tiles_f1_p F s0).isSome, ⟨(.int .i64 ((slices_IndexFunc_intint_impl_tiles_f1_p F s0).getD default)), [], []⟩)
  | _, _ => none⟩
theorem slices_IndexFunc_intint_impl_tiles_f1_fok : FunOK Try.prog 80 := funOK Try.func80 (by kernel_rfl) rfl
theorem slices_IndexFunc_intint_impl_tiles_f1_meets (F : Nat) : Meets Try.prog 80 (slices_IndexFunc_intint_impl_tiles_f1_ent F) := by
  refine meets_of_runS mixed ttok deep (slices_IndexFunc_intint_impl_tiles_f1_tabok F) Try.func80 (body_some rfl) (slices_IndexFunc_intint_impl_tiles_f1_lsok1 F) fun args mem hfit ret h => ?_
  clear hfit
  simp only [slices_IndexFunc_intint_impl_tiles_f1_ent] at h
  split at h
  · rename_i s0
    simp only [Option.some.injEq, Prod.mk.injEq] at h
    obtain ⟨hc, rfl⟩ := h
    exact ⟨[], [], 70, _, (slices_IndexFunc_intint_impl_tiles_f1_run F s0).trans ((slices_IndexFunc_intint_impl_tiles_f1_cp _ F s0 _).trans (bind_use hc _)), rfl, rfl, rfl⟩
  · cases h

/-! slices.DeleteFunc[[]int,int] -/
noncomputable def slices_DeleteFunc_intint_impl_tiles_f1_tab (F : Nat) : Tab := [(80, (slices_IndexFunc_intint_impl_tiles_f1_ent F)), (84, (impl_tiles_f1_ent F))]
theorem slices_DeleteFunc_intint_impl_tiles_f1_tabok (F : Nat) : TabOK Try.prog (slices_DeleteFunc_intint_impl_tiles_f1_tab F) := (tab_cons (slices_IndexFunc_intint_impl_tiles_f1_meets F) slices_IndexFunc_intint_impl_tiles_f1_fok (tab_cons (impl_tiles_f1_meets F) impl_tiles_f1_fok tab_nil))
noncomputable def slices_DeleteFunc_intint_impl_tiles_f1_LS0 (F : Nat) : LT := []
theorem slices_DeleteFunc_intint_impl_tiles_f1_lsok0 (F : Nat) : LoopsOK Try.prog (slices_DeleteFunc_intint_impl_tiles_f1_LS0 F) (bodyOf Try.f82) := loopsOK_nil
theorem slices_DeleteFunc_intint_impl_tiles_f1_keys : keysOK (bodyOf Try.f82) = true := by kernel_rfl
def slices_DeleteFunc_intint_impl_tiles_f1_st5 (s1 : Nat) (i2 : Int) (j3 : Int) (s4 : List Int) : St := ⟨expand 42 0 [0, 1, 5, 6] [(.sl 0 0 s1), (.fn 84 [] []), (.int .i64 i2), (.int .i64 j3)], [(.vec 3 (.ri .i64 s4))], 1, []⟩
def slices_DeleteFunc_intint_impl_tiles_f1_o5 (s1 : Nat) (x : Int × List Int) : GT := (.out (.exit 0 ⟨expand 42 0 [0, 5] [(.sl 0 0 s1), (.int .i64 x.1)], [(.vec 3 (.ri .i64 x.2))], 1, []⟩))
def slices_DeleteFunc_intint_impl_tiles_f1_ls5 (F : Nat) : LoopS := ⟨42, [0, 1, 5, 6], [], [0, 5], [], [4], [], [], fun vals mem np killed => match vals, mem, np, killed with
  | [(.sl 0 0 s1), (.fn 84 [] []), (.int .i64 i2), (.int .i64 j3)], [(.vec 3 (.ri .i64 s4))], 1, [] => .br (slices_DeleteFunc_intint_impl_tiles_f1_l5 F s1 i2 j3 s4).isSome (slices_DeleteFunc_intint_impl_tiles_f1_o5 s1 ((slices_DeleteFunc_intint_impl_tiles_f1_l5 F s1 i2 j3 s4).getD default)) .fail
  | _, _, _, _ => .fail⟩
theorem slices_DeleteFunc_intint_impl_tiles_f1_step5 (F : Nat) (s1 : Nat) (i2 : Int) (j3 : Int) (s4 : List Int) {R : Type} (k : Out → Option R) : stepS tt (slices_DeleteFunc_intint_impl_tiles_f1_tab F) (slices_DeleteFunc_intint_impl_tiles_f1_LS0 F) 70 (slices_DeleteFunc_intint_impl_tiles_f1_ls5 F) (loopAt 5 (bodyOf Try.f82)) (slices_DeleteFunc_intint_impl_tiles_f1_st5 s1 i2 j3 s4) k = slices_DeleteFunc_intint_impl_tiles_f1_s5 F s1 R (i2, j3, s4) (fun s => k (.norm (slices_DeleteFunc_intint_impl_tiles_f1_st5 s1 s.1 s.2.1 s.2.2))) (fun x => (slices_DeleteFunc_intint_impl_tiles_f1_o5 s1 x).run k) := by kernel_rfl
theorem slices_DeleteFunc_intint_impl_tiles_f1_iter5 (F : Nat) (s1 : Nat) {R : Type} (k : Out → Option R) : ∀ (n : Nat) (i2 : Int) (j3 : Int) (s4 : List Int), iterS tt (slices_DeleteFunc_intint_impl_tiles_f1_tab F) (slices_DeleteFunc_intint_impl_tiles_f1_LS0 F) 70 (slices_DeleteFunc_intint_impl_tiles_f1_ls5 F) (loopAt 5 (bodyOf Try.f82)) n (slices_DeleteFunc_intint_impl_tiles_f1_st5 s1 i2 j3 s4) k = loopC (slices_DeleteFunc_intint_impl_tiles_f1_s5 F s1) n (i2, j3, s4) (fun x => (slices_DeleteFunc_intint_impl_tiles_f1_o5 s1 x).run k)
  | 0, i2, j3, s4 => rfl
  | n + 1, i2, j3, s4 => (iterS_succ tt (slices_DeleteFunc_intint_impl_tiles_f1_tab F) (slices_DeleteFunc_intint_impl_tiles_f1_LS0 F) 70 (slices_DeleteFunc_intint_impl_tiles_f1_ls5 F) (loopAt 5 (bodyOf Try.f82)) n (slices_DeleteFunc_intint_impl_tiles_f1_st5 s1 i2 j3 s4) k).trans ((slices_DeleteFunc_intint_impl_tiles_f1_step5 F s1 i2 j3 s4 (nextK (iterS tt (slices_DeleteFunc_intint_impl_tiles_f1_tab F) (slices_DeleteFunc_intint_impl_tiles_f1_LS0 F) 70 (slices_DeleteFunc_intint_impl_tiles_f1_ls5 F) (loopAt 5 (bodyOf Try.f82)) n) k)).trans (congrArg (fun kn => slices_DeleteFunc_intint_impl_tiles_f1_s5 F s1 R (i2, j3, s4) kn _) (funext (fun ⟨i2, j3, s4⟩ => slices_DeleteFunc_intint_impl_tiles_f1_iter5 F s1 k n i2 j3 s4))))
theorem slices_DeleteFunc_intint_impl_tiles_f1_lok5 (F : Nat) : LoopOK Try.prog (loopAt 5 (bodyOf Try.f82)) (slices_DeleteFunc_intint_impl_tiles_f1_ls5 F) := by
  refine loopOK_of mixed ttok deep (slices_DeleteFunc_intint_impl_tiles_f1_tabok F) (loopsOK_at (slices_DeleteFunc_intint_impl_tiles_f1_lsok0 F) 5) (fuel := 70) fun R vals mem np killed k x h => ?_
  simp only [slices_DeleteFunc_intint_impl_tiles_f1_ls5] at h
  split at h
  · rename_i s1 i2 j3 s4
    simp only [GT.run] at h
    have hc := (cond_noneL h).1
    replace h := (cond_noneL h).2
    refine ⟨F, (slices_DeleteFunc_intint_impl_tiles_f1_iter5 F s1 k F i2 j3 s4).trans ((loopC_use (slices_DeleteFunc_intint_impl_tiles_f1_s5_nat F s1) hc _).trans h)⟩
  · simp only [GT.run] at h
    cases h
noncomputable def slices_DeleteFunc_intint_impl_tiles_f1_LS1 (F : Nat) : LT := (5, slices_DeleteFunc_intint_impl_tiles_f1_ls5 F) :: slices_DeleteFunc_intint_impl_tiles_f1_LS0 F
theorem slices_DeleteFunc_intint_impl_tiles_f1_lsok1 (F : Nat) : LoopsOK Try.prog (slices_DeleteFunc_intint_impl_tiles_f1_LS1 F) (bodyOf Try.f82) := loopsOK_cons slices_DeleteFunc_intint_impl_tiles_f1_keys (slices_DeleteFunc_intint_impl_tiles_f1_lok5 F) (slices_DeleteFunc_intint_impl_tiles_f1_lsok0 F)
theorem slices_DeleteFunc_intint_impl_tiles_f1_run (F : Nat) (s2 : List Int) : runS tt (slices_DeleteFunc_intint_impl_tiles_f1_tab F) (slices_DeleteFunc_intint_impl_tiles_f1_LS1 F) [] [] Try.f82 (bodyOf Try.f82) 70 [(.sl 0 0 (List.length s2)), (.fn 84 [] [])] [(.vec 3 (.ri .i64 s2))] = slices_DeleteFunc_intint_impl_tiles_f1_c _ F s2 (fun r => some ⟨(.sl 0 0 r.1), [(.vec 3 (.ri .i64 r.2))], []⟩) := by kernel_rfl
def slices_DeleteFunc_intint_impl_tiles_f1_ent (F : Nat) : Ent := ⟨[true], .loud, fun args mem => match args, mem with
  | [(.sl 0 0 q_s1), (.fn 84 [] [])], [(.vec 3 (.ri .i64 s2))] => some (((Nat.beq q_s1 (List.length s2)) && (slices_DeleteFunc_intint_impl_tiles_f1_p F s2).isSome), ⟨(.sl 0 0 ((slices_DeleteFunc_intint_impl_tiles_f1_p F s2).getD default).1), [(.vec 3 (.ri .i64 ((slices_DeleteFunc_intint_impl_tiles_f1_p F s2).getD default).2))], []⟩)
  | _, _ => none⟩
theorem slices_DeleteFunc_intint_impl_tiles_f1_fok : FunOK Try.prog 82 := funOK Try.func82 (by kernel_rfl) rfl
theorem slices_DeleteFunc_intint_impl_tiles_f1_meets (F : Nat) : Meets Try.prog 82 (slices_DeleteFunc_intint_impl_tiles_f1_ent F) := by
  refine meets_of_runS mixed ttok deep (slices_DeleteFunc_intint_impl_tiles_f1_tabok F) Try.func82 (body_some rfl) (slices_DeleteFunc_intint_impl_tiles_f1_lsok1 F) fun args mem hfit ret h => ?_
  clear hfit
  simp only [slices_DeleteFunc_intint_impl_tiles_f1_ent] at h
  split at h
  · rename_i q_s1 s2
    simp only [Option.some.injEq, Prod.mk.injEq] at h
    obtain ⟨hc, rfl⟩ := h
    have hg := (and_split hc).1
    replace hc := (and_split hc).2
    obtain rfl := nbeq_nat hg
    exact ⟨[], [], 70, _, (slices_DeleteFunc_intint_impl_tiles_f1_run F s2).trans ((slices_DeleteFunc_intint_impl_tiles_f1_cp _ F s2 _).trans (bind_use hc _)), rfl, rfl, rfl⟩
  · cases h

/-! loop.example/g01194/impl.tiles -/
noncomputable def impl_tiles_tab (F : Nat) : Tab := [(83, (slices_Clone_intint_ent F)), (82, (slices_DeleteFunc_intint_impl_tiles_f1_ent F))]
theorem impl_tiles_tabok (F : Nat) : TabOK Try.prog (impl_tiles_tab F) := (tab_cons (slices_Clone_intint_meets F) slices_Clone_intint_fok (tab_cons (slices_DeleteFunc_intint_impl_tiles_f1_meets F) slices_DeleteFunc_intint_impl_tiles_f1_fok tab_nil))
noncomputable def impl_tiles_LS0 (F : Nat) : LT := []
theorem impl_tiles_lsok0 (F : Nat) : LoopsOK Try.prog (impl_tiles_LS0 F) (bodyOf Try.f78) := loopsOK_nil
theorem impl_tiles_run (F : Nat) (row0 : List Int) : runS tt (impl_tiles_tab F) (impl_tiles_LS0 F) [] [] Try.f78 (bodyOf Try.f78) 70 [(.ints 4 row0)] [] = impl_tiles_c _ F row0 (fun r => some ⟨(.sl 0 0 r.1), [(.vec 3 (.ri .i64 r.2))], []⟩) := by kernel_rfl
def impl_tiles_ent (F : Nat) : Ent := ⟨[], .fresh, fun args mem => match args, mem with
  | [(.ints 4 row0)], [] => some ((impl_tiles_p F row0).isSome, ⟨(.sl 0 0 ((impl_tiles_p F row0).getD default).1), [(.vec 3 (.ri .i64 ((impl_tiles_p F row0).getD default).2))], []⟩)
  | _, _ => none⟩
theorem impl_tiles_fok : FunOK Try.prog 78 := funOK Try.func78 (by kernel_rfl) rfl
theorem impl_tiles_meets (F : Nat) : Meets Try.prog 78 (impl_tiles_ent F) := by
  refine meets_of_runS mixed ttok deep (impl_tiles_tabok F) Try.func78 (body_some rfl) (impl_tiles_lsok0 F) fun args mem hfit ret h => ?_
  clear hfit
  simp only [impl_tiles_ent] at h
  split at h
  · rename_i row0
    simp only [Option.some.injEq, Prod.mk.injEq] at h
    obtain ⟨hc, rfl⟩ := h
    exact ⟨[], [], 70, _, (impl_tiles_run F row0).trans ((impl_tiles_cp _ F row0 _).trans (bind_use hc _)), rfl, rfl, rfl⟩
  · cases h

/-! loop.example/g01194/impl.slideRow -/
noncomputable def impl_slideRow_tab (F : Nat) : Tab := [(78, (impl_tiles_ent F)), (34, (impl_worth_ent F))]
theorem impl_slideRow_tabok (F : Nat) : TabOK Try.prog (impl_slideRow_tab F) := (tab_cons (impl_tiles_meets F) impl_tiles_fok (tab_cons (impl_worth_meets F) impl_worth_fok tab_nil))
noncomputable def impl_slideRow_LS0 (F : Nat) : LT := []
theorem impl_slideRow_lsok0 (F : Nat) : LoopsOK Try.prog (impl_slideRow_LS0 F) (bodyOf Try.f67) := loopsOK_nil
theorem impl_slideRow_keys : keysOK (bodyOf Try.f67) = true := by kernel_rfl
def impl_slideRow_st3 (t1415 : Nat) (t1516 : Int) (t1422 : List Int) (score12 : Int) (many13 : Int) (t1617 : Int) (out20 : List Int) (merged21 : List Bool) : St := ⟨expand 63 0 [2, 4, 5, 6, 7, 8, 14, 15, 16] [(.ptr 0 0 0 4), (.ptr 1 0 0 4), (.ptr 2 0 0 4), (.ptr 3 0 0 4), (.int .i64 score12), (.int .i64 many13), (.sl 4 0 t1415), (.int .i64 t1516), (.int .i64 t1617)], [(.var 4 (.ri .i64 [(0 : Int), (0 : Int), (0 : Int), (0 : Int)])), (.var 4 (.rb [false, false, false, false])), (.var 4 (.ri .i64 out20)), (.var 4 (.rb merged21)), (.vec 3 (.ri .i64 t1422))], 0, []⟩
def impl_slideRow_o3 (t1415 : Nat) (t1516 : Int) (t1422 : List Int) (x : Int × List Int × List Bool) : GT := (.out (.exit 0 ⟨expand 63 0 [2, 4, 5, 6, 7] [(.ptr 0 0 0 4), (.ptr 1 0 0 4), (.ptr 2 0 0 4), (.ptr 3 0 0 4), (.int .i64 x.1)], [(.var 4 (.ri .i64 [(0 : Int), (0 : Int), (0 : Int), (0 : Int)])), (.var 4 (.rb [false, false, false, false])), (.var 4 (.ri .i64 x.2.1)), (.var 4 (.rb x.2.2))], 0, []⟩))
def impl_slideRow_ls3 (F : Nat) : LoopS := ⟨63, [2, 4, 5, 6, 7, 8, 14, 15, 16], [], [2, 4, 5, 6, 7], [], [2, 3, 4], [], [], fun vals mem np killed => match vals, mem, np, killed with
  | [(.ptr 0 0 0 4), (.ptr 1 0 0 4), (.ptr 2 0 0 4), (.ptr 3 0 0 4), (.int .i64 score12), (.int .i64 many13), (.sl 4 0 t1415), (.int .i64 t1516), (.int .i64 t1617)], [(.var 4 (.ri .i64 q_t218)), (.var 4 (.rb q_t419)), (.var 4 (.ri .i64 out20)), (.var 4 (.rb merged21)), (.vec 3 (.ri .i64 t1422))], 0, [] => .br ((q_t218 == ([(0 : Int), (0 : Int), (0 : Int), (0 : Int)] : List Int)) && ((q_t419 == ([false, false, false, false] : List Bool)) && (impl_slideRow_l3 F t1415 t1516 t1422 score12 many13 t1617 out20 merged21).isSome)) (impl_slideRow_o3 t1415 t1516 t1422 ((impl_slideRow_l3 F t1415 t1516 t1422 score12 many13 t1617 out20 merged21).getD default)) .fail
  | _, _, _, _ => .fail⟩
theorem impl_slideRow_step3 (F : Nat) (t1415 : Nat) (t1516 : Int) (t1422 : List Int) (score12 : Int) (many13 : Int) (t1617 : Int) (out20 : List Int) (merged21 : List Bool) {R : Type} (k : Out → Option R) : stepS tt (impl_slideRow_tab F) (impl_slideRow_LS0 F) 70 (impl_slideRow_ls3 F) (loopAt 3 (bodyOf Try.f67)) (impl_slideRow_st3 t1415 t1516 t1422 score12 many13 t1617 out20 merged21) k = impl_slideRow_s3 F t1415 t1516 t1422 R (score12, many13, t1617, out20, merged21) (fun s => k (.norm (impl_slideRow_st3 t1415 t1516 t1422 s.1 s.2.1 s.2.2.1 s.2.2.2.1 s.2.2.2.2))) (fun x => (impl_slideRow_o3 t1415 t1516 t1422 x).run k) := by kernel_rfl
theorem impl_slideRow_iter3 (F : Nat) (t1415 : Nat) (t1516 : Int) (t1422 : List Int) {R : Type} (k : Out → Option R) : ∀ (n : Nat) (score12 : Int) (many13 : Int) (t1617 : Int) (out20 : List Int) (merged21 : List Bool), iterS tt (impl_slideRow_tab F) (impl_slideRow_LS0 F) 70 (impl_slideRow_ls3 F) (loopAt 3 (bodyOf Try.f67)) n (impl_slideRow_st3 t1415 t1516 t1422 score12 many13 t1617 out20 merged21) k = loopC (impl_slideRow_s3 F t1415 t1516 t1422) n (score12, many13, t1617, out20, merged21) (fun x => (impl_slideRow_o3 t1415 t1516 t1422 x).run k)
  | 0, score12, many13, t1617, out20, merged21 => rfl
  | n + 1, score12, many13, t1617, out20, merged21 => (iterS_succ tt (impl_slideRow_tab F) (impl_slideRow_LS0 F) 70 (impl_slideRow_ls3 F) (loopAt 3 (bodyOf Try.f67)) n (impl_slideRow_st3 t1415 t1516 t1422 score12 many13 t1617 out20 merged21) k).trans ((impl_slideRow_step3 F t1415 t1516 t1422 score12 many13 t1617 out20 merged21 (nextK (iterS tt (impl_slideRow_tab F) (impl_slideRow_LS0 F) 70 (impl_slideRow_ls3 F) (loopAt 3 (bodyOf Try.f67)) n) k)).trans (congrArg (fun kn => impl_slideRow_s3 F t1415 t1516 t1422 R (score12, many13, t1617, out20, merged21) kn _) (funext (fun ⟨score12, many13, t1617, out20, merged21⟩ => impl_slideRow_iter3 F t1415 t1516 t1422 k n score12 many13 t1617 out20 merged21))))
theorem impl_slideRow_lok3 (F : Nat) : LoopOK Try.prog (loopAt 3 (bodyOf Try.f67)) (impl_slideRow_ls3 F) := by
  refine loopOK_of mixed ttok deep (impl_slideRow_tabok F) (loopsOK_at (impl_slideRow_lsok0 F) 3) (fuel := 70) fun R vals mem np killed k x h => ?_
  simp only [impl_slideRow_ls3] at h
  split at h
  · rename_i score12 many13 t1415 t1516 t1617 q_t218 q_t419 out20 merged21 t1422
    simp only [GT.run] at h
    have hc := (cond_noneL h).1
    replace h := (cond_noneL h).2
    have hg := (and_split hc).1
    replace hc := (and_split hc).2
    obtain rfl := beq_li hg
    have hg := (and_split hc).1
    replace hc := (and_split hc).2
    obtain rfl := beq_lb hg
    refine ⟨F, (impl_slideRow_iter3 F t1415 t1516 t1422 k F score12 many13 t1617 out20 merged21).trans ((loopC_use (impl_slideRow_s3_nat F t1415 t1516 t1422) hc _).trans h)⟩
  · simp only [GT.run] at h
    cases h
noncomputable def impl_slideRow_LS1 (F : Nat) : LT := (3, impl_slideRow_ls3 F) :: impl_slideRow_LS0 F
theorem impl_slideRow_lsok1 (F : Nat) : LoopsOK Try.prog (impl_slideRow_LS1 F) (bodyOf Try.f67) := loopsOK_cons impl_slideRow_keys (impl_slideRow_lok3 F) (impl_slideRow_lsok0 F)
theorem impl_slideRow_run (F : Nat) (row0 : List Int) : runS tt (impl_slideRow_tab F) (impl_slideRow_LS1 F) [] [] Try.f67 (bodyOf Try.f67) 70 [(.ints 4 row0)] [] = impl_slideRow_c _ F row0 (fun r => some ⟨(.tup [(.ints 4 r.1), (.int .i64 r.2.1), (.bools 4 r.2.2)]), [], []⟩) := by kernel_rfl
def impl_slideRow_ent (F : Nat) : Ent := ⟨[], .quiet, fun args mem => match args, mem with
  | [(.ints 4 row0)], [] => some ((impl_slideRow_p F row0).isSome, ⟨(.tup [(.ints 4 ((impl_slideRow_p F row0).getD default).1), (.int .i64 ((impl_slideRow_p F row0).getD default).2.1), (.bools 4 ((impl_slideRow_p F row0).getD default).2.2)]), [], []⟩)
  | _, _ => none⟩
theorem impl_slideRow_fok : FunOK Try.prog 67 := funOK Try.func67 (by kernel_rfl) rfl
theorem impl_slideRow_meets (F : Nat) : Meets Try.prog 67 (impl_slideRow_ent F) := by
  refine meets_of_runS mixed ttok deep (impl_slideRow_tabok F) Try.func67 (body_some rfl) (impl_slideRow_lsok1 F) fun args mem hfit ret h => ?_
  clear hfit
  simp only [impl_slideRow_ent] at h
  split at h
  · rename_i row0
    simp only [Option.some.injEq, Prod.mk.injEq] at h
    obtain ⟨hc, rfl⟩ := h
    exact ⟨[], [], 70, _, (impl_slideRow_run F row0).trans ((impl_slideRow_cp _ F row0 _).trans (bind_use hc _)), rfl, rfl, rfl⟩
  · cases h
end Go.Proofs.Ytabfliifleonaaa
