/-
Pure functions and what the code of them does, by program; without conditions.
-/
import Derived.Test.YtloemkielkdegaaTIP6
import Derived.Test.YtloemkielkdegaaTIS5
namespace Go.Proofs.Ytloemkielkdegaa
open Go Go.Lv Go.Lv.P Go.Proofs
set_option linter.unusedVariables false
set_option linter.unusedSimpArgs false
set_option maxRecDepth 100000
/-! (loop.example/g01194/impl.Board).keep -/
noncomputable def impl_Board_keep_n1_tab (F : Nat) : Tab := [(28, (impl_Board_best_impl_Board_keep_f1_n1_ent F))]
theorem impl_Board_keep_n1_tabok (F : Nat) : TabOK Try.prog (impl_Board_keep_n1_tab F) := (tab_cons (impl_Board_best_impl_Board_keep_f1_n1_meets F) impl_Board_best_impl_Board_keep_f1_n1_fok tab_nil)
noncomputable def impl_Board_keep_n1_LS0 (F : Nat) : LT := []
theorem impl_Board_keep_n1_lsok0 (F : Nat) : LoopsOK Try.prog (impl_Board_keep_n1_LS0 F) (bodyOf Try.f55) := loopsOK_nil
theorem impl_Board_keep_n1_run (F : Nat) (b0 : List Int) : runS tt (impl_Board_keep_n1_tab F) (impl_Board_keep_n1_LS0 F) [] [] Try.f55 (bodyOf Try.f55) 70 [(.ints 16 b0), (.int .i64 (1 : Int))] [] = impl_Board_keep_n1_c _ F b0 (fun r => some ⟨(.ints 2 r), [], []⟩) := by kernel_rfl
def impl_Board_keep_n1_ent (F : Nat) : Ent := ⟨[], .quiet, fun args mem => match args, mem with
  | [(.ints 16 b0), (.int .i64 q_n1)], [] => bif (q_n1 == (1 : Int)) then some ((impl_Board_keep_n1_p F b0).isSome, ⟨(.ints 2 ((impl_Board_keep_n1_p F b0).getD default)), [], []⟩) else none
  | _, _ => none⟩
theorem impl_Board_keep_n1_fok : FunOK Try.prog 55 := funOK Try.func55 (by kernel_rfl) rfl
theorem impl_Board_keep_n1_meets (F : Nat) : Meets Try.prog 55 (impl_Board_keep_n1_ent F) := by
  refine meets_of_runS mixed ttok deep (impl_Board_keep_n1_tabok F) Try.func55 (body_some rfl) (impl_Board_keep_n1_lsok0 F) fun args mem hfit ret h => ?_
  clear hfit
  simp only [impl_Board_keep_n1_ent] at h
  split at h
  · rename_i b0 q_n1
    have hg0 := (cond_noneL h).1
    replace h := (cond_noneL h).2
    obtain rfl := beq_int hg0
    simp only [Option.some.injEq, Prod.mk.injEq] at h
    obtain ⟨hc, rfl⟩ := h
    exact ⟨[], [], 70, _, (impl_Board_keep_n1_run F b0).trans ((impl_Board_keep_n1_cp _ F b0 _).trans (bind_use hc _)), rfl, rfl, rfl⟩
  · cases h

/-! (loop.example/g01194/impl.Board).keepOf$1 -/
noncomputable def impl_Board_keepOf_f1_n2_tab (F : Nat) : Tab := [(55, (impl_Board_keep_n1_ent F))]
theorem impl_Board_keepOf_f1_n2_tabok (F : Nat) : TabOK Try.prog (impl_Board_keepOf_f1_n2_tab F) := (tab_cons (impl_Board_keep_n1_meets F) impl_Board_keep_n1_fok tab_nil)
noncomputable def impl_Board_keepOf_f1_n2_LS0 (F : Nat) : LT := []
theorem impl_Board_keepOf_f1_n2_lsok0 (F : Nat) : LoopsOK Try.prog (impl_Board_keepOf_f1_n2_LS0 F) (bodyOf Try.f54) := loopsOK_nil
theorem impl_Board_keepOf_f1_n2_run (F : Nat) (own0 : List Int) : runS tt (impl_Board_keepOf_f1_n2_tab F) (impl_Board_keepOf_f1_n2_LS0 F) [] [] Try.f54 (bodyOf Try.f54) 70 [(.ints 16 own0), (.ptr 0 0 0 1)] [(.var 1 (.ri .i64 [(2 : Int)]))] = impl_Board_keepOf_f1_n2_c _ F own0 (fun r => some ⟨(.ints 2 r), [(.var 1 (.ri .i64 [(2 : Int)]))], []⟩) := by kernel_rfl
def impl_Board_keepOf_f1_n2_ent (F : Nat) : Ent := ⟨[], .quiet, fun args mem => match args, mem with
  | [(.ints 16 own0), (.ptr 0 0 0 1)], [(.var 1 (.ri .i64 q_a14))] => bif (q_a14 == ([(2 : Int)] : List Int)) then some ((impl_Board_keepOf_f1_n2_p F own0).isSome, ⟨(.ints 2 ((impl_Board_keepOf_f1_n2_p F own0).getD default)), [], []⟩) else none
  | _, _ => none⟩
theorem impl_Board_keepOf_f1_n2_fok : FunOK Try.prog 54 := funOK Try.func54 (by kernel_rfl) rfl
theorem impl_Board_keepOf_f1_n2_meets (F : Nat) : Meets Try.prog 54 (impl_Board_keepOf_f1_n2_ent F) := by
  refine meets_of_runS mixed ttok deep (impl_Board_keepOf_f1_n2_tabok F) Try.func54 (body_some rfl) (impl_Board_keepOf_f1_n2_lsok0 F) fun args mem hfit ret h => ?_
  clear hfit
  simp only [impl_Board_keepOf_f1_n2_ent] at h
  split at h
  · rename_i own0 q_a14
    have hg0 := (cond_noneL h).1
    replace h := (cond_noneL h).2
    obtain rfl := beq_li hg0
    simp only [Option.some.injEq, Prod.mk.injEq] at h
    obtain ⟨hc, rfl⟩ := h
    exact ⟨[], [], 70, _, (impl_Board_keepOf_f1_n2_run F own0).trans ((impl_Board_keepOf_f1_n2_cp _ F own0 _).trans (bind_use hc _)), rfl, rfl, rfl⟩
  · cases h

/-! (loop.example/g01194/impl.Board).mean -/
noncomputable def impl_Board_mean_impl_Board_keepOf_f1_n2_tab (F : Nat) : Tab := [(73, (impl_Board_placements_ent F)), (74, (impl_Board_placed_ent F)), (54, (impl_Board_keepOf_f1_n2_ent F)), (72, (impl_fraction_ent F)), (48, (impl_plus_ent F)), (75, (impl_Board_empty_ent F))]
theorem impl_Board_mean_impl_Board_keepOf_f1_n2_tabok (F : Nat) : TabOK Try.prog (impl_Board_mean_impl_Board_keepOf_f1_n2_tab F) := (tab_cons (impl_Board_placements_meets F) impl_Board_placements_fok (tab_cons (impl_Board_placed_meets F) impl_Board_placed_fok (tab_cons (impl_Board_keepOf_f1_n2_meets F) impl_Board_keepOf_f1_n2_fok (tab_cons (impl_fraction_meets F) impl_fraction_fok (tab_cons (impl_plus_meets F) impl_plus_fok (tab_cons (impl_Board_empty_meets F) impl_Board_empty_fok tab_nil))))))
noncomputable def impl_Board_mean_impl_Board_keepOf_f1_n2_LS0 (F : Nat) : LT := []
theorem impl_Board_mean_impl_Board_keepOf_f1_n2_lsok0 (F : Nat) : LoopsOK Try.prog (impl_Board_mean_impl_Board_keepOf_f1_n2_LS0 F) (bodyOf Try.f49) := loopsOK_nil
theorem impl_Board_mean_impl_Board_keepOf_f1_n2_keys : keysOK (bodyOf Try.f49) = true := by kernel_rfl
def impl_Board_mean_impl_Board_keepOf_f1_n2_st3 (t1314 : Int) (b17 : List Int) (t1220 : List (List Int)) (t1415 : Int) (sum19 : List Int) : St := ⟨expand 46 0 [1, 2, 4, 5, 12, 13, 14] [(.fn 54 [] [(.ptr 0 0 0 1)]), (.ptr 1 0 0 16), (.ptr 2 0 0 2), (.ptr 3 0 0 2), (.sl 4 0 (List.length t1220)), (.int .i64 t1314), (.int .i64 t1415)], [(.var 1 (.ri .i64 [(2 : Int)])), (.var 16 (.ri .i64 b17)), (.var 2 (.ri .i64 [(0 : Int), (0 : Int)])), (.var 2 (.ri .i64 sum19)), (.vec 95 (.rr 3 t1220))], 1, []⟩
def impl_Board_mean_impl_Board_keepOf_f1_n2_o3 (t1314 : Int) (b17 : List Int) (t1220 : List (List Int)) (x : List Int) : GT := (.out (.exit 0 ⟨expand 46 0 [2, 4, 5] [(.ptr 1 0 0 16), (.ptr 2 0 0 2), (.ptr 3 0 0 2)], [(.var 1 (.ri .i64 [(2 : Int)])), (.var 16 (.ri .i64 b17)), (.var 2 (.ri .i64 [(0 : Int), (0 : Int)])), (.var 2 (.ri .i64 x))], 1, []⟩))
def impl_Board_mean_impl_Board_keepOf_f1_n2_ls3 (F : Nat) : LoopS := ⟨46, [1, 2, 4, 5, 12, 13, 14], [], [2, 4, 5], [], [4], [], [], fun vals mem np killed => match vals, mem, np, killed with
  | [(.fn 54 [] [(.ptr 0 0 0 1)]), (.ptr 1 0 0 16), (.ptr 2 0 0 2), (.ptr 3 0 0 2), (.sl 4 0 q_t1213), (.int .i64 t1314), (.int .i64 t1415)], [(.var 1 (.ri .i64 q_of16)), (.var 16 (.ri .i64 b17)), (.var 2 (.ri .i64 q_t418)), (.var 2 (.ri .i64 sum19)), (.vec 95 (.rr 3 t1220))], 1, [] => .br ((q_of16 == ([(2 : Int)] : List Int)) && ((q_t418 == ([(0 : Int), (0 : Int)] : List Int)) && ((Nat.beq q_t1213 (List.length t1220)) && (impl_Board_mean_impl_Board_keepOf_f1_n2_l3 F t1314 b17 t1220 t1415 sum19).isSome))) (impl_Board_mean_impl_Board_keepOf_f1_n2_o3 t1314 b17 t1220 ((impl_Board_mean_impl_Board_keepOf_f1_n2_l3 F t1314 b17 t1220 t1415 sum19).getD default)) .fail
  | _, _, _, _ => .fail⟩
theorem impl_Board_mean_impl_Board_keepOf_f1_n2_step3 (F : Nat) (t1314 : Int) (b17 : List Int) (t1220 : List (List Int)) (t1415 : Int) (sum19 : List Int) {R : Type} (k : Out → Option R) : stepS tt (impl_Board_mean_impl_Board_keepOf_f1_n2_tab F) (impl_Board_mean_impl_Board_keepOf_f1_n2_LS0 F) 70 (impl_Board_mean_impl_Board_keepOf_f1_n2_ls3 F) (loopAt 3 (bodyOf Try.f49)) (impl_Board_mean_impl_Board_keepOf_f1_n2_st3 t1314 b17 t1220 t1415 sum19) k = impl_Board_mean_impl_Board_keepOf_f1_n2_s3 F t1314 b17 t1220 R (t1415, sum19) (fun s => k (.norm (impl_Board_mean_impl_Board_keepOf_f1_n2_st3 t1314 b17 t1220 s.1 s.2))) (fun x => (impl_Board_mean_impl_Board_keepOf_f1_n2_o3 t1314 b17 t1220 x).run k) := by kernel_rfl
theorem impl_Board_mean_impl_Board_keepOf_f1_n2_iter3 (F : Nat) (t1314 : Int) (b17 : List Int) (t1220 : List (List Int)) {R : Type} (k : Out → Option R) : ∀ (n : Nat) (t1415 : Int) (sum19 : List Int), iterS tt (impl_Board_mean_impl_Board_keepOf_f1_n2_tab F) (impl_Board_mean_impl_Board_keepOf_f1_n2_LS0 F) 70 (impl_Board_mean_impl_Board_keepOf_f1_n2_ls3 F) (loopAt 3 (bodyOf Try.f49)) n (impl_Board_mean_impl_Board_keepOf_f1_n2_st3 t1314 b17 t1220 t1415 sum19) k = loopC (impl_Board_mean_impl_Board_keepOf_f1_n2_s3 F t1314 b17 t1220) n (t1415, sum19) (fun x => (impl_Board_mean_impl_Board_keepOf_f1_n2_o3 t1314 b17 t1220 x).run k)
  | 0, t1415, sum19 => rfl
  | n + 1, t1415, sum19 => (iterS_succ tt (impl_Board_mean_impl_Board_keepOf_f1_n2_tab F) (impl_Board_mean_impl_Board_keepOf_f1_n2_LS0 F) 70 (impl_Board_mean_impl_Board_keepOf_f1_n2_ls3 F) (loopAt 3 (bodyOf Try.f49)) n (impl_Board_mean_impl_Board_keepOf_f1_n2_st3 t1314 b17 t1220 t1415 sum19) k).trans ((impl_Board_mean_impl_Board_keepOf_f1_n2_step3 F t1314 b17 t1220 t1415 sum19 (nextK (iterS tt (impl_Board_mean_impl_Board_keepOf_f1_n2_tab F) (impl_Board_mean_impl_Board_keepOf_f1_n2_LS0 F) 70 (impl_Board_mean_impl_Board_keepOf_f1_n2_ls3 F) (loopAt 3 (bodyOf Try.f49)) n) k)).trans (congrArg (fun kn => impl_Board_mean_impl_Board_keepOf_f1_n2_s3 F t1314 b17 t1220 R (t1415, sum19) kn _) (funext (fun ⟨t1415, sum19⟩ => impl_Board_mean_impl_Board_keepOf_f1_n2_iter3 F t1314 b17 t1220 k n t1415 sum19))))
theorem impl_Board_mean_impl_Board_keepOf_f1_n2_lok3 (F : Nat) : LoopOK Try.prog (loopAt 3 (bodyOf Try.f49)) (impl_Board_mean_impl_Board_keepOf_f1_n2_ls3 F) := by
  refine loopOK_of mixed ttok deep (impl_Board_mean_impl_Board_keepOf_f1_n2_tabok F) (loopsOK_at (impl_Board_mean_impl_Board_keepOf_f1_n2_lsok0 F) 3) (fuel := 70) fun R vals mem np killed k x h => ?_
  simp only [impl_Board_mean_impl_Board_keepOf_f1_n2_ls3] at h
  split at h
  · rename_i q_t1213 t1314 t1415 q_of16 b17 q_t418 sum19 t1220
    simp only [GT.run] at h
    have hc := (cond_noneL h).1
    replace h := (cond_noneL h).2
    have hg := (and_split hc).1
    replace hc := (and_split hc).2
    obtain rfl := beq_li hg
    have hg := (and_split hc).1
    replace hc := (and_split hc).2
    obtain rfl := beq_li hg
    have hg := (and_split hc).1
    replace hc := (and_split hc).2
    obtain rfl := nbeq_nat hg
    refine ⟨F, (impl_Board_mean_impl_Board_keepOf_f1_n2_iter3 F t1314 b17 t1220 k F t1415 sum19).trans ((loopC_use (impl_Board_mean_impl_Board_keepOf_f1_n2_s3_nat F t1314 b17 t1220) hc _).trans h)⟩
  · simp only [GT.run] at h
    cases h
noncomputable def impl_Board_mean_impl_Board_keepOf_f1_n2_LS1 (F : Nat) : LT := (3, impl_Board_mean_impl_Board_keepOf_f1_n2_ls3 F) :: impl_Board_mean_impl_Board_keepOf_f1_n2_LS0 F
theorem impl_Board_mean_impl_Board_keepOf_f1_n2_lsok1 (F : Nat) : LoopsOK Try.prog (impl_Board_mean_impl_Board_keepOf_f1_n2_LS1 F) (bodyOf Try.f49) := loopsOK_cons impl_Board_mean_impl_Board_keepOf_f1_n2_keys (impl_Board_mean_impl_Board_keepOf_f1_n2_lok3 F) (impl_Board_mean_impl_Board_keepOf_f1_n2_lsok0 F)
theorem impl_Board_mean_impl_Board_keepOf_f1_n2_run (F : Nat) (b0 : List Int) : runS tt (impl_Board_mean_impl_Board_keepOf_f1_n2_tab F) (impl_Board_mean_impl_Board_keepOf_f1_n2_LS1 F) [] [] Try.f49 (bodyOf Try.f49) 70 [(.ints 16 b0), (.fn 54 [] [(.ptr 0 0 0 1)])] [(.var 1 (.ri .i64 [(2 : Int)]))] = impl_Board_mean_impl_Board_keepOf_f1_n2_c _ F b0 (fun r => some ⟨(.ints 2 r), [(.var 1 (.ri .i64 [(2 : Int)]))], []⟩) := by kernel_rfl
def impl_Board_mean_impl_Board_keepOf_f1_n2_ent (F : Nat) : Ent := ⟨[], .quiet, fun args mem => match args, mem with
  | [(.ints 16 b0), (.fn 54 [] [(.ptr 0 0 0 1)])], [(.var 1 (.ri .i64 q_of4))] => bif (q_of4 == ([(2 : Int)] : List Int)) then some ((impl_Board_mean_impl_Board_keepOf_f1_n2_p F b0).isSome, ⟨(.ints 2 ((impl_Board_mean_impl_Board_keepOf_f1_n2_p F b0).getD default)), [], []⟩) else none
  | _, _ => none⟩
theorem impl_Board_mean_impl_Board_keepOf_f1_n2_fok : FunOK Try.prog 49 := funOK Try.func49 (by kernel_rfl) rfl
theorem impl_Board_mean_impl_Board_keepOf_f1_n2_meets (F : Nat) : Meets Try.prog 49 (impl_Board_mean_impl_Board_keepOf_f1_n2_ent F) := by
  refine meets_of_runS mixed ttok deep (impl_Board_mean_impl_Board_keepOf_f1_n2_tabok F) Try.func49 (body_some rfl) (impl_Board_mean_impl_Board_keepOf_f1_n2_lsok1 F) fun args mem hfit ret h => ?_
  clear hfit
  simp only [impl_Board_mean_impl_Board_keepOf_f1_n2_ent] at h
  split at h
  · rename_i b0 q_of4
    have hg0 := (cond_noneL h).1
    replace h := (cond_noneL h).2
    obtain rfl := beq_li hg0
    simp only [Option.some.injEq, Prod.mk.injEq] at h
    obtain ⟨hc, rfl⟩ := h
    exact ⟨[], [], 70, _, (impl_Board_mean_impl_Board_keepOf_f1_n2_run F b0).trans ((impl_Board_mean_impl_Board_keepOf_f1_n2_cp _ F b0 _).trans (bind_use hc _)), rfl, rfl, rfl⟩
  · cases h

/-! (loop.example/g01194/impl.Board).keepOf -/
noncomputable def impl_Board_keepOf_n2_tab (F : Nat) : Tab := [(53, (impl_Board_slides_ent F)), (49, (impl_Board_mean_impl_Board_keepOf_f1_n2_ent F))]
theorem impl_Board_keepOf_n2_tabok (F : Nat) : TabOK Try.prog (impl_Board_keepOf_n2_tab F) := (tab_cons (impl_Board_slides_meets F) impl_Board_slides_fok (tab_cons (impl_Board_mean_impl_Board_keepOf_f1_n2_meets F) impl_Board_mean_impl_Board_keepOf_f1_n2_fok tab_nil))
noncomputable def impl_Board_keepOf_n2_LS0 (F : Nat) : LT := []
theorem impl_Board_keepOf_n2_lsok0 (F : Nat) : LoopsOK Try.prog (impl_Board_keepOf_n2_LS0 F) (bodyOf Try.f30) := loopsOK_nil
theorem impl_Board_keepOf_n2_run (F : Nat) (b0 : List Int) (direction1 : Int) : runS tt (impl_Board_keepOf_n2_tab F) (impl_Board_keepOf_n2_LS0 F) [] [] Try.f30 (bodyOf Try.f30) 70 [(.ints 16 b0), (.int .i64 direction1), (.int .i64 (2 : Int))] [] = impl_Board_keepOf_n2_c _ F b0 direction1 (fun r => some ⟨(.ints 2 r), [], []⟩) := by kernel_rfl
def impl_Board_keepOf_n2_ent (F : Nat) : Ent := ⟨[], .quiet, fun args mem => match args, mem with
  | [(.ints 16 b0), (.int .i64 direction1), (.int .i64 q_n2)], [] => bif (q_n2 == (2 : Int)) then some ((impl_Board_keepOf_n2_p F b0 direction1).isSome, ⟨(.ints 2 ((impl_Board_keepOf_n2_p F b0 direction1).getD default)), [], []⟩) else none
  | _, _ => none⟩
theorem impl_Board_keepOf_n2_fok : FunOK Try.prog 30 := funOK Try.func30 (by kernel_rfl) rfl
theorem impl_Board_keepOf_n2_meets (F : Nat) : Meets Try.prog 30 (impl_Board_keepOf_n2_ent F) := by
  refine meets_of_runS mixed ttok deep (impl_Board_keepOf_n2_tabok F) Try.func30 (body_some rfl) (impl_Board_keepOf_n2_lsok0 F) fun args mem hfit ret h => ?_
  clear hfit
  simp only [impl_Board_keepOf_n2_ent] at h
  split at h
  · rename_i b0 direction1 q_n2
    have hg0 := (cond_noneL h).1
    replace h := (cond_noneL h).2
    obtain rfl := beq_int hg0
    simp only [Option.some.injEq, Prod.mk.injEq] at h
    obtain ⟨hc, rfl⟩ := h
    exact ⟨[], [], 70, _, (impl_Board_keepOf_n2_run F b0 direction1).trans ((impl_Board_keepOf_n2_cp _ F b0 direction1 _).trans (bind_use hc _)), rfl, rfl, rfl⟩
  · cases h

/-! (loop.example/g01194/impl.Board).keep$1 -/
noncomputable def impl_Board_keep_f1_n2_tab (F : Nat) : Tab := [(30, (impl_Board_keepOf_n2_ent F))]
theorem impl_Board_keep_f1_n2_tabok (F : Nat) : TabOK Try.prog (impl_Board_keep_f1_n2_tab F) := (tab_cons (impl_Board_keepOf_n2_meets F) impl_Board_keepOf_n2_fok tab_nil)
noncomputable def impl_Board_keep_f1_n2_LS0 (F : Nat) : LT := []
theorem impl_Board_keep_f1_n2_lsok0 (F : Nat) : LoopsOK Try.prog (impl_Board_keep_f1_n2_LS0 F) (bodyOf Try.f76) := loopsOK_nil
theorem impl_Board_keep_f1_n2_run (F : Nat) (d0 : Int) (a17 : List Int) : runS tt (impl_Board_keep_f1_n2_tab F) (impl_Board_keep_f1_n2_LS0 F) [] [] Try.f76 (bodyOf Try.f76) 70 [(.int .i64 d0), (.ptr 0 0 0 16), (.ptr 1 0 0 1)] [(.var 16 (.ri .i64 a17)), (.var 1 (.ri .i64 [(2 : Int)]))] = impl_Board_keep_f1_n2_c _ F d0 a17 (fun r => some ⟨(.ints 2 r), [(.var 16 (.ri .i64 a17)), (.var 1 (.ri .i64 [(2 : Int)]))], []⟩) := by kernel_rfl
def impl_Board_keep_f1_n2_ent (F : Nat) : Ent := ⟨[], .quiet, fun args mem => match args, mem with
  | [(.int .i64 d0), (.ptr 0 0 0 16), (.ptr 1 0 0 1)], [(.var 16 (.ri .i64 a17)), (.var 1 (.ri .i64 q_a28))] => bif (q_a28 == ([(2 : Int)] : List Int)) then some ((impl_Board_keep_f1_n2_p F d0 a17).isSome, ⟨(.ints 2 ((impl_Board_keep_f1_n2_p F d0 a17).getD default)), [], []⟩) else none
  | _, _ => none⟩
theorem impl_Board_keep_f1_n2_fok : FunOK Try.prog 76 := funOK Try.func76 (by kernel_rfl) rfl
theorem impl_Board_keep_f1_n2_meets (F : Nat) : Meets Try.prog 76 (impl_Board_keep_f1_n2_ent F) := by
  refine meets_of_runS mixed ttok deep (impl_Board_keep_f1_n2_tabok F) Try.func76 (body_some rfl) (impl_Board_keep_f1_n2_lsok0 F) fun args mem hfit ret h => ?_
  clear hfit
  simp only [impl_Board_keep_f1_n2_ent] at h
  split at h
  · rename_i d0 a17 q_a28
    have hg0 := (cond_noneL h).1
    replace h := (cond_noneL h).2
    obtain rfl := beq_li hg0
    simp only [Option.some.injEq, Prod.mk.injEq] at h
    obtain ⟨hc, rfl⟩ := h
    exact ⟨[], [], 70, _, (impl_Board_keep_f1_n2_run F d0 a17).trans ((impl_Board_keep_f1_n2_cp _ F d0 a17 _).trans (bind_use hc _)), rfl, rfl, rfl⟩
  · cases h

/-! (loop.example/g01194/impl.Board).best -/
noncomputable def impl_Board_best_impl_Board_keep_f1_n2_tab (F : Nat) : Tab := [(45, (impl_whole_ent F)), (51, (impl_Board_moves_ent F)), (76, (impl_Board_keep_f1_n2_ent F)), (52, (impl_isLess_ent F))]
theorem impl_Board_best_impl_Board_keep_f1_n2_tabok (F : Nat) : TabOK Try.prog (impl_Board_best_impl_Board_keep_f1_n2_tab F) := (tab_cons (impl_whole_meets F) impl_whole_fok (tab_cons (impl_Board_moves_meets F) impl_Board_moves_fok (tab_cons (impl_Board_keep_f1_n2_meets F) impl_Board_keep_f1_n2_fok (tab_cons (impl_isLess_meets F) impl_isLess_fok tab_nil))))
noncomputable def impl_Board_best_impl_Board_keep_f1_n2_LS0 (F : Nat) : LT := []
theorem impl_Board_best_impl_Board_keep_f1_n2_lsok0 (F : Nat) : LoopsOK Try.prog (impl_Board_best_impl_Board_keep_f1_n2_LS0 F) (bodyOf Try.f28) := loopsOK_nil
theorem impl_Board_best_impl_Board_keep_f1_n2_keys : keysOK (bodyOf Try.f28) = true := by kernel_rfl
def impl_Board_best_impl_Board_keep_f1_n2_st3 (t1415 : Int) (of17 : List Int) (t1321 : List Int) (at9 : Int) (t1516 : Int) (most20 : List Int) : St := ⟨expand 34 0 [1, 5, 6, 7, 13, 14, 15] [(.fn 76 [] [(.ptr 0 0 0 16), (.ptr 1 0 0 1)]), (.ptr 2 0 0 2), (.int .i64 at9), (.ptr 3 0 0 2), (.sl 4 0 (List.length t1321)), (.int .i64 t1415), (.int .i64 t1516)], [(.var 16 (.ri .i64 of17)), (.var 1 (.ri .i64 [(2 : Int)])), (.var 2 (.ri .i64 [(0 : Int), (0 : Int)])), (.var 2 (.ri .i64 most20)), (.vec 3 (.ri .i64 t1321))], 2, []⟩
def impl_Board_best_impl_Board_keep_f1_n2_o3 (t1415 : Int) (of17 : List Int) (t1321 : List Int) (x : Int × List Int) : GT := (.out (.exit 0 ⟨expand 34 0 [5, 6, 7] [(.ptr 2 0 0 2), (.int .i64 x.1), (.ptr 3 0 0 2)], [(.var 16 (.ri .i64 of17)), (.var 1 (.ri .i64 [(2 : Int)])), (.var 2 (.ri .i64 [(0 : Int), (0 : Int)])), (.var 2 (.ri .i64 x.2))], 2, []⟩))
def impl_Board_best_impl_Board_keep_f1_n2_ls3 (F : Nat) : LoopS := ⟨34, [1, 5, 6, 7, 13, 14, 15], [], [5, 6, 7], [], [4, 5], [], [], fun vals mem np killed => match vals, mem, np, killed with
  | [(.fn 76 [] [(.ptr 0 0 0 16), (.ptr 1 0 0 1)]), (.ptr 2 0 0 2), (.int .i64 at9), (.ptr 3 0 0 2), (.sl 4 0 q_t1314), (.int .i64 t1415), (.int .i64 t1516)], [(.var 16 (.ri .i64 of17)), (.var 1 (.ri .i64 q_of18)), (.var 2 (.ri .i64 q_t519)), (.var 2 (.ri .i64 most20)), (.vec 3 (.ri .i64 t1321))], 2, [] => .br ((q_of18 == ([(2 : Int)] : List Int)) && ((q_t519 == ([(0 : Int), (0 : Int)] : List Int)) && ((Nat.beq q_t1314 (List.length t1321)) && (impl_Board_best_impl_Board_keep_f1_n2_l3 F t1415 of17 t1321 at9 t1516 most20).isSome))) (impl_Board_best_impl_Board_keep_f1_n2_o3 t1415 of17 t1321 ((impl_Board_best_impl_Board_keep_f1_n2_l3 F t1415 of17 t1321 at9 t1516 most20).getD default)) .fail
  | _, _, _, _ => .fail⟩
theorem impl_Board_best_impl_Board_keep_f1_n2_step3 (F : Nat) (t1415 : Int) (of17 : List Int) (t1321 : List Int) (at9 : Int) (t1516 : Int) (most20 : List Int) {R : Type} (k : Out → Option R) : stepS tt (impl_Board_best_impl_Board_keep_f1_n2_tab F) (impl_Board_best_impl_Board_keep_f1_n2_LS0 F) 70 (impl_Board_best_impl_Board_keep_f1_n2_ls3 F) (loopAt 3 (bodyOf Try.f28)) (impl_Board_best_impl_Board_keep_f1_n2_st3 t1415 of17 t1321 at9 t1516 most20) k = impl_Board_best_impl_Board_keep_f1_n2_s3 F t1415 of17 t1321 R (at9, t1516, most20) (fun s => k (.norm (impl_Board_best_impl_Board_keep_f1_n2_st3 t1415 of17 t1321 s.1 s.2.1 s.2.2))) (fun x => (impl_Board_best_impl_Board_keep_f1_n2_o3 t1415 of17 t1321 x).run k) := by kernel_rfl
theorem impl_Board_best_impl_Board_keep_f1_n2_iter3 (F : Nat) (t1415 : Int) (of17 : List Int) (t1321 : List Int) {R : Type} (k : Out → Option R) : ∀ (n : Nat) (at9 : Int) (t1516 : Int) (most20 : List Int), iterS tt (impl_Board_best_impl_Board_keep_f1_n2_tab F) (impl_Board_best_impl_Board_keep_f1_n2_LS0 F) 70 (impl_Board_best_impl_Board_keep_f1_n2_ls3 F) (loopAt 3 (bodyOf Try.f28)) n (impl_Board_best_impl_Board_keep_f1_n2_st3 t1415 of17 t1321 at9 t1516 most20) k = loopC (impl_Board_best_impl_Board_keep_f1_n2_s3 F t1415 of17 t1321) n (at9, t1516, most20) (fun x => (impl_Board_best_impl_Board_keep_f1_n2_o3 t1415 of17 t1321 x).run k)
  | 0, at9, t1516, most20 => rfl
  | n + 1, at9, t1516, most20 => (iterS_succ tt (impl_Board_best_impl_Board_keep_f1_n2_tab F) (impl_Board_best_impl_Board_keep_f1_n2_LS0 F) 70 (impl_Board_best_impl_Board_keep_f1_n2_ls3 F) (loopAt 3 (bodyOf Try.f28)) n (impl_Board_best_impl_Board_keep_f1_n2_st3 t1415 of17 t1321 at9 t1516 most20) k).trans ((impl_Board_best_impl_Board_keep_f1_n2_step3 F t1415 of17 t1321 at9 t1516 most20 (nextK (iterS tt (impl_Board_best_impl_Board_keep_f1_n2_tab F) (impl_Board_best_impl_Board_keep_f1_n2_LS0 F) 70 (impl_Board_best_impl_Board_keep_f1_n2_ls3 F) (loopAt 3 (bodyOf Try.f28)) n) k)).trans (congrArg (fun kn => impl_Board_best_impl_Board_keep_f1_n2_s3 F t1415 of17 t1321 R (at9, t1516, most20) kn _) (funext (fun ⟨at9, t1516, most20⟩ => impl_Board_best_impl_Board_keep_f1_n2_iter3 F t1415 of17 t1321 k n at9 t1516 most20))))
theorem impl_Board_best_impl_Board_keep_f1_n2_lok3 (F : Nat) : LoopOK Try.prog (loopAt 3 (bodyOf Try.f28)) (impl_Board_best_impl_Board_keep_f1_n2_ls3 F) := by
  refine loopOK_of mixed ttok deep (impl_Board_best_impl_Board_keep_f1_n2_tabok F) (loopsOK_at (impl_Board_best_impl_Board_keep_f1_n2_lsok0 F) 3) (fuel := 70) fun R vals mem np killed k x h => ?_
  simp only [impl_Board_best_impl_Board_keep_f1_n2_ls3] at h
  split at h
  · rename_i at9 q_t1314 t1415 t1516 of17 q_of18 q_t519 most20 t1321
    simp only [GT.run] at h
    have hc := (cond_noneL h).1
    replace h := (cond_noneL h).2
    have hg := (and_split hc).1
    replace hc := (and_split hc).2
    obtain rfl := beq_li hg
    have hg := (and_split hc).1
    replace hc := (and_split hc).2
    obtain rfl := beq_li hg
    have hg := (and_split hc).1
    replace hc := (and_split hc).2
    obtain rfl := nbeq_nat hg
    refine ⟨F, (impl_Board_best_impl_Board_keep_f1_n2_iter3 F t1415 of17 t1321 k F at9 t1516 most20).trans ((loopC_use (impl_Board_best_impl_Board_keep_f1_n2_s3_nat F t1415 of17 t1321) hc _).trans h)⟩
  · simp only [GT.run] at h
    cases h
noncomputable def impl_Board_best_impl_Board_keep_f1_n2_LS1 (F : Nat) : LT := (3, impl_Board_best_impl_Board_keep_f1_n2_ls3 F) :: impl_Board_best_impl_Board_keep_f1_n2_LS0 F
theorem impl_Board_best_impl_Board_keep_f1_n2_lsok1 (F : Nat) : LoopsOK Try.prog (impl_Board_best_impl_Board_keep_f1_n2_LS1 F) (bodyOf Try.f28) := loopsOK_cons impl_Board_best_impl_Board_keep_f1_n2_keys (impl_Board_best_impl_Board_keep_f1_n2_lok3 F) (impl_Board_best_impl_Board_keep_f1_n2_lsok0 F)
theorem impl_Board_best_impl_Board_keep_f1_n2_run (F : Nat) (b0 : List Int) (of7 : List Int) : runS tt (impl_Board_best_impl_Board_keep_f1_n2_tab F) (impl_Board_best_impl_Board_keep_f1_n2_LS1 F) [] [] Try.f28 (bodyOf Try.f28) 70 [(.ints 16 b0), (.fn 76 [] [(.ptr 0 0 0 16), (.ptr 1 0 0 1)])] [(.var 16 (.ri .i64 of7)), (.var 1 (.ri .i64 [(2 : Int)]))] = impl_Board_best_impl_Board_keep_f1_n2_c _ F b0 of7 (fun r => some ⟨(.tup [(.int .i64 r.1), (.ints 2 r.2)]), [(.var 16 (.ri .i64 of7)), (.var 1 (.ri .i64 [(2 : Int)]))], []⟩) := by kernel_rfl
def impl_Board_best_impl_Board_keep_f1_n2_ent (F : Nat) : Ent := ⟨[], .quiet, fun args mem => match args, mem with
  | [(.ints 16 b0), (.fn 76 [] [(.ptr 0 0 0 16), (.ptr 1 0 0 1)])], [(.var 16 (.ri .i64 of7)), (.var 1 (.ri .i64 q_of8))] => bif (q_of8 == ([(2 : Int)] : List Int)) then some ((impl_Board_best_impl_Board_keep_f1_n2_p F b0 of7).isSome, ⟨(.tup [(.int .i64 ((impl_Board_best_impl_Board_keep_f1_n2_p F b0 of7).getD default).1), (.ints 2 ((impl_Board_best_impl_Board_keep_f1_n2_p F b0 of7).getD default).2)]), [], []⟩) else none
  | _, _ => none⟩
theorem impl_Board_best_impl_Board_keep_f1_n2_fok : FunOK Try.prog 28 := funOK Try.func28 (by kernel_rfl) rfl
theorem impl_Board_best_impl_Board_keep_f1_n2_meets (F : Nat) : Meets Try.prog 28 (impl_Board_best_impl_Board_keep_f1_n2_ent F) := by
  refine meets_of_runS mixed ttok deep (impl_Board_best_impl_Board_keep_f1_n2_tabok F) Try.func28 (body_some rfl) (impl_Board_best_impl_Board_keep_f1_n2_lsok1 F) fun args mem hfit ret h => ?_
  clear hfit
  simp only [impl_Board_best_impl_Board_keep_f1_n2_ent] at h
  split at h
  · rename_i b0 of7 q_of8
    have hg0 := (cond_noneL h).1
    replace h := (cond_noneL h).2
    obtain rfl := beq_li hg0
    simp only [Option.some.injEq, Prod.mk.injEq] at h
    obtain ⟨hc, rfl⟩ := h
    exact ⟨[], [], 70, _, (impl_Board_best_impl_Board_keep_f1_n2_run F b0 of7).trans ((impl_Board_best_impl_Board_keep_f1_n2_cp _ F b0 of7 _).trans (bind_use hc _)), rfl, rfl, rfl⟩
  · cases h

/-! (loop.example/g01194/impl.Board).keep -/
noncomputable def impl_Board_keep_n2_tab (F : Nat) : Tab := [(28, (impl_Board_best_impl_Board_keep_f1_n2_ent F))]
theorem impl_Board_keep_n2_tabok (F : Nat) : TabOK Try.prog (impl_Board_keep_n2_tab F) := (tab_cons (impl_Board_best_impl_Board_keep_f1_n2_meets F) impl_Board_best_impl_Board_keep_f1_n2_fok tab_nil)
noncomputable def impl_Board_keep_n2_LS0 (F : Nat) : LT := []
theorem impl_Board_keep_n2_lsok0 (F : Nat) : LoopsOK Try.prog (impl_Board_keep_n2_LS0 F) (bodyOf Try.f55) := loopsOK_nil
theorem impl_Board_keep_n2_run (F : Nat) (b0 : List Int) : runS tt (impl_Board_keep_n2_tab F) (impl_Board_keep_n2_LS0 F) [] [] Try.f55 (bodyOf Try.f55) 70 [(.ints 16 b0), (.int .i64 (2 : Int))] [] = impl_Board_keep_n2_c _ F b0 (fun r => some ⟨(.ints 2 r), [], []⟩) := by kernel_rfl
def impl_Board_keep_n2_ent (F : Nat) : Ent := ⟨[], .quiet, fun args mem => match args, mem with
  | [(.ints 16 b0), (.int .i64 q_n1)], [] => bif (q_n1 == (2 : Int)) then some ((impl_Board_keep_n2_p F b0).isSome, ⟨(.ints 2 ((impl_Board_keep_n2_p F b0).getD default)), [], []⟩) else none
  | _, _ => none⟩
theorem impl_Board_keep_n2_fok : FunOK Try.prog 55 := funOK Try.func55 (by kernel_rfl) rfl
theorem impl_Board_keep_n2_meets (F : Nat) : Meets Try.prog 55 (impl_Board_keep_n2_ent F) := by
  refine meets_of_runS mixed ttok deep (impl_Board_keep_n2_tabok F) Try.func55 (body_some rfl) (impl_Board_keep_n2_lsok0 F) fun args mem hfit ret h => ?_
  clear hfit
  simp only [impl_Board_keep_n2_ent] at h
  split at h
  · rename_i b0 q_n1
    have hg0 := (cond_noneL h).1
    replace h := (cond_noneL h).2
    obtain rfl := beq_int hg0
    simp only [Option.some.injEq, Prod.mk.injEq] at h
    obtain ⟨hc, rfl⟩ := h
    exact ⟨[], [], 70, _, (impl_Board_keep_n2_run F b0).trans ((impl_Board_keep_n2_cp _ F b0 _).trans (bind_use hc _)), rfl, rfl, rfl⟩
  · cases h

/-! (loop.example/g01194/impl.Board).keepOf$1 -/
noncomputable def impl_Board_keepOf_f1_n3_tab (F : Nat) : Tab := [(55, (impl_Board_keep_n2_ent F))]
theorem impl_Board_keepOf_f1_n3_tabok (F : Nat) : TabOK Try.prog (impl_Board_keepOf_f1_n3_tab F) := (tab_cons (impl_Board_keep_n2_meets F) impl_Board_keep_n2_fok tab_nil)
noncomputable def impl_Board_keepOf_f1_n3_LS0 (F : Nat) : LT := []
theorem impl_Board_keepOf_f1_n3_lsok0 (F : Nat) : LoopsOK Try.prog (impl_Board_keepOf_f1_n3_LS0 F) (bodyOf Try.f54) := loopsOK_nil
theorem impl_Board_keepOf_f1_n3_run (F : Nat) (own0 : List Int) : runS tt (impl_Board_keepOf_f1_n3_tab F) (impl_Board_keepOf_f1_n3_LS0 F) [] [] Try.f54 (bodyOf Try.f54) 70 [(.ints 16 own0), (.ptr 0 0 0 1)] [(.var 1 (.ri .i64 [(3 : Int)]))] = impl_Board_keepOf_f1_n3_c _ F own0 (fun r => some ⟨(.ints 2 r), [(.var 1 (.ri .i64 [(3 : Int)]))], []⟩) := by kernel_rfl
def impl_Board_keepOf_f1_n3_ent (F : Nat) : Ent := ⟨[], .quiet, fun args mem => match args, mem with
  | [(.ints 16 own0), (.ptr 0 0 0 1)], [(.var 1 (.ri .i64 q_a14))] => bif (q_a14 == ([(3 : Int)] : List Int)) then some ((impl_Board_keepOf_f1_n3_p F own0).isSome, ⟨(.ints 2 ((impl_Board_keepOf_f1_n3_p F own0).getD default)), [], []⟩) else none
  | _, _ => none⟩
theorem impl_Board_keepOf_f1_n3_fok : FunOK Try.prog 54 := funOK Try.func54 (by kernel_rfl) rfl
theorem impl_Board_keepOf_f1_n3_meets (F : Nat) : Meets Try.prog 54 (impl_Board_keepOf_f1_n3_ent F) := by
  refine meets_of_runS mixed ttok deep (impl_Board_keepOf_f1_n3_tabok F) Try.func54 (body_some rfl) (impl_Board_keepOf_f1_n3_lsok0 F) fun args mem hfit ret h => ?_
  clear hfit
  simp only [impl_Board_keepOf_f1_n3_ent] at h
  split at h
  · rename_i own0 q_a14
    have hg0 := (cond_noneL h).1
    replace h := (cond_noneL h).2
    obtain rfl := beq_li hg0
    simp only [Option.some.injEq, Prod.mk.injEq] at h
    obtain ⟨hc, rfl⟩ := h
    exact ⟨[], [], 70, _, (impl_Board_keepOf_f1_n3_run F own0).trans ((impl_Board_keepOf_f1_n3_cp _ F own0 _).trans (bind_use hc _)), rfl, rfl, rfl⟩
  · cases h

/-! (loop.example/g01194/impl.Board).mean -/
noncomputable def impl_Board_mean_impl_Board_keepOf_f1_n3_tab (F : Nat) : Tab := [(73, (impl_Board_placements_ent F)), (74, (impl_Board_placed_ent F)), (54, (impl_Board_keepOf_f1_n3_ent F)), (72, (impl_fraction_ent F)), (48, (impl_plus_ent F)), (75, (impl_Board_empty_ent F))]
theorem impl_Board_mean_impl_Board_keepOf_f1_n3_tabok (F : Nat) : TabOK Try.prog (impl_Board_mean_impl_Board_keepOf_f1_n3_tab F) := (tab_cons (impl_Board_placements_meets F) impl_Board_placements_fok (tab_cons (impl_Board_placed_meets F) impl_Board_placed_fok (tab_cons (impl_Board_keepOf_f1_n3_meets F) impl_Board_keepOf_f1_n3_fok (tab_cons (impl_fraction_meets F) impl_fraction_fok (tab_cons (impl_plus_meets F) impl_plus_fok (tab_cons (impl_Board_empty_meets F) impl_Board_empty_fok tab_nil))))))
noncomputable def impl_Board_mean_impl_Board_keepOf_f1_n3_LS0 (F : Nat) : LT := []
theorem impl_Board_mean_impl_Board_keepOf_f1_n3_lsok0 (F : Nat) : LoopsOK Try.prog (impl_Board_mean_impl_Board_keepOf_f1_n3_LS0 F) (bodyOf Try.f49) := loopsOK_nil
theorem impl_Board_mean_impl_Board_keepOf_f1_n3_keys : keysOK (bodyOf Try.f49) = true := by kernel_rfl
def impl_Board_mean_impl_Board_keepOf_f1_n3_st3 (t1314 : Int) (b17 : List Int) (t1220 : List (List Int)) (t1415 : Int) (sum19 : List Int) : St := ⟨expand 46 0 [1, 2, 4, 5, 12, 13, 14] [(.fn 54 [] [(.ptr 0 0 0 1)]), (.ptr 1 0 0 16), (.ptr 2 0 0 2), (.ptr 3 0 0 2), (.sl 4 0 (List.length t1220)), (.int .i64 t1314), (.int .i64 t1415)], [(.var 1 (.ri .i64 [(3 : Int)])), (.var 16 (.ri .i64 b17)), (.var 2 (.ri .i64 [(0 : Int), (0 : Int)])), (.var 2 (.ri .i64 sum19)), (.vec 95 (.rr 3 t1220))], 1, []⟩
def impl_Board_mean_impl_Board_keepOf_f1_n3_o3 (t1314 : Int) (b17 : List Int) (t1220 : List (List Int)) (x : List Int) : GT := (.out (.exit 0 ⟨expand 46 0 [2, 4, 5] [(.ptr 1 0 0 16), (.ptr 2 0 0 2), (.ptr 3 0 0 2)], [(.var 1 (.ri .i64 [(3 : Int)])), (.var 16 (.ri .i64 b17)), (.var 2 (.ri .i64 [(0 : Int), (0 : Int)])), (.var 2 (.ri .i64 x))], 1, []⟩))
def impl_Board_mean_impl_Board_keepOf_f1_n3_ls3 (F : Nat) : LoopS := ⟨46, [1, 2, 4, 5, 12, 13, 14], [], [2, 4, 5], [], [4], [], [], fun vals mem np killed => match vals, mem, np, killed with
  | [(.fn 54 [] [(.ptr 0 0 0 1)]), (.ptr 1 0 0 16), (.ptr 2 0 0 2), (.ptr 3 0 0 2), (.sl 4 0 q_t1213), (.int .i64 t1314), (.int .i64 t1415)], [(.var 1 (.ri .i64 q_of16)), (.var 16 (.ri .i64 b17)), (.var 2 (.ri .i64 q_t418)), (.var 2 (.ri .i64 sum19)), (.vec 95 (.rr 3 t1220))], 1, [] => .br ((q_of16 == ([(3 : Int)] : List Int)) && ((q_t418 == ([(0 : Int), (0 : Int)] : List Int)) && ((Nat.beq q_t1213 (List.length t1220)) && (impl_Board_mean_impl_Board_keepOf_f1_n3_l3 F t1314 b17 t1220 t1415 sum19).isSome))) (impl_Board_mean_impl_Board_keepOf_f1_n3_o3 t1314 b17 t1220 ((impl_Board_mean_impl_Board_keepOf_f1_n3_l3 F t1314 b17 t1220 t1415 sum19).getD default)) .fail
  | _, _, _, _ => .fail⟩
theorem impl_Board_mean_impl_Board_keepOf_f1_n3_step3 (F : Nat) (t1314 : Int) (b17 : List Int) (t1220 : List (List Int)) (t1415 : Int) (sum19 : List Int) {R : Type} (k : Out → Option R) : stepS tt (impl_Board_mean_impl_Board_keepOf_f1_n3_tab F) (impl_Board_mean_impl_Board_keepOf_f1_n3_LS0 F) 70 (impl_Board_mean_impl_Board_keepOf_f1_n3_ls3 F) (loopAt 3 (bodyOf Try.f49)) (impl_Board_mean_impl_Board_keepOf_f1_n3_st3 t1314 b17 t1220 t1415 sum19) k = impl_Board_mean_impl_Board_keepOf_f1_n3_s3 F t1314 b17 t1220 R (t1415, sum19) (fun s => k (.norm (impl_Board_mean_impl_Board_keepOf_f1_n3_st3 t1314 b17 t1220 s.1 s.2))) (fun x => (impl_Board_mean_impl_Board_keepOf_f1_n3_o3 t1314 b17 t1220 x).run k) := by kernel_rfl
theorem impl_Board_mean_impl_Board_keepOf_f1_n3_iter3 (F : Nat) (t1314 : Int) (b17 : List Int) (t1220 : List (List Int)) {R : Type} (k : Out → Option R) : ∀ (n : Nat) (t1415 : Int) (sum19 : List Int), iterS tt (impl_Board_mean_impl_Board_keepOf_f1_n3_tab F) (impl_Board_mean_impl_Board_keepOf_f1_n3_LS0 F) 70 (impl_Board_mean_impl_Board_keepOf_f1_n3_ls3 F) (loopAt 3 (bodyOf Try.f49)) n (impl_Board_mean_impl_Board_keepOf_f1_n3_st3 t1314 b17 t1220 t1415 sum19) k = loopC (impl_Board_mean_impl_Board_keepOf_f1_n3_s3 F t1314 b17 t1220) n (t1415, sum19) (fun x => (impl_Board_mean_impl_Board_keepOf_f1_n3_o3 t1314 b17 t1220 x).run k)
  | 0, t1415, sum19 => rfl
  | n + 1, t1415, sum19 => (iterS_succ tt (impl_Board_mean_impl_Board_keepOf_f1_n3_tab F) (impl_Board_mean_impl_Board_keepOf_f1_n3_LS0 F) 70 (impl_Board_mean_impl_Board_keepOf_f1_n3_ls3 F) (loopAt 3 (bodyOf Try.f49)) n (impl_Board_mean_impl_Board_keepOf_f1_n3_st3 t1314 b17 t1220 t1415 sum19) k).trans ((impl_Board_mean_impl_Board_keepOf_f1_n3_step3 F t1314 b17 t1220 t1415 sum19 (nextK (iterS tt (impl_Board_mean_impl_Board_keepOf_f1_n3_tab F) (impl_Board_mean_impl_Board_keepOf_f1_n3_LS0 F) 70 (impl_Board_mean_impl_Board_keepOf_f1_n3_ls3 F) (loopAt 3 (bodyOf Try.f49)) n) k)).trans (congrArg (fun kn => impl_Board_mean_impl_Board_keepOf_f1_n3_s3 F t1314 b17 t1220 R (t1415, sum19) kn _) (funext (fun ⟨t1415, sum19⟩ => impl_Board_mean_impl_Board_keepOf_f1_n3_iter3 F t1314 b17 t1220 k n t1415 sum19))))
theorem impl_Board_mean_impl_Board_keepOf_f1_n3_lok3 (F : Nat) : LoopOK Try.prog (loopAt 3 (bodyOf Try.f49)) (impl_Board_mean_impl_Board_keepOf_f1_n3_ls3 F) := by
  refine loopOK_of mixed ttok deep (impl_Board_mean_impl_Board_keepOf_f1_n3_tabok F) (loopsOK_at (impl_Board_mean_impl_Board_keepOf_f1_n3_lsok0 F) 3) (fuel := 70) fun R vals mem np killed k x h => ?_
  simp only [impl_Board_mean_impl_Board_keepOf_f1_n3_ls3] at h
  split at h
  · rename_i q_t1213 t1314 t1415 q_of16 b17 q_t418 sum19 t1220
    simp only [GT.run] at h
    have hc := (cond_noneL h).1
    replace h := (cond_noneL h).2
    have hg := (and_split hc).1
    replace hc := (and_split hc).2
    obtain rfl := beq_li hg
    have hg := (and_split hc).1
    replace hc := (and_split hc).2
    obtain rfl := beq_li hg
    have hg := (and_split hc).1
    replace hc := (and_split hc).2
    obtain rfl := nbeq_nat hg
    refine ⟨F, (impl_Board_mean_impl_Board_keepOf_f1_n3_iter3 F t1314 b17 t1220 k F t1415 sum19).trans ((loopC_use (impl_Board_mean_impl_Board_keepOf_f1_n3_s3_nat F t1314 b17 t1220) hc _).trans h)⟩
  · simp only [GT.run] at h
    cases h
noncomputable def impl_Board_mean_impl_Board_keepOf_f1_n3_LS1 (F : Nat) : LT := (3, impl_Board_mean_impl_Board_keepOf_f1_n3_ls3 F) :: impl_Board_mean_impl_Board_keepOf_f1_n3_LS0 F
theorem impl_Board_mean_impl_Board_keepOf_f1_n3_lsok1 (F : Nat) : LoopsOK Try.prog (impl_Board_mean_impl_Board_keepOf_f1_n3_LS1 F) (bodyOf Try.f49) := loopsOK_cons impl_Board_mean_impl_Board_keepOf_f1_n3_keys (impl_Board_mean_impl_Board_keepOf_f1_n3_lok3 F) (impl_Board_mean_impl_Board_keepOf_f1_n3_lsok0 F)
theorem impl_Board_mean_impl_Board_keepOf_f1_n3_run (F : Nat) (b0 : List Int) : runS tt (impl_Board_mean_impl_Board_keepOf_f1_n3_tab F) (impl_Board_mean_impl_Board_keepOf_f1_n3_LS1 F) [] [] Try.f49 (bodyOf Try.f49) 70 [(.ints 16 b0), (.fn 54 [] [(.ptr 0 0 0 1)])] [(.var 1 (.ri .i64 [(3 : Int)]))] = impl_Board_mean_impl_Board_keepOf_f1_n3_c _ F b0 (fun r => some ⟨(.ints 2 r), [(.var 1 (.ri .i64 [(3 : Int)]))], []⟩) := by kernel_rfl
def impl_Board_mean_impl_Board_keepOf_f1_n3_ent (F : Nat) : Ent := ⟨[], .quiet, fun args mem => match args, mem with
  | [(.ints 16 b0), (.fn 54 [] [(.ptr 0 0 0 1)])], [(.var 1 (.ri .i64 q_of4))] => bif (q_of4 == ([(3 : Int)] : List Int)) then some ((impl_Board_mean_impl_Board_keepOf_f1_n3_p F b0).isSome, ⟨(.ints 2 ((impl_Board_mean_impl_Board_keepOf_f1_n3_p F b0).getD default)), [], []⟩) else none
  | _, _ => none⟩
theorem impl_Board_mean_impl_Board_keepOf_f1_n3_fok : FunOK Try.prog 49 := funOK Try.func49 (by kernel_rfl) rfl
theorem impl_Board_mean_impl_Board_keepOf_f1_n3_meets (F : Nat) : Meets Try.prog 49 (impl_Board_mean_impl_Board_keepOf_f1_n3_ent F) := by
  refine meets_of_runS mixed ttok deep (impl_Board_mean_impl_Board_keepOf_f1_n3_tabok F) Try.func49 (body_some rfl) (impl_Board_mean_impl_Board_keepOf_f1_n3_lsok1 F) fun args mem hfit ret h => ?_
  clear hfit
  simp only [impl_Board_mean_impl_Board_keepOf_f1_n3_ent] at h
  split at h
  · rename_i b0 q_of4
    have hg0 := (cond_noneL h).1
    replace h := (cond_noneL h).2
    obtain rfl := beq_li hg0
    simp only [Option.some.injEq, Prod.mk.injEq] at h
    obtain ⟨hc, rfl⟩ := h
    exact ⟨[], [], 70, _, (impl_Board_mean_impl_Board_keepOf_f1_n3_run F b0).trans ((impl_Board_mean_impl_Board_keepOf_f1_n3_cp _ F b0 _).trans (bind_use hc _)), rfl, rfl, rfl⟩
  · cases h

/-! (loop.example/g01194/impl.Board).keepOf -/
noncomputable def impl_Board_keepOf_n3_tab (F : Nat) : Tab := [(53, (impl_Board_slides_ent F)), (49, (impl_Board_mean_impl_Board_keepOf_f1_n3_ent F))]
theorem impl_Board_keepOf_n3_tabok (F : Nat) : TabOK Try.prog (impl_Board_keepOf_n3_tab F) := (tab_cons (impl_Board_slides_meets F) impl_Board_slides_fok (tab_cons (impl_Board_mean_impl_Board_keepOf_f1_n3_meets F) impl_Board_mean_impl_Board_keepOf_f1_n3_fok tab_nil))
noncomputable def impl_Board_keepOf_n3_LS0 (F : Nat) : LT := []
theorem impl_Board_keepOf_n3_lsok0 (F : Nat) : LoopsOK Try.prog (impl_Board_keepOf_n3_LS0 F) (bodyOf Try.f30) := loopsOK_nil
theorem impl_Board_keepOf_n3_run (F : Nat) (b0 : List Int) (direction1 : Int) : runS tt (impl_Board_keepOf_n3_tab F) (impl_Board_keepOf_n3_LS0 F) [] [] Try.f30 (bodyOf Try.f30) 70 [(.ints 16 b0), (.int .i64 direction1), (.int .i64 (3 : Int))] [] = impl_Board_keepOf_n3_c _ F b0 direction1 (fun r => some ⟨(.ints 2 r), [], []⟩) := by kernel_rfl
def impl_Board_keepOf_n3_ent (F : Nat) : Ent := ⟨[], .quiet, fun args mem => match args, mem with
  | [(.ints 16 b0), (.int .i64 direction1), (.int .i64 q_n2)], [] => bif (q_n2 == (3 : Int)) then some ((impl_Board_keepOf_n3_p F b0 direction1).isSome, ⟨(.ints 2 ((impl_Board_keepOf_n3_p F b0 direction1).getD default)), [], []⟩) else none
  | _, _ => none⟩
theorem impl_Board_keepOf_n3_fok : FunOK Try.prog 30 := funOK Try.func30 (by kernel_rfl) rfl
theorem impl_Board_keepOf_n3_meets (F : Nat) : Meets Try.prog 30 (impl_Board_keepOf_n3_ent F) := by
  refine meets_of_runS mixed ttok deep (impl_Board_keepOf_n3_tabok F) Try.func30 (body_some rfl) (impl_Board_keepOf_n3_lsok0 F) fun args mem hfit ret h => ?_
  clear hfit
  simp only [impl_Board_keepOf_n3_ent] at h
  split at h
  · rename_i b0 direction1 q_n2
    have hg0 := (cond_noneL h).1
    replace h := (cond_noneL h).2
    obtain rfl := beq_int hg0
    simp only [Option.some.injEq, Prod.mk.injEq] at h
    obtain ⟨hc, rfl⟩ := h
    exact ⟨[], [], 70, _, (impl_Board_keepOf_n3_run F b0 direction1).trans ((impl_Board_keepOf_n3_cp _ F b0 direction1 _).trans (bind_use hc _)), rfl, rfl, rfl⟩
  · cases h

/-! (loop.example/g01194/impl.Board).keepOf -/
def impl_Board_keepOf_ent (F : Nat) : Ent := ⟨[], .quiet, fun args mem => match args, mem with
  | [(.ints 16 b0), (.int .i64 direction1), (.int .i64 n2)], [] => some ((impl_Board_keepOf_p F b0 direction1 n2).isSome, ⟨(.ints 2 ((impl_Board_keepOf_p F b0 direction1 n2).getD default)), [], []⟩)
  | _, _ => none⟩
theorem impl_Board_keepOf_fok : FunOK Try.prog 30 := funOK Try.func30 (by kernel_rfl) rfl
theorem impl_Board_keepOf_meets (F : Nat) : Meets Try.prog 30 (impl_Board_keepOf_ent F) := by
  intro fr w ρ mem args reals hw ha ret hg
  simp only [impl_Board_keepOf_ent] at hg
  split at hg
  · rename_i b0 direction1 n2
    simp only [Option.some.injEq, Prod.mk.injEq] at hg
    obtain ⟨hc, rfl⟩ := hg
    by_cases hn0 : (n2 == (1 : Int)) = true
    · obtain rfl := beq_int hn0
      have e : impl_Board_keepOf_p F b0 direction1 (1 : Int) = some (impl_Board_keepOf_n1_v b0 direction1) := by kernel_rfl
      have hg' : (impl_Board_keepOf_n1_ent F).g [(.ints 16 b0), (.int .i64 direction1), (.int .i64 (1 : Int))] [] = some (true, ⟨(.ints 2 (impl_Board_keepOf_n1_v b0 direction1)), [], []⟩) := by kernel_rfl
      have h9 := impl_Board_keepOf_n1_meets F fr w ρ _ _ reals hw ha _ hg'
      simp only [e, cond_true, Option.getD_some]
      exact h9
    · replace hn0 : (n2 == (1 : Int)) = false := by simpa using hn0
      by_cases hn1 : (n2 == (2 : Int)) = true
      · obtain rfl := beq_int hn1
        have e : impl_Board_keepOf_p F b0 direction1 (2 : Int) = (bif (Option.isSome (impl_Board_keepOf_n2_p F b0 direction1)) then some (Option.getD (impl_Board_keepOf_n2_p F b0 direction1) default) else none) := by kernel_rfl
        have hg' : (impl_Board_keepOf_n2_ent F).g [(.ints 16 b0), (.int .i64 direction1), (.int .i64 (2 : Int))] [] = some ((Option.isSome (impl_Board_keepOf_n2_p F b0 direction1)), ⟨(.ints 2 (Option.getD (impl_Board_keepOf_n2_p F b0 direction1) default)), [], []⟩) := by kernel_rfl
        rw [e] at hc
        have hC := isSome_cond hc
        rw [hC] at hg'
        have h9 := impl_Board_keepOf_n2_meets F fr w ρ _ _ reals hw ha _ hg'
        simp only [e, hC, cond_true, Option.getD_some]
        exact h9
      · replace hn1 : (n2 == (2 : Int)) = false := by simpa using hn1
        by_cases hn2 : (n2 == (3 : Int)) = true
        · obtain rfl := beq_int hn2
          have e : impl_Board_keepOf_p F b0 direction1 (3 : Int) = (bif (Option.isSome (impl_Board_keepOf_n3_p F b0 direction1)) then some (Option.getD (impl_Board_keepOf_n3_p F b0 direction1) default) else none) := by kernel_rfl
          have hg' : (impl_Board_keepOf_n3_ent F).g [(.ints 16 b0), (.int .i64 direction1), (.int .i64 (3 : Int))] [] = some ((Option.isSome (impl_Board_keepOf_n3_p F b0 direction1)), ⟨(.ints 2 (Option.getD (impl_Board_keepOf_n3_p F b0 direction1) default)), [], []⟩) := by kernel_rfl
          rw [e] at hc
          have hC := isSome_cond hc
          rw [hC] at hg'
          have h9 := impl_Board_keepOf_n3_meets F fr w ρ _ _ reals hw ha _ hg'
          simp only [e, hC, cond_true, Option.getD_some]
          exact h9
        · replace hn2 : (n2 == (3 : Int)) = false := by simpa using hn2
          exfalso
          have e : impl_Board_keepOf_p F b0 direction1 n2 = none := by simp only [impl_Board_keepOf_p, impl_Board_keepOf_c, hn0, hn1, hn2, cond_false]
          rw [e] at hc
          cases hc
  · cases hg

/-! loop.example/g01194/impl.FirstWell$1 -/
noncomputable def impl_FirstWell_f1_tab (F : Nat) : Tab := [(30, (impl_Board_keepOf_ent F))]
theorem impl_FirstWell_f1_tabok (F : Nat) : TabOK Try.prog (impl_FirstWell_f1_tab F) := (tab_cons (impl_Board_keepOf_meets F) impl_Board_keepOf_fok tab_nil)
noncomputable def impl_FirstWell_f1_LS0 (F : Nat) : LT := []
theorem impl_FirstWell_f1_lsok0 (F : Nat) : LoopsOK Try.prog (impl_FirstWell_f1_LS0 F) (bodyOf Try.f29) := loopsOK_nil
theorem impl_FirstWell_f1_run (F : Nat) (d0 : Int) (a17 : List Int) (a28 : List Int) : runS tt (impl_FirstWell_f1_tab F) (impl_FirstWell_f1_LS0 F) [] [] Try.f29 (bodyOf Try.f29) 70 [(.int .i64 d0), (.ptr 0 0 0 16), (.ptr 1 0 0 1)] [(.var 16 (.ri .i64 a17)), (.var 1 (.ri .i64 a28))] = impl_FirstWell_f1_c _ F d0 a17 a28 (fun r => some ⟨(.ints 2 r), [(.var 16 (.ri .i64 a17)), (.var 1 (.ri .i64 a28))], []⟩) := by kernel_rfl
def impl_FirstWell_f1_ent (F : Nat) : Ent := ⟨[], .quiet, fun args mem => match args, mem with
  | [(.int .i64 d0), (.ptr 0 0 0 16), (.ptr 1 0 0 1)], [(.var 16 (.ri .i64 a17)), (.var 1 (.ri .i64 a28))] => some ((impl_FirstWell_f1_p F d0 a17 a28).isSome, ⟨(.ints 2 ((impl_FirstWell_f1_p F d0 a17 a28).getD default)), [], []⟩)
  | _, _ => none⟩
theorem impl_FirstWell_f1_fok : FunOK Try.prog 29 := funOK Try.func29 (by kernel_rfl) rfl
theorem impl_FirstWell_f1_meets (F : Nat) : Meets Try.prog 29 (impl_FirstWell_f1_ent F) := by
  refine meets_of_runS mixed ttok deep (impl_FirstWell_f1_tabok F) Try.func29 (body_some rfl) (impl_FirstWell_f1_lsok0 F) fun args mem hfit ret h => ?_
  clear hfit
  simp only [impl_FirstWell_f1_ent] at h
  split at h
  · rename_i d0 a17 a28
    simp only [Option.some.injEq, Prod.mk.injEq] at h
    obtain ⟨hc, rfl⟩ := h
    exact ⟨[], [], 70, _, (impl_FirstWell_f1_run F d0 a17 a28).trans ((impl_FirstWell_f1_cp _ F d0 a17 a28 _).trans (bind_use hc _)), rfl, rfl, rfl⟩
  · cases h

/-! (loop.example/g01194/impl.Board).best -/
noncomputable def impl_Board_best_impl_FirstWell_f1_tab (F : Nat) : Tab := [(45, (impl_whole_ent F)), (51, (impl_Board_moves_ent F)), (29, (impl_FirstWell_f1_ent F)), (52, (impl_isLess_ent F))]
theorem impl_Board_best_impl_FirstWell_f1_tabok (F : Nat) : TabOK Try.prog (impl_Board_best_impl_FirstWell_f1_tab F) := (tab_cons (impl_whole_meets F) impl_whole_fok (tab_cons (impl_Board_moves_meets F) impl_Board_moves_fok (tab_cons (impl_FirstWell_f1_meets F) impl_FirstWell_f1_fok (tab_cons (impl_isLess_meets F) impl_isLess_fok tab_nil))))
noncomputable def impl_Board_best_impl_FirstWell_f1_LS0 (F : Nat) : LT := []
theorem impl_Board_best_impl_FirstWell_f1_lsok0 (F : Nat) : LoopsOK Try.prog (impl_Board_best_impl_FirstWell_f1_LS0 F) (bodyOf Try.f28) := loopsOK_nil
theorem impl_Board_best_impl_FirstWell_f1_keys : keysOK (bodyOf Try.f28) = true := by kernel_rfl
def impl_Board_best_impl_FirstWell_f1_st3 (t1415 : Int) (of17 : List Int) (of18 : List Int) (t1321 : List Int) (at9 : Int) (t1516 : Int) (most20 : List Int) : St := ⟨expand 34 0 [1, 5, 6, 7, 13, 14, 15] [(.fn 29 [] [(.ptr 0 0 0 16), (.ptr 1 0 0 1)]), (.ptr 2 0 0 2), (.int .i64 at9), (.ptr 3 0 0 2), (.sl 4 0 (List.length t1321)), (.int .i64 t1415), (.int .i64 t1516)], [(.var 16 (.ri .i64 of17)), (.var 1 (.ri .i64 of18)), (.var 2 (.ri .i64 [(0 : Int), (0 : Int)])), (.var 2 (.ri .i64 most20)), (.vec 3 (.ri .i64 t1321))], 2, []⟩
def impl_Board_best_impl_FirstWell_f1_o3 (t1415 : Int) (of17 : List Int) (of18 : List Int) (t1321 : List Int) (x : Int × List Int) : GT := (.out (.exit 0 ⟨expand 34 0 [5, 6, 7] [(.ptr 2 0 0 2), (.int .i64 x.1), (.ptr 3 0 0 2)], [(.var 16 (.ri .i64 of17)), (.var 1 (.ri .i64 of18)), (.var 2 (.ri .i64 [(0 : Int), (0 : Int)])), (.var 2 (.ri .i64 x.2))], 2, []⟩))
def impl_Board_best_impl_FirstWell_f1_ls3 (F : Nat) : LoopS := ⟨34, [1, 5, 6, 7, 13, 14, 15], [], [5, 6, 7], [], [4, 5], [], [], fun vals mem np killed => match vals, mem, np, killed with
  | [(.fn 29 [] [(.ptr 0 0 0 16), (.ptr 1 0 0 1)]), (.ptr 2 0 0 2), (.int .i64 at9), (.ptr 3 0 0 2), (.sl 4 0 q_t1314), (.int .i64 t1415), (.int .i64 t1516)], [(.var 16 (.ri .i64 of17)), (.var 1 (.ri .i64 of18)), (.var 2 (.ri .i64 q_t519)), (.var 2 (.ri .i64 most20)), (.vec 3 (.ri .i64 t1321))], 2, [] => .br ((q_t519 == ([(0 : Int), (0 : Int)] : List Int)) && ((Nat.beq q_t1314 (List.length t1321)) && (impl_Board_best_impl_FirstWell_f1_l3 F t1415 of17 of18 t1321 at9 t1516 most20).isSome)) (impl_Board_best_impl_FirstWell_f1_o3 t1415 of17 of18 t1321 ((impl_Board_best_impl_FirstWell_f1_l3 F t1415 of17 of18 t1321 at9 t1516 most20).getD default)) .fail
  | _, _, _, _ => .fail⟩
theorem impl_Board_best_impl_FirstWell_f1_step3 (F : Nat) (t1415 : Int) (of17 : List Int) (of18 : List Int) (t1321 : List Int) (at9 : Int) (t1516 : Int) (most20 : List Int) {R : Type} (k : Out → Option R) : stepS tt (impl_Board_best_impl_FirstWell_f1_tab F) (impl_Board_best_impl_FirstWell_f1_LS0 F) 70 (impl_Board_best_impl_FirstWell_f1_ls3 F) (loopAt 3 (bodyOf Try.f28)) (impl_Board_best_impl_FirstWell_f1_st3 t1415 of17 of18 t1321 at9 t1516 most20) k = impl_Board_best_impl_FirstWell_f1_s3 F t1415 of17 of18 t1321 R (at9, t1516, most20) (fun s => k (.norm (impl_Board_best_impl_FirstWell_f1_st3 t1415 of17 of18 t1321 s.1 s.2.1 s.2.2))) (fun x => (impl_Board_best_impl_FirstWell_f1_o3 t1415 of17 of18 t1321 x).run k) := by kernel_rfl
theorem impl_Board_best_impl_FirstWell_f1_iter3 (F : Nat) (t1415 : Int) (of17 : List Int) (of18 : List Int) (t1321 : List Int) {R : Type} (k : Out → Option R) : ∀ (n : Nat) (at9 : Int) (t1516 : Int) (most20 : List Int), iterS tt (impl_Board_best_impl_FirstWell_f1_tab F) (impl_Board_best_impl_FirstWell_f1_LS0 F) 70 (impl_Board_best_impl_FirstWell_f1_ls3 F) (loopAt 3 (bodyOf Try.f28)) n (impl_Board_best_impl_FirstWell_f1_st3 t1415 of17 of18 t1321 at9 t1516 most20) k = loopC (impl_Board_best_impl_FirstWell_f1_s3 F t1415 of17 of18 t1321) n (at9, t1516, most20) (fun x => (impl_Board_best_impl_FirstWell_f1_o3 t1415 of17 of18 t1321 x).run k)
  | 0, at9, t1516, most20 => rfl
  | n + 1, at9, t1516, most20 => (iterS_succ tt (impl_Board_best_impl_FirstWell_f1_tab F) (impl_Board_best_impl_FirstWell_f1_LS0 F) 70 (impl_Board_best_impl_FirstWell_f1_ls3 F) (loopAt 3 (bodyOf Try.f28)) n (impl_Board_best_impl_FirstWell_f1_st3 t1415 of17 of18 t1321 at9 t1516 most20) k).trans ((impl_Board_best_impl_FirstWell_f1_step3 F t1415 of17 of18 t1321 at9 t1516 most20 (nextK (iterS tt (impl_Board_best_impl_FirstWell_f1_tab F) (impl_Board_best_impl_FirstWell_f1_LS0 F) 70 (impl_Board_best_impl_FirstWell_f1_ls3 F) (loopAt 3 (bodyOf Try.f28)) n) k)).trans (congrArg (fun kn => impl_Board_best_impl_FirstWell_f1_s3 F t1415 of17 of18 t1321 R (at9, t1516, most20) kn _) (funext (fun ⟨at9, t1516, most20⟩ => impl_Board_best_impl_FirstWell_f1_iter3 F t1415 of17 of18 t1321 k n at9 t1516 most20))))
theorem impl_Board_best_impl_FirstWell_f1_lok3 (F : Nat) : LoopOK Try.prog (loopAt 3 (bodyOf Try.f28)) (impl_Board_best_impl_FirstWell_f1_ls3 F) := by
  refine loopOK_of mixed ttok deep (impl_Board_best_impl_FirstWell_f1_tabok F) (loopsOK_at (impl_Board_best_impl_FirstWell_f1_lsok0 F) 3) (fuel := 70) fun R vals mem np killed k x h => ?_
  simp only [impl_Board_best_impl_FirstWell_f1_ls3] at h
  split at h
  · rename_i at9 q_t1314 t1415 t1516 of17 of18 q_t519 most20 t1321
    simp only [GT.run] at h
    have hc := (cond_noneL h).1
    replace h := (cond_noneL h).2
    have hg := (and_split hc).1
    replace hc := (and_split hc).2
    obtain rfl := beq_li hg
    have hg := (and_split hc).1
    replace hc := (and_split hc).2
    obtain rfl := nbeq_nat hg
    refine ⟨F, (impl_Board_best_impl_FirstWell_f1_iter3 F t1415 of17 of18 t1321 k F at9 t1516 most20).trans ((loopC_use (impl_Board_best_impl_FirstWell_f1_s3_nat F t1415 of17 of18 t1321) hc _).trans h)⟩
  · simp only [GT.run] at h
    cases h
noncomputable def impl_Board_best_impl_FirstWell_f1_LS1 (F : Nat) : LT := (3, impl_Board_best_impl_FirstWell_f1_ls3 F) :: impl_Board_best_impl_FirstWell_f1_LS0 F
theorem impl_Board_best_impl_FirstWell_f1_lsok1 (F : Nat) : LoopsOK Try.prog (impl_Board_best_impl_FirstWell_f1_LS1 F) (bodyOf Try.f28) := loopsOK_cons impl_Board_best_impl_FirstWell_f1_keys (impl_Board_best_impl_FirstWell_f1_lok3 F) (impl_Board_best_impl_FirstWell_f1_lsok0 F)
theorem impl_Board_best_impl_FirstWell_f1_run (F : Nat) (b0 : List Int) (of7 : List Int) (of8 : List Int) : runS tt (impl_Board_best_impl_FirstWell_f1_tab F) (impl_Board_best_impl_FirstWell_f1_LS1 F) [] [] Try.f28 (bodyOf Try.f28) 70 [(.ints 16 b0), (.fn 29 [] [(.ptr 0 0 0 16), (.ptr 1 0 0 1)])] [(.var 16 (.ri .i64 of7)), (.var 1 (.ri .i64 of8))] = impl_Board_best_impl_FirstWell_f1_c _ F b0 of7 of8 (fun r => some ⟨(.tup [(.int .i64 r.1), (.ints 2 r.2)]), [(.var 16 (.ri .i64 of7)), (.var 1 (.ri .i64 of8))], []⟩) := by kernel_rfl
def impl_Board_best_impl_FirstWell_f1_ent (F : Nat) : Ent := ⟨[], .quiet, fun args mem => match args, mem with
  | [(.ints 16 b0), (.fn 29 [] [(.ptr 0 0 0 16), (.ptr 1 0 0 1)])], [(.var 16 (.ri .i64 of7)), (.var 1 (.ri .i64 of8))] => some ((impl_Board_best_impl_FirstWell_f1_p F b0 of7 of8).isSome, ⟨(.tup [(.int .i64 ((impl_Board_best_impl_FirstWell_f1_p F b0 of7 of8).getD default).1), (.ints 2 ((impl_Board_best_impl_FirstWell_f1_p F b0 of7 of8).getD default).2)]), [], []⟩)
  | _, _ => none⟩
theorem impl_Board_best_impl_FirstWell_f1_fok : FunOK Try.prog 28 := funOK Try.func28 (by kernel_rfl) rfl
theorem impl_Board_best_impl_FirstWell_f1_meets (F : Nat) : Meets Try.prog 28 (impl_Board_best_impl_FirstWell_f1_ent F) := by
  refine meets_of_runS mixed ttok deep (impl_Board_best_impl_FirstWell_f1_tabok F) Try.func28 (body_some rfl) (impl_Board_best_impl_FirstWell_f1_lsok1 F) fun args mem hfit ret h => ?_
  clear hfit
  simp only [impl_Board_best_impl_FirstWell_f1_ent] at h
  split at h
  · rename_i b0 of7 of8
    simp only [Option.some.injEq, Prod.mk.injEq] at h
    obtain ⟨hc, rfl⟩ := h
    exact ⟨[], [], 70, _, (impl_Board_best_impl_FirstWell_f1_run F b0 of7 of8).trans ((impl_Board_best_impl_FirstWell_f1_cp _ F b0 of7 of8 _).trans (bind_use hc _)), rfl, rfl, rfl⟩
  · cases h

/-! loop.example/g01194/impl.FirstWell -/
noncomputable def impl_FirstWell_tab (F : Nat) : Tab := [(21, (impl_IsBoard_ent F)), (22, (impl_in_ent F)), (27, (impl_Board_isOver_ent F)), (28, (impl_Board_best_impl_FirstWell_f1_ent F))]
theorem impl_FirstWell_tabok (F : Nat) : TabOK Try.prog (impl_FirstWell_tab F) := (tab_cons (impl_IsBoard_meets F) impl_IsBoard_fok (tab_cons (impl_in_meets F) impl_in_fok (tab_cons (impl_Board_isOver_meets F) impl_Board_isOver_fok (tab_cons (impl_Board_best_impl_FirstWell_f1_meets F) impl_Board_best_impl_FirstWell_f1_fok tab_nil))))
noncomputable def impl_FirstWell_LS0 (F : Nat) : LT := []
theorem impl_FirstWell_lsok0 (F : Nat) : LoopsOK Try.prog (impl_FirstWell_LS0 F) (bodyOf Try.f12) := loopsOK_nil
theorem impl_FirstWell_run (F : Nat) (b0 : List Int) (n1 : Int) : runS tt (impl_FirstWell_tab F) (impl_FirstWell_LS0 F) [] [] Try.f12 (bodyOf Try.f12) 70 [(.ints 16 b0), (.int .i64 n1)] [] = impl_FirstWell_c _ F b0 n1 (fun r => some ⟨(.tup [(.int .i64 r.1), (.bool r.2)]), [], []⟩) := by kernel_rfl
def impl_FirstWell_ent (F : Nat) : Ent := ⟨[], .quiet, fun args mem => match args, mem with
  | [(.ints 16 b0), (.int .i64 n1)], [] => some ((impl_FirstWell_p F b0 n1).isSome, ⟨(.tup [(.int .i64 ((impl_FirstWell_p F b0 n1).getD default).1), (.bool ((impl_FirstWell_p F b0 n1).getD default).2)]), [], []⟩)
  | _, _ => none⟩
theorem impl_FirstWell_fok : FunOK Try.prog 12 := funOK Try.func12 (by kernel_rfl) rfl
theorem impl_FirstWell_meets (F : Nat) : Meets Try.prog 12 (impl_FirstWell_ent F) := by
  refine meets_of_runS mixed ttok deep (impl_FirstWell_tabok F) Try.func12 (body_some rfl) (impl_FirstWell_lsok0 F) fun args mem hfit ret h => ?_
  clear hfit
  simp only [impl_FirstWell_ent] at h
  split at h
  · rename_i b0 n1
    simp only [Option.some.injEq, Prod.mk.injEq] at h
    obtain ⟨hc, rfl⟩ := h
    exact ⟨[], [], 70, _, (impl_FirstWell_run F b0 n1).trans ((impl_FirstWell_cp _ F b0 n1 _).trans (bind_use hc _)), rfl, rfl, rfl⟩
  · cases h

/-! loop.example/g01194/laws.FnExactFirstWell -/
noncomputable def laws_FnExactFirstWell_tab (F : Nat) : Tab := [(8, (laws_toBoard_ent F)), (11, (spec_FirstWell_ent F)), (12, (impl_FirstWell_ent F))]
theorem laws_FnExactFirstWell_tabok (F : Nat) : TabOK Try.prog (laws_FnExactFirstWell_tab F) := (tab_cons (laws_toBoard_meets F) laws_toBoard_fok (tab_cons (spec_FirstWell_meets F) spec_FirstWell_fok (tab_cons (impl_FirstWell_meets F) impl_FirstWell_fok tab_nil)))
noncomputable def laws_FnExactFirstWell_LS0 (F : Nat) : LT := []
theorem laws_FnExactFirstWell_lsok0 (F : Nat) : LoopsOK Try.prog (laws_FnExactFirstWell_LS0 F) (bodyOf Try.f4) := loopsOK_nil
theorem laws_FnExactFirstWell_run (F : Nat) (aB0 : List Int) (aN1 : Int) : runS tt (laws_FnExactFirstWell_tab F) (laws_FnExactFirstWell_LS0 F) [] [] Try.f4 (bodyOf Try.f4) 70 [(.ints 16 aB0), (.int .i64 aN1)] [] = laws_FnExactFirstWell_c _ F aB0 aN1 (fun r => some ⟨(.bool r), [], []⟩) := by kernel_rfl
def laws_FnExactFirstWell_ent (F : Nat) : Ent := ⟨[], .quiet, fun args mem => match args, mem with
  | [(.ints 16 aB0), (.int .i64 aN1)], [] => some ((laws_FnExactFirstWell_p F aB0 aN1).isSome, ⟨(.bool ((laws_FnExactFirstWell_p F aB0 aN1).getD default)), [], []⟩)
  | _, _ => none⟩
theorem laws_FnExactFirstWell_fok : FunOK Try.prog 4 := funOK Try.func4 (by kernel_rfl) rfl
theorem laws_FnExactFirstWell_meets (F : Nat) : Meets Try.prog 4 (laws_FnExactFirstWell_ent F) := by
  refine meets_of_runS mixed ttok deep (laws_FnExactFirstWell_tabok F) Try.func4 (body_some rfl) (laws_FnExactFirstWell_lsok0 F) fun args mem hfit ret h => ?_
  clear hfit
  simp only [laws_FnExactFirstWell_ent] at h
  split at h
  · rename_i aB0 aN1
    simp only [Option.some.injEq, Prod.mk.injEq] at h
    obtain ⟨hc, rfl⟩ := h
    exact ⟨[], [], 70, _, (laws_FnExactFirstWell_run F aB0 aN1).trans ((laws_FnExactFirstWell_cp _ F aB0 aN1 _).trans (bind_use hc _)), rfl, rfl, rfl⟩
  · cases h
end Go.Proofs.Ytloemkielkdegaa
