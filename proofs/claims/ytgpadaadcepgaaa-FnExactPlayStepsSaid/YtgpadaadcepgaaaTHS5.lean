/-
Pure functions and what the code of them does, by program; without conditions.
-/
import Derived.Test.YtgpadaadcepgaaaTHP5
import Derived.Test.YtgpadaadcepgaaaTHS4
namespace Go.Proofs.Ytgpadaadcepgaaa
open Go Go.Lv Go.Lv.P Go.Proofs
set_option linter.unusedVariables false
set_option linter.unusedSimpArgs false
set_option maxRecDepth 100000
/-! loop.example/g01194/spec.ChanceOver -/
noncomputable def spec_ChanceOver_tab (F : Nat) : Tab := [(33, (spec_l9Move_ent F)), (35, (spec_l5Steps_ent F)), (36, (spec_l9Boards_ent F)), (52, (spec_l2Moves_ent F)), (37, (spec_l9One_ent F)), (38, (spec_l9Mean_ent F))]
theorem spec_ChanceOver_tabok (F : Nat) : TabOK Try.prog (spec_ChanceOver_tab F) := (tab_cons (spec_l9Move_meets F) spec_l9Move_fok (tab_cons (spec_l5Steps_meets F) spec_l5Steps_fok (tab_cons (spec_l9Boards_meets F) spec_l9Boards_fok (tab_cons (spec_l2Moves_meets F) spec_l2Moves_fok (tab_cons (spec_l9One_meets F) spec_l9One_fok (tab_cons (spec_l9Mean_meets F) spec_l9Mean_fok tab_nil))))))
noncomputable def spec_ChanceOver_LS0 (F : Nat) : LT := []
theorem spec_ChanceOver_lsok0 (F : Nat) : LoopsOK Try.prog (spec_ChanceOver_LS0 F) (bodyOf Try.f19) := loopsOK_nil
theorem spec_ChanceOver_keys : keysOK (bodyOf Try.f19) = true := by kernel_rfl
def spec_ChanceOver_st6 (steps11 : List (List Int)) (all13 : List (List Int)) (i9 : Int) (numbers12 : List Int) : St := ⟨expand 42 0 [4, 6, 7, 8, 9] [(.ptr 0 0 0 2), (.sl 1 0 (List.length steps11)), (.sl 2 0 (List.length numbers12)), (.sl 3 0 (List.length all13)), (.int .i64 i9)], [(.var 2 (.ri .i64 [(0 : Int), (0 : Int)])), (.vec 75 (.rr 4 steps11)), (.vec 3 (.ri .i64 numbers12)), (.vec 29 (.rr 16 all13))], 0, []⟩
def spec_ChanceOver_o6 (steps11 : List (List Int)) (all13 : List (List Int)) (x : List Int) : GT := (.out (.exit 0 ⟨expand 42 0 [4, 6, 7] [(.ptr 0 0 0 2), (.sl 1 0 (List.length steps11)), (.sl 2 0 (List.length x))], [(.var 2 (.ri .i64 [(0 : Int), (0 : Int)])), (.vec 75 (.rr 4 steps11)), (.vec 3 (.ri .i64 x))], 0, []⟩))
def spec_ChanceOver_ls6 (F : Nat) : LoopS := ⟨42, [4, 6, 7, 8, 9], [], [4, 6, 7], [], [4, 5], [], [], fun vals mem np killed => match vals, mem, np, killed with
  | [(.ptr 0 0 0 2), (.sl 1 0 q_steps4), (.sl 2 0 q_numbers6), (.sl 3 0 q_all8), (.int .i64 i9)], [(.var 2 (.ri .i64 q_t410)), (.vec 75 (.rr 4 steps11)), (.vec 3 (.ri .i64 numbers12)), (.vec 29 (.rr 16 all13))], 0, [] => .br ((q_t410 == ([(0 : Int), (0 : Int)] : List Int)) && ((Nat.beq q_steps4 (List.length steps11)) && ((Nat.beq q_numbers6 (List.length numbers12)) && ((Nat.beq q_all8 (List.length all13)) && (spec_ChanceOver_l6 F steps11 all13 i9 numbers12).isSome)))) (spec_ChanceOver_o6 steps11 all13 ((spec_ChanceOver_l6 F steps11 all13 i9 numbers12).getD default)) .fail
  | _, _, _, _ => .fail⟩
theorem spec_ChanceOver_step6 (F : Nat) (steps11 : List (List Int)) (all13 : List (List Int)) (i9 : Int) (numbers12 : List Int) {R : Type} (k : Out → Option R) : stepS tt (spec_ChanceOver_tab F) (spec_ChanceOver_LS0 F) 70 (spec_ChanceOver_ls6 F) (loopAt 6 (bodyOf Try.f19)) (spec_ChanceOver_st6 steps11 all13 i9 numbers12) k = spec_ChanceOver_s6 F steps11 all13 R (i9, numbers12) (fun s => k (.norm (spec_ChanceOver_st6 steps11 all13 s.1 s.2))) (fun x => (spec_ChanceOver_o6 steps11 all13 x).run k) := by kernel_rfl
theorem spec_ChanceOver_iter6 (F : Nat) (steps11 : List (List Int)) (all13 : List (List Int)) {R : Type} (k : Out → Option R) : ∀ (n : Nat) (i9 : Int) (numbers12 : List Int), iterS tt (spec_ChanceOver_tab F) (spec_ChanceOver_LS0 F) 70 (spec_ChanceOver_ls6 F) (loopAt 6 (bodyOf Try.f19)) n (spec_ChanceOver_st6 steps11 all13 i9 numbers12) k = loopC (spec_ChanceOver_s6 F steps11 all13) n (i9, numbers12) (fun x => (spec_ChanceOver_o6 steps11 all13 x).run k)
  | 0, i9, numbers12 => rfl
  | n + 1, i9, numbers12 => (iterS_succ tt (spec_ChanceOver_tab F) (spec_ChanceOver_LS0 F) 70 (spec_ChanceOver_ls6 F) (loopAt 6 (bodyOf Try.f19)) n (spec_ChanceOver_st6 steps11 all13 i9 numbers12) k).trans ((spec_ChanceOver_step6 F steps11 all13 i9 numbers12 (nextK (iterS tt (spec_ChanceOver_tab F) (spec_ChanceOver_LS0 F) 70 (spec_ChanceOver_ls6 F) (loopAt 6 (bodyOf Try.f19)) n) k)).trans (congrArg (fun kn => spec_ChanceOver_s6 F steps11 all13 R (i9, numbers12) kn _) (funext (fun ⟨i9, numbers12⟩ => spec_ChanceOver_iter6 F steps11 all13 k n i9 numbers12))))
theorem spec_ChanceOver_lok6 (F : Nat) : LoopOK Try.prog (loopAt 6 (bodyOf Try.f19)) (spec_ChanceOver_ls6 F) := by
  refine loopOK_of mixed ttok deep (spec_ChanceOver_tabok F) (loopsOK_at (spec_ChanceOver_lsok0 F) 6) (fuel := 70) fun R vals mem np killed k x h => ?_
  simp only [spec_ChanceOver_ls6] at h
  split at h
  · rename_i q_steps4 q_numbers6 q_all8 i9 q_t410 steps11 numbers12 all13
    simp only [GT.run] at h
    have hc := (cond_noneL h).1
    replace h := (cond_noneL h).2
    have hg := (and_split hc).1
    replace hc := (and_split hc).2
    obtain rfl := beq_li hg
    have hg := (and_split hc).1
    replace hc := (and_split hc).2
    obtain rfl := nbeq_nat hg
    have hg := (and_split hc).1
    replace hc := (and_split hc).2
    obtain rfl := nbeq_nat hg
    have hg := (and_split hc).1
    replace hc := (and_split hc).2
    obtain rfl := nbeq_nat hg
    refine ⟨F, (spec_ChanceOver_iter6 F steps11 all13 k F i9 numbers12).trans ((loopC_use (spec_ChanceOver_s6_nat F steps11 all13) hc _).trans h)⟩
  · simp only [GT.run] at h
    cases h
noncomputable def spec_ChanceOver_LS1 (F : Nat) : LT := (6, spec_ChanceOver_ls6 F) :: spec_ChanceOver_LS0 F
theorem spec_ChanceOver_lsok1 (F : Nat) : LoopsOK Try.prog (spec_ChanceOver_LS1 F) (bodyOf Try.f19) := loopsOK_cons spec_ChanceOver_keys (spec_ChanceOver_lok6 F) (spec_ChanceOver_lsok0 F)
theorem spec_ChanceOver_run (F : Nat) (b0 : List Int) (direction1 : Int) : runS tt (spec_ChanceOver_tab F) (spec_ChanceOver_LS1 F) [] [] Try.f19 (bodyOf Try.f19) 70 [(.ints 16 b0), (.int .i64 direction1)] [] = spec_ChanceOver_c _ F b0 direction1 (fun r => some ⟨(.tup [(.ints 2 r.1), (.bool r.2)]), [], []⟩) := by kernel_rfl
def spec_ChanceOver_ent (F : Nat) : Ent := ⟨[], .quiet, fun args mem => match args, mem with
  | [(.ints 16 b0), (.int .i64 direction1)], [] => some ((spec_ChanceOver_p F b0 direction1).isSome, ⟨(.tup [(.ints 2 ((spec_ChanceOver_p F b0 direction1).getD default).1), (.bool ((spec_ChanceOver_p F b0 direction1).getD default).2)]), [], []⟩)
  | _, _ => none⟩
theorem spec_ChanceOver_fok : FunOK Try.prog 19 := funOK Try.func19 (by kernel_rfl) rfl
theorem spec_ChanceOver_meets (F : Nat) : Meets Try.prog 19 (spec_ChanceOver_ent F) := by
  refine meets_of_runS mixed ttok deep (spec_ChanceOver_tabok F) Try.func19 (body_some rfl) (spec_ChanceOver_lsok1 F) fun args mem hfit ret h => ?_
  clear hfit
  simp only [spec_ChanceOver_ent] at h
  split at h
  · rename_i b0 direction1
    simp only [Option.some.injEq, Prod.mk.injEq] at h
    obtain ⟨hc, rfl⟩ := h
    exact ⟨[], [], 70, _, (spec_ChanceOver_run F b0 direction1).trans ((spec_ChanceOver_cp _ F b0 direction1 _).trans (bind_use hc _)), rfl, rfl, rfl⟩
  · cases h

/-! (loop.example/g01194/impl.Board).moves -/
noncomputable def impl_Board_moves_tab (F : Nat) : Tab := [(80, (impl_Board_slide_ent F))]
theorem impl_Board_moves_tabok (F : Nat) : TabOK Try.prog (impl_Board_moves_tab F) := (tab_cons (impl_Board_slide_meets F) impl_Board_slide_fok tab_nil)
noncomputable def impl_Board_moves_LS0 (F : Nat) : LT := []
theorem impl_Board_moves_lsok0 (F : Nat) : LoopsOK Try.prog (impl_Board_moves_LS0 F) (bodyOf Try.f81) := loopsOK_nil
theorem impl_Board_moves_keys : keysOK (bodyOf Try.f81) = true := by kernel_rfl
def impl_Board_moves_st3 (b6 : List Int) (t95 : Int) (out7 : List Int) : St := ⟨expand 28 0 [1, 3, 9] [(.ptr 0 0 0 16), (.sl 1 0 (List.length out7)), (.int .i64 t95)], [(.var 16 (.ri .i64 b6)), (.vec 3 (.ri .i64 out7))], 0, []⟩
def impl_Board_moves_o3 (b6 : List Int) (x : List Int) : GT := (.out (.exit 0 ⟨expand 28 0 [3] [(.sl 0 0 (List.length x))], [(.vec 3 (.ri .i64 x))], 0, []⟩))
def impl_Board_moves_ls3 (F : Nat) : LoopS := ⟨28, [1, 3, 9], [], [3], [], [2], [], [], fun vals mem np killed => match vals, mem, np, killed with
  | [(.ptr 0 0 0 16), (.sl 1 0 q_out4), (.int .i64 t95)], [(.var 16 (.ri .i64 b6)), (.vec 3 (.ri .i64 out7))], 0, [] => .br ((Nat.beq q_out4 (List.length out7)) && (impl_Board_moves_l3 F b6 t95 out7).isSome) (impl_Board_moves_o3 b6 ((impl_Board_moves_l3 F b6 t95 out7).getD default)) .fail
  | _, _, _, _ => .fail⟩
theorem impl_Board_moves_step3 (F : Nat) (b6 : List Int) (t95 : Int) (out7 : List Int) {R : Type} (k : Out → Option R) : stepS tt (impl_Board_moves_tab F) (impl_Board_moves_LS0 F) 70 (impl_Board_moves_ls3 F) (loopAt 3 (bodyOf Try.f81)) (impl_Board_moves_st3 b6 t95 out7) k = impl_Board_moves_s3 F b6 R (t95, out7) (fun s => k (.norm (impl_Board_moves_st3 b6 s.1 s.2))) (fun x => (impl_Board_moves_o3 b6 x).run k) := by kernel_rfl
theorem impl_Board_moves_iter3 (F : Nat) (b6 : List Int) {R : Type} (k : Out → Option R) : ∀ (n : Nat) (t95 : Int) (out7 : List Int), iterS tt (impl_Board_moves_tab F) (impl_Board_moves_LS0 F) 70 (impl_Board_moves_ls3 F) (loopAt 3 (bodyOf Try.f81)) n (impl_Board_moves_st3 b6 t95 out7) k = loopC (impl_Board_moves_s3 F b6) n (t95, out7) (fun x => (impl_Board_moves_o3 b6 x).run k)
  | 0, t95, out7 => rfl
  | n + 1, t95, out7 => (iterS_succ tt (impl_Board_moves_tab F) (impl_Board_moves_LS0 F) 70 (impl_Board_moves_ls3 F) (loopAt 3 (bodyOf Try.f81)) n (impl_Board_moves_st3 b6 t95 out7) k).trans ((impl_Board_moves_step3 F b6 t95 out7 (nextK (iterS tt (impl_Board_moves_tab F) (impl_Board_moves_LS0 F) 70 (impl_Board_moves_ls3 F) (loopAt 3 (bodyOf Try.f81)) n) k)).trans (congrArg (fun kn => impl_Board_moves_s3 F b6 R (t95, out7) kn _) (funext (fun ⟨t95, out7⟩ => impl_Board_moves_iter3 F b6 k n t95 out7))))
theorem impl_Board_moves_lok3 (F : Nat) : LoopOK Try.prog (loopAt 3 (bodyOf Try.f81)) (impl_Board_moves_ls3 F) := by
  refine loopOK_of mixed ttok deep (impl_Board_moves_tabok F) (loopsOK_at (impl_Board_moves_lsok0 F) 3) (fuel := 70) fun R vals mem np killed k x h => ?_
  simp only [impl_Board_moves_ls3] at h
  split at h
  · rename_i q_out4 t95 b6 out7
    simp only [GT.run] at h
    have hc := (cond_noneL h).1
    replace h := (cond_noneL h).2
    have hg := (and_split hc).1
    replace hc := (and_split hc).2
    obtain rfl := nbeq_nat hg
    refine ⟨F, (impl_Board_moves_iter3 F b6 k F t95 out7).trans ((loopC_use (impl_Board_moves_s3_nat F b6) hc _).trans h)⟩
  · simp only [GT.run] at h
    cases h
noncomputable def impl_Board_moves_LS1 (F : Nat) : LT := (3, impl_Board_moves_ls3 F) :: impl_Board_moves_LS0 F
theorem impl_Board_moves_lsok1 (F : Nat) : LoopsOK Try.prog (impl_Board_moves_LS1 F) (bodyOf Try.f81) := loopsOK_cons impl_Board_moves_keys (impl_Board_moves_lok3 F) (impl_Board_moves_lsok0 F)
theorem impl_Board_moves_run (F : Nat) (b0 : List Int) : runS tt (impl_Board_moves_tab F) (impl_Board_moves_LS1 F) [] [] Try.f81 (bodyOf Try.f81) 70 [(.ints 16 b0)] [] = impl_Board_moves_c _ F b0 (fun r => some ⟨(.sl 0 0 (List.length r)), [(.vec 3 (.ri .i64 r))], []⟩) := by kernel_rfl
def impl_Board_moves_ent (F : Nat) : Ent := ⟨[], .fresh, fun args mem => match args, mem with
  | [(.ints 16 b0)], [] => some ((impl_Board_moves_p F b0).isSome, ⟨(.sl 0 0 (List.length ((impl_Board_moves_p F b0).getD default))), [(.vec 3 (.ri .i64 ((impl_Board_moves_p F b0).getD default)))], []⟩)
  | _, _ => none⟩
theorem impl_Board_moves_fok : FunOK Try.prog 81 := funOK Try.func81 (by kernel_rfl) rfl
theorem impl_Board_moves_meets (F : Nat) : Meets Try.prog 81 (impl_Board_moves_ent F) := by
  refine meets_of_runS mixed ttok deep (impl_Board_moves_tabok F) Try.func81 (body_some rfl) (impl_Board_moves_lsok1 F) fun args mem hfit ret h => ?_
  clear hfit
  simp only [impl_Board_moves_ent] at h
  split at h
  · rename_i b0
    simp only [Option.some.injEq, Prod.mk.injEq] at h
    obtain ⟨hc, rfl⟩ := h
    exact ⟨[], [], 70, _, (impl_Board_moves_run F b0).trans ((impl_Board_moves_cp _ F b0 _).trans (bind_use hc _)), rfl, rfl, rfl⟩
  · cases h

/-! (loop.example/g01194/impl.Board).isOver -/
noncomputable def impl_Board_isOver_tab (F : Nat) : Tab := [(81, (impl_Board_moves_ent F))]
theorem impl_Board_isOver_tabok (F : Nat) : TabOK Try.prog (impl_Board_isOver_tab F) := (tab_cons (impl_Board_moves_meets F) impl_Board_moves_fok tab_nil)
noncomputable def impl_Board_isOver_LS0 (F : Nat) : LT := []
theorem impl_Board_isOver_lsok0 (F : Nat) : LoopsOK Try.prog (impl_Board_isOver_LS0 F) (bodyOf Try.f53) := loopsOK_nil
theorem impl_Board_isOver_run (F : Nat) (b0 : List Int) : runS tt (impl_Board_isOver_tab F) (impl_Board_isOver_LS0 F) [] [] Try.f53 (bodyOf Try.f53) 70 [(.ints 16 b0)] [] = impl_Board_isOver_c _ F b0 (fun r => some ⟨(.bool r), [], []⟩) := by kernel_rfl
def impl_Board_isOver_ent (F : Nat) : Ent := ⟨[], .quiet, fun args mem => match args, mem with
  | [(.ints 16 b0)], [] => some ((impl_Board_isOver_p F b0).isSome, ⟨(.bool ((impl_Board_isOver_p F b0).getD default)), [], []⟩)
  | _, _ => none⟩
theorem impl_Board_isOver_fok : FunOK Try.prog 53 := funOK Try.func53 (by kernel_rfl) rfl
theorem impl_Board_isOver_meets (F : Nat) : Meets Try.prog 53 (impl_Board_isOver_ent F) := by
  refine meets_of_runS mixed ttok deep (impl_Board_isOver_tabok F) Try.func53 (body_some rfl) (impl_Board_isOver_lsok0 F) fun args mem hfit ret h => ?_
  clear hfit
  simp only [impl_Board_isOver_ent] at h
  split at h
  · rename_i b0
    simp only [Option.some.injEq, Prod.mk.injEq] at h
    obtain ⟨hc, rfl⟩ := h
    exact ⟨[], [], 70, _, (impl_Board_isOver_run F b0).trans ((impl_Board_isOver_cp _ F b0 _).trans (bind_use hc _)), rfl, rfl, rfl⟩
  · cases h

/-! (loop.example/g01194/impl.Board).chance$1 -/
noncomputable def impl_Board_chance_f1_4_tab (F : Nat) : Tab := [(53, (impl_Board_isOver_ent F)), (79, (impl_flag_ent F))]
theorem impl_Board_chance_f1_4_tabok (F : Nat) : TabOK Try.prog (impl_Board_chance_f1_4_tab F) := (tab_cons (impl_Board_isOver_meets F) impl_Board_isOver_fok (tab_cons (impl_flag_meets F) impl_flag_fok tab_nil))
noncomputable def impl_Board_chance_f1_4_LS0 (F : Nat) : LT := []
theorem impl_Board_chance_f1_4_lsok0 (F : Nat) : LoopsOK Try.prog (impl_Board_chance_f1_4_LS0 F) (bodyOf Try.f78) := loopsOK_nil
theorem impl_Board_chance_f1_4_run (F : Nat) (own0 : List Int) : runS tt (impl_Board_chance_f1_4_tab F) (impl_Board_chance_f1_4_LS0 F) [] [] Try.f78 (bodyOf Try.f78) 70 [(.ints 16 own0), (.ptr 0 0 0 1)] [(.var 1 (.rv [(.fn 53 [] [])]))] = impl_Board_chance_f1_4_c _ F own0 (fun r => some ⟨(.ints 2 r), [(.var 1 (.rv [(.fn 53 [] [])]))], []⟩) := by kernel_rfl
def impl_Board_chance_f1_4_ent (F : Nat) : Ent := ⟨[], .quiet, fun args mem => match args, mem with
  | [(.ints 16 own0), (.ptr 0 0 0 1)], [(.var 1 (.rv [(.fn 53 [] [])]))] => some ((impl_Board_chance_f1_4_p F own0).isSome, ⟨(.ints 2 ((impl_Board_chance_f1_4_p F own0).getD default)), [], []⟩)
  | _, _ => none⟩
theorem impl_Board_chance_f1_4_fok : FunOK Try.prog 78 := funOK Try.func78 (by kernel_rfl) rfl
theorem impl_Board_chance_f1_4_meets (F : Nat) : Meets Try.prog 78 (impl_Board_chance_f1_4_ent F) := by
  refine meets_of_runS mixed ttok deep (impl_Board_chance_f1_4_tabok F) Try.func78 (body_some rfl) (impl_Board_chance_f1_4_lsok0 F) fun args mem hfit ret h => ?_
  clear hfit
  simp only [impl_Board_chance_f1_4_ent] at h
  split at h
  · rename_i own0
    simp only [Option.some.injEq, Prod.mk.injEq] at h
    obtain ⟨hc, rfl⟩ := h
    exact ⟨[], [], 70, _, (impl_Board_chance_f1_4_run F own0).trans ((impl_Board_chance_f1_4_cp _ F own0 _).trans (bind_use hc _)), rfl, rfl, rfl⟩
  · cases h

/-! (loop.example/g01194/impl.Board).mean -/
noncomputable def impl_Board_mean_impl_Board_chance_f1_4_tab (F : Nat) : Tab := [(96, (impl_Board_placements_ent F)), (97, (impl_Board_placed_ent F)), (78, (impl_Board_chance_f1_4_ent F)), (99, (impl_fraction_ent F)), (98, (impl_plus_ent F)), (100, (impl_Board_empty_ent F))]
theorem impl_Board_mean_impl_Board_chance_f1_4_tabok (F : Nat) : TabOK Try.prog (impl_Board_mean_impl_Board_chance_f1_4_tab F) := (tab_cons (impl_Board_placements_meets F) impl_Board_placements_fok (tab_cons (impl_Board_placed_meets F) impl_Board_placed_fok (tab_cons (impl_Board_chance_f1_4_meets F) impl_Board_chance_f1_4_fok (tab_cons (impl_fraction_meets F) impl_fraction_fok (tab_cons (impl_plus_meets F) impl_plus_fok (tab_cons (impl_Board_empty_meets F) impl_Board_empty_fok tab_nil))))))
noncomputable def impl_Board_mean_impl_Board_chance_f1_4_LS0 (F : Nat) : LT := []
theorem impl_Board_mean_impl_Board_chance_f1_4_lsok0 (F : Nat) : LoopsOK Try.prog (impl_Board_mean_impl_Board_chance_f1_4_LS0 F) (bodyOf Try.f77) := loopsOK_nil
theorem impl_Board_mean_impl_Board_chance_f1_4_keys : keysOK (bodyOf Try.f77) = true := by kernel_rfl
def impl_Board_mean_impl_Board_chance_f1_4_st3 (t1314 : Int) (b16 : List Int) (t1219 : List (List Int)) (t1415 : Int) (sum18 : List Int) : St := ⟨expand 46 0 [1, 2, 4, 5, 12, 13, 14] [(.fn 78 [] [(.ptr 0 0 0 1)]), (.ptr 1 0 0 16), (.ptr 2 0 0 2), (.ptr 3 0 0 2), (.sl 4 0 (List.length t1219)), (.int .i64 t1314), (.int .i64 t1415)], [(.var 1 (.rv [(.fn 53 [] [])])), (.var 16 (.ri .i64 b16)), (.var 2 (.ri .i64 [(0 : Int), (0 : Int)])), (.var 2 (.ri .i64 sum18)), (.vec 120 (.rr 3 t1219))], 1, []⟩
def impl_Board_mean_impl_Board_chance_f1_4_o3 (t1314 : Int) (b16 : List Int) (t1219 : List (List Int)) (x : List Int) : GT := (.out (.exit 0 ⟨expand 46 0 [2, 4, 5] [(.ptr 1 0 0 16), (.ptr 2 0 0 2), (.ptr 3 0 0 2)], [(.var 1 (.rv [(.fn 53 [] [])])), (.var 16 (.ri .i64 b16)), (.var 2 (.ri .i64 [(0 : Int), (0 : Int)])), (.var 2 (.ri .i64 x))], 1, []⟩))
def impl_Board_mean_impl_Board_chance_f1_4_ls3 (F : Nat) : LoopS := ⟨46, [1, 2, 4, 5, 12, 13, 14], [], [2, 4, 5], [], [4], [], [], fun vals mem np killed => match vals, mem, np, killed with
  | [(.fn 78 [] [(.ptr 0 0 0 1)]), (.ptr 1 0 0 16), (.ptr 2 0 0 2), (.ptr 3 0 0 2), (.sl 4 0 q_t1213), (.int .i64 t1314), (.int .i64 t1415)], [(.var 1 (.rv [(.fn 53 [] [])])), (.var 16 (.ri .i64 b16)), (.var 2 (.ri .i64 q_t417)), (.var 2 (.ri .i64 sum18)), (.vec 120 (.rr 3 t1219))], 1, [] => .br ((q_t417 == ([(0 : Int), (0 : Int)] : List Int)) && ((Nat.beq q_t1213 (List.length t1219)) && (impl_Board_mean_impl_Board_chance_f1_4_l3 F t1314 b16 t1219 t1415 sum18).isSome)) (impl_Board_mean_impl_Board_chance_f1_4_o3 t1314 b16 t1219 ((impl_Board_mean_impl_Board_chance_f1_4_l3 F t1314 b16 t1219 t1415 sum18).getD default)) .fail
  | _, _, _, _ => .fail⟩
theorem impl_Board_mean_impl_Board_chance_f1_4_step3 (F : Nat) (t1314 : Int) (b16 : List Int) (t1219 : List (List Int)) (t1415 : Int) (sum18 : List Int) {R : Type} (k : Out → Option R) : stepS tt (impl_Board_mean_impl_Board_chance_f1_4_tab F) (impl_Board_mean_impl_Board_chance_f1_4_LS0 F) 70 (impl_Board_mean_impl_Board_chance_f1_4_ls3 F) (loopAt 3 (bodyOf Try.f77)) (impl_Board_mean_impl_Board_chance_f1_4_st3 t1314 b16 t1219 t1415 sum18) k = impl_Board_mean_impl_Board_chance_f1_4_s3 F t1314 b16 t1219 R (t1415, sum18) (fun s => k (.norm (impl_Board_mean_impl_Board_chance_f1_4_st3 t1314 b16 t1219 s.1 s.2))) (fun x => (impl_Board_mean_impl_Board_chance_f1_4_o3 t1314 b16 t1219 x).run k) := by kernel_rfl
theorem impl_Board_mean_impl_Board_chance_f1_4_iter3 (F : Nat) (t1314 : Int) (b16 : List Int) (t1219 : List (List Int)) {R : Type} (k : Out → Option R) : ∀ (n : Nat) (t1415 : Int) (sum18 : List Int), iterS tt (impl_Board_mean_impl_Board_chance_f1_4_tab F) (impl_Board_mean_impl_Board_chance_f1_4_LS0 F) 70 (impl_Board_mean_impl_Board_chance_f1_4_ls3 F) (loopAt 3 (bodyOf Try.f77)) n (impl_Board_mean_impl_Board_chance_f1_4_st3 t1314 b16 t1219 t1415 sum18) k = loopC (impl_Board_mean_impl_Board_chance_f1_4_s3 F t1314 b16 t1219) n (t1415, sum18) (fun x => (impl_Board_mean_impl_Board_chance_f1_4_o3 t1314 b16 t1219 x).run k)
  | 0, t1415, sum18 => rfl
  | n + 1, t1415, sum18 => (iterS_succ tt (impl_Board_mean_impl_Board_chance_f1_4_tab F) (impl_Board_mean_impl_Board_chance_f1_4_LS0 F) 70 (impl_Board_mean_impl_Board_chance_f1_4_ls3 F) (loopAt 3 (bodyOf Try.f77)) n (impl_Board_mean_impl_Board_chance_f1_4_st3 t1314 b16 t1219 t1415 sum18) k).trans ((impl_Board_mean_impl_Board_chance_f1_4_step3 F t1314 b16 t1219 t1415 sum18 (nextK (iterS tt (impl_Board_mean_impl_Board_chance_f1_4_tab F) (impl_Board_mean_impl_Board_chance_f1_4_LS0 F) 70 (impl_Board_mean_impl_Board_chance_f1_4_ls3 F) (loopAt 3 (bodyOf Try.f77)) n) k)).trans (congrArg (fun kn => impl_Board_mean_impl_Board_chance_f1_4_s3 F t1314 b16 t1219 R (t1415, sum18) kn _) (funext (fun ⟨t1415, sum18⟩ => impl_Board_mean_impl_Board_chance_f1_4_iter3 F t1314 b16 t1219 k n t1415 sum18))))
theorem impl_Board_mean_impl_Board_chance_f1_4_lok3 (F : Nat) : LoopOK Try.prog (loopAt 3 (bodyOf Try.f77)) (impl_Board_mean_impl_Board_chance_f1_4_ls3 F) := by
  refine loopOK_of mixed ttok deep (impl_Board_mean_impl_Board_chance_f1_4_tabok F) (loopsOK_at (impl_Board_mean_impl_Board_chance_f1_4_lsok0 F) 3) (fuel := 70) fun R vals mem np killed k x h => ?_
  simp only [impl_Board_mean_impl_Board_chance_f1_4_ls3] at h
  split at h
  · rename_i q_t1213 t1314 t1415 b16 q_t417 sum18 t1219
    simp only [GT.run] at h
    have hc := (cond_noneL h).1
    replace h := (cond_noneL h).2
    have hg := (and_split hc).1
    replace hc := (and_split hc).2
    obtain rfl := beq_li hg
    have hg := (and_split hc).1
    replace hc := (and_split hc).2
    obtain rfl := nbeq_nat hg
    refine ⟨F, (impl_Board_mean_impl_Board_chance_f1_4_iter3 F t1314 b16 t1219 k F t1415 sum18).trans ((loopC_use (impl_Board_mean_impl_Board_chance_f1_4_s3_nat F t1314 b16 t1219) hc _).trans h)⟩
  · simp only [GT.run] at h
    cases h
noncomputable def impl_Board_mean_impl_Board_chance_f1_4_LS1 (F : Nat) : LT := (3, impl_Board_mean_impl_Board_chance_f1_4_ls3 F) :: impl_Board_mean_impl_Board_chance_f1_4_LS0 F
theorem impl_Board_mean_impl_Board_chance_f1_4_lsok1 (F : Nat) : LoopsOK Try.prog (impl_Board_mean_impl_Board_chance_f1_4_LS1 F) (bodyOf Try.f77) := loopsOK_cons impl_Board_mean_impl_Board_chance_f1_4_keys (impl_Board_mean_impl_Board_chance_f1_4_lok3 F) (impl_Board_mean_impl_Board_chance_f1_4_lsok0 F)
theorem impl_Board_mean_impl_Board_chance_f1_4_run (F : Nat) (b0 : List Int) : runS tt (impl_Board_mean_impl_Board_chance_f1_4_tab F) (impl_Board_mean_impl_Board_chance_f1_4_LS1 F) [] [] Try.f77 (bodyOf Try.f77) 70 [(.ints 16 b0), (.fn 78 [] [(.ptr 0 0 0 1)])] [(.var 1 (.rv [(.fn 53 [] [])]))] = impl_Board_mean_impl_Board_chance_f1_4_c _ F b0 (fun r => some ⟨(.ints 2 r), [(.var 1 (.rv [(.fn 53 [] [])]))], []⟩) := by kernel_rfl
def impl_Board_mean_impl_Board_chance_f1_4_ent (F : Nat) : Ent := ⟨[], .quiet, fun args mem => match args, mem with
  | [(.ints 16 b0), (.fn 78 [] [(.ptr 0 0 0 1)])], [(.var 1 (.rv [(.fn 53 [] [])]))] => some ((impl_Board_mean_impl_Board_chance_f1_4_p F b0).isSome, ⟨(.ints 2 ((impl_Board_mean_impl_Board_chance_f1_4_p F b0).getD default)), [], []⟩)
  | _, _ => none⟩
theorem impl_Board_mean_impl_Board_chance_f1_4_fok : FunOK Try.prog 77 := funOK Try.func77 (by kernel_rfl) rfl
theorem impl_Board_mean_impl_Board_chance_f1_4_meets (F : Nat) : Meets Try.prog 77 (impl_Board_mean_impl_Board_chance_f1_4_ent F) := by
  refine meets_of_runS mixed ttok deep (impl_Board_mean_impl_Board_chance_f1_4_tabok F) Try.func77 (body_some rfl) (impl_Board_mean_impl_Board_chance_f1_4_lsok1 F) fun args mem hfit ret h => ?_
  clear hfit
  simp only [impl_Board_mean_impl_Board_chance_f1_4_ent] at h
  split at h
  · rename_i b0
    simp only [Option.some.injEq, Prod.mk.injEq] at h
    obtain ⟨hc, rfl⟩ := h
    exact ⟨[], [], 70, _, (impl_Board_mean_impl_Board_chance_f1_4_run F b0).trans ((impl_Board_mean_impl_Board_chance_f1_4_cp _ F b0 _).trans (bind_use hc _)), rfl, rfl, rfl⟩
  · cases h

/-! (loop.example/g01194/impl.Board).chance -/
noncomputable def impl_Board_chance_impl_Board_isOver_tab (F : Nat) : Tab := [(75, (impl_Board_isMove_ent F)), (76, (impl_Board_slides_ent F)), (77, (impl_Board_mean_impl_Board_chance_f1_4_ent F))]
theorem impl_Board_chance_impl_Board_isOver_tabok (F : Nat) : TabOK Try.prog (impl_Board_chance_impl_Board_isOver_tab F) := (tab_cons (impl_Board_isMove_meets F) impl_Board_isMove_fok (tab_cons (impl_Board_slides_meets F) impl_Board_slides_fok (tab_cons (impl_Board_mean_impl_Board_chance_f1_4_meets F) impl_Board_mean_impl_Board_chance_f1_4_fok tab_nil)))
noncomputable def impl_Board_chance_impl_Board_isOver_LS0 (F : Nat) : LT := []
theorem impl_Board_chance_impl_Board_isOver_lsok0 (F : Nat) : LoopsOK Try.prog (impl_Board_chance_impl_Board_isOver_LS0 F) (bodyOf Try.f41) := loopsOK_nil
theorem impl_Board_chance_impl_Board_isOver_run (F : Nat) (b0 : List Int) (direction1 : Int) : runS tt (impl_Board_chance_impl_Board_isOver_tab F) (impl_Board_chance_impl_Board_isOver_LS0 F) [] [] Try.f41 (bodyOf Try.f41) 70 [(.ints 16 b0), (.int .i64 direction1), (.fn 53 [] [])] [] = impl_Board_chance_impl_Board_isOver_c _ F b0 direction1 (fun r => some ⟨(.tup [(.ints 2 r.1), (.bool r.2)]), [], []⟩) := by kernel_rfl
def impl_Board_chance_impl_Board_isOver_ent (F : Nat) : Ent := ⟨[], .quiet, fun args mem => match args, mem with
  | [(.ints 16 b0), (.int .i64 direction1), (.fn 53 [] [])], [] => some ((impl_Board_chance_impl_Board_isOver_p F b0 direction1).isSome, ⟨(.tup [(.ints 2 ((impl_Board_chance_impl_Board_isOver_p F b0 direction1).getD default).1), (.bool ((impl_Board_chance_impl_Board_isOver_p F b0 direction1).getD default).2)]), [], []⟩)
  | _, _ => none⟩
theorem impl_Board_chance_impl_Board_isOver_fok : FunOK Try.prog 41 := funOK Try.func41 (by kernel_rfl) rfl
theorem impl_Board_chance_impl_Board_isOver_meets (F : Nat) : Meets Try.prog 41 (impl_Board_chance_impl_Board_isOver_ent F) := by
  refine meets_of_runS mixed ttok deep (impl_Board_chance_impl_Board_isOver_tabok F) Try.func41 (body_some rfl) (impl_Board_chance_impl_Board_isOver_lsok0 F) fun args mem hfit ret h => ?_
  clear hfit
  simp only [impl_Board_chance_impl_Board_isOver_ent] at h
  split at h
  · rename_i b0 direction1
    simp only [Option.some.injEq, Prod.mk.injEq] at h
    obtain ⟨hc, rfl⟩ := h
    exact ⟨[], [], 70, _, (impl_Board_chance_impl_Board_isOver_run F b0 direction1).trans ((impl_Board_chance_impl_Board_isOver_cp _ F b0 direction1 _).trans (bind_use hc _)), rfl, rfl, rfl⟩
  · cases h

/-! loop.example/g01194/impl.ChanceOver -/
noncomputable def impl_ChanceOver_tab (F : Nat) : Tab := [(41, (impl_Board_chance_impl_Board_isOver_ent F))]
theorem impl_ChanceOver_tabok (F : Nat) : TabOK Try.prog (impl_ChanceOver_tab F) := (tab_cons (impl_Board_chance_impl_Board_isOver_meets F) impl_Board_chance_impl_Board_isOver_fok tab_nil)
noncomputable def impl_ChanceOver_LS0 (F : Nat) : LT := []
theorem impl_ChanceOver_lsok0 (F : Nat) : LoopsOK Try.prog (impl_ChanceOver_LS0 F) (bodyOf Try.f20) := loopsOK_nil
theorem impl_ChanceOver_run (F : Nat) (b0 : List Int) (direction1 : Int) : runS tt (impl_ChanceOver_tab F) (impl_ChanceOver_LS0 F) [] [] Try.f20 (bodyOf Try.f20) 70 [(.ints 16 b0), (.int .i64 direction1)] [] = impl_ChanceOver_c _ F b0 direction1 (fun r => some ⟨(.tup [(.ints 2 r.1), (.bool r.2)]), [], []⟩) := by kernel_rfl
def impl_ChanceOver_ent (F : Nat) : Ent := ⟨[], .quiet, fun args mem => match args, mem with
  | [(.ints 16 b0), (.int .i64 direction1)], [] => some ((impl_ChanceOver_p F b0 direction1).isSome, ⟨(.tup [(.ints 2 ((impl_ChanceOver_p F b0 direction1).getD default).1), (.bool ((impl_ChanceOver_p F b0 direction1).getD default).2)]), [], []⟩)
  | _, _ => none⟩
theorem impl_ChanceOver_fok : FunOK Try.prog 20 := funOK Try.func20 (by kernel_rfl) rfl
theorem impl_ChanceOver_meets (F : Nat) : Meets Try.prog 20 (impl_ChanceOver_ent F) := by
  refine meets_of_runS mixed ttok deep (impl_ChanceOver_tabok F) Try.func20 (body_some rfl) (impl_ChanceOver_lsok0 F) fun args mem hfit ret h => ?_
  clear hfit
  simp only [impl_ChanceOver_ent] at h
  split at h
  · rename_i b0 direction1
    simp only [Option.some.injEq, Prod.mk.injEq] at h
    obtain ⟨hc, rfl⟩ := h
    exact ⟨[], [], 70, _, (impl_ChanceOver_run F b0 direction1).trans ((impl_ChanceOver_cp _ F b0 direction1 _).trans (bind_use hc _)), rfl, rfl, rfl⟩
  · cases h

/-! loop.example/g01194/laws.FnExactChanceOver -/
noncomputable def laws_FnExactChanceOver_tab (F : Nat) : Tab := [(11, (laws_toBoard_ent F)), (19, (spec_ChanceOver_ent F)), (20, (impl_ChanceOver_ent F)), (13, (laws_eqIntA2_ent F))]
theorem laws_FnExactChanceOver_tabok (F : Nat) : TabOK Try.prog (laws_FnExactChanceOver_tab F) := (tab_cons (laws_toBoard_meets F) laws_toBoard_fok (tab_cons (spec_ChanceOver_meets F) spec_ChanceOver_fok (tab_cons (impl_ChanceOver_meets F) impl_ChanceOver_fok (tab_cons (laws_eqIntA2_meets F) laws_eqIntA2_fok tab_nil))))
noncomputable def laws_FnExactChanceOver_LS0 (F : Nat) : LT := []
theorem laws_FnExactChanceOver_lsok0 (F : Nat) : LoopsOK Try.prog (laws_FnExactChanceOver_LS0 F) (bodyOf Try.f6) := loopsOK_nil
theorem laws_FnExactChanceOver_run (F : Nat) (aB0 : List Int) (aDirection1 : Int) : runS tt (laws_FnExactChanceOver_tab F) (laws_FnExactChanceOver_LS0 F) [] [] Try.f6 (bodyOf Try.f6) 70 [(.ints 16 aB0), (.int .i64 aDirection1)] [] = laws_FnExactChanceOver_c _ F aB0 aDirection1 (fun r => some ⟨(.bool r), [], []⟩) := by kernel_rfl
def laws_FnExactChanceOver_ent (F : Nat) : Ent := ⟨[], .quiet, fun args mem => match args, mem with
  | [(.ints 16 aB0), (.int .i64 aDirection1)], [] => some ((laws_FnExactChanceOver_p F aB0 aDirection1).isSome, ⟨(.bool ((laws_FnExactChanceOver_p F aB0 aDirection1).getD default)), [], []⟩)
  | _, _ => none⟩
theorem laws_FnExactChanceOver_fok : FunOK Try.prog 6 := funOK Try.func6 (by kernel_rfl) rfl
theorem laws_FnExactChanceOver_meets (F : Nat) : Meets Try.prog 6 (laws_FnExactChanceOver_ent F) := by
  refine meets_of_runS mixed ttok deep (laws_FnExactChanceOver_tabok F) Try.func6 (body_some rfl) (laws_FnExactChanceOver_lsok0 F) fun args mem hfit ret h => ?_
  clear hfit
  simp only [laws_FnExactChanceOver_ent] at h
  split at h
  · rename_i aB0 aDirection1
    simp only [Option.some.injEq, Prod.mk.injEq] at h
    obtain ⟨hc, rfl⟩ := h
    exact ⟨[], [], 70, _, (laws_FnExactChanceOver_run F aB0 aDirection1).trans ((laws_FnExactChanceOver_cp _ F aB0 aDirection1 _).trans (bind_use hc _)), rfl, rfl, rfl⟩
  · cases h

/-! loop.example/g01194/spec.l5All -/
noncomputable def spec_l5All_tab (F : Nat) : Tab := [(35, (spec_l5Steps_ent F))]
theorem spec_l5All_tabok (F : Nat) : TabOK Try.prog (spec_l5All_tab F) := (tab_cons (spec_l5Steps_meets F) spec_l5Steps_fok tab_nil)
noncomputable def spec_l5All_LS0 (F : Nat) : LT := []
theorem spec_l5All_lsok0 (F : Nat) : LoopsOK Try.prog (spec_l5All_LS0 F) (bodyOf Try.f54) := loopsOK_nil
theorem spec_l5All_keys : keysOK (bodyOf Try.f54) = true := by kernel_rfl
def spec_l5All_st3 (b6 : List Int) (d5 : Int) (out7 : List (List Int)) : St := ⟨expand 16 0 [1, 3, 4] [(.ptr 0 0 0 16), (.sl 1 0 (List.length out7)), (.int .i64 d5)], [(.var 16 (.ri .i64 b6)), (.vec 75 (.rr 4 out7))], 0, []⟩
def spec_l5All_o3 (b6 : List Int) (x : List (List Int)) : GT := (.out (.exit 0 ⟨expand 16 0 [3] [(.sl 0 0 (List.length x))], [(.vec 75 (.rr 4 x))], 0, []⟩))
def spec_l5All_ls3 (F : Nat) : LoopS := ⟨16, [1, 3, 4], [], [3], [], [2], [], [], fun vals mem np killed => match vals, mem, np, killed with
  | [(.ptr 0 0 0 16), (.sl 1 0 q_out4), (.int .i64 d5)], [(.var 16 (.ri .i64 b6)), (.vec 75 (.rr 4 out7))], 0, [] => .br ((Nat.beq q_out4 (List.length out7)) && (spec_l5All_l3 F b6 d5 out7).isSome) (spec_l5All_o3 b6 ((spec_l5All_l3 F b6 d5 out7).getD default)) .fail
  | _, _, _, _ => .fail⟩
theorem spec_l5All_step3 (F : Nat) (b6 : List Int) (d5 : Int) (out7 : List (List Int)) {R : Type} (k : Out → Option R) : stepS tt (spec_l5All_tab F) (spec_l5All_LS0 F) 70 (spec_l5All_ls3 F) (loopAt 3 (bodyOf Try.f54)) (spec_l5All_st3 b6 d5 out7) k = spec_l5All_s3 F b6 R (d5, out7) (fun s => k (.norm (spec_l5All_st3 b6 s.1 s.2))) (fun x => (spec_l5All_o3 b6 x).run k) := by kernel_rfl
theorem spec_l5All_iter3 (F : Nat) (b6 : List Int) {R : Type} (k : Out → Option R) : ∀ (n : Nat) (d5 : Int) (out7 : List (List Int)), iterS tt (spec_l5All_tab F) (spec_l5All_LS0 F) 70 (spec_l5All_ls3 F) (loopAt 3 (bodyOf Try.f54)) n (spec_l5All_st3 b6 d5 out7) k = loopC (spec_l5All_s3 F b6) n (d5, out7) (fun x => (spec_l5All_o3 b6 x).run k)
  | 0, d5, out7 => rfl
  | n + 1, d5, out7 => (iterS_succ tt (spec_l5All_tab F) (spec_l5All_LS0 F) 70 (spec_l5All_ls3 F) (loopAt 3 (bodyOf Try.f54)) n (spec_l5All_st3 b6 d5 out7) k).trans ((spec_l5All_step3 F b6 d5 out7 (nextK (iterS tt (spec_l5All_tab F) (spec_l5All_LS0 F) 70 (spec_l5All_ls3 F) (loopAt 3 (bodyOf Try.f54)) n) k)).trans (congrArg (fun kn => spec_l5All_s3 F b6 R (d5, out7) kn _) (funext (fun ⟨d5, out7⟩ => spec_l5All_iter3 F b6 k n d5 out7))))
theorem spec_l5All_lok3 (F : Nat) : LoopOK Try.prog (loopAt 3 (bodyOf Try.f54)) (spec_l5All_ls3 F) := by
  refine loopOK_of mixed ttok deep (spec_l5All_tabok F) (loopsOK_at (spec_l5All_lsok0 F) 3) (fuel := 70) fun R vals mem np killed k x h => ?_
  simp only [spec_l5All_ls3] at h
  split at h
  · rename_i q_out4 d5 b6 out7
    simp only [GT.run] at h
    have hc := (cond_noneL h).1
    replace h := (cond_noneL h).2
    have hg := (and_split hc).1
    replace hc := (and_split hc).2
    obtain rfl := nbeq_nat hg
    refine ⟨F, (spec_l5All_iter3 F b6 k F d5 out7).trans ((loopC_use (spec_l5All_s3_nat F b6) hc _).trans h)⟩
  · simp only [GT.run] at h
    cases h
noncomputable def spec_l5All_LS1 (F : Nat) : LT := (3, spec_l5All_ls3 F) :: spec_l5All_LS0 F
theorem spec_l5All_lsok1 (F : Nat) : LoopsOK Try.prog (spec_l5All_LS1 F) (bodyOf Try.f54) := loopsOK_cons spec_l5All_keys (spec_l5All_lok3 F) (spec_l5All_lsok0 F)
theorem spec_l5All_run (F : Nat) (b0 : List Int) : runS tt (spec_l5All_tab F) (spec_l5All_LS1 F) [] [] Try.f54 (bodyOf Try.f54) 70 [(.ints 16 b0)] [] = spec_l5All_c _ F b0 (fun r => some ⟨(.sl 0 0 (List.length r)), [(.vec 75 (.rr 4 r))], []⟩) := by kernel_rfl
def spec_l5All_ent (F : Nat) : Ent := ⟨[], .fresh, fun args mem => match args, mem with
  | [(.ints 16 b0)], [] => some ((spec_l5All_p F b0).isSome, ⟨(.sl 0 0 (List.length ((spec_l5All_p F b0).getD default))), [(.vec 75 (.rr 4 ((spec_l5All_p F b0).getD default)))], []⟩)
  | _, _ => none⟩
theorem spec_l5All_fok : FunOK Try.prog 54 := funOK Try.func54 (by kernel_rfl) rfl
theorem spec_l5All_meets (F : Nat) : Meets Try.prog 54 (spec_l5All_ent F) := by
  refine meets_of_runS mixed ttok deep (spec_l5All_tabok F) Try.func54 (body_some rfl) (spec_l5All_lsok1 F) fun args mem hfit ret h => ?_
  clear hfit
  simp only [spec_l5All_ent] at h
  split at h
  · rename_i b0
    simp only [Option.some.injEq, Prod.mk.injEq] at h
    obtain ⟨hc, rfl⟩ := h
    exact ⟨[], [], 70, _, (spec_l5All_run F b0).trans ((spec_l5All_cp _ F b0 _).trans (bind_use hc _)), rfl, rfl, rfl⟩
  · cases h

/-! loop.example/g01194/spec.IsTrapped -/
noncomputable def spec_IsTrapped_tab (F : Nat) : Tab := [(34, (spec_l2Board_ent F)), (54, (spec_l5All_ent F)), (55, (spec_l5Do_ent F)), (52, (spec_l2Moves_ent F))]
theorem spec_IsTrapped_tabok (F : Nat) : TabOK Try.prog (spec_IsTrapped_tab F) := (tab_cons (spec_l2Board_meets F) spec_l2Board_fok (tab_cons (spec_l5All_meets F) spec_l5All_fok (tab_cons (spec_l5Do_meets F) spec_l5Do_fok (tab_cons (spec_l2Moves_meets F) spec_l2Moves_fok tab_nil))))
noncomputable def spec_IsTrapped_LS0 (F : Nat) : LT := []
theorem spec_IsTrapped_lsok0 (F : Nat) : LoopsOK Try.prog (spec_IsTrapped_LS0 F) (bodyOf Try.f21) := loopsOK_nil
theorem spec_IsTrapped_keys : keysOK (bodyOf Try.f21) = true := by kernel_rfl
def spec_IsTrapped_st5 (b6 : List Int) (all7 : List (List Int)) (i5 : Int) : St := ⟨expand 37 0 [1, 4, 5] [(.ptr 0 0 0 16), (.sl 1 0 (List.length all7)), (.int .i64 i5)], [(.var 16 (.ri .i64 b6)), (.vec 75 (.rr 4 all7))], 0, []⟩
def spec_IsTrapped_o5 (b6 : List Int) (all7 : List (List Int)) (x : Bool) : GT := (.br x (.out (.ret ⟨expand 37 0 [2, 3] [(.bool false), (.bool true)], [], 0, []⟩)) (.out (.exit 0 ⟨expand 37 0 [4] [(.sl 0 0 (List.length all7))], [(.vec 75 (.rr 4 all7))], 0, []⟩)))
def spec_IsTrapped_ls5 (F : Nat) : LoopS := ⟨37, [1, 4, 5], [], [4], [], [2, 3], [], [], fun vals mem np killed => match vals, mem, np, killed with
  | [(.ptr 0 0 0 16), (.sl 1 0 q_all4), (.int .i64 i5)], [(.var 16 (.ri .i64 b6)), (.vec 75 (.rr 4 all7))], 0, [] => .br ((Nat.beq q_all4 (List.length all7)) && (spec_IsTrapped_l5 F b6 all7 i5).isSome) (spec_IsTrapped_o5 b6 all7 ((spec_IsTrapped_l5 F b6 all7 i5).getD default)) .fail
  | _, _, _, _ => .fail⟩
theorem spec_IsTrapped_step5 (F : Nat) (b6 : List Int) (all7 : List (List Int)) (i5 : Int) {R : Type} (k : Out → Option R) : stepS tt (spec_IsTrapped_tab F) (spec_IsTrapped_LS0 F) 70 (spec_IsTrapped_ls5 F) (loopAt 5 (bodyOf Try.f21)) (spec_IsTrapped_st5 b6 all7 i5) k = spec_IsTrapped_s5 F b6 all7 R i5 (fun s => k (.norm (spec_IsTrapped_st5 b6 all7 s))) (fun x => (spec_IsTrapped_o5 b6 all7 x).run k) := by kernel_rfl
theorem spec_IsTrapped_iter5 (F : Nat) (b6 : List Int) (all7 : List (List Int)) {R : Type} (k : Out → Option R) : ∀ (n : Nat) (i5 : Int), iterS tt (spec_IsTrapped_tab F) (spec_IsTrapped_LS0 F) 70 (spec_IsTrapped_ls5 F) (loopAt 5 (bodyOf Try.f21)) n (spec_IsTrapped_st5 b6 all7 i5) k = loopC (spec_IsTrapped_s5 F b6 all7) n i5 (fun x => (spec_IsTrapped_o5 b6 all7 x).run k)
  | 0, i5 => rfl
  | n + 1, i5 => (iterS_succ tt (spec_IsTrapped_tab F) (spec_IsTrapped_LS0 F) 70 (spec_IsTrapped_ls5 F) (loopAt 5 (bodyOf Try.f21)) n (spec_IsTrapped_st5 b6 all7 i5) k).trans ((spec_IsTrapped_step5 F b6 all7 i5 (nextK (iterS tt (spec_IsTrapped_tab F) (spec_IsTrapped_LS0 F) 70 (spec_IsTrapped_ls5 F) (loopAt 5 (bodyOf Try.f21)) n) k)).trans (congrArg (fun kn => spec_IsTrapped_s5 F b6 all7 R i5 kn _) (funext (fun i5 => spec_IsTrapped_iter5 F b6 all7 k n i5))))
theorem spec_IsTrapped_lok5 (F : Nat) : LoopOK Try.prog (loopAt 5 (bodyOf Try.f21)) (spec_IsTrapped_ls5 F) := by
  refine loopOK_of mixed ttok deep (spec_IsTrapped_tabok F) (loopsOK_at (spec_IsTrapped_lsok0 F) 5) (fuel := 70) fun R vals mem np killed k x h => ?_
  simp only [spec_IsTrapped_ls5] at h
  split at h
  · rename_i q_all4 i5 b6 all7
    simp only [GT.run] at h
    have hc := (cond_noneL h).1
    replace h := (cond_noneL h).2
    have hg := (and_split hc).1
    replace hc := (and_split hc).2
    obtain rfl := nbeq_nat hg
    refine ⟨F, (spec_IsTrapped_iter5 F b6 all7 k F i5).trans ((loopC_use (spec_IsTrapped_s5_nat F b6 all7) hc _).trans h)⟩
  · simp only [GT.run] at h
    cases h
noncomputable def spec_IsTrapped_LS1 (F : Nat) : LT := (5, spec_IsTrapped_ls5 F) :: spec_IsTrapped_LS0 F
theorem spec_IsTrapped_lsok1 (F : Nat) : LoopsOK Try.prog (spec_IsTrapped_LS1 F) (bodyOf Try.f21) := loopsOK_cons spec_IsTrapped_keys (spec_IsTrapped_lok5 F) (spec_IsTrapped_lsok0 F)
theorem spec_IsTrapped_run (F : Nat) (b0 : List Int) : runS tt (spec_IsTrapped_tab F) (spec_IsTrapped_LS1 F) [] [] Try.f21 (bodyOf Try.f21) 70 [(.ints 16 b0)] [] = spec_IsTrapped_c _ F b0 (fun r => some ⟨(.tup [(.bool r.1), (.bool r.2)]), [], []⟩) := by kernel_rfl
def spec_IsTrapped_ent (F : Nat) : Ent := ⟨[], .quiet, fun args mem => match args, mem with
  | [(.ints 16 b0)], [] => some ((spec_IsTrapped_p F b0).isSome, ⟨(.tup [(.bool ((spec_IsTrapped_p F b0).getD default).1), (.bool ((spec_IsTrapped_p F b0).getD default).2)]), [], []⟩)
  | _, _ => none⟩
theorem spec_IsTrapped_fok : FunOK Try.prog 21 := funOK Try.func21 (by kernel_rfl) rfl
theorem spec_IsTrapped_meets (F : Nat) : Meets Try.prog 21 (spec_IsTrapped_ent F) := by
  refine meets_of_runS mixed ttok deep (spec_IsTrapped_tabok F) Try.func21 (body_some rfl) (spec_IsTrapped_lsok1 F) fun args mem hfit ret h => ?_
  clear hfit
  simp only [spec_IsTrapped_ent] at h
  split at h
  · rename_i b0
    simp only [Option.some.injEq, Prod.mk.injEq] at h
    obtain ⟨hc, rfl⟩ := h
    exact ⟨[], [], 70, _, (spec_IsTrapped_run F b0).trans ((spec_IsTrapped_cp _ F b0 _).trans (bind_use hc _)), rfl, rfl, rfl⟩
  · cases h

/-! (loop.example/g01194/impl.Board).steps -/
noncomputable def impl_Board_steps_tab (F : Nat) : Tab := [(76, (impl_Board_slides_ent F)), (100, (impl_Board_empty_ent F))]
theorem impl_Board_steps_tabok (F : Nat) : TabOK Try.prog (impl_Board_steps_tab F) := (tab_cons (impl_Board_slides_meets F) impl_Board_slides_fok (tab_cons (impl_Board_empty_meets F) impl_Board_empty_fok tab_nil))
noncomputable def impl_Board_steps_LS0 (F : Nat) : LT := []
theorem impl_Board_steps_lsok0 (F : Nat) : LoopsOK Try.prog (impl_Board_steps_LS0 F) (bodyOf Try.f85) := loopsOK_nil
theorem impl_Board_steps_keys : keysOK (bodyOf Try.f85) = true := by kernel_rfl
def impl_Board_steps_st5 (direction0 : Int) (t194 : Nat) (t205 : Int) (t198 : List (List Int)) (t216 : Int) (out7 : List (List Int)) : St := ⟨expand 36 0 [1, 5, 19, 20, 21] [(.int .i64 direction0), (.sl 0 0 (List.length out7)), (.sl 1 0 t194), (.int .i64 t205), (.int .i64 t216)], [(.vec 75 (.rr 4 out7)), (.vec 26 (.rr 2 t198))], 0, []⟩
def impl_Board_steps_o5 (direction0 : Int) (t194 : Nat) (t205 : Int) (t198 : List (List Int)) (x : List (List Int)) : GT := (.out (.exit 0 ⟨expand 36 0 [5] [(.sl 0 0 (List.length x))], [(.vec 75 (.rr 4 x))], 0, []⟩))
def impl_Board_steps_ls5 (F : Nat) : LoopS := ⟨36, [1, 5, 19, 20, 21], [], [5], [], [4], [], [], fun vals mem np killed => match vals, mem, np, killed with
  | [(.int .i64 direction0), (.sl 0 0 q_out2), (.sl 1 0 t194), (.int .i64 t205), (.int .i64 t216)], [(.vec 75 (.rr 4 out7)), (.vec 26 (.rr 2 t198))], 0, [] => .br ((Nat.beq q_out2 (List.length out7)) && (impl_Board_steps_l5 F direction0 t194 t205 t198 t216 out7).isSome) (impl_Board_steps_o5 direction0 t194 t205 t198 ((impl_Board_steps_l5 F direction0 t194 t205 t198 t216 out7).getD default)) .fail
  | _, _, _, _ => .fail⟩
theorem impl_Board_steps_step5 (F : Nat) (direction0 : Int) (t194 : Nat) (t205 : Int) (t198 : List (List Int)) (t216 : Int) (out7 : List (List Int)) {R : Type} (k : Out → Option R) : stepS tt (impl_Board_steps_tab F) (impl_Board_steps_LS0 F) 70 (impl_Board_steps_ls5 F) (loopAt 5 (bodyOf Try.f85)) (impl_Board_steps_st5 direction0 t194 t205 t198 t216 out7) k = impl_Board_steps_s5 F direction0 t194 t205 t198 R (t216, out7) (fun s => k (.norm (impl_Board_steps_st5 direction0 t194 t205 t198 s.1 s.2))) (fun x => (impl_Board_steps_o5 direction0 t194 t205 t198 x).run k) := by kernel_rfl
theorem impl_Board_steps_iter5 (F : Nat) (direction0 : Int) (t194 : Nat) (t205 : Int) (t198 : List (List Int)) {R : Type} (k : Out → Option R) : ∀ (n : Nat) (t216 : Int) (out7 : List (List Int)), iterS tt (impl_Board_steps_tab F) (impl_Board_steps_LS0 F) 70 (impl_Board_steps_ls5 F) (loopAt 5 (bodyOf Try.f85)) n (impl_Board_steps_st5 direction0 t194 t205 t198 t216 out7) k = loopC (impl_Board_steps_s5 F direction0 t194 t205 t198) n (t216, out7) (fun x => (impl_Board_steps_o5 direction0 t194 t205 t198 x).run k)
  | 0, t216, out7 => rfl
  | n + 1, t216, out7 => (iterS_succ tt (impl_Board_steps_tab F) (impl_Board_steps_LS0 F) 70 (impl_Board_steps_ls5 F) (loopAt 5 (bodyOf Try.f85)) n (impl_Board_steps_st5 direction0 t194 t205 t198 t216 out7) k).trans ((impl_Board_steps_step5 F direction0 t194 t205 t198 t216 out7 (nextK (iterS tt (impl_Board_steps_tab F) (impl_Board_steps_LS0 F) 70 (impl_Board_steps_ls5 F) (loopAt 5 (bodyOf Try.f85)) n) k)).trans (congrArg (fun kn => impl_Board_steps_s5 F direction0 t194 t205 t198 R (t216, out7) kn _) (funext (fun ⟨t216, out7⟩ => impl_Board_steps_iter5 F direction0 t194 t205 t198 k n t216 out7))))
theorem impl_Board_steps_lok5 (F : Nat) : LoopOK Try.prog (loopAt 5 (bodyOf Try.f85)) (impl_Board_steps_ls5 F) := by
  refine loopOK_of mixed ttok deep (impl_Board_steps_tabok F) (loopsOK_at (impl_Board_steps_lsok0 F) 5) (fuel := 70) fun R vals mem np killed k x h => ?_
  simp only [impl_Board_steps_ls5] at h
  split at h
  · rename_i direction0 q_out2 t194 t205 t216 out7 t198
    simp only [GT.run] at h
    have hc := (cond_noneL h).1
    replace h := (cond_noneL h).2
    have hg := (and_split hc).1
    replace hc := (and_split hc).2
    obtain rfl := nbeq_nat hg
    refine ⟨F, (impl_Board_steps_iter5 F direction0 t194 t205 t198 k F t216 out7).trans ((loopC_use (impl_Board_steps_s5_nat F direction0 t194 t205 t198) hc _).trans h)⟩
  · simp only [GT.run] at h
    cases h
noncomputable def impl_Board_steps_LS1 (F : Nat) : LT := (5, impl_Board_steps_ls5 F) :: impl_Board_steps_LS0 F
theorem impl_Board_steps_lsok1 (F : Nat) : LoopsOK Try.prog (impl_Board_steps_LS1 F) (bodyOf Try.f85) := loopsOK_cons impl_Board_steps_keys (impl_Board_steps_lok5 F) (impl_Board_steps_lsok0 F)
theorem impl_Board_steps_run (F : Nat) (b0 : List Int) (direction1 : Int) : runS tt (impl_Board_steps_tab F) (impl_Board_steps_LS1 F) [] [] Try.f85 (bodyOf Try.f85) 70 [(.ints 16 b0), (.int .i64 direction1)] [] = impl_Board_steps_c _ F b0 direction1 (fun r => some ⟨(.sl 0 0 (List.length r)), [(.vec 75 (.rr 4 r))], []⟩) := by kernel_rfl
def impl_Board_steps_ent (F : Nat) : Ent := ⟨[], .fresh, fun args mem => match args, mem with
  | [(.ints 16 b0), (.int .i64 direction1)], [] => some ((impl_Board_steps_p F b0 direction1).isSome, ⟨(.sl 0 0 (List.length ((impl_Board_steps_p F b0 direction1).getD default))), [(.vec 75 (.rr 4 ((impl_Board_steps_p F b0 direction1).getD default)))], []⟩)
  | _, _ => none⟩
theorem impl_Board_steps_fok : FunOK Try.prog 85 := funOK Try.func85 (by kernel_rfl) rfl
theorem impl_Board_steps_meets (F : Nat) : Meets Try.prog 85 (impl_Board_steps_ent F) := by
  refine meets_of_runS mixed ttok deep (impl_Board_steps_tabok F) Try.func85 (body_some rfl) (impl_Board_steps_lsok1 F) fun args mem hfit ret h => ?_
  clear hfit
  simp only [impl_Board_steps_ent] at h
  split at h
  · rename_i b0 direction1
    simp only [Option.some.injEq, Prod.mk.injEq] at h
    obtain ⟨hc, rfl⟩ := h
    exact ⟨[], [], 70, _, (impl_Board_steps_run F b0 direction1).trans ((impl_Board_steps_cp _ F b0 direction1 _).trans (bind_use hc _)), rfl, rfl, rfl⟩
  · cases h

/-! slices.Grow[[]loop.example/g01194/impl.Step,loop.example/g01194/impl.Step] -/
noncomputable def slices_Grow_implStepimplStep_tab (F : Nat) : Tab := []
theorem slices_Grow_implStepimplStep_tabok (F : Nat) : TabOK Try.prog (slices_Grow_implStepimplStep_tab F) := tab_nil
noncomputable def slices_Grow_implStepimplStep_LS0 (F : Nat) : LT := []
theorem slices_Grow_implStepimplStep_lsok0 (F : Nat) : LoopsOK Try.prog (slices_Grow_implStepimplStep_LS0 F) (bodyOf Try.f105) := loopsOK_nil
theorem slices_Grow_implStepimplStep_run (F : Nat) (n0 : Int) : runS tt (slices_Grow_implStepimplStep_tab F) (slices_Grow_implStepimplStep_LS0 F) [⟨4, 75, (.rr 4 ([] : List (List Int)))⟩] [] Try.f105 (bodyOf Try.f105) 70 [.z0, (.int .i64 n0)] [] = slices_Grow_implStepimplStep_c _ n0 (fun r => some ⟨(.sl 0 0 0), [(.vec 75 (.rr 4 r))], []⟩) := by kernel_rfl
def slices_Grow_implStepimplStep_ent (F : Nat) : Ent := ⟨[true], .fresh, fun args mem => match args, mem with
  | [.z0, (.int .i64 n0)], [] => some ((slices_Grow_implStepimplStep_p n0).isSome, ⟨(.sl 0 0 0), [(.vec 75 (.rr 4 ((slices_Grow_implStepimplStep_p n0).getD default)))], []⟩)
  | _, _ => none⟩
theorem slices_Grow_implStepimplStep_fok : FunOK Try.prog 105 := funOK Try.func105 (by kernel_rfl) rfl
theorem slices_Grow_implStepimplStep_meets (F : Nat) : Meets Try.prog 105 (slices_Grow_implStepimplStep_ent F) := by
  refine meets_of_runS mixed ttok deep (slices_Grow_implStepimplStep_tabok F) Try.func105 (body_some rfl) (slices_Grow_implStepimplStep_lsok0 F) fun args mem hfit ret h => ?_
  clear hfit
  simp only [slices_Grow_implStepimplStep_ent] at h
  split at h
  · rename_i n0
    simp only [Option.some.injEq, Prod.mk.injEq] at h
    obtain ⟨hc, rfl⟩ := h
    exact ⟨[⟨4, 75, (.rr 4 ([] : List (List Int)))⟩], [], 70, _, (slices_Grow_implStepimplStep_run F n0).trans ((slices_Grow_implStepimplStep_cp _ n0 _).trans (bind_use hc _)), rfl, rfl, rfl⟩
  · cases h

/-! slices.Concat[[]loop.example/g01194/impl.Step,loop.example/g01194/impl.Step] -/
noncomputable def slices_Concat_implStepimplStep_tab (F : Nat) : Tab := [(105, (slices_Grow_implStepimplStep_ent F))]
theorem slices_Concat_implStepimplStep_tabok (F : Nat) : TabOK Try.prog (slices_Concat_implStepimplStep_tab F) := (tab_cons (slices_Grow_implStepimplStep_meets F) slices_Grow_implStepimplStep_fok tab_nil)
noncomputable def slices_Concat_implStepimplStep_LS0 (F : Nat) : LT := []
theorem slices_Concat_implStepimplStep_lsok0 (F : Nat) : LoopsOK Try.prog (slices_Concat_implStepimplStep_LS0 F) (bodyOf Try.f84) := loopsOK_nil
theorem slices_Concat_implStepimplStep_run (F : Nat) (slices0 : List (List Int)) (slices1 : List (List Int)) (slices2 : List (List Int)) (slices3 : List (List Int)) : runS tt (slices_Concat_implStepimplStep_tab F) (slices_Concat_implStepimplStep_LS0 F) [] [] Try.f84 (bodyOf Try.f84) 70 [(.rv [(.rr 4 slices0), (.rr 4 slices1), (.rr 4 slices2), (.rr 4 slices3)])] [] = slices_Concat_implStepimplStep_c _ slices0 slices1 slices2 slices3 (fun r => some ⟨(.sl 0 0 (List.length r)), [(.vec 75 (.rr 4 r))], []⟩) := by kernel_rfl
def slices_Concat_implStepimplStep_ent (F : Nat) : Ent := ⟨[], .fresh, fun args mem => match args, mem with
  | [(.rv [(.rr 4 slices0), (.rr 4 slices1), (.rr 4 slices2), (.rr 4 slices3)])], [] => some ((slices_Concat_implStepimplStep_p slices0 slices1 slices2 slices3).isSome, ⟨(.sl 0 0 (List.length ((slices_Concat_implStepimplStep_p slices0 slices1 slices2 slices3).getD default))), [(.vec 75 (.rr 4 ((slices_Concat_implStepimplStep_p slices0 slices1 slices2 slices3).getD default)))], []⟩)
  | _, _ => none⟩
theorem slices_Concat_implStepimplStep_fok : FunOK Try.prog 84 := funOK Try.func84 (by kernel_rfl) rfl
theorem slices_Concat_implStepimplStep_meets (F : Nat) : Meets Try.prog 84 (slices_Concat_implStepimplStep_ent F) := by
  refine meets_of_runS mixed ttok deep (slices_Concat_implStepimplStep_tabok F) Try.func84 (body_some rfl) (slices_Concat_implStepimplStep_lsok0 F) fun args mem hfit ret h => ?_
  clear hfit
  simp only [slices_Concat_implStepimplStep_ent] at h
  split at h
  · rename_i slices0 slices1 slices2 slices3
    simp only [Option.some.injEq, Prod.mk.injEq] at h
    obtain ⟨hc, rfl⟩ := h
    exact ⟨[], [], 70, _, (slices_Concat_implStepimplStep_run F slices0 slices1 slices2 slices3).trans ((slices_Concat_implStepimplStep_cp _ slices0 slices1 slices2 slices3 _).trans (bind_use hc _)), rfl, rfl, rfl⟩
  · cases h

/-! (loop.example/g01194/impl.Board).allSteps -/
noncomputable def impl_Board_allSteps_tab (F : Nat) : Tab := [(85, (impl_Board_steps_ent F)), (84, (slices_Concat_implStepimplStep_ent F))]
theorem impl_Board_allSteps_tabok (F : Nat) : TabOK Try.prog (impl_Board_allSteps_tab F) := (tab_cons (impl_Board_steps_meets F) impl_Board_steps_fok (tab_cons (slices_Concat_implStepimplStep_meets F) slices_Concat_implStepimplStep_fok tab_nil))
noncomputable def impl_Board_allSteps_LS0 (F : Nat) : LT := []
theorem impl_Board_allSteps_lsok0 (F : Nat) : LoopsOK Try.prog (impl_Board_allSteps_LS0 F) (bodyOf Try.f57) := loopsOK_nil
theorem impl_Board_allSteps_run (F : Nat) (b0 : List Int) : runS tt (impl_Board_allSteps_tab F) (impl_Board_allSteps_LS0 F) [] [] Try.f57 (bodyOf Try.f57) 70 [(.ints 16 b0)] [] = impl_Board_allSteps_c _ F b0 (fun r => some ⟨(.sl 0 0 (List.length r)), [(.vec 75 (.rr 4 r))], []⟩) := by kernel_rfl
def impl_Board_allSteps_ent (F : Nat) : Ent := ⟨[], .fresh, fun args mem => match args, mem with
  | [(.ints 16 b0)], [] => some ((impl_Board_allSteps_p F b0).isSome, ⟨(.sl 0 0 (List.length ((impl_Board_allSteps_p F b0).getD default))), [(.vec 75 (.rr 4 ((impl_Board_allSteps_p F b0).getD default)))], []⟩)
  | _, _ => none⟩
theorem impl_Board_allSteps_fok : FunOK Try.prog 57 := funOK Try.func57 (by kernel_rfl) rfl
theorem impl_Board_allSteps_meets (F : Nat) : Meets Try.prog 57 (impl_Board_allSteps_ent F) := by
  refine meets_of_runS mixed ttok deep (impl_Board_allSteps_tabok F) Try.func57 (body_some rfl) (impl_Board_allSteps_lsok0 F) fun args mem hfit ret h => ?_
  clear hfit
  simp only [impl_Board_allSteps_ent] at h
  split at h
  · rename_i b0
    simp only [Option.some.injEq, Prod.mk.injEq] at h
    obtain ⟨hc, rfl⟩ := h
    exact ⟨[], [], 70, _, (impl_Board_allSteps_run F b0).trans ((impl_Board_allSteps_cp _ F b0 _).trans (bind_use hc _)), rfl, rfl, rfl⟩
  · cases h

/-! (loop.example/g01194/impl.Board).behind -/
noncomputable def impl_Board_behind_tab (F : Nat) : Tab := [(80, (impl_Board_slide_ent F)), (49, (impl_Board_at_ent F))]
theorem impl_Board_behind_tabok (F : Nat) : TabOK Try.prog (impl_Board_behind_tab F) := (tab_cons (impl_Board_slide_meets F) impl_Board_slide_fok (tab_cons (impl_Board_at_meets F) impl_Board_at_fok tab_nil))
noncomputable def impl_Board_behind_LS0 (F : Nat) : LT := []
theorem impl_Board_behind_lsok0 (F : Nat) : LoopsOK Try.prog (impl_Board_behind_LS0 F) (bodyOf Try.f59) := loopsOK_nil
theorem impl_Board_behind_run (F : Nat) (b0 : List Int) (s1 : List Int) : runS tt (impl_Board_behind_tab F) (impl_Board_behind_LS0 F) [] [] Try.f59 (bodyOf Try.f59) 70 [(.ints 16 b0), (.ints 4 s1)] [] = impl_Board_behind_c _ F b0 s1 (fun r => some ⟨(.tup [(.ints 16 r.1), (.int .i64 r.2)]), [], []⟩) := by kernel_rfl
def impl_Board_behind_ent (F : Nat) : Ent := ⟨[], .quiet, fun args mem => match args, mem with
  | [(.ints 16 b0), (.ints 4 s1)], [] => some ((impl_Board_behind_p F b0 s1).isSome, ⟨(.tup [(.ints 16 ((impl_Board_behind_p F b0 s1).getD default).1), (.int .i64 ((impl_Board_behind_p F b0 s1).getD default).2)]), [], []⟩)
  | _, _ => none⟩
theorem impl_Board_behind_fok : FunOK Try.prog 59 := funOK Try.func59 (by kernel_rfl) rfl
theorem impl_Board_behind_meets (F : Nat) : Meets Try.prog 59 (impl_Board_behind_ent F) := by
  refine meets_of_runS mixed ttok deep (impl_Board_behind_tabok F) Try.func59 (body_some rfl) (impl_Board_behind_lsok0 F) fun args mem hfit ret h => ?_
  clear hfit
  simp only [impl_Board_behind_ent] at h
  split at h
  · rename_i b0 s1
    simp only [Option.some.injEq, Prod.mk.injEq] at h
    obtain ⟨hc, rfl⟩ := h
    exact ⟨[], [], 70, _, (impl_Board_behind_run F b0 s1).trans ((impl_Board_behind_cp _ F b0 s1 _).trans (bind_use hc _)), rfl, rfl, rfl⟩
  · cases h

/-! loop.example/g01194/impl.IsTrapped$1 -/
noncomputable def impl_IsTrapped_f1_tab (F : Nat) : Tab := [(59, (impl_Board_behind_ent F)), (53, (impl_Board_isOver_ent F))]
theorem impl_IsTrapped_f1_tabok (F : Nat) : TabOK Try.prog (impl_IsTrapped_f1_tab F) := (tab_cons (impl_Board_behind_meets F) impl_Board_behind_fok (tab_cons (impl_Board_isOver_meets F) impl_Board_isOver_fok tab_nil))
noncomputable def impl_IsTrapped_f1_LS0 (F : Nat) : LT := []
theorem impl_IsTrapped_f1_lsok0 (F : Nat) : LoopsOK Try.prog (impl_IsTrapped_f1_LS0 F) (bodyOf Try.f58) := loopsOK_nil
theorem impl_IsTrapped_f1_run (F : Nat) (s0 : List Int) (a14 : List Int) : runS tt (impl_IsTrapped_f1_tab F) (impl_IsTrapped_f1_LS0 F) [] [] Try.f58 (bodyOf Try.f58) 70 [(.ints 4 s0), (.ptr 0 0 0 16)] [(.var 16 (.ri .i64 a14))] = impl_IsTrapped_f1_c _ F s0 a14 (fun r => some ⟨(.bool r), [(.var 16 (.ri .i64 a14))], []⟩) := by kernel_rfl
def impl_IsTrapped_f1_ent (F : Nat) : Ent := ⟨[], .quiet, fun args mem => match args, mem with
  | [(.ints 4 s0), (.ptr 0 0 0 16)], [(.var 16 (.ri .i64 a14))] => some ((impl_IsTrapped_f1_p F s0 a14).isSome, ⟨(.bool ((impl_IsTrapped_f1_p F s0 a14).getD default)), [], []⟩)
  | _, _ => none⟩
theorem impl_IsTrapped_f1_fok : FunOK Try.prog 58 := funOK Try.func58 (by kernel_rfl) rfl
theorem impl_IsTrapped_f1_meets (F : Nat) : Meets Try.prog 58 (impl_IsTrapped_f1_ent F) := by
  refine meets_of_runS mixed ttok deep (impl_IsTrapped_f1_tabok F) Try.func58 (body_some rfl) (impl_IsTrapped_f1_lsok0 F) fun args mem hfit ret h => ?_
  clear hfit
  simp only [impl_IsTrapped_f1_ent] at h
  split at h
  · rename_i s0 a14
    simp only [Option.some.injEq, Prod.mk.injEq] at h
    obtain ⟨hc, rfl⟩ := h
    exact ⟨[], [], 70, _, (impl_IsTrapped_f1_run F s0 a14).trans ((impl_IsTrapped_f1_cp _ F s0 a14 _).trans (bind_use hc _)), rfl, rfl, rfl⟩
  · cases h
end Go.Proofs.Ytgpadaadcepgaaa
