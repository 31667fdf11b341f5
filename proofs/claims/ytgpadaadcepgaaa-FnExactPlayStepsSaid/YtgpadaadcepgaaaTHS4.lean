/-
Pure functions and what the code of them does, by program; without conditions.
-/
import Derived.Test.YtgpadaadcepgaaaTHP4
import Derived.Test.YtgpadaadcepgaaaTHS3
namespace Go.Proofs.Ytgpadaadcepgaaa
open Go Go.Lv Go.Lv.P Go.Proofs
set_option linter.unusedVariables false
set_option linter.unusedSimpArgs false
set_option maxRecDepth 100000
/-! loop.example/g01194/impl.ChanceOfTile$1 -/
noncomputable def impl_ChanceOfTile_f1_tab (F : Nat) : Tab := [(49, (impl_Board_at_ent F))]
theorem impl_ChanceOfTile_f1_tabok (F : Nat) : TabOK Try.prog (impl_ChanceOfTile_f1_tab F) := (tab_cons (impl_Board_at_meets F) impl_Board_at_fok tab_nil)
noncomputable def impl_ChanceOfTile_f1_LS0 (F : Nat) : LT := []
theorem impl_ChanceOfTile_f1_lsok0 (F : Nat) : LoopsOK Try.prog (impl_ChanceOfTile_f1_LS0 F) (bodyOf Try.f48) := loopsOK_nil
theorem impl_ChanceOfTile_f1_run (F : Nat) (own0 : List Int) (a17 : List Int) (a28 : List Int) : runS tt (impl_ChanceOfTile_f1_tab F) (impl_ChanceOfTile_f1_LS0 F) [] [] Try.f48 (bodyOf Try.f48) 70 [(.ints 16 own0), (.ptr 0 0 0 2), (.ptr 1 0 0 1)] [(.var 2 (.ri .i64 a17)), (.var 1 (.ri .i64 a28))] = impl_ChanceOfTile_f1_c _ own0 a17 a28 (fun r => some ⟨(.bool r), [(.var 2 (.ri .i64 a17)), (.var 1 (.ri .i64 a28))], []⟩) := by kernel_rfl
def impl_ChanceOfTile_f1_ent (F : Nat) : Ent := ⟨[], .quiet, fun args mem => match args, mem with
  | [(.ints 16 own0), (.ptr 0 0 0 2), (.ptr 1 0 0 1)], [(.var 2 (.ri .i64 a17)), (.var 1 (.ri .i64 a28))] => some ((impl_ChanceOfTile_f1_p own0 a17 a28).isSome, ⟨(.bool ((impl_ChanceOfTile_f1_p own0 a17 a28).getD default)), [], []⟩)
  | _, _ => none⟩
theorem impl_ChanceOfTile_f1_fok : FunOK Try.prog 48 := funOK Try.func48 (by kernel_rfl) rfl
theorem impl_ChanceOfTile_f1_meets (F : Nat) : Meets Try.prog 48 (impl_ChanceOfTile_f1_ent F) := by
  refine meets_of_runS mixed ttok deep (impl_ChanceOfTile_f1_tabok F) Try.func48 (body_some rfl) (impl_ChanceOfTile_f1_lsok0 F) fun args mem hfit ret h => ?_
  clear hfit
  simp only [impl_ChanceOfTile_f1_ent] at h
  split at h
  · rename_i own0 a17 a28
    simp only [Option.some.injEq, Prod.mk.injEq] at h
    obtain ⟨hc, rfl⟩ := h
    exact ⟨[], [], 70, _, (impl_ChanceOfTile_f1_run F own0 a17 a28).trans ((impl_ChanceOfTile_f1_cp _ own0 a17 a28 _).trans (bind_use hc _)), rfl, rfl, rfl⟩
  · cases h

/-! (loop.example/g01194/impl.Board).chance$1 -/
noncomputable def impl_Board_chance_f1_2_tab (F : Nat) : Tab := [(48, (impl_ChanceOfTile_f1_ent F)), (79, (impl_flag_ent F))]
theorem impl_Board_chance_f1_2_tabok (F : Nat) : TabOK Try.prog (impl_Board_chance_f1_2_tab F) := (tab_cons (impl_ChanceOfTile_f1_meets F) impl_ChanceOfTile_f1_fok (tab_cons (impl_flag_meets F) impl_flag_fok tab_nil))
noncomputable def impl_Board_chance_f1_2_LS0 (F : Nat) : LT := []
theorem impl_Board_chance_f1_2_lsok0 (F : Nat) : LoopsOK Try.prog (impl_Board_chance_f1_2_LS0 F) (bodyOf Try.f78) := loopsOK_nil
theorem impl_Board_chance_f1_2_run (F : Nat) (own0 : List Int) (m110 : List Int) (m211 : List Int) : runS tt (impl_Board_chance_f1_2_tab F) (impl_Board_chance_f1_2_LS0 F) [] [] Try.f78 (bodyOf Try.f78) 70 [(.ints 16 own0), (.ptr 0 0 0 1)] [(.var 1 (.rv [(.fn 48 [] [(.ptr 1 0 0 2), (.ptr 2 0 0 1)])])), (.var 2 (.ri .i64 m110)), (.var 1 (.ri .i64 m211))] = impl_Board_chance_f1_2_c _ own0 m110 m211 (fun r => some ⟨(.ints 2 r), [(.var 1 (.rv [(.fn 48 [] [(.ptr 1 0 0 2), (.ptr 2 0 0 1)])])), (.var 2 (.ri .i64 m110)), (.var 1 (.ri .i64 m211))], []⟩) := by kernel_rfl
def impl_Board_chance_f1_2_ent (F : Nat) : Ent := ⟨[], .quiet, fun args mem => match args, mem with
  | [(.ints 16 own0), (.ptr 0 0 0 1)], [(.var 1 (.rv [(.fn 48 [] [(.ptr 1 0 0 2), (.ptr 2 0 0 1)])])), (.var 2 (.ri .i64 m110)), (.var 1 (.ri .i64 m211))] => some ((impl_Board_chance_f1_2_p own0 m110 m211).isSome, ⟨(.ints 2 ((impl_Board_chance_f1_2_p own0 m110 m211).getD default)), [], []⟩)
  | _, _ => none⟩
theorem impl_Board_chance_f1_2_fok : FunOK Try.prog 78 := funOK Try.func78 (by kernel_rfl) rfl
theorem impl_Board_chance_f1_2_meets (F : Nat) : Meets Try.prog 78 (impl_Board_chance_f1_2_ent F) := by
  refine meets_of_runS mixed ttok deep (impl_Board_chance_f1_2_tabok F) Try.func78 (body_some rfl) (impl_Board_chance_f1_2_lsok0 F) fun args mem hfit ret h => ?_
  clear hfit
  simp only [impl_Board_chance_f1_2_ent] at h
  split at h
  · rename_i own0 m110 m211
    simp only [Option.some.injEq, Prod.mk.injEq] at h
    obtain ⟨hc, rfl⟩ := h
    exact ⟨[], [], 70, _, (impl_Board_chance_f1_2_run F own0 m110 m211).trans ((impl_Board_chance_f1_2_cp _ own0 m110 m211 _).trans (bind_use hc _)), rfl, rfl, rfl⟩
  · cases h

/-! (loop.example/g01194/impl.Board).mean -/
noncomputable def impl_Board_mean_impl_Board_chance_f1_2_tab (F : Nat) : Tab := [(96, (impl_Board_placements_ent F)), (97, (impl_Board_placed_ent F)), (78, (impl_Board_chance_f1_2_ent F)), (99, (impl_fraction_ent F)), (98, (impl_plus_ent F)), (100, (impl_Board_empty_ent F))]
theorem impl_Board_mean_impl_Board_chance_f1_2_tabok (F : Nat) : TabOK Try.prog (impl_Board_mean_impl_Board_chance_f1_2_tab F) := (tab_cons (impl_Board_placements_meets F) impl_Board_placements_fok (tab_cons (impl_Board_placed_meets F) impl_Board_placed_fok (tab_cons (impl_Board_chance_f1_2_meets F) impl_Board_chance_f1_2_fok (tab_cons (impl_fraction_meets F) impl_fraction_fok (tab_cons (impl_plus_meets F) impl_plus_fok (tab_cons (impl_Board_empty_meets F) impl_Board_empty_fok tab_nil))))))
noncomputable def impl_Board_mean_impl_Board_chance_f1_2_LS0 (F : Nat) : LT := []
theorem impl_Board_mean_impl_Board_chance_f1_2_lsok0 (F : Nat) : LoopsOK Try.prog (impl_Board_mean_impl_Board_chance_f1_2_LS0 F) (bodyOf Try.f77) := loopsOK_nil
theorem impl_Board_mean_impl_Board_chance_f1_2_keys : keysOK (bodyOf Try.f77) = true := by kernel_rfl
def impl_Board_mean_impl_Board_chance_f1_2_st3 (t1314 : Int) (m122 : List Int) (m223 : List Int) (b24 : List Int) (t1227 : List (List Int)) (t1415 : Int) (sum26 : List Int) : St := ⟨expand 46 0 [1, 2, 4, 5, 12, 13, 14] [(.fn 78 [] [(.ptr 0 0 0 1)]), (.ptr 3 0 0 16), (.ptr 4 0 0 2), (.ptr 5 0 0 2), (.sl 6 0 (List.length t1227)), (.int .i64 t1314), (.int .i64 t1415)], [(.var 1 (.rv [(.fn 48 [] [(.ptr 1 0 0 2), (.ptr 2 0 0 1)])])), (.var 2 (.ri .i64 m122)), (.var 1 (.ri .i64 m223)), (.var 16 (.ri .i64 b24)), (.var 2 (.ri .i64 [(0 : Int), (0 : Int)])), (.var 2 (.ri .i64 sum26)), (.vec 120 (.rr 3 t1227))], 3, []⟩
def impl_Board_mean_impl_Board_chance_f1_2_o3 (t1314 : Int) (m122 : List Int) (m223 : List Int) (b24 : List Int) (t1227 : List (List Int)) (x : List Int) : GT := (.out (.exit 0 ⟨expand 46 0 [2, 4, 5] [(.ptr 3 0 0 16), (.ptr 4 0 0 2), (.ptr 5 0 0 2)], [(.var 1 (.rv [(.fn 48 [] [(.ptr 1 0 0 2), (.ptr 2 0 0 1)])])), (.var 2 (.ri .i64 m122)), (.var 1 (.ri .i64 m223)), (.var 16 (.ri .i64 b24)), (.var 2 (.ri .i64 [(0 : Int), (0 : Int)])), (.var 2 (.ri .i64 x))], 3, []⟩))
def impl_Board_mean_impl_Board_chance_f1_2_ls3 (F : Nat) : LoopS := ⟨46, [1, 2, 4, 5, 12, 13, 14], [], [2, 4, 5], [], [4], [], [], fun vals mem np killed => match vals, mem, np, killed with
  | [(.fn 78 [] [(.ptr 0 0 0 1)]), (.ptr 3 0 0 16), (.ptr 4 0 0 2), (.ptr 5 0 0 2), (.sl 6 0 q_t1213), (.int .i64 t1314), (.int .i64 t1415)], [(.var 1 (.rv [(.fn 48 [] [(.ptr 1 0 0 2), (.ptr 2 0 0 1)])])), (.var 2 (.ri .i64 m122)), (.var 1 (.ri .i64 m223)), (.var 16 (.ri .i64 b24)), (.var 2 (.ri .i64 q_t425)), (.var 2 (.ri .i64 sum26)), (.vec 120 (.rr 3 t1227))], 3, [] => .br ((q_t425 == ([(0 : Int), (0 : Int)] : List Int)) && ((Nat.beq q_t1213 (List.length t1227)) && (impl_Board_mean_impl_Board_chance_f1_2_l3 F t1314 m122 m223 b24 t1227 t1415 sum26).isSome)) (impl_Board_mean_impl_Board_chance_f1_2_o3 t1314 m122 m223 b24 t1227 ((impl_Board_mean_impl_Board_chance_f1_2_l3 F t1314 m122 m223 b24 t1227 t1415 sum26).getD default)) .fail
  | _, _, _, _ => .fail⟩
theorem impl_Board_mean_impl_Board_chance_f1_2_step3 (F : Nat) (t1314 : Int) (m122 : List Int) (m223 : List Int) (b24 : List Int) (t1227 : List (List Int)) (t1415 : Int) (sum26 : List Int) {R : Type} (k : Out → Option R) : stepS tt (impl_Board_mean_impl_Board_chance_f1_2_tab F) (impl_Board_mean_impl_Board_chance_f1_2_LS0 F) 70 (impl_Board_mean_impl_Board_chance_f1_2_ls3 F) (loopAt 3 (bodyOf Try.f77)) (impl_Board_mean_impl_Board_chance_f1_2_st3 t1314 m122 m223 b24 t1227 t1415 sum26) k = impl_Board_mean_impl_Board_chance_f1_2_s3 F t1314 m122 m223 b24 t1227 R (t1415, sum26) (fun s => k (.norm (impl_Board_mean_impl_Board_chance_f1_2_st3 t1314 m122 m223 b24 t1227 s.1 s.2))) (fun x => (impl_Board_mean_impl_Board_chance_f1_2_o3 t1314 m122 m223 b24 t1227 x).run k) := by kernel_rfl
theorem impl_Board_mean_impl_Board_chance_f1_2_iter3 (F : Nat) (t1314 : Int) (m122 : List Int) (m223 : List Int) (b24 : List Int) (t1227 : List (List Int)) {R : Type} (k : Out → Option R) : ∀ (n : Nat) (t1415 : Int) (sum26 : List Int), iterS tt (impl_Board_mean_impl_Board_chance_f1_2_tab F) (impl_Board_mean_impl_Board_chance_f1_2_LS0 F) 70 (impl_Board_mean_impl_Board_chance_f1_2_ls3 F) (loopAt 3 (bodyOf Try.f77)) n (impl_Board_mean_impl_Board_chance_f1_2_st3 t1314 m122 m223 b24 t1227 t1415 sum26) k = loopC (impl_Board_mean_impl_Board_chance_f1_2_s3 F t1314 m122 m223 b24 t1227) n (t1415, sum26) (fun x => (impl_Board_mean_impl_Board_chance_f1_2_o3 t1314 m122 m223 b24 t1227 x).run k)
  | 0, t1415, sum26 => rfl
  | n + 1, t1415, sum26 => (iterS_succ tt (impl_Board_mean_impl_Board_chance_f1_2_tab F) (impl_Board_mean_impl_Board_chance_f1_2_LS0 F) 70 (impl_Board_mean_impl_Board_chance_f1_2_ls3 F) (loopAt 3 (bodyOf Try.f77)) n (impl_Board_mean_impl_Board_chance_f1_2_st3 t1314 m122 m223 b24 t1227 t1415 sum26) k).trans ((impl_Board_mean_impl_Board_chance_f1_2_step3 F t1314 m122 m223 b24 t1227 t1415 sum26 (nextK (iterS tt (impl_Board_mean_impl_Board_chance_f1_2_tab F) (impl_Board_mean_impl_Board_chance_f1_2_LS0 F) 70 (impl_Board_mean_impl_Board_chance_f1_2_ls3 F) (loopAt 3 (bodyOf Try.f77)) n) k)).trans (congrArg (fun kn => impl_Board_mean_impl_Board_chance_f1_2_s3 F t1314 m122 m223 b24 t1227 R (t1415, sum26) kn _) (funext (fun ⟨t1415, sum26⟩ => impl_Board_mean_impl_Board_chance_f1_2_iter3 F t1314 m122 m223 b24 t1227 k n t1415 sum26))))
theorem impl_Board_mean_impl_Board_chance_f1_2_lok3 (F : Nat) : LoopOK Try.prog (loopAt 3 (bodyOf Try.f77)) (impl_Board_mean_impl_Board_chance_f1_2_ls3 F) := by
  refine loopOK_of mixed ttok deep (impl_Board_mean_impl_Board_chance_f1_2_tabok F) (loopsOK_at (impl_Board_mean_impl_Board_chance_f1_2_lsok0 F) 3) (fuel := 70) fun R vals mem np killed k x h => ?_
  simp only [impl_Board_mean_impl_Board_chance_f1_2_ls3] at h
  split at h
  · rename_i q_t1213 t1314 t1415 m122 m223 b24 q_t425 sum26 t1227
    simp only [GT.run] at h
    have hc := (cond_noneL h).1
    replace h := (cond_noneL h).2
    have hg := (and_split hc).1
    replace hc := (and_split hc).2
    obtain rfl := beq_li hg
    have hg := (and_split hc).1
    replace hc := (and_split hc).2
    obtain rfl := nbeq_nat hg
    refine ⟨F, (impl_Board_mean_impl_Board_chance_f1_2_iter3 F t1314 m122 m223 b24 t1227 k F t1415 sum26).trans ((loopC_use (impl_Board_mean_impl_Board_chance_f1_2_s3_nat F t1314 m122 m223 b24 t1227) hc _).trans h)⟩
  · simp only [GT.run] at h
    cases h
noncomputable def impl_Board_mean_impl_Board_chance_f1_2_LS1 (F : Nat) : LT := (3, impl_Board_mean_impl_Board_chance_f1_2_ls3 F) :: impl_Board_mean_impl_Board_chance_f1_2_LS0 F
theorem impl_Board_mean_impl_Board_chance_f1_2_lsok1 (F : Nat) : LoopsOK Try.prog (impl_Board_mean_impl_Board_chance_f1_2_LS1 F) (bodyOf Try.f77) := loopsOK_cons impl_Board_mean_impl_Board_chance_f1_2_keys (impl_Board_mean_impl_Board_chance_f1_2_lok3 F) (impl_Board_mean_impl_Board_chance_f1_2_lsok0 F)
theorem impl_Board_mean_impl_Board_chance_f1_2_run (F : Nat) (b0 : List Int) (m110 : List Int) (m211 : List Int) : runS tt (impl_Board_mean_impl_Board_chance_f1_2_tab F) (impl_Board_mean_impl_Board_chance_f1_2_LS1 F) [] [] Try.f77 (bodyOf Try.f77) 70 [(.ints 16 b0), (.fn 78 [] [(.ptr 0 0 0 1)])] [(.var 1 (.rv [(.fn 48 [] [(.ptr 1 0 0 2), (.ptr 2 0 0 1)])])), (.var 2 (.ri .i64 m110)), (.var 1 (.ri .i64 m211))] = impl_Board_mean_impl_Board_chance_f1_2_c _ F b0 m110 m211 (fun r => some ⟨(.ints 2 r), [(.var 1 (.rv [(.fn 48 [] [(.ptr 1 0 0 2), (.ptr 2 0 0 1)])])), (.var 2 (.ri .i64 m110)), (.var 1 (.ri .i64 m211))], []⟩) := by kernel_rfl
def impl_Board_mean_impl_Board_chance_f1_2_ent (F : Nat) : Ent := ⟨[], .quiet, fun args mem => match args, mem with
  | [(.ints 16 b0), (.fn 78 [] [(.ptr 0 0 0 1)])], [(.var 1 (.rv [(.fn 48 [] [(.ptr 1 0 0 2), (.ptr 2 0 0 1)])])), (.var 2 (.ri .i64 m110)), (.var 1 (.ri .i64 m211))] => some ((impl_Board_mean_impl_Board_chance_f1_2_p F b0 m110 m211).isSome, ⟨(.ints 2 ((impl_Board_mean_impl_Board_chance_f1_2_p F b0 m110 m211).getD default)), [], []⟩)
  | _, _ => none⟩
theorem impl_Board_mean_impl_Board_chance_f1_2_fok : FunOK Try.prog 77 := funOK Try.func77 (by kernel_rfl) rfl
theorem impl_Board_mean_impl_Board_chance_f1_2_meets (F : Nat) : Meets Try.prog 77 (impl_Board_mean_impl_Board_chance_f1_2_ent F) := by
  refine meets_of_runS mixed ttok deep (impl_Board_mean_impl_Board_chance_f1_2_tabok F) Try.func77 (body_some rfl) (impl_Board_mean_impl_Board_chance_f1_2_lsok1 F) fun args mem hfit ret h => ?_
  clear hfit
  simp only [impl_Board_mean_impl_Board_chance_f1_2_ent] at h
  split at h
  · rename_i b0 m110 m211
    simp only [Option.some.injEq, Prod.mk.injEq] at h
    obtain ⟨hc, rfl⟩ := h
    exact ⟨[], [], 70, _, (impl_Board_mean_impl_Board_chance_f1_2_run F b0 m110 m211).trans ((impl_Board_mean_impl_Board_chance_f1_2_cp _ F b0 m110 m211 _).trans (bind_use hc _)), rfl, rfl, rfl⟩
  · cases h

/-! (loop.example/g01194/impl.Board).chance -/
noncomputable def impl_Board_chance_impl_ChanceOfTile_f1_tab (F : Nat) : Tab := [(75, (impl_Board_isMove_ent F)), (76, (impl_Board_slides_ent F)), (77, (impl_Board_mean_impl_Board_chance_f1_2_ent F))]
theorem impl_Board_chance_impl_ChanceOfTile_f1_tabok (F : Nat) : TabOK Try.prog (impl_Board_chance_impl_ChanceOfTile_f1_tab F) := (tab_cons (impl_Board_isMove_meets F) impl_Board_isMove_fok (tab_cons (impl_Board_slides_meets F) impl_Board_slides_fok (tab_cons (impl_Board_mean_impl_Board_chance_f1_2_meets F) impl_Board_mean_impl_Board_chance_f1_2_fok tab_nil)))
noncomputable def impl_Board_chance_impl_ChanceOfTile_f1_LS0 (F : Nat) : LT := []
theorem impl_Board_chance_impl_ChanceOfTile_f1_lsok0 (F : Nat) : LoopsOK Try.prog (impl_Board_chance_impl_ChanceOfTile_f1_LS0 F) (bodyOf Try.f41) := loopsOK_nil
theorem impl_Board_chance_impl_ChanceOfTile_f1_run (F : Nat) (b0 : List Int) (direction1 : Int) (is8 : List Int) (is9 : List Int) : runS tt (impl_Board_chance_impl_ChanceOfTile_f1_tab F) (impl_Board_chance_impl_ChanceOfTile_f1_LS0 F) [] [] Try.f41 (bodyOf Try.f41) 70 [(.ints 16 b0), (.int .i64 direction1), (.fn 48 [] [(.ptr 0 0 0 2), (.ptr 1 0 0 1)])] [(.var 2 (.ri .i64 is8)), (.var 1 (.ri .i64 is9))] = impl_Board_chance_impl_ChanceOfTile_f1_c _ F b0 direction1 is8 is9 (fun r => some ⟨(.tup [(.ints 2 r.1), (.bool r.2)]), [(.var 2 (.ri .i64 is8)), (.var 1 (.ri .i64 is9))], []⟩) := by kernel_rfl
def impl_Board_chance_impl_ChanceOfTile_f1_ent (F : Nat) : Ent := ⟨[], .quiet, fun args mem => match args, mem with
  | [(.ints 16 b0), (.int .i64 direction1), (.fn 48 [] [(.ptr 0 0 0 2), (.ptr 1 0 0 1)])], [(.var 2 (.ri .i64 is8)), (.var 1 (.ri .i64 is9))] => some ((impl_Board_chance_impl_ChanceOfTile_f1_p F b0 direction1 is8 is9).isSome, ⟨(.tup [(.ints 2 ((impl_Board_chance_impl_ChanceOfTile_f1_p F b0 direction1 is8 is9).getD default).1), (.bool ((impl_Board_chance_impl_ChanceOfTile_f1_p F b0 direction1 is8 is9).getD default).2)]), [], []⟩)
  | _, _ => none⟩
theorem impl_Board_chance_impl_ChanceOfTile_f1_fok : FunOK Try.prog 41 := funOK Try.func41 (by kernel_rfl) rfl
theorem impl_Board_chance_impl_ChanceOfTile_f1_meets (F : Nat) : Meets Try.prog 41 (impl_Board_chance_impl_ChanceOfTile_f1_ent F) := by
  refine meets_of_runS mixed ttok deep (impl_Board_chance_impl_ChanceOfTile_f1_tabok F) Try.func41 (body_some rfl) (impl_Board_chance_impl_ChanceOfTile_f1_lsok0 F) fun args mem hfit ret h => ?_
  clear hfit
  simp only [impl_Board_chance_impl_ChanceOfTile_f1_ent] at h
  split at h
  · rename_i b0 direction1 is8 is9
    simp only [Option.some.injEq, Prod.mk.injEq] at h
    obtain ⟨hc, rfl⟩ := h
    exact ⟨[], [], 70, _, (impl_Board_chance_impl_ChanceOfTile_f1_run F b0 direction1 is8 is9).trans ((impl_Board_chance_impl_ChanceOfTile_f1_cp _ F b0 direction1 is8 is9 _).trans (bind_use hc _)), rfl, rfl, rfl⟩
  · cases h

/-! loop.example/g01194/impl.ChanceOfTile -/
noncomputable def impl_ChanceOfTile_tab (F : Nat) : Tab := [(46, (impl_isCell_ent F)), (47, (impl_in_ent F)), (41, (impl_Board_chance_impl_ChanceOfTile_f1_ent F))]
theorem impl_ChanceOfTile_tabok (F : Nat) : TabOK Try.prog (impl_ChanceOfTile_tab F) := (tab_cons (impl_isCell_meets F) impl_isCell_fok (tab_cons (impl_in_meets F) impl_in_fok (tab_cons (impl_Board_chance_impl_ChanceOfTile_f1_meets F) impl_Board_chance_impl_ChanceOfTile_f1_fok tab_nil)))
noncomputable def impl_ChanceOfTile_LS0 (F : Nat) : LT := []
theorem impl_ChanceOfTile_lsok0 (F : Nat) : LoopsOK Try.prog (impl_ChanceOfTile_LS0 F) (bodyOf Try.f16) := loopsOK_nil
theorem impl_ChanceOfTile_run (F : Nat) (b0 : List Int) (direction1 : Int) (cell2 : List Int) (t3 : Int) : runS tt (impl_ChanceOfTile_tab F) (impl_ChanceOfTile_LS0 F) [] [] Try.f16 (bodyOf Try.f16) 70 [(.ints 16 b0), (.int .i64 direction1), (.ints 2 cell2), (.int .i64 t3)] [] = impl_ChanceOfTile_c _ F b0 direction1 cell2 t3 (fun r => some ⟨(.tup [(.ints 2 r.1), (.bool r.2)]), [], []⟩) := by kernel_rfl
def impl_ChanceOfTile_ent (F : Nat) : Ent := ⟨[], .quiet, fun args mem => match args, mem with
  | [(.ints 16 b0), (.int .i64 direction1), (.ints 2 cell2), (.int .i64 t3)], [] => some ((impl_ChanceOfTile_p F b0 direction1 cell2 t3).isSome, ⟨(.tup [(.ints 2 ((impl_ChanceOfTile_p F b0 direction1 cell2 t3).getD default).1), (.bool ((impl_ChanceOfTile_p F b0 direction1 cell2 t3).getD default).2)]), [], []⟩)
  | _, _ => none⟩
theorem impl_ChanceOfTile_fok : FunOK Try.prog 16 := funOK Try.func16 (by kernel_rfl) rfl
theorem impl_ChanceOfTile_meets (F : Nat) : Meets Try.prog 16 (impl_ChanceOfTile_ent F) := by
  refine meets_of_runS mixed ttok deep (impl_ChanceOfTile_tabok F) Try.func16 (body_some rfl) (impl_ChanceOfTile_lsok0 F) fun args mem hfit ret h => ?_
  clear hfit
  simp only [impl_ChanceOfTile_ent] at h
  split at h
  · rename_i b0 direction1 cell2 t3
    simp only [Option.some.injEq, Prod.mk.injEq] at h
    obtain ⟨hc, rfl⟩ := h
    exact ⟨[], [], 70, _, (impl_ChanceOfTile_run F b0 direction1 cell2 t3).trans ((impl_ChanceOfTile_cp _ F b0 direction1 cell2 t3 _).trans (bind_use hc _)), rfl, rfl, rfl⟩
  · cases h

/-! loop.example/g01194/laws.FnExactChanceOfTile -/
noncomputable def laws_FnExactChanceOfTile_tab (F : Nat) : Tab := [(11, (laws_toBoard_ent F)), (15, (laws_toIntA2_ent F)), (14, (spec_ChanceOfTile_ent F)), (16, (impl_ChanceOfTile_ent F)), (13, (laws_eqIntA2_ent F))]
theorem laws_FnExactChanceOfTile_tabok (F : Nat) : TabOK Try.prog (laws_FnExactChanceOfTile_tab F) := (tab_cons (laws_toBoard_meets F) laws_toBoard_fok (tab_cons (laws_toIntA2_meets F) laws_toIntA2_fok (tab_cons (spec_ChanceOfTile_meets F) spec_ChanceOfTile_fok (tab_cons (impl_ChanceOfTile_meets F) impl_ChanceOfTile_fok (tab_cons (laws_eqIntA2_meets F) laws_eqIntA2_fok tab_nil)))))
noncomputable def laws_FnExactChanceOfTile_LS0 (F : Nat) : LT := []
theorem laws_FnExactChanceOfTile_lsok0 (F : Nat) : LoopsOK Try.prog (laws_FnExactChanceOfTile_LS0 F) (bodyOf Try.f4) := loopsOK_nil
theorem laws_FnExactChanceOfTile_run (F : Nat) (aB0 : List Int) (aDirection1 : Int) (aCell2 : List Int) (aT3 : Int) : runS tt (laws_FnExactChanceOfTile_tab F) (laws_FnExactChanceOfTile_LS0 F) [] [] Try.f4 (bodyOf Try.f4) 70 [(.ints 16 aB0), (.int .i64 aDirection1), (.ints 2 aCell2), (.int .i64 aT3)] [] = laws_FnExactChanceOfTile_c _ F aB0 aDirection1 aCell2 aT3 (fun r => some ⟨(.bool r), [], []⟩) := by kernel_rfl
def laws_FnExactChanceOfTile_ent (F : Nat) : Ent := ⟨[], .quiet, fun args mem => match args, mem with
  | [(.ints 16 aB0), (.int .i64 aDirection1), (.ints 2 aCell2), (.int .i64 aT3)], [] => some ((laws_FnExactChanceOfTile_p F aB0 aDirection1 aCell2 aT3).isSome, ⟨(.bool ((laws_FnExactChanceOfTile_p F aB0 aDirection1 aCell2 aT3).getD default)), [], []⟩)
  | _, _ => none⟩
theorem laws_FnExactChanceOfTile_fok : FunOK Try.prog 4 := funOK Try.func4 (by kernel_rfl) rfl
theorem laws_FnExactChanceOfTile_meets (F : Nat) : Meets Try.prog 4 (laws_FnExactChanceOfTile_ent F) := by
  refine meets_of_runS mixed ttok deep (laws_FnExactChanceOfTile_tabok F) Try.func4 (body_some rfl) (laws_FnExactChanceOfTile_lsok0 F) fun args mem hfit ret h => ?_
  clear hfit
  simp only [laws_FnExactChanceOfTile_ent] at h
  split at h
  · rename_i aB0 aDirection1 aCell2 aT3
    simp only [Option.some.injEq, Prod.mk.injEq] at h
    obtain ⟨hc, rfl⟩ := h
    exact ⟨[], [], 70, _, (laws_FnExactChanceOfTile_run F aB0 aDirection1 aCell2 aT3).trans ((laws_FnExactChanceOfTile_cp _ F aB0 aDirection1 aCell2 aT3 _).trans (bind_use hc _)), rfl, rfl, rfl⟩
  · cases h

/-! loop.example/g01194/spec.l9Scores -/
noncomputable def spec_l9Scores_tab (F : Nat) : Tab := [(67, (spec_l2Slide_ent F))]
theorem spec_l9Scores_tabok (F : Nat) : TabOK Try.prog (spec_l9Scores_tab F) := (tab_cons (spec_l2Slide_meets F) spec_l2Slide_fok tab_nil)
noncomputable def spec_l9Scores_LS0 (F : Nat) : LT := []
theorem spec_l9Scores_lsok0 (F : Nat) : LoopsOK Try.prog (spec_l9Scores_LS0 F) (bodyOf Try.f50) := loopsOK_nil
theorem spec_l9Scores_keys : keysOK (bodyOf Try.f50) = true := by kernel_rfl
def spec_l9Scores_st2 (b4 : List Int) (d3 : Int) : St := ⟨expand 18 0 [1, 3] [(.ptr 0 0 0 16), (.int .i64 d3)], [(.var 16 (.ri .i64 b4))], 0, []⟩
def spec_l9Scores_o2 (b4 : List Int) (x : Bool) : GT := (.br x (.out (.ret ⟨expand 18 0 [2] [(.bool true)], [], 0, []⟩)) (.out (.exit 0 ⟨expand 18 0 [] [], [], 0, []⟩)))
def spec_l9Scores_ls2 (F : Nat) : LoopS := ⟨18, [1, 3], [], [], [], [2], [], [], fun vals mem np killed => match vals, mem, np, killed with
  | [(.ptr 0 0 0 16), (.int .i64 d3)], [(.var 16 (.ri .i64 b4))], 0, [] => .br (spec_l9Scores_l2 F b4 d3).isSome (spec_l9Scores_o2 b4 ((spec_l9Scores_l2 F b4 d3).getD default)) .fail
  | _, _, _, _ => .fail⟩
theorem spec_l9Scores_step2 (F : Nat) (b4 : List Int) (d3 : Int) {R : Type} (k : Out → Option R) : stepS tt (spec_l9Scores_tab F) (spec_l9Scores_LS0 F) 70 (spec_l9Scores_ls2 F) (loopAt 2 (bodyOf Try.f50)) (spec_l9Scores_st2 b4 d3) k = spec_l9Scores_s2 F b4 R d3 (fun s => k (.norm (spec_l9Scores_st2 b4 s))) (fun x => (spec_l9Scores_o2 b4 x).run k) := by kernel_rfl
theorem spec_l9Scores_iter2 (F : Nat) (b4 : List Int) {R : Type} (k : Out → Option R) : ∀ (n : Nat) (d3 : Int), iterS tt (spec_l9Scores_tab F) (spec_l9Scores_LS0 F) 70 (spec_l9Scores_ls2 F) (loopAt 2 (bodyOf Try.f50)) n (spec_l9Scores_st2 b4 d3) k = loopC (spec_l9Scores_s2 F b4) n d3 (fun x => (spec_l9Scores_o2 b4 x).run k)
  | 0, d3 => rfl
  | n + 1, d3 => (iterS_succ tt (spec_l9Scores_tab F) (spec_l9Scores_LS0 F) 70 (spec_l9Scores_ls2 F) (loopAt 2 (bodyOf Try.f50)) n (spec_l9Scores_st2 b4 d3) k).trans ((spec_l9Scores_step2 F b4 d3 (nextK (iterS tt (spec_l9Scores_tab F) (spec_l9Scores_LS0 F) 70 (spec_l9Scores_ls2 F) (loopAt 2 (bodyOf Try.f50)) n) k)).trans (congrArg (fun kn => spec_l9Scores_s2 F b4 R d3 kn _) (funext (fun d3 => spec_l9Scores_iter2 F b4 k n d3))))
theorem spec_l9Scores_lok2 (F : Nat) : LoopOK Try.prog (loopAt 2 (bodyOf Try.f50)) (spec_l9Scores_ls2 F) := by
  refine loopOK_of mixed ttok deep (spec_l9Scores_tabok F) (loopsOK_at (spec_l9Scores_lsok0 F) 2) (fuel := 70) fun R vals mem np killed k x h => ?_
  simp only [spec_l9Scores_ls2] at h
  split at h
  · rename_i d3 b4
    simp only [GT.run] at h
    have hc := (cond_noneL h).1
    replace h := (cond_noneL h).2
    refine ⟨F, (spec_l9Scores_iter2 F b4 k F d3).trans ((loopC_use (spec_l9Scores_s2_nat F b4) hc _).trans h)⟩
  · simp only [GT.run] at h
    cases h
noncomputable def spec_l9Scores_LS1 (F : Nat) : LT := (2, spec_l9Scores_ls2 F) :: spec_l9Scores_LS0 F
theorem spec_l9Scores_lsok1 (F : Nat) : LoopsOK Try.prog (spec_l9Scores_LS1 F) (bodyOf Try.f50) := loopsOK_cons spec_l9Scores_keys (spec_l9Scores_lok2 F) (spec_l9Scores_lsok0 F)
theorem spec_l9Scores_run (F : Nat) (b0 : List Int) : runS tt (spec_l9Scores_tab F) (spec_l9Scores_LS1 F) [] [] Try.f50 (bodyOf Try.f50) 70 [(.ints 16 b0)] [] = spec_l9Scores_c _ F b0 (fun r => some ⟨(.bool r), [], []⟩) := by kernel_rfl
def spec_l9Scores_ent (F : Nat) : Ent := ⟨[], .quiet, fun args mem => match args, mem with
  | [(.ints 16 b0)], [] => some ((spec_l9Scores_p F b0).isSome, ⟨(.bool ((spec_l9Scores_p F b0).getD default)), [], []⟩)
  | _, _ => none⟩
theorem spec_l9Scores_fok : FunOK Try.prog 50 := funOK Try.func50 (by kernel_rfl) rfl
theorem spec_l9Scores_meets (F : Nat) : Meets Try.prog 50 (spec_l9Scores_ent F) := by
  refine meets_of_runS mixed ttok deep (spec_l9Scores_tabok F) Try.func50 (body_some rfl) (spec_l9Scores_lsok1 F) fun args mem hfit ret h => ?_
  clear hfit
  simp only [spec_l9Scores_ent] at h
  split at h
  · rename_i b0
    simp only [Option.some.injEq, Prod.mk.injEq] at h
    obtain ⟨hc, rfl⟩ := h
    exact ⟨[], [], 70, _, (spec_l9Scores_run F b0).trans ((spec_l9Scores_cp _ F b0 _).trans (bind_use hc _)), rfl, rfl, rfl⟩
  · cases h

/-! loop.example/g01194/spec.MergeChance -/
noncomputable def spec_MergeChance_tab (F : Nat) : Tab := [(33, (spec_l9Move_ent F)), (35, (spec_l5Steps_ent F)), (36, (spec_l9Boards_ent F)), (50, (spec_l9Scores_ent F)), (37, (spec_l9One_ent F)), (38, (spec_l9Mean_ent F))]
theorem spec_MergeChance_tabok (F : Nat) : TabOK Try.prog (spec_MergeChance_tab F) := (tab_cons (spec_l9Move_meets F) spec_l9Move_fok (tab_cons (spec_l5Steps_meets F) spec_l5Steps_fok (tab_cons (spec_l9Boards_meets F) spec_l9Boards_fok (tab_cons (spec_l9Scores_meets F) spec_l9Scores_fok (tab_cons (spec_l9One_meets F) spec_l9One_fok (tab_cons (spec_l9Mean_meets F) spec_l9Mean_fok tab_nil))))))
noncomputable def spec_MergeChance_LS0 (F : Nat) : LT := []
theorem spec_MergeChance_lsok0 (F : Nat) : LoopsOK Try.prog (spec_MergeChance_LS0 F) (bodyOf Try.f17) := loopsOK_nil
theorem spec_MergeChance_keys : keysOK (bodyOf Try.f17) = true := by kernel_rfl
def spec_MergeChance_st6 (steps11 : List (List Int)) (all13 : List (List Int)) (i9 : Int) (numbers12 : List Int) : St := ⟨expand 40 0 [4, 6, 7, 8, 9] [(.ptr 0 0 0 2), (.sl 1 0 (List.length steps11)), (.sl 2 0 (List.length numbers12)), (.sl 3 0 (List.length all13)), (.int .i64 i9)], [(.var 2 (.ri .i64 [(0 : Int), (0 : Int)])), (.vec 75 (.rr 4 steps11)), (.vec 3 (.ri .i64 numbers12)), (.vec 29 (.rr 16 all13))], 0, []⟩
def spec_MergeChance_o6 (steps11 : List (List Int)) (all13 : List (List Int)) (x : List Int) : GT := (.out (.exit 0 ⟨expand 40 0 [4, 6, 7] [(.ptr 0 0 0 2), (.sl 1 0 (List.length steps11)), (.sl 2 0 (List.length x))], [(.var 2 (.ri .i64 [(0 : Int), (0 : Int)])), (.vec 75 (.rr 4 steps11)), (.vec 3 (.ri .i64 x))], 0, []⟩))
def spec_MergeChance_ls6 (F : Nat) : LoopS := ⟨40, [4, 6, 7, 8, 9], [], [4, 6, 7], [], [4, 5], [], [], fun vals mem np killed => match vals, mem, np, killed with
  | [(.ptr 0 0 0 2), (.sl 1 0 q_steps4), (.sl 2 0 q_numbers6), (.sl 3 0 q_all8), (.int .i64 i9)], [(.var 2 (.ri .i64 q_t410)), (.vec 75 (.rr 4 steps11)), (.vec 3 (.ri .i64 numbers12)), (.vec 29 (.rr 16 all13))], 0, [] => .br ((q_t410 == ([(0 : Int), (0 : Int)] : List Int)) && ((Nat.beq q_steps4 (List.length steps11)) && ((Nat.beq q_numbers6 (List.length numbers12)) && ((Nat.beq q_all8 (List.length all13)) && (spec_MergeChance_l6 F steps11 all13 i9 numbers12).isSome)))) (spec_MergeChance_o6 steps11 all13 ((spec_MergeChance_l6 F steps11 all13 i9 numbers12).getD default)) .fail
  | _, _, _, _ => .fail⟩
theorem spec_MergeChance_step6 (F : Nat) (steps11 : List (List Int)) (all13 : List (List Int)) (i9 : Int) (numbers12 : List Int) {R : Type} (k : Out → Option R) : stepS tt (spec_MergeChance_tab F) (spec_MergeChance_LS0 F) 70 (spec_MergeChance_ls6 F) (loopAt 6 (bodyOf Try.f17)) (spec_MergeChance_st6 steps11 all13 i9 numbers12) k = spec_MergeChance_s6 F steps11 all13 R (i9, numbers12) (fun s => k (.norm (spec_MergeChance_st6 steps11 all13 s.1 s.2))) (fun x => (spec_MergeChance_o6 steps11 all13 x).run k) := by kernel_rfl
theorem spec_MergeChance_iter6 (F : Nat) (steps11 : List (List Int)) (all13 : List (List Int)) {R : Type} (k : Out → Option R) : ∀ (n : Nat) (i9 : Int) (numbers12 : List Int), iterS tt (spec_MergeChance_tab F) (spec_MergeChance_LS0 F) 70 (spec_MergeChance_ls6 F) (loopAt 6 (bodyOf Try.f17)) n (spec_MergeChance_st6 steps11 all13 i9 numbers12) k = loopC (spec_MergeChance_s6 F steps11 all13) n (i9, numbers12) (fun x => (spec_MergeChance_o6 steps11 all13 x).run k)
  | 0, i9, numbers12 => rfl
  | n + 1, i9, numbers12 => (iterS_succ tt (spec_MergeChance_tab F) (spec_MergeChance_LS0 F) 70 (spec_MergeChance_ls6 F) (loopAt 6 (bodyOf Try.f17)) n (spec_MergeChance_st6 steps11 all13 i9 numbers12) k).trans ((spec_MergeChance_step6 F steps11 all13 i9 numbers12 (nextK (iterS tt (spec_MergeChance_tab F) (spec_MergeChance_LS0 F) 70 (spec_MergeChance_ls6 F) (loopAt 6 (bodyOf Try.f17)) n) k)).trans (congrArg (fun kn => spec_MergeChance_s6 F steps11 all13 R (i9, numbers12) kn _) (funext (fun ⟨i9, numbers12⟩ => spec_MergeChance_iter6 F steps11 all13 k n i9 numbers12))))
theorem spec_MergeChance_lok6 (F : Nat) : LoopOK Try.prog (loopAt 6 (bodyOf Try.f17)) (spec_MergeChance_ls6 F) := by
  refine loopOK_of mixed ttok deep (spec_MergeChance_tabok F) (loopsOK_at (spec_MergeChance_lsok0 F) 6) (fuel := 70) fun R vals mem np killed k x h => ?_
  simp only [spec_MergeChance_ls6] at h
  split at h
  · rename_i q_steps4 q_numbers6 q_all8 i9 q_t410 steps11 numbers12 all13
    simp only [GT.run] at h
    have hc := (cond_noneL h).1
    replace h := (cond_noneL h).2
    have hg := (and_split hc).1
    replace hc := (and_split hc).2
    obtain rfl := beq_li hg
    have hg := (and_split hc).1
    replace hc := (and_split hc).2
    obtain rfl := nbeq_nat hg
    have hg := (and_split hc).1
    replace hc := (and_split hc).2
    obtain rfl := nbeq_nat hg
    have hg := (and_split hc).1
    replace hc := (and_split hc).2
    obtain rfl := nbeq_nat hg
    refine ⟨F, (spec_MergeChance_iter6 F steps11 all13 k F i9 numbers12).trans ((loopC_use (spec_MergeChance_s6_nat F steps11 all13) hc _).trans h)⟩
  · simp only [GT.run] at h
    cases h
noncomputable def spec_MergeChance_LS1 (F : Nat) : LT := (6, spec_MergeChance_ls6 F) :: spec_MergeChance_LS0 F
theorem spec_MergeChance_lsok1 (F : Nat) : LoopsOK Try.prog (spec_MergeChance_LS1 F) (bodyOf Try.f17) := loopsOK_cons spec_MergeChance_keys (spec_MergeChance_lok6 F) (spec_MergeChance_lsok0 F)
theorem spec_MergeChance_run (F : Nat) (b0 : List Int) (direction1 : Int) : runS tt (spec_MergeChance_tab F) (spec_MergeChance_LS1 F) [] [] Try.f17 (bodyOf Try.f17) 70 [(.ints 16 b0), (.int .i64 direction1)] [] = spec_MergeChance_c _ F b0 direction1 (fun r => some ⟨(.tup [(.ints 2 r.1), (.bool r.2)]), [], []⟩) := by kernel_rfl
def spec_MergeChance_ent (F : Nat) : Ent := ⟨[], .quiet, fun args mem => match args, mem with
  | [(.ints 16 b0), (.int .i64 direction1)], [] => some ((spec_MergeChance_p F b0 direction1).isSome, ⟨(.tup [(.ints 2 ((spec_MergeChance_p F b0 direction1).getD default).1), (.bool ((spec_MergeChance_p F b0 direction1).getD default).2)]), [], []⟩)
  | _, _ => none⟩
theorem spec_MergeChance_fok : FunOK Try.prog 17 := funOK Try.func17 (by kernel_rfl) rfl
theorem spec_MergeChance_meets (F : Nat) : Meets Try.prog 17 (spec_MergeChance_ent F) := by
  refine meets_of_runS mixed ttok deep (spec_MergeChance_tabok F) Try.func17 (body_some rfl) (spec_MergeChance_lsok1 F) fun args mem hfit ret h => ?_
  clear hfit
  simp only [spec_MergeChance_ent] at h
  split at h
  · rename_i b0 direction1
    simp only [Option.some.injEq, Prod.mk.injEq] at h
    obtain ⟨hc, rfl⟩ := h
    exact ⟨[], [], 70, _, (spec_MergeChance_run F b0 direction1).trans ((spec_MergeChance_cp _ F b0 direction1 _).trans (bind_use hc _)), rfl, rfl, rfl⟩
  · cases h

/-! (loop.example/g01194/impl.Board).scores -/
noncomputable def impl_Board_scores_tab (F : Nat) : Tab := [(80, (impl_Board_slide_ent F))]
theorem impl_Board_scores_tabok (F : Nat) : TabOK Try.prog (impl_Board_scores_tab F) := (tab_cons (impl_Board_slide_meets F) impl_Board_slide_fok tab_nil)
noncomputable def impl_Board_scores_LS0 (F : Nat) : LT := []
theorem impl_Board_scores_lsok0 (F : Nat) : LoopsOK Try.prog (impl_Board_scores_LS0 F) (bodyOf Try.f51) := loopsOK_nil
theorem impl_Board_scores_keys : keysOK (bodyOf Try.f51) = true := by kernel_rfl
def impl_Board_scores_st2 (b4 : List Int) (t73 : Int) : St := ⟨expand 20 0 [1, 7] [(.ptr 0 0 0 16), (.int .i64 t73)], [(.var 16 (.ri .i64 b4))], 0, []⟩
def impl_Board_scores_o2 (b4 : List Int) (x : Bool) : GT := (.br x (.out (.ret ⟨expand 20 0 [2] [(.bool true)], [], 0, []⟩)) (.out (.exit 0 ⟨expand 20 0 [] [], [], 0, []⟩)))
def impl_Board_scores_ls2 (F : Nat) : LoopS := ⟨20, [1, 7], [], [], [], [2], [], [], fun vals mem np killed => match vals, mem, np, killed with
  | [(.ptr 0 0 0 16), (.int .i64 t73)], [(.var 16 (.ri .i64 b4))], 0, [] => .br (impl_Board_scores_l2 F b4 t73).isSome (impl_Board_scores_o2 b4 ((impl_Board_scores_l2 F b4 t73).getD default)) .fail
  | _, _, _, _ => .fail⟩
theorem impl_Board_scores_step2 (F : Nat) (b4 : List Int) (t73 : Int) {R : Type} (k : Out → Option R) : stepS tt (impl_Board_scores_tab F) (impl_Board_scores_LS0 F) 70 (impl_Board_scores_ls2 F) (loopAt 2 (bodyOf Try.f51)) (impl_Board_scores_st2 b4 t73) k = impl_Board_scores_s2 F b4 R t73 (fun s => k (.norm (impl_Board_scores_st2 b4 s))) (fun x => (impl_Board_scores_o2 b4 x).run k) := by kernel_rfl
theorem impl_Board_scores_iter2 (F : Nat) (b4 : List Int) {R : Type} (k : Out → Option R) : ∀ (n : Nat) (t73 : Int), iterS tt (impl_Board_scores_tab F) (impl_Board_scores_LS0 F) 70 (impl_Board_scores_ls2 F) (loopAt 2 (bodyOf Try.f51)) n (impl_Board_scores_st2 b4 t73) k = loopC (impl_Board_scores_s2 F b4) n t73 (fun x => (impl_Board_scores_o2 b4 x).run k)
  | 0, t73 => rfl
  | n + 1, t73 => (iterS_succ tt (impl_Board_scores_tab F) (impl_Board_scores_LS0 F) 70 (impl_Board_scores_ls2 F) (loopAt 2 (bodyOf Try.f51)) n (impl_Board_scores_st2 b4 t73) k).trans ((impl_Board_scores_step2 F b4 t73 (nextK (iterS tt (impl_Board_scores_tab F) (impl_Board_scores_LS0 F) 70 (impl_Board_scores_ls2 F) (loopAt 2 (bodyOf Try.f51)) n) k)).trans (congrArg (fun kn => impl_Board_scores_s2 F b4 R t73 kn _) (funext (fun t73 => impl_Board_scores_iter2 F b4 k n t73))))
theorem impl_Board_scores_lok2 (F : Nat) : LoopOK Try.prog (loopAt 2 (bodyOf Try.f51)) (impl_Board_scores_ls2 F) := by
  refine loopOK_of mixed ttok deep (impl_Board_scores_tabok F) (loopsOK_at (impl_Board_scores_lsok0 F) 2) (fuel := 70) fun R vals mem np killed k x h => ?_
  simp only [impl_Board_scores_ls2] at h
  split at h
  · rename_i t73 b4
    simp only [GT.run] at h
    have hc := (cond_noneL h).1
    replace h := (cond_noneL h).2
    refine ⟨F, (impl_Board_scores_iter2 F b4 k F t73).trans ((loopC_use (impl_Board_scores_s2_nat F b4) hc _).trans h)⟩
  · simp only [GT.run] at h
    cases h
noncomputable def impl_Board_scores_LS1 (F : Nat) : LT := (2, impl_Board_scores_ls2 F) :: impl_Board_scores_LS0 F
theorem impl_Board_scores_lsok1 (F : Nat) : LoopsOK Try.prog (impl_Board_scores_LS1 F) (bodyOf Try.f51) := loopsOK_cons impl_Board_scores_keys (impl_Board_scores_lok2 F) (impl_Board_scores_lsok0 F)
theorem impl_Board_scores_run (F : Nat) (b0 : List Int) : runS tt (impl_Board_scores_tab F) (impl_Board_scores_LS1 F) [] [] Try.f51 (bodyOf Try.f51) 70 [(.ints 16 b0)] [] = impl_Board_scores_c _ F b0 (fun r => some ⟨(.bool r), [], []⟩) := by kernel_rfl
def impl_Board_scores_ent (F : Nat) : Ent := ⟨[], .quiet, fun args mem => match args, mem with
  | [(.ints 16 b0)], [] => some ((impl_Board_scores_p F b0).isSome, ⟨(.bool ((impl_Board_scores_p F b0).getD default)), [], []⟩)
  | _, _ => none⟩
theorem impl_Board_scores_fok : FunOK Try.prog 51 := funOK Try.func51 (by kernel_rfl) rfl
theorem impl_Board_scores_meets (F : Nat) : Meets Try.prog 51 (impl_Board_scores_ent F) := by
  refine meets_of_runS mixed ttok deep (impl_Board_scores_tabok F) Try.func51 (body_some rfl) (impl_Board_scores_lsok1 F) fun args mem hfit ret h => ?_
  clear hfit
  simp only [impl_Board_scores_ent] at h
  split at h
  · rename_i b0
    simp only [Option.some.injEq, Prod.mk.injEq] at h
    obtain ⟨hc, rfl⟩ := h
    exact ⟨[], [], 70, _, (impl_Board_scores_run F b0).trans ((impl_Board_scores_cp _ F b0 _).trans (bind_use hc _)), rfl, rfl, rfl⟩
  · cases h

/-! (loop.example/g01194/impl.Board).chance$1 -/
noncomputable def impl_Board_chance_f1_3_tab (F : Nat) : Tab := [(51, (impl_Board_scores_ent F)), (79, (impl_flag_ent F))]
theorem impl_Board_chance_f1_3_tabok (F : Nat) : TabOK Try.prog (impl_Board_chance_f1_3_tab F) := (tab_cons (impl_Board_scores_meets F) impl_Board_scores_fok (tab_cons (impl_flag_meets F) impl_flag_fok tab_nil))
noncomputable def impl_Board_chance_f1_3_LS0 (F : Nat) : LT := []
theorem impl_Board_chance_f1_3_lsok0 (F : Nat) : LoopsOK Try.prog (impl_Board_chance_f1_3_LS0 F) (bodyOf Try.f78) := loopsOK_nil
theorem impl_Board_chance_f1_3_run (F : Nat) (own0 : List Int) : runS tt (impl_Board_chance_f1_3_tab F) (impl_Board_chance_f1_3_LS0 F) [] [] Try.f78 (bodyOf Try.f78) 70 [(.ints 16 own0), (.ptr 0 0 0 1)] [(.var 1 (.rv [(.fn 51 [] [])]))] = impl_Board_chance_f1_3_c _ F own0 (fun r => some ⟨(.ints 2 r), [(.var 1 (.rv [(.fn 51 [] [])]))], []⟩) := by kernel_rfl
def impl_Board_chance_f1_3_ent (F : Nat) : Ent := ⟨[], .quiet, fun args mem => match args, mem with
  | [(.ints 16 own0), (.ptr 0 0 0 1)], [(.var 1 (.rv [(.fn 51 [] [])]))] => some ((impl_Board_chance_f1_3_p F own0).isSome, ⟨(.ints 2 ((impl_Board_chance_f1_3_p F own0).getD default)), [], []⟩)
  | _, _ => none⟩
theorem impl_Board_chance_f1_3_fok : FunOK Try.prog 78 := funOK Try.func78 (by kernel_rfl) rfl
theorem impl_Board_chance_f1_3_meets (F : Nat) : Meets Try.prog 78 (impl_Board_chance_f1_3_ent F) := by
  refine meets_of_runS mixed ttok deep (impl_Board_chance_f1_3_tabok F) Try.func78 (body_some rfl) (impl_Board_chance_f1_3_lsok0 F) fun args mem hfit ret h => ?_
  clear hfit
  simp only [impl_Board_chance_f1_3_ent] at h
  split at h
  · rename_i own0
    simp only [Option.some.injEq, Prod.mk.injEq] at h
    obtain ⟨hc, rfl⟩ := h
    exact ⟨[], [], 70, _, (impl_Board_chance_f1_3_run F own0).trans ((impl_Board_chance_f1_3_cp _ F own0 _).trans (bind_use hc _)), rfl, rfl, rfl⟩
  · cases h

/-! (loop.example/g01194/impl.Board).mean -/
noncomputable def impl_Board_mean_impl_Board_chance_f1_3_tab (F : Nat) : Tab := [(96, (impl_Board_placements_ent F)), (97, (impl_Board_placed_ent F)), (78, (impl_Board_chance_f1_3_ent F)), (99, (impl_fraction_ent F)), (98, (impl_plus_ent F)), (100, (impl_Board_empty_ent F))]
theorem impl_Board_mean_impl_Board_chance_f1_3_tabok (F : Nat) : TabOK Try.prog (impl_Board_mean_impl_Board_chance_f1_3_tab F) := (tab_cons (impl_Board_placements_meets F) impl_Board_placements_fok (tab_cons (impl_Board_placed_meets F) impl_Board_placed_fok (tab_cons (impl_Board_chance_f1_3_meets F) impl_Board_chance_f1_3_fok (tab_cons (impl_fraction_meets F) impl_fraction_fok (tab_cons (impl_plus_meets F) impl_plus_fok (tab_cons (impl_Board_empty_meets F) impl_Board_empty_fok tab_nil))))))
noncomputable def impl_Board_mean_impl_Board_chance_f1_3_LS0 (F : Nat) : LT := []
theorem impl_Board_mean_impl_Board_chance_f1_3_lsok0 (F : Nat) : LoopsOK Try.prog (impl_Board_mean_impl_Board_chance_f1_3_LS0 F) (bodyOf Try.f77) := loopsOK_nil
theorem impl_Board_mean_impl_Board_chance_f1_3_keys : keysOK (bodyOf Try.f77) = true := by kernel_rfl
def impl_Board_mean_impl_Board_chance_f1_3_st3 (t1314 : Int) (b16 : List Int) (t1219 : List (List Int)) (t1415 : Int) (sum18 : List Int) : St := ⟨expand 46 0 [1, 2, 4, 5, 12, 13, 14] [(.fn 78 [] [(.ptr 0 0 0 1)]), (.ptr 1 0 0 16), (.ptr 2 0 0 2), (.ptr 3 0 0 2), (.sl 4 0 (List.length t1219)), (.int .i64 t1314), (.int .i64 t1415)], [(.var 1 (.rv [(.fn 51 [] [])])), (.var 16 (.ri .i64 b16)), (.var 2 (.ri .i64 [(0 : Int), (0 : Int)])), (.var 2 (.ri .i64 sum18)), (.vec 120 (.rr 3 t1219))], 1, []⟩
def impl_Board_mean_impl_Board_chance_f1_3_o3 (t1314 : Int) (b16 : List Int) (t1219 : List (List Int)) (x : List Int) : GT := (.out (.exit 0 ⟨expand 46 0 [2, 4, 5] [(.ptr 1 0 0 16), (.ptr 2 0 0 2), (.ptr 3 0 0 2)], [(.var 1 (.rv [(.fn 51 [] [])])), (.var 16 (.ri .i64 b16)), (.var 2 (.ri .i64 [(0 : Int), (0 : Int)])), (.var 2 (.ri .i64 x))], 1, []⟩))
def impl_Board_mean_impl_Board_chance_f1_3_ls3 (F : Nat) : LoopS := ⟨46, [1, 2, 4, 5, 12, 13, 14], [], [2, 4, 5], [], [4], [], [], fun vals mem np killed => match vals, mem, np, killed with
  | [(.fn 78 [] [(.ptr 0 0 0 1)]), (.ptr 1 0 0 16), (.ptr 2 0 0 2), (.ptr 3 0 0 2), (.sl 4 0 q_t1213), (.int .i64 t1314), (.int .i64 t1415)], [(.var 1 (.rv [(.fn 51 [] [])])), (.var 16 (.ri .i64 b16)), (.var 2 (.ri .i64 q_t417)), (.var 2 (.ri .i64 sum18)), (.vec 120 (.rr 3 t1219))], 1, [] => .br ((q_t417 == ([(0 : Int), (0 : Int)] : List Int)) && ((Nat.beq q_t1213 (List.length t1219)) && (impl_Board_mean_impl_Board_chance_f1_3_l3 F t1314 b16 t1219 t1415 sum18).isSome)) (impl_Board_mean_impl_Board_chance_f1_3_o3 t1314 b16 t1219 ((impl_Board_mean_impl_Board_chance_f1_3_l3 F t1314 b16 t1219 t1415 sum18).getD default)) .fail
  | _, _, _, _ => .fail⟩
theorem impl_Board_mean_impl_Board_chance_f1_3_step3 (F : Nat) (t1314 : Int) (b16 : List Int) (t1219 : List (List Int)) (t1415 : Int) (sum18 : List Int) {R : Type} (k : Out → Option R) : stepS tt (impl_Board_mean_impl_Board_chance_f1_3_tab F) (impl_Board_mean_impl_Board_chance_f1_3_LS0 F) 70 (impl_Board_mean_impl_Board_chance_f1_3_ls3 F) (loopAt 3 (bodyOf Try.f77)) (impl_Board_mean_impl_Board_chance_f1_3_st3 t1314 b16 t1219 t1415 sum18) k = impl_Board_mean_impl_Board_chance_f1_3_s3 F t1314 b16 t1219 R (t1415, sum18) (fun s => k (.norm (impl_Board_mean_impl_Board_chance_f1_3_st3 t1314 b16 t1219 s.1 s.2))) (fun x => (impl_Board_mean_impl_Board_chance_f1_3_o3 t1314 b16 t1219 x).run k) := by kernel_rfl
theorem impl_Board_mean_impl_Board_chance_f1_3_iter3 (F : Nat) (t1314 : Int) (b16 : List Int) (t1219 : List (List Int)) {R : Type} (k : Out → Option R) : ∀ (n : Nat) (t1415 : Int) (sum18 : List Int), iterS tt (impl_Board_mean_impl_Board_chance_f1_3_tab F) (impl_Board_mean_impl_Board_chance_f1_3_LS0 F) 70 (impl_Board_mean_impl_Board_chance_f1_3_ls3 F) (loopAt 3 (bodyOf Try.f77)) n (impl_Board_mean_impl_Board_chance_f1_3_st3 t1314 b16 t1219 t1415 sum18) k = loopC (impl_Board_mean_impl_Board_chance_f1_3_s3 F t1314 b16 t1219) n (t1415, sum18) (fun x => (impl_Board_mean_impl_Board_chance_f1_3_o3 t1314 b16 t1219 x).run k)
  | 0, t1415, sum18 => rfl
  | n + 1, t1415, sum18 => (iterS_succ tt (impl_Board_mean_impl_Board_chance_f1_3_tab F) (impl_Board_mean_impl_Board_chance_f1_3_LS0 F) 70 (impl_Board_mean_impl_Board_chance_f1_3_ls3 F) (loopAt 3 (bodyOf Try.f77)) n (impl_Board_mean_impl_Board_chance_f1_3_st3 t1314 b16 t1219 t1415 sum18) k).trans ((impl_Board_mean_impl_Board_chance_f1_3_step3 F t1314 b16 t1219 t1415 sum18 (nextK (iterS tt (impl_Board_mean_impl_Board_chance_f1_3_tab F) (impl_Board_mean_impl_Board_chance_f1_3_LS0 F) 70 (impl_Board_mean_impl_Board_chance_f1_3_ls3 F) (loopAt 3 (bodyOf Try.f77)) n) k)).trans (congrArg (fun kn => impl_Board_mean_impl_Board_chance_f1_3_s3 F t1314 b16 t1219 R (t1415, sum18) kn _) (funext (fun ⟨t1415, sum18⟩ => impl_Board_mean_impl_Board_chance_f1_3_iter3 F t1314 b16 t1219 k n t1415 sum18))))
theorem impl_Board_mean_impl_Board_chance_f1_3_lok3 (F : Nat) : LoopOK Try.prog (loopAt 3 (bodyOf Try.f77)) (impl_Board_mean_impl_Board_chance_f1_3_ls3 F) := by
  refine loopOK_of mixed ttok deep (impl_Board_mean_impl_Board_chance_f1_3_tabok F) (loopsOK_at (impl_Board_mean_impl_Board_chance_f1_3_lsok0 F) 3) (fuel := 70) fun R vals mem np killed k x h => ?_
  simp only [impl_Board_mean_impl_Board_chance_f1_3_ls3] at h
  split at h
  · rename_i q_t1213 t1314 t1415 b16 q_t417 sum18 t1219
    simp only [GT.run] at h
    have hc := (cond_noneL h).1
    replace h := (cond_noneL h).2
    have hg := (and_split hc).1
    replace hc := (and_split hc).2
    obtain rfl := beq_li hg
    have hg := (and_split hc).1
    replace hc := (and_split hc).2
    obtain rfl := nbeq_nat hg
    refine ⟨F, (impl_Board_mean_impl_Board_chance_f1_3_iter3 F t1314 b16 t1219 k F t1415 sum18).trans ((loopC_use (impl_Board_mean_impl_Board_chance_f1_3_s3_nat F t1314 b16 t1219) hc _).trans h)⟩
  · simp only [GT.run] at h
    cases h
noncomputable def impl_Board_mean_impl_Board_chance_f1_3_LS1 (F : Nat) : LT := (3, impl_Board_mean_impl_Board_chance_f1_3_ls3 F) :: impl_Board_mean_impl_Board_chance_f1_3_LS0 F
theorem impl_Board_mean_impl_Board_chance_f1_3_lsok1 (F : Nat) : LoopsOK Try.prog (impl_Board_mean_impl_Board_chance_f1_3_LS1 F) (bodyOf Try.f77) := loopsOK_cons impl_Board_mean_impl_Board_chance_f1_3_keys (impl_Board_mean_impl_Board_chance_f1_3_lok3 F) (impl_Board_mean_impl_Board_chance_f1_3_lsok0 F)
theorem impl_Board_mean_impl_Board_chance_f1_3_run (F : Nat) (b0 : List Int) : runS tt (impl_Board_mean_impl_Board_chance_f1_3_tab F) (impl_Board_mean_impl_Board_chance_f1_3_LS1 F) [] [] Try.f77 (bodyOf Try.f77) 70 [(.ints 16 b0), (.fn 78 [] [(.ptr 0 0 0 1)])] [(.var 1 (.rv [(.fn 51 [] [])]))] = impl_Board_mean_impl_Board_chance_f1_3_c _ F b0 (fun r => some ⟨(.ints 2 r), [(.var 1 (.rv [(.fn 51 [] [])]))], []⟩) := by kernel_rfl
def impl_Board_mean_impl_Board_chance_f1_3_ent (F : Nat) : Ent := ⟨[], .quiet, fun args mem => match args, mem with
  | [(.ints 16 b0), (.fn 78 [] [(.ptr 0 0 0 1)])], [(.var 1 (.rv [(.fn 51 [] [])]))] => some ((impl_Board_mean_impl_Board_chance_f1_3_p F b0).isSome, ⟨(.ints 2 ((impl_Board_mean_impl_Board_chance_f1_3_p F b0).getD default)), [], []⟩)
  | _, _ => none⟩
theorem impl_Board_mean_impl_Board_chance_f1_3_fok : FunOK Try.prog 77 := funOK Try.func77 (by kernel_rfl) rfl
theorem impl_Board_mean_impl_Board_chance_f1_3_meets (F : Nat) : Meets Try.prog 77 (impl_Board_mean_impl_Board_chance_f1_3_ent F) := by
  refine meets_of_runS mixed ttok deep (impl_Board_mean_impl_Board_chance_f1_3_tabok F) Try.func77 (body_some rfl) (impl_Board_mean_impl_Board_chance_f1_3_lsok1 F) fun args mem hfit ret h => ?_
  clear hfit
  simp only [impl_Board_mean_impl_Board_chance_f1_3_ent] at h
  split at h
  · rename_i b0
    simp only [Option.some.injEq, Prod.mk.injEq] at h
    obtain ⟨hc, rfl⟩ := h
    exact ⟨[], [], 70, _, (impl_Board_mean_impl_Board_chance_f1_3_run F b0).trans ((impl_Board_mean_impl_Board_chance_f1_3_cp _ F b0 _).trans (bind_use hc _)), rfl, rfl, rfl⟩
  · cases h

/-! (loop.example/g01194/impl.Board).chance -/
noncomputable def impl_Board_chance_impl_Board_scores_tab (F : Nat) : Tab := [(75, (impl_Board_isMove_ent F)), (76, (impl_Board_slides_ent F)), (77, (impl_Board_mean_impl_Board_chance_f1_3_ent F))]
theorem impl_Board_chance_impl_Board_scores_tabok (F : Nat) : TabOK Try.prog (impl_Board_chance_impl_Board_scores_tab F) := (tab_cons (impl_Board_isMove_meets F) impl_Board_isMove_fok (tab_cons (impl_Board_slides_meets F) impl_Board_slides_fok (tab_cons (impl_Board_mean_impl_Board_chance_f1_3_meets F) impl_Board_mean_impl_Board_chance_f1_3_fok tab_nil)))
noncomputable def impl_Board_chance_impl_Board_scores_LS0 (F : Nat) : LT := []
theorem impl_Board_chance_impl_Board_scores_lsok0 (F : Nat) : LoopsOK Try.prog (impl_Board_chance_impl_Board_scores_LS0 F) (bodyOf Try.f41) := loopsOK_nil
theorem impl_Board_chance_impl_Board_scores_run (F : Nat) (b0 : List Int) (direction1 : Int) : runS tt (impl_Board_chance_impl_Board_scores_tab F) (impl_Board_chance_impl_Board_scores_LS0 F) [] [] Try.f41 (bodyOf Try.f41) 70 [(.ints 16 b0), (.int .i64 direction1), (.fn 51 [] [])] [] = impl_Board_chance_impl_Board_scores_c _ F b0 direction1 (fun r => some ⟨(.tup [(.ints 2 r.1), (.bool r.2)]), [], []⟩) := by kernel_rfl
def impl_Board_chance_impl_Board_scores_ent (F : Nat) : Ent := ⟨[], .quiet, fun args mem => match args, mem with
  | [(.ints 16 b0), (.int .i64 direction1), (.fn 51 [] [])], [] => some ((impl_Board_chance_impl_Board_scores_p F b0 direction1).isSome, ⟨(.tup [(.ints 2 ((impl_Board_chance_impl_Board_scores_p F b0 direction1).getD default).1), (.bool ((impl_Board_chance_impl_Board_scores_p F b0 direction1).getD default).2)]), [], []⟩)
  | _, _ => none⟩
theorem impl_Board_chance_impl_Board_scores_fok : FunOK Try.prog 41 := funOK Try.func41 (by kernel_rfl) rfl
theorem impl_Board_chance_impl_Board_scores_meets (F : Nat) : Meets Try.prog 41 (impl_Board_chance_impl_Board_scores_ent F) := by
  refine meets_of_runS mixed ttok deep (impl_Board_chance_impl_Board_scores_tabok F) Try.func41 (body_some rfl) (impl_Board_chance_impl_Board_scores_lsok0 F) fun args mem hfit ret h => ?_
  clear hfit
  simp only [impl_Board_chance_impl_Board_scores_ent] at h
  split at h
  · rename_i b0 direction1
    simp only [Option.some.injEq, Prod.mk.injEq] at h
    obtain ⟨hc, rfl⟩ := h
    exact ⟨[], [], 70, _, (impl_Board_chance_impl_Board_scores_run F b0 direction1).trans ((impl_Board_chance_impl_Board_scores_cp _ F b0 direction1 _).trans (bind_use hc _)), rfl, rfl, rfl⟩
  · cases h

/-! loop.example/g01194/impl.MergeChance -/
noncomputable def impl_MergeChance_tab (F : Nat) : Tab := [(41, (impl_Board_chance_impl_Board_scores_ent F))]
theorem impl_MergeChance_tabok (F : Nat) : TabOK Try.prog (impl_MergeChance_tab F) := (tab_cons (impl_Board_chance_impl_Board_scores_meets F) impl_Board_chance_impl_Board_scores_fok tab_nil)
noncomputable def impl_MergeChance_LS0 (F : Nat) : LT := []
theorem impl_MergeChance_lsok0 (F : Nat) : LoopsOK Try.prog (impl_MergeChance_LS0 F) (bodyOf Try.f18) := loopsOK_nil
theorem impl_MergeChance_run (F : Nat) (b0 : List Int) (direction1 : Int) : runS tt (impl_MergeChance_tab F) (impl_MergeChance_LS0 F) [] [] Try.f18 (bodyOf Try.f18) 70 [(.ints 16 b0), (.int .i64 direction1)] [] = impl_MergeChance_c _ F b0 direction1 (fun r => some ⟨(.tup [(.ints 2 r.1), (.bool r.2)]), [], []⟩) := by kernel_rfl
def impl_MergeChance_ent (F : Nat) : Ent := ⟨[], .quiet, fun args mem => match args, mem with
  | [(.ints 16 b0), (.int .i64 direction1)], [] => some ((impl_MergeChance_p F b0 direction1).isSome, ⟨(.tup [(.ints 2 ((impl_MergeChance_p F b0 direction1).getD default).1), (.bool ((impl_MergeChance_p F b0 direction1).getD default).2)]), [], []⟩)
  | _, _ => none⟩
theorem impl_MergeChance_fok : FunOK Try.prog 18 := funOK Try.func18 (by kernel_rfl) rfl
theorem impl_MergeChance_meets (F : Nat) : Meets Try.prog 18 (impl_MergeChance_ent F) := by
  refine meets_of_runS mixed ttok deep (impl_MergeChance_tabok F) Try.func18 (body_some rfl) (impl_MergeChance_lsok0 F) fun args mem hfit ret h => ?_
  clear hfit
  simp only [impl_MergeChance_ent] at h
  split at h
  · rename_i b0 direction1
    simp only [Option.some.injEq, Prod.mk.injEq] at h
    obtain ⟨hc, rfl⟩ := h
    exact ⟨[], [], 70, _, (impl_MergeChance_run F b0 direction1).trans ((impl_MergeChance_cp _ F b0 direction1 _).trans (bind_use hc _)), rfl, rfl, rfl⟩
  · cases h

/-! loop.example/g01194/laws.FnExactMergeChance -/
noncomputable def laws_FnExactMergeChance_tab (F : Nat) : Tab := [(11, (laws_toBoard_ent F)), (17, (spec_MergeChance_ent F)), (18, (impl_MergeChance_ent F)), (13, (laws_eqIntA2_ent F))]
theorem laws_FnExactMergeChance_tabok (F : Nat) : TabOK Try.prog (laws_FnExactMergeChance_tab F) := (tab_cons (laws_toBoard_meets F) laws_toBoard_fok (tab_cons (spec_MergeChance_meets F) spec_MergeChance_fok (tab_cons (impl_MergeChance_meets F) impl_MergeChance_fok (tab_cons (laws_eqIntA2_meets F) laws_eqIntA2_fok tab_nil))))
noncomputable def laws_FnExactMergeChance_LS0 (F : Nat) : LT := []
theorem laws_FnExactMergeChance_lsok0 (F : Nat) : LoopsOK Try.prog (laws_FnExactMergeChance_LS0 F) (bodyOf Try.f5) := loopsOK_nil
theorem laws_FnExactMergeChance_run (F : Nat) (aB0 : List Int) (aDirection1 : Int) : runS tt (laws_FnExactMergeChance_tab F) (laws_FnExactMergeChance_LS0 F) [] [] Try.f5 (bodyOf Try.f5) 70 [(.ints 16 aB0), (.int .i64 aDirection1)] [] = laws_FnExactMergeChance_c _ F aB0 aDirection1 (fun r => some ⟨(.bool r), [], []⟩) := by kernel_rfl
def laws_FnExactMergeChance_ent (F : Nat) : Ent := ⟨[], .quiet, fun args mem => match args, mem with
  | [(.ints 16 aB0), (.int .i64 aDirection1)], [] => some ((laws_FnExactMergeChance_p F aB0 aDirection1).isSome, ⟨(.bool ((laws_FnExactMergeChance_p F aB0 aDirection1).getD default)), [], []⟩)
  | _, _ => none⟩
theorem laws_FnExactMergeChance_fok : FunOK Try.prog 5 := funOK Try.func5 (by kernel_rfl) rfl
theorem laws_FnExactMergeChance_meets (F : Nat) : Meets Try.prog 5 (laws_FnExactMergeChance_ent F) := by
  refine meets_of_runS mixed ttok deep (laws_FnExactMergeChance_tabok F) Try.func5 (body_some rfl) (laws_FnExactMergeChance_lsok0 F) fun args mem hfit ret h => ?_
  clear hfit
  simp only [laws_FnExactMergeChance_ent] at h
  split at h
  · rename_i aB0 aDirection1
    simp only [Option.some.injEq, Prod.mk.injEq] at h
    obtain ⟨hc, rfl⟩ := h
    exact ⟨[], [], 70, _, (laws_FnExactMergeChance_run F aB0 aDirection1).trans ((laws_FnExactMergeChance_cp _ F aB0 aDirection1 _).trans (bind_use hc _)), rfl, rfl, rfl⟩
  · cases h

/-! loop.example/g01194/spec.l2Moves -/
noncomputable def spec_l2Moves_tab (F : Nat) : Tab := [(67, (spec_l2Slide_ent F))]
theorem spec_l2Moves_tabok (F : Nat) : TabOK Try.prog (spec_l2Moves_tab F) := (tab_cons (spec_l2Slide_meets F) spec_l2Slide_fok tab_nil)
noncomputable def spec_l2Moves_LS0 (F : Nat) : LT := []
theorem spec_l2Moves_lsok0 (F : Nat) : LoopsOK Try.prog (spec_l2Moves_LS0 F) (bodyOf Try.f52) := loopsOK_nil
theorem spec_l2Moves_keys : keysOK (bodyOf Try.f52) = true := by kernel_rfl
def spec_l2Moves_st3 (b6 : List Int) (d5 : Int) (out7 : List Int) : St := ⟨expand 26 0 [1, 3, 4] [(.ptr 0 0 0 16), (.sl 1 0 (List.length out7)), (.int .i64 d5)], [(.var 16 (.ri .i64 b6)), (.vec 3 (.ri .i64 out7))], 0, []⟩
def spec_l2Moves_o3 (b6 : List Int) (x : List Int) : GT := (.out (.exit 0 ⟨expand 26 0 [3] [(.sl 0 0 (List.length x))], [(.vec 3 (.ri .i64 x))], 0, []⟩))
def spec_l2Moves_ls3 (F : Nat) : LoopS := ⟨26, [1, 3, 4], [], [3], [], [2], [], [], fun vals mem np killed => match vals, mem, np, killed with
  | [(.ptr 0 0 0 16), (.sl 1 0 q_out4), (.int .i64 d5)], [(.var 16 (.ri .i64 b6)), (.vec 3 (.ri .i64 out7))], 0, [] => .br ((Nat.beq q_out4 (List.length out7)) && (spec_l2Moves_l3 F b6 d5 out7).isSome) (spec_l2Moves_o3 b6 ((spec_l2Moves_l3 F b6 d5 out7).getD default)) .fail
  | _, _, _, _ => .fail⟩
theorem spec_l2Moves_step3 (F : Nat) (b6 : List Int) (d5 : Int) (out7 : List Int) {R : Type} (k : Out → Option R) : stepS tt (spec_l2Moves_tab F) (spec_l2Moves_LS0 F) 70 (spec_l2Moves_ls3 F) (loopAt 3 (bodyOf Try.f52)) (spec_l2Moves_st3 b6 d5 out7) k = spec_l2Moves_s3 F b6 R (d5, out7) (fun s => k (.norm (spec_l2Moves_st3 b6 s.1 s.2))) (fun x => (spec_l2Moves_o3 b6 x).run k) := by kernel_rfl
theorem spec_l2Moves_iter3 (F : Nat) (b6 : List Int) {R : Type} (k : Out → Option R) : ∀ (n : Nat) (d5 : Int) (out7 : List Int), iterS tt (spec_l2Moves_tab F) (spec_l2Moves_LS0 F) 70 (spec_l2Moves_ls3 F) (loopAt 3 (bodyOf Try.f52)) n (spec_l2Moves_st3 b6 d5 out7) k = loopC (spec_l2Moves_s3 F b6) n (d5, out7) (fun x => (spec_l2Moves_o3 b6 x).run k)
  | 0, d5, out7 => rfl
  | n + 1, d5, out7 => (iterS_succ tt (spec_l2Moves_tab F) (spec_l2Moves_LS0 F) 70 (spec_l2Moves_ls3 F) (loopAt 3 (bodyOf Try.f52)) n (spec_l2Moves_st3 b6 d5 out7) k).trans ((spec_l2Moves_step3 F b6 d5 out7 (nextK (iterS tt (spec_l2Moves_tab F) (spec_l2Moves_LS0 F) 70 (spec_l2Moves_ls3 F) (loopAt 3 (bodyOf Try.f52)) n) k)).trans (congrArg (fun kn => spec_l2Moves_s3 F b6 R (d5, out7) kn _) (funext (fun ⟨d5, out7⟩ => spec_l2Moves_iter3 F b6 k n d5 out7))))
theorem spec_l2Moves_lok3 (F : Nat) : LoopOK Try.prog (loopAt 3 (bodyOf Try.f52)) (spec_l2Moves_ls3 F) := by
  refine loopOK_of mixed ttok deep (spec_l2Moves_tabok F) (loopsOK_at (spec_l2Moves_lsok0 F) 3) (fuel := 70) fun R vals mem np killed k x h => ?_
  simp only [spec_l2Moves_ls3] at h
  split at h
  · rename_i q_out4 d5 b6 out7
    simp only [GT.run] at h
    have hc := (cond_noneL h).1
    replace h := (cond_noneL h).2
    have hg := (and_split hc).1
    replace hc := (and_split hc).2
    obtain rfl := nbeq_nat hg
    refine ⟨F, (spec_l2Moves_iter3 F b6 k F d5 out7).trans ((loopC_use (spec_l2Moves_s3_nat F b6) hc _).trans h)⟩
  · simp only [GT.run] at h
    cases h
noncomputable def spec_l2Moves_LS1 (F : Nat) : LT := (3, spec_l2Moves_ls3 F) :: spec_l2Moves_LS0 F
theorem spec_l2Moves_lsok1 (F : Nat) : LoopsOK Try.prog (spec_l2Moves_LS1 F) (bodyOf Try.f52) := loopsOK_cons spec_l2Moves_keys (spec_l2Moves_lok3 F) (spec_l2Moves_lsok0 F)
theorem spec_l2Moves_run (F : Nat) (b0 : List Int) : runS tt (spec_l2Moves_tab F) (spec_l2Moves_LS1 F) [] [] Try.f52 (bodyOf Try.f52) 70 [(.ints 16 b0)] [] = spec_l2Moves_c _ F b0 (fun r => some ⟨(.sl 0 0 (List.length r)), [(.vec 3 (.ri .i64 r))], []⟩) := by kernel_rfl
def spec_l2Moves_ent (F : Nat) : Ent := ⟨[], .fresh, fun args mem => match args, mem with
  | [(.ints 16 b0)], [] => some ((spec_l2Moves_p F b0).isSome, ⟨(.sl 0 0 (List.length ((spec_l2Moves_p F b0).getD default))), [(.vec 3 (.ri .i64 ((spec_l2Moves_p F b0).getD default)))], []⟩)
  | _, _ => none⟩
theorem spec_l2Moves_fok : FunOK Try.prog 52 := funOK Try.func52 (by kernel_rfl) rfl
theorem spec_l2Moves_meets (F : Nat) : Meets Try.prog 52 (spec_l2Moves_ent F) := by
  refine meets_of_runS mixed ttok deep (spec_l2Moves_tabok F) Try.func52 (body_some rfl) (spec_l2Moves_lsok1 F) fun args mem hfit ret h => ?_
  clear hfit
  simp only [spec_l2Moves_ent] at h
  split at h
  · rename_i b0
    simp only [Option.some.injEq, Prod.mk.injEq] at h
    obtain ⟨hc, rfl⟩ := h
    exact ⟨[], [], 70, _, (spec_l2Moves_run F b0).trans ((spec_l2Moves_cp _ F b0 _).trans (bind_use hc _)), rfl, rfl, rfl⟩
  · cases h
end Go.Proofs.Ytgpadaadcepgaaa
