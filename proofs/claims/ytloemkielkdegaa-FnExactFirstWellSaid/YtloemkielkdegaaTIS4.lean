/-
Pure functions and what the code of them does, by program; without conditions.
-/
import Derived.Test.YtloemkielkdegaaTIP4
import Derived.Test.YtloemkielkdegaaTIS3
namespace Go.Proofs.Ytloemkielkdegaa
open Go Go.Lv Go.Lv.P Go.Proofs
set_option linter.unusedVariables false
set_option linter.unusedSimpArgs false
set_option maxRecDepth 100000
/-! (loop.example/g01194/impl.Board).meanScore$1$1 -/
noncomputable def impl_Board_meanScore_f1_f1_n2_tab (F : Nat) : Tab := [(23, (impl_Board_meanScore_n1_ent F))]
theorem impl_Board_meanScore_f1_f1_n2_tabok (F : Nat) : TabOK Try.prog (impl_Board_meanScore_f1_f1_n2_tab F) := (tab_cons (impl_Board_meanScore_n1_meets F) impl_Board_meanScore_n1_fok tab_nil)
noncomputable def impl_Board_meanScore_f1_f1_n2_LS0 (F : Nat) : LT := []
theorem impl_Board_meanScore_f1_f1_n2_lsok0 (F : Nat) : LoopsOK Try.prog (impl_Board_meanScore_f1_f1_n2_LS0 F) (bodyOf Try.f50) := loopsOK_nil
theorem impl_Board_meanScore_f1_f1_n2_run (F : Nat) (own0 : List Int) : runS tt (impl_Board_meanScore_f1_f1_n2_tab F) (impl_Board_meanScore_f1_f1_n2_LS0 F) [] [] Try.f50 (bodyOf Try.f50) 70 [(.ints 16 own0), (.ptr 0 0 0 1)] [(.var 1 (.ri .i64 [(2 : Int)]))] = impl_Board_meanScore_f1_f1_n2_c _ F own0 (fun r => some ⟨(.ints 2 r), [(.var 1 (.ri .i64 [(2 : Int)]))], []⟩) := by kernel_rfl
def impl_Board_meanScore_f1_f1_n2_ent (F : Nat) : Ent := ⟨[], .quiet, fun args mem => match args, mem with
  | [(.ints 16 own0), (.ptr 0 0 0 1)], [(.var 1 (.ri .i64 q_a14))] => bif (q_a14 == ([(2 : Int)] : List Int)) then some ((impl_Board_meanScore_f1_f1_n2_p F own0).isSome, ⟨(.ints 2 ((impl_Board_meanScore_f1_f1_n2_p F own0).getD default)), [], []⟩) else none
  | _, _ => none⟩
theorem impl_Board_meanScore_f1_f1_n2_fok : FunOK Try.prog 50 := funOK Try.func50 (by kernel_rfl) rfl
theorem impl_Board_meanScore_f1_f1_n2_meets (F : Nat) : Meets Try.prog 50 (impl_Board_meanScore_f1_f1_n2_ent F) := by
  refine meets_of_runS mixed ttok deep (impl_Board_meanScore_f1_f1_n2_tabok F) Try.func50 (body_some rfl) (impl_Board_meanScore_f1_f1_n2_lsok0 F) fun args mem hfit ret h => ?_
  clear hfit
  simp only [impl_Board_meanScore_f1_f1_n2_ent] at h
  split at h
  · rename_i own0 q_a14
    have hg0 := (cond_noneL h).1
    replace h := (cond_noneL h).2
    obtain rfl := beq_li hg0
    simp only [Option.some.injEq, Prod.mk.injEq] at h
    obtain ⟨hc, rfl⟩ := h
    exact ⟨[], [], 70, _, (impl_Board_meanScore_f1_f1_n2_run F own0).trans ((impl_Board_meanScore_f1_f1_n2_cp _ F own0 _).trans (bind_use hc _)), rfl, rfl, rfl⟩
  · cases h

/-! loop.example/g01194/impl.fraction -/
noncomputable def impl_fraction_tab (F : Nat) : Tab := []
theorem impl_fraction_tabok (F : Nat) : TabOK Try.prog (impl_fraction_tab F) := tab_nil
noncomputable def impl_fraction_LS0 (F : Nat) : LT := []
theorem impl_fraction_lsok0 (F : Nat) : LoopsOK Try.prog (impl_fraction_LS0 F) (bodyOf Try.f72) := loopsOK_nil
theorem impl_fraction_keys : keysOK (bodyOf Try.f72) = true := by kernel_rfl
def impl_fraction_st2 (num0 : Int) (den1 : Int) (a5 : Int) (b6 : Int) : St := ⟨expand 22 0 [0, 1, 4, 5, 6] [(.int .i64 num0), (.int .i64 den1), (.ptr 0 0 0 2), (.int .i64 a5), (.int .i64 b6)], [(.var 2 (.ri .i64 [(0 : Int), (0 : Int)]))], 0, []⟩
def impl_fraction_o2 (num0 : Int) (den1 : Int) (x : Int) : GT := (.out (.exit 0 ⟨expand 22 0 [0, 1, 4, 5] [(.int .i64 num0), (.int .i64 den1), (.ptr 0 0 0 2), (.int .i64 x)], [(.var 2 (.ri .i64 [(0 : Int), (0 : Int)]))], 0, []⟩))
def impl_fraction_ls2 (F : Nat) : LoopS := ⟨22, [0, 1, 4, 5, 6], [], [0, 1, 4, 5], [], [4], [], [], fun vals mem np killed => match vals, mem, np, killed with
  | [(.int .i64 num0), (.int .i64 den1), (.ptr 0 0 0 2), (.int .i64 a5), (.int .i64 b6)], [(.var 2 (.ri .i64 q_t47))], 0, [] => .br ((q_t47 == ([(0 : Int), (0 : Int)] : List Int)) && (impl_fraction_l2 F num0 den1 a5 b6).isSome) (impl_fraction_o2 num0 den1 ((impl_fraction_l2 F num0 den1 a5 b6).getD default)) .fail
  | _, _, _, _ => .fail⟩
theorem impl_fraction_step2 (F : Nat) (num0 : Int) (den1 : Int) (a5 : Int) (b6 : Int) {R : Type} (k : Out → Option R) : stepS tt (impl_fraction_tab F) (impl_fraction_LS0 F) 70 (impl_fraction_ls2 F) (loopAt 2 (bodyOf Try.f72)) (impl_fraction_st2 num0 den1 a5 b6) k = impl_fraction_s2 F num0 den1 R (a5, b6) (fun s => k (.norm (impl_fraction_st2 num0 den1 s.1 s.2))) (fun x => (impl_fraction_o2 num0 den1 x).run k) := by kernel_rfl
theorem impl_fraction_iter2 (F : Nat) (num0 : Int) (den1 : Int) {R : Type} (k : Out → Option R) : ∀ (n : Nat) (a5 : Int) (b6 : Int), iterS tt (impl_fraction_tab F) (impl_fraction_LS0 F) 70 (impl_fraction_ls2 F) (loopAt 2 (bodyOf Try.f72)) n (impl_fraction_st2 num0 den1 a5 b6) k = loopC (impl_fraction_s2 F num0 den1) n (a5, b6) (fun x => (impl_fraction_o2 num0 den1 x).run k)
  | 0, a5, b6 => rfl
  | n + 1, a5, b6 => (iterS_succ tt (impl_fraction_tab F) (impl_fraction_LS0 F) 70 (impl_fraction_ls2 F) (loopAt 2 (bodyOf Try.f72)) n (impl_fraction_st2 num0 den1 a5 b6) k).trans ((impl_fraction_step2 F num0 den1 a5 b6 (nextK (iterS tt (impl_fraction_tab F) (impl_fraction_LS0 F) 70 (impl_fraction_ls2 F) (loopAt 2 (bodyOf Try.f72)) n) k)).trans (congrArg (fun kn => impl_fraction_s2 F num0 den1 R (a5, b6) kn _) (funext (fun ⟨a5, b6⟩ => impl_fraction_iter2 F num0 den1 k n a5 b6))))
theorem impl_fraction_lok2 (F : Nat) : LoopOK Try.prog (loopAt 2 (bodyOf Try.f72)) (impl_fraction_ls2 F) := by
  refine loopOK_of mixed ttok deep (impl_fraction_tabok F) (loopsOK_at (impl_fraction_lsok0 F) 2) (fuel := 70) fun R vals mem np killed k x h => ?_
  simp only [impl_fraction_ls2] at h
  split at h
  · rename_i num0 den1 a5 b6 q_t47
    simp only [GT.run] at h
    have hc := (cond_noneL h).1
    replace h := (cond_noneL h).2
    have hg := (and_split hc).1
    replace hc := (and_split hc).2
    obtain rfl := beq_li hg
    refine ⟨F, (impl_fraction_iter2 F num0 den1 k F a5 b6).trans ((loopC_use (impl_fraction_s2_nat F num0 den1) hc _).trans h)⟩
  · simp only [GT.run] at h
    cases h
noncomputable def impl_fraction_LS1 (F : Nat) : LT := (2, impl_fraction_ls2 F) :: impl_fraction_LS0 F
theorem impl_fraction_lsok1 (F : Nat) : LoopsOK Try.prog (impl_fraction_LS1 F) (bodyOf Try.f72) := loopsOK_cons impl_fraction_keys (impl_fraction_lok2 F) (impl_fraction_lsok0 F)
theorem impl_fraction_run (F : Nat) (num0 : Int) (den1 : Int) : runS tt (impl_fraction_tab F) (impl_fraction_LS1 F) [] [] Try.f72 (bodyOf Try.f72) 70 [(.int .i64 num0), (.int .i64 den1)] [] = impl_fraction_c _ F num0 den1 (fun r => some ⟨(.ints 2 r), [], []⟩) := by kernel_rfl
def impl_fraction_ent (F : Nat) : Ent := ⟨[], .quiet, fun args mem => match args, mem with
  | [(.int .i64 num0), (.int .i64 den1)], [] => some ((impl_fraction_p F num0 den1).isSome, ⟨(.ints 2 ((impl_fraction_p F num0 den1).getD default)), [], []⟩)
  | _, _ => none⟩
theorem impl_fraction_fok : FunOK Try.prog 72 := funOK Try.func72 (by kernel_rfl) rfl
theorem impl_fraction_meets (F : Nat) : Meets Try.prog 72 (impl_fraction_ent F) := by
  refine meets_of_runS mixed ttok deep (impl_fraction_tabok F) Try.func72 (body_some rfl) (impl_fraction_lsok1 F) fun args mem hfit ret h => ?_
  clear hfit
  simp only [impl_fraction_ent] at h
  split at h
  · rename_i num0 den1
    simp only [Option.some.injEq, Prod.mk.injEq] at h
    obtain ⟨hc, rfl⟩ := h
    exact ⟨[], [], 70, _, (impl_fraction_run F num0 den1).trans ((impl_fraction_cp _ F num0 den1 _).trans (bind_use hc _)), rfl, rfl, rfl⟩
  · cases h

/-! loop.example/g01194/impl.plus -/
noncomputable def impl_plus_tab (F : Nat) : Tab := [(72, (impl_fraction_ent F))]
theorem impl_plus_tabok (F : Nat) : TabOK Try.prog (impl_plus_tab F) := (tab_cons (impl_fraction_meets F) impl_fraction_fok tab_nil)
noncomputable def impl_plus_LS0 (F : Nat) : LT := []
theorem impl_plus_lsok0 (F : Nat) : LoopsOK Try.prog (impl_plus_LS0 F) (bodyOf Try.f48) := loopsOK_nil
theorem impl_plus_run (F : Nat) (a0 : List Int) (b1 : List Int) : runS tt (impl_plus_tab F) (impl_plus_LS0 F) [] [] Try.f48 (bodyOf Try.f48) 70 [(.ints 2 a0), (.ints 2 b1)] [] = impl_plus_c _ F a0 b1 (fun r => some ⟨(.ints 2 r), [], []⟩) := by kernel_rfl
def impl_plus_ent (F : Nat) : Ent := ⟨[], .quiet, fun args mem => match args, mem with
  | [(.ints 2 a0), (.ints 2 b1)], [] => some ((impl_plus_p F a0 b1).isSome, ⟨(.ints 2 ((impl_plus_p F a0 b1).getD default)), [], []⟩)
  | _, _ => none⟩
theorem impl_plus_fok : FunOK Try.prog 48 := funOK Try.func48 (by kernel_rfl) rfl
theorem impl_plus_meets (F : Nat) : Meets Try.prog 48 (impl_plus_ent F) := by
  refine meets_of_runS mixed ttok deep (impl_plus_tabok F) Try.func48 (body_some rfl) (impl_plus_lsok0 F) fun args mem hfit ret h => ?_
  clear hfit
  simp only [impl_plus_ent] at h
  split at h
  · rename_i a0 b1
    simp only [Option.some.injEq, Prod.mk.injEq] at h
    obtain ⟨hc, rfl⟩ := h
    exact ⟨[], [], 70, _, (impl_plus_run F a0 b1).trans ((impl_plus_cp _ F a0 b1 _).trans (bind_use hc _)), rfl, rfl, rfl⟩
  · cases h

/-! (loop.example/g01194/impl.Board).mean -/
noncomputable def impl_Board_mean_impl_Board_meanScore_f1_f1_n2_tab (F : Nat) : Tab := [(73, (impl_Board_placements_ent F)), (74, (impl_Board_placed_ent F)), (50, (impl_Board_meanScore_f1_f1_n2_ent F)), (72, (impl_fraction_ent F)), (48, (impl_plus_ent F)), (75, (impl_Board_empty_ent F))]
theorem impl_Board_mean_impl_Board_meanScore_f1_f1_n2_tabok (F : Nat) : TabOK Try.prog (impl_Board_mean_impl_Board_meanScore_f1_f1_n2_tab F) := (tab_cons (impl_Board_placements_meets F) impl_Board_placements_fok (tab_cons (impl_Board_placed_meets F) impl_Board_placed_fok (tab_cons (impl_Board_meanScore_f1_f1_n2_meets F) impl_Board_meanScore_f1_f1_n2_fok (tab_cons (impl_fraction_meets F) impl_fraction_fok (tab_cons (impl_plus_meets F) impl_plus_fok (tab_cons (impl_Board_empty_meets F) impl_Board_empty_fok tab_nil))))))
noncomputable def impl_Board_mean_impl_Board_meanScore_f1_f1_n2_LS0 (F : Nat) : LT := []
theorem impl_Board_mean_impl_Board_meanScore_f1_f1_n2_lsok0 (F : Nat) : LoopsOK Try.prog (impl_Board_mean_impl_Board_meanScore_f1_f1_n2_LS0 F) (bodyOf Try.f49) := loopsOK_nil
theorem impl_Board_mean_impl_Board_meanScore_f1_f1_n2_keys : keysOK (bodyOf Try.f49) = true := by kernel_rfl
def impl_Board_mean_impl_Board_meanScore_f1_f1_n2_st3 (t1314 : Int) (b17 : List Int) (t1220 : List (List Int)) (t1415 : Int) (sum19 : List Int) : St := ⟨expand 46 0 [1, 2, 4, 5, 12, 13, 14] [(.fn 50 [] [(.ptr 0 0 0 1)]), (.ptr 1 0 0 16), (.ptr 2 0 0 2), (.ptr 3 0 0 2), (.sl 4 0 (List.length t1220)), (.int .i64 t1314), (.int .i64 t1415)], [(.var 1 (.ri .i64 [(2 : Int)])), (.var 16 (.ri .i64 b17)), (.var 2 (.ri .i64 [(0 : Int), (0 : Int)])), (.var 2 (.ri .i64 sum19)), (.vec 95 (.rr 3 t1220))], 1, []⟩
def impl_Board_mean_impl_Board_meanScore_f1_f1_n2_o3 (t1314 : Int) (b17 : List Int) (t1220 : List (List Int)) (x : List Int) : GT := (.out (.exit 0 ⟨expand 46 0 [2, 4, 5] [(.ptr 1 0 0 16), (.ptr 2 0 0 2), (.ptr 3 0 0 2)], [(.var 1 (.ri .i64 [(2 : Int)])), (.var 16 (.ri .i64 b17)), (.var 2 (.ri .i64 [(0 : Int), (0 : Int)])), (.var 2 (.ri .i64 x))], 1, []⟩))
def impl_Board_mean_impl_Board_meanScore_f1_f1_n2_ls3 (F : Nat) : LoopS := ⟨46, [1, 2, 4, 5, 12, 13, 14], [], [2, 4, 5], [], [4], [], [], fun vals mem np killed => match vals, mem, np, killed with
  | [(.fn 50 [] [(.ptr 0 0 0 1)]), (.ptr 1 0 0 16), (.ptr 2 0 0 2), (.ptr 3 0 0 2), (.sl 4 0 q_t1213), (.int .i64 t1314), (.int .i64 t1415)], [(.var 1 (.ri .i64 q_of16)), (.var 16 (.ri .i64 b17)), (.var 2 (.ri .i64 q_t418)), (.var 2 (.ri .i64 sum19)), (.vec 95 (.rr 3 t1220))], 1, [] => .br ((q_of16 == ([(2 : Int)] : List Int)) && ((q_t418 == ([(0 : Int), (0 : Int)] : List Int)) && ((Nat.beq q_t1213 (List.length t1220)) && (impl_Board_mean_impl_Board_meanScore_f1_f1_n2_l3 F t1314 b17 t1220 t1415 sum19).isSome))) (impl_Board_mean_impl_Board_meanScore_f1_f1_n2_o3 t1314 b17 t1220 ((impl_Board_mean_impl_Board_meanScore_f1_f1_n2_l3 F t1314 b17 t1220 t1415 sum19).getD default)) .fail
  | _, _, _, _ => .fail⟩
theorem impl_Board_mean_impl_Board_meanScore_f1_f1_n2_step3 (F : Nat) (t1314 : Int) (b17 : List Int) (t1220 : List (List Int)) (t1415 : Int) (sum19 : List Int) {R : Type} (k : Out → Option R) : stepS tt (impl_Board_mean_impl_Board_meanScore_f1_f1_n2_tab F) (impl_Board_mean_impl_Board_meanScore_f1_f1_n2_LS0 F) 70 (impl_Board_mean_impl_Board_meanScore_f1_f1_n2_ls3 F) (loopAt 3 (bodyOf Try.f49)) (impl_Board_mean_impl_Board_meanScore_f1_f1_n2_st3 t1314 b17 t1220 t1415 sum19) k = impl_Board_mean_impl_Board_meanScore_f1_f1_n2_s3 F t1314 b17 t1220 R (t1415, sum19) (fun s => k (.norm (impl_Board_mean_impl_Board_meanScore_f1_f1_n2_st3 t1314 b17 t1220 s.1 s.2))) (fun x => (impl_Board_mean_impl_Board_meanScore_f1_f1_n2_o3 t1314 b17 t1220 x).run k) := by kernel_rfl
theorem impl_Board_mean_impl_Board_meanScore_f1_f1_n2_iter3 (F : Nat) (t1314 : Int) (b17 : List Int) (t1220 : List (List Int)) {R : Type} (k : Out → Option R) : ∀ (n : Nat) (t1415 : Int) (sum19 : List Int), iterS tt (impl_Board_mean_impl_Board_meanScore_f1_f1_n2_tab F) (impl_Board_mean_impl_Board_meanScore_f1_f1_n2_LS0 F) 70 (impl_Board_mean_impl_Board_meanScore_f1_f1_n2_ls3 F) (loopAt 3 (bodyOf Try.f49)) n (impl_Board_mean_impl_Board_meanScore_f1_f1_n2_st3 t1314 b17 t1220 t1415 sum19) k = loopC (impl_Board_mean_impl_Board_meanScore_f1_f1_n2_s3 F t1314 b17 t1220) n (t1415, sum19) (fun x => (impl_Board_mean_impl_Board_meanScore_f1_f1_n2_o3 t1314 b17 t1220 x).run k)
  | 0, t1415, sum19 => rfl
  | n + 1, t1415, sum19 => (iterS_succ tt (impl_Board_mean_impl_Board_meanScore_f1_f1_n2_tab F) (impl_Board_mean_impl_Board_meanScore_f1_f1_n2_LS0 F) 70 (impl_Board_mean_impl_Board_meanScore_f1_f1_n2_ls3 F) (loopAt 3 (bodyOf Try.f49)) n (impl_Board_mean_impl_Board_meanScore_f1_f1_n2_st3 t1314 b17 t1220 t1415 sum19) k).trans ((impl_Board_mean_impl_Board_meanScore_f1_f1_n2_step3 F t1314 b17 t1220 t1415 sum19 (nextK (iterS tt (impl_Board_mean_impl_Board_meanScore_f1_f1_n2_tab F) (impl_Board_mean_impl_Board_meanScore_f1_f1_n2_LS0 F) 70 (impl_Board_mean_impl_Board_meanScore_f1_f1_n2_ls3 F) (loopAt 3 (bodyOf Try.f49)) n) k)).trans (congrArg (fun kn => impl_Board_mean_impl_Board_meanScore_f1_f1_n2_s3 F t1314 b17 t1220 R (t1415, sum19) kn _) (funext (fun ⟨t1415, sum19⟩ => impl_Board_mean_impl_Board_meanScore_f1_f1_n2_iter3 F t1314 b17 t1220 k n t1415 sum19))))
theorem impl_Board_mean_impl_Board_meanScore_f1_f1_n2_lok3 (F : Nat) : LoopOK Try.prog (loopAt 3 (bodyOf Try.f49)) (impl_Board_mean_impl_Board_meanScore_f1_f1_n2_ls3 F) := by
  refine loopOK_of mixed ttok deep (impl_Board_mean_impl_Board_meanScore_f1_f1_n2_tabok F) (loopsOK_at (impl_Board_mean_impl_Board_meanScore_f1_f1_n2_lsok0 F) 3) (fuel := 70) fun R vals mem np killed k x h => ?_
  simp only [impl_Board_mean_impl_Board_meanScore_f1_f1_n2_ls3] at h
  split at h
  · rename_i q_t1213 t1314 t1415 q_of16 b17 q_t418 sum19 t1220
    simp only [GT.run] at h
    have hc := (cond_noneL h).1
    replace h := (cond_noneL h).2
    have hg := (and_split hc).1
    replace hc := (and_split hc).2
    obtain rfl := beq_li hg
    have hg := (and_split hc).1
    replace hc := (and_split hc).2
    obtain rfl := beq_li hg
    have hg := (and_split hc).1
    replace hc := (and_split hc).2
    obtain rfl := nbeq_nat hg
    refine ⟨F, (impl_Board_mean_impl_Board_meanScore_f1_f1_n2_iter3 F t1314 b17 t1220 k F t1415 sum19).trans ((loopC_use (impl_Board_mean_impl_Board_meanScore_f1_f1_n2_s3_nat F t1314 b17 t1220) hc _).trans h)⟩
  · simp only [GT.run] at h
    cases h
noncomputable def impl_Board_mean_impl_Board_meanScore_f1_f1_n2_LS1 (F : Nat) : LT := (3, impl_Board_mean_impl_Board_meanScore_f1_f1_n2_ls3 F) :: impl_Board_mean_impl_Board_meanScore_f1_f1_n2_LS0 F
theorem impl_Board_mean_impl_Board_meanScore_f1_f1_n2_lsok1 (F : Nat) : LoopsOK Try.prog (impl_Board_mean_impl_Board_meanScore_f1_f1_n2_LS1 F) (bodyOf Try.f49) := loopsOK_cons impl_Board_mean_impl_Board_meanScore_f1_f1_n2_keys (impl_Board_mean_impl_Board_meanScore_f1_f1_n2_lok3 F) (impl_Board_mean_impl_Board_meanScore_f1_f1_n2_lsok0 F)
theorem impl_Board_mean_impl_Board_meanScore_f1_f1_n2_run (F : Nat) (b0 : List Int) : runS tt (impl_Board_mean_impl_Board_meanScore_f1_f1_n2_tab F) (impl_Board_mean_impl_Board_meanScore_f1_f1_n2_LS1 F) [] [] Try.f49 (bodyOf Try.f49) 70 [(.ints 16 b0), (.fn 50 [] [(.ptr 0 0 0 1)])] [(.var 1 (.ri .i64 [(2 : Int)]))] = impl_Board_mean_impl_Board_meanScore_f1_f1_n2_c _ F b0 (fun r => some ⟨(.ints 2 r), [(.var 1 (.ri .i64 [(2 : Int)]))], []⟩) := by kernel_rfl
def impl_Board_mean_impl_Board_meanScore_f1_f1_n2_ent (F : Nat) : Ent := ⟨[], .quiet, fun args mem => match args, mem with
  | [(.ints 16 b0), (.fn 50 [] [(.ptr 0 0 0 1)])], [(.var 1 (.ri .i64 q_of4))] => bif (q_of4 == ([(2 : Int)] : List Int)) then some ((impl_Board_mean_impl_Board_meanScore_f1_f1_n2_p F b0).isSome, ⟨(.ints 2 ((impl_Board_mean_impl_Board_meanScore_f1_f1_n2_p F b0).getD default)), [], []⟩) else none
  | _, _ => none⟩
theorem impl_Board_mean_impl_Board_meanScore_f1_f1_n2_fok : FunOK Try.prog 49 := funOK Try.func49 (by kernel_rfl) rfl
theorem impl_Board_mean_impl_Board_meanScore_f1_f1_n2_meets (F : Nat) : Meets Try.prog 49 (impl_Board_mean_impl_Board_meanScore_f1_f1_n2_ent F) := by
  refine meets_of_runS mixed ttok deep (impl_Board_mean_impl_Board_meanScore_f1_f1_n2_tabok F) Try.func49 (body_some rfl) (impl_Board_mean_impl_Board_meanScore_f1_f1_n2_lsok1 F) fun args mem hfit ret h => ?_
  clear hfit
  simp only [impl_Board_mean_impl_Board_meanScore_f1_f1_n2_ent] at h
  split at h
  · rename_i b0 q_of4
    have hg0 := (cond_noneL h).1
    replace h := (cond_noneL h).2
    obtain rfl := beq_li hg0
    simp only [Option.some.injEq, Prod.mk.injEq] at h
    obtain ⟨hc, rfl⟩ := h
    exact ⟨[], [], 70, _, (impl_Board_mean_impl_Board_meanScore_f1_f1_n2_run F b0).trans ((impl_Board_mean_impl_Board_meanScore_f1_f1_n2_cp _ F b0 _).trans (bind_use hc _)), rfl, rfl, rfl⟩
  · cases h

/-! (loop.example/g01194/impl.Board).meanScore$1 -/
noncomputable def impl_Board_meanScore_f1_n2_tab (F : Nat) : Tab := [(47, (impl_Board_slide_ent F)), (45, (impl_whole_ent F)), (49, (impl_Board_mean_impl_Board_meanScore_f1_f1_n2_ent F)), (48, (impl_plus_ent F))]
theorem impl_Board_meanScore_f1_n2_tabok (F : Nat) : TabOK Try.prog (impl_Board_meanScore_f1_n2_tab F) := (tab_cons (impl_Board_slide_meets F) impl_Board_slide_fok (tab_cons (impl_whole_meets F) impl_whole_fok (tab_cons (impl_Board_mean_impl_Board_meanScore_f1_f1_n2_meets F) impl_Board_mean_impl_Board_meanScore_f1_f1_n2_fok (tab_cons (impl_plus_meets F) impl_plus_fok tab_nil))))
noncomputable def impl_Board_meanScore_f1_n2_LS0 (F : Nat) : LT := []
theorem impl_Board_meanScore_f1_n2_lsok0 (F : Nat) : LoopsOK Try.prog (impl_Board_meanScore_f1_n2_LS0 F) (bodyOf Try.f46) := loopsOK_nil
theorem impl_Board_meanScore_f1_n2_run (F : Nat) (d0 : Int) (a17 : List Int) : runS tt (impl_Board_meanScore_f1_n2_tab F) (impl_Board_meanScore_f1_n2_LS0 F) [] [] Try.f46 (bodyOf Try.f46) 70 [(.int .i64 d0), (.ptr 0 0 0 16), (.ptr 1 0 0 1)] [(.var 16 (.ri .i64 a17)), (.var 1 (.ri .i64 [(2 : Int)]))] = impl_Board_meanScore_f1_n2_c _ F d0 a17 (fun r => some ⟨(.ints 2 r), [(.var 16 (.ri .i64 a17)), (.var 1 (.ri .i64 [(2 : Int)]))], []⟩) := by kernel_rfl
def impl_Board_meanScore_f1_n2_ent (F : Nat) : Ent := ⟨[], .quiet, fun args mem => match args, mem with
  | [(.int .i64 d0), (.ptr 0 0 0 16), (.ptr 1 0 0 1)], [(.var 16 (.ri .i64 a17)), (.var 1 (.ri .i64 q_a28))] => bif (q_a28 == ([(2 : Int)] : List Int)) then some ((impl_Board_meanScore_f1_n2_p F d0 a17).isSome, ⟨(.ints 2 ((impl_Board_meanScore_f1_n2_p F d0 a17).getD default)), [], []⟩) else none
  | _, _ => none⟩
theorem impl_Board_meanScore_f1_n2_fok : FunOK Try.prog 46 := funOK Try.func46 (by kernel_rfl) rfl
theorem impl_Board_meanScore_f1_n2_meets (F : Nat) : Meets Try.prog 46 (impl_Board_meanScore_f1_n2_ent F) := by
  refine meets_of_runS mixed ttok deep (impl_Board_meanScore_f1_n2_tabok F) Try.func46 (body_some rfl) (impl_Board_meanScore_f1_n2_lsok0 F) fun args mem hfit ret h => ?_
  clear hfit
  simp only [impl_Board_meanScore_f1_n2_ent] at h
  split at h
  · rename_i d0 a17 q_a28
    have hg0 := (cond_noneL h).1
    replace h := (cond_noneL h).2
    obtain rfl := beq_li hg0
    simp only [Option.some.injEq, Prod.mk.injEq] at h
    obtain ⟨hc, rfl⟩ := h
    exact ⟨[], [], 70, _, (impl_Board_meanScore_f1_n2_run F d0 a17).trans ((impl_Board_meanScore_f1_n2_cp _ F d0 a17 _).trans (bind_use hc _)), rfl, rfl, rfl⟩
  · cases h

/-! (loop.example/g01194/impl.Board).best -/
noncomputable def impl_Board_best_impl_Board_meanScore_f1_n2_tab (F : Nat) : Tab := [(45, (impl_whole_ent F)), (51, (impl_Board_moves_ent F)), (46, (impl_Board_meanScore_f1_n2_ent F)), (52, (impl_isLess_ent F))]
theorem impl_Board_best_impl_Board_meanScore_f1_n2_tabok (F : Nat) : TabOK Try.prog (impl_Board_best_impl_Board_meanScore_f1_n2_tab F) := (tab_cons (impl_whole_meets F) impl_whole_fok (tab_cons (impl_Board_moves_meets F) impl_Board_moves_fok (tab_cons (impl_Board_meanScore_f1_n2_meets F) impl_Board_meanScore_f1_n2_fok (tab_cons (impl_isLess_meets F) impl_isLess_fok tab_nil))))
noncomputable def impl_Board_best_impl_Board_meanScore_f1_n2_LS0 (F : Nat) : LT := []
theorem impl_Board_best_impl_Board_meanScore_f1_n2_lsok0 (F : Nat) : LoopsOK Try.prog (impl_Board_best_impl_Board_meanScore_f1_n2_LS0 F) (bodyOf Try.f28) := loopsOK_nil
theorem impl_Board_best_impl_Board_meanScore_f1_n2_keys : keysOK (bodyOf Try.f28) = true := by kernel_rfl
def impl_Board_best_impl_Board_meanScore_f1_n2_st3 (t1415 : Int) (of17 : List Int) (t1321 : List Int) (at9 : Int) (t1516 : Int) (most20 : List Int) : St := ⟨expand 34 0 [1, 5, 6, 7, 13, 14, 15] [(.fn 46 [] [(.ptr 0 0 0 16), (.ptr 1 0 0 1)]), (.ptr 2 0 0 2), (.int .i64 at9), (.ptr 3 0 0 2), (.sl 4 0 (List.length t1321)), (.int .i64 t1415), (.int .i64 t1516)], [(.var 16 (.ri .i64 of17)), (.var 1 (.ri .i64 [(2 : Int)])), (.var 2 (.ri .i64 [(0 : Int), (0 : Int)])), (.var 2 (.ri .i64 most20)), (.vec 3 (.ri .i64 t1321))], 2, []⟩
def impl_Board_best_impl_Board_meanScore_f1_n2_o3 (t1415 : Int) (of17 : List Int) (t1321 : List Int) (x : Int × List Int) : GT := (.out (.exit 0 ⟨expand 34 0 [5, 6, 7] [(.ptr 2 0 0 2), (.int .i64 x.1), (.ptr 3 0 0 2)], [(.var 16 (.ri .i64 of17)), (.var 1 (.ri .i64 [(2 : Int)])), (.var 2 (.ri .i64 [(0 : Int), (0 : Int)])), (.var 2 (.ri .i64 x.2))], 2, []⟩))
def impl_Board_best_impl_Board_meanScore_f1_n2_ls3 (F : Nat) : LoopS := ⟨34, [1, 5, 6, 7, 13, 14, 15], [], [5, 6, 7], [], [4, 5], [], [], fun vals mem np killed => match vals, mem, np, killed with
  | [(.fn 46 [] [(.ptr 0 0 0 16), (.ptr 1 0 0 1)]), (.ptr 2 0 0 2), (.int .i64 at9), (.ptr 3 0 0 2), (.sl 4 0 q_t1314), (.int .i64 t1415), (.int .i64 t1516)], [(.var 16 (.ri .i64 of17)), (.var 1 (.ri .i64 q_of18)), (.var 2 (.ri .i64 q_t519)), (.var 2 (.ri .i64 most20)), (.vec 3 (.ri .i64 t1321))], 2, [] => .br ((q_of18 == ([(2 : Int)] : List Int)) && ((q_t519 == ([(0 : Int), (0 : Int)] : List Int)) && ((Nat.beq q_t1314 (List.length t1321)) && (impl_Board_best_impl_Board_meanScore_f1_n2_l3 F t1415 of17 t1321 at9 t1516 most20).isSome))) (impl_Board_best_impl_Board_meanScore_f1_n2_o3 t1415 of17 t1321 ((impl_Board_best_impl_Board_meanScore_f1_n2_l3 F t1415 of17 t1321 at9 t1516 most20).getD default)) .fail
  | _, _, _, _ => .fail⟩
theorem impl_Board_best_impl_Board_meanScore_f1_n2_step3 (F : Nat) (t1415 : Int) (of17 : List Int) (t1321 : List Int) (at9 : Int) (t1516 : Int) (most20 : List Int) {R : Type} (k : Out → Option R) : stepS tt (impl_Board_best_impl_Board_meanScore_f1_n2_tab F) (impl_Board_best_impl_Board_meanScore_f1_n2_LS0 F) 70 (impl_Board_best_impl_Board_meanScore_f1_n2_ls3 F) (loopAt 3 (bodyOf Try.f28)) (impl_Board_best_impl_Board_meanScore_f1_n2_st3 t1415 of17 t1321 at9 t1516 most20) k = impl_Board_best_impl_Board_meanScore_f1_n2_s3 F t1415 of17 t1321 R (at9, t1516, most20) (fun s => k (.norm (impl_Board_best_impl_Board_meanScore_f1_n2_st3 t1415 of17 t1321 s.1 s.2.1 s.2.2))) (fun x => (impl_Board_best_impl_Board_meanScore_f1_n2_o3 t1415 of17 t1321 x).run k) := by kernel_rfl
theorem impl_Board_best_impl_Board_meanScore_f1_n2_iter3 (F : Nat) (t1415 : Int) (of17 : List Int) (t1321 : List Int) {R : Type} (k : Out → Option R) : ∀ (n : Nat) (at9 : Int) (t1516 : Int) (most20 : List Int), iterS tt (impl_Board_best_impl_Board_meanScore_f1_n2_tab F) (impl_Board_best_impl_Board_meanScore_f1_n2_LS0 F) 70 (impl_Board_best_impl_Board_meanScore_f1_n2_ls3 F) (loopAt 3 (bodyOf Try.f28)) n (impl_Board_best_impl_Board_meanScore_f1_n2_st3 t1415 of17 t1321 at9 t1516 most20) k = loopC (impl_Board_best_impl_Board_meanScore_f1_n2_s3 F t1415 of17 t1321) n (at9, t1516, most20) (fun x => (impl_Board_best_impl_Board_meanScore_f1_n2_o3 t1415 of17 t1321 x).run k)
  | 0, at9, t1516, most20 => rfl
  | n + 1, at9, t1516, most20 => (iterS_succ tt (impl_Board_best_impl_Board_meanScore_f1_n2_tab F) (impl_Board_best_impl_Board_meanScore_f1_n2_LS0 F) 70 (impl_Board_best_impl_Board_meanScore_f1_n2_ls3 F) (loopAt 3 (bodyOf Try.f28)) n (impl_Board_best_impl_Board_meanScore_f1_n2_st3 t1415 of17 t1321 at9 t1516 most20) k).trans ((impl_Board_best_impl_Board_meanScore_f1_n2_step3 F t1415 of17 t1321 at9 t1516 most20 (nextK (iterS tt (impl_Board_best_impl_Board_meanScore_f1_n2_tab F) (impl_Board_best_impl_Board_meanScore_f1_n2_LS0 F) 70 (impl_Board_best_impl_Board_meanScore_f1_n2_ls3 F) (loopAt 3 (bodyOf Try.f28)) n) k)).trans (congrArg (fun kn => impl_Board_best_impl_Board_meanScore_f1_n2_s3 F t1415 of17 t1321 R (at9, t1516, most20) kn _) (funext (fun ⟨at9, t1516, most20⟩ => impl_Board_best_impl_Board_meanScore_f1_n2_iter3 F t1415 of17 t1321 k n at9 t1516 most20))))
theorem impl_Board_best_impl_Board_meanScore_f1_n2_lok3 (F : Nat) : LoopOK Try.prog (loopAt 3 (bodyOf Try.f28)) (impl_Board_best_impl_Board_meanScore_f1_n2_ls3 F) := by
  refine loopOK_of mixed ttok deep (impl_Board_best_impl_Board_meanScore_f1_n2_tabok F) (loopsOK_at (impl_Board_best_impl_Board_meanScore_f1_n2_lsok0 F) 3) (fuel := 70) fun R vals mem np killed k x h => ?_
  simp only [impl_Board_best_impl_Board_meanScore_f1_n2_ls3] at h
  split at h
  · rename_i at9 q_t1314 t1415 t1516 of17 q_of18 q_t519 most20 t1321
    simp only [GT.run] at h
    have hc := (cond_noneL h).1
    replace h := (cond_noneL h).2
    have hg := (and_split hc).1
    replace hc := (and_split hc).2
    obtain rfl := beq_li hg
    have hg := (and_split hc).1
    replace hc := (and_split hc).2
    obtain rfl := beq_li hg
    have hg := (and_split hc).1
    replace hc := (and_split hc).2
    obtain rfl := nbeq_nat hg
    refine ⟨F, (impl_Board_best_impl_Board_meanScore_f1_n2_iter3 F t1415 of17 t1321 k F at9 t1516 most20).trans ((loopC_use (impl_Board_best_impl_Board_meanScore_f1_n2_s3_nat F t1415 of17 t1321) hc _).trans h)⟩
  · simp only [GT.run] at h
    cases h
noncomputable def impl_Board_best_impl_Board_meanScore_f1_n2_LS1 (F : Nat) : LT := (3, impl_Board_best_impl_Board_meanScore_f1_n2_ls3 F) :: impl_Board_best_impl_Board_meanScore_f1_n2_LS0 F
theorem impl_Board_best_impl_Board_meanScore_f1_n2_lsok1 (F : Nat) : LoopsOK Try.prog (impl_Board_best_impl_Board_meanScore_f1_n2_LS1 F) (bodyOf Try.f28) := loopsOK_cons impl_Board_best_impl_Board_meanScore_f1_n2_keys (impl_Board_best_impl_Board_meanScore_f1_n2_lok3 F) (impl_Board_best_impl_Board_meanScore_f1_n2_lsok0 F)
theorem impl_Board_best_impl_Board_meanScore_f1_n2_run (F : Nat) (b0 : List Int) (of7 : List Int) : runS tt (impl_Board_best_impl_Board_meanScore_f1_n2_tab F) (impl_Board_best_impl_Board_meanScore_f1_n2_LS1 F) [] [] Try.f28 (bodyOf Try.f28) 70 [(.ints 16 b0), (.fn 46 [] [(.ptr 0 0 0 16), (.ptr 1 0 0 1)])] [(.var 16 (.ri .i64 of7)), (.var 1 (.ri .i64 [(2 : Int)]))] = impl_Board_best_impl_Board_meanScore_f1_n2_c _ F b0 of7 (fun r => some ⟨(.tup [(.int .i64 r.1), (.ints 2 r.2)]), [(.var 16 (.ri .i64 of7)), (.var 1 (.ri .i64 [(2 : Int)]))], []⟩) := by kernel_rfl
def impl_Board_best_impl_Board_meanScore_f1_n2_ent (F : Nat) : Ent := ⟨[], .quiet, fun args mem => match args, mem with
  | [(.ints 16 b0), (.fn 46 [] [(.ptr 0 0 0 16), (.ptr 1 0 0 1)])], [(.var 16 (.ri .i64 of7)), (.var 1 (.ri .i64 q_of8))] => bif (q_of8 == ([(2 : Int)] : List Int)) then some ((impl_Board_best_impl_Board_meanScore_f1_n2_p F b0 of7).isSome, ⟨(.tup [(.int .i64 ((impl_Board_best_impl_Board_meanScore_f1_n2_p F b0 of7).getD default).1), (.ints 2 ((impl_Board_best_impl_Board_meanScore_f1_n2_p F b0 of7).getD default).2)]), [], []⟩) else none
  | _, _ => none⟩
theorem impl_Board_best_impl_Board_meanScore_f1_n2_fok : FunOK Try.prog 28 := funOK Try.func28 (by kernel_rfl) rfl
theorem impl_Board_best_impl_Board_meanScore_f1_n2_meets (F : Nat) : Meets Try.prog 28 (impl_Board_best_impl_Board_meanScore_f1_n2_ent F) := by
  refine meets_of_runS mixed ttok deep (impl_Board_best_impl_Board_meanScore_f1_n2_tabok F) Try.func28 (body_some rfl) (impl_Board_best_impl_Board_meanScore_f1_n2_lsok1 F) fun args mem hfit ret h => ?_
  clear hfit
  simp only [impl_Board_best_impl_Board_meanScore_f1_n2_ent] at h
  split at h
  · rename_i b0 of7 q_of8
    have hg0 := (cond_noneL h).1
    replace h := (cond_noneL h).2
    obtain rfl := beq_li hg0
    simp only [Option.some.injEq, Prod.mk.injEq] at h
    obtain ⟨hc, rfl⟩ := h
    exact ⟨[], [], 70, _, (impl_Board_best_impl_Board_meanScore_f1_n2_run F b0 of7).trans ((impl_Board_best_impl_Board_meanScore_f1_n2_cp _ F b0 of7 _).trans (bind_use hc _)), rfl, rfl, rfl⟩
  · cases h

/-! (loop.example/g01194/impl.Board).meanScore -/
noncomputable def impl_Board_meanScore_n2_tab (F : Nat) : Tab := [(28, (impl_Board_best_impl_Board_meanScore_f1_n2_ent F))]
theorem impl_Board_meanScore_n2_tabok (F : Nat) : TabOK Try.prog (impl_Board_meanScore_n2_tab F) := (tab_cons (impl_Board_best_impl_Board_meanScore_f1_n2_meets F) impl_Board_best_impl_Board_meanScore_f1_n2_fok tab_nil)
noncomputable def impl_Board_meanScore_n2_LS0 (F : Nat) : LT := []
theorem impl_Board_meanScore_n2_lsok0 (F : Nat) : LoopsOK Try.prog (impl_Board_meanScore_n2_LS0 F) (bodyOf Try.f23) := loopsOK_nil
theorem impl_Board_meanScore_n2_run (F : Nat) (b0 : List Int) : runS tt (impl_Board_meanScore_n2_tab F) (impl_Board_meanScore_n2_LS0 F) [] [] Try.f23 (bodyOf Try.f23) 70 [(.ints 16 b0), (.int .i64 (2 : Int))] [] = impl_Board_meanScore_n2_c _ F b0 (fun r => some ⟨(.ints 2 r), [], []⟩) := by kernel_rfl
def impl_Board_meanScore_n2_ent (F : Nat) : Ent := ⟨[], .quiet, fun args mem => match args, mem with
  | [(.ints 16 b0), (.int .i64 q_n1)], [] => bif (q_n1 == (2 : Int)) then some ((impl_Board_meanScore_n2_p F b0).isSome, ⟨(.ints 2 ((impl_Board_meanScore_n2_p F b0).getD default)), [], []⟩) else none
  | _, _ => none⟩
theorem impl_Board_meanScore_n2_fok : FunOK Try.prog 23 := funOK Try.func23 (by kernel_rfl) rfl
theorem impl_Board_meanScore_n2_meets (F : Nat) : Meets Try.prog 23 (impl_Board_meanScore_n2_ent F) := by
  refine meets_of_runS mixed ttok deep (impl_Board_meanScore_n2_tabok F) Try.func23 (body_some rfl) (impl_Board_meanScore_n2_lsok0 F) fun args mem hfit ret h => ?_
  clear hfit
  simp only [impl_Board_meanScore_n2_ent] at h
  split at h
  · rename_i b0 q_n1
    have hg0 := (cond_noneL h).1
    replace h := (cond_noneL h).2
    obtain rfl := beq_int hg0
    simp only [Option.some.injEq, Prod.mk.injEq] at h
    obtain ⟨hc, rfl⟩ := h
    exact ⟨[], [], 70, _, (impl_Board_meanScore_n2_run F b0).trans ((impl_Board_meanScore_n2_cp _ F b0 _).trans (bind_use hc _)), rfl, rfl, rfl⟩
  · cases h

/-! (loop.example/g01194/impl.Board).meanScore -/
def impl_Board_meanScore_ent (F : Nat) : Ent := ⟨[], .quiet, fun args mem => match args, mem with
  | [(.ints 16 b0), (.int .i64 n1)], [] => some ((impl_Board_meanScore_p F b0 n1).isSome, ⟨(.ints 2 ((impl_Board_meanScore_p F b0 n1).getD default)), [], []⟩)
  | _, _ => none⟩
theorem impl_Board_meanScore_fok : FunOK Try.prog 23 := funOK Try.func23 (by kernel_rfl) rfl
theorem impl_Board_meanScore_meets (F : Nat) : Meets Try.prog 23 (impl_Board_meanScore_ent F) := by
  intro fr w ρ mem args reals hw ha ret hg
  simp only [impl_Board_meanScore_ent] at hg
  split at hg
  · rename_i b0 n1
    simp only [Option.some.injEq, Prod.mk.injEq] at hg
    obtain ⟨hc, rfl⟩ := hg
    by_cases hn0 : (n1 == (0 : Int)) = true
    · obtain rfl := beq_int hn0
      have e : impl_Board_meanScore_p F b0 (0 : Int) = some (impl_Board_meanScore_n0_v b0) := by kernel_rfl
      have hg' : (impl_Board_meanScore_n0_ent F).g [(.ints 16 b0), (.int .i64 (0 : Int))] [] = some (true, ⟨(.ints 2 (impl_Board_meanScore_n0_v b0)), [], []⟩) := by kernel_rfl
      have h9 := impl_Board_meanScore_n0_meets F fr w ρ _ _ reals hw ha _ hg'
      simp only [e, cond_true, Option.getD_some]
      exact h9
    · replace hn0 : (n1 == (0 : Int)) = false := by simpa using hn0
      by_cases hn1 : (n1 == (1 : Int)) = true
      · obtain rfl := beq_int hn1
        have e : impl_Board_meanScore_p F b0 (1 : Int) = (bif (Option.isSome (impl_Board_meanScore_n1_p F b0)) then some (Option.getD (impl_Board_meanScore_n1_p F b0) default) else none) := by kernel_rfl
        have hg' : (impl_Board_meanScore_n1_ent F).g [(.ints 16 b0), (.int .i64 (1 : Int))] [] = some ((Option.isSome (impl_Board_meanScore_n1_p F b0)), ⟨(.ints 2 (Option.getD (impl_Board_meanScore_n1_p F b0) default)), [], []⟩) := by kernel_rfl
        rw [e] at hc
        have hC := isSome_cond hc
        rw [hC] at hg'
        have h9 := impl_Board_meanScore_n1_meets F fr w ρ _ _ reals hw ha _ hg'
        simp only [e, hC, cond_true, Option.getD_some]
        exact h9
      · replace hn1 : (n1 == (1 : Int)) = false := by simpa using hn1
        by_cases hn2 : (n1 == (2 : Int)) = true
        · obtain rfl := beq_int hn2
          have e : impl_Board_meanScore_p F b0 (2 : Int) = (bif (Option.isSome (impl_Board_meanScore_n2_p F b0)) then some (Option.getD (impl_Board_meanScore_n2_p F b0) default) else none) := by kernel_rfl
          have hg' : (impl_Board_meanScore_n2_ent F).g [(.ints 16 b0), (.int .i64 (2 : Int))] [] = some ((Option.isSome (impl_Board_meanScore_n2_p F b0)), ⟨(.ints 2 (Option.getD (impl_Board_meanScore_n2_p F b0) default)), [], []⟩) := by kernel_rfl
          rw [e] at hc
          have hC := isSome_cond hc
          rw [hC] at hg'
          have h9 := impl_Board_meanScore_n2_meets F fr w ρ _ _ reals hw ha _ hg'
          simp only [e, hC, cond_true, Option.getD_some]
          exact h9
        · replace hn2 : (n1 == (2 : Int)) = false := by simpa using hn2
          exfalso
          have e : impl_Board_meanScore_p F b0 n1 = none := by simp only [impl_Board_meanScore_p, impl_Board_meanScore_c, hn0, hn1, hn2, cond_false]
          rw [e] at hc
          cases hc
  · cases hg

/-! loop.example/g01194/impl.MeanScore -/
noncomputable def impl_MeanScore_tab (F : Nat) : Tab := [(21, (impl_IsBoard_ent F)), (22, (impl_in_ent F)), (23, (impl_Board_meanScore_ent F))]
theorem impl_MeanScore_tabok (F : Nat) : TabOK Try.prog (impl_MeanScore_tab F) := (tab_cons (impl_IsBoard_meets F) impl_IsBoard_fok (tab_cons (impl_in_meets F) impl_in_fok (tab_cons (impl_Board_meanScore_meets F) impl_Board_meanScore_fok tab_nil)))
noncomputable def impl_MeanScore_LS0 (F : Nat) : LT := []
theorem impl_MeanScore_lsok0 (F : Nat) : LoopsOK Try.prog (impl_MeanScore_LS0 F) (bodyOf Try.f9) := loopsOK_nil
theorem impl_MeanScore_run (F : Nat) (b0 : List Int) (n1 : Int) : runS tt (impl_MeanScore_tab F) (impl_MeanScore_LS0 F) [] [] Try.f9 (bodyOf Try.f9) 70 [(.ints 16 b0), (.int .i64 n1)] [] = impl_MeanScore_c _ F b0 n1 (fun r => some ⟨(.tup [(.ints 2 r.1), (.bool r.2)]), [], []⟩) := by kernel_rfl
def impl_MeanScore_ent (F : Nat) : Ent := ⟨[], .quiet, fun args mem => match args, mem with
  | [(.ints 16 b0), (.int .i64 n1)], [] => some ((impl_MeanScore_p F b0 n1).isSome, ⟨(.tup [(.ints 2 ((impl_MeanScore_p F b0 n1).getD default).1), (.bool ((impl_MeanScore_p F b0 n1).getD default).2)]), [], []⟩)
  | _, _ => none⟩
theorem impl_MeanScore_fok : FunOK Try.prog 9 := funOK Try.func9 (by kernel_rfl) rfl
theorem impl_MeanScore_meets (F : Nat) : Meets Try.prog 9 (impl_MeanScore_ent F) := by
  refine meets_of_runS mixed ttok deep (impl_MeanScore_tabok F) Try.func9 (body_some rfl) (impl_MeanScore_lsok0 F) fun args mem hfit ret h => ?_
  clear hfit
  simp only [impl_MeanScore_ent] at h
  split at h
  · rename_i b0 n1
    simp only [Option.some.injEq, Prod.mk.injEq] at h
    obtain ⟨hc, rfl⟩ := h
    exact ⟨[], [], 70, _, (impl_MeanScore_run F b0 n1).trans ((impl_MeanScore_cp _ F b0 n1 _).trans (bind_use hc _)), rfl, rfl, rfl⟩
  · cases h

/-! loop.example/g01194/laws.eqIntA2 -/
noncomputable def laws_eqIntA2_tab (F : Nat) : Tab := []
theorem laws_eqIntA2_tabok (F : Nat) : TabOK Try.prog (laws_eqIntA2_tab F) := tab_nil
noncomputable def laws_eqIntA2_LS0 (F : Nat) : LT := []
theorem laws_eqIntA2_lsok0 (F : Nat) : LoopsOK Try.prog (laws_eqIntA2_LS0 F) (bodyOf Try.f10) := loopsOK_nil
theorem laws_eqIntA2_keys : keysOK (bodyOf Try.f10) = true := by kernel_rfl
def laws_eqIntA2_st2 (a7 : List Int) (b8 : List Int) (i6 : Int) : St := ⟨expand 17 0 [2, 3, 5] [(.ptr 0 0 0 2), (.ptr 1 0 0 2), (.int .i64 i6)], [(.var 2 (.ri .i64 a7)), (.var 2 (.ri .i64 b8))], 0, []⟩
def laws_eqIntA2_o2 (a7 : List Int) (b8 : List Int) (x : Bool) : GT := (.br x (.out (.ret ⟨expand 17 0 [4] [(.bool false)], [], 0, []⟩)) (.out (.exit 0 ⟨expand 17 0 [] [], [], 0, []⟩)))
def laws_eqIntA2_ls2 (F : Nat) : LoopS := ⟨17, [2, 3, 5], [], [], [], [4], [], [], fun vals mem np killed => match vals, mem, np, killed with
  | [(.ptr 0 0 0 2), (.ptr 1 0 0 2), (.int .i64 i6)], [(.var 2 (.ri .i64 a7)), (.var 2 (.ri .i64 b8))], 0, [] => .br (laws_eqIntA2_l2 F a7 b8 i6).isSome (laws_eqIntA2_o2 a7 b8 ((laws_eqIntA2_l2 F a7 b8 i6).getD default)) .fail
  | _, _, _, _ => .fail⟩
theorem laws_eqIntA2_step2 (F : Nat) (a7 : List Int) (b8 : List Int) (i6 : Int) {R : Type} (k : Out → Option R) : stepS tt (laws_eqIntA2_tab F) (laws_eqIntA2_LS0 F) 70 (laws_eqIntA2_ls2 F) (loopAt 2 (bodyOf Try.f10)) (laws_eqIntA2_st2 a7 b8 i6) k = laws_eqIntA2_s2 F a7 b8 R i6 (fun s => k (.norm (laws_eqIntA2_st2 a7 b8 s))) (fun x => (laws_eqIntA2_o2 a7 b8 x).run k) := by kernel_rfl
theorem laws_eqIntA2_iter2 (F : Nat) (a7 : List Int) (b8 : List Int) {R : Type} (k : Out → Option R) : ∀ (n : Nat) (i6 : Int), iterS tt (laws_eqIntA2_tab F) (laws_eqIntA2_LS0 F) 70 (laws_eqIntA2_ls2 F) (loopAt 2 (bodyOf Try.f10)) n (laws_eqIntA2_st2 a7 b8 i6) k = loopC (laws_eqIntA2_s2 F a7 b8) n i6 (fun x => (laws_eqIntA2_o2 a7 b8 x).run k)
  | 0, i6 => rfl
  | n + 1, i6 => (iterS_succ tt (laws_eqIntA2_tab F) (laws_eqIntA2_LS0 F) 70 (laws_eqIntA2_ls2 F) (loopAt 2 (bodyOf Try.f10)) n (laws_eqIntA2_st2 a7 b8 i6) k).trans ((laws_eqIntA2_step2 F a7 b8 i6 (nextK (iterS tt (laws_eqIntA2_tab F) (laws_eqIntA2_LS0 F) 70 (laws_eqIntA2_ls2 F) (loopAt 2 (bodyOf Try.f10)) n) k)).trans (congrArg (fun kn => laws_eqIntA2_s2 F a7 b8 R i6 kn _) (funext (fun i6 => laws_eqIntA2_iter2 F a7 b8 k n i6))))
theorem laws_eqIntA2_lok2 (F : Nat) : LoopOK Try.prog (loopAt 2 (bodyOf Try.f10)) (laws_eqIntA2_ls2 F) := by
  refine loopOK_of mixed ttok deep (laws_eqIntA2_tabok F) (loopsOK_at (laws_eqIntA2_lsok0 F) 2) (fuel := 70) fun R vals mem np killed k x h => ?_
  simp only [laws_eqIntA2_ls2] at h
  split at h
  · rename_i i6 a7 b8
    simp only [GT.run] at h
    have hc := (cond_noneL h).1
    replace h := (cond_noneL h).2
    refine ⟨F, (laws_eqIntA2_iter2 F a7 b8 k F i6).trans ((loopC_use (laws_eqIntA2_s2_nat F a7 b8) hc _).trans h)⟩
  · simp only [GT.run] at h
    cases h
noncomputable def laws_eqIntA2_LS1 (F : Nat) : LT := (2, laws_eqIntA2_ls2 F) :: laws_eqIntA2_LS0 F
theorem laws_eqIntA2_lsok1 (F : Nat) : LoopsOK Try.prog (laws_eqIntA2_LS1 F) (bodyOf Try.f10) := loopsOK_cons laws_eqIntA2_keys (laws_eqIntA2_lok2 F) (laws_eqIntA2_lsok0 F)
theorem laws_eqIntA2_run (F : Nat) (a0 : List Int) (b1 : List Int) : runS tt (laws_eqIntA2_tab F) (laws_eqIntA2_LS1 F) [] [] Try.f10 (bodyOf Try.f10) 70 [(.ints 2 a0), (.ints 2 b1)] [] = laws_eqIntA2_c _ F a0 b1 (fun r => some ⟨(.bool r), [], []⟩) := by kernel_rfl
def laws_eqIntA2_ent (F : Nat) : Ent := ⟨[], .quiet, fun args mem => match args, mem with
  | [(.ints 2 a0), (.ints 2 b1)], [] => some ((laws_eqIntA2_p F a0 b1).isSome, ⟨(.bool ((laws_eqIntA2_p F a0 b1).getD default)), [], []⟩)
  | _, _ => none⟩
theorem laws_eqIntA2_fok : FunOK Try.prog 10 := funOK Try.func10 (by kernel_rfl) rfl
theorem laws_eqIntA2_meets (F : Nat) : Meets Try.prog 10 (laws_eqIntA2_ent F) := by
  refine meets_of_runS mixed ttok deep (laws_eqIntA2_tabok F) Try.func10 (body_some rfl) (laws_eqIntA2_lsok1 F) fun args mem hfit ret h => ?_
  clear hfit
  simp only [laws_eqIntA2_ent] at h
  split at h
  · rename_i a0 b1
    simp only [Option.some.injEq, Prod.mk.injEq] at h
    obtain ⟨hc, rfl⟩ := h
    exact ⟨[], [], 70, _, (laws_eqIntA2_run F a0 b1).trans ((laws_eqIntA2_cp _ F a0 b1 _).trans (bind_use hc _)), rfl, rfl, rfl⟩
  · cases h

/-! loop.example/g01194/laws.FnExactMeanScore -/
noncomputable def laws_FnExactMeanScore_tab (F : Nat) : Tab := [(8, (laws_toBoard_ent F)), (7, (spec_MeanScore_ent F)), (9, (impl_MeanScore_ent F)), (10, (laws_eqIntA2_ent F))]
theorem laws_FnExactMeanScore_tabok (F : Nat) : TabOK Try.prog (laws_FnExactMeanScore_tab F) := (tab_cons (laws_toBoard_meets F) laws_toBoard_fok (tab_cons (spec_MeanScore_meets F) spec_MeanScore_fok (tab_cons (impl_MeanScore_meets F) impl_MeanScore_fok (tab_cons (laws_eqIntA2_meets F) laws_eqIntA2_fok tab_nil))))
noncomputable def laws_FnExactMeanScore_LS0 (F : Nat) : LT := []
theorem laws_FnExactMeanScore_lsok0 (F : Nat) : LoopsOK Try.prog (laws_FnExactMeanScore_LS0 F) (bodyOf Try.f3) := loopsOK_nil
theorem laws_FnExactMeanScore_run (F : Nat) (aB0 : List Int) (aN1 : Int) : runS tt (laws_FnExactMeanScore_tab F) (laws_FnExactMeanScore_LS0 F) [] [] Try.f3 (bodyOf Try.f3) 70 [(.ints 16 aB0), (.int .i64 aN1)] [] = laws_FnExactMeanScore_c _ F aB0 aN1 (fun r => some ⟨(.bool r), [], []⟩) := by kernel_rfl
def laws_FnExactMeanScore_ent (F : Nat) : Ent := ⟨[], .quiet, fun args mem => match args, mem with
  | [(.ints 16 aB0), (.int .i64 aN1)], [] => some ((laws_FnExactMeanScore_p F aB0 aN1).isSome, ⟨(.bool ((laws_FnExactMeanScore_p F aB0 aN1).getD default)), [], []⟩)
  | _, _ => none⟩
theorem laws_FnExactMeanScore_fok : FunOK Try.prog 3 := funOK Try.func3 (by kernel_rfl) rfl
theorem laws_FnExactMeanScore_meets (F : Nat) : Meets Try.prog 3 (laws_FnExactMeanScore_ent F) := by
  refine meets_of_runS mixed ttok deep (laws_FnExactMeanScore_tabok F) Try.func3 (body_some rfl) (laws_FnExactMeanScore_lsok0 F) fun args mem hfit ret h => ?_
  clear hfit
  simp only [laws_FnExactMeanScore_ent] at h
  split at h
  · rename_i aB0 aN1
    simp only [Option.some.injEq, Prod.mk.injEq] at h
    obtain ⟨hc, rfl⟩ := h
    exact ⟨[], [], 70, _, (laws_FnExactMeanScore_run F aB0 aN1).trans ((laws_FnExactMeanScore_cp _ F aB0 aN1 _).trans (bind_use hc _)), rfl, rfl, rfl⟩
  · cases h

/-! loop.example/g01194/spec.l9KeepBest -/
noncomputable def spec_l9KeepBest_n0_tab (F : Nat) : Tab := []
theorem spec_l9KeepBest_n0_tabok (F : Nat) : TabOK Try.prog (spec_l9KeepBest_n0_tab F) := tab_nil
noncomputable def spec_l9KeepBest_n0_LS0 (F : Nat) : LT := []
theorem spec_l9KeepBest_n0_lsok0 (F : Nat) : LoopsOK Try.prog (spec_l9KeepBest_n0_LS0 F) (bodyOf Try.f25) := loopsOK_nil
theorem spec_l9KeepBest_n0_run (F : Nat) (b0 : List Int) : runS tt (spec_l9KeepBest_n0_tab F) (spec_l9KeepBest_n0_LS0 F) [] [] Try.f25 (bodyOf Try.f25) 70 [(.ints 16 b0), (.int .i64 (0 : Int))] [] = spec_l9KeepBest_n0_c _ b0 (fun r => some ⟨(.ints 2 [(1 : Int), (1 : Int)]), [], []⟩) := by kernel_rfl
def spec_l9KeepBest_n0_ent (F : Nat) : Ent := ⟨[], .quiet, fun args mem => match args, mem with
  | [(.ints 16 b0), (.int .i64 q_n1)], [] => bif (q_n1 == (0 : Int)) then some (true, ⟨(.ints 2 [(1 : Int), (1 : Int)]), [], []⟩) else none
  | _, _ => none⟩
theorem spec_l9KeepBest_n0_fok : FunOK Try.prog 25 := funOK Try.func25 (by kernel_rfl) rfl
theorem spec_l9KeepBest_n0_meets (F : Nat) : Meets Try.prog 25 (spec_l9KeepBest_n0_ent F) := by
  refine meets_of_runS mixed ttok deep (spec_l9KeepBest_n0_tabok F) Try.func25 (body_some rfl) (spec_l9KeepBest_n0_lsok0 F) fun args mem hfit ret h => ?_
  clear hfit
  simp only [spec_l9KeepBest_n0_ent] at h
  split at h
  · rename_i b0 q_n1
    have hg0 := (cond_noneL h).1
    replace h := (cond_noneL h).2
    obtain rfl := beq_int hg0
    simp only [Option.some.injEq, Prod.mk.injEq] at h
    obtain ⟨hc, rfl⟩ := h
    exact ⟨[], [], 70, _, (spec_l9KeepBest_n0_run F b0).trans (spec_l9KeepBest_n0_cv _ b0 _), rfl, rfl, rfl⟩
  · cases h

/-! loop.example/g01194/spec.l9Keep -/
noncomputable def spec_l9Keep_n1_tab (F : Nat) : Tab := [(35, (spec_l5Steps_ent F)), (36, (spec_l9Boards_ent F)), (25, (spec_l9KeepBest_n0_ent F)), (39, (spec_l9Weight_ent F)), (38, (spec_l9Part_ent F)), (37, (spec_l9Plus_ent F))]
theorem spec_l9Keep_n1_tabok (F : Nat) : TabOK Try.prog (spec_l9Keep_n1_tab F) := (tab_cons (spec_l5Steps_meets F) spec_l5Steps_fok (tab_cons (spec_l9Boards_meets F) spec_l9Boards_fok (tab_cons (spec_l9KeepBest_n0_meets F) spec_l9KeepBest_n0_fok (tab_cons (spec_l9Weight_meets F) spec_l9Weight_fok (tab_cons (spec_l9Part_meets F) spec_l9Part_fok (tab_cons (spec_l9Plus_meets F) spec_l9Plus_fok tab_nil))))))
noncomputable def spec_l9Keep_n1_LS0 (F : Nat) : LT := []
theorem spec_l9Keep_n1_lsok0 (F : Nat) : LoopsOK Try.prog (spec_l9Keep_n1_LS0 F) (bodyOf Try.f26) := loopsOK_nil
theorem spec_l9Keep_n1_keys : keysOK (bodyOf Try.f26) = true := by kernel_rfl
def spec_l9Keep_n1_st4 (steps13 : List (List Int)) (all15 : List (List Int)) (i11 : Int) (sum14 : List Int) : St := ⟨expand 43 0 [2, 6, 7, 8, 9, 10] [(.int .i64 (1 : Int)), (.ptr 0 0 0 2), (.sl 1 0 (List.length steps13)), (.ptr 2 0 0 2), (.sl 3 0 (List.length all15)), (.int .i64 i11)], [(.var 2 (.ri .i64 [(0 : Int), (0 : Int)])), (.vec 64 (.rr 4 steps13)), (.var 2 (.ri .i64 sum14)), (.vec 29 (.rr 16 all15))], 0, []⟩
def spec_l9Keep_n1_o4 (steps13 : List (List Int)) (all15 : List (List Int)) (x : List Int) : GT := (.out (.exit 0 ⟨expand 43 0 [6, 8] [(.ptr 0 0 0 2), (.ptr 1 0 0 2)], [(.var 2 (.ri .i64 [(0 : Int), (0 : Int)])), (.var 2 (.ri .i64 x))], 0, []⟩))
def spec_l9Keep_n1_ls4 (F : Nat) : LoopS := ⟨43, [2, 6, 7, 8, 9, 10], [], [6, 8], [], [6], [], [], fun vals mem np killed => match vals, mem, np, killed with
  | [(.int .i64 q_n0), (.ptr 0 0 0 2), (.sl 1 0 q_steps5), (.ptr 2 0 0 2), (.sl 3 0 q_all10), (.int .i64 i11)], [(.var 2 (.ri .i64 q_t612)), (.vec 64 (.rr 4 steps13)), (.var 2 (.ri .i64 sum14)), (.vec 29 (.rr 16 all15))], 0, [] => .br ((q_n0 == (1 : Int)) && ((q_t612 == ([(0 : Int), (0 : Int)] : List Int)) && ((Nat.beq q_steps5 (List.length steps13)) && ((Nat.beq q_all10 (List.length all15)) && (spec_l9Keep_n1_l4 F steps13 all15 i11 sum14).isSome)))) (spec_l9Keep_n1_o4 steps13 all15 ((spec_l9Keep_n1_l4 F steps13 all15 i11 sum14).getD default)) .fail
  | _, _, _, _ => .fail⟩
theorem spec_l9Keep_n1_step4 (F : Nat) (steps13 : List (List Int)) (all15 : List (List Int)) (i11 : Int) (sum14 : List Int) {R : Type} (k : Out → Option R) : stepS tt (spec_l9Keep_n1_tab F) (spec_l9Keep_n1_LS0 F) 70 (spec_l9Keep_n1_ls4 F) (loopAt 4 (bodyOf Try.f26)) (spec_l9Keep_n1_st4 steps13 all15 i11 sum14) k = spec_l9Keep_n1_s4 F steps13 all15 R (i11, sum14) (fun s => k (.norm (spec_l9Keep_n1_st4 steps13 all15 s.1 s.2))) (fun x => (spec_l9Keep_n1_o4 steps13 all15 x).run k) := by kernel_rfl
theorem spec_l9Keep_n1_iter4 (F : Nat) (steps13 : List (List Int)) (all15 : List (List Int)) {R : Type} (k : Out → Option R) : ∀ (n : Nat) (i11 : Int) (sum14 : List Int), iterS tt (spec_l9Keep_n1_tab F) (spec_l9Keep_n1_LS0 F) 70 (spec_l9Keep_n1_ls4 F) (loopAt 4 (bodyOf Try.f26)) n (spec_l9Keep_n1_st4 steps13 all15 i11 sum14) k = loopC (spec_l9Keep_n1_s4 F steps13 all15) n (i11, sum14) (fun x => (spec_l9Keep_n1_o4 steps13 all15 x).run k)
  | 0, i11, sum14 => rfl
  | n + 1, i11, sum14 => (iterS_succ tt (spec_l9Keep_n1_tab F) (spec_l9Keep_n1_LS0 F) 70 (spec_l9Keep_n1_ls4 F) (loopAt 4 (bodyOf Try.f26)) n (spec_l9Keep_n1_st4 steps13 all15 i11 sum14) k).trans ((spec_l9Keep_n1_step4 F steps13 all15 i11 sum14 (nextK (iterS tt (spec_l9Keep_n1_tab F) (spec_l9Keep_n1_LS0 F) 70 (spec_l9Keep_n1_ls4 F) (loopAt 4 (bodyOf Try.f26)) n) k)).trans (congrArg (fun kn => spec_l9Keep_n1_s4 F steps13 all15 R (i11, sum14) kn _) (funext (fun ⟨i11, sum14⟩ => spec_l9Keep_n1_iter4 F steps13 all15 k n i11 sum14))))
theorem spec_l9Keep_n1_lok4 (F : Nat) : LoopOK Try.prog (loopAt 4 (bodyOf Try.f26)) (spec_l9Keep_n1_ls4 F) := by
  refine loopOK_of mixed ttok deep (spec_l9Keep_n1_tabok F) (loopsOK_at (spec_l9Keep_n1_lsok0 F) 4) (fuel := 70) fun R vals mem np killed k x h => ?_
  simp only [spec_l9Keep_n1_ls4] at h
  split at h
  · rename_i q_n0 q_steps5 q_all10 i11 q_t612 steps13 sum14 all15
    simp only [GT.run] at h
    have hc := (cond_noneL h).1
    replace h := (cond_noneL h).2
    have hg := (and_split hc).1
    replace hc := (and_split hc).2
    obtain rfl := beq_int hg
    have hg := (and_split hc).1
    replace hc := (and_split hc).2
    obtain rfl := beq_li hg
    have hg := (and_split hc).1
    replace hc := (and_split hc).2
    obtain rfl := nbeq_nat hg
    have hg := (and_split hc).1
    replace hc := (and_split hc).2
    obtain rfl := nbeq_nat hg
    refine ⟨F, (spec_l9Keep_n1_iter4 F steps13 all15 k F i11 sum14).trans ((loopC_use (spec_l9Keep_n1_s4_nat F steps13 all15) hc _).trans h)⟩
  · simp only [GT.run] at h
    cases h
noncomputable def spec_l9Keep_n1_LS1 (F : Nat) : LT := (4, spec_l9Keep_n1_ls4 F) :: spec_l9Keep_n1_LS0 F
theorem spec_l9Keep_n1_lsok1 (F : Nat) : LoopsOK Try.prog (spec_l9Keep_n1_LS1 F) (bodyOf Try.f26) := loopsOK_cons spec_l9Keep_n1_keys (spec_l9Keep_n1_lok4 F) (spec_l9Keep_n1_lsok0 F)
theorem spec_l9Keep_n1_run (F : Nat) (b0 : List Int) (d1 : Int) : runS tt (spec_l9Keep_n1_tab F) (spec_l9Keep_n1_LS1 F) [] [] Try.f26 (bodyOf Try.f26) 70 [(.ints 16 b0), (.int .i64 d1), (.int .i64 (1 : Int))] [] = spec_l9Keep_n1_c _ F b0 d1 (fun r => some ⟨(.ints 2 r), [], []⟩) := by kernel_rfl
def spec_l9Keep_n1_ent (F : Nat) : Ent := ⟨[], .quiet, fun args mem => match args, mem with
  | [(.ints 16 b0), (.int .i64 d1), (.int .i64 q_n2)], [] => bif (q_n2 == (1 : Int)) then some ((spec_l9Keep_n1_p F b0 d1).isSome, ⟨(.ints 2 ((spec_l9Keep_n1_p F b0 d1).getD default)), [], []⟩) else none
  | _, _ => none⟩
theorem spec_l9Keep_n1_fok : FunOK Try.prog 26 := funOK Try.func26 (by kernel_rfl) rfl
theorem spec_l9Keep_n1_meets (F : Nat) : Meets Try.prog 26 (spec_l9Keep_n1_ent F) := by
  refine meets_of_runS mixed ttok deep (spec_l9Keep_n1_tabok F) Try.func26 (body_some rfl) (spec_l9Keep_n1_lsok1 F) fun args mem hfit ret h => ?_
  clear hfit
  simp only [spec_l9Keep_n1_ent] at h
  split at h
  · rename_i b0 d1 q_n2
    have hg0 := (cond_noneL h).1
    replace h := (cond_noneL h).2
    obtain rfl := beq_int hg0
    simp only [Option.some.injEq, Prod.mk.injEq] at h
    obtain ⟨hc, rfl⟩ := h
    exact ⟨[], [], 70, _, (spec_l9Keep_n1_run F b0 d1).trans ((spec_l9Keep_n1_cp _ F b0 d1 _).trans (bind_use hc _)), rfl, rfl, rfl⟩
  · cases h

/-! loop.example/g01194/spec.l9KeepBest -/
noncomputable def spec_l9KeepBest_n1_tab (F : Nat) : Tab := [(24, (spec_l2Moves_ent F)), (26, (spec_l9Keep_n1_ent F)), (40, (spec_l9Less_ent F))]
theorem spec_l9KeepBest_n1_tabok (F : Nat) : TabOK Try.prog (spec_l9KeepBest_n1_tab F) := (tab_cons (spec_l2Moves_meets F) spec_l2Moves_fok (tab_cons (spec_l9Keep_n1_meets F) spec_l9Keep_n1_fok (tab_cons (spec_l9Less_meets F) spec_l9Less_fok tab_nil)))
noncomputable def spec_l9KeepBest_n1_LS0 (F : Nat) : LT := []
theorem spec_l9KeepBest_n1_lsok0 (F : Nat) : LoopsOK Try.prog (spec_l9KeepBest_n1_LS0 F) (bodyOf Try.f25) := loopsOK_nil
theorem spec_l9KeepBest_n1_keys : keysOK (bodyOf Try.f25) = true := by kernel_rfl
def spec_l9KeepBest_n1_st7 (b13 : List Int) (moves16 : List Int) (i12 : Int) (best15 : List Int) : St := ⟨expand 41 0 [1, 2, 4, 5, 6, 7] [(.int .i64 (1 : Int)), (.ptr 0 0 0 16), (.ptr 1 0 0 2), (.ptr 2 0 0 2), (.sl 3 0 (List.length moves16)), (.int .i64 i12)], [(.var 16 (.ri .i64 b13)), (.var 2 (.ri .i64 [(0 : Int), (0 : Int)])), (.var 2 (.ri .i64 best15)), (.vec 3 (.ri .i64 moves16))], 0, []⟩
def spec_l9KeepBest_n1_o7 (b13 : List Int) (moves16 : List Int) (x : List Int) : GT := (.out (.exit 0 ⟨expand 41 0 [4, 5] [(.ptr 0 0 0 2), (.ptr 1 0 0 2)], [(.var 2 (.ri .i64 [(0 : Int), (0 : Int)])), (.var 2 (.ri .i64 x))], 0, []⟩))
def spec_l9KeepBest_n1_ls7 (F : Nat) : LoopS := ⟨41, [1, 2, 4, 5, 6, 7], [], [4, 5], [], [4], [], [], fun vals mem np killed => match vals, mem, np, killed with
  | [(.int .i64 q_n0), (.ptr 0 0 0 16), (.ptr 1 0 0 2), (.ptr 2 0 0 2), (.sl 3 0 q_moves11), (.int .i64 i12)], [(.var 16 (.ri .i64 b13)), (.var 2 (.ri .i64 q_t414)), (.var 2 (.ri .i64 best15)), (.vec 3 (.ri .i64 moves16))], 0, [] => .br ((q_n0 == (1 : Int)) && ((q_t414 == ([(0 : Int), (0 : Int)] : List Int)) && ((Nat.beq q_moves11 (List.length moves16)) && (spec_l9KeepBest_n1_l7 F b13 moves16 i12 best15).isSome))) (spec_l9KeepBest_n1_o7 b13 moves16 ((spec_l9KeepBest_n1_l7 F b13 moves16 i12 best15).getD default)) .fail
  | _, _, _, _ => .fail⟩
theorem spec_l9KeepBest_n1_step7 (F : Nat) (b13 : List Int) (moves16 : List Int) (i12 : Int) (best15 : List Int) {R : Type} (k : Out → Option R) : stepS tt (spec_l9KeepBest_n1_tab F) (spec_l9KeepBest_n1_LS0 F) 70 (spec_l9KeepBest_n1_ls7 F) (loopAt 7 (bodyOf Try.f25)) (spec_l9KeepBest_n1_st7 b13 moves16 i12 best15) k = spec_l9KeepBest_n1_s7 F b13 moves16 R (i12, best15) (fun s => k (.norm (spec_l9KeepBest_n1_st7 b13 moves16 s.1 s.2))) (fun x => (spec_l9KeepBest_n1_o7 b13 moves16 x).run k) := by kernel_rfl
theorem spec_l9KeepBest_n1_iter7 (F : Nat) (b13 : List Int) (moves16 : List Int) {R : Type} (k : Out → Option R) : ∀ (n : Nat) (i12 : Int) (best15 : List Int), iterS tt (spec_l9KeepBest_n1_tab F) (spec_l9KeepBest_n1_LS0 F) 70 (spec_l9KeepBest_n1_ls7 F) (loopAt 7 (bodyOf Try.f25)) n (spec_l9KeepBest_n1_st7 b13 moves16 i12 best15) k = loopC (spec_l9KeepBest_n1_s7 F b13 moves16) n (i12, best15) (fun x => (spec_l9KeepBest_n1_o7 b13 moves16 x).run k)
  | 0, i12, best15 => rfl
  | n + 1, i12, best15 => (iterS_succ tt (spec_l9KeepBest_n1_tab F) (spec_l9KeepBest_n1_LS0 F) 70 (spec_l9KeepBest_n1_ls7 F) (loopAt 7 (bodyOf Try.f25)) n (spec_l9KeepBest_n1_st7 b13 moves16 i12 best15) k).trans ((spec_l9KeepBest_n1_step7 F b13 moves16 i12 best15 (nextK (iterS tt (spec_l9KeepBest_n1_tab F) (spec_l9KeepBest_n1_LS0 F) 70 (spec_l9KeepBest_n1_ls7 F) (loopAt 7 (bodyOf Try.f25)) n) k)).trans (congrArg (fun kn => spec_l9KeepBest_n1_s7 F b13 moves16 R (i12, best15) kn _) (funext (fun ⟨i12, best15⟩ => spec_l9KeepBest_n1_iter7 F b13 moves16 k n i12 best15))))
theorem spec_l9KeepBest_n1_lok7 (F : Nat) : LoopOK Try.prog (loopAt 7 (bodyOf Try.f25)) (spec_l9KeepBest_n1_ls7 F) := by
  refine loopOK_of mixed ttok deep (spec_l9KeepBest_n1_tabok F) (loopsOK_at (spec_l9KeepBest_n1_lsok0 F) 7) (fuel := 70) fun R vals mem np killed k x h => ?_
  simp only [spec_l9KeepBest_n1_ls7] at h
  split at h
  · rename_i q_n0 q_moves11 i12 b13 q_t414 best15 moves16
    simp only [GT.run] at h
    have hc := (cond_noneL h).1
    replace h := (cond_noneL h).2
    have hg := (and_split hc).1
    replace hc := (and_split hc).2
    obtain rfl := beq_int hg
    have hg := (and_split hc).1
    replace hc := (and_split hc).2
    obtain rfl := beq_li hg
    have hg := (and_split hc).1
    replace hc := (and_split hc).2
    obtain rfl := nbeq_nat hg
    refine ⟨F, (spec_l9KeepBest_n1_iter7 F b13 moves16 k F i12 best15).trans ((loopC_use (spec_l9KeepBest_n1_s7_nat F b13 moves16) hc _).trans h)⟩
  · simp only [GT.run] at h
    cases h
noncomputable def spec_l9KeepBest_n1_LS1 (F : Nat) : LT := (7, spec_l9KeepBest_n1_ls7 F) :: spec_l9KeepBest_n1_LS0 F
theorem spec_l9KeepBest_n1_lsok1 (F : Nat) : LoopsOK Try.prog (spec_l9KeepBest_n1_LS1 F) (bodyOf Try.f25) := loopsOK_cons spec_l9KeepBest_n1_keys (spec_l9KeepBest_n1_lok7 F) (spec_l9KeepBest_n1_lsok0 F)
theorem spec_l9KeepBest_n1_run (F : Nat) (b0 : List Int) : runS tt (spec_l9KeepBest_n1_tab F) (spec_l9KeepBest_n1_LS1 F) [] [] Try.f25 (bodyOf Try.f25) 70 [(.ints 16 b0), (.int .i64 (1 : Int))] [] = spec_l9KeepBest_n1_c _ F b0 (fun r => some ⟨(.ints 2 r), [], []⟩) := by kernel_rfl
def spec_l9KeepBest_n1_ent (F : Nat) : Ent := ⟨[], .quiet, fun args mem => match args, mem with
  | [(.ints 16 b0), (.int .i64 q_n1)], [] => bif (q_n1 == (1 : Int)) then some ((spec_l9KeepBest_n1_p F b0).isSome, ⟨(.ints 2 ((spec_l9KeepBest_n1_p F b0).getD default)), [], []⟩) else none
  | _, _ => none⟩
theorem spec_l9KeepBest_n1_fok : FunOK Try.prog 25 := funOK Try.func25 (by kernel_rfl) rfl
theorem spec_l9KeepBest_n1_meets (F : Nat) : Meets Try.prog 25 (spec_l9KeepBest_n1_ent F) := by
  refine meets_of_runS mixed ttok deep (spec_l9KeepBest_n1_tabok F) Try.func25 (body_some rfl) (spec_l9KeepBest_n1_lsok1 F) fun args mem hfit ret h => ?_
  clear hfit
  simp only [spec_l9KeepBest_n1_ent] at h
  split at h
  · rename_i b0 q_n1
    have hg0 := (cond_noneL h).1
    replace h := (cond_noneL h).2
    obtain rfl := beq_int hg0
    simp only [Option.some.injEq, Prod.mk.injEq] at h
    obtain ⟨hc, rfl⟩ := h
    exact ⟨[], [], 70, _, (spec_l9KeepBest_n1_run F b0).trans ((spec_l9KeepBest_n1_cp _ F b0 _).trans (bind_use hc _)), rfl, rfl, rfl⟩
  · cases h
end Go.Proofs.Ytloemkielkdegaa
