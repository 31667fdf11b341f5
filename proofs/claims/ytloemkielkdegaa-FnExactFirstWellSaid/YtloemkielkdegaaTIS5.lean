/-
Pure functions and what the code of them does, by program; without conditions.
-/
import Derived.Test.YtloemkielkdegaaTIP5
import Derived.Test.YtloemkielkdegaaTIS4
namespace Go.Proofs.Ytloemkielkdegaa
open Go Go.Lv Go.Lv.P Go.Proofs
set_option linter.unusedVariables false
set_option linter.unusedSimpArgs false
set_option maxRecDepth 100000
/-! loop.example/g01194/spec.l9Keep -/
noncomputable def spec_l9Keep_n2_tab (F : Nat) : Tab := [(35, (spec_l5Steps_ent F)), (36, (spec_l9Boards_ent F)), (25, (spec_l9KeepBest_n1_ent F)), (39, (spec_l9Weight_ent F)), (38, (spec_l9Part_ent F)), (37, (spec_l9Plus_ent F))]
theorem spec_l9Keep_n2_tabok (F : Nat) : TabOK Try.prog (spec_l9Keep_n2_tab F) := (tab_cons (spec_l5Steps_meets F) spec_l5Steps_fok (tab_cons (spec_l9Boards_meets F) spec_l9Boards_fok (tab_cons (spec_l9KeepBest_n1_meets F) spec_l9KeepBest_n1_fok (tab_cons (spec_l9Weight_meets F) spec_l9Weight_fok (tab_cons (spec_l9Part_meets F) spec_l9Part_fok (tab_cons (spec_l9Plus_meets F) spec_l9Plus_fok tab_nil))))))
noncomputable def spec_l9Keep_n2_LS0 (F : Nat) : LT := []
theorem spec_l9Keep_n2_lsok0 (F : Nat) : LoopsOK Try.prog (spec_l9Keep_n2_LS0 F) (bodyOf Try.f26) := loopsOK_nil
theorem spec_l9Keep_n2_keys : keysOK (bodyOf Try.f26) = true := by kernel_rfl
def spec_l9Keep_n2_st4 (steps13 : List (List Int)) (all15 : List (List Int)) (i11 : Int) (sum14 : List Int) : St := ⟨expand 43 0 [2, 6, 7, 8, 9, 10] [(.int .i64 (2 : Int)), (.ptr 0 0 0 2), (.sl 1 0 (List.length steps13)), (.ptr 2 0 0 2), (.sl 3 0 (List.length all15)), (.int .i64 i11)], [(.var 2 (.ri .i64 [(0 : Int), (0 : Int)])), (.vec 64 (.rr 4 steps13)), (.var 2 (.ri .i64 sum14)), (.vec 29 (.rr 16 all15))], 0, []⟩
def spec_l9Keep_n2_o4 (steps13 : List (List Int)) (all15 : List (List Int)) (x : List Int) : GT := (.out (.exit 0 ⟨expand 43 0 [6, 8] [(.ptr 0 0 0 2), (.ptr 1 0 0 2)], [(.var 2 (.ri .i64 [(0 : Int), (0 : Int)])), (.var 2 (.ri .i64 x))], 0, []⟩))
def spec_l9Keep_n2_ls4 (F : Nat) : LoopS := ⟨43, [2, 6, 7, 8, 9, 10], [], [6, 8], [], [6], [], [], fun vals mem np killed => match vals, mem, np, killed with
  | [(.int .i64 q_n0), (.ptr 0 0 0 2), (.sl 1 0 q_steps5), (.ptr 2 0 0 2), (.sl 3 0 q_all10), (.int .i64 i11)], [(.var 2 (.ri .i64 q_t612)), (.vec 64 (.rr 4 steps13)), (.var 2 (.ri .i64 sum14)), (.vec 29 (.rr 16 all15))], 0, [] => .br ((q_n0 == (2 : Int)) && ((q_t612 == ([(0 : Int), (0 : Int)] : List Int)) && ((Nat.beq q_steps5 (List.length steps13)) && ((Nat.beq q_all10 (List.length all15)) && (spec_l9Keep_n2_l4 F steps13 all15 i11 sum14).isSome)))) (spec_l9Keep_n2_o4 steps13 all15 ((spec_l9Keep_n2_l4 F steps13 all15 i11 sum14).getD default)) .fail
  | _, _, _, _ => .fail⟩
theorem spec_l9Keep_n2_step4 (F : Nat) (steps13 : List (List Int)) (all15 : List (List Int)) (i11 : Int) (sum14 : List Int) {R : Type} (k : Out → Option R) : stepS tt (spec_l9Keep_n2_tab F) (spec_l9Keep_n2_LS0 F) 70 (spec_l9Keep_n2_ls4 F) (loopAt 4 (bodyOf Try.f26)) (spec_l9Keep_n2_st4 steps13 all15 i11 sum14) k = spec_l9Keep_n2_s4 F steps13 all15 R (i11, sum14) (fun s => k (.norm (spec_l9Keep_n2_st4 steps13 all15 s.1 s.2))) (fun x => (spec_l9Keep_n2_o4 steps13 all15 x).run k) := by kernel_rfl
theorem spec_l9Keep_n2_iter4 (F : Nat) (steps13 : List (List Int)) (all15 : List (List Int)) {R : Type} (k : Out → Option R) : ∀ (n : Nat) (i11 : Int) (sum14 : List Int), iterS tt (spec_l9Keep_n2_tab F) (spec_l9Keep_n2_LS0 F) 70 (spec_l9Keep_n2_ls4 F) (loopAt 4 (bodyOf Try.f26)) n (spec_l9Keep_n2_st4 steps13 all15 i11 sum14) k = loopC (spec_l9Keep_n2_s4 F steps13 all15) n (i11, sum14) (fun x => (spec_l9Keep_n2_o4 steps13 all15 x).run k)
  | 0, i11, sum14 => rfl
  | n + 1, i11, sum14 => (iterS_succ tt (spec_l9Keep_n2_tab F) (spec_l9Keep_n2_LS0 F) 70 (spec_l9Keep_n2_ls4 F) (loopAt 4 (bodyOf Try.f26)) n (spec_l9Keep_n2_st4 steps13 all15 i11 sum14) k).trans ((spec_l9Keep_n2_step4 F steps13 all15 i11 sum14 (nextK (iterS tt (spec_l9Keep_n2_tab F) (spec_l9Keep_n2_LS0 F) 70 (spec_l9Keep_n2_ls4 F) (loopAt 4 (bodyOf Try.f26)) n) k)).trans (congrArg (fun kn => spec_l9Keep_n2_s4 F steps13 all15 R (i11, sum14) kn _) (funext (fun ⟨i11, sum14⟩ => spec_l9Keep_n2_iter4 F steps13 all15 k n i11 sum14))))
theorem spec_l9Keep_n2_lok4 (F : Nat) : LoopOK Try.prog (loopAt 4 (bodyOf Try.f26)) (spec_l9Keep_n2_ls4 F) := by
  refine loopOK_of mixed ttok deep (spec_l9Keep_n2_tabok F) (loopsOK_at (spec_l9Keep_n2_lsok0 F) 4) (fuel := 70) fun R vals mem np killed k x h => ?_
  simp only [spec_l9Keep_n2_ls4] at h
  split at h
  · rename_i q_n0 q_steps5 q_all10 i11 q_t612 steps13 sum14 all15
    simp only [GT.run] at h
    have hc := (cond_noneL h).1
    replace h := (cond_noneL h).2
    have hg := (and_split hc).1
    replace hc := (and_split hc).2
    obtain rfl := beq_int hg
    have hg := (and_split hc).1
    replace hc := (and_split hc).2
    obtain rfl := beq_li hg
    have hg := (and_split hc).1
    replace hc := (and_split hc).2
    obtain rfl := nbeq_nat hg
    have hg := (and_split hc).1
    replace hc := (and_split hc).2
    obtain rfl := nbeq_nat hg
    refine ⟨F, (spec_l9Keep_n2_iter4 F steps13 all15 k F i11 sum14).trans ((loopC_use (spec_l9Keep_n2_s4_nat F steps13 all15) hc _).trans h)⟩
  · simp only [GT.run] at h
    cases h
noncomputable def spec_l9Keep_n2_LS1 (F : Nat) : LT := (4, spec_l9Keep_n2_ls4 F) :: spec_l9Keep_n2_LS0 F
theorem spec_l9Keep_n2_lsok1 (F : Nat) : LoopsOK Try.prog (spec_l9Keep_n2_LS1 F) (bodyOf Try.f26) := loopsOK_cons spec_l9Keep_n2_keys (spec_l9Keep_n2_lok4 F) (spec_l9Keep_n2_lsok0 F)
theorem spec_l9Keep_n2_run (F : Nat) (b0 : List Int) (d1 : Int) : runS tt (spec_l9Keep_n2_tab F) (spec_l9Keep_n2_LS1 F) [] [] Try.f26 (bodyOf Try.f26) 70 [(.ints 16 b0), (.int .i64 d1), (.int .i64 (2 : Int))] [] = spec_l9Keep_n2_c _ F b0 d1 (fun r => some ⟨(.ints 2 r), [], []⟩) := by kernel_rfl
def spec_l9Keep_n2_ent (F : Nat) : Ent := ⟨[], .quiet, fun args mem => match args, mem with
  | [(.ints 16 b0), (.int .i64 d1), (.int .i64 q_n2)], [] => bif (q_n2 == (2 : Int)) then some ((spec_l9Keep_n2_p F b0 d1).isSome, ⟨(.ints 2 ((spec_l9Keep_n2_p F b0 d1).getD default)), [], []⟩) else none
  | _, _ => none⟩
theorem spec_l9Keep_n2_fok : FunOK Try.prog 26 := funOK Try.func26 (by kernel_rfl) rfl
theorem spec_l9Keep_n2_meets (F : Nat) : Meets Try.prog 26 (spec_l9Keep_n2_ent F) := by
  refine meets_of_runS mixed ttok deep (spec_l9Keep_n2_tabok F) Try.func26 (body_some rfl) (spec_l9Keep_n2_lsok1 F) fun args mem hfit ret h => ?_
  clear hfit
  simp only [spec_l9Keep_n2_ent] at h
  split at h
  · rename_i b0 d1 q_n2
    have hg0 := (cond_noneL h).1
    replace h := (cond_noneL h).2
    obtain rfl := beq_int hg0
    simp only [Option.some.injEq, Prod.mk.injEq] at h
    obtain ⟨hc, rfl⟩ := h
    exact ⟨[], [], 70, _, (spec_l9Keep_n2_run F b0 d1).trans ((spec_l9Keep_n2_cp _ F b0 d1 _).trans (bind_use hc _)), rfl, rfl, rfl⟩
  · cases h

/-! loop.example/g01194/spec.l9KeepBest -/
noncomputable def spec_l9KeepBest_n2_tab (F : Nat) : Tab := [(24, (spec_l2Moves_ent F)), (26, (spec_l9Keep_n2_ent F)), (40, (spec_l9Less_ent F))]
theorem spec_l9KeepBest_n2_tabok (F : Nat) : TabOK Try.prog (spec_l9KeepBest_n2_tab F) := (tab_cons (spec_l2Moves_meets F) spec_l2Moves_fok (tab_cons (spec_l9Keep_n2_meets F) spec_l9Keep_n2_fok (tab_cons (spec_l9Less_meets F) spec_l9Less_fok tab_nil)))
noncomputable def spec_l9KeepBest_n2_LS0 (F : Nat) : LT := []
theorem spec_l9KeepBest_n2_lsok0 (F : Nat) : LoopsOK Try.prog (spec_l9KeepBest_n2_LS0 F) (bodyOf Try.f25) := loopsOK_nil
theorem spec_l9KeepBest_n2_keys : keysOK (bodyOf Try.f25) = true := by kernel_rfl
def spec_l9KeepBest_n2_st7 (b13 : List Int) (moves16 : List Int) (i12 : Int) (best15 : List Int) : St := ⟨expand 41 0 [1, 2, 4, 5, 6, 7] [(.int .i64 (2 : Int)), (.ptr 0 0 0 16), (.ptr 1 0 0 2), (.ptr 2 0 0 2), (.sl 3 0 (List.length moves16)), (.int .i64 i12)], [(.var 16 (.ri .i64 b13)), (.var 2 (.ri .i64 [(0 : Int), (0 : Int)])), (.var 2 (.ri .i64 best15)), (.vec 3 (.ri .i64 moves16))], 0, []⟩
def spec_l9KeepBest_n2_o7 (b13 : List Int) (moves16 : List Int) (x : List Int) : GT := (.out (.exit 0 ⟨expand 41 0 [4, 5] [(.ptr 0 0 0 2), (.ptr 1 0 0 2)], [(.var 2 (.ri .i64 [(0 : Int), (0 : Int)])), (.var 2 (.ri .i64 x))], 0, []⟩))
def spec_l9KeepBest_n2_ls7 (F : Nat) : LoopS := ⟨41, [1, 2, 4, 5, 6, 7], [], [4, 5], [], [4], [], [], fun vals mem np killed => match vals, mem, np, killed with
  | [(.int .i64 q_n0), (.ptr 0 0 0 16), (.ptr 1 0 0 2), (.ptr 2 0 0 2), (.sl 3 0 q_moves11), (.int .i64 i12)], [(.var 16 (.ri .i64 b13)), (.var 2 (.ri .i64 q_t414)), (.var 2 (.ri .i64 best15)), (.vec 3 (.ri .i64 moves16))], 0, [] => .br ((q_n0 == (2 : Int)) && ((q_t414 == ([(0 : Int), (0 : Int)] : List Int)) && ((Nat.beq q_moves11 (List.length moves16)) && (spec_l9KeepBest_n2_l7 F b13 moves16 i12 best15).isSome))) (spec_l9KeepBest_n2_o7 b13 moves16 ((spec_l9KeepBest_n2_l7 F b13 moves16 i12 best15).getD default)) .fail
  | _, _, _, _ => .fail⟩
theorem spec_l9KeepBest_n2_step7 (F : Nat) (b13 : List Int) (moves16 : List Int) (i12 : Int) (best15 : List Int) {R : Type} (k : Out → Option R) : stepS tt (spec_l9KeepBest_n2_tab F) (spec_l9KeepBest_n2_LS0 F) 70 (spec_l9KeepBest_n2_ls7 F) (loopAt 7 (bodyOf Try.f25)) (spec_l9KeepBest_n2_st7 b13 moves16 i12 best15) k = spec_l9KeepBest_n2_s7 F b13 moves16 R (i12, best15) (fun s => k (.norm (spec_l9KeepBest_n2_st7 b13 moves16 s.1 s.2))) (fun x => (spec_l9KeepBest_n2_o7 b13 moves16 x).run k) := by kernel_rfl
theorem spec_l9KeepBest_n2_iter7 (F : Nat) (b13 : List Int) (moves16 : List Int) {R : Type} (k : Out → Option R) : ∀ (n : Nat) (i12 : Int) (best15 : List Int), iterS tt (spec_l9KeepBest_n2_tab F) (spec_l9KeepBest_n2_LS0 F) 70 (spec_l9KeepBest_n2_ls7 F) (loopAt 7 (bodyOf Try.f25)) n (spec_l9KeepBest_n2_st7 b13 moves16 i12 best15) k = loopC (spec_l9KeepBest_n2_s7 F b13 moves16) n (i12, best15) (fun x => (spec_l9KeepBest_n2_o7 b13 moves16 x).run k)
  | 0, i12, best15 => rfl
  | n + 1, i12, best15 => (iterS_succ tt (spec_l9KeepBest_n2_tab F) (spec_l9KeepBest_n2_LS0 F) 70 (spec_l9KeepBest_n2_ls7 F) (loopAt 7 (bodyOf Try.f25)) n (spec_l9KeepBest_n2_st7 b13 moves16 i12 best15) k).trans ((spec_l9KeepBest_n2_step7 F b13 moves16 i12 best15 (nextK (iterS tt (spec_l9KeepBest_n2_tab F) (spec_l9KeepBest_n2_LS0 F) 70 (spec_l9KeepBest_n2_ls7 F) (loopAt 7 (bodyOf Try.f25)) n) k)).trans (congrArg (fun kn => spec_l9KeepBest_n2_s7 F b13 moves16 R (i12, best15) kn _) (funext (fun ⟨i12, best15⟩ => spec_l9KeepBest_n2_iter7 F b13 moves16 k n i12 best15))))
theorem spec_l9KeepBest_n2_lok7 (F : Nat) : LoopOK Try.prog (loopAt 7 (bodyOf Try.f25)) (spec_l9KeepBest_n2_ls7 F) := by
  refine loopOK_of mixed ttok deep (spec_l9KeepBest_n2_tabok F) (loopsOK_at (spec_l9KeepBest_n2_lsok0 F) 7) (fuel := 70) fun R vals mem np killed k x h => ?_
  simp only [spec_l9KeepBest_n2_ls7] at h
  split at h
  · rename_i q_n0 q_moves11 i12 b13 q_t414 best15 moves16
    simp only [GT.run] at h
    have hc := (cond_noneL h).1
    replace h := (cond_noneL h).2
    have hg := (and_split hc).1
    replace hc := (and_split hc).2
    obtain rfl := beq_int hg
    have hg := (and_split hc).1
    replace hc := (and_split hc).2
    obtain rfl := beq_li hg
    have hg := (and_split hc).1
    replace hc := (and_split hc).2
    obtain rfl := nbeq_nat hg
    refine ⟨F, (spec_l9KeepBest_n2_iter7 F b13 moves16 k F i12 best15).trans ((loopC_use (spec_l9KeepBest_n2_s7_nat F b13 moves16) hc _).trans h)⟩
  · simp only [GT.run] at h
    cases h
noncomputable def spec_l9KeepBest_n2_LS1 (F : Nat) : LT := (7, spec_l9KeepBest_n2_ls7 F) :: spec_l9KeepBest_n2_LS0 F
theorem spec_l9KeepBest_n2_lsok1 (F : Nat) : LoopsOK Try.prog (spec_l9KeepBest_n2_LS1 F) (bodyOf Try.f25) := loopsOK_cons spec_l9KeepBest_n2_keys (spec_l9KeepBest_n2_lok7 F) (spec_l9KeepBest_n2_lsok0 F)
theorem spec_l9KeepBest_n2_run (F : Nat) (b0 : List Int) : runS tt (spec_l9KeepBest_n2_tab F) (spec_l9KeepBest_n2_LS1 F) [] [] Try.f25 (bodyOf Try.f25) 70 [(.ints 16 b0), (.int .i64 (2 : Int))] [] = spec_l9KeepBest_n2_c _ F b0 (fun r => some ⟨(.ints 2 r), [], []⟩) := by kernel_rfl
def spec_l9KeepBest_n2_ent (F : Nat) : Ent := ⟨[], .quiet, fun args mem => match args, mem with
  | [(.ints 16 b0), (.int .i64 q_n1)], [] => bif (q_n1 == (2 : Int)) then some ((spec_l9KeepBest_n2_p F b0).isSome, ⟨(.ints 2 ((spec_l9KeepBest_n2_p F b0).getD default)), [], []⟩) else none
  | _, _ => none⟩
theorem spec_l9KeepBest_n2_fok : FunOK Try.prog 25 := funOK Try.func25 (by kernel_rfl) rfl
theorem spec_l9KeepBest_n2_meets (F : Nat) : Meets Try.prog 25 (spec_l9KeepBest_n2_ent F) := by
  refine meets_of_runS mixed ttok deep (spec_l9KeepBest_n2_tabok F) Try.func25 (body_some rfl) (spec_l9KeepBest_n2_lsok1 F) fun args mem hfit ret h => ?_
  clear hfit
  simp only [spec_l9KeepBest_n2_ent] at h
  split at h
  · rename_i b0 q_n1
    have hg0 := (cond_noneL h).1
    replace h := (cond_noneL h).2
    obtain rfl := beq_int hg0
    simp only [Option.some.injEq, Prod.mk.injEq] at h
    obtain ⟨hc, rfl⟩ := h
    exact ⟨[], [], 70, _, (spec_l9KeepBest_n2_run F b0).trans ((spec_l9KeepBest_n2_cp _ F b0 _).trans (bind_use hc _)), rfl, rfl, rfl⟩
  · cases h

/-! loop.example/g01194/spec.l9Keep -/
noncomputable def spec_l9Keep_n3_tab (F : Nat) : Tab := [(35, (spec_l5Steps_ent F)), (36, (spec_l9Boards_ent F)), (25, (spec_l9KeepBest_n2_ent F)), (39, (spec_l9Weight_ent F)), (38, (spec_l9Part_ent F)), (37, (spec_l9Plus_ent F))]
theorem spec_l9Keep_n3_tabok (F : Nat) : TabOK Try.prog (spec_l9Keep_n3_tab F) := (tab_cons (spec_l5Steps_meets F) spec_l5Steps_fok (tab_cons (spec_l9Boards_meets F) spec_l9Boards_fok (tab_cons (spec_l9KeepBest_n2_meets F) spec_l9KeepBest_n2_fok (tab_cons (spec_l9Weight_meets F) spec_l9Weight_fok (tab_cons (spec_l9Part_meets F) spec_l9Part_fok (tab_cons (spec_l9Plus_meets F) spec_l9Plus_fok tab_nil))))))
noncomputable def spec_l9Keep_n3_LS0 (F : Nat) : LT := []
theorem spec_l9Keep_n3_lsok0 (F : Nat) : LoopsOK Try.prog (spec_l9Keep_n3_LS0 F) (bodyOf Try.f26) := loopsOK_nil
theorem spec_l9Keep_n3_keys : keysOK (bodyOf Try.f26) = true := by kernel_rfl
def spec_l9Keep_n3_st4 (steps13 : List (List Int)) (all15 : List (List Int)) (i11 : Int) (sum14 : List Int) : St := ⟨expand 43 0 [2, 6, 7, 8, 9, 10] [(.int .i64 (3 : Int)), (.ptr 0 0 0 2), (.sl 1 0 (List.length steps13)), (.ptr 2 0 0 2), (.sl 3 0 (List.length all15)), (.int .i64 i11)], [(.var 2 (.ri .i64 [(0 : Int), (0 : Int)])), (.vec 64 (.rr 4 steps13)), (.var 2 (.ri .i64 sum14)), (.vec 29 (.rr 16 all15))], 0, []⟩
def spec_l9Keep_n3_o4 (steps13 : List (List Int)) (all15 : List (List Int)) (x : List Int) : GT := (.out (.exit 0 ⟨expand 43 0 [6, 8] [(.ptr 0 0 0 2), (.ptr 1 0 0 2)], [(.var 2 (.ri .i64 [(0 : Int), (0 : Int)])), (.var 2 (.ri .i64 x))], 0, []⟩))
def spec_l9Keep_n3_ls4 (F : Nat) : LoopS := ⟨43, [2, 6, 7, 8, 9, 10], [], [6, 8], [], [6], [], [], fun vals mem np killed => match vals, mem, np, killed with
  | [(.int .i64 q_n0), (.ptr 0 0 0 2), (.sl 1 0 q_steps5), (.ptr 2 0 0 2), (.sl 3 0 q_all10), (.int .i64 i11)], [(.var 2 (.ri .i64 q_t612)), (.vec 64 (.rr 4 steps13)), (.var 2 (.ri .i64 sum14)), (.vec 29 (.rr 16 all15))], 0, [] => .br ((q_n0 == (3 : Int)) && ((q_t612 == ([(0 : Int), (0 : Int)] : List Int)) && ((Nat.beq q_steps5 (List.length steps13)) && ((Nat.beq q_all10 (List.length all15)) && (spec_l9Keep_n3_l4 F steps13 all15 i11 sum14).isSome)))) (spec_l9Keep_n3_o4 steps13 all15 ((spec_l9Keep_n3_l4 F steps13 all15 i11 sum14).getD default)) .fail
  | _, _, _, _ => .fail⟩
theorem spec_l9Keep_n3_step4 (F : Nat) (steps13 : List (List Int)) (all15 : List (List Int)) (i11 : Int) (sum14 : List Int) {R : Type} (k : Out → Option R) : stepS tt (spec_l9Keep_n3_tab F) (spec_l9Keep_n3_LS0 F) 70 (spec_l9Keep_n3_ls4 F) (loopAt 4 (bodyOf Try.f26)) (spec_l9Keep_n3_st4 steps13 all15 i11 sum14) k = spec_l9Keep_n3_s4 F steps13 all15 R (i11, sum14) (fun s => k (.norm (spec_l9Keep_n3_st4 steps13 all15 s.1 s.2))) (fun x => (spec_l9Keep_n3_o4 steps13 all15 x).run k) := by kernel_rfl
theorem spec_l9Keep_n3_iter4 (F : Nat) (steps13 : List (List Int)) (all15 : List (List Int)) {R : Type} (k : Out → Option R) : ∀ (n : Nat) (i11 : Int) (sum14 : List Int), iterS tt (spec_l9Keep_n3_tab F) (spec_l9Keep_n3_LS0 F) 70 (spec_l9Keep_n3_ls4 F) (loopAt 4 (bodyOf Try.f26)) n (spec_l9Keep_n3_st4 steps13 all15 i11 sum14) k = loopC (spec_l9Keep_n3_s4 F steps13 all15) n (i11, sum14) (fun x => (spec_l9Keep_n3_o4 steps13 all15 x).run k)
  | 0, i11, sum14 => rfl
  | n + 1, i11, sum14 => (iterS_succ tt (spec_l9Keep_n3_tab F) (spec_l9Keep_n3_LS0 F) 70 (spec_l9Keep_n3_ls4 F) (loopAt 4 (bodyOf Try.f26)) n (spec_l9Keep_n3_st4 steps13 all15 i11 sum14) k).trans ((spec_l9Keep_n3_step4 F steps13 all15 i11 sum14 (nextK (iterS tt (spec_l9Keep_n3_tab F) (spec_l9Keep_n3_LS0 F) 70 (spec_l9Keep_n3_ls4 F) (loopAt 4 (bodyOf Try.f26)) n) k)).trans (congrArg (fun kn => spec_l9Keep_n3_s4 F steps13 all15 R (i11, sum14) kn _) (funext (fun ⟨i11, sum14⟩ => spec_l9Keep_n3_iter4 F steps13 all15 k n i11 sum14))))
theorem spec_l9Keep_n3_lok4 (F : Nat) : LoopOK Try.prog (loopAt 4 (bodyOf Try.f26)) (spec_l9Keep_n3_ls4 F) := by
  refine loopOK_of mixed ttok deep (spec_l9Keep_n3_tabok F) (loopsOK_at (spec_l9Keep_n3_lsok0 F) 4) (fuel := 70) fun R vals mem np killed k x h => ?_
  simp only [spec_l9Keep_n3_ls4] at h
  split at h
  · rename_i q_n0 q_steps5 q_all10 i11 q_t612 steps13 sum14 all15
    simp only [GT.run] at h
    have hc := (cond_noneL h).1
    replace h := (cond_noneL h).2
    have hg := (and_split hc).1
    replace hc := (and_split hc).2
    obtain rfl := beq_int hg
    have hg := (and_split hc).1
    replace hc := (and_split hc).2
    obtain rfl := beq_li hg
    have hg := (and_split hc).1
    replace hc := (and_split hc).2
    obtain rfl := nbeq_nat hg
    have hg := (and_split hc).1
    replace hc := (and_split hc).2
    obtain rfl := nbeq_nat hg
    refine ⟨F, (spec_l9Keep_n3_iter4 F steps13 all15 k F i11 sum14).trans ((loopC_use (spec_l9Keep_n3_s4_nat F steps13 all15) hc _).trans h)⟩
  · simp only [GT.run] at h
    cases h
noncomputable def spec_l9Keep_n3_LS1 (F : Nat) : LT := (4, spec_l9Keep_n3_ls4 F) :: spec_l9Keep_n3_LS0 F
theorem spec_l9Keep_n3_lsok1 (F : Nat) : LoopsOK Try.prog (spec_l9Keep_n3_LS1 F) (bodyOf Try.f26) := loopsOK_cons spec_l9Keep_n3_keys (spec_l9Keep_n3_lok4 F) (spec_l9Keep_n3_lsok0 F)
theorem spec_l9Keep_n3_run (F : Nat) (b0 : List Int) (d1 : Int) : runS tt (spec_l9Keep_n3_tab F) (spec_l9Keep_n3_LS1 F) [] [] Try.f26 (bodyOf Try.f26) 70 [(.ints 16 b0), (.int .i64 d1), (.int .i64 (3 : Int))] [] = spec_l9Keep_n3_c _ F b0 d1 (fun r => some ⟨(.ints 2 r), [], []⟩) := by kernel_rfl
def spec_l9Keep_n3_ent (F : Nat) : Ent := ⟨[], .quiet, fun args mem => match args, mem with
  | [(.ints 16 b0), (.int .i64 d1), (.int .i64 q_n2)], [] => bif (q_n2 == (3 : Int)) then some ((spec_l9Keep_n3_p F b0 d1).isSome, ⟨(.ints 2 ((spec_l9Keep_n3_p F b0 d1).getD default)), [], []⟩) else none
  | _, _ => none⟩
theorem spec_l9Keep_n3_fok : FunOK Try.prog 26 := funOK Try.func26 (by kernel_rfl) rfl
theorem spec_l9Keep_n3_meets (F : Nat) : Meets Try.prog 26 (spec_l9Keep_n3_ent F) := by
  refine meets_of_runS mixed ttok deep (spec_l9Keep_n3_tabok F) Try.func26 (body_some rfl) (spec_l9Keep_n3_lsok1 F) fun args mem hfit ret h => ?_
  clear hfit
  simp only [spec_l9Keep_n3_ent] at h
  split at h
  · rename_i b0 d1 q_n2
    have hg0 := (cond_noneL h).1
    replace h := (cond_noneL h).2
    obtain rfl := beq_int hg0
    simp only [Option.some.injEq, Prod.mk.injEq] at h
    obtain ⟨hc, rfl⟩ := h
    exact ⟨[], [], 70, _, (spec_l9Keep_n3_run F b0 d1).trans ((spec_l9Keep_n3_cp _ F b0 d1 _).trans (bind_use hc _)), rfl, rfl, rfl⟩
  · cases h

/-! loop.example/g01194/spec.l9KeepBest -/
noncomputable def spec_l9KeepBest_n3_tab (F : Nat) : Tab := [(24, (spec_l2Moves_ent F)), (26, (spec_l9Keep_n3_ent F)), (40, (spec_l9Less_ent F))]
theorem spec_l9KeepBest_n3_tabok (F : Nat) : TabOK Try.prog (spec_l9KeepBest_n3_tab F) := (tab_cons (spec_l2Moves_meets F) spec_l2Moves_fok (tab_cons (spec_l9Keep_n3_meets F) spec_l9Keep_n3_fok (tab_cons (spec_l9Less_meets F) spec_l9Less_fok tab_nil)))
noncomputable def spec_l9KeepBest_n3_LS0 (F : Nat) : LT := []
theorem spec_l9KeepBest_n3_lsok0 (F : Nat) : LoopsOK Try.prog (spec_l9KeepBest_n3_LS0 F) (bodyOf Try.f25) := loopsOK_nil
theorem spec_l9KeepBest_n3_keys : keysOK (bodyOf Try.f25) = true := by kernel_rfl
def spec_l9KeepBest_n3_st7 (b13 : List Int) (moves16 : List Int) (i12 : Int) (best15 : List Int) : St := ⟨expand 41 0 [1, 2, 4, 5, 6, 7] [(.int .i64 (3 : Int)), (.ptr 0 0 0 16), (.ptr 1 0 0 2), (.ptr 2 0 0 2), (.sl 3 0 (List.length moves16)), (.int .i64 i12)], [(.var 16 (.ri .i64 b13)), (.var 2 (.ri .i64 [(0 : Int), (0 : Int)])), (.var 2 (.ri .i64 best15)), (.vec 3 (.ri .i64 moves16))], 0, []⟩
def spec_l9KeepBest_n3_o7 (b13 : List Int) (moves16 : List Int) (x : List Int) : GT := (.out (.exit 0 ⟨expand 41 0 [4, 5] [(.ptr 0 0 0 2), (.ptr 1 0 0 2)], [(.var 2 (.ri .i64 [(0 : Int), (0 : Int)])), (.var 2 (.ri .i64 x))], 0, []⟩))
def spec_l9KeepBest_n3_ls7 (F : Nat) : LoopS := ⟨41, [1, 2, 4, 5, 6, 7], [], [4, 5], [], [4], [], [], fun vals mem np killed => match vals, mem, np, killed with
  | [(.int .i64 q_n0), (.ptr 0 0 0 16), (.ptr 1 0 0 2), (.ptr 2 0 0 2), (.sl 3 0 q_moves11), (.int .i64 i12)], [(.var 16 (.ri .i64 b13)), (.var 2 (.ri .i64 q_t414)), (.var 2 (.ri .i64 best15)), (.vec 3 (.ri .i64 moves16))], 0, [] => .br ((q_n0 == (3 : Int)) && ((q_t414 == ([(0 : Int), (0 : Int)] : List Int)) && ((Nat.beq q_moves11 (List.length moves16)) && (spec_l9KeepBest_n3_l7 F b13 moves16 i12 best15).isSome))) (spec_l9KeepBest_n3_o7 b13 moves16 ((spec_l9KeepBest_n3_l7 F b13 moves16 i12 best15).getD default)) .fail
  | _, _, _, _ => .fail⟩
theorem spec_l9KeepBest_n3_step7 (F : Nat) (b13 : List Int) (moves16 : List Int) (i12 : Int) (best15 : List Int) {R : Type} (k : Out → Option R) : stepS tt (spec_l9KeepBest_n3_tab F) (spec_l9KeepBest_n3_LS0 F) 70 (spec_l9KeepBest_n3_ls7 F) (loopAt 7 (bodyOf Try.f25)) (spec_l9KeepBest_n3_st7 b13 moves16 i12 best15) k = spec_l9KeepBest_n3_s7 F b13 moves16 R (i12, best15) (fun s => k (.norm (spec_l9KeepBest_n3_st7 b13 moves16 s.1 s.2))) (fun x => (spec_l9KeepBest_n3_o7 b13 moves16 x).run k) := by kernel_rfl
theorem spec_l9KeepBest_n3_iter7 (F : Nat) (b13 : List Int) (moves16 : List Int) {R : Type} (k : Out → Option R) : ∀ (n : Nat) (i12 : Int) (best15 : List Int), iterS tt (spec_l9KeepBest_n3_tab F) (spec_l9KeepBest_n3_LS0 F) 70 (spec_l9KeepBest_n3_ls7 F) (loopAt 7 (bodyOf Try.f25)) n (spec_l9KeepBest_n3_st7 b13 moves16 i12 best15) k = loopC (spec_l9KeepBest_n3_s7 F b13 moves16) n (i12, best15) (fun x => (spec_l9KeepBest_n3_o7 b13 moves16 x).run k)
  | 0, i12, best15 => rfl
  | n + 1, i12, best15 => (iterS_succ tt (spec_l9KeepBest_n3_tab F) (spec_l9KeepBest_n3_LS0 F) 70 (spec_l9KeepBest_n3_ls7 F) (loopAt 7 (bodyOf Try.f25)) n (spec_l9KeepBest_n3_st7 b13 moves16 i12 best15) k).trans ((spec_l9KeepBest_n3_step7 F b13 moves16 i12 best15 (nextK (iterS tt (spec_l9KeepBest_n3_tab F) (spec_l9KeepBest_n3_LS0 F) 70 (spec_l9KeepBest_n3_ls7 F) (loopAt 7 (bodyOf Try.f25)) n) k)).trans (congrArg (fun kn => spec_l9KeepBest_n3_s7 F b13 moves16 R (i12, best15) kn _) (funext (fun ⟨i12, best15⟩ => spec_l9KeepBest_n3_iter7 F b13 moves16 k n i12 best15))))
theorem spec_l9KeepBest_n3_lok7 (F : Nat) : LoopOK Try.prog (loopAt 7 (bodyOf Try.f25)) (spec_l9KeepBest_n3_ls7 F) := by
  refine loopOK_of mixed ttok deep (spec_l9KeepBest_n3_tabok F) (loopsOK_at (spec_l9KeepBest_n3_lsok0 F) 7) (fuel := 70) fun R vals mem np killed k x h => ?_
  simp only [spec_l9KeepBest_n3_ls7] at h
  split at h
  · rename_i q_n0 q_moves11 i12 b13 q_t414 best15 moves16
    simp only [GT.run] at h
    have hc := (cond_noneL h).1
    replace h := (cond_noneL h).2
    have hg := (and_split hc).1
    replace hc := (and_split hc).2
    obtain rfl := beq_int hg
    have hg := (and_split hc).1
    replace hc := (and_split hc).2
    obtain rfl := beq_li hg
    have hg := (and_split hc).1
    replace hc := (and_split hc).2
    obtain rfl := nbeq_nat hg
    refine ⟨F, (spec_l9KeepBest_n3_iter7 F b13 moves16 k F i12 best15).trans ((loopC_use (spec_l9KeepBest_n3_s7_nat F b13 moves16) hc _).trans h)⟩
  · simp only [GT.run] at h
    cases h
noncomputable def spec_l9KeepBest_n3_LS1 (F : Nat) : LT := (7, spec_l9KeepBest_n3_ls7 F) :: spec_l9KeepBest_n3_LS0 F
theorem spec_l9KeepBest_n3_lsok1 (F : Nat) : LoopsOK Try.prog (spec_l9KeepBest_n3_LS1 F) (bodyOf Try.f25) := loopsOK_cons spec_l9KeepBest_n3_keys (spec_l9KeepBest_n3_lok7 F) (spec_l9KeepBest_n3_lsok0 F)
theorem spec_l9KeepBest_n3_run (F : Nat) (b0 : List Int) : runS tt (spec_l9KeepBest_n3_tab F) (spec_l9KeepBest_n3_LS1 F) [] [] Try.f25 (bodyOf Try.f25) 70 [(.ints 16 b0), (.int .i64 (3 : Int))] [] = spec_l9KeepBest_n3_c _ F b0 (fun r => some ⟨(.ints 2 r), [], []⟩) := by kernel_rfl
def spec_l9KeepBest_n3_ent (F : Nat) : Ent := ⟨[], .quiet, fun args mem => match args, mem with
  | [(.ints 16 b0), (.int .i64 q_n1)], [] => bif (q_n1 == (3 : Int)) then some ((spec_l9KeepBest_n3_p F b0).isSome, ⟨(.ints 2 ((spec_l9KeepBest_n3_p F b0).getD default)), [], []⟩) else none
  | _, _ => none⟩
theorem spec_l9KeepBest_n3_fok : FunOK Try.prog 25 := funOK Try.func25 (by kernel_rfl) rfl
theorem spec_l9KeepBest_n3_meets (F : Nat) : Meets Try.prog 25 (spec_l9KeepBest_n3_ent F) := by
  refine meets_of_runS mixed ttok deep (spec_l9KeepBest_n3_tabok F) Try.func25 (body_some rfl) (spec_l9KeepBest_n3_lsok1 F) fun args mem hfit ret h => ?_
  clear hfit
  simp only [spec_l9KeepBest_n3_ent] at h
  split at h
  · rename_i b0 q_n1
    have hg0 := (cond_noneL h).1
    replace h := (cond_noneL h).2
    obtain rfl := beq_int hg0
    simp only [Option.some.injEq, Prod.mk.injEq] at h
    obtain ⟨hc, rfl⟩ := h
    exact ⟨[], [], 70, _, (spec_l9KeepBest_n3_run F b0).trans ((spec_l9KeepBest_n3_cp _ F b0 _).trans (bind_use hc _)), rfl, rfl, rfl⟩
  · cases h

/-! loop.example/g01194/spec.l9KeepBest -/
def spec_l9KeepBest_ent (F : Nat) : Ent := ⟨[], .quiet, fun args mem => match args, mem with
  | [(.ints 16 b0), (.int .i64 n1)], [] => some ((spec_l9KeepBest_p F b0 n1).isSome, ⟨(.ints 2 ((spec_l9KeepBest_p F b0 n1).getD default)), [], []⟩)
  | _, _ => none⟩
theorem spec_l9KeepBest_fok : FunOK Try.prog 25 := funOK Try.func25 (by kernel_rfl) rfl
theorem spec_l9KeepBest_meets (F : Nat) : Meets Try.prog 25 (spec_l9KeepBest_ent F) := by
  intro fr w ρ mem args reals hw ha ret hg
  simp only [spec_l9KeepBest_ent] at hg
  split at hg
  · rename_i b0 n1
    simp only [Option.some.injEq, Prod.mk.injEq] at hg
    obtain ⟨hc, rfl⟩ := hg
    by_cases hn0 : (n1 == (0 : Int)) = true
    · obtain rfl := beq_int hn0
      have e : spec_l9KeepBest_p F b0 (0 : Int) = some [(1 : Int), (1 : Int)] := by kernel_rfl
      have hg' : (spec_l9KeepBest_n0_ent F).g [(.ints 16 b0), (.int .i64 (0 : Int))] [] = some (true, ⟨(.ints 2 [(1 : Int), (1 : Int)]), [], []⟩) := by kernel_rfl
      have h9 := spec_l9KeepBest_n0_meets F fr w ρ _ _ reals hw ha _ hg'
      simp only [e, cond_true, Option.getD_some]
      exact h9
    · replace hn0 : (n1 == (0 : Int)) = false := by simpa using hn0
      by_cases hn1 : (n1 == (1 : Int)) = true
      · obtain rfl := beq_int hn1
        have e : spec_l9KeepBest_p F b0 (1 : Int) = (bif (Option.isSome (spec_l9KeepBest_n1_p F b0)) then some (Option.getD (spec_l9KeepBest_n1_p F b0) default) else none) := by kernel_rfl
        have hg' : (spec_l9KeepBest_n1_ent F).g [(.ints 16 b0), (.int .i64 (1 : Int))] [] = some ((Option.isSome (spec_l9KeepBest_n1_p F b0)), ⟨(.ints 2 (Option.getD (spec_l9KeepBest_n1_p F b0) default)), [], []⟩) := by kernel_rfl
        rw [e] at hc
        have hC := isSome_cond hc
        rw [hC] at hg'
        have h9 := spec_l9KeepBest_n1_meets F fr w ρ _ _ reals hw ha _ hg'
        simp only [e, hC, cond_true, Option.getD_some]
        exact h9
      · replace hn1 : (n1 == (1 : Int)) = false := by simpa using hn1
        by_cases hn2 : (n1 == (2 : Int)) = true
        · obtain rfl := beq_int hn2
          have e : spec_l9KeepBest_p F b0 (2 : Int) = (bif (Option.isSome (spec_l9KeepBest_n2_p F b0)) then some (Option.getD (spec_l9KeepBest_n2_p F b0) default) else none) := by kernel_rfl
          have hg' : (spec_l9KeepBest_n2_ent F).g [(.ints 16 b0), (.int .i64 (2 : Int))] [] = some ((Option.isSome (spec_l9KeepBest_n2_p F b0)), ⟨(.ints 2 (Option.getD (spec_l9KeepBest_n2_p F b0) default)), [], []⟩) := by kernel_rfl
          rw [e] at hc
          have hC := isSome_cond hc
          rw [hC] at hg'
          have h9 := spec_l9KeepBest_n2_meets F fr w ρ _ _ reals hw ha _ hg'
          simp only [e, hC, cond_true, Option.getD_some]
          exact h9
        · replace hn2 : (n1 == (2 : Int)) = false := by simpa using hn2
          by_cases hn3 : (n1 == (3 : Int)) = true
          · obtain rfl := beq_int hn3
            have e : spec_l9KeepBest_p F b0 (3 : Int) = (bif (Option.isSome (spec_l9KeepBest_n3_p F b0)) then some (Option.getD (spec_l9KeepBest_n3_p F b0) default) else none) := by kernel_rfl
            have hg' : (spec_l9KeepBest_n3_ent F).g [(.ints 16 b0), (.int .i64 (3 : Int))] [] = some ((Option.isSome (spec_l9KeepBest_n3_p F b0)), ⟨(.ints 2 (Option.getD (spec_l9KeepBest_n3_p F b0) default)), [], []⟩) := by kernel_rfl
            rw [e] at hc
            have hC := isSome_cond hc
            rw [hC] at hg'
            have h9 := spec_l9KeepBest_n3_meets F fr w ρ _ _ reals hw ha _ hg'
            simp only [e, hC, cond_true, Option.getD_some]
            exact h9
          · replace hn3 : (n1 == (3 : Int)) = false := by simpa using hn3
            exfalso
            have e : spec_l9KeepBest_p F b0 n1 = none := by simp only [spec_l9KeepBest_p, spec_l9KeepBest_c, hn0, hn1, hn2, hn3, cond_false]
            rw [e] at hc
            cases hc
  · cases hg

/-! loop.example/g01194/spec.l9Keep -/
def spec_l9Keep_ent (F : Nat) : Ent := ⟨[], .quiet, fun args mem => match args, mem with
  | [(.ints 16 b0), (.int .i64 d1), (.int .i64 n2)], [] => some ((spec_l9Keep_p F b0 d1 n2).isSome, ⟨(.ints 2 ((spec_l9Keep_p F b0 d1 n2).getD default)), [], []⟩)
  | _, _ => none⟩
theorem spec_l9Keep_fok : FunOK Try.prog 26 := funOK Try.func26 (by kernel_rfl) rfl
theorem spec_l9Keep_meets (F : Nat) : Meets Try.prog 26 (spec_l9Keep_ent F) := by
  intro fr w ρ mem args reals hw ha ret hg
  simp only [spec_l9Keep_ent] at hg
  split at hg
  · rename_i b0 d1 n2
    simp only [Option.some.injEq, Prod.mk.injEq] at hg
    obtain ⟨hc, rfl⟩ := hg
    by_cases hn0 : (n2 == (1 : Int)) = true
    · obtain rfl := beq_int hn0
      have e : spec_l9Keep_p F b0 d1 (1 : Int) = (bif (Option.isSome (spec_l9Keep_n1_p F b0 d1)) then some (Option.getD (spec_l9Keep_n1_p F b0 d1) default) else none) := by kernel_rfl
      have hg' : (spec_l9Keep_n1_ent F).g [(.ints 16 b0), (.int .i64 d1), (.int .i64 (1 : Int))] [] = some ((Option.isSome (spec_l9Keep_n1_p F b0 d1)), ⟨(.ints 2 (Option.getD (spec_l9Keep_n1_p F b0 d1) default)), [], []⟩) := by kernel_rfl
      rw [e] at hc
      have hC := isSome_cond hc
      rw [hC] at hg'
      have h9 := spec_l9Keep_n1_meets F fr w ρ _ _ reals hw ha _ hg'
      simp only [e, hC, cond_true, Option.getD_some]
      exact h9
    · replace hn0 : (n2 == (1 : Int)) = false := by simpa using hn0
      by_cases hn1 : (n2 == (2 : Int)) = true
      · obtain rfl := beq_int hn1
        have e : spec_l9Keep_p F b0 d1 (2 : Int) = (bif (Option.isSome (spec_l9Keep_n2_p F b0 d1)) then some (Option.getD (spec_l9Keep_n2_p F b0 d1) default) else none) := by kernel_rfl
        have hg' : (spec_l9Keep_n2_ent F).g [(.ints 16 b0), (.int .i64 d1), (.int .i64 (2 : Int))] [] = some ((Option.isSome (spec_l9Keep_n2_p F b0 d1)), ⟨(.ints 2 (Option.getD (spec_l9Keep_n2_p F b0 d1) default)), [], []⟩) := by kernel_rfl
        rw [e] at hc
        have hC := isSome_cond hc
        rw [hC] at hg'
        have h9 := spec_l9Keep_n2_meets F fr w ρ _ _ reals hw ha _ hg'
        simp only [e, hC, cond_true, Option.getD_some]
        exact h9
      · replace hn1 : (n2 == (2 : Int)) = false := by simpa using hn1
        by_cases hn2 : (n2 == (3 : Int)) = true
        · obtain rfl := beq_int hn2
          have e : spec_l9Keep_p F b0 d1 (3 : Int) = (bif (Option.isSome (spec_l9Keep_n3_p F b0 d1)) then some (Option.getD (spec_l9Keep_n3_p F b0 d1) default) else none) := by kernel_rfl
          have hg' : (spec_l9Keep_n3_ent F).g [(.ints 16 b0), (.int .i64 d1), (.int .i64 (3 : Int))] [] = some ((Option.isSome (spec_l9Keep_n3_p F b0 d1)), ⟨(.ints 2 (Option.getD (spec_l9Keep_n3_p F b0 d1) default)), [], []⟩) := by kernel_rfl
          rw [e] at hc
          have hC := isSome_cond hc
          rw [hC] at hg'
          have h9 := spec_l9Keep_n3_meets F fr w ρ _ _ reals hw ha _ hg'
          simp only [e, hC, cond_true, Option.getD_some]
          exact h9
        · replace hn2 : (n2 == (3 : Int)) = false := by simpa using hn2
          exfalso
          have e : spec_l9Keep_p F b0 d1 n2 = none := by simp only [spec_l9Keep_p, spec_l9Keep_c, hn0, hn1, hn2, cond_false]
          rw [e] at hc
          cases hc
  · cases hg

/-! loop.example/g01194/spec.FirstWell -/
noncomputable def spec_FirstWell_tab (F : Nat) : Tab := [(17, (spec_l2Board_ent F)), (18, (spec_l1In_ent F)), (24, (spec_l2Moves_ent F)), (25, (spec_l9KeepBest_ent F)), (26, (spec_l9Keep_ent F))]
theorem spec_FirstWell_tabok (F : Nat) : TabOK Try.prog (spec_FirstWell_tab F) := (tab_cons (spec_l2Board_meets F) spec_l2Board_fok (tab_cons (spec_l1In_meets F) spec_l1In_fok (tab_cons (spec_l2Moves_meets F) spec_l2Moves_fok (tab_cons (spec_l9KeepBest_meets F) spec_l9KeepBest_fok (tab_cons (spec_l9Keep_meets F) spec_l9Keep_fok tab_nil)))))
noncomputable def spec_FirstWell_LS0 (F : Nat) : LT := []
theorem spec_FirstWell_lsok0 (F : Nat) : LoopsOK Try.prog (spec_FirstWell_LS0 F) (bodyOf Try.f11) := loopsOK_nil
theorem spec_FirstWell_keys : keysOK (bodyOf Try.f11) = true := by kernel_rfl
def spec_FirstWell_st5 (n0 : Int) (b10 : List Int) (moves11 : List Int) (best12 : List Int) (i9 : Int) : St := ⟨expand 41 0 [1, 2, 6, 7, 8] [(.int .i64 n0), (.ptr 0 0 0 16), (.sl 1 0 (List.length moves11)), (.ptr 2 0 0 2), (.int .i64 i9)], [(.var 16 (.ri .i64 b10)), (.vec 3 (.ri .i64 moves11)), (.var 2 (.ri .i64 best12))], 0, []⟩
def spec_FirstWell_o5 (n0 : Int) (b10 : List Int) (moves11 : List Int) (best12 : List Int) (x : Bool × Int) : GT := (.br x.1 (.out (.ret ⟨expand 41 0 [4, 5] [(.int .i64 x.2), (.bool true)], [], 0, []⟩)) (.out (.exit 0 ⟨expand 41 0 [] [], [], 0, []⟩)))
def spec_FirstWell_ls5 (F : Nat) : LoopS := ⟨41, [1, 2, 6, 7, 8], [], [], [], [4, 5], [], [], fun vals mem np killed => match vals, mem, np, killed with
  | [(.int .i64 n0), (.ptr 0 0 0 16), (.sl 1 0 q_moves5), (.ptr 2 0 0 2), (.int .i64 i9)], [(.var 16 (.ri .i64 b10)), (.vec 3 (.ri .i64 moves11)), (.var 2 (.ri .i64 best12))], 0, [] => .br ((Nat.beq q_moves5 (List.length moves11)) && (spec_FirstWell_l5 F n0 b10 moves11 best12 i9).isSome) (spec_FirstWell_o5 n0 b10 moves11 best12 ((spec_FirstWell_l5 F n0 b10 moves11 best12 i9).getD default)) .fail
  | _, _, _, _ => .fail⟩
theorem spec_FirstWell_step5 (F : Nat) (n0 : Int) (b10 : List Int) (moves11 : List Int) (best12 : List Int) (i9 : Int) {R : Type} (k : Out → Option R) : stepS tt (spec_FirstWell_tab F) (spec_FirstWell_LS0 F) 70 (spec_FirstWell_ls5 F) (loopAt 5 (bodyOf Try.f11)) (spec_FirstWell_st5 n0 b10 moves11 best12 i9) k = spec_FirstWell_s5 F n0 b10 moves11 best12 R i9 (fun s => k (.norm (spec_FirstWell_st5 n0 b10 moves11 best12 s))) (fun x => (spec_FirstWell_o5 n0 b10 moves11 best12 x).run k) := by kernel_rfl
theorem spec_FirstWell_iter5 (F : Nat) (n0 : Int) (b10 : List Int) (moves11 : List Int) (best12 : List Int) {R : Type} (k : Out → Option R) : ∀ (n : Nat) (i9 : Int), iterS tt (spec_FirstWell_tab F) (spec_FirstWell_LS0 F) 70 (spec_FirstWell_ls5 F) (loopAt 5 (bodyOf Try.f11)) n (spec_FirstWell_st5 n0 b10 moves11 best12 i9) k = loopC (spec_FirstWell_s5 F n0 b10 moves11 best12) n i9 (fun x => (spec_FirstWell_o5 n0 b10 moves11 best12 x).run k)
  | 0, i9 => rfl
  | n + 1, i9 => (iterS_succ tt (spec_FirstWell_tab F) (spec_FirstWell_LS0 F) 70 (spec_FirstWell_ls5 F) (loopAt 5 (bodyOf Try.f11)) n (spec_FirstWell_st5 n0 b10 moves11 best12 i9) k).trans ((spec_FirstWell_step5 F n0 b10 moves11 best12 i9 (nextK (iterS tt (spec_FirstWell_tab F) (spec_FirstWell_LS0 F) 70 (spec_FirstWell_ls5 F) (loopAt 5 (bodyOf Try.f11)) n) k)).trans (congrArg (fun kn => spec_FirstWell_s5 F n0 b10 moves11 best12 R i9 kn _) (funext (fun i9 => spec_FirstWell_iter5 F n0 b10 moves11 best12 k n i9))))
theorem spec_FirstWell_lok5 (F : Nat) : LoopOK Try.prog (loopAt 5 (bodyOf Try.f11)) (spec_FirstWell_ls5 F) := by
  refine loopOK_of mixed ttok deep (spec_FirstWell_tabok F) (loopsOK_at (spec_FirstWell_lsok0 F) 5) (fuel := 70) fun R vals mem np killed k x h => ?_
  simp only [spec_FirstWell_ls5] at h
  split at h
  · rename_i n0 q_moves5 i9 b10 moves11 best12
    simp only [GT.run] at h
    have hc := (cond_noneL h).1
    replace h := (cond_noneL h).2
    have hg := (and_split hc).1
    replace hc := (and_split hc).2
    obtain rfl := nbeq_nat hg
    refine ⟨F, (spec_FirstWell_iter5 F n0 b10 moves11 best12 k F i9).trans ((loopC_use (spec_FirstWell_s5_nat F n0 b10 moves11 best12) hc _).trans h)⟩
  · simp only [GT.run] at h
    cases h
noncomputable def spec_FirstWell_LS1 (F : Nat) : LT := (5, spec_FirstWell_ls5 F) :: spec_FirstWell_LS0 F
theorem spec_FirstWell_lsok1 (F : Nat) : LoopsOK Try.prog (spec_FirstWell_LS1 F) (bodyOf Try.f11) := loopsOK_cons spec_FirstWell_keys (spec_FirstWell_lok5 F) (spec_FirstWell_lsok0 F)
theorem spec_FirstWell_run (F : Nat) (b0 : List Int) (n1 : Int) : runS tt (spec_FirstWell_tab F) (spec_FirstWell_LS1 F) [] [] Try.f11 (bodyOf Try.f11) 70 [(.ints 16 b0), (.int .i64 n1)] [] = spec_FirstWell_c _ F b0 n1 (fun r => some ⟨(.tup [(.int .i64 r.1), (.bool r.2)]), [], []⟩) := by kernel_rfl
def spec_FirstWell_ent (F : Nat) : Ent := ⟨[], .quiet, fun args mem => match args, mem with
  | [(.ints 16 b0), (.int .i64 n1)], [] => some ((spec_FirstWell_p F b0 n1).isSome, ⟨(.tup [(.int .i64 ((spec_FirstWell_p F b0 n1).getD default).1), (.bool ((spec_FirstWell_p F b0 n1).getD default).2)]), [], []⟩)
  | _, _ => none⟩
theorem spec_FirstWell_fok : FunOK Try.prog 11 := funOK Try.func11 (by kernel_rfl) rfl
theorem spec_FirstWell_meets (F : Nat) : Meets Try.prog 11 (spec_FirstWell_ent F) := by
  refine meets_of_runS mixed ttok deep (spec_FirstWell_tabok F) Try.func11 (body_some rfl) (spec_FirstWell_lsok1 F) fun args mem hfit ret h => ?_
  clear hfit
  simp only [spec_FirstWell_ent] at h
  split at h
  · rename_i b0 n1
    simp only [Option.some.injEq, Prod.mk.injEq] at h
    obtain ⟨hc, rfl⟩ := h
    exact ⟨[], [], 70, _, (spec_FirstWell_run F b0 n1).trans ((spec_FirstWell_cp _ F b0 n1 _).trans (bind_use hc _)), rfl, rfl, rfl⟩
  · cases h

/-! (loop.example/g01194/impl.Board).isOver -/
noncomputable def impl_Board_isOver_tab (F : Nat) : Tab := [(51, (impl_Board_moves_ent F))]
theorem impl_Board_isOver_tabok (F : Nat) : TabOK Try.prog (impl_Board_isOver_tab F) := (tab_cons (impl_Board_moves_meets F) impl_Board_moves_fok tab_nil)
noncomputable def impl_Board_isOver_LS0 (F : Nat) : LT := []
theorem impl_Board_isOver_lsok0 (F : Nat) : LoopsOK Try.prog (impl_Board_isOver_LS0 F) (bodyOf Try.f27) := loopsOK_nil
theorem impl_Board_isOver_run (F : Nat) (b0 : List Int) : runS tt (impl_Board_isOver_tab F) (impl_Board_isOver_LS0 F) [] [] Try.f27 (bodyOf Try.f27) 70 [(.ints 16 b0)] [] = impl_Board_isOver_c _ F b0 (fun r => some ⟨(.bool r), [], []⟩) := by kernel_rfl
def impl_Board_isOver_ent (F : Nat) : Ent := ⟨[], .quiet, fun args mem => match args, mem with
  | [(.ints 16 b0)], [] => some ((impl_Board_isOver_p F b0).isSome, ⟨(.bool ((impl_Board_isOver_p F b0).getD default)), [], []⟩)
  | _, _ => none⟩
theorem impl_Board_isOver_fok : FunOK Try.prog 27 := funOK Try.func27 (by kernel_rfl) rfl
theorem impl_Board_isOver_meets (F : Nat) : Meets Try.prog 27 (impl_Board_isOver_ent F) := by
  refine meets_of_runS mixed ttok deep (impl_Board_isOver_tabok F) Try.func27 (body_some rfl) (impl_Board_isOver_lsok0 F) fun args mem hfit ret h => ?_
  clear hfit
  simp only [impl_Board_isOver_ent] at h
  split at h
  · rename_i b0
    simp only [Option.some.injEq, Prod.mk.injEq] at h
    obtain ⟨hc, rfl⟩ := h
    exact ⟨[], [], 70, _, (impl_Board_isOver_run F b0).trans ((impl_Board_isOver_cp _ F b0 _).trans (bind_use hc _)), rfl, rfl, rfl⟩
  · cases h

/-! (loop.example/g01194/impl.Board).keepOf -/
noncomputable def impl_Board_keepOf_n1_tab (F : Nat) : Tab := [(45, (impl_whole_ent F))]
theorem impl_Board_keepOf_n1_tabok (F : Nat) : TabOK Try.prog (impl_Board_keepOf_n1_tab F) := (tab_cons (impl_whole_meets F) impl_whole_fok tab_nil)
noncomputable def impl_Board_keepOf_n1_LS0 (F : Nat) : LT := []
theorem impl_Board_keepOf_n1_lsok0 (F : Nat) : LoopsOK Try.prog (impl_Board_keepOf_n1_LS0 F) (bodyOf Try.f30) := loopsOK_nil
theorem impl_Board_keepOf_n1_run (F : Nat) (b0 : List Int) (direction1 : Int) : runS tt (impl_Board_keepOf_n1_tab F) (impl_Board_keepOf_n1_LS0 F) [] [] Try.f30 (bodyOf Try.f30) 70 [(.ints 16 b0), (.int .i64 direction1), (.int .i64 (1 : Int))] [] = impl_Board_keepOf_n1_c _ b0 direction1 (fun r => some ⟨(.ints 2 r), [], []⟩) := by kernel_rfl
def impl_Board_keepOf_n1_ent (F : Nat) : Ent := ⟨[], .quiet, fun args mem => match args, mem with
  | [(.ints 16 b0), (.int .i64 direction1), (.int .i64 q_n2)], [] => bif (q_n2 == (1 : Int)) then some (true, ⟨(.ints 2 (impl_Board_keepOf_n1_v b0 direction1)), [], []⟩) else none
  | _, _ => none⟩
theorem impl_Board_keepOf_n1_fok : FunOK Try.prog 30 := funOK Try.func30 (by kernel_rfl) rfl
theorem impl_Board_keepOf_n1_meets (F : Nat) : Meets Try.prog 30 (impl_Board_keepOf_n1_ent F) := by
  refine meets_of_runS mixed ttok deep (impl_Board_keepOf_n1_tabok F) Try.func30 (body_some rfl) (impl_Board_keepOf_n1_lsok0 F) fun args mem hfit ret h => ?_
  clear hfit
  simp only [impl_Board_keepOf_n1_ent] at h
  split at h
  · rename_i b0 direction1 q_n2
    have hg0 := (cond_noneL h).1
    replace h := (cond_noneL h).2
    obtain rfl := beq_int hg0
    simp only [Option.some.injEq, Prod.mk.injEq] at h
    obtain ⟨hc, rfl⟩ := h
    exact ⟨[], [], 70, _, (impl_Board_keepOf_n1_run F b0 direction1).trans (impl_Board_keepOf_n1_cv _ b0 direction1 _), rfl, rfl, rfl⟩
  · cases h

/-! (loop.example/g01194/impl.Board).slides -/
noncomputable def impl_Board_slides_tab (F : Nat) : Tab := [(47, (impl_Board_slide_ent F))]
theorem impl_Board_slides_tabok (F : Nat) : TabOK Try.prog (impl_Board_slides_tab F) := (tab_cons (impl_Board_slide_meets F) impl_Board_slide_fok tab_nil)
noncomputable def impl_Board_slides_LS0 (F : Nat) : LT := []
theorem impl_Board_slides_lsok0 (F : Nat) : LoopsOK Try.prog (impl_Board_slides_LS0 F) (bodyOf Try.f53) := loopsOK_nil
theorem impl_Board_slides_keys : keysOK (bodyOf Try.f53) = true := by kernel_rfl
def impl_Board_slides_st2 (t76 : List Int) (t87 : Int) (t98 : Int) (b9 : List Int) : St := ⟨expand 22 0 [2, 4, 7, 8, 9] [(.ptr 0 0 0 16), (.ptr 1 0 0 16), (.ri .i64 t76), (.int .i64 t87), (.int .i64 t98)], [(.var 16 (.ri .i64 b9)), (.var 16 (.ri .i64 [(0 : Int), (0 : Int), (0 : Int), (0 : Int), (0 : Int), (0 : Int), (0 : Int), (0 : Int), (0 : Int), (0 : Int), (0 : Int), (0 : Int), (0 : Int), (0 : Int), (0 : Int), (0 : Int)]))], 0, []⟩
def impl_Board_slides_o2 (t76 : List Int) (t87 : Int) (x : List Int) : GT := (.out (.exit 0 ⟨expand 22 0 [2, 4] [(.ptr 0 0 0 16), (.ptr 1 0 0 16)], [(.var 16 (.ri .i64 x)), (.var 16 (.ri .i64 [(0 : Int), (0 : Int), (0 : Int), (0 : Int), (0 : Int), (0 : Int), (0 : Int), (0 : Int), (0 : Int), (0 : Int), (0 : Int), (0 : Int), (0 : Int), (0 : Int), (0 : Int), (0 : Int)]))], 0, []⟩))
def impl_Board_slides_ls2 (F : Nat) : LoopS := ⟨22, [2, 4, 7, 8, 9], [], [2, 4], [], [4], [], [], fun vals mem np killed => match vals, mem, np, killed with
  | [(.ptr 0 0 0 16), (.ptr 1 0 0 16), (.ri .i64 t76), (.int .i64 t87), (.int .i64 t98)], [(.var 16 (.ri .i64 b9)), (.var 16 (.ri .i64 q_t410))], 0, [] => .br ((q_t410 == ([(0 : Int), (0 : Int), (0 : Int), (0 : Int), (0 : Int), (0 : Int), (0 : Int), (0 : Int), (0 : Int), (0 : Int), (0 : Int), (0 : Int), (0 : Int), (0 : Int), (0 : Int), (0 : Int)] : List Int)) && (impl_Board_slides_l2 F t76 t87 t98 b9).isSome) (impl_Board_slides_o2 t76 t87 ((impl_Board_slides_l2 F t76 t87 t98 b9).getD default)) .fail
  | _, _, _, _ => .fail⟩
theorem impl_Board_slides_step2 (F : Nat) (t76 : List Int) (t87 : Int) (t98 : Int) (b9 : List Int) {R : Type} (k : Out → Option R) : stepS tt (impl_Board_slides_tab F) (impl_Board_slides_LS0 F) 70 (impl_Board_slides_ls2 F) (loopAt 2 (bodyOf Try.f53)) (impl_Board_slides_st2 t76 t87 t98 b9) k = impl_Board_slides_s2 F t76 t87 R (t98, b9) (fun s => k (.norm (impl_Board_slides_st2 t76 t87 s.1 s.2))) (fun x => (impl_Board_slides_o2 t76 t87 x).run k) := by kernel_rfl
theorem impl_Board_slides_iter2 (F : Nat) (t76 : List Int) (t87 : Int) {R : Type} (k : Out → Option R) : ∀ (n : Nat) (t98 : Int) (b9 : List Int), iterS tt (impl_Board_slides_tab F) (impl_Board_slides_LS0 F) 70 (impl_Board_slides_ls2 F) (loopAt 2 (bodyOf Try.f53)) n (impl_Board_slides_st2 t76 t87 t98 b9) k = loopC (impl_Board_slides_s2 F t76 t87) n (t98, b9) (fun x => (impl_Board_slides_o2 t76 t87 x).run k)
  | 0, t98, b9 => rfl
  | n + 1, t98, b9 => (iterS_succ tt (impl_Board_slides_tab F) (impl_Board_slides_LS0 F) 70 (impl_Board_slides_ls2 F) (loopAt 2 (bodyOf Try.f53)) n (impl_Board_slides_st2 t76 t87 t98 b9) k).trans ((impl_Board_slides_step2 F t76 t87 t98 b9 (nextK (iterS tt (impl_Board_slides_tab F) (impl_Board_slides_LS0 F) 70 (impl_Board_slides_ls2 F) (loopAt 2 (bodyOf Try.f53)) n) k)).trans (congrArg (fun kn => impl_Board_slides_s2 F t76 t87 R (t98, b9) kn _) (funext (fun ⟨t98, b9⟩ => impl_Board_slides_iter2 F t76 t87 k n t98 b9))))
theorem impl_Board_slides_lok2 (F : Nat) : LoopOK Try.prog (loopAt 2 (bodyOf Try.f53)) (impl_Board_slides_ls2 F) := by
  refine loopOK_of mixed ttok deep (impl_Board_slides_tabok F) (loopsOK_at (impl_Board_slides_lsok0 F) 2) (fuel := 70) fun R vals mem np killed k x h => ?_
  simp only [impl_Board_slides_ls2] at h
  split at h
  · rename_i t76 t87 t98 b9 q_t410
    simp only [GT.run] at h
    have hc := (cond_noneL h).1
    replace h := (cond_noneL h).2
    have hg := (and_split hc).1
    replace hc := (and_split hc).2
    obtain rfl := beq_li hg
    refine ⟨F, (impl_Board_slides_iter2 F t76 t87 k F t98 b9).trans ((loopC_use (impl_Board_slides_s2_nat F t76 t87) hc _).trans h)⟩
  · simp only [GT.run] at h
    cases h
noncomputable def impl_Board_slides_LS1 (F : Nat) : LT := (2, impl_Board_slides_ls2 F) :: impl_Board_slides_LS0 F
theorem impl_Board_slides_lsok1 (F : Nat) : LoopsOK Try.prog (impl_Board_slides_LS1 F) (bodyOf Try.f53) := loopsOK_cons impl_Board_slides_keys (impl_Board_slides_lok2 F) (impl_Board_slides_lsok0 F)
theorem impl_Board_slides_run (F : Nat) (b0 : List Int) (list1 : List Int) : runS tt (impl_Board_slides_tab F) (impl_Board_slides_LS1 F) [] [] Try.f53 (bodyOf Try.f53) 70 [(.ints 16 b0), (.ri .i64 list1)] [] = impl_Board_slides_c _ F b0 list1 (fun r => some ⟨(.ints 16 r), [], []⟩) := by kernel_rfl
def impl_Board_slides_ent (F : Nat) : Ent := ⟨[], .quiet, fun args mem => match args, mem with
  | [(.ints 16 b0), (.ri .i64 list1)], [] => some ((impl_Board_slides_p F b0 list1).isSome, ⟨(.ints 16 ((impl_Board_slides_p F b0 list1).getD default)), [], []⟩)
  | _, _ => none⟩
theorem impl_Board_slides_fok : FunOK Try.prog 53 := funOK Try.func53 (by kernel_rfl) rfl
theorem impl_Board_slides_meets (F : Nat) : Meets Try.prog 53 (impl_Board_slides_ent F) := by
  refine meets_of_runS mixed ttok deep (impl_Board_slides_tabok F) Try.func53 (body_some rfl) (impl_Board_slides_lsok1 F) fun args mem hfit ret h => ?_
  clear hfit
  simp only [impl_Board_slides_ent] at h
  split at h
  · rename_i b0 list1
    simp only [Option.some.injEq, Prod.mk.injEq] at h
    obtain ⟨hc, rfl⟩ := h
    exact ⟨[], [], 70, _, (impl_Board_slides_run F b0 list1).trans ((impl_Board_slides_cp _ F b0 list1 _).trans (bind_use hc _)), rfl, rfl, rfl⟩
  · cases h

/-! (loop.example/g01194/impl.Board).keep$1 -/
noncomputable def impl_Board_keep_f1_n1_tab (F : Nat) : Tab := [(30, (impl_Board_keepOf_n1_ent F))]
theorem impl_Board_keep_f1_n1_tabok (F : Nat) : TabOK Try.prog (impl_Board_keep_f1_n1_tab F) := (tab_cons (impl_Board_keepOf_n1_meets F) impl_Board_keepOf_n1_fok tab_nil)
noncomputable def impl_Board_keep_f1_n1_LS0 (F : Nat) : LT := []
theorem impl_Board_keep_f1_n1_lsok0 (F : Nat) : LoopsOK Try.prog (impl_Board_keep_f1_n1_LS0 F) (bodyOf Try.f76) := loopsOK_nil
theorem impl_Board_keep_f1_n1_run (F : Nat) (d0 : Int) (a17 : List Int) : runS tt (impl_Board_keep_f1_n1_tab F) (impl_Board_keep_f1_n1_LS0 F) [] [] Try.f76 (bodyOf Try.f76) 70 [(.int .i64 d0), (.ptr 0 0 0 16), (.ptr 1 0 0 1)] [(.var 16 (.ri .i64 a17)), (.var 1 (.ri .i64 [(1 : Int)]))] = impl_Board_keep_f1_n1_c _ d0 a17 (fun r => some ⟨(.ints 2 r), [(.var 16 (.ri .i64 a17)), (.var 1 (.ri .i64 [(1 : Int)]))], []⟩) := by kernel_rfl
def impl_Board_keep_f1_n1_ent (F : Nat) : Ent := ⟨[], .quiet, fun args mem => match args, mem with
  | [(.int .i64 d0), (.ptr 0 0 0 16), (.ptr 1 0 0 1)], [(.var 16 (.ri .i64 a17)), (.var 1 (.ri .i64 q_a28))] => bif (q_a28 == ([(1 : Int)] : List Int)) then some (true, ⟨(.ints 2 (impl_Board_keep_f1_n1_v d0 a17)), [], []⟩) else none
  | _, _ => none⟩
theorem impl_Board_keep_f1_n1_fok : FunOK Try.prog 76 := funOK Try.func76 (by kernel_rfl) rfl
theorem impl_Board_keep_f1_n1_meets (F : Nat) : Meets Try.prog 76 (impl_Board_keep_f1_n1_ent F) := by
  refine meets_of_runS mixed ttok deep (impl_Board_keep_f1_n1_tabok F) Try.func76 (body_some rfl) (impl_Board_keep_f1_n1_lsok0 F) fun args mem hfit ret h => ?_
  clear hfit
  simp only [impl_Board_keep_f1_n1_ent] at h
  split at h
  · rename_i d0 a17 q_a28
    have hg0 := (cond_noneL h).1
    replace h := (cond_noneL h).2
    obtain rfl := beq_li hg0
    simp only [Option.some.injEq, Prod.mk.injEq] at h
    obtain ⟨hc, rfl⟩ := h
    exact ⟨[], [], 70, _, (impl_Board_keep_f1_n1_run F d0 a17).trans (impl_Board_keep_f1_n1_cv _ d0 a17 _), rfl, rfl, rfl⟩
  · cases h

/-! (loop.example/g01194/impl.Board).best -/
noncomputable def impl_Board_best_impl_Board_keep_f1_n1_tab (F : Nat) : Tab := [(45, (impl_whole_ent F)), (51, (impl_Board_moves_ent F)), (76, (impl_Board_keep_f1_n1_ent F)), (52, (impl_isLess_ent F))]
theorem impl_Board_best_impl_Board_keep_f1_n1_tabok (F : Nat) : TabOK Try.prog (impl_Board_best_impl_Board_keep_f1_n1_tab F) := (tab_cons (impl_whole_meets F) impl_whole_fok (tab_cons (impl_Board_moves_meets F) impl_Board_moves_fok (tab_cons (impl_Board_keep_f1_n1_meets F) impl_Board_keep_f1_n1_fok (tab_cons (impl_isLess_meets F) impl_isLess_fok tab_nil))))
noncomputable def impl_Board_best_impl_Board_keep_f1_n1_LS0 (F : Nat) : LT := []
theorem impl_Board_best_impl_Board_keep_f1_n1_lsok0 (F : Nat) : LoopsOK Try.prog (impl_Board_best_impl_Board_keep_f1_n1_LS0 F) (bodyOf Try.f28) := loopsOK_nil
theorem impl_Board_best_impl_Board_keep_f1_n1_keys : keysOK (bodyOf Try.f28) = true := by kernel_rfl
def impl_Board_best_impl_Board_keep_f1_n1_st3 (t1415 : Int) (of17 : List Int) (t1321 : List Int) (at9 : Int) (t1516 : Int) (most20 : List Int) : St := ⟨expand 34 0 [1, 5, 6, 7, 13, 14, 15] [(.fn 76 [] [(.ptr 0 0 0 16), (.ptr 1 0 0 1)]), (.ptr 2 0 0 2), (.int .i64 at9), (.ptr 3 0 0 2), (.sl 4 0 (List.length t1321)), (.int .i64 t1415), (.int .i64 t1516)], [(.var 16 (.ri .i64 of17)), (.var 1 (.ri .i64 [(1 : Int)])), (.var 2 (.ri .i64 [(0 : Int), (0 : Int)])), (.var 2 (.ri .i64 most20)), (.vec 3 (.ri .i64 t1321))], 2, []⟩
def impl_Board_best_impl_Board_keep_f1_n1_o3 (t1415 : Int) (of17 : List Int) (t1321 : List Int) (x : Int × List Int) : GT := (.out (.exit 0 ⟨expand 34 0 [5, 6, 7] [(.ptr 2 0 0 2), (.int .i64 x.1), (.ptr 3 0 0 2)], [(.var 16 (.ri .i64 of17)), (.var 1 (.ri .i64 [(1 : Int)])), (.var 2 (.ri .i64 [(0 : Int), (0 : Int)])), (.var 2 (.ri .i64 x.2))], 2, []⟩))
def impl_Board_best_impl_Board_keep_f1_n1_ls3 (F : Nat) : LoopS := ⟨34, [1, 5, 6, 7, 13, 14, 15], [], [5, 6, 7], [], [4, 5], [], [], fun vals mem np killed => match vals, mem, np, killed with
  | [(.fn 76 [] [(.ptr 0 0 0 16), (.ptr 1 0 0 1)]), (.ptr 2 0 0 2), (.int .i64 at9), (.ptr 3 0 0 2), (.sl 4 0 q_t1314), (.int .i64 t1415), (.int .i64 t1516)], [(.var 16 (.ri .i64 of17)), (.var 1 (.ri .i64 q_of18)), (.var 2 (.ri .i64 q_t519)), (.var 2 (.ri .i64 most20)), (.vec 3 (.ri .i64 t1321))], 2, [] => .br ((q_of18 == ([(1 : Int)] : List Int)) && ((q_t519 == ([(0 : Int), (0 : Int)] : List Int)) && ((Nat.beq q_t1314 (List.length t1321)) && (impl_Board_best_impl_Board_keep_f1_n1_l3 F t1415 of17 t1321 at9 t1516 most20).isSome))) (impl_Board_best_impl_Board_keep_f1_n1_o3 t1415 of17 t1321 ((impl_Board_best_impl_Board_keep_f1_n1_l3 F t1415 of17 t1321 at9 t1516 most20).getD default)) .fail
  | _, _, _, _ => .fail⟩
theorem impl_Board_best_impl_Board_keep_f1_n1_step3 (F : Nat) (t1415 : Int) (of17 : List Int) (t1321 : List Int) (at9 : Int) (t1516 : Int) (most20 : List Int) {R : Type} (k : Out → Option R) : stepS tt (impl_Board_best_impl_Board_keep_f1_n1_tab F) (impl_Board_best_impl_Board_keep_f1_n1_LS0 F) 70 (impl_Board_best_impl_Board_keep_f1_n1_ls3 F) (loopAt 3 (bodyOf Try.f28)) (impl_Board_best_impl_Board_keep_f1_n1_st3 t1415 of17 t1321 at9 t1516 most20) k = impl_Board_best_impl_Board_keep_f1_n1_s3 F t1415 of17 t1321 R (at9, t1516, most20) (fun s => k (.norm (impl_Board_best_impl_Board_keep_f1_n1_st3 t1415 of17 t1321 s.1 s.2.1 s.2.2))) (fun x => (impl_Board_best_impl_Board_keep_f1_n1_o3 t1415 of17 t1321 x).run k) := by kernel_rfl
theorem impl_Board_best_impl_Board_keep_f1_n1_iter3 (F : Nat) (t1415 : Int) (of17 : List Int) (t1321 : List Int) {R : Type} (k : Out → Option R) : ∀ (n : Nat) (at9 : Int) (t1516 : Int) (most20 : List Int), iterS tt (impl_Board_best_impl_Board_keep_f1_n1_tab F) (impl_Board_best_impl_Board_keep_f1_n1_LS0 F) 70 (impl_Board_best_impl_Board_keep_f1_n1_ls3 F) (loopAt 3 (bodyOf Try.f28)) n (impl_Board_best_impl_Board_keep_f1_n1_st3 t1415 of17 t1321 at9 t1516 most20) k = loopC (impl_Board_best_impl_Board_keep_f1_n1_s3 F t1415 of17 t1321) n (at9, t1516, most20) (fun x => (impl_Board_best_impl_Board_keep_f1_n1_o3 t1415 of17 t1321 x).run k)
  | 0, at9, t1516, most20 => rfl
  | n + 1, at9, t1516, most20 => (iterS_succ tt (impl_Board_best_impl_Board_keep_f1_n1_tab F) (impl_Board_best_impl_Board_keep_f1_n1_LS0 F) 70 (impl_Board_best_impl_Board_keep_f1_n1_ls3 F) (loopAt 3 (bodyOf Try.f28)) n (impl_Board_best_impl_Board_keep_f1_n1_st3 t1415 of17 t1321 at9 t1516 most20) k).trans ((impl_Board_best_impl_Board_keep_f1_n1_step3 F t1415 of17 t1321 at9 t1516 most20 (nextK (iterS tt (impl_Board_best_impl_Board_keep_f1_n1_tab F) (impl_Board_best_impl_Board_keep_f1_n1_LS0 F) 70 (impl_Board_best_impl_Board_keep_f1_n1_ls3 F) (loopAt 3 (bodyOf Try.f28)) n) k)).trans (congrArg (fun kn => impl_Board_best_impl_Board_keep_f1_n1_s3 F t1415 of17 t1321 R (at9, t1516, most20) kn _) (funext (fun ⟨at9, t1516, most20⟩ => impl_Board_best_impl_Board_keep_f1_n1_iter3 F t1415 of17 t1321 k n at9 t1516 most20))))
theorem impl_Board_best_impl_Board_keep_f1_n1_lok3 (F : Nat) : LoopOK Try.prog (loopAt 3 (bodyOf Try.f28)) (impl_Board_best_impl_Board_keep_f1_n1_ls3 F) := by
  refine loopOK_of mixed ttok deep (impl_Board_best_impl_Board_keep_f1_n1_tabok F) (loopsOK_at (impl_Board_best_impl_Board_keep_f1_n1_lsok0 F) 3) (fuel := 70) fun R vals mem np killed k x h => ?_
  simp only [impl_Board_best_impl_Board_keep_f1_n1_ls3] at h
  split at h
  · rename_i at9 q_t1314 t1415 t1516 of17 q_of18 q_t519 most20 t1321
    simp only [GT.run] at h
    have hc := (cond_noneL h).1
    replace h := (cond_noneL h).2
    have hg := (and_split hc).1
    replace hc := (and_split hc).2
    obtain rfl := beq_li hg
    have hg := (and_split hc).1
    replace hc := (and_split hc).2
    obtain rfl := beq_li hg
    have hg := (and_split hc).1
    replace hc := (and_split hc).2
    obtain rfl := nbeq_nat hg
    refine ⟨F, (impl_Board_best_impl_Board_keep_f1_n1_iter3 F t1415 of17 t1321 k F at9 t1516 most20).trans ((loopC_use (impl_Board_best_impl_Board_keep_f1_n1_s3_nat F t1415 of17 t1321) hc _).trans h)⟩
  · simp only [GT.run] at h
    cases h
noncomputable def impl_Board_best_impl_Board_keep_f1_n1_LS1 (F : Nat) : LT := (3, impl_Board_best_impl_Board_keep_f1_n1_ls3 F) :: impl_Board_best_impl_Board_keep_f1_n1_LS0 F
theorem impl_Board_best_impl_Board_keep_f1_n1_lsok1 (F : Nat) : LoopsOK Try.prog (impl_Board_best_impl_Board_keep_f1_n1_LS1 F) (bodyOf Try.f28) := loopsOK_cons impl_Board_best_impl_Board_keep_f1_n1_keys (impl_Board_best_impl_Board_keep_f1_n1_lok3 F) (impl_Board_best_impl_Board_keep_f1_n1_lsok0 F)
theorem impl_Board_best_impl_Board_keep_f1_n1_run (F : Nat) (b0 : List Int) (of7 : List Int) : runS tt (impl_Board_best_impl_Board_keep_f1_n1_tab F) (impl_Board_best_impl_Board_keep_f1_n1_LS1 F) [] [] Try.f28 (bodyOf Try.f28) 70 [(.ints 16 b0), (.fn 76 [] [(.ptr 0 0 0 16), (.ptr 1 0 0 1)])] [(.var 16 (.ri .i64 of7)), (.var 1 (.ri .i64 [(1 : Int)]))] = impl_Board_best_impl_Board_keep_f1_n1_c _ F b0 of7 (fun r => some ⟨(.tup [(.int .i64 r.1), (.ints 2 r.2)]), [(.var 16 (.ri .i64 of7)), (.var 1 (.ri .i64 [(1 : Int)]))], []⟩) := by kernel_rfl
def impl_Board_best_impl_Board_keep_f1_n1_ent (F : Nat) : Ent := ⟨[], .quiet, fun args mem => match args, mem with
  | [(.ints 16 b0), (.fn 76 [] [(.ptr 0 0 0 16), (.ptr 1 0 0 1)])], [(.var 16 (.ri .i64 of7)), (.var 1 (.ri .i64 q_of8))] => bif (q_of8 == ([(1 : Int)] : List Int)) then some ((impl_Board_best_impl_Board_keep_f1_n1_p F b0 of7).isSome, ⟨(.tup [(.int .i64 ((impl_Board_best_impl_Board_keep_f1_n1_p F b0 of7).getD default).1), (.ints 2 ((impl_Board_best_impl_Board_keep_f1_n1_p F b0 of7).getD default).2)]), [], []⟩) else none
  | _, _ => none⟩
theorem impl_Board_best_impl_Board_keep_f1_n1_fok : FunOK Try.prog 28 := funOK Try.func28 (by kernel_rfl) rfl
theorem impl_Board_best_impl_Board_keep_f1_n1_meets (F : Nat) : Meets Try.prog 28 (impl_Board_best_impl_Board_keep_f1_n1_ent F) := by
  refine meets_of_runS mixed ttok deep (impl_Board_best_impl_Board_keep_f1_n1_tabok F) Try.func28 (body_some rfl) (impl_Board_best_impl_Board_keep_f1_n1_lsok1 F) fun args mem hfit ret h => ?_
  clear hfit
  simp only [impl_Board_best_impl_Board_keep_f1_n1_ent] at h
  split at h
  · rename_i b0 of7 q_of8
    have hg0 := (cond_noneL h).1
    replace h := (cond_noneL h).2
    obtain rfl := beq_li hg0
    simp only [Option.some.injEq, Prod.mk.injEq] at h
    obtain ⟨hc, rfl⟩ := h
    exact ⟨[], [], 70, _, (impl_Board_best_impl_Board_keep_f1_n1_run F b0 of7).trans ((impl_Board_best_impl_Board_keep_f1_n1_cp _ F b0 of7 _).trans (bind_use hc _)), rfl, rfl, rfl⟩
  · cases h
end Go.Proofs.Ytloemkielkdegaa
