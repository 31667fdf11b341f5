/-
Pure functions and what the code of them does, by program; without conditions.
-/
import Derived.Test.YtidmlibanopfhaaTGP4
import Derived.Test.YtidmlibanopfhaaTGS3
namespace Go.Proofs.Ytidmlibanopfhaa
open Go Go.Lv Go.Lv.P Go.Proofs
set_option linter.unusedVariables false
set_option linter.unusedSimpArgs false
set_option maxRecDepth 100000
/-! loop.example/g01194/spec.l8Refuted -/
noncomputable def spec_l8Refuted_n2_tab (F : Nat) : Tab := [(67, (spec_l8Places_ent F)), (68, (spec_l8Put_ent F)), (36, (spec_l8Lasts_n1_ent F))]
theorem spec_l8Refuted_n2_tabok (F : Nat) : TabOK Try.prog (spec_l8Refuted_n2_tab F) := (tab_cons (spec_l8Places_meets F) spec_l8Places_fok (tab_cons (spec_l8Put_meets F) spec_l8Put_fok (tab_cons (spec_l8Lasts_n1_meets F) spec_l8Lasts_n1_fok tab_nil)))
noncomputable def spec_l8Refuted_n2_LS0 (F : Nat) : LT := []
theorem spec_l8Refuted_n2_lsok0 (F : Nat) : LoopsOK Try.prog (spec_l8Refuted_n2_LS0 F) (bodyOf Try.f43) := loopsOK_nil
theorem spec_l8Refuted_n2_keys : keysOK (bodyOf Try.f43) = true := by kernel_rfl
def spec_l8Refuted_n2_st5 (next10 : List Int) (all12 : List (List Int)) (i9 : Int) : St := ⟨expand 34 0 [1, 2, 4, 6, 7] [(.int .i64 (2 : Int)), (.ptr 0 0 0 16), (.ptr 1 0 0 3), (.sl 2 0 (List.length all12)), (.int .i64 i9)], [(.var 16 (.ri .i64 next10)), (.var 3 (.ri .i64 [(0 : Int), (0 : Int), (0 : Int)])), (.vec 35 (.rr 3 all12))], 0, []⟩
def spec_l8Refuted_n2_o5 (next10 : List Int) (all12 : List (List Int)) (x : Bool × List Int) : GT := (.br x.1 (.out (.ret ⟨expand 34 0 [4, 5] [(.ptr 0 0 0 3), (.bool true)], [(.var 3 (.ri .i64 x.2))], 0, []⟩)) (.out (.exit 0 ⟨expand 34 0 [4] [(.ptr 0 0 0 3)], [(.var 3 (.ri .i64 [(0 : Int), (0 : Int), (0 : Int)]))], 0, []⟩)))
def spec_l8Refuted_n2_ls5 (F : Nat) : LoopS := ⟨34, [1, 2, 4, 6, 7], [], [4], [], [4, 5], [], [], fun vals mem np killed => match vals, mem, np, killed with
  | [(.int .i64 q_n0), (.ptr 0 0 0 16), (.ptr 1 0 0 3), (.sl 2 0 q_all8), (.int .i64 i9)], [(.var 16 (.ri .i64 next10)), (.var 3 (.ri .i64 q_t411)), (.vec 35 (.rr 3 all12))], 0, [] => .br ((q_n0 == (2 : Int)) && ((q_t411 == ([(0 : Int), (0 : Int), (0 : Int)] : List Int)) && ((Nat.beq q_all8 (List.length all12)) && (spec_l8Refuted_n2_l5 F next10 all12 i9).isSome))) (spec_l8Refuted_n2_o5 next10 all12 ((spec_l8Refuted_n2_l5 F next10 all12 i9).getD default)) .fail
  | _, _, _, _ => .fail⟩
theorem spec_l8Refuted_n2_step5 (F : Nat) (next10 : List Int) (all12 : List (List Int)) (i9 : Int) {R : Type} (k : Out → Option R) : stepS tt (spec_l8Refuted_n2_tab F) (spec_l8Refuted_n2_LS0 F) 70 (spec_l8Refuted_n2_ls5 F) (loopAt 5 (bodyOf Try.f43)) (spec_l8Refuted_n2_st5 next10 all12 i9) k = spec_l8Refuted_n2_s5 F next10 all12 R i9 (fun s => k (.norm (spec_l8Refuted_n2_st5 next10 all12 s))) (fun x => (spec_l8Refuted_n2_o5 next10 all12 x).run k) := by kernel_rfl
theorem spec_l8Refuted_n2_iter5 (F : Nat) (next10 : List Int) (all12 : List (List Int)) {R : Type} (k : Out → Option R) : ∀ (n : Nat) (i9 : Int), iterS tt (spec_l8Refuted_n2_tab F) (spec_l8Refuted_n2_LS0 F) 70 (spec_l8Refuted_n2_ls5 F) (loopAt 5 (bodyOf Try.f43)) n (spec_l8Refuted_n2_st5 next10 all12 i9) k = loopC (spec_l8Refuted_n2_s5 F next10 all12) n i9 (fun x => (spec_l8Refuted_n2_o5 next10 all12 x).run k)
  | 0, i9 => rfl
  | n + 1, i9 => (iterS_succ tt (spec_l8Refuted_n2_tab F) (spec_l8Refuted_n2_LS0 F) 70 (spec_l8Refuted_n2_ls5 F) (loopAt 5 (bodyOf Try.f43)) n (spec_l8Refuted_n2_st5 next10 all12 i9) k).trans ((spec_l8Refuted_n2_step5 F next10 all12 i9 (nextK (iterS tt (spec_l8Refuted_n2_tab F) (spec_l8Refuted_n2_LS0 F) 70 (spec_l8Refuted_n2_ls5 F) (loopAt 5 (bodyOf Try.f43)) n) k)).trans (congrArg (fun kn => spec_l8Refuted_n2_s5 F next10 all12 R i9 kn _) (funext (fun i9 => spec_l8Refuted_n2_iter5 F next10 all12 k n i9))))
theorem spec_l8Refuted_n2_lok5 (F : Nat) : LoopOK Try.prog (loopAt 5 (bodyOf Try.f43)) (spec_l8Refuted_n2_ls5 F) := by
  refine loopOK_of mixed ttok deep (spec_l8Refuted_n2_tabok F) (loopsOK_at (spec_l8Refuted_n2_lsok0 F) 5) (fuel := 70) fun R vals mem np killed k x h => ?_
  simp only [spec_l8Refuted_n2_ls5] at h
  split at h
  · rename_i q_n0 q_all8 i9 next10 q_t411 all12
    simp only [GT.run] at h
    have hc := (cond_noneL h).1
    replace h := (cond_noneL h).2
    have hg := (and_split hc).1
    replace hc := (and_split hc).2
    obtain rfl := beq_int hg
    have hg := (and_split hc).1
    replace hc := (and_split hc).2
    obtain rfl := beq_li hg
    have hg := (and_split hc).1
    replace hc := (and_split hc).2
    obtain rfl := nbeq_nat hg
    refine ⟨F, (spec_l8Refuted_n2_iter5 F next10 all12 k F i9).trans ((loopC_use (spec_l8Refuted_n2_s5_nat F next10 all12) hc _).trans h)⟩
  · simp only [GT.run] at h
    cases h
noncomputable def spec_l8Refuted_n2_LS1 (F : Nat) : LT := (5, spec_l8Refuted_n2_ls5 F) :: spec_l8Refuted_n2_LS0 F
theorem spec_l8Refuted_n2_lsok1 (F : Nat) : LoopsOK Try.prog (spec_l8Refuted_n2_LS1 F) (bodyOf Try.f43) := loopsOK_cons spec_l8Refuted_n2_keys (spec_l8Refuted_n2_lok5 F) (spec_l8Refuted_n2_lsok0 F)
theorem spec_l8Refuted_n2_run (F : Nat) (next0 : List Int) : runS tt (spec_l8Refuted_n2_tab F) (spec_l8Refuted_n2_LS1 F) [] [] Try.f43 (bodyOf Try.f43) 70 [(.ints 16 next0), (.int .i64 (2 : Int))] [] = spec_l8Refuted_n2_c _ F next0 (fun r => some ⟨(.tup [(.ints 3 r.1), (.bool r.2)]), [], []⟩) := by kernel_rfl
def spec_l8Refuted_n2_ent (F : Nat) : Ent := ⟨[], .quiet, fun args mem => match args, mem with
  | [(.ints 16 next0), (.int .i64 q_n1)], [] => bif (q_n1 == (2 : Int)) then some ((spec_l8Refuted_n2_p F next0).isSome, ⟨(.tup [(.ints 3 ((spec_l8Refuted_n2_p F next0).getD default).1), (.bool ((spec_l8Refuted_n2_p F next0).getD default).2)]), [], []⟩) else none
  | _, _ => none⟩
theorem spec_l8Refuted_n2_fok : FunOK Try.prog 43 := funOK Try.func43 (by kernel_rfl) rfl
theorem spec_l8Refuted_n2_meets (F : Nat) : Meets Try.prog 43 (spec_l8Refuted_n2_ent F) := by
  refine meets_of_runS mixed ttok deep (spec_l8Refuted_n2_tabok F) Try.func43 (body_some rfl) (spec_l8Refuted_n2_lsok1 F) fun args mem hfit ret h => ?_
  clear hfit
  simp only [spec_l8Refuted_n2_ent] at h
  split at h
  · rename_i next0 q_n1
    have hg0 := (cond_noneL h).1
    replace h := (cond_noneL h).2
    obtain rfl := beq_int hg0
    simp only [Option.some.injEq, Prod.mk.injEq] at h
    obtain ⟨hc, rfl⟩ := h
    exact ⟨[], [], 70, _, (spec_l8Refuted_n2_run F next0).trans ((spec_l8Refuted_n2_cp _ F next0 _).trans (bind_use hc _)), rfl, rfl, rfl⟩
  · cases h

/-! loop.example/g01194/spec.l8Safe -/
noncomputable def spec_l8Safe_n2_tab (F : Nat) : Tab := [(42, (spec_l2Slide_ent F)), (43, (spec_l8Refuted_n2_ent F))]
theorem spec_l8Safe_n2_tabok (F : Nat) : TabOK Try.prog (spec_l8Safe_n2_tab F) := (tab_cons (spec_l2Slide_meets F) spec_l2Slide_fok (tab_cons (spec_l8Refuted_n2_meets F) spec_l8Refuted_n2_fok tab_nil))
noncomputable def spec_l8Safe_n2_LS0 (F : Nat) : LT := []
theorem spec_l8Safe_n2_lsok0 (F : Nat) : LoopsOK Try.prog (spec_l8Safe_n2_LS0 F) (bodyOf Try.f50) := loopsOK_nil
theorem spec_l8Safe_n2_run (F : Nat) (b0 : List Int) (d1 : Int) : runS tt (spec_l8Safe_n2_tab F) (spec_l8Safe_n2_LS0 F) [] [] Try.f50 (bodyOf Try.f50) 70 [(.ints 16 b0), (.int .i64 d1), (.int .i64 (2 : Int))] [] = spec_l8Safe_n2_c _ F b0 d1 (fun r => some ⟨(.bool r), [], []⟩) := by kernel_rfl
def spec_l8Safe_n2_ent (F : Nat) : Ent := ⟨[], .quiet, fun args mem => match args, mem with
  | [(.ints 16 b0), (.int .i64 d1), (.int .i64 q_n2)], [] => bif (q_n2 == (2 : Int)) then some ((spec_l8Safe_n2_p F b0 d1).isSome, ⟨(.bool ((spec_l8Safe_n2_p F b0 d1).getD default)), [], []⟩) else none
  | _, _ => none⟩
theorem spec_l8Safe_n2_fok : FunOK Try.prog 50 := funOK Try.func50 (by kernel_rfl) rfl
theorem spec_l8Safe_n2_meets (F : Nat) : Meets Try.prog 50 (spec_l8Safe_n2_ent F) := by
  refine meets_of_runS mixed ttok deep (spec_l8Safe_n2_tabok F) Try.func50 (body_some rfl) (spec_l8Safe_n2_lsok0 F) fun args mem hfit ret h => ?_
  clear hfit
  simp only [spec_l8Safe_n2_ent] at h
  split at h
  · rename_i b0 d1 q_n2
    have hg0 := (cond_noneL h).1
    replace h := (cond_noneL h).2
    obtain rfl := beq_int hg0
    simp only [Option.some.injEq, Prod.mk.injEq] at h
    obtain ⟨hc, rfl⟩ := h
    exact ⟨[], [], 70, _, (spec_l8Safe_n2_run F b0 d1).trans ((spec_l8Safe_n2_cp _ F b0 d1 _).trans (bind_use hc _)), rfl, rfl, rfl⟩
  · cases h

/-! loop.example/g01194/spec.l8Lasts -/
noncomputable def spec_l8Lasts_n2_tab (F : Nat) : Tab := [(50, (spec_l8Safe_n2_ent F))]
theorem spec_l8Lasts_n2_tabok (F : Nat) : TabOK Try.prog (spec_l8Lasts_n2_tab F) := (tab_cons (spec_l8Safe_n2_meets F) spec_l8Safe_n2_fok tab_nil)
noncomputable def spec_l8Lasts_n2_LS0 (F : Nat) : LT := []
theorem spec_l8Lasts_n2_lsok0 (F : Nat) : LoopsOK Try.prog (spec_l8Lasts_n2_LS0 F) (bodyOf Try.f36) := loopsOK_nil
theorem spec_l8Lasts_n2_keys : keysOK (bodyOf Try.f36) = true := by kernel_rfl
def spec_l8Lasts_n2_st4 (b5 : List Int) (d4 : Int) : St := ⟨expand 16 0 [1, 2, 5] [(.int .i64 (2 : Int)), (.ptr 0 0 0 16), (.int .i64 d4)], [(.var 16 (.ri .i64 b5))], 0, []⟩
def spec_l8Lasts_n2_o4 (b5 : List Int) (x : Bool) : GT := (.br x (.out (.ret ⟨expand 16 0 [4] [(.bool true)], [], 0, []⟩)) (.out (.exit 0 ⟨expand 16 0 [] [], [], 0, []⟩)))
def spec_l8Lasts_n2_ls4 (F : Nat) : LoopS := ⟨16, [1, 2, 5], [], [], [], [4], [], [], fun vals mem np killed => match vals, mem, np, killed with
  | [(.int .i64 q_n0), (.ptr 0 0 0 16), (.int .i64 d4)], [(.var 16 (.ri .i64 b5))], 0, [] => .br ((q_n0 == (2 : Int)) && (spec_l8Lasts_n2_l4 F b5 d4).isSome) (spec_l8Lasts_n2_o4 b5 ((spec_l8Lasts_n2_l4 F b5 d4).getD default)) .fail
  | _, _, _, _ => .fail⟩
theorem spec_l8Lasts_n2_step4 (F : Nat) (b5 : List Int) (d4 : Int) {R : Type} (k : Out → Option R) : stepS tt (spec_l8Lasts_n2_tab F) (spec_l8Lasts_n2_LS0 F) 70 (spec_l8Lasts_n2_ls4 F) (loopAt 4 (bodyOf Try.f36)) (spec_l8Lasts_n2_st4 b5 d4) k = spec_l8Lasts_n2_s4 F b5 R d4 (fun s => k (.norm (spec_l8Lasts_n2_st4 b5 s))) (fun x => (spec_l8Lasts_n2_o4 b5 x).run k) := by kernel_rfl
theorem spec_l8Lasts_n2_iter4 (F : Nat) (b5 : List Int) {R : Type} (k : Out → Option R) : ∀ (n : Nat) (d4 : Int), iterS tt (spec_l8Lasts_n2_tab F) (spec_l8Lasts_n2_LS0 F) 70 (spec_l8Lasts_n2_ls4 F) (loopAt 4 (bodyOf Try.f36)) n (spec_l8Lasts_n2_st4 b5 d4) k = loopC (spec_l8Lasts_n2_s4 F b5) n d4 (fun x => (spec_l8Lasts_n2_o4 b5 x).run k)
  | 0, d4 => rfl
  | n + 1, d4 => (iterS_succ tt (spec_l8Lasts_n2_tab F) (spec_l8Lasts_n2_LS0 F) 70 (spec_l8Lasts_n2_ls4 F) (loopAt 4 (bodyOf Try.f36)) n (spec_l8Lasts_n2_st4 b5 d4) k).trans ((spec_l8Lasts_n2_step4 F b5 d4 (nextK (iterS tt (spec_l8Lasts_n2_tab F) (spec_l8Lasts_n2_LS0 F) 70 (spec_l8Lasts_n2_ls4 F) (loopAt 4 (bodyOf Try.f36)) n) k)).trans (congrArg (fun kn => spec_l8Lasts_n2_s4 F b5 R d4 kn _) (funext (fun d4 => spec_l8Lasts_n2_iter4 F b5 k n d4))))
theorem spec_l8Lasts_n2_lok4 (F : Nat) : LoopOK Try.prog (loopAt 4 (bodyOf Try.f36)) (spec_l8Lasts_n2_ls4 F) := by
  refine loopOK_of mixed ttok deep (spec_l8Lasts_n2_tabok F) (loopsOK_at (spec_l8Lasts_n2_lsok0 F) 4) (fuel := 70) fun R vals mem np killed k x h => ?_
  simp only [spec_l8Lasts_n2_ls4] at h
  split at h
  · rename_i q_n0 d4 b5
    simp only [GT.run] at h
    have hc := (cond_noneL h).1
    replace h := (cond_noneL h).2
    have hg := (and_split hc).1
    replace hc := (and_split hc).2
    obtain rfl := beq_int hg
    refine ⟨F, (spec_l8Lasts_n2_iter4 F b5 k F d4).trans ((loopC_use (spec_l8Lasts_n2_s4_nat F b5) hc _).trans h)⟩
  · simp only [GT.run] at h
    cases h
noncomputable def spec_l8Lasts_n2_LS1 (F : Nat) : LT := (4, spec_l8Lasts_n2_ls4 F) :: spec_l8Lasts_n2_LS0 F
theorem spec_l8Lasts_n2_lsok1 (F : Nat) : LoopsOK Try.prog (spec_l8Lasts_n2_LS1 F) (bodyOf Try.f36) := loopsOK_cons spec_l8Lasts_n2_keys (spec_l8Lasts_n2_lok4 F) (spec_l8Lasts_n2_lsok0 F)
theorem spec_l8Lasts_n2_run (F : Nat) (b0 : List Int) : runS tt (spec_l8Lasts_n2_tab F) (spec_l8Lasts_n2_LS1 F) [] [] Try.f36 (bodyOf Try.f36) 70 [(.ints 16 b0), (.int .i64 (2 : Int))] [] = spec_l8Lasts_n2_c _ F b0 (fun r => some ⟨(.bool r), [], []⟩) := by kernel_rfl
def spec_l8Lasts_n2_ent (F : Nat) : Ent := ⟨[], .quiet, fun args mem => match args, mem with
  | [(.ints 16 b0), (.int .i64 q_n1)], [] => bif (q_n1 == (2 : Int)) then some ((spec_l8Lasts_n2_p F b0).isSome, ⟨(.bool ((spec_l8Lasts_n2_p F b0).getD default)), [], []⟩) else none
  | _, _ => none⟩
theorem spec_l8Lasts_n2_fok : FunOK Try.prog 36 := funOK Try.func36 (by kernel_rfl) rfl
theorem spec_l8Lasts_n2_meets (F : Nat) : Meets Try.prog 36 (spec_l8Lasts_n2_ent F) := by
  refine meets_of_runS mixed ttok deep (spec_l8Lasts_n2_tabok F) Try.func36 (body_some rfl) (spec_l8Lasts_n2_lsok1 F) fun args mem hfit ret h => ?_
  clear hfit
  simp only [spec_l8Lasts_n2_ent] at h
  split at h
  · rename_i b0 q_n1
    have hg0 := (cond_noneL h).1
    replace h := (cond_noneL h).2
    obtain rfl := beq_int hg0
    simp only [Option.some.injEq, Prod.mk.injEq] at h
    obtain ⟨hc, rfl⟩ := h
    exact ⟨[], [], 70, _, (spec_l8Lasts_n2_run F b0).trans ((spec_l8Lasts_n2_cp _ F b0 _).trans (bind_use hc _)), rfl, rfl, rfl⟩
  · cases h

/-! loop.example/g01194/spec.l8Refuted -/
noncomputable def spec_l8Refuted_n3_tab (F : Nat) : Tab := [(67, (spec_l8Places_ent F)), (68, (spec_l8Put_ent F)), (36, (spec_l8Lasts_n2_ent F))]
theorem spec_l8Refuted_n3_tabok (F : Nat) : TabOK Try.prog (spec_l8Refuted_n3_tab F) := (tab_cons (spec_l8Places_meets F) spec_l8Places_fok (tab_cons (spec_l8Put_meets F) spec_l8Put_fok (tab_cons (spec_l8Lasts_n2_meets F) spec_l8Lasts_n2_fok tab_nil)))
noncomputable def spec_l8Refuted_n3_LS0 (F : Nat) : LT := []
theorem spec_l8Refuted_n3_lsok0 (F : Nat) : LoopsOK Try.prog (spec_l8Refuted_n3_LS0 F) (bodyOf Try.f43) := loopsOK_nil
theorem spec_l8Refuted_n3_keys : keysOK (bodyOf Try.f43) = true := by kernel_rfl
def spec_l8Refuted_n3_st5 (next10 : List Int) (all12 : List (List Int)) (i9 : Int) : St := ⟨expand 34 0 [1, 2, 4, 6, 7] [(.int .i64 (3 : Int)), (.ptr 0 0 0 16), (.ptr 1 0 0 3), (.sl 2 0 (List.length all12)), (.int .i64 i9)], [(.var 16 (.ri .i64 next10)), (.var 3 (.ri .i64 [(0 : Int), (0 : Int), (0 : Int)])), (.vec 35 (.rr 3 all12))], 0, []⟩
def spec_l8Refuted_n3_o5 (next10 : List Int) (all12 : List (List Int)) (x : Bool × List Int) : GT := (.br x.1 (.out (.ret ⟨expand 34 0 [4, 5] [(.ptr 0 0 0 3), (.bool true)], [(.var 3 (.ri .i64 x.2))], 0, []⟩)) (.out (.exit 0 ⟨expand 34 0 [4] [(.ptr 0 0 0 3)], [(.var 3 (.ri .i64 [(0 : Int), (0 : Int), (0 : Int)]))], 0, []⟩)))
def spec_l8Refuted_n3_ls5 (F : Nat) : LoopS := ⟨34, [1, 2, 4, 6, 7], [], [4], [], [4, 5], [], [], fun vals mem np killed => match vals, mem, np, killed with
  | [(.int .i64 q_n0), (.ptr 0 0 0 16), (.ptr 1 0 0 3), (.sl 2 0 q_all8), (.int .i64 i9)], [(.var 16 (.ri .i64 next10)), (.var 3 (.ri .i64 q_t411)), (.vec 35 (.rr 3 all12))], 0, [] => .br ((q_n0 == (3 : Int)) && ((q_t411 == ([(0 : Int), (0 : Int), (0 : Int)] : List Int)) && ((Nat.beq q_all8 (List.length all12)) && (spec_l8Refuted_n3_l5 F next10 all12 i9).isSome))) (spec_l8Refuted_n3_o5 next10 all12 ((spec_l8Refuted_n3_l5 F next10 all12 i9).getD default)) .fail
  | _, _, _, _ => .fail⟩
theorem spec_l8Refuted_n3_step5 (F : Nat) (next10 : List Int) (all12 : List (List Int)) (i9 : Int) {R : Type} (k : Out → Option R) : stepS tt (spec_l8Refuted_n3_tab F) (spec_l8Refuted_n3_LS0 F) 70 (spec_l8Refuted_n3_ls5 F) (loopAt 5 (bodyOf Try.f43)) (spec_l8Refuted_n3_st5 next10 all12 i9) k = spec_l8Refuted_n3_s5 F next10 all12 R i9 (fun s => k (.norm (spec_l8Refuted_n3_st5 next10 all12 s))) (fun x => (spec_l8Refuted_n3_o5 next10 all12 x).run k) := by kernel_rfl
theorem spec_l8Refuted_n3_iter5 (F : Nat) (next10 : List Int) (all12 : List (List Int)) {R : Type} (k : Out → Option R) : ∀ (n : Nat) (i9 : Int), iterS tt (spec_l8Refuted_n3_tab F) (spec_l8Refuted_n3_LS0 F) 70 (spec_l8Refuted_n3_ls5 F) (loopAt 5 (bodyOf Try.f43)) n (spec_l8Refuted_n3_st5 next10 all12 i9) k = loopC (spec_l8Refuted_n3_s5 F next10 all12) n i9 (fun x => (spec_l8Refuted_n3_o5 next10 all12 x).run k)
  | 0, i9 => rfl
  | n + 1, i9 => (iterS_succ tt (spec_l8Refuted_n3_tab F) (spec_l8Refuted_n3_LS0 F) 70 (spec_l8Refuted_n3_ls5 F) (loopAt 5 (bodyOf Try.f43)) n (spec_l8Refuted_n3_st5 next10 all12 i9) k).trans ((spec_l8Refuted_n3_step5 F next10 all12 i9 (nextK (iterS tt (spec_l8Refuted_n3_tab F) (spec_l8Refuted_n3_LS0 F) 70 (spec_l8Refuted_n3_ls5 F) (loopAt 5 (bodyOf Try.f43)) n) k)).trans (congrArg (fun kn => spec_l8Refuted_n3_s5 F next10 all12 R i9 kn _) (funext (fun i9 => spec_l8Refuted_n3_iter5 F next10 all12 k n i9))))
theorem spec_l8Refuted_n3_lok5 (F : Nat) : LoopOK Try.prog (loopAt 5 (bodyOf Try.f43)) (spec_l8Refuted_n3_ls5 F) := by
  refine loopOK_of mixed ttok deep (spec_l8Refuted_n3_tabok F) (loopsOK_at (spec_l8Refuted_n3_lsok0 F) 5) (fuel := 70) fun R vals mem np killed k x h => ?_
  simp only [spec_l8Refuted_n3_ls5] at h
  split at h
  · rename_i q_n0 q_all8 i9 next10 q_t411 all12
    simp only [GT.run] at h
    have hc := (cond_noneL h).1
    replace h := (cond_noneL h).2
    have hg := (and_split hc).1
    replace hc := (and_split hc).2
    obtain rfl := beq_int hg
    have hg := (and_split hc).1
    replace hc := (and_split hc).2
    obtain rfl := beq_li hg
    have hg := (and_split hc).1
    replace hc := (and_split hc).2
    obtain rfl := nbeq_nat hg
    refine ⟨F, (spec_l8Refuted_n3_iter5 F next10 all12 k F i9).trans ((loopC_use (spec_l8Refuted_n3_s5_nat F next10 all12) hc _).trans h)⟩
  · simp only [GT.run] at h
    cases h
noncomputable def spec_l8Refuted_n3_LS1 (F : Nat) : LT := (5, spec_l8Refuted_n3_ls5 F) :: spec_l8Refuted_n3_LS0 F
theorem spec_l8Refuted_n3_lsok1 (F : Nat) : LoopsOK Try.prog (spec_l8Refuted_n3_LS1 F) (bodyOf Try.f43) := loopsOK_cons spec_l8Refuted_n3_keys (spec_l8Refuted_n3_lok5 F) (spec_l8Refuted_n3_lsok0 F)
theorem spec_l8Refuted_n3_run (F : Nat) (next0 : List Int) : runS tt (spec_l8Refuted_n3_tab F) (spec_l8Refuted_n3_LS1 F) [] [] Try.f43 (bodyOf Try.f43) 70 [(.ints 16 next0), (.int .i64 (3 : Int))] [] = spec_l8Refuted_n3_c _ F next0 (fun r => some ⟨(.tup [(.ints 3 r.1), (.bool r.2)]), [], []⟩) := by kernel_rfl
def spec_l8Refuted_n3_ent (F : Nat) : Ent := ⟨[], .quiet, fun args mem => match args, mem with
  | [(.ints 16 next0), (.int .i64 q_n1)], [] => bif (q_n1 == (3 : Int)) then some ((spec_l8Refuted_n3_p F next0).isSome, ⟨(.tup [(.ints 3 ((spec_l8Refuted_n3_p F next0).getD default).1), (.bool ((spec_l8Refuted_n3_p F next0).getD default).2)]), [], []⟩) else none
  | _, _ => none⟩
theorem spec_l8Refuted_n3_fok : FunOK Try.prog 43 := funOK Try.func43 (by kernel_rfl) rfl
theorem spec_l8Refuted_n3_meets (F : Nat) : Meets Try.prog 43 (spec_l8Refuted_n3_ent F) := by
  refine meets_of_runS mixed ttok deep (spec_l8Refuted_n3_tabok F) Try.func43 (body_some rfl) (spec_l8Refuted_n3_lsok1 F) fun args mem hfit ret h => ?_
  clear hfit
  simp only [spec_l8Refuted_n3_ent] at h
  split at h
  · rename_i next0 q_n1
    have hg0 := (cond_noneL h).1
    replace h := (cond_noneL h).2
    obtain rfl := beq_int hg0
    simp only [Option.some.injEq, Prod.mk.injEq] at h
    obtain ⟨hc, rfl⟩ := h
    exact ⟨[], [], 70, _, (spec_l8Refuted_n3_run F next0).trans ((spec_l8Refuted_n3_cp _ F next0 _).trans (bind_use hc _)), rfl, rfl, rfl⟩
  · cases h

/-! loop.example/g01194/spec.l8Safe -/
noncomputable def spec_l8Safe_n3_tab (F : Nat) : Tab := [(42, (spec_l2Slide_ent F)), (43, (spec_l8Refuted_n3_ent F))]
theorem spec_l8Safe_n3_tabok (F : Nat) : TabOK Try.prog (spec_l8Safe_n3_tab F) := (tab_cons (spec_l2Slide_meets F) spec_l2Slide_fok (tab_cons (spec_l8Refuted_n3_meets F) spec_l8Refuted_n3_fok tab_nil))
noncomputable def spec_l8Safe_n3_LS0 (F : Nat) : LT := []
theorem spec_l8Safe_n3_lsok0 (F : Nat) : LoopsOK Try.prog (spec_l8Safe_n3_LS0 F) (bodyOf Try.f50) := loopsOK_nil
theorem spec_l8Safe_n3_run (F : Nat) (b0 : List Int) (d1 : Int) : runS tt (spec_l8Safe_n3_tab F) (spec_l8Safe_n3_LS0 F) [] [] Try.f50 (bodyOf Try.f50) 70 [(.ints 16 b0), (.int .i64 d1), (.int .i64 (3 : Int))] [] = spec_l8Safe_n3_c _ F b0 d1 (fun r => some ⟨(.bool r), [], []⟩) := by kernel_rfl
def spec_l8Safe_n3_ent (F : Nat) : Ent := ⟨[], .quiet, fun args mem => match args, mem with
  | [(.ints 16 b0), (.int .i64 d1), (.int .i64 q_n2)], [] => bif (q_n2 == (3 : Int)) then some ((spec_l8Safe_n3_p F b0 d1).isSome, ⟨(.bool ((spec_l8Safe_n3_p F b0 d1).getD default)), [], []⟩) else none
  | _, _ => none⟩
theorem spec_l8Safe_n3_fok : FunOK Try.prog 50 := funOK Try.func50 (by kernel_rfl) rfl
theorem spec_l8Safe_n3_meets (F : Nat) : Meets Try.prog 50 (spec_l8Safe_n3_ent F) := by
  refine meets_of_runS mixed ttok deep (spec_l8Safe_n3_tabok F) Try.func50 (body_some rfl) (spec_l8Safe_n3_lsok0 F) fun args mem hfit ret h => ?_
  clear hfit
  simp only [spec_l8Safe_n3_ent] at h
  split at h
  · rename_i b0 d1 q_n2
    have hg0 := (cond_noneL h).1
    replace h := (cond_noneL h).2
    obtain rfl := beq_int hg0
    simp only [Option.some.injEq, Prod.mk.injEq] at h
    obtain ⟨hc, rfl⟩ := h
    exact ⟨[], [], 70, _, (spec_l8Safe_n3_run F b0 d1).trans ((spec_l8Safe_n3_cp _ F b0 d1 _).trans (bind_use hc _)), rfl, rfl, rfl⟩
  · cases h

/-! loop.example/g01194/spec.l8Lasts -/
noncomputable def spec_l8Lasts_n3_tab (F : Nat) : Tab := [(50, (spec_l8Safe_n3_ent F))]
theorem spec_l8Lasts_n3_tabok (F : Nat) : TabOK Try.prog (spec_l8Lasts_n3_tab F) := (tab_cons (spec_l8Safe_n3_meets F) spec_l8Safe_n3_fok tab_nil)
noncomputable def spec_l8Lasts_n3_LS0 (F : Nat) : LT := []
theorem spec_l8Lasts_n3_lsok0 (F : Nat) : LoopsOK Try.prog (spec_l8Lasts_n3_LS0 F) (bodyOf Try.f36) := loopsOK_nil
theorem spec_l8Lasts_n3_keys : keysOK (bodyOf Try.f36) = true := by kernel_rfl
def spec_l8Lasts_n3_st4 (b5 : List Int) (d4 : Int) : St := ⟨expand 16 0 [1, 2, 5] [(.int .i64 (3 : Int)), (.ptr 0 0 0 16), (.int .i64 d4)], [(.var 16 (.ri .i64 b5))], 0, []⟩
def spec_l8Lasts_n3_o4 (b5 : List Int) (x : Bool) : GT := (.br x (.out (.ret ⟨expand 16 0 [4] [(.bool true)], [], 0, []⟩)) (.out (.exit 0 ⟨expand 16 0 [] [], [], 0, []⟩)))
def spec_l8Lasts_n3_ls4 (F : Nat) : LoopS := ⟨16, [1, 2, 5], [], [], [], [4], [], [], fun vals mem np killed => match vals, mem, np, killed with
  | [(.int .i64 q_n0), (.ptr 0 0 0 16), (.int .i64 d4)], [(.var 16 (.ri .i64 b5))], 0, [] => .br ((q_n0 == (3 : Int)) && (spec_l8Lasts_n3_l4 F b5 d4).isSome) (spec_l8Lasts_n3_o4 b5 ((spec_l8Lasts_n3_l4 F b5 d4).getD default)) .fail
  | _, _, _, _ => .fail⟩
theorem spec_l8Lasts_n3_step4 (F : Nat) (b5 : List Int) (d4 : Int) {R : Type} (k : Out → Option R) : stepS tt (spec_l8Lasts_n3_tab F) (spec_l8Lasts_n3_LS0 F) 70 (spec_l8Lasts_n3_ls4 F) (loopAt 4 (bodyOf Try.f36)) (spec_l8Lasts_n3_st4 b5 d4) k = spec_l8Lasts_n3_s4 F b5 R d4 (fun s => k (.norm (spec_l8Lasts_n3_st4 b5 s))) (fun x => (spec_l8Lasts_n3_o4 b5 x).run k) := by kernel_rfl
theorem spec_l8Lasts_n3_iter4 (F : Nat) (b5 : List Int) {R : Type} (k : Out → Option R) : ∀ (n : Nat) (d4 : Int), iterS tt (spec_l8Lasts_n3_tab F) (spec_l8Lasts_n3_LS0 F) 70 (spec_l8Lasts_n3_ls4 F) (loopAt 4 (bodyOf Try.f36)) n (spec_l8Lasts_n3_st4 b5 d4) k = loopC (spec_l8Lasts_n3_s4 F b5) n d4 (fun x => (spec_l8Lasts_n3_o4 b5 x).run k)
  | 0, d4 => rfl
  | n + 1, d4 => (iterS_succ tt (spec_l8Lasts_n3_tab F) (spec_l8Lasts_n3_LS0 F) 70 (spec_l8Lasts_n3_ls4 F) (loopAt 4 (bodyOf Try.f36)) n (spec_l8Lasts_n3_st4 b5 d4) k).trans ((spec_l8Lasts_n3_step4 F b5 d4 (nextK (iterS tt (spec_l8Lasts_n3_tab F) (spec_l8Lasts_n3_LS0 F) 70 (spec_l8Lasts_n3_ls4 F) (loopAt 4 (bodyOf Try.f36)) n) k)).trans (congrArg (fun kn => spec_l8Lasts_n3_s4 F b5 R d4 kn _) (funext (fun d4 => spec_l8Lasts_n3_iter4 F b5 k n d4))))
theorem spec_l8Lasts_n3_lok4 (F : Nat) : LoopOK Try.prog (loopAt 4 (bodyOf Try.f36)) (spec_l8Lasts_n3_ls4 F) := by
  refine loopOK_of mixed ttok deep (spec_l8Lasts_n3_tabok F) (loopsOK_at (spec_l8Lasts_n3_lsok0 F) 4) (fuel := 70) fun R vals mem np killed k x h => ?_
  simp only [spec_l8Lasts_n3_ls4] at h
  split at h
  · rename_i q_n0 d4 b5
    simp only [GT.run] at h
    have hc := (cond_noneL h).1
    replace h := (cond_noneL h).2
    have hg := (and_split hc).1
    replace hc := (and_split hc).2
    obtain rfl := beq_int hg
    refine ⟨F, (spec_l8Lasts_n3_iter4 F b5 k F d4).trans ((loopC_use (spec_l8Lasts_n3_s4_nat F b5) hc _).trans h)⟩
  · simp only [GT.run] at h
    cases h
noncomputable def spec_l8Lasts_n3_LS1 (F : Nat) : LT := (4, spec_l8Lasts_n3_ls4 F) :: spec_l8Lasts_n3_LS0 F
theorem spec_l8Lasts_n3_lsok1 (F : Nat) : LoopsOK Try.prog (spec_l8Lasts_n3_LS1 F) (bodyOf Try.f36) := loopsOK_cons spec_l8Lasts_n3_keys (spec_l8Lasts_n3_lok4 F) (spec_l8Lasts_n3_lsok0 F)
theorem spec_l8Lasts_n3_run (F : Nat) (b0 : List Int) : runS tt (spec_l8Lasts_n3_tab F) (spec_l8Lasts_n3_LS1 F) [] [] Try.f36 (bodyOf Try.f36) 70 [(.ints 16 b0), (.int .i64 (3 : Int))] [] = spec_l8Lasts_n3_c _ F b0 (fun r => some ⟨(.bool r), [], []⟩) := by kernel_rfl
def spec_l8Lasts_n3_ent (F : Nat) : Ent := ⟨[], .quiet, fun args mem => match args, mem with
  | [(.ints 16 b0), (.int .i64 q_n1)], [] => bif (q_n1 == (3 : Int)) then some ((spec_l8Lasts_n3_p F b0).isSome, ⟨(.bool ((spec_l8Lasts_n3_p F b0).getD default)), [], []⟩) else none
  | _, _ => none⟩
theorem spec_l8Lasts_n3_fok : FunOK Try.prog 36 := funOK Try.func36 (by kernel_rfl) rfl
theorem spec_l8Lasts_n3_meets (F : Nat) : Meets Try.prog 36 (spec_l8Lasts_n3_ent F) := by
  refine meets_of_runS mixed ttok deep (spec_l8Lasts_n3_tabok F) Try.func36 (body_some rfl) (spec_l8Lasts_n3_lsok1 F) fun args mem hfit ret h => ?_
  clear hfit
  simp only [spec_l8Lasts_n3_ent] at h
  split at h
  · rename_i b0 q_n1
    have hg0 := (cond_noneL h).1
    replace h := (cond_noneL h).2
    obtain rfl := beq_int hg0
    simp only [Option.some.injEq, Prod.mk.injEq] at h
    obtain ⟨hc, rfl⟩ := h
    exact ⟨[], [], 70, _, (spec_l8Lasts_n3_run F b0).trans ((spec_l8Lasts_n3_cp _ F b0 _).trans (bind_use hc _)), rfl, rfl, rfl⟩
  · cases h

/-! loop.example/g01194/spec.l8Lasts -/
def spec_l8Lasts_ent (F : Nat) : Ent := ⟨[], .quiet, fun args mem => match args, mem with
  | [(.ints 16 b0), (.int .i64 n1)], [] => some ((spec_l8Lasts_p F b0 n1).isSome, ⟨(.bool ((spec_l8Lasts_p F b0 n1).getD default)), [], []⟩)
  | _, _ => none⟩
theorem spec_l8Lasts_fok : FunOK Try.prog 36 := funOK Try.func36 (by kernel_rfl) rfl
theorem spec_l8Lasts_meets (F : Nat) : Meets Try.prog 36 (spec_l8Lasts_ent F) := by
  intro fr w ρ mem args reals hw ha ret hg
  simp only [spec_l8Lasts_ent] at hg
  split at hg
  · rename_i b0 n1
    simp only [Option.some.injEq, Prod.mk.injEq] at hg
    obtain ⟨hc, rfl⟩ := hg
    by_cases hn0 : (n1 == (0 : Int)) = true
    · obtain rfl := beq_int hn0
      have e : spec_l8Lasts_p F b0 (0 : Int) = some true := by kernel_rfl
      have hg' : (spec_l8Lasts_n0_ent F).g [(.ints 16 b0), (.int .i64 (0 : Int))] [] = some (true, ⟨(.bool true), [], []⟩) := by kernel_rfl
      have h9 := spec_l8Lasts_n0_meets F fr w ρ _ _ reals hw ha _ hg'
      simp only [e, cond_true, Option.getD_some]
      exact h9
    · replace hn0 : (n1 == (0 : Int)) = false := by simpa using hn0
      by_cases hn1 : (n1 == (1 : Int)) = true
      · obtain rfl := beq_int hn1
        have e : spec_l8Lasts_p F b0 (1 : Int) = (bif (Option.isSome (spec_l8Lasts_n1_p F b0)) then some (Option.getD (spec_l8Lasts_n1_p F b0) default) else none) := by kernel_rfl
        have hg' : (spec_l8Lasts_n1_ent F).g [(.ints 16 b0), (.int .i64 (1 : Int))] [] = some ((Option.isSome (spec_l8Lasts_n1_p F b0)), ⟨(.bool (Option.getD (spec_l8Lasts_n1_p F b0) default)), [], []⟩) := by kernel_rfl
        rw [e] at hc
        have hC := isSome_cond hc
        rw [hC] at hg'
        have h9 := spec_l8Lasts_n1_meets F fr w ρ _ _ reals hw ha _ hg'
        simp only [e, hC, cond_true, Option.getD_some]
        exact h9
      · replace hn1 : (n1 == (1 : Int)) = false := by simpa using hn1
        by_cases hn2 : (n1 == (2 : Int)) = true
        · obtain rfl := beq_int hn2
          have e : spec_l8Lasts_p F b0 (2 : Int) = (bif (Option.isSome (spec_l8Lasts_n2_p F b0)) then some (Option.getD (spec_l8Lasts_n2_p F b0) default) else none) := by kernel_rfl
          have hg' : (spec_l8Lasts_n2_ent F).g [(.ints 16 b0), (.int .i64 (2 : Int))] [] = some ((Option.isSome (spec_l8Lasts_n2_p F b0)), ⟨(.bool (Option.getD (spec_l8Lasts_n2_p F b0) default)), [], []⟩) := by kernel_rfl
          rw [e] at hc
          have hC := isSome_cond hc
          rw [hC] at hg'
          have h9 := spec_l8Lasts_n2_meets F fr w ρ _ _ reals hw ha _ hg'
          simp only [e, hC, cond_true, Option.getD_some]
          exact h9
        · replace hn2 : (n1 == (2 : Int)) = false := by simpa using hn2
          by_cases hn3 : (n1 == (3 : Int)) = true
          · obtain rfl := beq_int hn3
            have e : spec_l8Lasts_p F b0 (3 : Int) = (bif (Option.isSome (spec_l8Lasts_n3_p F b0)) then some (Option.getD (spec_l8Lasts_n3_p F b0) default) else none) := by kernel_rfl
            have hg' : (spec_l8Lasts_n3_ent F).g [(.ints 16 b0), (.int .i64 (3 : Int))] [] = some ((Option.isSome (spec_l8Lasts_n3_p F b0)), ⟨(.bool (Option.getD (spec_l8Lasts_n3_p F b0) default)), [], []⟩) := by kernel_rfl
            rw [e] at hc
            have hC := isSome_cond hc
            rw [hC] at hg'
            have h9 := spec_l8Lasts_n3_meets F fr w ρ _ _ reals hw ha _ hg'
            simp only [e, hC, cond_true, Option.getD_some]
            exact h9
          · replace hn3 : (n1 == (3 : Int)) = false := by simpa using hn3
            exfalso
            have e : spec_l8Lasts_p F b0 n1 = none := by simp only [spec_l8Lasts_p, spec_l8Lasts_c, hn0, hn1, hn2, hn3, cond_false]
            rw [e] at hc
            cases hc
  · cases hg

/-! loop.example/g01194/spec.Lasts -/
noncomputable def spec_Lasts_tab (F : Nat) : Tab := [(29, (spec_l2Board_ent F)), (30, (spec_l1In_ent F)), (36, (spec_l8Lasts_ent F))]
theorem spec_Lasts_tabok (F : Nat) : TabOK Try.prog (spec_Lasts_tab F) := (tab_cons (spec_l2Board_meets F) spec_l2Board_fok (tab_cons (spec_l1In_meets F) spec_l1In_fok (tab_cons (spec_l8Lasts_meets F) spec_l8Lasts_fok tab_nil)))
noncomputable def spec_Lasts_LS0 (F : Nat) : LT := []
theorem spec_Lasts_lsok0 (F : Nat) : LoopsOK Try.prog (spec_Lasts_LS0 F) (bodyOf Try.f13) := loopsOK_nil
theorem spec_Lasts_run (F : Nat) (b0 : List Int) (n1 : Int) : runS tt (spec_Lasts_tab F) (spec_Lasts_LS0 F) [] [] Try.f13 (bodyOf Try.f13) 70 [(.ints 16 b0), (.int .i64 n1)] [] = spec_Lasts_c _ F b0 n1 (fun r => some ⟨(.tup [(.bool r.1), (.bool r.2)]), [], []⟩) := by kernel_rfl
def spec_Lasts_ent (F : Nat) : Ent := ⟨[], .quiet, fun args mem => match args, mem with
  | [(.ints 16 b0), (.int .i64 n1)], [] => some ((spec_Lasts_p F b0 n1).isSome, ⟨(.tup [(.bool ((spec_Lasts_p F b0 n1).getD default).1), (.bool ((spec_Lasts_p F b0 n1).getD default).2)]), [], []⟩)
  | _, _ => none⟩
theorem spec_Lasts_fok : FunOK Try.prog 13 := funOK Try.func13 (by kernel_rfl) rfl
theorem spec_Lasts_meets (F : Nat) : Meets Try.prog 13 (spec_Lasts_ent F) := by
  refine meets_of_runS mixed ttok deep (spec_Lasts_tabok F) Try.func13 (body_some rfl) (spec_Lasts_lsok0 F) fun args mem hfit ret h => ?_
  clear hfit
  simp only [spec_Lasts_ent] at h
  split at h
  · rename_i b0 n1
    simp only [Option.some.injEq, Prod.mk.injEq] at h
    obtain ⟨hc, rfl⟩ := h
    exact ⟨[], [], 70, _, (spec_Lasts_run F b0 n1).trans ((spec_Lasts_cp _ F b0 n1 _).trans (bind_use hc _)), rfl, rfl, rfl⟩
  · cases h

/-! (loop.example/g01194/impl.Board).lasts -/
noncomputable def impl_Board_lasts_n0_tab (F : Nat) : Tab := []
theorem impl_Board_lasts_n0_tabok (F : Nat) : TabOK Try.prog (impl_Board_lasts_n0_tab F) := tab_nil
noncomputable def impl_Board_lasts_n0_LS0 (F : Nat) : LT := []
theorem impl_Board_lasts_n0_lsok0 (F : Nat) : LoopsOK Try.prog (impl_Board_lasts_n0_LS0 F) (bodyOf Try.f37) := loopsOK_nil
theorem impl_Board_lasts_n0_run (F : Nat) (b0 : List Int) : runS tt (impl_Board_lasts_n0_tab F) (impl_Board_lasts_n0_LS0 F) [] [] Try.f37 (bodyOf Try.f37) 70 [(.ints 16 b0), (.int .i64 (0 : Int))] [] = impl_Board_lasts_n0_c _ b0 (fun r => some ⟨(.bool true), [], []⟩) := by kernel_rfl
def impl_Board_lasts_n0_ent (F : Nat) : Ent := ⟨[], .quiet, fun args mem => match args, mem with
  | [(.ints 16 b0), (.int .i64 q_n1)], [] => bif (q_n1 == (0 : Int)) then some (true, ⟨(.bool true), [], []⟩) else none
  | _, _ => none⟩
theorem impl_Board_lasts_n0_fok : FunOK Try.prog 37 := funOK Try.func37 (by kernel_rfl) rfl
theorem impl_Board_lasts_n0_meets (F : Nat) : Meets Try.prog 37 (impl_Board_lasts_n0_ent F) := by
  refine meets_of_runS mixed ttok deep (impl_Board_lasts_n0_tabok F) Try.func37 (body_some rfl) (impl_Board_lasts_n0_lsok0 F) fun args mem hfit ret h => ?_
  clear hfit
  simp only [impl_Board_lasts_n0_ent] at h
  split at h
  · rename_i b0 q_n1
    have hg0 := (cond_noneL h).1
    replace h := (cond_noneL h).2
    obtain rfl := beq_int hg0
    simp only [Option.some.injEq, Prod.mk.injEq] at h
    obtain ⟨hc, rfl⟩ := h
    exact ⟨[], [], 70, _, (impl_Board_lasts_n0_run F b0).trans (impl_Board_lasts_n0_cv _ b0 _), rfl, rfl, rfl⟩
  · cases h

/-! (loop.example/g01194/impl.Board).isOver -/
noncomputable def impl_Board_isOver_tab (F : Nat) : Tab := [(39, (impl_Board_moves_ent F))]
theorem impl_Board_isOver_tabok (F : Nat) : TabOK Try.prog (impl_Board_isOver_tab F) := (tab_cons (impl_Board_moves_meets F) impl_Board_moves_fok tab_nil)
noncomputable def impl_Board_isOver_LS0 (F : Nat) : LT := []
theorem impl_Board_isOver_lsok0 (F : Nat) : LoopsOK Try.prog (impl_Board_isOver_LS0 F) (bodyOf Try.f58) := loopsOK_nil
theorem impl_Board_isOver_run (F : Nat) (b0 : List Int) : runS tt (impl_Board_isOver_tab F) (impl_Board_isOver_LS0 F) [] [] Try.f58 (bodyOf Try.f58) 70 [(.ints 16 b0)] [] = impl_Board_isOver_c _ F b0 (fun r => some ⟨(.bool r), [], []⟩) := by kernel_rfl
def impl_Board_isOver_ent (F : Nat) : Ent := ⟨[], .quiet, fun args mem => match args, mem with
  | [(.ints 16 b0)], [] => some ((impl_Board_isOver_p F b0).isSome, ⟨(.bool ((impl_Board_isOver_p F b0).getD default)), [], []⟩)
  | _, _ => none⟩
theorem impl_Board_isOver_fok : FunOK Try.prog 58 := funOK Try.func58 (by kernel_rfl) rfl
theorem impl_Board_isOver_meets (F : Nat) : Meets Try.prog 58 (impl_Board_isOver_ent F) := by
  refine meets_of_runS mixed ttok deep (impl_Board_isOver_tabok F) Try.func58 (body_some rfl) (impl_Board_isOver_lsok0 F) fun args mem hfit ret h => ?_
  clear hfit
  simp only [impl_Board_isOver_ent] at h
  split at h
  · rename_i b0
    simp only [Option.some.injEq, Prod.mk.injEq] at h
    obtain ⟨hc, rfl⟩ := h
    exact ⟨[], [], 70, _, (impl_Board_isOver_run F b0).trans ((impl_Board_isOver_cp _ F b0 _).trans (bind_use hc _)), rfl, rfl, rfl⟩
  · cases h

/-! (loop.example/g01194/impl.Board).lasts -/
noncomputable def impl_Board_lasts_n1_tab (F : Nat) : Tab := [(58, (impl_Board_isOver_ent F))]
theorem impl_Board_lasts_n1_tabok (F : Nat) : TabOK Try.prog (impl_Board_lasts_n1_tab F) := (tab_cons (impl_Board_isOver_meets F) impl_Board_isOver_fok tab_nil)
noncomputable def impl_Board_lasts_n1_LS0 (F : Nat) : LT := []
theorem impl_Board_lasts_n1_lsok0 (F : Nat) : LoopsOK Try.prog (impl_Board_lasts_n1_LS0 F) (bodyOf Try.f37) := loopsOK_nil
theorem impl_Board_lasts_n1_run (F : Nat) (b0 : List Int) : runS tt (impl_Board_lasts_n1_tab F) (impl_Board_lasts_n1_LS0 F) [] [] Try.f37 (bodyOf Try.f37) 70 [(.ints 16 b0), (.int .i64 (1 : Int))] [] = impl_Board_lasts_n1_c _ F b0 (fun r => some ⟨(.bool r), [], []⟩) := by kernel_rfl
def impl_Board_lasts_n1_ent (F : Nat) : Ent := ⟨[], .quiet, fun args mem => match args, mem with
  | [(.ints 16 b0), (.int .i64 q_n1)], [] => bif (q_n1 == (1 : Int)) then some ((impl_Board_lasts_n1_p F b0).isSome, ⟨(.bool ((impl_Board_lasts_n1_p F b0).getD default)), [], []⟩) else none
  | _, _ => none⟩
theorem impl_Board_lasts_n1_fok : FunOK Try.prog 37 := funOK Try.func37 (by kernel_rfl) rfl
theorem impl_Board_lasts_n1_meets (F : Nat) : Meets Try.prog 37 (impl_Board_lasts_n1_ent F) := by
  refine meets_of_runS mixed ttok deep (impl_Board_lasts_n1_tabok F) Try.func37 (body_some rfl) (impl_Board_lasts_n1_lsok0 F) fun args mem hfit ret h => ?_
  clear hfit
  simp only [impl_Board_lasts_n1_ent] at h
  split at h
  · rename_i b0 q_n1
    have hg0 := (cond_noneL h).1
    replace h := (cond_noneL h).2
    obtain rfl := beq_int hg0
    simp only [Option.some.injEq, Prod.mk.injEq] at h
    obtain ⟨hc, rfl⟩ := h
    exact ⟨[], [], 70, _, (impl_Board_lasts_n1_run F b0).trans ((impl_Board_lasts_n1_cp _ F b0 _).trans (bind_use hc _)), rfl, rfl, rfl⟩
  · cases h

/-! (loop.example/g01194/impl.Board).slides -/
noncomputable def impl_Board_slides_tab (F : Nat) : Tab := [(61, (impl_Board_slide_ent F))]
theorem impl_Board_slides_tabok (F : Nat) : TabOK Try.prog (impl_Board_slides_tab F) := (tab_cons (impl_Board_slide_meets F) impl_Board_slide_fok tab_nil)
noncomputable def impl_Board_slides_LS0 (F : Nat) : LT := []
theorem impl_Board_slides_lsok0 (F : Nat) : LoopsOK Try.prog (impl_Board_slides_LS0 F) (bodyOf Try.f45) := loopsOK_nil
theorem impl_Board_slides_keys : keysOK (bodyOf Try.f45) = true := by kernel_rfl
def impl_Board_slides_st2 (t76 : List Int) (t87 : Int) (t98 : Int) (b9 : List Int) : St := ⟨expand 22 0 [2, 4, 7, 8, 9] [(.ptr 0 0 0 16), (.ptr 1 0 0 16), (.ri .i64 t76), (.int .i64 t87), (.int .i64 t98)], [(.var 16 (.ri .i64 b9)), (.var 16 (.ri .i64 [(0 : Int), (0 : Int), (0 : Int), (0 : Int), (0 : Int), (0 : Int), (0 : Int), (0 : Int), (0 : Int), (0 : Int), (0 : Int), (0 : Int), (0 : Int), (0 : Int), (0 : Int), (0 : Int)]))], 0, []⟩
def impl_Board_slides_o2 (t76 : List Int) (t87 : Int) (x : List Int) : GT := (.out (.exit 0 ⟨expand 22 0 [2, 4] [(.ptr 0 0 0 16), (.ptr 1 0 0 16)], [(.var 16 (.ri .i64 x)), (.var 16 (.ri .i64 [(0 : Int), (0 : Int), (0 : Int), (0 : Int), (0 : Int), (0 : Int), (0 : Int), (0 : Int), (0 : Int), (0 : Int), (0 : Int), (0 : Int), (0 : Int), (0 : Int), (0 : Int), (0 : Int)]))], 0, []⟩))
def impl_Board_slides_ls2 (F : Nat) : LoopS := ⟨22, [2, 4, 7, 8, 9], [], [2, 4], [], [4], [], [], fun vals mem np killed => match vals, mem, np, killed with
  | [(.ptr 0 0 0 16), (.ptr 1 0 0 16), (.ri .i64 t76), (.int .i64 t87), (.int .i64 t98)], [(.var 16 (.ri .i64 b9)), (.var 16 (.ri .i64 q_t410))], 0, [] => .br ((q_t410 == ([(0 : Int), (0 : Int), (0 : Int), (0 : Int), (0 : Int), (0 : Int), (0 : Int), (0 : Int), (0 : Int), (0 : Int), (0 : Int), (0 : Int), (0 : Int), (0 : Int), (0 : Int), (0 : Int)] : List Int)) && (impl_Board_slides_l2 F t76 t87 t98 b9).isSome) (impl_Board_slides_o2 t76 t87 ((impl_Board_slides_l2 F t76 t87 t98 b9).getD default)) .fail
  | _, _, _, _ => .fail⟩
theorem impl_Board_slides_step2 (F : Nat) (t76 : List Int) (t87 : Int) (t98 : Int) (b9 : List Int) {R : Type} (k : Out → Option R) : stepS tt (impl_Board_slides_tab F) (impl_Board_slides_LS0 F) 70 (impl_Board_slides_ls2 F) (loopAt 2 (bodyOf Try.f45)) (impl_Board_slides_st2 t76 t87 t98 b9) k = impl_Board_slides_s2 F t76 t87 R (t98, b9) (fun s => k (.norm (impl_Board_slides_st2 t76 t87 s.1 s.2))) (fun x => (impl_Board_slides_o2 t76 t87 x).run k) := by kernel_rfl
theorem impl_Board_slides_iter2 (F : Nat) (t76 : List Int) (t87 : Int) {R : Type} (k : Out → Option R) : ∀ (n : Nat) (t98 : Int) (b9 : List Int), iterS tt (impl_Board_slides_tab F) (impl_Board_slides_LS0 F) 70 (impl_Board_slides_ls2 F) (loopAt 2 (bodyOf Try.f45)) n (impl_Board_slides_st2 t76 t87 t98 b9) k = loopC (impl_Board_slides_s2 F t76 t87) n (t98, b9) (fun x => (impl_Board_slides_o2 t76 t87 x).run k)
  | 0, t98, b9 => rfl
  | n + 1, t98, b9 => (iterS_succ tt (impl_Board_slides_tab F) (impl_Board_slides_LS0 F) 70 (impl_Board_slides_ls2 F) (loopAt 2 (bodyOf Try.f45)) n (impl_Board_slides_st2 t76 t87 t98 b9) k).trans ((impl_Board_slides_step2 F t76 t87 t98 b9 (nextK (iterS tt (impl_Board_slides_tab F) (impl_Board_slides_LS0 F) 70 (impl_Board_slides_ls2 F) (loopAt 2 (bodyOf Try.f45)) n) k)).trans (congrArg (fun kn => impl_Board_slides_s2 F t76 t87 R (t98, b9) kn _) (funext (fun ⟨t98, b9⟩ => impl_Board_slides_iter2 F t76 t87 k n t98 b9))))
theorem impl_Board_slides_lok2 (F : Nat) : LoopOK Try.prog (loopAt 2 (bodyOf Try.f45)) (impl_Board_slides_ls2 F) := by
  refine loopOK_of mixed ttok deep (impl_Board_slides_tabok F) (loopsOK_at (impl_Board_slides_lsok0 F) 2) (fuel := 70) fun R vals mem np killed k x h => ?_
  simp only [impl_Board_slides_ls2] at h
  split at h
  · rename_i t76 t87 t98 b9 q_t410
    simp only [GT.run] at h
    have hc := (cond_noneL h).1
    replace h := (cond_noneL h).2
    have hg := (and_split hc).1
    replace hc := (and_split hc).2
    obtain rfl := beq_li hg
    refine ⟨F, (impl_Board_slides_iter2 F t76 t87 k F t98 b9).trans ((loopC_use (impl_Board_slides_s2_nat F t76 t87) hc _).trans h)⟩
  · simp only [GT.run] at h
    cases h
noncomputable def impl_Board_slides_LS1 (F : Nat) : LT := (2, impl_Board_slides_ls2 F) :: impl_Board_slides_LS0 F
theorem impl_Board_slides_lsok1 (F : Nat) : LoopsOK Try.prog (impl_Board_slides_LS1 F) (bodyOf Try.f45) := loopsOK_cons impl_Board_slides_keys (impl_Board_slides_lok2 F) (impl_Board_slides_lsok0 F)
theorem impl_Board_slides_run (F : Nat) (b0 : List Int) (list1 : List Int) : runS tt (impl_Board_slides_tab F) (impl_Board_slides_LS1 F) [] [] Try.f45 (bodyOf Try.f45) 70 [(.ints 16 b0), (.ri .i64 list1)] [] = impl_Board_slides_c _ F b0 list1 (fun r => some ⟨(.ints 16 r), [], []⟩) := by kernel_rfl
def impl_Board_slides_ent (F : Nat) : Ent := ⟨[], .quiet, fun args mem => match args, mem with
  | [(.ints 16 b0), (.ri .i64 list1)], [] => some ((impl_Board_slides_p F b0 list1).isSome, ⟨(.ints 16 ((impl_Board_slides_p F b0 list1).getD default)), [], []⟩)
  | _, _ => none⟩
theorem impl_Board_slides_fok : FunOK Try.prog 45 := funOK Try.func45 (by kernel_rfl) rfl
theorem impl_Board_slides_meets (F : Nat) : Meets Try.prog 45 (impl_Board_slides_ent F) := by
  refine meets_of_runS mixed ttok deep (impl_Board_slides_tabok F) Try.func45 (body_some rfl) (impl_Board_slides_lsok1 F) fun args mem hfit ret h => ?_
  clear hfit
  simp only [impl_Board_slides_ent] at h
  split at h
  · rename_i b0 list1
    simp only [Option.some.injEq, Prod.mk.injEq] at h
    obtain ⟨hc, rfl⟩ := h
    exact ⟨[], [], 70, _, (impl_Board_slides_run F b0 list1).trans ((impl_Board_slides_cp _ F b0 list1 _).trans (bind_use hc _)), rfl, rfl, rfl⟩
  · cases h

/-! (loop.example/g01194/impl.Board).refuted -/
noncomputable def impl_Board_refuted_n1_tab (F : Nat) : Tab := [(70, (impl_Board_placements_ent F)), (71, (impl_Board_placed_ent F)), (37, (impl_Board_lasts_n1_ent F))]
theorem impl_Board_refuted_n1_tabok (F : Nat) : TabOK Try.prog (impl_Board_refuted_n1_tab F) := (tab_cons (impl_Board_placements_meets F) impl_Board_placements_fok (tab_cons (impl_Board_placed_meets F) impl_Board_placed_fok (tab_cons (impl_Board_lasts_n1_meets F) impl_Board_lasts_n1_fok tab_nil)))
noncomputable def impl_Board_refuted_n1_LS0 (F : Nat) : LT := []
theorem impl_Board_refuted_n1_lsok0 (F : Nat) : LoopsOK Try.prog (impl_Board_refuted_n1_LS0 F) (bodyOf Try.f46) := loopsOK_nil
theorem impl_Board_refuted_n1_keys : keysOK (bodyOf Try.f46) = true := by kernel_rfl
def impl_Board_refuted_n1_st2 (t109 : Int) (b11 : List Int) (t913 : List (List Int)) (t1110 : Int) : St := ⟨expand 24 0 [1, 2, 4, 9, 10, 11] [(.int .i64 (1 : Int)), (.ptr 0 0 0 16), (.ptr 1 0 0 3), (.sl 2 0 (List.length t913)), (.int .i64 t109), (.int .i64 t1110)], [(.var 16 (.ri .i64 b11)), (.var 3 (.ri .i64 [(0 : Int), (0 : Int), (0 : Int)])), (.vec 35 (.rr 3 t913))], 0, []⟩
def impl_Board_refuted_n1_o2 (t109 : Int) (b11 : List Int) (t913 : List (List Int)) (x : Bool × List Int) : GT := (.br x.1 (.out (.ret ⟨expand 24 0 [4, 5] [(.ptr 0 0 0 3), (.bool true)], [(.var 3 (.ri .i64 x.2))], 0, []⟩)) (.out (.exit 0 ⟨expand 24 0 [4] [(.ptr 0 0 0 3)], [(.var 3 (.ri .i64 [(0 : Int), (0 : Int), (0 : Int)]))], 0, []⟩)))
def impl_Board_refuted_n1_ls2 (F : Nat) : LoopS := ⟨24, [1, 2, 4, 9, 10, 11], [], [4], [], [4, 5], [], [], fun vals mem np killed => match vals, mem, np, killed with
  | [(.int .i64 q_n0), (.ptr 0 0 0 16), (.ptr 1 0 0 3), (.sl 2 0 q_t98), (.int .i64 t109), (.int .i64 t1110)], [(.var 16 (.ri .i64 b11)), (.var 3 (.ri .i64 q_t412)), (.vec 35 (.rr 3 t913))], 0, [] => .br ((q_n0 == (1 : Int)) && ((q_t412 == ([(0 : Int), (0 : Int), (0 : Int)] : List Int)) && ((Nat.beq q_t98 (List.length t913)) && (impl_Board_refuted_n1_l2 F t109 b11 t913 t1110).isSome))) (impl_Board_refuted_n1_o2 t109 b11 t913 ((impl_Board_refuted_n1_l2 F t109 b11 t913 t1110).getD default)) .fail
  | _, _, _, _ => .fail⟩
theorem impl_Board_refuted_n1_step2 (F : Nat) (t109 : Int) (b11 : List Int) (t913 : List (List Int)) (t1110 : Int) {R : Type} (k : Out → Option R) : stepS tt (impl_Board_refuted_n1_tab F) (impl_Board_refuted_n1_LS0 F) 70 (impl_Board_refuted_n1_ls2 F) (loopAt 2 (bodyOf Try.f46)) (impl_Board_refuted_n1_st2 t109 b11 t913 t1110) k = impl_Board_refuted_n1_s2 F t109 b11 t913 R t1110 (fun s => k (.norm (impl_Board_refuted_n1_st2 t109 b11 t913 s))) (fun x => (impl_Board_refuted_n1_o2 t109 b11 t913 x).run k) := by kernel_rfl
theorem impl_Board_refuted_n1_iter2 (F : Nat) (t109 : Int) (b11 : List Int) (t913 : List (List Int)) {R : Type} (k : Out → Option R) : ∀ (n : Nat) (t1110 : Int), iterS tt (impl_Board_refuted_n1_tab F) (impl_Board_refuted_n1_LS0 F) 70 (impl_Board_refuted_n1_ls2 F) (loopAt 2 (bodyOf Try.f46)) n (impl_Board_refuted_n1_st2 t109 b11 t913 t1110) k = loopC (impl_Board_refuted_n1_s2 F t109 b11 t913) n t1110 (fun x => (impl_Board_refuted_n1_o2 t109 b11 t913 x).run k)
  | 0, t1110 => rfl
  | n + 1, t1110 => (iterS_succ tt (impl_Board_refuted_n1_tab F) (impl_Board_refuted_n1_LS0 F) 70 (impl_Board_refuted_n1_ls2 F) (loopAt 2 (bodyOf Try.f46)) n (impl_Board_refuted_n1_st2 t109 b11 t913 t1110) k).trans ((impl_Board_refuted_n1_step2 F t109 b11 t913 t1110 (nextK (iterS tt (impl_Board_refuted_n1_tab F) (impl_Board_refuted_n1_LS0 F) 70 (impl_Board_refuted_n1_ls2 F) (loopAt 2 (bodyOf Try.f46)) n) k)).trans (congrArg (fun kn => impl_Board_refuted_n1_s2 F t109 b11 t913 R t1110 kn _) (funext (fun t1110 => impl_Board_refuted_n1_iter2 F t109 b11 t913 k n t1110))))
theorem impl_Board_refuted_n1_lok2 (F : Nat) : LoopOK Try.prog (loopAt 2 (bodyOf Try.f46)) (impl_Board_refuted_n1_ls2 F) := by
  refine loopOK_of mixed ttok deep (impl_Board_refuted_n1_tabok F) (loopsOK_at (impl_Board_refuted_n1_lsok0 F) 2) (fuel := 70) fun R vals mem np killed k x h => ?_
  simp only [impl_Board_refuted_n1_ls2] at h
  split at h
  · rename_i q_n0 q_t98 t109 t1110 b11 q_t412 t913
    simp only [GT.run] at h
    have hc := (cond_noneL h).1
    replace h := (cond_noneL h).2
    have hg := (and_split hc).1
    replace hc := (and_split hc).2
    obtain rfl := beq_int hg
    have hg := (and_split hc).1
    replace hc := (and_split hc).2
    obtain rfl := beq_li hg
    have hg := (and_split hc).1
    replace hc := (and_split hc).2
    obtain rfl := nbeq_nat hg
    refine ⟨F, (impl_Board_refuted_n1_iter2 F t109 b11 t913 k F t1110).trans ((loopC_use (impl_Board_refuted_n1_s2_nat F t109 b11 t913) hc _).trans h)⟩
  · simp only [GT.run] at h
    cases h
noncomputable def impl_Board_refuted_n1_LS1 (F : Nat) : LT := (2, impl_Board_refuted_n1_ls2 F) :: impl_Board_refuted_n1_LS0 F
theorem impl_Board_refuted_n1_lsok1 (F : Nat) : LoopsOK Try.prog (impl_Board_refuted_n1_LS1 F) (bodyOf Try.f46) := loopsOK_cons impl_Board_refuted_n1_keys (impl_Board_refuted_n1_lok2 F) (impl_Board_refuted_n1_lsok0 F)
theorem impl_Board_refuted_n1_run (F : Nat) (b0 : List Int) : runS tt (impl_Board_refuted_n1_tab F) (impl_Board_refuted_n1_LS1 F) [] [] Try.f46 (bodyOf Try.f46) 70 [(.ints 16 b0), (.int .i64 (1 : Int))] [] = impl_Board_refuted_n1_c _ F b0 (fun r => some ⟨(.tup [(.ints 3 r.1), (.bool r.2)]), [], []⟩) := by kernel_rfl
def impl_Board_refuted_n1_ent (F : Nat) : Ent := ⟨[], .quiet, fun args mem => match args, mem with
  | [(.ints 16 b0), (.int .i64 q_n1)], [] => bif (q_n1 == (1 : Int)) then some ((impl_Board_refuted_n1_p F b0).isSome, ⟨(.tup [(.ints 3 ((impl_Board_refuted_n1_p F b0).getD default).1), (.bool ((impl_Board_refuted_n1_p F b0).getD default).2)]), [], []⟩) else none
  | _, _ => none⟩
theorem impl_Board_refuted_n1_fok : FunOK Try.prog 46 := funOK Try.func46 (by kernel_rfl) rfl
theorem impl_Board_refuted_n1_meets (F : Nat) : Meets Try.prog 46 (impl_Board_refuted_n1_ent F) := by
  refine meets_of_runS mixed ttok deep (impl_Board_refuted_n1_tabok F) Try.func46 (body_some rfl) (impl_Board_refuted_n1_lsok1 F) fun args mem hfit ret h => ?_
  clear hfit
  simp only [impl_Board_refuted_n1_ent] at h
  split at h
  · rename_i b0 q_n1
    have hg0 := (cond_noneL h).1
    replace h := (cond_noneL h).2
    obtain rfl := beq_int hg0
    simp only [Option.some.injEq, Prod.mk.injEq] at h
    obtain ⟨hc, rfl⟩ := h
    exact ⟨[], [], 70, _, (impl_Board_refuted_n1_run F b0).trans ((impl_Board_refuted_n1_cp _ F b0 _).trans (bind_use hc _)), rfl, rfl, rfl⟩
  · cases h

/-! (loop.example/g01194/impl.Board).isSafe -/
noncomputable def impl_Board_isSafe_n2_tab (F : Nat) : Tab := [(45, (impl_Board_slides_ent F)), (46, (impl_Board_refuted_n1_ent F))]
theorem impl_Board_isSafe_n2_tabok (F : Nat) : TabOK Try.prog (impl_Board_isSafe_n2_tab F) := (tab_cons (impl_Board_slides_meets F) impl_Board_slides_fok (tab_cons (impl_Board_refuted_n1_meets F) impl_Board_refuted_n1_fok tab_nil))
noncomputable def impl_Board_isSafe_n2_LS0 (F : Nat) : LT := []
theorem impl_Board_isSafe_n2_lsok0 (F : Nat) : LoopsOK Try.prog (impl_Board_isSafe_n2_LS0 F) (bodyOf Try.f53) := loopsOK_nil
theorem impl_Board_isSafe_n2_run (F : Nat) (b0 : List Int) (direction1 : Int) : runS tt (impl_Board_isSafe_n2_tab F) (impl_Board_isSafe_n2_LS0 F) [] [] Try.f53 (bodyOf Try.f53) 70 [(.ints 16 b0), (.int .i64 direction1), (.int .i64 (2 : Int))] [] = impl_Board_isSafe_n2_c _ F b0 direction1 (fun r => some ⟨(.bool r), [], []⟩) := by kernel_rfl
def impl_Board_isSafe_n2_ent (F : Nat) : Ent := ⟨[], .quiet, fun args mem => match args, mem with
  | [(.ints 16 b0), (.int .i64 direction1), (.int .i64 q_n2)], [] => bif (q_n2 == (2 : Int)) then some ((impl_Board_isSafe_n2_p F b0 direction1).isSome, ⟨(.bool ((impl_Board_isSafe_n2_p F b0 direction1).getD default)), [], []⟩) else none
  | _, _ => none⟩
theorem impl_Board_isSafe_n2_fok : FunOK Try.prog 53 := funOK Try.func53 (by kernel_rfl) rfl
theorem impl_Board_isSafe_n2_meets (F : Nat) : Meets Try.prog 53 (impl_Board_isSafe_n2_ent F) := by
  refine meets_of_runS mixed ttok deep (impl_Board_isSafe_n2_tabok F) Try.func53 (body_some rfl) (impl_Board_isSafe_n2_lsok0 F) fun args mem hfit ret h => ?_
  clear hfit
  simp only [impl_Board_isSafe_n2_ent] at h
  split at h
  · rename_i b0 direction1 q_n2
    have hg0 := (cond_noneL h).1
    replace h := (cond_noneL h).2
    obtain rfl := beq_int hg0
    simp only [Option.some.injEq, Prod.mk.injEq] at h
    obtain ⟨hc, rfl⟩ := h
    exact ⟨[], [], 70, _, (impl_Board_isSafe_n2_run F b0 direction1).trans ((impl_Board_isSafe_n2_cp _ F b0 direction1 _).trans (bind_use hc _)), rfl, rfl, rfl⟩
  · cases h

/-! (loop.example/g01194/impl.Board).lasts$1 -/
noncomputable def impl_Board_lasts_f1_n2_tab (F : Nat) : Tab := [(53, (impl_Board_isSafe_n2_ent F))]
theorem impl_Board_lasts_f1_n2_tabok (F : Nat) : TabOK Try.prog (impl_Board_lasts_f1_n2_tab F) := (tab_cons (impl_Board_isSafe_n2_meets F) impl_Board_isSafe_n2_fok tab_nil)
noncomputable def impl_Board_lasts_f1_n2_LS0 (F : Nat) : LT := []
theorem impl_Board_lasts_f1_n2_lsok0 (F : Nat) : LoopsOK Try.prog (impl_Board_lasts_f1_n2_LS0 F) (bodyOf Try.f60) := loopsOK_nil
theorem impl_Board_lasts_f1_n2_run (F : Nat) (d0 : Int) (a17 : List Int) : runS tt (impl_Board_lasts_f1_n2_tab F) (impl_Board_lasts_f1_n2_LS0 F) [] [] Try.f60 (bodyOf Try.f60) 70 [(.int .i64 d0), (.ptr 0 0 0 16), (.ptr 1 0 0 1)] [(.var 16 (.ri .i64 a17)), (.var 1 (.ri .i64 [(2 : Int)]))] = impl_Board_lasts_f1_n2_c _ F d0 a17 (fun r => some ⟨(.bool r), [(.var 16 (.ri .i64 a17)), (.var 1 (.ri .i64 [(2 : Int)]))], []⟩) := by kernel_rfl
def impl_Board_lasts_f1_n2_ent (F : Nat) : Ent := ⟨[], .quiet, fun args mem => match args, mem with
  | [(.int .i64 d0), (.ptr 0 0 0 16), (.ptr 1 0 0 1)], [(.var 16 (.ri .i64 a17)), (.var 1 (.ri .i64 q_a28))] => bif (q_a28 == ([(2 : Int)] : List Int)) then some ((impl_Board_lasts_f1_n2_p F d0 a17).isSome, ⟨(.bool ((impl_Board_lasts_f1_n2_p F d0 a17).getD default)), [], []⟩) else none
  | _, _ => none⟩
theorem impl_Board_lasts_f1_n2_fok : FunOK Try.prog 60 := funOK Try.func60 (by kernel_rfl) rfl
theorem impl_Board_lasts_f1_n2_meets (F : Nat) : Meets Try.prog 60 (impl_Board_lasts_f1_n2_ent F) := by
  refine meets_of_runS mixed ttok deep (impl_Board_lasts_f1_n2_tabok F) Try.func60 (body_some rfl) (impl_Board_lasts_f1_n2_lsok0 F) fun args mem hfit ret h => ?_
  clear hfit
  simp only [impl_Board_lasts_f1_n2_ent] at h
  split at h
  · rename_i d0 a17 q_a28
    have hg0 := (cond_noneL h).1
    replace h := (cond_noneL h).2
    obtain rfl := beq_li hg0
    simp only [Option.some.injEq, Prod.mk.injEq] at h
    obtain ⟨hc, rfl⟩ := h
    exact ⟨[], [], 70, _, (impl_Board_lasts_f1_n2_run F d0 a17).trans ((impl_Board_lasts_f1_n2_cp _ F d0 a17 _).trans (bind_use hc _)), rfl, rfl, rfl⟩
  · cases h
end Go.Proofs.Ytidmlibanopfhaa
