/-
Pure functions and what the code of them does, by program; without conditions.
-/
import Derived.Test.YtidmlibanopfhaaTGP1
import Derived.Test.YtidmlibanopfhaaTGS0
namespace Go.Proofs.Ytidmlibanopfhaa
open Go Go.Lv Go.Lv.P Go.Proofs
set_option linter.unusedVariables false
set_option linter.unusedSimpArgs false
set_option maxRecDepth 100000
/-! loop.example/g01194/spec.l8Sure -/
noncomputable def spec_l8Sure_n1_tab (F : Nat) : Tab := [(42, (spec_l2Slide_ent F)), (47, (spec_l8Least_n0_ent F))]
theorem spec_l8Sure_n1_tabok (F : Nat) : TabOK Try.prog (spec_l8Sure_n1_tab F) := (tab_cons (spec_l2Slide_meets F) spec_l2Slide_fok (tab_cons (spec_l8Least_n0_meets F) spec_l8Least_n0_fok tab_nil))
noncomputable def spec_l8Sure_n1_LS0 (F : Nat) : LT := []
theorem spec_l8Sure_n1_lsok0 (F : Nat) : LoopsOK Try.prog (spec_l8Sure_n1_LS0 F) (bodyOf Try.f31) := loopsOK_nil
theorem spec_l8Sure_n1_keys : keysOK (bodyOf Try.f31) = true := by kernel_rfl
def spec_l8Sure_n1_st3 (b7 : List Int) (best4 : Int) (first5 : Int) (d6 : Int) : St := ⟨expand 52 0 [1, 2, 6, 7, 8] [(.int .i64 (1 : Int)), (.ptr 0 0 0 16), (.int .i64 best4), (.int .i64 first5), (.int .i64 d6)], [(.var 16 (.ri .i64 b7))], 0, []⟩
def spec_l8Sure_n1_o3 (b7 : List Int) (x : Int × Int) : GT := (.out (.exit 0 ⟨expand 52 0 [6, 7] [(.int .i64 x.1), (.int .i64 x.2)], [], 0, []⟩))
def spec_l8Sure_n1_ls3 (F : Nat) : LoopS := ⟨52, [1, 2, 6, 7, 8], [], [6, 7], [], [4, 5], [], [], fun vals mem np killed => match vals, mem, np, killed with
  | [(.int .i64 q_n0), (.ptr 0 0 0 16), (.int .i64 best4), (.int .i64 first5), (.int .i64 d6)], [(.var 16 (.ri .i64 b7))], 0, [] => .br ((q_n0 == (1 : Int)) && (spec_l8Sure_n1_l3 F b7 best4 first5 d6).isSome) (spec_l8Sure_n1_o3 b7 ((spec_l8Sure_n1_l3 F b7 best4 first5 d6).getD default)) .fail
  | _, _, _, _ => .fail⟩
theorem spec_l8Sure_n1_step3 (F : Nat) (b7 : List Int) (best4 : Int) (first5 : Int) (d6 : Int) {R : Type} (k : Out → Option R) : stepS tt (spec_l8Sure_n1_tab F) (spec_l8Sure_n1_LS0 F) 70 (spec_l8Sure_n1_ls3 F) (loopAt 3 (bodyOf Try.f31)) (spec_l8Sure_n1_st3 b7 best4 first5 d6) k = spec_l8Sure_n1_s3 F b7 R (best4, first5, d6) (fun s => k (.norm (spec_l8Sure_n1_st3 b7 s.1 s.2.1 s.2.2))) (fun x => (spec_l8Sure_n1_o3 b7 x).run k) := by kernel_rfl
theorem spec_l8Sure_n1_iter3 (F : Nat) (b7 : List Int) {R : Type} (k : Out → Option R) : ∀ (n : Nat) (best4 : Int) (first5 : Int) (d6 : Int), iterS tt (spec_l8Sure_n1_tab F) (spec_l8Sure_n1_LS0 F) 70 (spec_l8Sure_n1_ls3 F) (loopAt 3 (bodyOf Try.f31)) n (spec_l8Sure_n1_st3 b7 best4 first5 d6) k = loopC (spec_l8Sure_n1_s3 F b7) n (best4, first5, d6) (fun x => (spec_l8Sure_n1_o3 b7 x).run k)
  | 0, best4, first5, d6 => rfl
  | n + 1, best4, first5, d6 => (iterS_succ tt (spec_l8Sure_n1_tab F) (spec_l8Sure_n1_LS0 F) 70 (spec_l8Sure_n1_ls3 F) (loopAt 3 (bodyOf Try.f31)) n (spec_l8Sure_n1_st3 b7 best4 first5 d6) k).trans ((spec_l8Sure_n1_step3 F b7 best4 first5 d6 (nextK (iterS tt (spec_l8Sure_n1_tab F) (spec_l8Sure_n1_LS0 F) 70 (spec_l8Sure_n1_ls3 F) (loopAt 3 (bodyOf Try.f31)) n) k)).trans (congrArg (fun kn => spec_l8Sure_n1_s3 F b7 R (best4, first5, d6) kn _) (funext (fun ⟨best4, first5, d6⟩ => spec_l8Sure_n1_iter3 F b7 k n best4 first5 d6))))
theorem spec_l8Sure_n1_lok3 (F : Nat) : LoopOK Try.prog (loopAt 3 (bodyOf Try.f31)) (spec_l8Sure_n1_ls3 F) := by
  refine loopOK_of mixed ttok deep (spec_l8Sure_n1_tabok F) (loopsOK_at (spec_l8Sure_n1_lsok0 F) 3) (fuel := 70) fun R vals mem np killed k x h => ?_
  simp only [spec_l8Sure_n1_ls3] at h
  split at h
  · rename_i q_n0 best4 first5 d6 b7
    simp only [GT.run] at h
    have hc := (cond_noneL h).1
    replace h := (cond_noneL h).2
    have hg := (and_split hc).1
    replace hc := (and_split hc).2
    obtain rfl := beq_int hg
    refine ⟨F, (spec_l8Sure_n1_iter3 F b7 k F best4 first5 d6).trans ((loopC_use (spec_l8Sure_n1_s3_nat F b7) hc _).trans h)⟩
  · simp only [GT.run] at h
    cases h
noncomputable def spec_l8Sure_n1_LS1 (F : Nat) : LT := (3, spec_l8Sure_n1_ls3 F) :: spec_l8Sure_n1_LS0 F
theorem spec_l8Sure_n1_lsok1 (F : Nat) : LoopsOK Try.prog (spec_l8Sure_n1_LS1 F) (bodyOf Try.f31) := loopsOK_cons spec_l8Sure_n1_keys (spec_l8Sure_n1_lok3 F) (spec_l8Sure_n1_lsok0 F)
theorem spec_l8Sure_n1_run (F : Nat) (b0 : List Int) : runS tt (spec_l8Sure_n1_tab F) (spec_l8Sure_n1_LS1 F) [] [] Try.f31 (bodyOf Try.f31) 70 [(.ints 16 b0), (.int .i64 (1 : Int))] [] = spec_l8Sure_n1_c _ F b0 (fun r => some ⟨(.tup [(.int .i64 r.1), (.int .i64 r.2)]), [], []⟩) := by kernel_rfl
def spec_l8Sure_n1_ent (F : Nat) : Ent := ⟨[], .quiet, fun args mem => match args, mem with
  | [(.ints 16 b0), (.int .i64 q_n1)], [] => bif (q_n1 == (1 : Int)) then some ((spec_l8Sure_n1_p F b0).isSome, ⟨(.tup [(.int .i64 ((spec_l8Sure_n1_p F b0).getD default).1), (.int .i64 ((spec_l8Sure_n1_p F b0).getD default).2)]), [], []⟩) else none
  | _, _ => none⟩
theorem spec_l8Sure_n1_fok : FunOK Try.prog 31 := funOK Try.func31 (by kernel_rfl) rfl
theorem spec_l8Sure_n1_meets (F : Nat) : Meets Try.prog 31 (spec_l8Sure_n1_ent F) := by
  refine meets_of_runS mixed ttok deep (spec_l8Sure_n1_tabok F) Try.func31 (body_some rfl) (spec_l8Sure_n1_lsok1 F) fun args mem hfit ret h => ?_
  clear hfit
  simp only [spec_l8Sure_n1_ent] at h
  split at h
  · rename_i b0 q_n1
    have hg0 := (cond_noneL h).1
    replace h := (cond_noneL h).2
    obtain rfl := beq_int hg0
    simp only [Option.some.injEq, Prod.mk.injEq] at h
    obtain ⟨hc, rfl⟩ := h
    exact ⟨[], [], 70, _, (spec_l8Sure_n1_run F b0).trans ((spec_l8Sure_n1_cp _ F b0 _).trans (bind_use hc _)), rfl, rfl, rfl⟩
  · cases h

/-! loop.example/g01194/spec.l8Least -/
noncomputable def spec_l8Least_n1_tab (F : Nat) : Tab := [(67, (spec_l8Places_ent F)), (68, (spec_l8Put_ent F)), (31, (spec_l8Sure_n1_ent F))]
theorem spec_l8Least_n1_tabok (F : Nat) : TabOK Try.prog (spec_l8Least_n1_tab F) := (tab_cons (spec_l8Places_meets F) spec_l8Places_fok (tab_cons (spec_l8Put_meets F) spec_l8Put_fok (tab_cons (spec_l8Sure_n1_meets F) spec_l8Sure_n1_fok tab_nil)))
noncomputable def spec_l8Least_n1_LS0 (F : Nat) : LT := []
theorem spec_l8Least_n1_lsok0 (F : Nat) : LoopsOK Try.prog (spec_l8Least_n1_LS0 F) (bodyOf Try.f47) := loopsOK_nil
theorem spec_l8Least_n1_keys : keysOK (bodyOf Try.f47) = true := by kernel_rfl
def spec_l8Least_n1_st4 (next14 : List Int) (all16 : List (List Int)) (least9 : Int) (i13 : Int) (first17 : List Int) : St := ⟨expand 48 0 [1, 2, 4, 6, 7, 8, 9] [(.int .i64 (1 : Int)), (.ptr 0 0 0 16), (.ptr 1 0 0 3), (.sl 2 0 (List.length all16)), (.int .i64 least9), (.ptr 3 0 0 3), (.int .i64 i13)], [(.var 16 (.ri .i64 next14)), (.var 3 (.ri .i64 [(0 : Int), (0 : Int), (0 : Int)])), (.vec 35 (.rr 3 all16)), (.var 3 (.ri .i64 first17))], 0, []⟩
def spec_l8Least_n1_o4 (next14 : List Int) (all16 : List (List Int)) (x : Int × List Int) : GT := (.out (.exit 0 ⟨expand 48 0 [4, 7, 8] [(.ptr 0 0 0 3), (.int .i64 x.1), (.ptr 1 0 0 3)], [(.var 3 (.ri .i64 [(0 : Int), (0 : Int), (0 : Int)])), (.var 3 (.ri .i64 x.2))], 0, []⟩))
def spec_l8Least_n1_ls4 (F : Nat) : LoopS := ⟨48, [1, 2, 4, 6, 7, 8, 9], [], [4, 7, 8], [], [4, 5], [], [], fun vals mem np killed => match vals, mem, np, killed with
  | [(.int .i64 q_n0), (.ptr 0 0 0 16), (.ptr 1 0 0 3), (.sl 2 0 q_all8), (.int .i64 least9), (.ptr 3 0 0 3), (.int .i64 i13)], [(.var 16 (.ri .i64 next14)), (.var 3 (.ri .i64 q_t415)), (.vec 35 (.rr 3 all16)), (.var 3 (.ri .i64 first17))], 0, [] => .br ((q_n0 == (1 : Int)) && ((q_t415 == ([(0 : Int), (0 : Int), (0 : Int)] : List Int)) && ((Nat.beq q_all8 (List.length all16)) && (spec_l8Least_n1_l4 F next14 all16 least9 i13 first17).isSome))) (spec_l8Least_n1_o4 next14 all16 ((spec_l8Least_n1_l4 F next14 all16 least9 i13 first17).getD default)) .fail
  | _, _, _, _ => .fail⟩
theorem spec_l8Least_n1_step4 (F : Nat) (next14 : List Int) (all16 : List (List Int)) (least9 : Int) (i13 : Int) (first17 : List Int) {R : Type} (k : Out → Option R) : stepS tt (spec_l8Least_n1_tab F) (spec_l8Least_n1_LS0 F) 70 (spec_l8Least_n1_ls4 F) (loopAt 4 (bodyOf Try.f47)) (spec_l8Least_n1_st4 next14 all16 least9 i13 first17) k = spec_l8Least_n1_s4 F next14 all16 R (least9, i13, first17) (fun s => k (.norm (spec_l8Least_n1_st4 next14 all16 s.1 s.2.1 s.2.2))) (fun x => (spec_l8Least_n1_o4 next14 all16 x).run k) := by kernel_rfl
theorem spec_l8Least_n1_iter4 (F : Nat) (next14 : List Int) (all16 : List (List Int)) {R : Type} (k : Out → Option R) : ∀ (n : Nat) (least9 : Int) (i13 : Int) (first17 : List Int), iterS tt (spec_l8Least_n1_tab F) (spec_l8Least_n1_LS0 F) 70 (spec_l8Least_n1_ls4 F) (loopAt 4 (bodyOf Try.f47)) n (spec_l8Least_n1_st4 next14 all16 least9 i13 first17) k = loopC (spec_l8Least_n1_s4 F next14 all16) n (least9, i13, first17) (fun x => (spec_l8Least_n1_o4 next14 all16 x).run k)
  | 0, least9, i13, first17 => rfl
  | n + 1, least9, i13, first17 => (iterS_succ tt (spec_l8Least_n1_tab F) (spec_l8Least_n1_LS0 F) 70 (spec_l8Least_n1_ls4 F) (loopAt 4 (bodyOf Try.f47)) n (spec_l8Least_n1_st4 next14 all16 least9 i13 first17) k).trans ((spec_l8Least_n1_step4 F next14 all16 least9 i13 first17 (nextK (iterS tt (spec_l8Least_n1_tab F) (spec_l8Least_n1_LS0 F) 70 (spec_l8Least_n1_ls4 F) (loopAt 4 (bodyOf Try.f47)) n) k)).trans (congrArg (fun kn => spec_l8Least_n1_s4 F next14 all16 R (least9, i13, first17) kn _) (funext (fun ⟨least9, i13, first17⟩ => spec_l8Least_n1_iter4 F next14 all16 k n least9 i13 first17))))
theorem spec_l8Least_n1_lok4 (F : Nat) : LoopOK Try.prog (loopAt 4 (bodyOf Try.f47)) (spec_l8Least_n1_ls4 F) := by
  refine loopOK_of mixed ttok deep (spec_l8Least_n1_tabok F) (loopsOK_at (spec_l8Least_n1_lsok0 F) 4) (fuel := 70) fun R vals mem np killed k x h => ?_
  simp only [spec_l8Least_n1_ls4] at h
  split at h
  · rename_i q_n0 q_all8 least9 i13 next14 q_t415 all16 first17
    simp only [GT.run] at h
    have hc := (cond_noneL h).1
    replace h := (cond_noneL h).2
    have hg := (and_split hc).1
    replace hc := (and_split hc).2
    obtain rfl := beq_int hg
    have hg := (and_split hc).1
    replace hc := (and_split hc).2
    obtain rfl := beq_li hg
    have hg := (and_split hc).1
    replace hc := (and_split hc).2
    obtain rfl := nbeq_nat hg
    refine ⟨F, (spec_l8Least_n1_iter4 F next14 all16 k F least9 i13 first17).trans ((loopC_use (spec_l8Least_n1_s4_nat F next14 all16) hc _).trans h)⟩
  · simp only [GT.run] at h
    cases h
noncomputable def spec_l8Least_n1_LS1 (F : Nat) : LT := (4, spec_l8Least_n1_ls4 F) :: spec_l8Least_n1_LS0 F
theorem spec_l8Least_n1_lsok1 (F : Nat) : LoopsOK Try.prog (spec_l8Least_n1_LS1 F) (bodyOf Try.f47) := loopsOK_cons spec_l8Least_n1_keys (spec_l8Least_n1_lok4 F) (spec_l8Least_n1_lsok0 F)
theorem spec_l8Least_n1_run (F : Nat) (next0 : List Int) : runS tt (spec_l8Least_n1_tab F) (spec_l8Least_n1_LS1 F) [] [] Try.f47 (bodyOf Try.f47) 70 [(.ints 16 next0), (.int .i64 (1 : Int))] [] = spec_l8Least_n1_c _ F next0 (fun r => some ⟨(.tup [(.ints 3 r.1), (.int .i64 r.2)]), [], []⟩) := by kernel_rfl
def spec_l8Least_n1_ent (F : Nat) : Ent := ⟨[], .quiet, fun args mem => match args, mem with
  | [(.ints 16 next0), (.int .i64 q_n1)], [] => bif (q_n1 == (1 : Int)) then some ((spec_l8Least_n1_p F next0).isSome, ⟨(.tup [(.ints 3 ((spec_l8Least_n1_p F next0).getD default).1), (.int .i64 ((spec_l8Least_n1_p F next0).getD default).2)]), [], []⟩) else none
  | _, _ => none⟩
theorem spec_l8Least_n1_fok : FunOK Try.prog 47 := funOK Try.func47 (by kernel_rfl) rfl
theorem spec_l8Least_n1_meets (F : Nat) : Meets Try.prog 47 (spec_l8Least_n1_ent F) := by
  refine meets_of_runS mixed ttok deep (spec_l8Least_n1_tabok F) Try.func47 (body_some rfl) (spec_l8Least_n1_lsok1 F) fun args mem hfit ret h => ?_
  clear hfit
  simp only [spec_l8Least_n1_ent] at h
  split at h
  · rename_i next0 q_n1
    have hg0 := (cond_noneL h).1
    replace h := (cond_noneL h).2
    obtain rfl := beq_int hg0
    simp only [Option.some.injEq, Prod.mk.injEq] at h
    obtain ⟨hc, rfl⟩ := h
    exact ⟨[], [], 70, _, (spec_l8Least_n1_run F next0).trans ((spec_l8Least_n1_cp _ F next0 _).trans (bind_use hc _)), rfl, rfl, rfl⟩
  · cases h

/-! loop.example/g01194/spec.l8Sure -/
noncomputable def spec_l8Sure_n2_tab (F : Nat) : Tab := [(42, (spec_l2Slide_ent F)), (47, (spec_l8Least_n1_ent F))]
theorem spec_l8Sure_n2_tabok (F : Nat) : TabOK Try.prog (spec_l8Sure_n2_tab F) := (tab_cons (spec_l2Slide_meets F) spec_l2Slide_fok (tab_cons (spec_l8Least_n1_meets F) spec_l8Least_n1_fok tab_nil))
noncomputable def spec_l8Sure_n2_LS0 (F : Nat) : LT := []
theorem spec_l8Sure_n2_lsok0 (F : Nat) : LoopsOK Try.prog (spec_l8Sure_n2_LS0 F) (bodyOf Try.f31) := loopsOK_nil
theorem spec_l8Sure_n2_keys : keysOK (bodyOf Try.f31) = true := by kernel_rfl
def spec_l8Sure_n2_st3 (b7 : List Int) (best4 : Int) (first5 : Int) (d6 : Int) : St := ⟨expand 52 0 [1, 2, 6, 7, 8] [(.int .i64 (2 : Int)), (.ptr 0 0 0 16), (.int .i64 best4), (.int .i64 first5), (.int .i64 d6)], [(.var 16 (.ri .i64 b7))], 0, []⟩
def spec_l8Sure_n2_o3 (b7 : List Int) (x : Int × Int) : GT := (.out (.exit 0 ⟨expand 52 0 [6, 7] [(.int .i64 x.1), (.int .i64 x.2)], [], 0, []⟩))
def spec_l8Sure_n2_ls3 (F : Nat) : LoopS := ⟨52, [1, 2, 6, 7, 8], [], [6, 7], [], [4, 5], [], [], fun vals mem np killed => match vals, mem, np, killed with
  | [(.int .i64 q_n0), (.ptr 0 0 0 16), (.int .i64 best4), (.int .i64 first5), (.int .i64 d6)], [(.var 16 (.ri .i64 b7))], 0, [] => .br ((q_n0 == (2 : Int)) && (spec_l8Sure_n2_l3 F b7 best4 first5 d6).isSome) (spec_l8Sure_n2_o3 b7 ((spec_l8Sure_n2_l3 F b7 best4 first5 d6).getD default)) .fail
  | _, _, _, _ => .fail⟩
theorem spec_l8Sure_n2_step3 (F : Nat) (b7 : List Int) (best4 : Int) (first5 : Int) (d6 : Int) {R : Type} (k : Out → Option R) : stepS tt (spec_l8Sure_n2_tab F) (spec_l8Sure_n2_LS0 F) 70 (spec_l8Sure_n2_ls3 F) (loopAt 3 (bodyOf Try.f31)) (spec_l8Sure_n2_st3 b7 best4 first5 d6) k = spec_l8Sure_n2_s3 F b7 R (best4, first5, d6) (fun s => k (.norm (spec_l8Sure_n2_st3 b7 s.1 s.2.1 s.2.2))) (fun x => (spec_l8Sure_n2_o3 b7 x).run k) := by kernel_rfl
theorem spec_l8Sure_n2_iter3 (F : Nat) (b7 : List Int) {R : Type} (k : Out → Option R) : ∀ (n : Nat) (best4 : Int) (first5 : Int) (d6 : Int), iterS tt (spec_l8Sure_n2_tab F) (spec_l8Sure_n2_LS0 F) 70 (spec_l8Sure_n2_ls3 F) (loopAt 3 (bodyOf Try.f31)) n (spec_l8Sure_n2_st3 b7 best4 first5 d6) k = loopC (spec_l8Sure_n2_s3 F b7) n (best4, first5, d6) (fun x => (spec_l8Sure_n2_o3 b7 x).run k)
  | 0, best4, first5, d6 => rfl
  | n + 1, best4, first5, d6 => (iterS_succ tt (spec_l8Sure_n2_tab F) (spec_l8Sure_n2_LS0 F) 70 (spec_l8Sure_n2_ls3 F) (loopAt 3 (bodyOf Try.f31)) n (spec_l8Sure_n2_st3 b7 best4 first5 d6) k).trans ((spec_l8Sure_n2_step3 F b7 best4 first5 d6 (nextK (iterS tt (spec_l8Sure_n2_tab F) (spec_l8Sure_n2_LS0 F) 70 (spec_l8Sure_n2_ls3 F) (loopAt 3 (bodyOf Try.f31)) n) k)).trans (congrArg (fun kn => spec_l8Sure_n2_s3 F b7 R (best4, first5, d6) kn _) (funext (fun ⟨best4, first5, d6⟩ => spec_l8Sure_n2_iter3 F b7 k n best4 first5 d6))))
theorem spec_l8Sure_n2_lok3 (F : Nat) : LoopOK Try.prog (loopAt 3 (bodyOf Try.f31)) (spec_l8Sure_n2_ls3 F) := by
  refine loopOK_of mixed ttok deep (spec_l8Sure_n2_tabok F) (loopsOK_at (spec_l8Sure_n2_lsok0 F) 3) (fuel := 70) fun R vals mem np killed k x h => ?_
  simp only [spec_l8Sure_n2_ls3] at h
  split at h
  · rename_i q_n0 best4 first5 d6 b7
    simp only [GT.run] at h
    have hc := (cond_noneL h).1
    replace h := (cond_noneL h).2
    have hg := (and_split hc).1
    replace hc := (and_split hc).2
    obtain rfl := beq_int hg
    refine ⟨F, (spec_l8Sure_n2_iter3 F b7 k F best4 first5 d6).trans ((loopC_use (spec_l8Sure_n2_s3_nat F b7) hc _).trans h)⟩
  · simp only [GT.run] at h
    cases h
noncomputable def spec_l8Sure_n2_LS1 (F : Nat) : LT := (3, spec_l8Sure_n2_ls3 F) :: spec_l8Sure_n2_LS0 F
theorem spec_l8Sure_n2_lsok1 (F : Nat) : LoopsOK Try.prog (spec_l8Sure_n2_LS1 F) (bodyOf Try.f31) := loopsOK_cons spec_l8Sure_n2_keys (spec_l8Sure_n2_lok3 F) (spec_l8Sure_n2_lsok0 F)
theorem spec_l8Sure_n2_run (F : Nat) (b0 : List Int) : runS tt (spec_l8Sure_n2_tab F) (spec_l8Sure_n2_LS1 F) [] [] Try.f31 (bodyOf Try.f31) 70 [(.ints 16 b0), (.int .i64 (2 : Int))] [] = spec_l8Sure_n2_c _ F b0 (fun r => some ⟨(.tup [(.int .i64 r.1), (.int .i64 r.2)]), [], []⟩) := by kernel_rfl
def spec_l8Sure_n2_ent (F : Nat) : Ent := ⟨[], .quiet, fun args mem => match args, mem with
  | [(.ints 16 b0), (.int .i64 q_n1)], [] => bif (q_n1 == (2 : Int)) then some ((spec_l8Sure_n2_p F b0).isSome, ⟨(.tup [(.int .i64 ((spec_l8Sure_n2_p F b0).getD default).1), (.int .i64 ((spec_l8Sure_n2_p F b0).getD default).2)]), [], []⟩) else none
  | _, _ => none⟩
theorem spec_l8Sure_n2_fok : FunOK Try.prog 31 := funOK Try.func31 (by kernel_rfl) rfl
theorem spec_l8Sure_n2_meets (F : Nat) : Meets Try.prog 31 (spec_l8Sure_n2_ent F) := by
  refine meets_of_runS mixed ttok deep (spec_l8Sure_n2_tabok F) Try.func31 (body_some rfl) (spec_l8Sure_n2_lsok1 F) fun args mem hfit ret h => ?_
  clear hfit
  simp only [spec_l8Sure_n2_ent] at h
  split at h
  · rename_i b0 q_n1
    have hg0 := (cond_noneL h).1
    replace h := (cond_noneL h).2
    obtain rfl := beq_int hg0
    simp only [Option.some.injEq, Prod.mk.injEq] at h
    obtain ⟨hc, rfl⟩ := h
    exact ⟨[], [], 70, _, (spec_l8Sure_n2_run F b0).trans ((spec_l8Sure_n2_cp _ F b0 _).trans (bind_use hc _)), rfl, rfl, rfl⟩
  · cases h

/-! loop.example/g01194/spec.l8Sure -/
def spec_l8Sure_ent (F : Nat) : Ent := ⟨[], .quiet, fun args mem => match args, mem with
  | [(.ints 16 b0), (.int .i64 n1)], [] => some ((spec_l8Sure_p F b0 n1).isSome, ⟨(.tup [(.int .i64 ((spec_l8Sure_p F b0 n1).getD default).1), (.int .i64 ((spec_l8Sure_p F b0 n1).getD default).2)]), [], []⟩)
  | _, _ => none⟩
theorem spec_l8Sure_fok : FunOK Try.prog 31 := funOK Try.func31 (by kernel_rfl) rfl
theorem spec_l8Sure_meets (F : Nat) : Meets Try.prog 31 (spec_l8Sure_ent F) := by
  intro fr w ρ mem args reals hw ha ret hg
  simp only [spec_l8Sure_ent] at hg
  split at hg
  · rename_i b0 n1
    simp only [Option.some.injEq, Prod.mk.injEq] at hg
    obtain ⟨hc, rfl⟩ := hg
    by_cases hn0 : (n1 == (0 : Int)) = true
    · obtain rfl := beq_int hn0
      have e : spec_l8Sure_p F b0 (0 : Int) = some ((0 : Int), (-1 : Int)) := by kernel_rfl
      have hg' : (spec_l8Sure_n0_ent F).g [(.ints 16 b0), (.int .i64 (0 : Int))] [] = some (true, ⟨(.tup [(.int .i64 (0 : Int)), (.int .i64 (-1 : Int))]), [], []⟩) := by kernel_rfl
      have h9 := spec_l8Sure_n0_meets F fr w ρ _ _ reals hw ha _ hg'
      simp only [e, cond_true, Option.getD_some]
      exact h9
    · replace hn0 : (n1 == (0 : Int)) = false := by simpa using hn0
      by_cases hn1 : (n1 == (1 : Int)) = true
      · obtain rfl := beq_int hn1
        have e : spec_l8Sure_p F b0 (1 : Int) = (bif (Option.isSome (spec_l8Sure_n1_p F b0)) then some ((Option.getD (spec_l8Sure_n1_p F b0) default).1, (Option.getD (spec_l8Sure_n1_p F b0) default).2) else none) := by kernel_rfl
        have hg' : (spec_l8Sure_n1_ent F).g [(.ints 16 b0), (.int .i64 (1 : Int))] [] = some ((Option.isSome (spec_l8Sure_n1_p F b0)), ⟨(.tup [(.int .i64 (Option.getD (spec_l8Sure_n1_p F b0) default).1), (.int .i64 (Option.getD (spec_l8Sure_n1_p F b0) default).2)]), [], []⟩) := by kernel_rfl
        rw [e] at hc
        have hC := isSome_cond hc
        rw [hC] at hg'
        have h9 := spec_l8Sure_n1_meets F fr w ρ _ _ reals hw ha _ hg'
        simp only [e, hC, cond_true, Option.getD_some]
        exact h9
      · replace hn1 : (n1 == (1 : Int)) = false := by simpa using hn1
        by_cases hn2 : (n1 == (2 : Int)) = true
        · obtain rfl := beq_int hn2
          have e : spec_l8Sure_p F b0 (2 : Int) = (bif (Option.isSome (spec_l8Sure_n2_p F b0)) then some ((Option.getD (spec_l8Sure_n2_p F b0) default).1, (Option.getD (spec_l8Sure_n2_p F b0) default).2) else none) := by kernel_rfl
          have hg' : (spec_l8Sure_n2_ent F).g [(.ints 16 b0), (.int .i64 (2 : Int))] [] = some ((Option.isSome (spec_l8Sure_n2_p F b0)), ⟨(.tup [(.int .i64 (Option.getD (spec_l8Sure_n2_p F b0) default).1), (.int .i64 (Option.getD (spec_l8Sure_n2_p F b0) default).2)]), [], []⟩) := by kernel_rfl
          rw [e] at hc
          have hC := isSome_cond hc
          rw [hC] at hg'
          have h9 := spec_l8Sure_n2_meets F fr w ρ _ _ reals hw ha _ hg'
          simp only [e, hC, cond_true, Option.getD_some]
          exact h9
        · replace hn2 : (n1 == (2 : Int)) = false := by simpa using hn2
          exfalso
          have e : spec_l8Sure_p F b0 n1 = none := by simp only [spec_l8Sure_p, spec_l8Sure_c, hn0, hn1, hn2, cond_false]
          rw [e] at hc
          cases hc
  · cases hg

/-! loop.example/g01194/spec.SureScore -/
noncomputable def spec_SureScore_tab (F : Nat) : Tab := [(29, (spec_l2Board_ent F)), (30, (spec_l1In_ent F)), (31, (spec_l8Sure_ent F))]
theorem spec_SureScore_tabok (F : Nat) : TabOK Try.prog (spec_SureScore_tab F) := (tab_cons (spec_l2Board_meets F) spec_l2Board_fok (tab_cons (spec_l1In_meets F) spec_l1In_fok (tab_cons (spec_l8Sure_meets F) spec_l8Sure_fok tab_nil)))
noncomputable def spec_SureScore_LS0 (F : Nat) : LT := []
theorem spec_SureScore_lsok0 (F : Nat) : LoopsOK Try.prog (spec_SureScore_LS0 F) (bodyOf Try.f10) := loopsOK_nil
theorem spec_SureScore_run (F : Nat) (b0 : List Int) (n1 : Int) : runS tt (spec_SureScore_tab F) (spec_SureScore_LS0 F) [] [] Try.f10 (bodyOf Try.f10) 70 [(.ints 16 b0), (.int .i64 n1)] [] = spec_SureScore_c _ F b0 n1 (fun r => some ⟨(.tup [(.int .i64 r.1), (.bool r.2)]), [], []⟩) := by kernel_rfl
def spec_SureScore_ent (F : Nat) : Ent := ⟨[], .quiet, fun args mem => match args, mem with
  | [(.ints 16 b0), (.int .i64 n1)], [] => some ((spec_SureScore_p F b0 n1).isSome, ⟨(.tup [(.int .i64 ((spec_SureScore_p F b0 n1).getD default).1), (.bool ((spec_SureScore_p F b0 n1).getD default).2)]), [], []⟩)
  | _, _ => none⟩
theorem spec_SureScore_fok : FunOK Try.prog 10 := funOK Try.func10 (by kernel_rfl) rfl
theorem spec_SureScore_meets (F : Nat) : Meets Try.prog 10 (spec_SureScore_ent F) := by
  refine meets_of_runS mixed ttok deep (spec_SureScore_tabok F) Try.func10 (body_some rfl) (spec_SureScore_lsok0 F) fun args mem hfit ret h => ?_
  clear hfit
  simp only [spec_SureScore_ent] at h
  split at h
  · rename_i b0 n1
    simp only [Option.some.injEq, Prod.mk.injEq] at h
    obtain ⟨hc, rfl⟩ := h
    exact ⟨[], [], 70, _, (spec_SureScore_run F b0 n1).trans ((spec_SureScore_cp _ F b0 n1 _).trans (bind_use hc _)), rfl, rfl, rfl⟩
  · cases h

/-! loop.example/g01194/impl.in -/
noncomputable def impl_in_tab (F : Nat) : Tab := []
theorem impl_in_tabok (F : Nat) : TabOK Try.prog (impl_in_tab F) := tab_nil
noncomputable def impl_in_LS0 (F : Nat) : LT := []
theorem impl_in_lsok0 (F : Nat) : LoopsOK Try.prog (impl_in_LS0 F) (bodyOf Try.f34) := loopsOK_nil
theorem impl_in_run (F : Nat) (n0 : Int) (low1 : Int) (high2 : Int) : runS tt (impl_in_tab F) (impl_in_LS0 F) [] [] Try.f34 (bodyOf Try.f34) 70 [(.int .i64 n0), (.int .i64 low1), (.int .i64 high2)] [] = impl_in_c _ n0 low1 high2 (fun r => some ⟨(.bool r), [], []⟩) := by kernel_rfl
def impl_in_ent (F : Nat) : Ent := ⟨[], .quiet, fun args mem => match args, mem with
  | [(.int .i64 n0), (.int .i64 low1), (.int .i64 high2)], [] => some (true, ⟨(.bool (impl_in_v n0 low1 high2)), [], []⟩)
  | _, _ => none⟩
theorem impl_in_fok : FunOK Try.prog 34 := funOK Try.func34 (by kernel_rfl) rfl
theorem impl_in_meets (F : Nat) : Meets Try.prog 34 (impl_in_ent F) := by
  refine meets_of_runS mixed ttok deep (impl_in_tabok F) Try.func34 (body_some rfl) (impl_in_lsok0 F) fun args mem hfit ret h => ?_
  clear hfit
  simp only [impl_in_ent] at h
  split at h
  · rename_i n0 low1 high2
    simp only [Option.some.injEq, Prod.mk.injEq] at h
    obtain ⟨hc, rfl⟩ := h
    exact ⟨[], [], 70, _, (impl_in_run F n0 low1 high2).trans (impl_in_cv _ n0 low1 high2 _), rfl, rfl, rfl⟩
  · cases h

/-! loop.example/g01194/impl.IsRow$1 -/
noncomputable def impl_IsRow_f1_tab (F : Nat) : Tab := [(34, (impl_in_ent F))]
theorem impl_IsRow_f1_tabok (F : Nat) : TabOK Try.prog (impl_IsRow_f1_tab F) := (tab_cons (impl_in_meets F) impl_in_fok tab_nil)
noncomputable def impl_IsRow_f1_LS0 (F : Nat) : LT := []
theorem impl_IsRow_f1_lsok0 (F : Nat) : LoopsOK Try.prog (impl_IsRow_f1_LS0 F) (bodyOf Try.f74) := loopsOK_nil
theorem impl_IsRow_f1_run (F : Nat) (n0 : Int) : runS tt (impl_IsRow_f1_tab F) (impl_IsRow_f1_LS0 F) [] [] Try.f74 (bodyOf Try.f74) 70 [(.int .i64 n0)] [] = impl_IsRow_f1_c _ n0 (fun r => some ⟨(.bool r), [], []⟩) := by kernel_rfl
def impl_IsRow_f1_ent (F : Nat) : Ent := ⟨[], .quiet, fun args mem => match args, mem with
  | [(.int .i64 n0)], [] => some (true, ⟨(.bool (impl_IsRow_f1_v n0)), [], []⟩)
  | _, _ => none⟩
theorem impl_IsRow_f1_fok : FunOK Try.prog 74 := funOK Try.func74 (by kernel_rfl) rfl
theorem impl_IsRow_f1_meets (F : Nat) : Meets Try.prog 74 (impl_IsRow_f1_ent F) := by
  refine meets_of_runS mixed ttok deep (impl_IsRow_f1_tabok F) Try.func74 (body_some rfl) (impl_IsRow_f1_lsok0 F) fun args mem hfit ret h => ?_
  clear hfit
  simp only [impl_IsRow_f1_ent] at h
  split at h
  · rename_i n0
    simp only [Option.some.injEq, Prod.mk.injEq] at h
    obtain ⟨hc, rfl⟩ := h
    exact ⟨[], [], 70, _, (impl_IsRow_f1_run F n0).trans (impl_IsRow_f1_cv _ n0 _), rfl, rfl, rfl⟩
  · cases h

/-! slices.IndexFunc[[]int,int] -/
noncomputable def slices_IndexFunc_intint_impl_IsRow_f1_tab (F : Nat) : Tab := [(74, (impl_IsRow_f1_ent F))]
theorem slices_IndexFunc_intint_impl_IsRow_f1_tabok (F : Nat) : TabOK Try.prog (slices_IndexFunc_intint_impl_IsRow_f1_tab F) := (tab_cons (impl_IsRow_f1_meets F) impl_IsRow_f1_fok tab_nil)
noncomputable def slices_IndexFunc_intint_impl_IsRow_f1_LS0 (F : Nat) : LT := []
theorem slices_IndexFunc_intint_impl_IsRow_f1_lsok0 (F : Nat) : LoopsOK Try.prog (slices_IndexFunc_intint_impl_IsRow_f1_LS0 F) (bodyOf Try.f72) := loopsOK_nil
theorem slices_IndexFunc_intint_impl_IsRow_f1_keys : keysOK (bodyOf Try.f72) = true := by kernel_rfl
def slices_IndexFunc_intint_impl_IsRow_f1_st2 (s0 : List Int) (t71 : Int) (t82 : Int) : St := ⟨expand 19 0 [0, 1, 7, 8] [(.ri .i64 s0), (.fn 74 [] []), (.int .i64 t71), (.int .i64 t82)], [], 0, []⟩
def slices_IndexFunc_intint_impl_IsRow_f1_o2 (s0 : List Int) (t71 : Int) (x : Bool × Int) : GT := (.br x.1 (.out (.ret ⟨expand 19 0 [4] [(.int .i64 x.2)], [], 0, []⟩)) (.out (.exit 0 ⟨expand 19 0 [] [], [], 0, []⟩)))
def slices_IndexFunc_intint_impl_IsRow_f1_ls2 (F : Nat) : LoopS := ⟨19, [0, 1, 7, 8], [], [], [], [4], [], [], fun vals mem np killed => match vals, mem, np, killed with
  | [(.ri .i64 s0), (.fn 74 [] []), (.int .i64 t71), (.int .i64 t82)], [], 0, [] => .br (slices_IndexFunc_intint_impl_IsRow_f1_l2 F s0 t71 t82).isSome (slices_IndexFunc_intint_impl_IsRow_f1_o2 s0 t71 ((slices_IndexFunc_intint_impl_IsRow_f1_l2 F s0 t71 t82).getD default)) .fail
  | _, _, _, _ => .fail⟩
theorem slices_IndexFunc_intint_impl_IsRow_f1_step2 (F : Nat) (s0 : List Int) (t71 : Int) (t82 : Int) {R : Type} (k : Out → Option R) : stepS tt (slices_IndexFunc_intint_impl_IsRow_f1_tab F) (slices_IndexFunc_intint_impl_IsRow_f1_LS0 F) 70 (slices_IndexFunc_intint_impl_IsRow_f1_ls2 F) (loopAt 2 (bodyOf Try.f72)) (slices_IndexFunc_intint_impl_IsRow_f1_st2 s0 t71 t82) k = slices_IndexFunc_intint_impl_IsRow_f1_s2 F s0 t71 R t82 (fun s => k (.norm (slices_IndexFunc_intint_impl_IsRow_f1_st2 s0 t71 s))) (fun x => (slices_IndexFunc_intint_impl_IsRow_f1_o2 s0 t71 x).run k) := by kernel_rfl
theorem slices_IndexFunc_intint_impl_IsRow_f1_iter2 (F : Nat) (s0 : List Int) (t71 : Int) {R : Type} (k : Out → Option R) : ∀ (n : Nat) (t82 : Int), iterS tt (slices_IndexFunc_intint_impl_IsRow_f1_tab F) (slices_IndexFunc_intint_impl_IsRow_f1_LS0 F) 70 (slices_IndexFunc_intint_impl_IsRow_f1_ls2 F) (loopAt 2 (bodyOf Try.f72)) n (slices_IndexFunc_intint_impl_IsRow_f1_st2 s0 t71 t82) k = loopC (slices_IndexFunc_intint_impl_IsRow_f1_s2 F s0 t71) n t82 (fun x => (slices_IndexFunc_intint_impl_IsRow_f1_o2 s0 t71 x).run k)
  | 0, t82 => rfl
  | n + 1, t82 => (iterS_succ tt (slices_IndexFunc_intint_impl_IsRow_f1_tab F) (slices_IndexFunc_intint_impl_IsRow_f1_LS0 F) 70 (slices_IndexFunc_intint_impl_IsRow_f1_ls2 F) (loopAt 2 (bodyOf Try.f72)) n (slices_IndexFunc_intint_impl_IsRow_f1_st2 s0 t71 t82) k).trans ((slices_IndexFunc_intint_impl_IsRow_f1_step2 F s0 t71 t82 (nextK (iterS tt (slices_IndexFunc_intint_impl_IsRow_f1_tab F) (slices_IndexFunc_intint_impl_IsRow_f1_LS0 F) 70 (slices_IndexFunc_intint_impl_IsRow_f1_ls2 F) (loopAt 2 (bodyOf Try.f72)) n) k)).trans (congrArg (fun kn => slices_IndexFunc_intint_impl_IsRow_f1_s2 F s0 t71 R t82 kn _) (funext (fun t82 => slices_IndexFunc_intint_impl_IsRow_f1_iter2 F s0 t71 k n t82))))
theorem slices_IndexFunc_intint_impl_IsRow_f1_lok2 (F : Nat) : LoopOK Try.prog (loopAt 2 (bodyOf Try.f72)) (slices_IndexFunc_intint_impl_IsRow_f1_ls2 F) := by
  refine loopOK_of mixed ttok deep (slices_IndexFunc_intint_impl_IsRow_f1_tabok F) (loopsOK_at (slices_IndexFunc_intint_impl_IsRow_f1_lsok0 F) 2) (fuel := 70) fun R vals mem np killed k x h => ?_
  simp only [slices_IndexFunc_intint_impl_IsRow_f1_ls2] at h
  split at h
  · rename_i s0 t71 t82
    simp only [GT.run] at h
    have hc := (cond_noneL h).1
    replace h := (cond_noneL h).2
    refine ⟨F, (slices_IndexFunc_intint_impl_IsRow_f1_iter2 F s0 t71 k F t82).trans ((loopC_use (slices_IndexFunc_intint_impl_IsRow_f1_s2_nat F s0 t71) hc _).trans h)⟩
  · simp only [GT.run] at h
    cases h
noncomputable def slices_IndexFunc_intint_impl_IsRow_f1_LS1 (F : Nat) : LT := (2, slices_IndexFunc_intint_impl_IsRow_f1_ls2 F) :: slices_IndexFunc_intint_impl_IsRow_f1_LS0 F
theorem slices_IndexFunc_intint_impl_IsRow_f1_lsok1 (F : Nat) : LoopsOK Try.prog (slices_IndexFunc_intint_impl_IsRow_f1_LS1 F) (bodyOf Try.f72) := loopsOK_cons slices_IndexFunc_intint_impl_IsRow_f1_keys (slices_IndexFunc_intint_impl_IsRow_f1_lok2 F) (slices_IndexFunc_intint_impl_IsRow_f1_lsok0 F)
theorem slices_IndexFunc_intint_impl_IsRow_f1_run (F : Nat) (s0 : List Int) : runS tt (slices_IndexFunc_intint_impl_IsRow_f1_tab F) (slices_IndexFunc_intint_impl_IsRow_f1_LS1 F) [] [] Try.f72 (bodyOf Try.f72) 70 [(.ri .i64 s0), (.fn 74 [] [])] [] = slices_IndexFunc_intint_impl_IsRow_f1_c _ F s0 (fun r => some ⟨(.int .i64 r), [], []⟩) := by kernel_rfl
def slices_IndexFunc_intint_impl_IsRow_f1_ent (F : Nat) : Ent := ⟨[], .quiet, fun args mem => match args, mem with
  | [(.ri .i64 s0), (.fn 74 [] [])], [] => some ((slices_IndexFunc_intint_impl_IsRow_f1_p F s0).isSome, ⟨(.int .i64 ((slices_IndexFunc_intint_impl_IsRow_f1_p F s0).getD default)), [], []⟩)
  | _, _ => none⟩
theorem slices_IndexFunc_intint_impl_IsRow_f1_fok : FunOK Try.prog 72 := funOK Try.func72 (by kernel_rfl) rfl
theorem slices_IndexFunc_intint_impl_IsRow_f1_meets (F : Nat) : Meets Try.prog 72 (slices_IndexFunc_intint_impl_IsRow_f1_ent F) := by
  refine meets_of_runS mixed ttok deep (slices_IndexFunc_intint_impl_IsRow_f1_tabok F) Try.func72 (body_some rfl) (slices_IndexFunc_intint_impl_IsRow_f1_lsok1 F) fun args mem hfit ret h => ?_
  clear hfit
  simp only [slices_IndexFunc_intint_impl_IsRow_f1_ent] at h
  split at h
  · rename_i s0
    simp only [Option.some.injEq, Prod.mk.injEq] at h
    obtain ⟨hc, rfl⟩ := h
    exact ⟨[], [], 70, _, (slices_IndexFunc_intint_impl_IsRow_f1_run F s0).trans ((slices_IndexFunc_intint_impl_IsRow_f1_cp _ F s0 _).trans (bind_use hc _)), rfl, rfl, rfl⟩
  · cases h

/-! slices.ContainsFunc[[]int,int] -/
noncomputable def slices_ContainsFunc_intint_impl_IsRow_f1_tab (F : Nat) : Tab := [(72, (slices_IndexFunc_intint_impl_IsRow_f1_ent F))]
theorem slices_ContainsFunc_intint_impl_IsRow_f1_tabok (F : Nat) : TabOK Try.prog (slices_ContainsFunc_intint_impl_IsRow_f1_tab F) := (tab_cons (slices_IndexFunc_intint_impl_IsRow_f1_meets F) slices_IndexFunc_intint_impl_IsRow_f1_fok tab_nil)
noncomputable def slices_ContainsFunc_intint_impl_IsRow_f1_LS0 (F : Nat) : LT := []
theorem slices_ContainsFunc_intint_impl_IsRow_f1_lsok0 (F : Nat) : LoopsOK Try.prog (slices_ContainsFunc_intint_impl_IsRow_f1_LS0 F) (bodyOf Try.f59) := loopsOK_nil
theorem slices_ContainsFunc_intint_impl_IsRow_f1_run (F : Nat) (s0 : List Int) : runS tt (slices_ContainsFunc_intint_impl_IsRow_f1_tab F) (slices_ContainsFunc_intint_impl_IsRow_f1_LS0 F) [] [] Try.f59 (bodyOf Try.f59) 70 [(.ri .i64 s0), (.fn 74 [] [])] [] = slices_ContainsFunc_intint_impl_IsRow_f1_c _ F s0 (fun r => some ⟨(.bool r), [], []⟩) := by kernel_rfl
def slices_ContainsFunc_intint_impl_IsRow_f1_ent (F : Nat) : Ent := ⟨[], .quiet, fun args mem => match args, mem with
  | [(.ri .i64 s0), (.fn 74 [] [])], [] => some ((slices_ContainsFunc_intint_impl_IsRow_f1_p F s0).isSome, ⟨(.bool ((slices_ContainsFunc_intint_impl_IsRow_f1_p F s0).getD default)), [], []⟩)
  | _, _ => none⟩
theorem slices_ContainsFunc_intint_impl_IsRow_f1_fok : FunOK Try.prog 59 := funOK Try.func59 (by kernel_rfl) rfl
theorem slices_ContainsFunc_intint_impl_IsRow_f1_meets (F : Nat) : Meets Try.prog 59 (slices_ContainsFunc_intint_impl_IsRow_f1_ent F) := by
  refine meets_of_runS mixed ttok deep (slices_ContainsFunc_intint_impl_IsRow_f1_tabok F) Try.func59 (body_some rfl) (slices_ContainsFunc_intint_impl_IsRow_f1_lsok0 F) fun args mem hfit ret h => ?_
  clear hfit
  simp only [slices_ContainsFunc_intint_impl_IsRow_f1_ent] at h
  split at h
  · rename_i s0
    simp only [Option.some.injEq, Prod.mk.injEq] at h
    obtain ⟨hc, rfl⟩ := h
    exact ⟨[], [], 70, _, (slices_ContainsFunc_intint_impl_IsRow_f1_run F s0).trans ((slices_ContainsFunc_intint_impl_IsRow_f1_cp _ F s0 _).trans (bind_use hc _)), rfl, rfl, rfl⟩
  · cases h

/-! loop.example/g01194/impl.IsRow -/
noncomputable def impl_IsRow_tab (F : Nat) : Tab := [(59, (slices_ContainsFunc_intint_impl_IsRow_f1_ent F))]
theorem impl_IsRow_tabok (F : Nat) : TabOK Try.prog (impl_IsRow_tab F) := (tab_cons (slices_ContainsFunc_intint_impl_IsRow_f1_meets F) slices_ContainsFunc_intint_impl_IsRow_f1_fok tab_nil)
noncomputable def impl_IsRow_LS0 (F : Nat) : LT := []
theorem impl_IsRow_lsok0 (F : Nat) : LoopsOK Try.prog (impl_IsRow_LS0 F) (bodyOf Try.f57) := loopsOK_nil
theorem impl_IsRow_run (F : Nat) (row0 : List Int) : runS tt (impl_IsRow_tab F) (impl_IsRow_LS0 F) [] [] Try.f57 (bodyOf Try.f57) 70 [(.ints 4 row0)] [] = impl_IsRow_c _ F row0 (fun r => some ⟨(.bool r), [], []⟩) := by kernel_rfl
def impl_IsRow_ent (F : Nat) : Ent := ⟨[], .quiet, fun args mem => match args, mem with
  | [(.ints 4 row0)], [] => some ((impl_IsRow_p F row0).isSome, ⟨(.bool ((impl_IsRow_p F row0).getD default)), [], []⟩)
  | _, _ => none⟩
theorem impl_IsRow_fok : FunOK Try.prog 57 := funOK Try.func57 (by kernel_rfl) rfl
theorem impl_IsRow_meets (F : Nat) : Meets Try.prog 57 (impl_IsRow_ent F) := by
  refine meets_of_runS mixed ttok deep (impl_IsRow_tabok F) Try.func57 (body_some rfl) (impl_IsRow_lsok0 F) fun args mem hfit ret h => ?_
  clear hfit
  simp only [impl_IsRow_ent] at h
  split at h
  · rename_i row0
    simp only [Option.some.injEq, Prod.mk.injEq] at h
    obtain ⟨hc, rfl⟩ := h
    exact ⟨[], [], 70, _, (impl_IsRow_run F row0).trans ((impl_IsRow_cp _ F row0 _).trans (bind_use hc _)), rfl, rfl, rfl⟩
  · cases h

/-! loop.example/g01194/impl.IsBoard$1 -/
noncomputable def impl_IsBoard_f1_tab (F : Nat) : Tab := [(57, (impl_IsRow_ent F))]
theorem impl_IsBoard_f1_tabok (F : Nat) : TabOK Try.prog (impl_IsBoard_f1_tab F) := (tab_cons (impl_IsRow_meets F) impl_IsRow_fok tab_nil)
noncomputable def impl_IsBoard_f1_LS0 (F : Nat) : LT := []
theorem impl_IsBoard_f1_lsok0 (F : Nat) : LoopsOK Try.prog (impl_IsBoard_f1_LS0 F) (bodyOf Try.f56) := loopsOK_nil
theorem impl_IsBoard_f1_run (F : Nat) (row0 : List Int) : runS tt (impl_IsBoard_f1_tab F) (impl_IsBoard_f1_LS0 F) [] [] Try.f56 (bodyOf Try.f56) 70 [(.ints 4 row0)] [] = impl_IsBoard_f1_c _ F row0 (fun r => some ⟨(.bool r), [], []⟩) := by kernel_rfl
def impl_IsBoard_f1_ent (F : Nat) : Ent := ⟨[], .quiet, fun args mem => match args, mem with
  | [(.ints 4 row0)], [] => some ((impl_IsBoard_f1_p F row0).isSome, ⟨(.bool ((impl_IsBoard_f1_p F row0).getD default)), [], []⟩)
  | _, _ => none⟩
theorem impl_IsBoard_f1_fok : FunOK Try.prog 56 := funOK Try.func56 (by kernel_rfl) rfl
theorem impl_IsBoard_f1_meets (F : Nat) : Meets Try.prog 56 (impl_IsBoard_f1_ent F) := by
  refine meets_of_runS mixed ttok deep (impl_IsBoard_f1_tabok F) Try.func56 (body_some rfl) (impl_IsBoard_f1_lsok0 F) fun args mem hfit ret h => ?_
  clear hfit
  simp only [impl_IsBoard_f1_ent] at h
  split at h
  · rename_i row0
    simp only [Option.some.injEq, Prod.mk.injEq] at h
    obtain ⟨hc, rfl⟩ := h
    exact ⟨[], [], 70, _, (impl_IsBoard_f1_run F row0).trans ((impl_IsBoard_f1_cp _ F row0 _).trans (bind_use hc _)), rfl, rfl, rfl⟩
  · cases h

/-! slices.IndexFunc[[][4]int,[4]int] -/
noncomputable def slices_IndexFunc_4int4int_impl_IsBoard_f1_tab (F : Nat) : Tab := [(56, (impl_IsBoard_f1_ent F))]
theorem slices_IndexFunc_4int4int_impl_IsBoard_f1_tabok (F : Nat) : TabOK Try.prog (slices_IndexFunc_4int4int_impl_IsBoard_f1_tab F) := (tab_cons (impl_IsBoard_f1_meets F) impl_IsBoard_f1_fok tab_nil)
noncomputable def slices_IndexFunc_4int4int_impl_IsBoard_f1_LS0 (F : Nat) : LT := []
theorem slices_IndexFunc_4int4int_impl_IsBoard_f1_lsok0 (F : Nat) : LoopsOK Try.prog (slices_IndexFunc_4int4int_impl_IsBoard_f1_LS0 F) (bodyOf Try.f73) := loopsOK_nil
theorem slices_IndexFunc_4int4int_impl_IsBoard_f1_keys : keysOK (bodyOf Try.f73) = true := by kernel_rfl
def slices_IndexFunc_4int4int_impl_IsBoard_f1_st2 (s0 : List (List Int)) (t71 : Int) (t82 : Int) : St := ⟨expand 19 0 [0, 1, 7, 8] [(.rr 4 s0), (.fn 56 [] []), (.int .i64 t71), (.int .i64 t82)], [], 0, []⟩
def slices_IndexFunc_4int4int_impl_IsBoard_f1_o2 (s0 : List (List Int)) (t71 : Int) (x : Bool × Int) : GT := (.br x.1 (.out (.ret ⟨expand 19 0 [4] [(.int .i64 x.2)], [], 0, []⟩)) (.out (.exit 0 ⟨expand 19 0 [] [], [], 0, []⟩)))
def slices_IndexFunc_4int4int_impl_IsBoard_f1_ls2 (F : Nat) : LoopS := ⟨19, [0, 1, 7, 8], [], [], [], [4], [], [], fun vals mem np killed => match vals, mem, np, killed with
  | [(.rr 4 s0), (.fn 56 [] []), (.int .i64 t71), (.int .i64 t82)], [], 0, [] => .br (slices_IndexFunc_4int4int_impl_IsBoard_f1_l2 F s0 t71 t82).isSome (slices_IndexFunc_4int4int_impl_IsBoard_f1_o2 s0 t71 ((slices_IndexFunc_4int4int_impl_IsBoard_f1_l2 F s0 t71 t82).getD default)) .fail
  | _, _, _, _ => .fail⟩
theorem slices_IndexFunc_4int4int_impl_IsBoard_f1_step2 (F : Nat) (s0 : List (List Int)) (t71 : Int) (t82 : Int) {R : Type} (k : Out → Option R) : stepS tt (slices_IndexFunc_4int4int_impl_IsBoard_f1_tab F) (slices_IndexFunc_4int4int_impl_IsBoard_f1_LS0 F) 70 (slices_IndexFunc_4int4int_impl_IsBoard_f1_ls2 F) (loopAt 2 (bodyOf Try.f73)) (slices_IndexFunc_4int4int_impl_IsBoard_f1_st2 s0 t71 t82) k = slices_IndexFunc_4int4int_impl_IsBoard_f1_s2 F s0 t71 R t82 (fun s => k (.norm (slices_IndexFunc_4int4int_impl_IsBoard_f1_st2 s0 t71 s))) (fun x => (slices_IndexFunc_4int4int_impl_IsBoard_f1_o2 s0 t71 x).run k) := by kernel_rfl
theorem slices_IndexFunc_4int4int_impl_IsBoard_f1_iter2 (F : Nat) (s0 : List (List Int)) (t71 : Int) {R : Type} (k : Out → Option R) : ∀ (n : Nat) (t82 : Int), iterS tt (slices_IndexFunc_4int4int_impl_IsBoard_f1_tab F) (slices_IndexFunc_4int4int_impl_IsBoard_f1_LS0 F) 70 (slices_IndexFunc_4int4int_impl_IsBoard_f1_ls2 F) (loopAt 2 (bodyOf Try.f73)) n (slices_IndexFunc_4int4int_impl_IsBoard_f1_st2 s0 t71 t82) k = loopC (slices_IndexFunc_4int4int_impl_IsBoard_f1_s2 F s0 t71) n t82 (fun x => (slices_IndexFunc_4int4int_impl_IsBoard_f1_o2 s0 t71 x).run k)
  | 0, t82 => rfl
  | n + 1, t82 => (iterS_succ tt (slices_IndexFunc_4int4int_impl_IsBoard_f1_tab F) (slices_IndexFunc_4int4int_impl_IsBoard_f1_LS0 F) 70 (slices_IndexFunc_4int4int_impl_IsBoard_f1_ls2 F) (loopAt 2 (bodyOf Try.f73)) n (slices_IndexFunc_4int4int_impl_IsBoard_f1_st2 s0 t71 t82) k).trans ((slices_IndexFunc_4int4int_impl_IsBoard_f1_step2 F s0 t71 t82 (nextK (iterS tt (slices_IndexFunc_4int4int_impl_IsBoard_f1_tab F) (slices_IndexFunc_4int4int_impl_IsBoard_f1_LS0 F) 70 (slices_IndexFunc_4int4int_impl_IsBoard_f1_ls2 F) (loopAt 2 (bodyOf Try.f73)) n) k)).trans (congrArg (fun kn => slices_IndexFunc_4int4int_impl_IsBoard_f1_s2 F s0 t71 R t82 kn _) (funext (fun t82 => slices_IndexFunc_4int4int_impl_IsBoard_f1_iter2 F s0 t71 k n t82))))
theorem slices_IndexFunc_4int4int_impl_IsBoard_f1_lok2 (F : Nat) : LoopOK Try.prog (loopAt 2 (bodyOf Try.f73)) (slices_IndexFunc_4int4int_impl_IsBoard_f1_ls2 F) := by
  refine loopOK_of mixed ttok deep (slices_IndexFunc_4int4int_impl_IsBoard_f1_tabok F) (loopsOK_at (slices_IndexFunc_4int4int_impl_IsBoard_f1_lsok0 F) 2) (fuel := 70) fun R vals mem np killed k x h => ?_
  simp only [slices_IndexFunc_4int4int_impl_IsBoard_f1_ls2] at h
  split at h
  · rename_i s0 t71 t82
    simp only [GT.run] at h
    have hc := (cond_noneL h).1
    replace h := (cond_noneL h).2
    refine ⟨F, (slices_IndexFunc_4int4int_impl_IsBoard_f1_iter2 F s0 t71 k F t82).trans ((loopC_use (slices_IndexFunc_4int4int_impl_IsBoard_f1_s2_nat F s0 t71) hc _).trans h)⟩
  · simp only [GT.run] at h
    cases h
noncomputable def slices_IndexFunc_4int4int_impl_IsBoard_f1_LS1 (F : Nat) : LT := (2, slices_IndexFunc_4int4int_impl_IsBoard_f1_ls2 F) :: slices_IndexFunc_4int4int_impl_IsBoard_f1_LS0 F
theorem slices_IndexFunc_4int4int_impl_IsBoard_f1_lsok1 (F : Nat) : LoopsOK Try.prog (slices_IndexFunc_4int4int_impl_IsBoard_f1_LS1 F) (bodyOf Try.f73) := loopsOK_cons slices_IndexFunc_4int4int_impl_IsBoard_f1_keys (slices_IndexFunc_4int4int_impl_IsBoard_f1_lok2 F) (slices_IndexFunc_4int4int_impl_IsBoard_f1_lsok0 F)
theorem slices_IndexFunc_4int4int_impl_IsBoard_f1_run (F : Nat) (s0 : List (List Int)) : runS tt (slices_IndexFunc_4int4int_impl_IsBoard_f1_tab F) (slices_IndexFunc_4int4int_impl_IsBoard_f1_LS1 F) [] [] Try.f73 (bodyOf Try.f73) 70 [(.rr 4 s0), (.fn 56 [] [])] [] = slices_IndexFunc_4int4int_impl_IsBoard_f1_c _ F s0 (fun r => some ⟨(.int .i64 r), [], []⟩) := by kernel_rfl
def slices_IndexFunc_4int4int_impl_IsBoard_f1_ent (F : Nat) : Ent := ⟨[], .quiet, fun args mem => match args, mem with
  | [(.rr 4 s0), (.fn 56 [] [])], [] => some ((slices_IndexFunc_4int4int_impl_IsBoard_f1_p F s0).isSome, ⟨(.int .i64 ((slices_IndexFunc_4int4int_impl_IsBoard_f1_p F s0).getD default)), [], []⟩)
  | _, _ => none⟩
theorem slices_IndexFunc_4int4int_impl_IsBoard_f1_fok : FunOK Try.prog 73 := funOK Try.func73 (by kernel_rfl) rfl
theorem slices_IndexFunc_4int4int_impl_IsBoard_f1_meets (F : Nat) : Meets Try.prog 73 (slices_IndexFunc_4int4int_impl_IsBoard_f1_ent F) := by
  refine meets_of_runS mixed ttok deep (slices_IndexFunc_4int4int_impl_IsBoard_f1_tabok F) Try.func73 (body_some rfl) (slices_IndexFunc_4int4int_impl_IsBoard_f1_lsok1 F) fun args mem hfit ret h => ?_
  clear hfit
  simp only [slices_IndexFunc_4int4int_impl_IsBoard_f1_ent] at h
  split at h
  · rename_i s0
    simp only [Option.some.injEq, Prod.mk.injEq] at h
    obtain ⟨hc, rfl⟩ := h
    exact ⟨[], [], 70, _, (slices_IndexFunc_4int4int_impl_IsBoard_f1_run F s0).trans ((slices_IndexFunc_4int4int_impl_IsBoard_f1_cp _ F s0 _).trans (bind_use hc _)), rfl, rfl, rfl⟩
  · cases h

/-! slices.ContainsFunc[[][4]int,[4]int] -/
noncomputable def slices_ContainsFunc_4int4int_impl_IsBoard_f1_tab (F : Nat) : Tab := [(73, (slices_IndexFunc_4int4int_impl_IsBoard_f1_ent F))]
theorem slices_ContainsFunc_4int4int_impl_IsBoard_f1_tabok (F : Nat) : TabOK Try.prog (slices_ContainsFunc_4int4int_impl_IsBoard_f1_tab F) := (tab_cons (slices_IndexFunc_4int4int_impl_IsBoard_f1_meets F) slices_IndexFunc_4int4int_impl_IsBoard_f1_fok tab_nil)
noncomputable def slices_ContainsFunc_4int4int_impl_IsBoard_f1_LS0 (F : Nat) : LT := []
theorem slices_ContainsFunc_4int4int_impl_IsBoard_f1_lsok0 (F : Nat) : LoopsOK Try.prog (slices_ContainsFunc_4int4int_impl_IsBoard_f1_LS0 F) (bodyOf Try.f55) := loopsOK_nil
theorem slices_ContainsFunc_4int4int_impl_IsBoard_f1_run (F : Nat) (s0 : List (List Int)) : runS tt (slices_ContainsFunc_4int4int_impl_IsBoard_f1_tab F) (slices_ContainsFunc_4int4int_impl_IsBoard_f1_LS0 F) [] [] Try.f55 (bodyOf Try.f55) 70 [(.rr 4 s0), (.fn 56 [] [])] [] = slices_ContainsFunc_4int4int_impl_IsBoard_f1_c _ F s0 (fun r => some ⟨(.bool r), [], []⟩) := by kernel_rfl
def slices_ContainsFunc_4int4int_impl_IsBoard_f1_ent (F : Nat) : Ent := ⟨[], .quiet, fun args mem => match args, mem with
  | [(.rr 4 s0), (.fn 56 [] [])], [] => some ((slices_ContainsFunc_4int4int_impl_IsBoard_f1_p F s0).isSome, ⟨(.bool ((slices_ContainsFunc_4int4int_impl_IsBoard_f1_p F s0).getD default)), [], []⟩)
  | _, _ => none⟩
theorem slices_ContainsFunc_4int4int_impl_IsBoard_f1_fok : FunOK Try.prog 55 := funOK Try.func55 (by kernel_rfl) rfl
theorem slices_ContainsFunc_4int4int_impl_IsBoard_f1_meets (F : Nat) : Meets Try.prog 55 (slices_ContainsFunc_4int4int_impl_IsBoard_f1_ent F) := by
  refine meets_of_runS mixed ttok deep (slices_ContainsFunc_4int4int_impl_IsBoard_f1_tabok F) Try.func55 (body_some rfl) (slices_ContainsFunc_4int4int_impl_IsBoard_f1_lsok0 F) fun args mem hfit ret h => ?_
  clear hfit
  simp only [slices_ContainsFunc_4int4int_impl_IsBoard_f1_ent] at h
  split at h
  · rename_i s0
    simp only [Option.some.injEq, Prod.mk.injEq] at h
    obtain ⟨hc, rfl⟩ := h
    exact ⟨[], [], 70, _, (slices_ContainsFunc_4int4int_impl_IsBoard_f1_run F s0).trans ((slices_ContainsFunc_4int4int_impl_IsBoard_f1_cp _ F s0 _).trans (bind_use hc _)), rfl, rfl, rfl⟩
  · cases h

/-! loop.example/g01194/impl.IsBoard -/
noncomputable def impl_IsBoard_tab (F : Nat) : Tab := [(55, (slices_ContainsFunc_4int4int_impl_IsBoard_f1_ent F))]
theorem impl_IsBoard_tabok (F : Nat) : TabOK Try.prog (impl_IsBoard_tab F) := (tab_cons (slices_ContainsFunc_4int4int_impl_IsBoard_f1_meets F) slices_ContainsFunc_4int4int_impl_IsBoard_f1_fok tab_nil)
noncomputable def impl_IsBoard_LS0 (F : Nat) : LT := []
theorem impl_IsBoard_lsok0 (F : Nat) : LoopsOK Try.prog (impl_IsBoard_LS0 F) (bodyOf Try.f33) := loopsOK_nil
theorem impl_IsBoard_run (F : Nat) (b0 : List Int) : runS tt (impl_IsBoard_tab F) (impl_IsBoard_LS0 F) [] [] Try.f33 (bodyOf Try.f33) 70 [(.ints 16 b0)] [] = impl_IsBoard_c _ F b0 (fun r => some ⟨(.bool r), [], []⟩) := by kernel_rfl
def impl_IsBoard_ent (F : Nat) : Ent := ⟨[], .quiet, fun args mem => match args, mem with
  | [(.ints 16 b0)], [] => some ((impl_IsBoard_p F b0).isSome, ⟨(.bool ((impl_IsBoard_p F b0).getD default)), [], []⟩)
  | _, _ => none⟩
theorem impl_IsBoard_fok : FunOK Try.prog 33 := funOK Try.func33 (by kernel_rfl) rfl
theorem impl_IsBoard_meets (F : Nat) : Meets Try.prog 33 (impl_IsBoard_ent F) := by
  refine meets_of_runS mixed ttok deep (impl_IsBoard_tabok F) Try.func33 (body_some rfl) (impl_IsBoard_lsok0 F) fun args mem hfit ret h => ?_
  clear hfit
  simp only [impl_IsBoard_ent] at h
  split at h
  · rename_i b0
    simp only [Option.some.injEq, Prod.mk.injEq] at h
    obtain ⟨hc, rfl⟩ := h
    exact ⟨[], [], 70, _, (impl_IsBoard_run F b0).trans ((impl_IsBoard_cp _ F b0 _).trans (bind_use hc _)), rfl, rfl, rfl⟩
  · cases h

/-! (loop.example/g01194/impl.Board).sure -/
noncomputable def impl_Board_sure_n0_tab (F : Nat) : Tab := []
theorem impl_Board_sure_n0_tabok (F : Nat) : TabOK Try.prog (impl_Board_sure_n0_tab F) := tab_nil
noncomputable def impl_Board_sure_n0_LS0 (F : Nat) : LT := []
theorem impl_Board_sure_n0_lsok0 (F : Nat) : LoopsOK Try.prog (impl_Board_sure_n0_LS0 F) (bodyOf Try.f35) := loopsOK_nil
theorem impl_Board_sure_n0_run (F : Nat) (b0 : List Int) : runS tt (impl_Board_sure_n0_tab F) (impl_Board_sure_n0_LS0 F) [] [] Try.f35 (bodyOf Try.f35) 70 [(.ints 16 b0), (.int .i64 (0 : Int))] [] = impl_Board_sure_n0_c _ b0 (fun r => some ⟨(.int .i64 (0 : Int)), [], []⟩) := by kernel_rfl
def impl_Board_sure_n0_ent (F : Nat) : Ent := ⟨[], .quiet, fun args mem => match args, mem with
  | [(.ints 16 b0), (.int .i64 q_n1)], [] => bif (q_n1 == (0 : Int)) then some (true, ⟨(.int .i64 (0 : Int)), [], []⟩) else none
  | _, _ => none⟩
theorem impl_Board_sure_n0_fok : FunOK Try.prog 35 := funOK Try.func35 (by kernel_rfl) rfl
theorem impl_Board_sure_n0_meets (F : Nat) : Meets Try.prog 35 (impl_Board_sure_n0_ent F) := by
  refine meets_of_runS mixed ttok deep (impl_Board_sure_n0_tabok F) Try.func35 (body_some rfl) (impl_Board_sure_n0_lsok0 F) fun args mem hfit ret h => ?_
  clear hfit
  simp only [impl_Board_sure_n0_ent] at h
  split at h
  · rename_i b0 q_n1
    have hg0 := (cond_noneL h).1
    replace h := (cond_noneL h).2
    obtain rfl := beq_int hg0
    simp only [Option.some.injEq, Prod.mk.injEq] at h
    obtain ⟨hc, rfl⟩ := h
    exact ⟨[], [], 70, _, (impl_Board_sure_n0_run F b0).trans (impl_Board_sure_n0_cv _ b0 _), rfl, rfl, rfl⟩
  · cases h

/-! loop.example/g01194/impl.lineCell -/
noncomputable def impl_lineCell_tab (F : Nat) : Tab := []
theorem impl_lineCell_tabok (F : Nat) : TabOK Try.prog (impl_lineCell_tab F) := tab_nil
noncomputable def impl_lineCell_LS0 (F : Nat) : LT := []
theorem impl_lineCell_lsok0 (F : Nat) : LoopsOK Try.prog (impl_lineCell_LS0 F) (bodyOf Try.f85) := loopsOK_nil
theorem impl_lineCell_run (F : Nat) (direction0 : Int) (i1 : Int) (k2 : Int) : runS tt (impl_lineCell_tab F) (impl_lineCell_LS0 F) [] [] Try.f85 (bodyOf Try.f85) 70 [(.int .i64 direction0), (.int .i64 i1), (.int .i64 k2)] [] = impl_lineCell_c _ direction0 i1 k2 (fun r => some ⟨(.ints 2 r), [], []⟩) := by kernel_rfl
def impl_lineCell_ent (F : Nat) : Ent := ⟨[], .quiet, fun args mem => match args, mem with
  | [(.int .i64 direction0), (.int .i64 i1), (.int .i64 k2)], [] => some (true, ⟨(.ints 2 (impl_lineCell_v direction0 i1 k2)), [], []⟩)
  | _, _ => none⟩
theorem impl_lineCell_fok : FunOK Try.prog 85 := funOK Try.func85 (by kernel_rfl) rfl
theorem impl_lineCell_meets (F : Nat) : Meets Try.prog 85 (impl_lineCell_ent F) := by
  refine meets_of_runS mixed ttok deep (impl_lineCell_tabok F) Try.func85 (body_some rfl) (impl_lineCell_lsok0 F) fun args mem hfit ret h => ?_
  clear hfit
  simp only [impl_lineCell_ent] at h
  split at h
  · rename_i direction0 i1 k2
    simp only [Option.some.injEq, Prod.mk.injEq] at h
    obtain ⟨hc, rfl⟩ := h
    exact ⟨[], [], 70, _, (impl_lineCell_run F direction0 i1 k2).trans (impl_lineCell_cv _ direction0 i1 k2 _), rfl, rfl, rfl⟩
  · cases h

/-! (*loop.example/g01194/impl.Board).at -/
noncomputable def impl_Board_at_tab (F : Nat) : Tab := []
theorem impl_Board_at_tabok (F : Nat) : TabOK Try.prog (impl_Board_at_tab F) := tab_nil
noncomputable def impl_Board_at_LS0 (F : Nat) : LT := []
theorem impl_Board_at_lsok0 (F : Nat) : LoopsOK Try.prog (impl_Board_at_LS0 F) (bodyOf Try.f84) := loopsOK_nil
theorem impl_Board_at_run (F : Nat) (cell3 : List Int) (b4 : List Int) : runS tt (impl_Board_at_tab F) (impl_Board_at_LS0 F) [] [] Try.f84 (bodyOf Try.f84) 70 [(.ptr 0 0 0 16), (.ints 2 cell3)] [(.var 16 (.ri .i64 b4))] = impl_Board_at_c _ cell3 b4 (fun r => some ⟨(.ptr 0 0 r 1), [(.var 16 (.ri .i64 b4))], []⟩) := by kernel_rfl
def impl_Board_at_ent (F : Nat) : Ent := ⟨[], .quiet, fun args mem => match args, mem with
  | [(.ptr 0 0 0 16), (.ints 2 cell3)], [(.var 16 (.ri .i64 b4))] => some ((impl_Board_at_p cell3 b4).isSome, ⟨(.ptr 0 0 ((impl_Board_at_p cell3 b4).getD default) 1), [], []⟩)
  | _, _ => none⟩
theorem impl_Board_at_fok : FunOK Try.prog 84 := funOK Try.func84 (by kernel_rfl) rfl
theorem impl_Board_at_meets (F : Nat) : Meets Try.prog 84 (impl_Board_at_ent F) := by
  refine meets_of_runS mixed ttok deep (impl_Board_at_tabok F) Try.func84 (body_some rfl) (impl_Board_at_lsok0 F) fun args mem hfit ret h => ?_
  clear hfit
  simp only [impl_Board_at_ent] at h
  split at h
  · rename_i cell3 b4
    simp only [Option.some.injEq, Prod.mk.injEq] at h
    obtain ⟨hc, rfl⟩ := h
    exact ⟨[], [], 70, _, (impl_Board_at_run F cell3 b4).trans ((impl_Board_at_cp _ cell3 b4 _).trans (bind_use hc _)), rfl, rfl, rfl⟩
  · cases h

/-! (loop.example/g01194/impl.Board).line -/
noncomputable def impl_Board_line_tab (F : Nat) : Tab := [(85, (impl_lineCell_ent F)), (84, (impl_Board_at_ent F))]
theorem impl_Board_line_tabok (F : Nat) : TabOK Try.prog (impl_Board_line_tab F) := (tab_cons (impl_lineCell_meets F) impl_lineCell_fok (tab_cons (impl_Board_at_meets F) impl_Board_at_fok tab_nil))
noncomputable def impl_Board_line_LS0 (F : Nat) : LT := []
theorem impl_Board_line_lsok0 (F : Nat) : LoopsOK Try.prog (impl_Board_line_LS0 F) (bodyOf Try.f76) := loopsOK_nil
theorem impl_Board_line_run (F : Nat) (b0 : List Int) (direction1 : Int) (i2 : Int) : runS tt (impl_Board_line_tab F) (impl_Board_line_LS0 F) [] [] Try.f76 (bodyOf Try.f76) 70 [(.ints 16 b0), (.int .i64 direction1), (.int .i64 i2)] [] = impl_Board_line_c _ b0 direction1 i2 (fun r => some ⟨(.ints 4 r), [], []⟩) := by kernel_rfl
def impl_Board_line_ent (F : Nat) : Ent := ⟨[], .quiet, fun args mem => match args, mem with
  | [(.ints 16 b0), (.int .i64 direction1), (.int .i64 i2)], [] => some ((impl_Board_line_p b0 direction1 i2).isSome, ⟨(.ints 4 ((impl_Board_line_p b0 direction1 i2).getD default)), [], []⟩)
  | _, _ => none⟩
theorem impl_Board_line_fok : FunOK Try.prog 76 := funOK Try.func76 (by kernel_rfl) rfl
theorem impl_Board_line_meets (F : Nat) : Meets Try.prog 76 (impl_Board_line_ent F) := by
  refine meets_of_runS mixed ttok deep (impl_Board_line_tabok F) Try.func76 (body_some rfl) (impl_Board_line_lsok0 F) fun args mem hfit ret h => ?_
  clear hfit
  simp only [impl_Board_line_ent] at h
  split at h
  · rename_i b0 direction1 i2
    simp only [Option.some.injEq, Prod.mk.injEq] at h
    obtain ⟨hc, rfl⟩ := h
    exact ⟨[], [], 70, _, (impl_Board_line_run F b0 direction1 i2).trans ((impl_Board_line_cp _ b0 direction1 i2 _).trans (bind_use hc _)), rfl, rfl, rfl⟩
  · cases h

/-! slices.Clone[[]int,int] -/
def slices_Clone_intint_ent (F : Nat) : Ent := ⟨[], .fresh, fun args mem => match args, mem with
  | [(.ri .i64 xs)], [] => some (fits xs.length 8, ⟨.sl 0 0 xs.length, [.vec 3 (.ri .i64 xs)], []⟩)
  | _, _ => none⟩
theorem slices_Clone_intint_fok : FunOK Try.prog 89 := funOK Try.func89 (by kernel_rfl) rfl
theorem slices_Clone_intint_meets (F : Nat) : Meets Try.prog 89 (slices_Clone_intint_ent F) := by
  have hb : Try.f89.body = some (.seq _ (.seq (.seq (.region _ #[_, _] false) _) _)) := rfl
  refine meets_nil (fuel := 70) (fn := Try.f89) mixed ttok deep tab_nil Try.func89 hb loopsOK_nil rfl rfl rfl rfl rfl rfl Try.underlying42 fun args mem hfit ret hg => ?_
  clear hfit
  simp only [slices_Clone_intint_ent] at hg
  split at hg
  · rename_i xs
    simp only [Option.some.injEq, Prod.mk.injEq] at hg
    obtain ⟨hc, rfl⟩ := hg
    refine ⟨⟨[(.ri .i64 xs), .undef, .z0, .undef, .undef, .undef, .undef, .undef], [], 0, []⟩, fun R k => by kernel_rfl, rfl, Nat.le_of_ble_eq_true rfl, fun b hb => ?_⟩
    cases b with
    | true =>
      obtain rfl : xs = [] := List.eq_nil_of_length_eq_zero (hb rfl)
      exact ⟨[⟨2, 3, (.ri .i64 [])⟩], [], _, (by kernel_rfl : _ = some ⟨.sl 0 0 0, [.vec 3 (.ri .i64 [])], []⟩), rfl, rfl, rfl⟩
    | false =>
      refine ⟨[], [], ⟨.sl 0 0 xs.length, [.vec 3 (.ri .i64 xs)], []⟩, Eq.trans (by kernel_rfl : _ = bif fits xs.length 8 then some (⟨.sl 0 0 xs.length, [.vec 3 (.ri .i64 xs)], []⟩ : Ret) else none) ?_, rfl, rfl, rfl⟩
      rw [hc]; rfl
  · cases hg

/-! loop.example/g01194/impl.tiles$1 -/
noncomputable def impl_tiles_f1_tab (F : Nat) : Tab := []
theorem impl_tiles_f1_tabok (F : Nat) : TabOK Try.prog (impl_tiles_f1_tab F) := tab_nil
noncomputable def impl_tiles_f1_LS0 (F : Nat) : LT := []
theorem impl_tiles_f1_lsok0 (F : Nat) : LoopsOK Try.prog (impl_tiles_f1_LS0 F) (bodyOf Try.f90) := loopsOK_nil
theorem impl_tiles_f1_run (F : Nat) (n0 : Int) : runS tt (impl_tiles_f1_tab F) (impl_tiles_f1_LS0 F) [] [] Try.f90 (bodyOf Try.f90) 70 [(.int .i64 n0)] [] = impl_tiles_f1_c _ n0 (fun r => some ⟨(.bool r), [], []⟩) := by kernel_rfl
def impl_tiles_f1_ent (F : Nat) : Ent := ⟨[], .quiet, fun args mem => match args, mem with
  | [(.int .i64 n0)], [] => some (true, ⟨(.bool (impl_tiles_f1_v n0)), [], []⟩)
  | _, _ => none⟩
theorem impl_tiles_f1_fok : FunOK Try.prog 90 := funOK Try.func90 (by kernel_rfl) rfl
theorem impl_tiles_f1_meets (F : Nat) : Meets Try.prog 90 (impl_tiles_f1_ent F) := by
  refine meets_of_runS mixed ttok deep (impl_tiles_f1_tabok F) Try.func90 (body_some rfl) (impl_tiles_f1_lsok0 F) fun args mem hfit ret h => ?_
  clear hfit
  simp only [impl_tiles_f1_ent] at h
  split at h
  · rename_i n0
    simp only [Option.some.injEq, Prod.mk.injEq] at h
    obtain ⟨hc, rfl⟩ := h
    exact ⟨[], [], 70, _, (impl_tiles_f1_run F n0).trans (impl_tiles_f1_cv _ n0 _), rfl, rfl, rfl⟩
  · cases h
end Go.Proofs.Ytidmlibanopfhaa
