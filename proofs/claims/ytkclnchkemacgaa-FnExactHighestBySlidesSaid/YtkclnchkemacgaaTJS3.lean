/-
Pure functions and what the code of them does, by program; without conditions.
-/
import Derived.Test.YtkclnchkemacgaaTJP3
import Derived.Test.YtkclnchkemacgaaTJS2
namespace Go.Proofs.Ytkclnchkemacgaa
open Go Go.Lv Go.Lv.P Go.Proofs
set_option linter.unusedVariables false
set_option linter.unusedSimpArgs false
set_option maxRecDepth 100000
/-! loop.example/g01194/spec.HighestBySlides -/
noncomputable def spec_HighestBySlides_tab (F : Nat) : Tab := [(19, (spec_l2Board_ent F)), (24, (spec_l5Reach_ent F)), (25, (spec_l5Highest_ent F)), (21, (spec_l1Most_ent F))]
theorem spec_HighestBySlides_tabok (F : Nat) : TabOK Try.prog (spec_HighestBySlides_tab F) := (tab_cons (spec_l2Board_meets F) spec_l2Board_fok (tab_cons (spec_l5Reach_meets F) spec_l5Reach_fok (tab_cons (spec_l5Highest_meets F) spec_l5Highest_fok (tab_cons (spec_l1Most_meets F) spec_l1Most_fok tab_nil))))
noncomputable def spec_HighestBySlides_LS0 (F : Nat) : LT := []
theorem spec_HighestBySlides_lsok0 (F : Nat) : LoopsOK Try.prog (spec_HighestBySlides_LS0 F) (bodyOf Try.f10) := loopsOK_nil
theorem spec_HighestBySlides_keys : keysOK (bodyOf Try.f10) = true := by kernel_rfl
def spec_HighestBySlides_st5 (all1 : List (List Int)) (best0 : Int) (i2 : Int) : St := ⟨expand 26 0 [4, 5, 6] [(.int .i64 best0), (.rr 16 all1), (.int .i64 i2)], [], 0, []⟩
def spec_HighestBySlides_o5 (all1 : List (List Int)) (x : Int) : GT := (.out (.exit 0 ⟨expand 26 0 [4] [(.int .i64 x)], [], 0, []⟩))
def spec_HighestBySlides_ls5 (F : Nat) : LoopS := ⟨26, [4, 5, 6], [], [4], [], [2, 3], [], [], fun vals mem np killed => match vals, mem, np, killed with
  | [(.int .i64 best0), (.rr 16 all1), (.int .i64 i2)], [], 0, [] => .br (spec_HighestBySlides_l5 F all1 best0 i2).isSome (spec_HighestBySlides_o5 all1 ((spec_HighestBySlides_l5 F all1 best0 i2).getD default)) .fail
  | _, _, _, _ => .fail⟩
theorem spec_HighestBySlides_step5 (F : Nat) (all1 : List (List Int)) (best0 : Int) (i2 : Int) {R : Type} (k : Out → Option R) : stepS tt (spec_HighestBySlides_tab F) (spec_HighestBySlides_LS0 F) 70 (spec_HighestBySlides_ls5 F) (loopAt 5 (bodyOf Try.f10)) (spec_HighestBySlides_st5 all1 best0 i2) k = spec_HighestBySlides_s5 F all1 R (best0, i2) (fun s => k (.norm (spec_HighestBySlides_st5 all1 s.1 s.2))) (fun x => (spec_HighestBySlides_o5 all1 x).run k) := by kernel_rfl
theorem spec_HighestBySlides_iter5 (F : Nat) (all1 : List (List Int)) {R : Type} (k : Out → Option R) : ∀ (n : Nat) (best0 : Int) (i2 : Int), iterS tt (spec_HighestBySlides_tab F) (spec_HighestBySlides_LS0 F) 70 (spec_HighestBySlides_ls5 F) (loopAt 5 (bodyOf Try.f10)) n (spec_HighestBySlides_st5 all1 best0 i2) k = loopC (spec_HighestBySlides_s5 F all1) n (best0, i2) (fun x => (spec_HighestBySlides_o5 all1 x).run k)
  | 0, best0, i2 => rfl
  | n + 1, best0, i2 => (iterS_succ tt (spec_HighestBySlides_tab F) (spec_HighestBySlides_LS0 F) 70 (spec_HighestBySlides_ls5 F) (loopAt 5 (bodyOf Try.f10)) n (spec_HighestBySlides_st5 all1 best0 i2) k).trans ((spec_HighestBySlides_step5 F all1 best0 i2 (nextK (iterS tt (spec_HighestBySlides_tab F) (spec_HighestBySlides_LS0 F) 70 (spec_HighestBySlides_ls5 F) (loopAt 5 (bodyOf Try.f10)) n) k)).trans (congrArg (fun kn => spec_HighestBySlides_s5 F all1 R (best0, i2) kn _) (funext (fun ⟨best0, i2⟩ => spec_HighestBySlides_iter5 F all1 k n best0 i2))))
theorem spec_HighestBySlides_lok5 (F : Nat) : LoopOK Try.prog (loopAt 5 (bodyOf Try.f10)) (spec_HighestBySlides_ls5 F) := by
  refine loopOK_of mixed ttok deep (spec_HighestBySlides_tabok F) (loopsOK_at (spec_HighestBySlides_lsok0 F) 5) (fuel := 70) fun R vals mem np killed k x h => ?_
  simp only [spec_HighestBySlides_ls5] at h
  split at h
  · rename_i best0 all1 i2
    simp only [GT.run] at h
    have hc := (cond_noneL h).1
    replace h := (cond_noneL h).2
    refine ⟨F, (spec_HighestBySlides_iter5 F all1 k F best0 i2).trans ((loopC_use (spec_HighestBySlides_s5_nat F all1) hc _).trans h)⟩
  · simp only [GT.run] at h
    cases h
noncomputable def spec_HighestBySlides_LS1 (F : Nat) : LT := (5, spec_HighestBySlides_ls5 F) :: spec_HighestBySlides_LS0 F
theorem spec_HighestBySlides_lsok1 (F : Nat) : LoopsOK Try.prog (spec_HighestBySlides_LS1 F) (bodyOf Try.f10) := loopsOK_cons spec_HighestBySlides_keys (spec_HighestBySlides_lok5 F) (spec_HighestBySlides_lsok0 F)
theorem spec_HighestBySlides_run (F : Nat) (b0 : List Int) : runS tt (spec_HighestBySlides_tab F) (spec_HighestBySlides_LS1 F) [] [] Try.f10 (bodyOf Try.f10) 70 [(.ints 16 b0)] [] = spec_HighestBySlides_c _ F b0 (fun r => some ⟨(.tup [(.int .i64 r.1), (.bool r.2)]), [], []⟩) := by kernel_rfl
def spec_HighestBySlides_ent (F : Nat) : Ent := ⟨[], .quiet, fun args mem => match args, mem with
  | [(.ints 16 b0)], [] => some ((spec_HighestBySlides_p F b0).isSome, ⟨(.tup [(.int .i64 ((spec_HighestBySlides_p F b0).getD default).1), (.bool ((spec_HighestBySlides_p F b0).getD default).2)]), [], []⟩)
  | _, _ => none⟩
theorem spec_HighestBySlides_fok : FunOK Try.prog 10 := funOK Try.func10 (by kernel_rfl) rfl
theorem spec_HighestBySlides_meets (F : Nat) : Meets Try.prog 10 (spec_HighestBySlides_ent F) := by
  refine meets_of_runS mixed ttok deep (spec_HighestBySlides_tabok F) Try.func10 (body_some rfl) (spec_HighestBySlides_lsok1 F) fun args mem hfit ret h => ?_
  clear hfit
  simp only [spec_HighestBySlides_ent] at h
  split at h
  · rename_i b0
    simp only [Option.some.injEq, Prod.mk.injEq] at h
    obtain ⟨hc, rfl⟩ := h
    exact ⟨[], [], 70, _, (spec_HighestBySlides_run F b0).trans ((spec_HighestBySlides_cp _ F b0 _).trans (bind_use hc _)), rfl, rfl, rfl⟩
  · cases h

/-! (loop.example/g01194/impl.Board).highest -/
noncomputable def impl_Board_highest_tab (F : Nat) : Tab := [(46, (impl_cells_ent F)), (47, (impl_Board_at_ent F))]
theorem impl_Board_highest_tabok (F : Nat) : TabOK Try.prog (impl_Board_highest_tab F) := (tab_cons (impl_cells_meets F) impl_cells_fok (tab_cons (impl_Board_at_meets F) impl_Board_at_fok tab_nil))
noncomputable def impl_Board_highest_LS0 (F : Nat) : LT := []
theorem impl_Board_highest_lsok0 (F : Nat) : LoopsOK Try.prog (impl_Board_highest_LS0 F) (bodyOf Try.f28) := loopsOK_nil
theorem impl_Board_highest_keys : keysOK (bodyOf Try.f28) = true := by kernel_rfl
def impl_Board_highest_st3 (b14 : List Int) (most6 : Int) (t1213 : Int) (at16 : List Int) : St := ⟨expand 28 0 [1, 3, 4, 5, 10, 11, 12] [(.ptr 0 0 0 16), (.ptr 1 0 0 2), (.int .i64 most6), (.ptr 2 0 0 2), (.sl 3 0 16), (.int .i64 (16 : Int)), (.int .i64 t1213)], [(.var 16 (.ri .i64 b14)), (.var 2 (.ri .i64 [(0 : Int), (0 : Int)])), (.var 2 (.ri .i64 at16)), (.vec 49 (.rr 2 [[(0 : Int), (0 : Int)], [(0 : Int), (1 : Int)], [(0 : Int), (2 : Int)], [(0 : Int), (3 : Int)], [(1 : Int), (0 : Int)], [(1 : Int), (1 : Int)], [(1 : Int), (2 : Int)], [(1 : Int), (3 : Int)], [(2 : Int), (0 : Int)], [(2 : Int), (1 : Int)], [(2 : Int), (2 : Int)], [(2 : Int), (3 : Int)], [(3 : Int), (0 : Int)], [(3 : Int), (1 : Int)], [(3 : Int), (2 : Int)], [(3 : Int), (3 : Int)]]))], 0, []⟩
def impl_Board_highest_o3 (b14 : List Int) (x : Int × List Int) : GT := (.out (.exit 0 ⟨expand 28 0 [3, 4, 5] [(.ptr 0 0 0 2), (.int .i64 x.1), (.ptr 1 0 0 2)], [(.var 2 (.ri .i64 [(0 : Int), (0 : Int)])), (.var 2 (.ri .i64 x.2))], 0, []⟩))
def impl_Board_highest_ls3 (F : Nat) : LoopS := ⟨28, [1, 3, 4, 5, 10, 11, 12], [], [3, 4, 5], [], [2, 3], [], [], fun vals mem np killed => match vals, mem, np, killed with
  | [(.ptr 0 0 0 16), (.ptr 1 0 0 2), (.int .i64 most6), (.ptr 2 0 0 2), (.sl 3 0 q_t1011), (.int .i64 q_t1112), (.int .i64 t1213)], [(.var 16 (.ri .i64 b14)), (.var 2 (.ri .i64 q_t315)), (.var 2 (.ri .i64 at16)), (.vec 49 (.rr 2 q_t1017))], 0, [] => .br ((q_t1112 == (16 : Int)) && ((q_t315 == ([(0 : Int), (0 : Int)] : List Int)) && ((q_t1017 == ([[(0 : Int), (0 : Int)], [(0 : Int), (1 : Int)], [(0 : Int), (2 : Int)], [(0 : Int), (3 : Int)], [(1 : Int), (0 : Int)], [(1 : Int), (1 : Int)], [(1 : Int), (2 : Int)], [(1 : Int), (3 : Int)], [(2 : Int), (0 : Int)], [(2 : Int), (1 : Int)], [(2 : Int), (2 : Int)], [(2 : Int), (3 : Int)], [(3 : Int), (0 : Int)], [(3 : Int), (1 : Int)], [(3 : Int), (2 : Int)], [(3 : Int), (3 : Int)]] : List (List Int))) && ((Nat.beq q_t1011 16) && (impl_Board_highest_l3 F b14 most6 t1213 at16).isSome)))) (impl_Board_highest_o3 b14 ((impl_Board_highest_l3 F b14 most6 t1213 at16).getD default)) .fail
  | _, _, _, _ => .fail⟩
theorem impl_Board_highest_step3 (F : Nat) (b14 : List Int) (most6 : Int) (t1213 : Int) (at16 : List Int) {R : Type} (k : Out → Option R) : stepS tt (impl_Board_highest_tab F) (impl_Board_highest_LS0 F) 70 (impl_Board_highest_ls3 F) (loopAt 3 (bodyOf Try.f28)) (impl_Board_highest_st3 b14 most6 t1213 at16) k = impl_Board_highest_s3 F b14 R (most6, t1213, at16) (fun s => k (.norm (impl_Board_highest_st3 b14 s.1 s.2.1 s.2.2))) (fun x => (impl_Board_highest_o3 b14 x).run k) := by kernel_rfl
theorem impl_Board_highest_iter3 (F : Nat) (b14 : List Int) {R : Type} (k : Out → Option R) : ∀ (n : Nat) (most6 : Int) (t1213 : Int) (at16 : List Int), iterS tt (impl_Board_highest_tab F) (impl_Board_highest_LS0 F) 70 (impl_Board_highest_ls3 F) (loopAt 3 (bodyOf Try.f28)) n (impl_Board_highest_st3 b14 most6 t1213 at16) k = loopC (impl_Board_highest_s3 F b14) n (most6, t1213, at16) (fun x => (impl_Board_highest_o3 b14 x).run k)
  | 0, most6, t1213, at16 => rfl
  | n + 1, most6, t1213, at16 => (iterS_succ tt (impl_Board_highest_tab F) (impl_Board_highest_LS0 F) 70 (impl_Board_highest_ls3 F) (loopAt 3 (bodyOf Try.f28)) n (impl_Board_highest_st3 b14 most6 t1213 at16) k).trans ((impl_Board_highest_step3 F b14 most6 t1213 at16 (nextK (iterS tt (impl_Board_highest_tab F) (impl_Board_highest_LS0 F) 70 (impl_Board_highest_ls3 F) (loopAt 3 (bodyOf Try.f28)) n) k)).trans (congrArg (fun kn => impl_Board_highest_s3 F b14 R (most6, t1213, at16) kn _) (funext (fun ⟨most6, t1213, at16⟩ => impl_Board_highest_iter3 F b14 k n most6 t1213 at16))))
theorem impl_Board_highest_lok3 (F : Nat) : LoopOK Try.prog (loopAt 3 (bodyOf Try.f28)) (impl_Board_highest_ls3 F) := by
  refine loopOK_of mixed ttok deep (impl_Board_highest_tabok F) (loopsOK_at (impl_Board_highest_lsok0 F) 3) (fuel := 70) fun R vals mem np killed k x h => ?_
  simp only [impl_Board_highest_ls3] at h
  split at h
  · rename_i most6 q_t1011 q_t1112 t1213 b14 q_t315 at16 q_t1017
    simp only [GT.run] at h
    have hc := (cond_noneL h).1
    replace h := (cond_noneL h).2
    have hg := (and_split hc).1
    replace hc := (and_split hc).2
    obtain rfl := beq_int hg
    have hg := (and_split hc).1
    replace hc := (and_split hc).2
    obtain rfl := beq_li hg
    have hg := (and_split hc).1
    replace hc := (and_split hc).2
    obtain rfl := beq_lli hg
    have hg := (and_split hc).1
    replace hc := (and_split hc).2
    obtain rfl := nbeq_nat hg
    refine ⟨F, (impl_Board_highest_iter3 F b14 k F most6 t1213 at16).trans ((loopC_use (impl_Board_highest_s3_nat F b14) hc _).trans h)⟩
  · simp only [GT.run] at h
    cases h
noncomputable def impl_Board_highest_LS1 (F : Nat) : LT := (3, impl_Board_highest_ls3 F) :: impl_Board_highest_LS0 F
theorem impl_Board_highest_lsok1 (F : Nat) : LoopsOK Try.prog (impl_Board_highest_LS1 F) (bodyOf Try.f28) := loopsOK_cons impl_Board_highest_keys (impl_Board_highest_lok3 F) (impl_Board_highest_lsok0 F)
theorem impl_Board_highest_run (F : Nat) (b0 : List Int) : runS tt (impl_Board_highest_tab F) (impl_Board_highest_LS1 F) [] [] Try.f28 (bodyOf Try.f28) 70 [(.ints 16 b0)] [] = impl_Board_highest_c _ F b0 (fun r => some ⟨(.tup [(.int .i64 r.1), (.ints 2 r.2)]), [], []⟩) := by kernel_rfl
def impl_Board_highest_ent (F : Nat) : Ent := ⟨[], .quiet, fun args mem => match args, mem with
  | [(.ints 16 b0)], [] => some ((impl_Board_highest_p F b0).isSome, ⟨(.tup [(.int .i64 ((impl_Board_highest_p F b0).getD default).1), (.ints 2 ((impl_Board_highest_p F b0).getD default).2)]), [], []⟩)
  | _, _ => none⟩
theorem impl_Board_highest_fok : FunOK Try.prog 28 := funOK Try.func28 (by kernel_rfl) rfl
theorem impl_Board_highest_meets (F : Nat) : Meets Try.prog 28 (impl_Board_highest_ent F) := by
  refine meets_of_runS mixed ttok deep (impl_Board_highest_tabok F) Try.func28 (body_some rfl) (impl_Board_highest_lsok1 F) fun args mem hfit ret h => ?_
  clear hfit
  simp only [impl_Board_highest_ent] at h
  split at h
  · rename_i b0
    simp only [Option.some.injEq, Prod.mk.injEq] at h
    obtain ⟨hc, rfl⟩ := h
    exact ⟨[], [], 70, _, (impl_Board_highest_run F b0).trans ((impl_Board_highest_cp _ F b0 _).trans (bind_use hc _)), rfl, rfl, rfl⟩
  · cases h

/-! loop.example/g01194/impl.HighestBySlides -/
noncomputable def impl_HighestBySlides_tab (F : Nat) : Tab := [(26, (impl_IsBoard_ent F)), (27, (impl_Board_reach_ent F)), (28, (impl_Board_highest_ent F))]
theorem impl_HighestBySlides_tabok (F : Nat) : TabOK Try.prog (impl_HighestBySlides_tab F) := (tab_cons (impl_IsBoard_meets F) impl_IsBoard_fok (tab_cons (impl_Board_reach_meets F) impl_Board_reach_fok (tab_cons (impl_Board_highest_meets F) impl_Board_highest_fok tab_nil)))
noncomputable def impl_HighestBySlides_LS0 (F : Nat) : LT := []
theorem impl_HighestBySlides_lsok0 (F : Nat) : LoopsOK Try.prog (impl_HighestBySlides_LS0 F) (bodyOf Try.f11) := loopsOK_nil
theorem impl_HighestBySlides_keys : keysOK (bodyOf Try.f11) = true := by kernel_rfl
def impl_HighestBySlides_st6 (t203 : Int) (t195 : List (List Int)) (most0 : Int) (t214 : Int) : St := ⟨expand 35 0 [6, 19, 20, 21] [(.int .i64 most0), (.sl 0 0 (List.length t195)), (.int .i64 t203), (.int .i64 t214)], [(.vec 28 (.rr 16 t195))], 0, []⟩
def impl_HighestBySlides_o6 (t203 : Int) (t195 : List (List Int)) (x : Int) : GT := (.out (.exit 0 ⟨expand 35 0 [6] [(.int .i64 x)], [], 0, []⟩))
def impl_HighestBySlides_ls6 (F : Nat) : LoopS := ⟨35, [6, 19, 20, 21], [], [6], [], [2, 3], [], [], fun vals mem np killed => match vals, mem, np, killed with
  | [(.int .i64 most0), (.sl 0 0 q_t192), (.int .i64 t203), (.int .i64 t214)], [(.vec 28 (.rr 16 t195))], 0, [] => .br ((Nat.beq q_t192 (List.length t195)) && (impl_HighestBySlides_l6 F t203 t195 most0 t214).isSome) (impl_HighestBySlides_o6 t203 t195 ((impl_HighestBySlides_l6 F t203 t195 most0 t214).getD default)) .fail
  | _, _, _, _ => .fail⟩
theorem impl_HighestBySlides_step6 (F : Nat) (t203 : Int) (t195 : List (List Int)) (most0 : Int) (t214 : Int) {R : Type} (k : Out → Option R) : stepS tt (impl_HighestBySlides_tab F) (impl_HighestBySlides_LS0 F) 70 (impl_HighestBySlides_ls6 F) (loopAt 6 (bodyOf Try.f11)) (impl_HighestBySlides_st6 t203 t195 most0 t214) k = impl_HighestBySlides_s6 F t203 t195 R (most0, t214) (fun s => k (.norm (impl_HighestBySlides_st6 t203 t195 s.1 s.2))) (fun x => (impl_HighestBySlides_o6 t203 t195 x).run k) := by kernel_rfl
theorem impl_HighestBySlides_iter6 (F : Nat) (t203 : Int) (t195 : List (List Int)) {R : Type} (k : Out → Option R) : ∀ (n : Nat) (most0 : Int) (t214 : Int), iterS tt (impl_HighestBySlides_tab F) (impl_HighestBySlides_LS0 F) 70 (impl_HighestBySlides_ls6 F) (loopAt 6 (bodyOf Try.f11)) n (impl_HighestBySlides_st6 t203 t195 most0 t214) k = loopC (impl_HighestBySlides_s6 F t203 t195) n (most0, t214) (fun x => (impl_HighestBySlides_o6 t203 t195 x).run k)
  | 0, most0, t214 => rfl
  | n + 1, most0, t214 => (iterS_succ tt (impl_HighestBySlides_tab F) (impl_HighestBySlides_LS0 F) 70 (impl_HighestBySlides_ls6 F) (loopAt 6 (bodyOf Try.f11)) n (impl_HighestBySlides_st6 t203 t195 most0 t214) k).trans ((impl_HighestBySlides_step6 F t203 t195 most0 t214 (nextK (iterS tt (impl_HighestBySlides_tab F) (impl_HighestBySlides_LS0 F) 70 (impl_HighestBySlides_ls6 F) (loopAt 6 (bodyOf Try.f11)) n) k)).trans (congrArg (fun kn => impl_HighestBySlides_s6 F t203 t195 R (most0, t214) kn _) (funext (fun ⟨most0, t214⟩ => impl_HighestBySlides_iter6 F t203 t195 k n most0 t214))))
theorem impl_HighestBySlides_lok6 (F : Nat) : LoopOK Try.prog (loopAt 6 (bodyOf Try.f11)) (impl_HighestBySlides_ls6 F) := by
  refine loopOK_of mixed ttok deep (impl_HighestBySlides_tabok F) (loopsOK_at (impl_HighestBySlides_lsok0 F) 6) (fuel := 70) fun R vals mem np killed k x h => ?_
  simp only [impl_HighestBySlides_ls6] at h
  split at h
  · rename_i most0 q_t192 t203 t214 t195
    simp only [GT.run] at h
    have hc := (cond_noneL h).1
    replace h := (cond_noneL h).2
    have hg := (and_split hc).1
    replace hc := (and_split hc).2
    obtain rfl := nbeq_nat hg
    refine ⟨F, (impl_HighestBySlides_iter6 F t203 t195 k F most0 t214).trans ((loopC_use (impl_HighestBySlides_s6_nat F t203 t195) hc _).trans h)⟩
  · simp only [GT.run] at h
    cases h
noncomputable def impl_HighestBySlides_LS1 (F : Nat) : LT := (6, impl_HighestBySlides_ls6 F) :: impl_HighestBySlides_LS0 F
theorem impl_HighestBySlides_lsok1 (F : Nat) : LoopsOK Try.prog (impl_HighestBySlides_LS1 F) (bodyOf Try.f11) := loopsOK_cons impl_HighestBySlides_keys (impl_HighestBySlides_lok6 F) (impl_HighestBySlides_lsok0 F)
theorem impl_HighestBySlides_run (F : Nat) (b0 : List Int) : runS tt (impl_HighestBySlides_tab F) (impl_HighestBySlides_LS1 F) [] [] Try.f11 (bodyOf Try.f11) 70 [(.ints 16 b0)] [] = impl_HighestBySlides_c _ F b0 (fun r => some ⟨(.tup [(.int .i64 r.1), (.bool r.2)]), [], []⟩) := by kernel_rfl
def impl_HighestBySlides_ent (F : Nat) : Ent := ⟨[], .quiet, fun args mem => match args, mem with
  | [(.ints 16 b0)], [] => some ((impl_HighestBySlides_p F b0).isSome, ⟨(.tup [(.int .i64 ((impl_HighestBySlides_p F b0).getD default).1), (.bool ((impl_HighestBySlides_p F b0).getD default).2)]), [], []⟩)
  | _, _ => none⟩
theorem impl_HighestBySlides_fok : FunOK Try.prog 11 := funOK Try.func11 (by kernel_rfl) rfl
theorem impl_HighestBySlides_meets (F : Nat) : Meets Try.prog 11 (impl_HighestBySlides_ent F) := by
  refine meets_of_runS mixed ttok deep (impl_HighestBySlides_tabok F) Try.func11 (body_some rfl) (impl_HighestBySlides_lsok1 F) fun args mem hfit ret h => ?_
  clear hfit
  simp only [impl_HighestBySlides_ent] at h
  split at h
  · rename_i b0
    simp only [Option.some.injEq, Prod.mk.injEq] at h
    obtain ⟨hc, rfl⟩ := h
    exact ⟨[], [], 70, _, (impl_HighestBySlides_run F b0).trans ((impl_HighestBySlides_cp _ F b0 _).trans (bind_use hc _)), rfl, rfl, rfl⟩
  · cases h

/-! loop.example/g01194/laws.FnExactHighestBySlides -/
noncomputable def laws_FnExactHighestBySlides_tab (F : Nat) : Tab := [(8, (laws_toBoard_ent F)), (10, (spec_HighestBySlides_ent F)), (11, (impl_HighestBySlides_ent F))]
theorem laws_FnExactHighestBySlides_tabok (F : Nat) : TabOK Try.prog (laws_FnExactHighestBySlides_tab F) := (tab_cons (laws_toBoard_meets F) laws_toBoard_fok (tab_cons (spec_HighestBySlides_meets F) spec_HighestBySlides_fok (tab_cons (impl_HighestBySlides_meets F) impl_HighestBySlides_fok tab_nil)))
noncomputable def laws_FnExactHighestBySlides_LS0 (F : Nat) : LT := []
theorem laws_FnExactHighestBySlides_lsok0 (F : Nat) : LoopsOK Try.prog (laws_FnExactHighestBySlides_LS0 F) (bodyOf Try.f4) := loopsOK_nil
theorem laws_FnExactHighestBySlides_run (F : Nat) (aB0 : List Int) : runS tt (laws_FnExactHighestBySlides_tab F) (laws_FnExactHighestBySlides_LS0 F) [] [] Try.f4 (bodyOf Try.f4) 70 [(.ints 16 aB0)] [] = laws_FnExactHighestBySlides_c _ F aB0 (fun r => some ⟨(.bool r), [], []⟩) := by kernel_rfl
def laws_FnExactHighestBySlides_ent (F : Nat) : Ent := ⟨[], .quiet, fun args mem => match args, mem with
  | [(.ints 16 aB0)], [] => some ((laws_FnExactHighestBySlides_p F aB0).isSome, ⟨(.bool ((laws_FnExactHighestBySlides_p F aB0).getD default)), [], []⟩)
  | _, _ => none⟩
theorem laws_FnExactHighestBySlides_fok : FunOK Try.prog 4 := funOK Try.func4 (by kernel_rfl) rfl
theorem laws_FnExactHighestBySlides_meets (F : Nat) : Meets Try.prog 4 (laws_FnExactHighestBySlides_ent F) := by
  refine meets_of_runS mixed ttok deep (laws_FnExactHighestBySlides_tabok F) Try.func4 (body_some rfl) (laws_FnExactHighestBySlides_lsok0 F) fun args mem hfit ret h => ?_
  clear hfit
  simp only [laws_FnExactHighestBySlides_ent] at h
  split at h
  · rename_i aB0
    simp only [Option.some.injEq, Prod.mk.injEq] at h
    obtain ⟨hc, rfl⟩ := h
    exact ⟨[], [], 70, _, (laws_FnExactHighestBySlides_run F aB0).trans ((laws_FnExactHighestBySlides_cp _ F aB0 _).trans (bind_use hc _)), rfl, rfl, rfl⟩
  · cases h

/-! loop.example/g01194/spec.FirstSlides -/
noncomputable def spec_FirstSlides_tab (F : Nat) : Tab := [(7, (spec_FewestSlides_ent F)), (29, (spec_l2Slide_ent F)), (20, (spec_l5Fewest_ent F))]
theorem spec_FirstSlides_tabok (F : Nat) : TabOK Try.prog (spec_FirstSlides_tab F) := (tab_cons (spec_FewestSlides_meets F) spec_FewestSlides_fok (tab_cons (spec_l2Slide_meets F) spec_l2Slide_fok (tab_cons (spec_l5Fewest_meets F) spec_l5Fewest_fok tab_nil)))
noncomputable def spec_FirstSlides_LS0 (F : Nat) : LT := []
theorem spec_FirstSlides_lsok0 (F : Nat) : LoopsOK Try.prog (spec_FirstSlides_LS0 F) (bodyOf Try.f12) := loopsOK_nil
theorem spec_FirstSlides_keys : keysOK (bodyOf Try.f12) = true := by kernel_rfl
def spec_FirstSlides_st8 (n8 : Int) (a10 : List Int) (b11 : List Int) (out12 : List Int) (d9 : Int) : St := ⟨expand 50 0 [2, 3, 6, 7, 9] [(.ptr 0 0 0 16), (.ptr 1 0 0 16), (.sl 2 0 (List.length out12)), (.int .i64 n8), (.int .i64 d9)], [(.var 16 (.ri .i64 a10)), (.var 16 (.ri .i64 b11)), (.vec 3 (.ri .i64 out12))], 0, []⟩
def spec_FirstSlides_o8 (n8 : Int) (a10 : List Int) (b11 : List Int) (out12 : List Int) (x : List Int × List Int) : GT := (.out (.exit 2 ⟨expand 50 0 [2, 3, 6, 7] [(.ptr 0 0 0 16), (.ptr 1 0 0 16), (.sl 2 0 (List.length x.2)), (.int .i64 n8)], [(.var 16 (.ri .i64 x.1)), (.var 16 (.ri .i64 b11)), (.vec 3 (.ri .i64 x.2))], 0, []⟩))
def spec_FirstSlides_ls8 (F : Nat) : LoopS := ⟨50, [2, 3, 6, 7, 9], [], [2, 3, 6, 7], [], [4, 5], [], [], fun vals mem np killed => match vals, mem, np, killed with
  | [(.ptr 0 0 0 16), (.ptr 1 0 0 16), (.sl 2 0 q_out7), (.int .i64 n8), (.int .i64 d9)], [(.var 16 (.ri .i64 a10)), (.var 16 (.ri .i64 b11)), (.vec 3 (.ri .i64 out12))], 0, [] => .br ((Nat.beq q_out7 (List.length out12)) && (spec_FirstSlides_l8 F n8 a10 b11 out12 d9).isSome) (spec_FirstSlides_o8 n8 a10 b11 out12 ((spec_FirstSlides_l8 F n8 a10 b11 out12 d9).getD default)) .fail
  | _, _, _, _ => .fail⟩
theorem spec_FirstSlides_step8 (F : Nat) (n8 : Int) (a10 : List Int) (b11 : List Int) (out12 : List Int) (d9 : Int) {R : Type} (k : Out → Option R) : stepS tt (spec_FirstSlides_tab F) (spec_FirstSlides_LS0 F) 70 (spec_FirstSlides_ls8 F) (loopAt 8 (bodyOf Try.f12)) (spec_FirstSlides_st8 n8 a10 b11 out12 d9) k = spec_FirstSlides_s8 F n8 a10 b11 out12 R d9 (fun s => k (.norm (spec_FirstSlides_st8 n8 a10 b11 out12 s))) (fun x => (spec_FirstSlides_o8 n8 a10 b11 out12 x).run k) := by kernel_rfl
theorem spec_FirstSlides_iter8 (F : Nat) (n8 : Int) (a10 : List Int) (b11 : List Int) (out12 : List Int) {R : Type} (k : Out → Option R) : ∀ (n : Nat) (d9 : Int), iterS tt (spec_FirstSlides_tab F) (spec_FirstSlides_LS0 F) 70 (spec_FirstSlides_ls8 F) (loopAt 8 (bodyOf Try.f12)) n (spec_FirstSlides_st8 n8 a10 b11 out12 d9) k = loopC (spec_FirstSlides_s8 F n8 a10 b11 out12) n d9 (fun x => (spec_FirstSlides_o8 n8 a10 b11 out12 x).run k)
  | 0, d9 => rfl
  | n + 1, d9 => (iterS_succ tt (spec_FirstSlides_tab F) (spec_FirstSlides_LS0 F) 70 (spec_FirstSlides_ls8 F) (loopAt 8 (bodyOf Try.f12)) n (spec_FirstSlides_st8 n8 a10 b11 out12 d9) k).trans ((spec_FirstSlides_step8 F n8 a10 b11 out12 d9 (nextK (iterS tt (spec_FirstSlides_tab F) (spec_FirstSlides_LS0 F) 70 (spec_FirstSlides_ls8 F) (loopAt 8 (bodyOf Try.f12)) n) k)).trans (congrArg (fun kn => spec_FirstSlides_s8 F n8 a10 b11 out12 R d9 kn _) (funext (fun d9 => spec_FirstSlides_iter8 F n8 a10 b11 out12 k n d9))))
theorem spec_FirstSlides_lok8 (F : Nat) : LoopOK Try.prog (loopAt 8 (bodyOf Try.f12)) (spec_FirstSlides_ls8 F) := by
  refine loopOK_of mixed ttok deep (spec_FirstSlides_tabok F) (loopsOK_at (spec_FirstSlides_lsok0 F) 8) (fuel := 70) fun R vals mem np killed k x h => ?_
  simp only [spec_FirstSlides_ls8] at h
  split at h
  · rename_i q_out7 n8 d9 a10 b11 out12
    simp only [GT.run] at h
    have hc := (cond_noneL h).1
    replace h := (cond_noneL h).2
    have hg := (and_split hc).1
    replace hc := (and_split hc).2
    obtain rfl := nbeq_nat hg
    refine ⟨F, (spec_FirstSlides_iter8 F n8 a10 b11 out12 k F d9).trans ((loopC_use (spec_FirstSlides_s8_nat F n8 a10 b11 out12) hc _).trans h)⟩
  · simp only [GT.run] at h
    cases h
noncomputable def spec_FirstSlides_LS1 (F : Nat) : LT := (8, spec_FirstSlides_ls8 F) :: spec_FirstSlides_LS0 F
theorem spec_FirstSlides_lsok1 (F : Nat) : LoopsOK Try.prog (spec_FirstSlides_LS1 F) (bodyOf Try.f12) := loopsOK_cons spec_FirstSlides_keys (spec_FirstSlides_lok8 F) (spec_FirstSlides_lsok0 F)
def spec_FirstSlides_st5 (b10 : List Int) (n8 : Int) (a9 : List Int) (out11 : List Int) : St := ⟨expand 50 0 [2, 3, 6, 7] [(.ptr 0 0 0 16), (.ptr 1 0 0 16), (.sl 2 0 (List.length out11)), (.int .i64 n8)], [(.var 16 (.ri .i64 a9)), (.var 16 (.ri .i64 b10)), (.vec 3 (.ri .i64 out11))], 0, []⟩
def spec_FirstSlides_o5 (b10 : List Int) (x : List Int) : GT := (.out (.exit 0 ⟨expand 50 0 [6] [(.sl 0 0 (List.length x))], [(.vec 3 (.ri .i64 x))], 0, []⟩))
def spec_FirstSlides_ls5 (F : Nat) : LoopS := ⟨50, [2, 3, 6, 7], [], [6], [], [4, 5], [], [], fun vals mem np killed => match vals, mem, np, killed with
  | [(.ptr 0 0 0 16), (.ptr 1 0 0 16), (.sl 2 0 q_out7), (.int .i64 n8)], [(.var 16 (.ri .i64 a9)), (.var 16 (.ri .i64 b10)), (.vec 3 (.ri .i64 out11))], 0, [] => .br ((Nat.beq q_out7 (List.length out11)) && (spec_FirstSlides_l5 F b10 n8 a9 out11).isSome) (spec_FirstSlides_o5 b10 ((spec_FirstSlides_l5 F b10 n8 a9 out11).getD default)) .fail
  | _, _, _, _ => .fail⟩
theorem spec_FirstSlides_step5 (F : Nat) (b10 : List Int) (n8 : Int) (a9 : List Int) (out11 : List Int) {R : Type} (k : Out → Option R) : stepS tt (spec_FirstSlides_tab F) (spec_FirstSlides_LS1 F) 70 (spec_FirstSlides_ls5 F) (loopAt 5 (bodyOf Try.f12)) (spec_FirstSlides_st5 b10 n8 a9 out11) k = spec_FirstSlides_s5 F b10 R (n8, a9, out11) (fun s => k (.norm (spec_FirstSlides_st5 b10 s.1 s.2.1 s.2.2))) (fun x => (spec_FirstSlides_o5 b10 x).run k) := by kernel_rfl
theorem spec_FirstSlides_iter5 (F : Nat) (b10 : List Int) {R : Type} (k : Out → Option R) : ∀ (n : Nat) (n8 : Int) (a9 : List Int) (out11 : List Int), iterS tt (spec_FirstSlides_tab F) (spec_FirstSlides_LS1 F) 70 (spec_FirstSlides_ls5 F) (loopAt 5 (bodyOf Try.f12)) n (spec_FirstSlides_st5 b10 n8 a9 out11) k = loopC (spec_FirstSlides_s5 F b10) n (n8, a9, out11) (fun x => (spec_FirstSlides_o5 b10 x).run k)
  | 0, n8, a9, out11 => rfl
  | n + 1, n8, a9, out11 => (iterS_succ tt (spec_FirstSlides_tab F) (spec_FirstSlides_LS1 F) 70 (spec_FirstSlides_ls5 F) (loopAt 5 (bodyOf Try.f12)) n (spec_FirstSlides_st5 b10 n8 a9 out11) k).trans ((spec_FirstSlides_step5 F b10 n8 a9 out11 (nextK (iterS tt (spec_FirstSlides_tab F) (spec_FirstSlides_LS1 F) 70 (spec_FirstSlides_ls5 F) (loopAt 5 (bodyOf Try.f12)) n) k)).trans (congrArg (fun kn => spec_FirstSlides_s5 F b10 R (n8, a9, out11) kn _) (funext (fun ⟨n8, a9, out11⟩ => spec_FirstSlides_iter5 F b10 k n n8 a9 out11))))
theorem spec_FirstSlides_lok5 (F : Nat) : LoopOK Try.prog (loopAt 5 (bodyOf Try.f12)) (spec_FirstSlides_ls5 F) := by
  refine loopOK_of mixed ttok deep (spec_FirstSlides_tabok F) (loopsOK_at (spec_FirstSlides_lsok1 F) 5) (fuel := 70) fun R vals mem np killed k x h => ?_
  simp only [spec_FirstSlides_ls5] at h
  split at h
  · rename_i q_out7 n8 a9 b10 out11
    simp only [GT.run] at h
    have hc := (cond_noneL h).1
    replace h := (cond_noneL h).2
    have hg := (and_split hc).1
    replace hc := (and_split hc).2
    obtain rfl := nbeq_nat hg
    refine ⟨F, (spec_FirstSlides_iter5 F b10 k F n8 a9 out11).trans ((loopC_use (spec_FirstSlides_s5_nat F b10) hc _).trans h)⟩
  · simp only [GT.run] at h
    cases h
noncomputable def spec_FirstSlides_LS2 (F : Nat) : LT := (5, spec_FirstSlides_ls5 F) :: spec_FirstSlides_LS1 F
theorem spec_FirstSlides_lsok2 (F : Nat) : LoopsOK Try.prog (spec_FirstSlides_LS2 F) (bodyOf Try.f12) := loopsOK_cons spec_FirstSlides_keys (spec_FirstSlides_lok5 F) (spec_FirstSlides_lsok1 F)
theorem spec_FirstSlides_run (F : Nat) (a0 : List Int) (b1 : List Int) : runS tt (spec_FirstSlides_tab F) (spec_FirstSlides_LS2 F) [] [] Try.f12 (bodyOf Try.f12) 70 [(.ints 16 a0), (.ints 16 b1)] [] = spec_FirstSlides_c _ F a0 b1 (fun r => some ⟨(.tup [(.sl 0 0 (List.length r.2)), (.bool r.1)]), [(.vec 3 (.ri .i64 r.2))], []⟩) := by kernel_rfl
def spec_FirstSlides_ent (F : Nat) : Ent := ⟨[], .fresh, fun args mem => match args, mem with
  | [(.ints 16 a0), (.ints 16 b1)], [] => some ((spec_FirstSlides_p F a0 b1).isSome, ⟨(.tup [(.sl 0 0 (List.length ((spec_FirstSlides_p F a0 b1).getD default).2)), (.bool ((spec_FirstSlides_p F a0 b1).getD default).1)]), [(.vec 3 (.ri .i64 ((spec_FirstSlides_p F a0 b1).getD default).2))], []⟩)
  | _, _ => none⟩
theorem spec_FirstSlides_fok : FunOK Try.prog 12 := funOK Try.func12 (by kernel_rfl) rfl
theorem spec_FirstSlides_meets (F : Nat) : Meets Try.prog 12 (spec_FirstSlides_ent F) := by
  refine meets_of_runS mixed ttok deep (spec_FirstSlides_tabok F) Try.func12 (body_some rfl) (spec_FirstSlides_lsok2 F) fun args mem hfit ret h => ?_
  clear hfit
  simp only [spec_FirstSlides_ent] at h
  split at h
  · rename_i a0 b1
    simp only [Option.some.injEq, Prod.mk.injEq] at h
    obtain ⟨hc, rfl⟩ := h
    exact ⟨[], [], 70, _, (spec_FirstSlides_run F a0 b1).trans ((spec_FirstSlides_cp _ F a0 b1 _).trans (bind_use hc _)), rfl, rfl, rfl⟩
  · cases h

/-! loop.example/g01194/impl.FirstSlides -/
noncomputable def impl_FirstSlides_tab (F : Nat) : Tab := [(23, (impl_Board_roadTo_ent F)), (30, (slices_Clone_intint_ent F))]
theorem impl_FirstSlides_tabok (F : Nat) : TabOK Try.prog (impl_FirstSlides_tab F) := (tab_cons (impl_Board_roadTo_meets F) impl_Board_roadTo_fok (tab_cons (slices_Clone_intint_meets F) slices_Clone_intint_fok tab_nil))
noncomputable def impl_FirstSlides_LS0 (F : Nat) : LT := []
theorem impl_FirstSlides_lsok0 (F : Nat) : LoopsOK Try.prog (impl_FirstSlides_LS0 F) (bodyOf Try.f13) := loopsOK_nil
theorem impl_FirstSlides_run (F : Nat) (a0 : List Int) (b1 : List Int) : runS tt (impl_FirstSlides_tab F) (impl_FirstSlides_LS0 F) [] [] Try.f13 (bodyOf Try.f13) 70 [(.ints 16 a0), (.ints 16 b1)] [] = impl_FirstSlides_c _ F a0 b1 (fun r => some ⟨(.tup [(.sl 0 0 (List.length r.2)), (.bool r.1)]), [(.vec 3 (.ri .i64 r.2))], []⟩) := by kernel_rfl
def impl_FirstSlides_ent (F : Nat) : Ent := ⟨[], .fresh, fun args mem => match args, mem with
  | [(.ints 16 a0), (.ints 16 b1)], [] => some ((impl_FirstSlides_p F a0 b1).isSome, ⟨(.tup [(.sl 0 0 (List.length ((impl_FirstSlides_p F a0 b1).getD default).2)), (.bool ((impl_FirstSlides_p F a0 b1).getD default).1)]), [(.vec 3 (.ri .i64 ((impl_FirstSlides_p F a0 b1).getD default).2))], []⟩)
  | _, _ => none⟩
theorem impl_FirstSlides_fok : FunOK Try.prog 13 := funOK Try.func13 (by kernel_rfl) rfl
theorem impl_FirstSlides_meets (F : Nat) : Meets Try.prog 13 (impl_FirstSlides_ent F) := by
  refine meets_of_runS mixed ttok deep (impl_FirstSlides_tabok F) Try.func13 (body_some rfl) (impl_FirstSlides_lsok0 F) fun args mem hfit ret h => ?_
  clear hfit
  simp only [impl_FirstSlides_ent] at h
  split at h
  · rename_i a0 b1
    simp only [Option.some.injEq, Prod.mk.injEq] at h
    obtain ⟨hc, rfl⟩ := h
    exact ⟨[], [], 70, _, (impl_FirstSlides_run F a0 b1).trans ((impl_FirstSlides_cp _ F a0 b1 _).trans (bind_use hc _)), rfl, rfl, rfl⟩
  · cases h

/-! loop.example/g01194/laws.eqIntS -/
noncomputable def laws_eqIntS_tab (F : Nat) : Tab := []
theorem laws_eqIntS_tabok (F : Nat) : TabOK Try.prog (laws_eqIntS_tab F) := tab_nil
noncomputable def laws_eqIntS_LS0 (F : Nat) : LT := []
theorem laws_eqIntS_lsok0 (F : Nat) : LoopsOK Try.prog (laws_eqIntS_LS0 F) (bodyOf Try.f14) := loopsOK_nil
theorem laws_eqIntS_keys : keysOK (bodyOf Try.f14) = true := by kernel_rfl
def laws_eqIntS_st4 (a0 : List Int) (b1 : List Int) (i2 : Int) : St := ⟨expand 26 0 [0, 1, 5] [(.ri .i64 a0), (.ri .i64 b1), (.int .i64 i2)], [], 0, []⟩
def laws_eqIntS_o4 (a0 : List Int) (b1 : List Int) (x : Bool) : GT := (.br x (.out (.ret ⟨expand 26 0 [4] [(.bool false)], [], 0, []⟩)) (.out (.exit 0 ⟨expand 26 0 [] [], [], 0, []⟩)))
def laws_eqIntS_ls4 (F : Nat) : LoopS := ⟨26, [0, 1, 5], [], [], [], [4], [], [], fun vals mem np killed => match vals, mem, np, killed with
  | [(.ri .i64 a0), (.ri .i64 b1), (.int .i64 i2)], [], 0, [] => .br (laws_eqIntS_l4 F a0 b1 i2).isSome (laws_eqIntS_o4 a0 b1 ((laws_eqIntS_l4 F a0 b1 i2).getD default)) .fail
  | _, _, _, _ => .fail⟩
theorem laws_eqIntS_step4 (F : Nat) (a0 : List Int) (b1 : List Int) (i2 : Int) {R : Type} (k : Out → Option R) : stepS tt (laws_eqIntS_tab F) (laws_eqIntS_LS0 F) 70 (laws_eqIntS_ls4 F) (loopAt 4 (bodyOf Try.f14)) (laws_eqIntS_st4 a0 b1 i2) k = laws_eqIntS_s4 F a0 b1 R i2 (fun s => k (.norm (laws_eqIntS_st4 a0 b1 s))) (fun x => (laws_eqIntS_o4 a0 b1 x).run k) := by kernel_rfl
theorem laws_eqIntS_iter4 (F : Nat) (a0 : List Int) (b1 : List Int) {R : Type} (k : Out → Option R) : ∀ (n : Nat) (i2 : Int), iterS tt (laws_eqIntS_tab F) (laws_eqIntS_LS0 F) 70 (laws_eqIntS_ls4 F) (loopAt 4 (bodyOf Try.f14)) n (laws_eqIntS_st4 a0 b1 i2) k = loopC (laws_eqIntS_s4 F a0 b1) n i2 (fun x => (laws_eqIntS_o4 a0 b1 x).run k)
  | 0, i2 => rfl
  | n + 1, i2 => (iterS_succ tt (laws_eqIntS_tab F) (laws_eqIntS_LS0 F) 70 (laws_eqIntS_ls4 F) (loopAt 4 (bodyOf Try.f14)) n (laws_eqIntS_st4 a0 b1 i2) k).trans ((laws_eqIntS_step4 F a0 b1 i2 (nextK (iterS tt (laws_eqIntS_tab F) (laws_eqIntS_LS0 F) 70 (laws_eqIntS_ls4 F) (loopAt 4 (bodyOf Try.f14)) n) k)).trans (congrArg (fun kn => laws_eqIntS_s4 F a0 b1 R i2 kn _) (funext (fun i2 => laws_eqIntS_iter4 F a0 b1 k n i2))))
theorem laws_eqIntS_lok4 (F : Nat) : LoopOK Try.prog (loopAt 4 (bodyOf Try.f14)) (laws_eqIntS_ls4 F) := by
  refine loopOK_of mixed ttok deep (laws_eqIntS_tabok F) (loopsOK_at (laws_eqIntS_lsok0 F) 4) (fuel := 70) fun R vals mem np killed k x h => ?_
  simp only [laws_eqIntS_ls4] at h
  split at h
  · rename_i a0 b1 i2
    simp only [GT.run] at h
    have hc := (cond_noneL h).1
    replace h := (cond_noneL h).2
    refine ⟨F, (laws_eqIntS_iter4 F a0 b1 k F i2).trans ((loopC_use (laws_eqIntS_s4_nat F a0 b1) hc _).trans h)⟩
  · simp only [GT.run] at h
    cases h
noncomputable def laws_eqIntS_LS1 (F : Nat) : LT := (4, laws_eqIntS_ls4 F) :: laws_eqIntS_LS0 F
theorem laws_eqIntS_lsok1 (F : Nat) : LoopsOK Try.prog (laws_eqIntS_LS1 F) (bodyOf Try.f14) := loopsOK_cons laws_eqIntS_keys (laws_eqIntS_lok4 F) (laws_eqIntS_lsok0 F)
theorem laws_eqIntS_run (F : Nat) (a0 : List Int) (b1 : List Int) : runS tt (laws_eqIntS_tab F) (laws_eqIntS_LS1 F) [] [] Try.f14 (bodyOf Try.f14) 70 [(.ri .i64 a0), (.ri .i64 b1)] [] = laws_eqIntS_c _ F a0 b1 (fun r => some ⟨(.bool r), [], []⟩) := by kernel_rfl
def laws_eqIntS_ent (F : Nat) : Ent := ⟨[], .quiet, fun args mem => match args, mem with
  | [(.ri .i64 a0), (.ri .i64 b1)], [] => some ((laws_eqIntS_p F a0 b1).isSome, ⟨(.bool ((laws_eqIntS_p F a0 b1).getD default)), [], []⟩)
  | _, _ => none⟩
theorem laws_eqIntS_fok : FunOK Try.prog 14 := funOK Try.func14 (by kernel_rfl) rfl
theorem laws_eqIntS_meets (F : Nat) : Meets Try.prog 14 (laws_eqIntS_ent F) := by
  refine meets_of_runS mixed ttok deep (laws_eqIntS_tabok F) Try.func14 (body_some rfl) (laws_eqIntS_lsok1 F) fun args mem hfit ret h => ?_
  clear hfit
  simp only [laws_eqIntS_ent] at h
  split at h
  · rename_i a0 b1
    simp only [Option.some.injEq, Prod.mk.injEq] at h
    obtain ⟨hc, rfl⟩ := h
    exact ⟨[], [], 70, _, (laws_eqIntS_run F a0 b1).trans ((laws_eqIntS_cp _ F a0 b1 _).trans (bind_use hc _)), rfl, rfl, rfl⟩
  · cases h

/-! loop.example/g01194/laws.markIntS -/
noncomputable def laws_markIntS_tab (F : Nat) : Tab := []
theorem laws_markIntS_tabok (F : Nat) : TabOK Try.prog (laws_markIntS_tab F) := tab_nil
noncomputable def laws_markIntS_LS0 (F : Nat) : LT := []
theorem laws_markIntS_lsok0 (F : Nat) : LoopsOK Try.prog (laws_markIntS_LS0 F) (bodyOf Try.f15) := loopsOK_nil
theorem laws_markIntS_keys : keysOK (bodyOf Try.f15) = true := by kernel_rfl
def laws_markIntS_st2 (a1 : Nat) (k2 : Int) (i3 : Int) (a4 : List Int) : St := ⟨expand 19 0 [0, 1, 5] [(.sl 0 0 a1), (.int .i64 k2), (.int .i64 i3)], [(.vec 3 (.ri .i64 a4))], 1, []⟩
def laws_markIntS_o2 (a1 : Nat) (x : Int × List Int) : GT := (.out (.exit 0 ⟨expand 19 0 [1] [(.int .i64 x.1)], [(.vec 3 (.ri .i64 x.2))], 1, []⟩))
def laws_markIntS_ls2 (F : Nat) : LoopS := ⟨19, [0, 1, 5], [], [1], [], [4], [], [], fun vals mem np killed => match vals, mem, np, killed with
  | [(.sl 0 0 a1), (.int .i64 k2), (.int .i64 i3)], [(.vec 3 (.ri .i64 a4))], 1, [] => .br (laws_markIntS_l2 F a1 k2 i3 a4).isSome (laws_markIntS_o2 a1 ((laws_markIntS_l2 F a1 k2 i3 a4).getD default)) .fail
  | _, _, _, _ => .fail⟩
theorem laws_markIntS_step2 (F : Nat) (a1 : Nat) (k2 : Int) (i3 : Int) (a4 : List Int) {R : Type} (k : Out → Option R) : stepS tt (laws_markIntS_tab F) (laws_markIntS_LS0 F) 70 (laws_markIntS_ls2 F) (loopAt 2 (bodyOf Try.f15)) (laws_markIntS_st2 a1 k2 i3 a4) k = laws_markIntS_s2 F a1 R (k2, i3, a4) (fun s => k (.norm (laws_markIntS_st2 a1 s.1 s.2.1 s.2.2))) (fun x => (laws_markIntS_o2 a1 x).run k) := by kernel_rfl
theorem laws_markIntS_iter2 (F : Nat) (a1 : Nat) {R : Type} (k : Out → Option R) : ∀ (n : Nat) (k2 : Int) (i3 : Int) (a4 : List Int), iterS tt (laws_markIntS_tab F) (laws_markIntS_LS0 F) 70 (laws_markIntS_ls2 F) (loopAt 2 (bodyOf Try.f15)) n (laws_markIntS_st2 a1 k2 i3 a4) k = loopC (laws_markIntS_s2 F a1) n (k2, i3, a4) (fun x => (laws_markIntS_o2 a1 x).run k)
  | 0, k2, i3, a4 => rfl
  | n + 1, k2, i3, a4 => (iterS_succ tt (laws_markIntS_tab F) (laws_markIntS_LS0 F) 70 (laws_markIntS_ls2 F) (loopAt 2 (bodyOf Try.f15)) n (laws_markIntS_st2 a1 k2 i3 a4) k).trans ((laws_markIntS_step2 F a1 k2 i3 a4 (nextK (iterS tt (laws_markIntS_tab F) (laws_markIntS_LS0 F) 70 (laws_markIntS_ls2 F) (loopAt 2 (bodyOf Try.f15)) n) k)).trans (congrArg (fun kn => laws_markIntS_s2 F a1 R (k2, i3, a4) kn _) (funext (fun ⟨k2, i3, a4⟩ => laws_markIntS_iter2 F a1 k n k2 i3 a4))))
theorem laws_markIntS_lok2 (F : Nat) : LoopOK Try.prog (loopAt 2 (bodyOf Try.f15)) (laws_markIntS_ls2 F) := by
  refine loopOK_of mixed ttok deep (laws_markIntS_tabok F) (loopsOK_at (laws_markIntS_lsok0 F) 2) (fuel := 70) fun R vals mem np killed k x h => ?_
  simp only [laws_markIntS_ls2] at h
  split at h
  · rename_i a1 k2 i3 a4
    simp only [GT.run] at h
    have hc := (cond_noneL h).1
    replace h := (cond_noneL h).2
    refine ⟨F, (laws_markIntS_iter2 F a1 k F k2 i3 a4).trans ((loopC_use (laws_markIntS_s2_nat F a1) hc _).trans h)⟩
  · simp only [GT.run] at h
    cases h
noncomputable def laws_markIntS_LS1 (F : Nat) : LT := (2, laws_markIntS_ls2 F) :: laws_markIntS_LS0 F
theorem laws_markIntS_lsok1 (F : Nat) : LoopsOK Try.prog (laws_markIntS_LS1 F) (bodyOf Try.f15) := loopsOK_cons laws_markIntS_keys (laws_markIntS_lok2 F) (laws_markIntS_lsok0 F)
theorem laws_markIntS_run (F : Nat) (a1 : Nat) (k2 : Int) (a3 : List Int) : runS tt (laws_markIntS_tab F) (laws_markIntS_LS1 F) [] [] Try.f15 (bodyOf Try.f15) 70 [(.sl 0 0 a1), (.int .i64 k2)] [(.vec 3 (.ri .i64 a3))] = laws_markIntS_c _ F a1 k2 a3 (fun r => some ⟨(.int .i64 r.1), [(.vec 3 (.ri .i64 r.2))], []⟩) := by kernel_rfl
def laws_markIntS_ent (F : Nat) : Ent := ⟨[true], .loud, fun args mem => match args, mem with
  | [(.sl 0 0 a1), (.int .i64 k2)], [(.vec 3 (.ri .i64 a3))] => some ((laws_markIntS_p F a1 k2 a3).isSome, ⟨(.int .i64 ((laws_markIntS_p F a1 k2 a3).getD default).1), [(.vec 3 (.ri .i64 ((laws_markIntS_p F a1 k2 a3).getD default).2))], []⟩)
  | _, _ => none⟩
theorem laws_markIntS_fok : FunOK Try.prog 15 := funOK Try.func15 (by kernel_rfl) rfl
theorem laws_markIntS_meets (F : Nat) : Meets Try.prog 15 (laws_markIntS_ent F) := by
  refine meets_of_runS mixed ttok deep (laws_markIntS_tabok F) Try.func15 (body_some rfl) (laws_markIntS_lsok1 F) fun args mem hfit ret h => ?_
  clear hfit
  simp only [laws_markIntS_ent] at h
  split at h
  · rename_i a1 k2 a3
    simp only [Option.some.injEq, Prod.mk.injEq] at h
    obtain ⟨hc, rfl⟩ := h
    exact ⟨[], [], 70, _, (laws_markIntS_run F a1 k2 a3).trans ((laws_markIntS_cp _ F a1 k2 a3 _).trans (bind_use hc _)), rfl, rfl, rfl⟩
  · cases h

/-! loop.example/g01194/laws.heldIntS -/
noncomputable def laws_heldIntS_tab (F : Nat) : Tab := []
theorem laws_heldIntS_tabok (F : Nat) : TabOK Try.prog (laws_heldIntS_tab F) := tab_nil
noncomputable def laws_heldIntS_LS0 (F : Nat) : LT := []
theorem laws_heldIntS_lsok0 (F : Nat) : LoopsOK Try.prog (laws_heldIntS_LS0 F) (bodyOf Try.f16) := loopsOK_nil
theorem laws_heldIntS_keys : keysOK (bodyOf Try.f16) = true := by kernel_rfl
def laws_heldIntS_st2 (a0 : List Int) (k1 : Int) (i2 : Int) : St := ⟨expand 21 0 [0, 1, 5] [(.ri .i64 a0), (.int .i64 k1), (.int .i64 i2)], [], 0, []⟩
def laws_heldIntS_o2 (a0 : List Int) (x : Bool × Int) : GT := (.br x.1 (.out (.ret ⟨expand 21 0 [4] [(.int .i64 (-1 : Int))], [], 0, []⟩)) (.out (.exit 0 ⟨expand 21 0 [1] [(.int .i64 x.2)], [], 0, []⟩)))
def laws_heldIntS_ls2 (F : Nat) : LoopS := ⟨21, [0, 1, 5], [], [1], [], [4], [], [], fun vals mem np killed => match vals, mem, np, killed with
  | [(.ri .i64 a0), (.int .i64 k1), (.int .i64 i2)], [], 0, [] => .br (laws_heldIntS_l2 F a0 k1 i2).isSome (laws_heldIntS_o2 a0 ((laws_heldIntS_l2 F a0 k1 i2).getD default)) .fail
  | _, _, _, _ => .fail⟩
theorem laws_heldIntS_step2 (F : Nat) (a0 : List Int) (k1 : Int) (i2 : Int) {R : Type} (k : Out → Option R) : stepS tt (laws_heldIntS_tab F) (laws_heldIntS_LS0 F) 70 (laws_heldIntS_ls2 F) (loopAt 2 (bodyOf Try.f16)) (laws_heldIntS_st2 a0 k1 i2) k = laws_heldIntS_s2 F a0 R (k1, i2) (fun s => k (.norm (laws_heldIntS_st2 a0 s.1 s.2))) (fun x => (laws_heldIntS_o2 a0 x).run k) := by kernel_rfl
theorem laws_heldIntS_iter2 (F : Nat) (a0 : List Int) {R : Type} (k : Out → Option R) : ∀ (n : Nat) (k1 : Int) (i2 : Int), iterS tt (laws_heldIntS_tab F) (laws_heldIntS_LS0 F) 70 (laws_heldIntS_ls2 F) (loopAt 2 (bodyOf Try.f16)) n (laws_heldIntS_st2 a0 k1 i2) k = loopC (laws_heldIntS_s2 F a0) n (k1, i2) (fun x => (laws_heldIntS_o2 a0 x).run k)
  | 0, k1, i2 => rfl
  | n + 1, k1, i2 => (iterS_succ tt (laws_heldIntS_tab F) (laws_heldIntS_LS0 F) 70 (laws_heldIntS_ls2 F) (loopAt 2 (bodyOf Try.f16)) n (laws_heldIntS_st2 a0 k1 i2) k).trans ((laws_heldIntS_step2 F a0 k1 i2 (nextK (iterS tt (laws_heldIntS_tab F) (laws_heldIntS_LS0 F) 70 (laws_heldIntS_ls2 F) (loopAt 2 (bodyOf Try.f16)) n) k)).trans (congrArg (fun kn => laws_heldIntS_s2 F a0 R (k1, i2) kn _) (funext (fun ⟨k1, i2⟩ => laws_heldIntS_iter2 F a0 k n k1 i2))))
theorem laws_heldIntS_lok2 (F : Nat) : LoopOK Try.prog (loopAt 2 (bodyOf Try.f16)) (laws_heldIntS_ls2 F) := by
  refine loopOK_of mixed ttok deep (laws_heldIntS_tabok F) (loopsOK_at (laws_heldIntS_lsok0 F) 2) (fuel := 70) fun R vals mem np killed k x h => ?_
  simp only [laws_heldIntS_ls2] at h
  split at h
  · rename_i a0 k1 i2
    simp only [GT.run] at h
    have hc := (cond_noneL h).1
    replace h := (cond_noneL h).2
    refine ⟨F, (laws_heldIntS_iter2 F a0 k F k1 i2).trans ((loopC_use (laws_heldIntS_s2_nat F a0) hc _).trans h)⟩
  · simp only [GT.run] at h
    cases h
noncomputable def laws_heldIntS_LS1 (F : Nat) : LT := (2, laws_heldIntS_ls2 F) :: laws_heldIntS_LS0 F
theorem laws_heldIntS_lsok1 (F : Nat) : LoopsOK Try.prog (laws_heldIntS_LS1 F) (bodyOf Try.f16) := loopsOK_cons laws_heldIntS_keys (laws_heldIntS_lok2 F) (laws_heldIntS_lsok0 F)
theorem laws_heldIntS_run (F : Nat) (a0 : List Int) (k1 : Int) : runS tt (laws_heldIntS_tab F) (laws_heldIntS_LS1 F) [] [] Try.f16 (bodyOf Try.f16) 70 [(.ri .i64 a0), (.int .i64 k1)] [] = laws_heldIntS_c _ F a0 k1 (fun r => some ⟨(.int .i64 r), [], []⟩) := by kernel_rfl
def laws_heldIntS_ent (F : Nat) : Ent := ⟨[], .quiet, fun args mem => match args, mem with
  | [(.ri .i64 a0), (.int .i64 k1)], [] => some ((laws_heldIntS_p F a0 k1).isSome, ⟨(.int .i64 ((laws_heldIntS_p F a0 k1).getD default)), [], []⟩)
  | _, _ => none⟩
theorem laws_heldIntS_fok : FunOK Try.prog 16 := funOK Try.func16 (by kernel_rfl) rfl
theorem laws_heldIntS_meets (F : Nat) : Meets Try.prog 16 (laws_heldIntS_ent F) := by
  refine meets_of_runS mixed ttok deep (laws_heldIntS_tabok F) Try.func16 (body_some rfl) (laws_heldIntS_lsok1 F) fun args mem hfit ret h => ?_
  clear hfit
  simp only [laws_heldIntS_ent] at h
  split at h
  · rename_i a0 k1
    simp only [Option.some.injEq, Prod.mk.injEq] at h
    obtain ⟨hc, rfl⟩ := h
    exact ⟨[], [], 70, _, (laws_heldIntS_run F a0 k1).trans ((laws_heldIntS_cp _ F a0 k1 _).trans (bind_use hc _)), rfl, rfl, rfl⟩
  · cases h

/-! loop.example/g01194/laws.FnExactFirstSlides -/
noncomputable def laws_FnExactFirstSlides_tab (F : Nat) : Tab := [(8, (laws_toBoard_ent F)), (12, (spec_FirstSlides_ent F)), (13, (impl_FirstSlides_ent F)), (14, (laws_eqIntS_ent F)), (15, (laws_markIntS_ent F)), (16, (laws_heldIntS_ent F))]
theorem laws_FnExactFirstSlides_tabok (F : Nat) : TabOK Try.prog (laws_FnExactFirstSlides_tab F) := (tab_cons (laws_toBoard_meets F) laws_toBoard_fok (tab_cons (spec_FirstSlides_meets F) spec_FirstSlides_fok (tab_cons (impl_FirstSlides_meets F) impl_FirstSlides_fok (tab_cons (laws_eqIntS_meets F) laws_eqIntS_fok (tab_cons (laws_markIntS_meets F) laws_markIntS_fok (tab_cons (laws_heldIntS_meets F) laws_heldIntS_fok tab_nil))))))
noncomputable def laws_FnExactFirstSlides_LS0 (F : Nat) : LT := []
theorem laws_FnExactFirstSlides_lsok0 (F : Nat) : LoopsOK Try.prog (laws_FnExactFirstSlides_LS0 F) (bodyOf Try.f5) := loopsOK_nil
theorem laws_FnExactFirstSlides_run (F : Nat) (aA0 : List Int) (aB1 : List Int) : runS tt (laws_FnExactFirstSlides_tab F) (laws_FnExactFirstSlides_LS0 F) [] [] Try.f5 (bodyOf Try.f5) 70 [(.ints 16 aA0), (.ints 16 aB1)] [] = laws_FnExactFirstSlides_c _ F aA0 aB1 (fun r => some ⟨(.bool r), [], []⟩) := by kernel_rfl
def laws_FnExactFirstSlides_ent (F : Nat) : Ent := ⟨[], .quiet, fun args mem => match args, mem with
  | [(.ints 16 aA0), (.ints 16 aB1)], [] => some ((laws_FnExactFirstSlides_p F aA0 aB1).isSome, ⟨(.bool ((laws_FnExactFirstSlides_p F aA0 aB1).getD default)), [], []⟩)
  | _, _ => none⟩
theorem laws_FnExactFirstSlides_fok : FunOK Try.prog 5 := funOK Try.func5 (by kernel_rfl) rfl
theorem laws_FnExactFirstSlides_meets (F : Nat) : Meets Try.prog 5 (laws_FnExactFirstSlides_ent F) := by
  refine meets_of_runS mixed ttok deep (laws_FnExactFirstSlides_tabok F) Try.func5 (body_some rfl) (laws_FnExactFirstSlides_lsok0 F) fun args mem hfit ret h => ?_
  clear hfit
  simp only [laws_FnExactFirstSlides_ent] at h
  split at h
  · rename_i aA0 aB1
    simp only [Option.some.injEq, Prod.mk.injEq] at h
    obtain ⟨hc, rfl⟩ := h
    exact ⟨[], [], 70, _, (laws_FnExactFirstSlides_run F aA0 aB1).trans ((laws_FnExactFirstSlides_cp _ F aA0 aB1 _).trans (bind_use hc _)), rfl, rfl, rfl⟩
  · cases h

/-! loop.example/g01194/spec.l2Empty -/
noncomputable def spec_l2Empty_tab (F : Nat) : Tab := []
theorem spec_l2Empty_tabok (F : Nat) : TabOK Try.prog (spec_l2Empty_tab F) := tab_nil
noncomputable def spec_l2Empty_LS0 (F : Nat) : LT := []
theorem spec_l2Empty_lsok0 (F : Nat) : LoopsOK Try.prog (spec_l2Empty_LS0 F) (bodyOf Try.f66) := loopsOK_nil
theorem spec_l2Empty_keys : keysOK (bodyOf Try.f66) = true := by kernel_rfl
def spec_l2Empty_st6 (r5 : Int) (b7 : List Int) (c6 : Int) (out8 : List (List Int)) : St := ⟨expand 29 0 [1, 3, 4, 5] [(.ptr 0 0 0 16), (.sl 1 0 (List.length out8)), (.int .i64 r5), (.int .i64 c6)], [(.var 16 (.ri .i64 b7)), (.vec 49 (.rr 2 out8))], 0, []⟩
def spec_l2Empty_o6 (r5 : Int) (b7 : List Int) (x : List (List Int)) : GT := (.out (.exit 2 ⟨expand 29 0 [1, 3, 4] [(.ptr 0 0 0 16), (.sl 1 0 (List.length x)), (.int .i64 r5)], [(.var 16 (.ri .i64 b7)), (.vec 49 (.rr 2 x))], 0, []⟩))
def spec_l2Empty_ls6 (F : Nat) : LoopS := ⟨29, [1, 3, 4, 5], [], [1, 3, 4], [], [2], [], [], fun vals mem np killed => match vals, mem, np, killed with
  | [(.ptr 0 0 0 16), (.sl 1 0 q_out4), (.int .i64 r5), (.int .i64 c6)], [(.var 16 (.ri .i64 b7)), (.vec 49 (.rr 2 out8))], 0, [] => .br ((Nat.beq q_out4 (List.length out8)) && (spec_l2Empty_l6 F r5 b7 c6 out8).isSome) (spec_l2Empty_o6 r5 b7 ((spec_l2Empty_l6 F r5 b7 c6 out8).getD default)) .fail
  | _, _, _, _ => .fail⟩
theorem spec_l2Empty_step6 (F : Nat) (r5 : Int) (b7 : List Int) (c6 : Int) (out8 : List (List Int)) {R : Type} (k : Out → Option R) : stepS tt (spec_l2Empty_tab F) (spec_l2Empty_LS0 F) 70 (spec_l2Empty_ls6 F) (loopAt 6 (bodyOf Try.f66)) (spec_l2Empty_st6 r5 b7 c6 out8) k = spec_l2Empty_s6 F r5 b7 R (c6, out8) (fun s => k (.norm (spec_l2Empty_st6 r5 b7 s.1 s.2))) (fun x => (spec_l2Empty_o6 r5 b7 x).run k) := by kernel_rfl
theorem spec_l2Empty_iter6 (F : Nat) (r5 : Int) (b7 : List Int) {R : Type} (k : Out → Option R) : ∀ (n : Nat) (c6 : Int) (out8 : List (List Int)), iterS tt (spec_l2Empty_tab F) (spec_l2Empty_LS0 F) 70 (spec_l2Empty_ls6 F) (loopAt 6 (bodyOf Try.f66)) n (spec_l2Empty_st6 r5 b7 c6 out8) k = loopC (spec_l2Empty_s6 F r5 b7) n (c6, out8) (fun x => (spec_l2Empty_o6 r5 b7 x).run k)
  | 0, c6, out8 => rfl
  | n + 1, c6, out8 => (iterS_succ tt (spec_l2Empty_tab F) (spec_l2Empty_LS0 F) 70 (spec_l2Empty_ls6 F) (loopAt 6 (bodyOf Try.f66)) n (spec_l2Empty_st6 r5 b7 c6 out8) k).trans ((spec_l2Empty_step6 F r5 b7 c6 out8 (nextK (iterS tt (spec_l2Empty_tab F) (spec_l2Empty_LS0 F) 70 (spec_l2Empty_ls6 F) (loopAt 6 (bodyOf Try.f66)) n) k)).trans (congrArg (fun kn => spec_l2Empty_s6 F r5 b7 R (c6, out8) kn _) (funext (fun ⟨c6, out8⟩ => spec_l2Empty_iter6 F r5 b7 k n c6 out8))))
theorem spec_l2Empty_lok6 (F : Nat) : LoopOK Try.prog (loopAt 6 (bodyOf Try.f66)) (spec_l2Empty_ls6 F) := by
  refine loopOK_of mixed ttok deep (spec_l2Empty_tabok F) (loopsOK_at (spec_l2Empty_lsok0 F) 6) (fuel := 70) fun R vals mem np killed k x h => ?_
  simp only [spec_l2Empty_ls6] at h
  split at h
  · rename_i q_out4 r5 c6 b7 out8
    simp only [GT.run] at h
    have hc := (cond_noneL h).1
    replace h := (cond_noneL h).2
    have hg := (and_split hc).1
    replace hc := (and_split hc).2
    obtain rfl := nbeq_nat hg
    refine ⟨F, (spec_l2Empty_iter6 F r5 b7 k F c6 out8).trans ((loopC_use (spec_l2Empty_s6_nat F r5 b7) hc _).trans h)⟩
  · simp only [GT.run] at h
    cases h
noncomputable def spec_l2Empty_LS1 (F : Nat) : LT := (6, spec_l2Empty_ls6 F) :: spec_l2Empty_LS0 F
theorem spec_l2Empty_lsok1 (F : Nat) : LoopsOK Try.prog (spec_l2Empty_LS1 F) (bodyOf Try.f66) := loopsOK_cons spec_l2Empty_keys (spec_l2Empty_lok6 F) (spec_l2Empty_lsok0 F)
def spec_l2Empty_st3 (b6 : List Int) (r5 : Int) (out7 : List (List Int)) : St := ⟨expand 29 0 [1, 3, 4] [(.ptr 0 0 0 16), (.sl 1 0 (List.length out7)), (.int .i64 r5)], [(.var 16 (.ri .i64 b6)), (.vec 49 (.rr 2 out7))], 0, []⟩
def spec_l2Empty_o3 (b6 : List Int) (x : List (List Int)) : GT := (.out (.exit 0 ⟨expand 29 0 [3] [(.sl 0 0 (List.length x))], [(.vec 49 (.rr 2 x))], 0, []⟩))
def spec_l2Empty_ls3 (F : Nat) : LoopS := ⟨29, [1, 3, 4], [], [3], [], [2], [], [], fun vals mem np killed => match vals, mem, np, killed with
  | [(.ptr 0 0 0 16), (.sl 1 0 q_out4), (.int .i64 r5)], [(.var 16 (.ri .i64 b6)), (.vec 49 (.rr 2 out7))], 0, [] => .br ((Nat.beq q_out4 (List.length out7)) && (spec_l2Empty_l3 F b6 r5 out7).isSome) (spec_l2Empty_o3 b6 ((spec_l2Empty_l3 F b6 r5 out7).getD default)) .fail
  | _, _, _, _ => .fail⟩
theorem spec_l2Empty_step3 (F : Nat) (b6 : List Int) (r5 : Int) (out7 : List (List Int)) {R : Type} (k : Out → Option R) : stepS tt (spec_l2Empty_tab F) (spec_l2Empty_LS1 F) 70 (spec_l2Empty_ls3 F) (loopAt 3 (bodyOf Try.f66)) (spec_l2Empty_st3 b6 r5 out7) k = spec_l2Empty_s3 F b6 R (r5, out7) (fun s => k (.norm (spec_l2Empty_st3 b6 s.1 s.2))) (fun x => (spec_l2Empty_o3 b6 x).run k) := by kernel_rfl
theorem spec_l2Empty_iter3 (F : Nat) (b6 : List Int) {R : Type} (k : Out → Option R) : ∀ (n : Nat) (r5 : Int) (out7 : List (List Int)), iterS tt (spec_l2Empty_tab F) (spec_l2Empty_LS1 F) 70 (spec_l2Empty_ls3 F) (loopAt 3 (bodyOf Try.f66)) n (spec_l2Empty_st3 b6 r5 out7) k = loopC (spec_l2Empty_s3 F b6) n (r5, out7) (fun x => (spec_l2Empty_o3 b6 x).run k)
  | 0, r5, out7 => rfl
  | n + 1, r5, out7 => (iterS_succ tt (spec_l2Empty_tab F) (spec_l2Empty_LS1 F) 70 (spec_l2Empty_ls3 F) (loopAt 3 (bodyOf Try.f66)) n (spec_l2Empty_st3 b6 r5 out7) k).trans ((spec_l2Empty_step3 F b6 r5 out7 (nextK (iterS tt (spec_l2Empty_tab F) (spec_l2Empty_LS1 F) 70 (spec_l2Empty_ls3 F) (loopAt 3 (bodyOf Try.f66)) n) k)).trans (congrArg (fun kn => spec_l2Empty_s3 F b6 R (r5, out7) kn _) (funext (fun ⟨r5, out7⟩ => spec_l2Empty_iter3 F b6 k n r5 out7))))
theorem spec_l2Empty_lok3 (F : Nat) : LoopOK Try.prog (loopAt 3 (bodyOf Try.f66)) (spec_l2Empty_ls3 F) := by
  refine loopOK_of mixed ttok deep (spec_l2Empty_tabok F) (loopsOK_at (spec_l2Empty_lsok1 F) 3) (fuel := 70) fun R vals mem np killed k x h => ?_
  simp only [spec_l2Empty_ls3] at h
  split at h
  · rename_i q_out4 r5 b6 out7
    simp only [GT.run] at h
    have hc := (cond_noneL h).1
    replace h := (cond_noneL h).2
    have hg := (and_split hc).1
    replace hc := (and_split hc).2
    obtain rfl := nbeq_nat hg
    refine ⟨F, (spec_l2Empty_iter3 F b6 k F r5 out7).trans ((loopC_use (spec_l2Empty_s3_nat F b6) hc _).trans h)⟩
  · simp only [GT.run] at h
    cases h
noncomputable def spec_l2Empty_LS2 (F : Nat) : LT := (3, spec_l2Empty_ls3 F) :: spec_l2Empty_LS1 F
theorem spec_l2Empty_lsok2 (F : Nat) : LoopsOK Try.prog (spec_l2Empty_LS2 F) (bodyOf Try.f66) := loopsOK_cons spec_l2Empty_keys (spec_l2Empty_lok3 F) (spec_l2Empty_lsok1 F)
theorem spec_l2Empty_run (F : Nat) (b0 : List Int) : runS tt (spec_l2Empty_tab F) (spec_l2Empty_LS2 F) [] [] Try.f66 (bodyOf Try.f66) 70 [(.ints 16 b0)] [] = spec_l2Empty_c _ F b0 (fun r => some ⟨(.sl 0 0 (List.length r)), [(.vec 49 (.rr 2 r))], []⟩) := by kernel_rfl
def spec_l2Empty_ent (F : Nat) : Ent := ⟨[], .fresh, fun args mem => match args, mem with
  | [(.ints 16 b0)], [] => some ((spec_l2Empty_p F b0).isSome, ⟨(.sl 0 0 (List.length ((spec_l2Empty_p F b0).getD default))), [(.vec 49 (.rr 2 ((spec_l2Empty_p F b0).getD default)))], []⟩)
  | _, _ => none⟩
theorem spec_l2Empty_fok : FunOK Try.prog 66 := funOK Try.func66 (by kernel_rfl) rfl
theorem spec_l2Empty_meets (F : Nat) : Meets Try.prog 66 (spec_l2Empty_ent F) := by
  refine meets_of_runS mixed ttok deep (spec_l2Empty_tabok F) Try.func66 (body_some rfl) (spec_l2Empty_lsok2 F) fun args mem hfit ret h => ?_
  clear hfit
  simp only [spec_l2Empty_ent] at h
  split at h
  · rename_i b0
    simp only [Option.some.injEq, Prod.mk.injEq] at h
    obtain ⟨hc, rfl⟩ := h
    exact ⟨[], [], 70, _, (spec_l2Empty_run F b0).trans ((spec_l2Empty_cp _ F b0 _).trans (bind_use hc _)), rfl, rfl, rfl⟩
  · cases h

/-! loop.example/g01194/spec.l5Steps -/
noncomputable def spec_l5Steps_tab (F : Nat) : Tab := [(29, (spec_l2Slide_ent F)), (66, (spec_l2Empty_ent F))]
theorem spec_l5Steps_tabok (F : Nat) : TabOK Try.prog (spec_l5Steps_tab F) := (tab_cons (spec_l2Slide_meets F) spec_l2Slide_fok (tab_cons (spec_l2Empty_meets F) spec_l2Empty_fok tab_nil))
noncomputable def spec_l5Steps_LS0 (F : Nat) : LT := []
theorem spec_l5Steps_lsok0 (F : Nat) : LoopsOK Try.prog (spec_l5Steps_LS0 F) (bodyOf Try.f52) := loopsOK_nil
theorem spec_l5Steps_keys : keysOK (bodyOf Try.f52) = true := by kernel_rfl
def spec_l5Steps_st7 (d0 : Int) (empty7 : List (List Int)) (i5 : Int) (out6 : List (List Int)) : St := ⟨expand 45 0 [1, 5, 8, 9] [(.int .i64 d0), (.sl 0 0 (List.length out6)), (.sl 1 0 (List.length empty7)), (.int .i64 i5)], [(.vec 60 (.rr 4 out6)), (.vec 49 (.rr 2 empty7))], 0, []⟩
def spec_l5Steps_o7 (d0 : Int) (empty7 : List (List Int)) (x : List (List Int)) : GT := (.out (.exit 0 ⟨expand 45 0 [5] [(.sl 0 0 (List.length x))], [(.vec 60 (.rr 4 x))], 0, []⟩))
def spec_l5Steps_ls7 (F : Nat) : LoopS := ⟨45, [1, 5, 8, 9], [], [5], [], [4], [], [], fun vals mem np killed => match vals, mem, np, killed with
  | [(.int .i64 d0), (.sl 0 0 q_out2), (.sl 1 0 q_empty4), (.int .i64 i5)], [(.vec 60 (.rr 4 out6)), (.vec 49 (.rr 2 empty7))], 0, [] => .br ((Nat.beq q_out2 (List.length out6)) && ((Nat.beq q_empty4 (List.length empty7)) && (spec_l5Steps_l7 F d0 empty7 i5 out6).isSome)) (spec_l5Steps_o7 d0 empty7 ((spec_l5Steps_l7 F d0 empty7 i5 out6).getD default)) .fail
  | _, _, _, _ => .fail⟩
theorem spec_l5Steps_step7 (F : Nat) (d0 : Int) (empty7 : List (List Int)) (i5 : Int) (out6 : List (List Int)) {R : Type} (k : Out → Option R) : stepS tt (spec_l5Steps_tab F) (spec_l5Steps_LS0 F) 70 (spec_l5Steps_ls7 F) (loopAt 7 (bodyOf Try.f52)) (spec_l5Steps_st7 d0 empty7 i5 out6) k = spec_l5Steps_s7 F d0 empty7 R (i5, out6) (fun s => k (.norm (spec_l5Steps_st7 d0 empty7 s.1 s.2))) (fun x => (spec_l5Steps_o7 d0 empty7 x).run k) := by kernel_rfl
theorem spec_l5Steps_iter7 (F : Nat) (d0 : Int) (empty7 : List (List Int)) {R : Type} (k : Out → Option R) : ∀ (n : Nat) (i5 : Int) (out6 : List (List Int)), iterS tt (spec_l5Steps_tab F) (spec_l5Steps_LS0 F) 70 (spec_l5Steps_ls7 F) (loopAt 7 (bodyOf Try.f52)) n (spec_l5Steps_st7 d0 empty7 i5 out6) k = loopC (spec_l5Steps_s7 F d0 empty7) n (i5, out6) (fun x => (spec_l5Steps_o7 d0 empty7 x).run k)
  | 0, i5, out6 => rfl
  | n + 1, i5, out6 => (iterS_succ tt (spec_l5Steps_tab F) (spec_l5Steps_LS0 F) 70 (spec_l5Steps_ls7 F) (loopAt 7 (bodyOf Try.f52)) n (spec_l5Steps_st7 d0 empty7 i5 out6) k).trans ((spec_l5Steps_step7 F d0 empty7 i5 out6 (nextK (iterS tt (spec_l5Steps_tab F) (spec_l5Steps_LS0 F) 70 (spec_l5Steps_ls7 F) (loopAt 7 (bodyOf Try.f52)) n) k)).trans (congrArg (fun kn => spec_l5Steps_s7 F d0 empty7 R (i5, out6) kn _) (funext (fun ⟨i5, out6⟩ => spec_l5Steps_iter7 F d0 empty7 k n i5 out6))))
theorem spec_l5Steps_lok7 (F : Nat) : LoopOK Try.prog (loopAt 7 (bodyOf Try.f52)) (spec_l5Steps_ls7 F) := by
  refine loopOK_of mixed ttok deep (spec_l5Steps_tabok F) (loopsOK_at (spec_l5Steps_lsok0 F) 7) (fuel := 70) fun R vals mem np killed k x h => ?_
  simp only [spec_l5Steps_ls7] at h
  split at h
  · rename_i d0 q_out2 q_empty4 i5 out6 empty7
    simp only [GT.run] at h
    have hc := (cond_noneL h).1
    replace h := (cond_noneL h).2
    have hg := (and_split hc).1
    replace hc := (and_split hc).2
    obtain rfl := nbeq_nat hg
    have hg := (and_split hc).1
    replace hc := (and_split hc).2
    obtain rfl := nbeq_nat hg
    refine ⟨F, (spec_l5Steps_iter7 F d0 empty7 k F i5 out6).trans ((loopC_use (spec_l5Steps_s7_nat F d0 empty7) hc _).trans h)⟩
  · simp only [GT.run] at h
    cases h
noncomputable def spec_l5Steps_LS1 (F : Nat) : LT := (7, spec_l5Steps_ls7 F) :: spec_l5Steps_LS0 F
theorem spec_l5Steps_lsok1 (F : Nat) : LoopsOK Try.prog (spec_l5Steps_LS1 F) (bodyOf Try.f52) := loopsOK_cons spec_l5Steps_keys (spec_l5Steps_lok7 F) (spec_l5Steps_lsok0 F)
theorem spec_l5Steps_run (F : Nat) (b0 : List Int) (d1 : Int) : runS tt (spec_l5Steps_tab F) (spec_l5Steps_LS1 F) [] [] Try.f52 (bodyOf Try.f52) 70 [(.ints 16 b0), (.int .i64 d1)] [] = spec_l5Steps_c _ F b0 d1 (fun r => some ⟨(.sl 0 0 (List.length r)), [(.vec 60 (.rr 4 r))], []⟩) := by kernel_rfl
def spec_l5Steps_ent (F : Nat) : Ent := ⟨[], .fresh, fun args mem => match args, mem with
  | [(.ints 16 b0), (.int .i64 d1)], [] => some ((spec_l5Steps_p F b0 d1).isSome, ⟨(.sl 0 0 (List.length ((spec_l5Steps_p F b0 d1).getD default))), [(.vec 60 (.rr 4 ((spec_l5Steps_p F b0 d1).getD default)))], []⟩)
  | _, _ => none⟩
theorem spec_l5Steps_fok : FunOK Try.prog 52 := funOK Try.func52 (by kernel_rfl) rfl
theorem spec_l5Steps_meets (F : Nat) : Meets Try.prog 52 (spec_l5Steps_ent F) := by
  refine meets_of_runS mixed ttok deep (spec_l5Steps_tabok F) Try.func52 (body_some rfl) (spec_l5Steps_lsok1 F) fun args mem hfit ret h => ?_
  clear hfit
  simp only [spec_l5Steps_ent] at h
  split at h
  · rename_i b0 d1
    simp only [Option.some.injEq, Prod.mk.injEq] at h
    obtain ⟨hc, rfl⟩ := h
    exact ⟨[], [], 70, _, (spec_l5Steps_run F b0 d1).trans ((spec_l5Steps_cp _ F b0 d1 _).trans (bind_use hc _)), rfl, rfl, rfl⟩
  · cases h
end Go.Proofs.Ytkclnchkemacgaa
