/-
Pure functions and what the code of them does, by program; without conditions.
-/
import Derived.Test.YtabfliifleonaahQhP4
import Derived.Test.YtabfliifleonaahQhS3
namespace Go.Proofs.Ytabfliifleonaah
open Go Go.Lv Go.Lv.P Go.Proofs
set_option linter.unusedVariables false
set_option linter.unusedSimpArgs false
set_option maxRecDepth 100000
/-! (loop.example/g01194/impl.Board).highest -/
noncomputable def impl_Board_highest_tab (F : Nat) : Tab := [(57, (impl_cells_ent F)), (58, (impl_Board_at_ent F))]
theorem impl_Board_highest_tabok (F : Nat) : TabOK Try.prog (impl_Board_highest_tab F) := (tab_cons (impl_cells_meets F) impl_cells_fok (tab_cons (impl_Board_at_meets F) impl_Board_at_fok tab_nil))
noncomputable def impl_Board_highest_LS0 (F : Nat) : LT := []
theorem impl_Board_highest_lsok0 (F : Nat) : LoopsOK Try.prog (impl_Board_highest_LS0 F) (bodyOf Try.f34) := loopsOK_nil
theorem impl_Board_highest_keys : keysOK (bodyOf Try.f34) = true := by kernel_rfl
def impl_Board_highest_st3 (b14 : List Int) (most6 : Int) (t1213 : Int) (at16 : List Int) : St := ⟨expand 28 0 [1, 3, 4, 5, 10, 11, 12] [(.ptr 0 0 0 16), (.ptr 1 0 0 2), (.int .i64 most6), (.ptr 2 0 0 2), (.sl 3 0 16), (.int .i64 (16 : Int)), (.int .i64 t1213)], [(.var 16 (.ri .i64 b14)), (.var 2 (.ri .i64 [(0 : Int), (0 : Int)])), (.var 2 (.ri .i64 at16)), (.vec 40 (.rr 2 [[(0 : Int), (0 : Int)], [(0 : Int), (1 : Int)], [(0 : Int), (2 : Int)], [(0 : Int), (3 : Int)], [(1 : Int), (0 : Int)], [(1 : Int), (1 : Int)], [(1 : Int), (2 : Int)], [(1 : Int), (3 : Int)], [(2 : Int), (0 : Int)], [(2 : Int), (1 : Int)], [(2 : Int), (2 : Int)], [(2 : Int), (3 : Int)], [(3 : Int), (0 : Int)], [(3 : Int), (1 : Int)], [(3 : Int), (2 : Int)], [(3 : Int), (3 : Int)]]))], 0, []⟩
def impl_Board_highest_o3 (b14 : List Int) (x : Int × List Int) : GT := (.out (.exit 0 ⟨expand 28 0 [3, 4, 5] [(.ptr 0 0 0 2), (.int .i64 x.1), (.ptr 1 0 0 2)], [(.var 2 (.ri .i64 [(0 : Int), (0 : Int)])), (.var 2 (.ri .i64 x.2))], 0, []⟩))
def impl_Board_highest_ls3 (F : Nat) : LoopS := ⟨28, [1, 3, 4, 5, 10, 11, 12], [], [3, 4, 5], [], [2, 3], [], [], fun vals mem np killed => match vals, mem, np, killed with
  | [(.ptr 0 0 0 16), (.ptr 1 0 0 2), (.int .i64 most6), (.ptr 2 0 0 2), (.sl 3 0 q_t1011), (.int .i64 q_t1112), (.int .i64 t1213)], [(.var 16 (.ri .i64 b14)), (.var 2 (.ri .i64 q_t315)), (.var 2 (.ri .i64 at16)), (.vec 40 (.rr 2 q_t1017))], 0, [] => .br ((q_t1112 == (16 : Int)) && ((q_t315 == ([(0 : Int), (0 : Int)] : List Int)) && ((q_t1017 == ([[(0 : Int), (0 : Int)], [(0 : Int), (1 : Int)], [(0 : Int), (2 : Int)], [(0 : Int), (3 : Int)], [(1 : Int), (0 : Int)], [(1 : Int), (1 : Int)], [(1 : Int), (2 : Int)], [(1 : Int), (3 : Int)], [(2 : Int), (0 : Int)], [(2 : Int), (1 : Int)], [(2 : Int), (2 : Int)], [(2 : Int), (3 : Int)], [(3 : Int), (0 : Int)], [(3 : Int), (1 : Int)], [(3 : Int), (2 : Int)], [(3 : Int), (3 : Int)]] : List (List Int))) && ((Nat.beq q_t1011 16) && (impl_Board_highest_l3 F b14 most6 t1213 at16).isSome)))) (impl_Board_highest_o3 b14 ((impl_Board_highest_l3 F b14 most6 t1213 at16).getD default)) .fail
  | _, _, _, _ => .fail⟩
theorem impl_Board_highest_step3 (F : Nat) (b14 : List Int) (most6 : Int) (t1213 : Int) (at16 : List Int) {R : Type} (k : Out → Option R) : stepS tt (impl_Board_highest_tab F) (impl_Board_highest_LS0 F) 70 (impl_Board_highest_ls3 F) (loopAt 3 (bodyOf Try.f34)) (impl_Board_highest_st3 b14 most6 t1213 at16) k = impl_Board_highest_s3 F b14 R (most6, t1213, at16) (fun s => k (.norm (impl_Board_highest_st3 b14 s.1 s.2.1 s.2.2))) (fun x => (impl_Board_highest_o3 b14 x).run k) := by kernel_rfl
theorem impl_Board_highest_iter3 (F : Nat) (b14 : List Int) {R : Type} (k : Out → Option R) : ∀ (n : Nat) (most6 : Int) (t1213 : Int) (at16 : List Int), iterS tt (impl_Board_highest_tab F) (impl_Board_highest_LS0 F) 70 (impl_Board_highest_ls3 F) (loopAt 3 (bodyOf Try.f34)) n (impl_Board_highest_st3 b14 most6 t1213 at16) k = loopC (impl_Board_highest_s3 F b14) n (most6, t1213, at16) (fun x => (impl_Board_highest_o3 b14 x).run k)
  | 0, most6, t1213, at16 => rfl
  | n + 1, most6, t1213, at16 => (iterS_succ tt (impl_Board_highest_tab F) (impl_Board_highest_LS0 F) 70 (impl_Board_highest_ls3 F) (loopAt 3 (bodyOf Try.f34)) n (impl_Board_highest_st3 b14 most6 t1213 at16) k).trans ((impl_Board_highest_step3 F b14 most6 t1213 at16 (nextK (iterS tt (impl_Board_highest_tab F) (impl_Board_highest_LS0 F) 70 (impl_Board_highest_ls3 F) (loopAt 3 (bodyOf Try.f34)) n) k)).trans (congrArg (fun kn => impl_Board_highest_s3 F b14 R (most6, t1213, at16) kn _) (funext (fun ⟨most6, t1213, at16⟩ => impl_Board_highest_iter3 F b14 k n most6 t1213 at16))))
theorem impl_Board_highest_lok3 (F : Nat) : LoopOK Try.prog (loopAt 3 (bodyOf Try.f34)) (impl_Board_highest_ls3 F) := by
  refine loopOK_of mixed ttok deep (impl_Board_highest_tabok F) (loopsOK_at (impl_Board_highest_lsok0 F) 3) (fuel := 70) fun R vals mem np killed k x h => ?_
  simp only [impl_Board_highest_ls3] at h
  split at h
  · rename_i most6 q_t1011 q_t1112 t1213 b14 q_t315 at16 q_t1017
    simp only [GT.run] at h
    have hc := (cond_noneL h).1
    replace h := (cond_noneL h).2
    have hg := (and_split hc).1
    replace hc := (and_split hc).2
    obtain rfl := beq_int hg
    have hg := (and_split hc).1
    replace hc := (and_split hc).2
    obtain rfl := beq_li hg
    have hg := (and_split hc).1
    replace hc := (and_split hc).2
    obtain rfl := beq_lli hg
    have hg := (and_split hc).1
    replace hc := (and_split hc).2
    obtain rfl := nbeq_nat hg
    refine ⟨F, (impl_Board_highest_iter3 F b14 k F most6 t1213 at16).trans ((loopC_use (impl_Board_highest_s3_nat F b14) hc _).trans h)⟩
  · simp only [GT.run] at h
    cases h
noncomputable def impl_Board_highest_LS1 (F : Nat) : LT := (3, impl_Board_highest_ls3 F) :: impl_Board_highest_LS0 F
theorem impl_Board_highest_lsok1 (F : Nat) : LoopsOK Try.prog (impl_Board_highest_LS1 F) (bodyOf Try.f34) := loopsOK_cons impl_Board_highest_keys (impl_Board_highest_lok3 F) (impl_Board_highest_lsok0 F)
theorem impl_Board_highest_run (F : Nat) (b0 : List Int) : runS tt (impl_Board_highest_tab F) (impl_Board_highest_LS1 F) [] [] Try.f34 (bodyOf Try.f34) 70 [(.ints 16 b0)] [] = impl_Board_highest_c _ F b0 (fun r => some ⟨(.tup [(.int .i64 r.1), (.ints 2 r.2)]), [], []⟩) := by kernel_rfl
def impl_Board_highest_ent (F : Nat) : Ent := ⟨[], .quiet, fun args mem => match args, mem with
  | [(.ints 16 b0)], [] => some ((impl_Board_highest_p F b0).isSome, ⟨(.tup [(.int .i64 ((impl_Board_highest_p F b0).getD default).1), (.ints 2 ((impl_Board_highest_p F b0).getD default).2)]), [], []⟩)
  | _, _ => none⟩
theorem impl_Board_highest_fok : FunOK Try.prog 34 := funOK Try.func34 (by kernel_rfl) rfl
theorem impl_Board_highest_meets (F : Nat) : Meets Try.prog 34 (impl_Board_highest_ent F) := by
  refine meets_of_runS mixed ttok deep (impl_Board_highest_tabok F) Try.func34 (body_some rfl) (impl_Board_highest_lsok1 F) fun args mem hfit ret h => ?_
  clear hfit
  simp only [impl_Board_highest_ent] at h
  split at h
  · rename_i b0
    simp only [Option.some.injEq, Prod.mk.injEq] at h
    obtain ⟨hc, rfl⟩ := h
    exact ⟨[], [], 70, _, (impl_Board_highest_run F b0).trans ((impl_Board_highest_cp _ F b0 _).trans (bind_use hc _)), rfl, rfl, rfl⟩
  · cases h

/-! loop.example/g01194/impl.HighestBySlides -/
noncomputable def impl_HighestBySlides_tab (F : Nat) : Tab := [(23, (impl_IsBoard_ent F)), (33, (impl_Board_reach_ent F)), (34, (impl_Board_highest_ent F))]
theorem impl_HighestBySlides_tabok (F : Nat) : TabOK Try.prog (impl_HighestBySlides_tab F) := (tab_cons (impl_IsBoard_meets F) impl_IsBoard_fok (tab_cons (impl_Board_reach_meets F) impl_Board_reach_fok (tab_cons (impl_Board_highest_meets F) impl_Board_highest_fok tab_nil)))
noncomputable def impl_HighestBySlides_LS0 (F : Nat) : LT := []
theorem impl_HighestBySlides_lsok0 (F : Nat) : LoopsOK Try.prog (impl_HighestBySlides_LS0 F) (bodyOf Try.f13) := loopsOK_nil
theorem impl_HighestBySlides_keys : keysOK (bodyOf Try.f13) = true := by kernel_rfl
def impl_HighestBySlides_st6 (t203 : Int) (t195 : List (List Int)) (most0 : Int) (t214 : Int) : St := ⟨expand 35 0 [6, 19, 20, 21] [(.int .i64 most0), (.sl 0 0 (List.length t195)), (.int .i64 t203), (.int .i64 t214)], [(.vec 27 (.rr 16 t195))], 0, []⟩
def impl_HighestBySlides_o6 (t203 : Int) (t195 : List (List Int)) (x : Int) : GT := (.out (.exit 0 ⟨expand 35 0 [6] [(.int .i64 x)], [], 0, []⟩))
def impl_HighestBySlides_ls6 (F : Nat) : LoopS := ⟨35, [6, 19, 20, 21], [], [6], [], [2, 3], [], [], fun vals mem np killed => match vals, mem, np, killed with
  | [(.int .i64 most0), (.sl 0 0 q_t192), (.int .i64 t203), (.int .i64 t214)], [(.vec 27 (.rr 16 t195))], 0, [] => .br ((Nat.beq q_t192 (List.length t195)) && (impl_HighestBySlides_l6 F t203 t195 most0 t214).isSome) (impl_HighestBySlides_o6 t203 t195 ((impl_HighestBySlides_l6 F t203 t195 most0 t214).getD default)) .fail
  | _, _, _, _ => .fail⟩
theorem impl_HighestBySlides_step6 (F : Nat) (t203 : Int) (t195 : List (List Int)) (most0 : Int) (t214 : Int) {R : Type} (k : Out → Option R) : stepS tt (impl_HighestBySlides_tab F) (impl_HighestBySlides_LS0 F) 70 (impl_HighestBySlides_ls6 F) (loopAt 6 (bodyOf Try.f13)) (impl_HighestBySlides_st6 t203 t195 most0 t214) k = impl_HighestBySlides_s6 F t203 t195 R (most0, t214) (fun s => k (.norm (impl_HighestBySlides_st6 t203 t195 s.1 s.2))) (fun x => (impl_HighestBySlides_o6 t203 t195 x).run k) := by kernel_rfl
theorem impl_HighestBySlides_iter6 (F : Nat) (t203 : Int) (t195 : List (List Int)) {R : Type} (k : Out → Option R) : ∀ (n : Nat) (most0 : Int) (t214 : Int), iterS tt (impl_HighestBySlides_tab F) (impl_HighestBySlides_LS0 F) 70 (impl_HighestBySlides_ls6 F) (loopAt 6 (bodyOf Try.f13)) n (impl_HighestBySlides_st6 t203 t195 most0 t214) k = loopC (impl_HighestBySlides_s6 F t203 t195) n (most0, t214) (fun x => (impl_HighestBySlides_o6 t203 t195 x).run k)
  | 0, most0, t214 => rfl
  | n + 1, most0, t214 => (iterS_succ tt (impl_HighestBySlides_tab F) (impl_HighestBySlides_LS0 F) 70 (impl_HighestBySlides_ls6 F) (loopAt 6 (bodyOf Try.f13)) n (impl_HighestBySlides_st6 t203 t195 most0 t214) k).trans ((impl_HighestBySlides_step6 F t203 t195 most0 t214 (nextK (iterS tt (impl_HighestBySlides_tab F) (impl_HighestBySlides_LS0 F) 70 (impl_HighestBySlides_ls6 F) (loopAt 6 (bodyOf Try.f13)) n) k)).trans (congrArg (fun kn => impl_HighestBySlides_s6 F t203 t195 R (most0, t214) kn _) (funext (fun ⟨most0, t214⟩ => impl_HighestBySlides_iter6 F t203 t195 k n most0 t214))))
theorem impl_HighestBySlides_lok6 (F : Nat) : LoopOK Try.prog (loopAt 6 (bodyOf Try.f13)) (impl_HighestBySlides_ls6 F) := by
  refine loopOK_of mixed ttok deep (impl_HighestBySlides_tabok F) (loopsOK_at (impl_HighestBySlides_lsok0 F) 6) (fuel := 70) fun R vals mem np killed k x h => ?_
  simp only [impl_HighestBySlides_ls6] at h
  split at h
  · rename_i most0 q_t192 t203 t214 t195
    simp only [GT.run] at h
    have hc := (cond_noneL h).1
    replace h := (cond_noneL h).2
    have hg := (and_split hc).1
    replace hc := (and_split hc).2
    obtain rfl := nbeq_nat hg
    refine ⟨F, (impl_HighestBySlides_iter6 F t203 t195 k F most0 t214).trans ((loopC_use (impl_HighestBySlides_s6_nat F t203 t195) hc _).trans h)⟩
  · simp only [GT.run] at h
    cases h
noncomputable def impl_HighestBySlides_LS1 (F : Nat) : LT := (6, impl_HighestBySlides_ls6 F) :: impl_HighestBySlides_LS0 F
theorem impl_HighestBySlides_lsok1 (F : Nat) : LoopsOK Try.prog (impl_HighestBySlides_LS1 F) (bodyOf Try.f13) := loopsOK_cons impl_HighestBySlides_keys (impl_HighestBySlides_lok6 F) (impl_HighestBySlides_lsok0 F)
theorem impl_HighestBySlides_run (F : Nat) (b0 : List Int) : runS tt (impl_HighestBySlides_tab F) (impl_HighestBySlides_LS1 F) [] [] Try.f13 (bodyOf Try.f13) 70 [(.ints 16 b0)] [] = impl_HighestBySlides_c _ F b0 (fun r => some ⟨(.tup [(.int .i64 r.1), (.bool r.2)]), [], []⟩) := by kernel_rfl
def impl_HighestBySlides_ent (F : Nat) : Ent := ⟨[], .quiet, fun args mem => match args, mem with
  | [(.ints 16 b0)], [] => some ((impl_HighestBySlides_p F b0).isSome, ⟨(.tup [(.int .i64 ((impl_HighestBySlides_p F b0).getD default).1), (.bool ((impl_HighestBySlides_p F b0).getD default).2)]), [], []⟩)
  | _, _ => none⟩
theorem impl_HighestBySlides_fok : FunOK Try.prog 13 := funOK Try.func13 (by kernel_rfl) rfl
theorem impl_HighestBySlides_meets (F : Nat) : Meets Try.prog 13 (impl_HighestBySlides_ent F) := by
  refine meets_of_runS mixed ttok deep (impl_HighestBySlides_tabok F) Try.func13 (body_some rfl) (impl_HighestBySlides_lsok1 F) fun args mem hfit ret h => ?_
  clear hfit
  simp only [impl_HighestBySlides_ent] at h
  split at h
  · rename_i b0
    simp only [Option.some.injEq, Prod.mk.injEq] at h
    obtain ⟨hc, rfl⟩ := h
    exact ⟨[], [], 70, _, (impl_HighestBySlides_run F b0).trans ((impl_HighestBySlides_cp _ F b0 _).trans (bind_use hc _)), rfl, rfl, rfl⟩
  · cases h

/-! loop.example/g01194/spec.l2Before -/
noncomputable def spec_l2Before_tab (F : Nat) : Tab := []
theorem spec_l2Before_tabok (F : Nat) : TabOK Try.prog (spec_l2Before_tab F) := tab_nil
noncomputable def spec_l2Before_LS0 (F : Nat) : LT := []
theorem spec_l2Before_lsok0 (F : Nat) : LoopsOK Try.prog (spec_l2Before_LS0 F) (bodyOf Try.f85) := loopsOK_nil
theorem spec_l2Before_keys : keysOK (bodyOf Try.f85) = true := by kernel_rfl
def spec_l2Before_st5 (r6 : Int) (a8 : List Int) (b9 : List Int) (c7 : Int) : St := ⟨expand 41 0 [2, 3, 5, 6] [(.ptr 0 0 0 16), (.ptr 1 0 0 16), (.int .i64 r6), (.int .i64 c7)], [(.var 16 (.ri .i64 a8)), (.var 16 (.ri .i64 b9))], 0, []⟩
def spec_l2Before_o5 (r6 : Int) (a8 : List Int) (b9 : List Int) (x : Bool × Bool) : GT := (.br x.1 (.out (.ret ⟨expand 41 0 [4] [(.bool x.2)], [], 0, []⟩)) (.out (.exit 2 ⟨expand 41 0 [2, 3, 5] [(.ptr 0 0 0 16), (.ptr 1 0 0 16), (.int .i64 r6)], [(.var 16 (.ri .i64 a8)), (.var 16 (.ri .i64 b9))], 0, []⟩)))
def spec_l2Before_ls5 (F : Nat) : LoopS := ⟨41, [2, 3, 5, 6], [], [2, 3, 5], [], [4], [], [], fun vals mem np killed => match vals, mem, np, killed with
  | [(.ptr 0 0 0 16), (.ptr 1 0 0 16), (.int .i64 r6), (.int .i64 c7)], [(.var 16 (.ri .i64 a8)), (.var 16 (.ri .i64 b9))], 0, [] => .br (spec_l2Before_l5 F r6 a8 b9 c7).isSome (spec_l2Before_o5 r6 a8 b9 ((spec_l2Before_l5 F r6 a8 b9 c7).getD default)) .fail
  | _, _, _, _ => .fail⟩
theorem spec_l2Before_step5 (F : Nat) (r6 : Int) (a8 : List Int) (b9 : List Int) (c7 : Int) {R : Type} (k : Out → Option R) : stepS tt (spec_l2Before_tab F) (spec_l2Before_LS0 F) 70 (spec_l2Before_ls5 F) (loopAt 5 (bodyOf Try.f85)) (spec_l2Before_st5 r6 a8 b9 c7) k = spec_l2Before_s5 F r6 a8 b9 R c7 (fun s => k (.norm (spec_l2Before_st5 r6 a8 b9 s))) (fun x => (spec_l2Before_o5 r6 a8 b9 x).run k) := by kernel_rfl
theorem spec_l2Before_iter5 (F : Nat) (r6 : Int) (a8 : List Int) (b9 : List Int) {R : Type} (k : Out → Option R) : ∀ (n : Nat) (c7 : Int), iterS tt (spec_l2Before_tab F) (spec_l2Before_LS0 F) 70 (spec_l2Before_ls5 F) (loopAt 5 (bodyOf Try.f85)) n (spec_l2Before_st5 r6 a8 b9 c7) k = loopC (spec_l2Before_s5 F r6 a8 b9) n c7 (fun x => (spec_l2Before_o5 r6 a8 b9 x).run k)
  | 0, c7 => rfl
  | n + 1, c7 => (iterS_succ tt (spec_l2Before_tab F) (spec_l2Before_LS0 F) 70 (spec_l2Before_ls5 F) (loopAt 5 (bodyOf Try.f85)) n (spec_l2Before_st5 r6 a8 b9 c7) k).trans ((spec_l2Before_step5 F r6 a8 b9 c7 (nextK (iterS tt (spec_l2Before_tab F) (spec_l2Before_LS0 F) 70 (spec_l2Before_ls5 F) (loopAt 5 (bodyOf Try.f85)) n) k)).trans (congrArg (fun kn => spec_l2Before_s5 F r6 a8 b9 R c7 kn _) (funext (fun c7 => spec_l2Before_iter5 F r6 a8 b9 k n c7))))
theorem spec_l2Before_lok5 (F : Nat) : LoopOK Try.prog (loopAt 5 (bodyOf Try.f85)) (spec_l2Before_ls5 F) := by
  refine loopOK_of mixed ttok deep (spec_l2Before_tabok F) (loopsOK_at (spec_l2Before_lsok0 F) 5) (fuel := 70) fun R vals mem np killed k x h => ?_
  simp only [spec_l2Before_ls5] at h
  split at h
  · rename_i r6 c7 a8 b9
    simp only [GT.run] at h
    have hc := (cond_noneL h).1
    replace h := (cond_noneL h).2
    refine ⟨F, (spec_l2Before_iter5 F r6 a8 b9 k F c7).trans ((loopC_use (spec_l2Before_s5_nat F r6 a8 b9) hc _).trans h)⟩
  · simp only [GT.run] at h
    cases h
noncomputable def spec_l2Before_LS1 (F : Nat) : LT := (5, spec_l2Before_ls5 F) :: spec_l2Before_LS0 F
theorem spec_l2Before_lsok1 (F : Nat) : LoopsOK Try.prog (spec_l2Before_LS1 F) (bodyOf Try.f85) := loopsOK_cons spec_l2Before_keys (spec_l2Before_lok5 F) (spec_l2Before_lsok0 F)
def spec_l2Before_st2 (a7 : List Int) (b8 : List Int) (r6 : Int) : St := ⟨expand 41 0 [2, 3, 5] [(.ptr 0 0 0 16), (.ptr 1 0 0 16), (.int .i64 r6)], [(.var 16 (.ri .i64 a7)), (.var 16 (.ri .i64 b8))], 0, []⟩
def spec_l2Before_o2 (a7 : List Int) (b8 : List Int) (x : Bool × Bool) : GT := (.br x.1 (.out (.ret ⟨expand 41 0 [4] [(.bool x.2)], [], 0, []⟩)) (.out (.exit 0 ⟨expand 41 0 [] [], [], 0, []⟩)))
def spec_l2Before_ls2 (F : Nat) : LoopS := ⟨41, [2, 3, 5], [], [], [], [4], [], [], fun vals mem np killed => match vals, mem, np, killed with
  | [(.ptr 0 0 0 16), (.ptr 1 0 0 16), (.int .i64 r6)], [(.var 16 (.ri .i64 a7)), (.var 16 (.ri .i64 b8))], 0, [] => .br (spec_l2Before_l2 F a7 b8 r6).isSome (spec_l2Before_o2 a7 b8 ((spec_l2Before_l2 F a7 b8 r6).getD default)) .fail
  | _, _, _, _ => .fail⟩
theorem spec_l2Before_step2 (F : Nat) (a7 : List Int) (b8 : List Int) (r6 : Int) {R : Type} (k : Out → Option R) : stepS tt (spec_l2Before_tab F) (spec_l2Before_LS1 F) 70 (spec_l2Before_ls2 F) (loopAt 2 (bodyOf Try.f85)) (spec_l2Before_st2 a7 b8 r6) k = spec_l2Before_s2 F a7 b8 R r6 (fun s => k (.norm (spec_l2Before_st2 a7 b8 s))) (fun x => (spec_l2Before_o2 a7 b8 x).run k) := by kernel_rfl
theorem spec_l2Before_iter2 (F : Nat) (a7 : List Int) (b8 : List Int) {R : Type} (k : Out → Option R) : ∀ (n : Nat) (r6 : Int), iterS tt (spec_l2Before_tab F) (spec_l2Before_LS1 F) 70 (spec_l2Before_ls2 F) (loopAt 2 (bodyOf Try.f85)) n (spec_l2Before_st2 a7 b8 r6) k = loopC (spec_l2Before_s2 F a7 b8) n r6 (fun x => (spec_l2Before_o2 a7 b8 x).run k)
  | 0, r6 => rfl
  | n + 1, r6 => (iterS_succ tt (spec_l2Before_tab F) (spec_l2Before_LS1 F) 70 (spec_l2Before_ls2 F) (loopAt 2 (bodyOf Try.f85)) n (spec_l2Before_st2 a7 b8 r6) k).trans ((spec_l2Before_step2 F a7 b8 r6 (nextK (iterS tt (spec_l2Before_tab F) (spec_l2Before_LS1 F) 70 (spec_l2Before_ls2 F) (loopAt 2 (bodyOf Try.f85)) n) k)).trans (congrArg (fun kn => spec_l2Before_s2 F a7 b8 R r6 kn _) (funext (fun r6 => spec_l2Before_iter2 F a7 b8 k n r6))))
theorem spec_l2Before_lok2 (F : Nat) : LoopOK Try.prog (loopAt 2 (bodyOf Try.f85)) (spec_l2Before_ls2 F) := by
  refine loopOK_of mixed ttok deep (spec_l2Before_tabok F) (loopsOK_at (spec_l2Before_lsok1 F) 2) (fuel := 70) fun R vals mem np killed k x h => ?_
  simp only [spec_l2Before_ls2] at h
  split at h
  · rename_i r6 a7 b8
    simp only [GT.run] at h
    have hc := (cond_noneL h).1
    replace h := (cond_noneL h).2
    refine ⟨F, (spec_l2Before_iter2 F a7 b8 k F r6).trans ((loopC_use (spec_l2Before_s2_nat F a7 b8) hc _).trans h)⟩
  · simp only [GT.run] at h
    cases h
noncomputable def spec_l2Before_LS2 (F : Nat) : LT := (2, spec_l2Before_ls2 F) :: spec_l2Before_LS1 F
theorem spec_l2Before_lsok2 (F : Nat) : LoopsOK Try.prog (spec_l2Before_LS2 F) (bodyOf Try.f85) := loopsOK_cons spec_l2Before_keys (spec_l2Before_lok2 F) (spec_l2Before_lsok1 F)
theorem spec_l2Before_run (F : Nat) (a0 : List Int) (b1 : List Int) : runS tt (spec_l2Before_tab F) (spec_l2Before_LS2 F) [] [] Try.f85 (bodyOf Try.f85) 70 [(.ints 16 a0), (.ints 16 b1)] [] = spec_l2Before_c _ F a0 b1 (fun r => some ⟨(.bool r), [], []⟩) := by kernel_rfl
def spec_l2Before_ent (F : Nat) : Ent := ⟨[], .quiet, fun args mem => match args, mem with
  | [(.ints 16 a0), (.ints 16 b1)], [] => some ((spec_l2Before_p F a0 b1).isSome, ⟨(.bool ((spec_l2Before_p F a0 b1).getD default)), [], []⟩)
  | _, _ => none⟩
theorem spec_l2Before_fok : FunOK Try.prog 85 := funOK Try.func85 (by kernel_rfl) rfl
theorem spec_l2Before_meets (F : Nat) : Meets Try.prog 85 (spec_l2Before_ent F) := by
  refine meets_of_runS mixed ttok deep (spec_l2Before_tabok F) Try.func85 (body_some rfl) (spec_l2Before_lsok2 F) fun args mem hfit ret h => ?_
  clear hfit
  simp only [spec_l2Before_ent] at h
  split at h
  · rename_i a0 b1
    simp only [Option.some.injEq, Prod.mk.injEq] at h
    obtain ⟨hc, rfl⟩ := h
    exact ⟨[], [], 70, _, (spec_l2Before_run F a0 b1).trans ((spec_l2Before_cp _ F a0 b1 _).trans (bind_use hc _)), rfl, rfl, rfl⟩
  · cases h

/-! loop.example/g01194/spec.l3Add -/
noncomputable def spec_l3Add_tab (F : Nat) : Tab := [(85, (spec_l2Before_ent F))]
theorem spec_l3Add_tabok (F : Nat) : TabOK Try.prog (spec_l3Add_tab F) := (tab_cons (spec_l2Before_meets F) spec_l2Before_fok tab_nil)
noncomputable def spec_l3Add_LS0 (F : Nat) : LT := []
theorem spec_l3Add_lsok0 (F : Nat) : LoopsOK Try.prog (spec_l3Add_LS0 F) (bodyOf Try.f78) := loopsOK_nil
theorem spec_l3Add_keys : keysOK (bodyOf Try.f78) = true := by kernel_rfl
def spec_l3Add_st2 (all0 : List (List Int)) (b5 : List Int) (n4 : Int) : St := ⟨expand 45 0 [0, 3, 5] [(.rr 16 all0), (.ptr 0 0 0 16), (.int .i64 n4)], [(.var 16 (.ri .i64 b5))], 0, []⟩
def spec_l3Add_o2 (all0 : List (List Int)) (b5 : List Int) (x : Int) : GT := (.out (.exit 0 ⟨expand 45 0 [0, 3, 5] [(.rr 16 all0), (.ptr 0 0 0 16), (.int .i64 x)], [(.var 16 (.ri .i64 b5))], 0, []⟩))
def spec_l3Add_ls2 (F : Nat) : LoopS := ⟨45, [0, 3, 5], [], [0, 3, 5], [], [4], [], [], fun vals mem np killed => match vals, mem, np, killed with
  | [(.rr 16 all0), (.ptr 0 0 0 16), (.int .i64 n4)], [(.var 16 (.ri .i64 b5))], 0, [] => .br (spec_l3Add_l2 F all0 b5 n4).isSome (spec_l3Add_o2 all0 b5 ((spec_l3Add_l2 F all0 b5 n4).getD default)) .fail
  | _, _, _, _ => .fail⟩
theorem spec_l3Add_step2 (F : Nat) (all0 : List (List Int)) (b5 : List Int) (n4 : Int) {R : Type} (k : Out → Option R) : stepS tt (spec_l3Add_tab F) (spec_l3Add_LS0 F) 70 (spec_l3Add_ls2 F) (loopAt 2 (bodyOf Try.f78)) (spec_l3Add_st2 all0 b5 n4) k = spec_l3Add_s2 F all0 b5 R n4 (fun s => k (.norm (spec_l3Add_st2 all0 b5 s))) (fun x => (spec_l3Add_o2 all0 b5 x).run k) := by kernel_rfl
theorem spec_l3Add_iter2 (F : Nat) (all0 : List (List Int)) (b5 : List Int) {R : Type} (k : Out → Option R) : ∀ (n : Nat) (n4 : Int), iterS tt (spec_l3Add_tab F) (spec_l3Add_LS0 F) 70 (spec_l3Add_ls2 F) (loopAt 2 (bodyOf Try.f78)) n (spec_l3Add_st2 all0 b5 n4) k = loopC (spec_l3Add_s2 F all0 b5) n n4 (fun x => (spec_l3Add_o2 all0 b5 x).run k)
  | 0, n4 => rfl
  | n + 1, n4 => (iterS_succ tt (spec_l3Add_tab F) (spec_l3Add_LS0 F) 70 (spec_l3Add_ls2 F) (loopAt 2 (bodyOf Try.f78)) n (spec_l3Add_st2 all0 b5 n4) k).trans ((spec_l3Add_step2 F all0 b5 n4 (nextK (iterS tt (spec_l3Add_tab F) (spec_l3Add_LS0 F) 70 (spec_l3Add_ls2 F) (loopAt 2 (bodyOf Try.f78)) n) k)).trans (congrArg (fun kn => spec_l3Add_s2 F all0 b5 R n4 kn _) (funext (fun n4 => spec_l3Add_iter2 F all0 b5 k n n4))))
theorem spec_l3Add_lok2 (F : Nat) : LoopOK Try.prog (loopAt 2 (bodyOf Try.f78)) (spec_l3Add_ls2 F) := by
  refine loopOK_of mixed ttok deep (spec_l3Add_tabok F) (loopsOK_at (spec_l3Add_lsok0 F) 2) (fuel := 70) fun R vals mem np killed k x h => ?_
  simp only [spec_l3Add_ls2] at h
  split at h
  · rename_i all0 n4 b5
    simp only [GT.run] at h
    have hc := (cond_noneL h).1
    replace h := (cond_noneL h).2
    refine ⟨F, (spec_l3Add_iter2 F all0 b5 k F n4).trans ((loopC_use (spec_l3Add_s2_nat F all0 b5) hc _).trans h)⟩
  · simp only [GT.run] at h
    cases h
noncomputable def spec_l3Add_LS1 (F : Nat) : LT := (2, spec_l3Add_ls2 F) :: spec_l3Add_LS0 F
theorem spec_l3Add_lsok1 (F : Nat) : LoopsOK Try.prog (spec_l3Add_LS1 F) (bodyOf Try.f78) := loopsOK_cons spec_l3Add_keys (spec_l3Add_lok2 F) (spec_l3Add_lsok0 F)
theorem spec_l3Add_run (F : Nat) (all0 : List (List Int)) (b1 : List Int) : runS tt (spec_l3Add_tab F) (spec_l3Add_LS1 F) [⟨4, 0, (.tup [])⟩] [] Try.f78 (bodyOf Try.f78) 70 [(.rr 16 all0), (.ints 16 b1)] [] = spec_l3Add_c _ F all0 b1 (fun r => some ⟨(.rr 16 r), [], []⟩) := by kernel_rfl
def spec_l3Add_ent (F : Nat) : Ent := ⟨[], .quiet, fun args mem => match args, mem with
  | [(.rr 16 all0), (.ints 16 b1)], [] => some ((spec_l3Add_p F all0 b1).isSome, ⟨(.rr 16 ((spec_l3Add_p F all0 b1).getD default)), [], []⟩)
  | _, _ => none⟩
theorem spec_l3Add_fok : FunOK Try.prog 78 := funOK Try.func78 (by kernel_rfl) rfl
theorem spec_l3Add_meets (F : Nat) : Meets Try.prog 78 (spec_l3Add_ent F) := by
  refine meets_of_runS mixed ttok deep (spec_l3Add_tabok F) Try.func78 (body_some rfl) (spec_l3Add_lsok1 F) fun args mem hfit ret h => ?_
  clear hfit
  simp only [spec_l3Add_ent] at h
  split at h
  · rename_i all0 b1
    simp only [Option.some.injEq, Prod.mk.injEq] at h
    obtain ⟨hc, rfl⟩ := h
    exact ⟨[⟨4, 0, (.tup [])⟩], [], 70, _, (spec_l3Add_run F all0 b1).trans ((spec_l3Add_cp _ F all0 b1 _).trans (bind_use hc _)), rfl, rfl, rfl⟩
  · cases h

/-! loop.example/g01194/spec.l5Next -/
noncomputable def spec_l5Next_tab (F : Nat) : Tab := [(55, (spec_l2Slide_ent F)), (78, (spec_l3Add_ent F))]
theorem spec_l5Next_tabok (F : Nat) : TabOK Try.prog (spec_l5Next_tab F) := (tab_cons (spec_l2Slide_meets F) spec_l2Slide_fok (tab_cons (spec_l3Add_meets F) spec_l3Add_fok tab_nil))
noncomputable def spec_l5Next_LS0 (F : Nat) : LT := []
theorem spec_l5Next_lsok0 (F : Nat) : LoopsOK Try.prog (spec_l5Next_LS0 F) (bodyOf Try.f59) := loopsOK_nil
theorem spec_l5Next_keys : keysOK (bodyOf Try.f59) = true := by kernel_rfl
def spec_l5Next_st6 (all0 : List (List Int)) (i2 : Int) (out1 : List (List Int)) (d3 : Int) : St := ⟨expand 32 0 [0, 3, 4, 5] [(.rr 16 all0), (.rr 16 out1), (.int .i64 i2), (.int .i64 d3)], [], 0, []⟩
def spec_l5Next_o6 (all0 : List (List Int)) (i2 : Int) (x : List (List Int)) : GT := (.out (.exit 2 ⟨expand 32 0 [0, 3, 4] [(.rr 16 all0), (.rr 16 x), (.int .i64 i2)], [], 0, []⟩))
def spec_l5Next_ls6 (F : Nat) : LoopS := ⟨32, [0, 3, 4, 5], [], [0, 3, 4], [], [2], [], [], fun vals mem np killed => match vals, mem, np, killed with
  | [(.rr 16 all0), (.rr 16 out1), (.int .i64 i2), (.int .i64 d3)], [], 0, [] => .br (spec_l5Next_l6 F all0 i2 out1 d3).isSome (spec_l5Next_o6 all0 i2 ((spec_l5Next_l6 F all0 i2 out1 d3).getD default)) .fail
  | _, _, _, _ => .fail⟩
theorem spec_l5Next_step6 (F : Nat) (all0 : List (List Int)) (i2 : Int) (out1 : List (List Int)) (d3 : Int) {R : Type} (k : Out → Option R) : stepS tt (spec_l5Next_tab F) (spec_l5Next_LS0 F) 70 (spec_l5Next_ls6 F) (loopAt 6 (bodyOf Try.f59)) (spec_l5Next_st6 all0 i2 out1 d3) k = spec_l5Next_s6 F all0 i2 R (out1, d3) (fun s => k (.norm (spec_l5Next_st6 all0 i2 s.1 s.2))) (fun x => (spec_l5Next_o6 all0 i2 x).run k) := by kernel_rfl
theorem spec_l5Next_iter6 (F : Nat) (all0 : List (List Int)) (i2 : Int) {R : Type} (k : Out → Option R) : ∀ (n : Nat) (out1 : List (List Int)) (d3 : Int), iterS tt (spec_l5Next_tab F) (spec_l5Next_LS0 F) 70 (spec_l5Next_ls6 F) (loopAt 6 (bodyOf Try.f59)) n (spec_l5Next_st6 all0 i2 out1 d3) k = loopC (spec_l5Next_s6 F all0 i2) n (out1, d3) (fun x => (spec_l5Next_o6 all0 i2 x).run k)
  | 0, out1, d3 => rfl
  | n + 1, out1, d3 => (iterS_succ tt (spec_l5Next_tab F) (spec_l5Next_LS0 F) 70 (spec_l5Next_ls6 F) (loopAt 6 (bodyOf Try.f59)) n (spec_l5Next_st6 all0 i2 out1 d3) k).trans ((spec_l5Next_step6 F all0 i2 out1 d3 (nextK (iterS tt (spec_l5Next_tab F) (spec_l5Next_LS0 F) 70 (spec_l5Next_ls6 F) (loopAt 6 (bodyOf Try.f59)) n) k)).trans (congrArg (fun kn => spec_l5Next_s6 F all0 i2 R (out1, d3) kn _) (funext (fun ⟨out1, d3⟩ => spec_l5Next_iter6 F all0 i2 k n out1 d3))))
theorem spec_l5Next_lok6 (F : Nat) : LoopOK Try.prog (loopAt 6 (bodyOf Try.f59)) (spec_l5Next_ls6 F) := by
  refine loopOK_of mixed ttok deep (spec_l5Next_tabok F) (loopsOK_at (spec_l5Next_lsok0 F) 6) (fuel := 70) fun R vals mem np killed k x h => ?_
  simp only [spec_l5Next_ls6] at h
  split at h
  · rename_i all0 out1 i2 d3
    simp only [GT.run] at h
    have hc := (cond_noneL h).1
    replace h := (cond_noneL h).2
    refine ⟨F, (spec_l5Next_iter6 F all0 i2 k F out1 d3).trans ((loopC_use (spec_l5Next_s6_nat F all0 i2) hc _).trans h)⟩
  · simp only [GT.run] at h
    cases h
noncomputable def spec_l5Next_LS1 (F : Nat) : LT := (6, spec_l5Next_ls6 F) :: spec_l5Next_LS0 F
theorem spec_l5Next_lsok1 (F : Nat) : LoopsOK Try.prog (spec_l5Next_LS1 F) (bodyOf Try.f59) := loopsOK_cons spec_l5Next_keys (spec_l5Next_lok6 F) (spec_l5Next_lsok0 F)
def spec_l5Next_st3 (all0 : List (List Int)) (out1 : List (List Int)) (i2 : Int) : St := ⟨expand 32 0 [0, 3, 4] [(.rr 16 all0), (.rr 16 out1), (.int .i64 i2)], [], 0, []⟩
def spec_l5Next_o3 (all0 : List (List Int)) (x : List (List Int)) : GT := (.out (.exit 0 ⟨expand 32 0 [3] [(.rr 16 x)], [], 0, []⟩))
def spec_l5Next_ls3 (F : Nat) : LoopS := ⟨32, [0, 3, 4], [], [3], [], [2], [], [], fun vals mem np killed => match vals, mem, np, killed with
  | [(.rr 16 all0), (.rr 16 out1), (.int .i64 i2)], [], 0, [] => .br (spec_l5Next_l3 F all0 out1 i2).isSome (spec_l5Next_o3 all0 ((spec_l5Next_l3 F all0 out1 i2).getD default)) .fail
  | _, _, _, _ => .fail⟩
theorem spec_l5Next_step3 (F : Nat) (all0 : List (List Int)) (out1 : List (List Int)) (i2 : Int) {R : Type} (k : Out → Option R) : stepS tt (spec_l5Next_tab F) (spec_l5Next_LS1 F) 70 (spec_l5Next_ls3 F) (loopAt 3 (bodyOf Try.f59)) (spec_l5Next_st3 all0 out1 i2) k = spec_l5Next_s3 F all0 R (out1, i2) (fun s => k (.norm (spec_l5Next_st3 all0 s.1 s.2))) (fun x => (spec_l5Next_o3 all0 x).run k) := by kernel_rfl
theorem spec_l5Next_iter3 (F : Nat) (all0 : List (List Int)) {R : Type} (k : Out → Option R) : ∀ (n : Nat) (out1 : List (List Int)) (i2 : Int), iterS tt (spec_l5Next_tab F) (spec_l5Next_LS1 F) 70 (spec_l5Next_ls3 F) (loopAt 3 (bodyOf Try.f59)) n (spec_l5Next_st3 all0 out1 i2) k = loopC (spec_l5Next_s3 F all0) n (out1, i2) (fun x => (spec_l5Next_o3 all0 x).run k)
  | 0, out1, i2 => rfl
  | n + 1, out1, i2 => (iterS_succ tt (spec_l5Next_tab F) (spec_l5Next_LS1 F) 70 (spec_l5Next_ls3 F) (loopAt 3 (bodyOf Try.f59)) n (spec_l5Next_st3 all0 out1 i2) k).trans ((spec_l5Next_step3 F all0 out1 i2 (nextK (iterS tt (spec_l5Next_tab F) (spec_l5Next_LS1 F) 70 (spec_l5Next_ls3 F) (loopAt 3 (bodyOf Try.f59)) n) k)).trans (congrArg (fun kn => spec_l5Next_s3 F all0 R (out1, i2) kn _) (funext (fun ⟨out1, i2⟩ => spec_l5Next_iter3 F all0 k n out1 i2))))
theorem spec_l5Next_lok3 (F : Nat) : LoopOK Try.prog (loopAt 3 (bodyOf Try.f59)) (spec_l5Next_ls3 F) := by
  refine loopOK_of mixed ttok deep (spec_l5Next_tabok F) (loopsOK_at (spec_l5Next_lsok1 F) 3) (fuel := 70) fun R vals mem np killed k x h => ?_
  simp only [spec_l5Next_ls3] at h
  split at h
  · rename_i all0 out1 i2
    simp only [GT.run] at h
    have hc := (cond_noneL h).1
    replace h := (cond_noneL h).2
    refine ⟨F, (spec_l5Next_iter3 F all0 k F out1 i2).trans ((loopC_use (spec_l5Next_s3_nat F all0) hc _).trans h)⟩
  · simp only [GT.run] at h
    cases h
noncomputable def spec_l5Next_LS2 (F : Nat) : LT := (3, spec_l5Next_ls3 F) :: spec_l5Next_LS1 F
theorem spec_l5Next_lsok2 (F : Nat) : LoopsOK Try.prog (spec_l5Next_LS2 F) (bodyOf Try.f59) := loopsOK_cons spec_l5Next_keys (spec_l5Next_lok3 F) (spec_l5Next_lsok1 F)
theorem spec_l5Next_run (F : Nat) (all0 : List (List Int)) : runS tt (spec_l5Next_tab F) (spec_l5Next_LS2 F) [] [] Try.f59 (bodyOf Try.f59) 70 [(.rr 16 all0)] [] = spec_l5Next_c _ F all0 (fun r => some ⟨(.rr 16 r), [], []⟩) := by kernel_rfl
def spec_l5Next_ent (F : Nat) : Ent := ⟨[], .quiet, fun args mem => match args, mem with
  | [(.rr 16 all0)], [] => some ((spec_l5Next_p F all0).isSome, ⟨(.rr 16 ((spec_l5Next_p F all0).getD default)), [], []⟩)
  | _, _ => none⟩
theorem spec_l5Next_fok : FunOK Try.prog 59 := funOK Try.func59 (by kernel_rfl) rfl
theorem spec_l5Next_meets (F : Nat) : Meets Try.prog 59 (spec_l5Next_ent F) := by
  refine meets_of_runS mixed ttok deep (spec_l5Next_tabok F) Try.func59 (body_some rfl) (spec_l5Next_lsok2 F) fun args mem hfit ret h => ?_
  clear hfit
  simp only [spec_l5Next_ent] at h
  split at h
  · rename_i all0
    simp only [Option.some.injEq, Prod.mk.injEq] at h
    obtain ⟨hc, rfl⟩ := h
    exact ⟨[], [], 70, _, (spec_l5Next_run F all0).trans ((spec_l5Next_cp _ F all0 _).trans (bind_use hc _)), rfl, rfl, rfl⟩
  · cases h

/-! loop.example/g01194/spec.l5Reach -/
noncomputable def spec_l5Reach_tab (F : Nat) : Tab := [(59, (spec_l5Next_ent F))]
theorem spec_l5Reach_tabok (F : Nat) : TabOK Try.prog (spec_l5Reach_tab F) := (tab_cons (spec_l5Next_meets F) spec_l5Next_fok tab_nil)
noncomputable def spec_l5Reach_LS0 (F : Nat) : LT := []
theorem spec_l5Reach_lsok0 (F : Nat) : LoopsOK Try.prog (spec_l5Reach_LS0 F) (bodyOf Try.f35) := loopsOK_nil
theorem spec_l5Reach_keys : keysOK (bodyOf Try.f35) = true := by kernel_rfl
def spec_l5Reach_st3 (n0 : Int) (all1 : List (List Int)) (i2 : Int) : St := ⟨expand 17 0 [1, 5, 6] [(.int .i64 n0), (.rr 16 all1), (.int .i64 i2)], [], 0, []⟩
def spec_l5Reach_o3 (n0 : Int) (x : List (List Int)) : GT := (.out (.exit 0 ⟨expand 17 0 [5] [(.rr 16 x)], [], 0, []⟩))
def spec_l5Reach_ls3 (F : Nat) : LoopS := ⟨17, [1, 5, 6], [⟨5, 0, (.tup [])⟩], [5], [], [4], [], [], fun vals mem np killed => match vals, mem, np, killed with
  | [(.int .i64 n0), (.rr 16 all1), (.int .i64 i2)], [], 0, [] => .br (spec_l5Reach_l3 F n0 all1 i2).isSome (spec_l5Reach_o3 n0 ((spec_l5Reach_l3 F n0 all1 i2).getD default)) .fail
  | _, _, _, _ => .fail⟩
theorem spec_l5Reach_step3 (F : Nat) (n0 : Int) (all1 : List (List Int)) (i2 : Int) {R : Type} (k : Out → Option R) : stepS tt (spec_l5Reach_tab F) (spec_l5Reach_LS0 F) 70 (spec_l5Reach_ls3 F) (loopAt 3 (bodyOf Try.f35)) (spec_l5Reach_st3 n0 all1 i2) k = spec_l5Reach_s3 F n0 R (all1, i2) (fun s => k (.norm (spec_l5Reach_st3 n0 s.1 s.2))) (fun x => (spec_l5Reach_o3 n0 x).run k) := by kernel_rfl
theorem spec_l5Reach_iter3 (F : Nat) (n0 : Int) {R : Type} (k : Out → Option R) : ∀ (n : Nat) (all1 : List (List Int)) (i2 : Int), iterS tt (spec_l5Reach_tab F) (spec_l5Reach_LS0 F) 70 (spec_l5Reach_ls3 F) (loopAt 3 (bodyOf Try.f35)) n (spec_l5Reach_st3 n0 all1 i2) k = loopC (spec_l5Reach_s3 F n0) n (all1, i2) (fun x => (spec_l5Reach_o3 n0 x).run k)
  | 0, all1, i2 => rfl
  | n + 1, all1, i2 => (iterS_succ tt (spec_l5Reach_tab F) (spec_l5Reach_LS0 F) 70 (spec_l5Reach_ls3 F) (loopAt 3 (bodyOf Try.f35)) n (spec_l5Reach_st3 n0 all1 i2) k).trans ((spec_l5Reach_step3 F n0 all1 i2 (nextK (iterS tt (spec_l5Reach_tab F) (spec_l5Reach_LS0 F) 70 (spec_l5Reach_ls3 F) (loopAt 3 (bodyOf Try.f35)) n) k)).trans (congrArg (fun kn => spec_l5Reach_s3 F n0 R (all1, i2) kn _) (funext (fun ⟨all1, i2⟩ => spec_l5Reach_iter3 F n0 k n all1 i2))))
theorem spec_l5Reach_lok3 (F : Nat) : LoopOK Try.prog (loopAt 3 (bodyOf Try.f35)) (spec_l5Reach_ls3 F) := by
  refine loopOK_of mixed ttok deep (spec_l5Reach_tabok F) (loopsOK_at (spec_l5Reach_lsok0 F) 3) (fuel := 70) fun R vals mem np killed k x h => ?_
  simp only [spec_l5Reach_ls3] at h
  split at h
  · rename_i n0 all1 i2
    simp only [GT.run] at h
    have hc := (cond_noneL h).1
    replace h := (cond_noneL h).2
    refine ⟨F, (spec_l5Reach_iter3 F n0 k F all1 i2).trans ((loopC_use (spec_l5Reach_s3_nat F n0) hc _).trans h)⟩
  · simp only [GT.run] at h
    cases h
noncomputable def spec_l5Reach_LS1 (F : Nat) : LT := (3, spec_l5Reach_ls3 F) :: spec_l5Reach_LS0 F
theorem spec_l5Reach_lsok1 (F : Nat) : LoopsOK Try.prog (spec_l5Reach_LS1 F) (bodyOf Try.f35) := loopsOK_cons spec_l5Reach_keys (spec_l5Reach_lok3 F) (spec_l5Reach_lsok0 F)
theorem spec_l5Reach_run (F : Nat) (b0 : List Int) (n1 : Int) : runS tt (spec_l5Reach_tab F) (spec_l5Reach_LS1 F) [] [] Try.f35 (bodyOf Try.f35) 70 [(.ints 16 b0), (.int .i64 n1)] [] = spec_l5Reach_c _ F b0 n1 (fun r => some ⟨(.rr 16 r), [], []⟩) := by kernel_rfl
def spec_l5Reach_ent (F : Nat) : Ent := ⟨[], .quiet, fun args mem => match args, mem with
  | [(.ints 16 b0), (.int .i64 n1)], [] => some ((spec_l5Reach_p F b0 n1).isSome, ⟨(.rr 16 ((spec_l5Reach_p F b0 n1).getD default)), [], []⟩)
  | _, _ => none⟩
theorem spec_l5Reach_fok : FunOK Try.prog 35 := funOK Try.func35 (by kernel_rfl) rfl
theorem spec_l5Reach_meets (F : Nat) : Meets Try.prog 35 (spec_l5Reach_ent F) := by
  refine meets_of_runS mixed ttok deep (spec_l5Reach_tabok F) Try.func35 (body_some rfl) (spec_l5Reach_lsok1 F) fun args mem hfit ret h => ?_
  clear hfit
  simp only [spec_l5Reach_ent] at h
  split at h
  · rename_i b0 n1
    simp only [Option.some.injEq, Prod.mk.injEq] at h
    obtain ⟨hc, rfl⟩ := h
    exact ⟨[], [], 70, _, (spec_l5Reach_run F b0 n1).trans ((spec_l5Reach_cp _ F b0 n1 _).trans (bind_use hc _)), rfl, rfl, rfl⟩
  · cases h

/-! loop.example/g01194/spec.HighestTile -/
noncomputable def spec_HighestTile_tab (F : Nat) : Tab := [(26, (spec_l2Board_ent F))]
theorem spec_HighestTile_tabok (F : Nat) : TabOK Try.prog (spec_HighestTile_tab F) := (tab_cons (spec_l2Board_meets F) spec_l2Board_fok tab_nil)
noncomputable def spec_HighestTile_LS0 (F : Nat) : LT := []
theorem spec_HighestTile_lsok0 (F : Nat) : LoopsOK Try.prog (spec_HighestTile_LS0 F) (bodyOf Try.f60) := loopsOK_nil
theorem spec_HighestTile_keys : keysOK (bodyOf Try.f60) = true := by kernel_rfl
def spec_HighestTile_st8 (r10 : Int) (b12 : List Int) (best6 : Int) (c11 : Int) (cell14 : List Int) : St := ⟨expand 43 0 [1, 3, 5, 6, 7, 8] [(.ptr 0 0 0 16), (.ptr 1 0 0 2), (.int .i64 best6), (.ptr 2 0 0 2), (.int .i64 r10), (.int .i64 c11)], [(.var 16 (.ri .i64 b12)), (.var 2 (.ri .i64 [(0 : Int), (0 : Int)])), (.var 2 (.ri .i64 cell14))], 0, []⟩
def spec_HighestTile_o8 (r10 : Int) (b12 : List Int) (x : Int × List Int) : GT := (.out (.exit 2 ⟨expand 43 0 [1, 3, 5, 6, 7] [(.ptr 0 0 0 16), (.ptr 1 0 0 2), (.int .i64 x.1), (.ptr 2 0 0 2), (.int .i64 r10)], [(.var 16 (.ri .i64 b12)), (.var 2 (.ri .i64 [(0 : Int), (0 : Int)])), (.var 2 (.ri .i64 x.2))], 0, []⟩))
def spec_HighestTile_ls8 (F : Nat) : LoopS := ⟨43, [1, 3, 5, 6, 7, 8], [], [1, 3, 5, 6, 7], [], [2, 3, 4], [], [], fun vals mem np killed => match vals, mem, np, killed with
  | [(.ptr 0 0 0 16), (.ptr 1 0 0 2), (.int .i64 best6), (.ptr 2 0 0 2), (.int .i64 r10), (.int .i64 c11)], [(.var 16 (.ri .i64 b12)), (.var 2 (.ri .i64 q_t313)), (.var 2 (.ri .i64 cell14))], 0, [] => .br ((q_t313 == ([(0 : Int), (0 : Int)] : List Int)) && (spec_HighestTile_l8 F r10 b12 best6 c11 cell14).isSome) (spec_HighestTile_o8 r10 b12 ((spec_HighestTile_l8 F r10 b12 best6 c11 cell14).getD default)) .fail
  | _, _, _, _ => .fail⟩
theorem spec_HighestTile_step8 (F : Nat) (r10 : Int) (b12 : List Int) (best6 : Int) (c11 : Int) (cell14 : List Int) {R : Type} (k : Out → Option R) : stepS tt (spec_HighestTile_tab F) (spec_HighestTile_LS0 F) 70 (spec_HighestTile_ls8 F) (loopAt 8 (bodyOf Try.f60)) (spec_HighestTile_st8 r10 b12 best6 c11 cell14) k = spec_HighestTile_s8 F r10 b12 R (best6, c11, cell14) (fun s => k (.norm (spec_HighestTile_st8 r10 b12 s.1 s.2.1 s.2.2))) (fun x => (spec_HighestTile_o8 r10 b12 x).run k) := by kernel_rfl
theorem spec_HighestTile_iter8 (F : Nat) (r10 : Int) (b12 : List Int) {R : Type} (k : Out → Option R) : ∀ (n : Nat) (best6 : Int) (c11 : Int) (cell14 : List Int), iterS tt (spec_HighestTile_tab F) (spec_HighestTile_LS0 F) 70 (spec_HighestTile_ls8 F) (loopAt 8 (bodyOf Try.f60)) n (spec_HighestTile_st8 r10 b12 best6 c11 cell14) k = loopC (spec_HighestTile_s8 F r10 b12) n (best6, c11, cell14) (fun x => (spec_HighestTile_o8 r10 b12 x).run k)
  | 0, best6, c11, cell14 => rfl
  | n + 1, best6, c11, cell14 => (iterS_succ tt (spec_HighestTile_tab F) (spec_HighestTile_LS0 F) 70 (spec_HighestTile_ls8 F) (loopAt 8 (bodyOf Try.f60)) n (spec_HighestTile_st8 r10 b12 best6 c11 cell14) k).trans ((spec_HighestTile_step8 F r10 b12 best6 c11 cell14 (nextK (iterS tt (spec_HighestTile_tab F) (spec_HighestTile_LS0 F) 70 (spec_HighestTile_ls8 F) (loopAt 8 (bodyOf Try.f60)) n) k)).trans (congrArg (fun kn => spec_HighestTile_s8 F r10 b12 R (best6, c11, cell14) kn _) (funext (fun ⟨best6, c11, cell14⟩ => spec_HighestTile_iter8 F r10 b12 k n best6 c11 cell14))))
theorem spec_HighestTile_lok8 (F : Nat) : LoopOK Try.prog (loopAt 8 (bodyOf Try.f60)) (spec_HighestTile_ls8 F) := by
  refine loopOK_of mixed ttok deep (spec_HighestTile_tabok F) (loopsOK_at (spec_HighestTile_lsok0 F) 8) (fuel := 70) fun R vals mem np killed k x h => ?_
  simp only [spec_HighestTile_ls8] at h
  split at h
  · rename_i best6 r10 c11 b12 q_t313 cell14
    simp only [GT.run] at h
    have hc := (cond_noneL h).1
    replace h := (cond_noneL h).2
    have hg := (and_split hc).1
    replace hc := (and_split hc).2
    obtain rfl := beq_li hg
    refine ⟨F, (spec_HighestTile_iter8 F r10 b12 k F best6 c11 cell14).trans ((loopC_use (spec_HighestTile_s8_nat F r10 b12) hc _).trans h)⟩
  · simp only [GT.run] at h
    cases h
noncomputable def spec_HighestTile_LS1 (F : Nat) : LT := (8, spec_HighestTile_ls8 F) :: spec_HighestTile_LS0 F
theorem spec_HighestTile_lsok1 (F : Nat) : LoopsOK Try.prog (spec_HighestTile_LS1 F) (bodyOf Try.f60) := loopsOK_cons spec_HighestTile_keys (spec_HighestTile_lok8 F) (spec_HighestTile_lsok0 F)
def spec_HighestTile_st5 (b11 : List Int) (best6 : Int) (r10 : Int) (cell13 : List Int) : St := ⟨expand 43 0 [1, 3, 5, 6, 7] [(.ptr 0 0 0 16), (.ptr 1 0 0 2), (.int .i64 best6), (.ptr 2 0 0 2), (.int .i64 r10)], [(.var 16 (.ri .i64 b11)), (.var 2 (.ri .i64 [(0 : Int), (0 : Int)])), (.var 2 (.ri .i64 cell13))], 0, []⟩
def spec_HighestTile_o5 (b11 : List Int) (x : Int × List Int) : GT := (.out (.exit 0 ⟨expand 43 0 [3, 5, 6] [(.ptr 0 0 0 2), (.int .i64 x.1), (.ptr 1 0 0 2)], [(.var 2 (.ri .i64 [(0 : Int), (0 : Int)])), (.var 2 (.ri .i64 x.2))], 0, []⟩))
def spec_HighestTile_ls5 (F : Nat) : LoopS := ⟨43, [1, 3, 5, 6, 7], [], [3, 5, 6], [], [2, 3, 4], [], [], fun vals mem np killed => match vals, mem, np, killed with
  | [(.ptr 0 0 0 16), (.ptr 1 0 0 2), (.int .i64 best6), (.ptr 2 0 0 2), (.int .i64 r10)], [(.var 16 (.ri .i64 b11)), (.var 2 (.ri .i64 q_t312)), (.var 2 (.ri .i64 cell13))], 0, [] => .br ((q_t312 == ([(0 : Int), (0 : Int)] : List Int)) && (spec_HighestTile_l5 F b11 best6 r10 cell13).isSome) (spec_HighestTile_o5 b11 ((spec_HighestTile_l5 F b11 best6 r10 cell13).getD default)) .fail
  | _, _, _, _ => .fail⟩
theorem spec_HighestTile_step5 (F : Nat) (b11 : List Int) (best6 : Int) (r10 : Int) (cell13 : List Int) {R : Type} (k : Out → Option R) : stepS tt (spec_HighestTile_tab F) (spec_HighestTile_LS1 F) 70 (spec_HighestTile_ls5 F) (loopAt 5 (bodyOf Try.f60)) (spec_HighestTile_st5 b11 best6 r10 cell13) k = spec_HighestTile_s5 F b11 R (best6, r10, cell13) (fun s => k (.norm (spec_HighestTile_st5 b11 s.1 s.2.1 s.2.2))) (fun x => (spec_HighestTile_o5 b11 x).run k) := by kernel_rfl
theorem spec_HighestTile_iter5 (F : Nat) (b11 : List Int) {R : Type} (k : Out → Option R) : ∀ (n : Nat) (best6 : Int) (r10 : Int) (cell13 : List Int), iterS tt (spec_HighestTile_tab F) (spec_HighestTile_LS1 F) 70 (spec_HighestTile_ls5 F) (loopAt 5 (bodyOf Try.f60)) n (spec_HighestTile_st5 b11 best6 r10 cell13) k = loopC (spec_HighestTile_s5 F b11) n (best6, r10, cell13) (fun x => (spec_HighestTile_o5 b11 x).run k)
  | 0, best6, r10, cell13 => rfl
  | n + 1, best6, r10, cell13 => (iterS_succ tt (spec_HighestTile_tab F) (spec_HighestTile_LS1 F) 70 (spec_HighestTile_ls5 F) (loopAt 5 (bodyOf Try.f60)) n (spec_HighestTile_st5 b11 best6 r10 cell13) k).trans ((spec_HighestTile_step5 F b11 best6 r10 cell13 (nextK (iterS tt (spec_HighestTile_tab F) (spec_HighestTile_LS1 F) 70 (spec_HighestTile_ls5 F) (loopAt 5 (bodyOf Try.f60)) n) k)).trans (congrArg (fun kn => spec_HighestTile_s5 F b11 R (best6, r10, cell13) kn _) (funext (fun ⟨best6, r10, cell13⟩ => spec_HighestTile_iter5 F b11 k n best6 r10 cell13))))
theorem spec_HighestTile_lok5 (F : Nat) : LoopOK Try.prog (loopAt 5 (bodyOf Try.f60)) (spec_HighestTile_ls5 F) := by
  refine loopOK_of mixed ttok deep (spec_HighestTile_tabok F) (loopsOK_at (spec_HighestTile_lsok1 F) 5) (fuel := 70) fun R vals mem np killed k x h => ?_
  simp only [spec_HighestTile_ls5] at h
  split at h
  · rename_i best6 r10 b11 q_t312 cell13
    simp only [GT.run] at h
    have hc := (cond_noneL h).1
    replace h := (cond_noneL h).2
    have hg := (and_split hc).1
    replace hc := (and_split hc).2
    obtain rfl := beq_li hg
    refine ⟨F, (spec_HighestTile_iter5 F b11 k F best6 r10 cell13).trans ((loopC_use (spec_HighestTile_s5_nat F b11) hc _).trans h)⟩
  · simp only [GT.run] at h
    cases h
noncomputable def spec_HighestTile_LS2 (F : Nat) : LT := (5, spec_HighestTile_ls5 F) :: spec_HighestTile_LS1 F
theorem spec_HighestTile_lsok2 (F : Nat) : LoopsOK Try.prog (spec_HighestTile_LS2 F) (bodyOf Try.f60) := loopsOK_cons spec_HighestTile_keys (spec_HighestTile_lok5 F) (spec_HighestTile_lsok1 F)
theorem spec_HighestTile_run (F : Nat) (b0 : List Int) : runS tt (spec_HighestTile_tab F) (spec_HighestTile_LS2 F) [] [] Try.f60 (bodyOf Try.f60) 70 [(.ints 16 b0)] [] = spec_HighestTile_c _ F b0 (fun r => some ⟨(.tup [(.int .i64 r.1), (.ints 2 r.2.1), (.bool r.2.2)]), [], []⟩) := by kernel_rfl
def spec_HighestTile_ent (F : Nat) : Ent := ⟨[], .quiet, fun args mem => match args, mem with
  | [(.ints 16 b0)], [] => some ((spec_HighestTile_p F b0).isSome, ⟨(.tup [(.int .i64 ((spec_HighestTile_p F b0).getD default).1), (.ints 2 ((spec_HighestTile_p F b0).getD default).2.1), (.bool ((spec_HighestTile_p F b0).getD default).2.2)]), [], []⟩)
  | _, _ => none⟩
theorem spec_HighestTile_fok : FunOK Try.prog 60 := funOK Try.func60 (by kernel_rfl) rfl
theorem spec_HighestTile_meets (F : Nat) : Meets Try.prog 60 (spec_HighestTile_ent F) := by
  refine meets_of_runS mixed ttok deep (spec_HighestTile_tabok F) Try.func60 (body_some rfl) (spec_HighestTile_lsok2 F) fun args mem hfit ret h => ?_
  clear hfit
  simp only [spec_HighestTile_ent] at h
  split at h
  · rename_i b0
    simp only [Option.some.injEq, Prod.mk.injEq] at h
    obtain ⟨hc, rfl⟩ := h
    exact ⟨[], [], 70, _, (spec_HighestTile_run F b0).trans ((spec_HighestTile_cp _ F b0 _).trans (bind_use hc _)), rfl, rfl, rfl⟩
  · cases h

/-! loop.example/g01194/spec.l5Highest -/
noncomputable def spec_l5Highest_tab (F : Nat) : Tab := [(60, (spec_HighestTile_ent F))]
theorem spec_l5Highest_tabok (F : Nat) : TabOK Try.prog (spec_l5Highest_tab F) := (tab_cons (spec_HighestTile_meets F) spec_HighestTile_fok tab_nil)
noncomputable def spec_l5Highest_LS0 (F : Nat) : LT := []
theorem spec_l5Highest_lsok0 (F : Nat) : LoopsOK Try.prog (spec_l5Highest_LS0 F) (bodyOf Try.f37) := loopsOK_nil
theorem spec_l5Highest_run (F : Nat) (b0 : List Int) : runS tt (spec_l5Highest_tab F) (spec_l5Highest_LS0 F) [] [] Try.f37 (bodyOf Try.f37) 70 [(.ints 16 b0)] [] = spec_l5Highest_c _ F b0 (fun r => some ⟨(.int .i64 r), [], []⟩) := by kernel_rfl
def spec_l5Highest_ent (F : Nat) : Ent := ⟨[], .quiet, fun args mem => match args, mem with
  | [(.ints 16 b0)], [] => some ((spec_l5Highest_p F b0).isSome, ⟨(.int .i64 ((spec_l5Highest_p F b0).getD default)), [], []⟩)
  | _, _ => none⟩
theorem spec_l5Highest_fok : FunOK Try.prog 37 := funOK Try.func37 (by kernel_rfl) rfl
theorem spec_l5Highest_meets (F : Nat) : Meets Try.prog 37 (spec_l5Highest_ent F) := by
  refine meets_of_runS mixed ttok deep (spec_l5Highest_tabok F) Try.func37 (body_some rfl) (spec_l5Highest_lsok0 F) fun args mem hfit ret h => ?_
  clear hfit
  simp only [spec_l5Highest_ent] at h
  split at h
  · rename_i b0
    simp only [Option.some.injEq, Prod.mk.injEq] at h
    obtain ⟨hc, rfl⟩ := h
    exact ⟨[], [], 70, _, (spec_l5Highest_run F b0).trans ((spec_l5Highest_cp _ F b0 _).trans (bind_use hc _)), rfl, rfl, rfl⟩
  · cases h

/-! loop.example/g01194/spec.l1Most -/
noncomputable def spec_l1Most_tab (F : Nat) : Tab := []
theorem spec_l1Most_tabok (F : Nat) : TabOK Try.prog (spec_l1Most_tab F) := tab_nil
noncomputable def spec_l1Most_LS0 (F : Nat) : LT := []
theorem spec_l1Most_lsok0 (F : Nat) : LoopsOK Try.prog (spec_l1Most_LS0 F) (bodyOf Try.f36) := loopsOK_nil
theorem spec_l1Most_run (F : Nat) (a0 : Int) (b1 : Int) : runS tt (spec_l1Most_tab F) (spec_l1Most_LS0 F) [] [] Try.f36 (bodyOf Try.f36) 70 [(.int .i64 a0), (.int .i64 b1)] [] = spec_l1Most_c _ a0 b1 (fun r => some ⟨(.int .i64 r), [], []⟩) := by kernel_rfl
def spec_l1Most_ent (F : Nat) : Ent := ⟨[], .quiet, fun args mem => match args, mem with
  | [(.int .i64 a0), (.int .i64 b1)], [] => some (true, ⟨(.int .i64 (spec_l1Most_v a0 b1)), [], []⟩)
  | _, _ => none⟩
theorem spec_l1Most_fok : FunOK Try.prog 36 := funOK Try.func36 (by kernel_rfl) rfl
theorem spec_l1Most_meets (F : Nat) : Meets Try.prog 36 (spec_l1Most_ent F) := by
  refine meets_of_runS mixed ttok deep (spec_l1Most_tabok F) Try.func36 (body_some rfl) (spec_l1Most_lsok0 F) fun args mem hfit ret h => ?_
  clear hfit
  simp only [spec_l1Most_ent] at h
  split at h
  · rename_i a0 b1
    simp only [Option.some.injEq, Prod.mk.injEq] at h
    obtain ⟨hc, rfl⟩ := h
    exact ⟨[], [], 70, _, (spec_l1Most_run F a0 b1).trans (spec_l1Most_cv _ a0 b1 _), rfl, rfl, rfl⟩
  · cases h

/-! loop.example/g01194/spec.HighestBySlides -/
noncomputable def spec_HighestBySlides_tab (F : Nat) : Tab := [(26, (spec_l2Board_ent F)), (35, (spec_l5Reach_ent F)), (37, (spec_l5Highest_ent F)), (36, (spec_l1Most_ent F))]
theorem spec_HighestBySlides_tabok (F : Nat) : TabOK Try.prog (spec_HighestBySlides_tab F) := (tab_cons (spec_l2Board_meets F) spec_l2Board_fok (tab_cons (spec_l5Reach_meets F) spec_l5Reach_fok (tab_cons (spec_l5Highest_meets F) spec_l5Highest_fok (tab_cons (spec_l1Most_meets F) spec_l1Most_fok tab_nil))))
noncomputable def spec_HighestBySlides_LS0 (F : Nat) : LT := []
theorem spec_HighestBySlides_lsok0 (F : Nat) : LoopsOK Try.prog (spec_HighestBySlides_LS0 F) (bodyOf Try.f14) := loopsOK_nil
theorem spec_HighestBySlides_keys : keysOK (bodyOf Try.f14) = true := by kernel_rfl
def spec_HighestBySlides_st5 (all1 : List (List Int)) (best0 : Int) (i2 : Int) : St := ⟨expand 26 0 [4, 5, 6] [(.int .i64 best0), (.rr 16 all1), (.int .i64 i2)], [], 0, []⟩
def spec_HighestBySlides_o5 (all1 : List (List Int)) (x : Int) : GT := (.out (.exit 0 ⟨expand 26 0 [4] [(.int .i64 x)], [], 0, []⟩))
def spec_HighestBySlides_ls5 (F : Nat) : LoopS := ⟨26, [4, 5, 6], [], [4], [], [2, 3], [], [], fun vals mem np killed => match vals, mem, np, killed with
  | [(.int .i64 best0), (.rr 16 all1), (.int .i64 i2)], [], 0, [] => .br (spec_HighestBySlides_l5 F all1 best0 i2).isSome (spec_HighestBySlides_o5 all1 ((spec_HighestBySlides_l5 F all1 best0 i2).getD default)) .fail
  | _, _, _, _ => .fail⟩
theorem spec_HighestBySlides_step5 (F : Nat) (all1 : List (List Int)) (best0 : Int) (i2 : Int) {R : Type} (k : Out → Option R) : stepS tt (spec_HighestBySlides_tab F) (spec_HighestBySlides_LS0 F) 70 (spec_HighestBySlides_ls5 F) (loopAt 5 (bodyOf Try.f14)) (spec_HighestBySlides_st5 all1 best0 i2) k = spec_HighestBySlides_s5 F all1 R (best0, i2) (fun s => k (.norm (spec_HighestBySlides_st5 all1 s.1 s.2))) (fun x => (spec_HighestBySlides_o5 all1 x).run k) := by kernel_rfl
theorem spec_HighestBySlides_iter5 (F : Nat) (all1 : List (List Int)) {R : Type} (k : Out → Option R) : ∀ (n : Nat) (best0 : Int) (i2 : Int), iterS tt (spec_HighestBySlides_tab F) (spec_HighestBySlides_LS0 F) 70 (spec_HighestBySlides_ls5 F) (loopAt 5 (bodyOf Try.f14)) n (spec_HighestBySlides_st5 all1 best0 i2) k = loopC (spec_HighestBySlides_s5 F all1) n (best0, i2) (fun x => (spec_HighestBySlides_o5 all1 x).run k)
  | 0, best0, i2 => rfl
  | n + 1, best0, i2 => (iterS_succ tt (spec_HighestBySlides_tab F) (spec_HighestBySlides_LS0 F) 70 (spec_HighestBySlides_ls5 F) (loopAt 5 (bodyOf Try.f14)) n (spec_HighestBySlides_st5 all1 best0 i2) k).trans ((spec_HighestBySlides_step5 F all1 best0 i2 (nextK (iterS tt (spec_HighestBySlides_tab F) (spec_HighestBySlides_LS0 F) 70 (spec_HighestBySlides_ls5 F) (loopAt 5 (bodyOf Try.f14)) n) k)).trans (congrArg (fun kn => spec_HighestBySlides_s5 F all1 R (best0, i2) kn _) (funext (fun ⟨best0, i2⟩ => spec_HighestBySlides_iter5 F all1 k n best0 i2))))
theorem spec_HighestBySlides_lok5 (F : Nat) : LoopOK Try.prog (loopAt 5 (bodyOf Try.f14)) (spec_HighestBySlides_ls5 F) := by
  refine loopOK_of mixed ttok deep (spec_HighestBySlides_tabok F) (loopsOK_at (spec_HighestBySlides_lsok0 F) 5) (fuel := 70) fun R vals mem np killed k x h => ?_
  simp only [spec_HighestBySlides_ls5] at h
  split at h
  · rename_i best0 all1 i2
    simp only [GT.run] at h
    have hc := (cond_noneL h).1
    replace h := (cond_noneL h).2
    refine ⟨F, (spec_HighestBySlides_iter5 F all1 k F best0 i2).trans ((loopC_use (spec_HighestBySlides_s5_nat F all1) hc _).trans h)⟩
  · simp only [GT.run] at h
    cases h
noncomputable def spec_HighestBySlides_LS1 (F : Nat) : LT := (5, spec_HighestBySlides_ls5 F) :: spec_HighestBySlides_LS0 F
theorem spec_HighestBySlides_lsok1 (F : Nat) : LoopsOK Try.prog (spec_HighestBySlides_LS1 F) (bodyOf Try.f14) := loopsOK_cons spec_HighestBySlides_keys (spec_HighestBySlides_lok5 F) (spec_HighestBySlides_lsok0 F)
theorem spec_HighestBySlides_run (F : Nat) (b0 : List Int) : runS tt (spec_HighestBySlides_tab F) (spec_HighestBySlides_LS1 F) [] [] Try.f14 (bodyOf Try.f14) 70 [(.ints 16 b0)] [] = spec_HighestBySlides_c _ F b0 (fun r => some ⟨(.tup [(.int .i64 r.1), (.bool r.2)]), [], []⟩) := by kernel_rfl
def spec_HighestBySlides_ent (F : Nat) : Ent := ⟨[], .quiet, fun args mem => match args, mem with
  | [(.ints 16 b0)], [] => some ((spec_HighestBySlides_p F b0).isSome, ⟨(.tup [(.int .i64 ((spec_HighestBySlides_p F b0).getD default).1), (.bool ((spec_HighestBySlides_p F b0).getD default).2)]), [], []⟩)
  | _, _ => none⟩
theorem spec_HighestBySlides_fok : FunOK Try.prog 14 := funOK Try.func14 (by kernel_rfl) rfl
theorem spec_HighestBySlides_meets (F : Nat) : Meets Try.prog 14 (spec_HighestBySlides_ent F) := by
  refine meets_of_runS mixed ttok deep (spec_HighestBySlides_tabok F) Try.func14 (body_some rfl) (spec_HighestBySlides_lsok1 F) fun args mem hfit ret h => ?_
  clear hfit
  simp only [spec_HighestBySlides_ent] at h
  split at h
  · rename_i b0
    simp only [Option.some.injEq, Prod.mk.injEq] at h
    obtain ⟨hc, rfl⟩ := h
    exact ⟨[], [], 70, _, (spec_HighestBySlides_run F b0).trans ((spec_HighestBySlides_cp _ F b0 _).trans (bind_use hc _)), rfl, rfl, rfl⟩
  · cases h

/-! loop.example/g01194/impl.SlideBoard -/
noncomputable def impl_SlideBoard_tab (F : Nat) : Tab := [(23, (impl_IsBoard_ent F)), (38, (impl_isDirection_ent F)), (25, (impl_Board_slide_ent F))]
theorem impl_SlideBoard_tabok (F : Nat) : TabOK Try.prog (impl_SlideBoard_tab F) := (tab_cons (impl_IsBoard_meets F) impl_IsBoard_fok (tab_cons (impl_isDirection_meets F) impl_isDirection_fok (tab_cons (impl_Board_slide_meets F) impl_Board_slide_fok tab_nil)))
noncomputable def impl_SlideBoard_LS0 (F : Nat) : LT := []
theorem impl_SlideBoard_lsok0 (F : Nat) : LoopsOK Try.prog (impl_SlideBoard_LS0 F) (bodyOf Try.f15) := loopsOK_nil
theorem impl_SlideBoard_run (F : Nat) (b0 : List Int) (direction1 : Int) : runS tt (impl_SlideBoard_tab F) (impl_SlideBoard_LS0 F) [] [] Try.f15 (bodyOf Try.f15) 70 [(.ints 16 b0), (.int .i64 direction1)] [] = impl_SlideBoard_c _ F b0 direction1 (fun r => some ⟨(.tup [(.ints 16 r.1), (.int .i64 r.2.1), (.bool r.2.2)]), [], []⟩) := by kernel_rfl
def impl_SlideBoard_ent (F : Nat) : Ent := ⟨[], .quiet, fun args mem => match args, mem with
  | [(.ints 16 b0), (.int .i64 direction1)], [] => some ((impl_SlideBoard_p F b0 direction1).isSome, ⟨(.tup [(.ints 16 ((impl_SlideBoard_p F b0 direction1).getD default).1), (.int .i64 ((impl_SlideBoard_p F b0 direction1).getD default).2.1), (.bool ((impl_SlideBoard_p F b0 direction1).getD default).2.2)]), [], []⟩)
  | _, _ => none⟩
theorem impl_SlideBoard_fok : FunOK Try.prog 15 := funOK Try.func15 (by kernel_rfl) rfl
theorem impl_SlideBoard_meets (F : Nat) : Meets Try.prog 15 (impl_SlideBoard_ent F) := by
  refine meets_of_runS mixed ttok deep (impl_SlideBoard_tabok F) Try.func15 (body_some rfl) (impl_SlideBoard_lsok0 F) fun args mem hfit ret h => ?_
  clear hfit
  simp only [impl_SlideBoard_ent] at h
  split at h
  · rename_i b0 direction1
    simp only [Option.some.injEq, Prod.mk.injEq] at h
    obtain ⟨hc, rfl⟩ := h
    exact ⟨[], [], 70, _, (impl_SlideBoard_run F b0 direction1).trans ((impl_SlideBoard_cp _ F b0 direction1 _).trans (bind_use hc _)), rfl, rfl, rfl⟩
  · cases h

/-! slices.Grow[[]int,int] -/
noncomputable def slices_Grow_intint_tab (F : Nat) : Tab := []
theorem slices_Grow_intint_tabok (F : Nat) : TabOK Try.prog (slices_Grow_intint_tab F) := tab_nil
noncomputable def slices_Grow_intint_LS0 (F : Nat) : LT := []
theorem slices_Grow_intint_lsok0 (F : Nat) : LoopsOK Try.prog (slices_Grow_intint_LS0 F) (bodyOf Try.f86) := loopsOK_nil
theorem slices_Grow_intint_run (F : Nat) (n0 : Int) : runS tt (slices_Grow_intint_tab F) (slices_Grow_intint_LS0 F) [⟨4, 3, (.ri .i64 ([] : List Int))⟩] [] Try.f86 (bodyOf Try.f86) 70 [.z0, (.int .i64 n0)] [] = slices_Grow_intint_c _ n0 (fun r => some ⟨(.sl 0 0 0), [(.vec 3 (.ri .i64 r))], []⟩) := by kernel_rfl
def slices_Grow_intint_ent (F : Nat) : Ent := ⟨[true], .fresh, fun args mem => match args, mem with
  | [.z0, (.int .i64 n0)], [] => some ((slices_Grow_intint_p n0).isSome, ⟨(.sl 0 0 0), [(.vec 3 (.ri .i64 ((slices_Grow_intint_p n0).getD default)))], []⟩)
  | _, _ => none⟩
theorem slices_Grow_intint_fok : FunOK Try.prog 86 := funOK Try.func86 (by kernel_rfl) rfl
theorem slices_Grow_intint_meets (F : Nat) : Meets Try.prog 86 (slices_Grow_intint_ent F) := by
  refine meets_of_runS mixed ttok deep (slices_Grow_intint_tabok F) Try.func86 (body_some rfl) (slices_Grow_intint_lsok0 F) fun args mem hfit ret h => ?_
  clear hfit
  simp only [slices_Grow_intint_ent] at h
  split at h
  · rename_i n0
    simp only [Option.some.injEq, Prod.mk.injEq] at h
    obtain ⟨hc, rfl⟩ := h
    exact ⟨[⟨4, 3, (.ri .i64 ([] : List Int))⟩], [], 70, _, (slices_Grow_intint_run F n0).trans ((slices_Grow_intint_cp _ n0 _).trans (bind_use hc _)), rfl, rfl, rfl⟩
  · cases h

/-! slices.Concat[[]int,int] -/
noncomputable def slices_Concat_intint_tab (F : Nat) : Tab := [(86, (slices_Grow_intint_ent F))]
theorem slices_Concat_intint_tabok (F : Nat) : TabOK Try.prog (slices_Concat_intint_tab F) := (tab_cons (slices_Grow_intint_meets F) slices_Grow_intint_fok tab_nil)
noncomputable def slices_Concat_intint_LS0 (F : Nat) : LT := []
theorem slices_Concat_intint_lsok0 (F : Nat) : LoopsOK Try.prog (slices_Concat_intint_LS0 F) (bodyOf Try.f79) := loopsOK_nil
theorem slices_Concat_intint_run (F : Nat) (slices0 : List Int) (slices1 : List Int) (slices2 : List Int) (slices3 : List Int) : runS tt (slices_Concat_intint_tab F) (slices_Concat_intint_LS0 F) [] [] Try.f79 (bodyOf Try.f79) 70 [(.rv [(.ri .i64 slices0), (.ri .i64 slices1), (.ri .i64 slices2), (.ri .i64 slices3)])] [] = slices_Concat_intint_c _ slices0 slices1 slices2 slices3 (fun r => some ⟨(.sl 0 0 (List.length r)), [(.vec 3 (.ri .i64 r))], []⟩) := by kernel_rfl
def slices_Concat_intint_ent (F : Nat) : Ent := ⟨[], .fresh, fun args mem => match args, mem with
  | [(.rv [(.ri .i64 slices0), (.ri .i64 slices1), (.ri .i64 slices2), (.ri .i64 slices3)])], [] => some ((slices_Concat_intint_p slices0 slices1 slices2 slices3).isSome, ⟨(.sl 0 0 (List.length ((slices_Concat_intint_p slices0 slices1 slices2 slices3).getD default))), [(.vec 3 (.ri .i64 ((slices_Concat_intint_p slices0 slices1 slices2 slices3).getD default)))], []⟩)
  | _, _ => none⟩
theorem slices_Concat_intint_fok : FunOK Try.prog 79 := funOK Try.func79 (by kernel_rfl) rfl
theorem slices_Concat_intint_meets (F : Nat) : Meets Try.prog 79 (slices_Concat_intint_ent F) := by
  refine meets_of_runS mixed ttok deep (slices_Concat_intint_tabok F) Try.func79 (body_some rfl) (slices_Concat_intint_lsok0 F) fun args mem hfit ret h => ?_
  clear hfit
  simp only [slices_Concat_intint_ent] at h
  split at h
  · rename_i slices0 slices1 slices2 slices3
    simp only [Option.some.injEq, Prod.mk.injEq] at h
    obtain ⟨hc, rfl⟩ := h
    exact ⟨[], [], 70, _, (slices_Concat_intint_run F slices0 slices1 slices2 slices3).trans ((slices_Concat_intint_cp _ slices0 slices1 slices2 slices3 _).trans (bind_use hc _)), rfl, rfl, rfl⟩
  · cases h
end Go.Proofs.Ytabfliifleonaah
