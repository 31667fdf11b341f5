/-
Pure functions and what the code of them does, by program; without conditions.
-/
import Derived.Test.YtgmnclpjbhmioaaTKP5
import Derived.Test.YtgmnclpjbhmioaaTKS4
namespace Go.Proofs.Ytgmnclpjbhmioaa
open Go Go.Lv Go.Lv.P Go.Proofs
set_option linter.unusedVariables false
set_option linter.unusedSimpArgs false
set_option maxRecDepth 100000
/-! loop.example/g01194/impl.MostBefore -/
noncomputable def impl_MostBefore_tab (F : Nat) : Tab := [(49, (impl_IsBoard_ent F)), (50, (impl_isDirection_ent F)), (51, (impl_Board_countBefore_ent F)), (56, (impl_Board_linesBefore_ent F)), (57, (impl_tiles_ent F))]
theorem impl_MostBefore_tabok (F : Nat) : TabOK Try.prog (impl_MostBefore_tab F) := (tab_cons (impl_IsBoard_meets F) impl_IsBoard_fok (tab_cons (impl_isDirection_meets F) impl_isDirection_fok (tab_cons (impl_Board_countBefore_meets F) impl_Board_countBefore_fok (tab_cons (impl_Board_linesBefore_meets F) impl_Board_linesBefore_fok (tab_cons (impl_tiles_meets F) impl_tiles_fok tab_nil)))))
noncomputable def impl_MostBefore_LS0 (F : Nat) : LT := []
theorem impl_MostBefore_lsok0 (F : Nat) : LoopsOK Try.prog (impl_MostBefore_LS0 F) (bodyOf Try.f22) := loopsOK_nil
theorem impl_MostBefore_keys : keysOK (bodyOf Try.f22) = true := by kernel_rfl
def impl_MostBefore_st9 (sum0 : Int) (t282 : List (List Int)) (t283 : List (List Int)) (t284 : List (List Int)) (t285 : List (List Int)) (t296 : Int) (t327 : List (List Int)) (t338 : Int) (most1 : Int) (t349 : Int) : St := ⟨expand 49 0 [6, 9, 28, 29, 32, 33, 34] [(.int .i64 sum0), (.int .i64 most1), (.agg [(.rr 4 t282), (.rr 4 t283), (.rr 4 t284), (.rr 4 t285)]), (.int .i64 t296), (.rr 4 t327), (.int .i64 t338), (.int .i64 t349)], [], 0, []⟩
def impl_MostBefore_o9 (sum0 : Int) (t282 : List (List Int)) (t283 : List (List Int)) (t284 : List (List Int)) (t285 : List (List Int)) (t296 : Int) (t327 : List (List Int)) (t338 : Int) (x : Int) : GT := (.out (.exit 2 ⟨expand 49 0 [6, 9, 28, 29] [(.int .i64 sum0), (.int .i64 x), (.agg [(.rr 4 t282), (.rr 4 t283), (.rr 4 t284), (.rr 4 t285)]), (.int .i64 t296)], [], 0, []⟩))
def impl_MostBefore_ls9 (F : Nat) : LoopS := ⟨49, [6, 9, 28, 29, 32, 33, 34], [], [6, 9, 28, 29], [], [4, 5], [], [], fun vals mem np killed => match vals, mem, np, killed with
  | [(.int .i64 sum0), (.int .i64 most1), (.agg [(.rr 4 t282), (.rr 4 t283), (.rr 4 t284), (.rr 4 t285)]), (.int .i64 t296), (.rr 4 t327), (.int .i64 t338), (.int .i64 t349)], [], 0, [] => .br (impl_MostBefore_l9 F sum0 t282 t283 t284 t285 t296 t327 t338 most1 t349).isSome (impl_MostBefore_o9 sum0 t282 t283 t284 t285 t296 t327 t338 ((impl_MostBefore_l9 F sum0 t282 t283 t284 t285 t296 t327 t338 most1 t349).getD default)) .fail
  | _, _, _, _ => .fail⟩
theorem impl_MostBefore_step9 (F : Nat) (sum0 : Int) (t282 : List (List Int)) (t283 : List (List Int)) (t284 : List (List Int)) (t285 : List (List Int)) (t296 : Int) (t327 : List (List Int)) (t338 : Int) (most1 : Int) (t349 : Int) {R : Type} (k : Out → Option R) : stepS tt (impl_MostBefore_tab F) (impl_MostBefore_LS0 F) 70 (impl_MostBefore_ls9 F) (loopAt 9 (bodyOf Try.f22)) (impl_MostBefore_st9 sum0 t282 t283 t284 t285 t296 t327 t338 most1 t349) k = impl_MostBefore_s9 F sum0 t282 t283 t284 t285 t296 t327 t338 R (most1, t349) (fun s => k (.norm (impl_MostBefore_st9 sum0 t282 t283 t284 t285 t296 t327 t338 s.1 s.2))) (fun x => (impl_MostBefore_o9 sum0 t282 t283 t284 t285 t296 t327 t338 x).run k) := by kernel_rfl
theorem impl_MostBefore_iter9 (F : Nat) (sum0 : Int) (t282 : List (List Int)) (t283 : List (List Int)) (t284 : List (List Int)) (t285 : List (List Int)) (t296 : Int) (t327 : List (List Int)) (t338 : Int) {R : Type} (k : Out → Option R) : ∀ (n : Nat) (most1 : Int) (t349 : Int), iterS tt (impl_MostBefore_tab F) (impl_MostBefore_LS0 F) 70 (impl_MostBefore_ls9 F) (loopAt 9 (bodyOf Try.f22)) n (impl_MostBefore_st9 sum0 t282 t283 t284 t285 t296 t327 t338 most1 t349) k = loopC (impl_MostBefore_s9 F sum0 t282 t283 t284 t285 t296 t327 t338) n (most1, t349) (fun x => (impl_MostBefore_o9 sum0 t282 t283 t284 t285 t296 t327 t338 x).run k)
  | 0, most1, t349 => rfl
  | n + 1, most1, t349 => (iterS_succ tt (impl_MostBefore_tab F) (impl_MostBefore_LS0 F) 70 (impl_MostBefore_ls9 F) (loopAt 9 (bodyOf Try.f22)) n (impl_MostBefore_st9 sum0 t282 t283 t284 t285 t296 t327 t338 most1 t349) k).trans ((impl_MostBefore_step9 F sum0 t282 t283 t284 t285 t296 t327 t338 most1 t349 (nextK (iterS tt (impl_MostBefore_tab F) (impl_MostBefore_LS0 F) 70 (impl_MostBefore_ls9 F) (loopAt 9 (bodyOf Try.f22)) n) k)).trans (congrArg (fun kn => impl_MostBefore_s9 F sum0 t282 t283 t284 t285 t296 t327 t338 R (most1, t349) kn _) (funext (fun ⟨most1, t349⟩ => impl_MostBefore_iter9 F sum0 t282 t283 t284 t285 t296 t327 t338 k n most1 t349))))
theorem impl_MostBefore_lok9 (F : Nat) : LoopOK Try.prog (loopAt 9 (bodyOf Try.f22)) (impl_MostBefore_ls9 F) := by
  refine loopOK_of mixed ttok deep (impl_MostBefore_tabok F) (loopsOK_at (impl_MostBefore_lsok0 F) 9) (fuel := 70) fun R vals mem np killed k x h => ?_
  simp only [impl_MostBefore_ls9] at h
  split at h
  · rename_i sum0 most1 t282 t283 t284 t285 t296 t327 t338 t349
    simp only [GT.run] at h
    have hc := (cond_noneL h).1
    replace h := (cond_noneL h).2
    refine ⟨F, (impl_MostBefore_iter9 F sum0 t282 t283 t284 t285 t296 t327 t338 k F most1 t349).trans ((loopC_use (impl_MostBefore_s9_nat F sum0 t282 t283 t284 t285 t296 t327 t338) hc _).trans h)⟩
  · simp only [GT.run] at h
    cases h
noncomputable def impl_MostBefore_LS1 (F : Nat) : LT := (9, impl_MostBefore_ls9 F) :: impl_MostBefore_LS0 F
theorem impl_MostBefore_lsok1 (F : Nat) : LoopsOK Try.prog (impl_MostBefore_LS1 F) (bodyOf Try.f22) := loopsOK_cons impl_MostBefore_keys (impl_MostBefore_lok9 F) (impl_MostBefore_lsok0 F)
def impl_MostBefore_st5 (t281 : List (List Int)) (t282 : List (List Int)) (t283 : List (List Int)) (t284 : List (List Int)) (sum0 : Int) (t295 : Int) : St := ⟨expand 49 0 [6, 28, 29] [(.int .i64 sum0), (.agg [(.rr 4 t281), (.rr 4 t282), (.rr 4 t283), (.rr 4 t284)]), (.int .i64 t295)], [], 0, []⟩
def impl_MostBefore_o5 (t281 : List (List Int)) (t282 : List (List Int)) (t283 : List (List Int)) (t284 : List (List Int)) (x : Int) : GT := (.out (.exit 0 ⟨expand 49 0 [6] [(.int .i64 x)], [], 0, []⟩))
def impl_MostBefore_ls5 (F : Nat) : LoopS := ⟨49, [6, 28, 29], [], [6], [], [4, 5], [], [], fun vals mem np killed => match vals, mem, np, killed with
  | [(.int .i64 sum0), (.agg [(.rr 4 t281), (.rr 4 t282), (.rr 4 t283), (.rr 4 t284)]), (.int .i64 t295)], [], 0, [] => .br (impl_MostBefore_l5 F t281 t282 t283 t284 sum0 t295).isSome (impl_MostBefore_o5 t281 t282 t283 t284 ((impl_MostBefore_l5 F t281 t282 t283 t284 sum0 t295).getD default)) .fail
  | _, _, _, _ => .fail⟩
theorem impl_MostBefore_step5 (F : Nat) (t281 : List (List Int)) (t282 : List (List Int)) (t283 : List (List Int)) (t284 : List (List Int)) (sum0 : Int) (t295 : Int) {R : Type} (k : Out → Option R) : stepS tt (impl_MostBefore_tab F) (impl_MostBefore_LS1 F) 70 (impl_MostBefore_ls5 F) (loopAt 5 (bodyOf Try.f22)) (impl_MostBefore_st5 t281 t282 t283 t284 sum0 t295) k = impl_MostBefore_s5 F t281 t282 t283 t284 R (sum0, t295) (fun s => k (.norm (impl_MostBefore_st5 t281 t282 t283 t284 s.1 s.2))) (fun x => (impl_MostBefore_o5 t281 t282 t283 t284 x).run k) := by kernel_rfl
theorem impl_MostBefore_iter5 (F : Nat) (t281 : List (List Int)) (t282 : List (List Int)) (t283 : List (List Int)) (t284 : List (List Int)) {R : Type} (k : Out → Option R) : ∀ (n : Nat) (sum0 : Int) (t295 : Int), iterS tt (impl_MostBefore_tab F) (impl_MostBefore_LS1 F) 70 (impl_MostBefore_ls5 F) (loopAt 5 (bodyOf Try.f22)) n (impl_MostBefore_st5 t281 t282 t283 t284 sum0 t295) k = loopC (impl_MostBefore_s5 F t281 t282 t283 t284) n (sum0, t295) (fun x => (impl_MostBefore_o5 t281 t282 t283 t284 x).run k)
  | 0, sum0, t295 => rfl
  | n + 1, sum0, t295 => (iterS_succ tt (impl_MostBefore_tab F) (impl_MostBefore_LS1 F) 70 (impl_MostBefore_ls5 F) (loopAt 5 (bodyOf Try.f22)) n (impl_MostBefore_st5 t281 t282 t283 t284 sum0 t295) k).trans ((impl_MostBefore_step5 F t281 t282 t283 t284 sum0 t295 (nextK (iterS tt (impl_MostBefore_tab F) (impl_MostBefore_LS1 F) 70 (impl_MostBefore_ls5 F) (loopAt 5 (bodyOf Try.f22)) n) k)).trans (congrArg (fun kn => impl_MostBefore_s5 F t281 t282 t283 t284 R (sum0, t295) kn _) (funext (fun ⟨sum0, t295⟩ => impl_MostBefore_iter5 F t281 t282 t283 t284 k n sum0 t295))))
theorem impl_MostBefore_lok5 (F : Nat) : LoopOK Try.prog (loopAt 5 (bodyOf Try.f22)) (impl_MostBefore_ls5 F) := by
  refine loopOK_of mixed ttok deep (impl_MostBefore_tabok F) (loopsOK_at (impl_MostBefore_lsok1 F) 5) (fuel := 70) fun R vals mem np killed k x h => ?_
  simp only [impl_MostBefore_ls5] at h
  split at h
  · rename_i sum0 t281 t282 t283 t284 t295
    simp only [GT.run] at h
    have hc := (cond_noneL h).1
    replace h := (cond_noneL h).2
    refine ⟨F, (impl_MostBefore_iter5 F t281 t282 t283 t284 k F sum0 t295).trans ((loopC_use (impl_MostBefore_s5_nat F t281 t282 t283 t284) hc _).trans h)⟩
  · simp only [GT.run] at h
    cases h
noncomputable def impl_MostBefore_LS2 (F : Nat) : LT := (5, impl_MostBefore_ls5 F) :: impl_MostBefore_LS1 F
theorem impl_MostBefore_lsok2 (F : Nat) : LoopsOK Try.prog (impl_MostBefore_LS2 F) (bodyOf Try.f22) := loopsOK_cons impl_MostBefore_keys (impl_MostBefore_lok5 F) (impl_MostBefore_lsok1 F)
theorem impl_MostBefore_run (F : Nat) (b0 : List Int) (direction1 : Int) : runS tt (impl_MostBefore_tab F) (impl_MostBefore_LS2 F) [] [] Try.f22 (bodyOf Try.f22) 70 [(.ints 16 b0), (.int .i64 direction1)] [] = impl_MostBefore_c _ F b0 direction1 (fun r => some ⟨(.tup [(.int .i64 r.1), (.bool r.2)]), [], []⟩) := by kernel_rfl
def impl_MostBefore_ent (F : Nat) : Ent := ⟨[], .quiet, fun args mem => match args, mem with
  | [(.ints 16 b0), (.int .i64 direction1)], [] => some ((impl_MostBefore_p F b0 direction1).isSome, ⟨(.tup [(.int .i64 ((impl_MostBefore_p F b0 direction1).getD default).1), (.bool ((impl_MostBefore_p F b0 direction1).getD default).2)]), [], []⟩)
  | _, _ => none⟩
theorem impl_MostBefore_fok : FunOK Try.prog 22 := funOK Try.func22 (by kernel_rfl) rfl
theorem impl_MostBefore_meets (F : Nat) : Meets Try.prog 22 (impl_MostBefore_ent F) := by
  refine meets_of_runS mixed ttok deep (impl_MostBefore_tabok F) Try.func22 (body_some rfl) (impl_MostBefore_lsok2 F) fun args mem hfit ret h => ?_
  clear hfit
  simp only [impl_MostBefore_ent] at h
  split at h
  · rename_i b0 direction1
    simp only [Option.some.injEq, Prod.mk.injEq] at h
    obtain ⟨hc, rfl⟩ := h
    exact ⟨[], [], 70, _, (impl_MostBefore_run F b0 direction1).trans ((impl_MostBefore_cp _ F b0 direction1 _).trans (bind_use hc _)), rfl, rfl, rfl⟩
  · cases h

/-! loop.example/g01194/laws.FnExactMostBefore -/
noncomputable def laws_FnExactMostBefore_tab (F : Nat) : Tab := [(14, (laws_toBoard_ent F)), (21, (spec_MostBefore_ent F)), (22, (impl_MostBefore_ent F))]
theorem laws_FnExactMostBefore_tabok (F : Nat) : TabOK Try.prog (laws_FnExactMostBefore_tab F) := (tab_cons (laws_toBoard_meets F) laws_toBoard_fok (tab_cons (spec_MostBefore_meets F) spec_MostBefore_fok (tab_cons (impl_MostBefore_meets F) impl_MostBefore_fok tab_nil)))
noncomputable def laws_FnExactMostBefore_LS0 (F : Nat) : LT := []
theorem laws_FnExactMostBefore_lsok0 (F : Nat) : LoopsOK Try.prog (laws_FnExactMostBefore_LS0 F) (bodyOf Try.f6) := loopsOK_nil
theorem laws_FnExactMostBefore_run (F : Nat) (aB0 : List Int) (aDirection1 : Int) : runS tt (laws_FnExactMostBefore_tab F) (laws_FnExactMostBefore_LS0 F) [] [] Try.f6 (bodyOf Try.f6) 70 [(.ints 16 aB0), (.int .i64 aDirection1)] [] = laws_FnExactMostBefore_c _ F aB0 aDirection1 (fun r => some ⟨(.bool r), [], []⟩) := by kernel_rfl
def laws_FnExactMostBefore_ent (F : Nat) : Ent := ⟨[], .quiet, fun args mem => match args, mem with
  | [(.ints 16 aB0), (.int .i64 aDirection1)], [] => some ((laws_FnExactMostBefore_p F aB0 aDirection1).isSome, ⟨(.bool ((laws_FnExactMostBefore_p F aB0 aDirection1).getD default)), [], []⟩)
  | _, _ => none⟩
theorem laws_FnExactMostBefore_fok : FunOK Try.prog 6 := funOK Try.func6 (by kernel_rfl) rfl
theorem laws_FnExactMostBefore_meets (F : Nat) : Meets Try.prog 6 (laws_FnExactMostBefore_ent F) := by
  refine meets_of_runS mixed ttok deep (laws_FnExactMostBefore_tabok F) Try.func6 (body_some rfl) (laws_FnExactMostBefore_lsok0 F) fun args mem hfit ret h => ?_
  clear hfit
  simp only [laws_FnExactMostBefore_ent] at h
  split at h
  · rename_i aB0 aDirection1
    simp only [Option.some.injEq, Prod.mk.injEq] at h
    obtain ⟨hc, rfl⟩ := h
    exact ⟨[], [], 70, _, (laws_FnExactMostBefore_run F aB0 aDirection1).trans ((laws_FnExactMostBefore_cp _ F aB0 aDirection1 _).trans (bind_use hc _)), rfl, rfl, rfl⟩
  · cases h

/-! loop.example/g01194/spec.SidesInto -/
noncomputable def spec_SidesInto_tab (F : Nat) : Tab := [(45, (spec_l2Board_ent F)), (52, (spec_l6Sides_ent F))]
theorem spec_SidesInto_tabok (F : Nat) : TabOK Try.prog (spec_SidesInto_tab F) := (tab_cons (spec_l2Board_meets F) spec_l2Board_fok (tab_cons (spec_l6Sides_meets F) spec_l6Sides_fok tab_nil))
noncomputable def spec_SidesInto_LS0 (F : Nat) : LT := []
theorem spec_SidesInto_lsok0 (F : Nat) : LoopsOK Try.prog (spec_SidesInto_LS0 F) (bodyOf Try.f23) := loopsOK_nil
theorem spec_SidesInto_run (F : Nat) (b0 : List Int) : runS tt (spec_SidesInto_tab F) (spec_SidesInto_LS0 F) [] [] Try.f23 (bodyOf Try.f23) 70 [(.ints 16 b0)] [] = spec_SidesInto_c _ F b0 (fun r => some ⟨(.tup [(.sl 0 0 (List.length r.2)), (.bool r.1)]), [(.vec 3 (.ri .i64 r.2))], []⟩) := by kernel_rfl
def spec_SidesInto_ent (F : Nat) : Ent := ⟨[], .fresh, fun args mem => match args, mem with
  | [(.ints 16 b0)], [] => some ((spec_SidesInto_p F b0).isSome, ⟨(.tup [(.sl 0 0 (List.length ((spec_SidesInto_p F b0).getD default).2)), (.bool ((spec_SidesInto_p F b0).getD default).1)]), [(.vec 3 (.ri .i64 ((spec_SidesInto_p F b0).getD default).2))], []⟩)
  | _, _ => none⟩
theorem spec_SidesInto_fok : FunOK Try.prog 23 := funOK Try.func23 (by kernel_rfl) rfl
theorem spec_SidesInto_meets (F : Nat) : Meets Try.prog 23 (spec_SidesInto_ent F) := by
  refine meets_of_runS mixed ttok deep (spec_SidesInto_tabok F) Try.func23 (body_some rfl) (spec_SidesInto_lsok0 F) fun args mem hfit ret h => ?_
  clear hfit
  simp only [spec_SidesInto_ent] at h
  split at h
  · rename_i b0
    simp only [Option.some.injEq, Prod.mk.injEq] at h
    obtain ⟨hc, rfl⟩ := h
    exact ⟨[], [], 70, _, (spec_SidesInto_run F b0).trans ((spec_SidesInto_cp _ F b0 _).trans (bind_use hc _)), rfl, rfl, rfl⟩
  · cases h

/-! loop.example/g01194/laws.eqIntS -/
noncomputable def laws_eqIntS_tab (F : Nat) : Tab := []
theorem laws_eqIntS_tabok (F : Nat) : TabOK Try.prog (laws_eqIntS_tab F) := tab_nil
noncomputable def laws_eqIntS_LS0 (F : Nat) : LT := []
theorem laws_eqIntS_lsok0 (F : Nat) : LoopsOK Try.prog (laws_eqIntS_LS0 F) (bodyOf Try.f25) := loopsOK_nil
theorem laws_eqIntS_keys : keysOK (bodyOf Try.f25) = true := by kernel_rfl
def laws_eqIntS_st4 (a0 : List Int) (b1 : List Int) (i2 : Int) : St := ⟨expand 26 0 [0, 1, 5] [(.ri .i64 a0), (.ri .i64 b1), (.int .i64 i2)], [], 0, []⟩
def laws_eqIntS_o4 (a0 : List Int) (b1 : List Int) (x : Bool) : GT := (.br x (.out (.ret ⟨expand 26 0 [4] [(.bool false)], [], 0, []⟩)) (.out (.exit 0 ⟨expand 26 0 [] [], [], 0, []⟩)))
def laws_eqIntS_ls4 (F : Nat) : LoopS := ⟨26, [0, 1, 5], [], [], [], [4], [], [], fun vals mem np killed => match vals, mem, np, killed with
  | [(.ri .i64 a0), (.ri .i64 b1), (.int .i64 i2)], [], 0, [] => .br (laws_eqIntS_l4 F a0 b1 i2).isSome (laws_eqIntS_o4 a0 b1 ((laws_eqIntS_l4 F a0 b1 i2).getD default)) .fail
  | _, _, _, _ => .fail⟩
theorem laws_eqIntS_step4 (F : Nat) (a0 : List Int) (b1 : List Int) (i2 : Int) {R : Type} (k : Out → Option R) : stepS tt (laws_eqIntS_tab F) (laws_eqIntS_LS0 F) 70 (laws_eqIntS_ls4 F) (loopAt 4 (bodyOf Try.f25)) (laws_eqIntS_st4 a0 b1 i2) k = laws_eqIntS_s4 F a0 b1 R i2 (fun s => k (.norm (laws_eqIntS_st4 a0 b1 s))) (fun x => (laws_eqIntS_o4 a0 b1 x).run k) := by kernel_rfl
theorem laws_eqIntS_iter4 (F : Nat) (a0 : List Int) (b1 : List Int) {R : Type} (k : Out → Option R) : ∀ (n : Nat) (i2 : Int), iterS tt (laws_eqIntS_tab F) (laws_eqIntS_LS0 F) 70 (laws_eqIntS_ls4 F) (loopAt 4 (bodyOf Try.f25)) n (laws_eqIntS_st4 a0 b1 i2) k = loopC (laws_eqIntS_s4 F a0 b1) n i2 (fun x => (laws_eqIntS_o4 a0 b1 x).run k)
  | 0, i2 => rfl
  | n + 1, i2 => (iterS_succ tt (laws_eqIntS_tab F) (laws_eqIntS_LS0 F) 70 (laws_eqIntS_ls4 F) (loopAt 4 (bodyOf Try.f25)) n (laws_eqIntS_st4 a0 b1 i2) k).trans ((laws_eqIntS_step4 F a0 b1 i2 (nextK (iterS tt (laws_eqIntS_tab F) (laws_eqIntS_LS0 F) 70 (laws_eqIntS_ls4 F) (loopAt 4 (bodyOf Try.f25)) n) k)).trans (congrArg (fun kn => laws_eqIntS_s4 F a0 b1 R i2 kn _) (funext (fun i2 => laws_eqIntS_iter4 F a0 b1 k n i2))))
theorem laws_eqIntS_lok4 (F : Nat) : LoopOK Try.prog (loopAt 4 (bodyOf Try.f25)) (laws_eqIntS_ls4 F) := by
  refine loopOK_of mixed ttok deep (laws_eqIntS_tabok F) (loopsOK_at (laws_eqIntS_lsok0 F) 4) (fuel := 70) fun R vals mem np killed k x h => ?_
  simp only [laws_eqIntS_ls4] at h
  split at h
  · rename_i a0 b1 i2
    simp only [GT.run] at h
    have hc := (cond_noneL h).1
    replace h := (cond_noneL h).2
    refine ⟨F, (laws_eqIntS_iter4 F a0 b1 k F i2).trans ((loopC_use (laws_eqIntS_s4_nat F a0 b1) hc _).trans h)⟩
  · simp only [GT.run] at h
    cases h
noncomputable def laws_eqIntS_LS1 (F : Nat) : LT := (4, laws_eqIntS_ls4 F) :: laws_eqIntS_LS0 F
theorem laws_eqIntS_lsok1 (F : Nat) : LoopsOK Try.prog (laws_eqIntS_LS1 F) (bodyOf Try.f25) := loopsOK_cons laws_eqIntS_keys (laws_eqIntS_lok4 F) (laws_eqIntS_lsok0 F)
theorem laws_eqIntS_run (F : Nat) (a0 : List Int) (b1 : List Int) : runS tt (laws_eqIntS_tab F) (laws_eqIntS_LS1 F) [] [] Try.f25 (bodyOf Try.f25) 70 [(.ri .i64 a0), (.ri .i64 b1)] [] = laws_eqIntS_c _ F a0 b1 (fun r => some ⟨(.bool r), [], []⟩) := by kernel_rfl
def laws_eqIntS_ent (F : Nat) : Ent := ⟨[], .quiet, fun args mem => match args, mem with
  | [(.ri .i64 a0), (.ri .i64 b1)], [] => some ((laws_eqIntS_p F a0 b1).isSome, ⟨(.bool ((laws_eqIntS_p F a0 b1).getD default)), [], []⟩)
  | _, _ => none⟩
theorem laws_eqIntS_fok : FunOK Try.prog 25 := funOK Try.func25 (by kernel_rfl) rfl
theorem laws_eqIntS_meets (F : Nat) : Meets Try.prog 25 (laws_eqIntS_ent F) := by
  refine meets_of_runS mixed ttok deep (laws_eqIntS_tabok F) Try.func25 (body_some rfl) (laws_eqIntS_lsok1 F) fun args mem hfit ret h => ?_
  clear hfit
  simp only [laws_eqIntS_ent] at h
  split at h
  · rename_i a0 b1
    simp only [Option.some.injEq, Prod.mk.injEq] at h
    obtain ⟨hc, rfl⟩ := h
    exact ⟨[], [], 70, _, (laws_eqIntS_run F a0 b1).trans ((laws_eqIntS_cp _ F a0 b1 _).trans (bind_use hc _)), rfl, rfl, rfl⟩
  · cases h

/-! loop.example/g01194/laws.markIntS -/
noncomputable def laws_markIntS_tab (F : Nat) : Tab := []
theorem laws_markIntS_tabok (F : Nat) : TabOK Try.prog (laws_markIntS_tab F) := tab_nil
noncomputable def laws_markIntS_LS0 (F : Nat) : LT := []
theorem laws_markIntS_lsok0 (F : Nat) : LoopsOK Try.prog (laws_markIntS_LS0 F) (bodyOf Try.f26) := loopsOK_nil
theorem laws_markIntS_keys : keysOK (bodyOf Try.f26) = true := by kernel_rfl
def laws_markIntS_st2 (a1 : Nat) (k2 : Int) (i3 : Int) (a4 : List Int) : St := ⟨expand 19 0 [0, 1, 5] [(.sl 0 0 a1), (.int .i64 k2), (.int .i64 i3)], [(.vec 3 (.ri .i64 a4))], 1, []⟩
def laws_markIntS_o2 (a1 : Nat) (x : Int × List Int) : GT := (.out (.exit 0 ⟨expand 19 0 [1] [(.int .i64 x.1)], [(.vec 3 (.ri .i64 x.2))], 1, []⟩))
def laws_markIntS_ls2 (F : Nat) : LoopS := ⟨19, [0, 1, 5], [], [1], [], [4], [], [], fun vals mem np killed => match vals, mem, np, killed with
  | [(.sl 0 0 a1), (.int .i64 k2), (.int .i64 i3)], [(.vec 3 (.ri .i64 a4))], 1, [] => .br (laws_markIntS_l2 F a1 k2 i3 a4).isSome (laws_markIntS_o2 a1 ((laws_markIntS_l2 F a1 k2 i3 a4).getD default)) .fail
  | _, _, _, _ => .fail⟩
theorem laws_markIntS_step2 (F : Nat) (a1 : Nat) (k2 : Int) (i3 : Int) (a4 : List Int) {R : Type} (k : Out → Option R) : stepS tt (laws_markIntS_tab F) (laws_markIntS_LS0 F) 70 (laws_markIntS_ls2 F) (loopAt 2 (bodyOf Try.f26)) (laws_markIntS_st2 a1 k2 i3 a4) k = laws_markIntS_s2 F a1 R (k2, i3, a4) (fun s => k (.norm (laws_markIntS_st2 a1 s.1 s.2.1 s.2.2))) (fun x => (laws_markIntS_o2 a1 x).run k) := by kernel_rfl
theorem laws_markIntS_iter2 (F : Nat) (a1 : Nat) {R : Type} (k : Out → Option R) : ∀ (n : Nat) (k2 : Int) (i3 : Int) (a4 : List Int), iterS tt (laws_markIntS_tab F) (laws_markIntS_LS0 F) 70 (laws_markIntS_ls2 F) (loopAt 2 (bodyOf Try.f26)) n (laws_markIntS_st2 a1 k2 i3 a4) k = loopC (laws_markIntS_s2 F a1) n (k2, i3, a4) (fun x => (laws_markIntS_o2 a1 x).run k)
  | 0, k2, i3, a4 => rfl
  | n + 1, k2, i3, a4 => (iterS_succ tt (laws_markIntS_tab F) (laws_markIntS_LS0 F) 70 (laws_markIntS_ls2 F) (loopAt 2 (bodyOf Try.f26)) n (laws_markIntS_st2 a1 k2 i3 a4) k).trans ((laws_markIntS_step2 F a1 k2 i3 a4 (nextK (iterS tt (laws_markIntS_tab F) (laws_markIntS_LS0 F) 70 (laws_markIntS_ls2 F) (loopAt 2 (bodyOf Try.f26)) n) k)).trans (congrArg (fun kn => laws_markIntS_s2 F a1 R (k2, i3, a4) kn _) (funext (fun ⟨k2, i3, a4⟩ => laws_markIntS_iter2 F a1 k n k2 i3 a4))))
theorem laws_markIntS_lok2 (F : Nat) : LoopOK Try.prog (loopAt 2 (bodyOf Try.f26)) (laws_markIntS_ls2 F) := by
  refine loopOK_of mixed ttok deep (laws_markIntS_tabok F) (loopsOK_at (laws_markIntS_lsok0 F) 2) (fuel := 70) fun R vals mem np killed k x h => ?_
  simp only [laws_markIntS_ls2] at h
  split at h
  · rename_i a1 k2 i3 a4
    simp only [GT.run] at h
    have hc := (cond_noneL h).1
    replace h := (cond_noneL h).2
    refine ⟨F, (laws_markIntS_iter2 F a1 k F k2 i3 a4).trans ((loopC_use (laws_markIntS_s2_nat F a1) hc _).trans h)⟩
  · simp only [GT.run] at h
    cases h
noncomputable def laws_markIntS_LS1 (F : Nat) : LT := (2, laws_markIntS_ls2 F) :: laws_markIntS_LS0 F
theorem laws_markIntS_lsok1 (F : Nat) : LoopsOK Try.prog (laws_markIntS_LS1 F) (bodyOf Try.f26) := loopsOK_cons laws_markIntS_keys (laws_markIntS_lok2 F) (laws_markIntS_lsok0 F)
theorem laws_markIntS_run (F : Nat) (a1 : Nat) (k2 : Int) (a3 : List Int) : runS tt (laws_markIntS_tab F) (laws_markIntS_LS1 F) [] [] Try.f26 (bodyOf Try.f26) 70 [(.sl 0 0 a1), (.int .i64 k2)] [(.vec 3 (.ri .i64 a3))] = laws_markIntS_c _ F a1 k2 a3 (fun r => some ⟨(.int .i64 r.1), [(.vec 3 (.ri .i64 r.2))], []⟩) := by kernel_rfl
def laws_markIntS_ent (F : Nat) : Ent := ⟨[true], .loud, fun args mem => match args, mem with
  | [(.sl 0 0 a1), (.int .i64 k2)], [(.vec 3 (.ri .i64 a3))] => some ((laws_markIntS_p F a1 k2 a3).isSome, ⟨(.int .i64 ((laws_markIntS_p F a1 k2 a3).getD default).1), [(.vec 3 (.ri .i64 ((laws_markIntS_p F a1 k2 a3).getD default).2))], []⟩)
  | _, _ => none⟩
theorem laws_markIntS_fok : FunOK Try.prog 26 := funOK Try.func26 (by kernel_rfl) rfl
theorem laws_markIntS_meets (F : Nat) : Meets Try.prog 26 (laws_markIntS_ent F) := by
  refine meets_of_runS mixed ttok deep (laws_markIntS_tabok F) Try.func26 (body_some rfl) (laws_markIntS_lsok1 F) fun args mem hfit ret h => ?_
  clear hfit
  simp only [laws_markIntS_ent] at h
  split at h
  · rename_i a1 k2 a3
    simp only [Option.some.injEq, Prod.mk.injEq] at h
    obtain ⟨hc, rfl⟩ := h
    exact ⟨[], [], 70, _, (laws_markIntS_run F a1 k2 a3).trans ((laws_markIntS_cp _ F a1 k2 a3 _).trans (bind_use hc _)), rfl, rfl, rfl⟩
  · cases h

/-! loop.example/g01194/laws.heldIntS -/
noncomputable def laws_heldIntS_tab (F : Nat) : Tab := []
theorem laws_heldIntS_tabok (F : Nat) : TabOK Try.prog (laws_heldIntS_tab F) := tab_nil
noncomputable def laws_heldIntS_LS0 (F : Nat) : LT := []
theorem laws_heldIntS_lsok0 (F : Nat) : LoopsOK Try.prog (laws_heldIntS_LS0 F) (bodyOf Try.f27) := loopsOK_nil
theorem laws_heldIntS_keys : keysOK (bodyOf Try.f27) = true := by kernel_rfl
def laws_heldIntS_st2 (a0 : List Int) (k1 : Int) (i2 : Int) : St := ⟨expand 21 0 [0, 1, 5] [(.ri .i64 a0), (.int .i64 k1), (.int .i64 i2)], [], 0, []⟩
def laws_heldIntS_o2 (a0 : List Int) (x : Bool × Int) : GT := (.br x.1 (.out (.ret ⟨expand 21 0 [4] [(.int .i64 (-1 : Int))], [], 0, []⟩)) (.out (.exit 0 ⟨expand 21 0 [1] [(.int .i64 x.2)], [], 0, []⟩)))
def laws_heldIntS_ls2 (F : Nat) : LoopS := ⟨21, [0, 1, 5], [], [1], [], [4], [], [], fun vals mem np killed => match vals, mem, np, killed with
  | [(.ri .i64 a0), (.int .i64 k1), (.int .i64 i2)], [], 0, [] => .br (laws_heldIntS_l2 F a0 k1 i2).isSome (laws_heldIntS_o2 a0 ((laws_heldIntS_l2 F a0 k1 i2).getD default)) .fail
  | _, _, _, _ => .fail⟩
theorem laws_heldIntS_step2 (F : Nat) (a0 : List Int) (k1 : Int) (i2 : Int) {R : Type} (k : Out → Option R) : stepS tt (laws_heldIntS_tab F) (laws_heldIntS_LS0 F) 70 (laws_heldIntS_ls2 F) (loopAt 2 (bodyOf Try.f27)) (laws_heldIntS_st2 a0 k1 i2) k = laws_heldIntS_s2 F a0 R (k1, i2) (fun s => k (.norm (laws_heldIntS_st2 a0 s.1 s.2))) (fun x => (laws_heldIntS_o2 a0 x).run k) := by kernel_rfl
theorem laws_heldIntS_iter2 (F : Nat) (a0 : List Int) {R : Type} (k : Out → Option R) : ∀ (n : Nat) (k1 : Int) (i2 : Int), iterS tt (laws_heldIntS_tab F) (laws_heldIntS_LS0 F) 70 (laws_heldIntS_ls2 F) (loopAt 2 (bodyOf Try.f27)) n (laws_heldIntS_st2 a0 k1 i2) k = loopC (laws_heldIntS_s2 F a0) n (k1, i2) (fun x => (laws_heldIntS_o2 a0 x).run k)
  | 0, k1, i2 => rfl
  | n + 1, k1, i2 => (iterS_succ tt (laws_heldIntS_tab F) (laws_heldIntS_LS0 F) 70 (laws_heldIntS_ls2 F) (loopAt 2 (bodyOf Try.f27)) n (laws_heldIntS_st2 a0 k1 i2) k).trans ((laws_heldIntS_step2 F a0 k1 i2 (nextK (iterS tt (laws_heldIntS_tab F) (laws_heldIntS_LS0 F) 70 (laws_heldIntS_ls2 F) (loopAt 2 (bodyOf Try.f27)) n) k)).trans (congrArg (fun kn => laws_heldIntS_s2 F a0 R (k1, i2) kn _) (funext (fun ⟨k1, i2⟩ => laws_heldIntS_iter2 F a0 k n k1 i2))))
theorem laws_heldIntS_lok2 (F : Nat) : LoopOK Try.prog (loopAt 2 (bodyOf Try.f27)) (laws_heldIntS_ls2 F) := by
  refine loopOK_of mixed ttok deep (laws_heldIntS_tabok F) (loopsOK_at (laws_heldIntS_lsok0 F) 2) (fuel := 70) fun R vals mem np killed k x h => ?_
  simp only [laws_heldIntS_ls2] at h
  split at h
  · rename_i a0 k1 i2
    simp only [GT.run] at h
    have hc := (cond_noneL h).1
    replace h := (cond_noneL h).2
    refine ⟨F, (laws_heldIntS_iter2 F a0 k F k1 i2).trans ((loopC_use (laws_heldIntS_s2_nat F a0) hc _).trans h)⟩
  · simp only [GT.run] at h
    cases h
noncomputable def laws_heldIntS_LS1 (F : Nat) : LT := (2, laws_heldIntS_ls2 F) :: laws_heldIntS_LS0 F
theorem laws_heldIntS_lsok1 (F : Nat) : LoopsOK Try.prog (laws_heldIntS_LS1 F) (bodyOf Try.f27) := loopsOK_cons laws_heldIntS_keys (laws_heldIntS_lok2 F) (laws_heldIntS_lsok0 F)
theorem laws_heldIntS_run (F : Nat) (a0 : List Int) (k1 : Int) : runS tt (laws_heldIntS_tab F) (laws_heldIntS_LS1 F) [] [] Try.f27 (bodyOf Try.f27) 70 [(.ri .i64 a0), (.int .i64 k1)] [] = laws_heldIntS_c _ F a0 k1 (fun r => some ⟨(.int .i64 r), [], []⟩) := by kernel_rfl
def laws_heldIntS_ent (F : Nat) : Ent := ⟨[], .quiet, fun args mem => match args, mem with
  | [(.ri .i64 a0), (.int .i64 k1)], [] => some ((laws_heldIntS_p F a0 k1).isSome, ⟨(.int .i64 ((laws_heldIntS_p F a0 k1).getD default)), [], []⟩)
  | _, _ => none⟩
theorem laws_heldIntS_fok : FunOK Try.prog 27 := funOK Try.func27 (by kernel_rfl) rfl
theorem laws_heldIntS_meets (F : Nat) : Meets Try.prog 27 (laws_heldIntS_ent F) := by
  refine meets_of_runS mixed ttok deep (laws_heldIntS_tabok F) Try.func27 (body_some rfl) (laws_heldIntS_lsok1 F) fun args mem hfit ret h => ?_
  clear hfit
  simp only [laws_heldIntS_ent] at h
  split at h
  · rename_i a0 k1
    simp only [Option.some.injEq, Prod.mk.injEq] at h
    obtain ⟨hc, rfl⟩ := h
    exact ⟨[], [], 70, _, (laws_heldIntS_run F a0 k1).trans ((laws_heldIntS_cp _ F a0 k1 _).trans (bind_use hc _)), rfl, rfl, rfl⟩
  · cases h

/-! loop.example/g01194/laws.FnExactSidesInto -/
noncomputable def laws_FnExactSidesInto_tab (F : Nat) : Tab := [(14, (laws_toBoard_ent F)), (23, (spec_SidesInto_ent F)), (24, (impl_SidesInto_ent F)), (25, (laws_eqIntS_ent F)), (26, (laws_markIntS_ent F)), (27, (laws_heldIntS_ent F))]
theorem laws_FnExactSidesInto_tabok (F : Nat) : TabOK Try.prog (laws_FnExactSidesInto_tab F) := (tab_cons (laws_toBoard_meets F) laws_toBoard_fok (tab_cons (spec_SidesInto_meets F) spec_SidesInto_fok (tab_cons (impl_SidesInto_meets F) impl_SidesInto_fok (tab_cons (laws_eqIntS_meets F) laws_eqIntS_fok (tab_cons (laws_markIntS_meets F) laws_markIntS_fok (tab_cons (laws_heldIntS_meets F) laws_heldIntS_fok tab_nil))))))
noncomputable def laws_FnExactSidesInto_LS0 (F : Nat) : LT := []
theorem laws_FnExactSidesInto_lsok0 (F : Nat) : LoopsOK Try.prog (laws_FnExactSidesInto_LS0 F) (bodyOf Try.f7) := loopsOK_nil
theorem laws_FnExactSidesInto_run (F : Nat) (aB0 : List Int) : runS tt (laws_FnExactSidesInto_tab F) (laws_FnExactSidesInto_LS0 F) [] [] Try.f7 (bodyOf Try.f7) 70 [(.ints 16 aB0)] [] = laws_FnExactSidesInto_c _ F aB0 (fun r => some ⟨(.bool r), [], []⟩) := by kernel_rfl
def laws_FnExactSidesInto_ent (F : Nat) : Ent := ⟨[], .quiet, fun args mem => match args, mem with
  | [(.ints 16 aB0)], [] => some ((laws_FnExactSidesInto_p F aB0).isSome, ⟨(.bool ((laws_FnExactSidesInto_p F aB0).getD default)), [], []⟩)
  | _, _ => none⟩
theorem laws_FnExactSidesInto_fok : FunOK Try.prog 7 := funOK Try.func7 (by kernel_rfl) rfl
theorem laws_FnExactSidesInto_meets (F : Nat) : Meets Try.prog 7 (laws_FnExactSidesInto_ent F) := by
  refine meets_of_runS mixed ttok deep (laws_FnExactSidesInto_tabok F) Try.func7 (body_some rfl) (laws_FnExactSidesInto_lsok0 F) fun args mem hfit ret h => ?_
  clear hfit
  simp only [laws_FnExactSidesInto_ent] at h
  split at h
  · rename_i aB0
    simp only [Option.some.injEq, Prod.mk.injEq] at h
    obtain ⟨hc, rfl⟩ := h
    exact ⟨[], [], 70, _, (laws_FnExactSidesInto_run F aB0).trans ((laws_FnExactSidesInto_cp _ F aB0 _).trans (bind_use hc _)), rfl, rfl, rfl⟩
  · cases h

/-! loop.example/g01194/spec.ArisesBy -/
noncomputable def spec_ArisesBy_tab (F : Nat) : Tab := [(45, (spec_l2Board_ent F)), (59, (spec_l2At_ent F)), (58, (spec_l1In_ent F)), (60, (spec_l2Put_ent F)), (52, (spec_l6Sides_ent F))]
theorem spec_ArisesBy_tabok (F : Nat) : TabOK Try.prog (spec_ArisesBy_tab F) := (tab_cons (spec_l2Board_meets F) spec_l2Board_fok (tab_cons (spec_l2At_meets F) spec_l2At_fok (tab_cons (spec_l1In_meets F) spec_l1In_fok (tab_cons (spec_l2Put_meets F) spec_l2Put_fok (tab_cons (spec_l6Sides_meets F) spec_l6Sides_fok tab_nil)))))
noncomputable def spec_ArisesBy_LS0 (F : Nat) : LT := []
theorem spec_ArisesBy_lsok0 (F : Nat) : LoopsOK Try.prog (spec_ArisesBy_LS0 F) (bodyOf Try.f28) := loopsOK_nil
theorem spec_ArisesBy_keys : keysOK (bodyOf Try.f28) = true := by kernel_rfl
def spec_ArisesBy_st8 (r5 : Int) (b7 : List Int) (c6 : Int) (out8 : List (List Int)) : St := ⟨expand 41 0 [1, 4, 5, 6] [(.ptr 0 0 0 16), (.sl 1 0 (List.length out8)), (.int .i64 r5), (.int .i64 c6)], [(.var 16 (.ri .i64 b7)), (.vec 69 (.rr 2 out8))], 0, []⟩
def spec_ArisesBy_o8 (r5 : Int) (b7 : List Int) (x : List (List Int)) : GT := (.out (.exit 2 ⟨expand 41 0 [1, 4, 5] [(.ptr 0 0 0 16), (.sl 1 0 (List.length x)), (.int .i64 r5)], [(.var 16 (.ri .i64 b7)), (.vec 69 (.rr 2 x))], 0, []⟩))
def spec_ArisesBy_ls8 (F : Nat) : LoopS := ⟨41, [1, 4, 5, 6], [], [1, 4, 5], [], [2, 3], [], [], fun vals mem np killed => match vals, mem, np, killed with
  | [(.ptr 0 0 0 16), (.sl 1 0 q_out4), (.int .i64 r5), (.int .i64 c6)], [(.var 16 (.ri .i64 b7)), (.vec 69 (.rr 2 out8))], 0, [] => .br ((Nat.beq q_out4 (List.length out8)) && (spec_ArisesBy_l8 F r5 b7 c6 out8).isSome) (spec_ArisesBy_o8 r5 b7 ((spec_ArisesBy_l8 F r5 b7 c6 out8).getD default)) .fail
  | _, _, _, _ => .fail⟩
theorem spec_ArisesBy_step8 (F : Nat) (r5 : Int) (b7 : List Int) (c6 : Int) (out8 : List (List Int)) {R : Type} (k : Out → Option R) : stepS tt (spec_ArisesBy_tab F) (spec_ArisesBy_LS0 F) 70 (spec_ArisesBy_ls8 F) (loopAt 8 (bodyOf Try.f28)) (spec_ArisesBy_st8 r5 b7 c6 out8) k = spec_ArisesBy_s8 F r5 b7 R (c6, out8) (fun s => k (.norm (spec_ArisesBy_st8 r5 b7 s.1 s.2))) (fun x => (spec_ArisesBy_o8 r5 b7 x).run k) := by kernel_rfl
theorem spec_ArisesBy_iter8 (F : Nat) (r5 : Int) (b7 : List Int) {R : Type} (k : Out → Option R) : ∀ (n : Nat) (c6 : Int) (out8 : List (List Int)), iterS tt (spec_ArisesBy_tab F) (spec_ArisesBy_LS0 F) 70 (spec_ArisesBy_ls8 F) (loopAt 8 (bodyOf Try.f28)) n (spec_ArisesBy_st8 r5 b7 c6 out8) k = loopC (spec_ArisesBy_s8 F r5 b7) n (c6, out8) (fun x => (spec_ArisesBy_o8 r5 b7 x).run k)
  | 0, c6, out8 => rfl
  | n + 1, c6, out8 => (iterS_succ tt (spec_ArisesBy_tab F) (spec_ArisesBy_LS0 F) 70 (spec_ArisesBy_ls8 F) (loopAt 8 (bodyOf Try.f28)) n (spec_ArisesBy_st8 r5 b7 c6 out8) k).trans ((spec_ArisesBy_step8 F r5 b7 c6 out8 (nextK (iterS tt (spec_ArisesBy_tab F) (spec_ArisesBy_LS0 F) 70 (spec_ArisesBy_ls8 F) (loopAt 8 (bodyOf Try.f28)) n) k)).trans (congrArg (fun kn => spec_ArisesBy_s8 F r5 b7 R (c6, out8) kn _) (funext (fun ⟨c6, out8⟩ => spec_ArisesBy_iter8 F r5 b7 k n c6 out8))))
theorem spec_ArisesBy_lok8 (F : Nat) : LoopOK Try.prog (loopAt 8 (bodyOf Try.f28)) (spec_ArisesBy_ls8 F) := by
  refine loopOK_of mixed ttok deep (spec_ArisesBy_tabok F) (loopsOK_at (spec_ArisesBy_lsok0 F) 8) (fuel := 70) fun R vals mem np killed k x h => ?_
  simp only [spec_ArisesBy_ls8] at h
  split at h
  · rename_i q_out4 r5 c6 b7 out8
    simp only [GT.run] at h
    have hc := (cond_noneL h).1
    replace h := (cond_noneL h).2
    have hg := (and_split hc).1
    replace hc := (and_split hc).2
    obtain rfl := nbeq_nat hg
    refine ⟨F, (spec_ArisesBy_iter8 F r5 b7 k F c6 out8).trans ((loopC_use (spec_ArisesBy_s8_nat F r5 b7) hc _).trans h)⟩
  · simp only [GT.run] at h
    cases h
noncomputable def spec_ArisesBy_LS1 (F : Nat) : LT := (8, spec_ArisesBy_ls8 F) :: spec_ArisesBy_LS0 F
theorem spec_ArisesBy_lsok1 (F : Nat) : LoopsOK Try.prog (spec_ArisesBy_LS1 F) (bodyOf Try.f28) := loopsOK_cons spec_ArisesBy_keys (spec_ArisesBy_lok8 F) (spec_ArisesBy_lsok0 F)
def spec_ArisesBy_st5 (b6 : List Int) (r5 : Int) (out7 : List (List Int)) : St := ⟨expand 41 0 [1, 4, 5] [(.ptr 0 0 0 16), (.sl 1 0 (List.length out7)), (.int .i64 r5)], [(.var 16 (.ri .i64 b6)), (.vec 69 (.rr 2 out7))], 0, []⟩
def spec_ArisesBy_o5 (b6 : List Int) (x : List (List Int)) : GT := (.out (.exit 0 ⟨expand 41 0 [4] [(.sl 0 0 (List.length x))], [(.vec 69 (.rr 2 x))], 0, []⟩))
def spec_ArisesBy_ls5 (F : Nat) : LoopS := ⟨41, [1, 4, 5], [], [4], [], [2, 3], [], [], fun vals mem np killed => match vals, mem, np, killed with
  | [(.ptr 0 0 0 16), (.sl 1 0 q_out4), (.int .i64 r5)], [(.var 16 (.ri .i64 b6)), (.vec 69 (.rr 2 out7))], 0, [] => .br ((Nat.beq q_out4 (List.length out7)) && (spec_ArisesBy_l5 F b6 r5 out7).isSome) (spec_ArisesBy_o5 b6 ((spec_ArisesBy_l5 F b6 r5 out7).getD default)) .fail
  | _, _, _, _ => .fail⟩
theorem spec_ArisesBy_step5 (F : Nat) (b6 : List Int) (r5 : Int) (out7 : List (List Int)) {R : Type} (k : Out → Option R) : stepS tt (spec_ArisesBy_tab F) (spec_ArisesBy_LS1 F) 70 (spec_ArisesBy_ls5 F) (loopAt 5 (bodyOf Try.f28)) (spec_ArisesBy_st5 b6 r5 out7) k = spec_ArisesBy_s5 F b6 R (r5, out7) (fun s => k (.norm (spec_ArisesBy_st5 b6 s.1 s.2))) (fun x => (spec_ArisesBy_o5 b6 x).run k) := by kernel_rfl
theorem spec_ArisesBy_iter5 (F : Nat) (b6 : List Int) {R : Type} (k : Out → Option R) : ∀ (n : Nat) (r5 : Int) (out7 : List (List Int)), iterS tt (spec_ArisesBy_tab F) (spec_ArisesBy_LS1 F) 70 (spec_ArisesBy_ls5 F) (loopAt 5 (bodyOf Try.f28)) n (spec_ArisesBy_st5 b6 r5 out7) k = loopC (spec_ArisesBy_s5 F b6) n (r5, out7) (fun x => (spec_ArisesBy_o5 b6 x).run k)
  | 0, r5, out7 => rfl
  | n + 1, r5, out7 => (iterS_succ tt (spec_ArisesBy_tab F) (spec_ArisesBy_LS1 F) 70 (spec_ArisesBy_ls5 F) (loopAt 5 (bodyOf Try.f28)) n (spec_ArisesBy_st5 b6 r5 out7) k).trans ((spec_ArisesBy_step5 F b6 r5 out7 (nextK (iterS tt (spec_ArisesBy_tab F) (spec_ArisesBy_LS1 F) 70 (spec_ArisesBy_ls5 F) (loopAt 5 (bodyOf Try.f28)) n) k)).trans (congrArg (fun kn => spec_ArisesBy_s5 F b6 R (r5, out7) kn _) (funext (fun ⟨r5, out7⟩ => spec_ArisesBy_iter5 F b6 k n r5 out7))))
theorem spec_ArisesBy_lok5 (F : Nat) : LoopOK Try.prog (loopAt 5 (bodyOf Try.f28)) (spec_ArisesBy_ls5 F) := by
  refine loopOK_of mixed ttok deep (spec_ArisesBy_tabok F) (loopsOK_at (spec_ArisesBy_lsok1 F) 5) (fuel := 70) fun R vals mem np killed k x h => ?_
  simp only [spec_ArisesBy_ls5] at h
  split at h
  · rename_i q_out4 r5 b6 out7
    simp only [GT.run] at h
    have hc := (cond_noneL h).1
    replace h := (cond_noneL h).2
    have hg := (and_split hc).1
    replace hc := (and_split hc).2
    obtain rfl := nbeq_nat hg
    refine ⟨F, (spec_ArisesBy_iter5 F b6 k F r5 out7).trans ((loopC_use (spec_ArisesBy_s5_nat F b6) hc _).trans h)⟩
  · simp only [GT.run] at h
    cases h
noncomputable def spec_ArisesBy_LS2 (F : Nat) : LT := (5, spec_ArisesBy_ls5 F) :: spec_ArisesBy_LS1 F
theorem spec_ArisesBy_lsok2 (F : Nat) : LoopsOK Try.prog (spec_ArisesBy_LS2 F) (bodyOf Try.f28) := loopsOK_cons spec_ArisesBy_keys (spec_ArisesBy_lok5 F) (spec_ArisesBy_lsok1 F)
theorem spec_ArisesBy_run (F : Nat) (b0 : List Int) : runS tt (spec_ArisesBy_tab F) (spec_ArisesBy_LS2 F) [] [] Try.f28 (bodyOf Try.f28) 70 [(.ints 16 b0)] [] = spec_ArisesBy_c _ F b0 (fun r => some ⟨(.tup [(.sl 0 0 (List.length r.2)), (.bool r.1)]), [(.vec 69 (.rr 2 r.2))], []⟩) := by kernel_rfl
def spec_ArisesBy_ent (F : Nat) : Ent := ⟨[], .fresh, fun args mem => match args, mem with
  | [(.ints 16 b0)], [] => some ((spec_ArisesBy_p F b0).isSome, ⟨(.tup [(.sl 0 0 (List.length ((spec_ArisesBy_p F b0).getD default).2)), (.bool ((spec_ArisesBy_p F b0).getD default).1)]), [(.vec 69 (.rr 2 ((spec_ArisesBy_p F b0).getD default).2))], []⟩)
  | _, _ => none⟩
theorem spec_ArisesBy_fok : FunOK Try.prog 28 := funOK Try.func28 (by kernel_rfl) rfl
theorem spec_ArisesBy_meets (F : Nat) : Meets Try.prog 28 (spec_ArisesBy_ent F) := by
  refine meets_of_runS mixed ttok deep (spec_ArisesBy_tabok F) Try.func28 (body_some rfl) (spec_ArisesBy_lsok2 F) fun args mem hfit ret h => ?_
  clear hfit
  simp only [spec_ArisesBy_ent] at h
  split at h
  · rename_i b0
    simp only [Option.some.injEq, Prod.mk.injEq] at h
    obtain ⟨hc, rfl⟩ := h
    exact ⟨[], [], 70, _, (spec_ArisesBy_run F b0).trans ((spec_ArisesBy_cp _ F b0 _).trans (bind_use hc _)), rfl, rfl, rfl⟩
  · cases h

/-! loop.example/g01194/impl.cells -/
noncomputable def impl_cells_tab (F : Nat) : Tab := []
theorem impl_cells_tabok (F : Nat) : TabOK Try.prog (impl_cells_tab F) := tab_nil
noncomputable def impl_cells_LS0 (F : Nat) : LT := []
theorem impl_cells_lsok0 (F : Nat) : LoopsOK Try.prog (impl_cells_LS0 F) (bodyOf Try.f62) := loopsOK_nil
theorem impl_cells_run (F : Nat) : runS tt (impl_cells_tab F) (impl_cells_LS0 F) [] [] Try.f62 (bodyOf Try.f62) 70 [] [] = impl_cells_c _ (fun r => some ⟨(.sl 0 0 16), [(.vec 69 (.rr 2 [[(0 : Int), (0 : Int)], [(0 : Int), (1 : Int)], [(0 : Int), (2 : Int)], [(0 : Int), (3 : Int)], [(1 : Int), (0 : Int)], [(1 : Int), (1 : Int)], [(1 : Int), (2 : Int)], [(1 : Int), (3 : Int)], [(2 : Int), (0 : Int)], [(2 : Int), (1 : Int)], [(2 : Int), (2 : Int)], [(2 : Int), (3 : Int)], [(3 : Int), (0 : Int)], [(3 : Int), (1 : Int)], [(3 : Int), (2 : Int)], [(3 : Int), (3 : Int)]]))], []⟩) := by kernel_rfl
def impl_cells_ent (F : Nat) : Ent := ⟨[], .fresh, fun args mem => match args, mem with
  | [], [] => some (true, ⟨(.sl 0 0 16), [(.vec 69 (.rr 2 [[(0 : Int), (0 : Int)], [(0 : Int), (1 : Int)], [(0 : Int), (2 : Int)], [(0 : Int), (3 : Int)], [(1 : Int), (0 : Int)], [(1 : Int), (1 : Int)], [(1 : Int), (2 : Int)], [(1 : Int), (3 : Int)], [(2 : Int), (0 : Int)], [(2 : Int), (1 : Int)], [(2 : Int), (2 : Int)], [(2 : Int), (3 : Int)], [(3 : Int), (0 : Int)], [(3 : Int), (1 : Int)], [(3 : Int), (2 : Int)], [(3 : Int), (3 : Int)]]))], []⟩)
  | _, _ => none⟩
theorem impl_cells_fok : FunOK Try.prog 62 := funOK Try.func62 (by kernel_rfl) rfl
theorem impl_cells_meets (F : Nat) : Meets Try.prog 62 (impl_cells_ent F) := by
  refine meets_of_runS mixed ttok deep (impl_cells_tabok F) Try.func62 (body_some rfl) (impl_cells_lsok0 F) fun args mem hfit ret h => ?_
  clear hfit
  simp only [impl_cells_ent] at h
  split at h
  · simp only [Option.some.injEq, Prod.mk.injEq] at h
    obtain ⟨hc, rfl⟩ := h
    exact ⟨[], [], 70, _, (impl_cells_run F).trans (impl_cells_cv _ _), rfl, rfl, rfl⟩
  · cases h

/-! loop.example/g01194/impl.ArisesBy$1 -/
noncomputable def impl_ArisesBy_f1_tab (F : Nat) : Tab := [(64, (impl_Board_at_ent F)), (20, (impl_IsMade_ent F)), (65, (impl_in_ent F))]
theorem impl_ArisesBy_f1_tabok (F : Nat) : TabOK Try.prog (impl_ArisesBy_f1_tab F) := (tab_cons (impl_Board_at_meets F) impl_Board_at_fok (tab_cons (impl_IsMade_meets F) impl_IsMade_fok (tab_cons (impl_in_meets F) impl_in_fok tab_nil)))
noncomputable def impl_ArisesBy_f1_LS0 (F : Nat) : LT := []
theorem impl_ArisesBy_f1_lsok0 (F : Nat) : LoopsOK Try.prog (impl_ArisesBy_f1_LS0 F) (bodyOf Try.f63) := loopsOK_nil
theorem impl_ArisesBy_f1_run (F : Nat) (cell0 : List Int) (a14 : List Int) : runS tt (impl_ArisesBy_f1_tab F) (impl_ArisesBy_f1_LS0 F) [] [] Try.f63 (bodyOf Try.f63) 70 [(.ints 2 cell0), (.ptr 0 0 0 16)] [(.var 16 (.ri .i64 a14))] = impl_ArisesBy_f1_c _ F cell0 a14 (fun r => some ⟨(.bool r), [(.var 16 (.ri .i64 a14))], []⟩) := by kernel_rfl
def impl_ArisesBy_f1_ent (F : Nat) : Ent := ⟨[], .quiet, fun args mem => match args, mem with
  | [(.ints 2 cell0), (.ptr 0 0 0 16)], [(.var 16 (.ri .i64 a14))] => some ((impl_ArisesBy_f1_p F cell0 a14).isSome, ⟨(.bool ((impl_ArisesBy_f1_p F cell0 a14).getD default)), [], []⟩)
  | _, _ => none⟩
theorem impl_ArisesBy_f1_fok : FunOK Try.prog 63 := funOK Try.func63 (by kernel_rfl) rfl
theorem impl_ArisesBy_f1_meets (F : Nat) : Meets Try.prog 63 (impl_ArisesBy_f1_ent F) := by
  refine meets_of_runS mixed ttok deep (impl_ArisesBy_f1_tabok F) Try.func63 (body_some rfl) (impl_ArisesBy_f1_lsok0 F) fun args mem hfit ret h => ?_
  clear hfit
  simp only [impl_ArisesBy_f1_ent] at h
  split at h
  · rename_i cell0 a14
    simp only [Option.some.injEq, Prod.mk.injEq] at h
    obtain ⟨hc, rfl⟩ := h
    exact ⟨[], [], 70, _, (impl_ArisesBy_f1_run F cell0 a14).trans ((impl_ArisesBy_f1_cp _ F cell0 a14 _).trans (bind_use hc _)), rfl, rfl, rfl⟩
  · cases h

/-! slices.IndexFunc[[][2]int,[2]int] -/
noncomputable def slices_IndexFunc_2int2int_impl_ArisesBy_f1_tab (F : Nat) : Tab := [(63, (impl_ArisesBy_f1_ent F))]
theorem slices_IndexFunc_2int2int_impl_ArisesBy_f1_tabok (F : Nat) : TabOK Try.prog (slices_IndexFunc_2int2int_impl_ArisesBy_f1_tab F) := (tab_cons (impl_ArisesBy_f1_meets F) impl_ArisesBy_f1_fok tab_nil)
noncomputable def slices_IndexFunc_2int2int_impl_ArisesBy_f1_LS0 (F : Nat) : LT := []
theorem slices_IndexFunc_2int2int_impl_ArisesBy_f1_lsok0 (F : Nat) : LoopsOK Try.prog (slices_IndexFunc_2int2int_impl_ArisesBy_f1_LS0 F) (bodyOf Try.f93) := loopsOK_nil
theorem slices_IndexFunc_2int2int_impl_ArisesBy_f1_keys : keysOK (bodyOf Try.f93) = true := by kernel_rfl
def slices_IndexFunc_2int2int_impl_ArisesBy_f1_st2 (s0 : List (List Int)) (t74 : Int) (f6 : List Int) (t85 : Int) : St := ⟨expand 19 0 [0, 1, 7, 8] [(.rr 2 s0), (.fn 63 [] [(.ptr 0 0 0 16)]), (.int .i64 t74), (.int .i64 t85)], [(.var 16 (.ri .i64 f6))], 1, []⟩
def slices_IndexFunc_2int2int_impl_ArisesBy_f1_o2 (s0 : List (List Int)) (t74 : Int) (f6 : List Int) (x : Bool × Int) : GT := (.br x.1 (.out (.ret ⟨expand 19 0 [4] [(.int .i64 x.2)], [(.var 16 (.ri .i64 f6))], 1, []⟩)) (.out (.exit 0 ⟨expand 19 0 [] [], [(.var 16 (.ri .i64 f6))], 1, []⟩)))
def slices_IndexFunc_2int2int_impl_ArisesBy_f1_ls2 (F : Nat) : LoopS := ⟨19, [0, 1, 7, 8], [], [], [], [4], [], [], fun vals mem np killed => match vals, mem, np, killed with
  | [(.rr 2 s0), (.fn 63 [] [(.ptr 0 0 0 16)]), (.int .i64 t74), (.int .i64 t85)], [(.var 16 (.ri .i64 f6))], 1, [] => .br (slices_IndexFunc_2int2int_impl_ArisesBy_f1_l2 F s0 t74 f6 t85).isSome (slices_IndexFunc_2int2int_impl_ArisesBy_f1_o2 s0 t74 f6 ((slices_IndexFunc_2int2int_impl_ArisesBy_f1_l2 F s0 t74 f6 t85).getD default)) .fail
  | _, _, _, _ => .fail⟩
theorem slices_IndexFunc_2int2int_impl_ArisesBy_f1_step2 (F : Nat) (s0 : List (List Int)) (t74 : Int) (f6 : List Int) (t85 : Int) {R : Type} (k : Out → Option R) : stepS tt (slices_IndexFunc_2int2int_impl_ArisesBy_f1_tab F) (slices_IndexFunc_2int2int_impl_ArisesBy_f1_LS0 F) 70 (slices_IndexFunc_2int2int_impl_ArisesBy_f1_ls2 F) (loopAt 2 (bodyOf Try.f93)) (slices_IndexFunc_2int2int_impl_ArisesBy_f1_st2 s0 t74 f6 t85) k = slices_IndexFunc_2int2int_impl_ArisesBy_f1_s2 F s0 t74 f6 R t85 (fun s => k (.norm (slices_IndexFunc_2int2int_impl_ArisesBy_f1_st2 s0 t74 f6 s))) (fun x => (slices_IndexFunc_2int2int_impl_ArisesBy_f1_o2 s0 t74 f6 x).run k) := by kernel_rfl
theorem slices_IndexFunc_2int2int_impl_ArisesBy_f1_iter2 (F : Nat) (s0 : List (List Int)) (t74 : Int) (f6 : List Int) {R : Type} (k : Out → Option R) : ∀ (n : Nat) (t85 : Int), iterS tt (slices_IndexFunc_2int2int_impl_ArisesBy_f1_tab F) (slices_IndexFunc_2int2int_impl_ArisesBy_f1_LS0 F) 70 (slices_IndexFunc_2int2int_impl_ArisesBy_f1_ls2 F) (loopAt 2 (bodyOf Try.f93)) n (slices_IndexFunc_2int2int_impl_ArisesBy_f1_st2 s0 t74 f6 t85) k = loopC (slices_IndexFunc_2int2int_impl_ArisesBy_f1_s2 F s0 t74 f6) n t85 (fun x => (slices_IndexFunc_2int2int_impl_ArisesBy_f1_o2 s0 t74 f6 x).run k)
  | 0, t85 => rfl
  | n + 1, t85 => (iterS_succ tt (slices_IndexFunc_2int2int_impl_ArisesBy_f1_tab F) (slices_IndexFunc_2int2int_impl_ArisesBy_f1_LS0 F) 70 (slices_IndexFunc_2int2int_impl_ArisesBy_f1_ls2 F) (loopAt 2 (bodyOf Try.f93)) n (slices_IndexFunc_2int2int_impl_ArisesBy_f1_st2 s0 t74 f6 t85) k).trans ((slices_IndexFunc_2int2int_impl_ArisesBy_f1_step2 F s0 t74 f6 t85 (nextK (iterS tt (slices_IndexFunc_2int2int_impl_ArisesBy_f1_tab F) (slices_IndexFunc_2int2int_impl_ArisesBy_f1_LS0 F) 70 (slices_IndexFunc_2int2int_impl_ArisesBy_f1_ls2 F) (loopAt 2 (bodyOf Try.f93)) n) k)).trans (congrArg (fun kn => slices_IndexFunc_2int2int_impl_ArisesBy_f1_s2 F s0 t74 f6 R t85 kn _) (funext (fun t85 => slices_IndexFunc_2int2int_impl_ArisesBy_f1_iter2 F s0 t74 f6 k n t85))))
theorem slices_IndexFunc_2int2int_impl_ArisesBy_f1_lok2 (F : Nat) : LoopOK Try.prog (loopAt 2 (bodyOf Try.f93)) (slices_IndexFunc_2int2int_impl_ArisesBy_f1_ls2 F) := by
  refine loopOK_of mixed ttok deep (slices_IndexFunc_2int2int_impl_ArisesBy_f1_tabok F) (loopsOK_at (slices_IndexFunc_2int2int_impl_ArisesBy_f1_lsok0 F) 2) (fuel := 70) fun R vals mem np killed k x h => ?_
  simp only [slices_IndexFunc_2int2int_impl_ArisesBy_f1_ls2] at h
  split at h
  · rename_i s0 t74 t85 f6
    simp only [GT.run] at h
    have hc := (cond_noneL h).1
    replace h := (cond_noneL h).2
    refine ⟨F, (slices_IndexFunc_2int2int_impl_ArisesBy_f1_iter2 F s0 t74 f6 k F t85).trans ((loopC_use (slices_IndexFunc_2int2int_impl_ArisesBy_f1_s2_nat F s0 t74 f6) hc _).trans h)⟩
  · simp only [GT.run] at h
    cases h
noncomputable def slices_IndexFunc_2int2int_impl_ArisesBy_f1_LS1 (F : Nat) : LT := (2, slices_IndexFunc_2int2int_impl_ArisesBy_f1_ls2 F) :: slices_IndexFunc_2int2int_impl_ArisesBy_f1_LS0 F
theorem slices_IndexFunc_2int2int_impl_ArisesBy_f1_lsok1 (F : Nat) : LoopsOK Try.prog (slices_IndexFunc_2int2int_impl_ArisesBy_f1_LS1 F) (bodyOf Try.f93) := loopsOK_cons slices_IndexFunc_2int2int_impl_ArisesBy_f1_keys (slices_IndexFunc_2int2int_impl_ArisesBy_f1_lok2 F) (slices_IndexFunc_2int2int_impl_ArisesBy_f1_lsok0 F)
theorem slices_IndexFunc_2int2int_impl_ArisesBy_f1_run (F : Nat) (s0 : List (List Int)) (f4 : List Int) : runS tt (slices_IndexFunc_2int2int_impl_ArisesBy_f1_tab F) (slices_IndexFunc_2int2int_impl_ArisesBy_f1_LS1 F) [] [] Try.f93 (bodyOf Try.f93) 70 [(.rr 2 s0), (.fn 63 [] [(.ptr 0 0 0 16)])] [(.var 16 (.ri .i64 f4))] = slices_IndexFunc_2int2int_impl_ArisesBy_f1_c _ F s0 f4 (fun r => some ⟨(.int .i64 r), [(.var 16 (.ri .i64 f4))], []⟩) := by kernel_rfl
def slices_IndexFunc_2int2int_impl_ArisesBy_f1_ent (F : Nat) : Ent := ⟨[], .quiet, fun args mem => match args, mem with
  | [(.rr 2 s0), (.fn 63 [] [(.ptr 0 0 0 16)])], [(.var 16 (.ri .i64 f4))] => some ((slices_IndexFunc_2int2int_impl_ArisesBy_f1_p F s0 f4).isSome, ⟨(.int .i64 ((slices_IndexFunc_2int2int_impl_ArisesBy_f1_p F s0 f4).getD default)), [], []⟩)
  | _, _ => none⟩
theorem slices_IndexFunc_2int2int_impl_ArisesBy_f1_fok : FunOK Try.prog 93 := funOK Try.func93 (by kernel_rfl) rfl
theorem slices_IndexFunc_2int2int_impl_ArisesBy_f1_meets (F : Nat) : Meets Try.prog 93 (slices_IndexFunc_2int2int_impl_ArisesBy_f1_ent F) := by
  refine meets_of_runS mixed ttok deep (slices_IndexFunc_2int2int_impl_ArisesBy_f1_tabok F) Try.func93 (body_some rfl) (slices_IndexFunc_2int2int_impl_ArisesBy_f1_lsok1 F) fun args mem hfit ret h => ?_
  clear hfit
  simp only [slices_IndexFunc_2int2int_impl_ArisesBy_f1_ent] at h
  split at h
  · rename_i s0 f4
    simp only [Option.some.injEq, Prod.mk.injEq] at h
    obtain ⟨hc, rfl⟩ := h
    exact ⟨[], [], 70, _, (slices_IndexFunc_2int2int_impl_ArisesBy_f1_run F s0 f4).trans ((slices_IndexFunc_2int2int_impl_ArisesBy_f1_cp _ F s0 f4 _).trans (bind_use hc _)), rfl, rfl, rfl⟩
  · cases h

/-! slices.DeleteFunc[[][2]int,[2]int] -/
noncomputable def slices_DeleteFunc_2int2int_impl_ArisesBy_f1_tab (F : Nat) : Tab := [(93, (slices_IndexFunc_2int2int_impl_ArisesBy_f1_ent F)), (63, (impl_ArisesBy_f1_ent F))]
theorem slices_DeleteFunc_2int2int_impl_ArisesBy_f1_tabok (F : Nat) : TabOK Try.prog (slices_DeleteFunc_2int2int_impl_ArisesBy_f1_tab F) := (tab_cons (slices_IndexFunc_2int2int_impl_ArisesBy_f1_meets F) slices_IndexFunc_2int2int_impl_ArisesBy_f1_fok (tab_cons (impl_ArisesBy_f1_meets F) impl_ArisesBy_f1_fok tab_nil))
noncomputable def slices_DeleteFunc_2int2int_impl_ArisesBy_f1_LS0 (F : Nat) : LT := []
theorem slices_DeleteFunc_2int2int_impl_ArisesBy_f1_lsok0 (F : Nat) : LoopsOK Try.prog (slices_DeleteFunc_2int2int_impl_ArisesBy_f1_LS0 F) (bodyOf Try.f61) := loopsOK_nil
theorem slices_DeleteFunc_2int2int_impl_ArisesBy_f1_keys : keysOK (bodyOf Try.f61) = true := by kernel_rfl
def slices_DeleteFunc_2int2int_impl_ArisesBy_f1_st5 (s1 : Nat) (del8 : List Int) (i5 : Int) (j6 : Int) (s7 : List (List Int)) : St := ⟨expand 42 0 [0, 1, 5, 6] [(.sl 0 0 s1), (.fn 63 [] [(.ptr 1 0 0 16)]), (.int .i64 i5), (.int .i64 j6)], [(.vec 69 (.rr 2 s7)), (.var 16 (.ri .i64 del8))], 2, []⟩
def slices_DeleteFunc_2int2int_impl_ArisesBy_f1_o5 (s1 : Nat) (del8 : List Int) (x : Int × List (List Int)) : GT := (.out (.exit 0 ⟨expand 42 0 [0, 5] [(.sl 0 0 s1), (.int .i64 x.1)], [(.vec 69 (.rr 2 x.2)), (.var 16 (.ri .i64 del8))], 2, []⟩))
def slices_DeleteFunc_2int2int_impl_ArisesBy_f1_ls5 (F : Nat) : LoopS := ⟨42, [0, 1, 5, 6], [], [0, 5], [], [4], [], [], fun vals mem np killed => match vals, mem, np, killed with
  | [(.sl 0 0 s1), (.fn 63 [] [(.ptr 1 0 0 16)]), (.int .i64 i5), (.int .i64 j6)], [(.vec 69 (.rr 2 s7)), (.var 16 (.ri .i64 del8))], 2, [] => .br (slices_DeleteFunc_2int2int_impl_ArisesBy_f1_l5 F s1 del8 i5 j6 s7).isSome (slices_DeleteFunc_2int2int_impl_ArisesBy_f1_o5 s1 del8 ((slices_DeleteFunc_2int2int_impl_ArisesBy_f1_l5 F s1 del8 i5 j6 s7).getD default)) .fail
  | _, _, _, _ => .fail⟩
theorem slices_DeleteFunc_2int2int_impl_ArisesBy_f1_step5 (F : Nat) (s1 : Nat) (del8 : List Int) (i5 : Int) (j6 : Int) (s7 : List (List Int)) {R : Type} (k : Out → Option R) : stepS tt (slices_DeleteFunc_2int2int_impl_ArisesBy_f1_tab F) (slices_DeleteFunc_2int2int_impl_ArisesBy_f1_LS0 F) 70 (slices_DeleteFunc_2int2int_impl_ArisesBy_f1_ls5 F) (loopAt 5 (bodyOf Try.f61)) (slices_DeleteFunc_2int2int_impl_ArisesBy_f1_st5 s1 del8 i5 j6 s7) k = slices_DeleteFunc_2int2int_impl_ArisesBy_f1_s5 F s1 del8 R (i5, j6, s7) (fun s => k (.norm (slices_DeleteFunc_2int2int_impl_ArisesBy_f1_st5 s1 del8 s.1 s.2.1 s.2.2))) (fun x => (slices_DeleteFunc_2int2int_impl_ArisesBy_f1_o5 s1 del8 x).run k) := by kernel_rfl
theorem slices_DeleteFunc_2int2int_impl_ArisesBy_f1_iter5 (F : Nat) (s1 : Nat) (del8 : List Int) {R : Type} (k : Out → Option R) : ∀ (n : Nat) (i5 : Int) (j6 : Int) (s7 : List (List Int)), iterS tt (slices_DeleteFunc_2int2int_impl_ArisesBy_f1_tab F) (slices_DeleteFunc_2int2int_impl_ArisesBy_f1_LS0 F) 70 (slices_DeleteFunc_2int2int_impl_ArisesBy_f1_ls5 F) (loopAt 5 (bodyOf Try.f61)) n (slices_DeleteFunc_2int2int_impl_ArisesBy_f1_st5 s1 del8 i5 j6 s7) k = loopC (slices_DeleteFunc_2int2int_impl_ArisesBy_f1_s5 F s1 del8) n (i5, j6, s7) (fun x => (slices_DeleteFunc_2int2int_impl_ArisesBy_f1_o5 s1 del8 x).run k)
  | 0, i5, j6, s7 => rfl
  | n + 1, i5, j6, s7 => (iterS_succ tt (slices_DeleteFunc_2int2int_impl_ArisesBy_f1_tab F) (slices_DeleteFunc_2int2int_impl_ArisesBy_f1_LS0 F) 70 (slices_DeleteFunc_2int2int_impl_ArisesBy_f1_ls5 F) (loopAt 5 (bodyOf Try.f61)) n (slices_DeleteFunc_2int2int_impl_ArisesBy_f1_st5 s1 del8 i5 j6 s7) k).trans ((slices_DeleteFunc_2int2int_impl_ArisesBy_f1_step5 F s1 del8 i5 j6 s7 (nextK (iterS tt (slices_DeleteFunc_2int2int_impl_ArisesBy_f1_tab F) (slices_DeleteFunc_2int2int_impl_ArisesBy_f1_LS0 F) 70 (slices_DeleteFunc_2int2int_impl_ArisesBy_f1_ls5 F) (loopAt 5 (bodyOf Try.f61)) n) k)).trans (congrArg (fun kn => slices_DeleteFunc_2int2int_impl_ArisesBy_f1_s5 F s1 del8 R (i5, j6, s7) kn _) (funext (fun ⟨i5, j6, s7⟩ => slices_DeleteFunc_2int2int_impl_ArisesBy_f1_iter5 F s1 del8 k n i5 j6 s7))))
theorem slices_DeleteFunc_2int2int_impl_ArisesBy_f1_lok5 (F : Nat) : LoopOK Try.prog (loopAt 5 (bodyOf Try.f61)) (slices_DeleteFunc_2int2int_impl_ArisesBy_f1_ls5 F) := by
  refine loopOK_of mixed ttok deep (slices_DeleteFunc_2int2int_impl_ArisesBy_f1_tabok F) (loopsOK_at (slices_DeleteFunc_2int2int_impl_ArisesBy_f1_lsok0 F) 5) (fuel := 70) fun R vals mem np killed k x h => ?_
  simp only [slices_DeleteFunc_2int2int_impl_ArisesBy_f1_ls5] at h
  split at h
  · rename_i s1 i5 j6 s7 del8
    simp only [GT.run] at h
    have hc := (cond_noneL h).1
    replace h := (cond_noneL h).2
    refine ⟨F, (slices_DeleteFunc_2int2int_impl_ArisesBy_f1_iter5 F s1 del8 k F i5 j6 s7).trans ((loopC_use (slices_DeleteFunc_2int2int_impl_ArisesBy_f1_s5_nat F s1 del8) hc _).trans h)⟩
  · simp only [GT.run] at h
    cases h
noncomputable def slices_DeleteFunc_2int2int_impl_ArisesBy_f1_LS1 (F : Nat) : LT := (5, slices_DeleteFunc_2int2int_impl_ArisesBy_f1_ls5 F) :: slices_DeleteFunc_2int2int_impl_ArisesBy_f1_LS0 F
theorem slices_DeleteFunc_2int2int_impl_ArisesBy_f1_lsok1 (F : Nat) : LoopsOK Try.prog (slices_DeleteFunc_2int2int_impl_ArisesBy_f1_LS1 F) (bodyOf Try.f61) := loopsOK_cons slices_DeleteFunc_2int2int_impl_ArisesBy_f1_keys (slices_DeleteFunc_2int2int_impl_ArisesBy_f1_lok5 F) (slices_DeleteFunc_2int2int_impl_ArisesBy_f1_lsok0 F)
theorem slices_DeleteFunc_2int2int_impl_ArisesBy_f1_run (F : Nat) (s5 : List (List Int)) (del6 : List Int) : runS tt (slices_DeleteFunc_2int2int_impl_ArisesBy_f1_tab F) (slices_DeleteFunc_2int2int_impl_ArisesBy_f1_LS1 F) [] [] Try.f61 (bodyOf Try.f61) 70 [(.sl 0 0 (List.length s5)), (.fn 63 [] [(.ptr 1 0 0 16)])] [(.vec 69 (.rr 2 s5)), (.var 16 (.ri .i64 del6))] = slices_DeleteFunc_2int2int_impl_ArisesBy_f1_c _ F s5 del6 (fun r => some ⟨(.sl 0 0 r.1), [(.vec 69 (.rr 2 r.2)), (.var 16 (.ri .i64 del6))], []⟩) := by kernel_rfl
def slices_DeleteFunc_2int2int_impl_ArisesBy_f1_ent (F : Nat) : Ent := ⟨[true], .loud, fun args mem => match args, mem with
  | [(.sl 0 0 q_s1), (.fn 63 [] [(.ptr 1 0 0 16)])], [(.vec 69 (.rr 2 s5)), (.var 16 (.ri .i64 del6))] => some (((Nat.beq q_s1 (List.length s5)) && (slices_DeleteFunc_2int2int_impl_ArisesBy_f1_p F s5 del6).isSome), ⟨(.sl 0 0 ((slices_DeleteFunc_2int2int_impl_ArisesBy_f1_p F s5 del6).getD default).1), [(.vec 69 (.rr 2 ((slices_DeleteFunc_2int2int_impl_ArisesBy_f1_p F s5 del6).getD default).2)), (.var 16 (.ri .i64 del6))], []⟩)
  | _, _ => none⟩
theorem slices_DeleteFunc_2int2int_impl_ArisesBy_f1_fok : FunOK Try.prog 61 := funOK Try.func61 (by kernel_rfl) rfl
theorem slices_DeleteFunc_2int2int_impl_ArisesBy_f1_meets (F : Nat) : Meets Try.prog 61 (slices_DeleteFunc_2int2int_impl_ArisesBy_f1_ent F) := by
  refine meets_of_runS mixed ttok deep (slices_DeleteFunc_2int2int_impl_ArisesBy_f1_tabok F) Try.func61 (body_some rfl) (slices_DeleteFunc_2int2int_impl_ArisesBy_f1_lsok1 F) fun args mem hfit ret h => ?_
  clear hfit
  simp only [slices_DeleteFunc_2int2int_impl_ArisesBy_f1_ent] at h
  split at h
  · rename_i q_s1 s5 del6
    simp only [Option.some.injEq, Prod.mk.injEq] at h
    obtain ⟨hc, rfl⟩ := h
    have hg := (and_split hc).1
    replace hc := (and_split hc).2
    obtain rfl := nbeq_nat hg
    exact ⟨[], [], 70, _, (slices_DeleteFunc_2int2int_impl_ArisesBy_f1_run F s5 del6).trans ((slices_DeleteFunc_2int2int_impl_ArisesBy_f1_cp _ F s5 del6 _).trans (bind_use hc _)), rfl, rfl, rfl⟩
  · cases h

/-! loop.example/g01194/impl.ArisesBy -/
noncomputable def impl_ArisesBy_tab (F : Nat) : Tab := [(49, (impl_IsBoard_ent F)), (62, (impl_cells_ent F)), (61, (slices_DeleteFunc_2int2int_impl_ArisesBy_f1_ent F))]
theorem impl_ArisesBy_tabok (F : Nat) : TabOK Try.prog (impl_ArisesBy_tab F) := (tab_cons (impl_IsBoard_meets F) impl_IsBoard_fok (tab_cons (impl_cells_meets F) impl_cells_fok (tab_cons (slices_DeleteFunc_2int2int_impl_ArisesBy_f1_meets F) slices_DeleteFunc_2int2int_impl_ArisesBy_f1_fok tab_nil)))
noncomputable def impl_ArisesBy_LS0 (F : Nat) : LT := []
theorem impl_ArisesBy_lsok0 (F : Nat) : LoopsOK Try.prog (impl_ArisesBy_LS0 F) (bodyOf Try.f29) := loopsOK_nil
theorem impl_ArisesBy_run (F : Nat) (b0 : List Int) : runS tt (impl_ArisesBy_tab F) (impl_ArisesBy_LS0 F) [⟨2, 69, (.rr 2 ([] : List (List Int)))⟩] [] Try.f29 (bodyOf Try.f29) 70 [(.ints 16 b0)] [] = impl_ArisesBy_c _ F b0 (fun r => some ⟨(.tup [(.sl 0 0 r.1), (.bool r.2.1)]), [(.vec 69 (.rr 2 r.2.2))], []⟩) := by kernel_rfl
def impl_ArisesBy_ent (F : Nat) : Ent := ⟨[], .fresh, fun args mem => match args, mem with
  | [(.ints 16 b0)], [] => some ((impl_ArisesBy_p F b0).isSome, ⟨(.tup [(.sl 0 0 ((impl_ArisesBy_p F b0).getD default).1), (.bool ((impl_ArisesBy_p F b0).getD default).2.1)]), [(.vec 69 (.rr 2 ((impl_ArisesBy_p F b0).getD default).2.2))], []⟩)
  | _, _ => none⟩
theorem impl_ArisesBy_fok : FunOK Try.prog 29 := funOK Try.func29 (by kernel_rfl) rfl
theorem impl_ArisesBy_meets (F : Nat) : Meets Try.prog 29 (impl_ArisesBy_ent F) := by
  refine meets_of_runS mixed ttok deep (impl_ArisesBy_tabok F) Try.func29 (body_some rfl) (impl_ArisesBy_lsok0 F) fun args mem hfit ret h => ?_
  clear hfit
  simp only [impl_ArisesBy_ent] at h
  split at h
  · rename_i b0
    simp only [Option.some.injEq, Prod.mk.injEq] at h
    obtain ⟨hc, rfl⟩ := h
    exact ⟨[⟨2, 69, (.rr 2 ([] : List (List Int)))⟩], [], 70, _, (impl_ArisesBy_run F b0).trans ((impl_ArisesBy_cp _ F b0 _).trans (bind_use hc _)), rfl, rfl, rfl⟩
  · cases h
end Go.Proofs.Ytgmnclpjbhmioaa
