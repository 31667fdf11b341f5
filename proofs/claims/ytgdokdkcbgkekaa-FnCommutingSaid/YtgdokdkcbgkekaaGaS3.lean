/-
Pure functions and what the code of them does, by program; without conditions.
-/
import Derived.Test.YtgdokdkcbgkekaaGaP3
import Derived.Test.YtgdokdkcbgkekaaGaS2
namespace Go.Proofs.Ytgdokdkcbgkekaa
open Go Go.Lv Go.Lv.P Go.Proofs
set_option linter.unusedVariables false
set_option linter.unusedSimpArgs false
set_option maxRecDepth 100000
/-! loop.example/g01194/spec.DrawCommutingPairs -/
noncomputable def spec_DrawCommutingPairs_tab (F : Nat) : Tab := [(23, (spec_DrawFirstForm_ent F))]
theorem spec_DrawCommutingPairs_tabok (F : Nat) : TabOK Try.prog (spec_DrawCommutingPairs_tab F) := (tab_cons (spec_DrawFirstForm_meets F) spec_DrawFirstForm_fok tab_nil)
noncomputable def spec_DrawCommutingPairs_LS0 (F : Nat) : LT := []
theorem spec_DrawCommutingPairs_lsok0 (F : Nat) : LoopsOK Try.prog (spec_DrawCommutingPairs_LS0 F) (bodyOf Try.f8) := loopsOK_nil
theorem spec_DrawCommutingPairs_run (F : Nat) (code0 : List Int) : runS tt (spec_DrawCommutingPairs_tab F) (spec_DrawCommutingPairs_LS0 F) [] [] Try.f8 (bodyOf Try.f8) 70 [(.ri .u8 code0)] [] = spec_DrawCommutingPairs_c _ F code0 (fun r => some ⟨(.ints 16 r), [], []⟩) := by kernel_rfl
def spec_DrawCommutingPairs_ent (F : Nat) : Ent := ⟨[], .quiet, fun args mem => match args, mem with
  | [(.ri .u8 code0)], [] => some ((spec_DrawCommutingPairs_p F code0).isSome, ⟨(.ints 16 ((spec_DrawCommutingPairs_p F code0).getD default)), [], []⟩)
  | _, _ => none⟩
theorem spec_DrawCommutingPairs_fok : FunOK Try.prog 8 := funOK Try.func8 (by kernel_rfl) rfl
theorem spec_DrawCommutingPairs_meets (F : Nat) : Meets Try.prog 8 (spec_DrawCommutingPairs_ent F) := by
  refine meets_of_runS mixed ttok deep (spec_DrawCommutingPairs_tabok F) Try.func8 (body_some rfl) (spec_DrawCommutingPairs_lsok0 F) fun args mem hfit ret h => ?_
  clear hfit
  simp only [spec_DrawCommutingPairs_ent] at h
  split at h
  · rename_i code0
    simp only [Option.some.injEq, Prod.mk.injEq] at h
    obtain ⟨hc, rfl⟩ := h
    exact ⟨[], [], 70, _, (spec_DrawCommutingPairs_run F code0).trans ((spec_DrawCommutingPairs_cp _ F code0 _).trans (bind_use hc _)), rfl, rfl, rfl⟩
  · cases h

/-! loop.example/g01194/impl.CommutingPairs -/
noncomputable def impl_CommutingPairs_tab (F : Nat) : Tab := [(17, (impl_IsBoard_ent F)), (19, (impl_Board_slides_ent F))]
theorem impl_CommutingPairs_tabok (F : Nat) : TabOK Try.prog (impl_CommutingPairs_tab F) := (tab_cons (impl_IsBoard_meets F) impl_IsBoard_fok (tab_cons (impl_Board_slides_meets F) impl_Board_slides_fok tab_nil))
noncomputable def impl_CommutingPairs_LS0 (F : Nat) : LT := []
theorem impl_CommutingPairs_lsok0 (F : Nat) : LoopsOK Try.prog (impl_CommutingPairs_LS0 F) (bodyOf Try.f10) := loopsOK_nil
theorem impl_CommutingPairs_keys : keysOK (bodyOf Try.f10) = true := by kernel_rfl
def impl_CommutingPairs_st8 (d5 : Int) (t117 : Int) (b8 : List Int) (e6 : Int) (out9 : List (List Int)) : St := ⟨expand 39 0 [1, 4, 5, 6, 11] [(.ptr 0 0 0 16), (.sl 1 0 (List.length out9)), (.int .i64 d5), (.int .i64 e6), (.int .i64 t117)], [(.var 16 (.ri .i64 b8)), (.vec 43 (.rr 2 out9))], 0, []⟩
def impl_CommutingPairs_o8 (d5 : Int) (t117 : Int) (b8 : List Int) (x : List (List Int)) : GT := (.out (.exit 2 ⟨expand 39 0 [1, 4, 11] [(.ptr 0 0 0 16), (.sl 1 0 (List.length x)), (.int .i64 t117)], [(.var 16 (.ri .i64 b8)), (.vec 43 (.rr 2 x))], 0, []⟩))
def impl_CommutingPairs_ls8 (F : Nat) : LoopS := ⟨39, [1, 4, 5, 6, 11], [], [1, 4, 11], [], [2, 3], [], [], fun vals mem np killed => match vals, mem, np, killed with
  | [(.ptr 0 0 0 16), (.sl 1 0 q_out4), (.int .i64 d5), (.int .i64 e6), (.int .i64 t117)], [(.var 16 (.ri .i64 b8)), (.vec 43 (.rr 2 out9))], 0, [] => .br ((Nat.beq q_out4 (List.length out9)) && (impl_CommutingPairs_l8 F d5 t117 b8 e6 out9).isSome) (impl_CommutingPairs_o8 d5 t117 b8 ((impl_CommutingPairs_l8 F d5 t117 b8 e6 out9).getD default)) .fail
  | _, _, _, _ => .fail⟩
theorem impl_CommutingPairs_step8 (F : Nat) (d5 : Int) (t117 : Int) (b8 : List Int) (e6 : Int) (out9 : List (List Int)) {R : Type} (k : Out → Option R) : stepS tt (impl_CommutingPairs_tab F) (impl_CommutingPairs_LS0 F) 70 (impl_CommutingPairs_ls8 F) (loopAt 8 (bodyOf Try.f10)) (impl_CommutingPairs_st8 d5 t117 b8 e6 out9) k = impl_CommutingPairs_s8 F d5 t117 b8 R (e6, out9) (fun s => k (.norm (impl_CommutingPairs_st8 d5 t117 b8 s.1 s.2))) (fun x => (impl_CommutingPairs_o8 d5 t117 b8 x).run k) := by kernel_rfl
theorem impl_CommutingPairs_iter8 (F : Nat) (d5 : Int) (t117 : Int) (b8 : List Int) {R : Type} (k : Out → Option R) : ∀ (n : Nat) (e6 : Int) (out9 : List (List Int)), iterS tt (impl_CommutingPairs_tab F) (impl_CommutingPairs_LS0 F) 70 (impl_CommutingPairs_ls8 F) (loopAt 8 (bodyOf Try.f10)) n (impl_CommutingPairs_st8 d5 t117 b8 e6 out9) k = loopC (impl_CommutingPairs_s8 F d5 t117 b8) n (e6, out9) (fun x => (impl_CommutingPairs_o8 d5 t117 b8 x).run k)
  | 0, e6, out9 => rfl
  | n + 1, e6, out9 => (iterS_succ tt (impl_CommutingPairs_tab F) (impl_CommutingPairs_LS0 F) 70 (impl_CommutingPairs_ls8 F) (loopAt 8 (bodyOf Try.f10)) n (impl_CommutingPairs_st8 d5 t117 b8 e6 out9) k).trans ((impl_CommutingPairs_step8 F d5 t117 b8 e6 out9 (nextK (iterS tt (impl_CommutingPairs_tab F) (impl_CommutingPairs_LS0 F) 70 (impl_CommutingPairs_ls8 F) (loopAt 8 (bodyOf Try.f10)) n) k)).trans (congrArg (fun kn => impl_CommutingPairs_s8 F d5 t117 b8 R (e6, out9) kn _) (funext (fun ⟨e6, out9⟩ => impl_CommutingPairs_iter8 F d5 t117 b8 k n e6 out9))))
theorem impl_CommutingPairs_lok8 (F : Nat) : LoopOK Try.prog (loopAt 8 (bodyOf Try.f10)) (impl_CommutingPairs_ls8 F) := by
  refine loopOK_of mixed ttok deep (impl_CommutingPairs_tabok F) (loopsOK_at (impl_CommutingPairs_lsok0 F) 8) (fuel := 70) fun R vals mem np killed k x h => ?_
  simp only [impl_CommutingPairs_ls8] at h
  split at h
  · rename_i q_out4 d5 e6 t117 b8 out9
    simp only [GT.run] at h
    have hc := (cond_noneL h).1
    replace h := (cond_noneL h).2
    have hg := (and_split hc).1
    replace hc := (and_split hc).2
    obtain rfl := nbeq_nat hg
    refine ⟨F, (impl_CommutingPairs_iter8 F d5 t117 b8 k F e6 out9).trans ((loopC_use (impl_CommutingPairs_s8_nat F d5 t117 b8) hc _).trans h)⟩
  · simp only [GT.run] at h
    cases h
noncomputable def impl_CommutingPairs_LS1 (F : Nat) : LT := (8, impl_CommutingPairs_ls8 F) :: impl_CommutingPairs_LS0 F
theorem impl_CommutingPairs_lsok1 (F : Nat) : LoopsOK Try.prog (impl_CommutingPairs_LS1 F) (bodyOf Try.f10) := loopsOK_cons impl_CommutingPairs_keys (impl_CommutingPairs_lok8 F) (impl_CommutingPairs_lsok0 F)
def impl_CommutingPairs_st5 (b6 : List Int) (t115 : Int) (out7 : List (List Int)) : St := ⟨expand 39 0 [1, 4, 11] [(.ptr 0 0 0 16), (.sl 1 0 (List.length out7)), (.int .i64 t115)], [(.var 16 (.ri .i64 b6)), (.vec 43 (.rr 2 out7))], 0, []⟩
def impl_CommutingPairs_o5 (b6 : List Int) (x : List (List Int)) : GT := (.out (.exit 0 ⟨expand 39 0 [4] [(.sl 0 0 (List.length x))], [(.vec 43 (.rr 2 x))], 0, []⟩))
def impl_CommutingPairs_ls5 (F : Nat) : LoopS := ⟨39, [1, 4, 11], [], [4], [], [2, 3], [], [], fun vals mem np killed => match vals, mem, np, killed with
  | [(.ptr 0 0 0 16), (.sl 1 0 q_out4), (.int .i64 t115)], [(.var 16 (.ri .i64 b6)), (.vec 43 (.rr 2 out7))], 0, [] => .br ((Nat.beq q_out4 (List.length out7)) && (impl_CommutingPairs_l5 F b6 t115 out7).isSome) (impl_CommutingPairs_o5 b6 ((impl_CommutingPairs_l5 F b6 t115 out7).getD default)) .fail
  | _, _, _, _ => .fail⟩
theorem impl_CommutingPairs_step5 (F : Nat) (b6 : List Int) (t115 : Int) (out7 : List (List Int)) {R : Type} (k : Out → Option R) : stepS tt (impl_CommutingPairs_tab F) (impl_CommutingPairs_LS1 F) 70 (impl_CommutingPairs_ls5 F) (loopAt 5 (bodyOf Try.f10)) (impl_CommutingPairs_st5 b6 t115 out7) k = impl_CommutingPairs_s5 F b6 R (t115, out7) (fun s => k (.norm (impl_CommutingPairs_st5 b6 s.1 s.2))) (fun x => (impl_CommutingPairs_o5 b6 x).run k) := by kernel_rfl
theorem impl_CommutingPairs_iter5 (F : Nat) (b6 : List Int) {R : Type} (k : Out → Option R) : ∀ (n : Nat) (t115 : Int) (out7 : List (List Int)), iterS tt (impl_CommutingPairs_tab F) (impl_CommutingPairs_LS1 F) 70 (impl_CommutingPairs_ls5 F) (loopAt 5 (bodyOf Try.f10)) n (impl_CommutingPairs_st5 b6 t115 out7) k = loopC (impl_CommutingPairs_s5 F b6) n (t115, out7) (fun x => (impl_CommutingPairs_o5 b6 x).run k)
  | 0, t115, out7 => rfl
  | n + 1, t115, out7 => (iterS_succ tt (impl_CommutingPairs_tab F) (impl_CommutingPairs_LS1 F) 70 (impl_CommutingPairs_ls5 F) (loopAt 5 (bodyOf Try.f10)) n (impl_CommutingPairs_st5 b6 t115 out7) k).trans ((impl_CommutingPairs_step5 F b6 t115 out7 (nextK (iterS tt (impl_CommutingPairs_tab F) (impl_CommutingPairs_LS1 F) 70 (impl_CommutingPairs_ls5 F) (loopAt 5 (bodyOf Try.f10)) n) k)).trans (congrArg (fun kn => impl_CommutingPairs_s5 F b6 R (t115, out7) kn _) (funext (fun ⟨t115, out7⟩ => impl_CommutingPairs_iter5 F b6 k n t115 out7))))
theorem impl_CommutingPairs_lok5 (F : Nat) : LoopOK Try.prog (loopAt 5 (bodyOf Try.f10)) (impl_CommutingPairs_ls5 F) := by
  refine loopOK_of mixed ttok deep (impl_CommutingPairs_tabok F) (loopsOK_at (impl_CommutingPairs_lsok1 F) 5) (fuel := 70) fun R vals mem np killed k x h => ?_
  simp only [impl_CommutingPairs_ls5] at h
  split at h
  · rename_i q_out4 t115 b6 out7
    simp only [GT.run] at h
    have hc := (cond_noneL h).1
    replace h := (cond_noneL h).2
    have hg := (and_split hc).1
    replace hc := (and_split hc).2
    obtain rfl := nbeq_nat hg
    refine ⟨F, (impl_CommutingPairs_iter5 F b6 k F t115 out7).trans ((loopC_use (impl_CommutingPairs_s5_nat F b6) hc _).trans h)⟩
  · simp only [GT.run] at h
    cases h
noncomputable def impl_CommutingPairs_LS2 (F : Nat) : LT := (5, impl_CommutingPairs_ls5 F) :: impl_CommutingPairs_LS1 F
theorem impl_CommutingPairs_lsok2 (F : Nat) : LoopsOK Try.prog (impl_CommutingPairs_LS2 F) (bodyOf Try.f10) := loopsOK_cons impl_CommutingPairs_keys (impl_CommutingPairs_lok5 F) (impl_CommutingPairs_lsok1 F)
theorem impl_CommutingPairs_run (F : Nat) (b0 : List Int) : runS tt (impl_CommutingPairs_tab F) (impl_CommutingPairs_LS2 F) [⟨2, 43, (.rr 2 ([] : List (List Int)))⟩] [] Try.f10 (bodyOf Try.f10) 70 [(.ints 16 b0)] [] = impl_CommutingPairs_c _ F b0 (fun r => some ⟨(.tup [(.sl 0 0 (List.length r.2)), (.bool r.1)]), [(.vec 43 (.rr 2 r.2))], []⟩) := by kernel_rfl
def impl_CommutingPairs_ent (F : Nat) : Ent := ⟨[], .fresh, fun args mem => match args, mem with
  | [(.ints 16 b0)], [] => some ((impl_CommutingPairs_p F b0).isSome, ⟨(.tup [(.sl 0 0 (List.length ((impl_CommutingPairs_p F b0).getD default).2)), (.bool ((impl_CommutingPairs_p F b0).getD default).1)]), [(.vec 43 (.rr 2 ((impl_CommutingPairs_p F b0).getD default).2))], []⟩)
  | _, _ => none⟩
theorem impl_CommutingPairs_fok : FunOK Try.prog 10 := funOK Try.func10 (by kernel_rfl) rfl
theorem impl_CommutingPairs_meets (F : Nat) : Meets Try.prog 10 (impl_CommutingPairs_ent F) := by
  refine meets_of_runS mixed ttok deep (impl_CommutingPairs_tabok F) Try.func10 (body_some rfl) (impl_CommutingPairs_lsok2 F) fun args mem hfit ret h => ?_
  clear hfit
  simp only [impl_CommutingPairs_ent] at h
  split at h
  · rename_i b0
    simp only [Option.some.injEq, Prod.mk.injEq] at h
    obtain ⟨hc, rfl⟩ := h
    exact ⟨[⟨2, 43, (.rr 2 ([] : List (List Int)))⟩], [], 70, _, (impl_CommutingPairs_run F b0).trans ((impl_CommutingPairs_cp _ F b0 _).trans (bind_use hc _)), rfl, rfl, rfl⟩
  · cases h

/-! loop.example/g01194/spec.CommutingPairs -/
noncomputable def spec_CommutingPairs_tab (F : Nat) : Tab := [(20, (spec_l2Board_ent F)), (22, (spec_l3Commute_ent F))]
theorem spec_CommutingPairs_tabok (F : Nat) : TabOK Try.prog (spec_CommutingPairs_tab F) := (tab_cons (spec_l2Board_meets F) spec_l2Board_fok (tab_cons (spec_l3Commute_meets F) spec_l3Commute_fok tab_nil))
noncomputable def spec_CommutingPairs_LS0 (F : Nat) : LT := []
theorem spec_CommutingPairs_lsok0 (F : Nat) : LoopsOK Try.prog (spec_CommutingPairs_LS0 F) (bodyOf Try.f11) := loopsOK_nil
theorem spec_CommutingPairs_keys : keysOK (bodyOf Try.f11) = true := by kernel_rfl
def spec_CommutingPairs_st8 (d5 : Int) (b7 : List Int) (e6 : Int) (out8 : List (List Int)) : St := ⟨expand 33 0 [1, 4, 5, 6] [(.ptr 0 0 0 16), (.sl 1 0 (List.length out8)), (.int .i64 d5), (.int .i64 e6)], [(.var 16 (.ri .i64 b7)), (.vec 43 (.rr 2 out8))], 0, []⟩
def spec_CommutingPairs_o8 (d5 : Int) (b7 : List Int) (x : List (List Int)) : GT := (.out (.exit 2 ⟨expand 33 0 [1, 4, 5] [(.ptr 0 0 0 16), (.sl 1 0 (List.length x)), (.int .i64 d5)], [(.var 16 (.ri .i64 b7)), (.vec 43 (.rr 2 x))], 0, []⟩))
def spec_CommutingPairs_ls8 (F : Nat) : LoopS := ⟨33, [1, 4, 5, 6], [], [1, 4, 5], [], [2, 3], [], [], fun vals mem np killed => match vals, mem, np, killed with
  | [(.ptr 0 0 0 16), (.sl 1 0 q_out4), (.int .i64 d5), (.int .i64 e6)], [(.var 16 (.ri .i64 b7)), (.vec 43 (.rr 2 out8))], 0, [] => .br ((Nat.beq q_out4 (List.length out8)) && (spec_CommutingPairs_l8 F d5 b7 e6 out8).isSome) (spec_CommutingPairs_o8 d5 b7 ((spec_CommutingPairs_l8 F d5 b7 e6 out8).getD default)) .fail
  | _, _, _, _ => .fail⟩
theorem spec_CommutingPairs_step8 (F : Nat) (d5 : Int) (b7 : List Int) (e6 : Int) (out8 : List (List Int)) {R : Type} (k : Out → Option R) : stepS tt (spec_CommutingPairs_tab F) (spec_CommutingPairs_LS0 F) 70 (spec_CommutingPairs_ls8 F) (loopAt 8 (bodyOf Try.f11)) (spec_CommutingPairs_st8 d5 b7 e6 out8) k = spec_CommutingPairs_s8 F d5 b7 R (e6, out8) (fun s => k (.norm (spec_CommutingPairs_st8 d5 b7 s.1 s.2))) (fun x => (spec_CommutingPairs_o8 d5 b7 x).run k) := by kernel_rfl
theorem spec_CommutingPairs_iter8 (F : Nat) (d5 : Int) (b7 : List Int) {R : Type} (k : Out → Option R) : ∀ (n : Nat) (e6 : Int) (out8 : List (List Int)), iterS tt (spec_CommutingPairs_tab F) (spec_CommutingPairs_LS0 F) 70 (spec_CommutingPairs_ls8 F) (loopAt 8 (bodyOf Try.f11)) n (spec_CommutingPairs_st8 d5 b7 e6 out8) k = loopC (spec_CommutingPairs_s8 F d5 b7) n (e6, out8) (fun x => (spec_CommutingPairs_o8 d5 b7 x).run k)
  | 0, e6, out8 => rfl
  | n + 1, e6, out8 => (iterS_succ tt (spec_CommutingPairs_tab F) (spec_CommutingPairs_LS0 F) 70 (spec_CommutingPairs_ls8 F) (loopAt 8 (bodyOf Try.f11)) n (spec_CommutingPairs_st8 d5 b7 e6 out8) k).trans ((spec_CommutingPairs_step8 F d5 b7 e6 out8 (nextK (iterS tt (spec_CommutingPairs_tab F) (spec_CommutingPairs_LS0 F) 70 (spec_CommutingPairs_ls8 F) (loopAt 8 (bodyOf Try.f11)) n) k)).trans (congrArg (fun kn => spec_CommutingPairs_s8 F d5 b7 R (e6, out8) kn _) (funext (fun ⟨e6, out8⟩ => spec_CommutingPairs_iter8 F d5 b7 k n e6 out8))))
theorem spec_CommutingPairs_lok8 (F : Nat) : LoopOK Try.prog (loopAt 8 (bodyOf Try.f11)) (spec_CommutingPairs_ls8 F) := by
  refine loopOK_of mixed ttok deep (spec_CommutingPairs_tabok F) (loopsOK_at (spec_CommutingPairs_lsok0 F) 8) (fuel := 70) fun R vals mem np killed k x h => ?_
  simp only [spec_CommutingPairs_ls8] at h
  split at h
  · rename_i q_out4 d5 e6 b7 out8
    simp only [GT.run] at h
    have hc := (cond_noneL h).1
    replace h := (cond_noneL h).2
    have hg := (and_split hc).1
    replace hc := (and_split hc).2
    obtain rfl := nbeq_nat hg
    refine ⟨F, (spec_CommutingPairs_iter8 F d5 b7 k F e6 out8).trans ((loopC_use (spec_CommutingPairs_s8_nat F d5 b7) hc _).trans h)⟩
  · simp only [GT.run] at h
    cases h
noncomputable def spec_CommutingPairs_LS1 (F : Nat) : LT := (8, spec_CommutingPairs_ls8 F) :: spec_CommutingPairs_LS0 F
theorem spec_CommutingPairs_lsok1 (F : Nat) : LoopsOK Try.prog (spec_CommutingPairs_LS1 F) (bodyOf Try.f11) := loopsOK_cons spec_CommutingPairs_keys (spec_CommutingPairs_lok8 F) (spec_CommutingPairs_lsok0 F)
def spec_CommutingPairs_st5 (b6 : List Int) (d5 : Int) (out7 : List (List Int)) : St := ⟨expand 33 0 [1, 4, 5] [(.ptr 0 0 0 16), (.sl 1 0 (List.length out7)), (.int .i64 d5)], [(.var 16 (.ri .i64 b6)), (.vec 43 (.rr 2 out7))], 0, []⟩
def spec_CommutingPairs_o5 (b6 : List Int) (x : List (List Int)) : GT := (.out (.exit 0 ⟨expand 33 0 [4] [(.sl 0 0 (List.length x))], [(.vec 43 (.rr 2 x))], 0, []⟩))
def spec_CommutingPairs_ls5 (F : Nat) : LoopS := ⟨33, [1, 4, 5], [], [4], [], [2, 3], [], [], fun vals mem np killed => match vals, mem, np, killed with
  | [(.ptr 0 0 0 16), (.sl 1 0 q_out4), (.int .i64 d5)], [(.var 16 (.ri .i64 b6)), (.vec 43 (.rr 2 out7))], 0, [] => .br ((Nat.beq q_out4 (List.length out7)) && (spec_CommutingPairs_l5 F b6 d5 out7).isSome) (spec_CommutingPairs_o5 b6 ((spec_CommutingPairs_l5 F b6 d5 out7).getD default)) .fail
  | _, _, _, _ => .fail⟩
theorem spec_CommutingPairs_step5 (F : Nat) (b6 : List Int) (d5 : Int) (out7 : List (List Int)) {R : Type} (k : Out → Option R) : stepS tt (spec_CommutingPairs_tab F) (spec_CommutingPairs_LS1 F) 70 (spec_CommutingPairs_ls5 F) (loopAt 5 (bodyOf Try.f11)) (spec_CommutingPairs_st5 b6 d5 out7) k = spec_CommutingPairs_s5 F b6 R (d5, out7) (fun s => k (.norm (spec_CommutingPairs_st5 b6 s.1 s.2))) (fun x => (spec_CommutingPairs_o5 b6 x).run k) := by kernel_rfl
theorem spec_CommutingPairs_iter5 (F : Nat) (b6 : List Int) {R : Type} (k : Out → Option R) : ∀ (n : Nat) (d5 : Int) (out7 : List (List Int)), iterS tt (spec_CommutingPairs_tab F) (spec_CommutingPairs_LS1 F) 70 (spec_CommutingPairs_ls5 F) (loopAt 5 (bodyOf Try.f11)) n (spec_CommutingPairs_st5 b6 d5 out7) k = loopC (spec_CommutingPairs_s5 F b6) n (d5, out7) (fun x => (spec_CommutingPairs_o5 b6 x).run k)
  | 0, d5, out7 => rfl
  | n + 1, d5, out7 => (iterS_succ tt (spec_CommutingPairs_tab F) (spec_CommutingPairs_LS1 F) 70 (spec_CommutingPairs_ls5 F) (loopAt 5 (bodyOf Try.f11)) n (spec_CommutingPairs_st5 b6 d5 out7) k).trans ((spec_CommutingPairs_step5 F b6 d5 out7 (nextK (iterS tt (spec_CommutingPairs_tab F) (spec_CommutingPairs_LS1 F) 70 (spec_CommutingPairs_ls5 F) (loopAt 5 (bodyOf Try.f11)) n) k)).trans (congrArg (fun kn => spec_CommutingPairs_s5 F b6 R (d5, out7) kn _) (funext (fun ⟨d5, out7⟩ => spec_CommutingPairs_iter5 F b6 k n d5 out7))))
theorem spec_CommutingPairs_lok5 (F : Nat) : LoopOK Try.prog (loopAt 5 (bodyOf Try.f11)) (spec_CommutingPairs_ls5 F) := by
  refine loopOK_of mixed ttok deep (spec_CommutingPairs_tabok F) (loopsOK_at (spec_CommutingPairs_lsok1 F) 5) (fuel := 70) fun R vals mem np killed k x h => ?_
  simp only [spec_CommutingPairs_ls5] at h
  split at h
  · rename_i q_out4 d5 b6 out7
    simp only [GT.run] at h
    have hc := (cond_noneL h).1
    replace h := (cond_noneL h).2
    have hg := (and_split hc).1
    replace hc := (and_split hc).2
    obtain rfl := nbeq_nat hg
    refine ⟨F, (spec_CommutingPairs_iter5 F b6 k F d5 out7).trans ((loopC_use (spec_CommutingPairs_s5_nat F b6) hc _).trans h)⟩
  · simp only [GT.run] at h
    cases h
noncomputable def spec_CommutingPairs_LS2 (F : Nat) : LT := (5, spec_CommutingPairs_ls5 F) :: spec_CommutingPairs_LS1 F
theorem spec_CommutingPairs_lsok2 (F : Nat) : LoopsOK Try.prog (spec_CommutingPairs_LS2 F) (bodyOf Try.f11) := loopsOK_cons spec_CommutingPairs_keys (spec_CommutingPairs_lok5 F) (spec_CommutingPairs_lsok1 F)
theorem spec_CommutingPairs_run (F : Nat) (b0 : List Int) : runS tt (spec_CommutingPairs_tab F) (spec_CommutingPairs_LS2 F) [] [] Try.f11 (bodyOf Try.f11) 70 [(.ints 16 b0)] [] = spec_CommutingPairs_c _ F b0 (fun r => some ⟨(.tup [(.sl 0 0 (List.length r.2)), (.bool r.1)]), [(.vec 43 (.rr 2 r.2))], []⟩) := by kernel_rfl
def spec_CommutingPairs_ent (F : Nat) : Ent := ⟨[], .fresh, fun args mem => match args, mem with
  | [(.ints 16 b0)], [] => some ((spec_CommutingPairs_p F b0).isSome, ⟨(.tup [(.sl 0 0 (List.length ((spec_CommutingPairs_p F b0).getD default).2)), (.bool ((spec_CommutingPairs_p F b0).getD default).1)]), [(.vec 43 (.rr 2 ((spec_CommutingPairs_p F b0).getD default).2))], []⟩)
  | _, _ => none⟩
theorem spec_CommutingPairs_fok : FunOK Try.prog 11 := funOK Try.func11 (by kernel_rfl) rfl
theorem spec_CommutingPairs_meets (F : Nat) : Meets Try.prog 11 (spec_CommutingPairs_ent F) := by
  refine meets_of_runS mixed ttok deep (spec_CommutingPairs_tabok F) Try.func11 (body_some rfl) (spec_CommutingPairs_lsok2 F) fun args mem hfit ret h => ?_
  clear hfit
  simp only [spec_CommutingPairs_ent] at h
  split at h
  · rename_i b0
    simp only [Option.some.injEq, Prod.mk.injEq] at h
    obtain ⟨hc, rfl⟩ := h
    exact ⟨[], [], 70, _, (spec_CommutingPairs_run F b0).trans ((spec_CommutingPairs_cp _ F b0 _).trans (bind_use hc _)), rfl, rfl, rfl⟩
  · cases h

/-! loop.example/g01194/laws.vPairs -/
noncomputable def laws_vPairs_tab (F : Nat) : Tab := []
theorem laws_vPairs_tabok (F : Nat) : TabOK Try.prog (laws_vPairs_tab F) := tab_nil
noncomputable def laws_vPairs_LS0 (F : Nat) : LT := []
theorem laws_vPairs_lsok0 (F : Nat) : LoopsOK Try.prog (laws_vPairs_LS0 F) (bodyOf Try.f12) := loopsOK_nil
theorem laws_vPairs_keys : keysOK (bodyOf Try.f12) = true := by kernel_rfl
def laws_vPairs_st4 (a0 : List (List Int)) (b1 : List (List Int)) (i2 : Int) : St := ⟨expand 26 0 [0, 1, 5] [(.rr 2 a0), (.rr 2 b1), (.int .i64 i2)], [], 0, []⟩
def laws_vPairs_o4 (a0 : List (List Int)) (b1 : List (List Int)) (x : Bool) : GT := (.br x (.out (.ret ⟨expand 26 0 [4] [(.bool false)], [], 0, []⟩)) (.out (.exit 0 ⟨expand 26 0 [] [], [], 0, []⟩)))
def laws_vPairs_ls4 (F : Nat) : LoopS := ⟨26, [0, 1, 5], [], [], [], [4], [], [], fun vals mem np killed => match vals, mem, np, killed with
  | [(.rr 2 a0), (.rr 2 b1), (.int .i64 i2)], [], 0, [] => .br (laws_vPairs_l4 F a0 b1 i2).isSome (laws_vPairs_o4 a0 b1 ((laws_vPairs_l4 F a0 b1 i2).getD default)) .fail
  | _, _, _, _ => .fail⟩
theorem laws_vPairs_step4 (F : Nat) (a0 : List (List Int)) (b1 : List (List Int)) (i2 : Int) {R : Type} (k : Out → Option R) : stepS tt (laws_vPairs_tab F) (laws_vPairs_LS0 F) 70 (laws_vPairs_ls4 F) (loopAt 4 (bodyOf Try.f12)) (laws_vPairs_st4 a0 b1 i2) k = laws_vPairs_s4 F a0 b1 R i2 (fun s => k (.norm (laws_vPairs_st4 a0 b1 s))) (fun x => (laws_vPairs_o4 a0 b1 x).run k) := by kernel_rfl
theorem laws_vPairs_iter4 (F : Nat) (a0 : List (List Int)) (b1 : List (List Int)) {R : Type} (k : Out → Option R) : ∀ (n : Nat) (i2 : Int), iterS tt (laws_vPairs_tab F) (laws_vPairs_LS0 F) 70 (laws_vPairs_ls4 F) (loopAt 4 (bodyOf Try.f12)) n (laws_vPairs_st4 a0 b1 i2) k = loopC (laws_vPairs_s4 F a0 b1) n i2 (fun x => (laws_vPairs_o4 a0 b1 x).run k)
  | 0, i2 => rfl
  | n + 1, i2 => (iterS_succ tt (laws_vPairs_tab F) (laws_vPairs_LS0 F) 70 (laws_vPairs_ls4 F) (loopAt 4 (bodyOf Try.f12)) n (laws_vPairs_st4 a0 b1 i2) k).trans ((laws_vPairs_step4 F a0 b1 i2 (nextK (iterS tt (laws_vPairs_tab F) (laws_vPairs_LS0 F) 70 (laws_vPairs_ls4 F) (loopAt 4 (bodyOf Try.f12)) n) k)).trans (congrArg (fun kn => laws_vPairs_s4 F a0 b1 R i2 kn _) (funext (fun i2 => laws_vPairs_iter4 F a0 b1 k n i2))))
theorem laws_vPairs_lok4 (F : Nat) : LoopOK Try.prog (loopAt 4 (bodyOf Try.f12)) (laws_vPairs_ls4 F) := by
  refine loopOK_of mixed ttok deep (laws_vPairs_tabok F) (loopsOK_at (laws_vPairs_lsok0 F) 4) (fuel := 70) fun R vals mem np killed k x h => ?_
  simp only [laws_vPairs_ls4] at h
  split at h
  · rename_i a0 b1 i2
    simp only [GT.run] at h
    have hc := (cond_noneL h).1
    replace h := (cond_noneL h).2
    refine ⟨F, (laws_vPairs_iter4 F a0 b1 k F i2).trans ((loopC_use (laws_vPairs_s4_nat F a0 b1) hc _).trans h)⟩
  · simp only [GT.run] at h
    cases h
noncomputable def laws_vPairs_LS1 (F : Nat) : LT := (4, laws_vPairs_ls4 F) :: laws_vPairs_LS0 F
theorem laws_vPairs_lsok1 (F : Nat) : LoopsOK Try.prog (laws_vPairs_LS1 F) (bodyOf Try.f12) := loopsOK_cons laws_vPairs_keys (laws_vPairs_lok4 F) (laws_vPairs_lsok0 F)
theorem laws_vPairs_run (F : Nat) (a0 : List (List Int)) (b1 : List (List Int)) : runS tt (laws_vPairs_tab F) (laws_vPairs_LS1 F) [] [] Try.f12 (bodyOf Try.f12) 70 [(.rr 2 a0), (.rr 2 b1)] [] = laws_vPairs_c _ F a0 b1 (fun r => some ⟨(.bool r), [], []⟩) := by kernel_rfl
def laws_vPairs_ent (F : Nat) : Ent := ⟨[], .quiet, fun args mem => match args, mem with
  | [(.rr 2 a0), (.rr 2 b1)], [] => some ((laws_vPairs_p F a0 b1).isSome, ⟨(.bool ((laws_vPairs_p F a0 b1).getD default)), [], []⟩)
  | _, _ => none⟩
theorem laws_vPairs_fok : FunOK Try.prog 12 := funOK Try.func12 (by kernel_rfl) rfl
theorem laws_vPairs_meets (F : Nat) : Meets Try.prog 12 (laws_vPairs_ent F) := by
  refine meets_of_runS mixed ttok deep (laws_vPairs_tabok F) Try.func12 (body_some rfl) (laws_vPairs_lsok1 F) fun args mem hfit ret h => ?_
  clear hfit
  simp only [laws_vPairs_ent] at h
  split at h
  · rename_i a0 b1
    simp only [Option.some.injEq, Prod.mk.injEq] at h
    obtain ⟨hc, rfl⟩ := h
    exact ⟨[], [], 70, _, (laws_vPairs_run F a0 b1).trans ((laws_vPairs_cp _ F a0 b1 _).trans (bind_use hc _)), rfl, rfl, rfl⟩
  · cases h

/-! loop.example/g01194/impl.areDirections$1 -/
noncomputable def impl_areDirections_f1_tab (F : Nat) : Tab := [(18, (impl_isDirection_ent F))]
theorem impl_areDirections_f1_tabok (F : Nat) : TabOK Try.prog (impl_areDirections_f1_tab F) := (tab_cons (impl_isDirection_meets F) impl_isDirection_fok tab_nil)
noncomputable def impl_areDirections_f1_LS0 (F : Nat) : LT := []
theorem impl_areDirections_f1_lsok0 (F : Nat) : LoopsOK Try.prog (impl_areDirections_f1_LS0 F) (bodyOf Try.f39) := loopsOK_nil
theorem impl_areDirections_f1_run (F : Nat) (d0 : Int) : runS tt (impl_areDirections_f1_tab F) (impl_areDirections_f1_LS0 F) [] [] Try.f39 (bodyOf Try.f39) 70 [(.int .i64 d0)] [] = impl_areDirections_f1_c _ d0 (fun r => some ⟨(.bool r), [], []⟩) := by kernel_rfl
def impl_areDirections_f1_ent (F : Nat) : Ent := ⟨[], .quiet, fun args mem => match args, mem with
  | [(.int .i64 d0)], [] => some (true, ⟨(.bool (impl_areDirections_f1_v d0)), [], []⟩)
  | _, _ => none⟩
theorem impl_areDirections_f1_fok : FunOK Try.prog 39 := funOK Try.func39 (by kernel_rfl) rfl
theorem impl_areDirections_f1_meets (F : Nat) : Meets Try.prog 39 (impl_areDirections_f1_ent F) := by
  refine meets_of_runS mixed ttok deep (impl_areDirections_f1_tabok F) Try.func39 (body_some rfl) (impl_areDirections_f1_lsok0 F) fun args mem hfit ret h => ?_
  clear hfit
  simp only [impl_areDirections_f1_ent] at h
  split at h
  · rename_i d0
    simp only [Option.some.injEq, Prod.mk.injEq] at h
    obtain ⟨hc, rfl⟩ := h
    exact ⟨[], [], 70, _, (impl_areDirections_f1_run F d0).trans (impl_areDirections_f1_cv _ d0 _), rfl, rfl, rfl⟩
  · cases h

/-! slices.IndexFunc[[]int,int] -/
noncomputable def slices_IndexFunc_intint_impl_areDirections_f1_tab (F : Nat) : Tab := [(39, (impl_areDirections_f1_ent F))]
theorem slices_IndexFunc_intint_impl_areDirections_f1_tabok (F : Nat) : TabOK Try.prog (slices_IndexFunc_intint_impl_areDirections_f1_tab F) := (tab_cons (impl_areDirections_f1_meets F) impl_areDirections_f1_fok tab_nil)
noncomputable def slices_IndexFunc_intint_impl_areDirections_f1_LS0 (F : Nat) : LT := []
theorem slices_IndexFunc_intint_impl_areDirections_f1_lsok0 (F : Nat) : LoopsOK Try.prog (slices_IndexFunc_intint_impl_areDirections_f1_LS0 F) (bodyOf Try.f54) := loopsOK_nil
theorem slices_IndexFunc_intint_impl_areDirections_f1_keys : keysOK (bodyOf Try.f54) = true := by kernel_rfl
def slices_IndexFunc_intint_impl_areDirections_f1_st2 (s0 : List Int) (t71 : Int) (t82 : Int) : St := ⟨expand 19 0 [0, 1, 7, 8] [(.ri .i64 s0), (.fn 39 [] []), (.int .i64 t71), (.int .i64 t82)], [], 0, []⟩
def slices_IndexFunc_intint_impl_areDirections_f1_o2 (s0 : List Int) (t71 : Int) (x : Bool × Int) : GT := (.br x.1 (.out (.ret ⟨expand 19 0 [4] [(.int .i64 x.2)], [], 0, []⟩)) (.out (.exit 0 ⟨expand 19 0 [] [], [], 0, []⟩)))
def slices_IndexFunc_intint_impl_areDirections_f1_ls2 (F : Nat) : LoopS := ⟨19, [0, 1, 7, 8], [], [], [], [4], [], [], fun vals mem np killed => match vals, mem, np, killed with
  | [(.ri .i64 s0), (.fn 39 [] []), (.int .i64 t71), (.int .i64 t82)], [], 0, [] => .br (slices_IndexFunc_intint_impl_areDirections_f1_l2 F s0 t71 t82).isSome (slices_IndexFunc_intint_impl_areDirections_f1_o2 s0 t71 ((slices_IndexFunc_intint_impl_areDirections_f1_l2 F s0 t71 t82).getD default)) .fail
  | _, _, _, _ => .fail⟩
theorem slices_IndexFunc_intint_impl_areDirections_f1_step2 (F : Nat) (s0 : List Int) (t71 : Int) (t82 : Int) {R : Type} (k : Out → Option R) : stepS tt (slices_IndexFunc_intint_impl_areDirections_f1_tab F) (slices_IndexFunc_intint_impl_areDirections_f1_LS0 F) 70 (slices_IndexFunc_intint_impl_areDirections_f1_ls2 F) (loopAt 2 (bodyOf Try.f54)) (slices_IndexFunc_intint_impl_areDirections_f1_st2 s0 t71 t82) k = slices_IndexFunc_intint_impl_areDirections_f1_s2 F s0 t71 R t82 (fun s => k (.norm (slices_IndexFunc_intint_impl_areDirections_f1_st2 s0 t71 s))) (fun x => (slices_IndexFunc_intint_impl_areDirections_f1_o2 s0 t71 x).run k) := by kernel_rfl
theorem slices_IndexFunc_intint_impl_areDirections_f1_iter2 (F : Nat) (s0 : List Int) (t71 : Int) {R : Type} (k : Out → Option R) : ∀ (n : Nat) (t82 : Int), iterS tt (slices_IndexFunc_intint_impl_areDirections_f1_tab F) (slices_IndexFunc_intint_impl_areDirections_f1_LS0 F) 70 (slices_IndexFunc_intint_impl_areDirections_f1_ls2 F) (loopAt 2 (bodyOf Try.f54)) n (slices_IndexFunc_intint_impl_areDirections_f1_st2 s0 t71 t82) k = loopC (slices_IndexFunc_intint_impl_areDirections_f1_s2 F s0 t71) n t82 (fun x => (slices_IndexFunc_intint_impl_areDirections_f1_o2 s0 t71 x).run k)
  | 0, t82 => rfl
  | n + 1, t82 => (iterS_succ tt (slices_IndexFunc_intint_impl_areDirections_f1_tab F) (slices_IndexFunc_intint_impl_areDirections_f1_LS0 F) 70 (slices_IndexFunc_intint_impl_areDirections_f1_ls2 F) (loopAt 2 (bodyOf Try.f54)) n (slices_IndexFunc_intint_impl_areDirections_f1_st2 s0 t71 t82) k).trans ((slices_IndexFunc_intint_impl_areDirections_f1_step2 F s0 t71 t82 (nextK (iterS tt (slices_IndexFunc_intint_impl_areDirections_f1_tab F) (slices_IndexFunc_intint_impl_areDirections_f1_LS0 F) 70 (slices_IndexFunc_intint_impl_areDirections_f1_ls2 F) (loopAt 2 (bodyOf Try.f54)) n) k)).trans (congrArg (fun kn => slices_IndexFunc_intint_impl_areDirections_f1_s2 F s0 t71 R t82 kn _) (funext (fun t82 => slices_IndexFunc_intint_impl_areDirections_f1_iter2 F s0 t71 k n t82))))
theorem slices_IndexFunc_intint_impl_areDirections_f1_lok2 (F : Nat) : LoopOK Try.prog (loopAt 2 (bodyOf Try.f54)) (slices_IndexFunc_intint_impl_areDirections_f1_ls2 F) := by
  refine loopOK_of mixed ttok deep (slices_IndexFunc_intint_impl_areDirections_f1_tabok F) (loopsOK_at (slices_IndexFunc_intint_impl_areDirections_f1_lsok0 F) 2) (fuel := 70) fun R vals mem np killed k x h => ?_
  simp only [slices_IndexFunc_intint_impl_areDirections_f1_ls2] at h
  split at h
  · rename_i s0 t71 t82
    simp only [GT.run] at h
    have hc := (cond_noneL h).1
    replace h := (cond_noneL h).2
    refine ⟨F, (slices_IndexFunc_intint_impl_areDirections_f1_iter2 F s0 t71 k F t82).trans ((loopC_use (slices_IndexFunc_intint_impl_areDirections_f1_s2_nat F s0 t71) hc _).trans h)⟩
  · simp only [GT.run] at h
    cases h
noncomputable def slices_IndexFunc_intint_impl_areDirections_f1_LS1 (F : Nat) : LT := (2, slices_IndexFunc_intint_impl_areDirections_f1_ls2 F) :: slices_IndexFunc_intint_impl_areDirections_f1_LS0 F
theorem slices_IndexFunc_intint_impl_areDirections_f1_lsok1 (F : Nat) : LoopsOK Try.prog (slices_IndexFunc_intint_impl_areDirections_f1_LS1 F) (bodyOf Try.f54) := loopsOK_cons slices_IndexFunc_intint_impl_areDirections_f1_keys (slices_IndexFunc_intint_impl_areDirections_f1_lok2 F) (slices_IndexFunc_intint_impl_areDirections_f1_lsok0 F)
theorem slices_IndexFunc_intint_impl_areDirections_f1_run (F : Nat) (s0 : List Int) : runS tt (slices_IndexFunc_intint_impl_areDirections_f1_tab F) (slices_IndexFunc_intint_impl_areDirections_f1_LS1 F) [] [] Try.f54 (bodyOf Try.f54) 70 [(.ri .i64 s0), (.fn 39 [] [])] [] = slices_IndexFunc_intint_impl_areDirections_f1_c _ F s0 (fun r => some ⟨(.int .i64 r), [], []⟩) := by kernel_rfl
def slices_IndexFunc_intint_impl_areDirections_f1_ent (F : Nat) : Ent := ⟨[], .quiet, fun args mem => match args, mem with
  | [(.ri .i64 s0), (.fn 39 [] [])], [] => some ((slices_IndexFunc_intint_impl_areDirections_f1_p F s0).isSome, ⟨(.int .i64 ((slices_IndexFunc_intint_impl_areDirections_f1_p F s0).getD default)), [], []⟩)
  | _, _ => none⟩
theorem slices_IndexFunc_intint_impl_areDirections_f1_fok : FunOK Try.prog 54 := funOK Try.func54 (by kernel_rfl) rfl
theorem slices_IndexFunc_intint_impl_areDirections_f1_meets (F : Nat) : Meets Try.prog 54 (slices_IndexFunc_intint_impl_areDirections_f1_ent F) := by
  refine meets_of_runS mixed ttok deep (slices_IndexFunc_intint_impl_areDirections_f1_tabok F) Try.func54 (body_some rfl) (slices_IndexFunc_intint_impl_areDirections_f1_lsok1 F) fun args mem hfit ret h => ?_
  clear hfit
  simp only [slices_IndexFunc_intint_impl_areDirections_f1_ent] at h
  split at h
  · rename_i s0
    simp only [Option.some.injEq, Prod.mk.injEq] at h
    obtain ⟨hc, rfl⟩ := h
    exact ⟨[], [], 70, _, (slices_IndexFunc_intint_impl_areDirections_f1_run F s0).trans ((slices_IndexFunc_intint_impl_areDirections_f1_cp _ F s0 _).trans (bind_use hc _)), rfl, rfl, rfl⟩
  · cases h

/-! slices.ContainsFunc[[]int,int] -/
noncomputable def slices_ContainsFunc_intint_impl_areDirections_f1_tab (F : Nat) : Tab := [(54, (slices_IndexFunc_intint_impl_areDirections_f1_ent F))]
theorem slices_ContainsFunc_intint_impl_areDirections_f1_tabok (F : Nat) : TabOK Try.prog (slices_ContainsFunc_intint_impl_areDirections_f1_tab F) := (tab_cons (slices_IndexFunc_intint_impl_areDirections_f1_meets F) slices_IndexFunc_intint_impl_areDirections_f1_fok tab_nil)
noncomputable def slices_ContainsFunc_intint_impl_areDirections_f1_LS0 (F : Nat) : LT := []
theorem slices_ContainsFunc_intint_impl_areDirections_f1_lsok0 (F : Nat) : LoopsOK Try.prog (slices_ContainsFunc_intint_impl_areDirections_f1_LS0 F) (bodyOf Try.f38) := loopsOK_nil
theorem slices_ContainsFunc_intint_impl_areDirections_f1_run (F : Nat) (s0 : List Int) : runS tt (slices_ContainsFunc_intint_impl_areDirections_f1_tab F) (slices_ContainsFunc_intint_impl_areDirections_f1_LS0 F) [] [] Try.f38 (bodyOf Try.f38) 70 [(.ri .i64 s0), (.fn 39 [] [])] [] = slices_ContainsFunc_intint_impl_areDirections_f1_c _ F s0 (fun r => some ⟨(.bool r), [], []⟩) := by kernel_rfl
def slices_ContainsFunc_intint_impl_areDirections_f1_ent (F : Nat) : Ent := ⟨[], .quiet, fun args mem => match args, mem with
  | [(.ri .i64 s0), (.fn 39 [] [])], [] => some ((slices_ContainsFunc_intint_impl_areDirections_f1_p F s0).isSome, ⟨(.bool ((slices_ContainsFunc_intint_impl_areDirections_f1_p F s0).getD default)), [], []⟩)
  | _, _ => none⟩
theorem slices_ContainsFunc_intint_impl_areDirections_f1_fok : FunOK Try.prog 38 := funOK Try.func38 (by kernel_rfl) rfl
theorem slices_ContainsFunc_intint_impl_areDirections_f1_meets (F : Nat) : Meets Try.prog 38 (slices_ContainsFunc_intint_impl_areDirections_f1_ent F) := by
  refine meets_of_runS mixed ttok deep (slices_ContainsFunc_intint_impl_areDirections_f1_tabok F) Try.func38 (body_some rfl) (slices_ContainsFunc_intint_impl_areDirections_f1_lsok0 F) fun args mem hfit ret h => ?_
  clear hfit
  simp only [slices_ContainsFunc_intint_impl_areDirections_f1_ent] at h
  split at h
  · rename_i s0
    simp only [Option.some.injEq, Prod.mk.injEq] at h
    obtain ⟨hc, rfl⟩ := h
    exact ⟨[], [], 70, _, (slices_ContainsFunc_intint_impl_areDirections_f1_run F s0).trans ((slices_ContainsFunc_intint_impl_areDirections_f1_cp _ F s0 _).trans (bind_use hc _)), rfl, rfl, rfl⟩
  · cases h

/-! loop.example/g01194/impl.areDirections -/
noncomputable def impl_areDirections_tab (F : Nat) : Tab := [(38, (slices_ContainsFunc_intint_impl_areDirections_f1_ent F))]
theorem impl_areDirections_tabok (F : Nat) : TabOK Try.prog (impl_areDirections_tab F) := (tab_cons (slices_ContainsFunc_intint_impl_areDirections_f1_meets F) slices_ContainsFunc_intint_impl_areDirections_f1_fok tab_nil)
noncomputable def impl_areDirections_LS0 (F : Nat) : LT := []
theorem impl_areDirections_lsok0 (F : Nat) : LoopsOK Try.prog (impl_areDirections_LS0 F) (bodyOf Try.f24) := loopsOK_nil
theorem impl_areDirections_run (F : Nat) (list0 : List Int) : runS tt (impl_areDirections_tab F) (impl_areDirections_LS0 F) [] [] Try.f24 (bodyOf Try.f24) 70 [(.ri .i64 list0)] [] = impl_areDirections_c _ F list0 (fun r => some ⟨(.bool r), [], []⟩) := by kernel_rfl
def impl_areDirections_ent (F : Nat) : Ent := ⟨[], .quiet, fun args mem => match args, mem with
  | [(.ri .i64 list0)], [] => some ((impl_areDirections_p F list0).isSome, ⟨(.bool ((impl_areDirections_p F list0).getD default)), [], []⟩)
  | _, _ => none⟩
theorem impl_areDirections_fok : FunOK Try.prog 24 := funOK Try.func24 (by kernel_rfl) rfl
theorem impl_areDirections_meets (F : Nat) : Meets Try.prog 24 (impl_areDirections_ent F) := by
  refine meets_of_runS mixed ttok deep (impl_areDirections_tabok F) Try.func24 (body_some rfl) (impl_areDirections_lsok0 F) fun args mem hfit ret h => ?_
  clear hfit
  simp only [impl_areDirections_ent] at h
  split at h
  · rename_i list0
    simp only [Option.some.injEq, Prod.mk.injEq] at h
    obtain ⟨hc, rfl⟩ := h
    exact ⟨[], [], 70, _, (impl_areDirections_run F list0).trans ((impl_areDirections_cp _ F list0 _).trans (bind_use hc _)), rfl, rfl, rfl⟩
  · cases h

/-! loop.example/g01194/impl.DoSlides -/
noncomputable def impl_DoSlides_tab (F : Nat) : Tab := [(17, (impl_IsBoard_ent F)), (24, (impl_areDirections_ent F)), (25, (impl_Board_slide_ent F))]
theorem impl_DoSlides_tabok (F : Nat) : TabOK Try.prog (impl_DoSlides_tab F) := (tab_cons (impl_IsBoard_meets F) impl_IsBoard_fok (tab_cons (impl_areDirections_meets F) impl_areDirections_fok (tab_cons (impl_Board_slide_meets F) impl_Board_slide_fok tab_nil)))
noncomputable def impl_DoSlides_LS0 (F : Nat) : LT := []
theorem impl_DoSlides_lsok0 (F : Nat) : LoopsOK Try.prog (impl_DoSlides_LS0 F) (bodyOf Try.f13) := loopsOK_nil
theorem impl_DoSlides_keys : keysOK (bodyOf Try.f13) = true := by kernel_rfl
def impl_DoSlides_st5 (t227 : List Int) (t238 : Int) (sum6 : Int) (t249 : Int) (b10 : List Int) : St := ⟨expand 42 0 [2, 4, 7, 22, 23, 24] [(.ptr 0 0 0 16), (.ptr 1 0 0 16), (.int .i64 sum6), (.ri .i64 t227), (.int .i64 t238), (.int .i64 t249)], [(.var 16 (.ri .i64 b10)), (.var 16 (.ri .i64 [(0 : Int), (0 : Int), (0 : Int), (0 : Int), (0 : Int), (0 : Int), (0 : Int), (0 : Int), (0 : Int), (0 : Int), (0 : Int), (0 : Int), (0 : Int), (0 : Int), (0 : Int), (0 : Int)]))], 0, []⟩
def impl_DoSlides_o5 (t227 : List Int) (t238 : Int) (x : Int × List Int) : GT := (.out (.exit 0 ⟨expand 42 0 [2, 4, 7] [(.ptr 0 0 0 16), (.ptr 1 0 0 16), (.int .i64 x.1)], [(.var 16 (.ri .i64 x.2)), (.var 16 (.ri .i64 [(0 : Int), (0 : Int), (0 : Int), (0 : Int), (0 : Int), (0 : Int), (0 : Int), (0 : Int), (0 : Int), (0 : Int), (0 : Int), (0 : Int), (0 : Int), (0 : Int), (0 : Int), (0 : Int)]))], 0, []⟩))
def impl_DoSlides_ls5 (F : Nat) : LoopS := ⟨42, [2, 4, 7, 22, 23, 24], [], [2, 4, 7], [], [4, 5, 6], [], [], fun vals mem np killed => match vals, mem, np, killed with
  | [(.ptr 0 0 0 16), (.ptr 1 0 0 16), (.int .i64 sum6), (.ri .i64 t227), (.int .i64 t238), (.int .i64 t249)], [(.var 16 (.ri .i64 b10)), (.var 16 (.ri .i64 q_t411))], 0, [] => .br ((q_t411 == ([(0 : Int), (0 : Int), (0 : Int), (0 : Int), (0 : Int), (0 : Int), (0 : Int), (0 : Int), (0 : Int), (0 : Int), (0 : Int), (0 : Int), (0 : Int), (0 : Int), (0 : Int), (0 : Int)] : List Int)) && (impl_DoSlides_l5 F t227 t238 sum6 t249 b10).isSome) (impl_DoSlides_o5 t227 t238 ((impl_DoSlides_l5 F t227 t238 sum6 t249 b10).getD default)) .fail
  | _, _, _, _ => .fail⟩
theorem impl_DoSlides_step5 (F : Nat) (t227 : List Int) (t238 : Int) (sum6 : Int) (t249 : Int) (b10 : List Int) {R : Type} (k : Out → Option R) : stepS tt (impl_DoSlides_tab F) (impl_DoSlides_LS0 F) 70 (impl_DoSlides_ls5 F) (loopAt 5 (bodyOf Try.f13)) (impl_DoSlides_st5 t227 t238 sum6 t249 b10) k = impl_DoSlides_s5 F t227 t238 R (sum6, t249, b10) (fun s => k (.norm (impl_DoSlides_st5 t227 t238 s.1 s.2.1 s.2.2))) (fun x => (impl_DoSlides_o5 t227 t238 x).run k) := by kernel_rfl
theorem impl_DoSlides_iter5 (F : Nat) (t227 : List Int) (t238 : Int) {R : Type} (k : Out → Option R) : ∀ (n : Nat) (sum6 : Int) (t249 : Int) (b10 : List Int), iterS tt (impl_DoSlides_tab F) (impl_DoSlides_LS0 F) 70 (impl_DoSlides_ls5 F) (loopAt 5 (bodyOf Try.f13)) n (impl_DoSlides_st5 t227 t238 sum6 t249 b10) k = loopC (impl_DoSlides_s5 F t227 t238) n (sum6, t249, b10) (fun x => (impl_DoSlides_o5 t227 t238 x).run k)
  | 0, sum6, t249, b10 => rfl
  | n + 1, sum6, t249, b10 => (iterS_succ tt (impl_DoSlides_tab F) (impl_DoSlides_LS0 F) 70 (impl_DoSlides_ls5 F) (loopAt 5 (bodyOf Try.f13)) n (impl_DoSlides_st5 t227 t238 sum6 t249 b10) k).trans ((impl_DoSlides_step5 F t227 t238 sum6 t249 b10 (nextK (iterS tt (impl_DoSlides_tab F) (impl_DoSlides_LS0 F) 70 (impl_DoSlides_ls5 F) (loopAt 5 (bodyOf Try.f13)) n) k)).trans (congrArg (fun kn => impl_DoSlides_s5 F t227 t238 R (sum6, t249, b10) kn _) (funext (fun ⟨sum6, t249, b10⟩ => impl_DoSlides_iter5 F t227 t238 k n sum6 t249 b10))))
theorem impl_DoSlides_lok5 (F : Nat) : LoopOK Try.prog (loopAt 5 (bodyOf Try.f13)) (impl_DoSlides_ls5 F) := by
  refine loopOK_of mixed ttok deep (impl_DoSlides_tabok F) (loopsOK_at (impl_DoSlides_lsok0 F) 5) (fuel := 70) fun R vals mem np killed k x h => ?_
  simp only [impl_DoSlides_ls5] at h
  split at h
  · rename_i sum6 t227 t238 t249 b10 q_t411
    simp only [GT.run] at h
    have hc := (cond_noneL h).1
    replace h := (cond_noneL h).2
    have hg := (and_split hc).1
    replace hc := (and_split hc).2
    obtain rfl := beq_li hg
    refine ⟨F, (impl_DoSlides_iter5 F t227 t238 k F sum6 t249 b10).trans ((loopC_use (impl_DoSlides_s5_nat F t227 t238) hc _).trans h)⟩
  · simp only [GT.run] at h
    cases h
noncomputable def impl_DoSlides_LS1 (F : Nat) : LT := (5, impl_DoSlides_ls5 F) :: impl_DoSlides_LS0 F
theorem impl_DoSlides_lsok1 (F : Nat) : LoopsOK Try.prog (impl_DoSlides_LS1 F) (bodyOf Try.f13) := loopsOK_cons impl_DoSlides_keys (impl_DoSlides_lok5 F) (impl_DoSlides_lsok0 F)
theorem impl_DoSlides_run (F : Nat) (b0 : List Int) (list1 : List Int) : runS tt (impl_DoSlides_tab F) (impl_DoSlides_LS1 F) [] [] Try.f13 (bodyOf Try.f13) 70 [(.ints 16 b0), (.ri .i64 list1)] [] = impl_DoSlides_c _ F b0 list1 (fun r => some ⟨(.tup [(.ints 16 r.1), (.int .i64 r.2.1), (.bool r.2.2)]), [], []⟩) := by kernel_rfl
def impl_DoSlides_ent (F : Nat) : Ent := ⟨[], .quiet, fun args mem => match args, mem with
  | [(.ints 16 b0), (.ri .i64 list1)], [] => some ((impl_DoSlides_p F b0 list1).isSome, ⟨(.tup [(.ints 16 ((impl_DoSlides_p F b0 list1).getD default).1), (.int .i64 ((impl_DoSlides_p F b0 list1).getD default).2.1), (.bool ((impl_DoSlides_p F b0 list1).getD default).2.2)]), [], []⟩)
  | _, _ => none⟩
theorem impl_DoSlides_fok : FunOK Try.prog 13 := funOK Try.func13 (by kernel_rfl) rfl
theorem impl_DoSlides_meets (F : Nat) : Meets Try.prog 13 (impl_DoSlides_ent F) := by
  refine meets_of_runS mixed ttok deep (impl_DoSlides_tabok F) Try.func13 (body_some rfl) (impl_DoSlides_lsok1 F) fun args mem hfit ret h => ?_
  clear hfit
  simp only [impl_DoSlides_ent] at h
  split at h
  · rename_i b0 list1
    simp only [Option.some.injEq, Prod.mk.injEq] at h
    obtain ⟨hc, rfl⟩ := h
    exact ⟨[], [], 70, _, (impl_DoSlides_run F b0 list1).trans ((impl_DoSlides_cp _ F b0 list1 _).trans (bind_use hc _)), rfl, rfl, rfl⟩
  · cases h

/-! loop.example/g01194/impl.isForm -/
noncomputable def impl_isForm_tab (F : Nat) : Tab := [(35, (impl_in_ent F))]
theorem impl_isForm_tabok (F : Nat) : TabOK Try.prog (impl_isForm_tab F) := (tab_cons (impl_in_meets F) impl_in_fok tab_nil)
noncomputable def impl_isForm_LS0 (F : Nat) : LT := []
theorem impl_isForm_lsok0 (F : Nat) : LoopsOK Try.prog (impl_isForm_LS0 F) (bodyOf Try.f26) := loopsOK_nil
theorem impl_isForm_run (F : Nat) (k0 : Int) : runS tt (impl_isForm_tab F) (impl_isForm_LS0 F) [] [] Try.f26 (bodyOf Try.f26) 70 [(.int .i64 k0)] [] = impl_isForm_c _ k0 (fun r => some ⟨(.bool r), [], []⟩) := by kernel_rfl
def impl_isForm_ent (F : Nat) : Ent := ⟨[], .quiet, fun args mem => match args, mem with
  | [(.int .i64 k0)], [] => some (true, ⟨(.bool (impl_isForm_v k0)), [], []⟩)
  | _, _ => none⟩
theorem impl_isForm_fok : FunOK Try.prog 26 := funOK Try.func26 (by kernel_rfl) rfl
theorem impl_isForm_meets (F : Nat) : Meets Try.prog 26 (impl_isForm_ent F) := by
  refine meets_of_runS mixed ttok deep (impl_isForm_tabok F) Try.func26 (body_some rfl) (impl_isForm_lsok0 F) fun args mem hfit ret h => ?_
  clear hfit
  simp only [impl_isForm_ent] at h
  split at h
  · rename_i k0
    simp only [Option.some.injEq, Prod.mk.injEq] at h
    obtain ⟨hc, rfl⟩ := h
    exact ⟨[], [], 70, _, (impl_isForm_run F k0).trans (impl_isForm_cv _ k0 _), rfl, rfl, rfl⟩
  · cases h

/-! loop.example/g01194/impl.cells -/
noncomputable def impl_cells_tab (F : Nat) : Tab := []
theorem impl_cells_tabok (F : Nat) : TabOK Try.prog (impl_cells_tab F) := tab_nil
noncomputable def impl_cells_LS0 (F : Nat) : LT := []
theorem impl_cells_lsok0 (F : Nat) : LoopsOK Try.prog (impl_cells_LS0 F) (bodyOf Try.f43) := loopsOK_nil
theorem impl_cells_run (F : Nat) : runS tt (impl_cells_tab F) (impl_cells_LS0 F) [] [] Try.f43 (bodyOf Try.f43) 70 [] [] = impl_cells_c _ (fun r => some ⟨(.sl 0 0 16), [(.vec 43 (.rr 2 [[(0 : Int), (0 : Int)], [(0 : Int), (1 : Int)], [(0 : Int), (2 : Int)], [(0 : Int), (3 : Int)], [(1 : Int), (0 : Int)], [(1 : Int), (1 : Int)], [(1 : Int), (2 : Int)], [(1 : Int), (3 : Int)], [(2 : Int), (0 : Int)], [(2 : Int), (1 : Int)], [(2 : Int), (2 : Int)], [(2 : Int), (3 : Int)], [(3 : Int), (0 : Int)], [(3 : Int), (1 : Int)], [(3 : Int), (2 : Int)], [(3 : Int), (3 : Int)]]))], []⟩) := by kernel_rfl
def impl_cells_ent (F : Nat) : Ent := ⟨[], .fresh, fun args mem => match args, mem with
  | [], [] => some (true, ⟨(.sl 0 0 16), [(.vec 43 (.rr 2 [[(0 : Int), (0 : Int)], [(0 : Int), (1 : Int)], [(0 : Int), (2 : Int)], [(0 : Int), (3 : Int)], [(1 : Int), (0 : Int)], [(1 : Int), (1 : Int)], [(1 : Int), (2 : Int)], [(1 : Int), (3 : Int)], [(2 : Int), (0 : Int)], [(2 : Int), (1 : Int)], [(2 : Int), (2 : Int)], [(2 : Int), (3 : Int)], [(3 : Int), (0 : Int)], [(3 : Int), (1 : Int)], [(3 : Int), (2 : Int)], [(3 : Int), (3 : Int)]]))], []⟩)
  | _, _ => none⟩
theorem impl_cells_fok : FunOK Try.prog 43 := funOK Try.func43 (by kernel_rfl) rfl
theorem impl_cells_meets (F : Nat) : Meets Try.prog 43 (impl_cells_ent F) := by
  refine meets_of_runS mixed ttok deep (impl_cells_tabok F) Try.func43 (body_some rfl) (impl_cells_lsok0 F) fun args mem hfit ret h => ?_
  clear hfit
  simp only [impl_cells_ent] at h
  split at h
  · simp only [Option.some.injEq, Prod.mk.injEq] at h
    obtain ⟨hc, rfl⟩ := h
    exact ⟨[], [], 70, _, (impl_cells_run F).trans (impl_cells_cv _ _), rfl, rfl, rfl⟩
  · cases h

/-! loop.example/g01194/impl.moved -/
noncomputable def impl_moved_tab (F : Nat) : Tab := []
theorem impl_moved_tabok (F : Nat) : TabOK Try.prog (impl_moved_tab F) := tab_nil
noncomputable def impl_moved_LS0 (F : Nat) : LT := []
theorem impl_moved_lsok0 (F : Nat) : LoopsOK Try.prog (impl_moved_LS0 F) (bodyOf Try.f45) := loopsOK_nil
theorem impl_moved_keys : keysOK (bodyOf Try.f45) = true := by kernel_rfl
def impl_moved_st2 (k0 : Int) (t67 : Int) (t78 : Int) (cell9 : List Int) : St := ⟨expand 23 0 [0, 3, 4, 6, 7] [(.int .i64 k0), (.ptr 0 0 0 2), (.ptr 1 0 0 2), (.int .i64 t67), (.int .i64 t78)], [(.var 2 (.ri .i64 cell9)), (.var 2 (.ri .i64 [(0 : Int), (0 : Int)]))], 0, []⟩
def impl_moved_o2 (k0 : Int) (t67 : Int) (x : List Int) : GT := (.out (.exit 0 ⟨expand 23 0 [0, 3, 4] [(.int .i64 k0), (.ptr 0 0 0 2), (.ptr 1 0 0 2)], [(.var 2 (.ri .i64 x)), (.var 2 (.ri .i64 [(0 : Int), (0 : Int)]))], 0, []⟩))
def impl_moved_ls2 (F : Nat) : LoopS := ⟨23, [0, 3, 4, 6, 7], [], [0, 3, 4], [], [4], [], [], fun vals mem np killed => match vals, mem, np, killed with
  | [(.int .i64 k0), (.ptr 0 0 0 2), (.ptr 1 0 0 2), (.int .i64 t67), (.int .i64 t78)], [(.var 2 (.ri .i64 cell9)), (.var 2 (.ri .i64 q_t410))], 0, [] => .br ((q_t410 == ([(0 : Int), (0 : Int)] : List Int)) && (impl_moved_l2 F k0 t67 t78 cell9).isSome) (impl_moved_o2 k0 t67 ((impl_moved_l2 F k0 t67 t78 cell9).getD default)) .fail
  | _, _, _, _ => .fail⟩
theorem impl_moved_step2 (F : Nat) (k0 : Int) (t67 : Int) (t78 : Int) (cell9 : List Int) {R : Type} (k : Out → Option R) : stepS tt (impl_moved_tab F) (impl_moved_LS0 F) 70 (impl_moved_ls2 F) (loopAt 2 (bodyOf Try.f45)) (impl_moved_st2 k0 t67 t78 cell9) k = impl_moved_s2 F k0 t67 R (t78, cell9) (fun s => k (.norm (impl_moved_st2 k0 t67 s.1 s.2))) (fun x => (impl_moved_o2 k0 t67 x).run k) := by kernel_rfl
theorem impl_moved_iter2 (F : Nat) (k0 : Int) (t67 : Int) {R : Type} (k : Out → Option R) : ∀ (n : Nat) (t78 : Int) (cell9 : List Int), iterS tt (impl_moved_tab F) (impl_moved_LS0 F) 70 (impl_moved_ls2 F) (loopAt 2 (bodyOf Try.f45)) n (impl_moved_st2 k0 t67 t78 cell9) k = loopC (impl_moved_s2 F k0 t67) n (t78, cell9) (fun x => (impl_moved_o2 k0 t67 x).run k)
  | 0, t78, cell9 => rfl
  | n + 1, t78, cell9 => (iterS_succ tt (impl_moved_tab F) (impl_moved_LS0 F) 70 (impl_moved_ls2 F) (loopAt 2 (bodyOf Try.f45)) n (impl_moved_st2 k0 t67 t78 cell9) k).trans ((impl_moved_step2 F k0 t67 t78 cell9 (nextK (iterS tt (impl_moved_tab F) (impl_moved_LS0 F) 70 (impl_moved_ls2 F) (loopAt 2 (bodyOf Try.f45)) n) k)).trans (congrArg (fun kn => impl_moved_s2 F k0 t67 R (t78, cell9) kn _) (funext (fun ⟨t78, cell9⟩ => impl_moved_iter2 F k0 t67 k n t78 cell9))))
theorem impl_moved_lok2 (F : Nat) : LoopOK Try.prog (loopAt 2 (bodyOf Try.f45)) (impl_moved_ls2 F) := by
  refine loopOK_of mixed ttok deep (impl_moved_tabok F) (loopsOK_at (impl_moved_lsok0 F) 2) (fuel := 70) fun R vals mem np killed k x h => ?_
  simp only [impl_moved_ls2] at h
  split at h
  · rename_i k0 t67 t78 cell9 q_t410
    simp only [GT.run] at h
    have hc := (cond_noneL h).1
    replace h := (cond_noneL h).2
    have hg := (and_split hc).1
    replace hc := (and_split hc).2
    obtain rfl := beq_li hg
    refine ⟨F, (impl_moved_iter2 F k0 t67 k F t78 cell9).trans ((loopC_use (impl_moved_s2_nat F k0 t67) hc _).trans h)⟩
  · simp only [GT.run] at h
    cases h
noncomputable def impl_moved_LS1 (F : Nat) : LT := (2, impl_moved_ls2 F) :: impl_moved_LS0 F
theorem impl_moved_lsok1 (F : Nat) : LoopsOK Try.prog (impl_moved_LS1 F) (bodyOf Try.f45) := loopsOK_cons impl_moved_keys (impl_moved_lok2 F) (impl_moved_lsok0 F)
theorem impl_moved_run (F : Nat) (k0 : Int) (cell1 : List Int) : runS tt (impl_moved_tab F) (impl_moved_LS1 F) [] [] Try.f45 (bodyOf Try.f45) 70 [(.int .i64 k0), (.ints 2 cell1)] [] = impl_moved_c _ F k0 cell1 (fun r => some ⟨(.ints 2 r), [], []⟩) := by kernel_rfl
def impl_moved_ent (F : Nat) : Ent := ⟨[], .quiet, fun args mem => match args, mem with
  | [(.int .i64 k0), (.ints 2 cell1)], [] => some ((impl_moved_p F k0 cell1).isSome, ⟨(.ints 2 ((impl_moved_p F k0 cell1).getD default)), [], []⟩)
  | _, _ => none⟩
theorem impl_moved_fok : FunOK Try.prog 45 := funOK Try.func45 (by kernel_rfl) rfl
theorem impl_moved_meets (F : Nat) : Meets Try.prog 45 (impl_moved_ent F) := by
  refine meets_of_runS mixed ttok deep (impl_moved_tabok F) Try.func45 (body_some rfl) (impl_moved_lsok1 F) fun args mem hfit ret h => ?_
  clear hfit
  simp only [impl_moved_ent] at h
  split at h
  · rename_i k0 cell1
    simp only [Option.some.injEq, Prod.mk.injEq] at h
    obtain ⟨hc, rfl⟩ := h
    exact ⟨[], [], 70, _, (impl_moved_run F k0 cell1).trans ((impl_moved_cp _ F k0 cell1 _).trans (bind_use hc _)), rfl, rfl, rfl⟩
  · cases h

/-! (loop.example/g01194/impl.Board).form -/
noncomputable def impl_Board_form_tab (F : Nat) : Tab := [(43, (impl_cells_ent F)), (45, (impl_moved_ent F)), (44, (impl_Board_at_ent F))]
theorem impl_Board_form_tabok (F : Nat) : TabOK Try.prog (impl_Board_form_tab F) := (tab_cons (impl_cells_meets F) impl_cells_fok (tab_cons (impl_moved_meets F) impl_moved_fok (tab_cons (impl_Board_at_meets F) impl_Board_at_fok tab_nil)))
noncomputable def impl_Board_form_LS0 (F : Nat) : LT := []
theorem impl_Board_form_lsok0 (F : Nat) : LoopsOK Try.prog (impl_Board_form_LS0 F) (bodyOf Try.f27) := loopsOK_nil
theorem impl_Board_form_keys : keysOK (bodyOf Try.f27) = true := by kernel_rfl
def impl_Board_form_st3 (k0 : Int) (b14 : List Int) (t1113 : Int) (out16 : List Int) : St := ⟨expand 26 0 [1, 2, 4, 5, 9, 10, 11] [(.int .i64 k0), (.ptr 0 0 0 16), (.ptr 1 0 0 16), (.ptr 2 0 0 16), (.sl 3 0 16), (.int .i64 (16 : Int)), (.int .i64 t1113)], [(.var 16 (.ri .i64 b14)), (.var 16 (.ri .i64 [(0 : Int), (0 : Int), (0 : Int), (0 : Int), (0 : Int), (0 : Int), (0 : Int), (0 : Int), (0 : Int), (0 : Int), (0 : Int), (0 : Int), (0 : Int), (0 : Int), (0 : Int), (0 : Int)])), (.var 16 (.ri .i64 out16)), (.vec 43 (.rr 2 [[(0 : Int), (0 : Int)], [(0 : Int), (1 : Int)], [(0 : Int), (2 : Int)], [(0 : Int), (3 : Int)], [(1 : Int), (0 : Int)], [(1 : Int), (1 : Int)], [(1 : Int), (2 : Int)], [(1 : Int), (3 : Int)], [(2 : Int), (0 : Int)], [(2 : Int), (1 : Int)], [(2 : Int), (2 : Int)], [(2 : Int), (3 : Int)], [(3 : Int), (0 : Int)], [(3 : Int), (1 : Int)], [(3 : Int), (2 : Int)], [(3 : Int), (3 : Int)]]))], 0, []⟩
def impl_Board_form_o3 (k0 : Int) (b14 : List Int) (x : List Int) : GT := (.out (.exit 0 ⟨expand 26 0 [4, 5] [(.ptr 0 0 0 16), (.ptr 1 0 0 16)], [(.var 16 (.ri .i64 [(0 : Int), (0 : Int), (0 : Int), (0 : Int), (0 : Int), (0 : Int), (0 : Int), (0 : Int), (0 : Int), (0 : Int), (0 : Int), (0 : Int), (0 : Int), (0 : Int), (0 : Int), (0 : Int)])), (.var 16 (.ri .i64 x))], 0, []⟩))
def impl_Board_form_ls3 (F : Nat) : LoopS := ⟨26, [1, 2, 4, 5, 9, 10, 11], [], [4, 5], [], [4], [], [], fun vals mem np killed => match vals, mem, np, killed with
  | [(.int .i64 k0), (.ptr 0 0 0 16), (.ptr 1 0 0 16), (.ptr 2 0 0 16), (.sl 3 0 q_t911), (.int .i64 q_t1012), (.int .i64 t1113)], [(.var 16 (.ri .i64 b14)), (.var 16 (.ri .i64 q_t415)), (.var 16 (.ri .i64 out16)), (.vec 43 (.rr 2 q_t917))], 0, [] => .br ((q_t1012 == (16 : Int)) && ((q_t415 == ([(0 : Int), (0 : Int), (0 : Int), (0 : Int), (0 : Int), (0 : Int), (0 : Int), (0 : Int), (0 : Int), (0 : Int), (0 : Int), (0 : Int), (0 : Int), (0 : Int), (0 : Int), (0 : Int)] : List Int)) && ((q_t917 == ([[(0 : Int), (0 : Int)], [(0 : Int), (1 : Int)], [(0 : Int), (2 : Int)], [(0 : Int), (3 : Int)], [(1 : Int), (0 : Int)], [(1 : Int), (1 : Int)], [(1 : Int), (2 : Int)], [(1 : Int), (3 : Int)], [(2 : Int), (0 : Int)], [(2 : Int), (1 : Int)], [(2 : Int), (2 : Int)], [(2 : Int), (3 : Int)], [(3 : Int), (0 : Int)], [(3 : Int), (1 : Int)], [(3 : Int), (2 : Int)], [(3 : Int), (3 : Int)]] : List (List Int))) && ((Nat.beq q_t911 16) && (impl_Board_form_l3 F k0 b14 t1113 out16).isSome)))) (impl_Board_form_o3 k0 b14 ((impl_Board_form_l3 F k0 b14 t1113 out16).getD default)) .fail
  | _, _, _, _ => .fail⟩
theorem impl_Board_form_step3 (F : Nat) (k0 : Int) (b14 : List Int) (t1113 : Int) (out16 : List Int) {R : Type} (k : Out → Option R) : stepS tt (impl_Board_form_tab F) (impl_Board_form_LS0 F) 70 (impl_Board_form_ls3 F) (loopAt 3 (bodyOf Try.f27)) (impl_Board_form_st3 k0 b14 t1113 out16) k = impl_Board_form_s3 F k0 b14 R (t1113, out16) (fun s => k (.norm (impl_Board_form_st3 k0 b14 s.1 s.2))) (fun x => (impl_Board_form_o3 k0 b14 x).run k) := by kernel_rfl
theorem impl_Board_form_iter3 (F : Nat) (k0 : Int) (b14 : List Int) {R : Type} (k : Out → Option R) : ∀ (n : Nat) (t1113 : Int) (out16 : List Int), iterS tt (impl_Board_form_tab F) (impl_Board_form_LS0 F) 70 (impl_Board_form_ls3 F) (loopAt 3 (bodyOf Try.f27)) n (impl_Board_form_st3 k0 b14 t1113 out16) k = loopC (impl_Board_form_s3 F k0 b14) n (t1113, out16) (fun x => (impl_Board_form_o3 k0 b14 x).run k)
  | 0, t1113, out16 => rfl
  | n + 1, t1113, out16 => (iterS_succ tt (impl_Board_form_tab F) (impl_Board_form_LS0 F) 70 (impl_Board_form_ls3 F) (loopAt 3 (bodyOf Try.f27)) n (impl_Board_form_st3 k0 b14 t1113 out16) k).trans ((impl_Board_form_step3 F k0 b14 t1113 out16 (nextK (iterS tt (impl_Board_form_tab F) (impl_Board_form_LS0 F) 70 (impl_Board_form_ls3 F) (loopAt 3 (bodyOf Try.f27)) n) k)).trans (congrArg (fun kn => impl_Board_form_s3 F k0 b14 R (t1113, out16) kn _) (funext (fun ⟨t1113, out16⟩ => impl_Board_form_iter3 F k0 b14 k n t1113 out16))))
theorem impl_Board_form_lok3 (F : Nat) : LoopOK Try.prog (loopAt 3 (bodyOf Try.f27)) (impl_Board_form_ls3 F) := by
  refine loopOK_of mixed ttok deep (impl_Board_form_tabok F) (loopsOK_at (impl_Board_form_lsok0 F) 3) (fuel := 70) fun R vals mem np killed k x h => ?_
  simp only [impl_Board_form_ls3] at h
  split at h
  · rename_i k0 q_t911 q_t1012 t1113 b14 q_t415 out16 q_t917
    simp only [GT.run] at h
    have hc := (cond_noneL h).1
    replace h := (cond_noneL h).2
    have hg := (and_split hc).1
    replace hc := (and_split hc).2
    obtain rfl := beq_int hg
    have hg := (and_split hc).1
    replace hc := (and_split hc).2
    obtain rfl := beq_li hg
    have hg := (and_split hc).1
    replace hc := (and_split hc).2
    obtain rfl := beq_lli hg
    have hg := (and_split hc).1
    replace hc := (and_split hc).2
    obtain rfl := nbeq_nat hg
    refine ⟨F, (impl_Board_form_iter3 F k0 b14 k F t1113 out16).trans ((loopC_use (impl_Board_form_s3_nat F k0 b14) hc _).trans h)⟩
  · simp only [GT.run] at h
    cases h
noncomputable def impl_Board_form_LS1 (F : Nat) : LT := (3, impl_Board_form_ls3 F) :: impl_Board_form_LS0 F
theorem impl_Board_form_lsok1 (F : Nat) : LoopsOK Try.prog (impl_Board_form_LS1 F) (bodyOf Try.f27) := loopsOK_cons impl_Board_form_keys (impl_Board_form_lok3 F) (impl_Board_form_lsok0 F)
theorem impl_Board_form_run (F : Nat) (b0 : List Int) (k1 : Int) : runS tt (impl_Board_form_tab F) (impl_Board_form_LS1 F) [] [] Try.f27 (bodyOf Try.f27) 70 [(.ints 16 b0), (.int .i64 k1)] [] = impl_Board_form_c _ F b0 k1 (fun r => some ⟨(.ints 16 r), [], []⟩) := by kernel_rfl
def impl_Board_form_ent (F : Nat) : Ent := ⟨[], .quiet, fun args mem => match args, mem with
  | [(.ints 16 b0), (.int .i64 k1)], [] => some ((impl_Board_form_p F b0 k1).isSome, ⟨(.ints 16 ((impl_Board_form_p F b0 k1).getD default)), [], []⟩)
  | _, _ => none⟩
theorem impl_Board_form_fok : FunOK Try.prog 27 := funOK Try.func27 (by kernel_rfl) rfl
theorem impl_Board_form_meets (F : Nat) : Meets Try.prog 27 (impl_Board_form_ent F) := by
  refine meets_of_runS mixed ttok deep (impl_Board_form_tabok F) Try.func27 (body_some rfl) (impl_Board_form_lsok1 F) fun args mem hfit ret h => ?_
  clear hfit
  simp only [impl_Board_form_ent] at h
  split at h
  · rename_i b0 k1
    simp only [Option.some.injEq, Prod.mk.injEq] at h
    obtain ⟨hc, rfl⟩ := h
    exact ⟨[], [], 70, _, (impl_Board_form_run F b0 k1).trans ((impl_Board_form_cp _ F b0 k1 _).trans (bind_use hc _)), rfl, rfl, rfl⟩
  · cases h

/-! loop.example/g01194/impl.FormBoard -/
noncomputable def impl_FormBoard_tab (F : Nat) : Tab := [(17, (impl_IsBoard_ent F)), (26, (impl_isForm_ent F)), (27, (impl_Board_form_ent F))]
theorem impl_FormBoard_tabok (F : Nat) : TabOK Try.prog (impl_FormBoard_tab F) := (tab_cons (impl_IsBoard_meets F) impl_IsBoard_fok (tab_cons (impl_isForm_meets F) impl_isForm_fok (tab_cons (impl_Board_form_meets F) impl_Board_form_fok tab_nil)))
noncomputable def impl_FormBoard_LS0 (F : Nat) : LT := []
theorem impl_FormBoard_lsok0 (F : Nat) : LoopsOK Try.prog (impl_FormBoard_LS0 F) (bodyOf Try.f14) := loopsOK_nil
theorem impl_FormBoard_run (F : Nat) (b0 : List Int) (k1 : Int) : runS tt (impl_FormBoard_tab F) (impl_FormBoard_LS0 F) [] [] Try.f14 (bodyOf Try.f14) 70 [(.ints 16 b0), (.int .i64 k1)] [] = impl_FormBoard_c _ F b0 k1 (fun r => some ⟨(.tup [(.ints 16 r.1), (.bool r.2)]), [], []⟩) := by kernel_rfl
def impl_FormBoard_ent (F : Nat) : Ent := ⟨[], .quiet, fun args mem => match args, mem with
  | [(.ints 16 b0), (.int .i64 k1)], [] => some ((impl_FormBoard_p F b0 k1).isSome, ⟨(.tup [(.ints 16 ((impl_FormBoard_p F b0 k1).getD default).1), (.bool ((impl_FormBoard_p F b0 k1).getD default).2)]), [], []⟩)
  | _, _ => none⟩
theorem impl_FormBoard_fok : FunOK Try.prog 14 := funOK Try.func14 (by kernel_rfl) rfl
theorem impl_FormBoard_meets (F : Nat) : Meets Try.prog 14 (impl_FormBoard_ent F) := by
  refine meets_of_runS mixed ttok deep (impl_FormBoard_tabok F) Try.func14 (body_some rfl) (impl_FormBoard_lsok0 F) fun args mem hfit ret h => ?_
  clear hfit
  simp only [impl_FormBoard_ent] at h
  split at h
  · rename_i b0 k1
    simp only [Option.some.injEq, Prod.mk.injEq] at h
    obtain ⟨hc, rfl⟩ := h
    exact ⟨[], [], 70, _, (impl_FormBoard_run F b0 k1).trans ((impl_FormBoard_cp _ F b0 k1 _).trans (bind_use hc _)), rfl, rfl, rfl⟩
  · cases h
end Go.Proofs.Ytgdokdkcbgkekaa
