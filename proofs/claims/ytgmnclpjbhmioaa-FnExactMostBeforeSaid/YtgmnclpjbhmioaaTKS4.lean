/-
Pure functions and what the code of them does, by program; without conditions.
-/
import Derived.Test.YtgmnclpjbhmioaaTKP4
import Derived.Test.YtgmnclpjbhmioaaTKS3
namespace Go.Proofs.Ytgmnclpjbhmioaa
open Go Go.Lv Go.Lv.P Go.Proofs
set_option linter.unusedVariables false
set_option linter.unusedSimpArgs false
set_option maxRecDepth 100000
/-! (loop.example/g01194/impl.Board).slides -/
noncomputable def impl_Board_slides_tab (F : Nat) : Tab := [(115, (impl_Board_slide_ent F))]
theorem impl_Board_slides_tabok (F : Nat) : TabOK Try.prog (impl_Board_slides_tab F) := (tab_cons (impl_Board_slide_meets F) impl_Board_slide_fok tab_nil)
noncomputable def impl_Board_slides_LS0 (F : Nat) : LT := []
theorem impl_Board_slides_lsok0 (F : Nat) : LoopsOK Try.prog (impl_Board_slides_LS0 F) (bodyOf Try.f85) := loopsOK_nil
theorem impl_Board_slides_keys : keysOK (bodyOf Try.f85) = true := by kernel_rfl
def impl_Board_slides_st2 (t76 : List Int) (t87 : Int) (t98 : Int) (b9 : List Int) : St := ⟨expand 22 0 [2, 4, 7, 8, 9] [(.ptr 0 0 0 16), (.ptr 1 0 0 16), (.ri .i64 t76), (.int .i64 t87), (.int .i64 t98)], [(.var 16 (.ri .i64 b9)), (.var 16 (.ri .i64 [(0 : Int), (0 : Int), (0 : Int), (0 : Int), (0 : Int), (0 : Int), (0 : Int), (0 : Int), (0 : Int), (0 : Int), (0 : Int), (0 : Int), (0 : Int), (0 : Int), (0 : Int), (0 : Int)]))], 0, []⟩
def impl_Board_slides_o2 (t76 : List Int) (t87 : Int) (x : List Int) : GT := (.out (.exit 0 ⟨expand 22 0 [2, 4] [(.ptr 0 0 0 16), (.ptr 1 0 0 16)], [(.var 16 (.ri .i64 x)), (.var 16 (.ri .i64 [(0 : Int), (0 : Int), (0 : Int), (0 : Int), (0 : Int), (0 : Int), (0 : Int), (0 : Int), (0 : Int), (0 : Int), (0 : Int), (0 : Int), (0 : Int), (0 : Int), (0 : Int), (0 : Int)]))], 0, []⟩))
def impl_Board_slides_ls2 (F : Nat) : LoopS := ⟨22, [2, 4, 7, 8, 9], [], [2, 4], [], [4], [], [], fun vals mem np killed => match vals, mem, np, killed with
  | [(.ptr 0 0 0 16), (.ptr 1 0 0 16), (.ri .i64 t76), (.int .i64 t87), (.int .i64 t98)], [(.var 16 (.ri .i64 b9)), (.var 16 (.ri .i64 q_t410))], 0, [] => .br ((q_t410 == ([(0 : Int), (0 : Int), (0 : Int), (0 : Int), (0 : Int), (0 : Int), (0 : Int), (0 : Int), (0 : Int), (0 : Int), (0 : Int), (0 : Int), (0 : Int), (0 : Int), (0 : Int), (0 : Int)] : List Int)) && (impl_Board_slides_l2 F t76 t87 t98 b9).isSome) (impl_Board_slides_o2 t76 t87 ((impl_Board_slides_l2 F t76 t87 t98 b9).getD default)) .fail
  | _, _, _, _ => .fail⟩
theorem impl_Board_slides_step2 (F : Nat) (t76 : List Int) (t87 : Int) (t98 : Int) (b9 : List Int) {R : Type} (k : Out → Option R) : stepS tt (impl_Board_slides_tab F) (impl_Board_slides_LS0 F) 70 (impl_Board_slides_ls2 F) (loopAt 2 (bodyOf Try.f85)) (impl_Board_slides_st2 t76 t87 t98 b9) k = impl_Board_slides_s2 F t76 t87 R (t98, b9) (fun s => k (.norm (impl_Board_slides_st2 t76 t87 s.1 s.2))) (fun x => (impl_Board_slides_o2 t76 t87 x).run k) := by kernel_rfl
theorem impl_Board_slides_iter2 (F : Nat) (t76 : List Int) (t87 : Int) {R : Type} (k : Out → Option R) : ∀ (n : Nat) (t98 : Int) (b9 : List Int), iterS tt (impl_Board_slides_tab F) (impl_Board_slides_LS0 F) 70 (impl_Board_slides_ls2 F) (loopAt 2 (bodyOf Try.f85)) n (impl_Board_slides_st2 t76 t87 t98 b9) k = loopC (impl_Board_slides_s2 F t76 t87) n (t98, b9) (fun x => (impl_Board_slides_o2 t76 t87 x).run k)
  | 0, t98, b9 => rfl
  | n + 1, t98, b9 => (iterS_succ tt (impl_Board_slides_tab F) (impl_Board_slides_LS0 F) 70 (impl_Board_slides_ls2 F) (loopAt 2 (bodyOf Try.f85)) n (impl_Board_slides_st2 t76 t87 t98 b9) k).trans ((impl_Board_slides_step2 F t76 t87 t98 b9 (nextK (iterS tt (impl_Board_slides_tab F) (impl_Board_slides_LS0 F) 70 (impl_Board_slides_ls2 F) (loopAt 2 (bodyOf Try.f85)) n) k)).trans (congrArg (fun kn => impl_Board_slides_s2 F t76 t87 R (t98, b9) kn _) (funext (fun ⟨t98, b9⟩ => impl_Board_slides_iter2 F t76 t87 k n t98 b9))))
theorem impl_Board_slides_lok2 (F : Nat) : LoopOK Try.prog (loopAt 2 (bodyOf Try.f85)) (impl_Board_slides_ls2 F) := by
  refine loopOK_of mixed ttok deep (impl_Board_slides_tabok F) (loopsOK_at (impl_Board_slides_lsok0 F) 2) (fuel := 70) fun R vals mem np killed k x h => ?_
  simp only [impl_Board_slides_ls2] at h
  split at h
  · rename_i t76 t87 t98 b9 q_t410
    simp only [GT.run] at h
    have hc := (cond_noneL h).1
    replace h := (cond_noneL h).2
    have hg := (and_split hc).1
    replace hc := (and_split hc).2
    obtain rfl := beq_li hg
    refine ⟨F, (impl_Board_slides_iter2 F t76 t87 k F t98 b9).trans ((loopC_use (impl_Board_slides_s2_nat F t76 t87) hc _).trans h)⟩
  · simp only [GT.run] at h
    cases h
noncomputable def impl_Board_slides_LS1 (F : Nat) : LT := (2, impl_Board_slides_ls2 F) :: impl_Board_slides_LS0 F
theorem impl_Board_slides_lsok1 (F : Nat) : LoopsOK Try.prog (impl_Board_slides_LS1 F) (bodyOf Try.f85) := loopsOK_cons impl_Board_slides_keys (impl_Board_slides_lok2 F) (impl_Board_slides_lsok0 F)
theorem impl_Board_slides_run (F : Nat) (b0 : List Int) (list1 : List Int) : runS tt (impl_Board_slides_tab F) (impl_Board_slides_LS1 F) [] [] Try.f85 (bodyOf Try.f85) 70 [(.ints 16 b0), (.ri .i64 list1)] [] = impl_Board_slides_c _ F b0 list1 (fun r => some ⟨(.ints 16 r), [], []⟩) := by kernel_rfl
def impl_Board_slides_ent (F : Nat) : Ent := ⟨[], .quiet, fun args mem => match args, mem with
  | [(.ints 16 b0), (.ri .i64 list1)], [] => some ((impl_Board_slides_p F b0 list1).isSome, ⟨(.ints 16 ((impl_Board_slides_p F b0 list1).getD default)), [], []⟩)
  | _, _ => none⟩
theorem impl_Board_slides_fok : FunOK Try.prog 85 := funOK Try.func85 (by kernel_rfl) rfl
theorem impl_Board_slides_meets (F : Nat) : Meets Try.prog 85 (impl_Board_slides_ent F) := by
  refine meets_of_runS mixed ttok deep (impl_Board_slides_tabok F) Try.func85 (body_some rfl) (impl_Board_slides_lsok1 F) fun args mem hfit ret h => ?_
  clear hfit
  simp only [impl_Board_slides_ent] at h
  split at h
  · rename_i b0 list1
    simp only [Option.some.injEq, Prod.mk.injEq] at h
    obtain ⟨hc, rfl⟩ := h
    exact ⟨[], [], 70, _, (impl_Board_slides_run F b0 list1).trans ((impl_Board_slides_cp _ F b0 list1 _).trans (bind_use hc _)), rfl, rfl, rfl⟩
  · cases h

/-! (loop.example/g01194/impl.Board).countBefore -/
noncomputable def impl_Board_countBefore_tab (F : Nat) : Tab := [(56, (impl_Board_linesBefore_ent F)), (85, (impl_Board_slides_ent F))]
theorem impl_Board_countBefore_tabok (F : Nat) : TabOK Try.prog (impl_Board_countBefore_tab F) := (tab_cons (impl_Board_linesBefore_meets F) impl_Board_linesBefore_fok (tab_cons (impl_Board_slides_meets F) impl_Board_slides_fok tab_nil))
noncomputable def impl_Board_countBefore_LS0 (F : Nat) : LT := []
theorem impl_Board_countBefore_lsok0 (F : Nat) : LoopsOK Try.prog (impl_Board_countBefore_LS0 F) (bodyOf Try.f51) := loopsOK_nil
theorem impl_Board_countBefore_run (F : Nat) (b0 : List Int) (direction1 : Int) : runS tt (impl_Board_countBefore_tab F) (impl_Board_countBefore_LS0 F) [] [] Try.f51 (bodyOf Try.f51) 70 [(.ints 16 b0), (.int .i64 direction1)] [] = impl_Board_countBefore_c _ F b0 direction1 (fun r => some ⟨(.int .i64 r), [], []⟩) := by kernel_rfl
def impl_Board_countBefore_ent (F : Nat) : Ent := ⟨[], .quiet, fun args mem => match args, mem with
  | [(.ints 16 b0), (.int .i64 direction1)], [] => some ((impl_Board_countBefore_p F b0 direction1).isSome, ⟨(.int .i64 ((impl_Board_countBefore_p F b0 direction1).getD default)), [], []⟩)
  | _, _ => none⟩
theorem impl_Board_countBefore_fok : FunOK Try.prog 51 := funOK Try.func51 (by kernel_rfl) rfl
theorem impl_Board_countBefore_meets (F : Nat) : Meets Try.prog 51 (impl_Board_countBefore_ent F) := by
  refine meets_of_runS mixed ttok deep (impl_Board_countBefore_tabok F) Try.func51 (body_some rfl) (impl_Board_countBefore_lsok0 F) fun args mem hfit ret h => ?_
  clear hfit
  simp only [impl_Board_countBefore_ent] at h
  split at h
  · rename_i b0 direction1
    simp only [Option.some.injEq, Prod.mk.injEq] at h
    obtain ⟨hc, rfl⟩ := h
    exact ⟨[], [], 70, _, (impl_Board_countBefore_run F b0 direction1).trans ((impl_Board_countBefore_cp _ F b0 direction1 _).trans (bind_use hc _)), rfl, rfl, rfl⟩
  · cases h

/-! loop.example/g01194/impl.CountBefore -/
noncomputable def impl_CountBefore_tab (F : Nat) : Tab := [(49, (impl_IsBoard_ent F)), (50, (impl_isDirection_ent F)), (51, (impl_Board_countBefore_ent F))]
theorem impl_CountBefore_tabok (F : Nat) : TabOK Try.prog (impl_CountBefore_tab F) := (tab_cons (impl_IsBoard_meets F) impl_IsBoard_fok (tab_cons (impl_isDirection_meets F) impl_isDirection_fok (tab_cons (impl_Board_countBefore_meets F) impl_Board_countBefore_fok tab_nil)))
noncomputable def impl_CountBefore_LS0 (F : Nat) : LT := []
theorem impl_CountBefore_lsok0 (F : Nat) : LoopsOK Try.prog (impl_CountBefore_LS0 F) (bodyOf Try.f15) := loopsOK_nil
theorem impl_CountBefore_run (F : Nat) (b0 : List Int) (direction1 : Int) : runS tt (impl_CountBefore_tab F) (impl_CountBefore_LS0 F) [] [] Try.f15 (bodyOf Try.f15) 70 [(.ints 16 b0), (.int .i64 direction1)] [] = impl_CountBefore_c _ F b0 direction1 (fun r => some ⟨(.tup [(.int .i64 r.1), (.bool r.2)]), [], []⟩) := by kernel_rfl
def impl_CountBefore_ent (F : Nat) : Ent := ⟨[], .quiet, fun args mem => match args, mem with
  | [(.ints 16 b0), (.int .i64 direction1)], [] => some ((impl_CountBefore_p F b0 direction1).isSome, ⟨(.tup [(.int .i64 ((impl_CountBefore_p F b0 direction1).getD default).1), (.bool ((impl_CountBefore_p F b0 direction1).getD default).2)]), [], []⟩)
  | _, _ => none⟩
theorem impl_CountBefore_fok : FunOK Try.prog 15 := funOK Try.func15 (by kernel_rfl) rfl
theorem impl_CountBefore_meets (F : Nat) : Meets Try.prog 15 (impl_CountBefore_ent F) := by
  refine meets_of_runS mixed ttok deep (impl_CountBefore_tabok F) Try.func15 (body_some rfl) (impl_CountBefore_lsok0 F) fun args mem hfit ret h => ?_
  clear hfit
  simp only [impl_CountBefore_ent] at h
  split at h
  · rename_i b0 direction1
    simp only [Option.some.injEq, Prod.mk.injEq] at h
    obtain ⟨hc, rfl⟩ := h
    exact ⟨[], [], 70, _, (impl_CountBefore_run F b0 direction1).trans ((impl_CountBefore_cp _ F b0 direction1 _).trans (bind_use hc _)), rfl, rfl, rfl⟩
  · cases h

/-! loop.example/g01194/laws.FnExactCountBefore -/
noncomputable def laws_FnExactCountBefore_tab (F : Nat) : Tab := [(14, (laws_toBoard_ent F)), (13, (spec_CountBefore_ent F)), (15, (impl_CountBefore_ent F))]
theorem laws_FnExactCountBefore_tabok (F : Nat) : TabOK Try.prog (laws_FnExactCountBefore_tab F) := (tab_cons (laws_toBoard_meets F) laws_toBoard_fok (tab_cons (spec_CountBefore_meets F) spec_CountBefore_fok (tab_cons (impl_CountBefore_meets F) impl_CountBefore_fok tab_nil)))
noncomputable def laws_FnExactCountBefore_LS0 (F : Nat) : LT := []
theorem laws_FnExactCountBefore_lsok0 (F : Nat) : LoopsOK Try.prog (laws_FnExactCountBefore_LS0 F) (bodyOf Try.f3) := loopsOK_nil
theorem laws_FnExactCountBefore_run (F : Nat) (aB0 : List Int) (aDirection1 : Int) : runS tt (laws_FnExactCountBefore_tab F) (laws_FnExactCountBefore_LS0 F) [] [] Try.f3 (bodyOf Try.f3) 70 [(.ints 16 aB0), (.int .i64 aDirection1)] [] = laws_FnExactCountBefore_c _ F aB0 aDirection1 (fun r => some ⟨(.bool r), [], []⟩) := by kernel_rfl
def laws_FnExactCountBefore_ent (F : Nat) : Ent := ⟨[], .quiet, fun args mem => match args, mem with
  | [(.ints 16 aB0), (.int .i64 aDirection1)], [] => some ((laws_FnExactCountBefore_p F aB0 aDirection1).isSome, ⟨(.bool ((laws_FnExactCountBefore_p F aB0 aDirection1).getD default)), [], []⟩)
  | _, _ => none⟩
theorem laws_FnExactCountBefore_fok : FunOK Try.prog 3 := funOK Try.func3 (by kernel_rfl) rfl
theorem laws_FnExactCountBefore_meets (F : Nat) : Meets Try.prog 3 (laws_FnExactCountBefore_ent F) := by
  refine meets_of_runS mixed ttok deep (laws_FnExactCountBefore_tabok F) Try.func3 (body_some rfl) (laws_FnExactCountBefore_lsok0 F) fun args mem hfit ret h => ?_
  clear hfit
  simp only [laws_FnExactCountBefore_ent] at h
  split at h
  · rename_i aB0 aDirection1
    simp only [Option.some.injEq, Prod.mk.injEq] at h
    obtain ⟨hc, rfl⟩ := h
    exact ⟨[], [], 70, _, (laws_FnExactCountBefore_run F aB0 aDirection1).trans ((laws_FnExactCountBefore_cp _ F aB0 aDirection1 _).trans (bind_use hc _)), rfl, rfl, rfl⟩
  · cases h

/-! loop.example/g01194/spec.WaysInto -/
noncomputable def spec_WaysInto_tab (F : Nat) : Tab := [(45, (spec_l2Board_ent F)), (47, (spec_l6Count_ent F))]
theorem spec_WaysInto_tabok (F : Nat) : TabOK Try.prog (spec_WaysInto_tab F) := (tab_cons (spec_l2Board_meets F) spec_l2Board_fok (tab_cons (spec_l6Count_meets F) spec_l6Count_fok tab_nil))
noncomputable def spec_WaysInto_LS0 (F : Nat) : LT := []
theorem spec_WaysInto_lsok0 (F : Nat) : LoopsOK Try.prog (spec_WaysInto_LS0 F) (bodyOf Try.f16) := loopsOK_nil
theorem spec_WaysInto_run (F : Nat) (b0 : List Int) : runS tt (spec_WaysInto_tab F) (spec_WaysInto_LS0 F) [] [] Try.f16 (bodyOf Try.f16) 70 [(.ints 16 b0)] [] = spec_WaysInto_c _ F b0 (fun r => some ⟨(.tup [(.ints 4 r.1), (.bool r.2)]), [], []⟩) := by kernel_rfl
def spec_WaysInto_ent (F : Nat) : Ent := ⟨[], .quiet, fun args mem => match args, mem with
  | [(.ints 16 b0)], [] => some ((spec_WaysInto_p F b0).isSome, ⟨(.tup [(.ints 4 ((spec_WaysInto_p F b0).getD default).1), (.bool ((spec_WaysInto_p F b0).getD default).2)]), [], []⟩)
  | _, _ => none⟩
theorem spec_WaysInto_fok : FunOK Try.prog 16 := funOK Try.func16 (by kernel_rfl) rfl
theorem spec_WaysInto_meets (F : Nat) : Meets Try.prog 16 (spec_WaysInto_ent F) := by
  refine meets_of_runS mixed ttok deep (spec_WaysInto_tabok F) Try.func16 (body_some rfl) (spec_WaysInto_lsok0 F) fun args mem hfit ret h => ?_
  clear hfit
  simp only [spec_WaysInto_ent] at h
  split at h
  · rename_i b0
    simp only [Option.some.injEq, Prod.mk.injEq] at h
    obtain ⟨hc, rfl⟩ := h
    exact ⟨[], [], 70, _, (spec_WaysInto_run F b0).trans ((spec_WaysInto_cp _ F b0 _).trans (bind_use hc _)), rfl, rfl, rfl⟩
  · cases h

/-! loop.example/g01194/impl.WaysInto -/
noncomputable def impl_WaysInto_tab (F : Nat) : Tab := [(49, (impl_IsBoard_ent F)), (51, (impl_Board_countBefore_ent F))]
theorem impl_WaysInto_tabok (F : Nat) : TabOK Try.prog (impl_WaysInto_tab F) := (tab_cons (impl_IsBoard_meets F) impl_IsBoard_fok (tab_cons (impl_Board_countBefore_meets F) impl_Board_countBefore_fok tab_nil))
noncomputable def impl_WaysInto_LS0 (F : Nat) : LT := []
theorem impl_WaysInto_lsok0 (F : Nat) : LoopsOK Try.prog (impl_WaysInto_LS0 F) (bodyOf Try.f17) := loopsOK_nil
theorem impl_WaysInto_run (F : Nat) (b0 : List Int) : runS tt (impl_WaysInto_tab F) (impl_WaysInto_LS0 F) [] [] Try.f17 (bodyOf Try.f17) 70 [(.ints 16 b0)] [] = impl_WaysInto_c _ F b0 (fun r => some ⟨(.tup [(.ints 4 r.1), (.bool r.2)]), [], []⟩) := by kernel_rfl
def impl_WaysInto_ent (F : Nat) : Ent := ⟨[], .quiet, fun args mem => match args, mem with
  | [(.ints 16 b0)], [] => some ((impl_WaysInto_p F b0).isSome, ⟨(.tup [(.ints 4 ((impl_WaysInto_p F b0).getD default).1), (.bool ((impl_WaysInto_p F b0).getD default).2)]), [], []⟩)
  | _, _ => none⟩
theorem impl_WaysInto_fok : FunOK Try.prog 17 := funOK Try.func17 (by kernel_rfl) rfl
theorem impl_WaysInto_meets (F : Nat) : Meets Try.prog 17 (impl_WaysInto_ent F) := by
  refine meets_of_runS mixed ttok deep (impl_WaysInto_tabok F) Try.func17 (body_some rfl) (impl_WaysInto_lsok0 F) fun args mem hfit ret h => ?_
  clear hfit
  simp only [impl_WaysInto_ent] at h
  split at h
  · rename_i b0
    simp only [Option.some.injEq, Prod.mk.injEq] at h
    obtain ⟨hc, rfl⟩ := h
    exact ⟨[], [], 70, _, (impl_WaysInto_run F b0).trans ((impl_WaysInto_cp _ F b0 _).trans (bind_use hc _)), rfl, rfl, rfl⟩
  · cases h

/-! loop.example/g01194/laws.eqIntA4 -/
noncomputable def laws_eqIntA4_tab (F : Nat) : Tab := []
theorem laws_eqIntA4_tabok (F : Nat) : TabOK Try.prog (laws_eqIntA4_tab F) := tab_nil
noncomputable def laws_eqIntA4_LS0 (F : Nat) : LT := []
theorem laws_eqIntA4_lsok0 (F : Nat) : LoopsOK Try.prog (laws_eqIntA4_LS0 F) (bodyOf Try.f18) := loopsOK_nil
theorem laws_eqIntA4_keys : keysOK (bodyOf Try.f18) = true := by kernel_rfl
def laws_eqIntA4_st2 (a7 : List Int) (b8 : List Int) (i6 : Int) : St := ⟨expand 17 0 [2, 3, 5] [(.ptr 0 0 0 4), (.ptr 1 0 0 4), (.int .i64 i6)], [(.var 4 (.ri .i64 a7)), (.var 4 (.ri .i64 b8))], 0, []⟩
def laws_eqIntA4_o2 (a7 : List Int) (b8 : List Int) (x : Bool) : GT := (.br x (.out (.ret ⟨expand 17 0 [4] [(.bool false)], [], 0, []⟩)) (.out (.exit 0 ⟨expand 17 0 [] [], [], 0, []⟩)))
def laws_eqIntA4_ls2 (F : Nat) : LoopS := ⟨17, [2, 3, 5], [], [], [], [4], [], [], fun vals mem np killed => match vals, mem, np, killed with
  | [(.ptr 0 0 0 4), (.ptr 1 0 0 4), (.int .i64 i6)], [(.var 4 (.ri .i64 a7)), (.var 4 (.ri .i64 b8))], 0, [] => .br (laws_eqIntA4_l2 F a7 b8 i6).isSome (laws_eqIntA4_o2 a7 b8 ((laws_eqIntA4_l2 F a7 b8 i6).getD default)) .fail
  | _, _, _, _ => .fail⟩
theorem laws_eqIntA4_step2 (F : Nat) (a7 : List Int) (b8 : List Int) (i6 : Int) {R : Type} (k : Out → Option R) : stepS tt (laws_eqIntA4_tab F) (laws_eqIntA4_LS0 F) 70 (laws_eqIntA4_ls2 F) (loopAt 2 (bodyOf Try.f18)) (laws_eqIntA4_st2 a7 b8 i6) k = laws_eqIntA4_s2 F a7 b8 R i6 (fun s => k (.norm (laws_eqIntA4_st2 a7 b8 s))) (fun x => (laws_eqIntA4_o2 a7 b8 x).run k) := by kernel_rfl
theorem laws_eqIntA4_iter2 (F : Nat) (a7 : List Int) (b8 : List Int) {R : Type} (k : Out → Option R) : ∀ (n : Nat) (i6 : Int), iterS tt (laws_eqIntA4_tab F) (laws_eqIntA4_LS0 F) 70 (laws_eqIntA4_ls2 F) (loopAt 2 (bodyOf Try.f18)) n (laws_eqIntA4_st2 a7 b8 i6) k = loopC (laws_eqIntA4_s2 F a7 b8) n i6 (fun x => (laws_eqIntA4_o2 a7 b8 x).run k)
  | 0, i6 => rfl
  | n + 1, i6 => (iterS_succ tt (laws_eqIntA4_tab F) (laws_eqIntA4_LS0 F) 70 (laws_eqIntA4_ls2 F) (loopAt 2 (bodyOf Try.f18)) n (laws_eqIntA4_st2 a7 b8 i6) k).trans ((laws_eqIntA4_step2 F a7 b8 i6 (nextK (iterS tt (laws_eqIntA4_tab F) (laws_eqIntA4_LS0 F) 70 (laws_eqIntA4_ls2 F) (loopAt 2 (bodyOf Try.f18)) n) k)).trans (congrArg (fun kn => laws_eqIntA4_s2 F a7 b8 R i6 kn _) (funext (fun i6 => laws_eqIntA4_iter2 F a7 b8 k n i6))))
theorem laws_eqIntA4_lok2 (F : Nat) : LoopOK Try.prog (loopAt 2 (bodyOf Try.f18)) (laws_eqIntA4_ls2 F) := by
  refine loopOK_of mixed ttok deep (laws_eqIntA4_tabok F) (loopsOK_at (laws_eqIntA4_lsok0 F) 2) (fuel := 70) fun R vals mem np killed k x h => ?_
  simp only [laws_eqIntA4_ls2] at h
  split at h
  · rename_i i6 a7 b8
    simp only [GT.run] at h
    have hc := (cond_noneL h).1
    replace h := (cond_noneL h).2
    refine ⟨F, (laws_eqIntA4_iter2 F a7 b8 k F i6).trans ((loopC_use (laws_eqIntA4_s2_nat F a7 b8) hc _).trans h)⟩
  · simp only [GT.run] at h
    cases h
noncomputable def laws_eqIntA4_LS1 (F : Nat) : LT := (2, laws_eqIntA4_ls2 F) :: laws_eqIntA4_LS0 F
theorem laws_eqIntA4_lsok1 (F : Nat) : LoopsOK Try.prog (laws_eqIntA4_LS1 F) (bodyOf Try.f18) := loopsOK_cons laws_eqIntA4_keys (laws_eqIntA4_lok2 F) (laws_eqIntA4_lsok0 F)
theorem laws_eqIntA4_run (F : Nat) (a0 : List Int) (b1 : List Int) : runS tt (laws_eqIntA4_tab F) (laws_eqIntA4_LS1 F) [] [] Try.f18 (bodyOf Try.f18) 70 [(.ints 4 a0), (.ints 4 b1)] [] = laws_eqIntA4_c _ F a0 b1 (fun r => some ⟨(.bool r), [], []⟩) := by kernel_rfl
def laws_eqIntA4_ent (F : Nat) : Ent := ⟨[], .quiet, fun args mem => match args, mem with
  | [(.ints 4 a0), (.ints 4 b1)], [] => some ((laws_eqIntA4_p F a0 b1).isSome, ⟨(.bool ((laws_eqIntA4_p F a0 b1).getD default)), [], []⟩)
  | _, _ => none⟩
theorem laws_eqIntA4_fok : FunOK Try.prog 18 := funOK Try.func18 (by kernel_rfl) rfl
theorem laws_eqIntA4_meets (F : Nat) : Meets Try.prog 18 (laws_eqIntA4_ent F) := by
  refine meets_of_runS mixed ttok deep (laws_eqIntA4_tabok F) Try.func18 (body_some rfl) (laws_eqIntA4_lsok1 F) fun args mem hfit ret h => ?_
  clear hfit
  simp only [laws_eqIntA4_ent] at h
  split at h
  · rename_i a0 b1
    simp only [Option.some.injEq, Prod.mk.injEq] at h
    obtain ⟨hc, rfl⟩ := h
    exact ⟨[], [], 70, _, (laws_eqIntA4_run F a0 b1).trans ((laws_eqIntA4_cp _ F a0 b1 _).trans (bind_use hc _)), rfl, rfl, rfl⟩
  · cases h

/-! loop.example/g01194/laws.FnExactWaysInto -/
noncomputable def laws_FnExactWaysInto_tab (F : Nat) : Tab := [(14, (laws_toBoard_ent F)), (16, (spec_WaysInto_ent F)), (17, (impl_WaysInto_ent F)), (18, (laws_eqIntA4_ent F))]
theorem laws_FnExactWaysInto_tabok (F : Nat) : TabOK Try.prog (laws_FnExactWaysInto_tab F) := (tab_cons (laws_toBoard_meets F) laws_toBoard_fok (tab_cons (spec_WaysInto_meets F) spec_WaysInto_fok (tab_cons (impl_WaysInto_meets F) impl_WaysInto_fok (tab_cons (laws_eqIntA4_meets F) laws_eqIntA4_fok tab_nil))))
noncomputable def laws_FnExactWaysInto_LS0 (F : Nat) : LT := []
theorem laws_FnExactWaysInto_lsok0 (F : Nat) : LoopsOK Try.prog (laws_FnExactWaysInto_LS0 F) (bodyOf Try.f4) := loopsOK_nil
theorem laws_FnExactWaysInto_run (F : Nat) (aB0 : List Int) : runS tt (laws_FnExactWaysInto_tab F) (laws_FnExactWaysInto_LS0 F) [] [] Try.f4 (bodyOf Try.f4) 70 [(.ints 16 aB0)] [] = laws_FnExactWaysInto_c _ F aB0 (fun r => some ⟨(.bool r), [], []⟩) := by kernel_rfl
def laws_FnExactWaysInto_ent (F : Nat) : Ent := ⟨[], .quiet, fun args mem => match args, mem with
  | [(.ints 16 aB0)], [] => some ((laws_FnExactWaysInto_p F aB0).isSome, ⟨(.bool ((laws_FnExactWaysInto_p F aB0).getD default)), [], []⟩)
  | _, _ => none⟩
theorem laws_FnExactWaysInto_fok : FunOK Try.prog 4 := funOK Try.func4 (by kernel_rfl) rfl
theorem laws_FnExactWaysInto_meets (F : Nat) : Meets Try.prog 4 (laws_FnExactWaysInto_ent F) := by
  refine meets_of_runS mixed ttok deep (laws_FnExactWaysInto_tabok F) Try.func4 (body_some rfl) (laws_FnExactWaysInto_lsok0 F) fun args mem hfit ret h => ?_
  clear hfit
  simp only [laws_FnExactWaysInto_ent] at h
  split at h
  · rename_i aB0
    simp only [Option.some.injEq, Prod.mk.injEq] at h
    obtain ⟨hc, rfl⟩ := h
    exact ⟨[], [], 70, _, (laws_FnExactWaysInto_run F aB0).trans ((laws_FnExactWaysInto_cp _ F aB0 _).trans (bind_use hc _)), rfl, rfl, rfl⟩
  · cases h

/-! loop.example/g01194/spec.l6Sides -/
noncomputable def spec_l6Sides_tab (F : Nat) : Tab := [(47, (spec_l6Count_ent F))]
theorem spec_l6Sides_tabok (F : Nat) : TabOK Try.prog (spec_l6Sides_tab F) := (tab_cons (spec_l6Count_meets F) spec_l6Count_fok tab_nil)
noncomputable def spec_l6Sides_LS0 (F : Nat) : LT := []
theorem spec_l6Sides_lsok0 (F : Nat) : LoopsOK Try.prog (spec_l6Sides_LS0 F) (bodyOf Try.f52) := loopsOK_nil
theorem spec_l6Sides_keys : keysOK (bodyOf Try.f52) = true := by kernel_rfl
def spec_l6Sides_st3 (b6 : List Int) (d5 : Int) (out7 : List Int) : St := ⟨expand 19 0 [1, 3, 4] [(.ptr 0 0 0 16), (.sl 1 0 (List.length out7)), (.int .i64 d5)], [(.var 16 (.ri .i64 b6)), (.vec 3 (.ri .i64 out7))], 0, []⟩
def spec_l6Sides_o3 (b6 : List Int) (x : List Int) : GT := (.out (.exit 0 ⟨expand 19 0 [3] [(.sl 0 0 (List.length x))], [(.vec 3 (.ri .i64 x))], 0, []⟩))
def spec_l6Sides_ls3 (F : Nat) : LoopS := ⟨19, [1, 3, 4], [], [3], [], [2], [], [], fun vals mem np killed => match vals, mem, np, killed with
  | [(.ptr 0 0 0 16), (.sl 1 0 q_out4), (.int .i64 d5)], [(.var 16 (.ri .i64 b6)), (.vec 3 (.ri .i64 out7))], 0, [] => .br ((Nat.beq q_out4 (List.length out7)) && (spec_l6Sides_l3 F b6 d5 out7).isSome) (spec_l6Sides_o3 b6 ((spec_l6Sides_l3 F b6 d5 out7).getD default)) .fail
  | _, _, _, _ => .fail⟩
theorem spec_l6Sides_step3 (F : Nat) (b6 : List Int) (d5 : Int) (out7 : List Int) {R : Type} (k : Out → Option R) : stepS tt (spec_l6Sides_tab F) (spec_l6Sides_LS0 F) 70 (spec_l6Sides_ls3 F) (loopAt 3 (bodyOf Try.f52)) (spec_l6Sides_st3 b6 d5 out7) k = spec_l6Sides_s3 F b6 R (d5, out7) (fun s => k (.norm (spec_l6Sides_st3 b6 s.1 s.2))) (fun x => (spec_l6Sides_o3 b6 x).run k) := by kernel_rfl
theorem spec_l6Sides_iter3 (F : Nat) (b6 : List Int) {R : Type} (k : Out → Option R) : ∀ (n : Nat) (d5 : Int) (out7 : List Int), iterS tt (spec_l6Sides_tab F) (spec_l6Sides_LS0 F) 70 (spec_l6Sides_ls3 F) (loopAt 3 (bodyOf Try.f52)) n (spec_l6Sides_st3 b6 d5 out7) k = loopC (spec_l6Sides_s3 F b6) n (d5, out7) (fun x => (spec_l6Sides_o3 b6 x).run k)
  | 0, d5, out7 => rfl
  | n + 1, d5, out7 => (iterS_succ tt (spec_l6Sides_tab F) (spec_l6Sides_LS0 F) 70 (spec_l6Sides_ls3 F) (loopAt 3 (bodyOf Try.f52)) n (spec_l6Sides_st3 b6 d5 out7) k).trans ((spec_l6Sides_step3 F b6 d5 out7 (nextK (iterS tt (spec_l6Sides_tab F) (spec_l6Sides_LS0 F) 70 (spec_l6Sides_ls3 F) (loopAt 3 (bodyOf Try.f52)) n) k)).trans (congrArg (fun kn => spec_l6Sides_s3 F b6 R (d5, out7) kn _) (funext (fun ⟨d5, out7⟩ => spec_l6Sides_iter3 F b6 k n d5 out7))))
theorem spec_l6Sides_lok3 (F : Nat) : LoopOK Try.prog (loopAt 3 (bodyOf Try.f52)) (spec_l6Sides_ls3 F) := by
  refine loopOK_of mixed ttok deep (spec_l6Sides_tabok F) (loopsOK_at (spec_l6Sides_lsok0 F) 3) (fuel := 70) fun R vals mem np killed k x h => ?_
  simp only [spec_l6Sides_ls3] at h
  split at h
  · rename_i q_out4 d5 b6 out7
    simp only [GT.run] at h
    have hc := (cond_noneL h).1
    replace h := (cond_noneL h).2
    have hg := (and_split hc).1
    replace hc := (and_split hc).2
    obtain rfl := nbeq_nat hg
    refine ⟨F, (spec_l6Sides_iter3 F b6 k F d5 out7).trans ((loopC_use (spec_l6Sides_s3_nat F b6) hc _).trans h)⟩
  · simp only [GT.run] at h
    cases h
noncomputable def spec_l6Sides_LS1 (F : Nat) : LT := (3, spec_l6Sides_ls3 F) :: spec_l6Sides_LS0 F
theorem spec_l6Sides_lsok1 (F : Nat) : LoopsOK Try.prog (spec_l6Sides_LS1 F) (bodyOf Try.f52) := loopsOK_cons spec_l6Sides_keys (spec_l6Sides_lok3 F) (spec_l6Sides_lsok0 F)
theorem spec_l6Sides_run (F : Nat) (b0 : List Int) : runS tt (spec_l6Sides_tab F) (spec_l6Sides_LS1 F) [] [] Try.f52 (bodyOf Try.f52) 70 [(.ints 16 b0)] [] = spec_l6Sides_c _ F b0 (fun r => some ⟨(.sl 0 0 (List.length r)), [(.vec 3 (.ri .i64 r))], []⟩) := by kernel_rfl
def spec_l6Sides_ent (F : Nat) : Ent := ⟨[], .fresh, fun args mem => match args, mem with
  | [(.ints 16 b0)], [] => some ((spec_l6Sides_p F b0).isSome, ⟨(.sl 0 0 (List.length ((spec_l6Sides_p F b0).getD default))), [(.vec 3 (.ri .i64 ((spec_l6Sides_p F b0).getD default)))], []⟩)
  | _, _ => none⟩
theorem spec_l6Sides_fok : FunOK Try.prog 52 := funOK Try.func52 (by kernel_rfl) rfl
theorem spec_l6Sides_meets (F : Nat) : Meets Try.prog 52 (spec_l6Sides_ent F) := by
  refine meets_of_runS mixed ttok deep (spec_l6Sides_tabok F) Try.func52 (body_some rfl) (spec_l6Sides_lsok1 F) fun args mem hfit ret h => ?_
  clear hfit
  simp only [spec_l6Sides_ent] at h
  split at h
  · rename_i b0
    simp only [Option.some.injEq, Prod.mk.injEq] at h
    obtain ⟨hc, rfl⟩ := h
    exact ⟨[], [], 70, _, (spec_l6Sides_run F b0).trans ((spec_l6Sides_cp _ F b0 _).trans (bind_use hc _)), rfl, rfl, rfl⟩
  · cases h

/-! loop.example/g01194/spec.IsMade -/
noncomputable def spec_IsMade_tab (F : Nat) : Tab := [(45, (spec_l2Board_ent F)), (52, (spec_l6Sides_ent F))]
theorem spec_IsMade_tabok (F : Nat) : TabOK Try.prog (spec_IsMade_tab F) := (tab_cons (spec_l2Board_meets F) spec_l2Board_fok (tab_cons (spec_l6Sides_meets F) spec_l6Sides_fok tab_nil))
noncomputable def spec_IsMade_LS0 (F : Nat) : LT := []
theorem spec_IsMade_lsok0 (F : Nat) : LoopsOK Try.prog (spec_IsMade_LS0 F) (bodyOf Try.f19) := loopsOK_nil
theorem spec_IsMade_run (F : Nat) (b0 : List Int) : runS tt (spec_IsMade_tab F) (spec_IsMade_LS0 F) [] [] Try.f19 (bodyOf Try.f19) 70 [(.ints 16 b0)] [] = spec_IsMade_c _ F b0 (fun r => some ⟨(.tup [(.bool r.1), (.bool r.2)]), [], []⟩) := by kernel_rfl
def spec_IsMade_ent (F : Nat) : Ent := ⟨[], .quiet, fun args mem => match args, mem with
  | [(.ints 16 b0)], [] => some ((spec_IsMade_p F b0).isSome, ⟨(.tup [(.bool ((spec_IsMade_p F b0).getD default).1), (.bool ((spec_IsMade_p F b0).getD default).2)]), [], []⟩)
  | _, _ => none⟩
theorem spec_IsMade_fok : FunOK Try.prog 19 := funOK Try.func19 (by kernel_rfl) rfl
theorem spec_IsMade_meets (F : Nat) : Meets Try.prog 19 (spec_IsMade_ent F) := by
  refine meets_of_runS mixed ttok deep (spec_IsMade_tabok F) Try.func19 (body_some rfl) (spec_IsMade_lsok0 F) fun args mem hfit ret h => ?_
  clear hfit
  simp only [spec_IsMade_ent] at h
  split at h
  · rename_i b0
    simp only [Option.some.injEq, Prod.mk.injEq] at h
    obtain ⟨hc, rfl⟩ := h
    exact ⟨[], [], 70, _, (spec_IsMade_run F b0).trans ((spec_IsMade_cp _ F b0 _).trans (bind_use hc _)), rfl, rfl, rfl⟩
  · cases h

/-! loop.example/g01194/impl.SidesInto -/
noncomputable def impl_SidesInto_tab (F : Nat) : Tab := [(49, (impl_IsBoard_ent F)), (51, (impl_Board_countBefore_ent F))]
theorem impl_SidesInto_tabok (F : Nat) : TabOK Try.prog (impl_SidesInto_tab F) := (tab_cons (impl_IsBoard_meets F) impl_IsBoard_fok (tab_cons (impl_Board_countBefore_meets F) impl_Board_countBefore_fok tab_nil))
noncomputable def impl_SidesInto_LS0 (F : Nat) : LT := []
theorem impl_SidesInto_lsok0 (F : Nat) : LoopsOK Try.prog (impl_SidesInto_LS0 F) (bodyOf Try.f24) := loopsOK_nil
theorem impl_SidesInto_keys : keysOK (bodyOf Try.f24) = true := by kernel_rfl
def impl_SidesInto_st5 (b6 : List Int) (t105 : Int) (out7 : List Int) : St := ⟨expand 23 0 [1, 4, 10] [(.ptr 0 0 0 16), (.sl 1 0 (List.length out7)), (.int .i64 t105)], [(.var 16 (.ri .i64 b6)), (.vec 3 (.ri .i64 out7))], 0, []⟩
def impl_SidesInto_o5 (b6 : List Int) (x : List Int) : GT := (.out (.exit 0 ⟨expand 23 0 [4] [(.sl 0 0 (List.length x))], [(.vec 3 (.ri .i64 x))], 0, []⟩))
def impl_SidesInto_ls5 (F : Nat) : LoopS := ⟨23, [1, 4, 10], [], [4], [], [2, 3], [], [], fun vals mem np killed => match vals, mem, np, killed with
  | [(.ptr 0 0 0 16), (.sl 1 0 q_out4), (.int .i64 t105)], [(.var 16 (.ri .i64 b6)), (.vec 3 (.ri .i64 out7))], 0, [] => .br ((Nat.beq q_out4 (List.length out7)) && (impl_SidesInto_l5 F b6 t105 out7).isSome) (impl_SidesInto_o5 b6 ((impl_SidesInto_l5 F b6 t105 out7).getD default)) .fail
  | _, _, _, _ => .fail⟩
theorem impl_SidesInto_step5 (F : Nat) (b6 : List Int) (t105 : Int) (out7 : List Int) {R : Type} (k : Out → Option R) : stepS tt (impl_SidesInto_tab F) (impl_SidesInto_LS0 F) 70 (impl_SidesInto_ls5 F) (loopAt 5 (bodyOf Try.f24)) (impl_SidesInto_st5 b6 t105 out7) k = impl_SidesInto_s5 F b6 R (t105, out7) (fun s => k (.norm (impl_SidesInto_st5 b6 s.1 s.2))) (fun x => (impl_SidesInto_o5 b6 x).run k) := by kernel_rfl
theorem impl_SidesInto_iter5 (F : Nat) (b6 : List Int) {R : Type} (k : Out → Option R) : ∀ (n : Nat) (t105 : Int) (out7 : List Int), iterS tt (impl_SidesInto_tab F) (impl_SidesInto_LS0 F) 70 (impl_SidesInto_ls5 F) (loopAt 5 (bodyOf Try.f24)) n (impl_SidesInto_st5 b6 t105 out7) k = loopC (impl_SidesInto_s5 F b6) n (t105, out7) (fun x => (impl_SidesInto_o5 b6 x).run k)
  | 0, t105, out7 => rfl
  | n + 1, t105, out7 => (iterS_succ tt (impl_SidesInto_tab F) (impl_SidesInto_LS0 F) 70 (impl_SidesInto_ls5 F) (loopAt 5 (bodyOf Try.f24)) n (impl_SidesInto_st5 b6 t105 out7) k).trans ((impl_SidesInto_step5 F b6 t105 out7 (nextK (iterS tt (impl_SidesInto_tab F) (impl_SidesInto_LS0 F) 70 (impl_SidesInto_ls5 F) (loopAt 5 (bodyOf Try.f24)) n) k)).trans (congrArg (fun kn => impl_SidesInto_s5 F b6 R (t105, out7) kn _) (funext (fun ⟨t105, out7⟩ => impl_SidesInto_iter5 F b6 k n t105 out7))))
theorem impl_SidesInto_lok5 (F : Nat) : LoopOK Try.prog (loopAt 5 (bodyOf Try.f24)) (impl_SidesInto_ls5 F) := by
  refine loopOK_of mixed ttok deep (impl_SidesInto_tabok F) (loopsOK_at (impl_SidesInto_lsok0 F) 5) (fuel := 70) fun R vals mem np killed k x h => ?_
  simp only [impl_SidesInto_ls5] at h
  split at h
  · rename_i q_out4 t105 b6 out7
    simp only [GT.run] at h
    have hc := (cond_noneL h).1
    replace h := (cond_noneL h).2
    have hg := (and_split hc).1
    replace hc := (and_split hc).2
    obtain rfl := nbeq_nat hg
    refine ⟨F, (impl_SidesInto_iter5 F b6 k F t105 out7).trans ((loopC_use (impl_SidesInto_s5_nat F b6) hc _).trans h)⟩
  · simp only [GT.run] at h
    cases h
noncomputable def impl_SidesInto_LS1 (F : Nat) : LT := (5, impl_SidesInto_ls5 F) :: impl_SidesInto_LS0 F
theorem impl_SidesInto_lsok1 (F : Nat) : LoopsOK Try.prog (impl_SidesInto_LS1 F) (bodyOf Try.f24) := loopsOK_cons impl_SidesInto_keys (impl_SidesInto_lok5 F) (impl_SidesInto_lsok0 F)
theorem impl_SidesInto_run (F : Nat) (b0 : List Int) : runS tt (impl_SidesInto_tab F) (impl_SidesInto_LS1 F) [⟨2, 3, (.ri .i64 ([] : List Int))⟩] [] Try.f24 (bodyOf Try.f24) 70 [(.ints 16 b0)] [] = impl_SidesInto_c _ F b0 (fun r => some ⟨(.tup [(.sl 0 0 (List.length r.2)), (.bool r.1)]), [(.vec 3 (.ri .i64 r.2))], []⟩) := by kernel_rfl
def impl_SidesInto_ent (F : Nat) : Ent := ⟨[], .fresh, fun args mem => match args, mem with
  | [(.ints 16 b0)], [] => some ((impl_SidesInto_p F b0).isSome, ⟨(.tup [(.sl 0 0 (List.length ((impl_SidesInto_p F b0).getD default).2)), (.bool ((impl_SidesInto_p F b0).getD default).1)]), [(.vec 3 (.ri .i64 ((impl_SidesInto_p F b0).getD default).2))], []⟩)
  | _, _ => none⟩
theorem impl_SidesInto_fok : FunOK Try.prog 24 := funOK Try.func24 (by kernel_rfl) rfl
theorem impl_SidesInto_meets (F : Nat) : Meets Try.prog 24 (impl_SidesInto_ent F) := by
  refine meets_of_runS mixed ttok deep (impl_SidesInto_tabok F) Try.func24 (body_some rfl) (impl_SidesInto_lsok1 F) fun args mem hfit ret h => ?_
  clear hfit
  simp only [impl_SidesInto_ent] at h
  split at h
  · rename_i b0
    simp only [Option.some.injEq, Prod.mk.injEq] at h
    obtain ⟨hc, rfl⟩ := h
    exact ⟨[⟨2, 3, (.ri .i64 ([] : List Int))⟩], [], 70, _, (impl_SidesInto_run F b0).trans ((impl_SidesInto_cp _ F b0 _).trans (bind_use hc _)), rfl, rfl, rfl⟩
  · cases h

/-! loop.example/g01194/impl.IsMade -/
noncomputable def impl_IsMade_tab (F : Nat) : Tab := [(24, (impl_SidesInto_ent F))]
theorem impl_IsMade_tabok (F : Nat) : TabOK Try.prog (impl_IsMade_tab F) := (tab_cons (impl_SidesInto_meets F) impl_SidesInto_fok tab_nil)
noncomputable def impl_IsMade_LS0 (F : Nat) : LT := []
theorem impl_IsMade_lsok0 (F : Nat) : LoopsOK Try.prog (impl_IsMade_LS0 F) (bodyOf Try.f20) := loopsOK_nil
theorem impl_IsMade_run (F : Nat) (b0 : List Int) : runS tt (impl_IsMade_tab F) (impl_IsMade_LS0 F) [] [] Try.f20 (bodyOf Try.f20) 70 [(.ints 16 b0)] [] = impl_IsMade_c _ F b0 (fun r => some ⟨(.tup [(.bool r.1), (.bool r.2)]), [], []⟩) := by kernel_rfl
def impl_IsMade_ent (F : Nat) : Ent := ⟨[], .quiet, fun args mem => match args, mem with
  | [(.ints 16 b0)], [] => some ((impl_IsMade_p F b0).isSome, ⟨(.tup [(.bool ((impl_IsMade_p F b0).getD default).1), (.bool ((impl_IsMade_p F b0).getD default).2)]), [], []⟩)
  | _, _ => none⟩
theorem impl_IsMade_fok : FunOK Try.prog 20 := funOK Try.func20 (by kernel_rfl) rfl
theorem impl_IsMade_meets (F : Nat) : Meets Try.prog 20 (impl_IsMade_ent F) := by
  refine meets_of_runS mixed ttok deep (impl_IsMade_tabok F) Try.func20 (body_some rfl) (impl_IsMade_lsok0 F) fun args mem hfit ret h => ?_
  clear hfit
  simp only [impl_IsMade_ent] at h
  split at h
  · rename_i b0
    simp only [Option.some.injEq, Prod.mk.injEq] at h
    obtain ⟨hc, rfl⟩ := h
    exact ⟨[], [], 70, _, (impl_IsMade_run F b0).trans ((impl_IsMade_cp _ F b0 _).trans (bind_use hc _)), rfl, rfl, rfl⟩
  · cases h

/-! loop.example/g01194/laws.FnExactIsMade -/
noncomputable def laws_FnExactIsMade_tab (F : Nat) : Tab := [(14, (laws_toBoard_ent F)), (19, (spec_IsMade_ent F)), (20, (impl_IsMade_ent F))]
theorem laws_FnExactIsMade_tabok (F : Nat) : TabOK Try.prog (laws_FnExactIsMade_tab F) := (tab_cons (laws_toBoard_meets F) laws_toBoard_fok (tab_cons (spec_IsMade_meets F) spec_IsMade_fok (tab_cons (impl_IsMade_meets F) impl_IsMade_fok tab_nil)))
noncomputable def laws_FnExactIsMade_LS0 (F : Nat) : LT := []
theorem laws_FnExactIsMade_lsok0 (F : Nat) : LoopsOK Try.prog (laws_FnExactIsMade_LS0 F) (bodyOf Try.f5) := loopsOK_nil
theorem laws_FnExactIsMade_run (F : Nat) (aB0 : List Int) : runS tt (laws_FnExactIsMade_tab F) (laws_FnExactIsMade_LS0 F) [] [] Try.f5 (bodyOf Try.f5) 70 [(.ints 16 aB0)] [] = laws_FnExactIsMade_c _ F aB0 (fun r => some ⟨(.bool r), [], []⟩) := by kernel_rfl
def laws_FnExactIsMade_ent (F : Nat) : Ent := ⟨[], .quiet, fun args mem => match args, mem with
  | [(.ints 16 aB0)], [] => some ((laws_FnExactIsMade_p F aB0).isSome, ⟨(.bool ((laws_FnExactIsMade_p F aB0).getD default)), [], []⟩)
  | _, _ => none⟩
theorem laws_FnExactIsMade_fok : FunOK Try.prog 5 := funOK Try.func5 (by kernel_rfl) rfl
theorem laws_FnExactIsMade_meets (F : Nat) : Meets Try.prog 5 (laws_FnExactIsMade_ent F) := by
  refine meets_of_runS mixed ttok deep (laws_FnExactIsMade_tabok F) Try.func5 (body_some rfl) (laws_FnExactIsMade_lsok0 F) fun args mem hfit ret h => ?_
  clear hfit
  simp only [laws_FnExactIsMade_ent] at h
  split at h
  · rename_i aB0
    simp only [Option.some.injEq, Prod.mk.injEq] at h
    obtain ⟨hc, rfl⟩ := h
    exact ⟨[], [], 70, _, (laws_FnExactIsMade_run F aB0).trans ((laws_FnExactIsMade_cp _ F aB0 _).trans (bind_use hc _)), rfl, rfl, rfl⟩
  · cases h

/-! loop.example/g01194/spec.l4Many -/
noncomputable def spec_l4Many_tab (F : Nat) : Tab := []
theorem spec_l4Many_tabok (F : Nat) : TabOK Try.prog (spec_l4Many_tab F) := tab_nil
noncomputable def spec_l4Many_LS0 (F : Nat) : LT := []
theorem spec_l4Many_lsok0 (F : Nat) : LoopsOK Try.prog (spec_l4Many_LS0 F) (bodyOf Try.f55) := loopsOK_nil
theorem spec_l4Many_keys : keysOK (bodyOf Try.f55) = true := by kernel_rfl
def spec_l4Many_st3 (row5 : List Int) (many3 : Int) (k4 : Int) : St := ⟨expand 16 0 [1, 3, 4] [(.ptr 0 0 0 4), (.int .i64 many3), (.int .i64 k4)], [(.var 4 (.ri .i64 row5))], 0, []⟩
def spec_l4Many_o3 (row5 : List Int) (x : Int) : GT := (.out (.exit 0 ⟨expand 16 0 [3] [(.int .i64 x)], [], 0, []⟩))
def spec_l4Many_ls3 (F : Nat) : LoopS := ⟨16, [1, 3, 4], [], [3], [], [2], [], [], fun vals mem np killed => match vals, mem, np, killed with
  | [(.ptr 0 0 0 4), (.int .i64 many3), (.int .i64 k4)], [(.var 4 (.ri .i64 row5))], 0, [] => .br (spec_l4Many_l3 F row5 many3 k4).isSome (spec_l4Many_o3 row5 ((spec_l4Many_l3 F row5 many3 k4).getD default)) .fail
  | _, _, _, _ => .fail⟩
theorem spec_l4Many_step3 (F : Nat) (row5 : List Int) (many3 : Int) (k4 : Int) {R : Type} (k : Out → Option R) : stepS tt (spec_l4Many_tab F) (spec_l4Many_LS0 F) 70 (spec_l4Many_ls3 F) (loopAt 3 (bodyOf Try.f55)) (spec_l4Many_st3 row5 many3 k4) k = spec_l4Many_s3 F row5 R (many3, k4) (fun s => k (.norm (spec_l4Many_st3 row5 s.1 s.2))) (fun x => (spec_l4Many_o3 row5 x).run k) := by kernel_rfl
theorem spec_l4Many_iter3 (F : Nat) (row5 : List Int) {R : Type} (k : Out → Option R) : ∀ (n : Nat) (many3 : Int) (k4 : Int), iterS tt (spec_l4Many_tab F) (spec_l4Many_LS0 F) 70 (spec_l4Many_ls3 F) (loopAt 3 (bodyOf Try.f55)) n (spec_l4Many_st3 row5 many3 k4) k = loopC (spec_l4Many_s3 F row5) n (many3, k4) (fun x => (spec_l4Many_o3 row5 x).run k)
  | 0, many3, k4 => rfl
  | n + 1, many3, k4 => (iterS_succ tt (spec_l4Many_tab F) (spec_l4Many_LS0 F) 70 (spec_l4Many_ls3 F) (loopAt 3 (bodyOf Try.f55)) n (spec_l4Many_st3 row5 many3 k4) k).trans ((spec_l4Many_step3 F row5 many3 k4 (nextK (iterS tt (spec_l4Many_tab F) (spec_l4Many_LS0 F) 70 (spec_l4Many_ls3 F) (loopAt 3 (bodyOf Try.f55)) n) k)).trans (congrArg (fun kn => spec_l4Many_s3 F row5 R (many3, k4) kn _) (funext (fun ⟨many3, k4⟩ => spec_l4Many_iter3 F row5 k n many3 k4))))
theorem spec_l4Many_lok3 (F : Nat) : LoopOK Try.prog (loopAt 3 (bodyOf Try.f55)) (spec_l4Many_ls3 F) := by
  refine loopOK_of mixed ttok deep (spec_l4Many_tabok F) (loopsOK_at (spec_l4Many_lsok0 F) 3) (fuel := 70) fun R vals mem np killed k x h => ?_
  simp only [spec_l4Many_ls3] at h
  split at h
  · rename_i many3 k4 row5
    simp only [GT.run] at h
    have hc := (cond_noneL h).1
    replace h := (cond_noneL h).2
    refine ⟨F, (spec_l4Many_iter3 F row5 k F many3 k4).trans ((loopC_use (spec_l4Many_s3_nat F row5) hc _).trans h)⟩
  · simp only [GT.run] at h
    cases h
noncomputable def spec_l4Many_LS1 (F : Nat) : LT := (3, spec_l4Many_ls3 F) :: spec_l4Many_LS0 F
theorem spec_l4Many_lsok1 (F : Nat) : LoopsOK Try.prog (spec_l4Many_LS1 F) (bodyOf Try.f55) := loopsOK_cons spec_l4Many_keys (spec_l4Many_lok3 F) (spec_l4Many_lsok0 F)
theorem spec_l4Many_run (F : Nat) (row0 : List Int) : runS tt (spec_l4Many_tab F) (spec_l4Many_LS1 F) [] [] Try.f55 (bodyOf Try.f55) 70 [(.ints 4 row0)] [] = spec_l4Many_c _ F row0 (fun r => some ⟨(.int .i64 r), [], []⟩) := by kernel_rfl
def spec_l4Many_ent (F : Nat) : Ent := ⟨[], .quiet, fun args mem => match args, mem with
  | [(.ints 4 row0)], [] => some ((spec_l4Many_p F row0).isSome, ⟨(.int .i64 ((spec_l4Many_p F row0).getD default)), [], []⟩)
  | _, _ => none⟩
theorem spec_l4Many_fok : FunOK Try.prog 55 := funOK Try.func55 (by kernel_rfl) rfl
theorem spec_l4Many_meets (F : Nat) : Meets Try.prog 55 (spec_l4Many_ent F) := by
  refine meets_of_runS mixed ttok deep (spec_l4Many_tabok F) Try.func55 (body_some rfl) (spec_l4Many_lsok1 F) fun args mem hfit ret h => ?_
  clear hfit
  simp only [spec_l4Many_ent] at h
  split at h
  · rename_i row0
    simp only [Option.some.injEq, Prod.mk.injEq] at h
    obtain ⟨hc, rfl⟩ := h
    exact ⟨[], [], 70, _, (spec_l4Many_run F row0).trans ((spec_l4Many_cp _ F row0 _).trans (bind_use hc _)), rfl, rfl, rfl⟩
  · cases h

/-! loop.example/g01194/spec.l1Most -/
noncomputable def spec_l1Most_tab (F : Nat) : Tab := []
theorem spec_l1Most_tabok (F : Nat) : TabOK Try.prog (spec_l1Most_tab F) := tab_nil
noncomputable def spec_l1Most_LS0 (F : Nat) : LT := []
theorem spec_l1Most_lsok0 (F : Nat) : LoopsOK Try.prog (spec_l1Most_LS0 F) (bodyOf Try.f54) := loopsOK_nil
theorem spec_l1Most_run (F : Nat) (a0 : Int) (b1 : Int) : runS tt (spec_l1Most_tab F) (spec_l1Most_LS0 F) [] [] Try.f54 (bodyOf Try.f54) 70 [(.int .i64 a0), (.int .i64 b1)] [] = spec_l1Most_c _ a0 b1 (fun r => some ⟨(.int .i64 r), [], []⟩) := by kernel_rfl
def spec_l1Most_ent (F : Nat) : Ent := ⟨[], .quiet, fun args mem => match args, mem with
  | [(.int .i64 a0), (.int .i64 b1)], [] => some (true, ⟨(.int .i64 (spec_l1Most_v a0 b1)), [], []⟩)
  | _, _ => none⟩
theorem spec_l1Most_fok : FunOK Try.prog 54 := funOK Try.func54 (by kernel_rfl) rfl
theorem spec_l1Most_meets (F : Nat) : Meets Try.prog 54 (spec_l1Most_ent F) := by
  refine meets_of_runS mixed ttok deep (spec_l1Most_tabok F) Try.func54 (body_some rfl) (spec_l1Most_lsok0 F) fun args mem hfit ret h => ?_
  clear hfit
  simp only [spec_l1Most_ent] at h
  split at h
  · rename_i a0 b1
    simp only [Option.some.injEq, Prod.mk.injEq] at h
    obtain ⟨hc, rfl⟩ := h
    exact ⟨[], [], 70, _, (spec_l1Most_run F a0 b1).trans (spec_l1Most_cv _ a0 b1 _), rfl, rfl, rfl⟩
  · cases h

/-! loop.example/g01194/spec.MostBefore -/
noncomputable def spec_MostBefore_tab (F : Nat) : Tab := [(45, (spec_l2Board_ent F)), (46, (spec_l2Side_ent F)), (47, (spec_l6Count_ent F)), (53, (spec_l6Lists_ent F)), (55, (spec_l4Many_ent F)), (54, (spec_l1Most_ent F))]
theorem spec_MostBefore_tabok (F : Nat) : TabOK Try.prog (spec_MostBefore_tab F) := (tab_cons (spec_l2Board_meets F) spec_l2Board_fok (tab_cons (spec_l2Side_meets F) spec_l2Side_fok (tab_cons (spec_l6Count_meets F) spec_l6Count_fok (tab_cons (spec_l6Lists_meets F) spec_l6Lists_fok (tab_cons (spec_l4Many_meets F) spec_l4Many_fok (tab_cons (spec_l1Most_meets F) spec_l1Most_fok tab_nil))))))
noncomputable def spec_MostBefore_LS0 (F : Nat) : LT := []
theorem spec_MostBefore_lsok0 (F : Nat) : LoopsOK Try.prog (spec_MostBefore_LS0 F) (bodyOf Try.f21) := loopsOK_nil
theorem spec_MostBefore_keys : keysOK (bodyOf Try.f21) = true := by kernel_rfl
def spec_MostBefore_st9 (sum0 : Int) (i4 : Int) (lists7 : List (List Int)) (lists8 : List (List Int)) (lists9 : List (List Int)) (lists10 : List (List Int)) (most5 : Int) (k6 : Int) : St := ⟨expand 53 0 [6, 7, 8, 9, 10] [(.int .i64 sum0), (.ptr 0 0 0 4), (.int .i64 i4), (.int .i64 most5), (.int .i64 k6)], [(.var 4 (.rv [(.rr 4 lists7), (.rr 4 lists8), (.rr 4 lists9), (.rr 4 lists10)]))], 0, []⟩
def spec_MostBefore_o9 (sum0 : Int) (i4 : Int) (lists7 : List (List Int)) (lists8 : List (List Int)) (lists9 : List (List Int)) (lists10 : List (List Int)) (x : Int) : GT := (.out (.exit 2 ⟨expand 53 0 [6, 7, 8, 9] [(.int .i64 sum0), (.ptr 0 0 0 4), (.int .i64 i4), (.int .i64 x)], [(.var 4 (.rv [(.rr 4 lists7), (.rr 4 lists8), (.rr 4 lists9), (.rr 4 lists10)]))], 0, []⟩))
def spec_MostBefore_ls9 (F : Nat) : LoopS := ⟨53, [6, 7, 8, 9, 10], [], [6, 7, 8, 9], [], [4, 5], [], [], fun vals mem np killed => match vals, mem, np, killed with
  | [(.int .i64 sum0), (.ptr 0 0 0 4), (.int .i64 i4), (.int .i64 most5), (.int .i64 k6)], [(.var 4 (.rv [(.rr 4 lists7), (.rr 4 lists8), (.rr 4 lists9), (.rr 4 lists10)]))], 0, [] => .br (spec_MostBefore_l9 F sum0 i4 lists7 lists8 lists9 lists10 most5 k6).isSome (spec_MostBefore_o9 sum0 i4 lists7 lists8 lists9 lists10 ((spec_MostBefore_l9 F sum0 i4 lists7 lists8 lists9 lists10 most5 k6).getD default)) .fail
  | _, _, _, _ => .fail⟩
theorem spec_MostBefore_step9 (F : Nat) (sum0 : Int) (i4 : Int) (lists7 : List (List Int)) (lists8 : List (List Int)) (lists9 : List (List Int)) (lists10 : List (List Int)) (most5 : Int) (k6 : Int) {R : Type} (k : Out → Option R) : stepS tt (spec_MostBefore_tab F) (spec_MostBefore_LS0 F) 70 (spec_MostBefore_ls9 F) (loopAt 9 (bodyOf Try.f21)) (spec_MostBefore_st9 sum0 i4 lists7 lists8 lists9 lists10 most5 k6) k = spec_MostBefore_s9 F sum0 i4 lists7 lists8 lists9 lists10 R (most5, k6) (fun s => k (.norm (spec_MostBefore_st9 sum0 i4 lists7 lists8 lists9 lists10 s.1 s.2))) (fun x => (spec_MostBefore_o9 sum0 i4 lists7 lists8 lists9 lists10 x).run k) := by kernel_rfl
theorem spec_MostBefore_iter9 (F : Nat) (sum0 : Int) (i4 : Int) (lists7 : List (List Int)) (lists8 : List (List Int)) (lists9 : List (List Int)) (lists10 : List (List Int)) {R : Type} (k : Out → Option R) : ∀ (n : Nat) (most5 : Int) (k6 : Int), iterS tt (spec_MostBefore_tab F) (spec_MostBefore_LS0 F) 70 (spec_MostBefore_ls9 F) (loopAt 9 (bodyOf Try.f21)) n (spec_MostBefore_st9 sum0 i4 lists7 lists8 lists9 lists10 most5 k6) k = loopC (spec_MostBefore_s9 F sum0 i4 lists7 lists8 lists9 lists10) n (most5, k6) (fun x => (spec_MostBefore_o9 sum0 i4 lists7 lists8 lists9 lists10 x).run k)
  | 0, most5, k6 => rfl
  | n + 1, most5, k6 => (iterS_succ tt (spec_MostBefore_tab F) (spec_MostBefore_LS0 F) 70 (spec_MostBefore_ls9 F) (loopAt 9 (bodyOf Try.f21)) n (spec_MostBefore_st9 sum0 i4 lists7 lists8 lists9 lists10 most5 k6) k).trans ((spec_MostBefore_step9 F sum0 i4 lists7 lists8 lists9 lists10 most5 k6 (nextK (iterS tt (spec_MostBefore_tab F) (spec_MostBefore_LS0 F) 70 (spec_MostBefore_ls9 F) (loopAt 9 (bodyOf Try.f21)) n) k)).trans (congrArg (fun kn => spec_MostBefore_s9 F sum0 i4 lists7 lists8 lists9 lists10 R (most5, k6) kn _) (funext (fun ⟨most5, k6⟩ => spec_MostBefore_iter9 F sum0 i4 lists7 lists8 lists9 lists10 k n most5 k6))))
theorem spec_MostBefore_lok9 (F : Nat) : LoopOK Try.prog (loopAt 9 (bodyOf Try.f21)) (spec_MostBefore_ls9 F) := by
  refine loopOK_of mixed ttok deep (spec_MostBefore_tabok F) (loopsOK_at (spec_MostBefore_lsok0 F) 9) (fuel := 70) fun R vals mem np killed k x h => ?_
  simp only [spec_MostBefore_ls9] at h
  split at h
  · rename_i sum0 i4 most5 k6 lists7 lists8 lists9 lists10
    simp only [GT.run] at h
    have hc := (cond_noneL h).1
    replace h := (cond_noneL h).2
    refine ⟨F, (spec_MostBefore_iter9 F sum0 i4 lists7 lists8 lists9 lists10 k F most5 k6).trans ((loopC_use (spec_MostBefore_s9_nat F sum0 i4 lists7 lists8 lists9 lists10) hc _).trans h)⟩
  · simp only [GT.run] at h
    cases h
noncomputable def spec_MostBefore_LS1 (F : Nat) : LT := (9, spec_MostBefore_ls9 F) :: spec_MostBefore_LS0 F
theorem spec_MostBefore_lsok1 (F : Nat) : LoopsOK Try.prog (spec_MostBefore_LS1 F) (bodyOf Try.f21) := loopsOK_cons spec_MostBefore_keys (spec_MostBefore_lok9 F) (spec_MostBefore_lsok0 F)
def spec_MostBefore_st5 (lists5 : List (List Int)) (lists6 : List (List Int)) (lists7 : List (List Int)) (lists8 : List (List Int)) (sum0 : Int) (i4 : Int) : St := ⟨expand 53 0 [6, 7, 8] [(.int .i64 sum0), (.ptr 0 0 0 4), (.int .i64 i4)], [(.var 4 (.rv [(.rr 4 lists5), (.rr 4 lists6), (.rr 4 lists7), (.rr 4 lists8)]))], 0, []⟩
def spec_MostBefore_o5 (lists5 : List (List Int)) (lists6 : List (List Int)) (lists7 : List (List Int)) (lists8 : List (List Int)) (x : Int) : GT := (.out (.exit 0 ⟨expand 53 0 [6] [(.int .i64 x)], [], 0, []⟩))
def spec_MostBefore_ls5 (F : Nat) : LoopS := ⟨53, [6, 7, 8], [], [6], [], [4, 5], [], [], fun vals mem np killed => match vals, mem, np, killed with
  | [(.int .i64 sum0), (.ptr 0 0 0 4), (.int .i64 i4)], [(.var 4 (.rv [(.rr 4 lists5), (.rr 4 lists6), (.rr 4 lists7), (.rr 4 lists8)]))], 0, [] => .br (spec_MostBefore_l5 F lists5 lists6 lists7 lists8 sum0 i4).isSome (spec_MostBefore_o5 lists5 lists6 lists7 lists8 ((spec_MostBefore_l5 F lists5 lists6 lists7 lists8 sum0 i4).getD default)) .fail
  | _, _, _, _ => .fail⟩
theorem spec_MostBefore_step5 (F : Nat) (lists5 : List (List Int)) (lists6 : List (List Int)) (lists7 : List (List Int)) (lists8 : List (List Int)) (sum0 : Int) (i4 : Int) {R : Type} (k : Out → Option R) : stepS tt (spec_MostBefore_tab F) (spec_MostBefore_LS1 F) 70 (spec_MostBefore_ls5 F) (loopAt 5 (bodyOf Try.f21)) (spec_MostBefore_st5 lists5 lists6 lists7 lists8 sum0 i4) k = spec_MostBefore_s5 F lists5 lists6 lists7 lists8 R (sum0, i4) (fun s => k (.norm (spec_MostBefore_st5 lists5 lists6 lists7 lists8 s.1 s.2))) (fun x => (spec_MostBefore_o5 lists5 lists6 lists7 lists8 x).run k) := by kernel_rfl
theorem spec_MostBefore_iter5 (F : Nat) (lists5 : List (List Int)) (lists6 : List (List Int)) (lists7 : List (List Int)) (lists8 : List (List Int)) {R : Type} (k : Out → Option R) : ∀ (n : Nat) (sum0 : Int) (i4 : Int), iterS tt (spec_MostBefore_tab F) (spec_MostBefore_LS1 F) 70 (spec_MostBefore_ls5 F) (loopAt 5 (bodyOf Try.f21)) n (spec_MostBefore_st5 lists5 lists6 lists7 lists8 sum0 i4) k = loopC (spec_MostBefore_s5 F lists5 lists6 lists7 lists8) n (sum0, i4) (fun x => (spec_MostBefore_o5 lists5 lists6 lists7 lists8 x).run k)
  | 0, sum0, i4 => rfl
  | n + 1, sum0, i4 => (iterS_succ tt (spec_MostBefore_tab F) (spec_MostBefore_LS1 F) 70 (spec_MostBefore_ls5 F) (loopAt 5 (bodyOf Try.f21)) n (spec_MostBefore_st5 lists5 lists6 lists7 lists8 sum0 i4) k).trans ((spec_MostBefore_step5 F lists5 lists6 lists7 lists8 sum0 i4 (nextK (iterS tt (spec_MostBefore_tab F) (spec_MostBefore_LS1 F) 70 (spec_MostBefore_ls5 F) (loopAt 5 (bodyOf Try.f21)) n) k)).trans (congrArg (fun kn => spec_MostBefore_s5 F lists5 lists6 lists7 lists8 R (sum0, i4) kn _) (funext (fun ⟨sum0, i4⟩ => spec_MostBefore_iter5 F lists5 lists6 lists7 lists8 k n sum0 i4))))
theorem spec_MostBefore_lok5 (F : Nat) : LoopOK Try.prog (loopAt 5 (bodyOf Try.f21)) (spec_MostBefore_ls5 F) := by
  refine loopOK_of mixed ttok deep (spec_MostBefore_tabok F) (loopsOK_at (spec_MostBefore_lsok1 F) 5) (fuel := 70) fun R vals mem np killed k x h => ?_
  simp only [spec_MostBefore_ls5] at h
  split at h
  · rename_i sum0 i4 lists5 lists6 lists7 lists8
    simp only [GT.run] at h
    have hc := (cond_noneL h).1
    replace h := (cond_noneL h).2
    refine ⟨F, (spec_MostBefore_iter5 F lists5 lists6 lists7 lists8 k F sum0 i4).trans ((loopC_use (spec_MostBefore_s5_nat F lists5 lists6 lists7 lists8) hc _).trans h)⟩
  · simp only [GT.run] at h
    cases h
noncomputable def spec_MostBefore_LS2 (F : Nat) : LT := (5, spec_MostBefore_ls5 F) :: spec_MostBefore_LS1 F
theorem spec_MostBefore_lsok2 (F : Nat) : LoopsOK Try.prog (spec_MostBefore_LS2 F) (bodyOf Try.f21) := loopsOK_cons spec_MostBefore_keys (spec_MostBefore_lok5 F) (spec_MostBefore_lsok1 F)
theorem spec_MostBefore_run (F : Nat) (b0 : List Int) (direction1 : Int) : runS tt (spec_MostBefore_tab F) (spec_MostBefore_LS2 F) [] [] Try.f21 (bodyOf Try.f21) 70 [(.ints 16 b0), (.int .i64 direction1)] [] = spec_MostBefore_c _ F b0 direction1 (fun r => some ⟨(.tup [(.int .i64 r.1), (.bool r.2)]), [], []⟩) := by kernel_rfl
def spec_MostBefore_ent (F : Nat) : Ent := ⟨[], .quiet, fun args mem => match args, mem with
  | [(.ints 16 b0), (.int .i64 direction1)], [] => some ((spec_MostBefore_p F b0 direction1).isSome, ⟨(.tup [(.int .i64 ((spec_MostBefore_p F b0 direction1).getD default).1), (.bool ((spec_MostBefore_p F b0 direction1).getD default).2)]), [], []⟩)
  | _, _ => none⟩
theorem spec_MostBefore_fok : FunOK Try.prog 21 := funOK Try.func21 (by kernel_rfl) rfl
theorem spec_MostBefore_meets (F : Nat) : Meets Try.prog 21 (spec_MostBefore_ent F) := by
  refine meets_of_runS mixed ttok deep (spec_MostBefore_tabok F) Try.func21 (body_some rfl) (spec_MostBefore_lsok2 F) fun args mem hfit ret h => ?_
  clear hfit
  simp only [spec_MostBefore_ent] at h
  split at h
  · rename_i b0 direction1
    simp only [Option.some.injEq, Prod.mk.injEq] at h
    obtain ⟨hc, rfl⟩ := h
    exact ⟨[], [], 70, _, (spec_MostBefore_run F b0 direction1).trans ((spec_MostBefore_cp _ F b0 direction1 _).trans (bind_use hc _)), rfl, rfl, rfl⟩
  · cases h
end Go.Proofs.Ytgmnclpjbhmioaa
