/-
Pure functions and what the code of them does, by program; without conditions.
-/
import Derived.Test.YtmdicfifhppjaaaTAP5
import Derived.Test.YtmdicfifhppjaaaTAS4
namespace Go.Proofs.Ytmdicfifhppjaaa
open Go Go.Lv Go.Lv.P Go.Proofs
set_option linter.unusedVariables false
set_option linter.unusedSimpArgs false
set_option maxRecDepth 100000
/-! slices.IsSorted[[]int,int] -/
noncomputable def slices_IsSorted_intint_tab (F : Nat) : Tab := [(110, (cmp_Less_int_ent F))]
theorem slices_IsSorted_intint_tabok (F : Nat) : TabOK Try.prog (slices_IsSorted_intint_tab F) := (tab_cons (cmp_Less_int_meets F) cmp_Less_int_fok tab_nil)
noncomputable def slices_IsSorted_intint_LS0 (F : Nat) : LT := []
theorem slices_IsSorted_intint_lsok0 (F : Nat) : LoopsOK Try.prog (slices_IsSorted_intint_LS0 F) (bodyOf Try.f89) := loopsOK_nil
theorem slices_IsSorted_intint_keys : keysOK (bodyOf Try.f89) = true := by kernel_rfl
def slices_IsSorted_intint_st2 (x0 : List Int) (i1 : Int) : St := ⟨expand 21 0 [0, 3] [(.ri .i64 x0), (.int .i64 i1)], [], 0, []⟩
def slices_IsSorted_intint_o2 (x0 : List Int) (x : Bool) : GT := (.br x (.out (.ret ⟨expand 21 0 [2] [(.bool false)], [], 0, []⟩)) (.out (.exit 0 ⟨expand 21 0 [] [], [], 0, []⟩)))
def slices_IsSorted_intint_ls2 (F : Nat) : LoopS := ⟨21, [0, 3], [], [], [], [2], [], [], fun vals mem np killed => match vals, mem, np, killed with
  | [(.ri .i64 x0), (.int .i64 i1)], [], 0, [] => .br (slices_IsSorted_intint_l2 F x0 i1).isSome (slices_IsSorted_intint_o2 x0 ((slices_IsSorted_intint_l2 F x0 i1).getD default)) .fail
  | _, _, _, _ => .fail⟩
theorem slices_IsSorted_intint_step2 (F : Nat) (x0 : List Int) (i1 : Int) {R : Type} (k : Out → Option R) : stepS tt (slices_IsSorted_intint_tab F) (slices_IsSorted_intint_LS0 F) 70 (slices_IsSorted_intint_ls2 F) (loopAt 2 (bodyOf Try.f89)) (slices_IsSorted_intint_st2 x0 i1) k = slices_IsSorted_intint_s2 F x0 R i1 (fun s => k (.norm (slices_IsSorted_intint_st2 x0 s))) (fun x => (slices_IsSorted_intint_o2 x0 x).run k) := by kernel_rfl
theorem slices_IsSorted_intint_iter2 (F : Nat) (x0 : List Int) {R : Type} (k : Out → Option R) : ∀ (n : Nat) (i1 : Int), iterS tt (slices_IsSorted_intint_tab F) (slices_IsSorted_intint_LS0 F) 70 (slices_IsSorted_intint_ls2 F) (loopAt 2 (bodyOf Try.f89)) n (slices_IsSorted_intint_st2 x0 i1) k = loopC (slices_IsSorted_intint_s2 F x0) n i1 (fun x => (slices_IsSorted_intint_o2 x0 x).run k)
  | 0, i1 => rfl
  | n + 1, i1 => (iterS_succ tt (slices_IsSorted_intint_tab F) (slices_IsSorted_intint_LS0 F) 70 (slices_IsSorted_intint_ls2 F) (loopAt 2 (bodyOf Try.f89)) n (slices_IsSorted_intint_st2 x0 i1) k).trans ((slices_IsSorted_intint_step2 F x0 i1 (nextK (iterS tt (slices_IsSorted_intint_tab F) (slices_IsSorted_intint_LS0 F) 70 (slices_IsSorted_intint_ls2 F) (loopAt 2 (bodyOf Try.f89)) n) k)).trans (congrArg (fun kn => slices_IsSorted_intint_s2 F x0 R i1 kn _) (funext (fun i1 => slices_IsSorted_intint_iter2 F x0 k n i1))))
theorem slices_IsSorted_intint_lok2 (F : Nat) : LoopOK Try.prog (loopAt 2 (bodyOf Try.f89)) (slices_IsSorted_intint_ls2 F) := by
  refine loopOK_of mixed ttok deep (slices_IsSorted_intint_tabok F) (loopsOK_at (slices_IsSorted_intint_lsok0 F) 2) (fuel := 70) fun R vals mem np killed k x h => ?_
  simp only [slices_IsSorted_intint_ls2] at h
  split at h
  · rename_i x0 i1
    simp only [GT.run] at h
    have hc := (cond_noneL h).1
    replace h := (cond_noneL h).2
    refine ⟨F, (slices_IsSorted_intint_iter2 F x0 k F i1).trans ((loopC_use (slices_IsSorted_intint_s2_nat F x0) hc _).trans h)⟩
  · simp only [GT.run] at h
    cases h
noncomputable def slices_IsSorted_intint_LS1 (F : Nat) : LT := (2, slices_IsSorted_intint_ls2 F) :: slices_IsSorted_intint_LS0 F
theorem slices_IsSorted_intint_lsok1 (F : Nat) : LoopsOK Try.prog (slices_IsSorted_intint_LS1 F) (bodyOf Try.f89) := loopsOK_cons slices_IsSorted_intint_keys (slices_IsSorted_intint_lok2 F) (slices_IsSorted_intint_lsok0 F)
theorem slices_IsSorted_intint_run (F : Nat) (x0 : List Int) : runS tt (slices_IsSorted_intint_tab F) (slices_IsSorted_intint_LS1 F) [] [] Try.f89 (bodyOf Try.f89) 70 [(.ri .i64 x0)] [] = slices_IsSorted_intint_c _ F x0 (fun r => some ⟨(.bool r), [], []⟩) := by kernel_rfl
def slices_IsSorted_intint_ent (F : Nat) : Ent := ⟨[], .quiet, fun args mem => match args, mem with
  | [(.ri .i64 x0)], [] => some ((slices_IsSorted_intint_p F x0).isSome, ⟨(.bool ((slices_IsSorted_intint_p F x0).getD default)), [], []⟩)
  | _, _ => none⟩
theorem slices_IsSorted_intint_fok : FunOK Try.prog 89 := funOK Try.func89 (by kernel_rfl) rfl
theorem slices_IsSorted_intint_meets (F : Nat) : Meets Try.prog 89 (slices_IsSorted_intint_ent F) := by
  refine meets_of_runS mixed ttok deep (slices_IsSorted_intint_tabok F) Try.func89 (body_some rfl) (slices_IsSorted_intint_lsok1 F) fun args mem hfit ret h => ?_
  clear hfit
  simp only [slices_IsSorted_intint_ent] at h
  split at h
  · rename_i x0
    simp only [Option.some.injEq, Prod.mk.injEq] at h
    obtain ⟨hc, rfl⟩ := h
    exact ⟨[], [], 70, _, (slices_IsSorted_intint_run F x0).trans ((slices_IsSorted_intint_cp _ F x0 _).trans (bind_use hc _)), rfl, rfl, rfl⟩
  · cases h

/-! loop.example/g01194/impl.SnakesOf -/
noncomputable def impl_SnakesOf_tab (F : Nat) : Tab := [(66, (impl_IsBoard_ent F)), (88, (impl_snake_ent F)), (83, (impl_Board_at_ent F)), (89, (slices_IsSorted_intint_ent F))]
theorem impl_SnakesOf_tabok (F : Nat) : TabOK Try.prog (impl_SnakesOf_tab F) := (tab_cons (impl_IsBoard_meets F) impl_IsBoard_fok (tab_cons (impl_snake_meets F) impl_snake_fok (tab_cons (impl_Board_at_meets F) impl_Board_at_fok (tab_cons (slices_IsSorted_intint_meets F) slices_IsSorted_intint_fok tab_nil))))
noncomputable def impl_SnakesOf_LS0 (F : Nat) : LT := []
theorem impl_SnakesOf_lsok0 (F : Nat) : LoopsOK Try.prog (impl_SnakesOf_LS0 F) (bodyOf Try.f48) := loopsOK_nil
theorem impl_SnakesOf_keys : keysOK (bodyOf Try.f48) = true := by kernel_rfl
def impl_SnakesOf_st5 (b6 : List Int) (t135 : Int) (out7 : List Int) : St := ⟨expand 39 0 [1, 4, 13] [(.ptr 0 0 0 16), (.sl 1 0 (List.length out7)), (.int .i64 t135)], [(.var 16 (.ri .i64 b6)), (.vec 3 (.ri .i64 out7))], 0, []⟩
def impl_SnakesOf_o5 (b6 : List Int) (x : List Int) : GT := (.out (.exit 0 ⟨expand 39 0 [4] [(.sl 0 0 (List.length x))], [(.vec 3 (.ri .i64 x))], 0, []⟩))
def impl_SnakesOf_ls5 (F : Nat) : LoopS := ⟨39, [1, 4, 13], [], [4], [], [2, 3], [], [], fun vals mem np killed => match vals, mem, np, killed with
  | [(.ptr 0 0 0 16), (.sl 1 0 q_out4), (.int .i64 t135)], [(.var 16 (.ri .i64 b6)), (.vec 3 (.ri .i64 out7))], 0, [] => .br ((Nat.beq q_out4 (List.length out7)) && (impl_SnakesOf_l5 F b6 t135 out7).isSome) (impl_SnakesOf_o5 b6 ((impl_SnakesOf_l5 F b6 t135 out7).getD default)) .fail
  | _, _, _, _ => .fail⟩
theorem impl_SnakesOf_step5 (F : Nat) (b6 : List Int) (t135 : Int) (out7 : List Int) {R : Type} (k : Out → Option R) : stepS tt (impl_SnakesOf_tab F) (impl_SnakesOf_LS0 F) 70 (impl_SnakesOf_ls5 F) (loopAt 5 (bodyOf Try.f48)) (impl_SnakesOf_st5 b6 t135 out7) k = impl_SnakesOf_s5 F b6 R (t135, out7) (fun s => k (.norm (impl_SnakesOf_st5 b6 s.1 s.2))) (fun x => (impl_SnakesOf_o5 b6 x).run k) := by kernel_rfl
theorem impl_SnakesOf_iter5 (F : Nat) (b6 : List Int) {R : Type} (k : Out → Option R) : ∀ (n : Nat) (t135 : Int) (out7 : List Int), iterS tt (impl_SnakesOf_tab F) (impl_SnakesOf_LS0 F) 70 (impl_SnakesOf_ls5 F) (loopAt 5 (bodyOf Try.f48)) n (impl_SnakesOf_st5 b6 t135 out7) k = loopC (impl_SnakesOf_s5 F b6) n (t135, out7) (fun x => (impl_SnakesOf_o5 b6 x).run k)
  | 0, t135, out7 => rfl
  | n + 1, t135, out7 => (iterS_succ tt (impl_SnakesOf_tab F) (impl_SnakesOf_LS0 F) 70 (impl_SnakesOf_ls5 F) (loopAt 5 (bodyOf Try.f48)) n (impl_SnakesOf_st5 b6 t135 out7) k).trans ((impl_SnakesOf_step5 F b6 t135 out7 (nextK (iterS tt (impl_SnakesOf_tab F) (impl_SnakesOf_LS0 F) 70 (impl_SnakesOf_ls5 F) (loopAt 5 (bodyOf Try.f48)) n) k)).trans (congrArg (fun kn => impl_SnakesOf_s5 F b6 R (t135, out7) kn _) (funext (fun ⟨t135, out7⟩ => impl_SnakesOf_iter5 F b6 k n t135 out7))))
theorem impl_SnakesOf_lok5 (F : Nat) : LoopOK Try.prog (loopAt 5 (bodyOf Try.f48)) (impl_SnakesOf_ls5 F) := by
  refine loopOK_of mixed ttok deep (impl_SnakesOf_tabok F) (loopsOK_at (impl_SnakesOf_lsok0 F) 5) (fuel := 70) fun R vals mem np killed k x h => ?_
  simp only [impl_SnakesOf_ls5] at h
  split at h
  · rename_i q_out4 t135 b6 out7
    simp only [GT.run] at h
    have hc := (cond_noneL h).1
    replace h := (cond_noneL h).2
    have hg := (and_split hc).1
    replace hc := (and_split hc).2
    obtain rfl := nbeq_nat hg
    refine ⟨F, (impl_SnakesOf_iter5 F b6 k F t135 out7).trans ((loopC_use (impl_SnakesOf_s5_nat F b6) hc _).trans h)⟩
  · simp only [GT.run] at h
    cases h
noncomputable def impl_SnakesOf_LS1 (F : Nat) : LT := (5, impl_SnakesOf_ls5 F) :: impl_SnakesOf_LS0 F
theorem impl_SnakesOf_lsok1 (F : Nat) : LoopsOK Try.prog (impl_SnakesOf_LS1 F) (bodyOf Try.f48) := loopsOK_cons impl_SnakesOf_keys (impl_SnakesOf_lok5 F) (impl_SnakesOf_lsok0 F)
theorem impl_SnakesOf_run (F : Nat) (b0 : List Int) : runS tt (impl_SnakesOf_tab F) (impl_SnakesOf_LS1 F) [⟨2, 3, (.ri .i64 ([] : List Int))⟩] [] Try.f48 (bodyOf Try.f48) 70 [(.ints 16 b0)] [] = impl_SnakesOf_c _ F b0 (fun r => some ⟨(.tup [(.sl 0 0 (List.length r.2)), (.bool r.1)]), [(.vec 3 (.ri .i64 r.2))], []⟩) := by kernel_rfl
def impl_SnakesOf_ent (F : Nat) : Ent := ⟨[], .fresh, fun args mem => match args, mem with
  | [(.ints 16 b0)], [] => some ((impl_SnakesOf_p F b0).isSome, ⟨(.tup [(.sl 0 0 (List.length ((impl_SnakesOf_p F b0).getD default).2)), (.bool ((impl_SnakesOf_p F b0).getD default).1)]), [(.vec 3 (.ri .i64 ((impl_SnakesOf_p F b0).getD default).2))], []⟩)
  | _, _ => none⟩
theorem impl_SnakesOf_fok : FunOK Try.prog 48 := funOK Try.func48 (by kernel_rfl) rfl
theorem impl_SnakesOf_meets (F : Nat) : Meets Try.prog 48 (impl_SnakesOf_ent F) := by
  refine meets_of_runS mixed ttok deep (impl_SnakesOf_tabok F) Try.func48 (body_some rfl) (impl_SnakesOf_lsok1 F) fun args mem hfit ret h => ?_
  clear hfit
  simp only [impl_SnakesOf_ent] at h
  split at h
  · rename_i b0
    simp only [Option.some.injEq, Prod.mk.injEq] at h
    obtain ⟨hc, rfl⟩ := h
    exact ⟨[⟨2, 3, (.ri .i64 ([] : List Int))⟩], [], 70, _, (impl_SnakesOf_run F b0).trans ((impl_SnakesOf_cp _ F b0 _).trans (bind_use hc _)), rfl, rfl, rfl⟩
  · cases h

/-! loop.example/g01194/laws.eqIntS -/
noncomputable def laws_eqIntS_tab (F : Nat) : Tab := []
theorem laws_eqIntS_tabok (F : Nat) : TabOK Try.prog (laws_eqIntS_tab F) := tab_nil
noncomputable def laws_eqIntS_LS0 (F : Nat) : LT := []
theorem laws_eqIntS_lsok0 (F : Nat) : LoopsOK Try.prog (laws_eqIntS_LS0 F) (bodyOf Try.f49) := loopsOK_nil
theorem laws_eqIntS_keys : keysOK (bodyOf Try.f49) = true := by kernel_rfl
def laws_eqIntS_st4 (a0 : List Int) (b1 : List Int) (i2 : Int) : St := ⟨expand 26 0 [0, 1, 5] [(.ri .i64 a0), (.ri .i64 b1), (.int .i64 i2)], [], 0, []⟩
def laws_eqIntS_o4 (a0 : List Int) (b1 : List Int) (x : Bool) : GT := (.br x (.out (.ret ⟨expand 26 0 [4] [(.bool false)], [], 0, []⟩)) (.out (.exit 0 ⟨expand 26 0 [] [], [], 0, []⟩)))
def laws_eqIntS_ls4 (F : Nat) : LoopS := ⟨26, [0, 1, 5], [], [], [], [4], [], [], fun vals mem np killed => match vals, mem, np, killed with
  | [(.ri .i64 a0), (.ri .i64 b1), (.int .i64 i2)], [], 0, [] => .br (laws_eqIntS_l4 F a0 b1 i2).isSome (laws_eqIntS_o4 a0 b1 ((laws_eqIntS_l4 F a0 b1 i2).getD default)) .fail
  | _, _, _, _ => .fail⟩
theorem laws_eqIntS_step4 (F : Nat) (a0 : List Int) (b1 : List Int) (i2 : Int) {R : Type} (k : Out → Option R) : stepS tt (laws_eqIntS_tab F) (laws_eqIntS_LS0 F) 70 (laws_eqIntS_ls4 F) (loopAt 4 (bodyOf Try.f49)) (laws_eqIntS_st4 a0 b1 i2) k = laws_eqIntS_s4 F a0 b1 R i2 (fun s => k (.norm (laws_eqIntS_st4 a0 b1 s))) (fun x => (laws_eqIntS_o4 a0 b1 x).run k) := by kernel_rfl
theorem laws_eqIntS_iter4 (F : Nat) (a0 : List Int) (b1 : List Int) {R : Type} (k : Out → Option R) : ∀ (n : Nat) (i2 : Int), iterS tt (laws_eqIntS_tab F) (laws_eqIntS_LS0 F) 70 (laws_eqIntS_ls4 F) (loopAt 4 (bodyOf Try.f49)) n (laws_eqIntS_st4 a0 b1 i2) k = loopC (laws_eqIntS_s4 F a0 b1) n i2 (fun x => (laws_eqIntS_o4 a0 b1 x).run k)
  | 0, i2 => rfl
  | n + 1, i2 => (iterS_succ tt (laws_eqIntS_tab F) (laws_eqIntS_LS0 F) 70 (laws_eqIntS_ls4 F) (loopAt 4 (bodyOf Try.f49)) n (laws_eqIntS_st4 a0 b1 i2) k).trans ((laws_eqIntS_step4 F a0 b1 i2 (nextK (iterS tt (laws_eqIntS_tab F) (laws_eqIntS_LS0 F) 70 (laws_eqIntS_ls4 F) (loopAt 4 (bodyOf Try.f49)) n) k)).trans (congrArg (fun kn => laws_eqIntS_s4 F a0 b1 R i2 kn _) (funext (fun i2 => laws_eqIntS_iter4 F a0 b1 k n i2))))
theorem laws_eqIntS_lok4 (F : Nat) : LoopOK Try.prog (loopAt 4 (bodyOf Try.f49)) (laws_eqIntS_ls4 F) := by
  refine loopOK_of mixed ttok deep (laws_eqIntS_tabok F) (loopsOK_at (laws_eqIntS_lsok0 F) 4) (fuel := 70) fun R vals mem np killed k x h => ?_
  simp only [laws_eqIntS_ls4] at h
  split at h
  · rename_i a0 b1 i2
    simp only [GT.run] at h
    have hc := (cond_noneL h).1
    replace h := (cond_noneL h).2
    refine ⟨F, (laws_eqIntS_iter4 F a0 b1 k F i2).trans ((loopC_use (laws_eqIntS_s4_nat F a0 b1) hc _).trans h)⟩
  · simp only [GT.run] at h
    cases h
noncomputable def laws_eqIntS_LS1 (F : Nat) : LT := (4, laws_eqIntS_ls4 F) :: laws_eqIntS_LS0 F
theorem laws_eqIntS_lsok1 (F : Nat) : LoopsOK Try.prog (laws_eqIntS_LS1 F) (bodyOf Try.f49) := loopsOK_cons laws_eqIntS_keys (laws_eqIntS_lok4 F) (laws_eqIntS_lsok0 F)
theorem laws_eqIntS_run (F : Nat) (a0 : List Int) (b1 : List Int) : runS tt (laws_eqIntS_tab F) (laws_eqIntS_LS1 F) [] [] Try.f49 (bodyOf Try.f49) 70 [(.ri .i64 a0), (.ri .i64 b1)] [] = laws_eqIntS_c _ F a0 b1 (fun r => some ⟨(.bool r), [], []⟩) := by kernel_rfl
def laws_eqIntS_ent (F : Nat) : Ent := ⟨[], .quiet, fun args mem => match args, mem with
  | [(.ri .i64 a0), (.ri .i64 b1)], [] => some ((laws_eqIntS_p F a0 b1).isSome, ⟨(.bool ((laws_eqIntS_p F a0 b1).getD default)), [], []⟩)
  | _, _ => none⟩
theorem laws_eqIntS_fok : FunOK Try.prog 49 := funOK Try.func49 (by kernel_rfl) rfl
theorem laws_eqIntS_meets (F : Nat) : Meets Try.prog 49 (laws_eqIntS_ent F) := by
  refine meets_of_runS mixed ttok deep (laws_eqIntS_tabok F) Try.func49 (body_some rfl) (laws_eqIntS_lsok1 F) fun args mem hfit ret h => ?_
  clear hfit
  simp only [laws_eqIntS_ent] at h
  split at h
  · rename_i a0 b1
    simp only [Option.some.injEq, Prod.mk.injEq] at h
    obtain ⟨hc, rfl⟩ := h
    exact ⟨[], [], 70, _, (laws_eqIntS_run F a0 b1).trans ((laws_eqIntS_cp _ F a0 b1 _).trans (bind_use hc _)), rfl, rfl, rfl⟩
  · cases h

/-! loop.example/g01194/laws.markIntS -/
noncomputable def laws_markIntS_tab (F : Nat) : Tab := []
theorem laws_markIntS_tabok (F : Nat) : TabOK Try.prog (laws_markIntS_tab F) := tab_nil
noncomputable def laws_markIntS_LS0 (F : Nat) : LT := []
theorem laws_markIntS_lsok0 (F : Nat) : LoopsOK Try.prog (laws_markIntS_LS0 F) (bodyOf Try.f50) := loopsOK_nil
theorem laws_markIntS_keys : keysOK (bodyOf Try.f50) = true := by kernel_rfl
def laws_markIntS_st2 (a1 : Nat) (k2 : Int) (i3 : Int) (a4 : List Int) : St := ⟨expand 19 0 [0, 1, 5] [(.sl 0 0 a1), (.int .i64 k2), (.int .i64 i3)], [(.vec 3 (.ri .i64 a4))], 1, []⟩
def laws_markIntS_o2 (a1 : Nat) (x : Int × List Int) : GT := (.out (.exit 0 ⟨expand 19 0 [1] [(.int .i64 x.1)], [(.vec 3 (.ri .i64 x.2))], 1, []⟩))
def laws_markIntS_ls2 (F : Nat) : LoopS := ⟨19, [0, 1, 5], [], [1], [], [4], [], [], fun vals mem np killed => match vals, mem, np, killed with
  | [(.sl 0 0 a1), (.int .i64 k2), (.int .i64 i3)], [(.vec 3 (.ri .i64 a4))], 1, [] => .br (laws_markIntS_l2 F a1 k2 i3 a4).isSome (laws_markIntS_o2 a1 ((laws_markIntS_l2 F a1 k2 i3 a4).getD default)) .fail
  | _, _, _, _ => .fail⟩
theorem laws_markIntS_step2 (F : Nat) (a1 : Nat) (k2 : Int) (i3 : Int) (a4 : List Int) {R : Type} (k : Out → Option R) : stepS tt (laws_markIntS_tab F) (laws_markIntS_LS0 F) 70 (laws_markIntS_ls2 F) (loopAt 2 (bodyOf Try.f50)) (laws_markIntS_st2 a1 k2 i3 a4) k = laws_markIntS_s2 F a1 R (k2, i3, a4) (fun s => k (.norm (laws_markIntS_st2 a1 s.1 s.2.1 s.2.2))) (fun x => (laws_markIntS_o2 a1 x).run k) := by kernel_rfl
theorem laws_markIntS_iter2 (F : Nat) (a1 : Nat) {R : Type} (k : Out → Option R) : ∀ (n : Nat) (k2 : Int) (i3 : Int) (a4 : List Int), iterS tt (laws_markIntS_tab F) (laws_markIntS_LS0 F) 70 (laws_markIntS_ls2 F) (loopAt 2 (bodyOf Try.f50)) n (laws_markIntS_st2 a1 k2 i3 a4) k = loopC (laws_markIntS_s2 F a1) n (k2, i3, a4) (fun x => (laws_markIntS_o2 a1 x).run k)
  | 0, k2, i3, a4 => rfl
  | n + 1, k2, i3, a4 => (iterS_succ tt (laws_markIntS_tab F) (laws_markIntS_LS0 F) 70 (laws_markIntS_ls2 F) (loopAt 2 (bodyOf Try.f50)) n (laws_markIntS_st2 a1 k2 i3 a4) k).trans ((laws_markIntS_step2 F a1 k2 i3 a4 (nextK (iterS tt (laws_markIntS_tab F) (laws_markIntS_LS0 F) 70 (laws_markIntS_ls2 F) (loopAt 2 (bodyOf Try.f50)) n) k)).trans (congrArg (fun kn => laws_markIntS_s2 F a1 R (k2, i3, a4) kn _) (funext (fun ⟨k2, i3, a4⟩ => laws_markIntS_iter2 F a1 k n k2 i3 a4))))
theorem laws_markIntS_lok2 (F : Nat) : LoopOK Try.prog (loopAt 2 (bodyOf Try.f50)) (laws_markIntS_ls2 F) := by
  refine loopOK_of mixed ttok deep (laws_markIntS_tabok F) (loopsOK_at (laws_markIntS_lsok0 F) 2) (fuel := 70) fun R vals mem np killed k x h => ?_
  simp only [laws_markIntS_ls2] at h
  split at h
  · rename_i a1 k2 i3 a4
    simp only [GT.run] at h
    have hc := (cond_noneL h).1
    replace h := (cond_noneL h).2
    refine ⟨F, (laws_markIntS_iter2 F a1 k F k2 i3 a4).trans ((loopC_use (laws_markIntS_s2_nat F a1) hc _).trans h)⟩
  · simp only [GT.run] at h
    cases h
noncomputable def laws_markIntS_LS1 (F : Nat) : LT := (2, laws_markIntS_ls2 F) :: laws_markIntS_LS0 F
theorem laws_markIntS_lsok1 (F : Nat) : LoopsOK Try.prog (laws_markIntS_LS1 F) (bodyOf Try.f50) := loopsOK_cons laws_markIntS_keys (laws_markIntS_lok2 F) (laws_markIntS_lsok0 F)
theorem laws_markIntS_run (F : Nat) (k2 : Int) (a3 : List Int) : runS tt (laws_markIntS_tab F) (laws_markIntS_LS1 F) [] [] Try.f50 (bodyOf Try.f50) 70 [(.sl 0 0 (List.length a3)), (.int .i64 k2)] [(.vec 3 (.ri .i64 a3))] = laws_markIntS_c _ F k2 a3 (fun r => some ⟨(.int .i64 r.1), [(.vec 3 (.ri .i64 r.2))], []⟩) := by kernel_rfl
def laws_markIntS_ent (F : Nat) : Ent := ⟨[true], .loud, fun args mem => match args, mem with
  | [(.sl 0 0 q_a1), (.int .i64 k2)], [(.vec 3 (.ri .i64 a3))] => some (((Nat.beq q_a1 (List.length a3)) && (laws_markIntS_p F k2 a3).isSome), ⟨(.int .i64 ((laws_markIntS_p F k2 a3).getD default).1), [(.vec 3 (.ri .i64 ((laws_markIntS_p F k2 a3).getD default).2))], []⟩)
  | _, _ => none⟩
theorem laws_markIntS_fok : FunOK Try.prog 50 := funOK Try.func50 (by kernel_rfl) rfl
theorem laws_markIntS_meets (F : Nat) : Meets Try.prog 50 (laws_markIntS_ent F) := by
  refine meets_of_runS mixed ttok deep (laws_markIntS_tabok F) Try.func50 (body_some rfl) (laws_markIntS_lsok1 F) fun args mem hfit ret h => ?_
  clear hfit
  simp only [laws_markIntS_ent] at h
  split at h
  · rename_i q_a1 k2 a3
    simp only [Option.some.injEq, Prod.mk.injEq] at h
    obtain ⟨hc, rfl⟩ := h
    have hg := (and_split hc).1
    replace hc := (and_split hc).2
    obtain rfl := nbeq_nat hg
    exact ⟨[], [], 70, _, (laws_markIntS_run F k2 a3).trans ((laws_markIntS_cp _ F k2 a3 _).trans (bind_use hc _)), rfl, rfl, rfl⟩
  · cases h

/-! loop.example/g01194/laws.heldIntS -/
noncomputable def laws_heldIntS_tab (F : Nat) : Tab := []
theorem laws_heldIntS_tabok (F : Nat) : TabOK Try.prog (laws_heldIntS_tab F) := tab_nil
noncomputable def laws_heldIntS_LS0 (F : Nat) : LT := []
theorem laws_heldIntS_lsok0 (F : Nat) : LoopsOK Try.prog (laws_heldIntS_LS0 F) (bodyOf Try.f51) := loopsOK_nil
theorem laws_heldIntS_keys : keysOK (bodyOf Try.f51) = true := by kernel_rfl
def laws_heldIntS_st2 (a0 : List Int) (k1 : Int) (i2 : Int) : St := ⟨expand 21 0 [0, 1, 5] [(.ri .i64 a0), (.int .i64 k1), (.int .i64 i2)], [], 0, []⟩
def laws_heldIntS_o2 (a0 : List Int) (x : Bool × Int) : GT := (.br x.1 (.out (.ret ⟨expand 21 0 [4] [(.int .i64 (-1 : Int))], [], 0, []⟩)) (.out (.exit 0 ⟨expand 21 0 [1] [(.int .i64 x.2)], [], 0, []⟩)))
def laws_heldIntS_ls2 (F : Nat) : LoopS := ⟨21, [0, 1, 5], [], [1], [], [4], [], [], fun vals mem np killed => match vals, mem, np, killed with
  | [(.ri .i64 a0), (.int .i64 k1), (.int .i64 i2)], [], 0, [] => .br (laws_heldIntS_l2 F a0 k1 i2).isSome (laws_heldIntS_o2 a0 ((laws_heldIntS_l2 F a0 k1 i2).getD default)) .fail
  | _, _, _, _ => .fail⟩
theorem laws_heldIntS_step2 (F : Nat) (a0 : List Int) (k1 : Int) (i2 : Int) {R : Type} (k : Out → Option R) : stepS tt (laws_heldIntS_tab F) (laws_heldIntS_LS0 F) 70 (laws_heldIntS_ls2 F) (loopAt 2 (bodyOf Try.f51)) (laws_heldIntS_st2 a0 k1 i2) k = laws_heldIntS_s2 F a0 R (k1, i2) (fun s => k (.norm (laws_heldIntS_st2 a0 s.1 s.2))) (fun x => (laws_heldIntS_o2 a0 x).run k) := by kernel_rfl
theorem laws_heldIntS_iter2 (F : Nat) (a0 : List Int) {R : Type} (k : Out → Option R) : ∀ (n : Nat) (k1 : Int) (i2 : Int), iterS tt (laws_heldIntS_tab F) (laws_heldIntS_LS0 F) 70 (laws_heldIntS_ls2 F) (loopAt 2 (bodyOf Try.f51)) n (laws_heldIntS_st2 a0 k1 i2) k = loopC (laws_heldIntS_s2 F a0) n (k1, i2) (fun x => (laws_heldIntS_o2 a0 x).run k)
  | 0, k1, i2 => rfl
  | n + 1, k1, i2 => (iterS_succ tt (laws_heldIntS_tab F) (laws_heldIntS_LS0 F) 70 (laws_heldIntS_ls2 F) (loopAt 2 (bodyOf Try.f51)) n (laws_heldIntS_st2 a0 k1 i2) k).trans ((laws_heldIntS_step2 F a0 k1 i2 (nextK (iterS tt (laws_heldIntS_tab F) (laws_heldIntS_LS0 F) 70 (laws_heldIntS_ls2 F) (loopAt 2 (bodyOf Try.f51)) n) k)).trans (congrArg (fun kn => laws_heldIntS_s2 F a0 R (k1, i2) kn _) (funext (fun ⟨k1, i2⟩ => laws_heldIntS_iter2 F a0 k n k1 i2))))
theorem laws_heldIntS_lok2 (F : Nat) : LoopOK Try.prog (loopAt 2 (bodyOf Try.f51)) (laws_heldIntS_ls2 F) := by
  refine loopOK_of mixed ttok deep (laws_heldIntS_tabok F) (loopsOK_at (laws_heldIntS_lsok0 F) 2) (fuel := 70) fun R vals mem np killed k x h => ?_
  simp only [laws_heldIntS_ls2] at h
  split at h
  · rename_i a0 k1 i2
    simp only [GT.run] at h
    have hc := (cond_noneL h).1
    replace h := (cond_noneL h).2
    refine ⟨F, (laws_heldIntS_iter2 F a0 k F k1 i2).trans ((loopC_use (laws_heldIntS_s2_nat F a0) hc _).trans h)⟩
  · simp only [GT.run] at h
    cases h
noncomputable def laws_heldIntS_LS1 (F : Nat) : LT := (2, laws_heldIntS_ls2 F) :: laws_heldIntS_LS0 F
theorem laws_heldIntS_lsok1 (F : Nat) : LoopsOK Try.prog (laws_heldIntS_LS1 F) (bodyOf Try.f51) := loopsOK_cons laws_heldIntS_keys (laws_heldIntS_lok2 F) (laws_heldIntS_lsok0 F)
theorem laws_heldIntS_run (F : Nat) (a0 : List Int) (k1 : Int) : runS tt (laws_heldIntS_tab F) (laws_heldIntS_LS1 F) [] [] Try.f51 (bodyOf Try.f51) 70 [(.ri .i64 a0), (.int .i64 k1)] [] = laws_heldIntS_c _ F a0 k1 (fun r => some ⟨(.int .i64 r), [], []⟩) := by kernel_rfl
def laws_heldIntS_ent (F : Nat) : Ent := ⟨[], .quiet, fun args mem => match args, mem with
  | [(.ri .i64 a0), (.int .i64 k1)], [] => some ((laws_heldIntS_p F a0 k1).isSome, ⟨(.int .i64 ((laws_heldIntS_p F a0 k1).getD default)), [], []⟩)
  | _, _ => none⟩
theorem laws_heldIntS_fok : FunOK Try.prog 51 := funOK Try.func51 (by kernel_rfl) rfl
theorem laws_heldIntS_meets (F : Nat) : Meets Try.prog 51 (laws_heldIntS_ent F) := by
  refine meets_of_runS mixed ttok deep (laws_heldIntS_tabok F) Try.func51 (body_some rfl) (laws_heldIntS_lsok1 F) fun args mem hfit ret h => ?_
  clear hfit
  simp only [laws_heldIntS_ent] at h
  split at h
  · rename_i a0 k1
    simp only [Option.some.injEq, Prod.mk.injEq] at h
    obtain ⟨hc, rfl⟩ := h
    exact ⟨[], [], 70, _, (laws_heldIntS_run F a0 k1).trans ((laws_heldIntS_cp _ F a0 k1 _).trans (bind_use hc _)), rfl, rfl, rfl⟩
  · cases h

/-! loop.example/g01194/laws.FnExactSnakesOf -/
noncomputable def laws_FnExactSnakesOf_tab (F : Nat) : Tab := [(21, (laws_toBoard_ent F)), (47, (spec_SnakesOf_ent F)), (48, (impl_SnakesOf_ent F)), (49, (laws_eqIntS_ent F)), (50, (laws_markIntS_ent F)), (51, (laws_heldIntS_ent F))]
theorem laws_FnExactSnakesOf_tabok (F : Nat) : TabOK Try.prog (laws_FnExactSnakesOf_tab F) := (tab_cons (laws_toBoard_meets F) laws_toBoard_fok (tab_cons (spec_SnakesOf_meets F) spec_SnakesOf_fok (tab_cons (impl_SnakesOf_meets F) impl_SnakesOf_fok (tab_cons (laws_eqIntS_meets F) laws_eqIntS_fok (tab_cons (laws_markIntS_meets F) laws_markIntS_fok (tab_cons (laws_heldIntS_meets F) laws_heldIntS_fok tab_nil))))))
noncomputable def laws_FnExactSnakesOf_LS0 (F : Nat) : LT := []
theorem laws_FnExactSnakesOf_lsok0 (F : Nat) : LoopsOK Try.prog (laws_FnExactSnakesOf_LS0 F) (bodyOf Try.f15) := loopsOK_nil
theorem laws_FnExactSnakesOf_run (F : Nat) (aB0 : List Int) : runS tt (laws_FnExactSnakesOf_tab F) (laws_FnExactSnakesOf_LS0 F) [] [] Try.f15 (bodyOf Try.f15) 70 [(.ints 16 aB0)] [] = laws_FnExactSnakesOf_c _ F aB0 (fun r => some ⟨(.bool r), [], []⟩) := by kernel_rfl
def laws_FnExactSnakesOf_ent (F : Nat) : Ent := ⟨[], .quiet, fun args mem => match args, mem with
  | [(.ints 16 aB0)], [] => some ((laws_FnExactSnakesOf_p F aB0).isSome, ⟨(.bool ((laws_FnExactSnakesOf_p F aB0).getD default)), [], []⟩)
  | _, _ => none⟩
theorem laws_FnExactSnakesOf_fok : FunOK Try.prog 15 := funOK Try.func15 (by kernel_rfl) rfl
theorem laws_FnExactSnakesOf_meets (F : Nat) : Meets Try.prog 15 (laws_FnExactSnakesOf_ent F) := by
  refine meets_of_runS mixed ttok deep (laws_FnExactSnakesOf_tabok F) Try.func15 (body_some rfl) (laws_FnExactSnakesOf_lsok0 F) fun args mem hfit ret h => ?_
  clear hfit
  simp only [laws_FnExactSnakesOf_ent] at h
  split at h
  · rename_i aB0
    simp only [Option.some.injEq, Prod.mk.injEq] at h
    obtain ⟨hc, rfl⟩ := h
    exact ⟨[], [], 70, _, (laws_FnExactSnakesOf_run F aB0).trans ((laws_FnExactSnakesOf_cp _ F aB0 _).trans (bind_use hc _)), rfl, rfl, rfl⟩
  · cases h
end Go.Proofs.Ytmdicfifhppjaaa
