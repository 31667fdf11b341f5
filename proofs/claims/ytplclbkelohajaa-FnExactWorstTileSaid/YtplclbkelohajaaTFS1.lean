/-
Pure functions and what the code of them does, by program; without conditions.
-/
import Derived.Test.YtplclbkelohajaaTFP1
import Derived.Test.YtplclbkelohajaaTFS0
namespace Go.Proofs.Ytplclbkelohajaa
open Go Go.Lv Go.Lv.P Go.Proofs
set_option linter.unusedVariables false
set_option linter.unusedSimpArgs false
set_option maxRecDepth 100000
/-! loop.example/g01194/spec.WorstTile -/
noncomputable def spec_WorstTile_tab (F : Nat) : Tab := [(25, (spec_l2Board_ent F)), (26, (spec_l2Empty_ent F)), (27, (spec_l8Places_ent F)), (29, (spec_l8Put_ent F)), (28, (spec_l2Moves_ent F))]
theorem spec_WorstTile_tabok (F : Nat) : TabOK Try.prog (spec_WorstTile_tab F) := (tab_cons (spec_l2Board_meets F) spec_l2Board_fok (tab_cons (spec_l2Empty_meets F) spec_l2Empty_fok (tab_cons (spec_l8Places_meets F) spec_l8Places_fok (tab_cons (spec_l8Put_meets F) spec_l8Put_fok (tab_cons (spec_l2Moves_meets F) spec_l2Moves_fok tab_nil)))))
noncomputable def spec_WorstTile_LS0 (F : Nat) : LT := []
theorem spec_WorstTile_lsok0 (F : Nat) : LoopsOK Try.prog (spec_WorstTile_LS0 F) (bodyOf Try.f7) := loopsOK_nil
theorem spec_WorstTile_keys : keysOK (bodyOf Try.f7) = true := by kernel_rfl
def spec_WorstTile_st6 (b13 : List Int) (all15 : List (List Int)) (best8 : Int) (i12 : Int) (first16 : List Int) : St := ⟨expand 47 0 [1, 2, 5, 6, 7, 8] [(.ptr 0 0 0 16), (.ptr 1 0 0 3), (.sl 2 0 (List.length all15)), (.int .i64 best8), (.ptr 3 0 0 3), (.int .i64 i12)], [(.var 16 (.ri .i64 b13)), (.var 3 (.ri .i64 [(0 : Int), (0 : Int), (0 : Int)])), (.vec 26 (.rr 3 all15)), (.var 3 (.ri .i64 first16))], 0, []⟩
def spec_WorstTile_o6 (b13 : List Int) (all15 : List (List Int)) (x : Int × List Int) : GT := (.out (.exit 0 ⟨expand 47 0 [2, 6, 7] [(.ptr 0 0 0 3), (.int .i64 x.1), (.ptr 1 0 0 3)], [(.var 3 (.ri .i64 [(0 : Int), (0 : Int), (0 : Int)])), (.var 3 (.ri .i64 x.2))], 0, []⟩))
def spec_WorstTile_ls6 (F : Nat) : LoopS := ⟨47, [1, 2, 5, 6, 7, 8], [], [2, 6, 7], [], [2, 3, 4], [], [], fun vals mem np killed => match vals, mem, np, killed with
  | [(.ptr 0 0 0 16), (.ptr 1 0 0 3), (.sl 2 0 q_all7), (.int .i64 best8), (.ptr 3 0 0 3), (.int .i64 i12)], [(.var 16 (.ri .i64 b13)), (.var 3 (.ri .i64 q_t214)), (.vec 26 (.rr 3 all15)), (.var 3 (.ri .i64 first16))], 0, [] => .br ((q_t214 == ([(0 : Int), (0 : Int), (0 : Int)] : List Int)) && ((Nat.beq q_all7 (List.length all15)) && (spec_WorstTile_l6 F b13 all15 best8 i12 first16).isSome)) (spec_WorstTile_o6 b13 all15 ((spec_WorstTile_l6 F b13 all15 best8 i12 first16).getD default)) .fail
  | _, _, _, _ => .fail⟩
theorem spec_WorstTile_step6 (F : Nat) (b13 : List Int) (all15 : List (List Int)) (best8 : Int) (i12 : Int) (first16 : List Int) {R : Type} (k : Out → Option R) : stepS tt (spec_WorstTile_tab F) (spec_WorstTile_LS0 F) 70 (spec_WorstTile_ls6 F) (loopAt 6 (bodyOf Try.f7)) (spec_WorstTile_st6 b13 all15 best8 i12 first16) k = spec_WorstTile_s6 F b13 all15 R (best8, i12, first16) (fun s => k (.norm (spec_WorstTile_st6 b13 all15 s.1 s.2.1 s.2.2))) (fun x => (spec_WorstTile_o6 b13 all15 x).run k) := by kernel_rfl
theorem spec_WorstTile_iter6 (F : Nat) (b13 : List Int) (all15 : List (List Int)) {R : Type} (k : Out → Option R) : ∀ (n : Nat) (best8 : Int) (i12 : Int) (first16 : List Int), iterS tt (spec_WorstTile_tab F) (spec_WorstTile_LS0 F) 70 (spec_WorstTile_ls6 F) (loopAt 6 (bodyOf Try.f7)) n (spec_WorstTile_st6 b13 all15 best8 i12 first16) k = loopC (spec_WorstTile_s6 F b13 all15) n (best8, i12, first16) (fun x => (spec_WorstTile_o6 b13 all15 x).run k)
  | 0, best8, i12, first16 => rfl
  | n + 1, best8, i12, first16 => (iterS_succ tt (spec_WorstTile_tab F) (spec_WorstTile_LS0 F) 70 (spec_WorstTile_ls6 F) (loopAt 6 (bodyOf Try.f7)) n (spec_WorstTile_st6 b13 all15 best8 i12 first16) k).trans ((spec_WorstTile_step6 F b13 all15 best8 i12 first16 (nextK (iterS tt (spec_WorstTile_tab F) (spec_WorstTile_LS0 F) 70 (spec_WorstTile_ls6 F) (loopAt 6 (bodyOf Try.f7)) n) k)).trans (congrArg (fun kn => spec_WorstTile_s6 F b13 all15 R (best8, i12, first16) kn _) (funext (fun ⟨best8, i12, first16⟩ => spec_WorstTile_iter6 F b13 all15 k n best8 i12 first16))))
theorem spec_WorstTile_lok6 (F : Nat) : LoopOK Try.prog (loopAt 6 (bodyOf Try.f7)) (spec_WorstTile_ls6 F) := by
  refine loopOK_of mixed ttok deep (spec_WorstTile_tabok F) (loopsOK_at (spec_WorstTile_lsok0 F) 6) (fuel := 70) fun R vals mem np killed k x h => ?_
  simp only [spec_WorstTile_ls6] at h
  split at h
  · rename_i q_all7 best8 i12 b13 q_t214 all15 first16
    simp only [GT.run] at h
    have hc := (cond_noneL h).1
    replace h := (cond_noneL h).2
    have hg := (and_split hc).1
    replace hc := (and_split hc).2
    obtain rfl := beq_li hg
    have hg := (and_split hc).1
    replace hc := (and_split hc).2
    obtain rfl := nbeq_nat hg
    refine ⟨F, (spec_WorstTile_iter6 F b13 all15 k F best8 i12 first16).trans ((loopC_use (spec_WorstTile_s6_nat F b13 all15) hc _).trans h)⟩
  · simp only [GT.run] at h
    cases h
noncomputable def spec_WorstTile_LS1 (F : Nat) : LT := (6, spec_WorstTile_ls6 F) :: spec_WorstTile_LS0 F
theorem spec_WorstTile_lsok1 (F : Nat) : LoopsOK Try.prog (spec_WorstTile_LS1 F) (bodyOf Try.f7) := loopsOK_cons spec_WorstTile_keys (spec_WorstTile_lok6 F) (spec_WorstTile_lsok0 F)
theorem spec_WorstTile_run (F : Nat) (b0 : List Int) : runS tt (spec_WorstTile_tab F) (spec_WorstTile_LS1 F) [] [] Try.f7 (bodyOf Try.f7) 70 [(.ints 16 b0)] [] = spec_WorstTile_c _ F b0 (fun r => some ⟨(.tup [(.ints 3 r.1), (.int .i64 r.2.1), (.bool r.2.2)]), [], []⟩) := by kernel_rfl
def spec_WorstTile_ent (F : Nat) : Ent := ⟨[], .quiet, fun args mem => match args, mem with
  | [(.ints 16 b0)], [] => some ((spec_WorstTile_p F b0).isSome, ⟨(.tup [(.ints 3 ((spec_WorstTile_p F b0).getD default).1), (.int .i64 ((spec_WorstTile_p F b0).getD default).2.1), (.bool ((spec_WorstTile_p F b0).getD default).2.2)]), [], []⟩)
  | _, _ => none⟩
theorem spec_WorstTile_fok : FunOK Try.prog 7 := funOK Try.func7 (by kernel_rfl) rfl
theorem spec_WorstTile_meets (F : Nat) : Meets Try.prog 7 (spec_WorstTile_ent F) := by
  refine meets_of_runS mixed ttok deep (spec_WorstTile_tabok F) Try.func7 (body_some rfl) (spec_WorstTile_lsok1 F) fun args mem hfit ret h => ?_
  clear hfit
  simp only [spec_WorstTile_ent] at h
  split at h
  · rename_i b0
    simp only [Option.some.injEq, Prod.mk.injEq] at h
    obtain ⟨hc, rfl⟩ := h
    exact ⟨[], [], 70, _, (spec_WorstTile_run F b0).trans ((spec_WorstTile_cp _ F b0 _).trans (bind_use hc _)), rfl, rfl, rfl⟩
  · cases h

/-! loop.example/g01194/impl.in -/
noncomputable def impl_in_tab (F : Nat) : Tab := []
theorem impl_in_tabok (F : Nat) : TabOK Try.prog (impl_in_tab F) := tab_nil
noncomputable def impl_in_LS0 (F : Nat) : LT := []
theorem impl_in_lsok0 (F : Nat) : LoopsOK Try.prog (impl_in_LS0 F) (bodyOf Try.f68) := loopsOK_nil
theorem impl_in_run (F : Nat) (n0 : Int) (low1 : Int) (high2 : Int) : runS tt (impl_in_tab F) (impl_in_LS0 F) [] [] Try.f68 (bodyOf Try.f68) 70 [(.int .i64 n0), (.int .i64 low1), (.int .i64 high2)] [] = impl_in_c _ n0 low1 high2 (fun r => some ⟨(.bool r), [], []⟩) := by kernel_rfl
def impl_in_ent (F : Nat) : Ent := ⟨[], .quiet, fun args mem => match args, mem with
  | [(.int .i64 n0), (.int .i64 low1), (.int .i64 high2)], [] => some (true, ⟨(.bool (impl_in_v n0 low1 high2)), [], []⟩)
  | _, _ => none⟩
theorem impl_in_fok : FunOK Try.prog 68 := funOK Try.func68 (by kernel_rfl) rfl
theorem impl_in_meets (F : Nat) : Meets Try.prog 68 (impl_in_ent F) := by
  refine meets_of_runS mixed ttok deep (impl_in_tabok F) Try.func68 (body_some rfl) (impl_in_lsok0 F) fun args mem hfit ret h => ?_
  clear hfit
  simp only [impl_in_ent] at h
  split at h
  · rename_i n0 low1 high2
    simp only [Option.some.injEq, Prod.mk.injEq] at h
    obtain ⟨hc, rfl⟩ := h
    exact ⟨[], [], 70, _, (impl_in_run F n0 low1 high2).trans (impl_in_cv _ n0 low1 high2 _), rfl, rfl, rfl⟩
  · cases h

/-! loop.example/g01194/impl.IsRow$1 -/
noncomputable def impl_IsRow_f1_tab (F : Nat) : Tab := [(68, (impl_in_ent F))]
theorem impl_IsRow_f1_tabok (F : Nat) : TabOK Try.prog (impl_IsRow_f1_tab F) := (tab_cons (impl_in_meets F) impl_in_fok tab_nil)
noncomputable def impl_IsRow_f1_LS0 (F : Nat) : LT := []
theorem impl_IsRow_f1_lsok0 (F : Nat) : LoopsOK Try.prog (impl_IsRow_f1_LS0 F) (bodyOf Try.f77) := loopsOK_nil
theorem impl_IsRow_f1_run (F : Nat) (n0 : Int) : runS tt (impl_IsRow_f1_tab F) (impl_IsRow_f1_LS0 F) [] [] Try.f77 (bodyOf Try.f77) 70 [(.int .i64 n0)] [] = impl_IsRow_f1_c _ n0 (fun r => some ⟨(.bool r), [], []⟩) := by kernel_rfl
def impl_IsRow_f1_ent (F : Nat) : Ent := ⟨[], .quiet, fun args mem => match args, mem with
  | [(.int .i64 n0)], [] => some (true, ⟨(.bool (impl_IsRow_f1_v n0)), [], []⟩)
  | _, _ => none⟩
theorem impl_IsRow_f1_fok : FunOK Try.prog 77 := funOK Try.func77 (by kernel_rfl) rfl
theorem impl_IsRow_f1_meets (F : Nat) : Meets Try.prog 77 (impl_IsRow_f1_ent F) := by
  refine meets_of_runS mixed ttok deep (impl_IsRow_f1_tabok F) Try.func77 (body_some rfl) (impl_IsRow_f1_lsok0 F) fun args mem hfit ret h => ?_
  clear hfit
  simp only [impl_IsRow_f1_ent] at h
  split at h
  · rename_i n0
    simp only [Option.some.injEq, Prod.mk.injEq] at h
    obtain ⟨hc, rfl⟩ := h
    exact ⟨[], [], 70, _, (impl_IsRow_f1_run F n0).trans (impl_IsRow_f1_cv _ n0 _), rfl, rfl, rfl⟩
  · cases h

/-! slices.IndexFunc[[]int,int] -/
noncomputable def slices_IndexFunc_intint_impl_IsRow_f1_tab (F : Nat) : Tab := [(77, (impl_IsRow_f1_ent F))]
theorem slices_IndexFunc_intint_impl_IsRow_f1_tabok (F : Nat) : TabOK Try.prog (slices_IndexFunc_intint_impl_IsRow_f1_tab F) := (tab_cons (impl_IsRow_f1_meets F) impl_IsRow_f1_fok tab_nil)
noncomputable def slices_IndexFunc_intint_impl_IsRow_f1_LS0 (F : Nat) : LT := []
theorem slices_IndexFunc_intint_impl_IsRow_f1_lsok0 (F : Nat) : LoopsOK Try.prog (slices_IndexFunc_intint_impl_IsRow_f1_LS0 F) (bodyOf Try.f84) := loopsOK_nil
theorem slices_IndexFunc_intint_impl_IsRow_f1_keys : keysOK (bodyOf Try.f84) = true := by kernel_rfl
def slices_IndexFunc_intint_impl_IsRow_f1_st2 (s0 : List Int) (t71 : Int) (t82 : Int) : St := ⟨expand 19 0 [0, 1, 7, 8] [(.ri .i64 s0), (.fn 77 [] []), (.int .i64 t71), (.int .i64 t82)], [], 0, []⟩
def slices_IndexFunc_intint_impl_IsRow_f1_o2 (s0 : List Int) (t71 : Int) (x : Bool × Int) : GT := (.br x.1 (.out (.ret ⟨expand 19 0 [4] [(.int .i64 x.2)], [], 0, []⟩)) (.out (.exit 0 ⟨expand 19 0 [] [], [], 0, []⟩)))
def slices_IndexFunc_intint_impl_IsRow_f1_ls2 (F : Nat) : LoopS := ⟨19, [0, 1, 7, 8], [], [], [], [4], [], [], fun vals mem np killed => match vals, mem, np, killed with
  | [(.ri .i64 s0), (.fn 77 [] []), (.int .i64 t71), (.int .i64 t82)], [], 0, [] => .br (slices_IndexFunc_intint_impl_IsRow_f1_l2 F s0 t71 t82).isSome (slices_IndexFunc_intint_impl_IsRow_f1_o2 s0 t71 ((slices_IndexFunc_intint_impl_IsRow_f1_l2 F s0 t71 t82).getD default)) .fail
  | _, _, _, _ => .fail⟩
theorem slices_IndexFunc_intint_impl_IsRow_f1_step2 (F : Nat) (s0 : List Int) (t71 : Int) (t82 : Int) {R : Type} (k : Out → Option R) : stepS tt (slices_IndexFunc_intint_impl_IsRow_f1_tab F) (slices_IndexFunc_intint_impl_IsRow_f1_LS0 F) 70 (slices_IndexFunc_intint_impl_IsRow_f1_ls2 F) (loopAt 2 (bodyOf Try.f84)) (slices_IndexFunc_intint_impl_IsRow_f1_st2 s0 t71 t82) k = slices_IndexFunc_intint_impl_IsRow_f1_s2 F s0 t71 R t82 (fun s => k (.norm (slices_IndexFunc_intint_impl_IsRow_f1_st2 s0 t71 s))) (fun x => (slices_IndexFunc_intint_impl_IsRow_f1_o2 s0 t71 x).run k) := by kernel_rfl
theorem slices_IndexFunc_intint_impl_IsRow_f1_iter2 (F : Nat) (s0 : List Int) (t71 : Int) {R : Type} (k : Out → Option R) : ∀ (n : Nat) (t82 : Int), iterS tt (slices_IndexFunc_intint_impl_IsRow_f1_tab F) (slices_IndexFunc_intint_impl_IsRow_f1_LS0 F) 70 (slices_IndexFunc_intint_impl_IsRow_f1_ls2 F) (loopAt 2 (bodyOf Try.f84)) n (slices_IndexFunc_intint_impl_IsRow_f1_st2 s0 t71 t82) k = loopC (slices_IndexFunc_intint_impl_IsRow_f1_s2 F s0 t71) n t82 (fun x => (slices_IndexFunc_intint_impl_IsRow_f1_o2 s0 t71 x).run k)
  | 0, t82 => rfl
  | n + 1, t82 => (iterS_succ tt (slices_IndexFunc_intint_impl_IsRow_f1_tab F) (slices_IndexFunc_intint_impl_IsRow_f1_LS0 F) 70 (slices_IndexFunc_intint_impl_IsRow_f1_ls2 F) (loopAt 2 (bodyOf Try.f84)) n (slices_IndexFunc_intint_impl_IsRow_f1_st2 s0 t71 t82) k).trans ((slices_IndexFunc_intint_impl_IsRow_f1_step2 F s0 t71 t82 (nextK (iterS tt (slices_IndexFunc_intint_impl_IsRow_f1_tab F) (slices_IndexFunc_intint_impl_IsRow_f1_LS0 F) 70 (slices_IndexFunc_intint_impl_IsRow_f1_ls2 F) (loopAt 2 (bodyOf Try.f84)) n) k)).trans (congrArg (fun kn => slices_IndexFunc_intint_impl_IsRow_f1_s2 F s0 t71 R t82 kn _) (funext (fun t82 => slices_IndexFunc_intint_impl_IsRow_f1_iter2 F s0 t71 k n t82))))
theorem slices_IndexFunc_intint_impl_IsRow_f1_lok2 (F : Nat) : LoopOK Try.prog (loopAt 2 (bodyOf Try.f84)) (slices_IndexFunc_intint_impl_IsRow_f1_ls2 F) := by
  refine loopOK_of mixed ttok deep (slices_IndexFunc_intint_impl_IsRow_f1_tabok F) (loopsOK_at (slices_IndexFunc_intint_impl_IsRow_f1_lsok0 F) 2) (fuel := 70) fun R vals mem np killed k x h => ?_
  simp only [slices_IndexFunc_intint_impl_IsRow_f1_ls2] at h
  split at h
  · rename_i s0 t71 t82
    simp only [GT.run] at h
    have hc := (cond_noneL h).1
    replace h := (cond_noneL h).2
    refine ⟨F, (slices_IndexFunc_intint_impl_IsRow_f1_iter2 F s0 t71 k F t82).trans ((loopC_use (slices_IndexFunc_intint_impl_IsRow_f1_s2_nat F s0 t71) hc _).trans h)⟩
  · simp only [GT.run] at h
    cases h
noncomputable def slices_IndexFunc_intint_impl_IsRow_f1_LS1 (F : Nat) : LT := (2, slices_IndexFunc_intint_impl_IsRow_f1_ls2 F) :: slices_IndexFunc_intint_impl_IsRow_f1_LS0 F
theorem slices_IndexFunc_intint_impl_IsRow_f1_lsok1 (F : Nat) : LoopsOK Try.prog (slices_IndexFunc_intint_impl_IsRow_f1_LS1 F) (bodyOf Try.f84) := loopsOK_cons slices_IndexFunc_intint_impl_IsRow_f1_keys (slices_IndexFunc_intint_impl_IsRow_f1_lok2 F) (slices_IndexFunc_intint_impl_IsRow_f1_lsok0 F)
theorem slices_IndexFunc_intint_impl_IsRow_f1_run (F : Nat) (s0 : List Int) : runS tt (slices_IndexFunc_intint_impl_IsRow_f1_tab F) (slices_IndexFunc_intint_impl_IsRow_f1_LS1 F) [] [] Try.f84 (bodyOf Try.f84) 70 [(.ri .i64 s0), (.fn 77 [] [])] [] = slices_IndexFunc_intint_impl_IsRow_f1_c _ F s0 (fun r => some ⟨(.int .i64 r), [], []⟩) := by kernel_rfl
def slices_IndexFunc_intint_impl_IsRow_f1_ent (F : Nat) : Ent := ⟨[], .quiet, fun args mem => match args, mem with
  | [(.ri .i64 s0), (.fn 77 [] [])], [] => some ((slices_IndexFunc_intint_impl_IsRow_f1_p F s0).isSome, ⟨(.int .i64 ((slices_IndexFunc_intint_impl_IsRow_f1_p F s0).getD default)), [], []⟩)
  | _, _ => none⟩
theorem slices_IndexFunc_intint_impl_IsRow_f1_fok : FunOK Try.prog 84 := funOK Try.func84 (by kernel_rfl) rfl
theorem slices_IndexFunc_intint_impl_IsRow_f1_meets (F : Nat) : Meets Try.prog 84 (slices_IndexFunc_intint_impl_IsRow_f1_ent F) := by
  refine meets_of_runS mixed ttok deep (slices_IndexFunc_intint_impl_IsRow_f1_tabok F) Try.func84 (body_some rfl) (slices_IndexFunc_intint_impl_IsRow_f1_lsok1 F) fun args mem hfit ret h => ?_
  clear hfit
  simp only [slices_IndexFunc_intint_impl_IsRow_f1_ent] at h
  split at h
  · rename_i s0
    simp only [Option.some.injEq, Prod.mk.injEq] at h
    obtain ⟨hc, rfl⟩ := h
    exact ⟨[], [], 70, _, (slices_IndexFunc_intint_impl_IsRow_f1_run F s0).trans ((slices_IndexFunc_intint_impl_IsRow_f1_cp _ F s0 _).trans (bind_use hc _)), rfl, rfl, rfl⟩
  · cases h

/-! slices.ContainsFunc[[]int,int] -/
noncomputable def slices_ContainsFunc_intint_impl_IsRow_f1_tab (F : Nat) : Tab := [(84, (slices_IndexFunc_intint_impl_IsRow_f1_ent F))]
theorem slices_ContainsFunc_intint_impl_IsRow_f1_tabok (F : Nat) : TabOK Try.prog (slices_ContainsFunc_intint_impl_IsRow_f1_tab F) := (tab_cons (slices_IndexFunc_intint_impl_IsRow_f1_meets F) slices_IndexFunc_intint_impl_IsRow_f1_fok tab_nil)
noncomputable def slices_ContainsFunc_intint_impl_IsRow_f1_LS0 (F : Nat) : LT := []
theorem slices_ContainsFunc_intint_impl_IsRow_f1_lsok0 (F : Nat) : LoopsOK Try.prog (slices_ContainsFunc_intint_impl_IsRow_f1_LS0 F) (bodyOf Try.f76) := loopsOK_nil
theorem slices_ContainsFunc_intint_impl_IsRow_f1_run (F : Nat) (s0 : List Int) : runS tt (slices_ContainsFunc_intint_impl_IsRow_f1_tab F) (slices_ContainsFunc_intint_impl_IsRow_f1_LS0 F) [] [] Try.f76 (bodyOf Try.f76) 70 [(.ri .i64 s0), (.fn 77 [] [])] [] = slices_ContainsFunc_intint_impl_IsRow_f1_c _ F s0 (fun r => some ⟨(.bool r), [], []⟩) := by kernel_rfl
def slices_ContainsFunc_intint_impl_IsRow_f1_ent (F : Nat) : Ent := ⟨[], .quiet, fun args mem => match args, mem with
  | [(.ri .i64 s0), (.fn 77 [] [])], [] => some ((slices_ContainsFunc_intint_impl_IsRow_f1_p F s0).isSome, ⟨(.bool ((slices_ContainsFunc_intint_impl_IsRow_f1_p F s0).getD default)), [], []⟩)
  | _, _ => none⟩
theorem slices_ContainsFunc_intint_impl_IsRow_f1_fok : FunOK Try.prog 76 := funOK Try.func76 (by kernel_rfl) rfl
theorem slices_ContainsFunc_intint_impl_IsRow_f1_meets (F : Nat) : Meets Try.prog 76 (slices_ContainsFunc_intint_impl_IsRow_f1_ent F) := by
  refine meets_of_runS mixed ttok deep (slices_ContainsFunc_intint_impl_IsRow_f1_tabok F) Try.func76 (body_some rfl) (slices_ContainsFunc_intint_impl_IsRow_f1_lsok0 F) fun args mem hfit ret h => ?_
  clear hfit
  simp only [slices_ContainsFunc_intint_impl_IsRow_f1_ent] at h
  split at h
  · rename_i s0
    simp only [Option.some.injEq, Prod.mk.injEq] at h
    obtain ⟨hc, rfl⟩ := h
    exact ⟨[], [], 70, _, (slices_ContainsFunc_intint_impl_IsRow_f1_run F s0).trans ((slices_ContainsFunc_intint_impl_IsRow_f1_cp _ F s0 _).trans (bind_use hc _)), rfl, rfl, rfl⟩
  · cases h

/-! loop.example/g01194/impl.IsRow -/
noncomputable def impl_IsRow_tab (F : Nat) : Tab := [(76, (slices_ContainsFunc_intint_impl_IsRow_f1_ent F))]
theorem impl_IsRow_tabok (F : Nat) : TabOK Try.prog (impl_IsRow_tab F) := (tab_cons (slices_ContainsFunc_intint_impl_IsRow_f1_meets F) slices_ContainsFunc_intint_impl_IsRow_f1_fok tab_nil)
noncomputable def impl_IsRow_LS0 (F : Nat) : LT := []
theorem impl_IsRow_lsok0 (F : Nat) : LoopsOK Try.prog (impl_IsRow_LS0 F) (bodyOf Try.f57) := loopsOK_nil
theorem impl_IsRow_run (F : Nat) (row0 : List Int) : runS tt (impl_IsRow_tab F) (impl_IsRow_LS0 F) [] [] Try.f57 (bodyOf Try.f57) 70 [(.ints 4 row0)] [] = impl_IsRow_c _ F row0 (fun r => some ⟨(.bool r), [], []⟩) := by kernel_rfl
def impl_IsRow_ent (F : Nat) : Ent := ⟨[], .quiet, fun args mem => match args, mem with
  | [(.ints 4 row0)], [] => some ((impl_IsRow_p F row0).isSome, ⟨(.bool ((impl_IsRow_p F row0).getD default)), [], []⟩)
  | _, _ => none⟩
theorem impl_IsRow_fok : FunOK Try.prog 57 := funOK Try.func57 (by kernel_rfl) rfl
theorem impl_IsRow_meets (F : Nat) : Meets Try.prog 57 (impl_IsRow_ent F) := by
  refine meets_of_runS mixed ttok deep (impl_IsRow_tabok F) Try.func57 (body_some rfl) (impl_IsRow_lsok0 F) fun args mem hfit ret h => ?_
  clear hfit
  simp only [impl_IsRow_ent] at h
  split at h
  · rename_i row0
    simp only [Option.some.injEq, Prod.mk.injEq] at h
    obtain ⟨hc, rfl⟩ := h
    exact ⟨[], [], 70, _, (impl_IsRow_run F row0).trans ((impl_IsRow_cp _ F row0 _).trans (bind_use hc _)), rfl, rfl, rfl⟩
  · cases h

/-! loop.example/g01194/impl.IsBoard$1 -/
noncomputable def impl_IsBoard_f1_tab (F : Nat) : Tab := [(57, (impl_IsRow_ent F))]
theorem impl_IsBoard_f1_tabok (F : Nat) : TabOK Try.prog (impl_IsBoard_f1_tab F) := (tab_cons (impl_IsRow_meets F) impl_IsRow_fok tab_nil)
noncomputable def impl_IsBoard_f1_LS0 (F : Nat) : LT := []
theorem impl_IsBoard_f1_lsok0 (F : Nat) : LoopsOK Try.prog (impl_IsBoard_f1_LS0 F) (bodyOf Try.f56) := loopsOK_nil
theorem impl_IsBoard_f1_run (F : Nat) (row0 : List Int) : runS tt (impl_IsBoard_f1_tab F) (impl_IsBoard_f1_LS0 F) [] [] Try.f56 (bodyOf Try.f56) 70 [(.ints 4 row0)] [] = impl_IsBoard_f1_c _ F row0 (fun r => some ⟨(.bool r), [], []⟩) := by kernel_rfl
def impl_IsBoard_f1_ent (F : Nat) : Ent := ⟨[], .quiet, fun args mem => match args, mem with
  | [(.ints 4 row0)], [] => some ((impl_IsBoard_f1_p F row0).isSome, ⟨(.bool ((impl_IsBoard_f1_p F row0).getD default)), [], []⟩)
  | _, _ => none⟩
theorem impl_IsBoard_f1_fok : FunOK Try.prog 56 := funOK Try.func56 (by kernel_rfl) rfl
theorem impl_IsBoard_f1_meets (F : Nat) : Meets Try.prog 56 (impl_IsBoard_f1_ent F) := by
  refine meets_of_runS mixed ttok deep (impl_IsBoard_f1_tabok F) Try.func56 (body_some rfl) (impl_IsBoard_f1_lsok0 F) fun args mem hfit ret h => ?_
  clear hfit
  simp only [impl_IsBoard_f1_ent] at h
  split at h
  · rename_i row0
    simp only [Option.some.injEq, Prod.mk.injEq] at h
    obtain ⟨hc, rfl⟩ := h
    exact ⟨[], [], 70, _, (impl_IsBoard_f1_run F row0).trans ((impl_IsBoard_f1_cp _ F row0 _).trans (bind_use hc _)), rfl, rfl, rfl⟩
  · cases h

/-! slices.IndexFunc[[][4]int,[4]int] -/
noncomputable def slices_IndexFunc_4int4int_impl_IsBoard_f1_tab (F : Nat) : Tab := [(56, (impl_IsBoard_f1_ent F))]
theorem slices_IndexFunc_4int4int_impl_IsBoard_f1_tabok (F : Nat) : TabOK Try.prog (slices_IndexFunc_4int4int_impl_IsBoard_f1_tab F) := (tab_cons (impl_IsBoard_f1_meets F) impl_IsBoard_f1_fok tab_nil)
noncomputable def slices_IndexFunc_4int4int_impl_IsBoard_f1_LS0 (F : Nat) : LT := []
theorem slices_IndexFunc_4int4int_impl_IsBoard_f1_lsok0 (F : Nat) : LoopsOK Try.prog (slices_IndexFunc_4int4int_impl_IsBoard_f1_LS0 F) (bodyOf Try.f75) := loopsOK_nil
theorem slices_IndexFunc_4int4int_impl_IsBoard_f1_keys : keysOK (bodyOf Try.f75) = true := by kernel_rfl
def slices_IndexFunc_4int4int_impl_IsBoard_f1_st2 (s0 : List (List Int)) (t71 : Int) (t82 : Int) : St := ⟨expand 19 0 [0, 1, 7, 8] [(.rr 4 s0), (.fn 56 [] []), (.int .i64 t71), (.int .i64 t82)], [], 0, []⟩
def slices_IndexFunc_4int4int_impl_IsBoard_f1_o2 (s0 : List (List Int)) (t71 : Int) (x : Bool × Int) : GT := (.br x.1 (.out (.ret ⟨expand 19 0 [4] [(.int .i64 x.2)], [], 0, []⟩)) (.out (.exit 0 ⟨expand 19 0 [] [], [], 0, []⟩)))
def slices_IndexFunc_4int4int_impl_IsBoard_f1_ls2 (F : Nat) : LoopS := ⟨19, [0, 1, 7, 8], [], [], [], [4], [], [], fun vals mem np killed => match vals, mem, np, killed with
  | [(.rr 4 s0), (.fn 56 [] []), (.int .i64 t71), (.int .i64 t82)], [], 0, [] => .br (slices_IndexFunc_4int4int_impl_IsBoard_f1_l2 F s0 t71 t82).isSome (slices_IndexFunc_4int4int_impl_IsBoard_f1_o2 s0 t71 ((slices_IndexFunc_4int4int_impl_IsBoard_f1_l2 F s0 t71 t82).getD default)) .fail
  | _, _, _, _ => .fail⟩
theorem slices_IndexFunc_4int4int_impl_IsBoard_f1_step2 (F : Nat) (s0 : List (List Int)) (t71 : Int) (t82 : Int) {R : Type} (k : Out → Option R) : stepS tt (slices_IndexFunc_4int4int_impl_IsBoard_f1_tab F) (slices_IndexFunc_4int4int_impl_IsBoard_f1_LS0 F) 70 (slices_IndexFunc_4int4int_impl_IsBoard_f1_ls2 F) (loopAt 2 (bodyOf Try.f75)) (slices_IndexFunc_4int4int_impl_IsBoard_f1_st2 s0 t71 t82) k = slices_IndexFunc_4int4int_impl_IsBoard_f1_s2 F s0 t71 R t82 (fun s => k (.norm (slices_IndexFunc_4int4int_impl_IsBoard_f1_st2 s0 t71 s))) (fun x => (slices_IndexFunc_4int4int_impl_IsBoard_f1_o2 s0 t71 x).run k) := by kernel_rfl
theorem slices_IndexFunc_4int4int_impl_IsBoard_f1_iter2 (F : Nat) (s0 : List (List Int)) (t71 : Int) {R : Type} (k : Out → Option R) : ∀ (n : Nat) (t82 : Int), iterS tt (slices_IndexFunc_4int4int_impl_IsBoard_f1_tab F) (slices_IndexFunc_4int4int_impl_IsBoard_f1_LS0 F) 70 (slices_IndexFunc_4int4int_impl_IsBoard_f1_ls2 F) (loopAt 2 (bodyOf Try.f75)) n (slices_IndexFunc_4int4int_impl_IsBoard_f1_st2 s0 t71 t82) k = loopC (slices_IndexFunc_4int4int_impl_IsBoard_f1_s2 F s0 t71) n t82 (fun x => (slices_IndexFunc_4int4int_impl_IsBoard_f1_o2 s0 t71 x).run k)
  | 0, t82 => rfl
  | n + 1, t82 => (iterS_succ tt (slices_IndexFunc_4int4int_impl_IsBoard_f1_tab F) (slices_IndexFunc_4int4int_impl_IsBoard_f1_LS0 F) 70 (slices_IndexFunc_4int4int_impl_IsBoard_f1_ls2 F) (loopAt 2 (bodyOf Try.f75)) n (slices_IndexFunc_4int4int_impl_IsBoard_f1_st2 s0 t71 t82) k).trans ((slices_IndexFunc_4int4int_impl_IsBoard_f1_step2 F s0 t71 t82 (nextK (iterS tt (slices_IndexFunc_4int4int_impl_IsBoard_f1_tab F) (slices_IndexFunc_4int4int_impl_IsBoard_f1_LS0 F) 70 (slices_IndexFunc_4int4int_impl_IsBoard_f1_ls2 F) (loopAt 2 (bodyOf Try.f75)) n) k)).trans (congrArg (fun kn => slices_IndexFunc_4int4int_impl_IsBoard_f1_s2 F s0 t71 R t82 kn _) (funext (fun t82 => slices_IndexFunc_4int4int_impl_IsBoard_f1_iter2 F s0 t71 k n t82))))
theorem slices_IndexFunc_4int4int_impl_IsBoard_f1_lok2 (F : Nat) : LoopOK Try.prog (loopAt 2 (bodyOf Try.f75)) (slices_IndexFunc_4int4int_impl_IsBoard_f1_ls2 F) := by
  refine loopOK_of mixed ttok deep (slices_IndexFunc_4int4int_impl_IsBoard_f1_tabok F) (loopsOK_at (slices_IndexFunc_4int4int_impl_IsBoard_f1_lsok0 F) 2) (fuel := 70) fun R vals mem np killed k x h => ?_
  simp only [slices_IndexFunc_4int4int_impl_IsBoard_f1_ls2] at h
  split at h
  · rename_i s0 t71 t82
    simp only [GT.run] at h
    have hc := (cond_noneL h).1
    replace h := (cond_noneL h).2
    refine ⟨F, (slices_IndexFunc_4int4int_impl_IsBoard_f1_iter2 F s0 t71 k F t82).trans ((loopC_use (slices_IndexFunc_4int4int_impl_IsBoard_f1_s2_nat F s0 t71) hc _).trans h)⟩
  · simp only [GT.run] at h
    cases h
noncomputable def slices_IndexFunc_4int4int_impl_IsBoard_f1_LS1 (F : Nat) : LT := (2, slices_IndexFunc_4int4int_impl_IsBoard_f1_ls2 F) :: slices_IndexFunc_4int4int_impl_IsBoard_f1_LS0 F
theorem slices_IndexFunc_4int4int_impl_IsBoard_f1_lsok1 (F : Nat) : LoopsOK Try.prog (slices_IndexFunc_4int4int_impl_IsBoard_f1_LS1 F) (bodyOf Try.f75) := loopsOK_cons slices_IndexFunc_4int4int_impl_IsBoard_f1_keys (slices_IndexFunc_4int4int_impl_IsBoard_f1_lok2 F) (slices_IndexFunc_4int4int_impl_IsBoard_f1_lsok0 F)
theorem slices_IndexFunc_4int4int_impl_IsBoard_f1_run (F : Nat) (s0 : List (List Int)) : runS tt (slices_IndexFunc_4int4int_impl_IsBoard_f1_tab F) (slices_IndexFunc_4int4int_impl_IsBoard_f1_LS1 F) [] [] Try.f75 (bodyOf Try.f75) 70 [(.rr 4 s0), (.fn 56 [] [])] [] = slices_IndexFunc_4int4int_impl_IsBoard_f1_c _ F s0 (fun r => some ⟨(.int .i64 r), [], []⟩) := by kernel_rfl
def slices_IndexFunc_4int4int_impl_IsBoard_f1_ent (F : Nat) : Ent := ⟨[], .quiet, fun args mem => match args, mem with
  | [(.rr 4 s0), (.fn 56 [] [])], [] => some ((slices_IndexFunc_4int4int_impl_IsBoard_f1_p F s0).isSome, ⟨(.int .i64 ((slices_IndexFunc_4int4int_impl_IsBoard_f1_p F s0).getD default)), [], []⟩)
  | _, _ => none⟩
theorem slices_IndexFunc_4int4int_impl_IsBoard_f1_fok : FunOK Try.prog 75 := funOK Try.func75 (by kernel_rfl) rfl
theorem slices_IndexFunc_4int4int_impl_IsBoard_f1_meets (F : Nat) : Meets Try.prog 75 (slices_IndexFunc_4int4int_impl_IsBoard_f1_ent F) := by
  refine meets_of_runS mixed ttok deep (slices_IndexFunc_4int4int_impl_IsBoard_f1_tabok F) Try.func75 (body_some rfl) (slices_IndexFunc_4int4int_impl_IsBoard_f1_lsok1 F) fun args mem hfit ret h => ?_
  clear hfit
  simp only [slices_IndexFunc_4int4int_impl_IsBoard_f1_ent] at h
  split at h
  · rename_i s0
    simp only [Option.some.injEq, Prod.mk.injEq] at h
    obtain ⟨hc, rfl⟩ := h
    exact ⟨[], [], 70, _, (slices_IndexFunc_4int4int_impl_IsBoard_f1_run F s0).trans ((slices_IndexFunc_4int4int_impl_IsBoard_f1_cp _ F s0 _).trans (bind_use hc _)), rfl, rfl, rfl⟩
  · cases h

/-! slices.ContainsFunc[[][4]int,[4]int] -/
noncomputable def slices_ContainsFunc_4int4int_impl_IsBoard_f1_tab (F : Nat) : Tab := [(75, (slices_IndexFunc_4int4int_impl_IsBoard_f1_ent F))]
theorem slices_ContainsFunc_4int4int_impl_IsBoard_f1_tabok (F : Nat) : TabOK Try.prog (slices_ContainsFunc_4int4int_impl_IsBoard_f1_tab F) := (tab_cons (slices_IndexFunc_4int4int_impl_IsBoard_f1_meets F) slices_IndexFunc_4int4int_impl_IsBoard_f1_fok tab_nil)
noncomputable def slices_ContainsFunc_4int4int_impl_IsBoard_f1_LS0 (F : Nat) : LT := []
theorem slices_ContainsFunc_4int4int_impl_IsBoard_f1_lsok0 (F : Nat) : LoopsOK Try.prog (slices_ContainsFunc_4int4int_impl_IsBoard_f1_LS0 F) (bodyOf Try.f55) := loopsOK_nil
theorem slices_ContainsFunc_4int4int_impl_IsBoard_f1_run (F : Nat) (s0 : List (List Int)) : runS tt (slices_ContainsFunc_4int4int_impl_IsBoard_f1_tab F) (slices_ContainsFunc_4int4int_impl_IsBoard_f1_LS0 F) [] [] Try.f55 (bodyOf Try.f55) 70 [(.rr 4 s0), (.fn 56 [] [])] [] = slices_ContainsFunc_4int4int_impl_IsBoard_f1_c _ F s0 (fun r => some ⟨(.bool r), [], []⟩) := by kernel_rfl
def slices_ContainsFunc_4int4int_impl_IsBoard_f1_ent (F : Nat) : Ent := ⟨[], .quiet, fun args mem => match args, mem with
  | [(.rr 4 s0), (.fn 56 [] [])], [] => some ((slices_ContainsFunc_4int4int_impl_IsBoard_f1_p F s0).isSome, ⟨(.bool ((slices_ContainsFunc_4int4int_impl_IsBoard_f1_p F s0).getD default)), [], []⟩)
  | _, _ => none⟩
theorem slices_ContainsFunc_4int4int_impl_IsBoard_f1_fok : FunOK Try.prog 55 := funOK Try.func55 (by kernel_rfl) rfl
theorem slices_ContainsFunc_4int4int_impl_IsBoard_f1_meets (F : Nat) : Meets Try.prog 55 (slices_ContainsFunc_4int4int_impl_IsBoard_f1_ent F) := by
  refine meets_of_runS mixed ttok deep (slices_ContainsFunc_4int4int_impl_IsBoard_f1_tabok F) Try.func55 (body_some rfl) (slices_ContainsFunc_4int4int_impl_IsBoard_f1_lsok0 F) fun args mem hfit ret h => ?_
  clear hfit
  simp only [slices_ContainsFunc_4int4int_impl_IsBoard_f1_ent] at h
  split at h
  · rename_i s0
    simp only [Option.some.injEq, Prod.mk.injEq] at h
    obtain ⟨hc, rfl⟩ := h
    exact ⟨[], [], 70, _, (slices_ContainsFunc_4int4int_impl_IsBoard_f1_run F s0).trans ((slices_ContainsFunc_4int4int_impl_IsBoard_f1_cp _ F s0 _).trans (bind_use hc _)), rfl, rfl, rfl⟩
  · cases h

/-! loop.example/g01194/impl.IsBoard -/
noncomputable def impl_IsBoard_tab (F : Nat) : Tab := [(55, (slices_ContainsFunc_4int4int_impl_IsBoard_f1_ent F))]
theorem impl_IsBoard_tabok (F : Nat) : TabOK Try.prog (impl_IsBoard_tab F) := (tab_cons (slices_ContainsFunc_4int4int_impl_IsBoard_f1_meets F) slices_ContainsFunc_4int4int_impl_IsBoard_f1_fok tab_nil)
noncomputable def impl_IsBoard_LS0 (F : Nat) : LT := []
theorem impl_IsBoard_lsok0 (F : Nat) : LoopsOK Try.prog (impl_IsBoard_LS0 F) (bodyOf Try.f31) := loopsOK_nil
theorem impl_IsBoard_run (F : Nat) (b0 : List Int) : runS tt (impl_IsBoard_tab F) (impl_IsBoard_LS0 F) [] [] Try.f31 (bodyOf Try.f31) 70 [(.ints 16 b0)] [] = impl_IsBoard_c _ F b0 (fun r => some ⟨(.bool r), [], []⟩) := by kernel_rfl
def impl_IsBoard_ent (F : Nat) : Ent := ⟨[], .quiet, fun args mem => match args, mem with
  | [(.ints 16 b0)], [] => some ((impl_IsBoard_p F b0).isSome, ⟨(.bool ((impl_IsBoard_p F b0).getD default)), [], []⟩)
  | _, _ => none⟩
theorem impl_IsBoard_fok : FunOK Try.prog 31 := funOK Try.func31 (by kernel_rfl) rfl
theorem impl_IsBoard_meets (F : Nat) : Meets Try.prog 31 (impl_IsBoard_ent F) := by
  refine meets_of_runS mixed ttok deep (impl_IsBoard_tabok F) Try.func31 (body_some rfl) (impl_IsBoard_lsok0 F) fun args mem hfit ret h => ?_
  clear hfit
  simp only [impl_IsBoard_ent] at h
  split at h
  · rename_i b0
    simp only [Option.some.injEq, Prod.mk.injEq] at h
    obtain ⟨hc, rfl⟩ := h
    exact ⟨[], [], 70, _, (impl_IsBoard_run F b0).trans ((impl_IsBoard_cp _ F b0 _).trans (bind_use hc _)), rfl, rfl, rfl⟩
  · cases h

/-! loop.example/g01194/impl.cells -/
noncomputable def impl_cells_tab (F : Nat) : Tab := []
theorem impl_cells_tabok (F : Nat) : TabOK Try.prog (impl_cells_tab F) := tab_nil
noncomputable def impl_cells_LS0 (F : Nat) : LT := []
theorem impl_cells_lsok0 (F : Nat) : LoopsOK Try.prog (impl_cells_LS0 F) (bodyOf Try.f59) := loopsOK_nil
theorem impl_cells_run (F : Nat) : runS tt (impl_cells_tab F) (impl_cells_LS0 F) [] [] Try.f59 (bodyOf Try.f59) 70 [] [] = impl_cells_c _ (fun r => some ⟨(.sl 0 0 16), [(.vec 33 (.rr 2 [[(0 : Int), (0 : Int)], [(0 : Int), (1 : Int)], [(0 : Int), (2 : Int)], [(0 : Int), (3 : Int)], [(1 : Int), (0 : Int)], [(1 : Int), (1 : Int)], [(1 : Int), (2 : Int)], [(1 : Int), (3 : Int)], [(2 : Int), (0 : Int)], [(2 : Int), (1 : Int)], [(2 : Int), (2 : Int)], [(2 : Int), (3 : Int)], [(3 : Int), (0 : Int)], [(3 : Int), (1 : Int)], [(3 : Int), (2 : Int)], [(3 : Int), (3 : Int)]]))], []⟩) := by kernel_rfl
def impl_cells_ent (F : Nat) : Ent := ⟨[], .fresh, fun args mem => match args, mem with
  | [], [] => some (true, ⟨(.sl 0 0 16), [(.vec 33 (.rr 2 [[(0 : Int), (0 : Int)], [(0 : Int), (1 : Int)], [(0 : Int), (2 : Int)], [(0 : Int), (3 : Int)], [(1 : Int), (0 : Int)], [(1 : Int), (1 : Int)], [(1 : Int), (2 : Int)], [(1 : Int), (3 : Int)], [(2 : Int), (0 : Int)], [(2 : Int), (1 : Int)], [(2 : Int), (2 : Int)], [(2 : Int), (3 : Int)], [(3 : Int), (0 : Int)], [(3 : Int), (1 : Int)], [(3 : Int), (2 : Int)], [(3 : Int), (3 : Int)]]))], []⟩)
  | _, _ => none⟩
theorem impl_cells_fok : FunOK Try.prog 59 := funOK Try.func59 (by kernel_rfl) rfl
theorem impl_cells_meets (F : Nat) : Meets Try.prog 59 (impl_cells_ent F) := by
  refine meets_of_runS mixed ttok deep (impl_cells_tabok F) Try.func59 (body_some rfl) (impl_cells_lsok0 F) fun args mem hfit ret h => ?_
  clear hfit
  simp only [impl_cells_ent] at h
  split at h
  · simp only [Option.some.injEq, Prod.mk.injEq] at h
    obtain ⟨hc, rfl⟩ := h
    exact ⟨[], [], 70, _, (impl_cells_run F).trans (impl_cells_cv _ _), rfl, rfl, rfl⟩
  · cases h

/-! (*loop.example/g01194/impl.Board).at -/
noncomputable def impl_Board_at_tab (F : Nat) : Tab := []
theorem impl_Board_at_tabok (F : Nat) : TabOK Try.prog (impl_Board_at_tab F) := tab_nil
noncomputable def impl_Board_at_LS0 (F : Nat) : LT := []
theorem impl_Board_at_lsok0 (F : Nat) : LoopsOK Try.prog (impl_Board_at_LS0 F) (bodyOf Try.f61) := loopsOK_nil
theorem impl_Board_at_run (F : Nat) (cell3 : List Int) (b4 : List Int) : runS tt (impl_Board_at_tab F) (impl_Board_at_LS0 F) [] [] Try.f61 (bodyOf Try.f61) 70 [(.ptr 0 0 0 16), (.ints 2 cell3)] [(.var 16 (.ri .i64 b4))] = impl_Board_at_c _ cell3 b4 (fun r => some ⟨(.ptr 0 0 r 1), [(.var 16 (.ri .i64 b4))], []⟩) := by kernel_rfl
def impl_Board_at_ent (F : Nat) : Ent := ⟨[], .quiet, fun args mem => match args, mem with
  | [(.ptr 0 0 0 16), (.ints 2 cell3)], [(.var 16 (.ri .i64 b4))] => some ((impl_Board_at_p cell3 b4).isSome, ⟨(.ptr 0 0 ((impl_Board_at_p cell3 b4).getD default) 1), [], []⟩)
  | _, _ => none⟩
theorem impl_Board_at_fok : FunOK Try.prog 61 := funOK Try.func61 (by kernel_rfl) rfl
theorem impl_Board_at_meets (F : Nat) : Meets Try.prog 61 (impl_Board_at_ent F) := by
  refine meets_of_runS mixed ttok deep (impl_Board_at_tabok F) Try.func61 (body_some rfl) (impl_Board_at_lsok0 F) fun args mem hfit ret h => ?_
  clear hfit
  simp only [impl_Board_at_ent] at h
  split at h
  · rename_i cell3 b4
    simp only [Option.some.injEq, Prod.mk.injEq] at h
    obtain ⟨hc, rfl⟩ := h
    exact ⟨[], [], 70, _, (impl_Board_at_run F cell3 b4).trans ((impl_Board_at_cp _ cell3 b4 _).trans (bind_use hc _)), rfl, rfl, rfl⟩
  · cases h

/-! (loop.example/g01194/impl.Board).empty$1 -/
noncomputable def impl_Board_empty_f1_tab (F : Nat) : Tab := [(61, (impl_Board_at_ent F))]
theorem impl_Board_empty_f1_tabok (F : Nat) : TabOK Try.prog (impl_Board_empty_f1_tab F) := (tab_cons (impl_Board_at_meets F) impl_Board_at_fok tab_nil)
noncomputable def impl_Board_empty_f1_LS0 (F : Nat) : LT := []
theorem impl_Board_empty_f1_lsok0 (F : Nat) : LoopsOK Try.prog (impl_Board_empty_f1_LS0 F) (bodyOf Try.f60) := loopsOK_nil
theorem impl_Board_empty_f1_run (F : Nat) (cell0 : List Int) (a14 : List Int) : runS tt (impl_Board_empty_f1_tab F) (impl_Board_empty_f1_LS0 F) [] [] Try.f60 (bodyOf Try.f60) 70 [(.ints 2 cell0), (.ptr 0 0 0 16)] [(.var 16 (.ri .i64 a14))] = impl_Board_empty_f1_c _ cell0 a14 (fun r => some ⟨(.bool r), [(.var 16 (.ri .i64 a14))], []⟩) := by kernel_rfl
def impl_Board_empty_f1_ent (F : Nat) : Ent := ⟨[], .quiet, fun args mem => match args, mem with
  | [(.ints 2 cell0), (.ptr 0 0 0 16)], [(.var 16 (.ri .i64 a14))] => some ((impl_Board_empty_f1_p cell0 a14).isSome, ⟨(.bool ((impl_Board_empty_f1_p cell0 a14).getD default)), [], []⟩)
  | _, _ => none⟩
theorem impl_Board_empty_f1_fok : FunOK Try.prog 60 := funOK Try.func60 (by kernel_rfl) rfl
theorem impl_Board_empty_f1_meets (F : Nat) : Meets Try.prog 60 (impl_Board_empty_f1_ent F) := by
  refine meets_of_runS mixed ttok deep (impl_Board_empty_f1_tabok F) Try.func60 (body_some rfl) (impl_Board_empty_f1_lsok0 F) fun args mem hfit ret h => ?_
  clear hfit
  simp only [impl_Board_empty_f1_ent] at h
  split at h
  · rename_i cell0 a14
    simp only [Option.some.injEq, Prod.mk.injEq] at h
    obtain ⟨hc, rfl⟩ := h
    exact ⟨[], [], 70, _, (impl_Board_empty_f1_run F cell0 a14).trans ((impl_Board_empty_f1_cp _ cell0 a14 _).trans (bind_use hc _)), rfl, rfl, rfl⟩
  · cases h

/-! slices.IndexFunc[[][2]int,[2]int] -/
noncomputable def slices_IndexFunc_2int2int_impl_Board_empty_f1_tab (F : Nat) : Tab := [(60, (impl_Board_empty_f1_ent F))]
theorem slices_IndexFunc_2int2int_impl_Board_empty_f1_tabok (F : Nat) : TabOK Try.prog (slices_IndexFunc_2int2int_impl_Board_empty_f1_tab F) := (tab_cons (impl_Board_empty_f1_meets F) impl_Board_empty_f1_fok tab_nil)
noncomputable def slices_IndexFunc_2int2int_impl_Board_empty_f1_LS0 (F : Nat) : LT := []
theorem slices_IndexFunc_2int2int_impl_Board_empty_f1_lsok0 (F : Nat) : LoopsOK Try.prog (slices_IndexFunc_2int2int_impl_Board_empty_f1_LS0 F) (bodyOf Try.f78) := loopsOK_nil
theorem slices_IndexFunc_2int2int_impl_Board_empty_f1_keys : keysOK (bodyOf Try.f78) = true := by kernel_rfl
def slices_IndexFunc_2int2int_impl_Board_empty_f1_st2 (s0 : List (List Int)) (t74 : Int) (f6 : List Int) (t85 : Int) : St := ⟨expand 19 0 [0, 1, 7, 8] [(.rr 2 s0), (.fn 60 [] [(.ptr 0 0 0 16)]), (.int .i64 t74), (.int .i64 t85)], [(.var 16 (.ri .i64 f6))], 1, []⟩
def slices_IndexFunc_2int2int_impl_Board_empty_f1_o2 (s0 : List (List Int)) (t74 : Int) (f6 : List Int) (x : Bool × Int) : GT := (.br x.1 (.out (.ret ⟨expand 19 0 [4] [(.int .i64 x.2)], [(.var 16 (.ri .i64 f6))], 1, []⟩)) (.out (.exit 0 ⟨expand 19 0 [] [], [(.var 16 (.ri .i64 f6))], 1, []⟩)))
def slices_IndexFunc_2int2int_impl_Board_empty_f1_ls2 (F : Nat) : LoopS := ⟨19, [0, 1, 7, 8], [], [], [], [4], [], [], fun vals mem np killed => match vals, mem, np, killed with
  | [(.rr 2 s0), (.fn 60 [] [(.ptr 0 0 0 16)]), (.int .i64 t74), (.int .i64 t85)], [(.var 16 (.ri .i64 f6))], 1, [] => .br (slices_IndexFunc_2int2int_impl_Board_empty_f1_l2 F s0 t74 f6 t85).isSome (slices_IndexFunc_2int2int_impl_Board_empty_f1_o2 s0 t74 f6 ((slices_IndexFunc_2int2int_impl_Board_empty_f1_l2 F s0 t74 f6 t85).getD default)) .fail
  | _, _, _, _ => .fail⟩
theorem slices_IndexFunc_2int2int_impl_Board_empty_f1_step2 (F : Nat) (s0 : List (List Int)) (t74 : Int) (f6 : List Int) (t85 : Int) {R : Type} (k : Out → Option R) : stepS tt (slices_IndexFunc_2int2int_impl_Board_empty_f1_tab F) (slices_IndexFunc_2int2int_impl_Board_empty_f1_LS0 F) 70 (slices_IndexFunc_2int2int_impl_Board_empty_f1_ls2 F) (loopAt 2 (bodyOf Try.f78)) (slices_IndexFunc_2int2int_impl_Board_empty_f1_st2 s0 t74 f6 t85) k = slices_IndexFunc_2int2int_impl_Board_empty_f1_s2 F s0 t74 f6 R t85 (fun s => k (.norm (slices_IndexFunc_2int2int_impl_Board_empty_f1_st2 s0 t74 f6 s))) (fun x => (slices_IndexFunc_2int2int_impl_Board_empty_f1_o2 s0 t74 f6 x).run k) := by kernel_rfl
theorem slices_IndexFunc_2int2int_impl_Board_empty_f1_iter2 (F : Nat) (s0 : List (List Int)) (t74 : Int) (f6 : List Int) {R : Type} (k : Out → Option R) : ∀ (n : Nat) (t85 : Int), iterS tt (slices_IndexFunc_2int2int_impl_Board_empty_f1_tab F) (slices_IndexFunc_2int2int_impl_Board_empty_f1_LS0 F) 70 (slices_IndexFunc_2int2int_impl_Board_empty_f1_ls2 F) (loopAt 2 (bodyOf Try.f78)) n (slices_IndexFunc_2int2int_impl_Board_empty_f1_st2 s0 t74 f6 t85) k = loopC (slices_IndexFunc_2int2int_impl_Board_empty_f1_s2 F s0 t74 f6) n t85 (fun x => (slices_IndexFunc_2int2int_impl_Board_empty_f1_o2 s0 t74 f6 x).run k)
  | 0, t85 => rfl
  | n + 1, t85 => (iterS_succ tt (slices_IndexFunc_2int2int_impl_Board_empty_f1_tab F) (slices_IndexFunc_2int2int_impl_Board_empty_f1_LS0 F) 70 (slices_IndexFunc_2int2int_impl_Board_empty_f1_ls2 F) (loopAt 2 (bodyOf Try.f78)) n (slices_IndexFunc_2int2int_impl_Board_empty_f1_st2 s0 t74 f6 t85) k).trans ((slices_IndexFunc_2int2int_impl_Board_empty_f1_step2 F s0 t74 f6 t85 (nextK (iterS tt (slices_IndexFunc_2int2int_impl_Board_empty_f1_tab F) (slices_IndexFunc_2int2int_impl_Board_empty_f1_LS0 F) 70 (slices_IndexFunc_2int2int_impl_Board_empty_f1_ls2 F) (loopAt 2 (bodyOf Try.f78)) n) k)).trans (congrArg (fun kn => slices_IndexFunc_2int2int_impl_Board_empty_f1_s2 F s0 t74 f6 R t85 kn _) (funext (fun t85 => slices_IndexFunc_2int2int_impl_Board_empty_f1_iter2 F s0 t74 f6 k n t85))))
theorem slices_IndexFunc_2int2int_impl_Board_empty_f1_lok2 (F : Nat) : LoopOK Try.prog (loopAt 2 (bodyOf Try.f78)) (slices_IndexFunc_2int2int_impl_Board_empty_f1_ls2 F) := by
  refine loopOK_of mixed ttok deep (slices_IndexFunc_2int2int_impl_Board_empty_f1_tabok F) (loopsOK_at (slices_IndexFunc_2int2int_impl_Board_empty_f1_lsok0 F) 2) (fuel := 70) fun R vals mem np killed k x h => ?_
  simp only [slices_IndexFunc_2int2int_impl_Board_empty_f1_ls2] at h
  split at h
  · rename_i s0 t74 t85 f6
    simp only [GT.run] at h
    have hc := (cond_noneL h).1
    replace h := (cond_noneL h).2
    refine ⟨F, (slices_IndexFunc_2int2int_impl_Board_empty_f1_iter2 F s0 t74 f6 k F t85).trans ((loopC_use (slices_IndexFunc_2int2int_impl_Board_empty_f1_s2_nat F s0 t74 f6) hc _).trans h)⟩
  · simp only [GT.run] at h
    cases h
noncomputable def slices_IndexFunc_2int2int_impl_Board_empty_f1_LS1 (F : Nat) : LT := (2, slices_IndexFunc_2int2int_impl_Board_empty_f1_ls2 F) :: slices_IndexFunc_2int2int_impl_Board_empty_f1_LS0 F
theorem slices_IndexFunc_2int2int_impl_Board_empty_f1_lsok1 (F : Nat) : LoopsOK Try.prog (slices_IndexFunc_2int2int_impl_Board_empty_f1_LS1 F) (bodyOf Try.f78) := loopsOK_cons slices_IndexFunc_2int2int_impl_Board_empty_f1_keys (slices_IndexFunc_2int2int_impl_Board_empty_f1_lok2 F) (slices_IndexFunc_2int2int_impl_Board_empty_f1_lsok0 F)
theorem slices_IndexFunc_2int2int_impl_Board_empty_f1_run (F : Nat) (s0 : List (List Int)) (f4 : List Int) : runS tt (slices_IndexFunc_2int2int_impl_Board_empty_f1_tab F) (slices_IndexFunc_2int2int_impl_Board_empty_f1_LS1 F) [] [] Try.f78 (bodyOf Try.f78) 70 [(.rr 2 s0), (.fn 60 [] [(.ptr 0 0 0 16)])] [(.var 16 (.ri .i64 f4))] = slices_IndexFunc_2int2int_impl_Board_empty_f1_c _ F s0 f4 (fun r => some ⟨(.int .i64 r), [(.var 16 (.ri .i64 f4))], []⟩) := by kernel_rfl
def slices_IndexFunc_2int2int_impl_Board_empty_f1_ent (F : Nat) : Ent := ⟨[], .quiet, fun args mem => match args, mem with
  | [(.rr 2 s0), (.fn 60 [] [(.ptr 0 0 0 16)])], [(.var 16 (.ri .i64 f4))] => some ((slices_IndexFunc_2int2int_impl_Board_empty_f1_p F s0 f4).isSome, ⟨(.int .i64 ((slices_IndexFunc_2int2int_impl_Board_empty_f1_p F s0 f4).getD default)), [], []⟩)
  | _, _ => none⟩
theorem slices_IndexFunc_2int2int_impl_Board_empty_f1_fok : FunOK Try.prog 78 := funOK Try.func78 (by kernel_rfl) rfl
theorem slices_IndexFunc_2int2int_impl_Board_empty_f1_meets (F : Nat) : Meets Try.prog 78 (slices_IndexFunc_2int2int_impl_Board_empty_f1_ent F) := by
  refine meets_of_runS mixed ttok deep (slices_IndexFunc_2int2int_impl_Board_empty_f1_tabok F) Try.func78 (body_some rfl) (slices_IndexFunc_2int2int_impl_Board_empty_f1_lsok1 F) fun args mem hfit ret h => ?_
  clear hfit
  simp only [slices_IndexFunc_2int2int_impl_Board_empty_f1_ent] at h
  split at h
  · rename_i s0 f4
    simp only [Option.some.injEq, Prod.mk.injEq] at h
    obtain ⟨hc, rfl⟩ := h
    exact ⟨[], [], 70, _, (slices_IndexFunc_2int2int_impl_Board_empty_f1_run F s0 f4).trans ((slices_IndexFunc_2int2int_impl_Board_empty_f1_cp _ F s0 f4 _).trans (bind_use hc _)), rfl, rfl, rfl⟩
  · cases h

/-! slices.DeleteFunc[[][2]int,[2]int] -/
noncomputable def slices_DeleteFunc_2int2int_impl_Board_empty_f1_tab (F : Nat) : Tab := [(78, (slices_IndexFunc_2int2int_impl_Board_empty_f1_ent F)), (60, (impl_Board_empty_f1_ent F))]
theorem slices_DeleteFunc_2int2int_impl_Board_empty_f1_tabok (F : Nat) : TabOK Try.prog (slices_DeleteFunc_2int2int_impl_Board_empty_f1_tab F) := (tab_cons (slices_IndexFunc_2int2int_impl_Board_empty_f1_meets F) slices_IndexFunc_2int2int_impl_Board_empty_f1_fok (tab_cons (impl_Board_empty_f1_meets F) impl_Board_empty_f1_fok tab_nil))
noncomputable def slices_DeleteFunc_2int2int_impl_Board_empty_f1_LS0 (F : Nat) : LT := []
theorem slices_DeleteFunc_2int2int_impl_Board_empty_f1_lsok0 (F : Nat) : LoopsOK Try.prog (slices_DeleteFunc_2int2int_impl_Board_empty_f1_LS0 F) (bodyOf Try.f58) := loopsOK_nil
theorem slices_DeleteFunc_2int2int_impl_Board_empty_f1_keys : keysOK (bodyOf Try.f58) = true := by kernel_rfl
def slices_DeleteFunc_2int2int_impl_Board_empty_f1_st5 (s1 : Nat) (del8 : List Int) (i5 : Int) (j6 : Int) (s7 : List (List Int)) : St := ⟨expand 42 0 [0, 1, 5, 6] [(.sl 0 0 s1), (.fn 60 [] [(.ptr 1 0 0 16)]), (.int .i64 i5), (.int .i64 j6)], [(.vec 33 (.rr 2 s7)), (.var 16 (.ri .i64 del8))], 2, []⟩
def slices_DeleteFunc_2int2int_impl_Board_empty_f1_o5 (s1 : Nat) (del8 : List Int) (x : Int × List (List Int)) : GT := (.out (.exit 0 ⟨expand 42 0 [0, 5] [(.sl 0 0 s1), (.int .i64 x.1)], [(.vec 33 (.rr 2 x.2)), (.var 16 (.ri .i64 del8))], 2, []⟩))
def slices_DeleteFunc_2int2int_impl_Board_empty_f1_ls5 (F : Nat) : LoopS := ⟨42, [0, 1, 5, 6], [], [0, 5], [], [4], [], [], fun vals mem np killed => match vals, mem, np, killed with
  | [(.sl 0 0 s1), (.fn 60 [] [(.ptr 1 0 0 16)]), (.int .i64 i5), (.int .i64 j6)], [(.vec 33 (.rr 2 s7)), (.var 16 (.ri .i64 del8))], 2, [] => .br (slices_DeleteFunc_2int2int_impl_Board_empty_f1_l5 F s1 del8 i5 j6 s7).isSome (slices_DeleteFunc_2int2int_impl_Board_empty_f1_o5 s1 del8 ((slices_DeleteFunc_2int2int_impl_Board_empty_f1_l5 F s1 del8 i5 j6 s7).getD default)) .fail
  | _, _, _, _ => .fail⟩
theorem slices_DeleteFunc_2int2int_impl_Board_empty_f1_step5 (F : Nat) (s1 : Nat) (del8 : List Int) (i5 : Int) (j6 : Int) (s7 : List (List Int)) {R : Type} (k : Out → Option R) : stepS tt (slices_DeleteFunc_2int2int_impl_Board_empty_f1_tab F) (slices_DeleteFunc_2int2int_impl_Board_empty_f1_LS0 F) 70 (slices_DeleteFunc_2int2int_impl_Board_empty_f1_ls5 F) (loopAt 5 (bodyOf Try.f58)) (slices_DeleteFunc_2int2int_impl_Board_empty_f1_st5 s1 del8 i5 j6 s7) k = slices_DeleteFunc_2int2int_impl_Board_empty_f1_s5 F s1 del8 R (i5, j6, s7) (fun s => k (.norm (slices_DeleteFunc_2int2int_impl_Board_empty_f1_st5 s1 del8 s.1 s.2.1 s.2.2))) (fun x => (slices_DeleteFunc_2int2int_impl_Board_empty_f1_o5 s1 del8 x).run k) := by kernel_rfl
theorem slices_DeleteFunc_2int2int_impl_Board_empty_f1_iter5 (F : Nat) (s1 : Nat) (del8 : List Int) {R : Type} (k : Out → Option R) : ∀ (n : Nat) (i5 : Int) (j6 : Int) (s7 : List (List Int)), iterS tt (slices_DeleteFunc_2int2int_impl_Board_empty_f1_tab F) (slices_DeleteFunc_2int2int_impl_Board_empty_f1_LS0 F) 70 (slices_DeleteFunc_2int2int_impl_Board_empty_f1_ls5 F) (loopAt 5 (bodyOf Try.f58)) n (slices_DeleteFunc_2int2int_impl_Board_empty_f1_st5 s1 del8 i5 j6 s7) k = loopC (slices_DeleteFunc_2int2int_impl_Board_empty_f1_s5 F s1 del8) n (i5, j6, s7) (fun x => (slices_DeleteFunc_2int2int_impl_Board_empty_f1_o5 s1 del8 x).run k)
  | 0, i5, j6, s7 => rfl
  | n + 1, i5, j6, s7 => (iterS_succ tt (slices_DeleteFunc_2int2int_impl_Board_empty_f1_tab F) (slices_DeleteFunc_2int2int_impl_Board_empty_f1_LS0 F) 70 (slices_DeleteFunc_2int2int_impl_Board_empty_f1_ls5 F) (loopAt 5 (bodyOf Try.f58)) n (slices_DeleteFunc_2int2int_impl_Board_empty_f1_st5 s1 del8 i5 j6 s7) k).trans ((slices_DeleteFunc_2int2int_impl_Board_empty_f1_step5 F s1 del8 i5 j6 s7 (nextK (iterS tt (slices_DeleteFunc_2int2int_impl_Board_empty_f1_tab F) (slices_DeleteFunc_2int2int_impl_Board_empty_f1_LS0 F) 70 (slices_DeleteFunc_2int2int_impl_Board_empty_f1_ls5 F) (loopAt 5 (bodyOf Try.f58)) n) k)).trans (congrArg (fun kn => slices_DeleteFunc_2int2int_impl_Board_empty_f1_s5 F s1 del8 R (i5, j6, s7) kn _) (funext (fun ⟨i5, j6, s7⟩ => slices_DeleteFunc_2int2int_impl_Board_empty_f1_iter5 F s1 del8 k n i5 j6 s7))))
theorem slices_DeleteFunc_2int2int_impl_Board_empty_f1_lok5 (F : Nat) : LoopOK Try.prog (loopAt 5 (bodyOf Try.f58)) (slices_DeleteFunc_2int2int_impl_Board_empty_f1_ls5 F) := by
  refine loopOK_of mixed ttok deep (slices_DeleteFunc_2int2int_impl_Board_empty_f1_tabok F) (loopsOK_at (slices_DeleteFunc_2int2int_impl_Board_empty_f1_lsok0 F) 5) (fuel := 70) fun R vals mem np killed k x h => ?_
  simp only [slices_DeleteFunc_2int2int_impl_Board_empty_f1_ls5] at h
  split at h
  · rename_i s1 i5 j6 s7 del8
    simp only [GT.run] at h
    have hc := (cond_noneL h).1
    replace h := (cond_noneL h).2
    refine ⟨F, (slices_DeleteFunc_2int2int_impl_Board_empty_f1_iter5 F s1 del8 k F i5 j6 s7).trans ((loopC_use (slices_DeleteFunc_2int2int_impl_Board_empty_f1_s5_nat F s1 del8) hc _).trans h)⟩
  · simp only [GT.run] at h
    cases h
noncomputable def slices_DeleteFunc_2int2int_impl_Board_empty_f1_LS1 (F : Nat) : LT := (5, slices_DeleteFunc_2int2int_impl_Board_empty_f1_ls5 F) :: slices_DeleteFunc_2int2int_impl_Board_empty_f1_LS0 F
theorem slices_DeleteFunc_2int2int_impl_Board_empty_f1_lsok1 (F : Nat) : LoopsOK Try.prog (slices_DeleteFunc_2int2int_impl_Board_empty_f1_LS1 F) (bodyOf Try.f58) := loopsOK_cons slices_DeleteFunc_2int2int_impl_Board_empty_f1_keys (slices_DeleteFunc_2int2int_impl_Board_empty_f1_lok5 F) (slices_DeleteFunc_2int2int_impl_Board_empty_f1_lsok0 F)
theorem slices_DeleteFunc_2int2int_impl_Board_empty_f1_run (F : Nat) (s5 : List (List Int)) (del6 : List Int) : runS tt (slices_DeleteFunc_2int2int_impl_Board_empty_f1_tab F) (slices_DeleteFunc_2int2int_impl_Board_empty_f1_LS1 F) [] [] Try.f58 (bodyOf Try.f58) 70 [(.sl 0 0 (List.length s5)), (.fn 60 [] [(.ptr 1 0 0 16)])] [(.vec 33 (.rr 2 s5)), (.var 16 (.ri .i64 del6))] = slices_DeleteFunc_2int2int_impl_Board_empty_f1_c _ F s5 del6 (fun r => some ⟨(.sl 0 0 r.1), [(.vec 33 (.rr 2 r.2)), (.var 16 (.ri .i64 del6))], []⟩) := by kernel_rfl
def slices_DeleteFunc_2int2int_impl_Board_empty_f1_ent (F : Nat) : Ent := ⟨[true], .loud, fun args mem => match args, mem with
  | [(.sl 0 0 q_s1), (.fn 60 [] [(.ptr 1 0 0 16)])], [(.vec 33 (.rr 2 s5)), (.var 16 (.ri .i64 del6))] => some (((Nat.beq q_s1 (List.length s5)) && (slices_DeleteFunc_2int2int_impl_Board_empty_f1_p F s5 del6).isSome), ⟨(.sl 0 0 ((slices_DeleteFunc_2int2int_impl_Board_empty_f1_p F s5 del6).getD default).1), [(.vec 33 (.rr 2 ((slices_DeleteFunc_2int2int_impl_Board_empty_f1_p F s5 del6).getD default).2)), (.var 16 (.ri .i64 del6))], []⟩)
  | _, _ => none⟩
theorem slices_DeleteFunc_2int2int_impl_Board_empty_f1_fok : FunOK Try.prog 58 := funOK Try.func58 (by kernel_rfl) rfl
theorem slices_DeleteFunc_2int2int_impl_Board_empty_f1_meets (F : Nat) : Meets Try.prog 58 (slices_DeleteFunc_2int2int_impl_Board_empty_f1_ent F) := by
  refine meets_of_runS mixed ttok deep (slices_DeleteFunc_2int2int_impl_Board_empty_f1_tabok F) Try.func58 (body_some rfl) (slices_DeleteFunc_2int2int_impl_Board_empty_f1_lsok1 F) fun args mem hfit ret h => ?_
  clear hfit
  simp only [slices_DeleteFunc_2int2int_impl_Board_empty_f1_ent] at h
  split at h
  · rename_i q_s1 s5 del6
    simp only [Option.some.injEq, Prod.mk.injEq] at h
    obtain ⟨hc, rfl⟩ := h
    have hg := (and_split hc).1
    replace hc := (and_split hc).2
    obtain rfl := nbeq_nat hg
    exact ⟨[], [], 70, _, (slices_DeleteFunc_2int2int_impl_Board_empty_f1_run F s5 del6).trans ((slices_DeleteFunc_2int2int_impl_Board_empty_f1_cp _ F s5 del6 _).trans (bind_use hc _)), rfl, rfl, rfl⟩
  · cases h

/-! (loop.example/g01194/impl.Board).empty -/
noncomputable def impl_Board_empty_tab (F : Nat) : Tab := [(59, (impl_cells_ent F)), (58, (slices_DeleteFunc_2int2int_impl_Board_empty_f1_ent F))]
theorem impl_Board_empty_tabok (F : Nat) : TabOK Try.prog (impl_Board_empty_tab F) := (tab_cons (impl_cells_meets F) impl_cells_fok (tab_cons (slices_DeleteFunc_2int2int_impl_Board_empty_f1_meets F) slices_DeleteFunc_2int2int_impl_Board_empty_f1_fok tab_nil))
noncomputable def impl_Board_empty_LS0 (F : Nat) : LT := []
theorem impl_Board_empty_lsok0 (F : Nat) : LoopsOK Try.prog (impl_Board_empty_LS0 F) (bodyOf Try.f32) := loopsOK_nil
theorem impl_Board_empty_run (F : Nat) (b0 : List Int) : runS tt (impl_Board_empty_tab F) (impl_Board_empty_LS0 F) [] [] Try.f32 (bodyOf Try.f32) 70 [(.ints 16 b0)] [] = impl_Board_empty_c _ F b0 (fun r => some ⟨(.sl 0 0 r.1), [(.vec 33 (.rr 2 r.2))], []⟩) := by kernel_rfl
def impl_Board_empty_ent (F : Nat) : Ent := ⟨[], .fresh, fun args mem => match args, mem with
  | [(.ints 16 b0)], [] => some ((impl_Board_empty_p F b0).isSome, ⟨(.sl 0 0 ((impl_Board_empty_p F b0).getD default).1), [(.vec 33 (.rr 2 ((impl_Board_empty_p F b0).getD default).2))], []⟩)
  | _, _ => none⟩
theorem impl_Board_empty_fok : FunOK Try.prog 32 := funOK Try.func32 (by kernel_rfl) rfl
theorem impl_Board_empty_meets (F : Nat) : Meets Try.prog 32 (impl_Board_empty_ent F) := by
  refine meets_of_runS mixed ttok deep (impl_Board_empty_tabok F) Try.func32 (body_some rfl) (impl_Board_empty_lsok0 F) fun args mem hfit ret h => ?_
  clear hfit
  simp only [impl_Board_empty_ent] at h
  split at h
  · rename_i b0
    simp only [Option.some.injEq, Prod.mk.injEq] at h
    obtain ⟨hc, rfl⟩ := h
    exact ⟨[], [], 70, _, (impl_Board_empty_run F b0).trans ((impl_Board_empty_cp _ F b0 _).trans (bind_use hc _)), rfl, rfl, rfl⟩
  · cases h

/-! (loop.example/g01194/impl.Board).placements -/
noncomputable def impl_Board_placements_tab (F : Nat) : Tab := [(32, (impl_Board_empty_ent F))]
theorem impl_Board_placements_tabok (F : Nat) : TabOK Try.prog (impl_Board_placements_tab F) := (tab_cons (impl_Board_empty_meets F) impl_Board_empty_fok tab_nil)
noncomputable def impl_Board_placements_LS0 (F : Nat) : LT := []
theorem impl_Board_placements_lsok0 (F : Nat) : LoopsOK Try.prog (impl_Board_placements_LS0 F) (bodyOf Try.f47) := loopsOK_nil
theorem impl_Board_placements_keys : keysOK (bodyOf Try.f47) = true := by kernel_rfl
def impl_Board_placements_st3 (t83 : Nat) (t94 : Int) (t87 : List (List Int)) (t105 : Int) (out6 : List (List Int)) : St := ⟨expand 29 0 [3, 8, 9, 10] [(.sl 0 0 (List.length out6)), (.sl 1 0 t83), (.int .i64 t94), (.int .i64 t105)], [(.vec 26 (.rr 3 out6)), (.vec 33 (.rr 2 t87))], 0, []⟩
def impl_Board_placements_o3 (t83 : Nat) (t94 : Int) (t87 : List (List Int)) (x : List (List Int)) : GT := (.out (.exit 0 ⟨expand 29 0 [3] [(.sl 0 0 (List.length x))], [(.vec 26 (.rr 3 x))], 0, []⟩))
def impl_Board_placements_ls3 (F : Nat) : LoopS := ⟨29, [3, 8, 9, 10], [], [3], [], [2], [], [], fun vals mem np killed => match vals, mem, np, killed with
  | [(.sl 0 0 q_out1), (.sl 1 0 t83), (.int .i64 t94), (.int .i64 t105)], [(.vec 26 (.rr 3 out6)), (.vec 33 (.rr 2 t87))], 0, [] => .br ((Nat.beq q_out1 (List.length out6)) && (impl_Board_placements_l3 F t83 t94 t87 t105 out6).isSome) (impl_Board_placements_o3 t83 t94 t87 ((impl_Board_placements_l3 F t83 t94 t87 t105 out6).getD default)) .fail
  | _, _, _, _ => .fail⟩
theorem impl_Board_placements_step3 (F : Nat) (t83 : Nat) (t94 : Int) (t87 : List (List Int)) (t105 : Int) (out6 : List (List Int)) {R : Type} (k : Out → Option R) : stepS tt (impl_Board_placements_tab F) (impl_Board_placements_LS0 F) 70 (impl_Board_placements_ls3 F) (loopAt 3 (bodyOf Try.f47)) (impl_Board_placements_st3 t83 t94 t87 t105 out6) k = impl_Board_placements_s3 F t83 t94 t87 R (t105, out6) (fun s => k (.norm (impl_Board_placements_st3 t83 t94 t87 s.1 s.2))) (fun x => (impl_Board_placements_o3 t83 t94 t87 x).run k) := by kernel_rfl
theorem impl_Board_placements_iter3 (F : Nat) (t83 : Nat) (t94 : Int) (t87 : List (List Int)) {R : Type} (k : Out → Option R) : ∀ (n : Nat) (t105 : Int) (out6 : List (List Int)), iterS tt (impl_Board_placements_tab F) (impl_Board_placements_LS0 F) 70 (impl_Board_placements_ls3 F) (loopAt 3 (bodyOf Try.f47)) n (impl_Board_placements_st3 t83 t94 t87 t105 out6) k = loopC (impl_Board_placements_s3 F t83 t94 t87) n (t105, out6) (fun x => (impl_Board_placements_o3 t83 t94 t87 x).run k)
  | 0, t105, out6 => rfl
  | n + 1, t105, out6 => (iterS_succ tt (impl_Board_placements_tab F) (impl_Board_placements_LS0 F) 70 (impl_Board_placements_ls3 F) (loopAt 3 (bodyOf Try.f47)) n (impl_Board_placements_st3 t83 t94 t87 t105 out6) k).trans ((impl_Board_placements_step3 F t83 t94 t87 t105 out6 (nextK (iterS tt (impl_Board_placements_tab F) (impl_Board_placements_LS0 F) 70 (impl_Board_placements_ls3 F) (loopAt 3 (bodyOf Try.f47)) n) k)).trans (congrArg (fun kn => impl_Board_placements_s3 F t83 t94 t87 R (t105, out6) kn _) (funext (fun ⟨t105, out6⟩ => impl_Board_placements_iter3 F t83 t94 t87 k n t105 out6))))
theorem impl_Board_placements_lok3 (F : Nat) : LoopOK Try.prog (loopAt 3 (bodyOf Try.f47)) (impl_Board_placements_ls3 F) := by
  refine loopOK_of mixed ttok deep (impl_Board_placements_tabok F) (loopsOK_at (impl_Board_placements_lsok0 F) 3) (fuel := 70) fun R vals mem np killed k x h => ?_
  simp only [impl_Board_placements_ls3] at h
  split at h
  · rename_i q_out1 t83 t94 t105 out6 t87
    simp only [GT.run] at h
    have hc := (cond_noneL h).1
    replace h := (cond_noneL h).2
    have hg := (and_split hc).1
    replace hc := (and_split hc).2
    obtain rfl := nbeq_nat hg
    refine ⟨F, (impl_Board_placements_iter3 F t83 t94 t87 k F t105 out6).trans ((loopC_use (impl_Board_placements_s3_nat F t83 t94 t87) hc _).trans h)⟩
  · simp only [GT.run] at h
    cases h
noncomputable def impl_Board_placements_LS1 (F : Nat) : LT := (3, impl_Board_placements_ls3 F) :: impl_Board_placements_LS0 F
theorem impl_Board_placements_lsok1 (F : Nat) : LoopsOK Try.prog (impl_Board_placements_LS1 F) (bodyOf Try.f47) := loopsOK_cons impl_Board_placements_keys (impl_Board_placements_lok3 F) (impl_Board_placements_lsok0 F)
theorem impl_Board_placements_run (F : Nat) (b0 : List Int) : runS tt (impl_Board_placements_tab F) (impl_Board_placements_LS1 F) [] [] Try.f47 (bodyOf Try.f47) 70 [(.ints 16 b0)] [] = impl_Board_placements_c _ F b0 (fun r => some ⟨(.sl 0 0 (List.length r)), [(.vec 26 (.rr 3 r))], []⟩) := by kernel_rfl
def impl_Board_placements_ent (F : Nat) : Ent := ⟨[], .fresh, fun args mem => match args, mem with
  | [(.ints 16 b0)], [] => some ((impl_Board_placements_p F b0).isSome, ⟨(.sl 0 0 (List.length ((impl_Board_placements_p F b0).getD default))), [(.vec 26 (.rr 3 ((impl_Board_placements_p F b0).getD default)))], []⟩)
  | _, _ => none⟩
theorem impl_Board_placements_fok : FunOK Try.prog 47 := funOK Try.func47 (by kernel_rfl) rfl
theorem impl_Board_placements_meets (F : Nat) : Meets Try.prog 47 (impl_Board_placements_ent F) := by
  refine meets_of_runS mixed ttok deep (impl_Board_placements_tabok F) Try.func47 (body_some rfl) (impl_Board_placements_lsok1 F) fun args mem hfit ret h => ?_
  clear hfit
  simp only [impl_Board_placements_ent] at h
  split at h
  · rename_i b0
    simp only [Option.some.injEq, Prod.mk.injEq] at h
    obtain ⟨hc, rfl⟩ := h
    exact ⟨[], [], 70, _, (impl_Board_placements_run F b0).trans ((impl_Board_placements_cp _ F b0 _).trans (bind_use hc _)), rfl, rfl, rfl⟩
  · cases h

/-! (loop.example/g01194/impl.Board).placed -/
noncomputable def impl_Board_placed_tab (F : Nat) : Tab := []
theorem impl_Board_placed_tabok (F : Nat) : TabOK Try.prog (impl_Board_placed_tab F) := tab_nil
noncomputable def impl_Board_placed_LS0 (F : Nat) : LT := []
theorem impl_Board_placed_lsok0 (F : Nat) : LoopsOK Try.prog (impl_Board_placed_LS0 F) (bodyOf Try.f49) := loopsOK_nil
theorem impl_Board_placed_run (F : Nat) (b0 : List Int) (p1 : List Int) : runS tt (impl_Board_placed_tab F) (impl_Board_placed_LS0 F) [] [] Try.f49 (bodyOf Try.f49) 70 [(.ints 16 b0), (.ints 3 p1)] [] = impl_Board_placed_c _ b0 p1 (fun r => some ⟨(.ints 16 r), [], []⟩) := by kernel_rfl
def impl_Board_placed_ent (F : Nat) : Ent := ⟨[], .quiet, fun args mem => match args, mem with
  | [(.ints 16 b0), (.ints 3 p1)], [] => some ((impl_Board_placed_p b0 p1).isSome, ⟨(.ints 16 ((impl_Board_placed_p b0 p1).getD default)), [], []⟩)
  | _, _ => none⟩
theorem impl_Board_placed_fok : FunOK Try.prog 49 := funOK Try.func49 (by kernel_rfl) rfl
theorem impl_Board_placed_meets (F : Nat) : Meets Try.prog 49 (impl_Board_placed_ent F) := by
  refine meets_of_runS mixed ttok deep (impl_Board_placed_tabok F) Try.func49 (body_some rfl) (impl_Board_placed_lsok0 F) fun args mem hfit ret h => ?_
  clear hfit
  simp only [impl_Board_placed_ent] at h
  split at h
  · rename_i b0 p1
    simp only [Option.some.injEq, Prod.mk.injEq] at h
    obtain ⟨hc, rfl⟩ := h
    exact ⟨[], [], 70, _, (impl_Board_placed_run F b0 p1).trans ((impl_Board_placed_cp _ b0 p1 _).trans (bind_use hc _)), rfl, rfl, rfl⟩
  · cases h
end Go.Proofs.Ytplclbkelohajaa
