/-
Pure functions and what the code of them does, by program; without conditions.
-/
import Derived.Test.YtplclbkelohajaaTFP5
import Derived.Test.YtplclbkelohajaaTFS4
namespace Go.Proofs.Ytplclbkelohajaa
open Go Go.Lv Go.Lv.P Go.Proofs
set_option linter.unusedVariables false
set_option linter.unusedSimpArgs false
set_option maxRecDepth 100000
/-! slices.DeleteFunc[[][3]int,[3]int] -/
noncomputable def slices_DeleteFunc_3int3int_impl_DeadPlaces_f1_tab (F : Nat) : Tab := [(71, (slices_IndexFunc_3int3int_impl_DeadPlaces_f1_ent F)), (48, (impl_DeadPlaces_f1_ent F))]
theorem slices_DeleteFunc_3int3int_impl_DeadPlaces_f1_tabok (F : Nat) : TabOK Try.prog (slices_DeleteFunc_3int3int_impl_DeadPlaces_f1_tab F) := (tab_cons (slices_IndexFunc_3int3int_impl_DeadPlaces_f1_meets F) slices_IndexFunc_3int3int_impl_DeadPlaces_f1_fok (tab_cons (impl_DeadPlaces_f1_meets F) impl_DeadPlaces_f1_fok tab_nil))
noncomputable def slices_DeleteFunc_3int3int_impl_DeadPlaces_f1_LS0 (F : Nat) : LT := []
theorem slices_DeleteFunc_3int3int_impl_DeadPlaces_f1_lsok0 (F : Nat) : LoopsOK Try.prog (slices_DeleteFunc_3int3int_impl_DeadPlaces_f1_LS0 F) (bodyOf Try.f46) := loopsOK_nil
theorem slices_DeleteFunc_3int3int_impl_DeadPlaces_f1_keys : keysOK (bodyOf Try.f46) = true := by kernel_rfl
def slices_DeleteFunc_3int3int_impl_DeadPlaces_f1_st5 (s1 : Nat) (del8 : List Int) (i5 : Int) (j6 : Int) (s7 : List (List Int)) : St := ⟨expand 42 0 [0, 1, 5, 6] [(.sl 0 0 s1), (.fn 48 [] [(.ptr 1 0 0 16)]), (.int .i64 i5), (.int .i64 j6)], [(.vec 26 (.rr 3 s7)), (.var 16 (.ri .i64 del8))], 2, []⟩
def slices_DeleteFunc_3int3int_impl_DeadPlaces_f1_o5 (s1 : Nat) (del8 : List Int) (x : Int × List (List Int)) : GT := (.out (.exit 0 ⟨expand 42 0 [0, 5] [(.sl 0 0 s1), (.int .i64 x.1)], [(.vec 26 (.rr 3 x.2)), (.var 16 (.ri .i64 del8))], 2, []⟩))
def slices_DeleteFunc_3int3int_impl_DeadPlaces_f1_ls5 (F : Nat) : LoopS := ⟨42, [0, 1, 5, 6], [], [0, 5], [], [4], [], [], fun vals mem np killed => match vals, mem, np, killed with
  | [(.sl 0 0 s1), (.fn 48 [] [(.ptr 1 0 0 16)]), (.int .i64 i5), (.int .i64 j6)], [(.vec 26 (.rr 3 s7)), (.var 16 (.ri .i64 del8))], 2, [] => .br (slices_DeleteFunc_3int3int_impl_DeadPlaces_f1_l5 F s1 del8 i5 j6 s7).isSome (slices_DeleteFunc_3int3int_impl_DeadPlaces_f1_o5 s1 del8 ((slices_DeleteFunc_3int3int_impl_DeadPlaces_f1_l5 F s1 del8 i5 j6 s7).getD default)) .fail
  | _, _, _, _ => .fail⟩
theorem slices_DeleteFunc_3int3int_impl_DeadPlaces_f1_step5 (F : Nat) (s1 : Nat) (del8 : List Int) (i5 : Int) (j6 : Int) (s7 : List (List Int)) {R : Type} (k : Out → Option R) : stepS tt (slices_DeleteFunc_3int3int_impl_DeadPlaces_f1_tab F) (slices_DeleteFunc_3int3int_impl_DeadPlaces_f1_LS0 F) 70 (slices_DeleteFunc_3int3int_impl_DeadPlaces_f1_ls5 F) (loopAt 5 (bodyOf Try.f46)) (slices_DeleteFunc_3int3int_impl_DeadPlaces_f1_st5 s1 del8 i5 j6 s7) k = slices_DeleteFunc_3int3int_impl_DeadPlaces_f1_s5 F s1 del8 R (i5, j6, s7) (fun s => k (.norm (slices_DeleteFunc_3int3int_impl_DeadPlaces_f1_st5 s1 del8 s.1 s.2.1 s.2.2))) (fun x => (slices_DeleteFunc_3int3int_impl_DeadPlaces_f1_o5 s1 del8 x).run k) := by kernel_rfl
theorem slices_DeleteFunc_3int3int_impl_DeadPlaces_f1_iter5 (F : Nat) (s1 : Nat) (del8 : List Int) {R : Type} (k : Out → Option R) : ∀ (n : Nat) (i5 : Int) (j6 : Int) (s7 : List (List Int)), iterS tt (slices_DeleteFunc_3int3int_impl_DeadPlaces_f1_tab F) (slices_DeleteFunc_3int3int_impl_DeadPlaces_f1_LS0 F) 70 (slices_DeleteFunc_3int3int_impl_DeadPlaces_f1_ls5 F) (loopAt 5 (bodyOf Try.f46)) n (slices_DeleteFunc_3int3int_impl_DeadPlaces_f1_st5 s1 del8 i5 j6 s7) k = loopC (slices_DeleteFunc_3int3int_impl_DeadPlaces_f1_s5 F s1 del8) n (i5, j6, s7) (fun x => (slices_DeleteFunc_3int3int_impl_DeadPlaces_f1_o5 s1 del8 x).run k)
  | 0, i5, j6, s7 => rfl
  | n + 1, i5, j6, s7 => (iterS_succ tt (slices_DeleteFunc_3int3int_impl_DeadPlaces_f1_tab F) (slices_DeleteFunc_3int3int_impl_DeadPlaces_f1_LS0 F) 70 (slices_DeleteFunc_3int3int_impl_DeadPlaces_f1_ls5 F) (loopAt 5 (bodyOf Try.f46)) n (slices_DeleteFunc_3int3int_impl_DeadPlaces_f1_st5 s1 del8 i5 j6 s7) k).trans ((slices_DeleteFunc_3int3int_impl_DeadPlaces_f1_step5 F s1 del8 i5 j6 s7 (nextK (iterS tt (slices_DeleteFunc_3int3int_impl_DeadPlaces_f1_tab F) (slices_DeleteFunc_3int3int_impl_DeadPlaces_f1_LS0 F) 70 (slices_DeleteFunc_3int3int_impl_DeadPlaces_f1_ls5 F) (loopAt 5 (bodyOf Try.f46)) n) k)).trans (congrArg (fun kn => slices_DeleteFunc_3int3int_impl_DeadPlaces_f1_s5 F s1 del8 R (i5, j6, s7) kn _) (funext (fun ⟨i5, j6, s7⟩ => slices_DeleteFunc_3int3int_impl_DeadPlaces_f1_iter5 F s1 del8 k n i5 j6 s7))))
theorem slices_DeleteFunc_3int3int_impl_DeadPlaces_f1_lok5 (F : Nat) : LoopOK Try.prog (loopAt 5 (bodyOf Try.f46)) (slices_DeleteFunc_3int3int_impl_DeadPlaces_f1_ls5 F) := by
  refine loopOK_of mixed ttok deep (slices_DeleteFunc_3int3int_impl_DeadPlaces_f1_tabok F) (loopsOK_at (slices_DeleteFunc_3int3int_impl_DeadPlaces_f1_lsok0 F) 5) (fuel := 70) fun R vals mem np killed k x h => ?_
  simp only [slices_DeleteFunc_3int3int_impl_DeadPlaces_f1_ls5] at h
  split at h
  · rename_i s1 i5 j6 s7 del8
    simp only [GT.run] at h
    have hc := (cond_noneL h).1
    replace h := (cond_noneL h).2
    refine ⟨F, (slices_DeleteFunc_3int3int_impl_DeadPlaces_f1_iter5 F s1 del8 k F i5 j6 s7).trans ((loopC_use (slices_DeleteFunc_3int3int_impl_DeadPlaces_f1_s5_nat F s1 del8) hc _).trans h)⟩
  · simp only [GT.run] at h
    cases h
noncomputable def slices_DeleteFunc_3int3int_impl_DeadPlaces_f1_LS1 (F : Nat) : LT := (5, slices_DeleteFunc_3int3int_impl_DeadPlaces_f1_ls5 F) :: slices_DeleteFunc_3int3int_impl_DeadPlaces_f1_LS0 F
theorem slices_DeleteFunc_3int3int_impl_DeadPlaces_f1_lsok1 (F : Nat) : LoopsOK Try.prog (slices_DeleteFunc_3int3int_impl_DeadPlaces_f1_LS1 F) (bodyOf Try.f46) := loopsOK_cons slices_DeleteFunc_3int3int_impl_DeadPlaces_f1_keys (slices_DeleteFunc_3int3int_impl_DeadPlaces_f1_lok5 F) (slices_DeleteFunc_3int3int_impl_DeadPlaces_f1_lsok0 F)
theorem slices_DeleteFunc_3int3int_impl_DeadPlaces_f1_run (F : Nat) (s5 : List (List Int)) (del6 : List Int) : runS tt (slices_DeleteFunc_3int3int_impl_DeadPlaces_f1_tab F) (slices_DeleteFunc_3int3int_impl_DeadPlaces_f1_LS1 F) [] [] Try.f46 (bodyOf Try.f46) 70 [(.sl 0 0 (List.length s5)), (.fn 48 [] [(.ptr 1 0 0 16)])] [(.vec 26 (.rr 3 s5)), (.var 16 (.ri .i64 del6))] = slices_DeleteFunc_3int3int_impl_DeadPlaces_f1_c _ F s5 del6 (fun r => some ⟨(.sl 0 0 r.1), [(.vec 26 (.rr 3 r.2)), (.var 16 (.ri .i64 del6))], []⟩) := by kernel_rfl
def slices_DeleteFunc_3int3int_impl_DeadPlaces_f1_ent (F : Nat) : Ent := ⟨[true], .loud, fun args mem => match args, mem with
  | [(.sl 0 0 q_s1), (.fn 48 [] [(.ptr 1 0 0 16)])], [(.vec 26 (.rr 3 s5)), (.var 16 (.ri .i64 del6))] => some (((Nat.beq q_s1 (List.length s5)) && (slices_DeleteFunc_3int3int_impl_DeadPlaces_f1_p F s5 del6).isSome), ⟨(.sl 0 0 ((slices_DeleteFunc_3int3int_impl_DeadPlaces_f1_p F s5 del6).getD default).1), [(.vec 26 (.rr 3 ((slices_DeleteFunc_3int3int_impl_DeadPlaces_f1_p F s5 del6).getD default).2)), (.var 16 (.ri .i64 del6))], []⟩)
  | _, _ => none⟩
theorem slices_DeleteFunc_3int3int_impl_DeadPlaces_f1_fok : FunOK Try.prog 46 := funOK Try.func46 (by kernel_rfl) rfl
theorem slices_DeleteFunc_3int3int_impl_DeadPlaces_f1_meets (F : Nat) : Meets Try.prog 46 (slices_DeleteFunc_3int3int_impl_DeadPlaces_f1_ent F) := by
  refine meets_of_runS mixed ttok deep (slices_DeleteFunc_3int3int_impl_DeadPlaces_f1_tabok F) Try.func46 (body_some rfl) (slices_DeleteFunc_3int3int_impl_DeadPlaces_f1_lsok1 F) fun args mem hfit ret h => ?_
  clear hfit
  simp only [slices_DeleteFunc_3int3int_impl_DeadPlaces_f1_ent] at h
  split at h
  · rename_i q_s1 s5 del6
    simp only [Option.some.injEq, Prod.mk.injEq] at h
    obtain ⟨hc, rfl⟩ := h
    have hg := (and_split hc).1
    replace hc := (and_split hc).2
    obtain rfl := nbeq_nat hg
    exact ⟨[], [], 70, _, (slices_DeleteFunc_3int3int_impl_DeadPlaces_f1_run F s5 del6).trans ((slices_DeleteFunc_3int3int_impl_DeadPlaces_f1_cp _ F s5 del6 _).trans (bind_use hc _)), rfl, rfl, rfl⟩
  · cases h

/-! loop.example/g01194/impl.DeadPlaces -/
noncomputable def impl_DeadPlaces_tab (F : Nat) : Tab := [(31, (impl_IsBoard_ent F)), (47, (impl_Board_placements_ent F)), (46, (slices_DeleteFunc_3int3int_impl_DeadPlaces_f1_ent F))]
theorem impl_DeadPlaces_tabok (F : Nat) : TabOK Try.prog (impl_DeadPlaces_tab F) := (tab_cons (impl_IsBoard_meets F) impl_IsBoard_fok (tab_cons (impl_Board_placements_meets F) impl_Board_placements_fok (tab_cons (slices_DeleteFunc_3int3int_impl_DeadPlaces_f1_meets F) slices_DeleteFunc_3int3int_impl_DeadPlaces_f1_fok tab_nil)))
noncomputable def impl_DeadPlaces_LS0 (F : Nat) : LT := []
theorem impl_DeadPlaces_lsok0 (F : Nat) : LoopsOK Try.prog (impl_DeadPlaces_LS0 F) (bodyOf Try.f21) := loopsOK_nil
theorem impl_DeadPlaces_run (F : Nat) (b0 : List Int) : runS tt (impl_DeadPlaces_tab F) (impl_DeadPlaces_LS0 F) [⟨2, 26, (.rr 3 ([] : List (List Int)))⟩] [] Try.f21 (bodyOf Try.f21) 70 [(.ints 16 b0)] [] = impl_DeadPlaces_c _ F b0 (fun r => some ⟨(.tup [(.sl 0 0 r.1), (.bool r.2.1)]), [(.vec 26 (.rr 3 r.2.2))], []⟩) := by kernel_rfl
def impl_DeadPlaces_ent (F : Nat) : Ent := ⟨[], .fresh, fun args mem => match args, mem with
  | [(.ints 16 b0)], [] => some ((impl_DeadPlaces_p F b0).isSome, ⟨(.tup [(.sl 0 0 ((impl_DeadPlaces_p F b0).getD default).1), (.bool ((impl_DeadPlaces_p F b0).getD default).2.1)]), [(.vec 26 (.rr 3 ((impl_DeadPlaces_p F b0).getD default).2.2))], []⟩)
  | _, _ => none⟩
theorem impl_DeadPlaces_fok : FunOK Try.prog 21 := funOK Try.func21 (by kernel_rfl) rfl
theorem impl_DeadPlaces_meets (F : Nat) : Meets Try.prog 21 (impl_DeadPlaces_ent F) := by
  refine meets_of_runS mixed ttok deep (impl_DeadPlaces_tabok F) Try.func21 (body_some rfl) (impl_DeadPlaces_lsok0 F) fun args mem hfit ret h => ?_
  clear hfit
  simp only [impl_DeadPlaces_ent] at h
  split at h
  · rename_i b0
    simp only [Option.some.injEq, Prod.mk.injEq] at h
    obtain ⟨hc, rfl⟩ := h
    exact ⟨[⟨2, 26, (.rr 3 ([] : List (List Int)))⟩], [], 70, _, (impl_DeadPlaces_run F b0).trans ((impl_DeadPlaces_cp _ F b0 _).trans (bind_use hc _)), rfl, rfl, rfl⟩
  · cases h

/-! loop.example/g01194/laws.eqIntA3S -/
noncomputable def laws_eqIntA3S_tab (F : Nat) : Tab := [(10, (laws_eqIntA3_ent F))]
theorem laws_eqIntA3S_tabok (F : Nat) : TabOK Try.prog (laws_eqIntA3S_tab F) := (tab_cons (laws_eqIntA3_meets F) laws_eqIntA3_fok tab_nil)
noncomputable def laws_eqIntA3S_LS0 (F : Nat) : LT := []
theorem laws_eqIntA3S_lsok0 (F : Nat) : LoopsOK Try.prog (laws_eqIntA3S_LS0 F) (bodyOf Try.f22) := loopsOK_nil
theorem laws_eqIntA3S_keys : keysOK (bodyOf Try.f22) = true := by kernel_rfl
def laws_eqIntA3S_st4 (a0 : List (List Int)) (b1 : List (List Int)) (i2 : Int) : St := ⟨expand 27 0 [0, 1, 5] [(.rr 3 a0), (.rr 3 b1), (.int .i64 i2)], [], 0, []⟩
def laws_eqIntA3S_o4 (a0 : List (List Int)) (b1 : List (List Int)) (x : Bool) : GT := (.br x (.out (.ret ⟨expand 27 0 [4] [(.bool false)], [], 0, []⟩)) (.out (.exit 0 ⟨expand 27 0 [] [], [], 0, []⟩)))
def laws_eqIntA3S_ls4 (F : Nat) : LoopS := ⟨27, [0, 1, 5], [], [], [], [4], [], [], fun vals mem np killed => match vals, mem, np, killed with
  | [(.rr 3 a0), (.rr 3 b1), (.int .i64 i2)], [], 0, [] => .br (laws_eqIntA3S_l4 F a0 b1 i2).isSome (laws_eqIntA3S_o4 a0 b1 ((laws_eqIntA3S_l4 F a0 b1 i2).getD default)) .fail
  | _, _, _, _ => .fail⟩
theorem laws_eqIntA3S_step4 (F : Nat) (a0 : List (List Int)) (b1 : List (List Int)) (i2 : Int) {R : Type} (k : Out → Option R) : stepS tt (laws_eqIntA3S_tab F) (laws_eqIntA3S_LS0 F) 70 (laws_eqIntA3S_ls4 F) (loopAt 4 (bodyOf Try.f22)) (laws_eqIntA3S_st4 a0 b1 i2) k = laws_eqIntA3S_s4 F a0 b1 R i2 (fun s => k (.norm (laws_eqIntA3S_st4 a0 b1 s))) (fun x => (laws_eqIntA3S_o4 a0 b1 x).run k) := by kernel_rfl
theorem laws_eqIntA3S_iter4 (F : Nat) (a0 : List (List Int)) (b1 : List (List Int)) {R : Type} (k : Out → Option R) : ∀ (n : Nat) (i2 : Int), iterS tt (laws_eqIntA3S_tab F) (laws_eqIntA3S_LS0 F) 70 (laws_eqIntA3S_ls4 F) (loopAt 4 (bodyOf Try.f22)) n (laws_eqIntA3S_st4 a0 b1 i2) k = loopC (laws_eqIntA3S_s4 F a0 b1) n i2 (fun x => (laws_eqIntA3S_o4 a0 b1 x).run k)
  | 0, i2 => rfl
  | n + 1, i2 => (iterS_succ tt (laws_eqIntA3S_tab F) (laws_eqIntA3S_LS0 F) 70 (laws_eqIntA3S_ls4 F) (loopAt 4 (bodyOf Try.f22)) n (laws_eqIntA3S_st4 a0 b1 i2) k).trans ((laws_eqIntA3S_step4 F a0 b1 i2 (nextK (iterS tt (laws_eqIntA3S_tab F) (laws_eqIntA3S_LS0 F) 70 (laws_eqIntA3S_ls4 F) (loopAt 4 (bodyOf Try.f22)) n) k)).trans (congrArg (fun kn => laws_eqIntA3S_s4 F a0 b1 R i2 kn _) (funext (fun i2 => laws_eqIntA3S_iter4 F a0 b1 k n i2))))
theorem laws_eqIntA3S_lok4 (F : Nat) : LoopOK Try.prog (loopAt 4 (bodyOf Try.f22)) (laws_eqIntA3S_ls4 F) := by
  refine loopOK_of mixed ttok deep (laws_eqIntA3S_tabok F) (loopsOK_at (laws_eqIntA3S_lsok0 F) 4) (fuel := 70) fun R vals mem np killed k x h => ?_
  simp only [laws_eqIntA3S_ls4] at h
  split at h
  · rename_i a0 b1 i2
    simp only [GT.run] at h
    have hc := (cond_noneL h).1
    replace h := (cond_noneL h).2
    refine ⟨F, (laws_eqIntA3S_iter4 F a0 b1 k F i2).trans ((loopC_use (laws_eqIntA3S_s4_nat F a0 b1) hc _).trans h)⟩
  · simp only [GT.run] at h
    cases h
noncomputable def laws_eqIntA3S_LS1 (F : Nat) : LT := (4, laws_eqIntA3S_ls4 F) :: laws_eqIntA3S_LS0 F
theorem laws_eqIntA3S_lsok1 (F : Nat) : LoopsOK Try.prog (laws_eqIntA3S_LS1 F) (bodyOf Try.f22) := loopsOK_cons laws_eqIntA3S_keys (laws_eqIntA3S_lok4 F) (laws_eqIntA3S_lsok0 F)
theorem laws_eqIntA3S_run (F : Nat) (a0 : List (List Int)) (b1 : List (List Int)) : runS tt (laws_eqIntA3S_tab F) (laws_eqIntA3S_LS1 F) [] [] Try.f22 (bodyOf Try.f22) 70 [(.rr 3 a0), (.rr 3 b1)] [] = laws_eqIntA3S_c _ F a0 b1 (fun r => some ⟨(.bool r), [], []⟩) := by kernel_rfl
def laws_eqIntA3S_ent (F : Nat) : Ent := ⟨[], .quiet, fun args mem => match args, mem with
  | [(.rr 3 a0), (.rr 3 b1)], [] => some ((laws_eqIntA3S_p F a0 b1).isSome, ⟨(.bool ((laws_eqIntA3S_p F a0 b1).getD default)), [], []⟩)
  | _, _ => none⟩
theorem laws_eqIntA3S_fok : FunOK Try.prog 22 := funOK Try.func22 (by kernel_rfl) rfl
theorem laws_eqIntA3S_meets (F : Nat) : Meets Try.prog 22 (laws_eqIntA3S_ent F) := by
  refine meets_of_runS mixed ttok deep (laws_eqIntA3S_tabok F) Try.func22 (body_some rfl) (laws_eqIntA3S_lsok1 F) fun args mem hfit ret h => ?_
  clear hfit
  simp only [laws_eqIntA3S_ent] at h
  split at h
  · rename_i a0 b1
    simp only [Option.some.injEq, Prod.mk.injEq] at h
    obtain ⟨hc, rfl⟩ := h
    exact ⟨[], [], 70, _, (laws_eqIntA3S_run F a0 b1).trans ((laws_eqIntA3S_cp _ F a0 b1 _).trans (bind_use hc _)), rfl, rfl, rfl⟩
  · cases h

/-! loop.example/g01194/laws.markIntA3S -/
noncomputable def laws_markIntA3S_tab (F : Nat) : Tab := []
theorem laws_markIntA3S_tabok (F : Nat) : TabOK Try.prog (laws_markIntA3S_tab F) := tab_nil
noncomputable def laws_markIntA3S_LS0 (F : Nat) : LT := []
theorem laws_markIntA3S_lsok0 (F : Nat) : LoopsOK Try.prog (laws_markIntA3S_LS0 F) (bodyOf Try.f23) := loopsOK_nil
theorem laws_markIntA3S_keys : keysOK (bodyOf Try.f23) = true := by kernel_rfl
def laws_markIntA3S_st5 (a1 : Nat) (i3 : Int) (k2 : Int) (j4 : Int) (a5 : List (List Int)) : St := ⟨expand 26 0 [0, 1, 5, 6] [(.sl 0 0 a1), (.int .i64 k2), (.int .i64 i3), (.int .i64 j4)], [(.vec 26 (.rr 3 a5))], 1, []⟩
def laws_markIntA3S_o5 (a1 : Nat) (i3 : Int) (x : Int × List (List Int)) : GT := (.out (.exit 2 ⟨expand 26 0 [0, 1, 5] [(.sl 0 0 a1), (.int .i64 x.1), (.int .i64 i3)], [(.vec 26 (.rr 3 x.2))], 1, []⟩))
def laws_markIntA3S_ls5 (F : Nat) : LoopS := ⟨26, [0, 1, 5, 6], [], [0, 1, 5], [], [4], [], [], fun vals mem np killed => match vals, mem, np, killed with
  | [(.sl 0 0 a1), (.int .i64 k2), (.int .i64 i3), (.int .i64 j4)], [(.vec 26 (.rr 3 a5))], 1, [] => .br (laws_markIntA3S_l5 F a1 i3 k2 j4 a5).isSome (laws_markIntA3S_o5 a1 i3 ((laws_markIntA3S_l5 F a1 i3 k2 j4 a5).getD default)) .fail
  | _, _, _, _ => .fail⟩
theorem laws_markIntA3S_step5 (F : Nat) (a1 : Nat) (i3 : Int) (k2 : Int) (j4 : Int) (a5 : List (List Int)) {R : Type} (k : Out → Option R) : stepS tt (laws_markIntA3S_tab F) (laws_markIntA3S_LS0 F) 70 (laws_markIntA3S_ls5 F) (loopAt 5 (bodyOf Try.f23)) (laws_markIntA3S_st5 a1 i3 k2 j4 a5) k = laws_markIntA3S_s5 F a1 i3 R (k2, j4, a5) (fun s => k (.norm (laws_markIntA3S_st5 a1 i3 s.1 s.2.1 s.2.2))) (fun x => (laws_markIntA3S_o5 a1 i3 x).run k) := by kernel_rfl
theorem laws_markIntA3S_iter5 (F : Nat) (a1 : Nat) (i3 : Int) {R : Type} (k : Out → Option R) : ∀ (n : Nat) (k2 : Int) (j4 : Int) (a5 : List (List Int)), iterS tt (laws_markIntA3S_tab F) (laws_markIntA3S_LS0 F) 70 (laws_markIntA3S_ls5 F) (loopAt 5 (bodyOf Try.f23)) n (laws_markIntA3S_st5 a1 i3 k2 j4 a5) k = loopC (laws_markIntA3S_s5 F a1 i3) n (k2, j4, a5) (fun x => (laws_markIntA3S_o5 a1 i3 x).run k)
  | 0, k2, j4, a5 => rfl
  | n + 1, k2, j4, a5 => (iterS_succ tt (laws_markIntA3S_tab F) (laws_markIntA3S_LS0 F) 70 (laws_markIntA3S_ls5 F) (loopAt 5 (bodyOf Try.f23)) n (laws_markIntA3S_st5 a1 i3 k2 j4 a5) k).trans ((laws_markIntA3S_step5 F a1 i3 k2 j4 a5 (nextK (iterS tt (laws_markIntA3S_tab F) (laws_markIntA3S_LS0 F) 70 (laws_markIntA3S_ls5 F) (loopAt 5 (bodyOf Try.f23)) n) k)).trans (congrArg (fun kn => laws_markIntA3S_s5 F a1 i3 R (k2, j4, a5) kn _) (funext (fun ⟨k2, j4, a5⟩ => laws_markIntA3S_iter5 F a1 i3 k n k2 j4 a5))))
theorem laws_markIntA3S_lok5 (F : Nat) : LoopOK Try.prog (loopAt 5 (bodyOf Try.f23)) (laws_markIntA3S_ls5 F) := by
  refine loopOK_of mixed ttok deep (laws_markIntA3S_tabok F) (loopsOK_at (laws_markIntA3S_lsok0 F) 5) (fuel := 70) fun R vals mem np killed k x h => ?_
  simp only [laws_markIntA3S_ls5] at h
  split at h
  · rename_i a1 k2 i3 j4 a5
    simp only [GT.run] at h
    have hc := (cond_noneL h).1
    replace h := (cond_noneL h).2
    refine ⟨F, (laws_markIntA3S_iter5 F a1 i3 k F k2 j4 a5).trans ((loopC_use (laws_markIntA3S_s5_nat F a1 i3) hc _).trans h)⟩
  · simp only [GT.run] at h
    cases h
noncomputable def laws_markIntA3S_LS1 (F : Nat) : LT := (5, laws_markIntA3S_ls5 F) :: laws_markIntA3S_LS0 F
theorem laws_markIntA3S_lsok1 (F : Nat) : LoopsOK Try.prog (laws_markIntA3S_LS1 F) (bodyOf Try.f23) := loopsOK_cons laws_markIntA3S_keys (laws_markIntA3S_lok5 F) (laws_markIntA3S_lsok0 F)
def laws_markIntA3S_st2 (a1 : Nat) (k2 : Int) (i3 : Int) (a4 : List (List Int)) : St := ⟨expand 26 0 [0, 1, 5] [(.sl 0 0 a1), (.int .i64 k2), (.int .i64 i3)], [(.vec 26 (.rr 3 a4))], 1, []⟩
def laws_markIntA3S_o2 (a1 : Nat) (x : Int × List (List Int)) : GT := (.out (.exit 0 ⟨expand 26 0 [1] [(.int .i64 x.1)], [(.vec 26 (.rr 3 x.2))], 1, []⟩))
def laws_markIntA3S_ls2 (F : Nat) : LoopS := ⟨26, [0, 1, 5], [], [1], [], [4], [], [], fun vals mem np killed => match vals, mem, np, killed with
  | [(.sl 0 0 a1), (.int .i64 k2), (.int .i64 i3)], [(.vec 26 (.rr 3 a4))], 1, [] => .br (laws_markIntA3S_l2 F a1 k2 i3 a4).isSome (laws_markIntA3S_o2 a1 ((laws_markIntA3S_l2 F a1 k2 i3 a4).getD default)) .fail
  | _, _, _, _ => .fail⟩
theorem laws_markIntA3S_step2 (F : Nat) (a1 : Nat) (k2 : Int) (i3 : Int) (a4 : List (List Int)) {R : Type} (k : Out → Option R) : stepS tt (laws_markIntA3S_tab F) (laws_markIntA3S_LS1 F) 70 (laws_markIntA3S_ls2 F) (loopAt 2 (bodyOf Try.f23)) (laws_markIntA3S_st2 a1 k2 i3 a4) k = laws_markIntA3S_s2 F a1 R (k2, i3, a4) (fun s => k (.norm (laws_markIntA3S_st2 a1 s.1 s.2.1 s.2.2))) (fun x => (laws_markIntA3S_o2 a1 x).run k) := by kernel_rfl
theorem laws_markIntA3S_iter2 (F : Nat) (a1 : Nat) {R : Type} (k : Out → Option R) : ∀ (n : Nat) (k2 : Int) (i3 : Int) (a4 : List (List Int)), iterS tt (laws_markIntA3S_tab F) (laws_markIntA3S_LS1 F) 70 (laws_markIntA3S_ls2 F) (loopAt 2 (bodyOf Try.f23)) n (laws_markIntA3S_st2 a1 k2 i3 a4) k = loopC (laws_markIntA3S_s2 F a1) n (k2, i3, a4) (fun x => (laws_markIntA3S_o2 a1 x).run k)
  | 0, k2, i3, a4 => rfl
  | n + 1, k2, i3, a4 => (iterS_succ tt (laws_markIntA3S_tab F) (laws_markIntA3S_LS1 F) 70 (laws_markIntA3S_ls2 F) (loopAt 2 (bodyOf Try.f23)) n (laws_markIntA3S_st2 a1 k2 i3 a4) k).trans ((laws_markIntA3S_step2 F a1 k2 i3 a4 (nextK (iterS tt (laws_markIntA3S_tab F) (laws_markIntA3S_LS1 F) 70 (laws_markIntA3S_ls2 F) (loopAt 2 (bodyOf Try.f23)) n) k)).trans (congrArg (fun kn => laws_markIntA3S_s2 F a1 R (k2, i3, a4) kn _) (funext (fun ⟨k2, i3, a4⟩ => laws_markIntA3S_iter2 F a1 k n k2 i3 a4))))
theorem laws_markIntA3S_lok2 (F : Nat) : LoopOK Try.prog (loopAt 2 (bodyOf Try.f23)) (laws_markIntA3S_ls2 F) := by
  refine loopOK_of mixed ttok deep (laws_markIntA3S_tabok F) (loopsOK_at (laws_markIntA3S_lsok1 F) 2) (fuel := 70) fun R vals mem np killed k x h => ?_
  simp only [laws_markIntA3S_ls2] at h
  split at h
  · rename_i a1 k2 i3 a4
    simp only [GT.run] at h
    have hc := (cond_noneL h).1
    replace h := (cond_noneL h).2
    refine ⟨F, (laws_markIntA3S_iter2 F a1 k F k2 i3 a4).trans ((loopC_use (laws_markIntA3S_s2_nat F a1) hc _).trans h)⟩
  · simp only [GT.run] at h
    cases h
noncomputable def laws_markIntA3S_LS2 (F : Nat) : LT := (2, laws_markIntA3S_ls2 F) :: laws_markIntA3S_LS1 F
theorem laws_markIntA3S_lsok2 (F : Nat) : LoopsOK Try.prog (laws_markIntA3S_LS2 F) (bodyOf Try.f23) := loopsOK_cons laws_markIntA3S_keys (laws_markIntA3S_lok2 F) (laws_markIntA3S_lsok1 F)
theorem laws_markIntA3S_run (F : Nat) (a1 : Nat) (k2 : Int) (a3 : List (List Int)) : runS tt (laws_markIntA3S_tab F) (laws_markIntA3S_LS2 F) [] [] Try.f23 (bodyOf Try.f23) 70 [(.sl 0 0 a1), (.int .i64 k2)] [(.vec 26 (.rr 3 a3))] = laws_markIntA3S_c _ F a1 k2 a3 (fun r => some ⟨(.int .i64 r.1), [(.vec 26 (.rr 3 r.2))], []⟩) := by kernel_rfl
def laws_markIntA3S_ent (F : Nat) : Ent := ⟨[true], .loud, fun args mem => match args, mem with
  | [(.sl 0 0 a1), (.int .i64 k2)], [(.vec 26 (.rr 3 a3))] => some ((laws_markIntA3S_p F a1 k2 a3).isSome, ⟨(.int .i64 ((laws_markIntA3S_p F a1 k2 a3).getD default).1), [(.vec 26 (.rr 3 ((laws_markIntA3S_p F a1 k2 a3).getD default).2))], []⟩)
  | _, _ => none⟩
theorem laws_markIntA3S_fok : FunOK Try.prog 23 := funOK Try.func23 (by kernel_rfl) rfl
theorem laws_markIntA3S_meets (F : Nat) : Meets Try.prog 23 (laws_markIntA3S_ent F) := by
  refine meets_of_runS mixed ttok deep (laws_markIntA3S_tabok F) Try.func23 (body_some rfl) (laws_markIntA3S_lsok2 F) fun args mem hfit ret h => ?_
  clear hfit
  simp only [laws_markIntA3S_ent] at h
  split at h
  · rename_i a1 k2 a3
    simp only [Option.some.injEq, Prod.mk.injEq] at h
    obtain ⟨hc, rfl⟩ := h
    exact ⟨[], [], 70, _, (laws_markIntA3S_run F a1 k2 a3).trans ((laws_markIntA3S_cp _ F a1 k2 a3 _).trans (bind_use hc _)), rfl, rfl, rfl⟩
  · cases h

/-! loop.example/g01194/laws.heldIntA3S -/
noncomputable def laws_heldIntA3S_tab (F : Nat) : Tab := []
theorem laws_heldIntA3S_tabok (F : Nat) : TabOK Try.prog (laws_heldIntA3S_tab F) := tab_nil
noncomputable def laws_heldIntA3S_LS0 (F : Nat) : LT := []
theorem laws_heldIntA3S_lsok0 (F : Nat) : LoopsOK Try.prog (laws_heldIntA3S_LS0 F) (bodyOf Try.f24) := loopsOK_nil
theorem laws_heldIntA3S_keys : keysOK (bodyOf Try.f24) = true := by kernel_rfl
def laws_heldIntA3S_st5 (a0 : List (List Int)) (i2 : Int) (k1 : Int) (j3 : Int) : St := ⟨expand 28 0 [0, 1, 5, 6] [(.rr 3 a0), (.int .i64 k1), (.int .i64 i2), (.int .i64 j3)], [], 0, []⟩
def laws_heldIntA3S_o5 (a0 : List (List Int)) (i2 : Int) (x : Bool × Int) : GT := (.br x.1 (.out (.ret ⟨expand 28 0 [4] [(.int .i64 (-1 : Int))], [], 0, []⟩)) (.out (.exit 2 ⟨expand 28 0 [0, 1, 5] [(.rr 3 a0), (.int .i64 x.2), (.int .i64 i2)], [], 0, []⟩)))
def laws_heldIntA3S_ls5 (F : Nat) : LoopS := ⟨28, [0, 1, 5, 6], [], [0, 1, 5], [], [4], [], [], fun vals mem np killed => match vals, mem, np, killed with
  | [(.rr 3 a0), (.int .i64 k1), (.int .i64 i2), (.int .i64 j3)], [], 0, [] => .br (laws_heldIntA3S_l5 F a0 i2 k1 j3).isSome (laws_heldIntA3S_o5 a0 i2 ((laws_heldIntA3S_l5 F a0 i2 k1 j3).getD default)) .fail
  | _, _, _, _ => .fail⟩
theorem laws_heldIntA3S_step5 (F : Nat) (a0 : List (List Int)) (i2 : Int) (k1 : Int) (j3 : Int) {R : Type} (k : Out → Option R) : stepS tt (laws_heldIntA3S_tab F) (laws_heldIntA3S_LS0 F) 70 (laws_heldIntA3S_ls5 F) (loopAt 5 (bodyOf Try.f24)) (laws_heldIntA3S_st5 a0 i2 k1 j3) k = laws_heldIntA3S_s5 F a0 i2 R (k1, j3) (fun s => k (.norm (laws_heldIntA3S_st5 a0 i2 s.1 s.2))) (fun x => (laws_heldIntA3S_o5 a0 i2 x).run k) := by kernel_rfl
theorem laws_heldIntA3S_iter5 (F : Nat) (a0 : List (List Int)) (i2 : Int) {R : Type} (k : Out → Option R) : ∀ (n : Nat) (k1 : Int) (j3 : Int), iterS tt (laws_heldIntA3S_tab F) (laws_heldIntA3S_LS0 F) 70 (laws_heldIntA3S_ls5 F) (loopAt 5 (bodyOf Try.f24)) n (laws_heldIntA3S_st5 a0 i2 k1 j3) k = loopC (laws_heldIntA3S_s5 F a0 i2) n (k1, j3) (fun x => (laws_heldIntA3S_o5 a0 i2 x).run k)
  | 0, k1, j3 => rfl
  | n + 1, k1, j3 => (iterS_succ tt (laws_heldIntA3S_tab F) (laws_heldIntA3S_LS0 F) 70 (laws_heldIntA3S_ls5 F) (loopAt 5 (bodyOf Try.f24)) n (laws_heldIntA3S_st5 a0 i2 k1 j3) k).trans ((laws_heldIntA3S_step5 F a0 i2 k1 j3 (nextK (iterS tt (laws_heldIntA3S_tab F) (laws_heldIntA3S_LS0 F) 70 (laws_heldIntA3S_ls5 F) (loopAt 5 (bodyOf Try.f24)) n) k)).trans (congrArg (fun kn => laws_heldIntA3S_s5 F a0 i2 R (k1, j3) kn _) (funext (fun ⟨k1, j3⟩ => laws_heldIntA3S_iter5 F a0 i2 k n k1 j3))))
theorem laws_heldIntA3S_lok5 (F : Nat) : LoopOK Try.prog (loopAt 5 (bodyOf Try.f24)) (laws_heldIntA3S_ls5 F) := by
  refine loopOK_of mixed ttok deep (laws_heldIntA3S_tabok F) (loopsOK_at (laws_heldIntA3S_lsok0 F) 5) (fuel := 70) fun R vals mem np killed k x h => ?_
  simp only [laws_heldIntA3S_ls5] at h
  split at h
  · rename_i a0 k1 i2 j3
    simp only [GT.run] at h
    have hc := (cond_noneL h).1
    replace h := (cond_noneL h).2
    refine ⟨F, (laws_heldIntA3S_iter5 F a0 i2 k F k1 j3).trans ((loopC_use (laws_heldIntA3S_s5_nat F a0 i2) hc _).trans h)⟩
  · simp only [GT.run] at h
    cases h
noncomputable def laws_heldIntA3S_LS1 (F : Nat) : LT := (5, laws_heldIntA3S_ls5 F) :: laws_heldIntA3S_LS0 F
theorem laws_heldIntA3S_lsok1 (F : Nat) : LoopsOK Try.prog (laws_heldIntA3S_LS1 F) (bodyOf Try.f24) := loopsOK_cons laws_heldIntA3S_keys (laws_heldIntA3S_lok5 F) (laws_heldIntA3S_lsok0 F)
def laws_heldIntA3S_st2 (a0 : List (List Int)) (k1 : Int) (i2 : Int) : St := ⟨expand 28 0 [0, 1, 5] [(.rr 3 a0), (.int .i64 k1), (.int .i64 i2)], [], 0, []⟩
def laws_heldIntA3S_o2 (a0 : List (List Int)) (x : Bool × Int) : GT := (.br x.1 (.out (.ret ⟨expand 28 0 [4] [(.int .i64 (-1 : Int))], [], 0, []⟩)) (.out (.exit 0 ⟨expand 28 0 [1] [(.int .i64 x.2)], [], 0, []⟩)))
def laws_heldIntA3S_ls2 (F : Nat) : LoopS := ⟨28, [0, 1, 5], [], [1], [], [4], [], [], fun vals mem np killed => match vals, mem, np, killed with
  | [(.rr 3 a0), (.int .i64 k1), (.int .i64 i2)], [], 0, [] => .br (laws_heldIntA3S_l2 F a0 k1 i2).isSome (laws_heldIntA3S_o2 a0 ((laws_heldIntA3S_l2 F a0 k1 i2).getD default)) .fail
  | _, _, _, _ => .fail⟩
theorem laws_heldIntA3S_step2 (F : Nat) (a0 : List (List Int)) (k1 : Int) (i2 : Int) {R : Type} (k : Out → Option R) : stepS tt (laws_heldIntA3S_tab F) (laws_heldIntA3S_LS1 F) 70 (laws_heldIntA3S_ls2 F) (loopAt 2 (bodyOf Try.f24)) (laws_heldIntA3S_st2 a0 k1 i2) k = laws_heldIntA3S_s2 F a0 R (k1, i2) (fun s => k (.norm (laws_heldIntA3S_st2 a0 s.1 s.2))) (fun x => (laws_heldIntA3S_o2 a0 x).run k) := by kernel_rfl
theorem laws_heldIntA3S_iter2 (F : Nat) (a0 : List (List Int)) {R : Type} (k : Out → Option R) : ∀ (n : Nat) (k1 : Int) (i2 : Int), iterS tt (laws_heldIntA3S_tab F) (laws_heldIntA3S_LS1 F) 70 (laws_heldIntA3S_ls2 F) (loopAt 2 (bodyOf Try.f24)) n (laws_heldIntA3S_st2 a0 k1 i2) k = loopC (laws_heldIntA3S_s2 F a0) n (k1, i2) (fun x => (laws_heldIntA3S_o2 a0 x).run k)
  | 0, k1, i2 => rfl
  | n + 1, k1, i2 => (iterS_succ tt (laws_heldIntA3S_tab F) (laws_heldIntA3S_LS1 F) 70 (laws_heldIntA3S_ls2 F) (loopAt 2 (bodyOf Try.f24)) n (laws_heldIntA3S_st2 a0 k1 i2) k).trans ((laws_heldIntA3S_step2 F a0 k1 i2 (nextK (iterS tt (laws_heldIntA3S_tab F) (laws_heldIntA3S_LS1 F) 70 (laws_heldIntA3S_ls2 F) (loopAt 2 (bodyOf Try.f24)) n) k)).trans (congrArg (fun kn => laws_heldIntA3S_s2 F a0 R (k1, i2) kn _) (funext (fun ⟨k1, i2⟩ => laws_heldIntA3S_iter2 F a0 k n k1 i2))))
theorem laws_heldIntA3S_lok2 (F : Nat) : LoopOK Try.prog (loopAt 2 (bodyOf Try.f24)) (laws_heldIntA3S_ls2 F) := by
  refine loopOK_of mixed ttok deep (laws_heldIntA3S_tabok F) (loopsOK_at (laws_heldIntA3S_lsok1 F) 2) (fuel := 70) fun R vals mem np killed k x h => ?_
  simp only [laws_heldIntA3S_ls2] at h
  split at h
  · rename_i a0 k1 i2
    simp only [GT.run] at h
    have hc := (cond_noneL h).1
    replace h := (cond_noneL h).2
    refine ⟨F, (laws_heldIntA3S_iter2 F a0 k F k1 i2).trans ((loopC_use (laws_heldIntA3S_s2_nat F a0) hc _).trans h)⟩
  · simp only [GT.run] at h
    cases h
noncomputable def laws_heldIntA3S_LS2 (F : Nat) : LT := (2, laws_heldIntA3S_ls2 F) :: laws_heldIntA3S_LS1 F
theorem laws_heldIntA3S_lsok2 (F : Nat) : LoopsOK Try.prog (laws_heldIntA3S_LS2 F) (bodyOf Try.f24) := loopsOK_cons laws_heldIntA3S_keys (laws_heldIntA3S_lok2 F) (laws_heldIntA3S_lsok1 F)
theorem laws_heldIntA3S_run (F : Nat) (a0 : List (List Int)) (k1 : Int) : runS tt (laws_heldIntA3S_tab F) (laws_heldIntA3S_LS2 F) [] [] Try.f24 (bodyOf Try.f24) 70 [(.rr 3 a0), (.int .i64 k1)] [] = laws_heldIntA3S_c _ F a0 k1 (fun r => some ⟨(.int .i64 r), [], []⟩) := by kernel_rfl
def laws_heldIntA3S_ent (F : Nat) : Ent := ⟨[], .quiet, fun args mem => match args, mem with
  | [(.rr 3 a0), (.int .i64 k1)], [] => some ((laws_heldIntA3S_p F a0 k1).isSome, ⟨(.int .i64 ((laws_heldIntA3S_p F a0 k1).getD default)), [], []⟩)
  | _, _ => none⟩
theorem laws_heldIntA3S_fok : FunOK Try.prog 24 := funOK Try.func24 (by kernel_rfl) rfl
theorem laws_heldIntA3S_meets (F : Nat) : Meets Try.prog 24 (laws_heldIntA3S_ent F) := by
  refine meets_of_runS mixed ttok deep (laws_heldIntA3S_tabok F) Try.func24 (body_some rfl) (laws_heldIntA3S_lsok2 F) fun args mem hfit ret h => ?_
  clear hfit
  simp only [laws_heldIntA3S_ent] at h
  split at h
  · rename_i a0 k1
    simp only [Option.some.injEq, Prod.mk.injEq] at h
    obtain ⟨hc, rfl⟩ := h
    exact ⟨[], [], 70, _, (laws_heldIntA3S_run F a0 k1).trans ((laws_heldIntA3S_cp _ F a0 k1 _).trans (bind_use hc _)), rfl, rfl, rfl⟩
  · cases h

/-! loop.example/g01194/laws.FnExactDeadPlaces -/
noncomputable def laws_FnExactDeadPlaces_tab (F : Nat) : Tab := [(8, (laws_toBoard_ent F)), (20, (spec_DeadPlaces_ent F)), (21, (impl_DeadPlaces_ent F)), (22, (laws_eqIntA3S_ent F)), (23, (laws_markIntA3S_ent F)), (24, (laws_heldIntA3S_ent F))]
theorem laws_FnExactDeadPlaces_tabok (F : Nat) : TabOK Try.prog (laws_FnExactDeadPlaces_tab F) := (tab_cons (laws_toBoard_meets F) laws_toBoard_fok (tab_cons (spec_DeadPlaces_meets F) spec_DeadPlaces_fok (tab_cons (impl_DeadPlaces_meets F) impl_DeadPlaces_fok (tab_cons (laws_eqIntA3S_meets F) laws_eqIntA3S_fok (tab_cons (laws_markIntA3S_meets F) laws_markIntA3S_fok (tab_cons (laws_heldIntA3S_meets F) laws_heldIntA3S_fok tab_nil))))))
noncomputable def laws_FnExactDeadPlaces_LS0 (F : Nat) : LT := []
theorem laws_FnExactDeadPlaces_lsok0 (F : Nat) : LoopsOK Try.prog (laws_FnExactDeadPlaces_LS0 F) (bodyOf Try.f6) := loopsOK_nil
theorem laws_FnExactDeadPlaces_run (F : Nat) (aB0 : List Int) : runS tt (laws_FnExactDeadPlaces_tab F) (laws_FnExactDeadPlaces_LS0 F) [] [] Try.f6 (bodyOf Try.f6) 70 [(.ints 16 aB0)] [] = laws_FnExactDeadPlaces_c _ F aB0 (fun r => some ⟨(.bool r), [], []⟩) := by kernel_rfl
def laws_FnExactDeadPlaces_ent (F : Nat) : Ent := ⟨[], .quiet, fun args mem => match args, mem with
  | [(.ints 16 aB0)], [] => some ((laws_FnExactDeadPlaces_p F aB0).isSome, ⟨(.bool ((laws_FnExactDeadPlaces_p F aB0).getD default)), [], []⟩)
  | _, _ => none⟩
theorem laws_FnExactDeadPlaces_fok : FunOK Try.prog 6 := funOK Try.func6 (by kernel_rfl) rfl
theorem laws_FnExactDeadPlaces_meets (F : Nat) : Meets Try.prog 6 (laws_FnExactDeadPlaces_ent F) := by
  refine meets_of_runS mixed ttok deep (laws_FnExactDeadPlaces_tabok F) Try.func6 (body_some rfl) (laws_FnExactDeadPlaces_lsok0 F) fun args mem hfit ret h => ?_
  clear hfit
  simp only [laws_FnExactDeadPlaces_ent] at h
  split at h
  · rename_i aB0
    simp only [Option.some.injEq, Prod.mk.injEq] at h
    obtain ⟨hc, rfl⟩ := h
    exact ⟨[], [], 70, _, (laws_FnExactDeadPlaces_run F aB0).trans ((laws_FnExactDeadPlaces_cp _ F aB0 _).trans (bind_use hc _)), rfl, rfl, rfl⟩
  · cases h
end Go.Proofs.Ytplclbkelohajaa
