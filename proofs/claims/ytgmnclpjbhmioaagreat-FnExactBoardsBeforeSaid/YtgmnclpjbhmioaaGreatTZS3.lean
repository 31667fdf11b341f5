/-
Pure functions and what the code of them does, by program; without conditions.
-/
import Derived.Test.YtgmnclpjbhmioaaGreatTZPCmp4
import Derived.Test.YtgmnclpjbhmioaaGreatTZP3
import Derived.Test.YtgmnclpjbhmioaaGreatTZS2
namespace Go.Proofs.YtgmnclpjbhmioaaGreat
open Go Go.Lv Go.Lv.P Go.Proofs
set_option linter.unusedVariables false
set_option linter.unusedSimpArgs false
set_option maxRecDepth 100000
/-! loop.example/g01194/impl.apart -/
noncomputable def impl_apart_len0_tab (F : Nat) : Tab := [(76, (slices_Clone_intint_2_ent F))]
theorem impl_apart_len0_tabok (F : Nat) : TabOK Tryz.prog (impl_apart_len0_tab F) := (tab_cons (slices_Clone_intint_2_meets F) slices_Clone_intint_2_fok tab_nil)
noncomputable def impl_apart_len0_LS0 (F : Nat) : LT := []
theorem impl_apart_len0_lsok0 (F : Nat) : LoopsOK Tryz.prog (impl_apart_len0_LS0 F) (bodyOf Tryz.f59) := loopsOK_nil
theorem impl_apart_len0_run (F : Nat) : runS tt (impl_apart_len0_tab F) (impl_apart_len0_LS0 F) [] [] Tryz.f59 (bodyOf Tryz.f59) 70 [.z0, .z0, (.ri .i64 ([] : List Int))] [] = impl_apart_len0_c _ (fun r => some ⟨(.sl 0 0 1), [(.vec 79 (.rl .i64 [([] : List Int)]))], []⟩) := by kernel_rfl
def impl_apart_len0_ent (F : Nat) : Ent := ⟨[true], .loud, fun args mem => match args, mem with
  | [.z0, .z0, (.ri .i64 ([] : List Int))], [] => some (true, ⟨(.sl 0 0 1), [(.vec 79 (.rl .i64 [([] : List Int)]))], []⟩)
  | _, _ => none⟩
theorem impl_apart_len0_fok : FunOK Tryz.prog 59 := funOK Tryz.func59 (by kernel_rfl) rfl
theorem impl_apart_len0_meets (F : Nat) : Meets Tryz.prog 59 (impl_apart_len0_ent F) := by
  refine meets_of_runS mixed ttok deep (impl_apart_len0_tabok F) Tryz.func59 (body_some rfl) (impl_apart_len0_lsok0 F) fun args mem hfit ret h => ?_
  clear hfit
  simp only [impl_apart_len0_ent] at h
  split at h
  · simp only [Option.some.injEq, Prod.mk.injEq] at h
    obtain ⟨hc, rfl⟩ := h
    exact ⟨[], [], 70, _, (impl_apart_len0_run F).trans (impl_apart_len0_cv _ _), rfl, rfl, rfl⟩
  · cases h

/-! loop.example/g01194/impl.apart -/
noncomputable def impl_apart_len0_2_tab (F : Nat) : Tab := [(76, (slices_Clone_intint_ent F))]
theorem impl_apart_len0_2_tabok (F : Nat) : TabOK Tryz.prog (impl_apart_len0_2_tab F) := (tab_cons (slices_Clone_intint_meets F) slices_Clone_intint_fok tab_nil)
noncomputable def impl_apart_len0_2_LS0 (F : Nat) : LT := []
theorem impl_apart_len0_2_lsok0 (F : Nat) : LoopsOK Tryz.prog (impl_apart_len0_2_LS0 F) (bodyOf Tryz.f59) := loopsOK_nil
theorem impl_apart_len0_2_run (F : Nat) (list0 : List Int) : runS tt (impl_apart_len0_2_tab F) (impl_apart_len0_2_LS0 F) [⟨6, 79, (.rl .i64 ([] : List (List Int)))⟩] [] Tryz.f59 (bodyOf Tryz.f59) 70 [.z0, (.ri .i64 list0), (.ri .i64 ([] : List Int))] [] = impl_apart_len0_2_c _ list0 (fun r => some ⟨(.sl 0 0 (List.length r)), [(.vec 79 (.rl .i64 r))], []⟩) := by kernel_rfl
def impl_apart_len0_2_ent (F : Nat) : Ent := ⟨[true], .loud, fun args mem => match args, mem with
  | [.z0, (.ri .i64 list0), (.ri .i64 ([] : List Int))], [] => some ((impl_apart_len0_2_p list0).isSome, ⟨(.sl 0 0 (List.length ((impl_apart_len0_2_p list0).getD default))), [(.vec 79 (.rl .i64 ((impl_apart_len0_2_p list0).getD default)))], []⟩)
  | _, _ => none⟩
theorem impl_apart_len0_2_fok : FunOK Tryz.prog 59 := funOK Tryz.func59 (by kernel_rfl) rfl
theorem impl_apart_len0_2_meets (F : Nat) : Meets Tryz.prog 59 (impl_apart_len0_2_ent F) := by
  refine meets_of_runS mixed ttok deep (impl_apart_len0_2_tabok F) Tryz.func59 (body_some rfl) (impl_apart_len0_2_lsok0 F) fun args mem hfit ret h => ?_
  clear hfit
  simp only [impl_apart_len0_2_ent] at h
  split at h
  · rename_i list0
    simp only [Option.some.injEq, Prod.mk.injEq] at h
    obtain ⟨hc, rfl⟩ := h
    exact ⟨[⟨6, 79, (.rl .i64 ([] : List (List Int)))⟩], [], 70, _, (impl_apart_len0_2_run F list0).trans ((impl_apart_len0_2_cp _ list0 _).trans (bind_use hc _)), rfl, rfl, rfl⟩
  · cases h

/-! loop.example/g01194/impl.apart -/
noncomputable def impl_apart_len0_3_tab (F : Nat) : Tab := [(76, (slices_Clone_intint_ent F))]
theorem impl_apart_len0_3_tabok (F : Nat) : TabOK Tryz.prog (impl_apart_len0_3_tab F) := (tab_cons (slices_Clone_intint_meets F) slices_Clone_intint_fok tab_nil)
noncomputable def impl_apart_len0_3_LS0 (F : Nat) : LT := []
theorem impl_apart_len0_3_lsok0 (F : Nat) : LoopsOK Tryz.prog (impl_apart_len0_3_LS0 F) (bodyOf Tryz.f59) := loopsOK_nil
theorem impl_apart_len0_3_run (F : Nat) (list2 : List Int) (out4 : List (List Int)) : runS tt (impl_apart_len0_3_tab F) (impl_apart_len0_3_LS0 F) [] [0] Tryz.f59 (bodyOf Tryz.f59) 70 [(.sl 0 0 (List.length out4)), (.ri .i64 list2), (.ri .i64 ([] : List Int))] [(.vec 79 (.rl .i64 out4))] = impl_apart_len0_3_c _ list2 out4 (fun r => some ⟨(.sl 0 0 (List.length r)), [(.vec 79 (.rl .i64 r))], [0]⟩) := by kernel_rfl
def impl_apart_len0_3_ent (F : Nat) : Ent := ⟨[true], .loud, fun args mem => match args, mem with
  | [(.sl 0 0 q_out1), (.ri .i64 list2), (.ri .i64 ([] : List Int))], [(.vec 79 (.rl .i64 out4))] => some (((Nat.beq q_out1 (List.length out4)) && (impl_apart_len0_3_p list2 out4).isSome), ⟨(.sl 0 0 (List.length ((impl_apart_len0_3_p list2 out4).getD default))), [(.vec 79 (.rl .i64 ((impl_apart_len0_3_p list2 out4).getD default)))], [0]⟩)
  | _, _ => none⟩
theorem impl_apart_len0_3_fok : FunOK Tryz.prog 59 := funOK Tryz.func59 (by kernel_rfl) rfl
theorem impl_apart_len0_3_meets (F : Nat) : Meets Tryz.prog 59 (impl_apart_len0_3_ent F) := by
  refine meets_of_runS mixed ttok deep (impl_apart_len0_3_tabok F) Tryz.func59 (body_some rfl) (impl_apart_len0_3_lsok0 F) fun args mem hfit ret h => ?_
  clear hfit
  simp only [impl_apart_len0_3_ent] at h
  split at h
  · rename_i q_out1 list2 out4
    simp only [Option.some.injEq, Prod.mk.injEq] at h
    obtain ⟨hc, rfl⟩ := h
    have hg := (and_split hc).1
    replace hc := (and_split hc).2
    obtain rfl := nbeq_nat hg
    exact ⟨[], [0], 70, _, (impl_apart_len0_3_run F list2 out4).trans ((impl_apart_len0_3_cp _ list2 out4 _).trans (bind_use hc _)), rfl, rfl, rfl⟩
  · cases h

/-! loop.example/g01194/impl.apart -/
noncomputable def impl_apart_len1_tab (F : Nat) : Tab := [(76, (slices_Clone_intint_2_ent F)), (59, (orEnt (impl_apart_len0_2_ent F) (impl_apart_len0_3_ent F)))]
theorem impl_apart_len1_tabok (F : Nat) : TabOK Tryz.prog (impl_apart_len1_tab F) := (tab_cons (slices_Clone_intint_2_meets F) slices_Clone_intint_2_fok (tab_cons (meets_or (impl_apart_len0_2_meets F) (impl_apart_len0_3_meets F) rfl) impl_apart_len0_2_fok tab_nil))
noncomputable def impl_apart_len1_LS0 (F : Nat) : LT := []
theorem impl_apart_len1_lsok0 (F : Nat) : LoopsOK Tryz.prog (impl_apart_len1_LS0 F) (bodyOf Tryz.f59) := loopsOK_nil
theorem impl_apart_len1_run (F : Nat) (rest0_0 : Int) : runS tt (impl_apart_len1_tab F) (impl_apart_len1_LS0 F) [] [] Tryz.f59 (bodyOf Tryz.f59) 70 [.z0, .z0, (.ri .i64 [rest0_0])] [] = impl_apart_len1_c _ rest0_0 (fun r => some ⟨(.sl 0 0 (List.length r)), [(.vec 79 (.rl .i64 r))], []⟩) := by kernel_rfl
def impl_apart_len1_ent (F : Nat) : Ent := ⟨[true], .loud, fun args mem => match args, mem with
  | [.z0, .z0, (.ri .i64 [rest0_0])], [] => some ((impl_apart_len1_p rest0_0).isSome, ⟨(.sl 0 0 (List.length ((impl_apart_len1_p rest0_0).getD default))), [(.vec 79 (.rl .i64 ((impl_apart_len1_p rest0_0).getD default)))], []⟩)
  | _, _ => none⟩
theorem impl_apart_len1_fok : FunOK Tryz.prog 59 := funOK Tryz.func59 (by kernel_rfl) rfl
theorem impl_apart_len1_meets (F : Nat) : Meets Tryz.prog 59 (impl_apart_len1_ent F) := by
  refine meets_of_runS mixed ttok deep (impl_apart_len1_tabok F) Tryz.func59 (body_some rfl) (impl_apart_len1_lsok0 F) fun args mem hfit ret h => ?_
  clear hfit
  simp only [impl_apart_len1_ent] at h
  split at h
  · rename_i rest0_0
    simp only [Option.some.injEq, Prod.mk.injEq] at h
    obtain ⟨hc, rfl⟩ := h
    exact ⟨[], [], 70, _, (impl_apart_len1_run F rest0_0).trans ((impl_apart_len1_cp _ rest0_0 _).trans (bind_use hc _)), rfl, rfl, rfl⟩
  · cases h

/-! loop.example/g01194/impl.apart -/
noncomputable def impl_apart_len1_2_tab (F : Nat) : Tab := [(76, (slices_Clone_intint_ent F)), (59, (orEnt (impl_apart_len0_2_ent F) (impl_apart_len0_3_ent F)))]
theorem impl_apart_len1_2_tabok (F : Nat) : TabOK Tryz.prog (impl_apart_len1_2_tab F) := (tab_cons (slices_Clone_intint_meets F) slices_Clone_intint_fok (tab_cons (meets_or (impl_apart_len0_2_meets F) (impl_apart_len0_3_meets F) rfl) impl_apart_len0_2_fok tab_nil))
noncomputable def impl_apart_len1_2_LS0 (F : Nat) : LT := []
theorem impl_apart_len1_2_lsok0 (F : Nat) : LoopsOK Tryz.prog (impl_apart_len1_2_LS0 F) (bodyOf Tryz.f59) := loopsOK_nil
theorem impl_apart_len1_2_run (F : Nat) (list0 : List Int) (rest1_0 : Int) : runS tt (impl_apart_len1_2_tab F) (impl_apart_len1_2_LS0 F) [⟨6, 79, (.rl .i64 ([] : List (List Int)))⟩] [] Tryz.f59 (bodyOf Tryz.f59) 70 [.z0, (.ri .i64 list0), (.ri .i64 [rest1_0])] [] = impl_apart_len1_2_c _ list0 rest1_0 (fun r => some ⟨(.sl 0 0 (List.length r)), [(.vec 79 (.rl .i64 r))], []⟩) := by kernel_rfl
def impl_apart_len1_2_ent (F : Nat) : Ent := ⟨[true], .loud, fun args mem => match args, mem with
  | [.z0, (.ri .i64 list0), (.ri .i64 [rest1_0])], [] => some ((impl_apart_len1_2_p list0 rest1_0).isSome, ⟨(.sl 0 0 (List.length ((impl_apart_len1_2_p list0 rest1_0).getD default))), [(.vec 79 (.rl .i64 ((impl_apart_len1_2_p list0 rest1_0).getD default)))], []⟩)
  | _, _ => none⟩
theorem impl_apart_len1_2_fok : FunOK Tryz.prog 59 := funOK Tryz.func59 (by kernel_rfl) rfl
theorem impl_apart_len1_2_meets (F : Nat) : Meets Tryz.prog 59 (impl_apart_len1_2_ent F) := by
  refine meets_of_runS mixed ttok deep (impl_apart_len1_2_tabok F) Tryz.func59 (body_some rfl) (impl_apart_len1_2_lsok0 F) fun args mem hfit ret h => ?_
  clear hfit
  simp only [impl_apart_len1_2_ent] at h
  split at h
  · rename_i list0 rest1_0
    simp only [Option.some.injEq, Prod.mk.injEq] at h
    obtain ⟨hc, rfl⟩ := h
    exact ⟨[⟨6, 79, (.rl .i64 ([] : List (List Int)))⟩], [], 70, _, (impl_apart_len1_2_run F list0 rest1_0).trans ((impl_apart_len1_2_cp _ list0 rest1_0 _).trans (bind_use hc _)), rfl, rfl, rfl⟩
  · cases h

/-! loop.example/g01194/impl.apart -/
noncomputable def impl_apart_len1_3_tab (F : Nat) : Tab := [(76, (slices_Clone_intint_ent F)), (59, (impl_apart_len0_3_ent F))]
theorem impl_apart_len1_3_tabok (F : Nat) : TabOK Tryz.prog (impl_apart_len1_3_tab F) := (tab_cons (slices_Clone_intint_meets F) slices_Clone_intint_fok (tab_cons (impl_apart_len0_3_meets F) impl_apart_len0_3_fok tab_nil))
noncomputable def impl_apart_len1_3_LS0 (F : Nat) : LT := []
theorem impl_apart_len1_3_lsok0 (F : Nat) : LoopsOK Tryz.prog (impl_apart_len1_3_LS0 F) (bodyOf Tryz.f59) := loopsOK_nil
theorem impl_apart_len1_3_run (F : Nat) (list2 : List Int) (rest3_0 : Int) (out4 : List (List Int)) : runS tt (impl_apart_len1_3_tab F) (impl_apart_len1_3_LS0 F) [] [0] Tryz.f59 (bodyOf Tryz.f59) 70 [(.sl 0 0 (List.length out4)), (.ri .i64 list2), (.ri .i64 [rest3_0])] [(.vec 79 (.rl .i64 out4))] = impl_apart_len1_3_c _ list2 rest3_0 out4 (fun r => some ⟨(.sl 0 0 (List.length r)), [(.vec 79 (.rl .i64 r))], [0]⟩) := by kernel_rfl
def impl_apart_len1_3_ent (F : Nat) : Ent := ⟨[true], .loud, fun args mem => match args, mem with
  | [(.sl 0 0 q_out1), (.ri .i64 list2), (.ri .i64 [rest3_0])], [(.vec 79 (.rl .i64 out4))] => some (((Nat.beq q_out1 (List.length out4)) && (impl_apart_len1_3_p list2 rest3_0 out4).isSome), ⟨(.sl 0 0 (List.length ((impl_apart_len1_3_p list2 rest3_0 out4).getD default))), [(.vec 79 (.rl .i64 ((impl_apart_len1_3_p list2 rest3_0 out4).getD default)))], [0]⟩)
  | _, _ => none⟩
theorem impl_apart_len1_3_fok : FunOK Tryz.prog 59 := funOK Tryz.func59 (by kernel_rfl) rfl
theorem impl_apart_len1_3_meets (F : Nat) : Meets Tryz.prog 59 (impl_apart_len1_3_ent F) := by
  refine meets_of_runS mixed ttok deep (impl_apart_len1_3_tabok F) Tryz.func59 (body_some rfl) (impl_apart_len1_3_lsok0 F) fun args mem hfit ret h => ?_
  clear hfit
  simp only [impl_apart_len1_3_ent] at h
  split at h
  · rename_i q_out1 list2 rest3_0 out4
    simp only [Option.some.injEq, Prod.mk.injEq] at h
    obtain ⟨hc, rfl⟩ := h
    have hg := (and_split hc).1
    replace hc := (and_split hc).2
    obtain rfl := nbeq_nat hg
    exact ⟨[], [0], 70, _, (impl_apart_len1_3_run F list2 rest3_0 out4).trans ((impl_apart_len1_3_cp _ list2 rest3_0 out4 _).trans (bind_use hc _)), rfl, rfl, rfl⟩
  · cases h

/-! loop.example/g01194/impl.apart -/
noncomputable def impl_apart_len2_tab (F : Nat) : Tab := [(76, (slices_Clone_intint_2_ent F)), (59, (orEnt (impl_apart_len1_2_ent F) (impl_apart_len1_3_ent F)))]
theorem impl_apart_len2_tabok (F : Nat) : TabOK Tryz.prog (impl_apart_len2_tab F) := (tab_cons (slices_Clone_intint_2_meets F) slices_Clone_intint_2_fok (tab_cons (meets_or (impl_apart_len1_2_meets F) (impl_apart_len1_3_meets F) rfl) impl_apart_len1_2_fok tab_nil))
noncomputable def impl_apart_len2_LS0 (F : Nat) : LT := []
theorem impl_apart_len2_lsok0 (F : Nat) : LoopsOK Tryz.prog (impl_apart_len2_LS0 F) (bodyOf Tryz.f59) := loopsOK_nil
theorem impl_apart_len2_run (F : Nat) (rest0_0 : Int) (rest0_1 : Int) : runS tt (impl_apart_len2_tab F) (impl_apart_len2_LS0 F) [] [] Tryz.f59 (bodyOf Tryz.f59) 70 [.z0, .z0, (.ri .i64 [rest0_0, rest0_1])] [] = impl_apart_len2_c _ rest0_0 rest0_1 (fun r => some ⟨(.sl 0 0 (List.length r)), [(.vec 79 (.rl .i64 r))], []⟩) := by kernel_rfl
def impl_apart_len2_ent (F : Nat) : Ent := ⟨[true], .loud, fun args mem => match args, mem with
  | [.z0, .z0, (.ri .i64 [rest0_0, rest0_1])], [] => some ((impl_apart_len2_p rest0_0 rest0_1).isSome, ⟨(.sl 0 0 (List.length ((impl_apart_len2_p rest0_0 rest0_1).getD default))), [(.vec 79 (.rl .i64 ((impl_apart_len2_p rest0_0 rest0_1).getD default)))], []⟩)
  | _, _ => none⟩
theorem impl_apart_len2_fok : FunOK Tryz.prog 59 := funOK Tryz.func59 (by kernel_rfl) rfl
theorem impl_apart_len2_meets (F : Nat) : Meets Tryz.prog 59 (impl_apart_len2_ent F) := by
  refine meets_of_runS mixed ttok deep (impl_apart_len2_tabok F) Tryz.func59 (body_some rfl) (impl_apart_len2_lsok0 F) fun args mem hfit ret h => ?_
  clear hfit
  simp only [impl_apart_len2_ent] at h
  split at h
  · rename_i rest0_0 rest0_1
    simp only [Option.some.injEq, Prod.mk.injEq] at h
    obtain ⟨hc, rfl⟩ := h
    exact ⟨[], [], 70, _, (impl_apart_len2_run F rest0_0 rest0_1).trans ((impl_apart_len2_cp _ rest0_0 rest0_1 _).trans (bind_use hc _)), rfl, rfl, rfl⟩
  · cases h

/-! loop.example/g01194/impl.apart -/
noncomputable def impl_apart_len2_2_tab (F : Nat) : Tab := [(76, (slices_Clone_intint_ent F)), (59, (orEnt (impl_apart_len1_2_ent F) (impl_apart_len1_3_ent F)))]
theorem impl_apart_len2_2_tabok (F : Nat) : TabOK Tryz.prog (impl_apart_len2_2_tab F) := (tab_cons (slices_Clone_intint_meets F) slices_Clone_intint_fok (tab_cons (meets_or (impl_apart_len1_2_meets F) (impl_apart_len1_3_meets F) rfl) impl_apart_len1_2_fok tab_nil))
noncomputable def impl_apart_len2_2_LS0 (F : Nat) : LT := []
theorem impl_apart_len2_2_lsok0 (F : Nat) : LoopsOK Tryz.prog (impl_apart_len2_2_LS0 F) (bodyOf Tryz.f59) := loopsOK_nil
theorem impl_apart_len2_2_run (F : Nat) (list0 : List Int) (rest1_0 : Int) (rest1_1 : Int) : runS tt (impl_apart_len2_2_tab F) (impl_apart_len2_2_LS0 F) [⟨6, 79, (.rl .i64 ([] : List (List Int)))⟩] [] Tryz.f59 (bodyOf Tryz.f59) 70 [.z0, (.ri .i64 list0), (.ri .i64 [rest1_0, rest1_1])] [] = impl_apart_len2_2_c _ list0 rest1_0 rest1_1 (fun r => some ⟨(.sl 0 0 (List.length r)), [(.vec 79 (.rl .i64 r))], []⟩) := by kernel_rfl
def impl_apart_len2_2_ent (F : Nat) : Ent := ⟨[true], .loud, fun args mem => match args, mem with
  | [.z0, (.ri .i64 list0), (.ri .i64 [rest1_0, rest1_1])], [] => some ((impl_apart_len2_2_p list0 rest1_0 rest1_1).isSome, ⟨(.sl 0 0 (List.length ((impl_apart_len2_2_p list0 rest1_0 rest1_1).getD default))), [(.vec 79 (.rl .i64 ((impl_apart_len2_2_p list0 rest1_0 rest1_1).getD default)))], []⟩)
  | _, _ => none⟩
theorem impl_apart_len2_2_fok : FunOK Tryz.prog 59 := funOK Tryz.func59 (by kernel_rfl) rfl
theorem impl_apart_len2_2_meets (F : Nat) : Meets Tryz.prog 59 (impl_apart_len2_2_ent F) := by
  refine meets_of_runS mixed ttok deep (impl_apart_len2_2_tabok F) Tryz.func59 (body_some rfl) (impl_apart_len2_2_lsok0 F) fun args mem hfit ret h => ?_
  clear hfit
  simp only [impl_apart_len2_2_ent] at h
  split at h
  · rename_i list0 rest1_0 rest1_1
    simp only [Option.some.injEq, Prod.mk.injEq] at h
    obtain ⟨hc, rfl⟩ := h
    exact ⟨[⟨6, 79, (.rl .i64 ([] : List (List Int)))⟩], [], 70, _, (impl_apart_len2_2_run F list0 rest1_0 rest1_1).trans ((impl_apart_len2_2_cp _ list0 rest1_0 rest1_1 _).trans (bind_use hc _)), rfl, rfl, rfl⟩
  · cases h

/-! loop.example/g01194/impl.apart -/
noncomputable def impl_apart_len2_3_tab (F : Nat) : Tab := [(76, (slices_Clone_intint_ent F)), (59, (impl_apart_len1_3_ent F))]
theorem impl_apart_len2_3_tabok (F : Nat) : TabOK Tryz.prog (impl_apart_len2_3_tab F) := (tab_cons (slices_Clone_intint_meets F) slices_Clone_intint_fok (tab_cons (impl_apart_len1_3_meets F) impl_apart_len1_3_fok tab_nil))
noncomputable def impl_apart_len2_3_LS0 (F : Nat) : LT := []
theorem impl_apart_len2_3_lsok0 (F : Nat) : LoopsOK Tryz.prog (impl_apart_len2_3_LS0 F) (bodyOf Tryz.f59) := loopsOK_nil
theorem impl_apart_len2_3_run (F : Nat) (list2 : List Int) (rest3_0 : Int) (rest3_1 : Int) (out4 : List (List Int)) : runS tt (impl_apart_len2_3_tab F) (impl_apart_len2_3_LS0 F) [] [0] Tryz.f59 (bodyOf Tryz.f59) 70 [(.sl 0 0 (List.length out4)), (.ri .i64 list2), (.ri .i64 [rest3_0, rest3_1])] [(.vec 79 (.rl .i64 out4))] = impl_apart_len2_3_c _ list2 rest3_0 rest3_1 out4 (fun r => some ⟨(.sl 0 0 (List.length r)), [(.vec 79 (.rl .i64 r))], [0]⟩) := by kernel_rfl
def impl_apart_len2_3_ent (F : Nat) : Ent := ⟨[true], .loud, fun args mem => match args, mem with
  | [(.sl 0 0 q_out1), (.ri .i64 list2), (.ri .i64 [rest3_0, rest3_1])], [(.vec 79 (.rl .i64 out4))] => some (((Nat.beq q_out1 (List.length out4)) && (impl_apart_len2_3_p list2 rest3_0 rest3_1 out4).isSome), ⟨(.sl 0 0 (List.length ((impl_apart_len2_3_p list2 rest3_0 rest3_1 out4).getD default))), [(.vec 79 (.rl .i64 ((impl_apart_len2_3_p list2 rest3_0 rest3_1 out4).getD default)))], [0]⟩)
  | _, _ => none⟩
theorem impl_apart_len2_3_fok : FunOK Tryz.prog 59 := funOK Tryz.func59 (by kernel_rfl) rfl
theorem impl_apart_len2_3_meets (F : Nat) : Meets Tryz.prog 59 (impl_apart_len2_3_ent F) := by
  refine meets_of_runS mixed ttok deep (impl_apart_len2_3_tabok F) Tryz.func59 (body_some rfl) (impl_apart_len2_3_lsok0 F) fun args mem hfit ret h => ?_
  clear hfit
  simp only [impl_apart_len2_3_ent] at h
  split at h
  · rename_i q_out1 list2 rest3_0 rest3_1 out4
    simp only [Option.some.injEq, Prod.mk.injEq] at h
    obtain ⟨hc, rfl⟩ := h
    have hg := (and_split hc).1
    replace hc := (and_split hc).2
    obtain rfl := nbeq_nat hg
    exact ⟨[], [0], 70, _, (impl_apart_len2_3_run F list2 rest3_0 rest3_1 out4).trans ((impl_apart_len2_3_cp _ list2 rest3_0 rest3_1 out4 _).trans (bind_use hc _)), rfl, rfl, rfl⟩
  · cases h

/-! loop.example/g01194/impl.apart -/
noncomputable def impl_apart_len3_tab (F : Nat) : Tab := [(76, (slices_Clone_intint_2_ent F)), (59, (orEnt (impl_apart_len2_2_ent F) (impl_apart_len2_3_ent F)))]
theorem impl_apart_len3_tabok (F : Nat) : TabOK Tryz.prog (impl_apart_len3_tab F) := (tab_cons (slices_Clone_intint_2_meets F) slices_Clone_intint_2_fok (tab_cons (meets_or (impl_apart_len2_2_meets F) (impl_apart_len2_3_meets F) rfl) impl_apart_len2_2_fok tab_nil))
noncomputable def impl_apart_len3_LS0 (F : Nat) : LT := []
theorem impl_apart_len3_lsok0 (F : Nat) : LoopsOK Tryz.prog (impl_apart_len3_LS0 F) (bodyOf Tryz.f59) := loopsOK_nil
theorem impl_apart_len3_run (F : Nat) (rest0_0 : Int) (rest0_1 : Int) (rest0_2 : Int) : runS tt (impl_apart_len3_tab F) (impl_apart_len3_LS0 F) [] [] Tryz.f59 (bodyOf Tryz.f59) 70 [.z0, .z0, (.ri .i64 [rest0_0, rest0_1, rest0_2])] [] = impl_apart_len3_c _ rest0_0 rest0_1 rest0_2 (fun r => some ⟨(.sl 0 0 (List.length r)), [(.vec 79 (.rl .i64 r))], []⟩) := by kernel_rfl
def impl_apart_len3_ent (F : Nat) : Ent := ⟨[true], .loud, fun args mem => match args, mem with
  | [.z0, .z0, (.ri .i64 [rest0_0, rest0_1, rest0_2])], [] => some ((impl_apart_len3_p rest0_0 rest0_1 rest0_2).isSome, ⟨(.sl 0 0 (List.length ((impl_apart_len3_p rest0_0 rest0_1 rest0_2).getD default))), [(.vec 79 (.rl .i64 ((impl_apart_len3_p rest0_0 rest0_1 rest0_2).getD default)))], []⟩)
  | _, _ => none⟩
theorem impl_apart_len3_fok : FunOK Tryz.prog 59 := funOK Tryz.func59 (by kernel_rfl) rfl
theorem impl_apart_len3_meets (F : Nat) : Meets Tryz.prog 59 (impl_apart_len3_ent F) := by
  refine meets_of_runS mixed ttok deep (impl_apart_len3_tabok F) Tryz.func59 (body_some rfl) (impl_apart_len3_lsok0 F) fun args mem hfit ret h => ?_
  clear hfit
  simp only [impl_apart_len3_ent] at h
  split at h
  · rename_i rest0_0 rest0_1 rest0_2
    simp only [Option.some.injEq, Prod.mk.injEq] at h
    obtain ⟨hc, rfl⟩ := h
    exact ⟨[], [], 70, _, (impl_apart_len3_run F rest0_0 rest0_1 rest0_2).trans ((impl_apart_len3_cp _ rest0_0 rest0_1 rest0_2 _).trans (bind_use hc _)), rfl, rfl, rfl⟩
  · cases h

/-! loop.example/g01194/impl.apart -/
noncomputable def impl_apart_len3_2_tab (F : Nat) : Tab := [(76, (slices_Clone_intint_ent F)), (59, (orEnt (impl_apart_len2_2_ent F) (impl_apart_len2_3_ent F)))]
theorem impl_apart_len3_2_tabok (F : Nat) : TabOK Tryz.prog (impl_apart_len3_2_tab F) := (tab_cons (slices_Clone_intint_meets F) slices_Clone_intint_fok (tab_cons (meets_or (impl_apart_len2_2_meets F) (impl_apart_len2_3_meets F) rfl) impl_apart_len2_2_fok tab_nil))
noncomputable def impl_apart_len3_2_LS0 (F : Nat) : LT := []
theorem impl_apart_len3_2_lsok0 (F : Nat) : LoopsOK Tryz.prog (impl_apart_len3_2_LS0 F) (bodyOf Tryz.f59) := loopsOK_nil
theorem impl_apart_len3_2_run (F : Nat) (list0 : List Int) (rest1_0 : Int) (rest1_1 : Int) (rest1_2 : Int) : runS tt (impl_apart_len3_2_tab F) (impl_apart_len3_2_LS0 F) [⟨6, 79, (.rl .i64 ([] : List (List Int)))⟩] [] Tryz.f59 (bodyOf Tryz.f59) 70 [.z0, (.ri .i64 list0), (.ri .i64 [rest1_0, rest1_1, rest1_2])] [] = impl_apart_len3_2_c _ list0 rest1_0 rest1_1 rest1_2 (fun r => some ⟨(.sl 0 0 (List.length r)), [(.vec 79 (.rl .i64 r))], []⟩) := by kernel_rfl
def impl_apart_len3_2_ent (F : Nat) : Ent := ⟨[true], .loud, fun args mem => match args, mem with
  | [.z0, (.ri .i64 list0), (.ri .i64 [rest1_0, rest1_1, rest1_2])], [] => some ((impl_apart_len3_2_p list0 rest1_0 rest1_1 rest1_2).isSome, ⟨(.sl 0 0 (List.length ((impl_apart_len3_2_p list0 rest1_0 rest1_1 rest1_2).getD default))), [(.vec 79 (.rl .i64 ((impl_apart_len3_2_p list0 rest1_0 rest1_1 rest1_2).getD default)))], []⟩)
  | _, _ => none⟩
theorem impl_apart_len3_2_fok : FunOK Tryz.prog 59 := funOK Tryz.func59 (by kernel_rfl) rfl
theorem impl_apart_len3_2_meets (F : Nat) : Meets Tryz.prog 59 (impl_apart_len3_2_ent F) := by
  refine meets_of_runS mixed ttok deep (impl_apart_len3_2_tabok F) Tryz.func59 (body_some rfl) (impl_apart_len3_2_lsok0 F) fun args mem hfit ret h => ?_
  clear hfit
  simp only [impl_apart_len3_2_ent] at h
  split at h
  · rename_i list0 rest1_0 rest1_1 rest1_2
    simp only [Option.some.injEq, Prod.mk.injEq] at h
    obtain ⟨hc, rfl⟩ := h
    exact ⟨[⟨6, 79, (.rl .i64 ([] : List (List Int)))⟩], [], 70, _, (impl_apart_len3_2_run F list0 rest1_0 rest1_1 rest1_2).trans ((impl_apart_len3_2_cp _ list0 rest1_0 rest1_1 rest1_2 _).trans (bind_use hc _)), rfl, rfl, rfl⟩
  · cases h

/-! loop.example/g01194/impl.apart -/
noncomputable def impl_apart_len3_3_tab (F : Nat) : Tab := [(76, (slices_Clone_intint_ent F)), (59, (impl_apart_len2_3_ent F))]
theorem impl_apart_len3_3_tabok (F : Nat) : TabOK Tryz.prog (impl_apart_len3_3_tab F) := (tab_cons (slices_Clone_intint_meets F) slices_Clone_intint_fok (tab_cons (impl_apart_len2_3_meets F) impl_apart_len2_3_fok tab_nil))
noncomputable def impl_apart_len3_3_LS0 (F : Nat) : LT := []
theorem impl_apart_len3_3_lsok0 (F : Nat) : LoopsOK Tryz.prog (impl_apart_len3_3_LS0 F) (bodyOf Tryz.f59) := loopsOK_nil
theorem impl_apart_len3_3_run (F : Nat) (list2 : List Int) (rest3_0 : Int) (rest3_1 : Int) (rest3_2 : Int) (out4 : List (List Int)) : runS tt (impl_apart_len3_3_tab F) (impl_apart_len3_3_LS0 F) [] [0] Tryz.f59 (bodyOf Tryz.f59) 70 [(.sl 0 0 (List.length out4)), (.ri .i64 list2), (.ri .i64 [rest3_0, rest3_1, rest3_2])] [(.vec 79 (.rl .i64 out4))] = impl_apart_len3_3_c _ list2 rest3_0 rest3_1 rest3_2 out4 (fun r => some ⟨(.sl 0 0 (List.length r)), [(.vec 79 (.rl .i64 r))], [0]⟩) := by kernel_rfl
def impl_apart_len3_3_ent (F : Nat) : Ent := ⟨[true], .loud, fun args mem => match args, mem with
  | [(.sl 0 0 q_out1), (.ri .i64 list2), (.ri .i64 [rest3_0, rest3_1, rest3_2])], [(.vec 79 (.rl .i64 out4))] => some (((Nat.beq q_out1 (List.length out4)) && (impl_apart_len3_3_p list2 rest3_0 rest3_1 rest3_2 out4).isSome), ⟨(.sl 0 0 (List.length ((impl_apart_len3_3_p list2 rest3_0 rest3_1 rest3_2 out4).getD default))), [(.vec 79 (.rl .i64 ((impl_apart_len3_3_p list2 rest3_0 rest3_1 rest3_2 out4).getD default)))], [0]⟩)
  | _, _ => none⟩
theorem impl_apart_len3_3_fok : FunOK Tryz.prog 59 := funOK Tryz.func59 (by kernel_rfl) rfl
theorem impl_apart_len3_3_meets (F : Nat) : Meets Tryz.prog 59 (impl_apart_len3_3_ent F) := by
  refine meets_of_runS mixed ttok deep (impl_apart_len3_3_tabok F) Tryz.func59 (body_some rfl) (impl_apart_len3_3_lsok0 F) fun args mem hfit ret h => ?_
  clear hfit
  simp only [impl_apart_len3_3_ent] at h
  split at h
  · rename_i q_out1 list2 rest3_0 rest3_1 rest3_2 out4
    simp only [Option.some.injEq, Prod.mk.injEq] at h
    obtain ⟨hc, rfl⟩ := h
    have hg := (and_split hc).1
    replace hc := (and_split hc).2
    obtain rfl := nbeq_nat hg
    exact ⟨[], [0], 70, _, (impl_apart_len3_3_run F list2 rest3_0 rest3_1 rest3_2 out4).trans ((impl_apart_len3_3_cp _ list2 rest3_0 rest3_1 rest3_2 out4 _).trans (bind_use hc _)), rfl, rfl, rfl⟩
  · cases h

/-! loop.example/g01194/impl.apart -/
noncomputable def impl_apart_len4_tab (F : Nat) : Tab := [(76, (slices_Clone_intint_2_ent F)), (59, (orEnt (impl_apart_len3_2_ent F) (impl_apart_len3_3_ent F)))]
theorem impl_apart_len4_tabok (F : Nat) : TabOK Tryz.prog (impl_apart_len4_tab F) := (tab_cons (slices_Clone_intint_2_meets F) slices_Clone_intint_2_fok (tab_cons (meets_or (impl_apart_len3_2_meets F) (impl_apart_len3_3_meets F) rfl) impl_apart_len3_2_fok tab_nil))
noncomputable def impl_apart_len4_LS0 (F : Nat) : LT := []
theorem impl_apart_len4_lsok0 (F : Nat) : LoopsOK Tryz.prog (impl_apart_len4_LS0 F) (bodyOf Tryz.f59) := loopsOK_nil
theorem impl_apart_len4_run (F : Nat) (rest0_0 : Int) (rest0_1 : Int) (rest0_2 : Int) (rest0_3 : Int) : runS tt (impl_apart_len4_tab F) (impl_apart_len4_LS0 F) [] [] Tryz.f59 (bodyOf Tryz.f59) 70 [.z0, .z0, (.ri .i64 [rest0_0, rest0_1, rest0_2, rest0_3])] [] = impl_apart_len4_c _ rest0_0 rest0_1 rest0_2 rest0_3 (fun r => some ⟨(.sl 0 0 (List.length r)), [(.vec 79 (.rl .i64 r))], []⟩) := by kernel_rfl
def impl_apart_len4_ent (F : Nat) : Ent := ⟨[true], .loud, fun args mem => match args, mem with
  | [.z0, .z0, (.ri .i64 [rest0_0, rest0_1, rest0_2, rest0_3])], [] => some ((impl_apart_len4_p rest0_0 rest0_1 rest0_2 rest0_3).isSome, ⟨(.sl 0 0 (List.length ((impl_apart_len4_p rest0_0 rest0_1 rest0_2 rest0_3).getD default))), [(.vec 79 (.rl .i64 ((impl_apart_len4_p rest0_0 rest0_1 rest0_2 rest0_3).getD default)))], []⟩)
  | _, _ => none⟩
theorem impl_apart_len4_fok : FunOK Tryz.prog 59 := funOK Tryz.func59 (by kernel_rfl) rfl
theorem impl_apart_len4_meets (F : Nat) : Meets Tryz.prog 59 (impl_apart_len4_ent F) := by
  refine meets_of_runS mixed ttok deep (impl_apart_len4_tabok F) Tryz.func59 (body_some rfl) (impl_apart_len4_lsok0 F) fun args mem hfit ret h => ?_
  clear hfit
  simp only [impl_apart_len4_ent] at h
  split at h
  · rename_i rest0_0 rest0_1 rest0_2 rest0_3
    simp only [Option.some.injEq, Prod.mk.injEq] at h
    obtain ⟨hc, rfl⟩ := h
    exact ⟨[], [], 70, _, (impl_apart_len4_run F rest0_0 rest0_1 rest0_2 rest0_3).trans ((impl_apart_len4_cp _ rest0_0 rest0_1 rest0_2 rest0_3 _).trans (bind_use hc _)), rfl, rfl, rfl⟩
  · cases h

/-! loop.example/g01194/impl.apart -/
def impl_apart_ent (F : Nat) : Ent := ⟨[true], .loud, fun args mem => match args, mem with
  | [.z0, .z0, (.ri .i64 rest0)], [] => some ((impl_apart_p rest0).isSome, ⟨(.sl 0 0 (List.length ((impl_apart_p rest0).getD default))), [(.vec 79 (.rl .i64 ((impl_apart_p rest0).getD default)))], []⟩)
  | _, _ => none⟩
theorem impl_apart_fok : FunOK Tryz.prog 59 := funOK Tryz.func59 (by kernel_rfl) rfl
theorem impl_apart_meets (F : Nat) : Meets Tryz.prog 59 (impl_apart_ent F) := by
  intro fr w ρ mem args reals hw ha ret hg
  simp only [impl_apart_ent] at hg
  split at hg
  · rename_i rest0
    simp only [Option.some.injEq, Prod.mk.injEq] at hg
    obtain ⟨hc, rfl⟩ := hg
    by_cases hn0 : Nat.beq (List.length rest0) 0 = true
    · obtain rfl := list0 (nbeq_nat hn0)
      have e : impl_apart_p [] = some [([] : List Int)] := by kernel_rfl
      have hg' : (impl_apart_len0_ent F).g [.z0, .z0, (.ri .i64 ([] : List Int))] [] = some (true, ⟨(.sl 0 0 1), [(.vec 79 (.rl .i64 [([] : List Int)]))], []⟩) := by kernel_rfl
      have h9 := impl_apart_len0_meets F fr w ρ _ _ reals hw ha _ hg'
      simp only [e, cond_true, Option.getD_some]
      exact h9
    · replace hn0 : Nat.beq (List.length rest0) 0 = false := by simpa only [Bool.not_eq_true] using hn0
      by_cases hn1 : Nat.beq (List.length rest0) 1 = true
      · obtain ⟨y0, rfl⟩ := list1 (nbeq_nat hn1)
        have e : impl_apart_p [y0] = (bif (Option.isSome (impl_apart_len1_p y0)) then some (Option.getD (impl_apart_len1_p y0) default) else none) := by kernel_rfl
        have hg' : (impl_apart_len1_ent F).g [.z0, .z0, (.ri .i64 [y0])] [] = some ((Option.isSome (impl_apart_len1_p y0)), ⟨(.sl 0 0 (List.length (Option.getD (impl_apart_len1_p y0) default))), [(.vec 79 (.rl .i64 (Option.getD (impl_apart_len1_p y0) default)))], []⟩) := by kernel_rfl
        rw [e] at hc
        have hC := isSome_cond hc
        rw [hC] at hg'
        have h9 := impl_apart_len1_meets F fr w ρ _ _ reals hw ha _ hg'
        simp only [e, hC, cond_true, Option.getD_some]
        exact h9
      · replace hn1 : Nat.beq (List.length rest0) 1 = false := by simpa only [Bool.not_eq_true] using hn1
        by_cases hn2 : Nat.beq (List.length rest0) 2 = true
        · obtain ⟨y0, y1, rfl⟩ := list2 (nbeq_nat hn2)
          have e : impl_apart_p [y0, y1] = (bif (Option.isSome (impl_apart_len2_p y0 y1)) then some (Option.getD (impl_apart_len2_p y0 y1) default) else none) := by kernel_rfl
          have hg' : (impl_apart_len2_ent F).g [.z0, .z0, (.ri .i64 [y0, y1])] [] = some ((Option.isSome (impl_apart_len2_p y0 y1)), ⟨(.sl 0 0 (List.length (Option.getD (impl_apart_len2_p y0 y1) default))), [(.vec 79 (.rl .i64 (Option.getD (impl_apart_len2_p y0 y1) default)))], []⟩) := by kernel_rfl
          rw [e] at hc
          have hC := isSome_cond hc
          rw [hC] at hg'
          have h9 := impl_apart_len2_meets F fr w ρ _ _ reals hw ha _ hg'
          simp only [e, hC, cond_true, Option.getD_some]
          exact h9
        · replace hn2 : Nat.beq (List.length rest0) 2 = false := by simpa only [Bool.not_eq_true] using hn2
          by_cases hn3 : Nat.beq (List.length rest0) 3 = true
          · obtain ⟨y0, y1, y2, rfl⟩ := list3 (nbeq_nat hn3)
            have e : impl_apart_p [y0, y1, y2] = (bif (Option.isSome (impl_apart_len3_p y0 y1 y2)) then some (Option.getD (impl_apart_len3_p y0 y1 y2) default) else none) := by kernel_rfl
            have hg' : (impl_apart_len3_ent F).g [.z0, .z0, (.ri .i64 [y0, y1, y2])] [] = some ((Option.isSome (impl_apart_len3_p y0 y1 y2)), ⟨(.sl 0 0 (List.length (Option.getD (impl_apart_len3_p y0 y1 y2) default))), [(.vec 79 (.rl .i64 (Option.getD (impl_apart_len3_p y0 y1 y2) default)))], []⟩) := by kernel_rfl
            rw [e] at hc
            have hC := isSome_cond hc
            rw [hC] at hg'
            have h9 := impl_apart_len3_meets F fr w ρ _ _ reals hw ha _ hg'
            simp only [e, hC, cond_true, Option.getD_some]
            exact h9
          · replace hn3 : Nat.beq (List.length rest0) 3 = false := by simpa only [Bool.not_eq_true] using hn3
            by_cases hn4 : Nat.beq (List.length rest0) 4 = true
            · obtain ⟨y0, y1, y2, y3, rfl⟩ := list4 (nbeq_nat hn4)
              have e : impl_apart_p [y0, y1, y2, y3] = (bif (Option.isSome (impl_apart_len4_p y0 y1 y2 y3)) then some (Option.getD (impl_apart_len4_p y0 y1 y2 y3) default) else none) := by kernel_rfl
              have hg' : (impl_apart_len4_ent F).g [.z0, .z0, (.ri .i64 [y0, y1, y2, y3])] [] = some ((Option.isSome (impl_apart_len4_p y0 y1 y2 y3)), ⟨(.sl 0 0 (List.length (Option.getD (impl_apart_len4_p y0 y1 y2 y3) default))), [(.vec 79 (.rl .i64 (Option.getD (impl_apart_len4_p y0 y1 y2 y3) default)))], []⟩) := by kernel_rfl
              rw [e] at hc
              have hC := isSome_cond hc
              rw [hC] at hg'
              have h9 := impl_apart_len4_meets F fr w ρ _ _ reals hw ha _ hg'
              simp only [e, hC, cond_true, Option.getD_some]
              exact h9
            · replace hn4 : Nat.beq (List.length rest0) 4 = false := by simpa only [Bool.not_eq_true] using hn4
              exfalso
              have e : impl_apart_p rest0 = none := by simp only [impl_apart_p, impl_apart_c, hn0, hn1, hn2, hn3, hn4, cond_false]
              rw [e] at hc
              cases hc
  · cases hg

/-! loop.example/g01194/impl.worth -/
noncomputable def impl_worth_tab (F : Nat) : Tab := []
theorem impl_worth_tabok (F : Nat) : TabOK Tryz.prog (impl_worth_tab F) := tab_nil
noncomputable def impl_worth_LS0 (F : Nat) : LT := []
theorem impl_worth_lsok0 (F : Nat) : LoopsOK Tryz.prog (impl_worth_LS0 F) (bodyOf Tryz.f79) := loopsOK_nil
theorem impl_worth_run (F : Nat) (t0 : Int) : runS tt (impl_worth_tab F) (impl_worth_LS0 F) [] [] Tryz.f79 (bodyOf Tryz.f79) 70 [(.int .i64 t0)] [] = impl_worth_c _ t0 (fun r => some ⟨(.int .i64 r), [], []⟩) := by kernel_rfl
def impl_worth_ent (F : Nat) : Ent := ⟨[], .quiet, fun args mem => match args, mem with
  | [(.int .i64 t0)], [] => some ((impl_worth_p t0).isSome, ⟨(.int .i64 ((impl_worth_p t0).getD default)), [], []⟩)
  | _, _ => none⟩
theorem impl_worth_fok : FunOK Tryz.prog 79 := funOK Tryz.func79 (by kernel_rfl) rfl
theorem impl_worth_meets (F : Nat) : Meets Tryz.prog 79 (impl_worth_ent F) := by
  refine meets_of_runS mixed ttok deep (impl_worth_tabok F) Tryz.func79 (body_some rfl) (impl_worth_lsok0 F) fun args mem hfit ret h => ?_
  clear hfit
  simp only [impl_worth_ent] at h
  split at h
  · rename_i t0
    simp only [Option.some.injEq, Prod.mk.injEq] at h
    obtain ⟨hc, rfl⟩ := h
    exact ⟨[], [], 70, _, (impl_worth_run F t0).trans ((impl_worth_cp _ t0 _).trans (bind_use hc _)), rfl, rfl, rfl⟩
  · cases h

/-! loop.example/g01194/impl.slideRow -/
noncomputable def impl_slideRow_tab (F : Nat) : Tab := [(60, (impl_tiles_ent F)), (79, (impl_worth_ent F))]
theorem impl_slideRow_tabok (F : Nat) : TabOK Tryz.prog (impl_slideRow_tab F) := (tab_cons (impl_tiles_meets F) impl_tiles_fok (tab_cons (impl_worth_meets F) impl_worth_fok tab_nil))
noncomputable def impl_slideRow_LS0 (F : Nat) : LT := []
theorem impl_slideRow_lsok0 (F : Nat) : LoopsOK Tryz.prog (impl_slideRow_LS0 F) (bodyOf Tryz.f61) := loopsOK_nil
theorem impl_slideRow_keys : keysOK (bodyOf Tryz.f61) = true := by kernel_rfl
def impl_slideRow_st3 (t1415 : Nat) (t1516 : Int) (t1422 : List Int) (score12 : Int) (many13 : Int) (t1617 : Int) (out20 : List Int) (merged21 : List Bool) : St := ⟨expand 63 0 [2, 4, 5, 6, 7, 8, 14, 15, 16] [(.ptr 0 0 0 4), (.ptr 1 0 0 4), (.ptr 2 0 0 4), (.ptr 3 0 0 4), (.int .i64 score12), (.int .i64 many13), (.sl 4 0 t1415), (.int .i64 t1516), (.int .i64 t1617)], [(.var 4 (.ri .i64 [(0 : Int), (0 : Int), (0 : Int), (0 : Int)])), (.var 4 (.rb [false, false, false, false])), (.var 4 (.ri .i64 out20)), (.var 4 (.rb merged21)), (.vec 3 (.ri .i64 t1422))], 0, []⟩
def impl_slideRow_o3 (t1415 : Nat) (t1516 : Int) (t1422 : List Int) (x : Int × List Int × List Bool) : GT := (.out (.exit 0 ⟨expand 63 0 [2, 4, 5, 6, 7] [(.ptr 0 0 0 4), (.ptr 1 0 0 4), (.ptr 2 0 0 4), (.ptr 3 0 0 4), (.int .i64 x.1)], [(.var 4 (.ri .i64 [(0 : Int), (0 : Int), (0 : Int), (0 : Int)])), (.var 4 (.rb [false, false, false, false])), (.var 4 (.ri .i64 x.2.1)), (.var 4 (.rb x.2.2))], 0, []⟩))
def impl_slideRow_ls3 (F : Nat) : LoopS := ⟨63, [2, 4, 5, 6, 7, 8, 14, 15, 16], [], [2, 4, 5, 6, 7], [], [2, 3, 4], [], [], fun vals mem np killed => match vals, mem, np, killed with
  | [(.ptr 0 0 0 4), (.ptr 1 0 0 4), (.ptr 2 0 0 4), (.ptr 3 0 0 4), (.int .i64 score12), (.int .i64 many13), (.sl 4 0 t1415), (.int .i64 t1516), (.int .i64 t1617)], [(.var 4 (.ri .i64 q_t218)), (.var 4 (.rb q_t419)), (.var 4 (.ri .i64 out20)), (.var 4 (.rb merged21)), (.vec 3 (.ri .i64 t1422))], 0, [] => .br ((q_t218 == ([(0 : Int), (0 : Int), (0 : Int), (0 : Int)] : List Int)) && ((q_t419 == ([false, false, false, false] : List Bool)) && (impl_slideRow_l3 F t1415 t1516 t1422 score12 many13 t1617 out20 merged21).isSome)) (impl_slideRow_o3 t1415 t1516 t1422 ((impl_slideRow_l3 F t1415 t1516 t1422 score12 many13 t1617 out20 merged21).getD default)) .fail
  | _, _, _, _ => .fail⟩
theorem impl_slideRow_step3 (F : Nat) (t1415 : Nat) (t1516 : Int) (t1422 : List Int) (score12 : Int) (many13 : Int) (t1617 : Int) (out20 : List Int) (merged21 : List Bool) {R : Type} (k : Out → Option R) : stepS tt (impl_slideRow_tab F) (impl_slideRow_LS0 F) 70 (impl_slideRow_ls3 F) (loopAt 3 (bodyOf Tryz.f61)) (impl_slideRow_st3 t1415 t1516 t1422 score12 many13 t1617 out20 merged21) k = impl_slideRow_s3 F t1415 t1516 t1422 R (score12, many13, t1617, out20, merged21) (fun s => k (.norm (impl_slideRow_st3 t1415 t1516 t1422 s.1 s.2.1 s.2.2.1 s.2.2.2.1 s.2.2.2.2))) (fun x => (impl_slideRow_o3 t1415 t1516 t1422 x).run k) := by kernel_rfl
theorem impl_slideRow_iter3 (F : Nat) (t1415 : Nat) (t1516 : Int) (t1422 : List Int) {R : Type} (k : Out → Option R) : ∀ (n : Nat) (score12 : Int) (many13 : Int) (t1617 : Int) (out20 : List Int) (merged21 : List Bool), iterS tt (impl_slideRow_tab F) (impl_slideRow_LS0 F) 70 (impl_slideRow_ls3 F) (loopAt 3 (bodyOf Tryz.f61)) n (impl_slideRow_st3 t1415 t1516 t1422 score12 many13 t1617 out20 merged21) k = loopC (impl_slideRow_s3 F t1415 t1516 t1422) n (score12, many13, t1617, out20, merged21) (fun x => (impl_slideRow_o3 t1415 t1516 t1422 x).run k)
  | 0, score12, many13, t1617, out20, merged21 => rfl
  | n + 1, score12, many13, t1617, out20, merged21 => (iterS_succ tt (impl_slideRow_tab F) (impl_slideRow_LS0 F) 70 (impl_slideRow_ls3 F) (loopAt 3 (bodyOf Tryz.f61)) n (impl_slideRow_st3 t1415 t1516 t1422 score12 many13 t1617 out20 merged21) k).trans ((impl_slideRow_step3 F t1415 t1516 t1422 score12 many13 t1617 out20 merged21 (nextK (iterS tt (impl_slideRow_tab F) (impl_slideRow_LS0 F) 70 (impl_slideRow_ls3 F) (loopAt 3 (bodyOf Tryz.f61)) n) k)).trans (congrArg (fun kn => impl_slideRow_s3 F t1415 t1516 t1422 R (score12, many13, t1617, out20, merged21) kn _) (funext (fun ⟨score12, many13, t1617, out20, merged21⟩ => impl_slideRow_iter3 F t1415 t1516 t1422 k n score12 many13 t1617 out20 merged21))))
theorem impl_slideRow_lok3 (F : Nat) : LoopOK Tryz.prog (loopAt 3 (bodyOf Tryz.f61)) (impl_slideRow_ls3 F) := by
  refine loopOK_of mixed ttok deep (impl_slideRow_tabok F) (loopsOK_at (impl_slideRow_lsok0 F) 3) (fuel := 70) fun R vals mem np killed k x h => ?_
  simp only [impl_slideRow_ls3] at h
  split at h
  · rename_i score12 many13 t1415 t1516 t1617 q_t218 q_t419 out20 merged21 t1422
    simp only [GT.run] at h
    have hc := (cond_noneL h).1
    replace h := (cond_noneL h).2
    have hg := (and_split hc).1
    replace hc := (and_split hc).2
    obtain rfl := beq_li hg
    have hg := (and_split hc).1
    replace hc := (and_split hc).2
    obtain rfl := beq_lb hg
    refine ⟨F, (impl_slideRow_iter3 F t1415 t1516 t1422 k F score12 many13 t1617 out20 merged21).trans ((loopC_use (impl_slideRow_s3_nat F t1415 t1516 t1422) hc _).trans h)⟩
  · simp only [GT.run] at h
    cases h
noncomputable def impl_slideRow_LS1 (F : Nat) : LT := (3, impl_slideRow_ls3 F) :: impl_slideRow_LS0 F
theorem impl_slideRow_lsok1 (F : Nat) : LoopsOK Tryz.prog (impl_slideRow_LS1 F) (bodyOf Tryz.f61) := loopsOK_cons impl_slideRow_keys (impl_slideRow_lok3 F) (impl_slideRow_lsok0 F)
theorem impl_slideRow_run (F : Nat) (row0 : List Int) : runS tt (impl_slideRow_tab F) (impl_slideRow_LS1 F) [] [] Tryz.f61 (bodyOf Tryz.f61) 70 [(.ints 4 row0)] [] = impl_slideRow_c _ F row0 (fun r => some ⟨(.tup [(.ints 4 r.1), (.int .i64 r.2.1), (.bools 4 r.2.2)]), [], []⟩) := by kernel_rfl
def impl_slideRow_ent (F : Nat) : Ent := ⟨[], .quiet, fun args mem => match args, mem with
  | [(.ints 4 row0)], [] => some ((impl_slideRow_p F row0).isSome, ⟨(.tup [(.ints 4 ((impl_slideRow_p F row0).getD default).1), (.int .i64 ((impl_slideRow_p F row0).getD default).2.1), (.bools 4 ((impl_slideRow_p F row0).getD default).2.2)]), [], []⟩)
  | _, _ => none⟩
theorem impl_slideRow_fok : FunOK Tryz.prog 61 := funOK Tryz.func61 (by kernel_rfl) rfl
theorem impl_slideRow_meets (F : Nat) : Meets Tryz.prog 61 (impl_slideRow_ent F) := by
  refine meets_of_runS mixed ttok deep (impl_slideRow_tabok F) Tryz.func61 (body_some rfl) (impl_slideRow_lsok1 F) fun args mem hfit ret h => ?_
  clear hfit
  simp only [impl_slideRow_ent] at h
  split at h
  · rename_i row0
    simp only [Option.some.injEq, Prod.mk.injEq] at h
    obtain ⟨hc, rfl⟩ := h
    exact ⟨[], [], 70, _, (impl_slideRow_run F row0).trans ((impl_slideRow_cp _ F row0 _).trans (bind_use hc _)), rfl, rfl, rfl⟩
  · cases h

/-! cmp.isNaN[int] -/
noncomputable def cmp_isNaN_int_tab (F : Nat) : Tab := []
theorem cmp_isNaN_int_tabok (F : Nat) : TabOK Tryz.prog (cmp_isNaN_int_tab F) := tab_nil
noncomputable def cmp_isNaN_int_LS0 (F : Nat) : LT := []
theorem cmp_isNaN_int_lsok0 (F : Nat) : LoopsOK Tryz.prog (cmp_isNaN_int_LS0 F) (bodyOf Tryz.f103) := loopsOK_nil
theorem cmp_isNaN_int_run (F : Nat) (x0 : Int) : runS tt (cmp_isNaN_int_tab F) (cmp_isNaN_int_LS0 F) [] [] Tryz.f103 (bodyOf Tryz.f103) 70 [(.int .i64 x0)] [] = cmp_isNaN_int_c _ x0 (fun r => some ⟨(.bool r), [], []⟩) := by kernel_rfl
def cmp_isNaN_int_ent (F : Nat) : Ent := ⟨[], .quiet, fun args mem => match args, mem with
  | [(.int .i64 x0)], [] => some (true, ⟨(.bool (cmp_isNaN_int_v x0)), [], []⟩)
  | _, _ => none⟩
theorem cmp_isNaN_int_fok : FunOK Tryz.prog 103 := funOK Tryz.func103 (by kernel_rfl) rfl
theorem cmp_isNaN_int_meets (F : Nat) : Meets Tryz.prog 103 (cmp_isNaN_int_ent F) := by
  refine meets_of_runS mixed ttok deep (cmp_isNaN_int_tabok F) Tryz.func103 (body_some rfl) (cmp_isNaN_int_lsok0 F) fun args mem hfit ret h => ?_
  clear hfit
  simp only [cmp_isNaN_int_ent] at h
  split at h
  · rename_i x0
    simp only [Option.some.injEq, Prod.mk.injEq] at h
    obtain ⟨hc, rfl⟩ := h
    exact ⟨[], [], 70, _, (cmp_isNaN_int_run F x0).trans (cmp_isNaN_int_cv _ x0 _), rfl, rfl, rfl⟩
  · cases h

/-! cmp.Compare[int] -/
noncomputable def cmp_Compare_int_tab (F : Nat) : Tab := [(103, (cmp_isNaN_int_ent F))]
theorem cmp_Compare_int_tabok (F : Nat) : TabOK Tryz.prog (cmp_Compare_int_tab F) := (tab_cons (cmp_isNaN_int_meets F) cmp_isNaN_int_fok tab_nil)
noncomputable def cmp_Compare_int_LS0 (F : Nat) : LT := []
theorem cmp_Compare_int_lsok0 (F : Nat) : LoopsOK Tryz.prog (cmp_Compare_int_LS0 F) (bodyOf Tryz.f81) := loopsOK_nil
theorem cmp_Compare_int_run (F : Nat) (x0 : Int) (y1 : Int) : runS tt (cmp_Compare_int_tab F) (cmp_Compare_int_LS0 F) [] [] Tryz.f81 (bodyOf Tryz.f81) 70 [(.int .i64 x0), (.int .i64 y1)] [] = cmp_Compare_int_c _ x0 y1 (fun r => some ⟨(.int .i64 r), [], []⟩) := by kernel_rfl
def cmp_Compare_int_ent (F : Nat) : Ent := ⟨[], .quiet, fun args mem => match args, mem with
  | [(.int .i64 x0), (.int .i64 y1)], [] => some (true, ⟨(.int .i64 (cmp_Compare_int_v x0 y1)), [], []⟩)
  | _, _ => none⟩
theorem cmp_Compare_int_fok : FunOK Tryz.prog 81 := funOK Tryz.func81 (by kernel_rfl) rfl
theorem cmp_Compare_int_meets (F : Nat) : Meets Tryz.prog 81 (cmp_Compare_int_ent F) := by
  refine meets_of_runS mixed ttok deep (cmp_Compare_int_tabok F) Tryz.func81 (body_some rfl) (cmp_Compare_int_lsok0 F) fun args mem hfit ret h => ?_
  clear hfit
  simp only [cmp_Compare_int_ent] at h
  split at h
  · rename_i x0 y1
    simp only [Option.some.injEq, Prod.mk.injEq] at h
    obtain ⟨hc, rfl⟩ := h
    exact ⟨[], [], 70, _, (cmp_Compare_int_run F x0 y1).trans (cmp_Compare_int_cv _ x0 y1 _), rfl, rfl, rfl⟩
  · cases h

/-! slices.Compare[[]int,int] -/
noncomputable def slices_Compare_intint_tab (F : Nat) : Tab := [(81, (cmp_Compare_int_ent F))]
theorem slices_Compare_intint_tabok (F : Nat) : TabOK Tryz.prog (slices_Compare_intint_tab F) := (tab_cons (cmp_Compare_int_meets F) cmp_Compare_int_fok tab_nil)
noncomputable def slices_Compare_intint_LS0 (F : Nat) : LT := []
theorem slices_Compare_intint_lsok0 (F : Nat) : LoopsOK Tryz.prog (slices_Compare_intint_LS0 F) (bodyOf Tryz.f64) := loopsOK_nil
theorem slices_Compare_intint_keys : keysOK (bodyOf Tryz.f64) = true := by kernel_rfl
def slices_Compare_intint_st2 (s10 : List Int) (s21 : List Int) (t92 : List Int) (t103 : Int) (t114 : Int) : St := ⟨expand 36 0 [0, 1, 9, 10, 11] [(.ri .i64 s10), (.ri .i64 s21), (.ri .i64 t92), (.int .i64 t103), (.int .i64 t114)], [], 0, []⟩
def slices_Compare_intint_o2 (s10 : List Int) (s21 : List Int) (t92 : List Int) (t103 : Int) (x : Bool × Int) : GT := (.br x.1 (.out (.ret ⟨expand 36 0 [4] [(.int .i64 x.2)], [], 0, []⟩)) (.out (.exit 0 ⟨expand 36 0 [0, 1] [(.ri .i64 s10), (.ri .i64 s21)], [], 0, []⟩)))
def slices_Compare_intint_ls2 (F : Nat) : LoopS := ⟨36, [0, 1, 9, 10, 11], [], [0, 1], [], [4], [], [], fun vals mem np killed => match vals, mem, np, killed with
  | [(.ri .i64 s10), (.ri .i64 s21), (.ri .i64 t92), (.int .i64 t103), (.int .i64 t114)], [], 0, [] => .br (slices_Compare_intint_l2 F s10 s21 t92 t103 t114).isSome (slices_Compare_intint_o2 s10 s21 t92 t103 ((slices_Compare_intint_l2 F s10 s21 t92 t103 t114).getD default)) .fail
  | _, _, _, _ => .fail⟩
theorem slices_Compare_intint_step2 (F : Nat) (s10 : List Int) (s21 : List Int) (t92 : List Int) (t103 : Int) (t114 : Int) {R : Type} (k : Out → Option R) : stepS tt (slices_Compare_intint_tab F) (slices_Compare_intint_LS0 F) 70 (slices_Compare_intint_ls2 F) (loopAt 2 (bodyOf Tryz.f64)) (slices_Compare_intint_st2 s10 s21 t92 t103 t114) k = slices_Compare_intint_s2 F s10 s21 t92 t103 R t114 (fun s => k (.norm (slices_Compare_intint_st2 s10 s21 t92 t103 s))) (fun x => (slices_Compare_intint_o2 s10 s21 t92 t103 x).run k) := by kernel_rfl
theorem slices_Compare_intint_iter2 (F : Nat) (s10 : List Int) (s21 : List Int) (t92 : List Int) (t103 : Int) {R : Type} (k : Out → Option R) : ∀ (n : Nat) (t114 : Int), iterS tt (slices_Compare_intint_tab F) (slices_Compare_intint_LS0 F) 70 (slices_Compare_intint_ls2 F) (loopAt 2 (bodyOf Tryz.f64)) n (slices_Compare_intint_st2 s10 s21 t92 t103 t114) k = loopC (slices_Compare_intint_s2 F s10 s21 t92 t103) n t114 (fun x => (slices_Compare_intint_o2 s10 s21 t92 t103 x).run k)
  | 0, t114 => rfl
  | n + 1, t114 => (iterS_succ tt (slices_Compare_intint_tab F) (slices_Compare_intint_LS0 F) 70 (slices_Compare_intint_ls2 F) (loopAt 2 (bodyOf Tryz.f64)) n (slices_Compare_intint_st2 s10 s21 t92 t103 t114) k).trans ((slices_Compare_intint_step2 F s10 s21 t92 t103 t114 (nextK (iterS tt (slices_Compare_intint_tab F) (slices_Compare_intint_LS0 F) 70 (slices_Compare_intint_ls2 F) (loopAt 2 (bodyOf Tryz.f64)) n) k)).trans (congrArg (fun kn => slices_Compare_intint_s2 F s10 s21 t92 t103 R t114 kn _) (funext (fun t114 => slices_Compare_intint_iter2 F s10 s21 t92 t103 k n t114))))
theorem slices_Compare_intint_lok2 (F : Nat) : LoopOK Tryz.prog (loopAt 2 (bodyOf Tryz.f64)) (slices_Compare_intint_ls2 F) := by
  refine loopOK_of mixed ttok deep (slices_Compare_intint_tabok F) (loopsOK_at (slices_Compare_intint_lsok0 F) 2) (fuel := 70) fun R vals mem np killed k x h => ?_
  simp only [slices_Compare_intint_ls2] at h
  split at h
  · rename_i s10 s21 t92 t103 t114
    simp only [GT.run] at h
    have hc := (cond_noneL h).1
    replace h := (cond_noneL h).2
    refine ⟨F, (slices_Compare_intint_iter2 F s10 s21 t92 t103 k F t114).trans ((loopC_use (slices_Compare_intint_s2_nat F s10 s21 t92 t103) hc _).trans h)⟩
  · simp only [GT.run] at h
    cases h
noncomputable def slices_Compare_intint_LS1 (F : Nat) : LT := (2, slices_Compare_intint_ls2 F) :: slices_Compare_intint_LS0 F
theorem slices_Compare_intint_lsok1 (F : Nat) : LoopsOK Tryz.prog (slices_Compare_intint_LS1 F) (bodyOf Tryz.f64) := loopsOK_cons slices_Compare_intint_keys (slices_Compare_intint_lok2 F) (slices_Compare_intint_lsok0 F)
theorem slices_Compare_intint_run (F : Nat) (s10 : List Int) (s21 : List Int) : runS tt (slices_Compare_intint_tab F) (slices_Compare_intint_LS1 F) [] [] Tryz.f64 (bodyOf Tryz.f64) 70 [(.ri .i64 s10), (.ri .i64 s21)] [] = slices_Compare_intint_c _ F s10 s21 (fun r => some ⟨(.int .i64 r), [], []⟩) := by kernel_rfl
def slices_Compare_intint_ent (F : Nat) : Ent := ⟨[], .quiet, fun args mem => match args, mem with
  | [(.ri .i64 s10), (.ri .i64 s21)], [] => some ((slices_Compare_intint_p F s10 s21).isSome, ⟨(.int .i64 ((slices_Compare_intint_p F s10 s21).getD default)), [], []⟩)
  | _, _ => none⟩
theorem slices_Compare_intint_fok : FunOK Tryz.prog 64 := funOK Tryz.func64 (by kernel_rfl) rfl
theorem slices_Compare_intint_meets (F : Nat) : Meets Tryz.prog 64 (slices_Compare_intint_ent F) := by
  refine meets_of_runS mixed ttok deep (slices_Compare_intint_tabok F) Tryz.func64 (body_some rfl) (slices_Compare_intint_lsok1 F) fun args mem hfit ret h => ?_
  clear hfit
  simp only [slices_Compare_intint_ent] at h
  split at h
  · rename_i s10 s21
    simp only [Option.some.injEq, Prod.mk.injEq] at h
    obtain ⟨hc, rfl⟩ := h
    exact ⟨[], [], 70, _, (slices_Compare_intint_run F s10 s21).trans ((slices_Compare_intint_cp _ F s10 s21 _).trans (bind_use hc _)), rfl, rfl, rfl⟩
  · cases h

/-! loop.example/g01194/impl.rowsBefore$1 -/
noncomputable def impl_rowsBefore_f1_tab (F : Nat) : Tab := [(64, (slices_Compare_intint_ent F))]
theorem impl_rowsBefore_f1_tabok (F : Nat) : TabOK Tryz.prog (impl_rowsBefore_f1_tab F) := (tab_cons (slices_Compare_intint_meets F) slices_Compare_intint_fok tab_nil)
noncomputable def impl_rowsBefore_f1_LS0 (F : Nat) : LT := []
theorem impl_rowsBefore_f1_lsok0 (F : Nat) : LoopsOK Tryz.prog (impl_rowsBefore_f1_LS0 F) (bodyOf Tryz.f63) := loopsOK_nil
theorem impl_rowsBefore_f1_run (F : Nat) (a0 : List Int) (b1 : List Int) : runS tt (impl_rowsBefore_f1_tab F) (impl_rowsBefore_f1_LS0 F) [] [] Tryz.f63 (bodyOf Tryz.f63) 70 [(.ints 4 a0), (.ints 4 b1)] [] = impl_rowsBefore_f1_c _ F a0 b1 (fun r => some ⟨(.int .i64 r), [], []⟩) := by kernel_rfl
def impl_rowsBefore_f1_ent (F : Nat) : Ent := ⟨[], .quiet, fun args mem => match args, mem with
  | [(.ints 4 a0), (.ints 4 b1)], [] => some ((impl_rowsBefore_f1_p F a0 b1).isSome, ⟨(.int .i64 ((impl_rowsBefore_f1_p F a0 b1).getD default)), [], []⟩)
  | _, _ => none⟩
theorem impl_rowsBefore_f1_fok : FunOK Tryz.prog 63 := funOK Tryz.func63 (by kernel_rfl) rfl
theorem impl_rowsBefore_f1_meets (F : Nat) : Meets Tryz.prog 63 (impl_rowsBefore_f1_ent F) := by
  refine meets_of_runS mixed ttok deep (impl_rowsBefore_f1_tabok F) Tryz.func63 (body_some rfl) (impl_rowsBefore_f1_lsok0 F) fun args mem hfit ret h => ?_
  clear hfit
  simp only [impl_rowsBefore_f1_ent] at h
  split at h
  · rename_i a0 b1
    simp only [Option.some.injEq, Prod.mk.injEq] at h
    obtain ⟨hc, rfl⟩ := h
    exact ⟨[], [], 70, _, (impl_rowsBefore_f1_run F a0 b1).trans ((impl_rowsBefore_f1_cp _ F a0 b1 _).trans (bind_use hc _)), rfl, rfl, rfl⟩
  · cases h

/-! slices.SortFunc[[][4]int,[4]int] -/
def slices_SortFunc_4int4int_impl_rowsBefore_f1_ent (F : Nat) : Ent := sortEnt 63 4 22 F
theorem slices_SortFunc_4int4int_impl_rowsBefore_f1_fok : FunOK Tryz.prog 62 := funOK Tryz.func62 (by kernel_rfl) rfl
theorem slices_SortFunc_4int4int_impl_rowsBefore_f1_meets (F : Nat) : Meets Tryz.prog 62 (slices_SortFunc_4int4int_impl_rowsBefore_f1_ent F) := by
  refine meets_sortK Tryz.sort62 4 22 F Tryz.isAgg22 Tryz.sizeOf22 63 (enters_of Tryz.func63 (by kernel_rfl) rfl) (impl_rowsBefore_f1_ent F) (impl_rowsBefore_f1_meets F) rfl fun hF x y hx hy => ?_
  simp only [impl_rowsBefore_f1_ent, impl_rowsBefore_f1_cmp F hF hx hy, Option.isSome_some, Option.getD_some]
end Go.Proofs.YtgmnclpjbhmioaaGreat
