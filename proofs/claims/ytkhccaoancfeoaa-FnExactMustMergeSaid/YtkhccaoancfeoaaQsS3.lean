/-
Pure functions and what the code of them does, by program; without conditions.
-/
import Derived.Test.YtkhccaoancfeoaaQsPG1
import Derived.Test.YtkhccaoancfeoaaQsP3
import Derived.Test.YtkhccaoancfeoaaQsS2
namespace Go.Proofs.Ytkhccaoancfeoaa
open Go Go.Lv Go.Lv.P Go.Proofs
set_option linter.unusedVariables false
set_option linter.unusedSimpArgs false
set_option maxRecDepth 100000
/-! loop.example/g01194/impl.apart -/
noncomputable def impl_apart_len1_tab (F : Nat) : Tab := [(70, (slices_Clone_intint_2_ent F)), (63, (orEnt (impl_apart_len0_2_ent F) (impl_apart_len0_3_ent F)))]
theorem impl_apart_len1_tabok (F : Nat) : TabOK Try.prog (impl_apart_len1_tab F) := (tab_cons (slices_Clone_intint_2_meets F) slices_Clone_intint_2_fok (tab_cons (meets_or (impl_apart_len0_2_meets F) (impl_apart_len0_3_meets F) rfl) impl_apart_len0_2_fok tab_nil))
noncomputable def impl_apart_len1_LS0 (F : Nat) : LT := []
theorem impl_apart_len1_lsok0 (F : Nat) : LoopsOK Try.prog (impl_apart_len1_LS0 F) (bodyOf Try.f63) := loopsOK_nil
theorem impl_apart_len1_run (F : Nat) (rest0_0 : Int) : runS tt (impl_apart_len1_tab F) (impl_apart_len1_LS0 F) [] [] Try.f63 (bodyOf Try.f63) 70 [.z0, .z0, (.ri .i64 [rest0_0])] [] = impl_apart_len1_c _ rest0_0 (fun r => some ⟨(.sl 0 0 (List.length r)), [(.vec 71 (.rl .i64 r))], []⟩) := by kernel_rfl
def impl_apart_len1_ent (F : Nat) : Ent := ⟨[true], .loud, fun args mem => match args, mem with
  | [.z0, .z0, (.ri .i64 [rest0_0])], [] => some ((impl_apart_len1_p rest0_0).isSome, ⟨(.sl 0 0 (List.length ((impl_apart_len1_p rest0_0).getD default))), [(.vec 71 (.rl .i64 ((impl_apart_len1_p rest0_0).getD default)))], []⟩)
  | _, _ => none⟩
theorem impl_apart_len1_fok : FunOK Try.prog 63 := funOK Try.func63 (by kernel_rfl) rfl
theorem impl_apart_len1_meets (F : Nat) : Meets Try.prog 63 (impl_apart_len1_ent F) := by
  refine meets_of_runS mixed ttok deep (impl_apart_len1_tabok F) Try.func63 (body_some rfl) (impl_apart_len1_lsok0 F) fun args mem hfit ret h => ?_
  clear hfit
  simp only [impl_apart_len1_ent] at h
  split at h
  · rename_i rest0_0
    simp only [Option.some.injEq, Prod.mk.injEq] at h
    obtain ⟨hc, rfl⟩ := h
    exact ⟨[], [], 70, _, (impl_apart_len1_run F rest0_0).trans ((impl_apart_len1_cp _ rest0_0 _).trans (bind_use hc _)), rfl, rfl, rfl⟩
  · cases h

/-! loop.example/g01194/impl.apart -/
noncomputable def impl_apart_len1_2_tab (F : Nat) : Tab := [(70, (slices_Clone_intint_ent F)), (63, (orEnt (impl_apart_len0_2_ent F) (impl_apart_len0_3_ent F)))]
theorem impl_apart_len1_2_tabok (F : Nat) : TabOK Try.prog (impl_apart_len1_2_tab F) := (tab_cons (slices_Clone_intint_meets F) slices_Clone_intint_fok (tab_cons (meets_or (impl_apart_len0_2_meets F) (impl_apart_len0_3_meets F) rfl) impl_apart_len0_2_fok tab_nil))
noncomputable def impl_apart_len1_2_LS0 (F : Nat) : LT := []
theorem impl_apart_len1_2_lsok0 (F : Nat) : LoopsOK Try.prog (impl_apart_len1_2_LS0 F) (bodyOf Try.f63) := loopsOK_nil
theorem impl_apart_len1_2_run (F : Nat) (list0 : List Int) (rest1_0 : Int) : runS tt (impl_apart_len1_2_tab F) (impl_apart_len1_2_LS0 F) [⟨6, 71, (.rl .i64 ([] : List (List Int)))⟩] [] Try.f63 (bodyOf Try.f63) 70 [.z0, (.ri .i64 list0), (.ri .i64 [rest1_0])] [] = impl_apart_len1_2_c _ list0 rest1_0 (fun r => some ⟨(.sl 0 0 (List.length r)), [(.vec 71 (.rl .i64 r))], []⟩) := by kernel_rfl
def impl_apart_len1_2_ent (F : Nat) : Ent := ⟨[true], .loud, fun args mem => match args, mem with
  | [.z0, (.ri .i64 list0), (.ri .i64 [rest1_0])], [] => some ((impl_apart_len1_2_p list0 rest1_0).isSome, ⟨(.sl 0 0 (List.length ((impl_apart_len1_2_p list0 rest1_0).getD default))), [(.vec 71 (.rl .i64 ((impl_apart_len1_2_p list0 rest1_0).getD default)))], []⟩)
  | _, _ => none⟩
theorem impl_apart_len1_2_fok : FunOK Try.prog 63 := funOK Try.func63 (by kernel_rfl) rfl
theorem impl_apart_len1_2_meets (F : Nat) : Meets Try.prog 63 (impl_apart_len1_2_ent F) := by
  refine meets_of_runS mixed ttok deep (impl_apart_len1_2_tabok F) Try.func63 (body_some rfl) (impl_apart_len1_2_lsok0 F) fun args mem hfit ret h => ?_
  clear hfit
  simp only [impl_apart_len1_2_ent] at h
  split at h
  · rename_i list0 rest1_0
    simp only [Option.some.injEq, Prod.mk.injEq] at h
    obtain ⟨hc, rfl⟩ := h
    exact ⟨[⟨6, 71, (.rl .i64 ([] : List (List Int)))⟩], [], 70, _, (impl_apart_len1_2_run F list0 rest1_0).trans ((impl_apart_len1_2_cp _ list0 rest1_0 _).trans (bind_use hc _)), rfl, rfl, rfl⟩
  · cases h

/-! loop.example/g01194/impl.apart -/
noncomputable def impl_apart_len1_3_tab (F : Nat) : Tab := [(70, (slices_Clone_intint_ent F)), (63, (impl_apart_len0_3_ent F))]
theorem impl_apart_len1_3_tabok (F : Nat) : TabOK Try.prog (impl_apart_len1_3_tab F) := (tab_cons (slices_Clone_intint_meets F) slices_Clone_intint_fok (tab_cons (impl_apart_len0_3_meets F) impl_apart_len0_3_fok tab_nil))
noncomputable def impl_apart_len1_3_LS0 (F : Nat) : LT := []
theorem impl_apart_len1_3_lsok0 (F : Nat) : LoopsOK Try.prog (impl_apart_len1_3_LS0 F) (bodyOf Try.f63) := loopsOK_nil
theorem impl_apart_len1_3_run (F : Nat) (list2 : List Int) (rest3_0 : Int) (out4 : List (List Int)) : runS tt (impl_apart_len1_3_tab F) (impl_apart_len1_3_LS0 F) [] [0] Try.f63 (bodyOf Try.f63) 70 [(.sl 0 0 (List.length out4)), (.ri .i64 list2), (.ri .i64 [rest3_0])] [(.vec 71 (.rl .i64 out4))] = impl_apart_len1_3_c _ list2 rest3_0 out4 (fun r => some ⟨(.sl 0 0 (List.length r)), [(.vec 71 (.rl .i64 r))], [0]⟩) := by kernel_rfl
def impl_apart_len1_3_ent (F : Nat) : Ent := ⟨[true], .loud, fun args mem => match args, mem with
  | [(.sl 0 0 q_out1), (.ri .i64 list2), (.ri .i64 [rest3_0])], [(.vec 71 (.rl .i64 out4))] => some (((Nat.beq q_out1 (List.length out4)) && (impl_apart_len1_3_p list2 rest3_0 out4).isSome), ⟨(.sl 0 0 (List.length ((impl_apart_len1_3_p list2 rest3_0 out4).getD default))), [(.vec 71 (.rl .i64 ((impl_apart_len1_3_p list2 rest3_0 out4).getD default)))], [0]⟩)
  | _, _ => none⟩
theorem impl_apart_len1_3_fok : FunOK Try.prog 63 := funOK Try.func63 (by kernel_rfl) rfl
theorem impl_apart_len1_3_meets (F : Nat) : Meets Try.prog 63 (impl_apart_len1_3_ent F) := by
  refine meets_of_runS mixed ttok deep (impl_apart_len1_3_tabok F) Try.func63 (body_some rfl) (impl_apart_len1_3_lsok0 F) fun args mem hfit ret h => ?_
  clear hfit
  simp only [impl_apart_len1_3_ent] at h
  split at h
  · rename_i q_out1 list2 rest3_0 out4
    simp only [Option.some.injEq, Prod.mk.injEq] at h
    obtain ⟨hc, rfl⟩ := h
    have hg := (and_split hc).1
    replace hc := (and_split hc).2
    obtain rfl := nbeq_nat hg
    exact ⟨[], [0], 70, _, (impl_apart_len1_3_run F list2 rest3_0 out4).trans ((impl_apart_len1_3_cp _ list2 rest3_0 out4 _).trans (bind_use hc _)), rfl, rfl, rfl⟩
  · cases h

/-! loop.example/g01194/impl.apart -/
noncomputable def impl_apart_len2_tab (F : Nat) : Tab := [(70, (slices_Clone_intint_2_ent F)), (63, (orEnt (impl_apart_len1_2_ent F) (impl_apart_len1_3_ent F)))]
theorem impl_apart_len2_tabok (F : Nat) : TabOK Try.prog (impl_apart_len2_tab F) := (tab_cons (slices_Clone_intint_2_meets F) slices_Clone_intint_2_fok (tab_cons (meets_or (impl_apart_len1_2_meets F) (impl_apart_len1_3_meets F) rfl) impl_apart_len1_2_fok tab_nil))
noncomputable def impl_apart_len2_LS0 (F : Nat) : LT := []
theorem impl_apart_len2_lsok0 (F : Nat) : LoopsOK Try.prog (impl_apart_len2_LS0 F) (bodyOf Try.f63) := loopsOK_nil
theorem impl_apart_len2_run (F : Nat) (rest0_0 : Int) (rest0_1 : Int) : runS tt (impl_apart_len2_tab F) (impl_apart_len2_LS0 F) [] [] Try.f63 (bodyOf Try.f63) 70 [.z0, .z0, (.ri .i64 [rest0_0, rest0_1])] [] = impl_apart_len2_c _ rest0_0 rest0_1 (fun r => some ⟨(.sl 0 0 (List.length r)), [(.vec 71 (.rl .i64 r))], []⟩) := by kernel_rfl
def impl_apart_len2_ent (F : Nat) : Ent := ⟨[true], .loud, fun args mem => match args, mem with
  | [.z0, .z0, (.ri .i64 [rest0_0, rest0_1])], [] => some ((impl_apart_len2_p rest0_0 rest0_1).isSome, ⟨(.sl 0 0 (List.length ((impl_apart_len2_p rest0_0 rest0_1).getD default))), [(.vec 71 (.rl .i64 ((impl_apart_len2_p rest0_0 rest0_1).getD default)))], []⟩)
  | _, _ => none⟩
theorem impl_apart_len2_fok : FunOK Try.prog 63 := funOK Try.func63 (by kernel_rfl) rfl
theorem impl_apart_len2_meets (F : Nat) : Meets Try.prog 63 (impl_apart_len2_ent F) := by
  refine meets_of_runS mixed ttok deep (impl_apart_len2_tabok F) Try.func63 (body_some rfl) (impl_apart_len2_lsok0 F) fun args mem hfit ret h => ?_
  clear hfit
  simp only [impl_apart_len2_ent] at h
  split at h
  · rename_i rest0_0 rest0_1
    simp only [Option.some.injEq, Prod.mk.injEq] at h
    obtain ⟨hc, rfl⟩ := h
    exact ⟨[], [], 70, _, (impl_apart_len2_run F rest0_0 rest0_1).trans ((impl_apart_len2_cp _ rest0_0 rest0_1 _).trans (bind_use hc _)), rfl, rfl, rfl⟩
  · cases h

/-! loop.example/g01194/impl.apart -/
noncomputable def impl_apart_len2_2_tab (F : Nat) : Tab := [(70, (slices_Clone_intint_ent F)), (63, (orEnt (impl_apart_len1_2_ent F) (impl_apart_len1_3_ent F)))]
theorem impl_apart_len2_2_tabok (F : Nat) : TabOK Try.prog (impl_apart_len2_2_tab F) := (tab_cons (slices_Clone_intint_meets F) slices_Clone_intint_fok (tab_cons (meets_or (impl_apart_len1_2_meets F) (impl_apart_len1_3_meets F) rfl) impl_apart_len1_2_fok tab_nil))
noncomputable def impl_apart_len2_2_LS0 (F : Nat) : LT := []
theorem impl_apart_len2_2_lsok0 (F : Nat) : LoopsOK Try.prog (impl_apart_len2_2_LS0 F) (bodyOf Try.f63) := loopsOK_nil
theorem impl_apart_len2_2_run (F : Nat) (list0 : List Int) (rest1_0 : Int) (rest1_1 : Int) : runS tt (impl_apart_len2_2_tab F) (impl_apart_len2_2_LS0 F) [⟨6, 71, (.rl .i64 ([] : List (List Int)))⟩] [] Try.f63 (bodyOf Try.f63) 70 [.z0, (.ri .i64 list0), (.ri .i64 [rest1_0, rest1_1])] [] = impl_apart_len2_2_c _ list0 rest1_0 rest1_1 (fun r => some ⟨(.sl 0 0 (List.length r)), [(.vec 71 (.rl .i64 r))], []⟩) := by kernel_rfl
def impl_apart_len2_2_ent (F : Nat) : Ent := ⟨[true], .loud, fun args mem => match args, mem with
  | [.z0, (.ri .i64 list0), (.ri .i64 [rest1_0, rest1_1])], [] => some ((impl_apart_len2_2_p list0 rest1_0 rest1_1).isSome, ⟨(.sl 0 0 (List.length ((impl_apart_len2_2_p list0 rest1_0 rest1_1).getD default))), [(.vec 71 (.rl .i64 ((impl_apart_len2_2_p list0 rest1_0 rest1_1).getD default)))], []⟩)
  | _, _ => none⟩
theorem impl_apart_len2_2_fok : FunOK Try.prog 63 := funOK Try.func63 (by kernel_rfl) rfl
theorem impl_apart_len2_2_meets (F : Nat) : Meets Try.prog 63 (impl_apart_len2_2_ent F) := by
  refine meets_of_runS mixed ttok deep (impl_apart_len2_2_tabok F) Try.func63 (body_some rfl) (impl_apart_len2_2_lsok0 F) fun args mem hfit ret h => ?_
  clear hfit
  simp only [impl_apart_len2_2_ent] at h
  split at h
  · rename_i list0 rest1_0 rest1_1
    simp only [Option.some.injEq, Prod.mk.injEq] at h
    obtain ⟨hc, rfl⟩ := h
    exact ⟨[⟨6, 71, (.rl .i64 ([] : List (List Int)))⟩], [], 70, _, (impl_apart_len2_2_run F list0 rest1_0 rest1_1).trans ((impl_apart_len2_2_cp _ list0 rest1_0 rest1_1 _).trans (bind_use hc _)), rfl, rfl, rfl⟩
  · cases h

/-! loop.example/g01194/impl.apart -/
noncomputable def impl_apart_len2_3_tab (F : Nat) : Tab := [(70, (slices_Clone_intint_ent F)), (63, (impl_apart_len1_3_ent F))]
theorem impl_apart_len2_3_tabok (F : Nat) : TabOK Try.prog (impl_apart_len2_3_tab F) := (tab_cons (slices_Clone_intint_meets F) slices_Clone_intint_fok (tab_cons (impl_apart_len1_3_meets F) impl_apart_len1_3_fok tab_nil))
noncomputable def impl_apart_len2_3_LS0 (F : Nat) : LT := []
theorem impl_apart_len2_3_lsok0 (F : Nat) : LoopsOK Try.prog (impl_apart_len2_3_LS0 F) (bodyOf Try.f63) := loopsOK_nil
theorem impl_apart_len2_3_run (F : Nat) (list2 : List Int) (rest3_0 : Int) (rest3_1 : Int) (out4 : List (List Int)) : runS tt (impl_apart_len2_3_tab F) (impl_apart_len2_3_LS0 F) [] [0] Try.f63 (bodyOf Try.f63) 70 [(.sl 0 0 (List.length out4)), (.ri .i64 list2), (.ri .i64 [rest3_0, rest3_1])] [(.vec 71 (.rl .i64 out4))] = impl_apart_len2_3_c _ list2 rest3_0 rest3_1 out4 (fun r => some ⟨(.sl 0 0 (List.length r)), [(.vec 71 (.rl .i64 r))], [0]⟩) := by kernel_rfl
def impl_apart_len2_3_ent (F : Nat) : Ent := ⟨[true], .loud, fun args mem => match args, mem with
  | [(.sl 0 0 q_out1), (.ri .i64 list2), (.ri .i64 [rest3_0, rest3_1])], [(.vec 71 (.rl .i64 out4))] => some (((Nat.beq q_out1 (List.length out4)) && (impl_apart_len2_3_p list2 rest3_0 rest3_1 out4).isSome), ⟨(.sl 0 0 (List.length ((impl_apart_len2_3_p list2 rest3_0 rest3_1 out4).getD default))), [(.vec 71 (.rl .i64 ((impl_apart_len2_3_p list2 rest3_0 rest3_1 out4).getD default)))], [0]⟩)
  | _, _ => none⟩
theorem impl_apart_len2_3_fok : FunOK Try.prog 63 := funOK Try.func63 (by kernel_rfl) rfl
theorem impl_apart_len2_3_meets (F : Nat) : Meets Try.prog 63 (impl_apart_len2_3_ent F) := by
  refine meets_of_runS mixed ttok deep (impl_apart_len2_3_tabok F) Try.func63 (body_some rfl) (impl_apart_len2_3_lsok0 F) fun args mem hfit ret h => ?_
  clear hfit
  simp only [impl_apart_len2_3_ent] at h
  split at h
  · rename_i q_out1 list2 rest3_0 rest3_1 out4
    simp only [Option.some.injEq, Prod.mk.injEq] at h
    obtain ⟨hc, rfl⟩ := h
    have hg := (and_split hc).1
    replace hc := (and_split hc).2
    obtain rfl := nbeq_nat hg
    exact ⟨[], [0], 70, _, (impl_apart_len2_3_run F list2 rest3_0 rest3_1 out4).trans ((impl_apart_len2_3_cp _ list2 rest3_0 rest3_1 out4 _).trans (bind_use hc _)), rfl, rfl, rfl⟩
  · cases h

/-! loop.example/g01194/impl.apart -/
noncomputable def impl_apart_len3_tab (F : Nat) : Tab := [(70, (slices_Clone_intint_2_ent F)), (63, (orEnt (impl_apart_len2_2_ent F) (impl_apart_len2_3_ent F)))]
theorem impl_apart_len3_tabok (F : Nat) : TabOK Try.prog (impl_apart_len3_tab F) := (tab_cons (slices_Clone_intint_2_meets F) slices_Clone_intint_2_fok (tab_cons (meets_or (impl_apart_len2_2_meets F) (impl_apart_len2_3_meets F) rfl) impl_apart_len2_2_fok tab_nil))
noncomputable def impl_apart_len3_LS0 (F : Nat) : LT := []
theorem impl_apart_len3_lsok0 (F : Nat) : LoopsOK Try.prog (impl_apart_len3_LS0 F) (bodyOf Try.f63) := loopsOK_nil
theorem impl_apart_len3_run (F : Nat) (rest0_0 : Int) (rest0_1 : Int) (rest0_2 : Int) : runS tt (impl_apart_len3_tab F) (impl_apart_len3_LS0 F) [] [] Try.f63 (bodyOf Try.f63) 70 [.z0, .z0, (.ri .i64 [rest0_0, rest0_1, rest0_2])] [] = impl_apart_len3_c _ rest0_0 rest0_1 rest0_2 (fun r => some ⟨(.sl 0 0 (List.length r)), [(.vec 71 (.rl .i64 r))], []⟩) := by kernel_rfl
def impl_apart_len3_ent (F : Nat) : Ent := ⟨[true], .loud, fun args mem => match args, mem with
  | [.z0, .z0, (.ri .i64 [rest0_0, rest0_1, rest0_2])], [] => some ((impl_apart_len3_p rest0_0 rest0_1 rest0_2).isSome, ⟨(.sl 0 0 (List.length ((impl_apart_len3_p rest0_0 rest0_1 rest0_2).getD default))), [(.vec 71 (.rl .i64 ((impl_apart_len3_p rest0_0 rest0_1 rest0_2).getD default)))], []⟩)
  | _, _ => none⟩
theorem impl_apart_len3_fok : FunOK Try.prog 63 := funOK Try.func63 (by kernel_rfl) rfl
theorem impl_apart_len3_meets (F : Nat) : Meets Try.prog 63 (impl_apart_len3_ent F) := by
  refine meets_of_runS mixed ttok deep (impl_apart_len3_tabok F) Try.func63 (body_some rfl) (impl_apart_len3_lsok0 F) fun args mem hfit ret h => ?_
  clear hfit
  simp only [impl_apart_len3_ent] at h
  split at h
  · rename_i rest0_0 rest0_1 rest0_2
    simp only [Option.some.injEq, Prod.mk.injEq] at h
    obtain ⟨hc, rfl⟩ := h
    exact ⟨[], [], 70, _, (impl_apart_len3_run F rest0_0 rest0_1 rest0_2).trans ((impl_apart_len3_cp _ rest0_0 rest0_1 rest0_2 _).trans (bind_use hc _)), rfl, rfl, rfl⟩
  · cases h

/-! loop.example/g01194/impl.apart -/
noncomputable def impl_apart_len3_2_tab (F : Nat) : Tab := [(70, (slices_Clone_intint_ent F)), (63, (orEnt (impl_apart_len2_2_ent F) (impl_apart_len2_3_ent F)))]
theorem impl_apart_len3_2_tabok (F : Nat) : TabOK Try.prog (impl_apart_len3_2_tab F) := (tab_cons (slices_Clone_intint_meets F) slices_Clone_intint_fok (tab_cons (meets_or (impl_apart_len2_2_meets F) (impl_apart_len2_3_meets F) rfl) impl_apart_len2_2_fok tab_nil))
noncomputable def impl_apart_len3_2_LS0 (F : Nat) : LT := []
theorem impl_apart_len3_2_lsok0 (F : Nat) : LoopsOK Try.prog (impl_apart_len3_2_LS0 F) (bodyOf Try.f63) := loopsOK_nil
theorem impl_apart_len3_2_run (F : Nat) (list0 : List Int) (rest1_0 : Int) (rest1_1 : Int) (rest1_2 : Int) : runS tt (impl_apart_len3_2_tab F) (impl_apart_len3_2_LS0 F) [⟨6, 71, (.rl .i64 ([] : List (List Int)))⟩] [] Try.f63 (bodyOf Try.f63) 70 [.z0, (.ri .i64 list0), (.ri .i64 [rest1_0, rest1_1, rest1_2])] [] = impl_apart_len3_2_c _ list0 rest1_0 rest1_1 rest1_2 (fun r => some ⟨(.sl 0 0 (List.length r)), [(.vec 71 (.rl .i64 r))], []⟩) := by kernel_rfl
def impl_apart_len3_2_ent (F : Nat) : Ent := ⟨[true], .loud, fun args mem => match args, mem with
  | [.z0, (.ri .i64 list0), (.ri .i64 [rest1_0, rest1_1, rest1_2])], [] => some ((impl_apart_len3_2_p list0 rest1_0 rest1_1 rest1_2).isSome, ⟨(.sl 0 0 (List.length ((impl_apart_len3_2_p list0 rest1_0 rest1_1 rest1_2).getD default))), [(.vec 71 (.rl .i64 ((impl_apart_len3_2_p list0 rest1_0 rest1_1 rest1_2).getD default)))], []⟩)
  | _, _ => none⟩
theorem impl_apart_len3_2_fok : FunOK Try.prog 63 := funOK Try.func63 (by kernel_rfl) rfl
theorem impl_apart_len3_2_meets (F : Nat) : Meets Try.prog 63 (impl_apart_len3_2_ent F) := by
  refine meets_of_runS mixed ttok deep (impl_apart_len3_2_tabok F) Try.func63 (body_some rfl) (impl_apart_len3_2_lsok0 F) fun args mem hfit ret h => ?_
  clear hfit
  simp only [impl_apart_len3_2_ent] at h
  split at h
  · rename_i list0 rest1_0 rest1_1 rest1_2
    simp only [Option.some.injEq, Prod.mk.injEq] at h
    obtain ⟨hc, rfl⟩ := h
    exact ⟨[⟨6, 71, (.rl .i64 ([] : List (List Int)))⟩], [], 70, _, (impl_apart_len3_2_run F list0 rest1_0 rest1_1 rest1_2).trans ((impl_apart_len3_2_cp _ list0 rest1_0 rest1_1 rest1_2 _).trans (bind_use hc _)), rfl, rfl, rfl⟩
  · cases h

/-! loop.example/g01194/impl.apart -/
noncomputable def impl_apart_len3_3_tab (F : Nat) : Tab := [(70, (slices_Clone_intint_ent F)), (63, (impl_apart_len2_3_ent F))]
theorem impl_apart_len3_3_tabok (F : Nat) : TabOK Try.prog (impl_apart_len3_3_tab F) := (tab_cons (slices_Clone_intint_meets F) slices_Clone_intint_fok (tab_cons (impl_apart_len2_3_meets F) impl_apart_len2_3_fok tab_nil))
noncomputable def impl_apart_len3_3_LS0 (F : Nat) : LT := []
theorem impl_apart_len3_3_lsok0 (F : Nat) : LoopsOK Try.prog (impl_apart_len3_3_LS0 F) (bodyOf Try.f63) := loopsOK_nil
theorem impl_apart_len3_3_run (F : Nat) (list2 : List Int) (rest3_0 : Int) (rest3_1 : Int) (rest3_2 : Int) (out4 : List (List Int)) : runS tt (impl_apart_len3_3_tab F) (impl_apart_len3_3_LS0 F) [] [0] Try.f63 (bodyOf Try.f63) 70 [(.sl 0 0 (List.length out4)), (.ri .i64 list2), (.ri .i64 [rest3_0, rest3_1, rest3_2])] [(.vec 71 (.rl .i64 out4))] = impl_apart_len3_3_c _ list2 rest3_0 rest3_1 rest3_2 out4 (fun r => some ⟨(.sl 0 0 (List.length r)), [(.vec 71 (.rl .i64 r))], [0]⟩) := by kernel_rfl
def impl_apart_len3_3_ent (F : Nat) : Ent := ⟨[true], .loud, fun args mem => match args, mem with
  | [(.sl 0 0 q_out1), (.ri .i64 list2), (.ri .i64 [rest3_0, rest3_1, rest3_2])], [(.vec 71 (.rl .i64 out4))] => some (((Nat.beq q_out1 (List.length out4)) && (impl_apart_len3_3_p list2 rest3_0 rest3_1 rest3_2 out4).isSome), ⟨(.sl 0 0 (List.length ((impl_apart_len3_3_p list2 rest3_0 rest3_1 rest3_2 out4).getD default))), [(.vec 71 (.rl .i64 ((impl_apart_len3_3_p list2 rest3_0 rest3_1 rest3_2 out4).getD default)))], [0]⟩)
  | _, _ => none⟩
theorem impl_apart_len3_3_fok : FunOK Try.prog 63 := funOK Try.func63 (by kernel_rfl) rfl
theorem impl_apart_len3_3_meets (F : Nat) : Meets Try.prog 63 (impl_apart_len3_3_ent F) := by
  refine meets_of_runS mixed ttok deep (impl_apart_len3_3_tabok F) Try.func63 (body_some rfl) (impl_apart_len3_3_lsok0 F) fun args mem hfit ret h => ?_
  clear hfit
  simp only [impl_apart_len3_3_ent] at h
  split at h
  · rename_i q_out1 list2 rest3_0 rest3_1 rest3_2 out4
    simp only [Option.some.injEq, Prod.mk.injEq] at h
    obtain ⟨hc, rfl⟩ := h
    have hg := (and_split hc).1
    replace hc := (and_split hc).2
    obtain rfl := nbeq_nat hg
    exact ⟨[], [0], 70, _, (impl_apart_len3_3_run F list2 rest3_0 rest3_1 rest3_2 out4).trans ((impl_apart_len3_3_cp _ list2 rest3_0 rest3_1 rest3_2 out4 _).trans (bind_use hc _)), rfl, rfl, rfl⟩
  · cases h

/-! loop.example/g01194/impl.apart -/
noncomputable def impl_apart_len4_tab (F : Nat) : Tab := [(70, (slices_Clone_intint_2_ent F)), (63, (orEnt (impl_apart_len3_2_ent F) (impl_apart_len3_3_ent F)))]
theorem impl_apart_len4_tabok (F : Nat) : TabOK Try.prog (impl_apart_len4_tab F) := (tab_cons (slices_Clone_intint_2_meets F) slices_Clone_intint_2_fok (tab_cons (meets_or (impl_apart_len3_2_meets F) (impl_apart_len3_3_meets F) rfl) impl_apart_len3_2_fok tab_nil))
noncomputable def impl_apart_len4_LS0 (F : Nat) : LT := []
theorem impl_apart_len4_lsok0 (F : Nat) : LoopsOK Try.prog (impl_apart_len4_LS0 F) (bodyOf Try.f63) := loopsOK_nil
theorem impl_apart_len4_run (F : Nat) (rest0_0 : Int) (rest0_1 : Int) (rest0_2 : Int) (rest0_3 : Int) : runS tt (impl_apart_len4_tab F) (impl_apart_len4_LS0 F) [] [] Try.f63 (bodyOf Try.f63) 70 [.z0, .z0, (.ri .i64 [rest0_0, rest0_1, rest0_2, rest0_3])] [] = impl_apart_len4_c _ rest0_0 rest0_1 rest0_2 rest0_3 (fun r => some ⟨(.sl 0 0 (List.length r)), [(.vec 71 (.rl .i64 r))], []⟩) := by kernel_rfl
def impl_apart_len4_ent (F : Nat) : Ent := ⟨[true], .loud, fun args mem => match args, mem with
  | [.z0, .z0, (.ri .i64 [rest0_0, rest0_1, rest0_2, rest0_3])], [] => some ((impl_apart_len4_p rest0_0 rest0_1 rest0_2 rest0_3).isSome, ⟨(.sl 0 0 (List.length ((impl_apart_len4_p rest0_0 rest0_1 rest0_2 rest0_3).getD default))), [(.vec 71 (.rl .i64 ((impl_apart_len4_p rest0_0 rest0_1 rest0_2 rest0_3).getD default)))], []⟩)
  | _, _ => none⟩
theorem impl_apart_len4_fok : FunOK Try.prog 63 := funOK Try.func63 (by kernel_rfl) rfl
theorem impl_apart_len4_meets (F : Nat) : Meets Try.prog 63 (impl_apart_len4_ent F) := by
  refine meets_of_runS mixed ttok deep (impl_apart_len4_tabok F) Try.func63 (body_some rfl) (impl_apart_len4_lsok0 F) fun args mem hfit ret h => ?_
  clear hfit
  simp only [impl_apart_len4_ent] at h
  split at h
  · rename_i rest0_0 rest0_1 rest0_2 rest0_3
    simp only [Option.some.injEq, Prod.mk.injEq] at h
    obtain ⟨hc, rfl⟩ := h
    exact ⟨[], [], 70, _, (impl_apart_len4_run F rest0_0 rest0_1 rest0_2 rest0_3).trans ((impl_apart_len4_cp _ rest0_0 rest0_1 rest0_2 rest0_3 _).trans (bind_use hc _)), rfl, rfl, rfl⟩
  · cases h

/-! loop.example/g01194/impl.apart -/
def impl_apart_ent (F : Nat) : Ent := ⟨[true], .loud, fun args mem => match args, mem with
  | [.z0, .z0, (.ri .i64 rest0)], [] => some ((impl_apart_p rest0).isSome, ⟨(.sl 0 0 (List.length ((impl_apart_p rest0).getD default))), [(.vec 71 (.rl .i64 ((impl_apart_p rest0).getD default)))], []⟩)
  | _, _ => none⟩
theorem impl_apart_fok : FunOK Try.prog 63 := funOK Try.func63 (by kernel_rfl) rfl
theorem impl_apart_meets (F : Nat) : Meets Try.prog 63 (impl_apart_ent F) := by
  intro fr w ρ mem args reals hw ha ret hg
  simp only [impl_apart_ent] at hg
  split at hg
  · rename_i rest0
    simp only [Option.some.injEq, Prod.mk.injEq] at hg
    obtain ⟨hc, rfl⟩ := hg
    by_cases hn0 : Nat.beq (List.length rest0) 0 = true
    · obtain rfl := list0 (nbeq_nat hn0)
      have e : impl_apart_p [] = some [([] : List Int)] := by kernel_rfl
      have hg' : (impl_apart_len0_ent F).g [.z0, .z0, (.ri .i64 ([] : List Int))] [] = some (true, ⟨(.sl 0 0 1), [(.vec 71 (.rl .i64 [([] : List Int)]))], []⟩) := by kernel_rfl
      have h9 := impl_apart_len0_meets F fr w ρ _ _ reals hw ha _ hg'
      simp only [e, cond_true, Option.getD_some]
      exact h9
    · replace hn0 : Nat.beq (List.length rest0) 0 = false := by simpa only [Bool.not_eq_true] using hn0
      by_cases hn1 : Nat.beq (List.length rest0) 1 = true
      · obtain ⟨y0, rfl⟩ := list1 (nbeq_nat hn1)
        have e : impl_apart_p [y0] = (bif (Option.isSome (impl_apart_len1_p y0)) then some (Option.getD (impl_apart_len1_p y0) default) else none) := by kernel_rfl
        have hg' : (impl_apart_len1_ent F).g [.z0, .z0, (.ri .i64 [y0])] [] = some ((Option.isSome (impl_apart_len1_p y0)), ⟨(.sl 0 0 (List.length (Option.getD (impl_apart_len1_p y0) default))), [(.vec 71 (.rl .i64 (Option.getD (impl_apart_len1_p y0) default)))], []⟩) := by kernel_rfl
        rw [e] at hc
        have hC := isSome_cond hc
        rw [hC] at hg'
        have h9 := impl_apart_len1_meets F fr w ρ _ _ reals hw ha _ hg'
        simp only [e, hC, cond_true, Option.getD_some]
        exact h9
      · replace hn1 : Nat.beq (List.length rest0) 1 = false := by simpa only [Bool.not_eq_true] using hn1
        by_cases hn2 : Nat.beq (List.length rest0) 2 = true
        · obtain ⟨y0, y1, rfl⟩ := list2 (nbeq_nat hn2)
          have e : impl_apart_p [y0, y1] = (bif (Option.isSome (impl_apart_len2_p y0 y1)) then some (Option.getD (impl_apart_len2_p y0 y1) default) else none) := by kernel_rfl
          have hg' : (impl_apart_len2_ent F).g [.z0, .z0, (.ri .i64 [y0, y1])] [] = some ((Option.isSome (impl_apart_len2_p y0 y1)), ⟨(.sl 0 0 (List.length (Option.getD (impl_apart_len2_p y0 y1) default))), [(.vec 71 (.rl .i64 (Option.getD (impl_apart_len2_p y0 y1) default)))], []⟩) := by kernel_rfl
          rw [e] at hc
          have hC := isSome_cond hc
          rw [hC] at hg'
          have h9 := impl_apart_len2_meets F fr w ρ _ _ reals hw ha _ hg'
          simp only [e, hC, cond_true, Option.getD_some]
          exact h9
        · replace hn2 : Nat.beq (List.length rest0) 2 = false := by simpa only [Bool.not_eq_true] using hn2
          by_cases hn3 : Nat.beq (List.length rest0) 3 = true
          · obtain ⟨y0, y1, y2, rfl⟩ := list3 (nbeq_nat hn3)
            have e : impl_apart_p [y0, y1, y2] = (bif (Option.isSome (impl_apart_len3_p y0 y1 y2)) then some (Option.getD (impl_apart_len3_p y0 y1 y2) default) else none) := by kernel_rfl
            have hg' : (impl_apart_len3_ent F).g [.z0, .z0, (.ri .i64 [y0, y1, y2])] [] = some ((Option.isSome (impl_apart_len3_p y0 y1 y2)), ⟨(.sl 0 0 (List.length (Option.getD (impl_apart_len3_p y0 y1 y2) default))), [(.vec 71 (.rl .i64 (Option.getD (impl_apart_len3_p y0 y1 y2) default)))], []⟩) := by kernel_rfl
            rw [e] at hc
            have hC := isSome_cond hc
            rw [hC] at hg'
            have h9 := impl_apart_len3_meets F fr w ρ _ _ reals hw ha _ hg'
            simp only [e, hC, cond_true, Option.getD_some]
            exact h9
          · replace hn3 : Nat.beq (List.length rest0) 3 = false := by simpa only [Bool.not_eq_true] using hn3
            by_cases hn4 : Nat.beq (List.length rest0) 4 = true
            · obtain ⟨y0, y1, y2, y3, rfl⟩ := list4 (nbeq_nat hn4)
              have e : impl_apart_p [y0, y1, y2, y3] = (bif (Option.isSome (impl_apart_len4_p y0 y1 y2 y3)) then some (Option.getD (impl_apart_len4_p y0 y1 y2 y3) default) else none) := by kernel_rfl
              have hg' : (impl_apart_len4_ent F).g [.z0, .z0, (.ri .i64 [y0, y1, y2, y3])] [] = some ((Option.isSome (impl_apart_len4_p y0 y1 y2 y3)), ⟨(.sl 0 0 (List.length (Option.getD (impl_apart_len4_p y0 y1 y2 y3) default))), [(.vec 71 (.rl .i64 (Option.getD (impl_apart_len4_p y0 y1 y2 y3) default)))], []⟩) := by kernel_rfl
              rw [e] at hc
              have hC := isSome_cond hc
              rw [hC] at hg'
              have h9 := impl_apart_len4_meets F fr w ρ _ _ reals hw ha _ hg'
              simp only [e, hC, cond_true, Option.getD_some]
              exact h9
            · replace hn4 : Nat.beq (List.length rest0) 4 = false := by simpa only [Bool.not_eq_true] using hn4
              exfalso
              have e : impl_apart_p rest0 = none := by simp only [impl_apart_p, impl_apart_c, hn0, hn1, hn2, hn3, hn4, cond_false]
              rw [e] at hc
              cases hc
  · cases hg

/-! loop.example/g01194/impl.worth -/
noncomputable def impl_worth_tab (F : Nat) : Tab := []
theorem impl_worth_tabok (F : Nat) : TabOK Try.prog (impl_worth_tab F) := tab_nil
noncomputable def impl_worth_LS0 (F : Nat) : LT := []
theorem impl_worth_lsok0 (F : Nat) : LoopsOK Try.prog (impl_worth_LS0 F) (bodyOf Try.f52) := loopsOK_nil
theorem impl_worth_run (F : Nat) (t0 : Int) : runS tt (impl_worth_tab F) (impl_worth_LS0 F) [] [] Try.f52 (bodyOf Try.f52) 70 [(.int .i64 t0)] [] = impl_worth_c _ t0 (fun r => some ⟨(.int .i64 r), [], []⟩) := by kernel_rfl
def impl_worth_ent (F : Nat) : Ent := ⟨[], .quiet, fun args mem => match args, mem with
  | [(.int .i64 t0)], [] => some ((impl_worth_p t0).isSome, ⟨(.int .i64 ((impl_worth_p t0).getD default)), [], []⟩)
  | _, _ => none⟩
theorem impl_worth_fok : FunOK Try.prog 52 := funOK Try.func52 (by kernel_rfl) rfl
theorem impl_worth_meets (F : Nat) : Meets Try.prog 52 (impl_worth_ent F) := by
  refine meets_of_runS mixed ttok deep (impl_worth_tabok F) Try.func52 (body_some rfl) (impl_worth_lsok0 F) fun args mem hfit ret h => ?_
  clear hfit
  simp only [impl_worth_ent] at h
  split at h
  · rename_i t0
    simp only [Option.some.injEq, Prod.mk.injEq] at h
    obtain ⟨hc, rfl⟩ := h
    exact ⟨[], [], 70, _, (impl_worth_run F t0).trans ((impl_worth_cp _ t0 _).trans (bind_use hc _)), rfl, rfl, rfl⟩
  · cases h

/-! loop.example/g01194/impl.slideRow -/
noncomputable def impl_slideRow_tab (F : Nat) : Tab := [(51, (impl_tiles_ent F)), (52, (impl_worth_ent F))]
theorem impl_slideRow_tabok (F : Nat) : TabOK Try.prog (impl_slideRow_tab F) := (tab_cons (impl_tiles_meets F) impl_tiles_fok (tab_cons (impl_worth_meets F) impl_worth_fok tab_nil))
noncomputable def impl_slideRow_LS0 (F : Nat) : LT := []
theorem impl_slideRow_lsok0 (F : Nat) : LoopsOK Try.prog (impl_slideRow_LS0 F) (bodyOf Try.f35) := loopsOK_nil
theorem impl_slideRow_keys : keysOK (bodyOf Try.f35) = true := by kernel_rfl
def impl_slideRow_st3 (t1415 : Nat) (t1516 : Int) (t1422 : List Int) (score12 : Int) (many13 : Int) (t1617 : Int) (out20 : List Int) (merged21 : List Bool) : St := ⟨expand 63 0 [2, 4, 5, 6, 7, 8, 14, 15, 16] [(.ptr 0 0 0 4), (.ptr 1 0 0 4), (.ptr 2 0 0 4), (.ptr 3 0 0 4), (.int .i64 score12), (.int .i64 many13), (.sl 4 0 t1415), (.int .i64 t1516), (.int .i64 t1617)], [(.var 4 (.ri .i64 [(0 : Int), (0 : Int), (0 : Int), (0 : Int)])), (.var 4 (.rb [false, false, false, false])), (.var 4 (.ri .i64 out20)), (.var 4 (.rb merged21)), (.vec 3 (.ri .i64 t1422))], 0, []⟩
def impl_slideRow_o3 (t1415 : Nat) (t1516 : Int) (t1422 : List Int) (x : Int × List Int × List Bool) : GT := (.out (.exit 0 ⟨expand 63 0 [2, 4, 5, 6, 7] [(.ptr 0 0 0 4), (.ptr 1 0 0 4), (.ptr 2 0 0 4), (.ptr 3 0 0 4), (.int .i64 x.1)], [(.var 4 (.ri .i64 [(0 : Int), (0 : Int), (0 : Int), (0 : Int)])), (.var 4 (.rb [false, false, false, false])), (.var 4 (.ri .i64 x.2.1)), (.var 4 (.rb x.2.2))], 0, []⟩))
def impl_slideRow_ls3 (F : Nat) : LoopS := ⟨63, [2, 4, 5, 6, 7, 8, 14, 15, 16], [], [2, 4, 5, 6, 7], [], [2, 3, 4], [], [], fun vals mem np killed => match vals, mem, np, killed with
  | [(.ptr 0 0 0 4), (.ptr 1 0 0 4), (.ptr 2 0 0 4), (.ptr 3 0 0 4), (.int .i64 score12), (.int .i64 many13), (.sl 4 0 t1415), (.int .i64 t1516), (.int .i64 t1617)], [(.var 4 (.ri .i64 q_t218)), (.var 4 (.rb q_t419)), (.var 4 (.ri .i64 out20)), (.var 4 (.rb merged21)), (.vec 3 (.ri .i64 t1422))], 0, [] => .br ((q_t218 == ([(0 : Int), (0 : Int), (0 : Int), (0 : Int)] : List Int)) && ((q_t419 == ([false, false, false, false] : List Bool)) && (impl_slideRow_l3 F t1415 t1516 t1422 score12 many13 t1617 out20 merged21).isSome)) (impl_slideRow_o3 t1415 t1516 t1422 ((impl_slideRow_l3 F t1415 t1516 t1422 score12 many13 t1617 out20 merged21).getD default)) .fail
  | _, _, _, _ => .fail⟩
theorem impl_slideRow_step3 (F : Nat) (t1415 : Nat) (t1516 : Int) (t1422 : List Int) (score12 : Int) (many13 : Int) (t1617 : Int) (out20 : List Int) (merged21 : List Bool) {R : Type} (k : Out → Option R) : stepS tt (impl_slideRow_tab F) (impl_slideRow_LS0 F) 70 (impl_slideRow_ls3 F) (loopAt 3 (bodyOf Try.f35)) (impl_slideRow_st3 t1415 t1516 t1422 score12 many13 t1617 out20 merged21) k = impl_slideRow_s3 F t1415 t1516 t1422 R (score12, many13, t1617, out20, merged21) (fun s => k (.norm (impl_slideRow_st3 t1415 t1516 t1422 s.1 s.2.1 s.2.2.1 s.2.2.2.1 s.2.2.2.2))) (fun x => (impl_slideRow_o3 t1415 t1516 t1422 x).run k) := by kernel_rfl
theorem impl_slideRow_iter3 (F : Nat) (t1415 : Nat) (t1516 : Int) (t1422 : List Int) {R : Type} (k : Out → Option R) : ∀ (n : Nat) (score12 : Int) (many13 : Int) (t1617 : Int) (out20 : List Int) (merged21 : List Bool), iterS tt (impl_slideRow_tab F) (impl_slideRow_LS0 F) 70 (impl_slideRow_ls3 F) (loopAt 3 (bodyOf Try.f35)) n (impl_slideRow_st3 t1415 t1516 t1422 score12 many13 t1617 out20 merged21) k = loopC (impl_slideRow_s3 F t1415 t1516 t1422) n (score12, many13, t1617, out20, merged21) (fun x => (impl_slideRow_o3 t1415 t1516 t1422 x).run k)
  | 0, score12, many13, t1617, out20, merged21 => rfl
  | n + 1, score12, many13, t1617, out20, merged21 => (iterS_succ tt (impl_slideRow_tab F) (impl_slideRow_LS0 F) 70 (impl_slideRow_ls3 F) (loopAt 3 (bodyOf Try.f35)) n (impl_slideRow_st3 t1415 t1516 t1422 score12 many13 t1617 out20 merged21) k).trans ((impl_slideRow_step3 F t1415 t1516 t1422 score12 many13 t1617 out20 merged21 (nextK (iterS tt (impl_slideRow_tab F) (impl_slideRow_LS0 F) 70 (impl_slideRow_ls3 F) (loopAt 3 (bodyOf Try.f35)) n) k)).trans (congrArg (fun kn => impl_slideRow_s3 F t1415 t1516 t1422 R (score12, many13, t1617, out20, merged21) kn _) (funext (fun ⟨score12, many13, t1617, out20, merged21⟩ => impl_slideRow_iter3 F t1415 t1516 t1422 k n score12 many13 t1617 out20 merged21))))
theorem impl_slideRow_lok3 (F : Nat) : LoopOK Try.prog (loopAt 3 (bodyOf Try.f35)) (impl_slideRow_ls3 F) := by
  refine loopOK_of mixed ttok deep (impl_slideRow_tabok F) (loopsOK_at (impl_slideRow_lsok0 F) 3) (fuel := 70) fun R vals mem np killed k x h => ?_
  simp only [impl_slideRow_ls3] at h
  split at h
  · rename_i score12 many13 t1415 t1516 t1617 q_t218 q_t419 out20 merged21 t1422
    simp only [GT.run] at h
    have hc := (cond_noneL h).1
    replace h := (cond_noneL h).2
    have hg := (and_split hc).1
    replace hc := (and_split hc).2
    obtain rfl := beq_li hg
    have hg := (and_split hc).1
    replace hc := (and_split hc).2
    obtain rfl := beq_lb hg
    refine ⟨F, (impl_slideRow_iter3 F t1415 t1516 t1422 k F score12 many13 t1617 out20 merged21).trans ((loopC_use (impl_slideRow_s3_nat F t1415 t1516 t1422) hc _).trans h)⟩
  · simp only [GT.run] at h
    cases h
noncomputable def impl_slideRow_LS1 (F : Nat) : LT := (3, impl_slideRow_ls3 F) :: impl_slideRow_LS0 F
theorem impl_slideRow_lsok1 (F : Nat) : LoopsOK Try.prog (impl_slideRow_LS1 F) (bodyOf Try.f35) := loopsOK_cons impl_slideRow_keys (impl_slideRow_lok3 F) (impl_slideRow_lsok0 F)
theorem impl_slideRow_run (F : Nat) (row0 : List Int) : runS tt (impl_slideRow_tab F) (impl_slideRow_LS1 F) [] [] Try.f35 (bodyOf Try.f35) 70 [(.ints 4 row0)] [] = impl_slideRow_c _ F row0 (fun r => some ⟨(.tup [(.ints 4 r.1), (.int .i64 r.2.1), (.bools 4 r.2.2)]), [], []⟩) := by kernel_rfl
def impl_slideRow_ent (F : Nat) : Ent := ⟨[], .quiet, fun args mem => match args, mem with
  | [(.ints 4 row0)], [] => some ((impl_slideRow_p F row0).isSome, ⟨(.tup [(.ints 4 ((impl_slideRow_p F row0).getD default).1), (.int .i64 ((impl_slideRow_p F row0).getD default).2.1), (.bools 4 ((impl_slideRow_p F row0).getD default).2.2)]), [], []⟩)
  | _, _ => none⟩
theorem impl_slideRow_fok : FunOK Try.prog 35 := funOK Try.func35 (by kernel_rfl) rfl
theorem impl_slideRow_meets (F : Nat) : Meets Try.prog 35 (impl_slideRow_ent F) := by
  refine meets_of_runS mixed ttok deep (impl_slideRow_tabok F) Try.func35 (body_some rfl) (impl_slideRow_lsok1 F) fun args mem hfit ret h => ?_
  clear hfit
  simp only [impl_slideRow_ent] at h
  split at h
  · rename_i row0
    simp only [Option.some.injEq, Prod.mk.injEq] at h
    obtain ⟨hc, rfl⟩ := h
    exact ⟨[], [], 70, _, (impl_slideRow_run F row0).trans ((impl_slideRow_cp _ F row0 _).trans (bind_use hc _)), rfl, rfl, rfl⟩
  · cases h

/-! cmp.isNaN[int] -/
noncomputable def cmp_isNaN_int_tab (F : Nat) : Tab := []
theorem cmp_isNaN_int_tabok (F : Nat) : TabOK Try.prog (cmp_isNaN_int_tab F) := tab_nil
noncomputable def cmp_isNaN_int_LS0 (F : Nat) : LT := []
theorem cmp_isNaN_int_lsok0 (F : Nat) : LoopsOK Try.prog (cmp_isNaN_int_LS0 F) (bodyOf Try.f90) := loopsOK_nil
theorem cmp_isNaN_int_run (F : Nat) (x0 : Int) : runS tt (cmp_isNaN_int_tab F) (cmp_isNaN_int_LS0 F) [] [] Try.f90 (bodyOf Try.f90) 70 [(.int .i64 x0)] [] = cmp_isNaN_int_c _ x0 (fun r => some ⟨(.bool r), [], []⟩) := by kernel_rfl
def cmp_isNaN_int_ent (F : Nat) : Ent := ⟨[], .quiet, fun args mem => match args, mem with
  | [(.int .i64 x0)], [] => some (true, ⟨(.bool (cmp_isNaN_int_v x0)), [], []⟩)
  | _, _ => none⟩
theorem cmp_isNaN_int_fok : FunOK Try.prog 90 := funOK Try.func90 (by kernel_rfl) rfl
theorem cmp_isNaN_int_meets (F : Nat) : Meets Try.prog 90 (cmp_isNaN_int_ent F) := by
  refine meets_of_runS mixed ttok deep (cmp_isNaN_int_tabok F) Try.func90 (body_some rfl) (cmp_isNaN_int_lsok0 F) fun args mem hfit ret h => ?_
  clear hfit
  simp only [cmp_isNaN_int_ent] at h
  split at h
  · rename_i x0
    simp only [Option.some.injEq, Prod.mk.injEq] at h
    obtain ⟨hc, rfl⟩ := h
    exact ⟨[], [], 70, _, (cmp_isNaN_int_run F x0).trans (cmp_isNaN_int_cv _ x0 _), rfl, rfl, rfl⟩
  · cases h

/-! cmp.Compare[int] -/
noncomputable def cmp_Compare_int_tab (F : Nat) : Tab := [(90, (cmp_isNaN_int_ent F))]
theorem cmp_Compare_int_tabok (F : Nat) : TabOK Try.prog (cmp_Compare_int_tab F) := (tab_cons (cmp_isNaN_int_meets F) cmp_isNaN_int_fok tab_nil)
noncomputable def cmp_Compare_int_LS0 (F : Nat) : LT := []
theorem cmp_Compare_int_lsok0 (F : Nat) : LoopsOK Try.prog (cmp_Compare_int_LS0 F) (bodyOf Try.f78) := loopsOK_nil
theorem cmp_Compare_int_run (F : Nat) (x0 : Int) (y1 : Int) : runS tt (cmp_Compare_int_tab F) (cmp_Compare_int_LS0 F) [] [] Try.f78 (bodyOf Try.f78) 70 [(.int .i64 x0), (.int .i64 y1)] [] = cmp_Compare_int_c _ x0 y1 (fun r => some ⟨(.int .i64 r), [], []⟩) := by kernel_rfl
def cmp_Compare_int_ent (F : Nat) : Ent := ⟨[], .quiet, fun args mem => match args, mem with
  | [(.int .i64 x0), (.int .i64 y1)], [] => some (true, ⟨(.int .i64 (cmp_Compare_int_v x0 y1)), [], []⟩)
  | _, _ => none⟩
theorem cmp_Compare_int_fok : FunOK Try.prog 78 := funOK Try.func78 (by kernel_rfl) rfl
theorem cmp_Compare_int_meets (F : Nat) : Meets Try.prog 78 (cmp_Compare_int_ent F) := by
  refine meets_of_runS mixed ttok deep (cmp_Compare_int_tabok F) Try.func78 (body_some rfl) (cmp_Compare_int_lsok0 F) fun args mem hfit ret h => ?_
  clear hfit
  simp only [cmp_Compare_int_ent] at h
  split at h
  · rename_i x0 y1
    simp only [Option.some.injEq, Prod.mk.injEq] at h
    obtain ⟨hc, rfl⟩ := h
    exact ⟨[], [], 70, _, (cmp_Compare_int_run F x0 y1).trans (cmp_Compare_int_cv _ x0 y1 _), rfl, rfl, rfl⟩
  · cases h

/-! slices.Compare[[]int,int] -/
noncomputable def slices_Compare_intint_tab (F : Nat) : Tab := [(78, (cmp_Compare_int_ent F))]
theorem slices_Compare_intint_tabok (F : Nat) : TabOK Try.prog (slices_Compare_intint_tab F) := (tab_cons (cmp_Compare_int_meets F) cmp_Compare_int_fok tab_nil)
noncomputable def slices_Compare_intint_LS0 (F : Nat) : LT := []
theorem slices_Compare_intint_lsok0 (F : Nat) : LoopsOK Try.prog (slices_Compare_intint_LS0 F) (bodyOf Try.f66) := loopsOK_nil
theorem slices_Compare_intint_keys : keysOK (bodyOf Try.f66) = true := by kernel_rfl
def slices_Compare_intint_st2 (s10 : List Int) (s21 : List Int) (t92 : List Int) (t103 : Int) (t114 : Int) : St := ⟨expand 36 0 [0, 1, 9, 10, 11] [(.ri .i64 s10), (.ri .i64 s21), (.ri .i64 t92), (.int .i64 t103), (.int .i64 t114)], [], 0, []⟩
def slices_Compare_intint_o2 (s10 : List Int) (s21 : List Int) (t92 : List Int) (t103 : Int) (x : Bool × Int) : GT := (.br x.1 (.out (.ret ⟨expand 36 0 [4] [(.int .i64 x.2)], [], 0, []⟩)) (.out (.exit 0 ⟨expand 36 0 [0, 1] [(.ri .i64 s10), (.ri .i64 s21)], [], 0, []⟩)))
def slices_Compare_intint_ls2 (F : Nat) : LoopS := ⟨36, [0, 1, 9, 10, 11], [], [0, 1], [], [4], [], [], fun vals mem np killed => match vals, mem, np, killed with
  | [(.ri .i64 s10), (.ri .i64 s21), (.ri .i64 t92), (.int .i64 t103), (.int .i64 t114)], [], 0, [] => .br (slices_Compare_intint_l2 F s10 s21 t92 t103 t114).isSome (slices_Compare_intint_o2 s10 s21 t92 t103 ((slices_Compare_intint_l2 F s10 s21 t92 t103 t114).getD default)) .fail
  | _, _, _, _ => .fail⟩
theorem slices_Compare_intint_step2 (F : Nat) (s10 : List Int) (s21 : List Int) (t92 : List Int) (t103 : Int) (t114 : Int) {R : Type} (k : Out → Option R) : stepS tt (slices_Compare_intint_tab F) (slices_Compare_intint_LS0 F) 70 (slices_Compare_intint_ls2 F) (loopAt 2 (bodyOf Try.f66)) (slices_Compare_intint_st2 s10 s21 t92 t103 t114) k = slices_Compare_intint_s2 F s10 s21 t92 t103 R t114 (fun s => k (.norm (slices_Compare_intint_st2 s10 s21 t92 t103 s))) (fun x => (slices_Compare_intint_o2 s10 s21 t92 t103 x).run k) := by kernel_rfl
theorem slices_Compare_intint_iter2 (F : Nat) (s10 : List Int) (s21 : List Int) (t92 : List Int) (t103 : Int) {R : Type} (k : Out → Option R) : ∀ (n : Nat) (t114 : Int), iterS tt (slices_Compare_intint_tab F) (slices_Compare_intint_LS0 F) 70 (slices_Compare_intint_ls2 F) (loopAt 2 (bodyOf Try.f66)) n (slices_Compare_intint_st2 s10 s21 t92 t103 t114) k = loopC (slices_Compare_intint_s2 F s10 s21 t92 t103) n t114 (fun x => (slices_Compare_intint_o2 s10 s21 t92 t103 x).run k)
  | 0, t114 => rfl
  | n + 1, t114 => (iterS_succ tt (slices_Compare_intint_tab F) (slices_Compare_intint_LS0 F) 70 (slices_Compare_intint_ls2 F) (loopAt 2 (bodyOf Try.f66)) n (slices_Compare_intint_st2 s10 s21 t92 t103 t114) k).trans ((slices_Compare_intint_step2 F s10 s21 t92 t103 t114 (nextK (iterS tt (slices_Compare_intint_tab F) (slices_Compare_intint_LS0 F) 70 (slices_Compare_intint_ls2 F) (loopAt 2 (bodyOf Try.f66)) n) k)).trans (congrArg (fun kn => slices_Compare_intint_s2 F s10 s21 t92 t103 R t114 kn _) (funext (fun t114 => slices_Compare_intint_iter2 F s10 s21 t92 t103 k n t114))))
theorem slices_Compare_intint_lok2 (F : Nat) : LoopOK Try.prog (loopAt 2 (bodyOf Try.f66)) (slices_Compare_intint_ls2 F) := by
  refine loopOK_of mixed ttok deep (slices_Compare_intint_tabok F) (loopsOK_at (slices_Compare_intint_lsok0 F) 2) (fuel := 70) fun R vals mem np killed k x h => ?_
  simp only [slices_Compare_intint_ls2] at h
  split at h
  · rename_i s10 s21 t92 t103 t114
    simp only [GT.run] at h
    have hc := (cond_noneL h).1
    replace h := (cond_noneL h).2
    refine ⟨F, (slices_Compare_intint_iter2 F s10 s21 t92 t103 k F t114).trans ((loopC_use (slices_Compare_intint_s2_nat F s10 s21 t92 t103) hc _).trans h)⟩
  · simp only [GT.run] at h
    cases h
noncomputable def slices_Compare_intint_LS1 (F : Nat) : LT := (2, slices_Compare_intint_ls2 F) :: slices_Compare_intint_LS0 F
theorem slices_Compare_intint_lsok1 (F : Nat) : LoopsOK Try.prog (slices_Compare_intint_LS1 F) (bodyOf Try.f66) := loopsOK_cons slices_Compare_intint_keys (slices_Compare_intint_lok2 F) (slices_Compare_intint_lsok0 F)
theorem slices_Compare_intint_run (F : Nat) (s10 : List Int) (s21 : List Int) : runS tt (slices_Compare_intint_tab F) (slices_Compare_intint_LS1 F) [] [] Try.f66 (bodyOf Try.f66) 70 [(.ri .i64 s10), (.ri .i64 s21)] [] = slices_Compare_intint_c _ F s10 s21 (fun r => some ⟨(.int .i64 r), [], []⟩) := by kernel_rfl
def slices_Compare_intint_ent (F : Nat) : Ent := ⟨[], .quiet, fun args mem => match args, mem with
  | [(.ri .i64 s10), (.ri .i64 s21)], [] => some ((slices_Compare_intint_p F s10 s21).isSome, ⟨(.int .i64 ((slices_Compare_intint_p F s10 s21).getD default)), [], []⟩)
  | _, _ => none⟩
theorem slices_Compare_intint_fok : FunOK Try.prog 66 := funOK Try.func66 (by kernel_rfl) rfl
theorem slices_Compare_intint_meets (F : Nat) : Meets Try.prog 66 (slices_Compare_intint_ent F) := by
  refine meets_of_runS mixed ttok deep (slices_Compare_intint_tabok F) Try.func66 (body_some rfl) (slices_Compare_intint_lsok1 F) fun args mem hfit ret h => ?_
  clear hfit
  simp only [slices_Compare_intint_ent] at h
  split at h
  · rename_i s10 s21
    simp only [Option.some.injEq, Prod.mk.injEq] at h
    obtain ⟨hc, rfl⟩ := h
    exact ⟨[], [], 70, _, (slices_Compare_intint_run F s10 s21).trans ((slices_Compare_intint_cp _ F s10 s21 _).trans (bind_use hc _)), rfl, rfl, rfl⟩
  · cases h

/-! loop.example/g01194/impl.rowsBefore$1 -/
noncomputable def impl_rowsBefore_f1_tab (F : Nat) : Tab := [(66, (slices_Compare_intint_ent F))]
theorem impl_rowsBefore_f1_tabok (F : Nat) : TabOK Try.prog (impl_rowsBefore_f1_tab F) := (tab_cons (slices_Compare_intint_meets F) slices_Compare_intint_fok tab_nil)
noncomputable def impl_rowsBefore_f1_LS0 (F : Nat) : LT := []
theorem impl_rowsBefore_f1_lsok0 (F : Nat) : LoopsOK Try.prog (impl_rowsBefore_f1_LS0 F) (bodyOf Try.f65) := loopsOK_nil
theorem impl_rowsBefore_f1_run (F : Nat) (a0 : List Int) (b1 : List Int) : runS tt (impl_rowsBefore_f1_tab F) (impl_rowsBefore_f1_LS0 F) [] [] Try.f65 (bodyOf Try.f65) 70 [(.ints 4 a0), (.ints 4 b1)] [] = impl_rowsBefore_f1_c _ F a0 b1 (fun r => some ⟨(.int .i64 r), [], []⟩) := by kernel_rfl
def impl_rowsBefore_f1_ent (F : Nat) : Ent := ⟨[], .quiet, fun args mem => match args, mem with
  | [(.ints 4 a0), (.ints 4 b1)], [] => some ((impl_rowsBefore_f1_p F a0 b1).isSome, ⟨(.int .i64 ((impl_rowsBefore_f1_p F a0 b1).getD default)), [], []⟩)
  | _, _ => none⟩
theorem impl_rowsBefore_f1_fok : FunOK Try.prog 65 := funOK Try.func65 (by kernel_rfl) rfl
theorem impl_rowsBefore_f1_meets (F : Nat) : Meets Try.prog 65 (impl_rowsBefore_f1_ent F) := by
  refine meets_of_runS mixed ttok deep (impl_rowsBefore_f1_tabok F) Try.func65 (body_some rfl) (impl_rowsBefore_f1_lsok0 F) fun args mem hfit ret h => ?_
  clear hfit
  simp only [impl_rowsBefore_f1_ent] at h
  split at h
  · rename_i a0 b1
    simp only [Option.some.injEq, Prod.mk.injEq] at h
    obtain ⟨hc, rfl⟩ := h
    exact ⟨[], [], 70, _, (impl_rowsBefore_f1_run F a0 b1).trans ((impl_rowsBefore_f1_cp _ F a0 b1 _).trans (bind_use hc _)), rfl, rfl, rfl⟩
  · cases h

/-! slices.SortFunc[[][4]int,[4]int] -/
def slices_SortFunc_4int4int_impl_rowsBefore_f1_ent (F : Nat) : Ent := sortEnt 65 4 22 F
theorem slices_SortFunc_4int4int_impl_rowsBefore_f1_fok : FunOK Try.prog 64 := funOK Try.func64 (by kernel_rfl) rfl
theorem slices_SortFunc_4int4int_impl_rowsBefore_f1_meets (F : Nat) : Meets Try.prog 64 (slices_SortFunc_4int4int_impl_rowsBefore_f1_ent F) := by
  refine meets_sortK Try.sort64 4 22 F Try.isAgg22 Try.sizeOf22 65 (enters_of Try.func65 (by kernel_rfl) rfl) (impl_rowsBefore_f1_ent F) (impl_rowsBefore_f1_meets F) rfl fun hF x y hx hy => ?_
  simp only [impl_rowsBefore_f1_ent, impl_rowsBefore_f1_cmp F hF hx hy, Option.isSome_some, Option.getD_some]

/-! slices.Compact[[][4]int,[4]int] -/
noncomputable def slices_Compact_4int4int_tab (F : Nat) : Tab := []
theorem slices_Compact_4int4int_tabok (F : Nat) : TabOK Try.prog (slices_Compact_4int4int_tab F) := tab_nil
noncomputable def slices_Compact_4int4int_LS0 (F : Nat) : LT := []
theorem slices_Compact_4int4int_lsok0 (F : Nat) : LoopsOK Try.prog (slices_Compact_4int4int_LS0 F) (bodyOf Try.f67) := loopsOK_nil
theorem slices_Compact_4int4int_keys : keysOK (bodyOf Try.f67) = true := by kernel_rfl
def slices_Compact_4int4int_st9 (s1 : Nat) (s23 : Nat) (s24 : Nat) (k2 : Int) (k25 : Int) (s6 : List (List Int)) : St := ⟨expand 61 0 [0, 3, 4, 5] [(.sl 0 0 s1), (.int .i64 k2), (.sl 0 s23 s24), (.int .i64 k25)], [(.vec 22 (.rr 4 s6))], 1, []⟩
def slices_Compact_4int4int_o9 (s1 : Nat) (s23 : Nat) (s24 : Nat) (x : Int × List (List Int)) : GT := (.out (.exit 2 ⟨expand 61 0 [0, 3] [(.sl 0 0 s1), (.int .i64 x.1)], [(.vec 22 (.rr 4 x.2))], 1, []⟩))
def slices_Compact_4int4int_ls9 (F : Nat) : LoopS := ⟨61, [0, 3, 4, 5], [], [0, 3], [], [2], [], [], fun vals mem np killed => match vals, mem, np, killed with
  | [(.sl 0 0 s1), (.int .i64 k2), (.sl 0 s23 s24), (.int .i64 k25)], [(.vec 22 (.rr 4 s6))], 1, [] => .br (slices_Compact_4int4int_l9 F s1 s23 s24 k2 k25 s6).isSome (slices_Compact_4int4int_o9 s1 s23 s24 ((slices_Compact_4int4int_l9 F s1 s23 s24 k2 k25 s6).getD default)) .fail
  | _, _, _, _ => .fail⟩
theorem slices_Compact_4int4int_step9 (F : Nat) (s1 : Nat) (s23 : Nat) (s24 : Nat) (k2 : Int) (k25 : Int) (s6 : List (List Int)) {R : Type} (k : Out → Option R) : stepS tt (slices_Compact_4int4int_tab F) (slices_Compact_4int4int_LS0 F) 70 (slices_Compact_4int4int_ls9 F) (loopAt 9 (bodyOf Try.f67)) (slices_Compact_4int4int_st9 s1 s23 s24 k2 k25 s6) k = slices_Compact_4int4int_s9 F s1 s23 s24 R (k2, k25, s6) (fun s => k (.norm (slices_Compact_4int4int_st9 s1 s23 s24 s.1 s.2.1 s.2.2))) (fun x => (slices_Compact_4int4int_o9 s1 s23 s24 x).run k) := by kernel_rfl
theorem slices_Compact_4int4int_iter9 (F : Nat) (s1 : Nat) (s23 : Nat) (s24 : Nat) {R : Type} (k : Out → Option R) : ∀ (n : Nat) (k2 : Int) (k25 : Int) (s6 : List (List Int)), iterS tt (slices_Compact_4int4int_tab F) (slices_Compact_4int4int_LS0 F) 70 (slices_Compact_4int4int_ls9 F) (loopAt 9 (bodyOf Try.f67)) n (slices_Compact_4int4int_st9 s1 s23 s24 k2 k25 s6) k = loopC (slices_Compact_4int4int_s9 F s1 s23 s24) n (k2, k25, s6) (fun x => (slices_Compact_4int4int_o9 s1 s23 s24 x).run k)
  | 0, k2, k25, s6 => rfl
  | n + 1, k2, k25, s6 => (iterS_succ tt (slices_Compact_4int4int_tab F) (slices_Compact_4int4int_LS0 F) 70 (slices_Compact_4int4int_ls9 F) (loopAt 9 (bodyOf Try.f67)) n (slices_Compact_4int4int_st9 s1 s23 s24 k2 k25 s6) k).trans ((slices_Compact_4int4int_step9 F s1 s23 s24 k2 k25 s6 (nextK (iterS tt (slices_Compact_4int4int_tab F) (slices_Compact_4int4int_LS0 F) 70 (slices_Compact_4int4int_ls9 F) (loopAt 9 (bodyOf Try.f67)) n) k)).trans (congrArg (fun kn => slices_Compact_4int4int_s9 F s1 s23 s24 R (k2, k25, s6) kn _) (funext (fun ⟨k2, k25, s6⟩ => slices_Compact_4int4int_iter9 F s1 s23 s24 k n k2 k25 s6))))
theorem slices_Compact_4int4int_lok9 (F : Nat) : LoopOK Try.prog (loopAt 9 (bodyOf Try.f67)) (slices_Compact_4int4int_ls9 F) := by
  refine loopOK_of mixed ttok deep (slices_Compact_4int4int_tabok F) (loopsOK_at (slices_Compact_4int4int_lsok0 F) 9) (fuel := 70) fun R vals mem np killed k x h => ?_
  simp only [slices_Compact_4int4int_ls9] at h
  split at h
  · rename_i s1 k2 s23 s24 k25 s6
    simp only [GT.run] at h
    have hc := (cond_noneL h).1
    replace h := (cond_noneL h).2
    refine ⟨F, (slices_Compact_4int4int_iter9 F s1 s23 s24 k F k2 k25 s6).trans ((loopC_use (slices_Compact_4int4int_s9_nat F s1 s23 s24) hc _).trans h)⟩
  · simp only [GT.run] at h
    cases h
noncomputable def slices_Compact_4int4int_LS1 (F : Nat) : LT := (9, slices_Compact_4int4int_ls9 F) :: slices_Compact_4int4int_LS0 F
theorem slices_Compact_4int4int_lsok1 (F : Nat) : LoopsOK Try.prog (slices_Compact_4int4int_LS1 F) (bodyOf Try.f67) := loopsOK_cons slices_Compact_4int4int_keys (slices_Compact_4int4int_lok9 F) (slices_Compact_4int4int_lsok0 F)
def slices_Compact_4int4int_st4 (s1 : Nat) (s3 : List (List Int)) (k2 : Int) : St := ⟨expand 61 0 [0, 3] [(.sl 0 0 s1), (.int .i64 k2)], [(.vec 22 (.rr 4 s3))], 1, []⟩
def slices_Compact_4int4int_o4 (s1 : Nat) (s3 : List (List Int)) (x : Bool × Nat × List (List Int)) : GT := (.br x.1 (.out (.ret ⟨expand 61 0 [2] [(.sl 0 0 x.2.1)], [(.vec 22 (.rr 4 x.2.2))], 1, []⟩)) (.out (.exit 0 ⟨expand 61 0 [0] [(.sl 0 0 s1)], [(.vec 22 (.rr 4 s3))], 1, []⟩)))
def slices_Compact_4int4int_ls4 (F : Nat) : LoopS := ⟨61, [0, 3], [], [0], [], [2], [], [], fun vals mem np killed => match vals, mem, np, killed with
  | [(.sl 0 0 s1), (.int .i64 k2)], [(.vec 22 (.rr 4 s3))], 1, [] => .br (slices_Compact_4int4int_l4 F s1 s3 k2).isSome (slices_Compact_4int4int_o4 s1 s3 ((slices_Compact_4int4int_l4 F s1 s3 k2).getD default)) .fail
  | _, _, _, _ => .fail⟩
theorem slices_Compact_4int4int_step4 (F : Nat) (s1 : Nat) (s3 : List (List Int)) (k2 : Int) {R : Type} (k : Out → Option R) : stepS tt (slices_Compact_4int4int_tab F) (slices_Compact_4int4int_LS1 F) 70 (slices_Compact_4int4int_ls4 F) (loopAt 4 (bodyOf Try.f67)) (slices_Compact_4int4int_st4 s1 s3 k2) k = slices_Compact_4int4int_s4 F s1 s3 R k2 (fun s => k (.norm (slices_Compact_4int4int_st4 s1 s3 s))) (fun x => (slices_Compact_4int4int_o4 s1 s3 x).run k) := by kernel_rfl
theorem slices_Compact_4int4int_iter4 (F : Nat) (s1 : Nat) (s3 : List (List Int)) {R : Type} (k : Out → Option R) : ∀ (n : Nat) (k2 : Int), iterS tt (slices_Compact_4int4int_tab F) (slices_Compact_4int4int_LS1 F) 70 (slices_Compact_4int4int_ls4 F) (loopAt 4 (bodyOf Try.f67)) n (slices_Compact_4int4int_st4 s1 s3 k2) k = loopC (slices_Compact_4int4int_s4 F s1 s3) n k2 (fun x => (slices_Compact_4int4int_o4 s1 s3 x).run k)
  | 0, k2 => rfl
  | n + 1, k2 => (iterS_succ tt (slices_Compact_4int4int_tab F) (slices_Compact_4int4int_LS1 F) 70 (slices_Compact_4int4int_ls4 F) (loopAt 4 (bodyOf Try.f67)) n (slices_Compact_4int4int_st4 s1 s3 k2) k).trans ((slices_Compact_4int4int_step4 F s1 s3 k2 (nextK (iterS tt (slices_Compact_4int4int_tab F) (slices_Compact_4int4int_LS1 F) 70 (slices_Compact_4int4int_ls4 F) (loopAt 4 (bodyOf Try.f67)) n) k)).trans (congrArg (fun kn => slices_Compact_4int4int_s4 F s1 s3 R k2 kn _) (funext (fun k2 => slices_Compact_4int4int_iter4 F s1 s3 k n k2))))
theorem slices_Compact_4int4int_lok4 (F : Nat) : LoopOK Try.prog (loopAt 4 (bodyOf Try.f67)) (slices_Compact_4int4int_ls4 F) := by
  refine loopOK_of mixed ttok deep (slices_Compact_4int4int_tabok F) (loopsOK_at (slices_Compact_4int4int_lsok1 F) 4) (fuel := 70) fun R vals mem np killed k x h => ?_
  simp only [slices_Compact_4int4int_ls4] at h
  split at h
  · rename_i s1 k2 s3
    simp only [GT.run] at h
    have hc := (cond_noneL h).1
    replace h := (cond_noneL h).2
    refine ⟨F, (slices_Compact_4int4int_iter4 F s1 s3 k F k2).trans ((loopC_use (slices_Compact_4int4int_s4_nat F s1 s3) hc _).trans h)⟩
  · simp only [GT.run] at h
    cases h
noncomputable def slices_Compact_4int4int_LS2 (F : Nat) : LT := (4, slices_Compact_4int4int_ls4 F) :: slices_Compact_4int4int_LS1 F
theorem slices_Compact_4int4int_lsok2 (F : Nat) : LoopsOK Try.prog (slices_Compact_4int4int_LS2 F) (bodyOf Try.f67) := loopsOK_cons slices_Compact_4int4int_keys (slices_Compact_4int4int_lok4 F) (slices_Compact_4int4int_lsok1 F)
theorem slices_Compact_4int4int_run (F : Nat) (s1 : Nat) (s2 : List (List Int)) : runS tt (slices_Compact_4int4int_tab F) (slices_Compact_4int4int_LS2 F) [] [] Try.f67 (bodyOf Try.f67) 70 [(.sl 0 0 s1)] [(.vec 22 (.rr 4 s2))] = slices_Compact_4int4int_c _ F s1 s2 (fun r => some ⟨(.sl 0 0 r.1), [(.vec 22 (.rr 4 r.2))], []⟩) := by kernel_rfl
def slices_Compact_4int4int_ent (F : Nat) : Ent := ⟨[true], .loud, fun args mem => match args, mem with
  | [(.sl 0 0 s1)], [(.vec 22 (.rr 4 s2))] => some ((slices_Compact_4int4int_p F s1 s2).isSome, ⟨(.sl 0 0 ((slices_Compact_4int4int_p F s1 s2).getD default).1), [(.vec 22 (.rr 4 ((slices_Compact_4int4int_p F s1 s2).getD default).2))], []⟩)
  | _, _ => none⟩
theorem slices_Compact_4int4int_fok : FunOK Try.prog 67 := funOK Try.func67 (by kernel_rfl) rfl
theorem slices_Compact_4int4int_meets (F : Nat) : Meets Try.prog 67 (slices_Compact_4int4int_ent F) := by
  refine meets_of_runS mixed ttok deep (slices_Compact_4int4int_tabok F) Try.func67 (body_some rfl) (slices_Compact_4int4int_lsok2 F) fun args mem hfit ret h => ?_
  clear hfit
  simp only [slices_Compact_4int4int_ent] at h
  split at h
  · rename_i s1 s2
    simp only [Option.some.injEq, Prod.mk.injEq] at h
    obtain ⟨hc, rfl⟩ := h
    exact ⟨[], [], 70, _, (slices_Compact_4int4int_run F s1 s2).trans ((slices_Compact_4int4int_cp _ F s1 s2 _).trans (bind_use hc _)), rfl, rfl, rfl⟩
  · cases h
end Go.Proofs.Ytkhccaoancfeoaa
