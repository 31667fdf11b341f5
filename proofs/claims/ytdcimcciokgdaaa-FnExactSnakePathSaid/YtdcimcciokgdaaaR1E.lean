/-
The path of a snake: own work.
-/
import Derived.Test.YtdcimcciokgdaaaR1D
import Derived.Test.YtdcimcciokgdaaaRows
import Derived.WalkKit
import Derived.ProofKit
import Derived.OpenShut
import Derived.ShutString
import Derived.ChangeOld
import Derived.Below
import Derived.SizedLaws
namespace Go.Proofs.Ytdcimcciokgdaaa
open Go Go.Lv Go.Proofs Go.RowKit
set_option linter.unusedVariables false

theorem m17 : Meets Try.prog 17 (entC pathG) := meets_entC base tx38 Try.func17 rfl fun args hfit v h => by
  unfold pathG at h
  split at h
  · rename_i k
    simp only [Option.some.injEq, Prod.mk.injEq] at h
    obtain ⟨h1, rfl⟩ := h
    refine ⟨0, ?_⟩
    rw [run17, h1]; rfl
  · cases h
theorem m18 : Meets Try.prog 18 (entC pathG) := meets_entC base tx38 Try.func18 rfl fun args hfit v h => by
  unfold pathG at h
  split at h
  · rename_i k
    simp only [Option.some.injEq, Prod.mk.injEq] at h
    obtain ⟨h1, rfl⟩ := h
    refine ⟨0, ?_⟩
    rw [run18, h1]; rfl
  · cases h
noncomputable def x17 : Tab := (17, entC pathG) :: x38
noncomputable def x18 : Tab := (18, entC pathG) :: x17
noncomputable def x40 : Tab := (40, entQ tt x18 Try.f40 3) :: x18
noncomputable def x19 : Tab := (19, entQ tt x40 Try.f19 17) :: x40
theorem tx17 : TabOK Try.prog x17 := tab_cons m17 (funOK Try.func17 (by kernel_rfl) rfl) tx38
theorem tx18 : TabOK Try.prog x18 := tab_cons m18 (funOK Try.func18 (by kernel_rfl) rfl) tx17
theorem tx40 : TabOK Try.prog x40 := tab_cons (meets_entQ base tx18 Try.func40 rfl 3) (funOK Try.func40 (by kernel_rfl) rfl) tx18
theorem tx19 : TabOK Try.prog x19 := tab_cons (meets_entQ base tx40 Try.func19 rfl 17) (funOK Try.func19 (by kernel_rfl) rfl) tx40
theorem run7x (k : Int) : run tt x19 Try.f7 (bodyOf Try.f7) 0 [I k] [] = bif no k then (bif no k then some ⟨.bool true, [], []⟩ else none) else none := by kernel_rfl

theorem law (k : Int) (w : World) : Calls Try.prog 7 #[.int .i64 k] w fun e w' => e = .returned (.bool true) ∧ Below w.heap.size w w' := by
  have go : ∀ (t : Tab), TabOK Try.prog t → run tt t Try.f7 (bodyOf Try.f7) 0 [I k] [] = some ⟨.bool true, [], []⟩ → Calls Try.prog 7 #[.int .i64 k] w fun e w' => e = .returned (.bool true) ∧ Below w.heap.size w w' := fun t ht hr =>
    calls_below base ht Try.func7 rfl (args := [I k]) (reals := [.int .i64 k]) (fun _ => .cons rfl .nil) hr
  by_cases h : no k = true
  · exact go x19 tx19 (by rw [run7x, h]; rfl)
  · simp only [no, Bool.not_eq_true, Bool.not_eq_false', Bool.and_eq_true, decide_eq_true_eq] at h
    obtain ⟨h0, h7⟩ := h
    obtain rfl | rfl | rfl | rfl | rfl | rfl | rfl | rfl : k = 0 ∨ k = 1 ∨ k = 2 ∨ k = 3 ∨ k = 4 ∨ k = 5 ∨ k = 6 ∨ k = 7 := by omega
    · exact go v19 t19 run7_0
    · exact go v19 t19 run7_1
    · exact go v19 t19 run7_2
    · exact go v19 t19 run7_3
    · exact go v19 t19 run7_4
    · exact go v19 t19 run7_5
    · exact go v19 t19 run7_6
    · exact go v19 t19 run7_7
end Go.Proofs.Ytdcimcciokgdaaa
