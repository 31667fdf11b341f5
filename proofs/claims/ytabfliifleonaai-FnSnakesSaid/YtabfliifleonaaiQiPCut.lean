/-
Bytes cut and put behind.
-/
import Derived.Test.YtabfliifleonaaiQiP0
import Derived.Test.YtabfliifleonaaiQiPDraw
import Derived.Test.YtabfliifleonaaiQiPTail
namespace Go.Lv.P
open Go Go.Lv
set_option linter.unusedVariables false
set_option linter.unusedSimpArgs false
set_option linter.unusedSectionVars false

theorem wrap_u8 (n : Int) : 0 ≤ IntKind.wrap .u8 n ∧ IntKind.wrap .u8 n ≤ 255 := by
  have h : ∀ n : Int, IntKind.wrap .u8 n = n % 256 := fun n => by
    rw [IntKind.wrap_u8]
  rw [h]; omega
theorem cut_ok {c : List Int} (hc : Byt c) (hl : c.length ≤ 65536) {n : Nat} (hn : n ≤ 100) : ∃ r, laws_vCut_p c (n : Int) = some r ∧ Byt r := by
  have f1 : ∀ m : Nat, m ≤ 70000 → fits m 1 = true := fun m h => fits_of (by omega) (by omega)
  have sub_mem : ∀ (o s : Nat) (x : Int), x ∈ subn c.length c o s → x ∈ c := fun o s x hx => by
    rw [subn_eqL _ _ _ _ rfl] at hx
    exact List.mem_of_mem_drop (List.mem_of_mem_take hx)
  have sub_le : ∀ (o s : Nat), (subn c.length c o s).length ≤ c.length := fun o s => by
    rw [subn_eqL _ _ _ _ rfl]
    show ((c.drop o).take s).length ≤ _
    rw [List.length_take, List.length_drop]; omega
  have fin : ∀ (o s : Nat) (m : Int), Byt (subn c.length c o s ++ [IntKind.wrap .u8 m]) := fun o s m x hx => by
    rcases List.mem_append.1 hx with h | h
    · exact hc x (sub_mem o s x h)
    · rw [List.mem_singleton] at h
      subst h
      exact wrap_u8 m
  simp only [laws_vCut_p, laws_vCut_c, subn_self, inLe_cast, Nat.le_refl, decide_true, cond_true]
  by_cases h : ((c.length : Nat) : Int) < (n : Int)
  · have e1 := sub_le c.length (c.length - c.length)
    simp only [h, decide_true, cond_true]
    rw [f1 _ (by omega), cond_true, f1 _ (by rw [List.length_append, List.length_singleton]; omega), cond_true]
    exact ⟨_, rfl, fin _ _ _⟩
  · have hle : n ≤ c.length := by omega
    have e1 := sub_le (Int.toNat n) (c.length - Int.toNat n)
    simp only [h, decide_false, cond_false, hle, decide_true, cond_true]
    rw [f1 _ (by omega), cond_true, f1 _ (by rw [List.length_append, List.length_singleton]; omega), cond_true]
    exact ⟨_, rfl, fin _ _ _⟩
end Go.Lv.P
