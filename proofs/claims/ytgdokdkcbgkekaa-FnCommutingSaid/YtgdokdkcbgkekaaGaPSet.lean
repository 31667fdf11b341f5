/-
Boards in ascending order: lists without doubles.
-/
import Derived.Test.YtgdokdkcbgkekaaLv3
import Derived.Test.YtgdokdkcbgkekaaMvOrd
import Derived.Test.YtgdokdkcbgkekaaGaPMark
namespace Go.Lv.P
open Go Go.Lv
set_option linter.unusedVariables false
set_option linter.unusedSimpArgs false
set_option linter.unusedSectionVars false

/-- strictly ascending -/
def Asc : LL → Prop
  | [] => True
  | a :: r => (∀ x ∈ r, ltL a x = true) ∧ Asc r
/-- put to its place, if it is not there -/
def insB (b : List Int) : LL → LL
  | [] => [b]
  | a :: r => bif ltL a b then a :: insB b r else bif a == b then a :: r else b :: a :: r
theorem insB_mem {b x : List Int} : ∀ {l : LL}, x ∈ insB b l ↔ x = b ∨ x ∈ l
  | [] => by simp [insB]
  | a :: r => by
    simp only [insB]
    cases h1 : ltL a b with
    | true =>
      rw [cond_true, List.mem_cons, insB_mem, List.mem_cons]
      constructor
      · rintro (h | h | h)
        · exact .inr (.inl h)
        · exact .inl h
        · exact .inr (.inr h)
      · rintro (h | h | h)
        · exact .inr (.inl h)
        · exact .inl h
        · exact .inr (.inr h)
    | false =>
      rw [cond_false]
      cases h2 : a == b with
      | true =>
        rw [cond_true]
        have e := eq_of_beq h2
        subst e
        simp
      | false => rw [cond_false]; simp
theorem insB_asc {b : List Int} : ∀ {l : LL}, Asc l → (∀ x ∈ l, x.length = b.length) → Asc (insB b l)
  | [], _, _ => ⟨fun x hx => (by cases hx), trivial⟩
  | a :: r, ⟨h1, h2⟩, hl => by
    simp only [insB]
    cases hab : ltL a b with
    | true =>
      rw [cond_true]
      refine ⟨fun x hx => ?_, insB_asc h2 fun x hx => hl x (List.mem_cons_of_mem _ hx)⟩
      rcases insB_mem.1 hx with rfl | hx
      · exact hab
      · exact h1 x hx
    | false =>
      rw [cond_false]
      cases he : a == b with
      | true => exact ⟨h1, h2⟩
      | false =>
        rw [cond_false]
        have hne : a ≠ b := by rw [beq_eq_false_iff_ne] at he; exact he
        have hba := ltL_tot (hl a List.mem_cons_self) hab hne
        refine ⟨fun x hx => ?_, h1, h2⟩
        rcases List.mem_cons.1 hx with rfl | hx
        · exact hba
        · exact ltL_trans hba (h1 x hx)
/-- how many there are: one more just if it was not there -/
theorem insB_len {b : List Int} : ∀ {l : LL}, Asc l → (∀ x ∈ l, x.length = b.length) → (insB b l).length = bif l.contains b then l.length else l.length + 1
  | [], _, _ => rfl
  | a :: r, ⟨h1, h2⟩, hl => by
    have ih := insB_len h2 fun x hx => hl x (List.mem_cons_of_mem _ hx)
    simp only [insB, List.contains_cons]
    cases hab : ltL a b with
    | true =>
      have hne : (b == a) = false := by
        rw [beq_eq_false_iff_ne]; intro e; subst e; rw [ltL_irr] at hab; cases hab
      rw [cond_true, hne, Bool.false_or, List.length_cons, ih]
      cases r.contains b <;> rfl
    | false =>
      rw [cond_false]
      cases he : a == b with
      | true =>
        have e := eq_of_beq he
        subst e
        simp
      | false =>
        have hne : a ≠ b := by rw [beq_eq_false_iff_ne] at he; exact he
        have hba := ltL_tot (hl a List.mem_cons_self) hab hne
        have h3 : (b == a) = false := by rw [beq_eq_false_iff_ne]; exact Ne.symm hne
        have h4 : r.contains b = false := by
          cases hc : r.contains b with
          | false => rfl
          | true =>
            have hm := List.contains_iff_mem.1 hc
            have := ltL_trans hba (h1 b hm)
            rw [ltL_irr] at this; cases this
        rw [h3, h4]; rfl
end Go.Lv.P
