/-
The rows before a row: the program's lists of tiles.
-/
import Derived.Test.YtgmnclpjbhmioaaGreatTZP3
import Derived.Test.YtgmnclpjbhmioaaGreatTZPRowsM
namespace Go.Lv.P
open Go Go.Lv
set_option linter.unusedVariables false
set_option linter.unusedSimpArgs false
set_option linter.unusedSectionVars false
theorem fit8 {n : Nat} (h : n ≤ 1000) : fits n 8 = true := fits_of (by omega) (by omega)
theorem fit24 {n : Nat} (h : n ≤ 1000) : fits n 24 = true := fits_of (by omega) (by omega)
theorem apL_len : ∀ (rest list : List Int), (apL list rest).length ≤ 2 ^ rest.length
  | [], list => by
    simp only [apL]
    cases decide (4 < list.length) <;> simp
  | t :: r, list => by
    have h1 := apL_len r (list ++ [t])
    have h2 := apL_len r (list ++ [t - 1, t - 1])
    simp only [apL, List.length_cons, Nat.pow_succ]
    cases decide (4 < list.length)
    · rw [cond_false, List.length_append]
      cases decide (1 < t)
      · simp only [cond_false, List.length_nil]; omega
      · simp only [cond_true]; omega
    · simp
theorem long_dec (n : Nat) : decide ((4 : Int) < ((n : Nat) : Int)) = decide (4 < n) := by
  by_cases h : 4 < n
  · rw [decide_eq_true h, decide_eq_true (by omega)]
  · rw [decide_eq_false h, decide_eq_false (by omega)]
abbrev tOK (x : Int) : Prop := 0 ≤ x ∧ x ≤ 17
theorem wp1 {x : Int} (h : tOK x) : IntKind.wrap .i64 (x - 1) = x - 1 := wrap_of (by have := h.1; omega) (by have := h.2; omega)
theorem apart0_2 (list : List Int) (hl : list.length ≤ 100) : impl_apart_len0_2_p list = some (apL list []) := by
  simp only [impl_apart_len0_2_p, impl_apart_len0_2_c, long_dec, fit8 (show list.length ≤ 1000 by omega), subn_self, cond_true, apL]
  cases decide (4 < list.length) <;> rfl
theorem apart0_3 (list : List Int) (out : LL) (hl : list.length ≤ 100) (ho : out.length ≤ 500) : impl_apart_len0_3_p list out = some (out ++ apL list []) := by
  simp only [impl_apart_len0_3_p, impl_apart_len0_3_c, long_dec, fit8 (show list.length ≤ 1000 by omega), subn_self, cond_true, apL, fit24 (show (out ++ [list]).length ≤ 1000 by simp; omega)]
  cases decide (4 < list.length)
  · rfl
  · simp
theorem apart1_2 (list : List Int) (x0 : Int) (h0 : tOK x0) (hl : list.length ≤ 90) : impl_apart_len1_2_p list x0 = some (apL list [x0]) := by
  have l1 := apL_len [] (list ++ [x0])
  have l1 : (apL (list ++ [x0]) []).length ≤ 1 := l1
  have e1 := apart0_2 (list ++ [x0]) (by simp; omega)
  have e2 := apart0_3 (list ++ [x0 - 1, x0 - 1]) (apL (list ++ [x0]) []) (by simp; omega) (by omega)
  have ea : apL list [x0] = bif decide (4 < list.length) then [] else apL (list ++ [x0]) [] ++ bif decide (1 < x0) then apL (list ++ [x0 - 1, x0 - 1]) [] else [] := rfl
  rw [ea]
  simp only [impl_apart_len1_2_p, impl_apart_len1_2_c, long_dec, subn_self, wp1 h0, fit8 (show list.length ≤ 1000 by omega), fit8 (show (list ++ [x0]).length ≤ 1000 by simp; omega), fit8 (show (list ++ [x0 - 1, x0 - 1]).length ≤ 1000 by simp; omega), e1, e2, Option.isSome_some, Option.getD_some, cond_true, beq_selfL, Bool.and_self]
  cases decide (4 < list.length)
  · cases decide (1 < x0)
    · simp
    · simp
  · simp
theorem apart1_3 (list : List Int) (x0 : Int) (out : LL) (h0 : tOK x0) (hl : list.length ≤ 90) (ho : out.length ≤ 460) : impl_apart_len1_3_p list x0 out = some (out ++ apL list [x0]) := by
  have l1 := apL_len [] (list ++ [x0])
  have l1 : (apL (list ++ [x0]) []).length ≤ 1 := l1
  have e1 := apart0_3 (list ++ [x0]) out (by simp; omega) (by omega)
  have e2 := apart0_3 (list ++ [x0 - 1, x0 - 1]) (out ++ apL (list ++ [x0]) []) (by simp; omega) (by simp only [List.length_append]; omega)
  have ea : apL list [x0] = bif decide (4 < list.length) then [] else apL (list ++ [x0]) [] ++ bif decide (1 < x0) then apL (list ++ [x0 - 1, x0 - 1]) [] else [] := rfl
  rw [ea]
  simp only [impl_apart_len1_3_p, impl_apart_len1_3_c, long_dec, subn_self, wp1 h0, fit8 (show list.length ≤ 1000 by omega), fit8 (show (list ++ [x0]).length ≤ 1000 by simp; omega), fit8 (show (list ++ [x0 - 1, x0 - 1]).length ≤ 1000 by simp; omega), e1, e2, Option.isSome_some, Option.getD_some, cond_true, beq_selfL, Bool.and_self]
  cases decide (4 < list.length)
  · cases decide (1 < x0)
    · simp
    · simp
  · simp
theorem apart1_1 (x0 : Int) (h0 : tOK x0) : impl_apart_len1_p x0 = some (apL [] [x0]) := by
  have l1 := apL_len [] [x0]
  have l1 : (apL [x0] []).length ≤ 1 := l1
  have e1 := apart0_2 [x0] (by simp)
  have e2 := apart0_3 [x0 - 1, x0 - 1] (apL [x0] []) (by simp) (by omega)
  simp only [impl_apart_len1_p, impl_apart_len1_c, wp1 h0, e1, e2, Option.isSome_some, Option.getD_some, cond_true, beq_selfL, Bool.and_self]
  have ea : apL [] ([x0]) = apL [x0] [] ++ bif decide (1 < x0) then apL [x0 - 1, x0 - 1] [] else [] := rfl
  rw [ea]
  cases decide (1 < x0)
  · simp
  · rfl
theorem apart2_2 (list : List Int) (x0 : Int) (x1 : Int) (h0 : tOK x0) (h1 : tOK x1) (hl : list.length ≤ 80) : impl_apart_len2_2_p list x0 x1 = some (apL list [x0, x1]) := by
  have l1 := apL_len [x1] (list ++ [x0])
  have l1 : (apL (list ++ [x0]) [x1]).length ≤ 2 := l1
  have e1 := apart1_2 (list ++ [x0]) x1 h1 (by simp; omega)
  have e2 := apart1_3 (list ++ [x0 - 1, x0 - 1]) x1 (apL (list ++ [x0]) [x1]) h1 (by simp; omega) (by omega)
  have ea : apL list [x0, x1] = bif decide (4 < list.length) then [] else apL (list ++ [x0]) [x1] ++ bif decide (1 < x0) then apL (list ++ [x0 - 1, x0 - 1]) [x1] else [] := rfl
  rw [ea]
  simp only [impl_apart_len2_2_p, impl_apart_len2_2_c, long_dec, subn_self, wp1 h0, fit8 (show list.length ≤ 1000 by omega), fit8 (show (list ++ [x0]).length ≤ 1000 by simp; omega), fit8 (show (list ++ [x0 - 1, x0 - 1]).length ≤ 1000 by simp; omega), e1, e2, Option.isSome_some, Option.getD_some, cond_true, beq_selfL, Bool.and_self]
  cases decide (4 < list.length)
  · cases decide (1 < x0)
    · simp
    · simp
  · simp
theorem apart2_3 (list : List Int) (x0 : Int) (x1 : Int) (out : LL) (h0 : tOK x0) (h1 : tOK x1) (hl : list.length ≤ 80) (ho : out.length ≤ 420) : impl_apart_len2_3_p list x0 x1 out = some (out ++ apL list [x0, x1]) := by
  have l1 := apL_len [x1] (list ++ [x0])
  have l1 : (apL (list ++ [x0]) [x1]).length ≤ 2 := l1
  have e1 := apart1_3 (list ++ [x0]) x1 out h1 (by simp; omega) (by omega)
  have e2 := apart1_3 (list ++ [x0 - 1, x0 - 1]) x1 (out ++ apL (list ++ [x0]) [x1]) h1 (by simp; omega) (by simp only [List.length_append]; omega)
  have ea : apL list [x0, x1] = bif decide (4 < list.length) then [] else apL (list ++ [x0]) [x1] ++ bif decide (1 < x0) then apL (list ++ [x0 - 1, x0 - 1]) [x1] else [] := rfl
  rw [ea]
  simp only [impl_apart_len2_3_p, impl_apart_len2_3_c, long_dec, subn_self, wp1 h0, fit8 (show list.length ≤ 1000 by omega), fit8 (show (list ++ [x0]).length ≤ 1000 by simp; omega), fit8 (show (list ++ [x0 - 1, x0 - 1]).length ≤ 1000 by simp; omega), e1, e2, Option.isSome_some, Option.getD_some, cond_true, beq_selfL, Bool.and_self]
  cases decide (4 < list.length)
  · cases decide (1 < x0)
    · simp
    · simp
  · simp
theorem apart2_1 (x0 : Int) (x1 : Int) (h0 : tOK x0) (h1 : tOK x1) : impl_apart_len2_p x0 x1 = some (apL [] [x0, x1]) := by
  have l1 := apL_len [x1] [x0]
  have l1 : (apL [x0] [x1]).length ≤ 2 := l1
  have e1 := apart1_2 [x0] x1 h1 (by simp)
  have e2 := apart1_3 [x0 - 1, x0 - 1] x1 (apL [x0] [x1]) h1 (by simp) (by omega)
  simp only [impl_apart_len2_p, impl_apart_len2_c, wp1 h0, e1, e2, Option.isSome_some, Option.getD_some, cond_true, beq_selfL, Bool.and_self]
  have ea : apL [] ([x0, x1]) = apL [x0] [x1] ++ bif decide (1 < x0) then apL [x0 - 1, x0 - 1] [x1] else [] := rfl
  rw [ea]
  cases decide (1 < x0)
  · simp
  · rfl
theorem apart3_2 (list : List Int) (x0 : Int) (x1 : Int) (x2 : Int) (h0 : tOK x0) (h1 : tOK x1) (h2 : tOK x2) (hl : list.length ≤ 70) : impl_apart_len3_2_p list x0 x1 x2 = some (apL list [x0, x1, x2]) := by
  have l1 := apL_len [x1, x2] (list ++ [x0])
  have l1 : (apL (list ++ [x0]) [x1, x2]).length ≤ 4 := l1
  have e1 := apart2_2 (list ++ [x0]) x1 x2 h1 h2 (by simp; omega)
  have e2 := apart2_3 (list ++ [x0 - 1, x0 - 1]) x1 x2 (apL (list ++ [x0]) [x1, x2]) h1 h2 (by simp; omega) (by omega)
  have ea : apL list [x0, x1, x2] = bif decide (4 < list.length) then [] else apL (list ++ [x0]) [x1, x2] ++ bif decide (1 < x0) then apL (list ++ [x0 - 1, x0 - 1]) [x1, x2] else [] := rfl
  rw [ea]
  simp only [impl_apart_len3_2_p, impl_apart_len3_2_c, long_dec, subn_self, wp1 h0, fit8 (show list.length ≤ 1000 by omega), fit8 (show (list ++ [x0]).length ≤ 1000 by simp; omega), fit8 (show (list ++ [x0 - 1, x0 - 1]).length ≤ 1000 by simp; omega), e1, e2, Option.isSome_some, Option.getD_some, cond_true, beq_selfL, Bool.and_self]
  cases decide (4 < list.length)
  · cases decide (1 < x0)
    · simp
    · simp
  · simp
theorem apart3_3 (list : List Int) (x0 : Int) (x1 : Int) (x2 : Int) (out : LL) (h0 : tOK x0) (h1 : tOK x1) (h2 : tOK x2) (hl : list.length ≤ 70) (ho : out.length ≤ 380) : impl_apart_len3_3_p list x0 x1 x2 out = some (out ++ apL list [x0, x1, x2]) := by
  have l1 := apL_len [x1, x2] (list ++ [x0])
  have l1 : (apL (list ++ [x0]) [x1, x2]).length ≤ 4 := l1
  have e1 := apart2_3 (list ++ [x0]) x1 x2 out h1 h2 (by simp; omega) (by omega)
  have e2 := apart2_3 (list ++ [x0 - 1, x0 - 1]) x1 x2 (out ++ apL (list ++ [x0]) [x1, x2]) h1 h2 (by simp; omega) (by simp only [List.length_append]; omega)
  have ea : apL list [x0, x1, x2] = bif decide (4 < list.length) then [] else apL (list ++ [x0]) [x1, x2] ++ bif decide (1 < x0) then apL (list ++ [x0 - 1, x0 - 1]) [x1, x2] else [] := rfl
  rw [ea]
  simp only [impl_apart_len3_3_p, impl_apart_len3_3_c, long_dec, subn_self, wp1 h0, fit8 (show list.length ≤ 1000 by omega), fit8 (show (list ++ [x0]).length ≤ 1000 by simp; omega), fit8 (show (list ++ [x0 - 1, x0 - 1]).length ≤ 1000 by simp; omega), e1, e2, Option.isSome_some, Option.getD_some, cond_true, beq_selfL, Bool.and_self]
  cases decide (4 < list.length)
  · cases decide (1 < x0)
    · simp
    · simp
  · simp
theorem apart3_1 (x0 : Int) (x1 : Int) (x2 : Int) (h0 : tOK x0) (h1 : tOK x1) (h2 : tOK x2) : impl_apart_len3_p x0 x1 x2 = some (apL [] [x0, x1, x2]) := by
  have l1 := apL_len [x1, x2] [x0]
  have l1 : (apL [x0] [x1, x2]).length ≤ 4 := l1
  have e1 := apart2_2 [x0] x1 x2 h1 h2 (by simp)
  have e2 := apart2_3 [x0 - 1, x0 - 1] x1 x2 (apL [x0] [x1, x2]) h1 h2 (by simp) (by omega)
  simp only [impl_apart_len3_p, impl_apart_len3_c, wp1 h0, e1, e2, Option.isSome_some, Option.getD_some, cond_true, beq_selfL, Bool.and_self]
  have ea : apL [] ([x0, x1, x2]) = apL [x0] [x1, x2] ++ bif decide (1 < x0) then apL [x0 - 1, x0 - 1] [x1, x2] else [] := rfl
  rw [ea]
  cases decide (1 < x0)
  · simp
  · rfl
theorem apart4_1 (x0 : Int) (x1 : Int) (x2 : Int) (x3 : Int) (h0 : tOK x0) (h1 : tOK x1) (h2 : tOK x2) (h3 : tOK x3) : impl_apart_len4_p x0 x1 x2 x3 = some (apL [] [x0, x1, x2, x3]) := by
  have l1 := apL_len [x1, x2, x3] [x0]
  have l1 : (apL [x0] [x1, x2, x3]).length ≤ 8 := l1
  have e1 := apart3_2 [x0] x1 x2 x3 h1 h2 h3 (by simp)
  have e2 := apart3_3 [x0 - 1, x0 - 1] x1 x2 x3 (apL [x0] [x1, x2, x3]) h1 h2 h3 (by simp) (by omega)
  simp only [impl_apart_len4_p, impl_apart_len4_c, wp1 h0, e1, e2, Option.isSome_some, Option.getD_some, cond_true, beq_selfL, Bool.and_self]
  have ea : apL [] ([x0, x1, x2, x3]) = apL [x0] [x1, x2, x3] ++ bif decide (1 < x0) then apL [x0 - 1, x0 - 1] [x1, x2, x3] else [] := rfl
  rw [ea]
  cases decide (1 < x0)
  · simp
  · rfl
theorem apart_eq (rest : List Int) (hl : rest.length ≤ 4) (h : ∀ x ∈ rest, tOK x) : impl_apart_p rest = some (apL [] rest) := by
  match rest, hl, h with
  | [], _, _ => rfl
  | [x0], _, h =>
    have e := apart1_1 x0 (h x0 (by simp))
    simp only [impl_apart_p, impl_apart_c, show iget [x0] 0 = x0 from rfl, e, Option.isSome_some, Option.getD_some]; rfl
  | [x0, x1], _, h =>
    have e := apart2_1 x0 x1 (h x0 (by simp)) (h x1 (by simp))
    simp only [impl_apart_p, impl_apart_c, show iget [x0, x1] 0 = x0 from rfl, show iget [x0, x1] 1 = x1 from rfl, e, Option.isSome_some, Option.getD_some]; rfl
  | [x0, x1, x2], _, h =>
    have e := apart3_1 x0 x1 x2 (h x0 (by simp)) (h x1 (by simp)) (h x2 (by simp))
    simp only [impl_apart_p, impl_apart_c, show iget [x0, x1, x2] 0 = x0 from rfl, show iget [x0, x1, x2] 1 = x1 from rfl, show iget [x0, x1, x2] 2 = x2 from rfl, e, Option.isSome_some, Option.getD_some]; rfl
  | [x0, x1, x2, x3], _, h =>
    have e := apart4_1 x0 x1 x2 x3 (h x0 (by simp)) (h x1 (by simp)) (h x2 (by simp)) (h x3 (by simp))
    simp only [impl_apart_p, impl_apart_c, show iget [x0, x1, x2, x3] 0 = x0 from rfl, show iget [x0, x1, x2, x3] 1 = x1 from rfl, show iget [x0, x1, x2, x3] 2 = x2 from rfl, show iget [x0, x1, x2, x3] 3 = x3 from rfl, e, Option.isSome_some, Option.getD_some]; rfl
end Go.Lv.P
