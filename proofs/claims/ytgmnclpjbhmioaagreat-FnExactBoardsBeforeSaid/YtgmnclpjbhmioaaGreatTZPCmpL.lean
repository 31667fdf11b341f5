/-
slices.Compare at lists of one length.
-/
import Derived.Test.YtgmnclpjbhmioaaGreatTZP3
import Derived.Test.YtgmnclpjbhmioaaGreatLv3
import Derived.Test.YtgmnclpjbhmioaaGreatMvOrd
namespace Go.Lv.P
open Go Go.Lv
set_option linter.unusedVariables false
set_option linter.unusedSimpArgs false
set_option linter.unusedSectionVars false
theorem cmp_int (x y : Int) : cmp_Compare_int_v x y = bif decide (x < y) then -1 else bif decide (y < x) then 1 else 0 := by
  have e : ∀ x : Int, cmp_isNaN_int_v x = false := fun x => by unfold cmp_isNaN_int_v; rw [beq_self_eq_true]; rfl
  unfold cmp_Compare_int_v
  rw [e x, e y]; rfl
theorem cmp_zero (x y : Int) : (cmp_Compare_int_v x y == 0) = (x == y) := by
  rw [cmp_int]
  by_cases h1 : x < y
  · rw [decide_eq_true h1]
    have : (x == y) = false := by rw [beq_eq_false_iff_ne]; omega
    rw [this]; rfl
  · rw [decide_eq_false h1]
    by_cases h2 : y < x
    · rw [decide_eq_true h2]
      have : (x == y) = false := by rw [beq_eq_false_iff_ne]; omega
      rw [this]; rfl
    · rw [decide_eq_false h2]
      have : x = y := by omega
      subst this; simp
theorem cmp_fnd : ∀ (n i : Nat) (a b : List Int), i + n = a.length → a.length = b.length → (bif (fnd (fun i => !(iget a i == iget b i)) (fun i => (true, cmp_Compare_int_v (iget a i) (iget b i))) (false, default) i n).1 then (fnd (fun i => !(iget a i == iget b i)) (fun i => (true, cmp_Compare_int_v (iget a i) (iget b i))) (false, default) i n).2 else 0) = cmpL (a.drop i) (b.drop i)
  | 0, i, a, b, h, hl => by rw [List.drop_eq_nil_of_le (by omega), List.drop_eq_nil_of_le (by omega)]; rfl
  | n + 1, i, a, b, h, hl => by
    have hia : i < a.length := by omega
    have hib : i < b.length := by omega
    have ga : iget a i = a[i] := by rw [igetL, List.getElem?_eq_getElem hia]; rfl
    have gb : iget b i = b[i] := by rw [igetL, List.getElem?_eq_getElem hib]; rfl
    have ih := cmp_fnd n (i + 1) a b (by omega) hl
    rw [List.drop_eq_getElem_cons hia, List.drop_eq_getElem_cons hib]
    simp only [fnd, ga, gb]
    revert ih
    generalize a.drop (i + 1) = ra
    generalize b.drop (i + 1) = rb
    generalize a[i] = x
    generalize b[i] = y
    intro ih
    cases hx : x == y with
    | true =>
      have e := eq_of_beq hx
      subst e
      simp only [Bool.not_true, cond_false]
      rw [ih]
      unfold cmpL
      simp only [ltL, hx, cond_true]
      have : (x :: ra == x :: rb) = (ra == rb) := by simp
      rw [this]
    | false =>
      have hne : x ≠ y := by rw [beq_eq_false_iff_ne] at hx; exact hx
      simp only [Bool.not_false, cond_true]
      have h2 : (x :: ra == y :: rb) = false := by
        rw [beq_eq_false_iff_ne]; intro e; cases e; exact hne rfl
      unfold cmpL
      simp only [ltL, hx, cond_false, h2, cmp_int]
      by_cases h1 : x < y
      · rw [decide_eq_true h1]; rfl
      · rw [decide_eq_false h1]
        have h3 : y < x := by omega
        rw [decide_eq_true h3]; rfl
theorem compare_eq (F : Nat) (hF : 1000 < F) {a b : List Int} (hl : a.length = b.length) (h : a.length ≤ 1000) : slices_Compare_intint_p F a b = some (cmpL a b) := by
  have h1 : slices_Compare_intint_l2 F a b a ((a.length : Nat) : Int) 0 = some (fnd (fun i => !(iget a i == iget b i)) (fun i => (true, cmp_Compare_int_v (iget a i) (iget b i))) (false, default) 0 a.length) := by
    refine loop_find (step := slices_Compare_intint_s2 F a b a ((a.length : Nat) : Int)) (fun i => i) a.length _ _ _ (by omega) (by omega) (fun i hi Q kn kx => ?_) fun Q kn kx => ?_
    · have hb : i < b.length := by omega
      have hn : ¬ ((b.length : Nat) : Int) ≤ (i : Int) := by omega
      simp only [slices_Compare_intint_s2, Int.ofNat_lt, hi, hb, hn, decide_true, decide_false, cond_true, cond_false, inR_cast, Int.toNat_natCast, cmp_zero]
    · simp [slices_Compare_intint_s2]
  have h2 := cmp_fnd a.length 0 a b (by omega) hl
  rw [List.drop_zero, List.drop_zero] at h2
  have hd : decide (((a.length : Nat) : Int) < ((b.length : Nat) : Int)) = false := decide_eq_false (by omega)
  simp only [slices_Compare_intint_p, slices_Compare_intint_c, h1, hd, Option.isSome_some, Option.getD_some, cond_true, cond_false]
  rw [← h2]
  cases (fnd (fun i => !(iget a i == iget b i)) (fun i => (true, cmp_Compare_int_v (iget a i) (iget b i))) (false, default) 0 a.length).1 <;> rfl
end Go.Lv.P
