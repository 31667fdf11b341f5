/-
FnExactMostBefore: both say the same.
-/
import Derived.Test.YtgmnclpjbhmioaaTKP0
import Derived.Test.YtgmnclpjbhmioaaTKP1
import Derived.Test.YtgmnclpjbhmioaaTKP4
import Derived.Test.YtgmnclpjbhmioaaTKP5
import Derived.Test.YtgmnclpjbhmioaaTKPLinesB
import Derived.Test.YtgmnclpjbhmioaaTKPToBoard
namespace Go.Lv.P
open Go Go.Lv
set_option linter.unusedVariables false
set_option linter.unusedSimpArgs false
set_option linter.unusedSectionVars false

theorem most_max (a b : Int) : spec_l1Most_v a b = max a b := by
  unfold spec_l1Most_v
  cases h : decide (b < a) with
  | true => have := of_decide_eq_true h; rw [cond_true]; omega
  | false => have := of_decide_eq_false h; rw [cond_false]; omega
theorem if_max (a b : Int) : (if b > a then b else a) = max a b := by
  split <;> omega
theorem len_count {a b c d : Int} (p : Int → Bool) : fld (fun k (n : Nat) => bif p (iget [a, b, c, d] (0 + k * 1)) then n + 1 else n) 0 4 0 = ([a, b, c, d].filter p).length := by
  have e0 : iget [a, b, c, d] (0 + 0 * 1) = a := rfl
  have e1 : iget [a, b, c, d] (0 + (0 + 1) * 1) = b := rfl
  have e2 : iget [a, b, c, d] (0 + (0 + 1 + 1) * 1) = c := rfl
  have e3 : iget [a, b, c, d] (0 + (0 + 1 + 1 + 1) * 1) = d := rfl
  simp only [fld, e0, e1, e2, e3, List.filter]
  cases p a <;> cases p b <;> cases p c <;> cases p d <;> rfl
theorem many_eq (F : Nat) (hF : 1000 < F) {row : List Int} (h4 : row.length = 4) (h : ∀ x ∈ row, tileOK x) : spec_l4Many_p F row = some (((tl row).length : Nat) : Int) := by
  have hs := loop_fold (step := spec_l4Many_s3 F row) (fun k (n : Nat) => ((n : Int), k)) 4 (fun k n => bif decide ((0 : Int) < iget row (0 + k * 1)) then n + 1 else n) (fun n => (n : Int)) (fun k n => n ≤ k) (F := F) (by omega) (by omega) (a := 0) (Nat.le_refl 0)
    (fun k n hk hI => ⟨by
      show (bif decide ((0 : Int) < iget row (0 + k * 1)) then n + 1 else n) ≤ k + 1
      have hI : n ≤ k := hI
      cases decide ((0 : Int) < iget row (0 + k * 1)) <;> simp <;> omega, fun Q kn kx => by
      have hI : n ≤ k := hI
      have hk' : (k : Int) < 4 := by omega
      have hw : IntKind.wrap .i64 ((n : Int) + 1) = ((n + 1 : Nat) : Int) := by rw [wrap_of (by omega) (by omega)]; omega
      simp only [spec_l4Many_s3, hk', hk, inR_cast, Int.toNat_natCast, decide_true, cond_true, hw]
      cases decide ((0 : Int) < iget row (0 + k * 1)) <;> rfl⟩) (fun n _ Q kn kx => by simp [spec_l4Many_s3])
  have h1 : spec_l4Many_l3 F row 0 0 = some ((fld (fun k (n : Nat) => bif decide ((0 : Int) < iget row (0 + k * 1)) then n + 1 else n) 0 4 0 : Nat) : Int) := hs.1
  obtain ⟨a, b, c, d, rfl⟩ := list4 h4
  rw [len_count (fun x => decide ((0 : Int) < x))] at h1
  have e : ([a, b, c, d].filter fun x => decide ((0 : Int) < x)) = tl [a, b, c, d] := by
    unfold tl
    apply List.filter_congr
    intro x hx
    have := h x hx
    simp only [tileOK, inB, Bool.and_eq_true, decide_eq_true_eq] at this
    by_cases hz : x = 0
    · simp [hz]
    · have h1 : (x == 0) = false := by rw [beq_eq_false_iff_ne]; exact hz
      have h2 : decide ((0 : Int) < x) = true := decide_eq_true (by omega)
      rw [h1, h2]; rfl
  rw [e] at h1
  simp only [spec_l4Many_p, spec_l4Many_c, h1, Option.isSome_some, Option.getD_some, cond_true]
/-- the most tiles of rows -/
def mostL (ls : LL) : Int := fld (fun i (m : Int) => max m (((tl (rget ls i)).length : Nat) : Int)) 0 ls.length 0
theorem impl_most (F : Nat) (hF : 1000 < F) (s : Int) (a b c d : LL) (i : Int) {ls : LL} (h4 : ∀ x ∈ ls, x.length = 4) (hl : ls.length ≤ 256) : impl_MostBefore_l9 F s a b c d i ls ((ls.length : Nat) : Int) 0 0 = some (mostL ls) := by
  have hs := loop_fold (step := impl_MostBefore_s9 F s a b c d i ls ((ls.length : Nat) : Int)) (fun k (m : Int) => (m, k)) ls.length (fun k m => max m (((tl (rget ls k)).length : Nat) : Int)) (fun m => m) (fun _ _ => True) (F := F) (by omega) (by omega) (a := 0) trivial
    (fun k m hk _ => ⟨trivial, fun Q kn kx => by
      obtain ⟨t, e, t1, -, -⟩ := tiles_eq F hF (h4 _ (by rw [rgetL, List.getElem?_eq_getElem hk]; exact List.getElem_mem hk) : (rget ls k).length = 4)
      simp only [impl_MostBefore_s9, Int.ofNat_lt, hk, inR_cast, Int.toNat_natCast, decide_true, cond_true, e, Option.isSome_some, Option.getD_some, t1, if_max]⟩) (fun m _ Q kn kx => by simp [impl_MostBefore_s9])
  exact hs.1
theorem spec_most (F : Nat) (hF : 1000 < F) (s : Int) (a b c d : LL) {i : Nat} (hi : i < 4) {ls : LL} (hg : llget [a, b, c, d] (0 + i * 1) = ls) (h4 : ∀ x ∈ ls, x.length = 4 ∧ ∀ y ∈ x, tileOK y) (hl : ls.length ≤ 256) : spec_MostBefore_l9 F s i a b c d 0 0 = some (mostL ls) := by
  have hs := loop_fold (step := spec_MostBefore_s9 F s i a b c d) (fun k (m : Int) => (m, k)) ls.length (fun k m => max m (((tl (rget ls k)).length : Nat) : Int)) (fun m => m) (fun _ _ => True) (F := F) (by omega) (by omega) (a := 0) trivial
    (fun k m hk _ => ⟨trivial, fun Q kn kx => by
      have hr := h4 (rget ls k) (by rw [rgetL, List.getElem?_eq_getElem hk]; exact List.getElem_mem hk)
      simp only [spec_MostBefore_s9, hi, hg, Int.ofNat_lt, hk, inR_cast, Int.toNat_natCast, decide_true, cond_true, many_eq F hF hr.1 hr.2, Option.isSome_some, Option.getD_some, most_max]⟩) (fun m _ Q kn kx => by
        have e : decide (((ls.length : Nat) : Int) < ((ls.length : Nat) : Int)) = false := by simp
        simp only [spec_MostBefore_s9, hi, hg, inR_cast, Int.toNat_natCast, decide_true, cond_true, e, cond_false])
  exact hs.1
theorem list4L {P : LL → Prop} {a b c d : LL} (h0 : P a) (h1 : P b) (h2 : P c) (h3 : P d) {i : Nat} (hi : i < 4) : P (llget [a, b, c, d] (0 + i * 1)) := by
  obtain rfl | rfl | rfl | rfl : i = 0 ∨ i = 1 ∨ i = 2 ∨ i = 3 := by omega
  · exact h0
  · exact h1
  · exact h2
  · exact h3
theorem most_same (F : Nat) (b : List Int) (hb : b.length = 16) (d : Int) (hF : 1000 < F) : ∃ v, spec_MostBefore_p F b d = some v ∧ impl_MostBefore_p F b d = some v := by
  simp only [spec_MostBefore_p, spec_MostBefore_c, impl_MostBefore_p, impl_MostBefore_c, spec_l2Board_eq F b hb hF, impl_IsBoard_eq F b hb hF, Option.isSome_some, Option.getD_some, cond_true, spec_l2Side_v, impl_isDirection_v, l1In_eq, in_eq]
  cases hB : okB b with
  | false => exact ⟨_, rfl, rfl⟩
  | true =>
    cases hd : inB d 0 3 with
    | false => exact ⟨_, rfl, rfl⟩
    | true =>
      simp [inB] at hd
      obtain ⟨k, rfl⟩ := Int.eq_ofNat_of_zero_le hd.1
      have hk : k < 4 := by omega
      simp only [spec_count hb hB F hF hk, impl_count hb hB F hF hk, spec_lists hb hB F hF hk, impl_lines hb hB F hF hk, Option.isSome_some, Option.getD_some, cond_true, Bool.not_true, cond_false]
      have ha : ∀ i, i < 4 → (∀ x ∈ rwB b k i, x.length = 4 ∧ ∀ y ∈ x, tileOK y) ∧ (rwB b k i).length ≤ 256 := fun i hi => ⟨rw_ok hb hB hk hi, rwB_len b k i⟩
      have hall : ∀ i, i < 4 → (∀ x ∈ llget [rwB b k 0, rwB b k 1, rwB b k 2, rwB b k 3] (0 + i * 1), x.length = 4 ∧ ∀ y ∈ x, tileOK y) ∧ (llget [rwB b k 0, rwB b k 1, rwB b k 2, rwB b k 3] (0 + i * 1)).length ≤ 256 := fun i hi =>
        list4L (P := fun ls => (∀ x ∈ ls, x.length = 4 ∧ ∀ y ∈ x, tileOK y) ∧ ls.length ≤ 256) (ha 0 (by decide)) (ha 1 (by decide)) (ha 2 (by decide)) (ha 3 (by decide)) hi
      generalize rwB b k 0 = a at *
      generalize rwB b k 1 = b1 at *
      generalize rwB b k 2 = c at *
      generalize rwB b k 3 = e at *
      have hs := loop_fold (step := spec_MostBefore_s5 F a b1 c e) (fun i (s : Int) => (s, i)) 4 (fun i s => IntKind.wrap .i64 (s + mostL (llget [a, b1, c, e] (0 + i * 1)))) (fun s => s) (fun _ _ => True) (F := F) (by omega) (by omega) (a := 0) trivial
        (fun i s hi _ => ⟨trivial, fun Q kn kx => by
          have hi' : (i : Int) < 4 := by omega
          simp only [spec_MostBefore_s5, hi', decide_true, cond_true, spec_most F hF s a b1 c e hi rfl (hall i hi).1 (hall i hi).2, Option.isSome_some, Option.getD_some]⟩) (fun s _ Q kn kx => by simp [spec_MostBefore_s5])
      have hp := loop_fold (step := impl_MostBefore_s5 F a b1 c e) (fun i (s : Int) => (s, i)) 4 (fun i s => IntKind.wrap .i64 (s + mostL (llget [a, b1, c, e] (0 + i * 1)))) (fun s => s) (fun _ _ => True) (F := F) (by omega) (by omega) (a := 0) trivial
        (fun i s hi _ => ⟨trivial, fun Q kn kx => by
          have hi' : (i : Int) < 4 := by omega
          have h := hall i hi
          rw [Nat.zero_add] at h
          simp only [impl_MostBefore_s5, hi', hi, inR_cast, Int.toNat_natCast, decide_true, cond_true, Nat.zero_add, impl_most F hF s a b1 c e i (fun x hx => (h.1 x hx).1) h.2, Option.isSome_some, Option.getD_some]⟩) (fun s _ Q kn kx => by simp [impl_MostBefore_s5])
      have h1 : spec_MostBefore_l5 F a b1 c e 0 0 = _ := hs.1
      have h2 : impl_MostBefore_l5 F a b1 c e 0 0 = _ := hp.1
      simp only [h1, h2, Option.isSome_some, Option.getD_some, cond_true]
      cases cntB b k == 0 <;> exact ⟨_, rfl, rfl⟩
theorem law_MostBefore (F : Nat) (b : List Int) (hb : b.length = 16) (_ : ∀ x ∈ b, Rng x) (d : Int) (_ : Rng d) (hF : 1000 < F) : laws_FnExactMostBefore_p F b d = some true := by
  obtain ⟨v, h1, h2⟩ := most_same F b hb d hF
  simp only [laws_FnExactMostBefore_p, laws_FnExactMostBefore_c, toBoard_eq hb, h1, h2, Option.isSome_some, Option.getD_some, cond_true, beq_self_eq_true, Bool.not_true, cond_false]
end Go.Lv.P
