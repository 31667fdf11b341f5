/-
FnExactHighestBySlides: both say the same.
-/
import Derived.Test.YtkclnchkemacgaaTJP2
import Derived.Test.YtkclnchkemacgaaTJP3
import Derived.Test.YtkclnchkemacgaaTJPHigh
import Derived.Test.YtkclnchkemacgaaTJPReachI
import Derived.Test.YtkclnchkemacgaaTJPFewest
import Derived.Test.YtkclnchkemacgaaTJPToBoard
namespace Go.Lv.P
open Go Go.Lv
set_option linter.unusedVariables false
set_option linter.unusedSimpArgs false
set_option linter.unusedSectionVars false

theorem spec_reach (F : Nat) {b : List Int} (hb : GoodB b) {n : Nat} (hn : n ≤ 6) (hF : 1000000 < F) : spec_l5Reach_p F b n = some (reachL b n) := by
  have h := loop_fold (step := spec_l5Reach_s3 F n) (fun i (s : LL) => (s, i)) n (fun i s => nextL s) (fun s => s) (fun i s => s = reachL b i) (F := F) (by omega) (by omega) (a := [b]) rfl
    (fun i s hi hI => by
      refine ⟨by rw [hI]; rfl, fun Q kn kx => ?_⟩
      have hs := reachL_small b (n := i) (by omega)
      rw [hI]
      simp only [spec_l5Reach_s3, Int.ofNat_lt, hi, decide_true, cond_true, spec_next F (reachL_ok hb i) (by omega) hF, Option.isSome_some, Option.getD_some])
    (fun s _ Q kn kx => by simp [spec_l5Reach_s3])
  have h1 : spec_l5Reach_l3 F n [b] 0 = some (reachL b n) := h.1.trans (congrArg some h.2)
  simp only [spec_l5Reach_p, spec_l5Reach_c, h1, Option.isSome_some, Option.getD_some, cond_true]

/-- the greatest of numbers that belong to boards -/
def maxL (h : List Int → Int) (l : LL) : Int := l.foldl (fun m x => max m (h x)) 0
theorem maxL_facts (h : List Int → Int) : ∀ (l : LL) (m : Int), (m ≤ l.foldl (fun m x => max m (h x)) m) ∧ (∀ x ∈ l, h x ≤ l.foldl (fun m x => max m (h x)) m) ∧ (l.foldl (fun m x => max m (h x)) m = m ∨ ∃ x ∈ l, l.foldl (fun m x => max m (h x)) m = h x)
  | [], m => ⟨Int.le_refl _, fun x hx => (by cases hx), .inl rfl⟩
  | a :: l, m => by
    obtain ⟨h1, h2, h3⟩ := maxL_facts h l (max m (h a))
    rw [List.foldl_cons]
    refine ⟨by omega, fun x hx => ?_, ?_⟩
    · rcases List.mem_cons.1 hx with rfl | hx
      · omega
      · exact h2 x hx
    · rcases h3 with h3 | ⟨x, hx, h3⟩
      · rw [h3]
        by_cases hm : h a ≤ m
        · exact .inl (by omega)
        · exact .inr ⟨a, List.mem_cons_self, by omega⟩
      · exact .inr ⟨x, List.mem_cons_of_mem _ hx, h3⟩
theorem maxL_same (h : List Int → Int) {l l' : LL} (hm : ∀ x, x ∈ l ↔ x ∈ l') : maxL h l = maxL h l' := by
  obtain ⟨a1, a2, a3⟩ := maxL_facts h l 0
  obtain ⟨b1, b2, b3⟩ := maxL_facts h l' 0
  unfold maxL
  have h1 : l.foldl (fun m x => max m (h x)) 0 ≤ l'.foldl (fun m x => max m (h x)) 0 := by
    rcases a3 with a3 | ⟨x, hx, a3⟩
    · rw [a3]; exact b1
    · rw [a3]; exact b2 x ((hm x).1 hx)
  have h2 : l'.foldl (fun m x => max m (h x)) 0 ≤ l.foldl (fun m x => max m (h x)) 0 := by
    rcases b3 with b3 | ⟨x, hx, b3⟩
    · rw [b3]; exact a1
    · rw [b3]; exact a2 x ((hm x).2 hx)
  omega
theorem keys_reach (a : List Int) (n : Nat) (x : List Int) : x ∈ keysE (TW sl a (n + 1)) ↔ x ∈ reachL a n := by
  unfold keysE
  rw [TW_mem, reachL_mem]
  constructor
  · rintro ⟨w, h, h2⟩; exact ⟨w, by omega, h2⟩
  · rintro ⟨w, h, h2⟩; exact ⟨w, by omega, h2⟩
theorem max_most (a b : Int) : spec_l1Most_v a b = max a b := by
  unfold spec_l1Most_v
  cases h : decide (b < a) with
  | true => have := of_decide_eq_true h; rw [cond_true]; omega
  | false => have := of_decide_eq_false h; rw [cond_false]; omega
theorem max_if (a b : Int) : (if b > a then b else a) = max a b := by
  split <;> omega
theorem spec_hbs (F : Nat) {b : List Int} (hb : b.length = 16) (hF : 2000000 < F) : spec_HighestBySlides_p F b = some (bif okB b then (maxL (fun x => (highB x).1) (reachL b 6), true) else (0, false)) := by
  simp only [spec_HighestBySlides_p, spec_HighestBySlides_c, spec_l2Board_eq F b hb (by omega), Option.isSome_some, Option.getD_some, cond_true]
  cases kb : okB b with
  | false => rfl
  | true =>
    have e := spec_reach F (b := b) (n := 6) ⟨hb, kb⟩ (by omega) (by omega)
    have hs := reachL_small b (n := 6) (by omega)
    have ho := reachL_ok (b := b) ⟨hb, kb⟩ 6
    have e6 : ((6 : Nat) : Int) = 6 := rfl
    rw [e6] at e
    revert e hs ho
    generalize reachL b 6 = all
    intro e hs ho
    have h := loop_fold (step := spec_HighestBySlides_s5 F all) (fun i (m : Int) => (m, i)) all.length (fun i m => max m (highB (rget all i)).1) (fun m => m) (fun _ _ => True) (F := F) (by omega) (by omega) (a := 0) trivial
      (fun i m hi _ => ⟨trivial, fun Q kn kx => by
        have hg := ho.1 _ (rget_mem hi)
        simp only [spec_HighestBySlides_s5, Int.ofNat_lt, hi, decide_true, cond_true, inR_cast, Int.toNat_natCast, spec_l5Highest_p, spec_l5Highest_c, spec_high F _ hg.1 (by omega), hg.2, Option.isSome_some, Option.getD_some, max_most]⟩)
      (fun m _ Q kn kx => by simp [spec_HighestBySlides_s5])
    have h1 := h.1
    rw [fld_rget all (fun x (m : Int) => max m (highB x).1)] at h1
    have h1 : spec_HighestBySlides_l5 F all 0 0 = some (maxL (fun x => (highB x).1) all) := h1
    simp only [Bool.not_true, cond_false, cond_true, e, h1, Option.isSome_some, Option.getD_some]
theorem impl_hbs0 (F : Nat) {b : List Int} (hb : b.length = 16) (hF : 2000000 < F) (E : EL) (e : okB b = true → impl_Board_reach_p F b 6 = some (E, keysE E)) (hE : E.length ≤ 1000000) : impl_HighestBySlides_p F b = some (bif okB b then (maxL (fun x => (highB x).1) (keysE E), true) else (0, false)) := by
  simp only [impl_HighestBySlides_p, impl_HighestBySlides_c, impl_IsBoard_eq F b hb (by omega), Option.isSome_some, Option.getD_some, cond_true]
  cases kb : okB b with
  | false => rfl
  | true =>
    have hk := keysE_len E
    have e := e kb
    revert e hk
    generalize keysE E = all
    intro hk e
    have h := loop_fold (step := impl_HighestBySlides_s6 F ((all.length : Nat) : Int) all) (fun i (m : Int) => (m, i)) all.length (fun i m => max m (highB (rget all i)).1) (fun m => m) (fun _ _ => True) (F := F) (by omega) (by omega) (a := 0) trivial
      (fun i m hi _ => ⟨trivial, fun Q kn kx => by
        simp only [impl_HighestBySlides_s6, Int.ofNat_lt, hi, decide_true, cond_true, inR_cast, Int.toNat_natCast, Nat.zero_add, impl_high F _ (show 1000 < F by omega), Option.isSome_some, Option.getD_some, max_if]⟩)
      (fun m _ Q kn kx => by simp [impl_HighestBySlides_s6])
    have h1 := h.1
    rw [fld_rget all (fun x (m : Int) => max m (highB x).1)] at h1
    have h1 : impl_HighestBySlides_l6 F ((all.length : Nat) : Int) all 0 0 = some (maxL (fun x => (highB x).1) all) := h1
    simp only [Bool.not_true, cond_false, cond_true, e, h1, Option.isSome_some, Option.getD_some, beq_selfL, Bool.and_self]
theorem impl_hbs (F : Nat) {b : List Int} (hb : b.length = 16) (hF : 2000000 < F) : impl_HighestBySlides_p F b = some (bif okB b then (maxL (fun x => (highB x).1) (reachL b 6), true) else (0, false)) := by
  have hl := TW_len sl b 7
  have h6 : (7 : Nat) * 4 ^ 7 = 114688 := by decide
  rw [h6] at hl
  have h := impl_hbs0 F hb hF (TW sl b 7) (fun kb => by
    have e := reach_eq F (b := b) (n := 6) ⟨hb, kb⟩ (by omega) hF
    exact e) (Nat.le_trans hl (by decide))
  rw [maxL_same (fun x => (highB x).1) (keys_reach b 6)] at h
  exact h
theorem law_HighestBySlides (F : Nat) (b : List Int) (hb : b.length = 16) (_ : ∀ x ∈ b, Rng x) (hF : 2000000 < F) : laws_FnExactHighestBySlides_p F b = some true := by
  have h1 := spec_hbs F hb hF
  have h2 := impl_hbs F hb hF
  revert h1 h2
  generalize (bif okB b then (maxL (fun x => (highB x).1) (reachL b 6), true) else (0, false)) = r
  intro h1 h2
  simp only [laws_FnExactHighestBySlides_p, laws_FnExactHighestBySlides_c, toBoard_eq hb, h1, h2, Option.isSome_some, Option.getD_some, cond_true, beq_self_eq_true, Bool.not_true, cond_false]
end Go.Lv.P
