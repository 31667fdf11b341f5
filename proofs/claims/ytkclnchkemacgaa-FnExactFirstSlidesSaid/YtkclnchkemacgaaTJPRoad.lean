/-
The first list of slides to a board: the program's.
-/
import Derived.Test.YtkclnchkemacgaaTJP2
import Derived.Test.YtkclnchkemacgaaTJPReachI
import Derived.Test.YtkclnchkemacgaaTJPFewest
import Derived.Test.YtkclnchkemacgaaTJPKeep
import Derived.Test.YtkclnchkemacgaaTJPSumI
namespace Go.Lv.P
open Go Go.Lv
set_option linter.unusedVariables false
set_option linter.unusedSimpArgs false
set_option linter.unusedSectionVars false

theorem run_sum {w : List Nat} : ∀ {b : List Int}, GoodB b → (∀ d ∈ w, d < 4) → sumB (runW sl b w) = sumB b := by
  induction w with
  | nil => intro b _ _; simp only [runW]
  | cons d w ih =>
    intro b h hw
    have hd := hw d List.mem_cons_self
    simp only [runW]
    rw [ih (sl_good h hd) fun e he => hw e (List.mem_cons_of_mem _ he)]
    exact slide_sum h.1 h.2 hd
theorem road_word {a c p : List Int} {k : Nat} (h : mlook c (TW sl a k) = some p) : ∃ w : List Nat, w.length < k ∧ (∀ d ∈ w, d < 4) ∧ runW sl a w = c ∧ p = nw w := by
  have : ∀ E : EL, mlook c E = some p → (c, p) ∈ E := by
    intro E
    induction E with
    | nil => intro h; cases h
    | cons x r ih =>
      intro h
      simp only [mlook] at h
      cases hx : c == x.1 with
      | true =>
        rw [hx, cond_true] at h
        cases h
        rw [eq_of_beq hx]; exact List.mem_cons_self
      | false => rw [hx, cond_false] at h; exact List.mem_cons_of_mem _ (ih h)
  obtain ⟨w, h1, h2, h3⟩ := TW_ent sl a k _ (this _ h)
  cases h3
  exact ⟨w, h1, h2, rfl, rfl⟩
def roadR : Option (List Int) → List Int × Bool
  | some p => (p, true)
  | none => ([], false)
theorem impl_road0 (F : Nat) {a c : List Int} (ha : a.length = 16) (hc : c.length = 16) (hF : 2000000 < F) (E : EL) (e : okB a = true → impl_Board_reach_p F a 6 = some (E, keysE E)) (hr : okB a = true → (sumB a == sumB c) = false → mlook c E = none) :
    impl_Board_roadTo_p F a c = some (bif okB a && okB c then roadR (mlook c E) else ([], false)) := by
  simp only [impl_Board_roadTo_p, impl_Board_roadTo_c, impl_IsBoard_eq F a ha (by omega), impl_IsBoard_eq F c hc (by omega), Option.isSome_some, Option.getD_some, cond_true]
  cases ka : okB a with
  | false => rfl
  | true =>
    cases kc : okB c with
    | false => rfl
    | true =>
      simp only [Bool.not_true, cond_false, cond_true, Bool.and_self, impl_sum_eq a ha ka, impl_sum_eq c hc kc, Option.isSome_some, Option.getD_some, e ka]
      cases hs : sumB a == sumB c with
      | false => rw [hr ka hs]; rfl
      | true =>
        simp only [Bool.not_true, cond_false]
        cases mlook c E <;> rfl
theorem impl_road (F : Nat) {a c : List Int} (ha : a.length = 16) (hc : c.length = 16) (hF : 2000000 < F) : impl_Board_roadTo_p F a c = some (bif okB a && okB c then roadR (mlook c (TW sl a 7)) else ([], false)) := by
  refine impl_road0 F ha hc hF (TW sl a 7) (fun ka => ?_) fun ka hs => ?_
  · have e := reach_eq F (b := a) (n := 6) ⟨ha, ka⟩ (by omega) hF
    exact e
  · cases h : mlook c (TW sl a 7) with
    | none => rfl
    | some p =>
      obtain ⟨w, _, h2, h3, _⟩ := road_word h
      have := run_sum (b := a) ⟨ha, ka⟩ h2
      rw [h3] at this
      rw [this, beq_self_eq_true] at hs; cases hs
end Go.Lv.P
