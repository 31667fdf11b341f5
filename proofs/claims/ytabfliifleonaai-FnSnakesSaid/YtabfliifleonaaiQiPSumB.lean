/-
Sums of worths.
-/
import Derived.Test.YtabfliifleonaaiQiPBoard
import Derived.Test.YtabfliifleonaaiQiPWorthC
namespace Go.Lv.P
open Go Go.Lv
set_option linter.unusedVariables false
set_option linter.unusedSimpArgs false

/-- the sum of a board's worths -/
def sumB (b : List Int) : Int := (b.map W).foldl (· + ·) 0

theorem okB_iget {b : List Int} (hb : b.length = 16) (ok : okB b = true) (i : Nat) (hi : i < 16) : inB (iget b i) 0 17 = true := by
  simp only [okB, List.all_eq_true] at ok
  rw [igetL, List.getElem?_eq_getElem (by omega)]
  exact ok _ (List.getElem_mem _)

theorem wrap_small {n : Int} (h1 : 0 ≤ n) (h2 : n ≤ 9223372036854775807) : IntKind.wrap .i64 n = n := wrap_of (by omega) h2

theorem foldw : ∀ (l : List Int) (a : Int), (∀ x ∈ l, 0 ≤ x ∧ x ≤ 131072) → 0 ≤ a → a + l.length * 131072 ≤ 9223372036854775807 → l.foldl (fun a x => IntKind.wrap .i64 (a + x)) a = l.foldl (· + ·) a
  | [], a, _, _, _ => rfl
  | x :: r, a, h, h0, h1 => by
    have hx := h x (by simp)
    simp only [List.length_cons] at h1
    simp only [List.foldl_cons]
    rw [wrap_small (by omega) (by omega)]
    exact foldw r (a + x) (fun y hy => h y (by simp [hy])) (by omega) (by omega)

theorem sumB_facts {b : List Int} (ok : okB b = true) : 0 ≤ sumB b ∧ sumB b ≤ b.length * 131072 ∧ sumB b % 2 = 0 := by
  have : ∀ (l : List Int) (a : Int), (∀ x ∈ l, inB x 0 17 = true) → 0 ≤ a → a % 2 = 0 → 0 ≤ (l.map W).foldl (· + ·) a ∧ (l.map W).foldl (· + ·) a ≤ a + l.length * 131072 ∧ (l.map W).foldl (· + ·) a % 2 = 0 := by
    intro l
    induction l with
    | nil => intro a _ h0 h2; exact ⟨h0, by simp, h2⟩
    | cons x r ih =>
      intro a h h0 h2
      have hw := W_facts (h x (by simp))
      obtain ⟨g1, g2, g3⟩ := ih (a + W x) (fun y hy => h y (by simp [hy])) (by omega) (by omega)
      refine ⟨g1, ?_, g3⟩
      simp only [List.map_cons, List.foldl_cons, List.length_cons]
      omega
  simp only [okB, List.all_eq_true] at ok
  have := this b 0 ok (by omega) (by omega)
  refine ⟨this.1, ?_, this.2.2⟩
  have := this.2.1
  unfold sumB
  omega
end Go.Lv.P
