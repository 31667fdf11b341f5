/-
What the laws draw out of bytes: sides.
-/
import Derived.Test.YtgdokdkcbgkekaaGaP0
import Derived.Test.YtgdokdkcbgkekaaGaPDraw
namespace Go.Lv.P
open Go Go.Lv
set_option linter.unusedVariables false
set_option linter.unusedSimpArgs false
set_option linter.unusedSectionVars false

theorem side_ok {c : List Int} (hc : Byt c) {n : Nat} (hn : n ≤ 800000000) {a s : Int} (h : Cur n a) : ∃ (v a' s' : Int), spec_l1Cur_side_p c a s = some (v, a', s') ∧ Cur (n + 4) a' := by
  obtain ⟨f1, a1, s1, e1, c1⟩ := one_ok hc (by omega) (q := 40) (by decide) (by decide) h (s := s)
  obtain ⟨v2, a2, s2, e2, _, c2⟩ := among_ok hc (by omega) (l := [-1, 4, 4611686018427387904]) (by decide) (by decide) c1 (s := s1)
  obtain ⟨v3, a3, s3, e3, _, c3⟩ := pick_ok hc (by omega) (q := 4) (by decide) (by decide) c1 (s := s1)
  have q4 : ((4 : Nat) : Int) = 4 := rfl
  have q40 : ((40 : Nat) : Int) = 40 := rfl
  rw [q40] at e1
  rw [q4] at e3
  simp only [spec_l1Cur_side_p, spec_l1Cur_side_c, e1, e2, e3, Option.isSome_some, Option.getD_some, cond_true]
  cases f1 with
  | true => exact ⟨_, _, _, rfl, c2.mono (by omega)⟩
  | false => exact ⟨_, _, _, rfl, c3.mono (by omega)⟩
end Go.Lv.P
