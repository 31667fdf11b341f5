/-
What the laws draw out of bytes: cells.
-/
import Derived.Test.YtgdokdkcbgkekaeGeP5
import Derived.Test.YtgdokdkcbgkekaeGePDraw
namespace Go.Lv.P
open Go Go.Lv
set_option linter.unusedVariables false
set_option linter.unusedSimpArgs false
set_option linter.unusedSectionVars false

theorem cell_ok {c : List Int} (hc : Byt c) {n : Nat} (hn : n ≤ 800000000) {a s : Int} (h : Cur n a) : ∃ (v : List Int) (a' s' : Int), spec_l1Cur_cell_p c a s = some (v, a', s') ∧ v.length = 2 ∧ Cur (n + 6) a' := by
  obtain ⟨f1, a1, s1, e1, c1⟩ := one_ok hc (by omega) (q := 40) (by decide) (by decide) h (s := s)
  obtain ⟨v2, a2, s2, e2, _, c2⟩ := among_ok hc (by omega) (l := [-1, 4, 0]) (by decide) (by decide) c1 (s := s1)
  obtain ⟨v3, a3, s3, e3, _, c3⟩ := among_ok hc (by omega) (l := [4, -1, 4611686018427387904]) (by decide) (by decide) c2 (s := s2)
  obtain ⟨v4, a4, s4, e4, _, c4⟩ := pick_ok hc (by omega) (q := 4) (by decide) (by decide) c1 (s := s1)
  obtain ⟨v5, a5, s5, e5, _, c5⟩ := pick_ok hc (by omega) (q := 4) (by decide) (by decide) c4 (s := s4)
  have q4 : ((4 : Nat) : Int) = 4 := rfl
  have q40 : ((40 : Nat) : Int) = 40 := rfl
  rw [q40] at e1
  rw [q4] at e4 e5
  simp only [spec_l1Cur_cell_p, spec_l1Cur_cell_c, e1, e2, e3, e4, e5, Option.isSome_some, Option.getD_some, cond_true]
  cases f1 with
  | true => exact ⟨_, _, _, rfl, rfl, c3.mono (by omega)⟩
  | false => exact ⟨_, _, _, rfl, rfl, c5.mono (by omega)⟩
end Go.Lv.P
