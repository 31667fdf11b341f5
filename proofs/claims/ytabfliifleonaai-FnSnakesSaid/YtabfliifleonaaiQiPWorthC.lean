/-
Worths of tiles: plain.
-/
import Derived.Test.YtabfliifleonaaiLv3
namespace Go.Lv.P
open Go Go.Lv
set_option linter.unusedVariables false
set_option linter.unusedSimpArgs false

/-- the worth of a number of a cell -/
def W (t : Int) : Int := if t = 0 then 0 else 2 ^ t.toNat

theorem tile_cases {t : Int} (h : inB t 0 17 = true) : t = 0 ∨ t = 1 ∨ t = 2 ∨ t = 3 ∨ t = 4 ∨ t = 5 ∨ t = 6 ∨ t = 7 ∨ t = 8 ∨ t = 9 ∨ t = 10 ∨ t = 11 ∨ t = 12 ∨ t = 13 ∨ t = 14 ∨ t = 15 ∨ t = 16 ∨ t = 17 := by
  simp [inB] at h; omega

theorem W_facts {t : Int} (h : inB t 0 17 = true) : 0 ≤ W t ∧ W t ≤ 131072 ∧ W t % 2 = 0 := by
  rcases tile_cases h with h | h | h | h | h | h | h | h | h | h | h | h | h | h | h | h | h | h <;> subst h <;> decide
end Go.Lv.P
