/-
The lines before a board's lines, and their count.
-/
import Derived.Test.YtgmnclpjbhmioaaGreatTZP1
import Derived.Test.YtgmnclpjbhmioaaGreatTZP4
import Derived.Test.YtgmnclpjbhmioaaGreatTZPSlides1
import Derived.Test.YtgmnclpjbhmioaaGreatTZPRowsI
namespace Go.Lv.P
open Go Go.Lv
set_option linter.unusedVariables false
set_option linter.unusedSimpArgs false
set_option linter.unusedSectionVars false

/-- the rows before a line -/
def rwB (b : List Int) (d i : Nat) : LL := rbL (lineB b d i)
/-- how many boards a board may have come from -/
def cntB (b : List Int) (d : Nat) : Int :=
  let n := IntKind.wrap .i64 ((IntKind.wrap .i64 ((IntKind.wrap .i64 ((IntKind.wrap .i64 ((1 : Int) * (((rwB b d 0).length : Nat) : Int))) * (((rwB b d 1).length : Nat) : Int))) * (((rwB b d 2).length : Nat) : Int))) * (((rwB b d 3).length : Nat) : Int))
  bif (slideB b d).1 == b then IntKind.wrap .i64 (n - 1) else n
theorem rwB_len (b : List Int) (d i : Nat) : (rwB b d i).length ≤ 256 := rb_len _
section
variable {b : List Int} (hb : b.length = 16) (ok : okB b = true)
include hb ok
theorem rw_ok {d i : Nat} (hd : d < 4) (hi : i < 4) : ∀ x ∈ rwB b d i, x.length = 4 ∧ ∀ y ∈ x, tileOK y := fun x hx =>
  ((rb_facts (row := lineB b d i) rfl (line_ok hb ((okB_iff b).1 ok) hd hi)).2 x hx).1
theorem impl_lines (F : Nat) (hF : 1000 < F) {d : Nat} (hd : d < 4) : impl_Board_linesBefore_p F b d = some (rwB b d 0, rwB b d 1, rwB b d 2, rwB b d 3) := by
  have k := (okB_iff b).1 ok
  have h0 := impl_line b hd (i := 0) (by decide)
  have h1 := impl_line b hd (i := 1) (by decide)
  have h2 := impl_line b hd (i := 2) (by decide)
  have h3 := impl_line b hd (i := 3) (by decide)
  obtain ⟨r0, a0, -, t0, -, -⟩ := impl_before (row := lineB b d 0) rfl (line_ok hb k hd (by decide)) F hF
  obtain ⟨r1, a1, -, t1, -, -⟩ := impl_before (row := lineB b d 1) rfl (line_ok hb k hd (by decide)) F hF
  obtain ⟨r2, a2, -, t2, -, -⟩ := impl_before (row := lineB b d 2) rfl (line_ok hb k hd (by decide)) F hF
  obtain ⟨r3, a3, -, t3, -, -⟩ := impl_before (row := lineB b d 3) rfl (line_ok hb k hd (by decide)) F hF
  have e0 : ((0 : Nat) : Int) = 0 := rfl
  have e1 : ((1 : Nat) : Int) = 1 := rfl
  have e2 : ((2 : Nat) : Int) = 2 := rfl
  have e3 : ((3 : Nat) : Int) = 3 := rfl
  rw [e0] at h0
  rw [e1] at h1
  rw [e2] at h2
  rw [e3] at h3
  simp only [impl_Board_linesBefore_p, impl_Board_linesBefore_c, h0, h1, h2, h3, a0, a1, a2, a3, Option.isSome_some, Option.getD_some, cond_true, subn_take0, t0, t1, t2, t3, rwB]
theorem spec_lists (F : Nat) (hF : 1000 < F) {d : Nat} (hd : d < 4) : spec_l6Lists_p F b d = some (rwB b d 0, rwB b d 1, rwB b d 2, rwB b d 3) := by
  obtain ⟨G, rfl⟩ : ∃ G, F = G + 1001 := ⟨F - 1001, by omega⟩
  have k := (okB_iff b).1 ok
  have h0 := spec_nums G b hd (i := 0) (by decide)
  have h1 := spec_nums G b hd (i := 1) (by decide)
  have h2 := spec_nums G b hd (i := 2) (by decide)
  have h3 := spec_nums G b hd (i := 3) (by decide)
  have a0 := spec_before (row := lineB b d 0) rfl (line_ok hb k hd (by decide)) (G + 1001) hF
  have a1 := spec_before (row := lineB b d 1) rfl (line_ok hb k hd (by decide)) (G + 1001) hF
  have a2 := spec_before (row := lineB b d 2) rfl (line_ok hb k hd (by decide)) (G + 1001) hF
  have a3 := spec_before (row := lineB b d 3) rfl (line_ok hb k hd (by decide)) (G + 1001) hF
  have e0 : ((0 : Nat) : Int) = 0 := rfl
  have e1 : ((1 : Nat) : Int) = 1 := rfl
  have e2 : ((2 : Nat) : Int) = 2 := rfl
  have e3 : ((3 : Nat) : Int) = 3 := rfl
  rw [e0] at h0
  rw [e1] at h1
  rw [e2] at h2
  rw [e3] at h3
  simp only [spec_l6Lists_p, spec_l6Lists_c, h0, h1, h2, h3, a0, a1, a2, a3, Option.isSome_some, Option.getD_some, cond_true, rwB]
theorem impl_count (F : Nat) (hF : 1000 < F) {d : Nat} (hd : d < 4) : impl_Board_countBefore_p F b d = some (cntB b d) := by
  simp only [impl_Board_countBefore_p, impl_Board_countBefore_c, impl_lines hb ok F hF hd, impl_slides1 hb ok F hF hd, Option.isSome_some, Option.getD_some, cond_true, cntB]
  cases (slideB b d).1 == b <;> rfl
theorem spec_count (F : Nat) (hF : 1000 < F) {d : Nat} (hd : d < 4) : spec_l6Count_p F b d = some (cntB b d) := by
  simp only [spec_l6Count_p, spec_l6Count_c, spec_l6Still_p, spec_l6Still_c, spec_lists hb ok F hF hd, spec_slide hb ok F hF hd, Option.isSome_some, Option.getD_some, cond_true, cntB]
  cases (slideB b d).1 == b <;> rfl
end
end Go.Lv.P
