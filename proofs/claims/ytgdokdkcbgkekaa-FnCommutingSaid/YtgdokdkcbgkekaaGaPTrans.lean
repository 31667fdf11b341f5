/-
Boards with rows and columns changed about.
-/
import Derived.Test.YtgdokdkcbgkekaaGaPSlide
import Derived.Test.YtgdokdkcbgkekaaGaPAllB
import Derived.Test.YtgdokdkcbgkekaaGaPRowsM
namespace Go.Lv.P
open Go Go.Lv
set_option linter.unusedVariables false
set_option linter.unusedSimpArgs false
set_option linter.unusedSectionVars false

def trB (b : List Int) : List Int := [iget b 0, iget b 4, iget b 8, iget b 12, iget b 1, iget b 5, iget b 9, iget b 13, iget b 2, iget b 6, iget b 10, iget b 14, iget b 3, iget b 7, iget b 11, iget b 15]
/-- the direction behind the change -/
def sgD : Nat → Nat
  | 0 => 1
  | 1 => 0
  | 2 => 3
  | _ => 2
theorem sg_lt {d : Nat} (hd : d < 4) : sgD d < 4 := by
  obtain rfl | rfl | rfl | rfl : d = 0 ∨ d = 1 ∨ d = 2 ∨ d = 3 := by omega
  all_goals decide
theorem tr_len (b : List Int) : (trB b).length = 16 := rfl
theorem tr_line {b : List Int} (hb : b.length = 16) {d i : Nat} (hd : d < 4) (hi : i < 4) : lineB (trB b) d i = lineB b (sgD d) i := by
  obtain ⟨x0, x1, x2, x3, x4, x5, x6, x7, x8, x9, xa, xb, xc, xd, xe, xf, rfl⟩ := list16 hb
  obtain rfl | rfl | rfl | rfl : d = 0 ∨ d = 1 ∨ d = 2 ∨ d = 3 := by omega
  all_goals
    obtain rfl | rfl | rfl | rfl : i = 0 ∨ i = 1 ∨ i = 2 ∨ i = 3 := by omega
    all_goals kernel_rfl
theorem slide_full {b : List Int} (hb : b.length = 16) {d : Nat} (hd : d < 4) : (slideB b d).1 = fullB d (slR (lineB b d 0)) (slR (lineB b d 1)) (slR (lineB b d 2)) (slR (lineB b d 3)) := by
  rw [← full_base hb hd]
  rfl
theorem tr_full {d : Nat} (hd : d < 4) {r0 r1 r2 r3 : List Int} (h0 : r0.length = 4) (h1 : r1.length = 4) (h2 : r2.length = 4) (h3 : r3.length = 4) : fullB d r0 r1 r2 r3 = trB (fullB (sgD d) r0 r1 r2 r3) := by
  obtain ⟨a0, a1, a2, a3, rfl⟩ := list4 h0
  obtain ⟨b0, b1, b2, b3, rfl⟩ := list4 h1
  obtain ⟨c0, c1, c2, c3, rfl⟩ := list4 h2
  obtain ⟨d0, d1, d2, d3, rfl⟩ := list4 h3
  obtain rfl | rfl | rfl | rfl : d = 0 ∨ d = 1 ∨ d = 2 ∨ d = 3 := by omega
  all_goals kernel_rfl
theorem slR_len {row : List Int} (h : ∀ x ∈ row, tileOK x) : (slR row).length = 4 := (rslide_ok h).1
theorem tr_slide {b : List Int} (hb : b.length = 16) (ok : okB b = true) {d : Nat} (hd : d < 4) : (slideB (trB b) d).1 = trB (slideB b (sgD d)).1 := by
  have k := (okB_iff b).1 ok
  have hs := sg_lt hd
  rw [slide_full (tr_len b) hd, slide_full hb hs, tr_line hb hd (by decide), tr_line hb hd (by decide), tr_line hb hd (by decide), tr_line hb hd (by decide)]
  exact tr_full hd (slR_len (line_ok hb k hs (by decide))) (slR_len (line_ok hb k hs (by decide))) (slR_len (line_ok hb k hs (by decide))) (slR_len (line_ok hb k hs (by decide)))
theorem tr_ok {b : List Int} (hb : b.length = 16) (ok : okB b = true) : okB (trB b) = true := by
  have k := (okB_iff b).1 ok
  refine (okB_iff _).2 fun x hx => ?_
  have g : ∀ n, n < 16 → tileOK (iget b n) := fun n hn => iget_ok k (by omega)
  simp only [trB, List.mem_cons, List.not_mem_nil, or_false] at hx
  rcases hx with rfl | rfl | rfl | rfl | rfl | rfl | rfl | rfl | rfl | rfl | rfl | rfl | rfl | rfl | rfl | rfl
  all_goals exact g _ (by decide)
theorem tr_inj {a b : List Int} (ha : a.length = 16) (hb : b.length = 16) : (trB a == trB b) = (a == b) := by
  obtain ⟨x0, x1, x2, x3, x4, x5, x6, x7, x8, x9, xa, xb, xc, xd, xe, xf, rfl⟩ := list16 ha
  obtain ⟨y0, y1, y2, y3, y4, y5, y6, y7, y8, y9, ya, yb, yc, yd, ye, yf, rfl⟩ := list16 hb
  have e : ∀ z0 z1 z2 z3 z4 z5 z6 z7 z8 z9 za zb zc zd ze zf : Int, trB [z0, z1, z2, z3, z4, z5, z6, z7, z8, z9, za, zb, zc, zd, ze, zf] = [z0, z4, z8, zc, z1, z5, z9, zd, z2, z6, za, ze, z3, z7, zb, zf] := fun _ _ _ _ _ _ _ _ _ _ _ _ _ _ _ _ => rfl
  rw [e, e, Bool.eq_iff_iff, beq_iff_eq, beq_iff_eq]
  simp only [List.cons.injEq, and_true]
  constructor
  · rintro ⟨h0, h4, h8, hc, h1, h5, h9, hd, h2, h6, ha, he, h3, h7, hb, hf⟩; exact ⟨h0, h1, h2, h3, h4, h5, h6, h7, h8, h9, ha, hb, hc, hd, he, hf⟩
  · rintro ⟨h0, h1, h2, h3, h4, h5, h6, h7, h8, h9, ha, hb, hc, hd, he, hf⟩; exact ⟨h0, h4, h8, hc, h1, h5, h9, hd, h2, h6, ha, he, h3, h7, hb, hf⟩
end Go.Lv.P
