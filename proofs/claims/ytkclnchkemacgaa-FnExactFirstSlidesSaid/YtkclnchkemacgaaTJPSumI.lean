/-
Sums of worths: the program's.
-/
import Derived.Test.YtkclnchkemacgaaTJP1
import Derived.Test.YtkclnchkemacgaaTJPSumB
namespace Go.Lv.P
open Go Go.Lv
set_option linter.unusedVariables false
set_option linter.unusedSimpArgs false

theorem impl_sum_eq (b : List Int) (hb : b.length = 16) (ok : okB b = true) : impl_Board_sum_p b = some (sumB b) := by
  have hk := fun i hi => okB_iget hb ok i hi
  obtain ⟨x0, x1, x2, x3, x4, x5, x6, x7, x8, x9, x10, x11, x12, x13, x14, x15, rfl⟩ := list16 hb
  have h0 : inB x0 0 17 = true := hk 0 (by decide)
  have h1 : inB x1 0 17 = true := hk 1 (by decide)
  have h2 : inB x2 0 17 = true := hk 2 (by decide)
  have h3 : inB x3 0 17 = true := hk 3 (by decide)
  have h4 : inB x4 0 17 = true := hk 4 (by decide)
  have h5 : inB x5 0 17 = true := hk 5 (by decide)
  have h6 : inB x6 0 17 = true := hk 6 (by decide)
  have h7 : inB x7 0 17 = true := hk 7 (by decide)
  have h8 : inB x8 0 17 = true := hk 8 (by decide)
  have h9 : inB x9 0 17 = true := hk 9 (by decide)
  have h10 : inB x10 0 17 = true := hk 10 (by decide)
  have h11 : inB x11 0 17 = true := hk 11 (by decide)
  have h12 : inB x12 0 17 = true := hk 12 (by decide)
  have h13 : inB x13 0 17 = true := hk 13 (by decide)
  have h14 : inB x14 0 17 = true := hk 14 (by decide)
  have h15 : inB x15 0 17 = true := hk 15 (by decide)
  have key : impl_Board_sum_p [x0, x1, x2, x3, x4, x5, x6, x7, x8, x9, x10, x11, x12, x13, x14, x15] =
      bif (impl_worth_p x0).isSome then bif (impl_worth_p x1).isSome then bif (impl_worth_p x2).isSome then bif (impl_worth_p x3).isSome then
      bif (impl_worth_p x4).isSome then bif (impl_worth_p x5).isSome then bif (impl_worth_p x6).isSome then bif (impl_worth_p x7).isSome then
      bif (impl_worth_p x8).isSome then bif (impl_worth_p x9).isSome then bif (impl_worth_p x10).isSome then bif (impl_worth_p x11).isSome then
      bif (impl_worth_p x12).isSome then bif (impl_worth_p x13).isSome then bif (impl_worth_p x14).isSome then bif (impl_worth_p x15).isSome then
      some (([x0, x1, x2, x3, x4, x5, x6, x7, x8, x9, x10, x11, x12, x13, x14, x15].map fun x => (impl_worth_p x).getD default).foldl (fun a x => IntKind.wrap .i64 (a + x)) 0)
      else none else none else none else none else none else none else none else none else none else none else none else none else none else none else none else none := by kernel_rfl
  rw [key]
  have hall : ∀ x ∈ [x0, x1, x2, x3, x4, x5, x6, x7, x8, x9, x10, x11, x12, x13, x14, x15], inB x 0 17 = true := by simpa [okB] using ok
  have e1 : ([x0, x1, x2, x3, x4, x5, x6, x7, x8, x9, x10, x11, x12, x13, x14, x15].map fun x => (impl_worth_p x).getD default) = [x0, x1, x2, x3, x4, x5, x6, x7, x8, x9, x10, x11, x12, x13, x14, x15].map W :=
    List.map_congr_left fun x hx => by rw [worth_eq (hall x hx)]; rfl
  rw [e1, foldw _ 0 (fun x hx => by
    obtain ⟨y, hy, rfl⟩ := List.mem_map.1 hx
    have := W_facts (hall y hy)
    exact ⟨this.1, this.2.1⟩) (by omega) (by simp)]
  simp only [worth_eq h0, worth_eq h1, worth_eq h2, worth_eq h3, worth_eq h4, worth_eq h5, worth_eq h6, worth_eq h7, worth_eq h8, worth_eq h9, worth_eq h10, worth_eq h11, worth_eq h12, worth_eq h13, worth_eq h14, worth_eq h15, Option.isSome_some, cond_true]
  rfl

end Go.Lv.P
