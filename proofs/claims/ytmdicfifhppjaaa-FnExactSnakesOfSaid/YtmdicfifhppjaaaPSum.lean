/-
Sums of worths, told plainly.
-/
import Derived.Test.YtmdicfifhppjaaaTAP1
import Derived.Test.YtmdicfifhppjaaaPBoard
namespace Go.Lv.P
open Go Go.Lv
set_option linter.unusedVariables false
set_option linter.unusedSimpArgs false

/-- the worth of a number of a cell -/
def W (t : Int) : Int := if t = 0 then 0 else 2 ^ t.toNat

theorem tile_cases {t : Int} (h : inB t 0 17 = true) : t = 0 ∨ t = 1 ∨ t = 2 ∨ t = 3 ∨ t = 4 ∨ t = 5 ∨ t = 6 ∨ t = 7 ∨ t = 8 ∨ t = 9 ∨ t = 10 ∨ t = 11 ∨ t = 12 ∨ t = 13 ∨ t = 14 ∨ t = 15 ∨ t = 16 ∨ t = 17 := by
  simp [inB] at h; omega

theorem W_facts {t : Int} (h : inB t 0 17 = true) : 0 ≤ W t ∧ W t ≤ 131072 ∧ W t % 2 = 0 := by
  rcases tile_cases h with h | h | h | h | h | h | h | h | h | h | h | h | h | h | h | h | h | h <;> subst h <;> decide
theorem worth_eq {t : Int} (h : inB t 0 17 = true) : impl_worth_p t = some (W t) := by
  rcases tile_cases h with h | h | h | h | h | h | h | h | h | h | h | h | h | h | h | h | h | h <;> subst h <;> decide
theorem l2Worth_eq {t : Int} (h : inB t 0 17 = true) (h0 : 0 < t) : spec_l2Worth_p t = some (W t) := by
  rcases tile_cases h with h | h | h | h | h | h | h | h | h | h | h | h | h | h | h | h | h | h <;> subst h <;> first | (exact absurd h0 (by decide)) | decide

/-- the sum of a board's worths -/
def sumB (b : List Int) : Int := (b.map W).foldl (· + ·) 0

theorem okB_iget {b : List Int} (hb : b.length = 16) (ok : okB b = true) (i : Nat) (hi : i < 16) : inB (iget b i) 0 17 = true := by
  simp only [okB, List.all_eq_true] at ok
  rw [igetL, List.getElem?_eq_getElem (by omega)]
  exact ok _ (List.getElem_mem _)

theorem wrap_small {n : Int} (h1 : 0 ≤ n) (h2 : n ≤ 9223372036854775807) : IntKind.wrap .i64 n = n := wrap_of (by omega) h2

theorem foldw : ∀ (l : List Int) (a : Int), (∀ x ∈ l, 0 ≤ x ∧ x ≤ 131072) → 0 ≤ a → a + l.length * 131072 ≤ 9223372036854775807 → l.foldl (fun a x => IntKind.wrap .i64 (a + x)) a = l.foldl (· + ·) a
  | [], a, _, _, _ => rfl
  | x :: r, a, h, h0, h1 => by
    have hx := h x (by simp)
    simp only [List.length_cons] at h1
    simp only [List.foldl_cons]
    rw [wrap_small (by omega) (by omega)]
    exact foldw r (a + x) (fun y hy => h y (by simp [hy])) (by omega) (by omega)

theorem impl_sum_eq (b : List Int) (hb : b.length = 16) (ok : okB b = true) : impl_Board_sum_p b = some (sumB b) := by
  have hk := fun i hi => okB_iget hb ok i hi
  obtain ⟨x0, x1, x2, x3, x4, x5, x6, x7, x8, x9, x10, x11, x12, x13, x14, x15, rfl⟩ := list16 hb
  have h0 : inB x0 0 17 = true := hk 0 (by decide)
  have h1 : inB x1 0 17 = true := hk 1 (by decide)
  have h2 : inB x2 0 17 = true := hk 2 (by decide)
  have h3 : inB x3 0 17 = true := hk 3 (by decide)
  have h4 : inB x4 0 17 = true := hk 4 (by decide)
  have h5 : inB x5 0 17 = true := hk 5 (by decide)
  have h6 : inB x6 0 17 = true := hk 6 (by decide)
  have h7 : inB x7 0 17 = true := hk 7 (by decide)
  have h8 : inB x8 0 17 = true := hk 8 (by decide)
  have h9 : inB x9 0 17 = true := hk 9 (by decide)
  have h10 : inB x10 0 17 = true := hk 10 (by decide)
  have h11 : inB x11 0 17 = true := hk 11 (by decide)
  have h12 : inB x12 0 17 = true := hk 12 (by decide)
  have h13 : inB x13 0 17 = true := hk 13 (by decide)
  have h14 : inB x14 0 17 = true := hk 14 (by decide)
  have h15 : inB x15 0 17 = true := hk 15 (by decide)
  have key : impl_Board_sum_p [x0, x1, x2, x3, x4, x5, x6, x7, x8, x9, x10, x11, x12, x13, x14, x15] =
      bif (impl_worth_p x0).isSome then bif (impl_worth_p x1).isSome then bif (impl_worth_p x2).isSome then bif (impl_worth_p x3).isSome then
      bif (impl_worth_p x4).isSome then bif (impl_worth_p x5).isSome then bif (impl_worth_p x6).isSome then bif (impl_worth_p x7).isSome then
      bif (impl_worth_p x8).isSome then bif (impl_worth_p x9).isSome then bif (impl_worth_p x10).isSome then bif (impl_worth_p x11).isSome then
      bif (impl_worth_p x12).isSome then bif (impl_worth_p x13).isSome then bif (impl_worth_p x14).isSome then bif (impl_worth_p x15).isSome then
      some (([x0, x1, x2, x3, x4, x5, x6, x7, x8, x9, x10, x11, x12, x13, x14, x15].map fun x => (impl_worth_p x).getD default).foldl (fun a x => IntKind.wrap .i64 (a + x)) 0)
      else none else none else none else none else none else none else none else none else none else none else none else none else none else none else none else none := by kernel_rfl
  rw [key]
  have hall : ∀ x ∈ [x0, x1, x2, x3, x4, x5, x6, x7, x8, x9, x10, x11, x12, x13, x14, x15], inB x 0 17 = true := by simpa [okB] using ok
  have e1 : ([x0, x1, x2, x3, x4, x5, x6, x7, x8, x9, x10, x11, x12, x13, x14, x15].map fun x => (impl_worth_p x).getD default) = [x0, x1, x2, x3, x4, x5, x6, x7, x8, x9, x10, x11, x12, x13, x14, x15].map W :=
    List.map_congr_left fun x hx => by rw [worth_eq (hall x hx)]; rfl
  rw [e1, foldw _ 0 (fun x hx => by
    obtain ⟨y, hy, rfl⟩ := List.mem_map.1 hx
    have := W_facts (hall y hy)
    exact ⟨this.1, this.2.1⟩) (by omega) (by simp)]
  simp only [worth_eq h0, worth_eq h1, worth_eq h2, worth_eq h3, worth_eq h4, worth_eq h5, worth_eq h6, worth_eq h7, worth_eq h8, worth_eq h9, worth_eq h10, worth_eq h11, worth_eq h12, worth_eq h13, worth_eq h14, worth_eq h15, Option.isSome_some, cond_true]
  rfl

theorem spec_sum_eq (F : Nat) (b : List Int) (hb : b.length = 16) (ok : okB b = true) (hF : 1000 < F) : spec_l2Sum_p F b = some (sumB b) := by
  have hk := fun i hi => okB_iget hb ok i hi
  have h1 : ∀ (r : Nat) (s : Int), r < 4 → 0 ≤ s → s ≤ r * 524288 → spec_l2Sum_l6 F r b s 0 = some (fld (fun c a => a + W (iget b (0 + r * 4 + c * 1))) 0 4 s) ∧ 0 ≤ fld (fun c a => a + W (iget b (0 + r * 4 + c * 1))) 0 4 s ∧ fld (fun c a => a + W (iget b (0 + r * 4 + c * 1))) 0 4 s ≤ (r + 1 : Nat) * 524288 := fun r s hr hs0 hs1 => by
    have := loop_fold (step := spec_l2Sum_s6 F r b) (fun i a => (a, i)) 4 (fun c a => a + W (iget b (0 + r * 4 + c * 1))) (fun a => a) (fun i a => 0 ≤ a ∧ a ≤ r * 524288 + i * 131072) (F := F) (by omega) (by omega) (a := s) ⟨hs0, by omega⟩
      (fun i a hi ha => ?_) (fun a ha Q kn kx => ?_)
    · exact ⟨this.1, this.2.1, by have := this.2.2; omega⟩
    · have hx := hk (0 + r * 4 + i * 1) (by omega)
      have hw := W_facts hx
      refine ⟨⟨by omega, by omega⟩, fun Q kn kx => ?_⟩
      have hi' : (i : Int) < 4 := by omega
      simp only [spec_l2Sum_s6, inR_cast, hi, hi', hr, Int.toNat_natCast, decide_true, cond_true]
      by_cases hp : 0 < iget b (0 + r * 4 + i * 1)
      · simp only [hp, decide_true, cond_true, l2Worth_eq hx hp, Option.isSome_some, Option.getD_some]
        rw [wrap_small (n := a + W (iget b (0 + r * 4 + i * 1))) (by omega) (by omega)]
      · have h0 : iget b (0 + r * 4 + i * 1) = 0 := by simp only [inB, Bool.and_eq_true, decide_eq_true_eq] at hx; omega
        simp only [h0, W, if_true, Int.add_zero]
        simp
    · simp [spec_l2Sum_s6]
  have h2 := loop_fold (step := spec_l2Sum_s3 F b) (fun i a => (a, i)) 4 (fun r a => fld (fun c a => a + W (iget b (0 + r * 4 + c * 1))) 0 4 a) (fun a => a) (fun i a => 0 ≤ a ∧ a ≤ i * 524288) (F := F) (by omega) (by omega) (a := 0) ⟨by omega, by omega⟩
    (fun i a hi ha => by
      obtain ⟨g1, g2, g3⟩ := h1 i a hi ha.1 ha.2
      refine ⟨⟨g2, g3⟩, fun Q kn kx => ?_⟩
      have hi' : (i : Int) < 4 := by omega
      simp only [spec_l2Sum_s3, hi', g1, decide_true, cond_true, Option.isSome_some, Option.getD_some]) (fun a ha Q kn kx => by simp [spec_l2Sum_s3])
  have e : spec_l2Sum_l3 F b 0 0 = some (sumB b) := by
    refine h2.1.trans ?_
    obtain ⟨x0, x1, x2, x3, x4, x5, x6, x7, x8, x9, x10, x11, x12, x13, x14, x15, rfl⟩ := list16 hb
    rfl
  simp only [spec_l2Sum_p, spec_l2Sum_c, e, Option.isSome_some, Option.getD_some, cond_true]

theorem sumB_facts {b : List Int} (ok : okB b = true) : 0 ≤ sumB b ∧ sumB b ≤ b.length * 131072 ∧ sumB b % 2 = 0 := by
  have : ∀ (l : List Int) (a : Int), (∀ x ∈ l, inB x 0 17 = true) → 0 ≤ a → a % 2 = 0 → 0 ≤ (l.map W).foldl (· + ·) a ∧ (l.map W).foldl (· + ·) a ≤ a + l.length * 131072 ∧ (l.map W).foldl (· + ·) a % 2 = 0 := by
    intro l
    induction l with
    | nil => intro a _ h0 h2; exact ⟨h0, by simp, h2⟩
    | cons x r ih =>
      intro a h h0 h2
      have hw := W_facts (h x (by simp))
      obtain ⟨g1, g2, g3⟩ := ih (a + W x) (fun y hy => h y (by simp [hy])) (by omega) (by omega)
      refine ⟨g1, ?_, g3⟩
      simp only [List.map_cons, List.foldl_cons, List.length_cons]
      omega
  simp only [okB, List.all_eq_true] at ok
  have := this b 0 ok (by omega) (by omega)
  refine ⟨this.1, ?_, this.2.2⟩
  have := this.2.1
  unfold sumB
  omega
end Go.Lv.P
