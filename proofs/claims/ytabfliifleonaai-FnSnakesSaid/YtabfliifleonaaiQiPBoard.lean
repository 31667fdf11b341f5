/-
Boards that are valid, told plainly.
-/
import Derived.Test.YtabfliifleonaaiQiP1
import Derived.Test.YtabfliifleonaaiQiP2
import Derived.Test.YtabfliifleonaaiLv3
namespace Go.Lv.P
open Go Go.Lv
set_option linter.unusedVariables false
set_option linter.unusedSimpArgs false

theorem l1In_eq (x a b : Int) : spec_l1In_v x a b = inB x a b := by unfold spec_l1In_v inB; cases decide (a ≤ x) <;> rfl
theorem in_eq (x a b : Int) : impl_in_v x a b = inB x a b := by unfold impl_in_v inB; cases decide (a ≤ x) <;> rfl

theorem any_range (n : Nat) (p q : Nat → Bool) (h : ∀ i, i < n → p i = q i) : (List.range n).any p = (List.range n).any q := by
  rw [Bool.eq_iff_iff]
  simp only [List.any_eq_true, List.mem_range]
  exact ⟨fun ⟨i, hi, e⟩ => ⟨i, hi, by rw [← h i hi]; exact e⟩, fun ⟨i, hi, e⟩ => ⟨i, hi, by rw [h i hi]; exact e⟩⟩
theorem any_iget (xs : List Int) (q : Int → Bool) : (List.range xs.length).any (fun i => q (iget xs i)) = xs.any q := by
  rw [Bool.eq_iff_iff]
  simp only [List.any_eq_true, List.mem_range, igetL]
  constructor
  · rintro ⟨i, hi, e⟩
    rw [List.getElem?_eq_getElem hi] at e
    exact ⟨_, List.getElem_mem hi, e⟩
  · rintro ⟨x, hx, e⟩
    obtain ⟨i, hi, rfl⟩ := List.getElem_of_mem hx
    exact ⟨i, hi, by rw [List.getElem?_eq_getElem hi]; exact e⟩
theorem any_rget (xs : List (List Int)) (q : List Int → Bool) : (List.range xs.length).any (fun i => q (rget xs i)) = xs.any q := by
  rw [Bool.eq_iff_iff]
  simp only [List.any_eq_true, List.mem_range, rgetL]
  constructor
  · rintro ⟨i, hi, e⟩
    rw [List.getElem?_eq_getElem hi] at e
    exact ⟨_, List.getElem_mem hi, e⟩
  · rintro ⟨x, hx, e⟩
    obtain ⟨i, hi, rfl⟩ := List.getElem_of_mem hx
    exact ⟨i, hi, by rw [List.getElem?_eq_getElem hi]; exact e⟩

/-- whether there is one, by its place -/
theorem fnd_place (p : Nat → Bool) (n : Nat) : decide ((0 : Int) ≤ bif (fnd p (fun i => (true, (i : Int))) (false, default) 0 n).1 then (fnd p (fun i => (true, (i : Int))) (false, default) 0 n).2 else -1) = (List.range n).any p := by
  rw [← fnd_any]
  have : ∀ m i, decide ((0 : Int) ≤ bif (fnd p (fun i => (true, (i : Int))) (false, default) i m).1 then (fnd p (fun i => (true, (i : Int))) (false, default) i m).2 else -1) = fnd p (fun _ => true) false i m := by
    intro m
    induction m with
    | zero => intro i; rfl
    | succ m ih =>
      intro i
      cases h : p i with
      | true => simp only [fnd, h, cond_true]; simp
      | false => simp only [fnd, h, cond_false]; exact ih (i + 1)
  exact this n 0

theorem contains_IsRow (F : Nat) (s : List Int) (hs : s.length ≤ 1000) (hF : 1000 < F) : slices_ContainsFunc_intint_impl_IsRow_f1_p F s = some (s.any fun x => !inB x 0 17) := by
  have h : slices_IndexFunc_intint_impl_IsRow_f1_l2 F s s.length 0 = some (fnd (fun i => !inB (iget s i) 0 17) (fun i => (true, (i : Int))) (false, default) 0 s.length) := by
    refine loop_find (fun i => i) s.length _ _ _ (by omega) (by omega) (fun i hi Q kn kx => ?_) fun Q kn kx => ?_
    · simp only [slices_IndexFunc_intint_impl_IsRow_f1_s2, inR_cast, hi, impl_IsRow_f1_v, in_eq, Int.toNat_natCast, decide_true, cond_true, Int.ofNat_lt]
    · simp [slices_IndexFunc_intint_impl_IsRow_f1_s2]
  simp only [slices_ContainsFunc_intint_impl_IsRow_f1_p, slices_ContainsFunc_intint_impl_IsRow_f1_c, slices_IndexFunc_intint_impl_IsRow_f1_p, slices_IndexFunc_intint_impl_IsRow_f1_c, h, Option.isSome_some, Option.getD_some, cond_true]
  rw [← any_iget, ← fnd_place]
  cases (fnd (fun i => !inB (iget s i) 0 17) (fun i => (true, (i : Int))) (false, default) 0 s.length).1 <;> rfl

theorem sub4 {s : List Int} (h : s.length = 4) : sub s 0 4 = s := by
  obtain ⟨a, b, c, d, rfl⟩ := list4 h; rfl
theorem any_not_all {α : Type} (l : List α) (q : α → Bool) : (!l.any fun x => !q x) = l.all q := by
  induction l with
  | nil => rfl
  | cons a r ih => simp [← ih]

theorem impl_IsRow_eq (F : Nat) (s : List Int) (hs : s.length = 4) (hF : 1000 < F) : impl_IsRow_p F s = some (s.all fun x => inB x 0 17) := by
  simp only [impl_IsRow_p, impl_IsRow_c, sub4 hs, contains_IsRow F s (by omega) hF, Option.isSome_some, Option.getD_some, cond_true, any_not_all]

theorem impl_IsBoard_f1_eq (F : Nat) (s : List Int) (hs : s.length = 4) (hF : 1000 < F) : impl_IsBoard_f1_p F s = some (!s.all fun x => inB x 0 17) := by
  simp only [impl_IsBoard_f1_p, impl_IsBoard_f1_c, impl_IsRow_eq F s hs hF, Option.isSome_some, Option.getD_some, cond_true]

theorem rget_len4 {s : List (List Int)} {m i : Nat} (h : ∀ x ∈ s, x.length = m) (hi : i < s.length) : (rget s i).length = m := by
  rw [rgetL, List.getElem?_eq_getElem hi]
  exact h _ (List.getElem_mem hi)

theorem contains_IsBoard (F : Nat) (s : List (List Int)) (h4 : ∀ x ∈ s, x.length = 4) (hs : s.length ≤ 1000) (hF : 1000 < F) : slices_ContainsFunc_4int4int_impl_IsBoard_f1_p F s = some (s.any fun r => !r.all fun x => inB x 0 17) := by
  have h : slices_IndexFunc_4int4int_impl_IsBoard_f1_l2 F s s.length 0 = some (fnd (fun i => !(rget s i).all fun x => inB x 0 17) (fun i => (true, (i : Int))) (false, default) 0 s.length) := by
    refine loop_find (fun i => i) s.length _ _ _ (by omega) (by omega) (fun i hi Q kn kx => ?_) fun Q kn kx => ?_
    · simp only [slices_IndexFunc_4int4int_impl_IsBoard_f1_s2, inR_cast, hi, Int.toNat_natCast, decide_true, cond_true, Int.ofNat_lt, impl_IsBoard_f1_eq F _ (rget_len4 h4 hi) hF, Option.isSome_some, Option.getD_some]
    · simp [slices_IndexFunc_4int4int_impl_IsBoard_f1_s2]
  simp only [slices_ContainsFunc_4int4int_impl_IsBoard_f1_p, slices_ContainsFunc_4int4int_impl_IsBoard_f1_c, slices_IndexFunc_4int4int_impl_IsBoard_f1_p, slices_IndexFunc_4int4int_impl_IsBoard_f1_c, h, Option.isSome_some, Option.getD_some, cond_true]
  rw [← any_rget s fun r => !r.all fun x => inB x 0 17, ← fnd_place]
  cases (fnd (fun i => !(rget s i).all fun x => inB x 0 17) (fun i => (true, (i : Int))) (false, default) 0 s.length).1 <;> rfl

theorem impl_IsBoard_eq (F : Nat) (b : List Int) (hb : b.length = 16) (hF : 1000 < F) : impl_IsBoard_p F b = some (okB b) := by
  obtain ⟨x0, x1, x2, x3, x4, x5, x6, x7, x8, x9, x10, x11, x12, x13, x14, x15, rfl⟩ := list16 hb
  simp only [impl_IsBoard_p, impl_IsBoard_c]
  rw [contains_IsBoard F _ (by simp [sub]) (by simp) hF]
  simp only [Option.isSome_some, Option.getD_some, cond_true, any_not_all]
  congr 1
  simp [okB, sub, Bool.and_assoc]

theorem spec_l2Board_eq (F : Nat) (b : List Int) (hb : b.length = 16) (hF : 1000 < F) : spec_l2Board_p F b = some (okB b) := by
  have h1 : ∀ r : Nat, r < 4 → spec_l2Board_l5 F r b 0 = some ((List.range 4).any fun c => !inB (iget b (0 + r * 4 + c * 1)) 0 17) := fun r hr => by
    rw [← fnd_any]
    refine loop_find (fun i => i) 4 _ _ _ (by omega) (by omega) (fun i hi Q kn kx => ?_) fun Q kn kx => ?_
    · have hi' : (i : Int) < 4 := by omega
      simp only [spec_l2Board_s5, inR_cast, hi, hi', hr, Int.toNat_natCast, decide_true, cond_true, l1In_eq]
    · simp [spec_l2Board_s5]
  have h2 : spec_l2Board_l2 F b 0 = some ((List.range 4).any fun r => (List.range 4).any fun c => !inB (iget b (0 + r * 4 + c * 1)) 0 17) := by
    rw [← fnd_any]
    refine loop_find (fun i => i) 4 _ _ _ (by omega) (by omega) (fun i hi Q kn kx => ?_) fun Q kn kx => ?_
    · have hi' : (i : Int) < 4 := by omega
      simp only [spec_l2Board_s2, hi', h1 i hi, decide_true, cond_true, Option.isSome_some, Option.getD_some]
    · simp [spec_l2Board_s2]
  simp only [spec_l2Board_p, spec_l2Board_c, h2, Option.isSome_some, Option.getD_some, cond_true]
  obtain ⟨x0, x1, x2, x3, x4, x5, x6, x7, x8, x9, x10, x11, x12, x13, x14, x15, rfl⟩ := list16 hb
  have e : okB [x0, x1, x2, x3, x4, x5, x6, x7, x8, x9, x10, x11, x12, x13, x14, x15] = !((List.range 4).any fun r => (List.range 4).any fun c => !inB (iget [x0, x1, x2, x3, x4, x5, x6, x7, x8, x9, x10, x11, x12, x13, x14, x15] (0 + r * 4 + c * 1)) 0 17) := by
    simp [okB, List.range_succ, iget, Bool.and_assoc]
  rw [e]
  cases ((List.range 4).any fun r => (List.range 4).any fun c => !inB (iget [x0, x1, x2, x3, x4, x5, x6, x7, x8, x9, x10, x11, x12, x13, x14, x15] (0 + r * 4 + c * 1)) 0 17) <;> rfl
end Go.Lv.P
