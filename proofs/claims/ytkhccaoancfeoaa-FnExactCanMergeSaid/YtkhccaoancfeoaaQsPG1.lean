/-
Plain facts of the pure functions, part 1; without conditions.
-/
import Derived.Test.YtkhccaoancfeoaaQsP0
import Derived.Test.YtkhccaoancfeoaaQsP2
import Derived.Test.YtkhccaoancfeoaaLv3
import Derived.Test.YtkhccaoancfeoaaQsP3
import Derived.Test.YtkhccaoancfeoaaNvOrd
import Derived.Test.YtkhccaoancfeoaaQsP5
import Derived.Test.YtkhccaoancfeoaaQsP6
set_option linter.unusedVariables false
set_option linter.unusedSimpArgs false
set_option linter.unusedSectionVars false
namespace Go.Lv.P
open Go Go.Lv
theorem l1In_eq (x a b : Int) : spec_l1In_v x a b = inB x a b := by unfold spec_l1In_v inB; cases decide (a ≤ x) <;> rfl
theorem in_eq (x a b : Int) : impl_in_v x a b = inB x a b := by unfold impl_in_v inB; cases decide (a ≤ x) <;> rfl
theorem any_iget (xs : List Int) (q : Int → Bool) : (List.range xs.length).any (fun i => q (iget xs i)) = xs.any q := by
  rw [Bool.eq_iff_iff]
  simp only [List.any_eq_true, List.mem_range, igetL]
  constructor
  · rintro ⟨i, hi, e⟩
    rw [List.getElem?_eq_getElem hi] at e
    exact ⟨_, List.getElem_mem hi, e⟩
  · rintro ⟨x, hx, e⟩
    obtain ⟨i, hi, rfl⟩ := List.getElem_of_mem hx
    exact ⟨i, hi, by rw [List.getElem?_eq_getElem hi]; exact e⟩
theorem any_rget (xs : List (List Int)) (q : List Int → Bool) : (List.range xs.length).any (fun i => q (rget xs i)) = xs.any q := by
  rw [Bool.eq_iff_iff]
  simp only [List.any_eq_true, List.mem_range, rgetL]
  constructor
  · rintro ⟨i, hi, e⟩
    rw [List.getElem?_eq_getElem hi] at e
    exact ⟨_, List.getElem_mem hi, e⟩
  · rintro ⟨x, hx, e⟩
    obtain ⟨i, hi, rfl⟩ := List.getElem_of_mem hx
    exact ⟨i, hi, by rw [List.getElem?_eq_getElem hi]; exact e⟩
/-- whether there is one, by its place -/
theorem fnd_place (p : Nat → Bool) (n : Nat) : decide ((0 : Int) ≤ bif (fnd p (fun i => (true, (i : Int))) (false, default) 0 n).1 then (fnd p (fun i => (true, (i : Int))) (false, default) 0 n).2 else -1) = (List.range n).any p := by
  rw [← fnd_any]
  have : ∀ m i, decide ((0 : Int) ≤ bif (fnd p (fun i => (true, (i : Int))) (false, default) i m).1 then (fnd p (fun i => (true, (i : Int))) (false, default) i m).2 else -1) = fnd p (fun _ => true) false i m := by
    intro m
    induction m with
    | zero => intro i; rfl
    | succ m ih =>
      intro i
      cases h : p i with
      | true => simp only [fnd, h, cond_true]; simp
      | false => simp only [fnd, h, cond_false]; exact ih (i + 1)
  exact this n 0
theorem contains_IsRow (F : Nat) (s : List Int) (hs : s.length ≤ 1000) (hF : 1000 < F) : slices_ContainsFunc_intint_impl_IsRow_f1_p F s = some (s.any fun x => !inB x 0 17) := by
  have h : slices_IndexFunc_intint_impl_IsRow_f1_l2 F s s.length 0 = some (fnd (fun i => !inB (iget s i) 0 17) (fun i => (true, (i : Int))) (false, default) 0 s.length) := by
    refine loop_find (fun i => i) s.length _ _ _ (by omega) (by omega) (fun i hi Q kn kx => ?_) fun Q kn kx => ?_
    · simp only [slices_IndexFunc_intint_impl_IsRow_f1_s2, inR_cast, hi, impl_IsRow_f1_v, in_eq, Int.toNat_natCast, decide_true, cond_true, Int.ofNat_lt]
    · simp [slices_IndexFunc_intint_impl_IsRow_f1_s2]
  simp only [slices_ContainsFunc_intint_impl_IsRow_f1_p, slices_ContainsFunc_intint_impl_IsRow_f1_c, slices_IndexFunc_intint_impl_IsRow_f1_p, slices_IndexFunc_intint_impl_IsRow_f1_c, h, Option.isSome_some, Option.getD_some, cond_true]
  rw [← any_iget, ← fnd_place]
  cases (fnd (fun i => !inB (iget s i) 0 17) (fun i => (true, (i : Int))) (false, default) 0 s.length).1 <;> rfl
theorem sub4 {s : List Int} (h : s.length = 4) : sub s 0 4 = s := by
  obtain ⟨a, b, c, d, rfl⟩ := list4 h; rfl
theorem any_not_all {α : Type} (l : List α) (q : α → Bool) : (!l.any fun x => !q x) = l.all q := by
  induction l with
  | nil => rfl
  | cons a r ih => simp [← ih]
theorem impl_IsRow_eq (F : Nat) (s : List Int) (hs : s.length = 4) (hF : 1000 < F) : impl_IsRow_p F s = some (s.all fun x => inB x 0 17) := by
  simp only [impl_IsRow_p, impl_IsRow_c, sub4 hs, contains_IsRow F s (by omega) hF, Option.isSome_some, Option.getD_some, cond_true, any_not_all]
theorem impl_IsBoard_f1_eq (F : Nat) (s : List Int) (hs : s.length = 4) (hF : 1000 < F) : impl_IsBoard_f1_p F s = some (!s.all fun x => inB x 0 17) := by
  simp only [impl_IsBoard_f1_p, impl_IsBoard_f1_c, impl_IsRow_eq F s hs hF, Option.isSome_some, Option.getD_some, cond_true]
theorem rget_len4 {s : List (List Int)} {m i : Nat} (h : ∀ x ∈ s, x.length = m) (hi : i < s.length) : (rget s i).length = m := by
  rw [rgetL, List.getElem?_eq_getElem hi]
  exact h _ (List.getElem_mem hi)
theorem contains_IsBoard (F : Nat) (s : List (List Int)) (h4 : ∀ x ∈ s, x.length = 4) (hs : s.length ≤ 1000) (hF : 1000 < F) : slices_ContainsFunc_4int4int_impl_IsBoard_f1_p F s = some (s.any fun r => !r.all fun x => inB x 0 17) := by
  have h : slices_IndexFunc_4int4int_impl_IsBoard_f1_l2 F s s.length 0 = some (fnd (fun i => !(rget s i).all fun x => inB x 0 17) (fun i => (true, (i : Int))) (false, default) 0 s.length) := by
    refine loop_find (fun i => i) s.length _ _ _ (by omega) (by omega) (fun i hi Q kn kx => ?_) fun Q kn kx => ?_
    · simp only [slices_IndexFunc_4int4int_impl_IsBoard_f1_s2, inR_cast, hi, Int.toNat_natCast, decide_true, cond_true, Int.ofNat_lt, impl_IsBoard_f1_eq F _ (rget_len4 h4 hi) hF, Option.isSome_some, Option.getD_some]
    · simp [slices_IndexFunc_4int4int_impl_IsBoard_f1_s2]
  simp only [slices_ContainsFunc_4int4int_impl_IsBoard_f1_p, slices_ContainsFunc_4int4int_impl_IsBoard_f1_c, slices_IndexFunc_4int4int_impl_IsBoard_f1_p, slices_IndexFunc_4int4int_impl_IsBoard_f1_c, h, Option.isSome_some, Option.getD_some, cond_true]
  rw [← any_rget s fun r => !r.all fun x => inB x 0 17, ← fnd_place]
  cases (fnd (fun i => !(rget s i).all fun x => inB x 0 17) (fun i => (true, (i : Int))) (false, default) 0 s.length).1 <;> rfl
theorem impl_IsBoard_eq (F : Nat) (b : List Int) (hb : b.length = 16) (hF : 1000 < F) : impl_IsBoard_p F b = some (okB b) := by
  obtain ⟨x0, x1, x2, x3, x4, x5, x6, x7, x8, x9, x10, x11, x12, x13, x14, x15, rfl⟩ := list16 hb
  simp only [impl_IsBoard_p, impl_IsBoard_c]
  rw [contains_IsBoard F _ (by simp [sub]) (by simp) hF]
  simp only [Option.isSome_some, Option.getD_some, cond_true, any_not_all]
  congr 1
  simp [okB, sub, Bool.and_assoc]
theorem spec_l2Board_eq (F : Nat) (b : List Int) (hb : b.length = 16) (hF : 1000 < F) : spec_l2Board_p F b = some (okB b) := by
  have h1 : ∀ r : Nat, r < 4 → spec_l2Board_l5 F r b 0 = some ((List.range 4).any fun c => !inB (iget b (0 + r * 4 + c * 1)) 0 17) := fun r hr => by
    rw [← fnd_any]
    refine loop_find (fun i => i) 4 _ _ _ (by omega) (by omega) (fun i hi Q kn kx => ?_) fun Q kn kx => ?_
    · have hi' : (i : Int) < 4 := by omega
      simp only [spec_l2Board_s5, inR_cast, hi, hi', hr, Int.toNat_natCast, decide_true, cond_true, l1In_eq]
    · simp [spec_l2Board_s5]
  have h2 : spec_l2Board_l2 F b 0 = some ((List.range 4).any fun r => (List.range 4).any fun c => !inB (iget b (0 + r * 4 + c * 1)) 0 17) := by
    rw [← fnd_any]
    refine loop_find (fun i => i) 4 _ _ _ (by omega) (by omega) (fun i hi Q kn kx => ?_) fun Q kn kx => ?_
    · have hi' : (i : Int) < 4 := by omega
      simp only [spec_l2Board_s2, hi', h1 i hi, decide_true, cond_true, Option.isSome_some, Option.getD_some]
    · simp [spec_l2Board_s2]
  simp only [spec_l2Board_p, spec_l2Board_c, h2, Option.isSome_some, Option.getD_some, cond_true]
  obtain ⟨x0, x1, x2, x3, x4, x5, x6, x7, x8, x9, x10, x11, x12, x13, x14, x15, rfl⟩ := list16 hb
  have e : okB [x0, x1, x2, x3, x4, x5, x6, x7, x8, x9, x10, x11, x12, x13, x14, x15] = !((List.range 4).any fun r => (List.range 4).any fun c => !inB (iget [x0, x1, x2, x3, x4, x5, x6, x7, x8, x9, x10, x11, x12, x13, x14, x15] (0 + r * 4 + c * 1)) 0 17) := by
    simp [okB, List.range_succ, iget, Bool.and_assoc]
  rw [e]
  cases ((List.range 4).any fun r => (List.range 4).any fun c => !inB (iget [x0, x1, x2, x3, x4, x5, x6, x7, x8, x9, x10, x11, x12, x13, x14, x15] (0 + r * 4 + c * 1)) 0 17) <;> rfl
end Go.Lv.P

namespace Go.Lv.P
open Go Go.Lv
theorem cmp_int (x y : Int) : cmp_Compare_int_v x y = bif decide (x < y) then -1 else bif decide (y < x) then 1 else 0 := by
  have e : ∀ x : Int, cmp_isNaN_int_v x = false := fun x => by unfold cmp_isNaN_int_v; rw [beq_self_eq_true]; rfl
  unfold cmp_Compare_int_v
  rw [e x, e y]; rfl
theorem cmp_zero (x y : Int) : (cmp_Compare_int_v x y == 0) = (x == y) := by
  rw [cmp_int]
  by_cases h1 : x < y
  · rw [decide_eq_true h1]
    have : (x == y) = false := by rw [beq_eq_false_iff_ne]; omega
    rw [this]; rfl
  · rw [decide_eq_false h1]
    by_cases h2 : y < x
    · rw [decide_eq_true h2]
      have : (x == y) = false := by rw [beq_eq_false_iff_ne]; omega
      rw [this]; rfl
    · rw [decide_eq_false h2]
      have : x = y := by omega
      subst this; simp
theorem cmp_fnd : ∀ (n i : Nat) (a b : List Int), i + n = a.length → a.length = b.length → (bif (fnd (fun i => !(iget a i == iget b i)) (fun i => (true, cmp_Compare_int_v (iget a i) (iget b i))) (false, default) i n).1 then (fnd (fun i => !(iget a i == iget b i)) (fun i => (true, cmp_Compare_int_v (iget a i) (iget b i))) (false, default) i n).2 else 0) = cmpL (a.drop i) (b.drop i)
  | 0, i, a, b, h, hl => by rw [List.drop_eq_nil_of_le (by omega), List.drop_eq_nil_of_le (by omega)]; rfl
  | n + 1, i, a, b, h, hl => by
    have hia : i < a.length := by omega
    have hib : i < b.length := by omega
    have ga : iget a i = a[i] := by rw [igetL, List.getElem?_eq_getElem hia]; rfl
    have gb : iget b i = b[i] := by rw [igetL, List.getElem?_eq_getElem hib]; rfl
    have ih := cmp_fnd n (i + 1) a b (by omega) hl
    rw [List.drop_eq_getElem_cons hia, List.drop_eq_getElem_cons hib]
    simp only [fnd, ga, gb]
    revert ih
    generalize a.drop (i + 1) = ra
    generalize b.drop (i + 1) = rb
    generalize a[i] = x
    generalize b[i] = y
    intro ih
    cases hx : x == y with
    | true =>
      have e := eq_of_beq hx
      subst e
      simp only [Bool.not_true, cond_false]
      rw [ih]
      unfold cmpL
      simp only [ltL, hx, cond_true]
      have : (x :: ra == x :: rb) = (ra == rb) := by simp
      rw [this]
    | false =>
      have hne : x ≠ y := by rw [beq_eq_false_iff_ne] at hx; exact hx
      simp only [Bool.not_false, cond_true]
      have h2 : (x :: ra == y :: rb) = false := by
        rw [beq_eq_false_iff_ne]; intro e; cases e; exact hne rfl
      unfold cmpL
      simp only [ltL, hx, cond_false, h2, cmp_int]
      by_cases h1 : x < y
      · rw [decide_eq_true h1]; rfl
      · rw [decide_eq_false h1]
        have h3 : y < x := by omega
        rw [decide_eq_true h3]; rfl
theorem compare_eq (F : Nat) (hF : 1000 < F) {a b : List Int} (hl : a.length = b.length) (h : a.length ≤ 1000) : slices_Compare_intint_p F a b = some (cmpL a b) := by
  have h1 : slices_Compare_intint_l2 F a b a ((a.length : Nat) : Int) 0 = some (fnd (fun i => !(iget a i == iget b i)) (fun i => (true, cmp_Compare_int_v (iget a i) (iget b i))) (false, default) 0 a.length) := by
    refine loop_find (step := slices_Compare_intint_s2 F a b a ((a.length : Nat) : Int)) (fun i => i) a.length _ _ _ (by omega) (by omega) (fun i hi Q kn kx => ?_) fun Q kn kx => ?_
    · have hb : i < b.length := by omega
      have hn : ¬ ((b.length : Nat) : Int) ≤ (i : Int) := by omega
      simp only [slices_Compare_intint_s2, Int.ofNat_lt, hi, hb, hn, decide_true, decide_false, cond_true, cond_false, inR_cast, Int.toNat_natCast, cmp_zero]
    · simp [slices_Compare_intint_s2]
  have h2 := cmp_fnd a.length 0 a b (by omega) hl
  rw [List.drop_zero, List.drop_zero] at h2
  have hd : decide (((a.length : Nat) : Int) < ((b.length : Nat) : Int)) = false := decide_eq_false (by omega)
  simp only [slices_Compare_intint_p, slices_Compare_intint_c, h1, hd, Option.isSome_some, Option.getD_some, cond_true, cond_false]
  rw [← h2]
  cases (fnd (fun i => !(iget a i == iget b i)) (fun i => (true, cmp_Compare_int_v (iget a i) (iget b i))) (false, default) 0 a.length).1 <;> rfl
end Go.Lv.P

namespace Go.Lv.P
open Go Go.Lv
abbrev LL := List (List Int)
theorem rset_take (s : LL) (i : Nat) (x : List Int) (h : i < s.length) : (rset s i x).take (i + 1) = s.take i ++ [x] := by
  rw [rsetL, List.take_add_one]
  simp [List.take_set_of_le, h]
theorem delete_loop {step : (Q : Type) → Int × Int × LL → (Int × Int × LL → Option Q) → (Int × LL → Option Q) → Option Q} (q : List Int → Bool) (Pr : List Int → Prop) (n : Nat) (hn : n ≤ 1000000)
    (hs : ∀ (i j : Nat) (s : LL), i ≤ j → j < n → s.length = n → Pr (rget s (0 + j)) → ∀ (Q : Type) kn kx, step Q (i, j, s) kn kx = bif q (rget s (0 + j)) then kn (i, IntKind.wrap .i64 ((j : Int) + 1), s) else kn (IntKind.wrap .i64 ((i : Int) + 1), IntKind.wrap .i64 ((j : Int) + 1), rset s (0 + i) (rget s (0 + j))))
    (he : ∀ (i : Nat) (s : LL) (Q : Type) kn kx, step Q (i, n, s) kn kx = kx (i, s)) :
    ∀ (m i j F : Nat) (s : LL), j + m = n → m < F → i ≤ j → s.length = n → (∀ x ∈ s.drop j, Pr x) →
      ∃ s', loopC step F ((i : Int), (j : Int), s) some = some (((i + ((s.drop j).filter fun x => !q x).length : Nat) : Int), s') ∧ s'.length = n ∧ s'.take (i + ((s.drop j).filter fun x => !q x).length) = s.take i ++ (s.drop j).filter fun x => !q x
  | 0, i, j, F, s, hj, hF, hi, hl, hp => by
    obtain ⟨G, rfl⟩ : ∃ G, F = G + 1 := ⟨F - 1, by omega⟩
    have hjn : j = n := by omega
    have hd : s.drop j = [] := List.drop_eq_nil_of_le (by omega)
    refine ⟨s, ?_, hl, ?_⟩
    · rw [hd, hjn]
      simp only [loopC, he, List.filter_nil, List.length_nil, Nat.add_zero]
    · rw [hd]; simp
  | m + 1, i, j, F, s, hj, hF, hi, hl, hp => by
    obtain ⟨G, rfl⟩ : ∃ G, F = G + 1 := ⟨F - 1, by omega⟩
    have hjl : j < s.length := by omega
    have hd : s.drop j = s[j] :: s.drop (j + 1) := List.drop_eq_getElem_cons hjl
    have hg : rget s (0 + j) = s[j] := by rw [Nat.zero_add, rgetL, List.getElem?_eq_getElem hjl]; rfl
    have hpj : Pr (rget s (0 + j)) := by rw [hg]; exact hp _ (hd ▸ List.mem_cons_self)
    simp only [loopC]
    rw [hs i j s hi (by omega) hl hpj, wrap_succ (n := n) (by omega) (by omega), wrap_succ (n := n) (by omega) (by omega)]
    cases hq : q (rget s (0 + j)) with
    | true =>
      simp only [cond_true]
      obtain ⟨s', h1, h2, h3⟩ := delete_loop q Pr n hn hs he m i (j + 1) G s (by omega) (by omega) (by omega) hl (fun x hx => hp x (hd ▸ List.mem_cons_of_mem _ hx))
      have e : ((s.drop j).filter fun x => !q x) = (s.drop (j + 1)).filter fun x => !q x := by
        rw [hd, List.filter_cons, ← hg, hq]; rfl
      rw [e]
      exact ⟨s', h1, h2, h3⟩
    | false =>
      simp only [cond_false]
      have hdr : (rset s (0 + i) (rget s (0 + j))).drop (j + 1) = s.drop (j + 1) := by
        rw [rsetL, List.drop_set_of_lt (by omega)]
      obtain ⟨s', h1, h2, h3⟩ := delete_loop q Pr n hn hs he m (i + 1) (j + 1) G (rset s (0 + i) (rget s (0 + j))) (by omega) (by omega) (by omega) (by rw [rsetL]; simpa using hl) (fun x hx => hp x (hd ▸ List.mem_cons_of_mem _ (hdr ▸ hx)))
      rw [hdr] at h1 h3
      have e : ((s.drop j).filter fun x => !q x) = s[j] :: (s.drop (j + 1)).filter fun x => !q x := by
        rw [hd, List.filter_cons, ← hg, hq]; rfl
      rw [e, List.length_cons]
      refine ⟨s', ?_, h2, ?_⟩
      · rw [h1]; congr 3; omega
      · rw [show i + ((List.filter (fun x => !q x) (s.drop (j + 1))).length + 1) = i + 1 + (List.filter (fun x => !q x) (s.drop (j + 1))).length by omega, h3, Nat.zero_add, rset_take _ _ _ (by omega), hg]
        simp
/-- the first place at which one is to go: all ahead of it stay -/
theorem fnd_split (s : LL) (q : List Int → Bool) : ∀ (m i : Nat), i + m = s.length → (s.take i).all (fun x => !q x) = true →
    (fnd (fun i => q (rget s i)) (fun i => (true, (i : Int))) (false, default) i m = (false, default) ∧ s.all (fun x => !q x) = true) ∨
    ∃ j, j < s.length ∧ fnd (fun i => q (rget s i)) (fun i => (true, (i : Int))) (false, default) i m = (true, (j : Int)) ∧ q (rget s j) = true ∧ (s.take j).all (fun x => !q x) = true
  | 0, i, hi, ha => by
    refine .inl ⟨rfl, ?_⟩
    rwa [List.take_of_length_le (by omega)] at ha
  | m + 1, i, hi, ha => by
    have hil : i < s.length := by omega
    have hg : rget s i = s[i] := by rw [rgetL, List.getElem?_eq_getElem hil]; rfl
    cases hq : q (rget s i) with
    | true => exact .inr ⟨i, hil, by simp only [fnd, hq, cond_true], hq, ha⟩
    | false =>
      have := fnd_split s q m (i + 1) (by omega) (by
        rw [List.take_add_one, List.getElem?_eq_getElem hil, List.all_append, ha]
        rw [hg] at hq
        simp [hq])
      simp only [fnd, hq, cond_false]
      exact this
theorem filter_all {s : LL} {q : List Int → Bool} (h : s.all (fun x => !q x) = true) : (s.filter fun x => !q x) = s := by
  rw [List.filter_eq_self]
  simpa using h
/-- what is known behind a deletion: the slice's length, its memory -/
def Deleted (s : LL) (q : List Int → Bool) (r : Nat × LL) : Prop :=
  r.1 = (s.filter fun x => !q x).length ∧ r.2.take r.1 = s.filter (fun x => !q x) ∧ r.2.length = s.length
theorem splice_take (s z : LL) (k n : Nat) (hk : k ≤ s.length) (hz : z.length = n) : (splice s (0 + k) z n).take k = s.take k := by
  unfold splice
  rw [Nat.zero_add, List.append_assoc, List.take_append_of_le_length (by simp; omega), List.take_take, Nat.min_self]
theorem splice_len' (s z : LL) (k : Nat) (hk : k ≤ s.length) (hz : z.length = s.length - k) : (splice s (0 + k) z (s.length - k)).length = s.length := by
  unfold splice
  simp [hz]
  omega
theorem Deleted.get {s : LL} {q : List Int → Bool} {r : Nat × LL} (h : Deleted s q r) {i : Nat} (hi : i < r.1) : rget r.2 (0 + i) = rget (s.filter fun x => !q x) i := by
  rw [Nat.zero_add, rgetL, rgetL, ← h.2.1, List.getElem?_take, if_pos hi]
end Go.Lv.P

namespace Go.Lv.P
open Go Go.Lv
theorem isetI_take (s : List Int) (i : Nat) (x : Int) (h : i < s.length) : (iset s i x).take (i + 1) = s.take i ++ [x] := by
  rw [isetL, List.take_add_one]
  simp [List.take_set_of_le, h]
theorem delete_loopI {step : (Q : Type) → Int × Int × List Int → (Int × Int × List Int → Option Q) → (Int × List Int → Option Q) → Option Q} (q : Int → Bool) (Pr : Int → Prop) (n : Nat) (hn : n ≤ 1000000)
    (hs : ∀ (i j : Nat) (s : List Int), i ≤ j → j < n → s.length = n → Pr (iget s (0 + j)) → ∀ (Q : Type) kn kx, step Q (i, j, s) kn kx = bif q (iget s (0 + j)) then kn (i, IntKind.wrap .i64 ((j : Int) + 1), s) else kn (IntKind.wrap .i64 ((i : Int) + 1), IntKind.wrap .i64 ((j : Int) + 1), iset s (0 + i) (iget s (0 + j))))
    (he : ∀ (i : Nat) (s : List Int) (Q : Type) kn kx, step Q (i, n, s) kn kx = kx (i, s)) :
    ∀ (m i j F : Nat) (s : List Int), j + m = n → m < F → i ≤ j → s.length = n → (∀ x ∈ s.drop j, Pr x) →
      ∃ s', loopC step F ((i : Int), (j : Int), s) some = some (((i + ((s.drop j).filter fun x => !q x).length : Nat) : Int), s') ∧ s'.length = n ∧ s'.take (i + ((s.drop j).filter fun x => !q x).length) = s.take i ++ (s.drop j).filter fun x => !q x
  | 0, i, j, F, s, hj, hF, hi, hl, hp => by
    obtain ⟨G, rfl⟩ : ∃ G, F = G + 1 := ⟨F - 1, by omega⟩
    have hjn : j = n := by omega
    have hd : s.drop j = [] := List.drop_eq_nil_of_le (by omega)
    refine ⟨s, ?_, hl, ?_⟩
    · rw [hd, hjn]
      simp only [loopC, he, List.filter_nil, List.length_nil, Nat.add_zero]
    · rw [hd]; simp
  | m + 1, i, j, F, s, hj, hF, hi, hl, hp => by
    obtain ⟨G, rfl⟩ : ∃ G, F = G + 1 := ⟨F - 1, by omega⟩
    have hjl : j < s.length := by omega
    have hd : s.drop j = s[j] :: s.drop (j + 1) := List.drop_eq_getElem_cons hjl
    have hg : iget s (0 + j) = s[j] := by rw [Nat.zero_add, igetL, List.getElem?_eq_getElem hjl]; rfl
    have hpj : Pr (iget s (0 + j)) := by rw [hg]; exact hp _ (hd ▸ List.mem_cons_self)
    simp only [loopC]
    rw [hs i j s hi (by omega) hl hpj, wrap_succ (n := n) (by omega) (by omega), wrap_succ (n := n) (by omega) (by omega)]
    cases hq : q (iget s (0 + j)) with
    | true =>
      simp only [cond_true]
      obtain ⟨s', h1, h2, h3⟩ := delete_loopI q Pr n hn hs he m i (j + 1) G s (by omega) (by omega) (by omega) hl (fun x hx => hp x (hd ▸ List.mem_cons_of_mem _ hx))
      have e : ((s.drop j).filter fun x => !q x) = (s.drop (j + 1)).filter fun x => !q x := by
        rw [hd, List.filter_cons, ← hg, hq]; rfl
      rw [e]
      exact ⟨s', h1, h2, h3⟩
    | false =>
      simp only [cond_false]
      have hdr : (iset s (0 + i) (iget s (0 + j))).drop (j + 1) = s.drop (j + 1) := by
        rw [isetL, List.drop_set_of_lt (by omega)]
      obtain ⟨s', h1, h2, h3⟩ := delete_loopI q Pr n hn hs he m (i + 1) (j + 1) G (iset s (0 + i) (iget s (0 + j))) (by omega) (by omega) (by omega) (by rw [isetL]; simpa using hl) (fun x hx => hp x (hd ▸ List.mem_cons_of_mem _ (hdr ▸ hx)))
      rw [hdr] at h1 h3
      have e : ((s.drop j).filter fun x => !q x) = s[j] :: (s.drop (j + 1)).filter fun x => !q x := by
        rw [hd, List.filter_cons, ← hg, hq]; rfl
      rw [e, List.length_cons]
      refine ⟨s', ?_, h2, ?_⟩
      · rw [h1]; congr 3; omega
      · rw [show i + ((List.filter (fun x => !q x) (s.drop (j + 1))).length + 1) = i + 1 + (List.filter (fun x => !q x) (s.drop (j + 1))).length by omega, h3, Nat.zero_add, isetI_take _ _ _ (by omega), hg]
        simp
/-- the first place at which one is to go: all ahead of it stay -/
theorem fnd_splitI (s : List Int) (q : Int → Bool) : ∀ (m i : Nat), i + m = s.length → (s.take i).all (fun x => !q x) = true →
    (fnd (fun i => q (iget s i)) (fun i => (true, (i : Int))) (false, default) i m = (false, default) ∧ s.all (fun x => !q x) = true) ∨
    ∃ j, j < s.length ∧ fnd (fun i => q (iget s i)) (fun i => (true, (i : Int))) (false, default) i m = (true, (j : Int)) ∧ q (iget s j) = true ∧ (s.take j).all (fun x => !q x) = true
  | 0, i, hi, ha => by
    refine .inl ⟨rfl, ?_⟩
    rwa [List.take_of_length_le (by omega)] at ha
  | m + 1, i, hi, ha => by
    have hil : i < s.length := by omega
    have hg : iget s i = s[i] := by rw [igetL, List.getElem?_eq_getElem hil]; rfl
    cases hq : q (iget s i) with
    | true => exact .inr ⟨i, hil, by simp only [fnd, hq, cond_true], hq, ha⟩
    | false =>
      have := fnd_splitI s q m (i + 1) (by omega) (by
        rw [List.take_add_one, List.getElem?_eq_getElem hil, List.all_append, ha]
        rw [hg] at hq
        simp [hq])
      simp only [fnd, hq, cond_false]
      exact this
theorem filter_allI {s : List Int} {q : Int → Bool} (h : s.all (fun x => !q x) = true) : (s.filter fun x => !q x) = s := by
  rw [List.filter_eq_self]
  simpa using h
/-- what is known behind a deletion: the slice's length, its memory -/
def DeletedI (s : List Int) (q : Int → Bool) (r : Nat × List Int) : Prop :=
  r.1 = (s.filter fun x => !q x).length ∧ r.2.take r.1 = s.filter (fun x => !q x) ∧ r.2.length = s.length
theorem splice_takeI (s z : List Int) (k n : Nat) (hk : k ≤ s.length) (hz : z.length = n) : (splice s (0 + k) z n).take k = s.take k := by
  unfold splice
  rw [Nat.zero_add, List.append_assoc, List.take_append_of_le_length (by simp; omega), List.take_take, Nat.min_self]
theorem splice_lenI (s z : List Int) (k : Nat) (hk : k ≤ s.length) (hz : z.length = s.length - k) : (splice s (0 + k) z (s.length - k)).length = s.length := by
  unfold splice
  simp [hz]
  omega
theorem DeletedI.get {s : List Int} {q : Int → Bool} {r : Nat × List Int} (h : DeletedI s q r) {i : Nat} (hi : i < r.1) : iget r.2 (0 + i) = iget (s.filter fun x => !q x) i := by
  rw [Nat.zero_add, igetL, igetL, ← h.2.1, List.getElem?_take, if_pos hi]
end Go.Lv.P

namespace Go.Lv.P
open Go Go.Lv
theorem toBoard_eq {a : List Int} (h : a.length = 16) : laws_toBoard_v a = a := by
  obtain ⟨x0, x1, x2, x3, x4, x5, x6, x7, x8, x9, x10, x11, x12, x13, x14, x15, rfl⟩ := list16 h; rfl
end Go.Lv.P

namespace Go.Lv.P
open Go Go.Lv
/-- the worth of a number of a cell -/
def W (t : Int) : Int := if t = 0 then 0 else 2 ^ t.toNat
theorem tile_cases {t : Int} (h : inB t 0 17 = true) : t = 0 ∨ t = 1 ∨ t = 2 ∨ t = 3 ∨ t = 4 ∨ t = 5 ∨ t = 6 ∨ t = 7 ∨ t = 8 ∨ t = 9 ∨ t = 10 ∨ t = 11 ∨ t = 12 ∨ t = 13 ∨ t = 14 ∨ t = 15 ∨ t = 16 ∨ t = 17 := by
  simp [inB] at h; omega
theorem W_facts {t : Int} (h : inB t 0 17 = true) : 0 ≤ W t ∧ W t ≤ 131072 ∧ W t % 2 = 0 := by
  rcases tile_cases h with h | h | h | h | h | h | h | h | h | h | h | h | h | h | h | h | h | h <;> subst h <;> decide
end Go.Lv.P

namespace Go.Lv.P
open Go Go.Lv
theorem impl_rowsBefore_f1_cmp (F : Nat) (hF : 1000 < F) {a b : List Int} (ha : a.length = 4) (hb : b.length = 4) : impl_rowsBefore_f1_p F a b = some (cmpL a b) := by
  have ea : sub a 0 4 = a := by obtain ⟨_, _, _, _, rfl⟩ := list4 ha; rfl
  have eb : sub b 0 4 = b := by obtain ⟨_, _, _, _, rfl⟩ := list4 hb; rfl
  simp only [impl_rowsBefore_f1_p, impl_rowsBefore_f1_c, ea, eb, compare_eq F hF (show a.length = b.length by omega) (by omega), Option.isSome_some, Option.getD_some, cond_true]
end Go.Lv.P

namespace Go.Lv.P
open Go Go.Lv
theorem DeleteFunc_own (F : Nat) (s : LL) (a : List Int) (q : List Int → Bool) (hs : s.length ≤ 1000) (hF : 1000 < F) (hq : ∀ x ∈ s, impl_Board_merged_f1_v x a = q x) :
    ∃ r, slices_DeleteFunc_4int4int_impl_Board_merged_f1_p F s a = some r ∧ Deleted s q r := by
  have hg : ∀ i, i < s.length → impl_Board_merged_f1_v (rget s i) a = q (rget s i) := fun i hi => by
    refine hq _ ?_
    rw [rgetL, List.getElem?_eq_getElem hi]
    exact List.getElem_mem hi
  have h1 : slices_IndexFunc_4int4int_impl_Board_merged_f1_l2 F s s.length a 0 = some (fnd (fun i => q (rget s i)) (fun i => (true, (i : Int))) (false, default) 0 s.length) := by
    refine loop_find (fun i => i) s.length _ _ _ (by omega) (by omega) (fun i hi Q kn kx => ?_) fun Q kn kx => ?_
    · simp only [slices_IndexFunc_4int4int_impl_Board_merged_f1_s2, inR_cast, hi, hg i hi, Int.toNat_natCast, decide_true, cond_true, Int.ofNat_lt, Option.isSome_some, Option.getD_some]
    · simp [slices_IndexFunc_4int4int_impl_Board_merged_f1_s2]
  simp only [slices_DeleteFunc_4int4int_impl_Board_merged_f1_p, slices_DeleteFunc_4int4int_impl_Board_merged_f1_c, slices_IndexFunc_4int4int_impl_Board_merged_f1_p, slices_IndexFunc_4int4int_impl_Board_merged_f1_c, subn_self, h1, Option.isSome_some, Option.getD_some, cond_true]
  rcases fnd_split s q s.length 0 (by omega) (by simp) with ⟨h2, h3⟩ | ⟨j, hj, h2, h3, h4⟩
  · rw [h2]
    refine ⟨(s.length, s), rfl, ?_⟩
    have e := filter_all (q := q) h3
    exact ⟨by rw [e], by rw [e]; exact List.take_length, rfl⟩
  · rw [h2]
    have hgj : rget s j = s[j] := by rw [rgetL, List.getElem?_eq_getElem hj]; rfl
    obtain ⟨s', l1, l2, l3⟩ := delete_loop (step := slices_DeleteFunc_4int4int_impl_Board_merged_f1_s5 F s.length a) q (fun x => impl_Board_merged_f1_v x a = q x) s.length (by omega)
      (fun i j s'' hij hjn hl hp Q kn kx => by
        have hin : i < s.length := by omega
        simp only [slices_DeleteFunc_4int4int_impl_Board_merged_f1_s5, Int.ofNat_lt, hjn, inR_cast, hin, Int.toNat_natCast, decide_true, cond_true, hp, Option.isSome_some, Option.getD_some]
        cases q (rget s'' (0 + j)) <;> rfl)
      (fun i s'' Q kn kx => by simp [slices_DeleteFunc_4int4int_impl_Board_merged_f1_s5]) (s.length - (j + 1)) j (j + 1) F s (by omega) (by omega) (by omega) rfl (fun x hx => hq x (List.mem_of_mem_drop hx))
    have e : s.filter (fun x => !q x) = s.take j ++ (s.drop (j + 1)).filter (fun x => !q x) := by
      have e1 : s = s.take j ++ s[j] :: s.drop (j + 1) := by rw [← List.drop_eq_getElem_cons hj, List.take_append_drop]
      conv => lhs; rw [e1]
      rw [List.filter_append, List.filter_cons, ← hgj, h3]
      simp only [Bool.not_true, Bool.false_eq_true, if_false]
      rw [filter_all]
      exact h4
    have el : j + ((s.drop (j + 1)).filter fun x => !q x).length = (s.filter fun x => !q x).length := by
      rw [e, List.length_append, List.length_take, Nat.min_eq_left (Nat.le_of_lt hj)]
    rw [el] at l1 l3
    rw [← e] at l3
    have ll : (s.filter fun x => !q x).length ≤ s.length := List.length_filter_le _ _
    have l1' : slices_DeleteFunc_4int4int_impl_Board_merged_f1_l5 F s.length a (j : Int) (IntKind.wrap .i64 ((j : Int) + 1)) s = some ((((s.filter fun x => !q x).length : Nat) : Int), s') := by
      rw [wrap_succ (n := s.length) hj (by omega)]
      exact l1
    have hne : ((j : Int) == -1) = false := by
      rw [beq_eq_false_iff_ne]; omega
    simp only [cond_true, Option.getD_some, l1', hne, cond_false, Option.isSome_some, inLe_cast, ll, decide_true, Int.toNat_natCast, Nat.sub_zero]
    refine ⟨_, rfl, rfl, ?_, ?_⟩
    · show (splice s' (0 + _) _ _).take _ = _
      rw [splice_take _ _ _ _ (by omega) (by simp), l3]
    · rw [← l2]
      show (splice s' (0 + _) _ _).length = _
      exact splice_len' _ _ _ (by omega) (by simp)
theorem DeleteFunc_flag (F : Nat) (s : LL) (m : List (List Int × Bool)) (q : List Int → Bool) (hs : s.length ≤ 1000) (hF : 1000 < F) (hq : ∀ x ∈ s, impl_Board_merged_f2_v x m = q x) :
    ∃ r, slices_DeleteFunc_2int2int_impl_Board_merged_f2_p F s m = some r ∧ Deleted s q r := by
  have hg : ∀ i, i < s.length → impl_Board_merged_f2_v (rget s i) m = q (rget s i) := fun i hi => by
    refine hq _ ?_
    rw [rgetL, List.getElem?_eq_getElem hi]
    exact List.getElem_mem hi
  have h1 : slices_IndexFunc_2int2int_impl_Board_merged_f2_l2 F s s.length m 0 = some (fnd (fun i => q (rget s i)) (fun i => (true, (i : Int))) (false, default) 0 s.length) := by
    refine loop_find (fun i => i) s.length _ _ _ (by omega) (by omega) (fun i hi Q kn kx => ?_) fun Q kn kx => ?_
    · simp only [slices_IndexFunc_2int2int_impl_Board_merged_f2_s2, inR_cast, hi, hg i hi, Int.toNat_natCast, decide_true, cond_true, Int.ofNat_lt, Option.isSome_some, Option.getD_some]
    · simp [slices_IndexFunc_2int2int_impl_Board_merged_f2_s2]
  simp only [slices_DeleteFunc_2int2int_impl_Board_merged_f2_p, slices_DeleteFunc_2int2int_impl_Board_merged_f2_c, slices_IndexFunc_2int2int_impl_Board_merged_f2_p, slices_IndexFunc_2int2int_impl_Board_merged_f2_c, subn_self, h1, Option.isSome_some, Option.getD_some, cond_true]
  rcases fnd_split s q s.length 0 (by omega) (by simp) with ⟨h2, h3⟩ | ⟨j, hj, h2, h3, h4⟩
  · rw [h2]
    refine ⟨(s.length, s), rfl, ?_⟩
    have e := filter_all (q := q) h3
    exact ⟨by rw [e], by rw [e]; exact List.take_length, rfl⟩
  · rw [h2]
    have hgj : rget s j = s[j] := by rw [rgetL, List.getElem?_eq_getElem hj]; rfl
    obtain ⟨s', l1, l2, l3⟩ := delete_loop (step := slices_DeleteFunc_2int2int_impl_Board_merged_f2_s5 F s.length m) q (fun x => impl_Board_merged_f2_v x m = q x) s.length (by omega)
      (fun i j s'' hij hjn hl hp Q kn kx => by
        have hin : i < s.length := by omega
        simp only [slices_DeleteFunc_2int2int_impl_Board_merged_f2_s5, Int.ofNat_lt, hjn, inR_cast, hin, Int.toNat_natCast, decide_true, cond_true, hp, Option.isSome_some, Option.getD_some]
        cases q (rget s'' (0 + j)) <;> rfl)
      (fun i s'' Q kn kx => by simp [slices_DeleteFunc_2int2int_impl_Board_merged_f2_s5]) (s.length - (j + 1)) j (j + 1) F s (by omega) (by omega) (by omega) rfl (fun x hx => hq x (List.mem_of_mem_drop hx))
    have e : s.filter (fun x => !q x) = s.take j ++ (s.drop (j + 1)).filter (fun x => !q x) := by
      have e1 : s = s.take j ++ s[j] :: s.drop (j + 1) := by rw [← List.drop_eq_getElem_cons hj, List.take_append_drop]
      conv => lhs; rw [e1]
      rw [List.filter_append, List.filter_cons, ← hgj, h3]
      simp only [Bool.not_true, Bool.false_eq_true, if_false]
      rw [filter_all]
      exact h4
    have el : j + ((s.drop (j + 1)).filter fun x => !q x).length = (s.filter fun x => !q x).length := by
      rw [e, List.length_append, List.length_take, Nat.min_eq_left (Nat.le_of_lt hj)]
    rw [el] at l1 l3
    rw [← e] at l3
    have ll : (s.filter fun x => !q x).length ≤ s.length := List.length_filter_le _ _
    have l1' : slices_DeleteFunc_2int2int_impl_Board_merged_f2_l5 F s.length m (j : Int) (IntKind.wrap .i64 ((j : Int) + 1)) s = some ((((s.filter fun x => !q x).length : Nat) : Int), s') := by
      rw [wrap_succ (n := s.length) hj (by omega)]
      exact l1
    have hne : ((j : Int) == -1) = false := by
      rw [beq_eq_false_iff_ne]; omega
    simp only [cond_true, Option.getD_some, l1', hne, cond_false, Option.isSome_some, inLe_cast, ll, decide_true, Int.toNat_natCast, Nat.sub_zero]
    refine ⟨_, rfl, rfl, ?_, ?_⟩
    · show (splice s' (0 + _) _ _).take _ = _
      rw [splice_take _ _ _ _ (by omega) (by simp), l3]
    · rw [← l2]
      show (splice s' (0 + _) _ _).length = _
      exact splice_len' _ _ _ (by omega) (by simp)
end Go.Lv.P

namespace Go.Lv.P
open Go Go.Lv
abbrev cells16 : LL := [[0, 0], [0, 1], [0, 2], [0, 3], [1, 0], [1, 1], [1, 2], [1, 3], [2, 0], [2, 1], [2, 2], [2, 3], [3, 0], [3, 1], [3, 2], [3, 3]]
/-- the place of a cell -/
def plc (c : List Int) : Nat := 0 + (iget c 0).toNat * 4 + (iget c 1).toNat * 1
/-- the empty cells -/
def em (b : List Int) : LL := cells16.filter fun c => iget b (plc c) == 0
/-- the placements on a board -/
def plm (b : List Int) : LL := fld (fun i a => a ++ [[iget (rget (em b) i) 0, iget (rget (em b) i) 1, 1], [iget (rget (em b) i) 0, iget (rget (em b) i) 1, 2]]) 0 (em b).length []
end Go.Lv.P

namespace Go.Lv.P
open Go Go.Lv
/-- m marks from k on -/
def mrow (m : Nat) (k : Int) : List Int := (List.range m).map fun j : Nat => k + (j : Int)
/-- n rows of marks -/
def mrows (m : Nat) (k : Int) (n : Nat) : LL := (List.range n).map fun i : Nat => mrow m (k + (m : Int) * (i : Int))
theorem mrows_len (m : Nat) (k : Int) (n : Nat) : (mrows m k n).length = n := by simp [mrows]
theorem mrows_get (m : Nat) (k : Int) (n i : Nat) (h : i < n) : rget (mrows m k n) i = mrow m (k + (m : Int) * (i : Int)) := by
  rw [rgetL, mrows, List.getElem?_map, List.getElem?_range h]; rfl
theorem mark_gen {step : (Q : Type) → Int × Int × LL → (Int × Int × LL → Option Q) → (Int × LL → Option Q) → Option Q} (m n F : Nat) (k : Int) (a : LL) (ha : ∀ x ∈ a.take n, x.length = m) (hn : n ≤ a.length) (hF : n < F) (hb : n ≤ 1000000)
    (hs : ∀ (i : Nat) (a' : LL), i < n → a'.length = a.length → (∀ x ∈ a'.take n, x.length = m) → ∀ (Q : Type) kn kx, step Q (k + (m : Int) * (i : Int), (i : Int), a') kn kx = kn (k + (m : Int) * ((i + 1 : Nat) : Int), IntKind.wrap .i64 ((i : Int) + 1), rset a' i (mrow m (k + (m : Int) * (i : Int)))))
    (he : ∀ (c : Int) (a' : LL) (Q : Type) kn kx, step Q (c, (n : Int), a') kn kx = kx (c, a')) :
    ∃ a' : LL, loopC step F (k, 0, a) some = some (k + (m : Int) * (n : Int), a') ∧ a'.length = a.length ∧ a'.take n = mrows m k n := by
  have h := loop_fold (step := step) (fun i (s : Int × LL) => (s.1, i, s.2)) n (fun i s => (k + (m : Int) * ((i + 1 : Nat) : Int), rset s.2 i (mrow m (k + (m : Int) * (i : Int))))) (fun s => s)
    (fun i s => s.1 = k + (m : Int) * (i : Int) ∧ s.2.length = a.length ∧ (∀ x ∈ s.2.take n, x.length = m) ∧ s.2.take i = mrows m k i) (F := F) hF (by omega) (a := (k, a)) ⟨by simp, rfl, ha, rfl⟩
    (fun i s hi ⟨h1, h2, h3, h4⟩ => by
      have hil : i < s.2.length := by omega
      refine ⟨⟨rfl, by rw [rsetL]; simpa using h2, ?_, ?_⟩, fun Q kn kx => ?_⟩
      · intro x hx
        rw [rsetL, List.take_set] at hx
        rcases List.mem_or_eq_of_mem_set hx with hx | rfl
        · exact h3 x hx
        · simp [mrow]
      · show (rset s.2 i _).take (i + 1) = _
        rw [rset_take s.2 i _ hil, h4, mrows, mrows, List.range_succ, List.map_append]; rfl
      · rw [h1]
        exact hs i s.2 hi h2 h3 Q kn kx)
    (fun s _ Q kn kx => he s.1 s.2 Q kn kx)
  obtain ⟨h1, h2, h3, h4, h5⟩ := h
  exact ⟨_, h1.trans (congrArg some (Prod.ext h2 rfl)), h3, h5⟩
theorem get_take {a : LL} {n i : Nat} (hi : i < n) (hn : n ≤ a.length) : a[i]'(by omega) ∈ a.take n := by
  have h : i < (a.take n).length := by simp; omega
  have := List.getElem_mem h
  rwa [List.getElem_take] at this
theorem held_gen {step : (Q : Type) → Int × Int → (Int × Int → Option Q) → (Bool × Int → Option Q) → Option Q} (m n F : Nat) (k : Int) (hF : n < F) (hb : n ≤ 1000000)
    (hs : ∀ (i : Nat), i < n → ∀ (Q : Type) kn kx, step Q (k + (m : Int) * (i : Int), (i : Int)) kn kx = kn (k + (m : Int) * ((i + 1 : Nat) : Int), IntKind.wrap .i64 ((i : Int) + 1)))
    (he : ∀ (c : Int) (Q : Type) kn kx, step Q (c, (n : Int)) kn kx = kx (false, c)) : loopC step F (k, 0) some = some (false, k + (m : Int) * (n : Int)) := by
  have h := loop_fold (step := step) (fun i (s : Int) => (s, i)) n (fun i s => k + (m : Int) * ((i + 1 : Nat) : Int)) (fun s => (false, s))
    (fun i s => s = k + (m : Int) * (i : Int)) (F := F) hF (by omega) (a := k) (by simp)
    (fun i s hi h1 => ⟨rfl, fun Q kn kx => by rw [h1]; exact hs i hi Q kn kx⟩) (fun s _ Q kn kx => he s Q kn kx)
  exact h.1.trans (congrArg some (Prod.ext rfl h.2))
end Go.Lv.P

namespace Go.Lv.P
open Go Go.Lv
set_option maxRecDepth 100000
/-- one tile more: how many tiles lie there, the score, whether the last one was merged, the row -/
abbrev RS := Nat × Int × Bool × List Int
def rstep (s : RS) (x : Int) : RS :=
  bif decide (0 < s.1) && (iget s.2.2.2 (0 + (s.1 - 1) * 1) == x) && decide (x < 17) && !s.2.2.1 then (s.1, IntKind.wrap .i64 (s.2.1 + W (x + 1)), true, iset s.2.2.2 (0 + (s.1 - 1) * 1) (x + 1))
  else (s.1 + 1, s.2.1, false, iset s.2.2.2 (0 + s.1 * 1) x)
def rslide (row : List Int) : RS := (row.filter fun x => !(x == 0)).foldl rstep (0, 0, false, [0, 0, 0, 0])
theorem rstep_n (s : RS) (x : Int) : (rstep s x).1 ≤ s.1 + 1 := by
  unfold rstep
  cases decide (0 < s.1) && (iget s.2.2.2 (0 + (s.1 - 1) * 1) == x) && decide (x < 17) && !s.2.2.1
  · exact Nat.le_refl _
  · exact Nat.le_succ _
/-- a tile of a row -/
def rput (row : List Int) (i : Nat) (s : RS) : RS := bif iget row (0 + i * 1) == 0 then s else rstep s (iget row (0 + i * 1))
theorem fld_rput (row : List Int) (h : row.length = 4) (s : RS) : fld (rput row) 0 4 s = (row.filter fun x => !(x == 0)).foldl rstep s := by
  obtain ⟨a, b, c, d, rfl⟩ := list4 h
  have key : ∀ (x : Int) (l : List Int) (s : RS), ((x :: l).filter fun x => !(x == 0)).foldl rstep s = (l.filter fun x => !(x == 0)).foldl rstep (bif x == 0 then s else rstep s x) := fun x l s => by
    rw [List.filter_cons]
    cases x == 0 <;> rfl
  rw [key, key, key, key]
  rfl
theorem wrap_pred {n : Nat} (h : 0 < n) (h2 : n ≤ 100) : IntKind.wrap .i64 ((n : Int) - 1) = ((n - 1 : Nat) : Int) := by
  rw [wrap_of (by omega) (by omega)]; omega
theorem bsetL (xs : List Bool) (n : Nat) (x : Bool) : bset xs n x = xs.set n x := by
  induction xs generalizing n with
  | nil => cases n <;> rfl
  | cons a r ih => cases n with
    | zero => rfl
    | succ n => simp only [bset, ih, List.set_cons_succ]
theorem bgetL (xs : List Bool) (n : Nat) : bget xs n = xs[n]?.getD false := by
  induction xs generalizing n with
  | nil => cases n <;> rfl
  | cons a r ih => cases n with
    | zero => rfl
    | succ n => simp only [bget, ih, List.getElem?_cons_succ]
theorem fld_list (l : List Int) (g : RS → Int → RS) : ∀ (m i : Nat) (s : RS), i + m = l.length → fld (fun i s => g s (iget l (0 + i))) i m s = (l.drop i).foldl g s
  | 0, i, s, h => by rw [List.drop_eq_nil_of_le (by omega)]; rfl
  | m + 1, i, s, h => by
    have hi : i < l.length := by omega
    rw [fld, fld_list l g m (i + 1) _ (by omega), List.drop_eq_getElem_cons hi, List.foldl_cons, Nat.zero_add, igetL, List.getElem?_eq_getElem hi]
    rfl
end Go.Lv.P

namespace Go.Lv.P
open Go Go.Lv
/-- the sum of a board's worths -/
def sumB (b : List Int) : Int := (b.map W).foldl (· + ·) 0
end Go.Lv.P

namespace Go.Lv.P
open Go Go.Lv
theorem worth_eq {t : Int} (h : inB t 0 17 = true) : impl_worth_p t = some (W t) := by
  rcases tile_cases h with h | h | h | h | h | h | h | h | h | h | h | h | h | h | h | h | h | h <;> subst h <;> decide
end Go.Lv.P

namespace Go.Lv.P
open Go Go.Lv
theorem eqIntA2_refl (F : Nat) (a : List Int) (hF : 1000 < F) : laws_eqIntA2_p F a a = some true := by
  have h : laws_eqIntA2_l2 F a a 0 = some false := by
    refine (loop_fold (step := laws_eqIntA2_s2 F a a) (fun i (_ : Unit) => i) 2 (fun _ a => a) (fun _ => false) (fun _ _ => True) (F := F) (by omega) (by omega) (a := ()) trivial (fun i _ hi _ => ⟨trivial, fun Q kn kx => ?_⟩) (fun _ _ Q kn kx => by simp [laws_eqIntA2_s2])).1
    have hi' : (i : Int) < 2 := by omega
    simp only [laws_eqIntA2_s2, hi', inR_cast, hi, decide_true, cond_true, beq_self_eq_true, Bool.not_true, cond_false]
  simp only [laws_eqIntA2_p, laws_eqIntA2_c, h, Option.isSome_some, Option.getD_some, cond_true, cond_false]
theorem eqIntA2S_refl (F : Nat) (a : LL) (ha : a.length ≤ 900000) (hF : 1000 < F) (hF' : a.length < F) : laws_eqIntA2S_p F a a = some true := by
  have h : laws_eqIntA2S_l4 F a a 0 = some false := by
    refine (loop_fold (step := laws_eqIntA2S_s4 F a a) (fun i (_ : Unit) => i) a.length (fun _ a => a) (fun _ => false) (fun _ _ => True) (F := F) (by omega) (by omega) (a := ()) trivial (fun i _ hi _ => ⟨trivial, fun Q kn kx => ?_⟩) (fun _ _ Q kn kx => by simp [laws_eqIntA2S_s4])).1
    have hi' : (i : Int) < a.length := by omega
    simp only [laws_eqIntA2S_s4, hi', inR_cast, hi, Int.toNat_natCast, decide_true, cond_true, eqIntA2_refl F _ hF, Option.isSome_some, Option.getD_some, Bool.not_true, cond_false]
  simp only [laws_eqIntA2S_p, laws_eqIntA2S_c, h, beq_self_eq_true, Bool.not_true, cond_false, Option.isSome_some, Option.getD_some, cond_true]
theorem mrow2 (c : Int) : mrow 2 c = [c, c + 1] := by simp [mrow, List.range_succ]
theorem markIntA2S_row (F n i : Nat) (c : Int) (a : LL) (hi : i < n) (hn : n ≤ a.length) (ha : ∀ x ∈ a.take n, x.length = 2) (hc0 : 0 ≤ c) (hc : c ≤ 1000000000) (hF : 1000 < F) (Q : Type) (kn : Int × Int × LL → Option Q) (kx : Int × LL → Option Q) :
    laws_markIntA2S_s2 F n Q (c, (i : Int), a) kn kx = kn (c + 2, IntKind.wrap .i64 ((i : Int) + 1), rset a i [c, c + 1]) := by
  have hil : i < a.length := by omega
  obtain ⟨x0, x1, hx⟩ := list2 (ha (a[i]) (get_take hi hn))
  have hg : rget a i = [x0, x1] := by rw [rgetL, List.getElem?_eq_getElem hil, hx]; rfl
  have w1 : ∀ x : Int, 0 ≤ x → x ≤ 2000000000 → IntKind.wrap .i64 (x + 1) = x + 1 := fun x h h' => wrap_of (by omega) (by omega)
  have gs : ∀ (l : LL) (x : List Int), i < l.length → rget (rset l i x) i = x := fun l x hl => by rw [rsetL, rgetL, List.getElem?_set_self hl]; rfl
  have ss : ∀ (l : LL) (x y : List Int), rset (rset l i x) i y = rset l i y := fun l x y => by simp only [rsetL, List.set_set]
  have rl : ∀ (l : LL) (x : List Int), (rset l i x).length = l.length := fun l x => by simp [rsetL]
  have h7 : laws_markIntA2S_l5 F n i c 0 a = some (c + 2, rset a i [c, c + 1]) := by
    have h5 := loop_fold (step := laws_markIntA2S_s5 F n i) (fun j (a : Int × LL) => (a.1, j, a.2)) 2 (fun j s => (IntKind.wrap .i64 (s.1 + 1), rset s.2 (0 + i) (iset (rget s.2 (0 + i)) (0 + j * 1) s.1))) (fun s => s) (fun _ _ => True) (F := F) (by omega) (by omega) (a := (c, a)) trivial
      (fun j s' hj _ => ⟨trivial, fun Q kn kx => by
        have hj' : (j : Int) < 2 := by omega
        simp only [laws_markIntA2S_s5, hj', inR_cast, hi, hj, Int.toNat_natCast, decide_true, cond_true]⟩) (fun s' _ Q kn kx => by simp [laws_markIntA2S_s5])
    refine h5.1.trans ?_
    simp only [fld, Nat.zero_add, gs, ss, rl, hil, hg]
    rw [w1 (c) (by omega) (by omega), w1 (c + 1) (by omega) (by omega)]
    simp only [Option.some.injEq, Prod.mk.injEq]
    refine ⟨by omega, ?_⟩
    congr 1 <;> (
      show [c, c + 1] = _
      simp only [List.cons.injEq, and_true, true_and]
      try omega)
  have hi' : (i : Int) < (n : Int) := by omega
  simp only [laws_markIntA2S_s2, hi', decide_true, cond_true, h7, Option.isSome_some, Option.getD_some]
theorem markIntA2S_eq (F n : Nat) (a : LL) (ha : ∀ x ∈ a.take n, x.length = 2) (hn : n ≤ a.length) (hb : n ≤ 900000) (hF : 1000 < F) (hF' : n < F) : ∃ a', laws_markIntA2S_p F n 1 a = some (1 + 2 * (n : Int), a') ∧ a'.length = a.length ∧ a'.take n = mrows 2 1 n := by
  obtain ⟨a', h1, h2, h3⟩ := mark_gen (step := laws_markIntA2S_s2 F n) 2 n F 1 a ha hn (by omega) (by omega)
    (fun i a' hi hl h4 Q kn kx => by
      rw [markIntA2S_row F n i _ a' hi (by omega) h4 (by omega) (by omega) hF Q kn kx, mrow2]
      congr 2
      all_goals omega) (fun c a' Q kn kx => by simp [laws_markIntA2S_s2])
  have h1 : laws_markIntA2S_l2 F n 1 0 a = some (1 + 2 * (n : Int), a') := h1
  exact ⟨a', by simp only [laws_markIntA2S_p, laws_markIntA2S_c, h1, Option.isSome_some, Option.getD_some, cond_true], h2, h3⟩
theorem heldIntA2S_eq (F n : Nat) (hn : n ≤ 900000) (hF : 1000 < F) (hF' : n < F) : laws_heldIntA2S_p F (mrows 2 1 n) 1 = some (1 + 2 * (n : Int)) := by
  have h := held_gen (step := laws_heldIntA2S_s2 F (mrows 2 1 n)) 2 n F 1 (by omega) (by omega)
    (fun i hi Q kn kx => by
      have hg := mrows_get 2 1 n i hi
      rw [mrow2] at hg
      have e : ((2 : Nat) : Int) = 2 := rfl
      rw [e] at hg ⊢
      generalize hc : (1 : Int) + 2 * (i : Int) = c at hg ⊢
      have w1 : ∀ x : Int, 0 ≤ x → x ≤ 2000000000 → IntKind.wrap .i64 (x + 1) = x + 1 := fun x h h' => wrap_of (by omega) (by omega)
      have h8 : laws_heldIntA2S_l5 F (mrows 2 1 n) i c 0 = some (false, c + 2) := by
        have h5 := loop_fold (step := laws_heldIntA2S_s5 F (mrows 2 1 n) i) (fun j (a : Int) => (a, j)) 2 (fun j s => s + 1) (fun s => (false, s)) (fun j s => s = c + (j : Int)) (F := F) (by omega) (by omega) (a := c) (by simp)
          (fun j s hj hs => ⟨by omega, fun Q kn kx => by
            have hj' : (j : Int) < 2 := by omega
            have hq : iget [c, c + 1] (0 + j * 1) = s := by
              rw [hs]
              obtain rfl | rfl : j = 0 ∨ j = 1 := by omega
              all_goals simp [iget]
            simp only [laws_heldIntA2S_s5, hj', inR_cast, mrows_len, hi, hj, Int.toNat_natCast, decide_true, cond_true, hg, hq, beq_self_eq_true, Bool.not_true, cond_false, w1 s (by omega) (by omega)]⟩) (fun s _ Q kn kx => by simp [laws_heldIntA2S_s5])
        refine h5.1.trans ?_
        rw [h5.2]
        simp only [Option.some.injEq, Prod.mk.injEq, true_and]
        omega
      have hi' : (i : Int) < (n : Int) := by omega
      have e4 : (1 : Int) + 2 * ((i + 1 : Nat) : Int) = c + 2 := by omega
      simp only [laws_heldIntA2S_s2, hi', mrows_len, decide_true, cond_true, h8, cond_false, Option.isSome_some, Option.getD_some, e4])
    (fun c Q kn kx => by simp [laws_heldIntA2S_s2, mrows_len])
  have h : laws_heldIntA2S_l2 F (mrows 2 1 n) 1 0 = some (false, 1 + 2 * (n : Int)) := h
  simp only [laws_heldIntA2S_p, laws_heldIntA2S_c, h, Option.isSome_some, Option.getD_some, cond_true, cond_false]
end Go.Lv.P
