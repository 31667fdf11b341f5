/-
Plain facts of the pure functions, part 1; without conditions.
-/
import Derived.Test.YtabfliifleonaahQhP1
import Derived.Test.YtabfliifleonaahQhP2
import Derived.Test.YtabfliifleonaahLv3
import Derived.Test.YtabfliifleonaahQhP0
import Derived.Test.YtabfliifleonaahQhP4
import Derived.Test.YtabfliifleonaahQhP5
set_option linter.unusedVariables false
set_option linter.unusedSimpArgs false
set_option linter.unusedSectionVars false
namespace Go.Lv.P
open Go Go.Lv
theorem l1In_eq (x a b : Int) : spec_l1In_v x a b = inB x a b := by unfold spec_l1In_v inB; cases decide (a ≤ x) <;> rfl
theorem in_eq (x a b : Int) : impl_in_v x a b = inB x a b := by unfold impl_in_v inB; cases decide (a ≤ x) <;> rfl
theorem any_range (n : Nat) (p q : Nat → Bool) (h : ∀ i, i < n → p i = q i) : (List.range n).any p = (List.range n).any q := by
  rw [Bool.eq_iff_iff]
  simp only [List.any_eq_true, List.mem_range]
  exact ⟨fun ⟨i, hi, e⟩ => ⟨i, hi, by rw [← h i hi]; exact e⟩, fun ⟨i, hi, e⟩ => ⟨i, hi, by rw [h i hi]; exact e⟩⟩
theorem any_iget (xs : List Int) (q : Int → Bool) : (List.range xs.length).any (fun i => q (iget xs i)) = xs.any q := by
  rw [Bool.eq_iff_iff]
  simp only [List.any_eq_true, List.mem_range, igetL]
  constructor
  · rintro ⟨i, hi, e⟩
    rw [List.getElem?_eq_getElem hi] at e
    exact ⟨_, List.getElem_mem hi, e⟩
  · rintro ⟨x, hx, e⟩
    obtain ⟨i, hi, rfl⟩ := List.getElem_of_mem hx
    exact ⟨i, hi, by rw [List.getElem?_eq_getElem hi]; exact e⟩
theorem any_rget (xs : List (List Int)) (q : List Int → Bool) : (List.range xs.length).any (fun i => q (rget xs i)) = xs.any q := by
  rw [Bool.eq_iff_iff]
  simp only [List.any_eq_true, List.mem_range, rgetL]
  constructor
  · rintro ⟨i, hi, e⟩
    rw [List.getElem?_eq_getElem hi] at e
    exact ⟨_, List.getElem_mem hi, e⟩
  · rintro ⟨x, hx, e⟩
    obtain ⟨i, hi, rfl⟩ := List.getElem_of_mem hx
    exact ⟨i, hi, by rw [List.getElem?_eq_getElem hi]; exact e⟩
/-- whether there is one, by its place -/
theorem fnd_place (p : Nat → Bool) (n : Nat) : decide ((0 : Int) ≤ bif (fnd p (fun i => (true, (i : Int))) (false, default) 0 n).1 then (fnd p (fun i => (true, (i : Int))) (false, default) 0 n).2 else -1) = (List.range n).any p := by
  rw [← fnd_any]
  have : ∀ m i, decide ((0 : Int) ≤ bif (fnd p (fun i => (true, (i : Int))) (false, default) i m).1 then (fnd p (fun i => (true, (i : Int))) (false, default) i m).2 else -1) = fnd p (fun _ => true) false i m := by
    intro m
    induction m with
    | zero => intro i; rfl
    | succ m ih =>
      intro i
      cases h : p i with
      | true => simp only [fnd, h, cond_true]; simp
      | false => simp only [fnd, h, cond_false]; exact ih (i + 1)
  exact this n 0
theorem contains_IsRow (F : Nat) (s : List Int) (hs : s.length ≤ 1000) (hF : 1000 < F) : slices_ContainsFunc_intint_impl_IsRow_f1_p F s = some (s.any fun x => !inB x 0 17) := by
  have h : slices_IndexFunc_intint_impl_IsRow_f1_l2 F s s.length 0 = some (fnd (fun i => !inB (iget s i) 0 17) (fun i => (true, (i : Int))) (false, default) 0 s.length) := by
    refine loop_find (fun i => i) s.length _ _ _ (by omega) (by omega) (fun i hi Q kn kx => ?_) fun Q kn kx => ?_
    · simp only [slices_IndexFunc_intint_impl_IsRow_f1_s2, inR_cast, hi, impl_IsRow_f1_v, in_eq, Int.toNat_natCast, decide_true, cond_true, Int.ofNat_lt]
    · simp [slices_IndexFunc_intint_impl_IsRow_f1_s2]
  simp only [slices_ContainsFunc_intint_impl_IsRow_f1_p, slices_ContainsFunc_intint_impl_IsRow_f1_c, slices_IndexFunc_intint_impl_IsRow_f1_p, slices_IndexFunc_intint_impl_IsRow_f1_c, h, Option.isSome_some, Option.getD_some, cond_true]
  rw [← any_iget, ← fnd_place]
  cases (fnd (fun i => !inB (iget s i) 0 17) (fun i => (true, (i : Int))) (false, default) 0 s.length).1 <;> rfl
theorem sub4 {s : List Int} (h : s.length = 4) : sub s 0 4 = s := by
  obtain ⟨a, b, c, d, rfl⟩ := list4 h; rfl
theorem any_not_all {α : Type} (l : List α) (q : α → Bool) : (!l.any fun x => !q x) = l.all q := by
  induction l with
  | nil => rfl
  | cons a r ih => simp [← ih]
theorem impl_IsRow_eq (F : Nat) (s : List Int) (hs : s.length = 4) (hF : 1000 < F) : impl_IsRow_p F s = some (s.all fun x => inB x 0 17) := by
  simp only [impl_IsRow_p, impl_IsRow_c, sub4 hs, contains_IsRow F s (by omega) hF, Option.isSome_some, Option.getD_some, cond_true, any_not_all]
theorem impl_IsBoard_f1_eq (F : Nat) (s : List Int) (hs : s.length = 4) (hF : 1000 < F) : impl_IsBoard_f1_p F s = some (!s.all fun x => inB x 0 17) := by
  simp only [impl_IsBoard_f1_p, impl_IsBoard_f1_c, impl_IsRow_eq F s hs hF, Option.isSome_some, Option.getD_some, cond_true]
theorem rget_len4 {s : List (List Int)} {m i : Nat} (h : ∀ x ∈ s, x.length = m) (hi : i < s.length) : (rget s i).length = m := by
  rw [rgetL, List.getElem?_eq_getElem hi]
  exact h _ (List.getElem_mem hi)
theorem contains_IsBoard (F : Nat) (s : List (List Int)) (h4 : ∀ x ∈ s, x.length = 4) (hs : s.length ≤ 1000) (hF : 1000 < F) : slices_ContainsFunc_4int4int_impl_IsBoard_f1_p F s = some (s.any fun r => !r.all fun x => inB x 0 17) := by
  have h : slices_IndexFunc_4int4int_impl_IsBoard_f1_l2 F s s.length 0 = some (fnd (fun i => !(rget s i).all fun x => inB x 0 17) (fun i => (true, (i : Int))) (false, default) 0 s.length) := by
    refine loop_find (fun i => i) s.length _ _ _ (by omega) (by omega) (fun i hi Q kn kx => ?_) fun Q kn kx => ?_
    · simp only [slices_IndexFunc_4int4int_impl_IsBoard_f1_s2, inR_cast, hi, Int.toNat_natCast, decide_true, cond_true, Int.ofNat_lt, impl_IsBoard_f1_eq F _ (rget_len4 h4 hi) hF, Option.isSome_some, Option.getD_some]
    · simp [slices_IndexFunc_4int4int_impl_IsBoard_f1_s2]
  simp only [slices_ContainsFunc_4int4int_impl_IsBoard_f1_p, slices_ContainsFunc_4int4int_impl_IsBoard_f1_c, slices_IndexFunc_4int4int_impl_IsBoard_f1_p, slices_IndexFunc_4int4int_impl_IsBoard_f1_c, h, Option.isSome_some, Option.getD_some, cond_true]
  rw [← any_rget s fun r => !r.all fun x => inB x 0 17, ← fnd_place]
  cases (fnd (fun i => !(rget s i).all fun x => inB x 0 17) (fun i => (true, (i : Int))) (false, default) 0 s.length).1 <;> rfl
theorem impl_IsBoard_eq (F : Nat) (b : List Int) (hb : b.length = 16) (hF : 1000 < F) : impl_IsBoard_p F b = some (okB b) := by
  obtain ⟨x0, x1, x2, x3, x4, x5, x6, x7, x8, x9, x10, x11, x12, x13, x14, x15, rfl⟩ := list16 hb
  simp only [impl_IsBoard_p, impl_IsBoard_c]
  rw [contains_IsBoard F _ (by simp [sub]) (by simp) hF]
  simp only [Option.isSome_some, Option.getD_some, cond_true, any_not_all]
  congr 1
  simp [okB, sub, Bool.and_assoc]
theorem spec_l2Board_eq (F : Nat) (b : List Int) (hb : b.length = 16) (hF : 1000 < F) : spec_l2Board_p F b = some (okB b) := by
  have h1 : ∀ r : Nat, r < 4 → spec_l2Board_l5 F r b 0 = some ((List.range 4).any fun c => !inB (iget b (0 + r * 4 + c * 1)) 0 17) := fun r hr => by
    rw [← fnd_any]
    refine loop_find (fun i => i) 4 _ _ _ (by omega) (by omega) (fun i hi Q kn kx => ?_) fun Q kn kx => ?_
    · have hi' : (i : Int) < 4 := by omega
      simp only [spec_l2Board_s5, inR_cast, hi, hi', hr, Int.toNat_natCast, decide_true, cond_true, l1In_eq]
    · simp [spec_l2Board_s5]
  have h2 : spec_l2Board_l2 F b 0 = some ((List.range 4).any fun r => (List.range 4).any fun c => !inB (iget b (0 + r * 4 + c * 1)) 0 17) := by
    rw [← fnd_any]
    refine loop_find (fun i => i) 4 _ _ _ (by omega) (by omega) (fun i hi Q kn kx => ?_) fun Q kn kx => ?_
    · have hi' : (i : Int) < 4 := by omega
      simp only [spec_l2Board_s2, hi', h1 i hi, decide_true, cond_true, Option.isSome_some, Option.getD_some]
    · simp [spec_l2Board_s2]
  simp only [spec_l2Board_p, spec_l2Board_c, h2, Option.isSome_some, Option.getD_some, cond_true]
  obtain ⟨x0, x1, x2, x3, x4, x5, x6, x7, x8, x9, x10, x11, x12, x13, x14, x15, rfl⟩ := list16 hb
  have e : okB [x0, x1, x2, x3, x4, x5, x6, x7, x8, x9, x10, x11, x12, x13, x14, x15] = !((List.range 4).any fun r => (List.range 4).any fun c => !inB (iget [x0, x1, x2, x3, x4, x5, x6, x7, x8, x9, x10, x11, x12, x13, x14, x15] (0 + r * 4 + c * 1)) 0 17) := by
    simp [okB, List.range_succ, iget, Bool.and_assoc]
  rw [e]
  cases ((List.range 4).any fun r => (List.range 4).any fun c => !inB (iget [x0, x1, x2, x3, x4, x5, x6, x7, x8, x9, x10, x11, x12, x13, x14, x15] (0 + r * 4 + c * 1)) 0 17) <;> rfl
end Go.Lv.P

namespace Go.Lv.P
open Go Go.Lv
abbrev LL := List (List Int)
theorem rset_take (s : LL) (i : Nat) (x : List Int) (h : i < s.length) : (rset s i x).take (i + 1) = s.take i ++ [x] := by
  rw [rsetL, List.take_add_one]
  simp [List.take_set_of_le, h]
theorem delete_loop {step : (Q : Type) → Int × Int × LL → (Int × Int × LL → Option Q) → (Int × LL → Option Q) → Option Q} (q : List Int → Bool) (Pr : List Int → Prop) (n : Nat) (hn : n ≤ 1000000)
    (hs : ∀ (i j : Nat) (s : LL), i ≤ j → j < n → s.length = n → Pr (rget s (0 + j)) → ∀ (Q : Type) kn kx, step Q (i, j, s) kn kx = bif q (rget s (0 + j)) then kn (i, IntKind.wrap .i64 ((j : Int) + 1), s) else kn (IntKind.wrap .i64 ((i : Int) + 1), IntKind.wrap .i64 ((j : Int) + 1), rset s (0 + i) (rget s (0 + j))))
    (he : ∀ (i : Nat) (s : LL) (Q : Type) kn kx, step Q (i, n, s) kn kx = kx (i, s)) :
    ∀ (m i j F : Nat) (s : LL), j + m = n → m < F → i ≤ j → s.length = n → (∀ x ∈ s.drop j, Pr x) →
      ∃ s', loopC step F ((i : Int), (j : Int), s) some = some (((i + ((s.drop j).filter fun x => !q x).length : Nat) : Int), s') ∧ s'.length = n ∧ s'.take (i + ((s.drop j).filter fun x => !q x).length) = s.take i ++ (s.drop j).filter fun x => !q x
  | 0, i, j, F, s, hj, hF, hi, hl, hp => by
    obtain ⟨G, rfl⟩ : ∃ G, F = G + 1 := ⟨F - 1, by omega⟩
    have hjn : j = n := by omega
    have hd : s.drop j = [] := List.drop_eq_nil_of_le (by omega)
    refine ⟨s, ?_, hl, ?_⟩
    · rw [hd, hjn]
      simp only [loopC, he, List.filter_nil, List.length_nil, Nat.add_zero]
    · rw [hd]; simp
  | m + 1, i, j, F, s, hj, hF, hi, hl, hp => by
    obtain ⟨G, rfl⟩ : ∃ G, F = G + 1 := ⟨F - 1, by omega⟩
    have hjl : j < s.length := by omega
    have hd : s.drop j = s[j] :: s.drop (j + 1) := List.drop_eq_getElem_cons hjl
    have hg : rget s (0 + j) = s[j] := by rw [Nat.zero_add, rgetL, List.getElem?_eq_getElem hjl]; rfl
    have hpj : Pr (rget s (0 + j)) := by rw [hg]; exact hp _ (hd ▸ List.mem_cons_self)
    simp only [loopC]
    rw [hs i j s hi (by omega) hl hpj, wrap_succ (n := n) (by omega) (by omega), wrap_succ (n := n) (by omega) (by omega)]
    cases hq : q (rget s (0 + j)) with
    | true =>
      simp only [cond_true]
      obtain ⟨s', h1, h2, h3⟩ := delete_loop q Pr n hn hs he m i (j + 1) G s (by omega) (by omega) (by omega) hl (fun x hx => hp x (hd ▸ List.mem_cons_of_mem _ hx))
      have e : ((s.drop j).filter fun x => !q x) = (s.drop (j + 1)).filter fun x => !q x := by
        rw [hd, List.filter_cons, ← hg, hq]; rfl
      rw [e]
      exact ⟨s', h1, h2, h3⟩
    | false =>
      simp only [cond_false]
      have hdr : (rset s (0 + i) (rget s (0 + j))).drop (j + 1) = s.drop (j + 1) := by
        rw [rsetL, List.drop_set_of_lt (by omega)]
      obtain ⟨s', h1, h2, h3⟩ := delete_loop q Pr n hn hs he m (i + 1) (j + 1) G (rset s (0 + i) (rget s (0 + j))) (by omega) (by omega) (by omega) (by rw [rsetL]; simpa using hl) (fun x hx => hp x (hd ▸ List.mem_cons_of_mem _ (hdr ▸ hx)))
      rw [hdr] at h1 h3
      have e : ((s.drop j).filter fun x => !q x) = s[j] :: (s.drop (j + 1)).filter fun x => !q x := by
        rw [hd, List.filter_cons, ← hg, hq]; rfl
      rw [e, List.length_cons]
      refine ⟨s', ?_, h2, ?_⟩
      · rw [h1]; congr 3; omega
      · rw [show i + ((List.filter (fun x => !q x) (s.drop (j + 1))).length + 1) = i + 1 + (List.filter (fun x => !q x) (s.drop (j + 1))).length by omega, h3, Nat.zero_add, rset_take _ _ _ (by omega), hg]
        simp
/-- the first place at which one is to go: all ahead of it stay -/
theorem fnd_split (s : LL) (q : List Int → Bool) : ∀ (m i : Nat), i + m = s.length → (s.take i).all (fun x => !q x) = true →
    (fnd (fun i => q (rget s i)) (fun i => (true, (i : Int))) (false, default) i m = (false, default) ∧ s.all (fun x => !q x) = true) ∨
    ∃ j, j < s.length ∧ fnd (fun i => q (rget s i)) (fun i => (true, (i : Int))) (false, default) i m = (true, (j : Int)) ∧ q (rget s j) = true ∧ (s.take j).all (fun x => !q x) = true
  | 0, i, hi, ha => by
    refine .inl ⟨rfl, ?_⟩
    rwa [List.take_of_length_le (by omega)] at ha
  | m + 1, i, hi, ha => by
    have hil : i < s.length := by omega
    have hg : rget s i = s[i] := by rw [rgetL, List.getElem?_eq_getElem hil]; rfl
    cases hq : q (rget s i) with
    | true => exact .inr ⟨i, hil, by simp only [fnd, hq, cond_true], hq, ha⟩
    | false =>
      have := fnd_split s q m (i + 1) (by omega) (by
        rw [List.take_add_one, List.getElem?_eq_getElem hil, List.all_append, ha]
        rw [hg] at hq
        simp [hq])
      simp only [fnd, hq, cond_false]
      exact this
theorem filter_all {s : LL} {q : List Int → Bool} (h : s.all (fun x => !q x) = true) : (s.filter fun x => !q x) = s := by
  rw [List.filter_eq_self]
  simpa using h
/-- what is known behind a deletion: the slice's length, its memory -/
def Deleted (s : LL) (q : List Int → Bool) (r : Nat × LL) : Prop :=
  r.1 = (s.filter fun x => !q x).length ∧ r.2.take r.1 = s.filter (fun x => !q x) ∧ r.2.length = s.length
theorem splice_take (s z : LL) (k n : Nat) (hk : k ≤ s.length) (hz : z.length = n) : (splice s (0 + k) z n).take k = s.take k := by
  unfold splice
  rw [Nat.zero_add, List.append_assoc, List.take_append_of_le_length (by simp; omega), List.take_take, Nat.min_self]
theorem splice_len' (s z : LL) (k : Nat) (hk : k ≤ s.length) (hz : z.length = s.length - k) : (splice s (0 + k) z (s.length - k)).length = s.length := by
  unfold splice
  simp [hz]
  omega
theorem Deleted.get {s : LL} {q : List Int → Bool} {r : Nat × LL} (h : Deleted s q r) {i : Nat} (hi : i < r.1) : rget r.2 (0 + i) = rget (s.filter fun x => !q x) i := by
  rw [Nat.zero_add, rgetL, rgetL, ← h.2.1, List.getElem?_take, if_pos hi]
end Go.Lv.P

namespace Go.Lv.P
open Go Go.Lv
theorem isetI_take (s : List Int) (i : Nat) (x : Int) (h : i < s.length) : (iset s i x).take (i + 1) = s.take i ++ [x] := by
  rw [isetL, List.take_add_one]
  simp [List.take_set_of_le, h]
theorem delete_loopI {step : (Q : Type) → Int × Int × List Int → (Int × Int × List Int → Option Q) → (Int × List Int → Option Q) → Option Q} (q : Int → Bool) (Pr : Int → Prop) (n : Nat) (hn : n ≤ 1000000)
    (hs : ∀ (i j : Nat) (s : List Int), i ≤ j → j < n → s.length = n → Pr (iget s (0 + j)) → ∀ (Q : Type) kn kx, step Q (i, j, s) kn kx = bif q (iget s (0 + j)) then kn (i, IntKind.wrap .i64 ((j : Int) + 1), s) else kn (IntKind.wrap .i64 ((i : Int) + 1), IntKind.wrap .i64 ((j : Int) + 1), iset s (0 + i) (iget s (0 + j))))
    (he : ∀ (i : Nat) (s : List Int) (Q : Type) kn kx, step Q (i, n, s) kn kx = kx (i, s)) :
    ∀ (m i j F : Nat) (s : List Int), j + m = n → m < F → i ≤ j → s.length = n → (∀ x ∈ s.drop j, Pr x) →
      ∃ s', loopC step F ((i : Int), (j : Int), s) some = some (((i + ((s.drop j).filter fun x => !q x).length : Nat) : Int), s') ∧ s'.length = n ∧ s'.take (i + ((s.drop j).filter fun x => !q x).length) = s.take i ++ (s.drop j).filter fun x => !q x
  | 0, i, j, F, s, hj, hF, hi, hl, hp => by
    obtain ⟨G, rfl⟩ : ∃ G, F = G + 1 := ⟨F - 1, by omega⟩
    have hjn : j = n := by omega
    have hd : s.drop j = [] := List.drop_eq_nil_of_le (by omega)
    refine ⟨s, ?_, hl, ?_⟩
    · rw [hd, hjn]
      simp only [loopC, he, List.filter_nil, List.length_nil, Nat.add_zero]
    · rw [hd]; simp
  | m + 1, i, j, F, s, hj, hF, hi, hl, hp => by
    obtain ⟨G, rfl⟩ : ∃ G, F = G + 1 := ⟨F - 1, by omega⟩
    have hjl : j < s.length := by omega
    have hd : s.drop j = s[j] :: s.drop (j + 1) := List.drop_eq_getElem_cons hjl
    have hg : iget s (0 + j) = s[j] := by rw [Nat.zero_add, igetL, List.getElem?_eq_getElem hjl]; rfl
    have hpj : Pr (iget s (0 + j)) := by rw [hg]; exact hp _ (hd ▸ List.mem_cons_self)
    simp only [loopC]
    rw [hs i j s hi (by omega) hl hpj, wrap_succ (n := n) (by omega) (by omega), wrap_succ (n := n) (by omega) (by omega)]
    cases hq : q (iget s (0 + j)) with
    | true =>
      simp only [cond_true]
      obtain ⟨s', h1, h2, h3⟩ := delete_loopI q Pr n hn hs he m i (j + 1) G s (by omega) (by omega) (by omega) hl (fun x hx => hp x (hd ▸ List.mem_cons_of_mem _ hx))
      have e : ((s.drop j).filter fun x => !q x) = (s.drop (j + 1)).filter fun x => !q x := by
        rw [hd, List.filter_cons, ← hg, hq]; rfl
      rw [e]
      exact ⟨s', h1, h2, h3⟩
    | false =>
      simp only [cond_false]
      have hdr : (iset s (0 + i) (iget s (0 + j))).drop (j + 1) = s.drop (j + 1) := by
        rw [isetL, List.drop_set_of_lt (by omega)]
      obtain ⟨s', h1, h2, h3⟩ := delete_loopI q Pr n hn hs he m (i + 1) (j + 1) G (iset s (0 + i) (iget s (0 + j))) (by omega) (by omega) (by omega) (by rw [isetL]; simpa using hl) (fun x hx => hp x (hd ▸ List.mem_cons_of_mem _ (hdr ▸ hx)))
      rw [hdr] at h1 h3
      have e : ((s.drop j).filter fun x => !q x) = s[j] :: (s.drop (j + 1)).filter fun x => !q x := by
        rw [hd, List.filter_cons, ← hg, hq]; rfl
      rw [e, List.length_cons]
      refine ⟨s', ?_, h2, ?_⟩
      · rw [h1]; congr 3; omega
      · rw [show i + ((List.filter (fun x => !q x) (s.drop (j + 1))).length + 1) = i + 1 + (List.filter (fun x => !q x) (s.drop (j + 1))).length by omega, h3, Nat.zero_add, isetI_take _ _ _ (by omega), hg]
        simp
/-- the first place at which one is to go: all ahead of it stay -/
theorem fnd_splitI (s : List Int) (q : Int → Bool) : ∀ (m i : Nat), i + m = s.length → (s.take i).all (fun x => !q x) = true →
    (fnd (fun i => q (iget s i)) (fun i => (true, (i : Int))) (false, default) i m = (false, default) ∧ s.all (fun x => !q x) = true) ∨
    ∃ j, j < s.length ∧ fnd (fun i => q (iget s i)) (fun i => (true, (i : Int))) (false, default) i m = (true, (j : Int)) ∧ q (iget s j) = true ∧ (s.take j).all (fun x => !q x) = true
  | 0, i, hi, ha => by
    refine .inl ⟨rfl, ?_⟩
    rwa [List.take_of_length_le (by omega)] at ha
  | m + 1, i, hi, ha => by
    have hil : i < s.length := by omega
    have hg : iget s i = s[i] := by rw [igetL, List.getElem?_eq_getElem hil]; rfl
    cases hq : q (iget s i) with
    | true => exact .inr ⟨i, hil, by simp only [fnd, hq, cond_true], hq, ha⟩
    | false =>
      have := fnd_splitI s q m (i + 1) (by omega) (by
        rw [List.take_add_one, List.getElem?_eq_getElem hil, List.all_append, ha]
        rw [hg] at hq
        simp [hq])
      simp only [fnd, hq, cond_false]
      exact this
theorem filter_allI {s : List Int} {q : Int → Bool} (h : s.all (fun x => !q x) = true) : (s.filter fun x => !q x) = s := by
  rw [List.filter_eq_self]
  simpa using h
/-- what is known behind a deletion: the slice's length, its memory -/
def DeletedI (s : List Int) (q : Int → Bool) (r : Nat × List Int) : Prop :=
  r.1 = (s.filter fun x => !q x).length ∧ r.2.take r.1 = s.filter (fun x => !q x) ∧ r.2.length = s.length
theorem splice_takeI (s z : List Int) (k n : Nat) (hk : k ≤ s.length) (hz : z.length = n) : (splice s (0 + k) z n).take k = s.take k := by
  unfold splice
  rw [Nat.zero_add, List.append_assoc, List.take_append_of_le_length (by simp; omega), List.take_take, Nat.min_self]
theorem splice_lenI (s z : List Int) (k : Nat) (hk : k ≤ s.length) (hz : z.length = s.length - k) : (splice s (0 + k) z (s.length - k)).length = s.length := by
  unfold splice
  simp [hz]
  omega
theorem DeletedI.get {s : List Int} {q : Int → Bool} {r : Nat × List Int} (h : DeletedI s q r) {i : Nat} (hi : i < r.1) : iget r.2 (0 + i) = iget (s.filter fun x => !q x) i := by
  rw [Nat.zero_add, igetL, igetL, ← h.2.1, List.getElem?_take, if_pos hi]
end Go.Lv.P

namespace Go.Lv.P
open Go Go.Lv
/-- a loop whose rounds go on -/
theorem loop_ex {S A X : Type} {step : (Q : Type) → S → (S → Option Q) → (X → Option Q) → Option Q} (mk : Int → A → S) (n : Nat) (e : A → X) (I : Nat → A → Prop) {F : Nat} (hF : n < F) (hn : n ≤ 4611686018427387904)
    (hs : ∀ (i : Nat) (a : A), i < n → I i a → ∃ a', I (i + 1) a' ∧ ∀ (Q : Type) (kn : S → Option Q) (kx : X → Option Q), step Q (mk (i : Int) a) kn kx = kn (mk (IntKind.wrap .i64 ((i : Int) + 1)) a'))
    (he : ∀ (a : A), I n a → ∀ (Q : Type) (kn : S → Option Q) (kx : X → Option Q), step Q (mk (n : Int) a) kn kx = kx (e a)) {a : A} (h0 : I 0 a) : ∃ a', I n a' ∧ loopC step F (mk 0 a) some = some (e a') := by
  have key : ∀ (m i F : Nat) (a : A), i + m = n → m < F → I i a → ∃ a', I n a' ∧ loopC step F (mk (i : Int) a) some = some (e a') := by
    intro m
    induction m with
    | zero =>
      intro i F a hi hF h
      obtain ⟨G, rfl⟩ : ∃ G, F = G + 1 := ⟨F - 1, by omega⟩
      have : i = n := by omega
      subst this
      exact ⟨a, h, by simp only [loopC]; exact he a h _ _ _⟩
    | succ m ih =>
      intro i F a hi hF h
      obtain ⟨G, rfl⟩ : ∃ G, F = G + 1 := ⟨F - 1, by omega⟩
      obtain ⟨a', h1, h2⟩ := hs i a (by omega) h
      obtain ⟨b, g1, g2⟩ := ih (i + 1) G a' (by omega) (by omega) h1
      refine ⟨b, g1, ?_⟩
      simp only [loopC, h2]
      rw [wrap_succ (n := n) (by omega) hn]
      exact g2
  exact key n 0 F a (by omega) hF h0
/-- the place of a cursor -/
def Cur (n : Nat) (a : Int) : Prop := 0 ≤ a ∧ a ≤ (n : Int)
theorem Cur.mono {n m : Nat} {a : Int} (h : Cur n a) (hm : n ≤ m) : Cur m a := ⟨h.1, by have := h.2; omega⟩
/-- bytes -/
def Byt (c : List Int) : Prop := ∀ x ∈ c, 0 ≤ x ∧ x ≤ 255
theorem low_byte (x : Int) : ∃ n : Nat, n ≤ 255 ∧ IntKind.wrap .i64 (IntKind.wrap .u64 (((BitVec.ofInt (IntKind.bits .u64) x &&& BitVec.ofInt (IntKind.bits .u64) (255 : Int)).toNat : Nat) : Int)) = (n : Int) := by
  have h255 : (BitVec.ofInt (IntKind.bits .u64) (255 : Int)).toNat = 255 := by decide
  generalize hy : (BitVec.ofInt (IntKind.bits .u64) x) = y
  have hle : (y &&& BitVec.ofInt (IntKind.bits .u64) (255 : Int)).toNat ≤ 255 := by
    rw [BitVec.toNat_and, h255]
    exact Nat.and_le_right
  generalize (y &&& BitVec.ofInt (IntKind.bits .u64) (255 : Int)).toNat = n at hle
  refine ⟨n, hle, ?_⟩
  have e1 : IntKind.wrap .u64 (n : Int) = n := by rw [IntKind.wrap_u64]; omega
  rw [e1, wrap_of (by omega) (by omega)]
section
variable {c : List Int} (hc : Byt c)
include hc
theorem next_ok {n : Nat} (hn : n ≤ 1000000000) {a s : Int} (h : Cur n a) : ∃ v a' s', spec_l1Cur_next_p c a s = some (v, a', s') ∧ 0 ≤ v ∧ v ≤ 255 ∧ Cur (n + 1) a' := by
  obtain ⟨k, rfl⟩ := Int.eq_ofNat_of_zero_le h.1
  have hk : k ≤ n := by have := h.2; omega
  have hw : IntKind.wrap .i64 ((k : Int) + 1) = ((k + 1 : Nat) : Int) := by rw [wrap_of (by omega) (by omega)]; omega
  have hcur : Cur (n + 1) ((k + 1 : Nat) : Int) := ⟨by omega, by omega⟩
  simp only [spec_l1Cur_next_p, spec_l1Cur_next_c, hw, Int.ofNat_lt, Int.ofNat_le, inR_cast, Int.toNat_natCast]
  by_cases hl : k < c.length
  · have hle : k + 1 ≤ c.length := hl
    have hb : 0 ≤ iget c k ∧ iget c k ≤ 255 := by
      rw [igetL, List.getElem?_eq_getElem hl]
      exact hc _ (List.getElem_mem hl)
    simp only [hl, hle, decide_true, cond_true]
    exact ⟨_, _, _, rfl, by rw [wrap_of (by omega) (by omega)]; exact hb.1, by rw [wrap_of (by omega) (by omega)]; exact hb.2, hcur⟩
  · have hle : ¬ (k + 1 ≤ c.length) := by omega
    simp only [hl, hle, decide_false, cond_false]
    generalize IntKind.wrap .u64 ((IntKind.wrap .u64 ((IntKind.wrap .u64 (s * (6364136223846793005 : Int))) + (0 : Int))) + (462197 : Int)) = z
    generalize (Int.fdiv z (2 ^ (min (Int.toNat (40 : Int)) (IntKind.bits .u64)) : Int)) = x
    obtain ⟨m, m1, m2⟩ := low_byte x
    rw [m2]
    exact ⟨_, _, _, rfl, by omega, by omega, hcur⟩
theorem pick_ok {n : Nat} (hn : n ≤ 900000000) {q : Nat} (h1 : 1 ≤ q) (h2 : q ≤ 65536) {a s : Int} (h : Cur n a) : ∃ (v : Nat) (a' s' : Int), spec_l1Cur_pick_p (q : Int) c a s = some ((v : Int), a', s') ∧ v < q ∧ Cur (n + 2) a' := by
  simp only [spec_l1Cur_pick_p, spec_l1Cur_pick_c]
  by_cases hq : q ≤ 1
  · have hd : decide (((q : Nat) : Int) ≤ 1) = true := decide_eq_true (by omega)
    simp only [hd, cond_true]
    exact ⟨0, _, _, rfl, by omega, h.mono (by omega)⟩
  · have hd : decide (((q : Nat) : Int) ≤ 1) = false := decide_eq_false (by omega)
    obtain ⟨v, a1, s1, e1, v0, v1, c1⟩ := next_ok hc (by omega) h (s := s)
    obtain ⟨v', a2, s2, e2, u0, u1, c2⟩ := next_ok hc (n := n + 1) (by omega) c1 (s := s1)
    have hz : (((q : Nat) : Int) == 0) = false := by rw [beq_eq_false_iff_ne]; omega
    have fin : ∀ x : Int, 0 ≤ x → ∃ v : Nat, Int.tmod x ((q : Nat) : Int) = (v : Int) ∧ v < q := fun x hx => by
      obtain ⟨m, rfl⟩ := Int.eq_ofNat_of_zero_le hx
      refine ⟨m % q, ?_, Nat.mod_lt _ (by omega)⟩
      rw [Int.tmod_eq_emod_of_nonneg hx]; rfl
    simp only [hd, cond_false, e1, e2, hz, Option.isSome_some, Option.getD_some, cond_true]
    by_cases h200 : (200 : Int) < ((q : Nat) : Int)
    · simp only [h200, decide_true, cond_true]
      have w1 : IntKind.wrap .i64 (v * 256) = v * 256 := wrap_of (by omega) (by omega)
      have w2 : IntKind.wrap .i64 (v * 256 + v') = v * 256 + v' := wrap_of (by omega) (by omega)
      rw [w1, w2]
      obtain ⟨m, m1, m2⟩ := fin (v * 256 + v') (by omega)
      rw [m1]
      exact ⟨m, _, _, rfl, m2, c2.mono (by omega)⟩
    · simp only [h200, decide_false, cond_false]
      obtain ⟨m, m1, m2⟩ := fin v v0
      rw [m1]
      exact ⟨m, _, _, rfl, m2, c1.mono (by omega)⟩
theorem one_ok {n : Nat} (hn : n ≤ 900000000) {q : Nat} (h1 : 1 ≤ q) (h2 : q ≤ 65536) {a s : Int} (h : Cur n a) : ∃ (v : Bool) (a' s' : Int), spec_l1Cur_one_p (q : Int) c a s = some (v, a', s') ∧ Cur (n + 2) a' := by
  obtain ⟨v, a', s', e, _, g⟩ := pick_ok hc hn h1 h2 h (s := s)
  exact ⟨((v : Int) == 0), a', s', by simp only [spec_l1Cur_one_p, spec_l1Cur_one_c, e, Option.isSome_some, Option.getD_some, cond_true], g⟩
theorem among_ok {n : Nat} (hn : n ≤ 900000000) {l : List Int} (h1 : 1 ≤ l.length) (h2 : l.length ≤ 65536) {a s : Int} (h : Cur n a) : ∃ (v a' s' : Int), spec_l1Cur_among_p l c a s = some (v, a', s') ∧ v ∈ l ∧ Cur (n + 2) a' := by
  obtain ⟨v, a', s', e, hv, g⟩ := pick_ok hc hn h1 h2 h (s := s)
  refine ⟨iget l v, a', s', by simp only [spec_l1Cur_among_p, spec_l1Cur_among_c, e, Option.isSome_some, Option.getD_some, cond_true, inR_cast, hv, decide_true, Int.toNat_natCast], ?_, g⟩
  rw [igetL, List.getElem?_eq_getElem hv]
  exact List.getElem_mem hv
theorem tile_ok {n : Nat} (hn : n ≤ 900000000) {a s : Int} (h : Cur n a) : ∃ (v a' s' : Int), spec_l1Cur_tile_p c a s = some (v, a', s') ∧ Cur (n + 2) a' := by
  obtain ⟨v, a', s', e, _, g⟩ := among_ok hc hn (l := [1, 2, 0, 1, 3, 0, 2, 1, 4, 5, 0]) (by decide) (by decide) h (s := s)
  exact ⟨v, a', s', by simp only [spec_l1Cur_tile_p, spec_l1Cur_tile_c, e, Option.isSome_some, Option.getD_some, cond_true], g⟩
end
end Go.Lv.P

namespace Go.Lv.P
open Go Go.Lv
/-- the ones among the lowest digits -/
def cnt : Nat → Nat → Nat
  | 0, _ => 0
  | k + 1, y => y / 2 ^ k + cnt k (y % 2 ^ k)
def cntT : Nat → Nat → Nat
  | 0, _ => 0
  | k + 1, n => n / 2 ^ (k + 1) + cntT k (n % 2 ^ (k + 1))
theorem cnt_le : ∀ (k y : Nat), cnt k (y % 2 ^ k) ≤ k
  | 0, y => Nat.le_refl _
  | k + 1, y => by
    have h := cnt_le k (y % 2 ^ (k + 1))
    have : y % 2 ^ (k + 1) / 2 ^ k < 2 := by
      rw [Nat.div_lt_iff_lt_mul (Nat.two_pow_pos k), ← Nat.pow_succ']
      exact Nat.mod_lt _ (Nat.two_pow_pos _)
    rw [cnt]
    omega
theorem cntT_even : ∀ (k y : Nat), cntT k (2 * y) = cnt k y
  | 0, y => rfl
  | k + 1, y => by
    rw [cntT, cnt, Nat.pow_succ, Nat.mul_comm (2 ^ k) 2, Nat.mul_div_mul_left _ _ (by omega), Nat.mul_mod_mul_left, cntT_even k]
theorem wu (n : Nat) (h : n < 2 ^ 64) : IntKind.wrap .u64 (n : Int) = n := by
  show ((n : Int) % 2 ^ 64) = n
  omega
theorem wi (n : Nat) (h : n < 2 ^ 63) : IntKind.wrap .i64 (n : Int) = n := wrap_of (by omega) (by omega)
/-- the tiles of the least list -/
def lst : Nat → Nat → List Int
  | 0, _ => []
  | k + 1, n => List.replicate (n / 2 ^ (k + 1)) ((k + 1 : Nat) : Int) ++ lst k (n % 2 ^ (k + 1))
theorem lst_len : ∀ k n, (lst k n).length = cntT k n
  | 0, n => rfl
  | k + 1, n => by rw [lst, cntT, List.length_append, List.length_replicate, lst_len k]
end Go.Lv.P

namespace Go.Lv.P
open Go Go.Lv
/-- the worth of a number of a cell -/
def W (t : Int) : Int := if t = 0 then 0 else 2 ^ t.toNat
theorem tile_cases {t : Int} (h : inB t 0 17 = true) : t = 0 ∨ t = 1 ∨ t = 2 ∨ t = 3 ∨ t = 4 ∨ t = 5 ∨ t = 6 ∨ t = 7 ∨ t = 8 ∨ t = 9 ∨ t = 10 ∨ t = 11 ∨ t = 12 ∨ t = 13 ∨ t = 14 ∨ t = 15 ∨ t = 16 ∨ t = 17 := by
  simp [inB] at h; omega
theorem W_facts {t : Int} (h : inB t 0 17 = true) : 0 ≤ W t ∧ W t ≤ 131072 ∧ W t % 2 = 0 := by
  rcases tile_cases h with h | h | h | h | h | h | h | h | h | h | h | h | h | h | h | h | h | h <;> subst h <;> decide
end Go.Lv.P

namespace Go.Lv.P
open Go Go.Lv
theorem iset_len16 {l : List Int} (h : l.length = 16) (i : Nat) (x : Int) : (iset l i x).length = 16 := by rw [isetL, List.length_set, h]
theorem splicen_len16 {l z : List Int} (h : l.length = 16) (hz : z.length = 4) {k : Nat} (hk : k < 4) : (splicen 16 l (0 + k * 4) z 4).length = 16 := by
  obtain ⟨z0, z1, z2, z3, rfl⟩ := list4 hz
  obtain ⟨x0, x1, x2, x3, x4, x5, x6, x7, x8, x9, xa, xb, xc, xd, xe, xf, rfl⟩ := list16 h
  obtain rfl | rfl | rfl | rfl : k = 0 ∨ k = 1 ∨ k = 2 ∨ k = 3 := by omega
  all_goals rfl
section
variable {c : List Int} (hc : Byt c) (F : Nat) (hF : 1000 < F)
include hc hF
theorem board_in {n : Nat} (hn : n ≤ 800000000) (few full : Bool) {r : Nat} (hr : r < 4) {a s : Int} (h : Cur n a) {b : List Int} (hb : b.length = 16) : ∃ (a' s' : Int) (b' : List Int), spec_l1Cur_board_l6 F few full r c 0 a s b = some (a', s', b') ∧ b'.length = 16 ∧ Cur (n + 24) a' := by
  obtain ⟨⟨a', s', b'⟩, ⟨g1, g2⟩, g3⟩ := loop_ex (step := spec_l1Cur_board_s6 F few full r c) (fun i (x : Int × Int × List Int) => (i, x.1, x.2.1, x.2.2)) 4 (fun x => x) (fun i x => Cur (n + 6 * i) x.1 ∧ x.2.2.length = 16) (F := F) (by omega) (by omega)
    (fun i x hi ⟨h1, h2⟩ => by
      obtain ⟨xa, xs, xb⟩ := x
      simp only at h1 h2
      have hi' : (i : Int) < 4 := by omega
      obtain ⟨v1, a1, s1, e1, c1⟩ := tile_ok hc (by omega) h1 (s := xs)
      obtain ⟨v3, a3, s3, e3, c3⟩ := one_ok hc (by omega) (q := 3) (by decide) (by decide) c1 (s := s1)
      obtain ⟨v4, a4, s4, e4, _, c4⟩ := pick_ok hc (by omega) (q := 3) (by decide) (by decide) c3 (s := s3)
      obtain ⟨v5, a5, s5, e5, _, c5⟩ := pick_ok hc (by omega) (q := 3) (by decide) (by decide) c1 (s := s1)
      have q3 : ((3 : Nat) : Int) = 3 := rfl
      rw [q3] at e3 e4 e5
      have w : ∀ (a' s' : Int) (b' : List Int), b'.length = 16 → Cur (n + 6 * i + 2 + 2 + 2) a' → (∀ (Q : Type) (kn : Int × Int × Int × List Int → Option Q) (kx : Int × Int × List Int → Option Q), spec_l1Cur_board_s6 F few full r c Q ((i : Int), xa, xs, xb) kn kx = kn (IntKind.wrap .i64 ((i : Int) + 1), a', s', b')) →
          ∃ a' : Int × Int × List Int, (Cur (n + 6 * (i + 1)) a'.1 ∧ a'.2.2.length = 16) ∧ ∀ (Q : Type) (kn : Int × Int × Int × List Int → Option Q) (kx : Int × Int × List Int → Option Q), spec_l1Cur_board_s6 F few full r c Q ((i : Int), xa, xs, xb) kn kx = kn (IntKind.wrap .i64 ((i : Int) + 1), a'.1, a'.2.1, a'.2.2) := fun a' s' b' h1 h2 h3 => ⟨(a', s', b'), ⟨h2.mono (by omega), h1⟩, h3⟩
      have l1 : ∀ k x, (iset xb k x).length = 16 := fun k x => iset_len16 h2 k x
      cases few with
      | true =>
        cases v3 with
        | false =>
          cases full with
          | true => exact w _ _ _ (l1 _ _) c4 fun Q kn kx => by simp only [spec_l1Cur_board_s6, hi', hi, hr, inR_cast, e1, e3, e4, Option.isSome_some, Option.getD_some, decide_true, cond_true, Bool.not_false]; rfl
          | false => exact w _ _ _ (l1 _ _) (c3.mono (by omega)) fun Q kn kx => by simp only [spec_l1Cur_board_s6, hi', hi, hr, inR_cast, e1, e3, e4, Option.isSome_some, Option.getD_some, decide_true, cond_true, cond_false, Bool.not_false]; rfl
        | true =>
          cases full with
          | true =>
            cases hv : v1 == 0 with
            | true => exact w _ _ _ (l1 _ _) c4 fun Q kn kx => by simp only [spec_l1Cur_board_s6, hi', hi, hr, inR_cast, e1, e3, e4, hv, Option.isSome_some, Option.getD_some, decide_true, cond_true, cond_false, Bool.not_true]; rfl
            | false => exact w _ _ _ (l1 _ _) (c3.mono (by omega)) fun Q kn kx => by simp only [spec_l1Cur_board_s6, hi', hi, hr, inR_cast, e1, e3, e4, hv, Option.isSome_some, Option.getD_some, decide_true, cond_true, cond_false, Bool.not_true]; rfl
          | false => exact w _ _ _ (l1 _ _) (c3.mono (by omega)) fun Q kn kx => by simp only [spec_l1Cur_board_s6, hi', hi, hr, inR_cast, e1, e3, e4, Option.isSome_some, Option.getD_some, decide_true, cond_true, cond_false, Bool.not_true]; rfl
      | false =>
        cases full with
        | true =>
          cases hv : v1 == 0 with
          | true => exact w _ _ _ (l1 _ _) (c5.mono (by omega)) fun Q kn kx => by simp only [spec_l1Cur_board_s6, hi', hi, hr, inR_cast, e1, e5, hv, Option.isSome_some, Option.getD_some, decide_true, cond_true, cond_false]; rfl
          | false => exact w _ _ _ (l1 _ _) (c1.mono (by omega)) fun Q kn kx => by simp only [spec_l1Cur_board_s6, hi', hi, hr, inR_cast, e1, hv, Option.isSome_some, Option.getD_some, decide_true, cond_true, cond_false]; rfl
        | false => exact w _ _ _ (l1 _ _) (c1.mono (by omega)) fun Q kn kx => by simp only [spec_l1Cur_board_s6, hi', hi, hr, inR_cast, e1, Option.isSome_some, Option.getD_some, decide_true, cond_true, cond_false]; rfl)
    (fun x _ Q kn kx => by simp [spec_l1Cur_board_s6]) (a := (a, s, b)) ⟨h, hb⟩
  exact ⟨a', s', b', g3, g2, g1⟩
theorem board_all {n : Nat} (hn : n ≤ 700000000) (few full : Bool) {a s : Int} (h : Cur n a) {b : List Int} (hb : b.length = 16) : ∃ (a' s' : Int) (b' : List Int), spec_l1Cur_board_l3 F few full c 0 a s b = some (a', s', b') ∧ b'.length = 16 ∧ Cur (n + 96) a' := by
  obtain ⟨⟨a', s', b'⟩, ⟨g1, g2⟩, g3⟩ := loop_ex (step := spec_l1Cur_board_s3 F few full c) (fun i (x : Int × Int × List Int) => (i, x.1, x.2.1, x.2.2)) 4 (fun x => x) (fun i x => Cur (n + 24 * i) x.1 ∧ x.2.2.length = 16) (F := F) (by omega) (by omega)
    (fun i x hi ⟨h1, h2⟩ => by
      obtain ⟨xa, xs, xb⟩ := x
      have hi' : (i : Int) < 4 := by omega
      obtain ⟨a', s', b', e, l, c1⟩ := board_in hc F hF (by omega) few full hi h1 h2 (s := xs)
      exact ⟨(a', s', b'), ⟨c1.mono (by omega), l⟩, fun Q kn kx => by simp only [spec_l1Cur_board_s3, hi', e, Option.isSome_some, Option.getD_some, decide_true, cond_true]⟩)
    (fun x _ Q kn kx => by simp [spec_l1Cur_board_s3]) (a := (a, s, b)) ⟨h, hb⟩
  exact ⟨a', s', b', g3, g2, g1⟩
theorem chess_in {n : Nat} (hn : n ≤ 800000000) {r : Nat} (hr : r < 4) {a s : Int} (h : Cur n a) {b : List Int} (hb : b.length = 16) : ∃ (a' s' : Int) (b' : List Int), spec_l1Cur_board_l29 F r c 0 a s b = some (a', s', b') ∧ b'.length = 16 ∧ Cur (n + 8) a' := by
  obtain ⟨⟨a', s', b'⟩, ⟨g1, g2⟩, g3⟩ := loop_ex (step := spec_l1Cur_board_s29 F r c) (fun i (x : Int × Int × List Int) => (i, x.1, x.2.1, x.2.2)) 4 (fun x => x) (fun i x => Cur (n + 2 * i) x.1 ∧ x.2.2.length = 16) (F := F) (by omega) (by omega)
    (fun i x hi ⟨h1, h2⟩ => by
      obtain ⟨xa, xs, xb⟩ := x
      have hi' : (i : Int) < 4 := by omega
      obtain ⟨v5, a5, s5, e5, _, c5⟩ := pick_ok hc (by omega) (q := 12) (by decide) (by decide) h1 (s := xs)
      have q3 : ((12 : Nat) : Int) = 12 := rfl
      rw [q3] at e5
      exact ⟨(a5, s5, _), ⟨c5.mono (by omega), iset_len16 h2 _ _⟩, fun Q kn kx => by simp only [spec_l1Cur_board_s29, hi', hi, hr, inR_cast, e5, Option.isSome_some, Option.getD_some, decide_true, cond_true]; rfl⟩)
    (fun x _ Q kn kx => by simp [spec_l1Cur_board_s29]) (a := (a, s, b)) ⟨h, hb⟩
  exact ⟨a', s', b', g3, g2, g1⟩
theorem chess_all {n : Nat} (hn : n ≤ 700000000) {a s : Int} (h : Cur n a) {b : List Int} (hb : b.length = 16) : ∃ (a' s' : Int) (b' : List Int), spec_l1Cur_board_l26 F c 0 a s b = some (a', s', b') ∧ b'.length = 16 ∧ Cur (n + 32) a' := by
  obtain ⟨⟨a', s', b'⟩, ⟨g1, g2⟩, g3⟩ := loop_ex (step := spec_l1Cur_board_s26 F c) (fun i (x : Int × Int × List Int) => (i, x.1, x.2.1, x.2.2)) 4 (fun x => x) (fun i x => Cur (n + 8 * i) x.1 ∧ x.2.2.length = 16) (F := F) (by omega) (by omega)
    (fun i x hi ⟨h1, h2⟩ => by
      obtain ⟨xa, xs, xb⟩ := x
      have hi' : (i : Int) < 4 := by omega
      obtain ⟨a', s', b', e, l, c1⟩ := chess_in hc F hF (by omega) hi h1 h2 (s := xs)
      exact ⟨(a', s', b'), ⟨c1.mono (by omega), l⟩, fun Q kn kx => by simp only [spec_l1Cur_board_s26, hi', e, Option.isSome_some, Option.getD_some, decide_true, cond_true]⟩)
    (fun x _ Q kn kx => by simp [spec_l1Cur_board_s26]) (a := (a, s, b)) ⟨h, hb⟩
  exact ⟨a', s', b', g3, g2, g1⟩
theorem board_ok {n : Nat} (hn : n ≤ 600000000) {a s : Int} (h : Cur n a) : ∃ (b : List Int) (a' s' : Int), spec_l1Cur_board_p F c a s = some (b, a', s') ∧ b.length = 16 ∧ Cur (n + 300) a' := by
  obtain ⟨f1, a1, s1, e1, c1⟩ := one_ok hc (by omega) (q := 4) (by decide) (by decide) h (s := s)
  obtain ⟨f2, a2, s2, e2, c2⟩ := one_ok hc (by omega) (q := 4) (by decide) (by decide) c1 (s := s1)
  obtain ⟨a3, s3, b3, e3, l3, c3⟩ := board_all hc F hF (by omega) f1 f2 c2 (s := s2) (b := [0, 0, 0, 0, 0, 0, 0, 0, 0, 0, 0, 0, 0, 0, 0, 0]) rfl
  obtain ⟨v4, a4, s4, e4, _, c4⟩ := pick_ok hc (by omega) (q := 40) (by decide) (by decide) c3 (s := s3)
  obtain ⟨v5, a5, s5, e5, g5, c5⟩ := pick_ok hc (by omega) (q := 4) (by decide) (by decide) c4 (s := s4)
  obtain ⟨v6, a6, s6, e6, g6, c6⟩ := pick_ok hc (by omega) (q := 4) (by decide) (by decide) c5 (s := s5)
  obtain ⟨v7, a7, s7, e7, _, c7⟩ := among_ok hc (by omega) (l := [-1, 18, 4611686018427387904]) (by decide) (by decide) c6 (s := s6)
  obtain ⟨v8, a8, s8, e8, _, c8⟩ := among_ok hc (by omega) (l := [16, 17, 16]) (by decide) (by decide) c4 (s := s4)
  obtain ⟨v9, a9, s9, e9, g9, c9⟩ := pick_ok hc (by omega) (q := 3) (by decide) (by decide) c8 (s := s8)
  obtain ⟨va, aa, sa, ea, ga, ca⟩ := pick_ok hc (by omega) (q := 4) (by decide) (by decide) c9 (s := s9)
  obtain ⟨vb, ab, sb, eb, gb, cb⟩ := pick_ok hc (by omega) (q := 2) (by decide) (by decide) ca (s := sa)
  obtain ⟨ac, sc, bc, ec, lc, cc⟩ := chess_all hc F hF (by omega) c4 (s := s4) l3
  have q2 : ((2 : Nat) : Int) = 2 := rfl
  have q3 : ((3 : Nat) : Int) = 3 := rfl
  have q4 : ((4 : Nat) : Int) = 4 := rfl
  have q40 : ((40 : Nat) : Int) = 40 := rfl
  rw [q4] at e1 e2 e5 e6 ea
  rw [q40] at e4
  rw [q3] at e9
  rw [q2] at eb
  simp only [spec_l1Cur_board_p, spec_l1Cur_board_c, e1, e2, e3, e4, e5, e6, e7, e8, e9, ea, eb, ec, Option.isSome_some, Option.getD_some, cond_true, inR_cast, g5, g6, ga, decide_true, Int.toNat_natCast]
  cases h0 : ((v4 : Int) == 0) with
  | true => exact ⟨_, _, _, rfl, iset_len16 l3 _ _, c7.mono (by omega)⟩
  | false =>
    cases h1 : ((v4 : Int) == 1) with
    | true => exact ⟨_, _, _, rfl, splicen_len16 l3 rfl ga, cb.mono (by omega)⟩
    | false =>
      cases h2 : ((v4 : Int) == 2) with
      | true => exact ⟨_, _, _, rfl, splicen_len16 l3 rfl ga, cb.mono (by omega)⟩
      | false =>
        cases h3 : ((v4 : Int) == 3) with
        | true => exact ⟨_, _, _, rfl, rfl, c4.mono (by omega)⟩
        | false =>
          cases h4 : ((v4 : Int) == 4) with
          | true => exact ⟨_, _, _, rfl, lc, cc.mono (by omega)⟩
          | false => exact ⟨_, _, _, rfl, l3, c4.mono (by omega)⟩
end
end Go.Lv.P

namespace Go.Lv.P
open Go Go.Lv
theorem side_ok {c : List Int} (hc : Byt c) {n : Nat} (hn : n ≤ 800000000) {a s : Int} (h : Cur n a) : ∃ (v a' s' : Int), spec_l1Cur_side_p c a s = some (v, a', s') ∧ Cur (n + 4) a' := by
  obtain ⟨f1, a1, s1, e1, c1⟩ := one_ok hc (by omega) (q := 40) (by decide) (by decide) h (s := s)
  obtain ⟨v2, a2, s2, e2, _, c2⟩ := among_ok hc (by omega) (l := [-1, 4, 4611686018427387904]) (by decide) (by decide) c1 (s := s1)
  obtain ⟨v3, a3, s3, e3, _, c3⟩ := pick_ok hc (by omega) (q := 4) (by decide) (by decide) c1 (s := s1)
  have q4 : ((4 : Nat) : Int) = 4 := rfl
  have q40 : ((40 : Nat) : Int) = 40 := rfl
  rw [q40] at e1
  rw [q4] at e3
  simp only [spec_l1Cur_side_p, spec_l1Cur_side_c, e1, e2, e3, Option.isSome_some, Option.getD_some, cond_true]
  cases f1 with
  | true => exact ⟨_, _, _, rfl, c2.mono (by omega)⟩
  | false => exact ⟨_, _, _, rfl, c3.mono (by omega)⟩
end Go.Lv.P

namespace Go.Lv.P
open Go Go.Lv
abbrev cells16 : LL := [[0, 0], [0, 1], [0, 2], [0, 3], [1, 0], [1, 1], [1, 2], [1, 3], [2, 0], [2, 1], [2, 2], [2, 3], [3, 0], [3, 1], [3, 2], [3, 3]]
/-- the place of a cell -/
def plc (c : List Int) : Nat := 0 + (iget c 0).toNat * 4 + (iget c 1).toNat * 1
/-- the empty cells -/
def em (b : List Int) : LL := cells16.filter fun c => iget b (plc c) == 0
theorem cells_all {p : List Int → Prop} (h : ∀ r c : Nat, r < 4 → c < 4 → p [(r : Int), (c : Int)]) : ∀ x ∈ cells16, p x := by
  intro x hx
  simp only [cells16, List.mem_cons, List.not_mem_nil, or_false] at hx
  rcases hx with rfl | rfl | rfl | rfl | rfl | rfl | rfl | rfl | rfl | rfl | rfl | rfl | rfl | rfl | rfl | rfl
  · exact h 0 0 (by decide) (by decide)
  · exact h 0 1 (by decide) (by decide)
  · exact h 0 2 (by decide) (by decide)
  · exact h 0 3 (by decide) (by decide)
  · exact h 1 0 (by decide) (by decide)
  · exact h 1 1 (by decide) (by decide)
  · exact h 1 2 (by decide) (by decide)
  · exact h 1 3 (by decide) (by decide)
  · exact h 2 0 (by decide) (by decide)
  · exact h 2 1 (by decide) (by decide)
  · exact h 2 2 (by decide) (by decide)
  · exact h 2 3 (by decide) (by decide)
  · exact h 3 0 (by decide) (by decide)
  · exact h 3 1 (by decide) (by decide)
  · exact h 3 2 (by decide) (by decide)
  · exact h 3 3 (by decide) (by decide)
theorem em_not (b : List Int) : (cells16.filter fun x => !!(iget b (plc x) == 0)) = em b := by simp only [Bool.not_not]; rfl
theorem em_len (b : List Int) : (em b).length ≤ 16 := List.length_filter_le _ _
theorem em_mem (b : List Int) : ∀ x ∈ em b, x ∈ cells16 := fun x hx => (List.mem_filter.1 hx).1
theorem fld_add {h : Nat → LL} : ∀ (m i : Nat) (a : LL), fld (fun i a => a ++ h i) i m a = a ++ (List.range' i m).flatMap h
  | 0, i, a => by simp [fld]
  | m + 1, i, a => by
    simp only [fld, fld_add m (i + 1), List.range'_succ, List.flatMap_cons, List.append_assoc]
theorem filter_flatMap (l : LL) (q : List Int → Bool) : l.filter q = l.flatMap fun c => bif q c then [c] else [] := by
  induction l with
  | nil => rfl
  | cons a r ih =>
    rw [List.filter_cons, List.flatMap_cons, ← ih]
    cases q a <;> rfl
theorem flat_len {h : Nat → LL} (hl : ∀ i, (h i).length ≤ 1) : ∀ m i, ((List.range' i m).flatMap h).length ≤ m
  | 0, i => by simp
  | m + 1, i => by
    have := flat_len hl m (i + 1)
    have := hl i
    simp only [List.range'_succ, List.flatMap_cons, List.length_append]
    omega
/-- the placements on a board -/
def plm (b : List Int) : LL := fld (fun i a => a ++ [[iget (rget (em b) i) 0, iget (rget (em b) i) 1, 1], [iget (rget (em b) i) 0, iget (rget (em b) i) 1, 2]]) 0 (em b).length []
theorem plm_mem (b : List Int) : ∀ x ∈ plm b, x.length = 3 := by
  rw [plm, fld_add]
  intro x hx
  simp only [List.nil_append, List.mem_flatMap, List.mem_cons, List.not_mem_nil, or_false] at hx
  obtain ⟨i, _, rfl | rfl⟩ := hx <;> rfl
theorem plm_len (b : List Int) : (plm b).length = 2 * (em b).length := by
  rw [plm, fld_add]
  have : ∀ m i, ((List.range' i m).flatMap fun i => [[iget (rget (em b) i) 0, iget (rget (em b) i) 1, 1], [iget (rget (em b) i) 0, iget (rget (em b) i) 1, (2 : Int)]]).length = 2 * m := by
    intro m
    induction m with
    | zero => intro i; rfl
    | succ m ih => intro i; rw [List.range'_succ, List.flatMap_cons, List.length_append, ih]; simp; omega
  simpa using this (em b).length 0
end Go.Lv.P

namespace Go.Lv.P
open Go Go.Lv
/-- one cell more -/
def hstep (b : List Int) (i : Nat) (s : Int × List Int) : Int × List Int := bif decide (s.1 < iget b i) then (iget b i, [((i / 4 : Nat) : Int), ((i % 4 : Nat) : Int)]) else s
/-- the highest tile and its first cell -/
def highB (b : List Int) : Int × List Int := fld (hstep b) 0 16 (0, [0, 0])
theorem fld_44 {A : Type} (g : Nat → A → A) (a : A) : fld (fun r a => fld (fun c a => g (0 + r * 4 + c * 1) a) 0 4 a) 0 4 a = fld g 0 16 a := rfl
theorem impl_high (F : Nat) (b : List Int) (hF : 1000 < F) : impl_Board_highest_p F b = some (highB b) := by
  have hat : ∀ i, i < 16 → impl_Board_at_p (rget [[(0 : Int), (0 : Int)], [(0 : Int), (1 : Int)], [(0 : Int), (2 : Int)], [(0 : Int), (3 : Int)], [(1 : Int), (0 : Int)], [(1 : Int), (1 : Int)], [(1 : Int), (2 : Int)], [(1 : Int), (3 : Int)], [(2 : Int), (0 : Int)], [(2 : Int), (1 : Int)], [(2 : Int), (2 : Int)], [(2 : Int), (3 : Int)], [(3 : Int), (0 : Int)], [(3 : Int), (1 : Int)], [(3 : Int), (2 : Int)], [(3 : Int), (3 : Int)]] (0 + i)) b = some i ∧
      rget [[(0 : Int), (0 : Int)], [(0 : Int), (1 : Int)], [(0 : Int), (2 : Int)], [(0 : Int), (3 : Int)], [(1 : Int), (0 : Int)], [(1 : Int), (1 : Int)], [(1 : Int), (2 : Int)], [(1 : Int), (3 : Int)], [(2 : Int), (0 : Int)], [(2 : Int), (1 : Int)], [(2 : Int), (2 : Int)], [(2 : Int), (3 : Int)], [(3 : Int), (0 : Int)], [(3 : Int), (1 : Int)], [(3 : Int), (2 : Int)], [(3 : Int), (3 : Int)]] (0 + i) = [((i / 4 : Nat) : Int), ((i % 4 : Nat) : Int)] := fun i hi => by
    obtain rfl | rfl | rfl | rfl | rfl | rfl | rfl | rfl | rfl | rfl | rfl | rfl | rfl | rfl | rfl | rfl : i = 0 ∨ i = 1 ∨ i = 2 ∨ i = 3 ∨ i = 4 ∨ i = 5 ∨ i = 6 ∨ i = 7 ∨ i = 8 ∨ i = 9 ∨ i = 10 ∨ i = 11 ∨ i = 12 ∨ i = 13 ∨ i = 14 ∨ i = 15 := by omega
    all_goals exact ⟨rfl, rfl⟩
  have h := loop_fold (step := impl_Board_highest_s3 F b) (fun i (s : Int × List Int) => (s.1, i, s.2)) 16 (hstep b) (fun s => (s.1, s.2)) (fun _ _ => True) (F := F) (by omega) (by omega) (a := (0, [0, 0])) trivial
    (fun i s hi _ => ⟨trivial, fun Q kn kx => by
      have hi' : (i : Int) < 16 := by omega
      obtain ⟨h1, h2⟩ := hat i hi
      rw [h2] at h1
      simp only [impl_Board_highest_s3, hi', decide_true, cond_true, inR_cast, hi, Int.toNat_natCast, h1, h2, Option.isSome_some, Option.getD_some, hstep]
      cases decide (s.1 < iget b i) <;> rfl⟩) (fun s _ Q kn kx => by simp [impl_Board_highest_s3])
  have h1 : impl_Board_highest_l3 F b 0 0 [0, 0] = some (highB b) := h.1
  simp only [impl_Board_highest_p, impl_Board_highest_c, h1, Option.isSome_some, Option.getD_some, cond_true]
end Go.Lv.P

namespace Go.Lv.P
open Go Go.Lv
def onesN (x : Nat) : Nat :=
  (fun z1 => (fun z2 => (fun z3 => (fun z4 => (fun z5 => (z5 + z5 / 4294967296) &&& 127) (z4 + z4 / 65536)) (z3 + z3 / 256)) ((z2 / 16 + z2) &&& 1085102592571150095)) ((z1 / 4 &&& 3689348814741910323) + (z1 &&& 3689348814741910323))) ((x / 2 &&& 6148914691236517205) + (x &&& 6148914691236517205))
def chk : Nat → Nat → Nat → Bool
  | 0, x, c => Nat.beq (onesN (2 * x)) c
  | n + 1, x, c => chk n (2 * x) c && chk n (2 * x + 1) (c + 1)
theorem chk_cnt : ∀ (n x c : Nat), chk n x c = true → ∀ y, y < 2 ^ n → onesN (2 * (x * 2 ^ n + y)) = c + cnt n y
  | 0, x, c, h, y, hy => by
    obtain rfl : y = 0 := by omega
    have := Nat.eq_of_beq_eq_true h
    simpa [cnt] using this
  | n + 1, x, c, h, y, hy => by
    simp only [chk, Bool.and_eq_true] at h
    rw [Nat.pow_succ] at hy
    by_cases hlt : y < 2 ^ n
    · have := chk_cnt n (2 * x) c h.1 y hlt
      rw [cnt, Nat.div_eq_of_lt hlt, Nat.mod_eq_of_lt hlt, Nat.zero_add, ← this, Nat.pow_succ]
      congr 2
      rw [Nat.mul_comm 2 x, Nat.mul_assoc, Nat.mul_comm 2]
    · have h1 : y = 2 ^ n + (y - 2 ^ n) := by omega
      have h2 : y - 2 ^ n < 2 ^ n := by omega
      have := chk_cnt n (2 * x + 1) (c + 1) h.2 (y - 2 ^ n) h2
      have hd : y / 2 ^ n = 1 := by
        rw [h1, Nat.add_div_left _ (Nat.two_pow_pos n), Nat.div_eq_of_lt h2]
      have hm : y % 2 ^ n = y - 2 ^ n := by
        conv => lhs; rw [h1]
        rw [Nat.add_mod_left, Nat.mod_eq_of_lt h2]
      rw [cnt, hd, hm, ← Nat.add_assoc, ← this, Nat.pow_succ]
      congr 2
      rw [Nat.add_mul, Nat.mul_comm 2 x, Nat.mul_assoc, Nat.mul_comm 2, Nat.one_mul]
      omega
theorem chk16 : chk 16 0 0 = true := by kernel_rfl
theorem ones_even (y : Nat) (h : y < 65536) : onesN (2 * y) = cnt 16 y := by
  have := chk_cnt 16 0 0 chk16 y h
  simpa using this
theorem andu (a b : Nat) (ha : a < 2 ^ 64) (hb : b < 2 ^ 64) : (BitVec.ofInt (IntKind.bits .u64) (a : Int) &&& BitVec.ofInt (IntKind.bits .u64) (b : Int)).toNat = a &&& b := by
  rw [BitVec.toNat_and, BitVec.ofInt_natCast, BitVec.ofInt_natCast, BitVec.toNat_ofNat, BitVec.toNat_ofNat, Nat.mod_eq_of_lt (by exact ha), Nat.mod_eq_of_lt (by exact hb)]
theorem andi (a b : Nat) (ha : a < 2 ^ 64) (hb : b < 2 ^ 64) : (BitVec.ofInt (IntKind.bits .i64) (a : Int) &&& BitVec.ofInt (IntKind.bits .i64) (b : Int)).toNat = a &&& b := andu a b ha hb
theorem shu (a k : Nat) (hk : k ≤ 64) : Int.fdiv (a : Int) (2 ^ (min (Int.toNat (k : Int)) (IntKind.bits .u64)) : Int) = ((a / 2 ^ k : Nat) : Int) := by
  have : min (Int.toNat (k : Int)) (IntKind.bits .u64) = k := by
    rw [Int.toNat_natCast]; exact Nat.min_eq_left hk
  rw [this, Int.fdiv_eq_ediv_of_nonneg _ (by exact_mod_cast Nat.zero_le _)]
  norm_cast
theorem ones_eq (x : Nat) (hx : x < 2 ^ 63) : math_bits_OnesCount_v (x : Int) = (onesN x : Nat) := by
  have hm : ∀ a b : Nat, a &&& b ≤ b := fun a b => Nat.and_le_right
  simp only [math_bits_OnesCount_v, math_bits_OnesCount64_v, onesN]
  have e1 : IntKind.wrap .u64 ((IntKind.wrap .u64 (((BitVec.ofInt (IntKind.bits .u64) (Int.fdiv (x : Int) (2 ^ (min (Int.toNat (1 : Int)) (IntKind.bits .u64)) : Int)) &&& BitVec.ofInt (IntKind.bits .u64) (6148914691236517205 : Int)).toNat : Nat) : Int)) + (IntKind.wrap .u64 (((BitVec.ofInt (IntKind.bits .u64) (x : Int) &&& BitVec.ofInt (IntKind.bits .u64) (6148914691236517205 : Int)).toNat : Nat) : Int))) = ((x / 2 &&& 6148914691236517205) + (x &&& 6148914691236517205) : Nat) := by
    have a1 := hm (x / 2) 6148914691236517205
    have a2 := hm x 6148914691236517205
    have s : Int.fdiv (x : Int) (2 ^ (min (Int.toNat (1 : Int)) (IntKind.bits .u64)) : Int) = ((x / 2 : Nat) : Int) := shu x 1 (by omega)
    have b1 : (BitVec.ofInt (IntKind.bits .u64) ((x / 2 : Nat) : Int) &&& BitVec.ofInt (IntKind.bits .u64) (6148914691236517205 : Int)).toNat = (x / 2) &&& 6148914691236517205 := andu (x / 2) 6148914691236517205 (by omega) (by omega)
    have b2 : (BitVec.ofInt (IntKind.bits .u64) ((x : Nat) : Int) &&& BitVec.ofInt (IntKind.bits .u64) (6148914691236517205 : Int)).toNat = (x) &&& 6148914691236517205 := andu (x) 6148914691236517205 (by omega) (by omega)
    rw [s, b1, b2, wu _ (by omega), wu _ (by omega), ← Int.natCast_add, wu _ (by omega)]
  rw [e1]
  have l1 : (x / 2 &&& 6148914691236517205) + (x &&& 6148914691236517205) < 2 ^ 64 := by
    have a1 := hm (x / 2) 6148914691236517205
    have a2 := hm x 6148914691236517205
    omega
  generalize (x / 2 &&& 6148914691236517205) + (x &&& 6148914691236517205) = z1 at l1
  have e2 : IntKind.wrap .u64 ((IntKind.wrap .u64 (((BitVec.ofInt (IntKind.bits .u64) (Int.fdiv (z1 : Int) (2 ^ (min (Int.toNat (2 : Int)) (IntKind.bits .u64)) : Int)) &&& BitVec.ofInt (IntKind.bits .u64) (3689348814741910323 : Int)).toNat : Nat) : Int)) + (IntKind.wrap .u64 (((BitVec.ofInt (IntKind.bits .u64) (z1 : Int) &&& BitVec.ofInt (IntKind.bits .u64) (3689348814741910323 : Int)).toNat : Nat) : Int))) = ((z1 / 4 &&& 3689348814741910323) + (z1 &&& 3689348814741910323) : Nat) := by
    have a1 := hm (z1 / 4) 3689348814741910323
    have a2 := hm z1 3689348814741910323
    have s : Int.fdiv (z1 : Int) (2 ^ (min (Int.toNat (2 : Int)) (IntKind.bits .u64)) : Int) = ((z1 / 4 : Nat) : Int) := shu z1 2 (by omega)
    have b1 : (BitVec.ofInt (IntKind.bits .u64) ((z1 / 4 : Nat) : Int) &&& BitVec.ofInt (IntKind.bits .u64) (3689348814741910323 : Int)).toNat = (z1 / 4) &&& 3689348814741910323 := andu (z1 / 4) 3689348814741910323 (by omega) (by omega)
    have b2 : (BitVec.ofInt (IntKind.bits .u64) ((z1 : Nat) : Int) &&& BitVec.ofInt (IntKind.bits .u64) (3689348814741910323 : Int)).toNat = (z1) &&& 3689348814741910323 := andu (z1) 3689348814741910323 (by omega) (by omega)
    rw [s, b1, b2, wu _ (by omega), wu _ (by omega), ← Int.natCast_add, wu _ (by omega)]
  rw [e2]
  have l2 : (z1 / 4 &&& 3689348814741910323) + (z1 &&& 3689348814741910323) ≤ 2 * 3689348814741910323 := by
    have a1 := hm (z1 / 4) 3689348814741910323
    have a2 := hm z1 3689348814741910323
    omega
  generalize (z1 / 4 &&& 3689348814741910323) + (z1 &&& 3689348814741910323) = z2 at l2
  have e3 : IntKind.wrap .u64 (((BitVec.ofInt (IntKind.bits .u64) (IntKind.wrap .u64 ((Int.fdiv (z2 : Int) (2 ^ (min (Int.toNat (4 : Int)) (IntKind.bits .u64)) : Int)) + (z2 : Int))) &&& BitVec.ofInt (IntKind.bits .u64) (1085102592571150095 : Int)).toNat : Nat) : Int) = ((z2 / 16 + z2 &&& 1085102592571150095 : Nat) : Int) := by
    have a1 := hm (z2 / 16 + z2) 1085102592571150095
    have s : Int.fdiv (z2 : Int) (2 ^ (min (Int.toNat (4 : Int)) (IntKind.bits .u64)) : Int) = ((z2 / 16 : Nat) : Int) := shu z2 4 (by omega)
    have b1 : (BitVec.ofInt (IntKind.bits .u64) ((z2 / 16 + z2 : Nat) : Int) &&& BitVec.ofInt (IntKind.bits .u64) (1085102592571150095 : Int)).toNat = (z2 / 16 + z2) &&& 1085102592571150095 := andu (z2 / 16 + z2) 1085102592571150095 (by omega) (by omega)
    rw [s, ← Int.natCast_add, wu (z2 / 16 + z2) (by omega), b1, wu _ (by omega)]
  rw [e3]
  have l3 := hm (z2 / 16 + z2) 1085102592571150095
  generalize (z2 / 16 + z2 &&& 1085102592571150095) = z3 at l3
  have s4 : Int.fdiv (z3 : Int) (2 ^ (min (Int.toNat (8 : Int)) (IntKind.bits .u64)) : Int) = ((z3 / 256 : Nat) : Int) := shu z3 8 (by omega)
  rw [s4, ← Int.natCast_add, wu _ (by omega)]
  have l4 : z3 + z3 / 256 ≤ 2 * 1085102592571150095 := by omega
  generalize z3 + z3 / 256 = z4 at l4
  have s5 : Int.fdiv (z4 : Int) (2 ^ (min (Int.toNat (16 : Int)) (IntKind.bits .u64)) : Int) = ((z4 / 65536 : Nat) : Int) := shu z4 16 (by omega)
  rw [s5, ← Int.natCast_add, wu _ (by omega)]
  have l5 : z4 + z4 / 65536 ≤ 3 * 1085102592571150095 := by omega
  generalize z4 + z4 / 65536 = z5 at l5
  have s6 : Int.fdiv (z5 : Int) (2 ^ (min (Int.toNat (32 : Int)) (IntKind.bits .u64)) : Int) = ((z5 / 4294967296 : Nat) : Int) := shu z5 32 (by omega)
  have a6 := hm (z5 + z5 / 4294967296) 127
  have b6 : (BitVec.ofInt (IntKind.bits .i64) ((z5 + z5 / 4294967296 : Nat) : Int) &&& BitVec.ofInt (IntKind.bits .i64) (127 : Int)).toNat = (z5 + z5 / 4294967296) &&& 127 := andi (z5 + z5 / 4294967296) 127 (by omega) (by omega)
  rw [s6, ← Int.natCast_add, wu _ (by omega), wi (z5 + z5 / 4294967296) (by omega), b6, wi _ (by omega)]
theorem least_impl (n : Nat) (hn : n ≤ 2097152) (he : n % 2 = 0) : impl_leastTiles_v (n : Int) = (cntT 17 n : Nat) := by
  have s : Int.fdiv (n : Int) (2 ^ (min (Int.toNat (17 : Int)) (IntKind.bits .u64)) : Int) = ((n / 131072 : Nat) : Int) := shu n 17 (by omega)
  have b : (BitVec.ofInt (IntKind.bits .u64) ((n : Nat) : Int) &&& BitVec.ofInt (IntKind.bits .u64) (131071 : Int)).toNat = (n) &&& 131071 := andu (n) 131071 (by omega) (by omega)
  simp only [impl_leastTiles_v]
  have s' : Int.fdiv (n : Int) (2 ^ (min (Int.toNat (17 : Int)) (IntKind.bits .i64)) : Int) = ((n / 131072 : Nat) : Int) := s
  have hl : n &&& 131071 ≤ 131071 := Nat.and_le_right
  rw [s', wu n (by omega), b, wu _ (by omega), ones_eq _ (by omega), show n &&& 131071 = n % 2 ^ 17 from Nat.and_two_pow_sub_one_eq_mod n 17]
  have e : n % 2 ^ 17 = 2 * (n % 2 ^ 17 / 2) := by omega
  have hb : cntT 16 (n % 2 ^ 17) ≤ 16 := by
    rw [e, cntT_even, show n % 2 ^ 17 / 2 = (n % 2 ^ 17 / 2) % 2 ^ 16 by omega]
    exact cnt_le 16 _
  have hd : n / 131072 ≤ 16 := by omega
  rw [e, ones_even _ (by omega), ← cntT_even, ← e, ← Int.natCast_add, wi _ (by omega)]
  rfl
end Go.Lv.P
