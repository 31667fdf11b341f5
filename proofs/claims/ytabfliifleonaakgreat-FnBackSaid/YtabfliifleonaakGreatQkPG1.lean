/-
Plain facts of the pure functions, part 1; without conditions.
-/
import Derived.Test.YtabfliifleonaakGreatQkP0
import Derived.Test.YtabfliifleonaakGreatQkP1
import Derived.Test.YtabfliifleonaakGreatLv3
import Derived.Test.YtabfliifleonaakGreatQkP2
import Derived.Test.YtabfliifleonaakGreatQkP3
import Derived.Test.YtabfliifleonaakGreatMvOrd
set_option linter.unusedVariables false
set_option linter.unusedSimpArgs false
set_option linter.unusedSectionVars false
namespace Go.Lv.P
open Go Go.Lv
theorem u280 (x a b : Int) : k130_v x a b = inB x a b := by unfold k130_v inB; cases decide (a ≤ x) <;> rfl
theorem in_eq (x a b : Int) : k132_v x a b = inB x a b := by unfold k132_v inB; cases decide (a ≤ x) <;> rfl
theorem any_iget (xs : List Int) (q : Int → Bool) : (List.range xs.length).any (fun i => q (iget xs i)) = xs.any q := by
  rw [Bool.eq_iff_iff]
  simp only [List.any_eq_true, List.mem_range, igetL]
  constructor
  · rintro ⟨i, hi, e⟩
    rw [List.getElem?_eq_getElem hi] at e
    exact ⟨_, List.getElem_mem hi, e⟩
  · rintro ⟨x, hx, e⟩
    obtain ⟨i, hi, rfl⟩ := List.getElem_of_mem hx
    exact ⟨i, hi, by rw [List.getElem?_eq_getElem hi]; exact e⟩
theorem any_rget (xs : List (List Int)) (q : List Int → Bool) : (List.range xs.length).any (fun i => q (rget xs i)) = xs.any q := by
  rw [Bool.eq_iff_iff]
  simp only [List.any_eq_true, List.mem_range, rgetL]
  constructor
  · rintro ⟨i, hi, e⟩
    rw [List.getElem?_eq_getElem hi] at e
    exact ⟨_, List.getElem_mem hi, e⟩
  · rintro ⟨x, hx, e⟩
    obtain ⟨i, hi, rfl⟩ := List.getElem_of_mem hx
    exact ⟨i, hi, by rw [List.getElem?_eq_getElem hi]; exact e⟩
theorem fnd_place (p : Nat → Bool) (n : Nat) : decide ((0 : Int) ≤ bif (fnd p (fun i => (true, (i : Int))) (false, default) 0 n).1 then (fnd p (fun i => (true, (i : Int))) (false, default) 0 n).2 else -1) = (List.range n).any p := by
  rw [← fnd_any]
  have : ∀ m i, decide ((0 : Int) ≤ bif (fnd p (fun i => (true, (i : Int))) (false, default) i m).1 then (fnd p (fun i => (true, (i : Int))) (false, default) i m).2 else -1) = fnd p (fun _ => true) false i m := by
    intro m
    induction m with
    | zero => intro i; rfl
    | succ m ih =>
      intro i
      cases h : p i with
      | true => simp only [fnd, h, cond_true]; simp
      | false => simp only [fnd, h, cond_false]; exact ih (i + 1)
  exact this n 0
theorem contains_IsRow (F : Nat) (s : List Int) (hs : s.length ≤ 1000) (hF : 1000 < F) : k15_p F s = some (s.any fun x => !inB x 0 17) := by
  have h : k17_l2 F s s.length 0 = some (fnd (fun i => !inB (iget s i) 0 17) (fun i => (true, (i : Int))) (false, default) 0 s.length) := by
    refine u061 (fun i => i) s.length _ _ _ (by omega) (by omega) (fun i hi Q kn kx => ?_) fun Q kn kx => ?_
    · simp only [k17_s2, u021, hi, k79_v, in_eq, Int.toNat_natCast, decide_true, cond_true, Int.ofNat_lt]
    · simp [k17_s2]
  simp only [k15_p, k15_c, k17_p, k17_c, h, Option.isSome_some, Option.getD_some, cond_true]
  rw [← any_iget, ← fnd_place]
  cases (fnd (fun i => !inB (iget s i) 0 17) (fun i => (true, (i : Int))) (false, default) 0 s.length).1 <;> rfl
theorem sub4 {s : List Int} (h : s.length = 4) : sub s 0 4 = s := by
  obtain ⟨a, b, c, d, rfl⟩ := list4 h; rfl
theorem u290 {α : Type} (l : List α) (q : α → Bool) : (!l.any fun x => !q x) = l.all q := by
  induction l with
  | nil => rfl
  | cons a r ih => simp [← ih]
theorem k117_eq (F : Nat) (s : List Int) (hs : s.length = 4) (hF : 1000 < F) : k117_p F s = some (s.all fun x => inB x 0 17) := by
  simp only [k117_p, k117_c, sub4 hs, contains_IsRow F s (by omega) hF, Option.isSome_some, Option.getD_some, cond_true, u290]
theorem k57_eq (F : Nat) (s : List Int) (hs : s.length = 4) (hF : 1000 < F) : k57_p F s = some (!s.all fun x => inB x 0 17) := by
  simp only [k57_p, k57_c, k117_eq F s hs hF, Option.isSome_some, Option.getD_some, cond_true]
theorem rget_len4 {s : List (List Int)} {m i : Nat} (h : ∀ x ∈ s, x.length = m) (hi : i < s.length) : (rget s i).length = m := by
  rw [rgetL, List.getElem?_eq_getElem hi]
  exact h _ (List.getElem_mem hi)
theorem u245 (F : Nat) (s : List (List Int)) (h4 : ∀ x ∈ s, x.length = 4) (hs : s.length ≤ 1000) (hF : 1000 < F) : k9_p F s = some (s.any fun r => !r.all fun x => inB x 0 17) := by
  have h : k14_l2 F s s.length 0 = some (fnd (fun i => !(rget s i).all fun x => inB x 0 17) (fun i => (true, (i : Int))) (false, default) 0 s.length) := by
    refine u061 (fun i => i) s.length _ _ _ (by omega) (by omega) (fun i hi Q kn kx => ?_) fun Q kn kx => ?_
    · simp only [k14_s2, u021, hi, Int.toNat_natCast, decide_true, cond_true, Int.ofNat_lt, k57_eq F _ (rget_len4 h4 hi) hF, Option.isSome_some, Option.getD_some]
    · simp [k14_s2]
  simp only [k9_p, k9_c, k14_p, k14_c, h, Option.isSome_some, Option.getD_some, cond_true]
  rw [← any_rget s fun r => !r.all fun x => inB x 0 17, ← fnd_place]
  cases (fnd (fun i => !(rget s i).all fun x => inB x 0 17) (fun i => (true, (i : Int))) (false, default) 0 s.length).1 <;> rfl
theorem k96_eq (F : Nat) (b : List Int) (hb : b.length = 16) (hF : 1000 < F) : k96_p F b = some (okB b) := by
  obtain ⟨x0, x1, x2, x3, x4, x5, x6, x7, x8, x9, x10, x11, x12, x13, x14, x15, rfl⟩ := list16 hb
  simp only [k96_p, k96_c]
  rw [u245 F _ (by simp [sub]) (by simp) hF]
  simp only [Option.isSome_some, Option.getD_some, cond_true, u290]
  congr 1
  simp [okB, sub, Bool.and_assoc]
theorem k99_eq (F : Nat) (b : List Int) (hb : b.length = 16) (hF : 1000 < F) : k99_p F b = some (okB b) := by
  have h1 : ∀ r : Nat, r < 4 → k99_l5 F r b 0 = some ((List.range 4).any fun c => !inB (iget b (0 + r * 4 + c * 1)) 0 17) := fun r hr => by
    rw [← fnd_any]
    refine u061 (fun i => i) 4 _ _ _ (by omega) (by omega) (fun i hi Q kn kx => ?_) fun Q kn kx => ?_
    · have hi' : (i : Int) < 4 := by omega
      simp only [k99_s5, u021, hi, hi', hr, Int.toNat_natCast, decide_true, cond_true, u280]
    · simp [k99_s5]
  have h2 : k99_l2 F b 0 = some ((List.range 4).any fun r => (List.range 4).any fun c => !inB (iget b (0 + r * 4 + c * 1)) 0 17) := by
    rw [← fnd_any]
    refine u061 (fun i => i) 4 _ _ _ (by omega) (by omega) (fun i hi Q kn kx => ?_) fun Q kn kx => ?_
    · have hi' : (i : Int) < 4 := by omega
      simp only [k99_s2, hi', h1 i hi, decide_true, cond_true, Option.isSome_some, Option.getD_some]
    · simp [k99_s2]
  simp only [k99_p, k99_c, h2, Option.isSome_some, Option.getD_some, cond_true]
  obtain ⟨x0, x1, x2, x3, x4, x5, x6, x7, x8, x9, x10, x11, x12, x13, x14, x15, rfl⟩ := list16 hb
  have e : okB [x0, x1, x2, x3, x4, x5, x6, x7, x8, x9, x10, x11, x12, x13, x14, x15] = !((List.range 4).any fun r => (List.range 4).any fun c => !inB (iget [x0, x1, x2, x3, x4, x5, x6, x7, x8, x9, x10, x11, x12, x13, x14, x15] (0 + r * 4 + c * 1)) 0 17) := by
    simp [okB, List.range_succ, iget, Bool.and_assoc]
  rw [e]
  cases ((List.range 4).any fun r => (List.range 4).any fun c => !inB (iget [x0, x1, x2, x3, x4, x5, x6, x7, x8, x9, x10, x11, x12, x13, x14, x15] (0 + r * 4 + c * 1)) 0 17) <;> rfl
end Go.Lv.P
namespace Go.Lv.P
open Go Go.Lv
theorem cmp_int (x y : Int) : k54_v x y = bif decide (x < y) then -1 else bif decide (y < x) then 1 else 0 := by
  have e : ∀ x : Int, k75_v x = false := fun x => by unfold k75_v; rw [beq_self_eq_true]; rfl
  unfold k54_v
  rw [e x, e y]; rfl
theorem cmp_zero (x y : Int) : (k54_v x y == 0) = (x == y) := by
  rw [cmp_int]
  by_cases h1 : x < y
  · rw [decide_eq_true h1]
    have : (x == y) = false := by rw [beq_eq_false_iff_ne]; omega
    rw [this]; rfl
  · rw [decide_eq_false h1]
    by_cases h2 : y < x
    · rw [decide_eq_true h2]
      have : (x == y) = false := by rw [beq_eq_false_iff_ne]; omega
      rw [this]; rfl
    · rw [decide_eq_false h2]
      have : x = y := by omega
      subst this; simp
theorem cmp_fnd : ∀ (n i : Nat) (a b : List Int), i + n = a.length → a.length = b.length → (bif (fnd (fun i => !(iget a i == iget b i)) (fun i => (true, k54_v (iget a i) (iget b i))) (false, default) i n).1 then (fnd (fun i => !(iget a i == iget b i)) (fun i => (true, k54_v (iget a i) (iget b i))) (false, default) i n).2 else 0) = cmpL (a.drop i) (b.drop i)
  | 0, i, a, b, h, hl => by rw [List.drop_eq_nil_of_le (by omega), List.drop_eq_nil_of_le (by omega)]; rfl
  | n + 1, i, a, b, h, hl => by
    have hia : i < a.length := by omega
    have hib : i < b.length := by omega
    have ga : iget a i = a[i] := by rw [igetL, List.getElem?_eq_getElem hia]; rfl
    have gb : iget b i = b[i] := by rw [igetL, List.getElem?_eq_getElem hib]; rfl
    have ih := cmp_fnd n (i + 1) a b (by omega) hl
    rw [List.drop_eq_getElem_cons hia, List.drop_eq_getElem_cons hib]
    simp only [fnd, ga, gb]
    revert ih
    generalize a.drop (i + 1) = ra
    generalize b.drop (i + 1) = rb
    generalize a[i] = x
    generalize b[i] = y
    intro ih
    cases hx : x == y with
    | true =>
      have e := eq_of_beq hx
      subst e
      simp only [Bool.not_true, cond_false]
      rw [ih]
      unfold cmpL
      simp only [ltL, hx, cond_true]
      have : (x :: ra == x :: rb) = (ra == rb) := by simp
      rw [this]
    | false =>
      have hne : x ≠ y := by rw [beq_eq_false_iff_ne] at hx; exact hx
      simp only [Bool.not_false, cond_true]
      have h2 : (x :: ra == y :: rb) = false := by
        rw [beq_eq_false_iff_ne]; intro e; cases e; exact hne rfl
      unfold cmpL
      simp only [ltL, hx, cond_false, h2, cmp_int]
      by_cases h1 : x < y
      · rw [decide_eq_true h1]; rfl
      · rw [decide_eq_false h1]
        have h3 : y < x := by omega
        rw [decide_eq_true h3]; rfl
theorem compare_eq (F : Nat) (hF : 1000 < F) {a b : List Int} (hl : a.length = b.length) (h : a.length ≤ 1000) : k23_p F a b = some (cmpL a b) := by
  have h1 : k23_l2 F a b a ((a.length : Nat) : Int) 0 = some (fnd (fun i => !(iget a i == iget b i)) (fun i => (true, k54_v (iget a i) (iget b i))) (false, default) 0 a.length) := by
    refine u061 (step := k23_s2 F a b a ((a.length : Nat) : Int)) (fun i => i) a.length _ _ _ (by omega) (by omega) (fun i hi Q kn kx => ?_) fun Q kn kx => ?_
    · have hb : i < b.length := by omega
      have hn : ¬ ((b.length : Nat) : Int) ≤ (i : Int) := by omega
      simp only [k23_s2, Int.ofNat_lt, hi, hb, hn, decide_true, decide_false, cond_true, cond_false, u021, Int.toNat_natCast, cmp_zero]
    · simp [k23_s2]
  have h2 := cmp_fnd a.length 0 a b (by omega) hl
  rw [List.drop_zero, List.drop_zero] at h2
  have hd : decide (((a.length : Nat) : Int) < ((b.length : Nat) : Int)) = false := decide_eq_false (by omega)
  simp only [k23_p, k23_c, h1, hd, Option.isSome_some, Option.getD_some, cond_true, cond_false]
  rw [← h2]
  cases (fnd (fun i => !(iget a i == iget b i)) (fun i => (true, k54_v (iget a i) (iget b i))) (false, default) 0 a.length).1 <;> rfl
end Go.Lv.P
namespace Go.Lv.P
open Go Go.Lv
abbrev LL := List (List Int)
theorem rset_take (s : LL) (i : Nat) (x : List Int) (h : i < s.length) : (rset s i x).take (i + 1) = s.take i ++ [x] := by
  rw [rsetL, List.take_add_one]
  simp [List.take_set_of_le, h]
theorem u150 {step : (Q : Type) → Int × Int × LL → (Int × Int × LL → Option Q) → (Int × LL → Option Q) → Option Q} (q : List Int → Bool) (Pr : List Int → Prop) (n : Nat) (hn : n ≤ 1000000)
    (hs : ∀ (i j : Nat) (s : LL), i ≤ j → j < n → s.length = n → Pr (rget s (0 + j)) → ∀ (Q : Type) kn kx, step Q (i, j, s) kn kx = bif q (rget s (0 + j)) then kn (i, IntKind.wrap .i64 ((j : Int) + 1), s) else kn (IntKind.wrap .i64 ((i : Int) + 1), IntKind.wrap .i64 ((j : Int) + 1), rset s (0 + i) (rget s (0 + j))))
    (he : ∀ (i : Nat) (s : LL) (Q : Type) kn kx, step Q (i, n, s) kn kx = kx (i, s)) :
    ∀ (m i j F : Nat) (s : LL), j + m = n → m < F → i ≤ j → s.length = n → (∀ x ∈ s.drop j, Pr x) →
      ∃ s', loopC step F ((i : Int), (j : Int), s) some = some (((i + ((s.drop j).filter fun x => !q x).length : Nat) : Int), s') ∧ s'.length = n ∧ s'.take (i + ((s.drop j).filter fun x => !q x).length) = s.take i ++ (s.drop j).filter fun x => !q x
  | 0, i, j, F, s, hj, hF, hi, hl, hp => by
    obtain ⟨G, rfl⟩ : ∃ G, F = G + 1 := ⟨F - 1, by omega⟩
    have hjn : j = n := by omega
    have hd : s.drop j = [] := List.drop_eq_nil_of_le (by omega)
    refine ⟨s, ?_, hl, ?_⟩
    · rw [hd, hjn]
      simp only [loopC, he, List.filter_nil, List.length_nil, Nat.add_zero]
    · rw [hd]; simp
  | m + 1, i, j, F, s, hj, hF, hi, hl, hp => by
    obtain ⟨G, rfl⟩ : ∃ G, F = G + 1 := ⟨F - 1, by omega⟩
    have hjl : j < s.length := by omega
    have hd : s.drop j = s[j] :: s.drop (j + 1) := List.drop_eq_getElem_cons hjl
    have hg : rget s (0 + j) = s[j] := by rw [Nat.zero_add, rgetL, List.getElem?_eq_getElem hjl]; rfl
    have hpj : Pr (rget s (0 + j)) := by rw [hg]; exact hp _ (hd ▸ List.mem_cons_self)
    simp only [loopC]
    rw [hs i j s hi (by omega) hl hpj, u047 (n := n) (by omega) (by omega), u047 (n := n) (by omega) (by omega)]
    cases hq : q (rget s (0 + j)) with
    | true =>
      simp only [cond_true]
      obtain ⟨s', h1, h2, h3⟩ := u150 q Pr n hn hs he m i (j + 1) G s (by omega) (by omega) (by omega) hl (fun x hx => hp x (hd ▸ List.mem_cons_of_mem _ hx))
      have e : ((s.drop j).filter fun x => !q x) = (s.drop (j + 1)).filter fun x => !q x := by
        rw [hd, List.filter_cons, ← hg, hq]; rfl
      rw [e]
      exact ⟨s', h1, h2, h3⟩
    | false =>
      simp only [cond_false]
      have hdr : (rset s (0 + i) (rget s (0 + j))).drop (j + 1) = s.drop (j + 1) := by
        rw [rsetL, List.drop_set_of_lt (by omega)]
      obtain ⟨s', h1, h2, h3⟩ := u150 q Pr n hn hs he m (i + 1) (j + 1) G (rset s (0 + i) (rget s (0 + j))) (by omega) (by omega) (by omega) (by rw [rsetL]; simpa using hl) (fun x hx => hp x (hd ▸ List.mem_cons_of_mem _ (hdr ▸ hx)))
      rw [hdr] at h1 h3
      have e : ((s.drop j).filter fun x => !q x) = s[j] :: (s.drop (j + 1)).filter fun x => !q x := by
        rw [hd, List.filter_cons, ← hg, hq]; rfl
      rw [e, List.length_cons]
      refine ⟨s', ?_, h2, ?_⟩
      · rw [h1]; congr 3; omega
      · rw [show i + ((List.filter (fun x => !q x) (s.drop (j + 1))).length + 1) = i + 1 + (List.filter (fun x => !q x) (s.drop (j + 1))).length by omega, h3, Nat.zero_add, rset_take _ _ _ (by omega), hg]
        simp
theorem fnd_split (s : LL) (q : List Int → Bool) : ∀ (m i : Nat), i + m = s.length → (s.take i).all (fun x => !q x) = true →
    (fnd (fun i => q (rget s i)) (fun i => (true, (i : Int))) (false, default) i m = (false, default) ∧ s.all (fun x => !q x) = true) ∨
    ∃ j, j < s.length ∧ fnd (fun i => q (rget s i)) (fun i => (true, (i : Int))) (false, default) i m = (true, (j : Int)) ∧ q (rget s j) = true ∧ (s.take j).all (fun x => !q x) = true
  | 0, i, hi, ha => by
    refine .inl ⟨rfl, ?_⟩
    rwa [List.take_of_length_le (by omega)] at ha
  | m + 1, i, hi, ha => by
    have hil : i < s.length := by omega
    have hg : rget s i = s[i] := by rw [rgetL, List.getElem?_eq_getElem hil]; rfl
    cases hq : q (rget s i) with
    | true => exact .inr ⟨i, hil, by simp only [fnd, hq, cond_true], hq, ha⟩
    | false =>
      have := fnd_split s q m (i + 1) (by omega) (by
        rw [List.take_add_one, List.getElem?_eq_getElem hil, List.all_append, ha]
        rw [hg] at hq
        simp [hq])
      simp only [fnd, hq, cond_false]
      exact this
theorem u170 {s : LL} {q : List Int → Bool} (h : s.all (fun x => !q x) = true) : (s.filter fun x => !q x) = s := by
  rw [List.filter_eq_self]
  simpa using h
def Deleted (s : LL) (q : List Int → Bool) (r : Nat × LL) : Prop :=
  r.1 = (s.filter fun x => !q x).length ∧ r.2.take r.1 = s.filter (fun x => !q x) ∧ r.2.length = s.length
theorem u266 (s z : LL) (k n : Nat) (hk : k ≤ s.length) (hz : z.length = n) : (u029 s (0 + k) z n).take k = s.take k := by
  unfold u029
  rw [Nat.zero_add, List.append_assoc, List.take_append_of_le_length (by simp; omega), List.take_take, Nat.min_self]
theorem u267 (s z : LL) (k : Nat) (hk : k ≤ s.length) (hz : z.length = s.length - k) : (u029 s (0 + k) z (s.length - k)).length = s.length := by
  unfold u029
  simp [hz]
  omega
theorem Deleted.get {s : LL} {q : List Int → Bool} {r : Nat × LL} (h : Deleted s q r) {i : Nat} (hi : i < r.1) : rget r.2 (0 + i) = rget (s.filter fun x => !q x) i := by
  rw [Nat.zero_add, rgetL, rgetL, ← h.2.1, List.getElem?_take, if_pos hi]
end Go.Lv.P
namespace Go.Lv.P
open Go Go.Lv
theorem isetI_take (s : List Int) (i : Nat) (x : Int) (h : i < s.length) : (iset s i x).take (i + 1) = s.take i ++ [x] := by
  rw [isetL, List.take_add_one]
  simp [List.take_set_of_le, h]
theorem u156 {step : (Q : Type) → Int × Int × List Int → (Int × Int × List Int → Option Q) → (Int × List Int → Option Q) → Option Q} (q : Int → Bool) (Pr : Int → Prop) (n : Nat) (hn : n ≤ 1000000)
    (hs : ∀ (i j : Nat) (s : List Int), i ≤ j → j < n → s.length = n → Pr (iget s (0 + j)) → ∀ (Q : Type) kn kx, step Q (i, j, s) kn kx = bif q (iget s (0 + j)) then kn (i, IntKind.wrap .i64 ((j : Int) + 1), s) else kn (IntKind.wrap .i64 ((i : Int) + 1), IntKind.wrap .i64 ((j : Int) + 1), iset s (0 + i) (iget s (0 + j))))
    (he : ∀ (i : Nat) (s : List Int) (Q : Type) kn kx, step Q (i, n, s) kn kx = kx (i, s)) :
    ∀ (m i j F : Nat) (s : List Int), j + m = n → m < F → i ≤ j → s.length = n → (∀ x ∈ s.drop j, Pr x) →
      ∃ s', loopC step F ((i : Int), (j : Int), s) some = some (((i + ((s.drop j).filter fun x => !q x).length : Nat) : Int), s') ∧ s'.length = n ∧ s'.take (i + ((s.drop j).filter fun x => !q x).length) = s.take i ++ (s.drop j).filter fun x => !q x
  | 0, i, j, F, s, hj, hF, hi, hl, hp => by
    obtain ⟨G, rfl⟩ : ∃ G, F = G + 1 := ⟨F - 1, by omega⟩
    have hjn : j = n := by omega
    have hd : s.drop j = [] := List.drop_eq_nil_of_le (by omega)
    refine ⟨s, ?_, hl, ?_⟩
    · rw [hd, hjn]
      simp only [loopC, he, List.filter_nil, List.length_nil, Nat.add_zero]
    · rw [hd]; simp
  | m + 1, i, j, F, s, hj, hF, hi, hl, hp => by
    obtain ⟨G, rfl⟩ : ∃ G, F = G + 1 := ⟨F - 1, by omega⟩
    have hjl : j < s.length := by omega
    have hd : s.drop j = s[j] :: s.drop (j + 1) := List.drop_eq_getElem_cons hjl
    have hg : iget s (0 + j) = s[j] := by rw [Nat.zero_add, igetL, List.getElem?_eq_getElem hjl]; rfl
    have hpj : Pr (iget s (0 + j)) := by rw [hg]; exact hp _ (hd ▸ List.mem_cons_self)
    simp only [loopC]
    rw [hs i j s hi (by omega) hl hpj, u047 (n := n) (by omega) (by omega), u047 (n := n) (by omega) (by omega)]
    cases hq : q (iget s (0 + j)) with
    | true =>
      simp only [cond_true]
      obtain ⟨s', h1, h2, h3⟩ := u156 q Pr n hn hs he m i (j + 1) G s (by omega) (by omega) (by omega) hl (fun x hx => hp x (hd ▸ List.mem_cons_of_mem _ hx))
      have e : ((s.drop j).filter fun x => !q x) = (s.drop (j + 1)).filter fun x => !q x := by
        rw [hd, List.filter_cons, ← hg, hq]; rfl
      rw [e]
      exact ⟨s', h1, h2, h3⟩
    | false =>
      simp only [cond_false]
      have hdr : (iset s (0 + i) (iget s (0 + j))).drop (j + 1) = s.drop (j + 1) := by
        rw [isetL, List.drop_set_of_lt (by omega)]
      obtain ⟨s', h1, h2, h3⟩ := u156 q Pr n hn hs he m (i + 1) (j + 1) G (iset s (0 + i) (iget s (0 + j))) (by omega) (by omega) (by omega) (by rw [isetL]; simpa using hl) (fun x hx => hp x (hd ▸ List.mem_cons_of_mem _ (hdr ▸ hx)))
      rw [hdr] at h1 h3
      have e : ((s.drop j).filter fun x => !q x) = s[j] :: (s.drop (j + 1)).filter fun x => !q x := by
        rw [hd, List.filter_cons, ← hg, hq]; rfl
      rw [e, List.length_cons]
      refine ⟨s', ?_, h2, ?_⟩
      · rw [h1]; congr 3; omega
      · rw [show i + ((List.filter (fun x => !q x) (s.drop (j + 1))).length + 1) = i + 1 + (List.filter (fun x => !q x) (s.drop (j + 1))).length by omega, h3, Nat.zero_add, isetI_take _ _ _ (by omega), hg]
        simp
theorem fnd_splitI (s : List Int) (q : Int → Bool) : ∀ (m i : Nat), i + m = s.length → (s.take i).all (fun x => !q x) = true →
    (fnd (fun i => q (iget s i)) (fun i => (true, (i : Int))) (false, default) i m = (false, default) ∧ s.all (fun x => !q x) = true) ∨
    ∃ j, j < s.length ∧ fnd (fun i => q (iget s i)) (fun i => (true, (i : Int))) (false, default) i m = (true, (j : Int)) ∧ q (iget s j) = true ∧ (s.take j).all (fun x => !q x) = true
  | 0, i, hi, ha => by
    refine .inl ⟨rfl, ?_⟩
    rwa [List.take_of_length_le (by omega)] at ha
  | m + 1, i, hi, ha => by
    have hil : i < s.length := by omega
    have hg : iget s i = s[i] := by rw [igetL, List.getElem?_eq_getElem hil]; rfl
    cases hq : q (iget s i) with
    | true => exact .inr ⟨i, hil, by simp only [fnd, hq, cond_true], hq, ha⟩
    | false =>
      have := fnd_splitI s q m (i + 1) (by omega) (by
        rw [List.take_add_one, List.getElem?_eq_getElem hil, List.all_append, ha]
        rw [hg] at hq
        simp [hq])
      simp only [fnd, hq, cond_false]
      exact this
theorem u282 {s : List Int} {q : Int → Bool} (h : s.all (fun x => !q x) = true) : (s.filter fun x => !q x) = s := by
  rw [List.filter_eq_self]
  simpa using h
def DeletedI (s : List Int) (q : Int → Bool) (r : Nat × List Int) : Prop :=
  r.1 = (s.filter fun x => !q x).length ∧ r.2.take r.1 = s.filter (fun x => !q x) ∧ r.2.length = s.length
theorem splice_takeI (s z : List Int) (k n : Nat) (hk : k ≤ s.length) (hz : z.length = n) : (u029 s (0 + k) z n).take k = s.take k := by
  unfold u029
  rw [Nat.zero_add, List.append_assoc, List.take_append_of_le_length (by simp; omega), List.take_take, Nat.min_self]
theorem splice_lenI (s z : List Int) (k : Nat) (hk : k ≤ s.length) (hz : z.length = s.length - k) : (u029 s (0 + k) z (s.length - k)).length = s.length := by
  unfold u029
  simp [hz]
  omega
theorem DeletedI.get {s : List Int} {q : Int → Bool} {r : Nat × List Int} (h : DeletedI s q r) {i : Nat} (hi : i < r.1) : iget r.2 (0 + i) = iget (s.filter fun x => !q x) i := by
  rw [Nat.zero_add, igetL, igetL, ← h.2.1, List.getElem?_take, if_pos hi]
end Go.Lv.P
namespace Go.Lv.P
open Go Go.Lv
theorem loop_ex {S A X : Type} {step : (Q : Type) → S → (S → Option Q) → (X → Option Q) → Option Q} (mk : Int → A → S) (n : Nat) (e : A → X) (I : Nat → A → Prop) {F : Nat} (hF : n < F) (hn : n ≤ 4611686018427387904)
    (hs : ∀ (i : Nat) (a : A), i < n → I i a → ∃ a', I (i + 1) a' ∧ ∀ (Q : Type) (kn : S → Option Q) (kx : X → Option Q), step Q (mk (i : Int) a) kn kx = kn (mk (IntKind.wrap .i64 ((i : Int) + 1)) a'))
    (he : ∀ (a : A), I n a → ∀ (Q : Type) (kn : S → Option Q) (kx : X → Option Q), step Q (mk (n : Int) a) kn kx = kx (e a)) {a : A} (h0 : I 0 a) : ∃ a', I n a' ∧ loopC step F (mk 0 a) some = some (e a') := by
  have key : ∀ (m i F : Nat) (a : A), i + m = n → m < F → I i a → ∃ a', I n a' ∧ loopC step F (mk (i : Int) a) some = some (e a') := by
    intro m
    induction m with
    | zero =>
      intro i F a hi hF h
      obtain ⟨G, rfl⟩ : ∃ G, F = G + 1 := ⟨F - 1, by omega⟩
      have : i = n := by omega
      subst this
      exact ⟨a, h, by simp only [loopC]; exact he a h _ _ _⟩
    | succ m ih =>
      intro i F a hi hF h
      obtain ⟨G, rfl⟩ : ∃ G, F = G + 1 := ⟨F - 1, by omega⟩
      obtain ⟨a', h1, h2⟩ := hs i a (by omega) h
      obtain ⟨b, g1, g2⟩ := ih (i + 1) G a' (by omega) (by omega) h1
      refine ⟨b, g1, ?_⟩
      simp only [loopC, h2]
      rw [u047 (n := n) (by omega) hn]
      exact g2
  exact key n 0 F a (by omega) hF h0
def Cur (n : Nat) (a : Int) : Prop := 0 ≤ a ∧ a ≤ (n : Int)
theorem Cur.mono {n m : Nat} {a : Int} (h : Cur n a) (hm : n ≤ m) : Cur m a := ⟨h.1, by have := h.2; omega⟩
def Byt (c : List Int) : Prop := ∀ x ∈ c, 0 ≤ x ∧ x ≤ 255
theorem low_byte (x : Int) : ∃ n : Nat, n ≤ 255 ∧ IntKind.wrap .i64 (IntKind.wrap .u64 (((BitVec.ofInt (IntKind.bits .u64) x &&& BitVec.ofInt (IntKind.bits .u64) (255 : Int)).toNat : Nat) : Int)) = (n : Int) := by
  have h255 : (BitVec.ofInt (IntKind.bits .u64) (255 : Int)).toNat = 255 := by decide
  generalize hy : (BitVec.ofInt (IntKind.bits .u64) x) = y
  have hle : (y &&& BitVec.ofInt (IntKind.bits .u64) (255 : Int)).toNat ≤ 255 := by
    rw [BitVec.toNat_and, h255]
    exact Nat.and_le_right
  generalize (y &&& BitVec.ofInt (IntKind.bits .u64) (255 : Int)).toNat = n at hle
  refine ⟨n, hle, ?_⟩
  have e1 : IntKind.wrap .u64 (n : Int) = n := by rw [IntKind.wrap_u64]; omega
  rw [e1, u044 (by omega) (by omega)]
section
variable {c : List Int} (hc : Byt c)
include hc
theorem next_ok {n : Nat} (hn : n ≤ 1000000000) {a s : Int} (h : Cur n a) : ∃ v a' s', k66_p c a s = some (v, a', s') ∧ 0 ≤ v ∧ v ≤ 255 ∧ Cur (n + 1) a' := by
  obtain ⟨k, rfl⟩ := Int.eq_ofNat_of_zero_le h.1
  have hk : k ≤ n := by have := h.2; omega
  have hw : IntKind.wrap .i64 ((k : Int) + 1) = ((k + 1 : Nat) : Int) := by rw [u044 (by omega) (by omega)]; omega
  have hcur : Cur (n + 1) ((k + 1 : Nat) : Int) := ⟨by omega, by omega⟩
  simp only [k66_p, k66_c, hw, Int.ofNat_lt, Int.ofNat_le, u021, Int.toNat_natCast]
  by_cases hl : k < c.length
  · have hle : k + 1 ≤ c.length := hl
    have hb : 0 ≤ iget c k ∧ iget c k ≤ 255 := by
      rw [igetL, List.getElem?_eq_getElem hl]
      exact hc _ (List.getElem_mem hl)
    simp only [hl, hle, decide_true, cond_true]
    exact ⟨_, _, _, rfl, by rw [u044 (by omega) (by omega)]; exact hb.1, by rw [u044 (by omega) (by omega)]; exact hb.2, hcur⟩
  · have hle : ¬ (k + 1 ≤ c.length) := by omega
    simp only [hl, hle, decide_false, cond_false]
    generalize IntKind.wrap .u64 ((IntKind.wrap .u64 ((IntKind.wrap .u64 (s * (6364136223846793005 : Int))) + (0 : Int))) + (462197 : Int)) = z
    generalize (Int.fdiv z (2 ^ (min (Int.toNat (40 : Int)) (IntKind.bits .u64)) : Int)) = x
    obtain ⟨m, m1, m2⟩ := low_byte x
    rw [m2]
    exact ⟨_, _, _, rfl, by omega, by omega, hcur⟩
theorem pick_ok {n : Nat} (hn : n ≤ 900000000) {q : Nat} (h1 : 1 ≤ q) (h2 : q ≤ 65536) {a s : Int} (h : Cur n a) : ∃ (v : Nat) (a' s' : Int), k67_p (q : Int) c a s = some ((v : Int), a', s') ∧ v < q ∧ Cur (n + 2) a' := by
  simp only [k67_p, k67_c]
  by_cases hq : q ≤ 1
  · have hd : decide (((q : Nat) : Int) ≤ 1) = true := decide_eq_true (by omega)
    simp only [hd, cond_true]
    exact ⟨0, _, _, rfl, by omega, h.mono (by omega)⟩
  · have hd : decide (((q : Nat) : Int) ≤ 1) = false := decide_eq_false (by omega)
    obtain ⟨v, a1, s1, e1, v0, v1, c1⟩ := next_ok hc (by omega) h (s := s)
    obtain ⟨v', a2, s2, e2, u0, u1, c2⟩ := next_ok hc (n := n + 1) (by omega) c1 (s := s1)
    have hz : (((q : Nat) : Int) == 0) = false := by rw [beq_eq_false_iff_ne]; omega
    have fin : ∀ x : Int, 0 ≤ x → ∃ v : Nat, Int.tmod x ((q : Nat) : Int) = (v : Int) ∧ v < q := fun x hx => by
      obtain ⟨m, rfl⟩ := Int.eq_ofNat_of_zero_le hx
      refine ⟨m % q, ?_, Nat.mod_lt _ (by omega)⟩
      rw [Int.tmod_eq_emod_of_nonneg hx]; rfl
    simp only [hd, cond_false, e1, e2, hz, Option.isSome_some, Option.getD_some, cond_true]
    by_cases h200 : (200 : Int) < ((q : Nat) : Int)
    · simp only [h200, decide_true, cond_true]
      have w1 : IntKind.wrap .i64 (v * 256) = v * 256 := u044 (by omega) (by omega)
      have w2 : IntKind.wrap .i64 (v * 256 + v') = v * 256 + v' := u044 (by omega) (by omega)
      rw [w1, w2]
      obtain ⟨m, m1, m2⟩ := fin (v * 256 + v') (by omega)
      rw [m1]
      exact ⟨m, _, _, rfl, m2, c2.mono (by omega)⟩
    · simp only [h200, decide_false, cond_false]
      obtain ⟨m, m1, m2⟩ := fin v v0
      rw [m1]
      exact ⟨m, _, _, rfl, m2, c1.mono (by omega)⟩
theorem one_ok {n : Nat} (hn : n ≤ 900000000) {q : Nat} (h1 : 1 ≤ q) (h2 : q ≤ 65536) {a s : Int} (h : Cur n a) : ∃ (v : Bool) (a' s' : Int), k73_p (q : Int) c a s = some (v, a', s') ∧ Cur (n + 2) a' := by
  obtain ⟨v, a', s', e, _, g⟩ := pick_ok hc hn h1 h2 h (s := s)
  exact ⟨((v : Int) == 0), a', s', by simp only [k73_p, k73_c, e, Option.isSome_some, Option.getD_some, cond_true], g⟩
theorem u250 {n : Nat} (hn : n ≤ 900000000) {l : List Int} (h1 : 1 ≤ l.length) (h2 : l.length ≤ 65536) {a s : Int} (h : Cur n a) : ∃ (v a' s' : Int), k52_p l c a s = some (v, a', s') ∧ v ∈ l ∧ Cur (n + 2) a' := by
  obtain ⟨v, a', s', e, hv, g⟩ := pick_ok hc hn h1 h2 h (s := s)
  refine ⟨iget l v, a', s', by simp only [k52_p, k52_c, e, Option.isSome_some, Option.getD_some, cond_true, u021, hv, decide_true, Int.toNat_natCast], ?_, g⟩
  rw [igetL, List.getElem?_eq_getElem hv]
  exact List.getElem_mem hv
theorem tile_ok {n : Nat} (hn : n ≤ 900000000) {a s : Int} (h : Cur n a) : ∃ (v a' s' : Int), k69_p c a s = some (v, a', s') ∧ Cur (n + 2) a' := by
  obtain ⟨v, a', s', e, _, g⟩ := u250 hc hn (l := [1, 2, 0, 1, 3, 0, 2, 1, 4, 5, 0]) (by decide) (by decide) h (s := s)
  exact ⟨v, a', s', by simp only [k69_p, k69_c, e, Option.isSome_some, Option.getD_some, cond_true], g⟩
end
end Go.Lv.P
namespace Go.Lv.P
open Go Go.Lv
def W (t : Int) : Int := if t = 0 then 0 else 2 ^ t.toNat
theorem tile_cases {t : Int} (h : inB t 0 17 = true) : t = 0 ∨ t = 1 ∨ t = 2 ∨ t = 3 ∨ t = 4 ∨ t = 5 ∨ t = 6 ∨ t = 7 ∨ t = 8 ∨ t = 9 ∨ t = 10 ∨ t = 11 ∨ t = 12 ∨ t = 13 ∨ t = 14 ∨ t = 15 ∨ t = 16 ∨ t = 17 := by
  simp [inB] at h; omega
end Go.Lv.P
namespace Go.Lv.P
open Go Go.Lv
theorem k31_cmp (F : Nat) (hF : 1000 < F) {a b : List Int} (ha : a.length = 4) (hb : b.length = 4) : k31_p F a b = some (cmpL a b) := by
  have ea : sub a 0 4 = a := by obtain ⟨_, _, _, _, rfl⟩ := list4 ha; rfl
  have eb : sub b 0 4 = b := by obtain ⟨_, _, _, _, rfl⟩ := list4 hb; rfl
  simp only [k31_p, k31_c, ea, eb, compare_eq F hF (show a.length = b.length by omega) (by omega), Option.isSome_some, Option.getD_some, cond_true]
end Go.Lv.P
namespace Go.Lv.P
open Go Go.Lv
theorem u237 {l : List Int} (h : l.length = 16) (i : Nat) (x : Int) : (iset l i x).length = 16 := by rw [isetL, List.length_set, h]
theorem u196 {l z : List Int} (h : l.length = 16) (hz : z.length = 4) {k : Nat} (hk : k < 4) : (u108 16 l (0 + k * 4) z 4).length = 16 := by
  obtain ⟨z0, z1, z2, z3, rfl⟩ := list4 hz
  obtain ⟨x0, x1, x2, x3, x4, x5, x6, x7, x8, x9, xa, xb, xc, xd, xe, xf, rfl⟩ := list16 h
  obtain rfl | rfl | rfl | rfl : k = 0 ∨ k = 1 ∨ k = 2 ∨ k = 3 := by omega
  all_goals rfl
section
variable {c : List Int} (hc : Byt c) (F : Nat) (hF : 1000 < F)
include hc hF
theorem board_in {n : Nat} (hn : n ≤ 800000000) (few full : Bool) {r : Nat} (hr : r < 4) {a s : Int} (h : Cur n a) {b : List Int} (hb : b.length = 16) : ∃ (a' s' : Int) (b' : List Int), k53_l6 F few full r c 0 a s b = some (a', s', b') ∧ b'.length = 16 ∧ Cur (n + 24) a' := by
  obtain ⟨⟨a', s', b'⟩, ⟨g1, g2⟩, g3⟩ := loop_ex (step := k53_s6 F few full r c) (fun i (x : Int × Int × List Int) => (i, x.1, x.2.1, x.2.2)) 4 (fun x => x) (fun i x => Cur (n + 6 * i) x.1 ∧ x.2.2.length = 16) (F := F) (by omega) (by omega)
    (fun i x hi ⟨h1, h2⟩ => by
      obtain ⟨xa, xs, xb⟩ := x
      simp only at h1 h2
      have hi' : (i : Int) < 4 := by omega
      obtain ⟨v1, a1, s1, e1, c1⟩ := tile_ok hc (by omega) h1 (s := xs)
      obtain ⟨v3, a3, s3, e3, c3⟩ := one_ok hc (by omega) (q := 3) (by decide) (by decide) c1 (s := s1)
      obtain ⟨v4, a4, s4, e4, _, c4⟩ := pick_ok hc (by omega) (q := 3) (by decide) (by decide) c3 (s := s3)
      obtain ⟨v5, a5, s5, e5, _, c5⟩ := pick_ok hc (by omega) (q := 3) (by decide) (by decide) c1 (s := s1)
      have q3 : ((3 : Nat) : Int) = 3 := rfl
      rw [q3] at e3 e4 e5
      have w : ∀ (a' s' : Int) (b' : List Int), b'.length = 16 → Cur (n + 6 * i + 2 + 2 + 2) a' → (∀ (Q : Type) (kn : Int × Int × Int × List Int → Option Q) (kx : Int × Int × List Int → Option Q), k53_s6 F few full r c Q ((i : Int), xa, xs, xb) kn kx = kn (IntKind.wrap .i64 ((i : Int) + 1), a', s', b')) →
          ∃ a' : Int × Int × List Int, (Cur (n + 6 * (i + 1)) a'.1 ∧ a'.2.2.length = 16) ∧ ∀ (Q : Type) (kn : Int × Int × Int × List Int → Option Q) (kx : Int × Int × List Int → Option Q), k53_s6 F few full r c Q ((i : Int), xa, xs, xb) kn kx = kn (IntKind.wrap .i64 ((i : Int) + 1), a'.1, a'.2.1, a'.2.2) := fun a' s' b' h1 h2 h3 => ⟨(a', s', b'), ⟨h2.mono (by omega), h1⟩, h3⟩
      have l1 : ∀ k x, (iset xb k x).length = 16 := fun k x => u237 h2 k x
      cases few with
      | true =>
        cases v3 with
        | false =>
          cases full with
          | true => exact w _ _ _ (l1 _ _) c4 fun Q kn kx => by simp only [k53_s6, hi', hi, hr, u021, e1, e3, e4, Option.isSome_some, Option.getD_some, decide_true, cond_true, Bool.not_false]; rfl
          | false => exact w _ _ _ (l1 _ _) (c3.mono (by omega)) fun Q kn kx => by simp only [k53_s6, hi', hi, hr, u021, e1, e3, e4, Option.isSome_some, Option.getD_some, decide_true, cond_true, cond_false, Bool.not_false]; rfl
        | true =>
          cases full with
          | true =>
            cases hv : v1 == 0 with
            | true => exact w _ _ _ (l1 _ _) c4 fun Q kn kx => by simp only [k53_s6, hi', hi, hr, u021, e1, e3, e4, hv, Option.isSome_some, Option.getD_some, decide_true, cond_true, cond_false, Bool.not_true]; rfl
            | false => exact w _ _ _ (l1 _ _) (c3.mono (by omega)) fun Q kn kx => by simp only [k53_s6, hi', hi, hr, u021, e1, e3, e4, hv, Option.isSome_some, Option.getD_some, decide_true, cond_true, cond_false, Bool.not_true]; rfl
          | false => exact w _ _ _ (l1 _ _) (c3.mono (by omega)) fun Q kn kx => by simp only [k53_s6, hi', hi, hr, u021, e1, e3, e4, Option.isSome_some, Option.getD_some, decide_true, cond_true, cond_false, Bool.not_true]; rfl
      | false =>
        cases full with
        | true =>
          cases hv : v1 == 0 with
          | true => exact w _ _ _ (l1 _ _) (c5.mono (by omega)) fun Q kn kx => by simp only [k53_s6, hi', hi, hr, u021, e1, e5, hv, Option.isSome_some, Option.getD_some, decide_true, cond_true, cond_false]; rfl
          | false => exact w _ _ _ (l1 _ _) (c1.mono (by omega)) fun Q kn kx => by simp only [k53_s6, hi', hi, hr, u021, e1, hv, Option.isSome_some, Option.getD_some, decide_true, cond_true, cond_false]; rfl
        | false => exact w _ _ _ (l1 _ _) (c1.mono (by omega)) fun Q kn kx => by simp only [k53_s6, hi', hi, hr, u021, e1, Option.isSome_some, Option.getD_some, decide_true, cond_true, cond_false]; rfl)
    (fun x _ Q kn kx => by simp [k53_s6]) (a := (a, s, b)) ⟨h, hb⟩
  exact ⟨a', s', b', g3, g2, g1⟩
theorem board_all {n : Nat} (hn : n ≤ 700000000) (few full : Bool) {a s : Int} (h : Cur n a) {b : List Int} (hb : b.length = 16) : ∃ (a' s' : Int) (b' : List Int), k53_l3 F few full c 0 a s b = some (a', s', b') ∧ b'.length = 16 ∧ Cur (n + 96) a' := by
  obtain ⟨⟨a', s', b'⟩, ⟨g1, g2⟩, g3⟩ := loop_ex (step := k53_s3 F few full c) (fun i (x : Int × Int × List Int) => (i, x.1, x.2.1, x.2.2)) 4 (fun x => x) (fun i x => Cur (n + 24 * i) x.1 ∧ x.2.2.length = 16) (F := F) (by omega) (by omega)
    (fun i x hi ⟨h1, h2⟩ => by
      obtain ⟨xa, xs, xb⟩ := x
      have hi' : (i : Int) < 4 := by omega
      obtain ⟨a', s', b', e, l, c1⟩ := board_in hc F hF (by omega) few full hi h1 h2 (s := xs)
      exact ⟨(a', s', b'), ⟨c1.mono (by omega), l⟩, fun Q kn kx => by simp only [k53_s3, hi', e, Option.isSome_some, Option.getD_some, decide_true, cond_true]⟩)
    (fun x _ Q kn kx => by simp [k53_s3]) (a := (a, s, b)) ⟨h, hb⟩
  exact ⟨a', s', b', g3, g2, g1⟩
theorem chess_in {n : Nat} (hn : n ≤ 800000000) {r : Nat} (hr : r < 4) {a s : Int} (h : Cur n a) {b : List Int} (hb : b.length = 16) : ∃ (a' s' : Int) (b' : List Int), k53_l29 F r c 0 a s b = some (a', s', b') ∧ b'.length = 16 ∧ Cur (n + 8) a' := by
  obtain ⟨⟨a', s', b'⟩, ⟨g1, g2⟩, g3⟩ := loop_ex (step := k53_s29 F r c) (fun i (x : Int × Int × List Int) => (i, x.1, x.2.1, x.2.2)) 4 (fun x => x) (fun i x => Cur (n + 2 * i) x.1 ∧ x.2.2.length = 16) (F := F) (by omega) (by omega)
    (fun i x hi ⟨h1, h2⟩ => by
      obtain ⟨xa, xs, xb⟩ := x
      have hi' : (i : Int) < 4 := by omega
      obtain ⟨v5, a5, s5, e5, _, c5⟩ := pick_ok hc (by omega) (q := 12) (by decide) (by decide) h1 (s := xs)
      have q3 : ((12 : Nat) : Int) = 12 := rfl
      rw [q3] at e5
      exact ⟨(a5, s5, _), ⟨c5.mono (by omega), u237 h2 _ _⟩, fun Q kn kx => by simp only [k53_s29, hi', hi, hr, u021, e5, Option.isSome_some, Option.getD_some, decide_true, cond_true]; rfl⟩)
    (fun x _ Q kn kx => by simp [k53_s29]) (a := (a, s, b)) ⟨h, hb⟩
  exact ⟨a', s', b', g3, g2, g1⟩
theorem chess_all {n : Nat} (hn : n ≤ 700000000) {a s : Int} (h : Cur n a) {b : List Int} (hb : b.length = 16) : ∃ (a' s' : Int) (b' : List Int), k53_l26 F c 0 a s b = some (a', s', b') ∧ b'.length = 16 ∧ Cur (n + 32) a' := by
  obtain ⟨⟨a', s', b'⟩, ⟨g1, g2⟩, g3⟩ := loop_ex (step := k53_s26 F c) (fun i (x : Int × Int × List Int) => (i, x.1, x.2.1, x.2.2)) 4 (fun x => x) (fun i x => Cur (n + 8 * i) x.1 ∧ x.2.2.length = 16) (F := F) (by omega) (by omega)
    (fun i x hi ⟨h1, h2⟩ => by
      obtain ⟨xa, xs, xb⟩ := x
      have hi' : (i : Int) < 4 := by omega
      obtain ⟨a', s', b', e, l, c1⟩ := chess_in hc F hF (by omega) hi h1 h2 (s := xs)
      exact ⟨(a', s', b'), ⟨c1.mono (by omega), l⟩, fun Q kn kx => by simp only [k53_s26, hi', e, Option.isSome_some, Option.getD_some, decide_true, cond_true]⟩)
    (fun x _ Q kn kx => by simp [k53_s26]) (a := (a, s, b)) ⟨h, hb⟩
  exact ⟨a', s', b', g3, g2, g1⟩
theorem board_ok {n : Nat} (hn : n ≤ 600000000) {a s : Int} (h : Cur n a) : ∃ (b : List Int) (a' s' : Int), k53_p F c a s = some (b, a', s') ∧ b.length = 16 ∧ Cur (n + 300) a' := by
  obtain ⟨f1, a1, s1, e1, c1⟩ := one_ok hc (by omega) (q := 4) (by decide) (by decide) h (s := s)
  obtain ⟨f2, a2, s2, e2, c2⟩ := one_ok hc (by omega) (q := 4) (by decide) (by decide) c1 (s := s1)
  obtain ⟨a3, s3, b3, e3, l3, c3⟩ := board_all hc F hF (by omega) f1 f2 c2 (s := s2) (b := [0, 0, 0, 0, 0, 0, 0, 0, 0, 0, 0, 0, 0, 0, 0, 0]) rfl
  obtain ⟨v4, a4, s4, e4, _, c4⟩ := pick_ok hc (by omega) (q := 40) (by decide) (by decide) c3 (s := s3)
  obtain ⟨v5, a5, s5, e5, g5, c5⟩ := pick_ok hc (by omega) (q := 4) (by decide) (by decide) c4 (s := s4)
  obtain ⟨v6, a6, s6, e6, g6, c6⟩ := pick_ok hc (by omega) (q := 4) (by decide) (by decide) c5 (s := s5)
  obtain ⟨v7, a7, s7, e7, _, c7⟩ := u250 hc (by omega) (l := [-1, 18, 4611686018427387904]) (by decide) (by decide) c6 (s := s6)
  obtain ⟨v8, a8, s8, e8, _, c8⟩ := u250 hc (by omega) (l := [16, 17, 16]) (by decide) (by decide) c4 (s := s4)
  obtain ⟨v9, a9, s9, e9, g9, c9⟩ := pick_ok hc (by omega) (q := 3) (by decide) (by decide) c8 (s := s8)
  obtain ⟨va, aa, sa, ea, ga, ca⟩ := pick_ok hc (by omega) (q := 4) (by decide) (by decide) c9 (s := s9)
  obtain ⟨vb, ab, sb, eb, gb, cb⟩ := pick_ok hc (by omega) (q := 2) (by decide) (by decide) ca (s := sa)
  obtain ⟨ac, sc, bc, ec, lc, cc⟩ := chess_all hc F hF (by omega) c4 (s := s4) l3
  have q2 : ((2 : Nat) : Int) = 2 := rfl
  have q3 : ((3 : Nat) : Int) = 3 := rfl
  have q4 : ((4 : Nat) : Int) = 4 := rfl
  have q40 : ((40 : Nat) : Int) = 40 := rfl
  rw [q4] at e1 e2 e5 e6 ea
  rw [q40] at e4
  rw [q3] at e9
  rw [q2] at eb
  simp only [k53_p, k53_c, e1, e2, e3, e4, e5, e6, e7, e8, e9, ea, eb, ec, Option.isSome_some, Option.getD_some, cond_true, u021, g5, g6, ga, decide_true, Int.toNat_natCast]
  cases h0 : ((v4 : Int) == 0) with
  | true => exact ⟨_, _, _, rfl, u237 l3 _ _, c7.mono (by omega)⟩
  | false =>
    cases h1 : ((v4 : Int) == 1) with
    | true => exact ⟨_, _, _, rfl, u196 l3 rfl ga, cb.mono (by omega)⟩
    | false =>
      cases h2 : ((v4 : Int) == 2) with
      | true => exact ⟨_, _, _, rfl, u196 l3 rfl ga, cb.mono (by omega)⟩
      | false =>
        cases h3 : ((v4 : Int) == 3) with
        | true => exact ⟨_, _, _, rfl, rfl, c4.mono (by omega)⟩
        | false =>
          cases h4 : ((v4 : Int) == 4) with
          | true => exact ⟨_, _, _, rfl, lc, cc.mono (by omega)⟩
          | false => exact ⟨_, _, _, rfl, l3, c4.mono (by omega)⟩
end
end Go.Lv.P
namespace Go.Lv.P
open Go Go.Lv
theorem side_ok {c : List Int} (hc : Byt c) {n : Nat} (hn : n ≤ 800000000) {a s : Int} (h : Cur n a) : ∃ (v a' s' : Int), k68_p c a s = some (v, a', s') ∧ Cur (n + 4) a' := by
  obtain ⟨f1, a1, s1, e1, c1⟩ := one_ok hc (by omega) (q := 40) (by decide) (by decide) h (s := s)
  obtain ⟨v2, a2, s2, e2, _, c2⟩ := u250 hc (by omega) (l := [-1, 4, 4611686018427387904]) (by decide) (by decide) c1 (s := s1)
  obtain ⟨v3, a3, s3, e3, _, c3⟩ := pick_ok hc (by omega) (q := 4) (by decide) (by decide) c1 (s := s1)
  have q4 : ((4 : Nat) : Int) = 4 := rfl
  have q40 : ((40 : Nat) : Int) = 40 := rfl
  rw [q40] at e1
  rw [q4] at e3
  simp only [k68_p, k68_c, e1, e2, e3, Option.isSome_some, Option.getD_some, cond_true]
  cases f1 with
  | true => exact ⟨_, _, _, rfl, c2.mono (by omega)⟩
  | false => exact ⟨_, _, _, rfl, c3.mono (by omega)⟩
end Go.Lv.P
namespace Go.Lv.P
open Go Go.Lv
abbrev cells16 : LL := [[0, 0], [0, 1], [0, 2], [0, 3], [1, 0], [1, 1], [1, 2], [1, 3], [2, 0], [2, 1], [2, 2], [2, 3], [3, 0], [3, 1], [3, 2], [3, 3]]
def plc (c : List Int) : Nat := 0 + (iget c 0).toNat * 4 + (iget c 1).toNat * 1
def em (b : List Int) : LL := cells16.filter fun c => iget b (plc c) == 0
theorem u220 {p : List Int → Prop} (h : ∀ r c : Nat, r < 4 → c < 4 → p [(r : Int), (c : Int)]) : ∀ x ∈ cells16, p x := by
  intro x hx
  simp only [cells16, List.mem_cons, List.not_mem_nil, or_false] at hx
  rcases hx with rfl | rfl | rfl | rfl | rfl | rfl | rfl | rfl | rfl | rfl | rfl | rfl | rfl | rfl | rfl | rfl
  · exact h 0 0 (by decide) (by decide)
  · exact h 0 1 (by decide) (by decide)
  · exact h 0 2 (by decide) (by decide)
  · exact h 0 3 (by decide) (by decide)
  · exact h 1 0 (by decide) (by decide)
  · exact h 1 1 (by decide) (by decide)
  · exact h 1 2 (by decide) (by decide)
  · exact h 1 3 (by decide) (by decide)
  · exact h 2 0 (by decide) (by decide)
  · exact h 2 1 (by decide) (by decide)
  · exact h 2 2 (by decide) (by decide)
  · exact h 2 3 (by decide) (by decide)
  · exact h 3 0 (by decide) (by decide)
  · exact h 3 1 (by decide) (by decide)
  · exact h 3 2 (by decide) (by decide)
  · exact h 3 3 (by decide) (by decide)
theorem em_len (b : List Int) : (em b).length ≤ 16 := List.length_filter_le _ _
theorem em_mem (b : List Int) : ∀ x ∈ em b, x ∈ cells16 := fun x hx => (List.mem_filter.1 hx).1
theorem fld_add {h : Nat → LL} : ∀ (m i : Nat) (a : LL), fld (fun i a => a ++ h i) i m a = a ++ (List.range' i m).flatMap h
  | 0, i, a => by simp [fld]
  | m + 1, i, a => by
    simp only [fld, fld_add m (i + 1), List.range'_succ, List.flatMap_cons, List.append_assoc]
theorem u169 (l : LL) (q : List Int → Bool) : l.filter q = l.flatMap fun c => bif q c then [c] else [] := by
  induction l with
  | nil => rfl
  | cons a r ih =>
    rw [List.filter_cons, List.flatMap_cons, ← ih]
    cases q a <;> rfl
theorem flat_len {h : Nat → LL} (hl : ∀ i, (h i).length ≤ 1) : ∀ m i, ((List.range' i m).flatMap h).length ≤ m
  | 0, i => by simp
  | m + 1, i => by
    have := flat_len hl m (i + 1)
    have := hl i
    simp only [List.range'_succ, List.flatMap_cons, List.length_append]
    omega
def plm (b : List Int) : LL := fld (fun i a => a ++ [[iget (rget (em b) i) 0, iget (rget (em b) i) 1, 1], [iget (rget (em b) i) 0, iget (rget (em b) i) 1, 2]]) 0 (em b).length []
end Go.Lv.P
namespace Go.Lv.P
open Go Go.Lv
def mrow (m : Nat) (k : Int) : List Int := (List.range m).map fun j : Nat => k + (j : Int)
def mrows (m : Nat) (k : Int) (n : Nat) : LL := (List.range n).map fun i : Nat => mrow m (k + (m : Int) * (i : Int))
end Go.Lv.P
namespace Go.Lv.P
open Go Go.Lv
set_option maxRecDepth 100000
abbrev RS := Nat × Int × Bool × List Int
def rstep (s : RS) (x : Int) : RS :=
  bif decide (0 < s.1) && (iget s.2.2.2 (0 + (s.1 - 1) * 1) == x) && decide (x < 17) && !s.2.2.1 then (s.1, IntKind.wrap .i64 (s.2.1 + W (x + 1)), true, iset s.2.2.2 (0 + (s.1 - 1) * 1) (x + 1))
  else (s.1 + 1, s.2.1, false, iset s.2.2.2 (0 + s.1 * 1) x)
def u102 (row : List Int) : RS := (row.filter fun x => !(x == 0)).foldl rstep (0, 0, false, [0, 0, 0, 0])
theorem rstep_n (s : RS) (x : Int) : (rstep s x).1 ≤ s.1 + 1 := by
  unfold rstep
  cases decide (0 < s.1) && (iget s.2.2.2 (0 + (s.1 - 1) * 1) == x) && decide (x < 17) && !s.2.2.1
  · exact Nat.le_refl _
  · exact Nat.le_succ _
def rput (row : List Int) (i : Nat) (s : RS) : RS := bif iget row (0 + i * 1) == 0 then s else rstep s (iget row (0 + i * 1))
theorem fld_rput (row : List Int) (h : row.length = 4) (s : RS) : fld (rput row) 0 4 s = (row.filter fun x => !(x == 0)).foldl rstep s := by
  obtain ⟨a, b, c, d, rfl⟩ := list4 h
  have key : ∀ (x : Int) (l : List Int) (s : RS), ((x :: l).filter fun x => !(x == 0)).foldl rstep s = (l.filter fun x => !(x == 0)).foldl rstep (bif x == 0 then s else rstep s x) := fun x l s => by
    rw [List.filter_cons]
    cases x == 0 <;> rfl
  rw [key, key, key, key]
  rfl
theorem wrap_pred {n : Nat} (h : 0 < n) (h2 : n ≤ 100) : IntKind.wrap .i64 ((n : Int) - 1) = ((n - 1 : Nat) : Int) := by
  rw [u044 (by omega) (by omega)]; omega
theorem bsetL (xs : List Bool) (n : Nat) (x : Bool) : bset xs n x = xs.set n x := by
  induction xs generalizing n with
  | nil => cases n <;> rfl
  | cons a r ih => cases n with
    | zero => rfl
    | succ n => simp only [bset, ih, List.set_cons_succ]
theorem bgetL (xs : List Bool) (n : Nat) : bget xs n = xs[n]?.getD false := by
  induction xs generalizing n with
  | nil => cases n <;> rfl
  | cons a r ih => cases n with
    | zero => rfl
    | succ n => simp only [bget, ih, List.getElem?_cons_succ]
theorem fld_list (l : List Int) (g : RS → Int → RS) : ∀ (m i : Nat) (s : RS), i + m = l.length → fld (fun i s => g s (iget l (0 + i))) i m s = (l.drop i).foldl g s
  | 0, i, s, h => by rw [List.drop_eq_nil_of_le (by omega)]; rfl
  | m + 1, i, s, h => by
    have hi : i < l.length := by omega
    rw [fld, fld_list l g m (i + 1) _ (by omega), List.drop_eq_getElem_cons hi, List.foldl_cons, Nat.zero_add, igetL, List.getElem?_eq_getElem hi]
    rfl
end Go.Lv.P
namespace Go.Lv.P
open Go Go.Lv
def sumB (b : List Int) : Int := (b.map W).foldl (· + ·) 0
end Go.Lv.P
namespace Go.Lv.P
open Go Go.Lv
theorem worth_eq {t : Int} (h : inB t 0 17 = true) : k121_p t = some (W t) := by
  rcases tile_cases h with h | h | h | h | h | h | h | h | h | h | h | h | h | h | h | h | h | h <;> subst h <;> decide
end Go.Lv.P
