/-
Plain facts of the pure functions, part 3; without conditions.
-/
import Derived.Test.YtkhccaoancfeoaaQsP2
import Derived.Test.YtkhccaoancfeoaaQsP4
import Derived.Test.YtkhccaoancfeoaaQsPG2
import Derived.Test.YtkhccaoancfeoaaQsP3
import Derived.Test.YtkhccaoancfeoaaQsPG1
import Derived.Test.YtkhccaoancfeoaaQsP0
import Derived.Test.YtkhccaoancfeoaaQsP1
set_option linter.unusedVariables false
set_option linter.unusedSimpArgs false
set_option linter.unusedSectionVars false
namespace Go.Lv.P
open Go Go.Lv
set_option maxRecDepth 100000
theorem impl_line (b : List Int) {d i : Nat} (hd : d < 4) (hi : i < 4) : impl_Board_line_p b d i = some (lineB b d i) := by
  obtain rfl | rfl | rfl | rfl : d = 0 ∨ d = 1 ∨ d = 2 ∨ d = 3 := by omega
  all_goals
    obtain rfl | rfl | rfl | rfl : i = 0 ∨ i = 1 ∨ i = 2 ∨ i = 3 := by omega
    all_goals rfl
theorem impl_with (b row : List Int) {d i : Nat} (hd : d < 4) (hi : i < 4) : impl_Board_withLine_p b d i row = some (putB b d i row) := by
  obtain rfl | rfl | rfl | rfl : d = 0 ∨ d = 1 ∨ d = 2 ∨ d = 3 := by omega
  all_goals
    obtain rfl | rfl | rfl | rfl : i = 0 ∨ i = 1 ∨ i = 2 ∨ i = 3 := by omega
    all_goals rfl
section
variable {b : List Int} (hb : b.length = 16) (ok : okB b = true)
include hb ok
theorem impl_slide (F : Nat) (hF : 1000 < F) {d : Nat} (hd : d < 4) : ∃ m, impl_Board_slide_p F b d = some ((slideB b d).1, (slideB b d).2, m) := by
  have l8 : ∀ (sc : Int) (t : Int) (ms : List Bool) (b' out : List Int) (m : Int), ∃ m', impl_Board_slide_l8 F d sc t ms b' out m 0 = some m' := fun sc t ms b' out m =>
    ⟨_, (loop_fold (step := impl_Board_slide_s8 F d sc t ms b' out) (fun i (a : Int) => (a, i)) 4 (fun i a => bif bget ms (i * 1) then IntKind.wrap .i64 (a + 1) else a) (fun a => a) (fun _ _ => True) (F := F) (by omega) (by omega) (a := m) trivial (fun i a hi _ => ⟨trivial, fun Q kn kx => by
      have hi' : (i : Int) < 4 := by omega
      simp only [impl_Board_slide_s8, hi', inR_cast, hi, Int.toNat_natCast, decide_true, cond_true]
      cases bget ms (i * 1) <;> rfl⟩) (fun a _ Q kn kx => by simp [impl_Board_slide_s8])).1⟩
  have row : ∀ i, i < 4 → ∃ mg, impl_slideRow_p F (lineB b d i) = some ((rslide (lineB b d i)).2.2.2, (rslide (lineB b d i)).2.1, mg) := fun i hi => impl_row F _ rfl (line_ok hb ((okB_iff b).1 ok) hd hi) hF
  have step : ∀ (i : Nat) (m : Int) (s : List Int × Int), i < 4 → ∃ m' : Int, ∀ (Q : Type) kn kx, impl_Board_slide_s3 F d b Q (s.2, m, (i : Int), s.1) kn kx = kn ((sstep b d i s).2, m', IntKind.wrap .i64 ((i : Int) + 1), (sstep b d i s).1) := fun i m s hi => by
    obtain ⟨mg, hr⟩ := row i hi
    obtain ⟨m', h8⟩ := l8 (IntKind.wrap .i64 (s.2 + (rslide (lineB b d i)).2.1)) i mg b (putB s.1 d i (rslide (lineB b d i)).2.2.2) m
    refine ⟨m', fun Q kn kx => ?_⟩
    have hi' : (i : Int) < 4 := by omega
    simp only [impl_Board_slide_s3, hi', decide_true, cond_true, impl_line b hd hi, hr, impl_with _ _ hd hi, h8, Option.isSome_some, Option.getD_some, sstep]
  obtain ⟨G, rfl⟩ : ∃ G, F = G + 5 := ⟨F - 5, by omega⟩
  obtain ⟨m1, h1⟩ := step 0 0 (b, 0) (by omega)
  obtain ⟨m2, h2⟩ := step 1 m1 _ (by omega)
  obtain ⟨m3, h3⟩ := step 2 m2 _ (by omega)
  obtain ⟨m4, h4⟩ := step 3 m3 _ (by omega)
  have e : impl_Board_slide_l3 (G + 5) d b 0 0 0 b = some ((slideB b d).2, m4, (slideB b d).1) := by
    have w : ∀ n : Nat, n < 4 → IntKind.wrap .i64 ((n : Int) + 1) = ((n + 1 : Nat) : Int) := fun n hn => wrap_succ hn (by omega)
    show loopC _ (G + 5) ((b, (0 : Int)).2, (0 : Int), ((0 : Nat) : Int), (b, (0 : Int)).1) some = _
    simp only [loopC]
    rw [h1, w 0 (by omega), h2, w 1 (by omega), h3, w 2 (by omega), h4, w 3 (by omega)]
    simp [impl_Board_slide_s3]
    exact ⟨rfl, rfl⟩
  exact ⟨m4, by simp only [impl_Board_slide_p, impl_Board_slide_c, e, Option.isSome_some, Option.getD_some, cond_true]⟩
end
end Go.Lv.P

namespace Go.Lv.P
open Go Go.Lv
/-- the number of tiles -/
def isT (x : Int) : Int := if x = 0 then 0 else 1
/-- how often a tile is in a list -/
def isN (t x : Int) : Int := if x = t then 1 else 0
def bump (out : List Int) (x : Int) : List Int := iset out (0 + x.toNat * 1) (IntKind.wrap .i64 (iget out (0 + x.toNat * 1) + 1))
abbrev zero18 : List Int := [0, 0, 0, 0, 0, 0, 0, 0, 0, 0, 0, 0, 0, 0, 0, 0, 0, 0]
/-- no tile is there twice -/
def Dis (b : List Int) : Prop := ∀ p q : Nat, p < 16 → q < 16 → p ≠ q → iget b p = iget b q → iget b p = 0
end Go.Lv.P

namespace Go.Lv.P
open Go Go.Lv
theorem compact_in4 (F n k0 : Nat) (hn : n ≤ 1000000) (hk0 : k0 ≤ n) : ∀ (m i k G : Nat) (s : LL), i + m = n - k0 → 1 ≤ i → m < G → k0 ≤ k → k ≤ k0 + (i - 1) → s.length = n →
    ∃ s', loopC (slices_Compact_4int4int_s9 F n (0 + k0) (n - k0)) G ((k : Int), (i : Int), s) some = some (((k + (dd (rget s (k0 + (i - 1))) (s.drop (k0 + i))).length : Nat) : Int), s') ∧ s'.length = n ∧ s'.take (k + (dd (rget s (k0 + (i - 1))) (s.drop (k0 + i))).length) = s.take k ++ dd (rget s (k0 + (i - 1))) (s.drop (k0 + i))
  | 0, i, k, G, s, hi, h1, hG, hk, hk2, hs => by
    obtain ⟨G, rfl⟩ : ∃ G', G = G' + 1 := ⟨G - 1, by omega⟩
    have hd : s.drop (k0 + i) = [] := List.drop_eq_nil_of_le (by omega)
    have hlt : ¬ (i : Int) < ((n - k0 : Nat) : Int) := by omega
    refine ⟨s, ?_, hs, ?_⟩
    · rw [hd]
      simp only [loopC, slices_Compact_4int4int_s9, hlt, decide_false, cond_false, dd, List.length_nil, Nat.add_zero]
    · rw [hd]; simp [dd]
  | m + 1, i, k, G, s, hi, h1, hG, hk, hk2, hs => by
    obtain ⟨G, rfl⟩ : ∃ G', G = G' + 1 := ⟨G - 1, by omega⟩
    have hlt : i < n - k0 := by omega
    have hw : IntKind.wrap .i64 ((i : Int) - 1) = ((i - 1 : Nat) : Int) := by rw [wrap_of (by omega) (by omega)]; omega
    have hin1 : i - 1 < n - k0 := by omega
    have hkn : k < n := by omega
    have hil : k0 + i < s.length := by omega
    have hd : s.drop (k0 + i) = s[k0 + i] :: s.drop (k0 + i + 1) := List.drop_eq_getElem_cons hil
    have hg : rget s (k0 + i) = s[k0 + i] := by rw [rgetL, List.getElem?_eq_getElem hil]; rfl
    simp only [loopC, slices_Compact_4int4int_s9, Int.ofNat_lt, hlt, decide_true, cond_true, inR_cast, hw, hin1, hkn, Int.toNat_natCast, Nat.zero_add]
    rw [wrap_succ (n := n) (i := i) (by omega) (by omega), hd]
    cases hc : rget s (k0 + i) == rget s (k0 + (i - 1)) with
    | true =>
      have hc2 : (s[k0 + i] == rget s (k0 + (i - 1))) = true := by rw [← hg]; exact hc
      simp only [Bool.not_true, cond_false, dd, hc2, cond_true]
      have ih := compact_in4 F n k0 hn hk0 m (i + 1) k G s (by omega) (by omega) (by omega) hk (by omega) hs
      rw [Nat.add_sub_cancel, hg, ← Nat.add_assoc, Nat.zero_add] at ih
      exact ih
    | false =>
      have hc2 : (s[k0 + i] == rget s (k0 + (i - 1))) = false := by rw [← hg]; exact hc
      simp only [Bool.not_false, cond_true, dd, hc2, cond_false]
      rw [wrap_succ (n := n) (i := k) hkn (by omega)]
      have hdr : (rset s k (rget s (k0 + i))).drop (k0 + i + 1) = s.drop (k0 + i + 1) := by
        rw [rsetL, List.drop_set_of_lt (by omega)]
      have hgr : rget (rset s k (rget s (k0 + i))) (k0 + i) = s[k0 + i] := by
        rw [rgetL, rsetL, List.getElem?_set]
        split
        · rename_i e; omega
        · rw [List.getElem?_eq_getElem hil]; rfl
      obtain ⟨s', e1, e2, e3⟩ := compact_in4 F n k0 hn hk0 m (i + 1) (k + 1) G (rset s k (rget s (k0 + i))) (by omega) (by omega) (by omega) (by omega) (by omega) (by rw [rsetL]; simpa using hs)
      rw [Nat.add_sub_cancel, hgr, ← Nat.add_assoc, hdr, Nat.zero_add] at e1
      rw [Nat.add_sub_cancel, hgr, ← Nat.add_assoc, hdr] at e3
      rw [rset_take _ _ _ (by omega), hg] at e3
      refine ⟨s', ?_, e2, ?_⟩
      · rw [e1, List.length_cons]; congr 3; omega
      · rw [List.length_cons, show k + ((dd s[k0 + i] (s.drop (k0 + i + 1))).length + 1) = k + 1 + (dd s[k0 + i] (s.drop (k0 + i + 1))).length by omega, e3, List.append_assoc]; rfl
/-- no neighbours that are the same, up to j -/
theorem comp_upto4 : ∀ (j : Nat) (s : LL), 1 ≤ j → j ≤ s.length → (∀ i, 1 ≤ i → i < j → (rget s i == rget s (i - 1)) = false) → compL s = s.take j ++ dd (rget s (j - 1)) (s.drop j)
  | 0, s, h, _, _ => by omega
  | 1, s, _, hl, _ => by
    cases s with
    | nil => simp at hl
    | cons a r => rfl
  | j + 2, s, _, hl, hp => by
    have ih := comp_upto4 (j + 1) s (by omega) (by omega) fun i h1 h2 => hp i h1 (by omega)
    have hjl : j + 1 < s.length := by omega
    have hg : rget s (j + 1) = s[j + 1] := by rw [rgetL, List.getElem?_eq_getElem hjl]; rfl
    have hc := hp (j + 1) (by omega) (by omega)
    rw [hg] at hc
    rw [ih, List.drop_eq_getElem_cons hjl]
    simp only [dd, hc, cond_false]
    rw [show j + 2 - 1 = j + 1 by omega, hg, List.take_succ_eq_append_getElem hjl, List.append_assoc]; rfl
theorem compact_out4 (F n : Nat) (hn : n ≤ 1000000) (hF : n + 5 < F) (s : LL) (hs : s.length = n) : ∀ (m j G : Nat), j + m = n → 1 ≤ j → m < G → (∀ i, 1 ≤ i → i < j → (rget s i == rget s (i - 1)) = false) →
    ∃ r : Bool × Nat × LL, loopC (slices_Compact_4int4int_s4 F n s) G (j : Int) some = some r ∧ ((r.1 = false ∧ compL s = s) ∨ (r.1 = true ∧ r.2.1 = (compL s).length ∧ r.2.2.take r.2.1 = compL s ∧ r.2.2.length = n ∧ r.2.1 ≤ n))
  | 0, j, G, hj, h1, hG, hp => by
    obtain ⟨G, rfl⟩ : ∃ G', G = G' + 1 := ⟨G - 1, by omega⟩
    have hlt : ¬ (j : Int) < ((n : Nat) : Int) := by omega
    refine ⟨(false, default, default), ?_, .inl ⟨rfl, ?_⟩⟩
    · simp only [loopC, slices_Compact_4int4int_s4, hlt, decide_false, cond_false]
    · rw [comp_upto4 j s h1 (by omega) hp, List.drop_eq_nil_of_le (by omega), List.take_of_length_le (by omega)]
      simp [dd]
  | m + 1, j, G, hj, h1, hG, hp => by
    obtain ⟨G, rfl⟩ : ∃ G', G = G' + 1 := ⟨G - 1, by omega⟩
    have hlt : j < n := by omega
    have hw : IntKind.wrap .i64 ((j : Int) - 1) = ((j - 1 : Nat) : Int) := by rw [wrap_of (by omega) (by omega)]; omega
    have hj1 : j - 1 < n := by omega
    have hjl : j < s.length := by omega
    have hg : rget s j = s[j] := by rw [rgetL, List.getElem?_eq_getElem hjl]; rfl
    simp only [loopC, slices_Compact_4int4int_s4, Int.ofNat_lt, hlt, decide_true, cond_true, inR_cast, hw, hj1, Int.toNat_natCast, Nat.zero_add]
    cases hc : rget s j == rget s (j - 1) with
    | true =>
      have e := eq_of_beq hc
      obtain ⟨s', e1, e2, e3⟩ := compact_in4 F n j hn (by omega) (n - j - 1) 1 j F s (by omega) (by omega) (by omega) (by omega) (by omega) hs
      have hcm : compL s = s.take j ++ dd (rget s (j + (1 - 1))) (s.drop (j + 1)) := by
        rw [comp_upto4 j s h1 (by omega) hp, List.drop_eq_getElem_cons hjl]
        simp only [dd]
        rw [← hg, hc]; rfl
      have hlen : (compL s).length = j + (dd (rget s (j + (1 - 1))) (s.drop (j + 1))).length := by rw [hcm, List.length_append, List.length_take, Nat.min_eq_left (by omega)]
      have hle : (compL s).length ≤ n := by
        have h3 := congrArg List.length e3
        rw [← hcm, ← hlen, List.length_take, e2] at h3
        omega
      rw [← hlen] at e1 e3
      rw [← hcm] at e3
      have e1 : slices_Compact_4int4int_l9 F n j (n - j) (j : Int) 1 s = some ((((compL s).length : Nat) : Int), s') := by
        unfold slices_Compact_4int4int_l9
        rw [Nat.zero_add] at e1
        exact e1
      have hjle : j ≤ n := by omega
      simp only [cond_true, inLe_cast, hjle, decide_true, e1, Option.isSome_some, Option.getD_some, hle, Int.toNat_natCast, Nat.sub_zero, Nat.zero_add]
      refine ⟨_, rfl, .inr ⟨rfl, rfl, ?_, ?_, hle⟩⟩
      · show (splice s' (compL s).length _ _).take _ = _
        unfold splice
        rw [List.append_assoc, List.take_append_of_le_length (by
          show (compL s).length ≤ _
          rw [List.length_take, e2]; omega)]
        show (s'.take (compL s).length).take (compL s).length = _
        rw [List.take_take, Nat.min_self, e3]
      · show (splice s' (compL s).length _ _).length = n
        unfold splice
        simp [e2]
        omega
    | false =>
      simp only [cond_false]
      rw [wrap_succ (n := n) hlt (by omega)]
      exact compact_out4 F n hn hF s hs m (j + 1) G (by omega) (by omega) (by omega) fun i g1 g2 => by
        by_cases hi : i = j
        · subst hi; exact hc
        · exact hp i g1 (by omega)
theorem compact4 (F : Nat) (s : LL) (hn : s.length ≤ 1000000) (hF : s.length + 5 < F) : ∃ r : Nat × LL, slices_Compact_4int4int_p F s.length s = some r ∧ r.1 = (compL s).length ∧ r.2.take r.1 = compL s ∧ r.1 ≤ r.2.length ∧ r.2.length = s.length := by
  by_cases h2 : s.length < 2
  · have hd : decide (((s.length : Nat) : Int) < 2) = true := decide_eq_true (by omega)
    refine ⟨(s.length, s), ?_, ?_, ?_, Nat.le_refl _, rfl⟩
    · simp only [slices_Compact_4int4int_p, slices_Compact_4int4int_c, hd, cond_true]
    · match s, h2 with
      | [], _ => rfl
      | [a], _ => rfl
    · match s, h2 with
      | [], _ => rfl
      | [a], _ => rfl
  · have hd : decide (((s.length : Nat) : Int) < 2) = false := decide_eq_false (by omega)
    obtain ⟨r, h1, h3⟩ := compact_out4 F s.length hn hF s rfl (s.length - 1) 1 F (by omega) (by omega) (by omega) fun i g1 g2 => by omega
    have h1 : slices_Compact_4int4int_l4 F s.length s 1 = some r := h1
    rcases h3 with ⟨h3, h4⟩ | ⟨h3, h4, h5, h6, h7⟩
    · refine ⟨(s.length, s), ?_, by rw [h4], by rw [h4]; exact List.take_length, Nat.le_refl _, rfl⟩
      simp only [slices_Compact_4int4int_p, slices_Compact_4int4int_c, hd, cond_false, h1, Option.isSome_some, Option.getD_some, cond_true, h3]
    · refine ⟨(r.2.1, r.2.2), ?_, h4, h5, ?_, h6⟩
      · simp only [slices_Compact_4int4int_p, slices_Compact_4int4int_c, hd, cond_false, h1, Option.isSome_some, Option.getD_some, cond_true, h3]
      · show r.2.1 ≤ r.2.2.length; omega
end Go.Lv.P

namespace Go.Lv.P
open Go Go.Lv
/-- the number of marks -/
def tr : List Bool → Nat
  | [] => 0
  | b :: r => (bif b then 1 else 0) + tr r
theorem tr_bset : ∀ (l : List Bool) (i : Nat), i < l.length → bget l i = false → tr (bset l i true) = tr l + 1
  | [], i, h, _ => by simp at h
  | b :: r, 0, _, h => by
    have h : b = false := h
    subst h
    simp only [bset, tr, cond_true, cond_false]; omega
  | b :: r, i + 1, h, hb => by
    have := tr_bset r i (by simpa using h) hb
    simp only [bset, tr, this]; omega
def MI (s : RS × List Bool) : Prop := s.2.length = 4 ∧ (0 < s.1.1 → bget s.2 (0 + (s.1.1 - 1) * 1) = s.1.2.2.1) ∧ ∀ j, s.1.1 ≤ j → bget s.2 j = false
theorem rstep2_MI {s : RS × List Bool} {x : Int} (h : MI s) (hs : s.1.1 < 4) : MI (rstep2 s x) ∧ tr (rstep2 s x).2 = tr s.2 + (bif rhit s.1 x then 1 else 0) := by
  obtain ⟨⟨n, sc, mg, out⟩, ms⟩ := s
  obtain ⟨i2, i3, i4⟩ := h
  simp only at i2 i3 i4 hs
  unfold rstep2 rstep rhit
  simp only
  cases hc : decide (0 < n) && (iget out (0 + (n - 1) * 1) == x) && decide (x < 17) && !mg with
  | true =>
    simp only [Bool.and_eq_true, decide_eq_true_eq, Bool.not_eq_true'] at hc
    have h0 := hc.1.1.1
    have hmg := hc.2
    rw [hmg] at i3
    simp only [cond_true]
    refine ⟨⟨by rw [bsetL]; simpa using i2, fun _ => ?_, fun j hj => ?_⟩, tr_bset _ _ (by omega) (i3 h0)⟩
    · show bget (bset ms _ true) _ = true
      rw [bsetL, bgetL, List.getElem?_set_self (by omega)]; rfl
    · have hj : n ≤ j := hj
      show bget (bset ms _ true) j = false
      rw [bsetL, bgetL, List.getElem?_set_ne (by omega), ← bgetL]
      exact i4 j hj
  | false =>
    simp only [cond_false]
    exact ⟨⟨i2, fun _ => i4 _ (by simp only; omega), fun j hj => i4 j (by have hj : n + 1 ≤ j := hj; omega)⟩, rfl⟩
theorem rfold2_tr : ∀ (l : List Int) (s : RS × List Bool), MI s → s.1.1 + l.length ≤ 4 → tr (l.foldl rstep2 s).2 = tr s.2 + (mgs s.1 l).length
  | [], s, _, _ => rfl
  | x :: l, s, h, hl => by
    simp only [List.length_cons] at hl
    obtain ⟨h1, h2⟩ := rstep2_MI (x := x) h (by omega)
    have hn := rstep_n s.1 x
    rw [List.foldl_cons, rfold2_tr l _ h1 (by show (rstep s.1 x).1 + _ ≤ 4; omega), h2]
    simp only [mgs, rstep2]
    cases rhit s.1 x with
    | true => simp only [cond_true, List.length_cons]; omega
    | false => simp only [cond_false]; omega
theorem rslide2_tr {row : List Int} (hl : row.length = 4) : tr (rslide2 row).2 = (rowM row).length := by
  have hn : (row.filter fun x => !(x == 0)).length ≤ 4 := by rw [← hl]; exact List.length_filter_le _ _
  have := rfold2_tr (row.filter fun x => !(x == 0)) ((0, 0, false, [0, 0, 0, 0]), [false, false, false, false]) ⟨rfl, fun h => absurd h (by decide), fun j _ => by rw [bgetL]; rcases j with _ | _ | _ | _ | j <;> simp⟩ (by simpa using hn)
  rw [show tr ((((0 : Nat), (0 : Int), false, [(0 : Int), 0, 0, 0]) : RS), [false, false, false, false]).2 = 0 from rfl, Nat.zero_add] at this
  exact this
section
variable {b : List Int} (hb : b.length = 16) (ok : okB b = true)
include hb ok
end
end Go.Lv.P

namespace Go.Lv.P
open Go Go.Lv
set_option maxRecDepth 100000
theorem spec_line (G : Nat) {d i : Nat} (hd : d < 4) (hi : i < 4) : spec_l2Line_p (G + 1001) d i = some (crd d i) := by
  obtain rfl | rfl | rfl | rfl : d = 0 ∨ d = 1 ∨ d = 2 ∨ d = 3 := by omega
  all_goals
    obtain rfl | rfl | rfl | rfl : i = 0 ∨ i = 1 ∨ i = 2 ∨ i = 3 := by omega
    all_goals kernel_rfl
theorem spec_nums (G : Nat) (b : List Int) {d i : Nat} (hd : d < 4) (hi : i < 4) : spec_l2Numbers_p (G + 1001) b d i = some (lineB b d i) := by
  obtain rfl | rfl | rfl | rfl : d = 0 ∨ d = 1 ∨ d = 2 ∨ d = 3 := by omega
  all_goals
    obtain rfl | rfl | rfl | rfl : i = 0 ∨ i = 1 ∨ i = 2 ∨ i = 3 := by omega
    all_goals kernel_rfl
theorem put_line0 (out : List Int) (x : Int) {d i : Nat} (hd : d < 4) (hi : i < 4) : spec_l2Put_p out (sub (crd d i) 0 2) x = some (iset out (plcD d i 0) x) := by
  obtain rfl | rfl | rfl | rfl : d = 0 ∨ d = 1 ∨ d = 2 ∨ d = 3 := by omega
  all_goals
    obtain rfl | rfl | rfl | rfl : i = 0 ∨ i = 1 ∨ i = 2 ∨ i = 3 := by omega
    all_goals kernel_rfl
theorem put_line1 (out : List Int) (x : Int) {d i : Nat} (hd : d < 4) (hi : i < 4) : spec_l2Put_p out (sub (crd d i) 2 2) x = some (iset out (plcD d i 1) x) := by
  obtain rfl | rfl | rfl | rfl : d = 0 ∨ d = 1 ∨ d = 2 ∨ d = 3 := by omega
  all_goals
    obtain rfl | rfl | rfl | rfl : i = 0 ∨ i = 1 ∨ i = 2 ∨ i = 3 := by omega
    all_goals kernel_rfl
theorem put_line2 (out : List Int) (x : Int) {d i : Nat} (hd : d < 4) (hi : i < 4) : spec_l2Put_p out (sub (crd d i) 4 2) x = some (iset out (plcD d i 2) x) := by
  obtain rfl | rfl | rfl | rfl : d = 0 ∨ d = 1 ∨ d = 2 ∨ d = 3 := by omega
  all_goals
    obtain rfl | rfl | rfl | rfl : i = 0 ∨ i = 1 ∨ i = 2 ∨ i = 3 := by omega
    all_goals kernel_rfl
theorem put_line3 (out : List Int) (x : Int) {d i : Nat} (hd : d < 4) (hi : i < 4) : spec_l2Put_p out (sub (crd d i) 6 2) x = some (iset out (plcD d i 3) x) := by
  obtain rfl | rfl | rfl | rfl : d = 0 ∨ d = 1 ∨ d = 2 ∨ d = 3 := by omega
  all_goals
    obtain rfl | rfl | rfl | rfl : i = 0 ∨ i = 1 ∨ i = 2 ∨ i = 3 := by omega
    all_goals kernel_rfl
section
variable {b : List Int} (hb : b.length = 16) (ok : okB b = true)
include hb ok
theorem spec_slide (F : Nat) (hF : 1000 < F) {d : Nat} (hd : d < 4) : spec_l2Slide_p F b d = some (slideB b d) := by
  obtain ⟨G, rfl⟩ : ∃ G, F = G + 1001 := ⟨F - 1001, by omega⟩
  have h := loop_fold (step := spec_l2Slide_s3 (G + 1001) d b) (fun i (s : List Int × Int) => (s.2, i, s.1)) 4 (sstep b d) (fun s => (s.2, s.1)) (fun _ _ => True) (F := G + 1001) (by omega) (by omega) (a := (b, 0)) trivial
    (fun i s hi _ => ⟨trivial, fun Q kn kx => by
      have hi' : (i : Int) < 4 := by omega
      simp only [spec_l2Slide_s3, hi', decide_true, cond_true, spec_nums G b hd hi, spec_row (G + 1001) _ rfl (line_ok hb ((okB_iff b).1 ok) hd hi) hF, spec_line G hd hi, put_line0 _ _ hd hi, put_line1 _ _ hd hi, put_line2 _ _ hd hi, put_line3 _ _ hd hi, Option.isSome_some, Option.getD_some, sstep, putB]⟩)
    (fun s _ Q kn kx => by simp [spec_l2Slide_s3])
  have e : spec_l2Slide_l3 (G + 1001) d b 0 0 b = some ((slideB b d).2, (slideB b d).1) := h.1
  simp only [spec_l2Slide_p, spec_l2Slide_c, e, Option.isSome_some, Option.getD_some, cond_true]
end
end Go.Lv.P

namespace Go.Lv.P
open Go Go.Lv
/-! ### rows without mergers are pushed together -/
def nzf (row : List Int) : List Int := row.filter fun x => !(x == 0)
def packR (row : List Int) : List Int := nzf row ++ List.replicate (4 - (nzf row).length) 0
theorem zeros_of : ∀ (l : List Int) (n : Nat), l.length = n → (∀ j, j < n → iget l j = 0) → l = List.replicate n 0
  | [], n, h, _ => by subst h; rfl
  | x :: l, n, h, h0 => by
    subst h
    have e : x = 0 := h0 0 (by simp)
    rw [List.length_cons, List.replicate_succ, e, ← zeros_of l l.length rfl fun j hj => h0 (j + 1) (by simp; omega)]
theorem iget_drop (l : List Int) (n j : Nat) : iget (l.drop n) j = iget l (n + j) := by
  rw [igetL, igetL, List.getElem?_drop]
theorem fold_pack : ∀ (l : List Int) (s : RS), RI s → s.1 + l.length ≤ 4 → mgs s l = [] → (l.foldl rstep s).2.2.2 = s.2.2.2.take s.1 ++ (l ++ List.replicate (4 - (s.1 + l.length)) 0)
  | [], s, h, hl, _ => by
    have e := zeros_of (s.2.2.2.drop s.1) (4 - s.1) (by rw [List.length_drop, h.1]) fun j hj => by rw [iget_drop]; exact h.2 _ (by omega) (by omega)
    rw [List.foldl_nil, List.nil_append, List.length_nil, Nat.add_zero, ← e, List.take_append_drop]
  | x :: l, s, h, hl, hm => by
    simp only [List.length_cons] at hl
    have hr : rhit s x = false := by
      cases hh : rhit s x with
      | false => rfl
      | true => simp only [mgs, hh, cond_true] at hm; cases hm
    simp only [mgs, hr, cond_false] at hm
    have e : rstep s x = (s.1 + 1, s.2.1, false, iset s.2.2.2 (0 + s.1 * 1) x) := by
      unfold rhit at hr
      unfold rstep
      rw [hr]; rfl
    have h1 := rstep_RI (x := x) h (by omega)
    rw [List.foldl_cons]
    rw [e] at h1 hm ⊢
    rw [fold_pack l _ h1 (by show s.1 + 1 + l.length ≤ 4; omega) hm]
    show (iset s.2.2.2 (0 + s.1 * 1) x).take (s.1 + 1) ++ (l ++ List.replicate (4 - (s.1 + 1 + l.length)) 0) = _
    rw [show 0 + s.1 * 1 = s.1 by omega, isetL, List.take_add_one, List.take_set_of_le (Nat.le_refl _), List.getElem?_set_self (by rw [h.1]; omega), List.length_cons, show s.1 + (l.length + 1) = s.1 + 1 + l.length by omega, List.append_assoc]
    rfl
theorem row_pack {row : List Int} (hl : row.length = 4) (h : rowM row = []) : (rslide row).2.2.2 = packR row := by
  have hn : (row.filter fun x => !(x == 0)).length ≤ 4 := by rw [← hl]; exact List.length_filter_le _ _
  have := fold_pack (row.filter fun x => !(x == 0)) (0, 0, false, [0, 0, 0, 0]) ⟨rfl, fun j _ hj => by
    obtain rfl | rfl | rfl | rfl : j = 0 ∨ j = 1 ∨ j = 2 ∨ j = 3 := by omega
    all_goals rfl⟩ (by simpa using hn) h
  simp only [List.take_zero, List.nil_append, Nat.zero_add] at this
  exact this
def packB (b : List Int) (d : Nat) : List Int := putB (putB (putB (putB b d 0 (packR (lineB b d 0))) d 1 (packR (lineB b d 1))) d 2 (packR (lineB b d 2))) d 3 (packR (lineB b d 3))
/-! ### other names for the tiles -/
def Nam (f : Int → Int) : Prop := ∀ x, f x = 0 ↔ x = 0
/-- all slides of a list, without mergers -/
def packW (w : List Nat) (b : List Int) : List Int := w.foldl packB b
/-! ### places come back -/
/-- a function, again and again -/
def itr (g : Nat → Nat) : Nat → Nat → Nat
  | 0, x => x
  | k + 1, x => itr g k (g x)
section
variable {g : Nat → Nat} {S : Nat → Prop} (hS : ∀ x, S x → S (g x)) (hlt : ∀ x, S x → x < 16) (hinj : ∀ x y, S x → S y → g x = g y → x = y)
include hS
include hinj
include hlt
end
/-! ### boards come back -/
/-- names of the places that have a tile -/
def lab (b : List Int) : List Int := (List.range 16).map fun i => if iget b i = 0 then 0 else ((i + 1 : Nat) : Int)
def nam (b : List Int) (x : Int) : Int := if x = 0 then 0 else if iget b (x.toNat - 1) = 0 then 1 else iget b (x.toNat - 1)
/-- the same places have tiles -/
def SameP (a b : List Int) : Prop := ∀ i, i < 16 → (iget a i = 0 ↔ iget b i = 0)
end Go.Lv.P

namespace Go.Lv.P
open Go Go.Lv
set_option maxRecDepth 100000
end Go.Lv.P

namespace Go.Lv.P
open Go Go.Lv
def Gd (b : List Int) : Prop := b.length = 16 ∧ okB b = true
/-- all slides of a list -/
def stp (w : List Nat) (b : List Int) : List Int := w.foldl (fun b d => (slideB b d).1) b
/-- so many rounds -/
def rn (w : List Nat) (b : List Int) (k : Nat) : List Int := Nat.repeat (stp w) k b
def encN (b : List Int) : Nat → Nat
  | 0 => 0
  | n + 1 => 2 * encN b n + (if iget b n = 0 then 0 else 1)
/-- T rounds -/
def wT (w : List Nat) : Nat → List Nat
  | 0 => []
  | T + 1 => wT w T ++ w
section
variable {w : List Nat} (hw : ∀ d ∈ w, d < 4) {b : List Int} (g : Gd b)
include hw g
end
end Go.Lv.P
