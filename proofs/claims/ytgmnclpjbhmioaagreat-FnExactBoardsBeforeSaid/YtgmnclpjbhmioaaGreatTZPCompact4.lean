/-
slices.Compact at rows, told plainly.
-/
import Derived.Test.YtgmnclpjbhmioaaGreatTZP4
import Derived.Test.YtgmnclpjbhmioaaGreatTZPAscE
import Derived.Test.YtgmnclpjbhmioaaGreatTZPDelete
namespace Go.Lv.P
open Go Go.Lv
set_option linter.unusedVariables false
set_option linter.unusedSimpArgs false
set_option linter.unusedSectionVars false
theorem compact_in4 (F n k0 : Nat) (hn : n ≤ 1000000) (hk0 : k0 ≤ n) : ∀ (m i k G : Nat) (s : LL), i + m = n - k0 → 1 ≤ i → m < G → k0 ≤ k → k ≤ k0 + (i - 1) → s.length = n →
    ∃ s', loopC (slices_Compact_4int4int_s9 F n (0 + k0) (n - k0)) G ((k : Int), (i : Int), s) some = some (((k + (dd (rget s (k0 + (i - 1))) (s.drop (k0 + i))).length : Nat) : Int), s') ∧ s'.length = n ∧ s'.take (k + (dd (rget s (k0 + (i - 1))) (s.drop (k0 + i))).length) = s.take k ++ dd (rget s (k0 + (i - 1))) (s.drop (k0 + i))
  | 0, i, k, G, s, hi, h1, hG, hk, hk2, hs => by
    obtain ⟨G, rfl⟩ : ∃ G', G = G' + 1 := ⟨G - 1, by omega⟩
    have hd : s.drop (k0 + i) = [] := List.drop_eq_nil_of_le (by omega)
    have hlt : ¬ (i : Int) < ((n - k0 : Nat) : Int) := by omega
    refine ⟨s, ?_, hs, ?_⟩
    · rw [hd]
      simp only [loopC, slices_Compact_4int4int_s9, hlt, decide_false, cond_false, dd, List.length_nil, Nat.add_zero]
    · rw [hd]; simp [dd]
  | m + 1, i, k, G, s, hi, h1, hG, hk, hk2, hs => by
    obtain ⟨G, rfl⟩ : ∃ G', G = G' + 1 := ⟨G - 1, by omega⟩
    have hlt : i < n - k0 := by omega
    have hw : IntKind.wrap .i64 ((i : Int) - 1) = ((i - 1 : Nat) : Int) := by rw [wrap_of (by omega) (by omega)]; omega
    have hin1 : i - 1 < n - k0 := by omega
    have hkn : k < n := by omega
    have hil : k0 + i < s.length := by omega
    have hd : s.drop (k0 + i) = s[k0 + i] :: s.drop (k0 + i + 1) := List.drop_eq_getElem_cons hil
    have hg : rget s (k0 + i) = s[k0 + i] := by rw [rgetL, List.getElem?_eq_getElem hil]; rfl
    simp only [loopC, slices_Compact_4int4int_s9, Int.ofNat_lt, hlt, decide_true, cond_true, inR_cast, hw, hin1, hkn, Int.toNat_natCast, Nat.zero_add]
    rw [wrap_succ (n := n) (i := i) (by omega) (by omega), hd]
    cases hc : rget s (k0 + i) == rget s (k0 + (i - 1)) with
    | true =>
      have hc2 : (s[k0 + i] == rget s (k0 + (i - 1))) = true := by rw [← hg]; exact hc
      simp only [Bool.not_true, cond_false, dd, hc2, cond_true]
      have ih := compact_in4 F n k0 hn hk0 m (i + 1) k G s (by omega) (by omega) (by omega) hk (by omega) hs
      rw [Nat.add_sub_cancel, hg, ← Nat.add_assoc, Nat.zero_add] at ih
      exact ih
    | false =>
      have hc2 : (s[k0 + i] == rget s (k0 + (i - 1))) = false := by rw [← hg]; exact hc
      simp only [Bool.not_false, cond_true, dd, hc2, cond_false]
      rw [wrap_succ (n := n) (i := k) hkn (by omega)]
      have hdr : (rset s k (rget s (k0 + i))).drop (k0 + i + 1) = s.drop (k0 + i + 1) := by
        rw [rsetL, List.drop_set_of_lt (by omega)]
      have hgr : rget (rset s k (rget s (k0 + i))) (k0 + i) = s[k0 + i] := by
        rw [rgetL, rsetL, List.getElem?_set]
        split
        · rename_i e; omega
        · rw [List.getElem?_eq_getElem hil]; rfl
      obtain ⟨s', e1, e2, e3⟩ := compact_in4 F n k0 hn hk0 m (i + 1) (k + 1) G (rset s k (rget s (k0 + i))) (by omega) (by omega) (by omega) (by omega) (by omega) (by rw [rsetL]; simpa using hs)
      rw [Nat.add_sub_cancel, hgr, ← Nat.add_assoc, hdr, Nat.zero_add] at e1
      rw [Nat.add_sub_cancel, hgr, ← Nat.add_assoc, hdr] at e3
      rw [rset_take _ _ _ (by omega), hg] at e3
      refine ⟨s', ?_, e2, ?_⟩
      · rw [e1, List.length_cons]; congr 3; omega
      · rw [List.length_cons, show k + ((dd s[k0 + i] (s.drop (k0 + i + 1))).length + 1) = k + 1 + (dd s[k0 + i] (s.drop (k0 + i + 1))).length by omega, e3, List.append_assoc]; rfl
/-- no neighbours that are the same, up to j -/
theorem comp_upto4 : ∀ (j : Nat) (s : LL), 1 ≤ j → j ≤ s.length → (∀ i, 1 ≤ i → i < j → (rget s i == rget s (i - 1)) = false) → compL s = s.take j ++ dd (rget s (j - 1)) (s.drop j)
  | 0, s, h, _, _ => by omega
  | 1, s, _, hl, _ => by
    cases s with
    | nil => simp at hl
    | cons a r => rfl
  | j + 2, s, _, hl, hp => by
    have ih := comp_upto4 (j + 1) s (by omega) (by omega) fun i h1 h2 => hp i h1 (by omega)
    have hjl : j + 1 < s.length := by omega
    have hg : rget s (j + 1) = s[j + 1] := by rw [rgetL, List.getElem?_eq_getElem hjl]; rfl
    have hc := hp (j + 1) (by omega) (by omega)
    rw [hg] at hc
    rw [ih, List.drop_eq_getElem_cons hjl]
    simp only [dd, hc, cond_false]
    rw [show j + 2 - 1 = j + 1 by omega, hg, List.take_succ_eq_append_getElem hjl, List.append_assoc]; rfl
theorem compact_out4 (F n : Nat) (hn : n ≤ 1000000) (hF : n + 5 < F) (s : LL) (hs : s.length = n) : ∀ (m j G : Nat), j + m = n → 1 ≤ j → m < G → (∀ i, 1 ≤ i → i < j → (rget s i == rget s (i - 1)) = false) →
    ∃ r : Bool × Nat × LL, loopC (slices_Compact_4int4int_s4 F n s) G (j : Int) some = some r ∧ ((r.1 = false ∧ compL s = s) ∨ (r.1 = true ∧ r.2.1 = (compL s).length ∧ r.2.2.take r.2.1 = compL s ∧ r.2.2.length = n ∧ r.2.1 ≤ n))
  | 0, j, G, hj, h1, hG, hp => by
    obtain ⟨G, rfl⟩ : ∃ G', G = G' + 1 := ⟨G - 1, by omega⟩
    have hlt : ¬ (j : Int) < ((n : Nat) : Int) := by omega
    refine ⟨(false, default, default), ?_, .inl ⟨rfl, ?_⟩⟩
    · simp only [loopC, slices_Compact_4int4int_s4, hlt, decide_false, cond_false]
    · rw [comp_upto4 j s h1 (by omega) hp, List.drop_eq_nil_of_le (by omega), List.take_of_length_le (by omega)]
      simp [dd]
  | m + 1, j, G, hj, h1, hG, hp => by
    obtain ⟨G, rfl⟩ : ∃ G', G = G' + 1 := ⟨G - 1, by omega⟩
    have hlt : j < n := by omega
    have hw : IntKind.wrap .i64 ((j : Int) - 1) = ((j - 1 : Nat) : Int) := by rw [wrap_of (by omega) (by omega)]; omega
    have hj1 : j - 1 < n := by omega
    have hjl : j < s.length := by omega
    have hg : rget s j = s[j] := by rw [rgetL, List.getElem?_eq_getElem hjl]; rfl
    simp only [loopC, slices_Compact_4int4int_s4, Int.ofNat_lt, hlt, decide_true, cond_true, inR_cast, hw, hj1, Int.toNat_natCast, Nat.zero_add]
    cases hc : rget s j == rget s (j - 1) with
    | true =>
      have e := eq_of_beq hc
      obtain ⟨s', e1, e2, e3⟩ := compact_in4 F n j hn (by omega) (n - j - 1) 1 j F s (by omega) (by omega) (by omega) (by omega) (by omega) hs
      have hcm : compL s = s.take j ++ dd (rget s (j + (1 - 1))) (s.drop (j + 1)) := by
        rw [comp_upto4 j s h1 (by omega) hp, List.drop_eq_getElem_cons hjl]
        simp only [dd]
        rw [← hg, hc]; rfl
      have hlen : (compL s).length = j + (dd (rget s (j + (1 - 1))) (s.drop (j + 1))).length := by rw [hcm, List.length_append, List.length_take, Nat.min_eq_left (by omega)]
      have hle : (compL s).length ≤ n := by
        have h3 := congrArg List.length e3
        rw [← hcm, ← hlen, List.length_take, e2] at h3
        omega
      rw [← hlen] at e1 e3
      rw [← hcm] at e3
      have e1 : slices_Compact_4int4int_l9 F n j (n - j) (j : Int) 1 s = some ((((compL s).length : Nat) : Int), s') := by
        unfold slices_Compact_4int4int_l9
        rw [Nat.zero_add] at e1
        exact e1
      have hjle : j ≤ n := by omega
      simp only [cond_true, inLe_cast, hjle, decide_true, e1, Option.isSome_some, Option.getD_some, hle, Int.toNat_natCast, Nat.sub_zero, Nat.zero_add]
      refine ⟨_, rfl, .inr ⟨rfl, rfl, ?_, ?_, hle⟩⟩
      · show (splice s' (compL s).length _ _).take _ = _
        unfold splice
        rw [List.append_assoc, List.take_append_of_le_length (by
          show (compL s).length ≤ _
          rw [List.length_take, e2]; omega)]
        show (s'.take (compL s).length).take (compL s).length = _
        rw [List.take_take, Nat.min_self, e3]
      · show (splice s' (compL s).length _ _).length = n
        unfold splice
        simp [e2]
        omega
    | false =>
      simp only [cond_false]
      rw [wrap_succ (n := n) hlt (by omega)]
      exact compact_out4 F n hn hF s hs m (j + 1) G (by omega) (by omega) (by omega) fun i g1 g2 => by
        by_cases hi : i = j
        · subst hi; exact hc
        · exact hp i g1 (by omega)
theorem compact4 (F : Nat) (s : LL) (hn : s.length ≤ 1000000) (hF : s.length + 5 < F) : ∃ r : Nat × LL, slices_Compact_4int4int_p F s.length s = some r ∧ r.1 = (compL s).length ∧ r.2.take r.1 = compL s ∧ r.1 ≤ r.2.length ∧ r.2.length = s.length := by
  by_cases h2 : s.length < 2
  · have hd : decide (((s.length : Nat) : Int) < 2) = true := decide_eq_true (by omega)
    refine ⟨(s.length, s), ?_, ?_, ?_, Nat.le_refl _, rfl⟩
    · simp only [slices_Compact_4int4int_p, slices_Compact_4int4int_c, hd, cond_true]
    · match s, h2 with
      | [], _ => rfl
      | [a], _ => rfl
    · match s, h2 with
      | [], _ => rfl
      | [a], _ => rfl
  · have hd : decide (((s.length : Nat) : Int) < 2) = false := decide_eq_false (by omega)
    obtain ⟨r, h1, h3⟩ := compact_out4 F s.length hn hF s rfl (s.length - 1) 1 F (by omega) (by omega) (by omega) fun i g1 g2 => by omega
    have h1 : slices_Compact_4int4int_l4 F s.length s 1 = some r := h1
    rcases h3 with ⟨h3, h4⟩ | ⟨h3, h4, h5, h6, h7⟩
    · refine ⟨(s.length, s), ?_, by rw [h4], by rw [h4]; exact List.take_length, Nat.le_refl _, rfl⟩
      simp only [slices_Compact_4int4int_p, slices_Compact_4int4int_c, hd, cond_false, h1, Option.isSome_some, Option.getD_some, cond_true, h3]
    · refine ⟨(r.2.1, r.2.2), ?_, h4, h5, ?_, h6⟩
      · simp only [slices_Compact_4int4int_p, slices_Compact_4int4int_c, hd, cond_false, h1, Option.isSome_some, Option.getD_some, cond_true, h3]
      · show r.2.1 ≤ r.2.2.length; omega
end Go.Lv.P
