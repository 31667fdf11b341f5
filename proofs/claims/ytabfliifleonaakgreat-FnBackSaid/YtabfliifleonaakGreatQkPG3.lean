/-
Plain facts of the pure functions, part 3; without conditions.
-/
import Derived.Test.YtabfliifleonaakGreatQkPG2
import Derived.Test.YtabfliifleonaakGreatQkP0
import Derived.Test.YtabfliifleonaakGreatQkPG1
import Derived.Test.YtabfliifleonaakGreatQkP1
import Derived.Test.YtabfliifleonaakGreatQkP3
import Derived.Test.YtabfliifleonaakGreatQkP4
set_option linter.unusedVariables false
set_option linter.unusedSimpArgs false
set_option linter.unusedSectionVars false
namespace Go.Lv.P
open Go Go.Lv
def rstep2 (s : RS × List Bool) (x : Int) : RS × List Bool := (rstep s.1 x, bif decide (0 < s.1.1) && (iget s.1.2.2.2 (0 + (s.1.1 - 1) * 1) == x) && decide (x < 17) && !s.1.2.2.1 then bset s.2 (0 + (s.1.1 - 1) * 1) true else s.2)
def rslide2 (row : List Int) : RS × List Bool := (row.filter fun x => !(x == 0)).foldl rstep2 ((0, 0, false, [0, 0, 0, 0]), [false, false, false, false])
end Go.Lv.P
namespace Go.Lv.P
open Go Go.Lv
set_option maxRecDepth 100000
theorem spec_row (F : Nat) (row : List Int) (h4 : row.length = 4) (hr : ∀ x ∈ row, inB x 0 17 = true) (hF : 1000 < F) : k125_p F row = some ((u102 row).2.2.2, (u102 row).2.1) := by
  have hg : ∀ i, i < 4 → inB (iget row (0 + i * 1)) 0 17 = true := fun i hi => by
    rw [igetL, List.getElem?_eq_getElem (by omega)]
    exact hr _ (List.getElem_mem _)
  have h := u036 (step := k125_s3 F row) (fun i (s : RS) => ((s.1 : Int), s.2.1, s.2.2.1, i, s.2.2.2)) 4 (rput row) (fun s => (s.2.1, s.2.2.2)) (fun i s => s.1 ≤ i) (F := F) (by omega) (by omega) (a := (0, 0, false, [0, 0, 0, 0])) (Nat.le_refl 0)
    (fun i s hi hI => by
      obtain ⟨n, sc, mg, out⟩ := s
      have hI : n ≤ i := hI
      have hx := hg i hi
      have hi' : (i : Int) < 4 := by omega
      have hn4 : n < 4 := by omega
      refine ⟨?_, fun Q kn kx => ?_⟩
      · show (rput row i (n, sc, mg, out)).1 ≤ i + 1
        unfold rput
        cases iget row (0 + i * 1) == 0
        · have := rstep_n (n, sc, mg, out) (iget row (0 + i * 1))
          simp only at this
          simp only [cond_false]
          omega
        · simp only [cond_true]; omega
      · simp only [k125_s3, hi', u021, hi, Int.toNat_natCast, decide_true, cond_true, rput, hn4]
        obtain ⟨x, hxe⟩ : ∃ x, x = iget row (0 + i * 1) := ⟨_, rfl⟩
        simp only [← hxe] at hx ⊢
        cases h0 : x == 0 with
        | true => rfl
        | false =>
          have hx0 : x ≠ 0 := by simpa using h0
          have hx1 : 0 ≤ x ∧ x ≤ 17 := by simpa [inB] using hx
          have hsn : IntKind.wrap .i64 ((n : Int) + 1) = ((n + 1 : Nat) : Int) := u047 (n := 4) hn4 (by omega)
          by_cases hn : 0 < n
          · have hn' : (0 : Int) < (n : Int) := by omega
            have hp := wrap_pred hn (by omega)
            have hp4 : n - 1 < 4 := by omega
            simp only [cond_false, hn', decide_true, cond_true, hp, u021, hp4, Int.toNat_natCast, rstep, hn, Bool.true_and, hsn, hn4]
            cases hq : iget out (0 + (n - 1) * 1) == x with
            | false => rfl
            | true =>
              by_cases h17 : x < 17
              · have hw : IntKind.wrap .i64 (x + 1) = x + 1 := u044 (by omega) (by omega)
                have hwo : k102_p (x + 1) = some (W (x + 1)) := l2Worth_eq (by simp [inB]; omega) (by omega)
                cases mg with
                | true => simp only [h17, decide_true, cond_true, Bool.not_true, cond_false, Bool.true_and]
                | false => simp only [h17, decide_true, cond_true, Bool.not_false, hw, hwo, Option.isSome_some, Option.getD_some, Bool.true_and]
              · simp only [h17, decide_false, cond_false, cond_true, Bool.and_false, Bool.false_and, Bool.true_and]
          · have hn' : ¬ (0 : Int) < (n : Int) := by omega
            simp only [cond_false, hn', decide_false, cond_true, rstep, hn, Bool.false_and, hsn, u021, hn4, decide_true, Int.toNat_natCast])
    (fun s _ Q kn kx => by simp [k125_s3])
  have e : k125_l3 F row 0 0 false 0 [0, 0, 0, 0] = some ((u102 row).2.1, (u102 row).2.2.2) := by
    refine h.1.trans ?_
    rw [fld_rput row h4]; rfl
  simp only [k125_p, k125_c, e, Option.isSome_some, Option.getD_some, cond_true]
end Go.Lv.P
namespace Go.Lv.P
open Go Go.Lv
set_option maxRecDepth 100000
theorem u168 (b : List Int) {d i : Nat} (hd : d < 4) (hi : i < 4) : k56_p b d i = some (lineB b d i) := by
  obtain rfl | rfl | rfl | rfl : d = 0 ∨ d = 1 ∨ d = 2 ∨ d = 3 := by omega
  all_goals
    obtain rfl | rfl | rfl | rfl : i = 0 ∨ i = 1 ∨ i = 2 ∨ i = 3 := by omega
    all_goals rfl
theorem impl_with (b row : List Int) {d i : Nat} (hd : d < 4) (hi : i < 4) : k29_p b d i row = some (putB b d i row) := by
  obtain rfl | rfl | rfl | rfl : d = 0 ∨ d = 1 ∨ d = 2 ∨ d = 3 := by omega
  all_goals
    obtain rfl | rfl | rfl | rfl : i = 0 ∨ i = 1 ∨ i = 2 ∨ i = 3 := by omega
    all_goals rfl
section
variable {b : List Int} (hb : b.length = 16) (ok : okB b = true)
include hb ok
theorem impl_slide (F : Nat) (hF : 1000 < F) {d : Nat} (hd : d < 4) : ∃ m, k48_p F b d = some ((u070 b d).1, (u070 b d).2, m) := by
  have l8 : ∀ (sc : Int) (t : Int) (ms : List Bool) (b' out : List Int) (m : Int), ∃ m', k48_l8 F d sc t ms b' out m 0 = some m' := fun sc t ms b' out m =>
    ⟨_, (u036 (step := k48_s8 F d sc t ms b' out) (fun i (a : Int) => (a, i)) 4 (fun i a => bif bget ms (i * 1) then IntKind.wrap .i64 (a + 1) else a) (fun a => a) (fun _ _ => True) (F := F) (by omega) (by omega) (a := m) trivial (fun i a hi _ => ⟨trivial, fun Q kn kx => by
      have hi' : (i : Int) < 4 := by omega
      simp only [k48_s8, hi', u021, hi, Int.toNat_natCast, decide_true, cond_true]
      cases bget ms (i * 1) <;> rfl⟩) (fun a _ Q kn kx => by simp [k48_s8])).1⟩
  have row : ∀ i, i < 4 → ∃ mg, k83_p F (lineB b d i) = some ((u102 (lineB b d i)).2.2.2, (u102 (lineB b d i)).2.1, mg) := fun i hi => impl_row F _ rfl (u078 hb ((u082 b).1 ok) hd hi) hF
  have step : ∀ (i : Nat) (m : Int) (s : List Int × Int), i < 4 → ∃ m' : Int, ∀ (Q : Type) kn kx, k48_s3 F d b Q (s.2, m, (i : Int), s.1) kn kx = kn ((sstep b d i s).2, m', IntKind.wrap .i64 ((i : Int) + 1), (sstep b d i s).1) := fun i m s hi => by
    obtain ⟨mg, hr⟩ := row i hi
    obtain ⟨m', h8⟩ := l8 (IntKind.wrap .i64 (s.2 + (u102 (lineB b d i)).2.1)) i mg b (putB s.1 d i (u102 (lineB b d i)).2.2.2) m
    refine ⟨m', fun Q kn kx => ?_⟩
    have hi' : (i : Int) < 4 := by omega
    simp only [k48_s3, hi', decide_true, cond_true, u168 b hd hi, hr, impl_with _ _ hd hi, h8, Option.isSome_some, Option.getD_some, sstep]
  obtain ⟨G, rfl⟩ : ∃ G, F = G + 5 := ⟨F - 5, by omega⟩
  obtain ⟨m1, h1⟩ := step 0 0 (b, 0) (by omega)
  obtain ⟨m2, h2⟩ := step 1 m1 _ (by omega)
  obtain ⟨m3, h3⟩ := step 2 m2 _ (by omega)
  obtain ⟨m4, h4⟩ := step 3 m3 _ (by omega)
  have e : k48_l3 (G + 5) d b 0 0 0 b = some ((u070 b d).2, m4, (u070 b d).1) := by
    have w : ∀ n : Nat, n < 4 → IntKind.wrap .i64 ((n : Int) + 1) = ((n + 1 : Nat) : Int) := fun n hn => u047 hn (by omega)
    show loopC _ (G + 5) ((b, (0 : Int)).2, (0 : Int), ((0 : Nat) : Int), (b, (0 : Int)).1) some = _
    simp only [loopC]
    rw [h1, w 0 (by omega), h2, w 1 (by omega), h3, w 2 (by omega), h4, w 3 (by omega)]
    simp [k48_s3]
    exact ⟨rfl, rfl⟩
  exact ⟨m4, by simp only [k48_p, k48_c, e, Option.isSome_some, Option.getD_some, cond_true]⟩
end
end Go.Lv.P
namespace Go.Lv.P
open Go Go.Lv
theorem k47_cmp (F : Nat) (hF : 1000 < F) {a b : List Int} (ha : a.length = 16) (hb : b.length = 16) : k47_p F a b = some (cmpL a b) := by
  simp only [k47_p, k47_c, flat_eq ha, flat_eq hb, Option.isSome_some, Option.getD_some, cond_true, u033, compare_eq F hF (show a.length = b.length by omega) (by omega)]
end Go.Lv.P
namespace Go.Lv.P
open Go Go.Lv
def isT (x : Int) : Int := if x = 0 then 0 else 1
def isN (t x : Int) : Int := if x = t then 1 else 0
def bump (out : List Int) (x : Int) : List Int := iset out (0 + x.toNat * 1) (IntKind.wrap .i64 (iget out (0 + x.toNat * 1) + 1))
abbrev zero18 : List Int := [0, 0, 0, 0, 0, 0, 0, 0, 0, 0, 0, 0, 0, 0, 0, 0, 0, 0]
def Dis (b : List Int) : Prop := ∀ p q : Nat, p < 16 → q < 16 → p ≠ q → iget b p = iget b q → iget b p = 0
end Go.Lv.P
namespace Go.Lv.P
open Go Go.Lv
theorem u186 (F n k0 : Nat) (hn : n ≤ 1000000) (hk0 : k0 ≤ n) : ∀ (m i k G : Nat) (s : LL), i + m = n - k0 → 1 ≤ i → m < G → k0 ≤ k → k ≤ k0 + (i - 1) → s.length = n →
    ∃ s', loopC (k20_s9 F n (0 + k0) (n - k0)) G ((k : Int), (i : Int), s) some = some (((k + (dd (rget s (k0 + (i - 1))) (s.drop (k0 + i))).length : Nat) : Int), s') ∧ s'.length = n ∧ s'.take (k + (dd (rget s (k0 + (i - 1))) (s.drop (k0 + i))).length) = s.take k ++ dd (rget s (k0 + (i - 1))) (s.drop (k0 + i))
  | 0, i, k, G, s, hi, h1, hG, hk, hk2, hs => by
    obtain ⟨G, rfl⟩ : ∃ G', G = G' + 1 := ⟨G - 1, by omega⟩
    have hd : s.drop (k0 + i) = [] := List.drop_eq_nil_of_le (by omega)
    have hlt : ¬ (i : Int) < ((n - k0 : Nat) : Int) := by omega
    refine ⟨s, ?_, hs, ?_⟩
    · rw [hd]
      simp only [loopC, k20_s9, hlt, decide_false, cond_false, dd, List.length_nil, Nat.add_zero]
    · rw [hd]; simp [dd]
  | m + 1, i, k, G, s, hi, h1, hG, hk, hk2, hs => by
    obtain ⟨G, rfl⟩ : ∃ G', G = G' + 1 := ⟨G - 1, by omega⟩
    have hlt : i < n - k0 := by omega
    have hw : IntKind.wrap .i64 ((i : Int) - 1) = ((i - 1 : Nat) : Int) := by rw [u044 (by omega) (by omega)]; omega
    have hin1 : i - 1 < n - k0 := by omega
    have hkn : k < n := by omega
    have hil : k0 + i < s.length := by omega
    have hd : s.drop (k0 + i) = s[k0 + i] :: s.drop (k0 + i + 1) := List.drop_eq_getElem_cons hil
    have hg : rget s (k0 + i) = s[k0 + i] := by rw [rgetL, List.getElem?_eq_getElem hil]; rfl
    simp only [loopC, k20_s9, Int.ofNat_lt, hlt, decide_true, cond_true, u021, hw, hin1, hkn, Int.toNat_natCast, Nat.zero_add]
    rw [u047 (n := n) (i := i) (by omega) (by omega), hd]
    cases hc : rget s (k0 + i) == rget s (k0 + (i - 1)) with
    | true =>
      have hc2 : (s[k0 + i] == rget s (k0 + (i - 1))) = true := by rw [← hg]; exact hc
      simp only [Bool.not_true, cond_false, dd, hc2, cond_true]
      have ih := u186 F n k0 hn hk0 m (i + 1) k G s (by omega) (by omega) (by omega) hk (by omega) hs
      rw [Nat.add_sub_cancel, hg, ← Nat.add_assoc, Nat.zero_add] at ih
      exact ih
    | false =>
      have hc2 : (s[k0 + i] == rget s (k0 + (i - 1))) = false := by rw [← hg]; exact hc
      simp only [Bool.not_false, cond_true, dd, hc2, cond_false]
      rw [u047 (n := n) (i := k) hkn (by omega)]
      have hdr : (rset s k (rget s (k0 + i))).drop (k0 + i + 1) = s.drop (k0 + i + 1) := by
        rw [rsetL, List.drop_set_of_lt (by omega)]
      have hgr : rget (rset s k (rget s (k0 + i))) (k0 + i) = s[k0 + i] := by
        rw [rgetL, rsetL, List.getElem?_set]
        split
        · rename_i e; omega
        · rw [List.getElem?_eq_getElem hil]; rfl
      obtain ⟨s', e1, e2, e3⟩ := u186 F n k0 hn hk0 m (i + 1) (k + 1) G (rset s k (rget s (k0 + i))) (by omega) (by omega) (by omega) (by omega) (by omega) (by rw [rsetL]; simpa using hs)
      rw [Nat.add_sub_cancel, hgr, ← Nat.add_assoc, hdr, Nat.zero_add] at e1
      rw [Nat.add_sub_cancel, hgr, ← Nat.add_assoc, hdr] at e3
      rw [rset_take _ _ _ (by omega), hg] at e3
      refine ⟨s', ?_, e2, ?_⟩
      · rw [e1, List.length_cons]; congr 3; omega
      · rw [List.length_cons, show k + ((dd s[k0 + i] (s.drop (k0 + i + 1))).length + 1) = k + 1 + (dd s[k0 + i] (s.drop (k0 + i + 1))).length by omega, e3, List.append_assoc]; rfl
theorem u247 : ∀ (j : Nat) (s : LL), 1 ≤ j → j ≤ s.length → (∀ i, 1 ≤ i → i < j → (rget s i == rget s (i - 1)) = false) → compL s = s.take j ++ dd (rget s (j - 1)) (s.drop j)
  | 0, s, h, _, _ => by omega
  | 1, s, _, hl, _ => by
    cases s with
    | nil => simp at hl
    | cons a r => rfl
  | j + 2, s, _, hl, hp => by
    have ih := u247 (j + 1) s (by omega) (by omega) fun i h1 h2 => hp i h1 (by omega)
    have hjl : j + 1 < s.length := by omega
    have hg : rget s (j + 1) = s[j + 1] := by rw [rgetL, List.getElem?_eq_getElem hjl]; rfl
    have hc := hp (j + 1) (by omega) (by omega)
    rw [hg] at hc
    rw [ih, List.drop_eq_getElem_cons hjl]
    simp only [dd, hc, cond_false]
    rw [show j + 2 - 1 = j + 1 by omega, hg, List.take_succ_eq_append_getElem hjl, List.append_assoc]; rfl
theorem u246 (F n : Nat) (hn : n ≤ 1000000) (hF : n + 5 < F) (s : LL) (hs : s.length = n) : ∀ (m j G : Nat), j + m = n → 1 ≤ j → m < G → (∀ i, 1 ≤ i → i < j → (rget s i == rget s (i - 1)) = false) →
    ∃ r : Bool × Nat × LL, loopC (k20_s4 F n s) G (j : Int) some = some r ∧ ((r.1 = false ∧ compL s = s) ∨ (r.1 = true ∧ r.2.1 = (compL s).length ∧ r.2.2.take r.2.1 = compL s ∧ r.2.2.length = n ∧ r.2.1 ≤ n))
  | 0, j, G, hj, h1, hG, hp => by
    obtain ⟨G, rfl⟩ : ∃ G', G = G' + 1 := ⟨G - 1, by omega⟩
    have hlt : ¬ (j : Int) < ((n : Nat) : Int) := by omega
    refine ⟨(false, default, default), ?_, .inl ⟨rfl, ?_⟩⟩
    · simp only [loopC, k20_s4, hlt, decide_false, cond_false]
    · rw [u247 j s h1 (by omega) hp, List.drop_eq_nil_of_le (by omega), List.take_of_length_le (by omega)]
      simp [dd]
  | m + 1, j, G, hj, h1, hG, hp => by
    obtain ⟨G, rfl⟩ : ∃ G', G = G' + 1 := ⟨G - 1, by omega⟩
    have hlt : j < n := by omega
    have hw : IntKind.wrap .i64 ((j : Int) - 1) = ((j - 1 : Nat) : Int) := by rw [u044 (by omega) (by omega)]; omega
    have hj1 : j - 1 < n := by omega
    have hjl : j < s.length := by omega
    have hg : rget s j = s[j] := by rw [rgetL, List.getElem?_eq_getElem hjl]; rfl
    simp only [loopC, k20_s4, Int.ofNat_lt, hlt, decide_true, cond_true, u021, hw, hj1, Int.toNat_natCast, Nat.zero_add]
    cases hc : rget s j == rget s (j - 1) with
    | true =>
      have e := eq_of_beq hc
      obtain ⟨s', e1, e2, e3⟩ := u186 F n j hn (by omega) (n - j - 1) 1 j F s (by omega) (by omega) (by omega) (by omega) (by omega) hs
      have hcm : compL s = s.take j ++ dd (rget s (j + (1 - 1))) (s.drop (j + 1)) := by
        rw [u247 j s h1 (by omega) hp, List.drop_eq_getElem_cons hjl]
        simp only [dd]
        rw [← hg, hc]; rfl
      have hlen : (compL s).length = j + (dd (rget s (j + (1 - 1))) (s.drop (j + 1))).length := by rw [hcm, List.length_append, List.length_take, Nat.min_eq_left (by omega)]
      have hle : (compL s).length ≤ n := by
        have h3 := congrArg List.length e3
        rw [← hcm, ← hlen, List.length_take, e2] at h3
        omega
      rw [← hlen] at e1 e3
      rw [← hcm] at e3
      have e1 : k20_l9 F n j (n - j) (j : Int) 1 s = some ((((compL s).length : Nat) : Int), s') := by
        unfold k20_l9
        rw [Nat.zero_add] at e1
        exact e1
      have hjle : j ≤ n := by omega
      simp only [cond_true, u111, hjle, decide_true, e1, Option.isSome_some, Option.getD_some, hle, Int.toNat_natCast, Nat.sub_zero, Nat.zero_add]
      refine ⟨_, rfl, .inr ⟨rfl, rfl, ?_, ?_, hle⟩⟩
      · show (u029 s' (compL s).length _ _).take _ = _
        unfold u029
        rw [List.append_assoc, List.take_append_of_le_length (by
          show (compL s).length ≤ _
          rw [List.length_take, e2]; omega)]
        show (s'.take (compL s).length).take (compL s).length = _
        rw [List.take_take, Nat.min_self, e3]
      · show (u029 s' (compL s).length _ _).length = n
        unfold u029
        simp [e2]
        omega
    | false =>
      simp only [cond_false]
      rw [u047 (n := n) hlt (by omega)]
      exact u246 F n hn hF s hs m (j + 1) G (by omega) (by omega) (by omega) fun i g1 g2 => by
        by_cases hi : i = j
        · subst hi; exact hc
        · exact hp i g1 (by omega)
theorem compact4 (F : Nat) (s : LL) (hn : s.length ≤ 1000000) (hF : s.length + 5 < F) : ∃ r : Nat × LL, k20_p F s.length s = some r ∧ r.1 = (compL s).length ∧ r.2.take r.1 = compL s ∧ r.1 ≤ r.2.length ∧ r.2.length = s.length := by
  by_cases h2 : s.length < 2
  · have hd : decide (((s.length : Nat) : Int) < 2) = true := decide_eq_true (by omega)
    refine ⟨(s.length, s), ?_, ?_, ?_, Nat.le_refl _, rfl⟩
    · simp only [k20_p, k20_c, hd, cond_true]
    · match s, h2 with
      | [], _ => rfl
      | [a], _ => rfl
    · match s, h2 with
      | [], _ => rfl
      | [a], _ => rfl
  · have hd : decide (((s.length : Nat) : Int) < 2) = false := decide_eq_false (by omega)
    obtain ⟨r, h1, h3⟩ := u246 F s.length hn hF s rfl (s.length - 1) 1 F (by omega) (by omega) (by omega) fun i g1 g2 => by omega
    have h1 : k20_l4 F s.length s 1 = some r := h1
    rcases h3 with ⟨h3, h4⟩ | ⟨h3, h4, h5, h6, h7⟩
    · refine ⟨(s.length, s), ?_, by rw [h4], by rw [h4]; exact List.take_length, Nat.le_refl _, rfl⟩
      simp only [k20_p, k20_c, hd, cond_false, h1, Option.isSome_some, Option.getD_some, cond_true, h3]
    · refine ⟨(r.2.1, r.2.2), ?_, h4, h5, ?_, h6⟩
      · simp only [k20_p, k20_c, hd, cond_false, h1, Option.isSome_some, Option.getD_some, cond_true, h3]
      · show r.2.1 ≤ r.2.2.length; omega
end Go.Lv.P
namespace Go.Lv.P
open Go Go.Lv
theorem same_lines {c : List Int} (hb : c.length = 16) {d : Nat} (hd : d < 4) {e : List Int} (he : e.length = 16) (h : ∀ i, i < 4 → lineB c d i = lineB e d i) : c = e := by
  obtain ⟨x0, x1, x2, x3, x4, x5, x6, x7, x8, x9, xa, xb, xc, xd, xe, xf, rfl⟩ := list16 hb
  obtain ⟨y0, y1, y2, y3, y4, y5, y6, y7, y8, y9, ya, yb, yc, yd, ye, yf, rfl⟩ := list16 he
  have h0 := h 0 (by decide)
  have h1 := h 1 (by decide)
  have h2 := h 2 (by decide)
  have h3 := h 3 (by decide)
  obtain rfl | rfl | rfl | rfl : d = 0 ∨ d = 1 ∨ d = 2 ∨ d = 3 := by omega
  all_goals
    simp [lineB, plcD, iget] at h0 h1 h2 h3
    obtain ⟨a0, a1, a2, a3⟩ := h0
    obtain ⟨b0, b1, b2, b3⟩ := h1
    obtain ⟨c0, c1, c2, c3⟩ := h2
    obtain ⟨d0, d1, d2, d3⟩ := h3
    subst a0 a1 a2 a3 b0 b1 b2 b3 c0 c1 c2 c3 d0 d1 d2 d3
    rfl
end Go.Lv.P
namespace Go.Lv.P
open Go Go.Lv
def tr : List Bool → Nat
  | [] => 0
  | b :: r => (bif b then 1 else 0) + tr r
def MI (s : RS × List Bool) : Prop := s.2.length = 4 ∧ (0 < s.1.1 → bget s.2 (0 + (s.1.1 - 1) * 1) = s.1.2.2.1) ∧ ∀ j, s.1.1 ≤ j → bget s.2 j = false
section
variable {b : List Int} (hb : b.length = 16) (ok : okB b = true)
include hb ok
end
end Go.Lv.P
namespace Go.Lv.P
open Go Go.Lv
set_option maxRecDepth 100000
theorem spec_line (G : Nat) {d i : Nat} (hd : d < 4) (hi : i < 4) : k113_p (G + 1001) d i = some (crd d i) := by
  obtain rfl | rfl | rfl | rfl : d = 0 ∨ d = 1 ∨ d = 2 ∨ d = 3 := by omega
  all_goals
    obtain rfl | rfl | rfl | rfl : i = 0 ∨ i = 1 ∨ i = 2 ∨ i = 3 := by omega
    all_goals kernel_rfl
theorem u161 (G : Nat) (b : List Int) {d i : Nat} (hd : d < 4) (hi : i < 4) : k74_p (G + 1001) b d i = some (lineB b d i) := by
  obtain rfl | rfl | rfl | rfl : d = 0 ∨ d = 1 ∨ d = 2 ∨ d = 3 := by omega
  all_goals
    obtain rfl | rfl | rfl | rfl : i = 0 ∨ i = 1 ∨ i = 2 ∨ i = 3 := by omega
    all_goals kernel_rfl
theorem put_line0 (out : List Int) (x : Int) {d i : Nat} (hd : d < 4) (hi : i < 4) : k124_p out (sub (crd d i) 0 2) x = some (iset out (plcD d i 0) x) := by
  obtain rfl | rfl | rfl | rfl : d = 0 ∨ d = 1 ∨ d = 2 ∨ d = 3 := by omega
  all_goals
    obtain rfl | rfl | rfl | rfl : i = 0 ∨ i = 1 ∨ i = 2 ∨ i = 3 := by omega
    all_goals kernel_rfl
theorem put_line1 (out : List Int) (x : Int) {d i : Nat} (hd : d < 4) (hi : i < 4) : k124_p out (sub (crd d i) 2 2) x = some (iset out (plcD d i 1) x) := by
  obtain rfl | rfl | rfl | rfl : d = 0 ∨ d = 1 ∨ d = 2 ∨ d = 3 := by omega
  all_goals
    obtain rfl | rfl | rfl | rfl : i = 0 ∨ i = 1 ∨ i = 2 ∨ i = 3 := by omega
    all_goals kernel_rfl
theorem put_line2 (out : List Int) (x : Int) {d i : Nat} (hd : d < 4) (hi : i < 4) : k124_p out (sub (crd d i) 4 2) x = some (iset out (plcD d i 2) x) := by
  obtain rfl | rfl | rfl | rfl : d = 0 ∨ d = 1 ∨ d = 2 ∨ d = 3 := by omega
  all_goals
    obtain rfl | rfl | rfl | rfl : i = 0 ∨ i = 1 ∨ i = 2 ∨ i = 3 := by omega
    all_goals kernel_rfl
theorem put_line3 (out : List Int) (x : Int) {d i : Nat} (hd : d < 4) (hi : i < 4) : k124_p out (sub (crd d i) 6 2) x = some (iset out (plcD d i 3) x) := by
  obtain rfl | rfl | rfl | rfl : d = 0 ∨ d = 1 ∨ d = 2 ∨ d = 3 := by omega
  all_goals
    obtain rfl | rfl | rfl | rfl : i = 0 ∨ i = 1 ∨ i = 2 ∨ i = 3 := by omega
    all_goals kernel_rfl
section
variable {b : List Int} (hb : b.length = 16) (ok : okB b = true)
include hb ok
theorem spec_slide (F : Nat) (hF : 1000 < F) {d : Nat} (hd : d < 4) : k101_p F b d = some (u070 b d) := by
  obtain ⟨G, rfl⟩ : ∃ G, F = G + 1001 := ⟨F - 1001, by omega⟩
  have h := u036 (step := k101_s3 (G + 1001) d b) (fun i (s : List Int × Int) => (s.2, i, s.1)) 4 (sstep b d) (fun s => (s.2, s.1)) (fun _ _ => True) (F := G + 1001) (by omega) (by omega) (a := (b, 0)) trivial
    (fun i s hi _ => ⟨trivial, fun Q kn kx => by
      have hi' : (i : Int) < 4 := by omega
      simp only [k101_s3, hi', decide_true, cond_true, u161 G b hd hi, spec_row (G + 1001) _ rfl (u078 hb ((u082 b).1 ok) hd hi) hF, spec_line G hd hi, put_line0 _ _ hd hi, put_line1 _ _ hd hi, put_line2 _ _ hd hi, put_line3 _ _ hd hi, Option.isSome_some, Option.getD_some, sstep, putB]⟩)
    (fun s _ Q kn kx => by simp [k101_s3])
  have e : k101_l3 (G + 1001) d b 0 0 b = some ((u070 b d).2, (u070 b d).1) := h.1
  simp only [k101_p, k101_c, e, Option.isSome_some, Option.getD_some, cond_true]
end
end Go.Lv.P
