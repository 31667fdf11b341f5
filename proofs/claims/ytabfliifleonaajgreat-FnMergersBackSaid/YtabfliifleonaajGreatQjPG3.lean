/-
Plain facts of the pure functions, part 3; without conditions.
-/
import Derived.Test.YtabfliifleonaajGreatQjPG2
import Derived.Test.YtabfliifleonaajGreatQjP0
import Derived.Test.YtabfliifleonaajGreatQjP1
import Derived.Test.YtabfliifleonaajGreatQjP3
import Derived.Test.YtabfliifleonaajGreatQjPG1
set_option linter.unusedVariables false
set_option linter.unusedSimpArgs false
set_option linter.unusedSectionVars false
namespace Go.Lv.P
open Go Go.Lv
def rstep2 (s : RS × List Bool) (x : Int) : RS × List Bool := (rstep s.1 x, bif decide (0 < s.1.1) && (iget s.1.2.2.2 (0 + (s.1.1 - 1) * 1) == x) && decide (x < 17) && !s.1.2.2.1 then bset s.2 (0 + (s.1.1 - 1) * 1) true else s.2)
def rslide2 (row : List Int) : RS × List Bool := (row.filter fun x => !(x == 0)).foldl rstep2 ((0, 0, false, [0, 0, 0, 0]), [false, false, false, false])
theorem rfold2_fst : ∀ (l : List Int) (s : RS × List Bool), (l.foldl rstep2 s).1 = l.foldl rstep s.1
  | [], s => rfl
  | x :: l, s => by rw [List.foldl_cons, List.foldl_cons, rfold2_fst l]; rfl
theorem fld_listG {A : Type} (l : List Int) (g : A → Int → A) : ∀ (m i : Nat) (a : A), i + m = l.length → fld (fun i s => g s (iget l i)) i m a = (l.drop i).foldl g a
  | 0, i, a, h => by rw [List.drop_eq_nil_of_le (by omega)]; rfl
  | m + 1, i, a, h => by
    have hi : i < l.length := by omega
    rw [fld, fld_listG l g m (i + 1) _ (by omega), List.drop_eq_getElem_cons hi, List.foldl_cons, igetL, List.getElem?_eq_getElem hi]; rfl
theorem rslide2_fst (row : List Int) : (rslide2 row).1 = rslide row := rfold2_fst _ _
theorem impl_row2 (F : Nat) (row : List Int) (h4 : row.length = 4) (hr : ∀ x ∈ row, inB x 0 17 = true) (hF : 1000 < F) : k83_p F row = some ((rslide row).2.2.2, (rslide row).2.1, (rslide2 row).2) := by
  have hs4 : sub row 0 4 = row := by obtain ⟨a, b, c, d, rfl⟩ := list4 h4; rfl
  obtain ⟨r, d1, d2⟩ := DeleteFunc_tiles F row (fun x => x == 0) (by omega) hF (fun x _ => rfl)
  have ht : k108_p F row = some r := by
    have hf : fits row.length 8 = true := fits_of (by omega) (by omega)
    simp only [k108_p, k108_c, hs4, d1, hf, Option.isSome_some, Option.getD_some, cond_true, beq_selfL, Bool.and_self]
  obtain ⟨m, mem⟩ := r
  have hm : m = (row.filter fun x => !(x == 0)).length := d2.1
  have hl : ∀ i, i < m → iget mem (0 + i) = iget (row.filter fun x => !(x == 0)) i := fun i hi => d2.get hi
  have hm4 : m ≤ 4 := by rw [hm, ← h4]; exact List.length_filter_le _ _
  have hx : ∀ i, i < m → inB (iget (row.filter fun x => !(x == 0)) i) 1 17 = true := fun i hi => by
    have hm : iget (row.filter fun x => !(x == 0)) i ∈ row.filter fun x => !(x == 0) := by
      rw [igetL, List.getElem?_eq_getElem (by omega)]
      exact List.getElem_mem _
    generalize iget (row.filter fun x => !(x == 0)) i = y at hm ⊢
    have this := List.mem_filter.1 hm
    have h1 := hr _ this.1
    have h2 : y ≠ 0 := by simpa using this.2
    simp [inB] at h1
    show inB y 1 17 = true
    simp [inB]
    omega
  have h := loop_fold (step := k83_s3 F m m mem) (fun i (s : RS × List Bool) => (s.1.2.1, (s.1.1 : Int), i, s.1.2.2.2, s.2)) m
    (fun i s => (rstep s.1 (iget (row.filter fun x => !(x == 0)) i), bif decide (0 < s.1.1) && (iget s.1.2.2.2 (0 + (s.1.1 - 1) * 1) == iget (row.filter fun x => !(x == 0)) i) && decide (iget (row.filter fun x => !(x == 0)) i < 17) && !s.1.2.2.1 then bset s.2 (0 + (s.1.1 - 1) * 1) true else s.2)) (fun s => (s.1.2.1, s.1.2.2.2, s.2))
    (fun i s => s.1.1 ≤ i ∧ s.2.length = 4 ∧ (0 < s.1.1 → bget s.2 (0 + (s.1.1 - 1) * 1) = s.1.2.2.1) ∧ ∀ j, s.1.1 ≤ j → bget s.2 j = false) (F := F) (by omega) (by omega) (a := ((0, 0, false, [0, 0, 0, 0]), [false, false, false, false]))
    ⟨Nat.le_refl 0, rfl, fun h => absurd h (by decide), fun j _ => by rw [bgetL]; rcases j with _ | _ | _ | _ | j <;> simp⟩
    (fun i s hi hI => by
      obtain ⟨⟨n, sc, mg, out⟩, ms⟩ := s
      obtain ⟨i1, i2, i3, i4⟩ := hI
      simp only at i1 i2 i3 i4 ⊢
      have hxi := hx i hi
      have hi' : (i : Int) < (m : Int) := by omega
      have hn4 : n < 4 := by omega
      have hsn : IntKind.wrap .i64 ((n : Int) + 1) = ((n + 1 : Nat) : Int) := wrap_succ (n := 4) hn4 (by omega)
      simp only [k83_s3, hi', inR_cast, hi, Int.toNat_natCast, decide_true, cond_true, hl i hi, hn4]
      generalize iget (row.filter fun x => !(x == 0)) i = x at hxi ⊢
      have hx1 : 1 ≤ x ∧ x ≤ 17 := by simpa [inB] using hxi
      have push : (n + 1 ≤ i + 1 ∧ ms.length = 4 ∧ (0 < n + 1 → bget ms (0 + (n + 1 - 1) * 1) = false) ∧ ∀ j, n + 1 ≤ j → bget ms j = false) := ⟨by omega, i2, fun _ => i4 _ (by omega), fun j hj => i4 j (by omega)⟩
      by_cases hn : 0 < n
      · have hn' : (0 : Int) < (n : Int) := by omega
        have hp := wrap_pred hn (by omega)
        have hp4 : n - 1 < 4 := by omega
        have hmg := i3 hn
        simp only [hn', decide_true, cond_true, hp, inR_cast, hp4, Int.toNat_natCast, rstep, hn, Bool.true_and, hsn, hn4, hmg]
        cases hq : iget out (0 + (n - 1) * 1) == x with
        | false => exact ⟨push, fun Q kn kx => by first | rfl | trivial⟩
        | true =>
          by_cases h17 : x < 17
          · have hw : IntKind.wrap .i64 (x + 1) = x + 1 := wrap_of (by omega) (by omega)
            have hwo : k109_p (x + 1) = some (W (x + 1)) := worth_eq (by simp [inB]; omega)
            cases mg with
            | true =>
              simp only [h17, decide_true, cond_true, Bool.not_true, cond_false, Bool.true_and]
              exact ⟨push, fun Q kn kx => by first | rfl | trivial⟩
            | false =>
              simp only [h17, decide_true, cond_true, Bool.not_false, hw, hwo, Option.isSome_some, Option.getD_some, Bool.true_and]
              refine ⟨⟨by omega, by rw [bsetL]; simpa using i2, fun _ => ?_, fun j hj => ?_⟩, fun Q kn kx => by first | rfl | trivial⟩
              · rw [bsetL, bgetL, List.getElem?_set_self (by omega)]; rfl
              · rw [bsetL, bgetL, List.getElem?_set_ne (by omega), ← bgetL]
                exact i4 j hj
          · simp only [h17, decide_false, cond_false, cond_true, Bool.and_false, Bool.false_and, Bool.true_and]
            exact ⟨push, fun Q kn kx => by first | rfl | trivial⟩
      · have hn' : ¬ (0 : Int) < (n : Int) := by omega
        simp only [cond_false, hn', decide_false, cond_true, rstep, hn, Bool.false_and, hsn, inR_cast, hn4, decide_true, Int.toNat_natCast]
        exact ⟨push, fun Q kn kx => by first | rfl | trivial⟩)
    (fun s _ Q kn kx => by simp [k83_s3])
  have hh : fld (fun i (s : RS × List Bool) => (rstep s.1 (iget (row.filter fun x => !(x == 0)) i), bif decide (0 < s.1.1) && (iget s.1.2.2.2 (0 + (s.1.1 - 1) * 1) == iget (row.filter fun x => !(x == 0)) i) && decide (iget (row.filter fun x => !(x == 0)) i < 17) && !s.1.2.2.1 then bset s.2 (0 + (s.1.1 - 1) * 1) true else s.2)) 0 m ((0, 0, false, [0, 0, 0, 0]), [false, false, false, false]) = rslide2 row := by
    have hg := fld_listG (row.filter fun x => !(x == 0)) rstep2 m 0 ((0, 0, false, [0, 0, 0, 0]), [false, false, false, false]) (by omega)
    rw [List.drop_zero] at hg
    exact hg
  have e : k83_l3 F m m mem 0 0 0 [0, 0, 0, 0] [false, false, false, false] = some ((rslide2 row).1.2.1, (rslide2 row).1.2.2.2, (rslide2 row).2) := by
    rw [← hh]; exact h.1
  rw [rslide2_fst] at e
  simp only [k83_p, k83_c, ht, e, Option.isSome_some, Option.getD_some, cond_true]
end Go.Lv.P
namespace Go.Lv.P
open Go Go.Lv
set_option maxRecDepth 100000
theorem spec_row (F : Nat) (row : List Int) (h4 : row.length = 4) (hr : ∀ x ∈ row, inB x 0 17 = true) (hF : 1000 < F) : k112_p F row = some ((rslide row).2.2.2, (rslide row).2.1) := by
  have hg : ∀ i, i < 4 → inB (iget row (0 + i * 1)) 0 17 = true := fun i hi => by
    rw [igetL, List.getElem?_eq_getElem (by omega)]
    exact hr _ (List.getElem_mem _)
  have h := loop_fold (step := k112_s3 F row) (fun i (s : RS) => ((s.1 : Int), s.2.1, s.2.2.1, i, s.2.2.2)) 4 (rput row) (fun s => (s.2.1, s.2.2.2)) (fun i s => s.1 ≤ i) (F := F) (by omega) (by omega) (a := (0, 0, false, [0, 0, 0, 0])) (Nat.le_refl 0)
    (fun i s hi hI => by
      obtain ⟨n, sc, mg, out⟩ := s
      have hI : n ≤ i := hI
      have hx := hg i hi
      have hi' : (i : Int) < 4 := by omega
      have hn4 : n < 4 := by omega
      refine ⟨?_, fun Q kn kx => ?_⟩
      · show (rput row i (n, sc, mg, out)).1 ≤ i + 1
        unfold rput
        cases iget row (0 + i * 1) == 0
        · have := rstep_n (n, sc, mg, out) (iget row (0 + i * 1))
          simp only at this
          simp only [cond_false]
          omega
        · simp only [cond_true]; omega
      · simp only [k112_s3, hi', inR_cast, hi, Int.toNat_natCast, decide_true, cond_true, rput, hn4]
        obtain ⟨x, hxe⟩ : ∃ x, x = iget row (0 + i * 1) := ⟨_, rfl⟩
        simp only [← hxe] at hx ⊢
        cases h0 : x == 0 with
        | true => rfl
        | false =>
          have hx0 : x ≠ 0 := by simpa using h0
          have hx1 : 0 ≤ x ∧ x ≤ 17 := by simpa [inB] using hx
          have hsn : IntKind.wrap .i64 ((n : Int) + 1) = ((n + 1 : Nat) : Int) := wrap_succ (n := 4) hn4 (by omega)
          by_cases hn : 0 < n
          · have hn' : (0 : Int) < (n : Int) := by omega
            have hp := wrap_pred hn (by omega)
            have hp4 : n - 1 < 4 := by omega
            simp only [cond_false, hn', decide_true, cond_true, hp, inR_cast, hp4, Int.toNat_natCast, rstep, hn, Bool.true_and, hsn, hn4]
            cases hq : iget out (0 + (n - 1) * 1) == x with
            | false => rfl
            | true =>
              by_cases h17 : x < 17
              · have hw : IntKind.wrap .i64 (x + 1) = x + 1 := wrap_of (by omega) (by omega)
                have hwo : k93_p (x + 1) = some (W (x + 1)) := l2Worth_eq (by simp [inB]; omega) (by omega)
                cases mg with
                | true => simp only [h17, decide_true, cond_true, Bool.not_true, cond_false, Bool.true_and]
                | false => simp only [h17, decide_true, cond_true, Bool.not_false, hw, hwo, Option.isSome_some, Option.getD_some, Bool.true_and]
              · simp only [h17, decide_false, cond_false, cond_true, Bool.and_false, Bool.false_and, Bool.true_and]
          · have hn' : ¬ (0 : Int) < (n : Int) := by omega
            simp only [cond_false, hn', decide_false, cond_true, rstep, hn, Bool.false_and, hsn, inR_cast, hn4, decide_true, Int.toNat_natCast])
    (fun s _ Q kn kx => by simp [k112_s3])
  have e : k112_l3 F row 0 0 false 0 [0, 0, 0, 0] = some ((rslide row).2.1, (rslide row).2.2.2) := by
    refine h.1.trans ?_
    rw [fld_rput row h4]; rfl
  simp only [k112_p, k112_c, e, Option.isSome_some, Option.getD_some, cond_true]
end Go.Lv.P
namespace Go.Lv.P
open Go Go.Lv
set_option maxRecDepth 100000
theorem impl_line (b : List Int) {d i : Nat} (hd : d < 4) (hi : i < 4) : k56_p b d i = some (lineB b d i) := by
  obtain rfl | rfl | rfl | rfl : d = 0 ∨ d = 1 ∨ d = 2 ∨ d = 3 := by omega
  all_goals
    obtain rfl | rfl | rfl | rfl : i = 0 ∨ i = 1 ∨ i = 2 ∨ i = 3 := by omega
    all_goals rfl
theorem impl_with (b row : List Int) {d i : Nat} (hd : d < 4) (hi : i < 4) : k33_p b d i row = some (putB b d i row) := by
  obtain rfl | rfl | rfl | rfl : d = 0 ∨ d = 1 ∨ d = 2 ∨ d = 3 := by omega
  all_goals
    obtain rfl | rfl | rfl | rfl : i = 0 ∨ i = 1 ∨ i = 2 ∨ i = 3 := by omega
    all_goals rfl
section
variable {b : List Int} (hb : b.length = 16) (ok : okB b = true)
include hb ok
theorem impl_slide (F : Nat) (hF : 1000 < F) {d : Nat} (hd : d < 4) : ∃ m, k50_p F b d = some ((slideB b d).1, (slideB b d).2, m) := by
  have l8 : ∀ (sc : Int) (t : Int) (ms : List Bool) (b' out : List Int) (m : Int), ∃ m', k50_l8 F d sc t ms b' out m 0 = some m' := fun sc t ms b' out m =>
    ⟨_, (loop_fold (step := k50_s8 F d sc t ms b' out) (fun i (a : Int) => (a, i)) 4 (fun i a => bif bget ms (i * 1) then IntKind.wrap .i64 (a + 1) else a) (fun a => a) (fun _ _ => True) (F := F) (by omega) (by omega) (a := m) trivial (fun i a hi _ => ⟨trivial, fun Q kn kx => by
      have hi' : (i : Int) < 4 := by omega
      simp only [k50_s8, hi', inR_cast, hi, Int.toNat_natCast, decide_true, cond_true]
      cases bget ms (i * 1) <;> rfl⟩) (fun a _ Q kn kx => by simp [k50_s8])).1⟩
  have row : ∀ i, i < 4 → ∃ mg, k83_p F (lineB b d i) = some ((rslide (lineB b d i)).2.2.2, (rslide (lineB b d i)).2.1, mg) := fun i hi => impl_row F _ rfl (line_ok hb ((okB_iff b).1 ok) hd hi) hF
  have step : ∀ (i : Nat) (m : Int) (s : List Int × Int), i < 4 → ∃ m' : Int, ∀ (Q : Type) kn kx, k50_s3 F d b Q (s.2, m, (i : Int), s.1) kn kx = kn ((sstep b d i s).2, m', IntKind.wrap .i64 ((i : Int) + 1), (sstep b d i s).1) := fun i m s hi => by
    obtain ⟨mg, hr⟩ := row i hi
    obtain ⟨m', h8⟩ := l8 (IntKind.wrap .i64 (s.2 + (rslide (lineB b d i)).2.1)) i mg b (putB s.1 d i (rslide (lineB b d i)).2.2.2) m
    refine ⟨m', fun Q kn kx => ?_⟩
    have hi' : (i : Int) < 4 := by omega
    simp only [k50_s3, hi', decide_true, cond_true, impl_line b hd hi, hr, impl_with _ _ hd hi, h8, Option.isSome_some, Option.getD_some, sstep]
  obtain ⟨G, rfl⟩ : ∃ G, F = G + 5 := ⟨F - 5, by omega⟩
  obtain ⟨m1, h1⟩ := step 0 0 (b, 0) (by omega)
  obtain ⟨m2, h2⟩ := step 1 m1 _ (by omega)
  obtain ⟨m3, h3⟩ := step 2 m2 _ (by omega)
  obtain ⟨m4, h4⟩ := step 3 m3 _ (by omega)
  have e : k50_l3 (G + 5) d b 0 0 0 b = some ((slideB b d).2, m4, (slideB b d).1) := by
    have w : ∀ n : Nat, n < 4 → IntKind.wrap .i64 ((n : Int) + 1) = ((n + 1 : Nat) : Int) := fun n hn => wrap_succ hn (by omega)
    show loopC _ (G + 5) ((b, (0 : Int)).2, (0 : Int), ((0 : Nat) : Int), (b, (0 : Int)).1) some = _
    simp only [loopC]
    rw [h1, w 0 (by omega), h2, w 1 (by omega), h3, w 2 (by omega), h4, w 3 (by omega)]
    simp [k50_s3]
    exact ⟨rfl, rfl⟩
  exact ⟨m4, by simp only [k50_p, k50_c, e, Option.isSome_some, Option.getD_some, cond_true]⟩
end
end Go.Lv.P
namespace Go.Lv.P
open Go Go.Lv
def isT (x : Int) : Int := if x = 0 then 0 else 1
def isN (t x : Int) : Int := if x = t then 1 else 0
def bump (out : List Int) (x : Int) : List Int := iset out (0 + x.toNat * 1) (IntKind.wrap .i64 (iget out (0 + x.toNat * 1) + 1))
abbrev zero18 : List Int := [0, 0, 0, 0, 0, 0, 0, 0, 0, 0, 0, 0, 0, 0, 0, 0, 0, 0]
def Dis (b : List Int) : Prop := ∀ p q : Nat, p < 16 → q < 16 → p ≠ q → iget b p = iget b q → iget b p = 0
end Go.Lv.P
namespace Go.Lv.P
open Go Go.Lv
theorem compact_in4 (F n k0 : Nat) (hn : n ≤ 1000000) (hk0 : k0 ≤ n) : ∀ (m i k G : Nat) (s : LL), i + m = n - k0 → 1 ≤ i → m < G → k0 ≤ k → k ≤ k0 + (i - 1) → s.length = n →
    ∃ s', loopC (k24_s9 F n (0 + k0) (n - k0)) G ((k : Int), (i : Int), s) some = some (((k + (dd (rget s (k0 + (i - 1))) (s.drop (k0 + i))).length : Nat) : Int), s') ∧ s'.length = n ∧ s'.take (k + (dd (rget s (k0 + (i - 1))) (s.drop (k0 + i))).length) = s.take k ++ dd (rget s (k0 + (i - 1))) (s.drop (k0 + i))
  | 0, i, k, G, s, hi, h1, hG, hk, hk2, hs => by
    obtain ⟨G, rfl⟩ : ∃ G', G = G' + 1 := ⟨G - 1, by omega⟩
    have hd : s.drop (k0 + i) = [] := List.drop_eq_nil_of_le (by omega)
    have hlt : ¬ (i : Int) < ((n - k0 : Nat) : Int) := by omega
    refine ⟨s, ?_, hs, ?_⟩
    · rw [hd]
      simp only [loopC, k24_s9, hlt, decide_false, cond_false, dd, List.length_nil, Nat.add_zero]
    · rw [hd]; simp [dd]
  | m + 1, i, k, G, s, hi, h1, hG, hk, hk2, hs => by
    obtain ⟨G, rfl⟩ : ∃ G', G = G' + 1 := ⟨G - 1, by omega⟩
    have hlt : i < n - k0 := by omega
    have hw : IntKind.wrap .i64 ((i : Int) - 1) = ((i - 1 : Nat) : Int) := by rw [wrap_of (by omega) (by omega)]; omega
    have hin1 : i - 1 < n - k0 := by omega
    have hkn : k < n := by omega
    have hil : k0 + i < s.length := by omega
    have hd : s.drop (k0 + i) = s[k0 + i] :: s.drop (k0 + i + 1) := List.drop_eq_getElem_cons hil
    have hg : rget s (k0 + i) = s[k0 + i] := by rw [rgetL, List.getElem?_eq_getElem hil]; rfl
    simp only [loopC, k24_s9, Int.ofNat_lt, hlt, decide_true, cond_true, inR_cast, hw, hin1, hkn, Int.toNat_natCast, Nat.zero_add]
    rw [wrap_succ (n := n) (i := i) (by omega) (by omega), hd]
    cases hc : rget s (k0 + i) == rget s (k0 + (i - 1)) with
    | true =>
      have hc2 : (s[k0 + i] == rget s (k0 + (i - 1))) = true := by rw [← hg]; exact hc
      simp only [Bool.not_true, cond_false, dd, hc2, cond_true]
      have ih := compact_in4 F n k0 hn hk0 m (i + 1) k G s (by omega) (by omega) (by omega) hk (by omega) hs
      rw [Nat.add_sub_cancel, hg, ← Nat.add_assoc, Nat.zero_add] at ih
      exact ih
    | false =>
      have hc2 : (s[k0 + i] == rget s (k0 + (i - 1))) = false := by rw [← hg]; exact hc
      simp only [Bool.not_false, cond_true, dd, hc2, cond_false]
      rw [wrap_succ (n := n) (i := k) hkn (by omega)]
      have hdr : (rset s k (rget s (k0 + i))).drop (k0 + i + 1) = s.drop (k0 + i + 1) := by
        rw [rsetL, List.drop_set_of_lt (by omega)]
      have hgr : rget (rset s k (rget s (k0 + i))) (k0 + i) = s[k0 + i] := by
        rw [rgetL, rsetL, List.getElem?_set]
        split
        · rename_i e; omega
        · rw [List.getElem?_eq_getElem hil]; rfl
      obtain ⟨s', e1, e2, e3⟩ := compact_in4 F n k0 hn hk0 m (i + 1) (k + 1) G (rset s k (rget s (k0 + i))) (by omega) (by omega) (by omega) (by omega) (by omega) (by rw [rsetL]; simpa using hs)
      rw [Nat.add_sub_cancel, hgr, ← Nat.add_assoc, hdr, Nat.zero_add] at e1
      rw [Nat.add_sub_cancel, hgr, ← Nat.add_assoc, hdr] at e3
      rw [rset_take _ _ _ (by omega), hg] at e3
      refine ⟨s', ?_, e2, ?_⟩
      · rw [e1, List.length_cons]; congr 3; omega
      · rw [List.length_cons, show k + ((dd s[k0 + i] (s.drop (k0 + i + 1))).length + 1) = k + 1 + (dd s[k0 + i] (s.drop (k0 + i + 1))).length by omega, e3, List.append_assoc]; rfl
theorem comp_upto4 : ∀ (j : Nat) (s : LL), 1 ≤ j → j ≤ s.length → (∀ i, 1 ≤ i → i < j → (rget s i == rget s (i - 1)) = false) → compL s = s.take j ++ dd (rget s (j - 1)) (s.drop j)
  | 0, s, h, _, _ => by omega
  | 1, s, _, hl, _ => by
    cases s with
    | nil => simp at hl
    | cons a r => rfl
  | j + 2, s, _, hl, hp => by
    have ih := comp_upto4 (j + 1) s (by omega) (by omega) fun i h1 h2 => hp i h1 (by omega)
    have hjl : j + 1 < s.length := by omega
    have hg : rget s (j + 1) = s[j + 1] := by rw [rgetL, List.getElem?_eq_getElem hjl]; rfl
    have hc := hp (j + 1) (by omega) (by omega)
    rw [hg] at hc
    rw [ih, List.drop_eq_getElem_cons hjl]
    simp only [dd, hc, cond_false]
    rw [show j + 2 - 1 = j + 1 by omega, hg, List.take_succ_eq_append_getElem hjl, List.append_assoc]; rfl
theorem compact_out4 (F n : Nat) (hn : n ≤ 1000000) (hF : n + 5 < F) (s : LL) (hs : s.length = n) : ∀ (m j G : Nat), j + m = n → 1 ≤ j → m < G → (∀ i, 1 ≤ i → i < j → (rget s i == rget s (i - 1)) = false) →
    ∃ r : Bool × Nat × LL, loopC (k24_s4 F n s) G (j : Int) some = some r ∧ ((r.1 = false ∧ compL s = s) ∨ (r.1 = true ∧ r.2.1 = (compL s).length ∧ r.2.2.take r.2.1 = compL s ∧ r.2.2.length = n ∧ r.2.1 ≤ n))
  | 0, j, G, hj, h1, hG, hp => by
    obtain ⟨G, rfl⟩ : ∃ G', G = G' + 1 := ⟨G - 1, by omega⟩
    have hlt : ¬ (j : Int) < ((n : Nat) : Int) := by omega
    refine ⟨(false, default, default), ?_, .inl ⟨rfl, ?_⟩⟩
    · simp only [loopC, k24_s4, hlt, decide_false, cond_false]
    · rw [comp_upto4 j s h1 (by omega) hp, List.drop_eq_nil_of_le (by omega), List.take_of_length_le (by omega)]
      simp [dd]
  | m + 1, j, G, hj, h1, hG, hp => by
    obtain ⟨G, rfl⟩ : ∃ G', G = G' + 1 := ⟨G - 1, by omega⟩
    have hlt : j < n := by omega
    have hw : IntKind.wrap .i64 ((j : Int) - 1) = ((j - 1 : Nat) : Int) := by rw [wrap_of (by omega) (by omega)]; omega
    have hj1 : j - 1 < n := by omega
    have hjl : j < s.length := by omega
    have hg : rget s j = s[j] := by rw [rgetL, List.getElem?_eq_getElem hjl]; rfl
    simp only [loopC, k24_s4, Int.ofNat_lt, hlt, decide_true, cond_true, inR_cast, hw, hj1, Int.toNat_natCast, Nat.zero_add]
    cases hc : rget s j == rget s (j - 1) with
    | true =>
      have e := eq_of_beq hc
      obtain ⟨s', e1, e2, e3⟩ := compact_in4 F n j hn (by omega) (n - j - 1) 1 j F s (by omega) (by omega) (by omega) (by omega) (by omega) hs
      have hcm : compL s = s.take j ++ dd (rget s (j + (1 - 1))) (s.drop (j + 1)) := by
        rw [comp_upto4 j s h1 (by omega) hp, List.drop_eq_getElem_cons hjl]
        simp only [dd]
        rw [← hg, hc]; rfl
      have hlen : (compL s).length = j + (dd (rget s (j + (1 - 1))) (s.drop (j + 1))).length := by rw [hcm, List.length_append, List.length_take, Nat.min_eq_left (by omega)]
      have hle : (compL s).length ≤ n := by
        have h3 := congrArg List.length e3
        rw [← hcm, ← hlen, List.length_take, e2] at h3
        omega
      rw [← hlen] at e1 e3
      rw [← hcm] at e3
      have e1 : k24_l9 F n j (n - j) (j : Int) 1 s = some ((((compL s).length : Nat) : Int), s') := by
        unfold k24_l9
        rw [Nat.zero_add] at e1
        exact e1
      have hjle : j ≤ n := by omega
      simp only [cond_true, inLe_cast, hjle, decide_true, e1, Option.isSome_some, Option.getD_some, hle, Int.toNat_natCast, Nat.sub_zero, Nat.zero_add]
      refine ⟨_, rfl, .inr ⟨rfl, rfl, ?_, ?_, hle⟩⟩
      · show (splice s' (compL s).length _ _).take _ = _
        unfold splice
        rw [List.append_assoc, List.take_append_of_le_length (by
          show (compL s).length ≤ _
          rw [List.length_take, e2]; omega)]
        show (s'.take (compL s).length).take (compL s).length = _
        rw [List.take_take, Nat.min_self, e3]
      · show (splice s' (compL s).length _ _).length = n
        unfold splice
        simp [e2]
        omega
    | false =>
      simp only [cond_false]
      rw [wrap_succ (n := n) hlt (by omega)]
      exact compact_out4 F n hn hF s hs m (j + 1) G (by omega) (by omega) (by omega) fun i g1 g2 => by
        by_cases hi : i = j
        · subst hi; exact hc
        · exact hp i g1 (by omega)
theorem compact4 (F : Nat) (s : LL) (hn : s.length ≤ 1000000) (hF : s.length + 5 < F) : ∃ r : Nat × LL, k24_p F s.length s = some r ∧ r.1 = (compL s).length ∧ r.2.take r.1 = compL s ∧ r.1 ≤ r.2.length ∧ r.2.length = s.length := by
  by_cases h2 : s.length < 2
  · have hd : decide (((s.length : Nat) : Int) < 2) = true := decide_eq_true (by omega)
    refine ⟨(s.length, s), ?_, ?_, ?_, Nat.le_refl _, rfl⟩
    · simp only [k24_p, k24_c, hd, cond_true]
    · match s, h2 with
      | [], _ => rfl
      | [a], _ => rfl
    · match s, h2 with
      | [], _ => rfl
      | [a], _ => rfl
  · have hd : decide (((s.length : Nat) : Int) < 2) = false := decide_eq_false (by omega)
    obtain ⟨r, h1, h3⟩ := compact_out4 F s.length hn hF s rfl (s.length - 1) 1 F (by omega) (by omega) (by omega) fun i g1 g2 => by omega
    have h1 : k24_l4 F s.length s 1 = some r := h1
    rcases h3 with ⟨h3, h4⟩ | ⟨h3, h4, h5, h6, h7⟩
    · refine ⟨(s.length, s), ?_, by rw [h4], by rw [h4]; exact List.take_length, Nat.le_refl _, rfl⟩
      simp only [k24_p, k24_c, hd, cond_false, h1, Option.isSome_some, Option.getD_some, cond_true, h3]
    · refine ⟨(r.2.1, r.2.2), ?_, h4, h5, ?_, h6⟩
      · simp only [k24_p, k24_c, hd, cond_false, h1, Option.isSome_some, Option.getD_some, cond_true, h3]
      · show r.2.1 ≤ r.2.2.length; omega
end Go.Lv.P
namespace Go.Lv.P
open Go Go.Lv
def tr : List Bool → Nat
  | [] => 0
  | b :: r => (bif b then 1 else 0) + tr r
theorem tr_bset : ∀ (l : List Bool) (i : Nat), i < l.length → bget l i = false → tr (bset l i true) = tr l + 1
  | [], i, h, _ => by simp at h
  | b :: r, 0, _, h => by
    have h : b = false := h
    subst h
    simp only [bset, tr, cond_true, cond_false]; omega
  | b :: r, i + 1, h, hb => by
    have := tr_bset r i (by simpa using h) hb
    simp only [bset, tr, this]; omega
def MI (s : RS × List Bool) : Prop := s.2.length = 4 ∧ (0 < s.1.1 → bget s.2 (0 + (s.1.1 - 1) * 1) = s.1.2.2.1) ∧ ∀ j, s.1.1 ≤ j → bget s.2 j = false
theorem rstep2_MI {s : RS × List Bool} {x : Int} (h : MI s) (hs : s.1.1 < 4) : MI (rstep2 s x) ∧ tr (rstep2 s x).2 = tr s.2 + (bif rhit s.1 x then 1 else 0) := by
  obtain ⟨⟨n, sc, mg, out⟩, ms⟩ := s
  obtain ⟨i2, i3, i4⟩ := h
  simp only at i2 i3 i4 hs
  unfold rstep2 rstep rhit
  simp only
  cases hc : decide (0 < n) && (iget out (0 + (n - 1) * 1) == x) && decide (x < 17) && !mg with
  | true =>
    simp only [Bool.and_eq_true, decide_eq_true_eq, Bool.not_eq_true'] at hc
    have h0 := hc.1.1.1
    have hmg := hc.2
    rw [hmg] at i3
    simp only [cond_true]
    refine ⟨⟨by rw [bsetL]; simpa using i2, fun _ => ?_, fun j hj => ?_⟩, tr_bset _ _ (by omega) (i3 h0)⟩
    · show bget (bset ms _ true) _ = true
      rw [bsetL, bgetL, List.getElem?_set_self (by omega)]; rfl
    · have hj : n ≤ j := hj
      show bget (bset ms _ true) j = false
      rw [bsetL, bgetL, List.getElem?_set_ne (by omega), ← bgetL]
      exact i4 j hj
  | false =>
    simp only [cond_false]
    exact ⟨⟨i2, fun _ => i4 _ (by simp only; omega), fun j hj => i4 j (by have hj : n + 1 ≤ j := hj; omega)⟩, rfl⟩
theorem rfold2_tr : ∀ (l : List Int) (s : RS × List Bool), MI s → s.1.1 + l.length ≤ 4 → tr (l.foldl rstep2 s).2 = tr s.2 + (mgs s.1 l).length
  | [], s, _, _ => rfl
  | x :: l, s, h, hl => by
    simp only [List.length_cons] at hl
    obtain ⟨h1, h2⟩ := rstep2_MI (x := x) h (by omega)
    have hn := rstep_n s.1 x
    rw [List.foldl_cons, rfold2_tr l _ h1 (by show (rstep s.1 x).1 + _ ≤ 4; omega), h2]
    simp only [mgs, rstep2]
    cases rhit s.1 x with
    | true => simp only [cond_true, List.length_cons]; omega
    | false => simp only [cond_false]; omega
theorem rslide2_tr {row : List Int} (hl : row.length = 4) : tr (rslide2 row).2 = (rowM row).length := by
  have hn : (row.filter fun x => !(x == 0)).length ≤ 4 := by rw [← hl]; exact List.length_filter_le _ _
  have := rfold2_tr (row.filter fun x => !(x == 0)) ((0, 0, false, [0, 0, 0, 0]), [false, false, false, false]) ⟨rfl, fun h => absurd h (by decide), fun j _ => by rw [bgetL]; rcases j with _ | _ | _ | _ | j <;> simp⟩ (by simpa using hn)
  rw [show tr ((((0 : Nat), (0 : Int), false, [(0 : Int), 0, 0, 0]) : RS), [false, false, false, false]).2 = 0 from rfl, Nat.zero_add] at this
  exact this
theorem rslide2_len {row : List Int} (hl : row.length = 4) : (rslide2 row).2.length = 4 := by
  have key : ∀ (l : List Int) (s : RS × List Bool), s.2.length = 4 → (l.foldl rstep2 s).2.length = 4 := by
    intro l
    induction l with
    | nil => intro s h; exact h
    | cons x l ih =>
      intro s h
      rw [List.foldl_cons]
      refine ih _ ?_
      unfold rstep2
      simp only
      cases decide (0 < s.1.1) && (iget s.1.2.2.2 (0 + (s.1.1 - 1) * 1) == x) && decide (x < 17) && !s.1.2.2.1 <;> simp only [cond_true, cond_false, bsetL, List.length_set, h]
  exact key _ _ rfl
section
variable {b : List Int} (hb : b.length = 16) (ok : okB b = true)
include hb ok
end
end Go.Lv.P
namespace Go.Lv.P
open Go Go.Lv
set_option maxRecDepth 100000
theorem spec_line (G : Nat) {d i : Nat} (hd : d < 4) (hi : i < 4) : k100_p (G + 1001) d i = some (crd d i) := by
  obtain rfl | rfl | rfl | rfl : d = 0 ∨ d = 1 ∨ d = 2 ∨ d = 3 := by omega
  all_goals
    obtain rfl | rfl | rfl | rfl : i = 0 ∨ i = 1 ∨ i = 2 ∨ i = 3 := by omega
    all_goals kernel_rfl
theorem spec_nums (G : Nat) (b : List Int) {d i : Nat} (hd : d < 4) (hi : i < 4) : k76_p (G + 1001) b d i = some (lineB b d i) := by
  obtain rfl | rfl | rfl | rfl : d = 0 ∨ d = 1 ∨ d = 2 ∨ d = 3 := by omega
  all_goals
    obtain rfl | rfl | rfl | rfl : i = 0 ∨ i = 1 ∨ i = 2 ∨ i = 3 := by omega
    all_goals kernel_rfl
theorem put_line0 (out : List Int) (x : Int) {d i : Nat} (hd : d < 4) (hi : i < 4) : k111_p out (sub (crd d i) 0 2) x = some (iset out (plcD d i 0) x) := by
  obtain rfl | rfl | rfl | rfl : d = 0 ∨ d = 1 ∨ d = 2 ∨ d = 3 := by omega
  all_goals
    obtain rfl | rfl | rfl | rfl : i = 0 ∨ i = 1 ∨ i = 2 ∨ i = 3 := by omega
    all_goals kernel_rfl
theorem put_line1 (out : List Int) (x : Int) {d i : Nat} (hd : d < 4) (hi : i < 4) : k111_p out (sub (crd d i) 2 2) x = some (iset out (plcD d i 1) x) := by
  obtain rfl | rfl | rfl | rfl : d = 0 ∨ d = 1 ∨ d = 2 ∨ d = 3 := by omega
  all_goals
    obtain rfl | rfl | rfl | rfl : i = 0 ∨ i = 1 ∨ i = 2 ∨ i = 3 := by omega
    all_goals kernel_rfl
theorem put_line2 (out : List Int) (x : Int) {d i : Nat} (hd : d < 4) (hi : i < 4) : k111_p out (sub (crd d i) 4 2) x = some (iset out (plcD d i 2) x) := by
  obtain rfl | rfl | rfl | rfl : d = 0 ∨ d = 1 ∨ d = 2 ∨ d = 3 := by omega
  all_goals
    obtain rfl | rfl | rfl | rfl : i = 0 ∨ i = 1 ∨ i = 2 ∨ i = 3 := by omega
    all_goals kernel_rfl
theorem put_line3 (out : List Int) (x : Int) {d i : Nat} (hd : d < 4) (hi : i < 4) : k111_p out (sub (crd d i) 6 2) x = some (iset out (plcD d i 3) x) := by
  obtain rfl | rfl | rfl | rfl : d = 0 ∨ d = 1 ∨ d = 2 ∨ d = 3 := by omega
  all_goals
    obtain rfl | rfl | rfl | rfl : i = 0 ∨ i = 1 ∨ i = 2 ∨ i = 3 := by omega
    all_goals kernel_rfl
section
variable {b : List Int} (hb : b.length = 16) (ok : okB b = true)
include hb ok
theorem spec_slide (F : Nat) (hF : 1000 < F) {d : Nat} (hd : d < 4) : k92_p F b d = some (slideB b d) := by
  obtain ⟨G, rfl⟩ : ∃ G, F = G + 1001 := ⟨F - 1001, by omega⟩
  have h := loop_fold (step := k92_s3 (G + 1001) d b) (fun i (s : List Int × Int) => (s.2, i, s.1)) 4 (sstep b d) (fun s => (s.2, s.1)) (fun _ _ => True) (F := G + 1001) (by omega) (by omega) (a := (b, 0)) trivial
    (fun i s hi _ => ⟨trivial, fun Q kn kx => by
      have hi' : (i : Int) < 4 := by omega
      simp only [k92_s3, hi', decide_true, cond_true, spec_nums G b hd hi, spec_row (G + 1001) _ rfl (line_ok hb ((okB_iff b).1 ok) hd hi) hF, spec_line G hd hi, put_line0 _ _ hd hi, put_line1 _ _ hd hi, put_line2 _ _ hd hi, put_line3 _ _ hd hi, Option.isSome_some, Option.getD_some, sstep, putB]⟩)
    (fun s _ Q kn kx => by simp [k92_s3])
  have e : k92_l3 (G + 1001) d b 0 0 b = some ((slideB b d).2, (slideB b d).1) := h.1
  simp only [k92_p, k92_c, e, Option.isSome_some, Option.getD_some, cond_true]
end
end Go.Lv.P
namespace Go.Lv.P
open Go Go.Lv
theorem em_tiles {b : List Int} (hb : b.length = 16) : (((em b).length : Nat) : Int) + fs isT b = 16 := by
  have key : ∀ l : List (List Int), (((l.filter fun c => iget b (plc c) == 0).length : Nat) : Int) + fs isT (l.map fun c => iget b (plc c)) = ((l.length : Nat) : Int) := by
    intro l
    induction l with
    | nil => rfl
    | cons c l ih =>
      rw [List.filter_cons, List.map_cons, fs, List.length_cons]
      cases hc : iget b (plc c) == 0 with
      | true =>
        rw [if_pos rfl, List.length_cons, eq_of_beq hc, isT, if_pos rfl]; omega
      | false =>
        have hc : iget b (plc c) ≠ 0 := by rw [beq_eq_false_iff_ne] at hc; exact hc
        have e : isT (iget b (plc c)) = 1 := by unfold isT; rw [if_neg hc]
        rw [e, if_neg (by decide)]; omega
  have h := key cells16
  have e : (cells16.map fun c => iget b (plc c)) = b := by
    obtain ⟨x0, x1, x2, x3, x4, x5, x6, x7, x8, x9, xa, xb, xc, xd, xe, xf, rfl⟩ := list16 hb
    rfl
  rw [e] at h
  exact h
end Go.Lv.P
