/-
Plain facts of the pure functions, part 2; without conditions.
-/
import Derived.Test.YtabfliifleonaajGreatLv3
import Derived.Test.YtabfliifleonaajGreatQjPG1
import Derived.Test.YtabfliifleonaajGreatQjP2
import Derived.Test.YtabfliifleonaajGreatQjP7
import Derived.Test.YtabfliifleonaajGreatNvOrd
import Derived.Test.YtabfliifleonaajGreatQjP0
set_option linter.unusedVariables false
set_option linter.unusedSimpArgs false
set_option linter.unusedSectionVars false
namespace Go.Lv.P
open Go Go.Lv
def mrow (m : Nat) (k : Int) : List Int := (List.range m).map fun j : Nat => k + (j : Int)
def mrows (m : Nat) (k : Int) (n : Nat) : LL := (List.range n).map fun i : Nat => mrow m (k + (m : Int) * (i : Int))
theorem get_take {a : LL} {n i : Nat} (hi : i < n) (hn : n ≤ a.length) : a[i]'(by omega) ∈ a.take n := by
  have h : i < (a.take n).length := by simp; omega
  have := List.getElem_mem h
  rwa [List.getElem_take] at this
end Go.Lv.P
namespace Go.Lv.P
open Go Go.Lv
set_option maxRecDepth 100000
abbrev RS := Nat × Int × Bool × List Int
def rstep (s : RS) (x : Int) : RS :=
  bif decide (0 < s.1) && (iget s.2.2.2 (0 + (s.1 - 1) * 1) == x) && decide (x < 17) && !s.2.2.1 then (s.1, IntKind.wrap .i64 (s.2.1 + W (x + 1)), true, iset s.2.2.2 (0 + (s.1 - 1) * 1) (x + 1))
  else (s.1 + 1, s.2.1, false, iset s.2.2.2 (0 + s.1 * 1) x)
def rslide (row : List Int) : RS := (row.filter fun x => !(x == 0)).foldl rstep (0, 0, false, [0, 0, 0, 0])
theorem rstep_n (s : RS) (x : Int) : (rstep s x).1 ≤ s.1 + 1 := by
  unfold rstep
  cases decide (0 < s.1) && (iget s.2.2.2 (0 + (s.1 - 1) * 1) == x) && decide (x < 17) && !s.2.2.1
  · exact Nat.le_refl _
  · exact Nat.le_succ _
def rput (row : List Int) (i : Nat) (s : RS) : RS := bif iget row (0 + i * 1) == 0 then s else rstep s (iget row (0 + i * 1))
theorem fld_rput (row : List Int) (h : row.length = 4) (s : RS) : fld (rput row) 0 4 s = (row.filter fun x => !(x == 0)).foldl rstep s := by
  obtain ⟨a, b, c, d, rfl⟩ := list4 h
  have key : ∀ (x : Int) (l : List Int) (s : RS), ((x :: l).filter fun x => !(x == 0)).foldl rstep s = (l.filter fun x => !(x == 0)).foldl rstep (bif x == 0 then s else rstep s x) := fun x l s => by
    rw [List.filter_cons]
    cases x == 0 <;> rfl
  rw [key, key, key, key]
  rfl
theorem wrap_pred {n : Nat} (h : 0 < n) (h2 : n ≤ 100) : IntKind.wrap .i64 ((n : Int) - 1) = ((n - 1 : Nat) : Int) := by
  rw [wrap_of (by omega) (by omega)]; omega
theorem bsetL (xs : List Bool) (n : Nat) (x : Bool) : bset xs n x = xs.set n x := by
  induction xs generalizing n with
  | nil => cases n <;> rfl
  | cons a r ih => cases n with
    | zero => rfl
    | succ n => simp only [bset, ih, List.set_cons_succ]
theorem bgetL (xs : List Bool) (n : Nat) : bget xs n = xs[n]?.getD false := by
  induction xs generalizing n with
  | nil => cases n <;> rfl
  | cons a r ih => cases n with
    | zero => rfl
    | succ n => simp only [bget, ih, List.getElem?_cons_succ]
theorem fld_list (l : List Int) (g : RS → Int → RS) : ∀ (m i : Nat) (s : RS), i + m = l.length → fld (fun i s => g s (iget l (0 + i))) i m s = (l.drop i).foldl g s
  | 0, i, s, h => by rw [List.drop_eq_nil_of_le (by omega)]; rfl
  | m + 1, i, s, h => by
    have hi : i < l.length := by omega
    rw [fld, fld_list l g m (i + 1) _ (by omega), List.drop_eq_getElem_cons hi, List.foldl_cons, Nat.zero_add, igetL, List.getElem?_eq_getElem hi]
    rfl
end Go.Lv.P
namespace Go.Lv.P
open Go Go.Lv
def sumB (b : List Int) : Int := (b.map W).foldl (· + ·) 0
end Go.Lv.P
namespace Go.Lv.P
open Go Go.Lv
theorem worth_eq {t : Int} (h : inB t 0 17 = true) : k109_p t = some (W t) := by
  rcases tile_cases h with h | h | h | h | h | h | h | h | h | h | h | h | h | h | h | h | h | h <;> subst h <;> decide
end Go.Lv.P
namespace Go.Lv.P
open Go Go.Lv
theorem empty_f1 (b : List Int) : ∀ x ∈ cells16, k32_p x b = some (!(iget b (plc x) == 0)) :=
  cells_all fun r c hr hc => by
    have e : k79_p [(r : Int), (c : Int)] b = some (plc [(r : Int), (c : Int)]) := by
      simp only [k79_p, k79_c, show iget [(r : Int), (c : Int)] 0 = r from rfl, show iget [(r : Int), (c : Int)] 1 = c from rfl, inR_cast, hr, hc, decide_true, cond_true, plc]
    simp only [k32_p, k32_c, e, Option.isSome_some, Option.getD_some, cond_true]
theorem DeleteFunc_empty (F : Nat) (s : LL) (b : List Int) (q : List Int → Bool) (hs : s.length ≤ 1000) (hF : 1000 < F) (hq : ∀ x ∈ s, k32_p x b = some (q x)) :
    ∃ r, k14_p F s b = some r ∧ Deleted s q r := by
  have hg : ∀ i, i < s.length → k32_p (rget s i) b = some (q (rget s i)) := fun i hi => by
    refine hq _ ?_
    rw [rgetL, List.getElem?_eq_getElem hi]
    exact List.getElem_mem hi
  have h1 : k17_l2 F s s.length b 0 = some (fnd (fun i => q (rget s i)) (fun i => (true, (i : Int))) (false, default) 0 s.length) := by
    refine loop_find (fun i => i) s.length _ _ _ (by omega) (by omega) (fun i hi Q kn kx => ?_) fun Q kn kx => ?_
    · simp only [k17_s2, inR_cast, hi, hg i hi, Int.toNat_natCast, decide_true, cond_true, Int.ofNat_lt, Option.isSome_some, Option.getD_some]
    · simp [k17_s2]
  simp only [k14_p, k14_c, k17_p, k17_c, subn_self, h1, Option.isSome_some, Option.getD_some, cond_true]
  rcases fnd_split s q s.length 0 (by omega) (by simp) with ⟨h2, h3⟩ | ⟨j, hj, h2, h3, h4⟩
  · rw [h2]
    refine ⟨(s.length, s), rfl, ?_⟩
    have e := filter_all (q := q) h3
    exact ⟨by rw [e], by rw [e]; exact List.take_length, rfl⟩
  · rw [h2]
    have hgj : rget s j = s[j] := by rw [rgetL, List.getElem?_eq_getElem hj]; rfl
    obtain ⟨s', l1, l2, l3⟩ := delete_loop (step := k14_s5 F s.length b) q (fun x => k32_p x b = some (q x)) s.length (by omega)
      (fun i j s'' hij hjn hl hp Q kn kx => by
        have hin : i < s.length := by omega
        simp only [k14_s5, Int.ofNat_lt, hjn, inR_cast, hin, Int.toNat_natCast, decide_true, cond_true, hp, Option.isSome_some, Option.getD_some]
        cases q (rget s'' (0 + j)) <;> rfl)
      (fun i s'' Q kn kx => by simp [k14_s5]) (s.length - (j + 1)) j (j + 1) F s (by omega) (by omega) (by omega) rfl (fun x hx => hq x (List.mem_of_mem_drop hx))
    have e : s.filter (fun x => !q x) = s.take j ++ (s.drop (j + 1)).filter (fun x => !q x) := by
      have e1 : s = s.take j ++ s[j] :: s.drop (j + 1) := by rw [← List.drop_eq_getElem_cons hj, List.take_append_drop]
      conv => lhs; rw [e1]
      rw [List.filter_append, List.filter_cons, ← hgj, h3]
      simp only [Bool.not_true, Bool.false_eq_true, if_false]
      rw [filter_all]
      exact h4
    have el : j + ((s.drop (j + 1)).filter fun x => !q x).length = (s.filter fun x => !q x).length := by
      rw [e, List.length_append, List.length_take, Nat.min_eq_left (Nat.le_of_lt hj)]
    rw [el] at l1 l3
    rw [← e] at l3
    have ll : (s.filter fun x => !q x).length ≤ s.length := List.length_filter_le _ _
    have l1' : k14_l5 F s.length b (j : Int) (IntKind.wrap .i64 ((j : Int) + 1)) s = some ((((s.filter fun x => !q x).length : Nat) : Int), s') := by
      rw [wrap_succ (n := s.length) hj (by omega)]
      exact l1
    have hne : ((j : Int) == -1) = false := by
      rw [beq_eq_false_iff_ne]; omega
    simp only [cond_true, Option.getD_some, l1', hne, cond_false, Option.isSome_some, inLe_cast, ll, decide_true, Int.toNat_natCast, Nat.sub_zero]
    refine ⟨_, rfl, rfl, ?_, ?_⟩
    · show (splice s' (0 + _) _ _).take _ = _
      rw [splice_take _ _ _ _ (by omega) (by simp), l3]
    · rw [← l2]
      show (splice s' (0 + _) _ _).length = _
      exact splice_len' _ _ _ (by omega) (by simp)
theorem impl_empty_eq (F : Nat) (b : List Int) (hF : 1000 < F) : ∃ r, k49_p F b = some r ∧ Deleted cells16 (fun c => !(iget b (plc c) == 0)) r := by
  obtain ⟨r, h1, h2⟩ := DeleteFunc_empty F cells16 b (fun c => !(iget b (plc c) == 0)) (by decide) hF (empty_f1 b)
  exact ⟨r, by simp only [k49_p, k49_c, h1, Option.isSome_some, Option.getD_some, cond_true], h2⟩
end Go.Lv.P
namespace Go.Lv.P
open Go Go.Lv
set_option maxRecDepth 100000
theorem DeleteFunc_tiles (F : Nat) (s : List Int) (q : Int → Bool) (hs : s.length ≤ 1000) (hF : 1000 < F) (hq : ∀ x ∈ s, k84_v x = q x) :
    ∃ r, k21_p F s = some r ∧ DeletedI s q r := by
  have hg : ∀ i, i < s.length → k84_v (iget s i) = q (iget s i) := fun i hi => by
    refine hq _ ?_
    rw [igetL, List.getElem?_eq_getElem hi]
    exact List.getElem_mem hi
  have h1 : k23_l2 F s s.length 0 = some (fnd (fun i => q (iget s i)) (fun i => (true, (i : Int))) (false, default) 0 s.length) := by
    refine loop_find (fun i => i) s.length _ _ _ (by omega) (by omega) (fun i hi Q kn kx => ?_) fun Q kn kx => ?_
    · simp only [k23_s2, inR_cast, hi, hg i hi, Int.toNat_natCast, decide_true, cond_true, Int.ofNat_lt, Option.isSome_some, Option.getD_some]
    · simp [k23_s2]
  simp only [k21_p, k21_c, k23_p, k23_c, subn_self, h1, Option.isSome_some, Option.getD_some, cond_true]
  rcases fnd_splitI s q s.length 0 (by omega) (by simp) with ⟨h2, h3⟩ | ⟨j, hj, h2, h3, h4⟩
  · rw [h2]
    refine ⟨(s.length, s), rfl, ?_⟩
    have e := filter_allI (q := q) h3
    exact ⟨by rw [e], by rw [e]; exact List.take_length, rfl⟩
  · rw [h2]
    have hgj : iget s j = s[j] := by rw [igetL, List.getElem?_eq_getElem hj]; rfl
    obtain ⟨s', l1, l2, l3⟩ := delete_loopI (step := k21_s5 F s.length) q (fun x => k84_v x = q x) s.length (by omega)
      (fun i j s'' hij hjn hl hp Q kn kx => by
        have hin : i < s.length := by omega
        simp only [k21_s5, Int.ofNat_lt, hjn, inR_cast, hin, Int.toNat_natCast, decide_true, cond_true, hp, Option.isSome_some, Option.getD_some]
        cases q (iget s'' (0 + j)) <;> rfl)
      (fun i s'' Q kn kx => by simp [k21_s5]) (s.length - (j + 1)) j (j + 1) F s (by omega) (by omega) (by omega) rfl (fun x hx => hq x (List.mem_of_mem_drop hx))
    have e : s.filter (fun x => !q x) = s.take j ++ (s.drop (j + 1)).filter (fun x => !q x) := by
      have e1 : s = s.take j ++ s[j] :: s.drop (j + 1) := by rw [← List.drop_eq_getElem_cons hj, List.take_append_drop]
      conv => lhs; rw [e1]
      rw [List.filter_append, List.filter_cons, ← hgj, h3]
      simp only [Bool.not_true, Bool.false_eq_true, if_false]
      rw [filter_allI]
      exact h4
    have el : j + ((s.drop (j + 1)).filter fun x => !q x).length = (s.filter fun x => !q x).length := by
      rw [e, List.length_append, List.length_take, Nat.min_eq_left (Nat.le_of_lt hj)]
    rw [el] at l1 l3
    rw [← e] at l3
    have ll : (s.filter fun x => !q x).length ≤ s.length := List.length_filter_le _ _
    have l1' : k21_l5 F s.length (j : Int) (IntKind.wrap .i64 ((j : Int) + 1)) s = some ((((s.filter fun x => !q x).length : Nat) : Int), s') := by
      rw [wrap_succ (n := s.length) hj (by omega)]
      exact l1
    have hne : ((j : Int) == -1) = false := by
      rw [beq_eq_false_iff_ne]; omega
    simp only [cond_true, Option.getD_some, l1', hne, cond_false, Option.isSome_some, inLe_cast, ll, decide_true, Int.toNat_natCast, Nat.sub_zero]
    refine ⟨_, rfl, rfl, ?_, ?_⟩
    · show (splice s' (0 + _) _ _).take _ = _
      rw [splice_takeI _ _ _ _ (by omega) (by simp), l3]
    · rw [← l2]
      show (splice s' (0 + _) _ _).length = _
      exact splice_lenI _ _ _ (by omega) (by simp)
theorem impl_row (F : Nat) (row : List Int) (h4 : row.length = 4) (hr : ∀ x ∈ row, inB x 0 17 = true) (hF : 1000 < F) : ∃ mg, k83_p F row = some ((rslide row).2.2.2, (rslide row).2.1, mg) := by
  have hs4 : sub row 0 4 = row := by obtain ⟨a, b, c, d, rfl⟩ := list4 h4; rfl
  obtain ⟨r, d1, d2⟩ := DeleteFunc_tiles F row (fun x => x == 0) (by omega) hF (fun x _ => rfl)
  have ht : k108_p F row = some r := by
    have hf : fits row.length 8 = true := fits_of (by omega) (by omega)
    simp only [k108_p, k108_c, hs4, d1, hf, Option.isSome_some, Option.getD_some, cond_true, beq_selfL, Bool.and_self]
  obtain ⟨m, mem⟩ := r
  have hm : m = (row.filter fun x => !(x == 0)).length := d2.1
  have hl : ∀ i, i < m → iget mem (0 + i) = iget (row.filter fun x => !(x == 0)) i := fun i hi => d2.get hi
  have hm4 : m ≤ 4 := by rw [hm, ← h4]; exact List.length_filter_le _ _
  have hx : ∀ i, i < m → inB (iget (row.filter fun x => !(x == 0)) i) 1 17 = true := fun i hi => by
    have hm : iget (row.filter fun x => !(x == 0)) i ∈ row.filter fun x => !(x == 0) := by
      rw [igetL, List.getElem?_eq_getElem (by omega)]
      exact List.getElem_mem _
    generalize iget (row.filter fun x => !(x == 0)) i = y at hm ⊢
    have this := List.mem_filter.1 hm
    have h1 := hr _ this.1
    have h2 : y ≠ 0 := by simpa using this.2
    simp [inB] at h1
    show inB y 1 17 = true
    simp [inB]
    omega
  have h := loop_fold (step := k83_s3 F m m mem) (fun i (s : RS × List Bool) => (s.1.2.1, (s.1.1 : Int), i, s.1.2.2.2, s.2)) m
    (fun i s => (rstep s.1 (iget (row.filter fun x => !(x == 0)) i), bif decide (0 < s.1.1) && (iget s.1.2.2.2 (0 + (s.1.1 - 1) * 1) == iget (row.filter fun x => !(x == 0)) i) && decide (iget (row.filter fun x => !(x == 0)) i < 17) && !s.1.2.2.1 then bset s.2 (0 + (s.1.1 - 1) * 1) true else s.2)) (fun s => (s.1.2.1, s.1.2.2.2, s.2))
    (fun i s => s.1.1 ≤ i ∧ s.2.length = 4 ∧ (0 < s.1.1 → bget s.2 (0 + (s.1.1 - 1) * 1) = s.1.2.2.1) ∧ ∀ j, s.1.1 ≤ j → bget s.2 j = false) (F := F) (by omega) (by omega) (a := ((0, 0, false, [0, 0, 0, 0]), [false, false, false, false]))
    ⟨Nat.le_refl 0, rfl, fun h => absurd h (by decide), fun j _ => by rw [bgetL]; rcases j with _ | _ | _ | _ | j <;> simp⟩
    (fun i s hi hI => by
      obtain ⟨⟨n, sc, mg, out⟩, ms⟩ := s
      obtain ⟨i1, i2, i3, i4⟩ := hI
      simp only at i1 i2 i3 i4 ⊢
      have hxi := hx i hi
      have hi' : (i : Int) < (m : Int) := by omega
      have hn4 : n < 4 := by omega
      have hsn : IntKind.wrap .i64 ((n : Int) + 1) = ((n + 1 : Nat) : Int) := wrap_succ (n := 4) hn4 (by omega)
      simp only [k83_s3, hi', inR_cast, hi, Int.toNat_natCast, decide_true, cond_true, hl i hi, hn4]
      generalize iget (row.filter fun x => !(x == 0)) i = x at hxi ⊢
      have hx1 : 1 ≤ x ∧ x ≤ 17 := by simpa [inB] using hxi
      have push : (n + 1 ≤ i + 1 ∧ ms.length = 4 ∧ (0 < n + 1 → bget ms (0 + (n + 1 - 1) * 1) = false) ∧ ∀ j, n + 1 ≤ j → bget ms j = false) := ⟨by omega, i2, fun _ => i4 _ (by omega), fun j hj => i4 j (by omega)⟩
      by_cases hn : 0 < n
      · have hn' : (0 : Int) < (n : Int) := by omega
        have hp := wrap_pred hn (by omega)
        have hp4 : n - 1 < 4 := by omega
        have hmg := i3 hn
        simp only [hn', decide_true, cond_true, hp, inR_cast, hp4, Int.toNat_natCast, rstep, hn, Bool.true_and, hsn, hn4, hmg]
        cases hq : iget out (0 + (n - 1) * 1) == x with
        | false => exact ⟨push, fun Q kn kx => by first | rfl | trivial⟩
        | true =>
          by_cases h17 : x < 17
          · have hw : IntKind.wrap .i64 (x + 1) = x + 1 := wrap_of (by omega) (by omega)
            have hwo : k109_p (x + 1) = some (W (x + 1)) := worth_eq (by simp [inB]; omega)
            cases mg with
            | true =>
              simp only [h17, decide_true, cond_true, Bool.not_true, cond_false, Bool.true_and]
              exact ⟨push, fun Q kn kx => by first | rfl | trivial⟩
            | false =>
              simp only [h17, decide_true, cond_true, Bool.not_false, hw, hwo, Option.isSome_some, Option.getD_some, Bool.true_and]
              refine ⟨⟨by omega, by rw [bsetL]; simpa using i2, fun _ => ?_, fun j hj => ?_⟩, fun Q kn kx => by first | rfl | trivial⟩
              · rw [bsetL, bgetL, List.getElem?_set_self (by omega)]; rfl
              · rw [bsetL, bgetL, List.getElem?_set_ne (by omega), ← bgetL]
                exact i4 j hj
          · simp only [h17, decide_false, cond_false, cond_true, Bool.and_false, Bool.false_and, Bool.true_and]
            exact ⟨push, fun Q kn kx => by first | rfl | trivial⟩
      · have hn' : ¬ (0 : Int) < (n : Int) := by omega
        simp only [cond_false, hn', decide_false, cond_true, rstep, hn, Bool.false_and, hsn, inR_cast, hn4, decide_true, Int.toNat_natCast]
        exact ⟨push, fun Q kn kx => by first | rfl | trivial⟩)
    (fun s _ Q kn kx => by simp [k83_s3])
  have hf : ∀ (k i : Nat) (s : RS) (ms : List Bool), (fld (fun i (s : RS × List Bool) => (rstep s.1 (iget (row.filter fun x => !(x == 0)) i), bif decide (0 < s.1.1) && (iget s.1.2.2.2 (0 + (s.1.1 - 1) * 1) == iget (row.filter fun x => !(x == 0)) i) && decide (iget (row.filter fun x => !(x == 0)) i < 17) && !s.1.2.2.1 then bset s.2 (0 + (s.1.1 - 1) * 1) true else s.2)) i k (s, ms)).1 = fld (fun i s => rstep s (iget (row.filter fun x => !(x == 0)) (0 + i))) i k s := by
    intro k
    induction k with
    | zero => intro i s ms; rfl
    | succ k ih =>
      intro i s ms
      simp only [fld]
      rw [ih, Nat.zero_add]
  obtain ⟨r, e, hr2⟩ : ∃ r : RS × List Bool, k83_l3 F m m mem 0 0 0 [0, 0, 0, 0] [false, false, false, false] = some (r.1.2.1, r.1.2.2.2, r.2) ∧ r.1 = rslide row :=
    ⟨_, h.1, by
      rw [hf, fld_list (row.filter fun x => !(x == 0)) rstep m 0 _ (by omega), List.drop_zero]
      rfl⟩
  rw [hr2] at e
  exact ⟨r.2, by simp only [k83_p, k83_c, ht, e, Option.isSome_some, Option.getD_some, cond_true]⟩
end Go.Lv.P
namespace Go.Lv.P
open Go Go.Lv
def Asc : LL → Prop
  | [] => True
  | a :: r => (∀ x ∈ r, ltL a x = true) ∧ Asc r
def insB (b : List Int) : LL → LL
  | [] => [b]
  | a :: r => bif ltL a b then a :: insB b r else bif a == b then a :: r else b :: a :: r
theorem insB_mem {b x : List Int} : ∀ {l : LL}, x ∈ insB b l ↔ x = b ∨ x ∈ l
  | [] => by simp [insB]
  | a :: r => by
    simp only [insB]
    cases h1 : ltL a b with
    | true =>
      rw [cond_true, List.mem_cons, insB_mem, List.mem_cons]
      constructor
      · rintro (h | h | h)
        · exact .inr (.inl h)
        · exact .inl h
        · exact .inr (.inr h)
      · rintro (h | h | h)
        · exact .inr (.inl h)
        · exact .inl h
        · exact .inr (.inr h)
    | false =>
      rw [cond_false]
      cases h2 : a == b with
      | true =>
        rw [cond_true]
        have e := eq_of_beq h2
        subst e
        simp
      | false => rw [cond_false]; simp
theorem insB_asc {b : List Int} : ∀ {l : LL}, Asc l → (∀ x ∈ l, x.length = b.length) → Asc (insB b l)
  | [], _, _ => ⟨fun x hx => (by cases hx), trivial⟩
  | a :: r, ⟨h1, h2⟩, hl => by
    simp only [insB]
    cases hab : ltL a b with
    | true =>
      rw [cond_true]
      refine ⟨fun x hx => ?_, insB_asc h2 fun x hx => hl x (List.mem_cons_of_mem _ hx)⟩
      rcases insB_mem.1 hx with rfl | hx
      · exact hab
      · exact h1 x hx
    | false =>
      rw [cond_false]
      cases he : a == b with
      | true => exact ⟨h1, h2⟩
      | false =>
        rw [cond_false]
        have hne : a ≠ b := by rw [beq_eq_false_iff_ne] at he; exact he
        have hba := ltL_tot (hl a List.mem_cons_self) hab hne
        refine ⟨fun x hx => ?_, h1, h2⟩
        rcases List.mem_cons.1 hx with rfl | hx
        · exact hba
        · exact ltL_trans hba (h1 x hx)
end Go.Lv.P
namespace Go.Lv.P
open Go Go.Lv
set_option maxRecDepth 100000
def plcD (d i k : Nat) : Nat :=
  match d with
  | 0 => i * 4 + k
  | 1 => k * 4 + i
  | 2 => i * 4 + (3 - k)
  | _ => (3 - k) * 4 + i
def crd (d i : Nat) : List Int := [0, 1, 2, 3].flatMap fun k => [((plcD d i k / 4 : Nat) : Int), ((plcD d i k % 4 : Nat) : Int)]
def lineB (b : List Int) (d i : Nat) : List Int := [iget b (plcD d i 0), iget b (plcD d i 1), iget b (plcD d i 2), iget b (plcD d i 3)]
def putB (b : List Int) (d i : Nat) (row : List Int) : List Int := iset (iset (iset (iset b (plcD d i 0) (iget row 0)) (plcD d i 1) (iget row 1)) (plcD d i 2) (iget row 2)) (plcD d i 3) (iget row 3)
def sstep (b : List Int) (d i : Nat) (s : List Int × Int) : List Int × Int := (putB s.1 d i (rslide (lineB b d i)).2.2.2, IntKind.wrap .i64 (s.2 + (rslide (lineB b d i)).2.1))
def slideB (b : List Int) (d : Nat) : List Int × Int := fld (sstep b d) 0 4 (b, 0)
theorem plcD_lt {d i k : Nat} (hd : d < 4) (hi : i < 4) (hk : k < 4) : plcD d i k < 16 := by
  obtain rfl | rfl | rfl | rfl : d = 0 ∨ d = 1 ∨ d = 2 ∨ d = 3 := by omega
  all_goals (simp only [plcD]; omega)
theorem iset_len (l : List Int) (i : Nat) (x : Int) : (iset l i x).length = l.length := by rw [isetL, List.length_set]
theorem iset_all {p : Int → Prop} {l : List Int} (h : ∀ y ∈ l, p y) (i : Nat) {x : Int} (hx : p x) : ∀ y ∈ iset l i x, p y := by
  rw [isetL]
  intro y hy
  rcases List.mem_or_eq_of_mem_set hy with hy | rfl
  · exact h y hy
  · exact hx
abbrev tileOK (x : Int) : Prop := inB x 0 17 = true
theorem rstep_ok {s : RS} {x : Int} (hx : inB x 1 17 = true) (h : s.2.2.2.length = 4 ∧ ∀ y ∈ s.2.2.2, tileOK y) : (rstep s x).2.2.2.length = 4 ∧ ∀ y ∈ (rstep s x).2.2.2, tileOK y := by
  have hx1 : 1 ≤ x ∧ x ≤ 17 := by simpa [inB] using hx
  unfold rstep
  cases h17 : decide (x < 17) with
  | false =>
    simp only [Bool.and_false, Bool.false_and, cond_false]
    exact ⟨by rw [iset_len]; exact h.1, iset_all h.2 _ (by simp [tileOK, inB]; omega)⟩
  | true =>
    have h17 := of_decide_eq_true h17
    cases decide (0 < s.1) && (iget s.2.2.2 (0 + (s.1 - 1) * 1) == x) && true && !s.2.2.1
    · exact ⟨by simp only [cond_false]; rw [iset_len]; exact h.1, iset_all h.2 _ (by simp [tileOK, inB]; omega)⟩
    · exact ⟨by simp only [cond_true]; rw [iset_len]; exact h.1, iset_all h.2 _ (by simp [tileOK, inB]; omega)⟩
theorem rfold_ok : ∀ (l : List Int) (s : RS), (∀ x ∈ l, inB x 1 17 = true) → (s.2.2.2.length = 4 ∧ ∀ y ∈ s.2.2.2, tileOK y) → ((l.foldl rstep s).2.2.2.length = 4 ∧ ∀ y ∈ (l.foldl rstep s).2.2.2, tileOK y)
  | [], s, _, h => h
  | x :: r, s, hl, h => rfold_ok r (rstep s x) (fun y hy => hl y (List.mem_cons_of_mem _ hy)) (rstep_ok (hl x List.mem_cons_self) h)
theorem rslide_ok {row : List Int} (hr : ∀ x ∈ row, tileOK x) : (rslide row).2.2.2.length = 4 ∧ ∀ y ∈ (rslide row).2.2.2, tileOK y := by
  refine rfold_ok _ _ (fun x hx => ?_) ⟨rfl, by decide⟩
  rw [List.mem_filter] at hx
  have h1 := hr x hx.1
  have h2 : x ≠ 0 := by simpa using hx.2
  simp [tileOK, inB] at h1
  simp [inB]
  omega
theorem okB_iff (b : List Int) : okB b = true ↔ ∀ x ∈ b, tileOK x := by simp [okB, tileOK]
theorem iget_ok {b : List Int} {n : Nat} (h : ∀ x ∈ b, tileOK x) (hn : n < b.length) : tileOK (iget b n) := by
  rw [igetL, List.getElem?_eq_getElem hn]
  exact h _ (List.getElem_mem _)
theorem line_ok {b : List Int} (hb : b.length = 16) (ok : ∀ x ∈ b, tileOK x) {d i : Nat} (hd : d < 4) (hi : i < 4) : ∀ x ∈ lineB b d i, tileOK x := by
  have h : ∀ k, k < 4 → tileOK (iget b (plcD d i k)) := fun k hk => iget_ok ok (by rw [hb]; exact plcD_lt hd hi hk)
  intro x hx
  simp only [lineB, List.mem_cons, List.not_mem_nil, or_false] at hx
  rcases hx with rfl | rfl | rfl | rfl
  · exact h 0 (by omega)
  · exact h 1 (by omega)
  · exact h 2 (by omega)
  · exact h 3 (by omega)
theorem put_ok {b row : List Int} (hb : b.length = 16 ∧ ∀ x ∈ b, tileOK x) (hr : row.length = 4 ∧ ∀ x ∈ row, tileOK x) (d i : Nat) : (putB b d i row).length = 16 ∧ ∀ x ∈ putB b d i row, tileOK x := by
  have h : ∀ k, k < 4 → tileOK (iget row k) := fun k hk => iget_ok hr.2 (by omega)
  refine ⟨by simp only [putB, iset_len]; exact hb.1, ?_⟩
  exact iset_all (iset_all (iset_all (iset_all hb.2 _ (h 0 (by omega))) _ (h 1 (by omega))) _ (h 2 (by omega))) _ (h 3 (by omega))
section
variable {b : List Int} (hb : b.length = 16) (ok : okB b = true)
include hb ok
theorem sstep_ok {d i : Nat} (hd : d < 4) (hi : i < 4) {s : List Int × Int} (hs : s.1.length = 16 ∧ ∀ x ∈ s.1, tileOK x) : (sstep b d i s).1.length = 16 ∧ ∀ x ∈ (sstep b d i s).1, tileOK x :=
  put_ok hs (rslide_ok (line_ok hb ((okB_iff b).1 ok) hd hi)) d i
theorem slide_ok {d : Nat} (hd : d < 4) : (slideB b d).1.length = 16 ∧ okB (slideB b d).1 = true := by
  have h0 : (b, (0 : Int)).1.length = 16 ∧ ∀ x ∈ (b, (0 : Int)).1, tileOK x := ⟨hb, (okB_iff b).1 ok⟩
  have h := sstep_ok hb ok hd (show 3 < 4 by omega) (sstep_ok hb ok hd (show 2 < 4 by omega) (sstep_ok hb ok hd (show 1 < 4 by omega) (sstep_ok hb ok hd (show 0 < 4 by omega) h0)))
  exact ⟨h.1, (okB_iff _).2 h.2⟩
end
end Go.Lv.P
namespace Go.Lv.P
open Go Go.Lv
theorem subn_take0 {α : Type} (m : List α) (n : Nat) : subn m.length m 0 n = m.take n := by
  rw [subn_eqL _ _ _ _ rfl, sub, List.drop_zero]
end Go.Lv.P
namespace Go.Lv.P
open Go Go.Lv
theorem l2Worth_eq {t : Int} (h : inB t 0 17 = true) (h0 : 0 < t) : k93_p t = some (W t) := by
  rcases tile_cases h with h | h | h | h | h | h | h | h | h | h | h | h | h | h | h | h | h | h <;> subst h <;> first | (exact absurd h0 (by decide)) | decide
end Go.Lv.P
namespace Go.Lv.P
open Go Go.Lv
theorem asc_ext : ∀ {l l' : LL}, Asc l → Asc l' → (∀ x, x ∈ l ↔ x ∈ l') → l = l'
  | [], [], _, _, _ => rfl
  | [], b :: r', _, _, h => absurd ((h b).2 List.mem_cons_self) (by simp)
  | a :: r, [], _, _, h => absurd ((h a).1 List.mem_cons_self) (by simp)
  | a :: r, b :: r', ⟨h1, h2⟩, ⟨h1', h2'⟩, h => by
    have hab : a = b := by
      rcases List.mem_cons.1 ((h a).1 List.mem_cons_self) with e | ha
      · exact e
      · rcases List.mem_cons.1 ((h b).2 List.mem_cons_self) with e | hb
        · exact e.symm
        · have := ltL_trans (h1' a ha) (h1 b hb)
          rw [ltL_irr] at this; cases this
    subst hab
    have ht : ∀ x, x ∈ r ↔ x ∈ r' := fun x => by
      constructor
      · intro hx
        rcases List.mem_cons.1 ((h x).1 (List.mem_cons_of_mem _ hx)) with e | hx'
        · subst e
          have := h1 x hx
          rw [ltL_irr] at this; cases this
        · exact hx'
      · intro hx
        rcases List.mem_cons.1 ((h x).2 (List.mem_cons_of_mem _ hx)) with e | hx'
        · subst e
          have := h1' x hx
          rw [ltL_irr] at this; cases this
        · exact hx'
    rw [asc_ext h2 h2' ht]
def dd : List Int → LL → LL
  | _, [] => []
  | p, x :: r => bif x == p then dd x r else x :: dd x r
def compL : LL → LL
  | [] => []
  | a :: r => a :: dd a r
def Up : LL → Prop
  | [] => True
  | a :: r => (∀ x ∈ r, ltL x a = false) ∧ Up r
abbrev LenT (m : Nat) := { x : List Int // x.length = m }
theorem exists_lenT {m : Nat} : ∀ (xs : LL), (∀ x ∈ xs, x.length = m) → ∃ l : List (LenT m), l.map (·.1) = xs
  | [], _ => ⟨[], rfl⟩
  | x :: r, h => by
    obtain ⟨l, rfl⟩ := exists_lenT r fun y hy => h y (List.mem_cons_of_mem _ hy)
    exact ⟨⟨x, h x List.mem_cons_self⟩ :: l, rfl⟩
theorem up_of_pair : ∀ {l : LL}, l.Pairwise (fun x y => ltL y x = false) → Up l
  | [], _ => trivial
  | a :: r, h => by
    rw [List.pairwise_cons] at h
    exact ⟨h.1, up_of_pair h.2⟩
theorem up_sort {m : Nat} (xs : LL) (hx : ∀ x ∈ xs, x.length = m) : Up (sortL xs) := by
  obtain ⟨l, rfl⟩ := exists_lenT xs hx
  have hp : (l.mergeSort fun x y : LenT m => !ltL y.1 x.1).Pairwise fun x y => (!ltL y.1 x.1) = true := by
    refine List.pairwise_mergeSort (le := fun x y : LenT m => !ltL y.1 x.1) (fun a b c h1 h2 => ?_) (fun a b => ?_) l
    · simp only [Bool.not_eq_true'] at h1 h2 ⊢
      cases h : ltL c.1 a.1 with
      | false => rfl
      | true =>
        by_cases hba : b.1 = a.1
        · rw [← hba, h2] at h; cases h
        · have h3 := ltL_tot (by rw [b.2, a.2]) h1 hba
          have h4 := ltL_trans h h3
          rw [h4] at h2; cases h2
    · cases h : ltL b.1 a.1 with
      | false => simp
      | true => rw [ltL_asym h]; simp
  have hm : sortL (l.map (·.1)) = (l.mergeSort fun x y : LenT m => !ltL y.1 x.1).map (·.1) := by
    unfold sortL
    exact (List.map_mergeSort (f := fun x : LenT m => x.1) (s := fun x y => !ltL y x) fun x _ y _ => rfl).symm
  rw [hm]
  refine up_of_pair ?_
  rw [List.pairwise_map]
  exact hp.imp fun h => by simpa using h
theorem dd_mem : ∀ (l : LL) (p x : List Int), x ∈ dd p l → x ∈ l
  | [], p, x, h => by simp [dd] at h
  | a :: r, p, x, h => by
    simp only [dd] at h
    cases hc : a == p with
    | true => rw [hc, cond_true] at h; exact List.mem_cons_of_mem _ (dd_mem r a x h)
    | false =>
      rw [hc, cond_false] at h
      rcases List.mem_cons.1 h with rfl | h
      · exact List.mem_cons_self
      · exact List.mem_cons_of_mem _ (dd_mem r a x h)
theorem mem_dd : ∀ (l : LL) (p x : List Int), x ∈ l → x ≠ p → x ∈ dd p l
  | [], p, x, h, _ => by cases h
  | a :: r, p, x, h, hn => by
    simp only [dd]
    by_cases hxa : x = a
    · subst hxa
      have : (x == p) = false := by rw [beq_eq_false_iff_ne]; exact hn
      rw [this, cond_false]
      exact List.mem_cons_self
    · rcases List.mem_cons.1 h with e | h
      · exact absurd e hxa
      · have ih := mem_dd r a x h hxa
        cases a == p
        · exact List.mem_cons_of_mem _ ih
        · exact ih
theorem dd_asc {m : Nat} : ∀ (l : LL) (p : List Int), p.length = m → (∀ x ∈ l, x.length = m) → (∀ x ∈ l, ltL x p = false) → Up l → (∀ x ∈ dd p l, ltL p x = true) ∧ Asc (dd p l)
  | [], p, _, _, _, _ => ⟨fun x h => (by simp [dd] at h), trivial⟩
  | a :: r, p, hp, hl, hlo, ⟨hu1, hu2⟩ => by
    have ha := hl a List.mem_cons_self
    obtain ⟨h1, h2⟩ := dd_asc r a ha (fun x hx => hl x (List.mem_cons_of_mem _ hx)) hu1 hu2
    simp only [dd]
    cases hc : a == p with
    | true =>
      have e := eq_of_beq hc
      subst e
      exact ⟨h1, h2⟩
    | false =>
      have hne : a ≠ p := by rw [beq_eq_false_iff_ne] at hc; exact hc
      have hpa : ltL p a = true := ltL_tot (by omega) (hlo a List.mem_cons_self) hne
      simp only [cond_false]
      refine ⟨fun x hx => ?_, h1, h2⟩
      rcases List.mem_cons.1 hx with rfl | hx
      · exact hpa
      · exact ltL_trans hpa (h1 x hx)
theorem comp_mem (l : LL) (x : List Int) : x ∈ compL l ↔ x ∈ l := by
  cases l with
  | nil => simp [compL]
  | cons a r =>
    simp only [compL, List.mem_cons]
    constructor
    · rintro (h | h)
      · exact .inl h
      · exact .inr (dd_mem r a x h)
    · rintro (h | h)
      · exact .inl h
      · by_cases hx : x = a
        · exact .inl hx
        · exact .inr (mem_dd r a x h hx)
theorem comp_asc {m : Nat} (l : LL) (hl : ∀ x ∈ l, x.length = m) (hu : Up l) : Asc (compL l) := by
  cases l with
  | nil => trivial
  | cons a r => exact dd_asc r a (hl a List.mem_cons_self) (fun x hx => hl x (List.mem_cons_of_mem _ hx)) hu.1 hu.2
theorem sort_mem (l : LL) (x : List Int) : x ∈ sortL l ↔ x ∈ l := List.mem_mergeSort
theorem sort_len (l : LL) : (sortL l).length = l.length := List.length_mergeSort _
theorem sorted_eq {m : Nat} {l l' : LL} (hl : ∀ x ∈ l, x.length = m) (ha : Asc l') (hm : ∀ x, x ∈ l ↔ x ∈ l') : compL (sortL l) = l' := by
  refine asc_ext (comp_asc (m := m) _ (fun x hx => hl x ((sort_mem l x).1 hx)) (up_sort l hl)) ha fun x => ?_
  rw [comp_mem, sort_mem, hm]
def insAll (l : LL) : LL := l.foldl (fun s x => insB x s) []
theorem insAll_facts {m : Nat} : ∀ (l s : LL), (∀ x ∈ l, x.length = m) → (∀ x ∈ s, x.length = m) → Asc s → Asc (l.foldl (fun s x => insB x s) s) ∧ (∀ x, x ∈ l.foldl (fun s x => insB x s) s ↔ x ∈ s ∨ x ∈ l) ∧ ∀ x ∈ l.foldl (fun s x => insB x s) s, x.length = m
  | [], s, _, hs, ha => ⟨ha, fun x => by simp, hs⟩
  | a :: r, s, hl, hs, ha => by
    have hla := hl a List.mem_cons_self
    have hs2 : ∀ x ∈ insB a s, x.length = m := fun x hx => by
      rcases insB_mem.1 hx with rfl | hx
      · exact hla
      · exact hs x hx
    obtain ⟨h1, h2, h3⟩ := insAll_facts r (insB a s) (fun x hx => hl x (List.mem_cons_of_mem _ hx)) hs2 (insB_asc ha fun x hx => by rw [hs x hx, hla])
    refine ⟨h1, fun x => ?_, h3⟩
    rw [List.foldl_cons, h2, insB_mem, List.mem_cons]
    constructor
    · rintro ((h | h) | h)
      · exact .inr (.inl h)
      · exact .inl h
      · exact .inr (.inr h)
    · rintro (h | h | h)
      · exact .inl (.inr h)
      · exact .inl (.inl h)
      · exact .inr h
theorem insAll_ok {m : Nat} {l : LL} (hl : ∀ x ∈ l, x.length = m) : Asc (insAll l) ∧ (∀ x, x ∈ insAll l ↔ x ∈ l) ∧ ∀ x ∈ insAll l, x.length = m := by
  obtain ⟨h1, h2, h3⟩ := insAll_facts l [] hl (fun x hx => by cases hx) trivial
  exact ⟨h1, fun x => by rw [insAll, h2]; simp, h3⟩
end Go.Lv.P
namespace Go.Lv.P
open Go Go.Lv
def fs (f : Int → Int) : List Int → Int
  | [] => 0
  | x :: r => f x + fs f r
theorem fs_iset (f : Int → Int) : ∀ (l : List Int) (i : Nat) (x : Int), i < l.length → fs f (iset l i x) = fs f l - f (iget l i) + f x
  | [], i, x, h => by simp at h
  | y :: l, 0, x, h => by simp only [iset, iget, fs]; omega
  | y :: l, i + 1, x, h => by
    have := fs_iset f l i x (by simpa using h)
    simp only [iset, iget, fs, this]; omega
theorem fs_filter (f : Int → Int) (h0 : f 0 = 0) : ∀ l : List Int, fs f (l.filter fun x => !(x == 0)) = fs f l
  | [] => rfl
  | x :: l => by
    rw [List.filter_cons]
    cases hx : x == 0 with
    | true =>
      have e := eq_of_beq hx
      subst e
      simp only [Bool.not_true, Bool.false_eq_true, if_false, fs, h0, fs_filter f h0 l]; omega
    | false => simp only [Bool.not_false, if_true, fs, fs_filter f h0 l]
theorem fs_bound {f : Int → Int} {m : Int} : ∀ {l : List Int}, (∀ x ∈ l, 0 ≤ f x ∧ f x ≤ m) → 0 ≤ fs f l ∧ fs f l ≤ m * l.length
  | [], _ => by simp [fs]
  | x :: l, h => by
    have h1 := h x List.mem_cons_self
    have h2 := fs_bound (f := f) (m := m) fun y hy => h y (List.mem_cons_of_mem _ hy)
    simp only [fs, List.length_cons]
    rw [show m * ((l.length + 1 : Nat) : Int) = m * (l.length : Int) + m by rw [Int.natCast_add, Int.mul_add]; simp]
    omega
def rhit (s : RS) (x : Int) : Bool := decide (0 < s.1) && (iget s.2.2.2 (0 + (s.1 - 1) * 1) == x) && decide (x < 17) && !s.2.2.1
def mgs : RS → List Int → List Int
  | _, [] => []
  | s, x :: r => bif rhit s x then (x + 1) :: mgs (rstep s x) r else mgs (rstep s x) r
def RI (s : RS) : Prop := s.2.2.2.length = 4 ∧ ∀ j, s.1 ≤ j → j < 4 → iget s.2.2.2 j = 0
theorem iget_iset (l : List Int) (i j : Nat) (x : Int) (h : i < l.length) : iget (iset l i x) j = if i = j then x else iget l j := by
  rw [igetL, igetL, isetL, List.getElem?_set]
  split
  · rename_i e; subst e; simp [h]
  · rfl
theorem rstep_RI {s : RS} {x : Int} (h : RI s) (hs : s.1 < 4) : RI (rstep s x) := by
  unfold rstep
  cases hc : decide (0 < s.1) && (iget s.2.2.2 (0 + (s.1 - 1) * 1) == x) && decide (x < 17) && !s.2.2.1 with
  | true =>
    have h0 : 0 < s.1 := by simp at hc; omega
    refine ⟨by rw [cond_true]; show (iset _ _ _).length = 4; rw [iset_len]; exact h.1, fun j hj hj4 => ?_⟩
    rw [cond_true] at hj ⊢
    have hj : s.1 ≤ j := hj
    show iget (iset s.2.2.2 _ _) j = 0
    rw [iget_iset _ _ _ _ (by rw [h.1]; omega), if_neg (by omega)]
    exact h.2 j hj hj4
  | false =>
    refine ⟨by rw [cond_false]; show (iset _ _ _).length = 4; rw [iset_len]; exact h.1, fun j hj hj4 => ?_⟩
    rw [cond_false] at hj ⊢
    have hj : s.1 + 1 ≤ j := hj
    show iget (iset s.2.2.2 _ _) j = 0
    rw [iget_iset _ _ _ _ (by rw [h.1]; omega), if_neg (by omega)]
    exact h.2 j (by omega) hj4
theorem rstep_fs (f : Int → Int) (h0 : f 0 = 0) {s : RS} {x : Int} (h : RI s) (hs : s.1 < 4) : fs f (rstep s x).2.2.2 = fs f s.2.2.2 + f x + bif rhit s x then f (x + 1) - 2 * f x else 0 := by
  unfold rstep rhit
  cases hc : decide (0 < s.1) && (iget s.2.2.2 (0 + (s.1 - 1) * 1) == x) && decide (x < 17) && !s.2.2.1 with
  | true =>
    have h1 : 0 < s.1 := by simp at hc; omega
    have h2 : iget s.2.2.2 (0 + (s.1 - 1) * 1) = x := by simp at hc; simpa using hc.1.1.2
    rw [cond_true, cond_true]
    show fs f (iset s.2.2.2 _ _) = _
    rw [fs_iset f _ _ _ (by rw [h.1]; omega), h2]; omega
  | false =>
    rw [cond_false, cond_false]
    show fs f (iset s.2.2.2 _ _) = _
    rw [fs_iset f _ _ _ (by rw [h.1]; omega), h.2 (0 + s.1 * 1) (by omega) (by omega), h0]; omega
theorem rfold_fs (f : Int → Int) (h0 : f 0 = 0) : ∀ (l : List Int) (s : RS), RI s → s.1 + l.length ≤ 4 → fs f (l.foldl rstep s).2.2.2 = fs f s.2.2.2 + fs f l + fs (fun m => f m - 2 * f (m - 1)) (mgs s l)
  | [], s, _, _ => by simp [fs, mgs]
  | x :: l, s, h, hl => by
    simp only [List.length_cons] at hl
    have h1 := rstep_n s x
    have ih := rfold_fs f h0 l (rstep s x) (rstep_RI h (by omega)) (by omega)
    have h2 := rstep_fs f h0 (x := x) h (by omega)
    rw [List.foldl_cons, ih, h2]
    simp only [fs, mgs]
    cases rhit s x with
    | true => simp only [cond_true, fs]; rw [show x + 1 - 1 = x by omega]; omega
    | false => simp only [cond_false]; omega
theorem mgs_ok : ∀ (l : List Int) (s : RS), (∀ x ∈ l, inB x 1 17 = true) → ∀ m ∈ mgs s l, inB m 2 17 = true
  | [], s, _, m, h => by simp [mgs] at h
  | x :: l, s, hl, m, h => by
    have hx := hl x List.mem_cons_self
    simp only [mgs] at h
    have ih := mgs_ok l (rstep s x) (fun y hy => hl y (List.mem_cons_of_mem _ hy))
    cases hh : rhit s x with
    | false => rw [hh] at h; exact ih m h
    | true =>
      rw [hh, cond_true] at h
      rcases List.mem_cons.1 h with rfl | h
      · unfold rhit at hh
        simp only [Bool.and_eq_true, decide_eq_true_eq] at hh
        simp only [inB, Bool.and_eq_true, decide_eq_true_eq] at hx ⊢
        omega
      · exact ih m h
def rowM (row : List Int) : List Int := mgs (0, 0, false, [0, 0, 0, 0]) (row.filter fun x => !(x == 0))
theorem row_tiles {row : List Int} (h : ∀ x ∈ row, tileOK x) : ∀ x ∈ row.filter (fun x => !(x == 0)), inB x 1 17 = true := by
  intro x hx
  rw [List.mem_filter] at hx
  have h1 := h x hx.1
  have h2 : x ≠ 0 := by simpa using hx.2
  simp only [tileOK, inB, Bool.and_eq_true, decide_eq_true_eq] at h1 ⊢
  omega
section
variable {row : List Int} (hl : row.length = 4) (h : ∀ x ∈ row, tileOK x)
include hl h
theorem row_fs (f : Int → Int) (h0 : f 0 = 0) : fs f (rslide row).2.2.2 = fs f row + fs (fun m => f m - 2 * f (m - 1)) (rowM row) := by
  have hn : (row.filter fun x => !(x == 0)).length ≤ 4 := by rw [← hl]; exact List.length_filter_le _ _
  have := rfold_fs f h0 (row.filter fun x => !(x == 0)) (0, 0, false, [0, 0, 0, 0]) ⟨rfl, fun j _ hj => by
    obtain rfl | rfl | rfl | rfl : j = 0 ∨ j = 1 ∨ j = 2 ∨ j = 3 := by omega
    all_goals rfl⟩ (by simpa using hn)
  rw [fs_filter f h0] at this
  rw [show fs f ((0 : Nat), (0 : Int), false, [0, 0, 0, 0]).2.2.2 = 0 by simp [fs, h0], Int.zero_add] at this
  exact this
theorem rowM_ok : ∀ m ∈ rowM row, inB m 2 17 = true := mgs_ok _ _ (row_tiles h)
end
def boardM (b : List Int) (d : Nat) : List Int := rowM (lineB b d 0) ++ rowM (lineB b d 1) ++ rowM (lineB b d 2) ++ rowM (lineB b d 3)
theorem fs_lines (f : Int → Int) {b : List Int} (hb : b.length = 16) {d : Nat} (hd : d < 4) : fs f b = fs f (lineB b d 0) + fs f (lineB b d 1) + fs f (lineB b d 2) + fs f (lineB b d 3) := by
  obtain ⟨x0, x1, x2, x3, x4, x5, x6, x7, x8, x9, x10, x11, x12, x13, x14, x15, rfl⟩ := list16 hb
  obtain rfl | rfl | rfl | rfl : d = 0 ∨ d = 1 ∨ d = 2 ∨ d = 3 := by omega
  all_goals (simp [fs, lineB, plcD, iget]; omega)
theorem put_lines (b r0 r1 r2 r3 : List Int) (hb : b.length = 16) (h0 : r0.length = 4) (h1 : r1.length = 4) (h2 : r2.length = 4) (h3 : r3.length = 4) {d : Nat} (hd : d < 4) :
    lineB (putB (putB (putB (putB b d 0 r0) d 1 r1) d 2 r2) d 3 r3) d 0 = r0 ∧ lineB (putB (putB (putB (putB b d 0 r0) d 1 r1) d 2 r2) d 3 r3) d 1 = r1 ∧ lineB (putB (putB (putB (putB b d 0 r0) d 1 r1) d 2 r2) d 3 r3) d 2 = r2 ∧ lineB (putB (putB (putB (putB b d 0 r0) d 1 r1) d 2 r2) d 3 r3) d 3 = r3 := by
  obtain ⟨x0, x1, x2, x3, x4, x5, x6, x7, x8, x9, x10, x11, x12, x13, x14, x15, rfl⟩ := list16 hb
  obtain ⟨a0, a1, a2, a3, rfl⟩ := list4 h0
  obtain ⟨c0, c1, c2, c3, rfl⟩ := list4 h1
  obtain ⟨g0, g1, g2, g3, rfl⟩ := list4 h2
  obtain ⟨k0, k1, k2, k3, rfl⟩ := list4 h3
  obtain rfl | rfl | rfl | rfl : d = 0 ∨ d = 1 ∨ d = 2 ∨ d = 3 := by omega
  all_goals exact ⟨by kernel_rfl, by kernel_rfl, by kernel_rfl, by kernel_rfl⟩
section
variable {b : List Int} (hb : b.length = 16) (ok : okB b = true)
include hb ok
theorem slide_lines {d : Nat} (hd : d < 4) {i : Nat} (hi : i < 4) : lineB (slideB b d).1 d i = (rslide (lineB b d i)).2.2.2 := by
  have r := fun i hi => (rslide_ok (line_ok hb ((okB_iff b).1 ok) hd (show i < 4 from hi))).1
  have e : (slideB b d).1 = putB (putB (putB (putB b d 0 (rslide (lineB b d 0)).2.2.2) d 1 (rslide (lineB b d 1)).2.2.2) d 2 (rslide (lineB b d 2)).2.2.2) d 3 (rslide (lineB b d 3)).2.2.2 := rfl
  have h := put_lines b _ _ _ _ hb (r 0 (by omega)) (r 1 (by omega)) (r 2 (by omega)) (r 3 (by omega)) hd
  rw [e]
  obtain rfl | rfl | rfl | rfl : i = 0 ∨ i = 1 ∨ i = 2 ∨ i = 3 := by omega
  · exact h.1
  · exact h.2.1
  · exact h.2.2.1
  · exact h.2.2.2
end
theorem W_double {m : Int} (h : inB m 2 17 = true) : W m - 2 * W (m - 1) = 0 := by
  have h2 : inB m 0 17 = true := by
    simp only [inB, Bool.and_eq_true, decide_eq_true_eq] at h ⊢; omega
  rcases tile_cases h2 with e | e | e | e | e | e | e | e | e | e | e | e | e | e | e | e | e | e <;> subst e <;> revert h <;> decide
theorem fs_zero {f : Int → Int} : ∀ {l : List Int}, (∀ x ∈ l, f x = 0) → fs f l = 0
  | [], _ => rfl
  | x :: l, h => by simp only [fs, h x List.mem_cons_self, fs_zero fun y hy => h y (List.mem_cons_of_mem _ hy)]; rfl
end Go.Lv.P
