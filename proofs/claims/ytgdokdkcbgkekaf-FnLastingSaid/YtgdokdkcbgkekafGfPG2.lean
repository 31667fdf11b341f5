/-
Plain facts of the pure functions, part 2; without conditions.
-/
import Derived.Test.YtgdokdkcbgkekafGfP1
import Derived.Test.YtgdokdkcbgkekafGfP4
import Derived.Test.YtgdokdkcbgkekafGfPG1
import Derived.Test.YtgdokdkcbgkekafGfP0
import Derived.Test.YtgdokdkcbgkekafGfP2
import Derived.Test.YtgdokdkcbgkekafGfP3
import Derived.Test.YtgdokdkcbgkekafLv3
set_option linter.unusedVariables false
set_option linter.unusedSimpArgs false
set_option linter.unusedSectionVars false
namespace Go.Lv.P
open Go Go.Lv
theorem DeleteFunc_tiles (F : Nat) (s : List Int) (q : Int → Bool) (hs : s.length ≤ 1000) (hF : 1000 < F) (hq : ∀ x ∈ s, impl_tiles_f1_v x = q x) :
    ∃ r, slices_DeleteFunc_intint_impl_tiles_f1_p F s = some r ∧ DeletedI s q r := by
  have hg : ∀ i, i < s.length → impl_tiles_f1_v (iget s i) = q (iget s i) := fun i hi => by
    refine hq _ ?_
    rw [igetL, List.getElem?_eq_getElem hi]
    exact List.getElem_mem hi
  have h1 : slices_IndexFunc_intint_impl_tiles_f1_l2 F s s.length 0 = some (fnd (fun i => q (iget s i)) (fun i => (true, (i : Int))) (false, default) 0 s.length) := by
    refine loop_find (fun i => i) s.length _ _ _ (by omega) (by omega) (fun i hi Q kn kx => ?_) fun Q kn kx => ?_
    · simp only [slices_IndexFunc_intint_impl_tiles_f1_s2, inR_cast, hi, hg i hi, Int.toNat_natCast, decide_true, cond_true, Int.ofNat_lt, Option.isSome_some, Option.getD_some]
    · simp [slices_IndexFunc_intint_impl_tiles_f1_s2]
  simp only [slices_DeleteFunc_intint_impl_tiles_f1_p, slices_DeleteFunc_intint_impl_tiles_f1_c, slices_IndexFunc_intint_impl_tiles_f1_p, slices_IndexFunc_intint_impl_tiles_f1_c, subn_self, h1, Option.isSome_some, Option.getD_some, cond_true]
  rcases fnd_splitI s q s.length 0 (by omega) (by simp) with ⟨h2, h3⟩ | ⟨j, hj, h2, h3, h4⟩
  · rw [h2]
    refine ⟨(s.length, s), rfl, ?_⟩
    have e := filter_allI (q := q) h3
    exact ⟨by rw [e], by rw [e]; exact List.take_length, rfl⟩
  · rw [h2]
    have hgj : iget s j = s[j] := by rw [igetL, List.getElem?_eq_getElem hj]; rfl
    obtain ⟨s', l1, l2, l3⟩ := delete_loopI (step := slices_DeleteFunc_intint_impl_tiles_f1_s5 F s.length) q (fun x => impl_tiles_f1_v x = q x) s.length (by omega)
      (fun i j s'' hij hjn hl hp Q kn kx => by
        have hin : i < s.length := by omega
        simp only [slices_DeleteFunc_intint_impl_tiles_f1_s5, Int.ofNat_lt, hjn, inR_cast, hin, Int.toNat_natCast, decide_true, cond_true, hp, Option.isSome_some, Option.getD_some]
        cases q (iget s'' (0 + j)) <;> rfl)
      (fun i s'' Q kn kx => by simp [slices_DeleteFunc_intint_impl_tiles_f1_s5]) (s.length - (j + 1)) j (j + 1) F s (by omega) (by omega) (by omega) rfl (fun x hx => hq x (List.mem_of_mem_drop hx))
    have e : s.filter (fun x => !q x) = s.take j ++ (s.drop (j + 1)).filter (fun x => !q x) := by
      have e1 : s = s.take j ++ s[j] :: s.drop (j + 1) := by rw [← List.drop_eq_getElem_cons hj, List.take_append_drop]
      conv => lhs; rw [e1]
      rw [List.filter_append, List.filter_cons, ← hgj, h3]
      simp only [Bool.not_true, Bool.false_eq_true, if_false]
      rw [filter_allI]
      exact h4
    have el : j + ((s.drop (j + 1)).filter fun x => !q x).length = (s.filter fun x => !q x).length := by
      rw [e, List.length_append, List.length_take, Nat.min_eq_left (Nat.le_of_lt hj)]
    rw [el] at l1 l3
    rw [← e] at l3
    have ll : (s.filter fun x => !q x).length ≤ s.length := List.length_filter_le _ _
    have l1' : slices_DeleteFunc_intint_impl_tiles_f1_l5 F s.length (j : Int) (IntKind.wrap .i64 ((j : Int) + 1)) s = some ((((s.filter fun x => !q x).length : Nat) : Int), s') := by
      rw [wrap_succ (n := s.length) hj (by omega)]
      exact l1
    have hne : ((j : Int) == -1) = false := by
      rw [beq_eq_false_iff_ne]; omega
    simp only [cond_true, Option.getD_some, l1', hne, cond_false, Option.isSome_some, inLe_cast, ll, decide_true, Int.toNat_natCast, Nat.sub_zero]
    refine ⟨_, rfl, rfl, ?_, ?_⟩
    · show (splice s' (0 + _) _ _).take _ = _
      rw [splice_takeI _ _ _ _ (by omega) (by simp), l3]
    · rw [← l2]
      show (splice s' (0 + _) _ _).length = _
      exact splice_lenI _ _ _ (by omega) (by simp)
/-- one tile more: how many tiles lie there, the score, whether the last one was merged, the row -/
abbrev RS := Nat × Int × Bool × List Int
def rstep (s : RS) (x : Int) : RS :=
  bif decide (0 < s.1) && (iget s.2.2.2 (0 + (s.1 - 1) * 1) == x) && decide (x < 17) && !s.2.2.1 then (s.1, IntKind.wrap .i64 (s.2.1 + W (x + 1)), true, iset s.2.2.2 (0 + (s.1 - 1) * 1) (x + 1))
  else (s.1 + 1, s.2.1, false, iset s.2.2.2 (0 + s.1 * 1) x)
def rslide (row : List Int) : RS := (row.filter fun x => !(x == 0)).foldl rstep (0, 0, false, [0, 0, 0, 0])
theorem rstep_n (s : RS) (x : Int) : (rstep s x).1 ≤ s.1 + 1 := by
  unfold rstep
  cases decide (0 < s.1) && (iget s.2.2.2 (0 + (s.1 - 1) * 1) == x) && decide (x < 17) && !s.2.2.1
  · exact Nat.le_refl _
  · exact Nat.le_succ _
/-- a tile of a row -/
def rput (row : List Int) (i : Nat) (s : RS) : RS := bif iget row (0 + i * 1) == 0 then s else rstep s (iget row (0 + i * 1))
theorem fld_rput (row : List Int) (h : row.length = 4) (s : RS) : fld (rput row) 0 4 s = (row.filter fun x => !(x == 0)).foldl rstep s := by
  obtain ⟨a, b, c, d, rfl⟩ := list4 h
  have key : ∀ (x : Int) (l : List Int) (s : RS), ((x :: l).filter fun x => !(x == 0)).foldl rstep s = (l.filter fun x => !(x == 0)).foldl rstep (bif x == 0 then s else rstep s x) := fun x l s => by
    rw [List.filter_cons]
    cases x == 0 <;> rfl
  rw [key, key, key, key]
  rfl
theorem wrap_pred {n : Nat} (h : 0 < n) (h2 : n ≤ 100) : IntKind.wrap .i64 ((n : Int) - 1) = ((n - 1 : Nat) : Int) := by
  rw [wrap_of (by omega) (by omega)]; omega
theorem spec_row (F : Nat) (row : List Int) (h4 : row.length = 4) (hr : ∀ x ∈ row, inB x 0 17 = true) (hF : 1000 < F) : spec_l2Row_p F row = some ((rslide row).2.2.2, (rslide row).2.1) := by
  have hg : ∀ i, i < 4 → inB (iget row (0 + i * 1)) 0 17 = true := fun i hi => by
    rw [igetL, List.getElem?_eq_getElem (by omega)]
    exact hr _ (List.getElem_mem _)
  have h := loop_fold (step := spec_l2Row_s3 F row) (fun i (s : RS) => ((s.1 : Int), s.2.1, s.2.2.1, i, s.2.2.2)) 4 (rput row) (fun s => (s.2.1, s.2.2.2)) (fun i s => s.1 ≤ i) (F := F) (by omega) (by omega) (a := (0, 0, false, [0, 0, 0, 0])) (Nat.le_refl 0)
    (fun i s hi hI => by
      obtain ⟨n, sc, mg, out⟩ := s
      have hI : n ≤ i := hI
      have hx := hg i hi
      have hi' : (i : Int) < 4 := by omega
      have hn4 : n < 4 := by omega
      refine ⟨?_, fun Q kn kx => ?_⟩
      · show (rput row i (n, sc, mg, out)).1 ≤ i + 1
        unfold rput
        cases iget row (0 + i * 1) == 0
        · have := rstep_n (n, sc, mg, out) (iget row (0 + i * 1))
          simp only at this
          simp only [cond_false]
          omega
        · simp only [cond_true]; omega
      · simp only [spec_l2Row_s3, hi', inR_cast, hi, Int.toNat_natCast, decide_true, cond_true, rput, hn4]
        obtain ⟨x, hxe⟩ : ∃ x, x = iget row (0 + i * 1) := ⟨_, rfl⟩
        simp only [← hxe] at hx ⊢
        cases h0 : x == 0 with
        | true => rfl
        | false =>
          have hx0 : x ≠ 0 := by simpa using h0
          have hx1 : 0 ≤ x ∧ x ≤ 17 := by simpa [inB] using hx
          have hsn : IntKind.wrap .i64 ((n : Int) + 1) = ((n + 1 : Nat) : Int) := wrap_succ (n := 4) hn4 (by omega)
          by_cases hn : 0 < n
          · have hn' : (0 : Int) < (n : Int) := by omega
            have hp := wrap_pred hn (by omega)
            have hp4 : n - 1 < 4 := by omega
            simp only [cond_false, hn', decide_true, cond_true, hp, inR_cast, hp4, Int.toNat_natCast, rstep, hn, Bool.true_and, hsn, hn4]
            cases hq : iget out (0 + (n - 1) * 1) == x with
            | false => rfl
            | true =>
              by_cases h17 : x < 17
              · have hw : IntKind.wrap .i64 (x + 1) = x + 1 := wrap_of (by omega) (by omega)
                have hwo : spec_l2Worth_p (x + 1) = some (W (x + 1)) := l2Worth_eq (by simp [inB]; omega) (by omega)
                cases mg with
                | true => simp only [h17, decide_true, cond_true, Bool.not_true, cond_false, Bool.true_and]
                | false => simp only [h17, decide_true, cond_true, Bool.not_false, hw, hwo, Option.isSome_some, Option.getD_some, Bool.true_and]
              · simp only [h17, decide_false, cond_false, cond_true, Bool.and_false, Bool.false_and, Bool.true_and]
          · have hn' : ¬ (0 : Int) < (n : Int) := by omega
            simp only [cond_false, hn', decide_false, cond_true, rstep, hn, Bool.false_and, hsn, inR_cast, hn4, decide_true, Int.toNat_natCast])
    (fun s _ Q kn kx => by simp [spec_l2Row_s3])
  have e : spec_l2Row_l3 F row 0 0 false 0 [0, 0, 0, 0] = some ((rslide row).2.1, (rslide row).2.2.2) := by
    refine h.1.trans ?_
    rw [fld_rput row h4]; rfl
  simp only [spec_l2Row_p, spec_l2Row_c, e, Option.isSome_some, Option.getD_some, cond_true]
theorem bsetL (xs : List Bool) (n : Nat) (x : Bool) : bset xs n x = xs.set n x := by
  induction xs generalizing n with
  | nil => cases n <;> rfl
  | cons a r ih => cases n with
    | zero => rfl
    | succ n => simp only [bset, ih, List.set_cons_succ]
theorem bgetL (xs : List Bool) (n : Nat) : bget xs n = xs[n]?.getD false := by
  induction xs generalizing n with
  | nil => cases n <;> rfl
  | cons a r ih => cases n with
    | zero => rfl
    | succ n => simp only [bget, ih, List.getElem?_cons_succ]
theorem fld_list (l : List Int) (g : RS → Int → RS) : ∀ (m i : Nat) (s : RS), i + m = l.length → fld (fun i s => g s (iget l (0 + i))) i m s = (l.drop i).foldl g s
  | 0, i, s, h => by rw [List.drop_eq_nil_of_le (by omega)]; rfl
  | m + 1, i, s, h => by
    have hi : i < l.length := by omega
    rw [fld, fld_list l g m (i + 1) _ (by omega), List.drop_eq_getElem_cons hi, List.foldl_cons, Nat.zero_add, igetL, List.getElem?_eq_getElem hi]
    rfl
theorem impl_row (F : Nat) (row : List Int) (h4 : row.length = 4) (hr : ∀ x ∈ row, inB x 0 17 = true) (hF : 1000 < F) : ∃ mg, impl_slideRow_p F row = some ((rslide row).2.2.2, (rslide row).2.1, mg) := by
  have hs4 : sub row 0 4 = row := by obtain ⟨a, b, c, d, rfl⟩ := list4 h4; rfl
  obtain ⟨r, d1, d2⟩ := DeleteFunc_tiles F row (fun x => x == 0) (by omega) hF (fun x _ => rfl)
  have ht : impl_tiles_p F row = some r := by
    have hf : fits row.length 8 = true := fits_of (by omega) (by omega)
    simp only [impl_tiles_p, impl_tiles_c, hs4, d1, hf, Option.isSome_some, Option.getD_some, cond_true, beq_selfL, Bool.and_self]
  obtain ⟨m, mem⟩ := r
  have hm : m = (row.filter fun x => !(x == 0)).length := d2.1
  have hl : ∀ i, i < m → iget mem (0 + i) = iget (row.filter fun x => !(x == 0)) i := fun i hi => d2.get hi
  have hm4 : m ≤ 4 := by rw [hm, ← h4]; exact List.length_filter_le _ _
  have hx : ∀ i, i < m → inB (iget (row.filter fun x => !(x == 0)) i) 1 17 = true := fun i hi => by
    have hm : iget (row.filter fun x => !(x == 0)) i ∈ row.filter fun x => !(x == 0) := by
      rw [igetL, List.getElem?_eq_getElem (by omega)]
      exact List.getElem_mem _
    generalize iget (row.filter fun x => !(x == 0)) i = y at hm ⊢
    have this := List.mem_filter.1 hm
    have h1 := hr _ this.1
    have h2 : y ≠ 0 := by simpa using this.2
    simp [inB] at h1
    show inB y 1 17 = true
    simp [inB]
    omega
  have h := loop_fold (step := impl_slideRow_s3 F m m mem) (fun i (s : RS × List Bool) => (s.1.2.1, (s.1.1 : Int), i, s.1.2.2.2, s.2)) m
    (fun i s => (rstep s.1 (iget (row.filter fun x => !(x == 0)) i), bif decide (0 < s.1.1) && (iget s.1.2.2.2 (0 + (s.1.1 - 1) * 1) == iget (row.filter fun x => !(x == 0)) i) && decide (iget (row.filter fun x => !(x == 0)) i < 17) && !s.1.2.2.1 then bset s.2 (0 + (s.1.1 - 1) * 1) true else s.2)) (fun s => (s.1.2.1, s.1.2.2.2, s.2))
    (fun i s => s.1.1 ≤ i ∧ s.2.length = 4 ∧ (0 < s.1.1 → bget s.2 (0 + (s.1.1 - 1) * 1) = s.1.2.2.1) ∧ ∀ j, s.1.1 ≤ j → bget s.2 j = false) (F := F) (by omega) (by omega) (a := ((0, 0, false, [0, 0, 0, 0]), [false, false, false, false]))
    ⟨Nat.le_refl 0, rfl, fun h => absurd h (by decide), fun j _ => by rw [bgetL]; rcases j with _ | _ | _ | _ | j <;> simp⟩
    (fun i s hi hI => by
      obtain ⟨⟨n, sc, mg, out⟩, ms⟩ := s
      obtain ⟨i1, i2, i3, i4⟩ := hI
      simp only at i1 i2 i3 i4 ⊢
      have hxi := hx i hi
      have hi' : (i : Int) < (m : Int) := by omega
      have hn4 : n < 4 := by omega
      have hsn : IntKind.wrap .i64 ((n : Int) + 1) = ((n + 1 : Nat) : Int) := wrap_succ (n := 4) hn4 (by omega)
      simp only [impl_slideRow_s3, hi', inR_cast, hi, Int.toNat_natCast, decide_true, cond_true, hl i hi, hn4]
      generalize iget (row.filter fun x => !(x == 0)) i = x at hxi ⊢
      have hx1 : 1 ≤ x ∧ x ≤ 17 := by simpa [inB] using hxi
      have push : (n + 1 ≤ i + 1 ∧ ms.length = 4 ∧ (0 < n + 1 → bget ms (0 + (n + 1 - 1) * 1) = false) ∧ ∀ j, n + 1 ≤ j → bget ms j = false) := ⟨by omega, i2, fun _ => i4 _ (by omega), fun j hj => i4 j (by omega)⟩
      by_cases hn : 0 < n
      · have hn' : (0 : Int) < (n : Int) := by omega
        have hp := wrap_pred hn (by omega)
        have hp4 : n - 1 < 4 := by omega
        have hmg := i3 hn
        simp only [hn', decide_true, cond_true, hp, inR_cast, hp4, Int.toNat_natCast, rstep, hn, Bool.true_and, hsn, hn4, hmg]
        cases hq : iget out (0 + (n - 1) * 1) == x with
        | false => exact ⟨push, fun Q kn kx => by first | rfl | trivial⟩
        | true =>
          by_cases h17 : x < 17
          · have hw : IntKind.wrap .i64 (x + 1) = x + 1 := wrap_of (by omega) (by omega)
            have hwo : impl_worth_p (x + 1) = some (W (x + 1)) := worth_eq (by simp [inB]; omega)
            cases mg with
            | true =>
              simp only [h17, decide_true, cond_true, Bool.not_true, cond_false, Bool.true_and]
              exact ⟨push, fun Q kn kx => by first | rfl | trivial⟩
            | false =>
              simp only [h17, decide_true, cond_true, Bool.not_false, hw, hwo, Option.isSome_some, Option.getD_some, Bool.true_and]
              refine ⟨⟨by omega, by rw [bsetL]; simpa using i2, fun _ => ?_, fun j hj => ?_⟩, fun Q kn kx => by first | rfl | trivial⟩
              · rw [bsetL, bgetL, List.getElem?_set_self (by omega)]; rfl
              · rw [bsetL, bgetL, List.getElem?_set_ne (by omega), ← bgetL]
                exact i4 j hj
          · simp only [h17, decide_false, cond_false, cond_true, Bool.and_false, Bool.false_and, Bool.true_and]
            exact ⟨push, fun Q kn kx => by first | rfl | trivial⟩
      · have hn' : ¬ (0 : Int) < (n : Int) := by omega
        simp only [cond_false, hn', decide_false, cond_true, rstep, hn, Bool.false_and, hsn, inR_cast, hn4, decide_true, Int.toNat_natCast]
        exact ⟨push, fun Q kn kx => by first | rfl | trivial⟩)
    (fun s _ Q kn kx => by simp [impl_slideRow_s3])
  have hf : ∀ (k i : Nat) (s : RS) (ms : List Bool), (fld (fun i (s : RS × List Bool) => (rstep s.1 (iget (row.filter fun x => !(x == 0)) i), bif decide (0 < s.1.1) && (iget s.1.2.2.2 (0 + (s.1.1 - 1) * 1) == iget (row.filter fun x => !(x == 0)) i) && decide (iget (row.filter fun x => !(x == 0)) i < 17) && !s.1.2.2.1 then bset s.2 (0 + (s.1.1 - 1) * 1) true else s.2)) i k (s, ms)).1 = fld (fun i s => rstep s (iget (row.filter fun x => !(x == 0)) (0 + i))) i k s := by
    intro k
    induction k with
    | zero => intro i s ms; rfl
    | succ k ih =>
      intro i s ms
      simp only [fld]
      rw [ih, Nat.zero_add]
  obtain ⟨r, e, hr2⟩ : ∃ r : RS × List Bool, impl_slideRow_l3 F m m mem 0 0 0 [0, 0, 0, 0] [false, false, false, false] = some (r.1.2.1, r.1.2.2.2, r.2) ∧ r.1 = rslide row :=
    ⟨_, h.1, by
      rw [hf, fld_list (row.filter fun x => !(x == 0)) rstep m 0 _ (by omega), List.drop_zero]
      rfl⟩
  rw [hr2] at e
  exact ⟨r.2, by simp only [impl_slideRow_p, impl_slideRow_c, ht, e, Option.isSome_some, Option.getD_some, cond_true]⟩
end Go.Lv.P

namespace Go.Lv.P
open Go Go.Lv
section
variable {c : List Int} (hc : Byt c) (F : Nat) (hF : 1000 < F)
include hc hF
theorem tight_in {n : Nat} (hn : n ≤ 800000000) {r : Nat} (hr : r < 4) {a s : Int} (h : Cur n a) {b : List Int} (hb : b.length = 16) : ∃ (a' s' : Int) (b' : List Int), spec_l1Cur_tight_l8 F r c 0 a s b = some (a', s', b') ∧ b'.length = 16 ∧ Cur (n + 16) a' := by
  obtain ⟨⟨a', s', b'⟩, ⟨g1, g2⟩, g3⟩ := loop_ex (step := spec_l1Cur_tight_s8 F r c) (fun i (x : Int × Int × List Int) => (i, x.1, x.2.1, x.2.2)) 4 (fun x => x) (fun i x => Cur (n + 4 * i) x.1 ∧ x.2.2.length = 16) (F := F) (by omega) (by omega)
    (fun i x hi ⟨h1, h2⟩ => by
      obtain ⟨xa, xs, xb⟩ := x
      have hi' : (i : Int) < 4 := by omega
      obtain ⟨v4, a4, s4, e4, _, c4⟩ := pick_ok hc (by omega) (q := 2) (by decide) (by decide) h1 (s := xs)
      obtain ⟨v5, a5, s5, e5, _, c5⟩ := pick_ok hc (by omega) (q := 9) (by decide) (by decide) c4 (s := s4)
      have q2 : ((2 : Nat) : Int) = 2 := rfl
      have q9 : ((9 : Nat) : Int) = 9 := rfl
      rw [q2] at e4
      rw [q9] at e5
      exact ⟨(a5, s5, _), ⟨c5.mono (by omega), iset_len16 h2 _ _⟩, fun Q kn kx => by simp only [spec_l1Cur_tight_s8, hi', hi, hr, inR_cast, e4, e5, Option.isSome_some, Option.getD_some, decide_true, cond_true]; rfl⟩)
    (fun x _ Q kn kx => by simp [spec_l1Cur_tight_s8]) (a := (a, s, b)) ⟨h, hb⟩
  exact ⟨a', s', b', g3, g2, g1⟩
theorem tight_all {n : Nat} (hn : n ≤ 700000000) {a s : Int} (h : Cur n a) {b : List Int} (hb : b.length = 16) : ∃ (a' s' : Int) (b' : List Int), spec_l1Cur_tight_l5 F c 0 a s b = some (a', s', b') ∧ b'.length = 16 ∧ Cur (n + 64) a' := by
  obtain ⟨⟨a', s', b'⟩, ⟨g1, g2⟩, g3⟩ := loop_ex (step := spec_l1Cur_tight_s5 F c) (fun i (x : Int × Int × List Int) => (i, x.1, x.2.1, x.2.2)) 4 (fun x => x) (fun i x => Cur (n + 16 * i) x.1 ∧ x.2.2.length = 16) (F := F) (by omega) (by omega)
    (fun i x hi ⟨h1, h2⟩ => by
      obtain ⟨xa, xs, xb⟩ := x
      have hi' : (i : Int) < 4 := by omega
      obtain ⟨a', s', b', e, l, c1⟩ := tight_in hc F hF (by omega) hi h1 h2 (s := xs)
      exact ⟨(a', s', b'), ⟨c1.mono (by omega), l⟩, fun Q kn kx => by simp only [spec_l1Cur_tight_s5, hi', e, Option.isSome_some, Option.getD_some, decide_true, cond_true]⟩)
    (fun x _ Q kn kx => by simp [spec_l1Cur_tight_s5]) (a := (a, s, b)) ⟨h, hb⟩
  exact ⟨a', s', b', g3, g2, g1⟩
theorem holes_ok : ∀ (k G n : Nat), k < G → n + 4 * k ≤ 800000000 → ∀ (a s : Int) (b : List Int), Cur n a → b.length = 16 → ∃ (a' s' : Int) (b' : List Int), loopC (spec_l1Cur_tight_s12 F c) G ((k : Int), a, s, b) some = some (a', s', b') ∧ b'.length = 16 ∧ Cur (n + 4 * k) a'
  | 0, G, n, hG, hn, a, s, b, h, hb => by
    obtain ⟨G, rfl⟩ : ∃ G', G = G' + 1 := ⟨G - 1, by omega⟩
    exact ⟨a, s, b, rfl, hb, h⟩
  | k + 1, G, n, hG, hn, a, s, b, h, hb => by
    obtain ⟨G, rfl⟩ : ∃ G', G = G' + 1 := ⟨G - 1, by omega⟩
    obtain ⟨v4, a4, s4, e4, g4, c4⟩ := pick_ok hc (by omega) (q := 4) (by decide) (by decide) h (s := s)
    obtain ⟨v5, a5, s5, e5, g5, c5⟩ := pick_ok hc (by omega) (q := 4) (by decide) (by decide) c4 (s := s4)
    have q4 : ((4 : Nat) : Int) = 4 := rfl
    rw [q4] at e4 e5
    have hp : decide ((0 : Int) < ((k + 1 : Nat) : Int)) = true := decide_eq_true (by omega)
    have hw : IntKind.wrap .i64 (((k + 1 : Nat) : Int) - 1) = ((k : Nat) : Int) := by
      by_cases hk : k ≤ 200000000
      · rw [wrap_of (by omega) (by omega)]; omega
      · omega
    obtain ⟨a', s', b', e, l, cc⟩ := holes_ok k G (n + 2 + 2) (by omega) (by omega) a5 s5 (iset b (0 + (v4 : Int).toNat * 4 + (v5 : Int).toNat * 1) 0) c5 (iset_len16 hb _ _)
    refine ⟨a', s', b', ?_, l, cc.mono (by omega)⟩
    rw [← e]
    show spec_l1Cur_tight_s12 F c _ _ _ _ = _
    simp only [spec_l1Cur_tight_s12, hp, cond_true, e4, e5, inR_cast, g4, g5, decide_true, hw, Option.isSome_some, Option.getD_some]
theorem tight_ok {n : Nat} (hn : n ≤ 500000000) {a s : Int} (h : Cur n a) : ∃ (b : List Int) (a' s' : Int), spec_l1Cur_tight_p F c a s = some (b, a', s') ∧ b.length = 16 ∧ Cur (n + 400) a' := by
  obtain ⟨f1, a1, s1, e1, c1⟩ := one_ok hc (by omega) (q := 6) (by decide) (by decide) h (s := s)
  obtain ⟨b2, a2, s2, e2, l2, c2⟩ := board_ok hc F hF (by omega) c1 (s := s1)
  obtain ⟨a3, s3, b3, e3, l3, c3⟩ := tight_all hc F hF (by omega) c1 (s := s1) (b := [0, 0, 0, 0, 0, 0, 0, 0, 0, 0, 0, 0, 0, 0, 0, 0]) rfl
  obtain ⟨v4, a4, s4, e4, g4, c4⟩ := pick_ok hc (by omega) (q := 4) (by decide) (by decide) c3 (s := s3)
  obtain ⟨a5, s5, b5, e5, l5, c5⟩ := holes_ok hc F hF v4 F (n + 2 + 64 + 2) (by omega) (by omega) a4 s4 b3 c4 l3
  have e5 : spec_l1Cur_tight_l12 F c (v4 : Int) a4 s4 b3 = some (a5, s5, b5) := e5
  have c5 : Cur (n + 84) a5 := c5.mono (by omega)
  obtain ⟨f6, a6, s6, e6, c6⟩ := one_ok hc (by omega) (q := 3) (by decide) (by decide) c5 (s := s5)
  obtain ⟨v7, a7, s7, e7, g7, c7⟩ := pick_ok hc (by omega) (q := 4) (by decide) (by decide) c6 (s := s6)
  obtain ⟨v8, a8, s8, e8, g8, c8⟩ := pick_ok hc (by omega) (q := 4) (by decide) (by decide) c7 (s := s7)
  have q3 : ((3 : Nat) : Int) = 3 := rfl
  have q4 : ((4 : Nat) : Int) = 4 := rfl
  have q6 : ((6 : Nat) : Int) = 6 := rfl
  rw [q6] at e1
  rw [q4] at e4 e7 e8
  rw [q3] at e6
  simp only [spec_l1Cur_tight_p, spec_l1Cur_tight_c, e1, e2, e3, e4, e5, e6, e7, e8, Option.isSome_some, Option.getD_some, cond_true, inR_cast, g7, g8, decide_true]
  cases f1 with
  | true => exact ⟨_, _, _, rfl, l2, c2.mono (by omega)⟩
  | false =>
    cases f6 with
    | true => exact ⟨_, _, _, rfl, iset_len16 l5 _ _, c8.mono (by omega)⟩
    | false => exact ⟨_, _, _, rfl, l5, c6.mono (by omega)⟩
end
end Go.Lv.P

namespace Go.Lv.P
open Go Go.Lv
theorem empty_f1 (b : List Int) : ∀ x ∈ cells16, impl_Board_empty_f1_p x b = some (!(iget b (plc x) == 0)) :=
  cells_all fun r c hr hc => by
    have e : impl_Board_at_p [(r : Int), (c : Int)] b = some (plc [(r : Int), (c : Int)]) := by
      simp only [impl_Board_at_p, impl_Board_at_c, show iget [(r : Int), (c : Int)] 0 = r from rfl, show iget [(r : Int), (c : Int)] 1 = c from rfl, inR_cast, hr, hc, decide_true, cond_true, plc]
    simp only [impl_Board_empty_f1_p, impl_Board_empty_f1_c, e, Option.isSome_some, Option.getD_some, cond_true]
theorem DeleteFunc_empty (F : Nat) (s : LL) (b : List Int) (q : List Int → Bool) (hs : s.length ≤ 1000) (hF : 1000 < F) (hq : ∀ x ∈ s, impl_Board_empty_f1_p x b = some (q x)) :
    ∃ r, slices_DeleteFunc_2int2int_impl_Board_empty_f1_p F s b = some r ∧ Deleted s q r := by
  have hg : ∀ i, i < s.length → impl_Board_empty_f1_p (rget s i) b = some (q (rget s i)) := fun i hi => by
    refine hq _ ?_
    rw [rgetL, List.getElem?_eq_getElem hi]
    exact List.getElem_mem hi
  have h1 : slices_IndexFunc_2int2int_impl_Board_empty_f1_l2 F s s.length b 0 = some (fnd (fun i => q (rget s i)) (fun i => (true, (i : Int))) (false, default) 0 s.length) := by
    refine loop_find (fun i => i) s.length _ _ _ (by omega) (by omega) (fun i hi Q kn kx => ?_) fun Q kn kx => ?_
    · simp only [slices_IndexFunc_2int2int_impl_Board_empty_f1_s2, inR_cast, hi, hg i hi, Int.toNat_natCast, decide_true, cond_true, Int.ofNat_lt, Option.isSome_some, Option.getD_some]
    · simp [slices_IndexFunc_2int2int_impl_Board_empty_f1_s2]
  simp only [slices_DeleteFunc_2int2int_impl_Board_empty_f1_p, slices_DeleteFunc_2int2int_impl_Board_empty_f1_c, slices_IndexFunc_2int2int_impl_Board_empty_f1_p, slices_IndexFunc_2int2int_impl_Board_empty_f1_c, subn_self, h1, Option.isSome_some, Option.getD_some, cond_true]
  rcases fnd_split s q s.length 0 (by omega) (by simp) with ⟨h2, h3⟩ | ⟨j, hj, h2, h3, h4⟩
  · rw [h2]
    refine ⟨(s.length, s), rfl, ?_⟩
    have e := filter_all (q := q) h3
    exact ⟨by rw [e], by rw [e]; exact List.take_length, rfl⟩
  · rw [h2]
    have hgj : rget s j = s[j] := by rw [rgetL, List.getElem?_eq_getElem hj]; rfl
    obtain ⟨s', l1, l2, l3⟩ := delete_loop (step := slices_DeleteFunc_2int2int_impl_Board_empty_f1_s5 F s.length b) q (fun x => impl_Board_empty_f1_p x b = some (q x)) s.length (by omega)
      (fun i j s'' hij hjn hl hp Q kn kx => by
        have hin : i < s.length := by omega
        simp only [slices_DeleteFunc_2int2int_impl_Board_empty_f1_s5, Int.ofNat_lt, hjn, inR_cast, hin, Int.toNat_natCast, decide_true, cond_true, hp, Option.isSome_some, Option.getD_some]
        cases q (rget s'' (0 + j)) <;> rfl)
      (fun i s'' Q kn kx => by simp [slices_DeleteFunc_2int2int_impl_Board_empty_f1_s5]) (s.length - (j + 1)) j (j + 1) F s (by omega) (by omega) (by omega) rfl (fun x hx => hq x (List.mem_of_mem_drop hx))
    have e : s.filter (fun x => !q x) = s.take j ++ (s.drop (j + 1)).filter (fun x => !q x) := by
      have e1 : s = s.take j ++ s[j] :: s.drop (j + 1) := by rw [← List.drop_eq_getElem_cons hj, List.take_append_drop]
      conv => lhs; rw [e1]
      rw [List.filter_append, List.filter_cons, ← hgj, h3]
      simp only [Bool.not_true, Bool.false_eq_true, if_false]
      rw [filter_all]
      exact h4
    have el : j + ((s.drop (j + 1)).filter fun x => !q x).length = (s.filter fun x => !q x).length := by
      rw [e, List.length_append, List.length_take, Nat.min_eq_left (Nat.le_of_lt hj)]
    rw [el] at l1 l3
    rw [← e] at l3
    have ll : (s.filter fun x => !q x).length ≤ s.length := List.length_filter_le _ _
    have l1' : slices_DeleteFunc_2int2int_impl_Board_empty_f1_l5 F s.length b (j : Int) (IntKind.wrap .i64 ((j : Int) + 1)) s = some ((((s.filter fun x => !q x).length : Nat) : Int), s') := by
      rw [wrap_succ (n := s.length) hj (by omega)]
      exact l1
    have hne : ((j : Int) == -1) = false := by
      rw [beq_eq_false_iff_ne]; omega
    simp only [cond_true, Option.getD_some, l1', hne, cond_false, Option.isSome_some, inLe_cast, ll, decide_true, Int.toNat_natCast, Nat.sub_zero]
    refine ⟨_, rfl, rfl, ?_, ?_⟩
    · show (splice s' (0 + _) _ _).take _ = _
      rw [splice_take _ _ _ _ (by omega) (by simp), l3]
    · rw [← l2]
      show (splice s' (0 + _) _ _).length = _
      exact splice_len' _ _ _ (by omega) (by simp)
theorem impl_empty_eq (F : Nat) (b : List Int) (hF : 1000 < F) : ∃ r, impl_Board_empty_p F b = some r ∧ Deleted cells16 (fun c => !(iget b (plc c) == 0)) r := by
  obtain ⟨r, h1, h2⟩ := DeleteFunc_empty F cells16 b (fun c => !(iget b (plc c) == 0)) (by decide) hF (empty_f1 b)
  exact ⟨r, by simp only [impl_Board_empty_p, impl_Board_empty_c, h1, Option.isSome_some, Option.getD_some, cond_true], h2⟩
end Go.Lv.P

namespace Go.Lv.P
open Go Go.Lv
theorem spec_empty_eq (F : Nat) (b : List Int) (hF : 1000 < F) : spec_l2Empty_p F b = some (em b) := by
  let hc : Nat → Nat → LL := fun r c => bif iget b (0 + r * 4 + c * 1) == 0 then [[(r : Int), (c : Int)]] else []
  have hc1 : ∀ r c, (hc r c).length ≤ 1 := fun r c => by
    show (bif iget b (0 + r * 4 + c * 1) == 0 then [[(r : Int), (c : Int)]] else [] : LL).length ≤ 1
    cases iget b (0 + r * 4 + c * 1) == 0 <;> simp
  have hin : ∀ (r : Nat) (out : LL), r < 4 → out.length ≤ 100 → spec_l2Empty_l6 F r b 0 out = some (out ++ (List.range' 0 4).flatMap (hc r)) := fun r out hr ho => by
    rw [← fld_add]
    refine (loop_fold (step := spec_l2Empty_s6 F r b) (fun i a => (i, a)) 4 (fun i a => a ++ hc r i) (fun a => a) (fun i a => a.length ≤ 100 + i) (F := F) (by omega) (by omega) (a := out) (by omega) (fun i a hi hI => ⟨?_, fun Q kn kx => ?_⟩) (fun a _ Q kn kx => by simp [spec_l2Empty_s6])).1
    · have := hc1 r i
      simp only [List.length_append]
      omega
    · have hi' : (i : Int) < 4 := by omega
      have hf : fits (a ++ [[(r : Int), (i : Int)]]).length 16 = true := fits_of (by simp; omega) (by simp; omega)
      simp only [spec_l2Empty_s6, hi', inR_cast, hi, hr, Int.toNat_natCast, decide_true, cond_true, subn_self, hf, hc]
      cases iget b (0 + r * 4 + i * 1) == 0
      · simp only [cond_false, List.append_nil]
      · rfl
  have hout : spec_l2Empty_l3 F b 0 [] = some ([] ++ (List.range' 0 4).flatMap fun r => (List.range' 0 4).flatMap (hc r)) := by
    rw [← fld_add]
    refine (loop_fold (step := spec_l2Empty_s3 F b) (fun i a => (i, a)) 4 (fun r a => a ++ (List.range' 0 4).flatMap (hc r)) (fun a => a) (fun i a => a.length ≤ 4 * i) (F := F) (by omega) (by omega) (a := []) (by simp) (fun i a hi hI => ⟨?_, fun Q kn kx => ?_⟩) (fun a _ Q kn kx => by simp [spec_l2Empty_s3])).1
    · have := flat_len (hc1 i) 4 0
      simp only [List.length_append]
      omega
    · have hi' : (i : Int) < 4 := by omega
      simp only [spec_l2Empty_s3, hi', decide_true, cond_true, hin i a hi (by omega), beq_selfL, Option.isSome_some, Option.getD_some, Bool.and_self]
  simp only [spec_l2Empty_p, spec_l2Empty_c, hout, Option.isSome_some, Option.getD_some, cond_true]
  congr 1
  rw [em, filter_flatMap]
  simp only [List.range'_succ, List.range'_zero, List.flatMap_cons, List.flatMap_nil, List.append_nil, List.nil_append, List.append_assoc, hc, cells16]
  rfl
end Go.Lv.P

namespace Go.Lv.P
open Go Go.Lv
set_option maxRecDepth 100000
/-- the place in a board of the cell k of the line i, as a slide looks at it -/
def plcD (d i k : Nat) : Nat :=
  match d with
  | 0 => i * 4 + k
  | 1 => k * 4 + i
  | 2 => i * 4 + (3 - k)
  | _ => (3 - k) * 4 + i
def crd (d i : Nat) : List Int := [0, 1, 2, 3].flatMap fun k => [((plcD d i k / 4 : Nat) : Int), ((plcD d i k % 4 : Nat) : Int)]
def lineB (b : List Int) (d i : Nat) : List Int := [iget b (plcD d i 0), iget b (plcD d i 1), iget b (plcD d i 2), iget b (plcD d i 3)]
def putB (b : List Int) (d i : Nat) (row : List Int) : List Int := iset (iset (iset (iset b (plcD d i 0) (iget row 0)) (plcD d i 1) (iget row 1)) (plcD d i 2) (iget row 2)) (plcD d i 3) (iget row 3)
def sstep (b : List Int) (d i : Nat) (s : List Int × Int) : List Int × Int := (putB s.1 d i (rslide (lineB b d i)).2.2.2, IntKind.wrap .i64 (s.2 + (rslide (lineB b d i)).2.1))
/-- the board behind a slide, and the score -/
def slideB (b : List Int) (d : Nat) : List Int × Int := fld (sstep b d) 0 4 (b, 0)
theorem plcD_lt {d i k : Nat} (hd : d < 4) (hi : i < 4) (hk : k < 4) : plcD d i k < 16 := by
  obtain rfl | rfl | rfl | rfl : d = 0 ∨ d = 1 ∨ d = 2 ∨ d = 3 := by omega
  all_goals (simp only [plcD]; omega)
theorem impl_line (b : List Int) {d i : Nat} (hd : d < 4) (hi : i < 4) : impl_Board_line_p b d i = some (lineB b d i) := by
  obtain rfl | rfl | rfl | rfl : d = 0 ∨ d = 1 ∨ d = 2 ∨ d = 3 := by omega
  all_goals
    obtain rfl | rfl | rfl | rfl : i = 0 ∨ i = 1 ∨ i = 2 ∨ i = 3 := by omega
    all_goals rfl
theorem impl_with (b row : List Int) {d i : Nat} (hd : d < 4) (hi : i < 4) : impl_Board_withLine_p b d i row = some (putB b d i row) := by
  obtain rfl | rfl | rfl | rfl : d = 0 ∨ d = 1 ∨ d = 2 ∨ d = 3 := by omega
  all_goals
    obtain rfl | rfl | rfl | rfl : i = 0 ∨ i = 1 ∨ i = 2 ∨ i = 3 := by omega
    all_goals rfl
theorem spec_line (G : Nat) {d i : Nat} (hd : d < 4) (hi : i < 4) : spec_l2Line_p (G + 1001) d i = some (crd d i) := by
  obtain rfl | rfl | rfl | rfl : d = 0 ∨ d = 1 ∨ d = 2 ∨ d = 3 := by omega
  all_goals
    obtain rfl | rfl | rfl | rfl : i = 0 ∨ i = 1 ∨ i = 2 ∨ i = 3 := by omega
    all_goals kernel_rfl
theorem spec_nums (G : Nat) (b : List Int) {d i : Nat} (hd : d < 4) (hi : i < 4) : spec_l2Numbers_p (G + 1001) b d i = some (lineB b d i) := by
  obtain rfl | rfl | rfl | rfl : d = 0 ∨ d = 1 ∨ d = 2 ∨ d = 3 := by omega
  all_goals
    obtain rfl | rfl | rfl | rfl : i = 0 ∨ i = 1 ∨ i = 2 ∨ i = 3 := by omega
    all_goals kernel_rfl
theorem put_line0 (out : List Int) (x : Int) {d i : Nat} (hd : d < 4) (hi : i < 4) : spec_l2Put_p out (sub (crd d i) 0 2) x = some (iset out (plcD d i 0) x) := by
  obtain rfl | rfl | rfl | rfl : d = 0 ∨ d = 1 ∨ d = 2 ∨ d = 3 := by omega
  all_goals
    obtain rfl | rfl | rfl | rfl : i = 0 ∨ i = 1 ∨ i = 2 ∨ i = 3 := by omega
    all_goals kernel_rfl
theorem put_line1 (out : List Int) (x : Int) {d i : Nat} (hd : d < 4) (hi : i < 4) : spec_l2Put_p out (sub (crd d i) 2 2) x = some (iset out (plcD d i 1) x) := by
  obtain rfl | rfl | rfl | rfl : d = 0 ∨ d = 1 ∨ d = 2 ∨ d = 3 := by omega
  all_goals
    obtain rfl | rfl | rfl | rfl : i = 0 ∨ i = 1 ∨ i = 2 ∨ i = 3 := by omega
    all_goals kernel_rfl
theorem put_line2 (out : List Int) (x : Int) {d i : Nat} (hd : d < 4) (hi : i < 4) : spec_l2Put_p out (sub (crd d i) 4 2) x = some (iset out (plcD d i 2) x) := by
  obtain rfl | rfl | rfl | rfl : d = 0 ∨ d = 1 ∨ d = 2 ∨ d = 3 := by omega
  all_goals
    obtain rfl | rfl | rfl | rfl : i = 0 ∨ i = 1 ∨ i = 2 ∨ i = 3 := by omega
    all_goals kernel_rfl
theorem put_line3 (out : List Int) (x : Int) {d i : Nat} (hd : d < 4) (hi : i < 4) : spec_l2Put_p out (sub (crd d i) 6 2) x = some (iset out (plcD d i 3) x) := by
  obtain rfl | rfl | rfl | rfl : d = 0 ∨ d = 1 ∨ d = 2 ∨ d = 3 := by omega
  all_goals
    obtain rfl | rfl | rfl | rfl : i = 0 ∨ i = 1 ∨ i = 2 ∨ i = 3 := by omega
    all_goals kernel_rfl
theorem iset_len (l : List Int) (i : Nat) (x : Int) : (iset l i x).length = l.length := by rw [isetL, List.length_set]
theorem iset_all {p : Int → Prop} {l : List Int} (h : ∀ y ∈ l, p y) (i : Nat) {x : Int} (hx : p x) : ∀ y ∈ iset l i x, p y := by
  rw [isetL]
  intro y hy
  rcases List.mem_or_eq_of_mem_set hy with hy | rfl
  · exact h y hy
  · exact hx
abbrev tileOK (x : Int) : Prop := inB x 0 17 = true
theorem rstep_ok {s : RS} {x : Int} (hx : inB x 1 17 = true) (h : s.2.2.2.length = 4 ∧ ∀ y ∈ s.2.2.2, tileOK y) : (rstep s x).2.2.2.length = 4 ∧ ∀ y ∈ (rstep s x).2.2.2, tileOK y := by
  have hx1 : 1 ≤ x ∧ x ≤ 17 := by simpa [inB] using hx
  unfold rstep
  cases h17 : decide (x < 17) with
  | false =>
    simp only [Bool.and_false, Bool.false_and, cond_false]
    exact ⟨by rw [iset_len]; exact h.1, iset_all h.2 _ (by simp [tileOK, inB]; omega)⟩
  | true =>
    have h17 := of_decide_eq_true h17
    cases decide (0 < s.1) && (iget s.2.2.2 (0 + (s.1 - 1) * 1) == x) && true && !s.2.2.1
    · exact ⟨by simp only [cond_false]; rw [iset_len]; exact h.1, iset_all h.2 _ (by simp [tileOK, inB]; omega)⟩
    · exact ⟨by simp only [cond_true]; rw [iset_len]; exact h.1, iset_all h.2 _ (by simp [tileOK, inB]; omega)⟩
theorem rfold_ok : ∀ (l : List Int) (s : RS), (∀ x ∈ l, inB x 1 17 = true) → (s.2.2.2.length = 4 ∧ ∀ y ∈ s.2.2.2, tileOK y) → ((l.foldl rstep s).2.2.2.length = 4 ∧ ∀ y ∈ (l.foldl rstep s).2.2.2, tileOK y)
  | [], s, _, h => h
  | x :: r, s, hl, h => rfold_ok r (rstep s x) (fun y hy => hl y (List.mem_cons_of_mem _ hy)) (rstep_ok (hl x List.mem_cons_self) h)
theorem rslide_ok {row : List Int} (hr : ∀ x ∈ row, tileOK x) : (rslide row).2.2.2.length = 4 ∧ ∀ y ∈ (rslide row).2.2.2, tileOK y := by
  refine rfold_ok _ _ (fun x hx => ?_) ⟨rfl, by decide⟩
  rw [List.mem_filter] at hx
  have h1 := hr x hx.1
  have h2 : x ≠ 0 := by simpa using hx.2
  simp [tileOK, inB] at h1
  simp [inB]
  omega
theorem okB_iff (b : List Int) : okB b = true ↔ ∀ x ∈ b, tileOK x := by simp [okB, tileOK]
theorem iget_ok {b : List Int} {n : Nat} (h : ∀ x ∈ b, tileOK x) (hn : n < b.length) : tileOK (iget b n) := by
  rw [igetL, List.getElem?_eq_getElem hn]
  exact h _ (List.getElem_mem _)
theorem line_ok {b : List Int} (hb : b.length = 16) (ok : ∀ x ∈ b, tileOK x) {d i : Nat} (hd : d < 4) (hi : i < 4) : ∀ x ∈ lineB b d i, tileOK x := by
  have h : ∀ k, k < 4 → tileOK (iget b (plcD d i k)) := fun k hk => iget_ok ok (by rw [hb]; exact plcD_lt hd hi hk)
  intro x hx
  simp only [lineB, List.mem_cons, List.not_mem_nil, or_false] at hx
  rcases hx with rfl | rfl | rfl | rfl
  · exact h 0 (by omega)
  · exact h 1 (by omega)
  · exact h 2 (by omega)
  · exact h 3 (by omega)
theorem put_ok {b row : List Int} (hb : b.length = 16 ∧ ∀ x ∈ b, tileOK x) (hr : row.length = 4 ∧ ∀ x ∈ row, tileOK x) (d i : Nat) : (putB b d i row).length = 16 ∧ ∀ x ∈ putB b d i row, tileOK x := by
  have h : ∀ k, k < 4 → tileOK (iget row k) := fun k hk => iget_ok hr.2 (by omega)
  refine ⟨by simp only [putB, iset_len]; exact hb.1, ?_⟩
  exact iset_all (iset_all (iset_all (iset_all hb.2 _ (h 0 (by omega))) _ (h 1 (by omega))) _ (h 2 (by omega))) _ (h 3 (by omega))
section
variable {b : List Int} (hb : b.length = 16) (ok : okB b = true)
include hb ok
theorem sstep_ok {d i : Nat} (hd : d < 4) (hi : i < 4) {s : List Int × Int} (hs : s.1.length = 16 ∧ ∀ x ∈ s.1, tileOK x) : (sstep b d i s).1.length = 16 ∧ ∀ x ∈ (sstep b d i s).1, tileOK x :=
  put_ok hs (rslide_ok (line_ok hb ((okB_iff b).1 ok) hd hi)) d i
theorem slide_ok {d : Nat} (hd : d < 4) : (slideB b d).1.length = 16 ∧ okB (slideB b d).1 = true := by
  have h0 : (b, (0 : Int)).1.length = 16 ∧ ∀ x ∈ (b, (0 : Int)).1, tileOK x := ⟨hb, (okB_iff b).1 ok⟩
  have h := sstep_ok hb ok hd (show 3 < 4 by omega) (sstep_ok hb ok hd (show 2 < 4 by omega) (sstep_ok hb ok hd (show 1 < 4 by omega) (sstep_ok hb ok hd (show 0 < 4 by omega) h0)))
  exact ⟨h.1, (okB_iff _).2 h.2⟩
theorem impl_slide (F : Nat) (hF : 1000 < F) {d : Nat} (hd : d < 4) : ∃ m, impl_Board_slide_p F b d = some ((slideB b d).1, (slideB b d).2, m) := by
  have l8 : ∀ (sc : Int) (t : Int) (ms : List Bool) (b' out : List Int) (m : Int), ∃ m', impl_Board_slide_l8 F d sc t ms b' out m 0 = some m' := fun sc t ms b' out m =>
    ⟨_, (loop_fold (step := impl_Board_slide_s8 F d sc t ms b' out) (fun i (a : Int) => (a, i)) 4 (fun i a => bif bget ms (i * 1) then IntKind.wrap .i64 (a + 1) else a) (fun a => a) (fun _ _ => True) (F := F) (by omega) (by omega) (a := m) trivial (fun i a hi _ => ⟨trivial, fun Q kn kx => by
      have hi' : (i : Int) < 4 := by omega
      simp only [impl_Board_slide_s8, hi', inR_cast, hi, Int.toNat_natCast, decide_true, cond_true]
      cases bget ms (i * 1) <;> rfl⟩) (fun a _ Q kn kx => by simp [impl_Board_slide_s8])).1⟩
  have row : ∀ i, i < 4 → ∃ mg, impl_slideRow_p F (lineB b d i) = some ((rslide (lineB b d i)).2.2.2, (rslide (lineB b d i)).2.1, mg) := fun i hi => impl_row F _ rfl (line_ok hb ((okB_iff b).1 ok) hd hi) hF
  have step : ∀ (i : Nat) (m : Int) (s : List Int × Int), i < 4 → ∃ m' : Int, ∀ (Q : Type) kn kx, impl_Board_slide_s3 F d b Q (s.2, m, (i : Int), s.1) kn kx = kn ((sstep b d i s).2, m', IntKind.wrap .i64 ((i : Int) + 1), (sstep b d i s).1) := fun i m s hi => by
    obtain ⟨mg, hr⟩ := row i hi
    obtain ⟨m', h8⟩ := l8 (IntKind.wrap .i64 (s.2 + (rslide (lineB b d i)).2.1)) i mg b (putB s.1 d i (rslide (lineB b d i)).2.2.2) m
    refine ⟨m', fun Q kn kx => ?_⟩
    have hi' : (i : Int) < 4 := by omega
    simp only [impl_Board_slide_s3, hi', decide_true, cond_true, impl_line b hd hi, hr, impl_with _ _ hd hi, h8, Option.isSome_some, Option.getD_some, sstep]
  obtain ⟨G, rfl⟩ : ∃ G, F = G + 5 := ⟨F - 5, by omega⟩
  obtain ⟨m1, h1⟩ := step 0 0 (b, 0) (by omega)
  obtain ⟨m2, h2⟩ := step 1 m1 _ (by omega)
  obtain ⟨m3, h3⟩ := step 2 m2 _ (by omega)
  obtain ⟨m4, h4⟩ := step 3 m3 _ (by omega)
  have e : impl_Board_slide_l3 (G + 5) d b 0 0 0 b = some ((slideB b d).2, m4, (slideB b d).1) := by
    have w : ∀ n : Nat, n < 4 → IntKind.wrap .i64 ((n : Int) + 1) = ((n + 1 : Nat) : Int) := fun n hn => wrap_succ hn (by omega)
    show loopC _ (G + 5) ((b, (0 : Int)).2, (0 : Int), ((0 : Nat) : Int), (b, (0 : Int)).1) some = _
    simp only [loopC]
    rw [h1, w 0 (by omega), h2, w 1 (by omega), h3, w 2 (by omega), h4, w 3 (by omega)]
    simp [impl_Board_slide_s3]
    exact ⟨rfl, rfl⟩
  exact ⟨m4, by simp only [impl_Board_slide_p, impl_Board_slide_c, e, Option.isSome_some, Option.getD_some, cond_true]⟩
theorem spec_slide (F : Nat) (hF : 1000 < F) {d : Nat} (hd : d < 4) : spec_l2Slide_p F b d = some (slideB b d) := by
  obtain ⟨G, rfl⟩ : ∃ G, F = G + 1001 := ⟨F - 1001, by omega⟩
  have h := loop_fold (step := spec_l2Slide_s3 (G + 1001) d b) (fun i (s : List Int × Int) => (s.2, i, s.1)) 4 (sstep b d) (fun s => (s.2, s.1)) (fun _ _ => True) (F := G + 1001) (by omega) (by omega) (a := (b, 0)) trivial
    (fun i s hi _ => ⟨trivial, fun Q kn kx => by
      have hi' : (i : Int) < 4 := by omega
      simp only [spec_l2Slide_s3, hi', decide_true, cond_true, spec_nums G b hd hi, spec_row (G + 1001) _ rfl (line_ok hb ((okB_iff b).1 ok) hd hi) hF, spec_line G hd hi, put_line0 _ _ hd hi, put_line1 _ _ hd hi, put_line2 _ _ hd hi, put_line3 _ _ hd hi, Option.isSome_some, Option.getD_some, sstep, putB]⟩)
    (fun s _ Q kn kx => by simp [spec_l2Slide_s3])
  have e : spec_l2Slide_l3 (G + 1001) d b 0 0 b = some ((slideB b d).2, (slideB b d).1) := h.1
  simp only [spec_l2Slide_p, spec_l2Slide_c, e, Option.isSome_some, Option.getD_some, cond_true]
end
end Go.Lv.P

namespace Go.Lv.P
open Go Go.Lv
theorem subn_take0 {α : Type} (m : List α) (n : Nat) : subn m.length m 0 n = m.take n := by
  rw [subn_eqL _ _ _ _ rfl, sub, List.drop_zero]
theorem subn_00 {α : Type} (l : List α) : subn l.length l 0 0 = [] := by rw [subn_take0, List.take_zero]
theorem fld_filter (l : LL) (q : List Int → Bool) : fld (fun i out => bif q (rget l i) then out ++ [rget l i] else out) 0 l.length [] = l.filter q := by
  have : ∀ (m i : Nat) (out : LL), i + m = l.length → fld (fun i out => bif q (rget l i) then out ++ [rget l i] else out) i m out = out ++ (l.drop i).filter q := by
    intro m
    induction m with
    | zero => intro i out h; rw [List.drop_eq_nil_of_le (by omega)]; simp [fld]
    | succ m ih =>
      intro i out h
      have hi : i < l.length := by omega
      have hg : rget l i = l[i] := by rw [rgetL, List.getElem?_eq_getElem hi]; rfl
      simp only [fld]
      rw [ih (i + 1) _ (by omega), List.drop_eq_getElem_cons hi, List.filter_cons, hg]
      cases q l[i] <;> simp
  simpa using this l.length 0 [] (by omega)
theorem fld_filterI (l : List Int) (q : Int → Bool) : fld (fun i out => bif q (iget l i) then out ++ [iget l i] else out) 0 l.length [] = l.filter q := by
  have : ∀ (m i : Nat) (out : List Int), i + m = l.length → fld (fun i out => bif q (iget l i) then out ++ [iget l i] else out) i m out = out ++ (l.drop i).filter q := by
    intro m
    induction m with
    | zero => intro i out h; rw [List.drop_eq_nil_of_le (by omega)]; simp [fld]
    | succ m ih =>
      intro i out h
      have hi : i < l.length := by omega
      have hg : iget l i = l[i] := by rw [igetL, List.getElem?_eq_getElem hi]; rfl
      simp only [fld]
      rw [ih (i + 1) _ (by omega), List.drop_eq_getElem_cons hi, List.filter_cons, hg]
      cases q l[i] <;> simp
  simpa using this l.length 0 [] (by omega)
end Go.Lv.P

namespace Go.Lv.P
open Go Go.Lv
theorem rstep_score {s : RS} {x : Int} (hx : inB x 1 17 = true) (h0 : 0 ≤ s.2.1) (h1 : s.2.1 ≤ 1000000000) : s.2.1 ≤ (rstep s x).2.1 ∧ (rstep s x).2.1 ≤ s.2.1 + 131072 := by
  have hx1 : 1 ≤ x ∧ x ≤ 17 := by simpa [inB] using hx
  unfold rstep
  cases h17 : decide (x < 17) with
  | false =>
    simp only [Bool.and_false, Bool.false_and, cond_false]
    omega
  | true =>
    have h17 := of_decide_eq_true h17
    obtain ⟨w1, w2, _⟩ := W_facts (t := x + 1) (by simp [inB]; omega)
    cases decide (0 < s.1) && (iget s.2.2.2 (0 + (s.1 - 1) * 1) == x) && true && !s.2.2.1
    · simp only [cond_false]; omega
    · simp only [cond_true]
      rw [wrap_of (by omega) (by omega)]
      omega
theorem rfold_score : ∀ (l : List Int) (s : RS), (∀ x ∈ l, inB x 1 17 = true) → 0 ≤ s.2.1 → s.2.1 + 131072 * l.length ≤ 900000000 → s.2.1 ≤ (l.foldl rstep s).2.1 ∧ (l.foldl rstep s).2.1 ≤ s.2.1 + 131072 * l.length := by
  intro l
  induction l with
  | nil => intro s _ _ _; simp
  | cons y r ih =>
    intro s hl h0 h1
    simp only [List.length_cons] at h1
    obtain ⟨g1, g2⟩ := rstep_score (s := s) (hl y List.mem_cons_self) h0 (by omega)
    obtain ⟨g3, g4⟩ := ih (rstep s y) (fun z hz => hl z (List.mem_cons_of_mem _ hz)) (by omega) (by omega)
    simp only [List.foldl_cons, List.length_cons]
    omega
theorem tiles_in {row : List Int} (hr : ∀ x ∈ row, tileOK x) : ∀ x ∈ row.filter fun x => !(x == 0), inB x 1 17 = true := by
  intro x hx
  rw [List.mem_filter] at hx
  have h1 := hr x hx.1
  have h2 : x ≠ 0 := by simpa using hx.2
  simp [tileOK, inB] at h1
  simp [inB]
  omega
theorem rslide_score {row : List Int} (hl : row.length = 4) (hr : ∀ x ∈ row, tileOK x) : 0 ≤ (rslide row).2.1 ∧ (rslide row).2.1 ≤ 524288 := by
  have h := rfold_score _ (0, 0, false, [0, 0, 0, 0]) (tiles_in hr) (by simp) (by have := List.length_filter_le (fun x => !(x == 0)) row; simp only; omega)
  have hq := List.length_filter_le (fun x => !(x == 0)) row
  simp only [rslide]
  simp only at h
  omega
theorem rstep_inc {s : RS} {x : Int} (h : (rstep s x).1 = s.1 + 1) : rstep s x = (s.1 + 1, s.2.1, false, iset s.2.2.2 (0 + s.1 * 1) x) := by
  unfold rstep at h ⊢
  cases hc : decide (0 < s.1) && (iget s.2.2.2 (0 + (s.1 - 1) * 1) == x) && decide (x < 17) && !s.2.2.1 with
  | false => rfl
  | true => rw [hc] at h; simp at h
theorem iget_iset_ne (l : List Int) (i j : Nat) (x : Int) (h : i ≠ j) : iget (iset l i x) j = iget l j := by
  rw [igetL, igetL, isetL, List.getElem?_set_ne h]
/-- behind the tiles that lie there all is empty -/
def ends (s : RS) : Prop := ∀ j, s.1 ≤ j → iget s.2.2.2 j = 0
theorem rstep_ends {s : RS} {x : Int} (h : ends s) : ends (rstep s x) := by
  unfold rstep
  cases hc : decide (0 < s.1) && (iget s.2.2.2 (0 + (s.1 - 1) * 1) == x) && decide (x < 17) && !s.2.2.1 with
  | false =>
    intro j hj
    simp only [cond_false] at hj ⊢
    rw [iget_iset_ne _ _ _ _ (by omega)]
    exact h j (by omega)
  | true =>
    intro j hj
    simp only [Bool.and_eq_true, decide_eq_true_eq] at hc
    simp only [cond_true] at hj ⊢
    rw [iget_iset_ne _ _ _ _ (by omega)]
    exact h j (by omega)
theorem rfold_ends : ∀ (l : List Int) (s : RS), ends s → ends (l.foldl rstep s) ∧ (l.foldl rstep s).1 ≤ s.1 + l.length
  | [], s, h => ⟨h, Nat.le_refl _⟩
  | x :: r, s, h => by
    obtain ⟨g1, g2⟩ := rfold_ends r (rstep s x) (rstep_ends h)
    have := rstep_n s x
    exact ⟨g1, by simp only [List.foldl_cons, List.length_cons]; omega⟩
theorem rstep4 {a b c d : Int} (h4 : 4 ≤ (rstep (rstep (rstep (rstep (0, 0, false, [0, 0, 0, 0]) a) b) c) d).1) : rstep (rstep (rstep (rstep (0, 0, false, [0, 0, 0, 0]) a) b) c) d = (4, 0, false, [a, b, c, d]) := by
  have n1 : (rstep (0, 0, false, [0, 0, 0, 0]) a).1 ≤ 1 := rstep_n _ _
  have n2 := rstep_n (rstep (0, 0, false, [0, 0, 0, 0]) a) b
  have n3 := rstep_n (rstep (rstep (0, 0, false, [0, 0, 0, 0]) a) b) c
  have n4 := rstep_n (rstep (rstep (rstep (0, 0, false, [0, 0, 0, 0]) a) b) c) d
  have k1 : rstep (0, 0, false, [0, 0, 0, 0]) a = (1, 0, false, [a, 0, 0, 0]) := rstep_inc (by show (rstep (0, 0, false, [0, 0, 0, 0]) a).1 = 1; omega)
  rw [k1] at n2 n3 n4 h4 ⊢
  have n2 : (rstep (1, 0, false, [a, 0, 0, 0]) b).1 ≤ 2 := n2
  have k2 : rstep (1, 0, false, [a, 0, 0, 0]) b = (2, 0, false, [a, b, 0, 0]) := rstep_inc (by show (rstep (1, 0, false, [a, 0, 0, 0]) b).1 = 2; omega)
  rw [k2] at n3 n4 h4 ⊢
  have n3 : (rstep (2, 0, false, [a, b, 0, 0]) c).1 ≤ 3 := n3
  have k3 : rstep (2, 0, false, [a, b, 0, 0]) c = (3, 0, false, [a, b, c, 0]) := rstep_inc (by show (rstep (2, 0, false, [a, b, 0, 0]) c).1 = 3; omega)
  rw [k3] at n4 h4 ⊢
  have n4 : (rstep (3, 0, false, [a, b, c, 0]) d).1 ≤ 4 := n4
  exact rstep_inc (by show (rstep (3, 0, false, [a, b, c, 0]) d).1 = 4; omega)
/-- a row that is full behind its slide has not moved -/
theorem row_full {row : List Int} (hl : row.length = 4) (hf : ∀ x ∈ (rslide row).2.2.2, x ≠ 0) (hr : ∀ x ∈ row, tileOK x) : (rslide row).2.2.2 = row := by
  obtain ⟨a, b, c, d, rfl⟩ := list4 hl
  have h0 : ends (0, 0, false, [0, 0, 0, 0]) := fun j _ => by
    match j with
    | 0 => rfl
    | 1 => rfl
    | 2 => rfl
    | 3 => rfl
    | j + 4 => rfl
  obtain ⟨e1, e2⟩ := rfold_ends ([a, b, c, d].filter fun x => !(x == 0)) _ h0
  have h3 : iget (rslide [a, b, c, d]).2.2.2 3 ≠ 0 := by
    have hlen := (rslide_ok hr).1
    have := hf (rslide [a, b, c, d]).2.2.2[3] (List.getElem_mem _)
    rw [igetL, List.getElem?_eq_getElem (by omega)]
    exact this
  have h4 : 4 ≤ (rslide [a, b, c, d]).1 := by
    rcases Nat.lt_or_ge (rslide [a, b, c, d]).1 4 with h | h
    · exact absurd (e1 3 (by show (rslide [a, b, c, d]).1 ≤ 3; omega)) h3
    · exact h
  have hq : ([a, b, c, d].filter fun x => !(x == 0)).length = 4 := by
    have := List.length_filter_le (fun x : Int => !(x == 0)) [a, b, c, d]
    have e2 : (rslide [a, b, c, d]).1 ≤ 0 + ([a, b, c, d].filter fun x => !(x == 0)).length := e2
    simp only [List.length_cons, List.length_nil] at this
    omega
  have hall : ([a, b, c, d].filter fun x => !(x == 0)) = [a, b, c, d] := by
    apply (List.filter_sublist (l := [a, b, c, d]) (p := fun x => !(x == 0))).eq_of_length
    rw [hq]; rfl
  have hs : rslide [a, b, c, d] = rstep (rstep (rstep (rstep (0, 0, false, [0, 0, 0, 0]) a) b) c) d := by
    rw [rslide, hall]; rfl
  rw [hs] at h4 ⊢
  rw [rstep4 h4]
theorem slide_rows (b : List Int) (d : Nat) : (slideB b d).1 = putB (putB (putB (putB b d 0 (rslide (lineB b d 0)).2.2.2) d 1 (rslide (lineB b d 1)).2.2.2) d 2 (rslide (lineB b d 2)).2.2.2) d 3 (rslide (lineB b d 3)).2.2.2 := rfl
theorem rows_full {b r0 r1 r2 r3 : List Int} (hb : b.length = 16) (h0 : r0.length = 4) (h1 : r1.length = 4) (h2 : r2.length = 4) (h3 : r3.length = 4) {d : Nat} (hd : d < 4)
    (hf : ∀ x ∈ putB (putB (putB (putB b d 0 r0) d 1 r1) d 2 r2) d 3 r3, x ≠ 0) : (∀ x ∈ r0, x ≠ 0) ∧ (∀ x ∈ r1, x ≠ 0) ∧ (∀ x ∈ r2, x ≠ 0) ∧ ∀ x ∈ r3, x ≠ 0 := by
  obtain ⟨x0, x1, x2, x3, x4, x5, x6, x7, x8, x9, x10, x11, x12, x13, x14, x15, rfl⟩ := list16 hb
  obtain ⟨a0, a1, a2, a3, rfl⟩ := list4 h0
  obtain ⟨b0, b1, b2, b3, rfl⟩ := list4 h1
  obtain ⟨c0, c1, c2, c3, rfl⟩ := list4 h2
  obtain ⟨d0, d1, d2, d3, rfl⟩ := list4 h3
  obtain rfl | rfl | rfl | rfl : d = 0 ∨ d = 1 ∨ d = 2 ∨ d = 3 := by omega
  · have e : putB (putB (putB (putB [x0, x1, x2, x3, x4, x5, x6, x7, x8, x9, x10, x11, x12, x13, x14, x15] 0 0 [a0, a1, a2, a3]) 0 1 [b0, b1, b2, b3]) 0 2 [c0, c1, c2, c3]) 0 3 [d0, d1, d2, d3] = [a0, a1, a2, a3, b0, b1, b2, b3, c0, c1, c2, c3, d0, d1, d2, d3] := by kernel_rfl
    rw [e] at hf
    simp only [List.mem_cons, List.not_mem_nil, or_false, forall_eq_or_imp, forall_eq] at hf ⊢
    simp_all
  · have e : putB (putB (putB (putB [x0, x1, x2, x3, x4, x5, x6, x7, x8, x9, x10, x11, x12, x13, x14, x15] 1 0 [a0, a1, a2, a3]) 1 1 [b0, b1, b2, b3]) 1 2 [c0, c1, c2, c3]) 1 3 [d0, d1, d2, d3] = [a0, b0, c0, d0, a1, b1, c1, d1, a2, b2, c2, d2, a3, b3, c3, d3] := by kernel_rfl
    rw [e] at hf
    simp only [List.mem_cons, List.not_mem_nil, or_false, forall_eq_or_imp, forall_eq] at hf ⊢
    simp_all
  · have e : putB (putB (putB (putB [x0, x1, x2, x3, x4, x5, x6, x7, x8, x9, x10, x11, x12, x13, x14, x15] 2 0 [a0, a1, a2, a3]) 2 1 [b0, b1, b2, b3]) 2 2 [c0, c1, c2, c3]) 2 3 [d0, d1, d2, d3] = [a3, a2, a1, a0, b3, b2, b1, b0, c3, c2, c1, c0, d3, d2, d1, d0] := by kernel_rfl
    rw [e] at hf
    simp only [List.mem_cons, List.not_mem_nil, or_false, forall_eq_or_imp, forall_eq] at hf ⊢
    simp_all
  · have e : putB (putB (putB (putB [x0, x1, x2, x3, x4, x5, x6, x7, x8, x9, x10, x11, x12, x13, x14, x15] 3 0 [a0, a1, a2, a3]) 3 1 [b0, b1, b2, b3]) 3 2 [c0, c1, c2, c3]) 3 3 [d0, d1, d2, d3] = [a3, b3, c3, d3, a2, b2, c2, d2, a1, b1, c1, d1, a0, b0, c0, d0] := by kernel_rfl
    rw [e] at hf
    simp only [List.mem_cons, List.not_mem_nil, or_false, forall_eq_or_imp, forall_eq] at hf ⊢
    simp_all
theorem rows_self {b : List Int} (hb : b.length = 16) {d : Nat} (hd : d < 4) : putB (putB (putB (putB b d 0 (lineB b d 0)) d 1 (lineB b d 1)) d 2 (lineB b d 2)) d 3 (lineB b d 3) = b := by
  obtain ⟨x0, x1, x2, x3, x4, x5, x6, x7, x8, x9, x10, x11, x12, x13, x14, x15, rfl⟩ := list16 hb
  obtain rfl | rfl | rfl | rfl : d = 0 ∨ d = 1 ∨ d = 2 ∨ d = 3 := by omega
  all_goals kernel_rfl
theorem em_full {n : List Int} (hn : n.length = 16) (h : (em n).length = 0) : ∀ x ∈ n, x ≠ 0 := by
  have h : em n = [] := List.eq_nil_of_length_eq_zero h
  have key : ∀ c ∈ cells16, iget n (plc c) ≠ 0 := fun c hc h0 => by
    have : c ∈ em n := List.mem_filter.2 ⟨hc, by simpa using h0⟩
    rw [h] at this; cases this
  obtain ⟨x0, x1, x2, x3, x4, x5, x6, x7, x8, x9, x10, x11, x12, x13, x14, x15, rfl⟩ := list16 hn
  have g : ∀ (c : List Int) (x : Int), c ∈ cells16 → iget [x0, x1, x2, x3, x4, x5, x6, x7, x8, x9, x10, x11, x12, x13, x14, x15] (plc c) = x → x ≠ 0 := fun c x hc e => e ▸ key c hc
  intro x hx
  simp only [List.mem_cons, List.not_mem_nil, or_false] at hx
  rcases hx with rfl | rfl | rfl | rfl | rfl | rfl | rfl | rfl | rfl | rfl | rfl | rfl | rfl | rfl | rfl | rfl
  · exact g [0, 0] _ (by decide) rfl
  · exact g [0, 1] _ (by decide) rfl
  · exact g [0, 2] _ (by decide) rfl
  · exact g [0, 3] _ (by decide) rfl
  · exact g [1, 0] _ (by decide) rfl
  · exact g [1, 1] _ (by decide) rfl
  · exact g [1, 2] _ (by decide) rfl
  · exact g [1, 3] _ (by decide) rfl
  · exact g [2, 0] _ (by decide) rfl
  · exact g [2, 1] _ (by decide) rfl
  · exact g [2, 2] _ (by decide) rfl
  · exact g [2, 3] _ (by decide) rfl
  · exact g [3, 0] _ (by decide) rfl
  · exact g [3, 1] _ (by decide) rfl
  · exact g [3, 2] _ (by decide) rfl
  · exact g [3, 3] _ (by decide) rfl
section
variable {b : List Int} (hb : b.length = 16) (ok : okB b = true)
include hb ok
/-- a board that changes has an empty cell behind the slide -/
theorem slide_room {d : Nat} (hd : d < 4) (h : ((slideB b d).1 == b) = false) : 0 < (em (slideB b d).1).length := by
  rcases Nat.eq_zero_or_pos (em (slideB b d).1).length with h0 | h0
  · exfalso
    have hf := em_full (slide_ok hb ok hd).1 h0
    rw [slide_rows] at hf
    have hl : ∀ i, i < 4 → ∀ x ∈ lineB b d i, tileOK x := fun i hi => line_ok hb ((okB_iff b).1 ok) hd hi
    obtain ⟨f0, f1, f2, f3⟩ := rows_full hb (rslide_ok (hl 0 (by omega))).1 (rslide_ok (hl 1 (by omega))).1 (rslide_ok (hl 2 (by omega))).1 (rslide_ok (hl 3 (by omega))).1 hd hf
    have e := slide_rows b d
    rw [row_full rfl f0 (hl 0 (by omega)), row_full rfl f1 (hl 1 (by omega)), row_full rfl f2 (hl 2 (by omega)), row_full rfl f3 (hl 3 (by omega)), rows_self hb hd] at e
    rw [e] at h
    simp at h
  · exact h0
theorem slide_score {d : Nat} (hd : d < 4) : 0 ≤ (slideB b d).2 ∧ (slideB b d).2 ≤ 2097152 := by
  have hl : ∀ i, i < 4 → 0 ≤ (rslide (lineB b d i)).2.1 ∧ (rslide (lineB b d i)).2.1 ≤ 524288 := fun i hi => rslide_score rfl (line_ok hb ((okB_iff b).1 ok) hd hi)
  have l0 := hl 0 (by omega)
  have l1 := hl 1 (by omega)
  have l2 := hl 2 (by omega)
  have l3 := hl 3 (by omega)
  have e : (slideB b d).2 = IntKind.wrap .i64 (IntKind.wrap .i64 (IntKind.wrap .i64 (IntKind.wrap .i64 (0 + (rslide (lineB b d 0)).2.1) + (rslide (lineB b d 1)).2.1) + (rslide (lineB b d 2)).2.1) + (rslide (lineB b d 3)).2.1) := rfl
  rw [e, wrap_of (n := 0 + _) (by omega) (by omega), wrap_of (n := 0 + _ + _) (by omega) (by omega), wrap_of (n := 0 + _ + _ + _) (by omega) (by omega), wrap_of (by omega) (by omega)]
  omega
end
end Go.Lv.P


namespace Go.Lv.P
open Go Go.Lv
/-- the directions in which a slide is a move -/
def movesB (b : List Int) : List Int := fld (fun d out => bif (!((slideB b d).1 == b)) then out ++ [(d : Int)] else out) 0 4 []
theorem moves_step {c : Bool} {d : Nat} {out : List Int} (h : out.length ≤ d) : (bif c then out ++ [(d : Int)] else out).length ≤ d + 1 := by
  cases c
  · simp; omega
  · simp; omega
theorem movesB_eq (b : List Int) : movesB b = ((List.range 4).filter fun d => !((slideB b d).1 == b)).map fun d : Nat => (d : Int) := by
  have e : List.range 4 = [0, 1, 2, 3] := rfl
  rw [e]
  simp only [movesB, fld, List.filter]
  cases ((slideB b 0).1 == b) <;> cases ((slideB b (0 + 1)).1 == b) <;> cases ((slideB b (0 + 1 + 1)).1 == b) <;> cases ((slideB b (0 + 1 + 1 + 1)).1 == b) <;> rfl
theorem movesB_len (b : List Int) : (movesB b).length ≤ 4 := by
  rw [movesB_eq, List.length_map]
  exact List.length_filter_le _ _
theorem movesB_mem {b : List Int} {x : Int} (h : x ∈ movesB b) : ∃ d : Nat, x = d ∧ d < 4 ∧ ((slideB b d).1 == b) = false := by
  rw [movesB_eq] at h
  simp only [List.mem_map, List.mem_filter, List.mem_range] at h
  obtain ⟨d, ⟨h1, h2⟩, rfl⟩ := h
  exact ⟨d, rfl, h1, by simpa using h2⟩
end Go.Lv.P

namespace Go.Lv.P
open Go Go.Lv
theorem impl_places_eq (F : Nat) (b : List Int) (hF : 1000 < F) : impl_Board_placements_p F b = some (plm b) := by
  have hl := em_len b
  obtain ⟨r, h1, h2⟩ := impl_empty_eq F b hF
  have hr : r.1 = (em b).length := by rw [h2.1, em_not]
  have hg : ∀ i, i < (em b).length → rget r.2 (0 + i) = rget (em b) i := fun i hi => by
    rw [h2.get (hr ▸ hi), em_not]
  have h : impl_Board_placements_l3 F r.1 r.1 r.2 0 [] = some (plm b) := by
    rw [hr]
    refine (loop_fold (step := impl_Board_placements_s3 F (em b).length (em b).length r.2) (fun i a => (i, a)) (em b).length _ (fun a => a) (fun i a => a.length ≤ 2 * i) (F := F) (by omega) (by omega) (a := []) (by simp) (fun i a hi hI => ⟨?_, fun Q kn kx => ?_⟩) (fun a _ Q kn kx => by simp [impl_Board_placements_s3])).1
    · simp; omega
    · have hf : ∀ x y : List Int, fits (a ++ [x, y]).length 24 = true := fun x y => fits_of (by simp; omega) (by simp; omega)
      simp only [impl_Board_placements_s3, Int.ofNat_lt, inR_cast, hi, Int.toNat_natCast, decide_true, cond_true, subn_self, hf, hg i hi]
  simp only [impl_Board_placements_p, impl_Board_placements_c, h1, h, Option.isSome_some, Option.getD_some, cond_true]
end Go.Lv.P
