/-
Plain facts of the pure functions, part 2; without conditions.
-/
import Derived.Test.YtabfliifleonaafQfP2
import Derived.Test.YtabfliifleonaafQfPG1
import Derived.Test.YtabfliifleonaafQfP3
import Derived.Test.YtabfliifleonaafQfP1
import Derived.Test.YtabfliifleonaafLv3
import Derived.Test.YtabfliifleonaafMvOrd
import Derived.Test.YtabfliifleonaafQfP5
import Derived.Test.YtabfliifleonaafQfP4
set_option linter.unusedVariables false
set_option linter.unusedSimpArgs false
set_option linter.unusedSectionVars false
namespace Go.Lv.P
open Go Go.Lv
theorem empty_f1 (b : List Int) : ∀ x ∈ cells16, impl_Board_empty_f1_p x b = some (!(iget b (plc x) == 0)) :=
  cells_all fun r c hr hc => by
    have e : impl_Board_at_p [(r : Int), (c : Int)] b = some (plc [(r : Int), (c : Int)]) := by
      simp only [impl_Board_at_p, impl_Board_at_c, show iget [(r : Int), (c : Int)] 0 = r from rfl, show iget [(r : Int), (c : Int)] 1 = c from rfl, inR_cast, hr, hc, decide_true, cond_true, plc]
    simp only [impl_Board_empty_f1_p, impl_Board_empty_f1_c, e, Option.isSome_some, Option.getD_some, cond_true]
theorem DeleteFunc_empty (F : Nat) (s : LL) (b : List Int) (q : List Int → Bool) (hs : s.length ≤ 1000) (hF : 1000 < F) (hq : ∀ x ∈ s, impl_Board_empty_f1_p x b = some (q x)) :
    ∃ r, slices_DeleteFunc_2int2int_impl_Board_empty_f1_p F s b = some r ∧ Deleted s q r := by
  have hg : ∀ i, i < s.length → impl_Board_empty_f1_p (rget s i) b = some (q (rget s i)) := fun i hi => by
    refine hq _ ?_
    rw [rgetL, List.getElem?_eq_getElem hi]
    exact List.getElem_mem hi
  have h1 : slices_IndexFunc_2int2int_impl_Board_empty_f1_l2 F s s.length b 0 = some (fnd (fun i => q (rget s i)) (fun i => (true, (i : Int))) (false, default) 0 s.length) := by
    refine loop_find (fun i => i) s.length _ _ _ (by omega) (by omega) (fun i hi Q kn kx => ?_) fun Q kn kx => ?_
    · simp only [slices_IndexFunc_2int2int_impl_Board_empty_f1_s2, inR_cast, hi, hg i hi, Int.toNat_natCast, decide_true, cond_true, Int.ofNat_lt, Option.isSome_some, Option.getD_some]
    · simp [slices_IndexFunc_2int2int_impl_Board_empty_f1_s2]
  simp only [slices_DeleteFunc_2int2int_impl_Board_empty_f1_p, slices_DeleteFunc_2int2int_impl_Board_empty_f1_c, slices_IndexFunc_2int2int_impl_Board_empty_f1_p, slices_IndexFunc_2int2int_impl_Board_empty_f1_c, subn_self, h1, Option.isSome_some, Option.getD_some, cond_true]
  rcases fnd_split s q s.length 0 (by omega) (by simp) with ⟨h2, h3⟩ | ⟨j, hj, h2, h3, h4⟩
  · rw [h2]
    refine ⟨(s.length, s), rfl, ?_⟩
    have e := filter_all (q := q) h3
    exact ⟨by rw [e], by rw [e]; exact List.take_length, rfl⟩
  · rw [h2]
    have hgj : rget s j = s[j] := by rw [rgetL, List.getElem?_eq_getElem hj]; rfl
    obtain ⟨s', l1, l2, l3⟩ := delete_loop (step := slices_DeleteFunc_2int2int_impl_Board_empty_f1_s5 F s.length b) q (fun x => impl_Board_empty_f1_p x b = some (q x)) s.length (by omega)
      (fun i j s'' hij hjn hl hp Q kn kx => by
        have hin : i < s.length := by omega
        simp only [slices_DeleteFunc_2int2int_impl_Board_empty_f1_s5, Int.ofNat_lt, hjn, inR_cast, hin, Int.toNat_natCast, decide_true, cond_true, hp, Option.isSome_some, Option.getD_some]
        cases q (rget s'' (0 + j)) <;> rfl)
      (fun i s'' Q kn kx => by simp [slices_DeleteFunc_2int2int_impl_Board_empty_f1_s5]) (s.length - (j + 1)) j (j + 1) F s (by omega) (by omega) (by omega) rfl (fun x hx => hq x (List.mem_of_mem_drop hx))
    have e : s.filter (fun x => !q x) = s.take j ++ (s.drop (j + 1)).filter (fun x => !q x) := by
      have e1 : s = s.take j ++ s[j] :: s.drop (j + 1) := by rw [← List.drop_eq_getElem_cons hj, List.take_append_drop]
      conv => lhs; rw [e1]
      rw [List.filter_append, List.filter_cons, ← hgj, h3]
      simp only [Bool.not_true, Bool.false_eq_true, if_false]
      rw [filter_all]
      exact h4
    have el : j + ((s.drop (j + 1)).filter fun x => !q x).length = (s.filter fun x => !q x).length := by
      rw [e, List.length_append, List.length_take, Nat.min_eq_left (Nat.le_of_lt hj)]
    rw [el] at l1 l3
    rw [← e] at l3
    have ll : (s.filter fun x => !q x).length ≤ s.length := List.length_filter_le _ _
    have l1' : slices_DeleteFunc_2int2int_impl_Board_empty_f1_l5 F s.length b (j : Int) (IntKind.wrap .i64 ((j : Int) + 1)) s = some ((((s.filter fun x => !q x).length : Nat) : Int), s') := by
      rw [wrap_succ (n := s.length) hj (by omega)]
      exact l1
    have hne : ((j : Int) == -1) = false := by
      rw [beq_eq_false_iff_ne]; omega
    simp only [cond_true, Option.getD_some, l1', hne, cond_false, Option.isSome_some, inLe_cast, ll, decide_true, Int.toNat_natCast, Nat.sub_zero]
    refine ⟨_, rfl, rfl, ?_, ?_⟩
    · show (splice s' (0 + _) _ _).take _ = _
      rw [splice_take _ _ _ _ (by omega) (by simp), l3]
    · rw [← l2]
      show (splice s' (0 + _) _ _).length = _
      exact splice_len' _ _ _ (by omega) (by simp)
theorem impl_empty_eq (F : Nat) (b : List Int) (hF : 1000 < F) : ∃ r, impl_Board_empty_p F b = some r ∧ Deleted cells16 (fun c => !(iget b (plc c) == 0)) r := by
  obtain ⟨r, h1, h2⟩ := DeleteFunc_empty F cells16 b (fun c => !(iget b (plc c) == 0)) (by decide) hF (empty_f1 b)
  exact ⟨r, by simp only [impl_Board_empty_p, impl_Board_empty_c, h1, Option.isSome_some, Option.getD_some, cond_true], h2⟩
end Go.Lv.P

namespace Go.Lv.P
open Go Go.Lv
theorem spec_empty_eq (F : Nat) (b : List Int) (hF : 1000 < F) : spec_l2Empty_p F b = some (em b) := by
  let hc : Nat → Nat → LL := fun r c => bif iget b (0 + r * 4 + c * 1) == 0 then [[(r : Int), (c : Int)]] else []
  have hc1 : ∀ r c, (hc r c).length ≤ 1 := fun r c => by
    show (bif iget b (0 + r * 4 + c * 1) == 0 then [[(r : Int), (c : Int)]] else [] : LL).length ≤ 1
    cases iget b (0 + r * 4 + c * 1) == 0 <;> simp
  have hin : ∀ (r : Nat) (out : LL), r < 4 → out.length ≤ 100 → spec_l2Empty_l6 F r b 0 out = some (out ++ (List.range' 0 4).flatMap (hc r)) := fun r out hr ho => by
    rw [← fld_add]
    refine (loop_fold (step := spec_l2Empty_s6 F r b) (fun i a => (i, a)) 4 (fun i a => a ++ hc r i) (fun a => a) (fun i a => a.length ≤ 100 + i) (F := F) (by omega) (by omega) (a := out) (by omega) (fun i a hi hI => ⟨?_, fun Q kn kx => ?_⟩) (fun a _ Q kn kx => by simp [spec_l2Empty_s6])).1
    · have := hc1 r i
      simp only [List.length_append]
      omega
    · have hi' : (i : Int) < 4 := by omega
      have hf : fits (a ++ [[(r : Int), (i : Int)]]).length 16 = true := fits_of (by simp; omega) (by simp; omega)
      simp only [spec_l2Empty_s6, hi', inR_cast, hi, hr, Int.toNat_natCast, decide_true, cond_true, subn_self, hf, hc]
      cases iget b (0 + r * 4 + i * 1) == 0
      · simp only [cond_false, List.append_nil]
      · rfl
  have hout : spec_l2Empty_l3 F b 0 [] = some ([] ++ (List.range' 0 4).flatMap fun r => (List.range' 0 4).flatMap (hc r)) := by
    rw [← fld_add]
    refine (loop_fold (step := spec_l2Empty_s3 F b) (fun i a => (i, a)) 4 (fun r a => a ++ (List.range' 0 4).flatMap (hc r)) (fun a => a) (fun i a => a.length ≤ 4 * i) (F := F) (by omega) (by omega) (a := []) (by simp) (fun i a hi hI => ⟨?_, fun Q kn kx => ?_⟩) (fun a _ Q kn kx => by simp [spec_l2Empty_s3])).1
    · have := flat_len (hc1 i) 4 0
      simp only [List.length_append]
      omega
    · have hi' : (i : Int) < 4 := by omega
      simp only [spec_l2Empty_s3, hi', decide_true, cond_true, hin i a hi (by omega), beq_selfL, Option.isSome_some, Option.getD_some, Bool.and_self]
  simp only [spec_l2Empty_p, spec_l2Empty_c, hout, Option.isSome_some, Option.getD_some, cond_true]
  congr 1
  rw [em, filter_flatMap]
  simp only [List.range'_succ, List.range'_zero, List.flatMap_cons, List.flatMap_nil, List.append_nil, List.nil_append, List.append_assoc, hc, cells16]
  rfl
end Go.Lv.P

namespace Go.Lv.P
open Go Go.Lv
set_option maxRecDepth 100000
theorem DeleteFunc_tiles (F : Nat) (s : List Int) (q : Int → Bool) (hs : s.length ≤ 1000) (hF : 1000 < F) (hq : ∀ x ∈ s, impl_tiles_f1_v x = q x) :
    ∃ r, slices_DeleteFunc_intint_impl_tiles_f1_p F s = some r ∧ DeletedI s q r := by
  have hg : ∀ i, i < s.length → impl_tiles_f1_v (iget s i) = q (iget s i) := fun i hi => by
    refine hq _ ?_
    rw [igetL, List.getElem?_eq_getElem hi]
    exact List.getElem_mem hi
  have h1 : slices_IndexFunc_intint_impl_tiles_f1_l2 F s s.length 0 = some (fnd (fun i => q (iget s i)) (fun i => (true, (i : Int))) (false, default) 0 s.length) := by
    refine loop_find (fun i => i) s.length _ _ _ (by omega) (by omega) (fun i hi Q kn kx => ?_) fun Q kn kx => ?_
    · simp only [slices_IndexFunc_intint_impl_tiles_f1_s2, inR_cast, hi, hg i hi, Int.toNat_natCast, decide_true, cond_true, Int.ofNat_lt, Option.isSome_some, Option.getD_some]
    · simp [slices_IndexFunc_intint_impl_tiles_f1_s2]
  simp only [slices_DeleteFunc_intint_impl_tiles_f1_p, slices_DeleteFunc_intint_impl_tiles_f1_c, slices_IndexFunc_intint_impl_tiles_f1_p, slices_IndexFunc_intint_impl_tiles_f1_c, subn_self, h1, Option.isSome_some, Option.getD_some, cond_true]
  rcases fnd_splitI s q s.length 0 (by omega) (by simp) with ⟨h2, h3⟩ | ⟨j, hj, h2, h3, h4⟩
  · rw [h2]
    refine ⟨(s.length, s), rfl, ?_⟩
    have e := filter_allI (q := q) h3
    exact ⟨by rw [e], by rw [e]; exact List.take_length, rfl⟩
  · rw [h2]
    have hgj : iget s j = s[j] := by rw [igetL, List.getElem?_eq_getElem hj]; rfl
    obtain ⟨s', l1, l2, l3⟩ := delete_loopI (step := slices_DeleteFunc_intint_impl_tiles_f1_s5 F s.length) q (fun x => impl_tiles_f1_v x = q x) s.length (by omega)
      (fun i j s'' hij hjn hl hp Q kn kx => by
        have hin : i < s.length := by omega
        simp only [slices_DeleteFunc_intint_impl_tiles_f1_s5, Int.ofNat_lt, hjn, inR_cast, hin, Int.toNat_natCast, decide_true, cond_true, hp, Option.isSome_some, Option.getD_some]
        cases q (iget s'' (0 + j)) <;> rfl)
      (fun i s'' Q kn kx => by simp [slices_DeleteFunc_intint_impl_tiles_f1_s5]) (s.length - (j + 1)) j (j + 1) F s (by omega) (by omega) (by omega) rfl (fun x hx => hq x (List.mem_of_mem_drop hx))
    have e : s.filter (fun x => !q x) = s.take j ++ (s.drop (j + 1)).filter (fun x => !q x) := by
      have e1 : s = s.take j ++ s[j] :: s.drop (j + 1) := by rw [← List.drop_eq_getElem_cons hj, List.take_append_drop]
      conv => lhs; rw [e1]
      rw [List.filter_append, List.filter_cons, ← hgj, h3]
      simp only [Bool.not_true, Bool.false_eq_true, if_false]
      rw [filter_allI]
      exact h4
    have el : j + ((s.drop (j + 1)).filter fun x => !q x).length = (s.filter fun x => !q x).length := by
      rw [e, List.length_append, List.length_take, Nat.min_eq_left (Nat.le_of_lt hj)]
    rw [el] at l1 l3
    rw [← e] at l3
    have ll : (s.filter fun x => !q x).length ≤ s.length := List.length_filter_le _ _
    have l1' : slices_DeleteFunc_intint_impl_tiles_f1_l5 F s.length (j : Int) (IntKind.wrap .i64 ((j : Int) + 1)) s = some ((((s.filter fun x => !q x).length : Nat) : Int), s') := by
      rw [wrap_succ (n := s.length) hj (by omega)]
      exact l1
    have hne : ((j : Int) == -1) = false := by
      rw [beq_eq_false_iff_ne]; omega
    simp only [cond_true, Option.getD_some, l1', hne, cond_false, Option.isSome_some, inLe_cast, ll, decide_true, Int.toNat_natCast, Nat.sub_zero]
    refine ⟨_, rfl, rfl, ?_, ?_⟩
    · show (splice s' (0 + _) _ _).take _ = _
      rw [splice_takeI _ _ _ _ (by omega) (by simp), l3]
    · rw [← l2]
      show (splice s' (0 + _) _ _).length = _
      exact splice_lenI _ _ _ (by omega) (by simp)
theorem impl_row (F : Nat) (row : List Int) (h4 : row.length = 4) (hr : ∀ x ∈ row, inB x 0 17 = true) (hF : 1000 < F) : ∃ mg, impl_slideRow_p F row = some ((rslide row).2.2.2, (rslide row).2.1, mg) := by
  have hs4 : sub row 0 4 = row := by obtain ⟨a, b, c, d, rfl⟩ := list4 h4; rfl
  obtain ⟨r, d1, d2⟩ := DeleteFunc_tiles F row (fun x => x == 0) (by omega) hF (fun x _ => rfl)
  have ht : impl_tiles_p F row = some r := by
    have hf : fits row.length 8 = true := fits_of (by omega) (by omega)
    simp only [impl_tiles_p, impl_tiles_c, hs4, d1, hf, Option.isSome_some, Option.getD_some, cond_true, beq_selfL, Bool.and_self]
  obtain ⟨m, mem⟩ := r
  have hm : m = (row.filter fun x => !(x == 0)).length := d2.1
  have hl : ∀ i, i < m → iget mem (0 + i) = iget (row.filter fun x => !(x == 0)) i := fun i hi => d2.get hi
  have hm4 : m ≤ 4 := by rw [hm, ← h4]; exact List.length_filter_le _ _
  have hx : ∀ i, i < m → inB (iget (row.filter fun x => !(x == 0)) i) 1 17 = true := fun i hi => by
    have hm : iget (row.filter fun x => !(x == 0)) i ∈ row.filter fun x => !(x == 0) := by
      rw [igetL, List.getElem?_eq_getElem (by omega)]
      exact List.getElem_mem _
    generalize iget (row.filter fun x => !(x == 0)) i = y at hm ⊢
    have this := List.mem_filter.1 hm
    have h1 := hr _ this.1
    have h2 : y ≠ 0 := by simpa using this.2
    simp [inB] at h1
    show inB y 1 17 = true
    simp [inB]
    omega
  have h := loop_fold (step := impl_slideRow_s3 F m m mem) (fun i (s : RS × List Bool) => (s.1.2.1, (s.1.1 : Int), i, s.1.2.2.2, s.2)) m
    (fun i s => (rstep s.1 (iget (row.filter fun x => !(x == 0)) i), bif decide (0 < s.1.1) && (iget s.1.2.2.2 (0 + (s.1.1 - 1) * 1) == iget (row.filter fun x => !(x == 0)) i) && decide (iget (row.filter fun x => !(x == 0)) i < 17) && !s.1.2.2.1 then bset s.2 (0 + (s.1.1 - 1) * 1) true else s.2)) (fun s => (s.1.2.1, s.1.2.2.2, s.2))
    (fun i s => s.1.1 ≤ i ∧ s.2.length = 4 ∧ (0 < s.1.1 → bget s.2 (0 + (s.1.1 - 1) * 1) = s.1.2.2.1) ∧ ∀ j, s.1.1 ≤ j → bget s.2 j = false) (F := F) (by omega) (by omega) (a := ((0, 0, false, [0, 0, 0, 0]), [false, false, false, false]))
    ⟨Nat.le_refl 0, rfl, fun h => absurd h (by decide), fun j _ => by rw [bgetL]; rcases j with _ | _ | _ | _ | j <;> simp⟩
    (fun i s hi hI => by
      obtain ⟨⟨n, sc, mg, out⟩, ms⟩ := s
      obtain ⟨i1, i2, i3, i4⟩ := hI
      simp only at i1 i2 i3 i4 ⊢
      have hxi := hx i hi
      have hi' : (i : Int) < (m : Int) := by omega
      have hn4 : n < 4 := by omega
      have hsn : IntKind.wrap .i64 ((n : Int) + 1) = ((n + 1 : Nat) : Int) := wrap_succ (n := 4) hn4 (by omega)
      simp only [impl_slideRow_s3, hi', inR_cast, hi, Int.toNat_natCast, decide_true, cond_true, hl i hi, hn4]
      generalize iget (row.filter fun x => !(x == 0)) i = x at hxi ⊢
      have hx1 : 1 ≤ x ∧ x ≤ 17 := by simpa [inB] using hxi
      have push : (n + 1 ≤ i + 1 ∧ ms.length = 4 ∧ (0 < n + 1 → bget ms (0 + (n + 1 - 1) * 1) = false) ∧ ∀ j, n + 1 ≤ j → bget ms j = false) := ⟨by omega, i2, fun _ => i4 _ (by omega), fun j hj => i4 j (by omega)⟩
      by_cases hn : 0 < n
      · have hn' : (0 : Int) < (n : Int) := by omega
        have hp := wrap_pred hn (by omega)
        have hp4 : n - 1 < 4 := by omega
        have hmg := i3 hn
        simp only [hn', decide_true, cond_true, hp, inR_cast, hp4, Int.toNat_natCast, rstep, hn, Bool.true_and, hsn, hn4, hmg]
        cases hq : iget out (0 + (n - 1) * 1) == x with
        | false => exact ⟨push, fun Q kn kx => by first | rfl | trivial⟩
        | true =>
          by_cases h17 : x < 17
          · have hw : IntKind.wrap .i64 (x + 1) = x + 1 := wrap_of (by omega) (by omega)
            have hwo : impl_worth_p (x + 1) = some (W (x + 1)) := worth_eq (by simp [inB]; omega)
            cases mg with
            | true =>
              simp only [h17, decide_true, cond_true, Bool.not_true, cond_false, Bool.true_and]
              exact ⟨push, fun Q kn kx => by first | rfl | trivial⟩
            | false =>
              simp only [h17, decide_true, cond_true, Bool.not_false, hw, hwo, Option.isSome_some, Option.getD_some, Bool.true_and]
              refine ⟨⟨by omega, by rw [bsetL]; simpa using i2, fun _ => ?_, fun j hj => ?_⟩, fun Q kn kx => by first | rfl | trivial⟩
              · rw [bsetL, bgetL, List.getElem?_set_self (by omega)]; rfl
              · rw [bsetL, bgetL, List.getElem?_set_ne (by omega), ← bgetL]
                exact i4 j hj
          · simp only [h17, decide_false, cond_false, cond_true, Bool.and_false, Bool.false_and, Bool.true_and]
            exact ⟨push, fun Q kn kx => by first | rfl | trivial⟩
      · have hn' : ¬ (0 : Int) < (n : Int) := by omega
        simp only [cond_false, hn', decide_false, cond_true, rstep, hn, Bool.false_and, hsn, inR_cast, hn4, decide_true, Int.toNat_natCast]
        exact ⟨push, fun Q kn kx => by first | rfl | trivial⟩)
    (fun s _ Q kn kx => by simp [impl_slideRow_s3])
  have hf : ∀ (k i : Nat) (s : RS) (ms : List Bool), (fld (fun i (s : RS × List Bool) => (rstep s.1 (iget (row.filter fun x => !(x == 0)) i), bif decide (0 < s.1.1) && (iget s.1.2.2.2 (0 + (s.1.1 - 1) * 1) == iget (row.filter fun x => !(x == 0)) i) && decide (iget (row.filter fun x => !(x == 0)) i < 17) && !s.1.2.2.1 then bset s.2 (0 + (s.1.1 - 1) * 1) true else s.2)) i k (s, ms)).1 = fld (fun i s => rstep s (iget (row.filter fun x => !(x == 0)) (0 + i))) i k s := by
    intro k
    induction k with
    | zero => intro i s ms; rfl
    | succ k ih =>
      intro i s ms
      simp only [fld]
      rw [ih, Nat.zero_add]
  obtain ⟨r, e, hr2⟩ : ∃ r : RS × List Bool, impl_slideRow_l3 F m m mem 0 0 0 [0, 0, 0, 0] [false, false, false, false] = some (r.1.2.1, r.1.2.2.2, r.2) ∧ r.1 = rslide row :=
    ⟨_, h.1, by
      rw [hf, fld_list (row.filter fun x => !(x == 0)) rstep m 0 _ (by omega), List.drop_zero]
      rfl⟩
  rw [hr2] at e
  exact ⟨r.2, by simp only [impl_slideRow_p, impl_slideRow_c, ht, e, Option.isSome_some, Option.getD_some, cond_true]⟩
end Go.Lv.P

namespace Go.Lv.P
open Go Go.Lv
set_option maxRecDepth 100000
theorem spec_row (F : Nat) (row : List Int) (h4 : row.length = 4) (hr : ∀ x ∈ row, inB x 0 17 = true) (hF : 1000 < F) : spec_l2Row_p F row = some ((rslide row).2.2.2, (rslide row).2.1) := by
  have hg : ∀ i, i < 4 → inB (iget row (0 + i * 1)) 0 17 = true := fun i hi => by
    rw [igetL, List.getElem?_eq_getElem (by omega)]
    exact hr _ (List.getElem_mem _)
  have h := loop_fold (step := spec_l2Row_s3 F row) (fun i (s : RS) => ((s.1 : Int), s.2.1, s.2.2.1, i, s.2.2.2)) 4 (rput row) (fun s => (s.2.1, s.2.2.2)) (fun i s => s.1 ≤ i) (F := F) (by omega) (by omega) (a := (0, 0, false, [0, 0, 0, 0])) (Nat.le_refl 0)
    (fun i s hi hI => by
      obtain ⟨n, sc, mg, out⟩ := s
      have hI : n ≤ i := hI
      have hx := hg i hi
      have hi' : (i : Int) < 4 := by omega
      have hn4 : n < 4 := by omega
      refine ⟨?_, fun Q kn kx => ?_⟩
      · show (rput row i (n, sc, mg, out)).1 ≤ i + 1
        unfold rput
        cases iget row (0 + i * 1) == 0
        · have := rstep_n (n, sc, mg, out) (iget row (0 + i * 1))
          simp only at this
          simp only [cond_false]
          omega
        · simp only [cond_true]; omega
      · simp only [spec_l2Row_s3, hi', inR_cast, hi, Int.toNat_natCast, decide_true, cond_true, rput, hn4]
        obtain ⟨x, hxe⟩ : ∃ x, x = iget row (0 + i * 1) := ⟨_, rfl⟩
        simp only [← hxe] at hx ⊢
        cases h0 : x == 0 with
        | true => rfl
        | false =>
          have hx0 : x ≠ 0 := by simpa using h0
          have hx1 : 0 ≤ x ∧ x ≤ 17 := by simpa [inB] using hx
          have hsn : IntKind.wrap .i64 ((n : Int) + 1) = ((n + 1 : Nat) : Int) := wrap_succ (n := 4) hn4 (by omega)
          by_cases hn : 0 < n
          · have hn' : (0 : Int) < (n : Int) := by omega
            have hp := wrap_pred hn (by omega)
            have hp4 : n - 1 < 4 := by omega
            simp only [cond_false, hn', decide_true, cond_true, hp, inR_cast, hp4, Int.toNat_natCast, rstep, hn, Bool.true_and, hsn, hn4]
            cases hq : iget out (0 + (n - 1) * 1) == x with
            | false => rfl
            | true =>
              by_cases h17 : x < 17
              · have hw : IntKind.wrap .i64 (x + 1) = x + 1 := wrap_of (by omega) (by omega)
                have hwo : spec_l2Worth_p (x + 1) = some (W (x + 1)) := l2Worth_eq (by simp [inB]; omega) (by omega)
                cases mg with
                | true => simp only [h17, decide_true, cond_true, Bool.not_true, cond_false, Bool.true_and]
                | false => simp only [h17, decide_true, cond_true, Bool.not_false, hw, hwo, Option.isSome_some, Option.getD_some, Bool.true_and]
              · simp only [h17, decide_false, cond_false, cond_true, Bool.and_false, Bool.false_and, Bool.true_and]
          · have hn' : ¬ (0 : Int) < (n : Int) := by omega
            simp only [cond_false, hn', decide_false, cond_true, rstep, hn, Bool.false_and, hsn, inR_cast, hn4, decide_true, Int.toNat_natCast])
    (fun s _ Q kn kx => by simp [spec_l2Row_s3])
  have e : spec_l2Row_l3 F row 0 0 false 0 [0, 0, 0, 0] = some ((rslide row).2.1, (rslide row).2.2.2) := by
    refine h.1.trans ?_
    rw [fld_rput row h4]; rfl
  simp only [spec_l2Row_p, spec_l2Row_c, e, Option.isSome_some, Option.getD_some, cond_true]
end Go.Lv.P

namespace Go.Lv.P
open Go Go.Lv
/-- strictly ascending -/
def Asc : LL → Prop
  | [] => True
  | a :: r => (∀ x ∈ r, ltL a x = true) ∧ Asc r
/-- put to its place, if it is not there -/
def insB (b : List Int) : LL → LL
  | [] => [b]
  | a :: r => bif ltL a b then a :: insB b r else bif a == b then a :: r else b :: a :: r
theorem insB_mem {b x : List Int} : ∀ {l : LL}, x ∈ insB b l ↔ x = b ∨ x ∈ l
  | [] => by simp [insB]
  | a :: r => by
    simp only [insB]
    cases h1 : ltL a b with
    | true =>
      rw [cond_true, List.mem_cons, insB_mem, List.mem_cons]
      constructor
      · rintro (h | h | h)
        · exact .inr (.inl h)
        · exact .inl h
        · exact .inr (.inr h)
      · rintro (h | h | h)
        · exact .inr (.inl h)
        · exact .inl h
        · exact .inr (.inr h)
    | false =>
      rw [cond_false]
      cases h2 : a == b with
      | true =>
        rw [cond_true]
        have e := eq_of_beq h2
        subst e
        simp
      | false => rw [cond_false]; simp
theorem insB_asc {b : List Int} : ∀ {l : LL}, Asc l → (∀ x ∈ l, x.length = b.length) → Asc (insB b l)
  | [], _, _ => ⟨fun x hx => (by cases hx), trivial⟩
  | a :: r, ⟨h1, h2⟩, hl => by
    simp only [insB]
    cases hab : ltL a b with
    | true =>
      rw [cond_true]
      refine ⟨fun x hx => ?_, insB_asc h2 fun x hx => hl x (List.mem_cons_of_mem _ hx)⟩
      rcases insB_mem.1 hx with rfl | hx
      · exact hab
      · exact h1 x hx
    | false =>
      rw [cond_false]
      cases he : a == b with
      | true => exact ⟨h1, h2⟩
      | false =>
        rw [cond_false]
        have hne : a ≠ b := by rw [beq_eq_false_iff_ne] at he; exact he
        have hba := ltL_tot (hl a List.mem_cons_self) hab hne
        refine ⟨fun x hx => ?_, h1, h2⟩
        rcases List.mem_cons.1 hx with rfl | hx
        · exact hba
        · exact ltL_trans hba (h1 x hx)
/-- how many there are: one more just if it was not there -/
theorem insB_len {b : List Int} : ∀ {l : LL}, Asc l → (∀ x ∈ l, x.length = b.length) → (insB b l).length = bif l.contains b then l.length else l.length + 1
  | [], _, _ => rfl
  | a :: r, ⟨h1, h2⟩, hl => by
    have ih := insB_len h2 fun x hx => hl x (List.mem_cons_of_mem _ hx)
    simp only [insB, List.contains_cons]
    cases hab : ltL a b with
    | true =>
      have hne : (b == a) = false := by
        rw [beq_eq_false_iff_ne]; intro e; subst e; rw [ltL_irr] at hab; cases hab
      rw [cond_true, hne, Bool.false_or, List.length_cons, ih]
      cases r.contains b <;> rfl
    | false =>
      rw [cond_false]
      cases he : a == b with
      | true =>
        have e := eq_of_beq he
        subst e
        simp
      | false =>
        have hne : a ≠ b := by rw [beq_eq_false_iff_ne] at he; exact he
        have hba := ltL_tot (hl a List.mem_cons_self) hab hne
        have h3 : (b == a) = false := by rw [beq_eq_false_iff_ne]; exact Ne.symm hne
        have h4 : r.contains b = false := by
          cases hc : r.contains b with
          | false => rfl
          | true =>
            have hm := List.contains_iff_mem.1 hc
            have := ltL_trans hba (h1 b hm)
            rw [ltL_irr] at this; cases this
        rw [h3, h4]; rfl
end Go.Lv.P

namespace Go.Lv.P
open Go Go.Lv
set_option maxRecDepth 100000
/-- the place in a board of the cell k of the line i, as a slide looks at it -/
def plcD (d i k : Nat) : Nat :=
  match d with
  | 0 => i * 4 + k
  | 1 => k * 4 + i
  | 2 => i * 4 + (3 - k)
  | _ => (3 - k) * 4 + i
def crd (d i : Nat) : List Int := [0, 1, 2, 3].flatMap fun k => [((plcD d i k / 4 : Nat) : Int), ((plcD d i k % 4 : Nat) : Int)]
def lineB (b : List Int) (d i : Nat) : List Int := [iget b (plcD d i 0), iget b (plcD d i 1), iget b (plcD d i 2), iget b (plcD d i 3)]
def putB (b : List Int) (d i : Nat) (row : List Int) : List Int := iset (iset (iset (iset b (plcD d i 0) (iget row 0)) (plcD d i 1) (iget row 1)) (plcD d i 2) (iget row 2)) (plcD d i 3) (iget row 3)
def sstep (b : List Int) (d i : Nat) (s : List Int × Int) : List Int × Int := (putB s.1 d i (rslide (lineB b d i)).2.2.2, IntKind.wrap .i64 (s.2 + (rslide (lineB b d i)).2.1))
/-- the board behind a slide, and the score -/
def slideB (b : List Int) (d : Nat) : List Int × Int := fld (sstep b d) 0 4 (b, 0)
theorem plcD_lt {d i k : Nat} (hd : d < 4) (hi : i < 4) (hk : k < 4) : plcD d i k < 16 := by
  obtain rfl | rfl | rfl | rfl : d = 0 ∨ d = 1 ∨ d = 2 ∨ d = 3 := by omega
  all_goals (simp only [plcD]; omega)
theorem iset_len (l : List Int) (i : Nat) (x : Int) : (iset l i x).length = l.length := by rw [isetL, List.length_set]
theorem iset_all {p : Int → Prop} {l : List Int} (h : ∀ y ∈ l, p y) (i : Nat) {x : Int} (hx : p x) : ∀ y ∈ iset l i x, p y := by
  rw [isetL]
  intro y hy
  rcases List.mem_or_eq_of_mem_set hy with hy | rfl
  · exact h y hy
  · exact hx
abbrev tileOK (x : Int) : Prop := inB x 0 17 = true
theorem rstep_ok {s : RS} {x : Int} (hx : inB x 1 17 = true) (h : s.2.2.2.length = 4 ∧ ∀ y ∈ s.2.2.2, tileOK y) : (rstep s x).2.2.2.length = 4 ∧ ∀ y ∈ (rstep s x).2.2.2, tileOK y := by
  have hx1 : 1 ≤ x ∧ x ≤ 17 := by simpa [inB] using hx
  unfold rstep
  cases h17 : decide (x < 17) with
  | false =>
    simp only [Bool.and_false, Bool.false_and, cond_false]
    exact ⟨by rw [iset_len]; exact h.1, iset_all h.2 _ (by simp [tileOK, inB]; omega)⟩
  | true =>
    have h17 := of_decide_eq_true h17
    cases decide (0 < s.1) && (iget s.2.2.2 (0 + (s.1 - 1) * 1) == x) && true && !s.2.2.1
    · exact ⟨by simp only [cond_false]; rw [iset_len]; exact h.1, iset_all h.2 _ (by simp [tileOK, inB]; omega)⟩
    · exact ⟨by simp only [cond_true]; rw [iset_len]; exact h.1, iset_all h.2 _ (by simp [tileOK, inB]; omega)⟩
theorem rfold_ok : ∀ (l : List Int) (s : RS), (∀ x ∈ l, inB x 1 17 = true) → (s.2.2.2.length = 4 ∧ ∀ y ∈ s.2.2.2, tileOK y) → ((l.foldl rstep s).2.2.2.length = 4 ∧ ∀ y ∈ (l.foldl rstep s).2.2.2, tileOK y)
  | [], s, _, h => h
  | x :: r, s, hl, h => rfold_ok r (rstep s x) (fun y hy => hl y (List.mem_cons_of_mem _ hy)) (rstep_ok (hl x List.mem_cons_self) h)
theorem rslide_ok {row : List Int} (hr : ∀ x ∈ row, tileOK x) : (rslide row).2.2.2.length = 4 ∧ ∀ y ∈ (rslide row).2.2.2, tileOK y := by
  refine rfold_ok _ _ (fun x hx => ?_) ⟨rfl, by decide⟩
  rw [List.mem_filter] at hx
  have h1 := hr x hx.1
  have h2 : x ≠ 0 := by simpa using hx.2
  simp [tileOK, inB] at h1
  simp [inB]
  omega
theorem okB_iff (b : List Int) : okB b = true ↔ ∀ x ∈ b, tileOK x := by simp [okB, tileOK]
theorem iget_ok {b : List Int} {n : Nat} (h : ∀ x ∈ b, tileOK x) (hn : n < b.length) : tileOK (iget b n) := by
  rw [igetL, List.getElem?_eq_getElem hn]
  exact h _ (List.getElem_mem _)
theorem line_ok {b : List Int} (hb : b.length = 16) (ok : ∀ x ∈ b, tileOK x) {d i : Nat} (hd : d < 4) (hi : i < 4) : ∀ x ∈ lineB b d i, tileOK x := by
  have h : ∀ k, k < 4 → tileOK (iget b (plcD d i k)) := fun k hk => iget_ok ok (by rw [hb]; exact plcD_lt hd hi hk)
  intro x hx
  simp only [lineB, List.mem_cons, List.not_mem_nil, or_false] at hx
  rcases hx with rfl | rfl | rfl | rfl
  · exact h 0 (by omega)
  · exact h 1 (by omega)
  · exact h 2 (by omega)
  · exact h 3 (by omega)
theorem put_ok {b row : List Int} (hb : b.length = 16 ∧ ∀ x ∈ b, tileOK x) (hr : row.length = 4 ∧ ∀ x ∈ row, tileOK x) (d i : Nat) : (putB b d i row).length = 16 ∧ ∀ x ∈ putB b d i row, tileOK x := by
  have h : ∀ k, k < 4 → tileOK (iget row k) := fun k hk => iget_ok hr.2 (by omega)
  refine ⟨by simp only [putB, iset_len]; exact hb.1, ?_⟩
  exact iset_all (iset_all (iset_all (iset_all hb.2 _ (h 0 (by omega))) _ (h 1 (by omega))) _ (h 2 (by omega))) _ (h 3 (by omega))
section
variable {b : List Int} (hb : b.length = 16) (ok : okB b = true)
include hb ok
theorem sstep_ok {d i : Nat} (hd : d < 4) (hi : i < 4) {s : List Int × Int} (hs : s.1.length = 16 ∧ ∀ x ∈ s.1, tileOK x) : (sstep b d i s).1.length = 16 ∧ ∀ x ∈ (sstep b d i s).1, tileOK x :=
  put_ok hs (rslide_ok (line_ok hb ((okB_iff b).1 ok) hd hi)) d i
theorem slide_ok {d : Nat} (hd : d < 4) : (slideB b d).1.length = 16 ∧ okB (slideB b d).1 = true := by
  have h0 : (b, (0 : Int)).1.length = 16 ∧ ∀ x ∈ (b, (0 : Int)).1, tileOK x := ⟨hb, (okB_iff b).1 ok⟩
  have h := sstep_ok hb ok hd (show 3 < 4 by omega) (sstep_ok hb ok hd (show 2 < 4 by omega) (sstep_ok hb ok hd (show 1 < 4 by omega) (sstep_ok hb ok hd (show 0 < 4 by omega) h0)))
  exact ⟨h.1, (okB_iff _).2 h.2⟩
end
end Go.Lv.P

namespace Go.Lv.P
open Go Go.Lv
theorem impl_sum_eq (b : List Int) (hb : b.length = 16) (ok : okB b = true) : impl_Board_sum_p b = some (sumB b) := by
  have hk := fun i hi => okB_iget hb ok i hi
  obtain ⟨x0, x1, x2, x3, x4, x5, x6, x7, x8, x9, x10, x11, x12, x13, x14, x15, rfl⟩ := list16 hb
  have h0 : inB x0 0 17 = true := hk 0 (by decide)
  have h1 : inB x1 0 17 = true := hk 1 (by decide)
  have h2 : inB x2 0 17 = true := hk 2 (by decide)
  have h3 : inB x3 0 17 = true := hk 3 (by decide)
  have h4 : inB x4 0 17 = true := hk 4 (by decide)
  have h5 : inB x5 0 17 = true := hk 5 (by decide)
  have h6 : inB x6 0 17 = true := hk 6 (by decide)
  have h7 : inB x7 0 17 = true := hk 7 (by decide)
  have h8 : inB x8 0 17 = true := hk 8 (by decide)
  have h9 : inB x9 0 17 = true := hk 9 (by decide)
  have h10 : inB x10 0 17 = true := hk 10 (by decide)
  have h11 : inB x11 0 17 = true := hk 11 (by decide)
  have h12 : inB x12 0 17 = true := hk 12 (by decide)
  have h13 : inB x13 0 17 = true := hk 13 (by decide)
  have h14 : inB x14 0 17 = true := hk 14 (by decide)
  have h15 : inB x15 0 17 = true := hk 15 (by decide)
  have key : impl_Board_sum_p [x0, x1, x2, x3, x4, x5, x6, x7, x8, x9, x10, x11, x12, x13, x14, x15] =
      bif (impl_worth_p x0).isSome then bif (impl_worth_p x1).isSome then bif (impl_worth_p x2).isSome then bif (impl_worth_p x3).isSome then
      bif (impl_worth_p x4).isSome then bif (impl_worth_p x5).isSome then bif (impl_worth_p x6).isSome then bif (impl_worth_p x7).isSome then
      bif (impl_worth_p x8).isSome then bif (impl_worth_p x9).isSome then bif (impl_worth_p x10).isSome then bif (impl_worth_p x11).isSome then
      bif (impl_worth_p x12).isSome then bif (impl_worth_p x13).isSome then bif (impl_worth_p x14).isSome then bif (impl_worth_p x15).isSome then
      some (([x0, x1, x2, x3, x4, x5, x6, x7, x8, x9, x10, x11, x12, x13, x14, x15].map fun x => (impl_worth_p x).getD default).foldl (fun a x => IntKind.wrap .i64 (a + x)) 0)
      else none else none else none else none else none else none else none else none else none else none else none else none else none else none else none else none := by kernel_rfl
  rw [key]
  have hall : ∀ x ∈ [x0, x1, x2, x3, x4, x5, x6, x7, x8, x9, x10, x11, x12, x13, x14, x15], inB x 0 17 = true := by simpa [okB] using ok
  have e1 : ([x0, x1, x2, x3, x4, x5, x6, x7, x8, x9, x10, x11, x12, x13, x14, x15].map fun x => (impl_worth_p x).getD default) = [x0, x1, x2, x3, x4, x5, x6, x7, x8, x9, x10, x11, x12, x13, x14, x15].map W :=
    List.map_congr_left fun x hx => by rw [worth_eq (hall x hx)]; rfl
  rw [e1, foldw _ 0 (fun x hx => by
    obtain ⟨y, hy, rfl⟩ := List.mem_map.1 hx
    have := W_facts (hall y hy)
    exact ⟨this.1, this.2.1⟩) (by omega) (by simp)]
  simp only [worth_eq h0, worth_eq h1, worth_eq h2, worth_eq h3, worth_eq h4, worth_eq h5, worth_eq h6, worth_eq h7, worth_eq h8, worth_eq h9, worth_eq h10, worth_eq h11, worth_eq h12, worth_eq h13, worth_eq h14, worth_eq h15, Option.isSome_some, cond_true]
  rfl
end Go.Lv.P

namespace Go.Lv.P
open Go Go.Lv
theorem subn_take0 {α : Type} (m : List α) (n : Nat) : subn m.length m 0 n = m.take n := by
  rw [subn_eqL _ _ _ _ rfl, sub, List.drop_zero]
theorem subn_00 {α : Type} (l : List α) : subn l.length l 0 0 = [] := by rw [subn_take0, List.take_zero]
theorem fld_filter (l : LL) (q : List Int → Bool) : fld (fun i out => bif q (rget l i) then out ++ [rget l i] else out) 0 l.length [] = l.filter q := by
  have : ∀ (m i : Nat) (out : LL), i + m = l.length → fld (fun i out => bif q (rget l i) then out ++ [rget l i] else out) i m out = out ++ (l.drop i).filter q := by
    intro m
    induction m with
    | zero => intro i out h; rw [List.drop_eq_nil_of_le (by omega)]; simp [fld]
    | succ m ih =>
      intro i out h
      have hi : i < l.length := by omega
      have hg : rget l i = l[i] := by rw [rgetL, List.getElem?_eq_getElem hi]; rfl
      simp only [fld]
      rw [ih (i + 1) _ (by omega), List.drop_eq_getElem_cons hi, List.filter_cons, hg]
      cases q l[i] <;> simp
  simpa using this l.length 0 [] (by omega)
theorem fld_filterI (l : List Int) (q : Int → Bool) : fld (fun i out => bif q (iget l i) then out ++ [iget l i] else out) 0 l.length [] = l.filter q := by
  have : ∀ (m i : Nat) (out : List Int), i + m = l.length → fld (fun i out => bif q (iget l i) then out ++ [iget l i] else out) i m out = out ++ (l.drop i).filter q := by
    intro m
    induction m with
    | zero => intro i out h; rw [List.drop_eq_nil_of_le (by omega)]; simp [fld]
    | succ m ih =>
      intro i out h
      have hi : i < l.length := by omega
      have hg : iget l i = l[i] := by rw [igetL, List.getElem?_eq_getElem hi]; rfl
      simp only [fld]
      rw [ih (i + 1) _ (by omega), List.drop_eq_getElem_cons hi, List.filter_cons, hg]
      cases q l[i] <;> simp
  simpa using this l.length 0 [] (by omega)
end Go.Lv.P

namespace Go.Lv.P
open Go Go.Lv
theorem pair_in (a : Bool) (u : Bool) (X Y : Bool × Bool) : (bif (bif a then (true, u) else X).1 then (true, (bif a then (true, u) else X).2) else Y) = bif a then (true, u) else (bif X.1 then (true, X.2) else Y) := by cases a <;> rfl
theorem pair_out (a : Bool) (u : Bool) (X : Bool × Bool) : (bif (bif a then (true, u) else X).1 then (bif a then (true, u) else X).2 else false) = bif a then u else (bif X.1 then X.2 else false) := by cases a <;> rfl
theorem fnd_grid (p g : Nat → Bool) : fnd (fun r => (fnd (fun c => p (0 + r * 4 + c * 1)) (fun c => (true, g (0 + r * 4 + c * 1))) (false, default) 0 4).1) (fun r => (true, (fnd (fun c => p (0 + r * 4 + c * 1)) (fun c => (true, g (0 + r * 4 + c * 1))) (false, default) 0 4).2)) (false, default) 0 4 = fnd p (fun i => (true, g i)) (false, default) 0 16 := by
  simp only [fnd, pair_in, cond_false]
theorem before_eq (F : Nat) (hF : 1000 < F) {a b : List Int} (ha : a.length = 16) (hb : b.length = 16) : spec_l2Before_p F a b = some (ltL a b) := by
  have hin : ∀ r : Nat, r < 4 → spec_l2Before_l5 F r a b 0 = some (fnd (fun c => !(iget a (0 + r * 4 + c * 1) == iget b (0 + r * 4 + c * 1))) (fun c => (true, decide (iget a (0 + r * 4 + c * 1) < iget b (0 + r * 4 + c * 1)))) (false, default) 0 4) := fun r hr => by
    refine loop_find (step := spec_l2Before_s5 F r a b) (fun i => i) 4 (fun c => !(iget a (0 + r * 4 + c * 1) == iget b (0 + r * 4 + c * 1))) (fun c => (true, decide (iget a (0 + r * 4 + c * 1) < iget b (0 + r * 4 + c * 1)))) (false, default) (by omega) (by omega) (fun i hi Q kn kx => ?_) fun Q kn kx => ?_
    · have hi' : (i : Int) < 4 := by omega
      simp only [spec_l2Before_s5, hi', inR_cast, hr, hi, decide_true, cond_true, Int.toNat_natCast]
    · simp [spec_l2Before_s5]
  have hout : spec_l2Before_l2 F a b 0 = some (fnd (fun i => !(iget a i == iget b i)) (fun i => (true, decide (iget a i < iget b i))) (false, default) 0 16) := by
    rw [← fnd_grid (fun i => !(iget a i == iget b i)) (fun i => decide (iget a i < iget b i))]
    refine loop_find (step := spec_l2Before_s2 F a b) (fun i => i) 4 (fun r => (fnd (fun c => !(iget a (0 + r * 4 + c * 1) == iget b (0 + r * 4 + c * 1))) (fun c => (true, decide (iget a (0 + r * 4 + c * 1) < iget b (0 + r * 4 + c * 1)))) (false, default) 0 4).1) (fun r => (true, (fnd (fun c => !(iget a (0 + r * 4 + c * 1) == iget b (0 + r * 4 + c * 1))) (fun c => (true, decide (iget a (0 + r * 4 + c * 1) < iget b (0 + r * 4 + c * 1)))) (false, default) 0 4).2)) (false, default) (by omega) (by omega) (fun i hi Q kn kx => ?_) fun Q kn kx => ?_
    · have hi' : (i : Int) < 4 := by omega
      simp only [spec_l2Before_s2, hi', decide_true, cond_true, hin i hi, Option.isSome_some, Option.getD_some]
    · simp [spec_l2Before_s2]
  simp only [spec_l2Before_p, spec_l2Before_c, hout, Option.isSome_some, Option.getD_some, cond_true]
  have key : ∀ (n i : Nat), i + n = 16 → (bif (fnd (fun i => !(iget a i == iget b i)) (fun i => (true, decide (iget a i < iget b i))) (false, default) i n).1 then (fnd (fun i => !(iget a i == iget b i)) (fun i => (true, decide (iget a i < iget b i))) (false, default) i n).2 else false) = ltL (a.drop i) (b.drop i) := by
    intro n
    induction n with
    | zero => intro i h; rw [List.drop_eq_nil_of_le (by omega)]; rfl
    | succ n ih =>
      intro i h
      have hia : i < a.length := by omega
      have hib : i < b.length := by omega
      have ga : iget a i = a[i] := by rw [igetL, List.getElem?_eq_getElem hia]; rfl
      have gb : iget b i = b[i] := by rw [igetL, List.getElem?_eq_getElem hib]; rfl
      rw [List.drop_eq_getElem_cons hia, List.drop_eq_getElem_cons hib]
      simp only [fnd, pair_out, ltL]
      rw [ih (i + 1) (by omega), ga, gb]
      cases a[i] == b[i] <;> rfl
  have h0 := key 16 0 rfl
  rw [List.drop_zero, List.drop_zero] at h0
  have e : ∀ (X : Bool × Bool), (bif X.1 then some X.2 else some false) = some (bif X.1 then X.2 else false) := fun X => by cases X.1 <;> rfl
  rw [e, h0]
end Go.Lv.P

namespace Go.Lv.P
open Go Go.Lv
theorem wrap_u8 (n : Int) : 0 ≤ IntKind.wrap .u8 n ∧ IntKind.wrap .u8 n ≤ 255 := by
  have h : ∀ n : Int, IntKind.wrap .u8 n = n % 256 := fun n => by
    rw [IntKind.wrap_u8]
  rw [h]; omega
theorem cut_ok {c : List Int} (hc : Byt c) (hl : c.length ≤ 65536) {n : Nat} (hn : n ≤ 100) : ∃ r, laws_vCut_p c (n : Int) = some r ∧ Byt r := by
  have f1 : ∀ m : Nat, m ≤ 70000 → fits m 1 = true := fun m h => fits_of (by omega) (by omega)
  have sub_mem : ∀ (o s : Nat) (x : Int), x ∈ subn c.length c o s → x ∈ c := fun o s x hx => by
    rw [subn_eqL _ _ _ _ rfl] at hx
    exact List.mem_of_mem_drop (List.mem_of_mem_take hx)
  have sub_le : ∀ (o s : Nat), (subn c.length c o s).length ≤ c.length := fun o s => by
    rw [subn_eqL _ _ _ _ rfl]
    show ((c.drop o).take s).length ≤ _
    rw [List.length_take, List.length_drop]; omega
  have fin : ∀ (o s : Nat) (m : Int), Byt (subn c.length c o s ++ [IntKind.wrap .u8 m]) := fun o s m x hx => by
    rcases List.mem_append.1 hx with h | h
    · exact hc x (sub_mem o s x h)
    · rw [List.mem_singleton] at h
      subst h
      exact wrap_u8 m
  simp only [laws_vCut_p, laws_vCut_c, subn_self, inLe_cast, Nat.le_refl, decide_true, cond_true]
  by_cases h : ((c.length : Nat) : Int) < (n : Int)
  · have e1 := sub_le c.length (c.length - c.length)
    simp only [h, decide_true, cond_true]
    rw [f1 _ (by omega), cond_true, f1 _ (by rw [List.length_append, List.length_singleton]; omega), cond_true]
    exact ⟨_, rfl, fin _ _ _⟩
  · have hle : n ≤ c.length := by omega
    have e1 := sub_le (Int.toNat n) (c.length - Int.toNat n)
    simp only [h, decide_false, cond_false, hle, decide_true, cond_true]
    rw [f1 _ (by omega), cond_true, f1 _ (by rw [List.length_append, List.length_singleton]; omega), cond_true]
    exact ⟨_, rfl, fin _ _ _⟩
end Go.Lv.P

namespace Go.Lv.P
open Go Go.Lv
/-- the sum of a function over numbers -/
def fs (f : Int → Int) : List Int → Int
  | [] => 0
  | x :: r => f x + fs f r
theorem fs_append (f : Int → Int) : ∀ a b : List Int, fs f (a ++ b) = fs f a + fs f b
  | [], b => by simp [fs]
  | x :: a, b => by simp only [List.cons_append, fs, fs_append f a b]; omega
theorem fs_foldl (f : Int → Int) : ∀ (l : List Int) (a : Int), (l.map f).foldl (· + ·) a = a + fs f l
  | [], a => by simp [fs]
  | x :: l, a => by simp only [List.map_cons, List.foldl_cons, fs_foldl f l, fs]; omega
theorem fs_iset (f : Int → Int) : ∀ (l : List Int) (i : Nat) (x : Int), i < l.length → fs f (iset l i x) = fs f l - f (iget l i) + f x
  | [], i, x, h => by simp at h
  | y :: l, 0, x, h => by simp only [iset, iget, fs]; omega
  | y :: l, i + 1, x, h => by
    have := fs_iset f l i x (by simpa using h)
    simp only [iset, iget, fs, this]; omega
theorem fs_filter (f : Int → Int) (h0 : f 0 = 0) : ∀ l : List Int, fs f (l.filter fun x => !(x == 0)) = fs f l
  | [] => rfl
  | x :: l => by
    rw [List.filter_cons]
    cases hx : x == 0 with
    | true =>
      have e := eq_of_beq hx
      subst e
      simp only [Bool.not_true, Bool.false_eq_true, if_false, fs, h0, fs_filter f h0 l]; omega
    | false => simp only [Bool.not_false, if_true, fs, fs_filter f h0 l]
theorem fs_sub (f g : Int → Int) : ∀ l : List Int, fs (fun x => f x - g x) l = fs f l - fs g l
  | [] => rfl
  | x :: l => by simp only [fs, fs_sub f g l]; omega
theorem fs_congr {f g : Int → Int} : ∀ {l : List Int}, (∀ x ∈ l, f x = g x) → fs f l = fs g l
  | [], _ => rfl
  | x :: l, h => by simp only [fs, h x List.mem_cons_self, fs_congr fun y hy => h y (List.mem_cons_of_mem _ hy)]
theorem fs_bound {f : Int → Int} {m : Int} : ∀ {l : List Int}, (∀ x ∈ l, 0 ≤ f x ∧ f x ≤ m) → 0 ≤ fs f l ∧ fs f l ≤ m * l.length
  | [], _ => by simp [fs]
  | x :: l, h => by
    have h1 := h x List.mem_cons_self
    have h2 := fs_bound (f := f) (m := m) fun y hy => h y (List.mem_cons_of_mem _ hy)
    simp only [fs, List.length_cons]
    rw [show m * ((l.length + 1 : Nat) : Int) = m * (l.length : Int) + m by rw [Int.natCast_add, Int.mul_add]; simp]
    omega
/-- what merges when one more tile comes -/
def rhit (s : RS) (x : Int) : Bool := decide (0 < s.1) && (iget s.2.2.2 (0 + (s.1 - 1) * 1) == x) && decide (x < 17) && !s.2.2.1
def mgs : RS → List Int → List Int
  | _, [] => []
  | s, x :: r => bif rhit s x then (x + 1) :: mgs (rstep s x) r else mgs (rstep s x) r
def RI (s : RS) : Prop := s.2.2.2.length = 4 ∧ ∀ j, s.1 ≤ j → j < 4 → iget s.2.2.2 j = 0
theorem iget_iset (l : List Int) (i j : Nat) (x : Int) (h : i < l.length) : iget (iset l i x) j = if i = j then x else iget l j := by
  rw [igetL, igetL, isetL, List.getElem?_set]
  split
  · rename_i e; subst e; simp [h]
  · rfl
theorem rstep_RI {s : RS} {x : Int} (h : RI s) (hs : s.1 < 4) : RI (rstep s x) := by
  unfold rstep
  cases hc : decide (0 < s.1) && (iget s.2.2.2 (0 + (s.1 - 1) * 1) == x) && decide (x < 17) && !s.2.2.1 with
  | true =>
    have h0 : 0 < s.1 := by simp at hc; omega
    refine ⟨by rw [cond_true]; show (iset _ _ _).length = 4; rw [iset_len]; exact h.1, fun j hj hj4 => ?_⟩
    rw [cond_true] at hj ⊢
    have hj : s.1 ≤ j := hj
    show iget (iset s.2.2.2 _ _) j = 0
    rw [iget_iset _ _ _ _ (by rw [h.1]; omega), if_neg (by omega)]
    exact h.2 j hj hj4
  | false =>
    refine ⟨by rw [cond_false]; show (iset _ _ _).length = 4; rw [iset_len]; exact h.1, fun j hj hj4 => ?_⟩
    rw [cond_false] at hj ⊢
    have hj : s.1 + 1 ≤ j := hj
    show iget (iset s.2.2.2 _ _) j = 0
    rw [iget_iset _ _ _ _ (by rw [h.1]; omega), if_neg (by omega)]
    exact h.2 j (by omega) hj4
theorem rstep_fs (f : Int → Int) (h0 : f 0 = 0) {s : RS} {x : Int} (h : RI s) (hs : s.1 < 4) : fs f (rstep s x).2.2.2 = fs f s.2.2.2 + f x + bif rhit s x then f (x + 1) - 2 * f x else 0 := by
  unfold rstep rhit
  cases hc : decide (0 < s.1) && (iget s.2.2.2 (0 + (s.1 - 1) * 1) == x) && decide (x < 17) && !s.2.2.1 with
  | true =>
    have h1 : 0 < s.1 := by simp at hc; omega
    have h2 : iget s.2.2.2 (0 + (s.1 - 1) * 1) = x := by simp at hc; simpa using hc.1.1.2
    rw [cond_true, cond_true]
    show fs f (iset s.2.2.2 _ _) = _
    rw [fs_iset f _ _ _ (by rw [h.1]; omega), h2]; omega
  | false =>
    rw [cond_false, cond_false]
    show fs f (iset s.2.2.2 _ _) = _
    rw [fs_iset f _ _ _ (by rw [h.1]; omega), h.2 (0 + s.1 * 1) (by omega) (by omega), h0]; omega
theorem rfold_fs (f : Int → Int) (h0 : f 0 = 0) : ∀ (l : List Int) (s : RS), RI s → s.1 + l.length ≤ 4 → fs f (l.foldl rstep s).2.2.2 = fs f s.2.2.2 + fs f l + fs (fun m => f m - 2 * f (m - 1)) (mgs s l)
  | [], s, _, _ => by simp [fs, mgs]
  | x :: l, s, h, hl => by
    simp only [List.length_cons] at hl
    have h1 := rstep_n s x
    have ih := rfold_fs f h0 l (rstep s x) (rstep_RI h (by omega)) (by omega)
    have h2 := rstep_fs f h0 (x := x) h (by omega)
    rw [List.foldl_cons, ih, h2]
    simp only [fs, mgs]
    cases rhit s x with
    | true => simp only [cond_true, fs]; rw [show x + 1 - 1 = x by omega]; omega
    | false => simp only [cond_false]; omega
/-- what has merged is of two tiles -/
theorem mgs_ok : ∀ (l : List Int) (s : RS), (∀ x ∈ l, inB x 1 17 = true) → ∀ m ∈ mgs s l, inB m 2 17 = true
  | [], s, _, m, h => by simp [mgs] at h
  | x :: l, s, hl, m, h => by
    have hx := hl x List.mem_cons_self
    simp only [mgs] at h
    have ih := mgs_ok l (rstep s x) (fun y hy => hl y (List.mem_cons_of_mem _ hy))
    cases hh : rhit s x with
    | false => rw [hh] at h; exact ih m h
    | true =>
      rw [hh, cond_true] at h
      rcases List.mem_cons.1 h with rfl | h
      · unfold rhit at hh
        simp only [Bool.and_eq_true, decide_eq_true_eq] at hh
        simp only [inB, Bool.and_eq_true, decide_eq_true_eq] at hx ⊢
        omega
      · exact ih m h
theorem mgs_len : ∀ (l : List Int) (s : RS), (mgs s l).length ≤ l.length
  | [], s => by simp [mgs]
  | x :: l, s => by
    have := mgs_len l (rstep s x)
    simp only [mgs, List.length_cons]
    cases rhit s x
    · rw [cond_false]; omega
    · rw [cond_true, List.length_cons]; omega
theorem kstep_score {s : RS} {x : Int} : (rstep s x).2.1 = bif rhit s x then IntKind.wrap .i64 (s.2.1 + W (x + 1)) else s.2.1 := by
  unfold rstep rhit
  cases decide (0 < s.1) && (iget s.2.2.2 (0 + (s.1 - 1) * 1) == x) && decide (x < 17) && !s.2.2.1 <;> rfl
theorem W_of {m : Int} (h : inB m 2 17 = true) : 0 ≤ W m ∧ W m ≤ 131072 := by
  have h2 : inB m 0 17 = true := by
    simp only [inB, Bool.and_eq_true, decide_eq_true_eq] at h ⊢; omega
  exact ⟨(W_facts h2).1, (W_facts h2).2.1⟩
theorem kfold_score : ∀ (l : List Int) (s : RS), (∀ x ∈ l, inB x 1 17 = true) → 0 ≤ s.2.1 → s.2.1 + 131072 * l.length ≤ 1000000000 → (l.foldl rstep s).2.1 = s.2.1 + fs W (mgs s l)
  | [], s, _, _, _ => by simp [fs, mgs]
  | x :: l, s, hl, h0, h1 => by
    rw [List.foldl_cons]
    rw [List.length_cons, Int.natCast_add] at h1
    have hsc := kstep_score (s := s) (x := x)
    have hr : ∀ y ∈ l, inB y 1 17 = true := fun y hy => hl y (List.mem_cons_of_mem _ hy)
    cases hh : rhit s x with
    | true =>
      rw [hh, cond_true] at hsc
      have hw := W_of (mgs_ok (x :: l) s hl (x + 1) (by simp only [mgs, hh, cond_true]; exact List.mem_cons_self))
      rw [wrap_of (by omega) (by omega)] at hsc
      rw [kfold_score l _ hr (by omega) (by omega), hsc]
      simp only [mgs, hh, cond_true, fs]; omega
    | false =>
      rw [hh, cond_false] at hsc
      rw [kfold_score l _ hr (by omega) (by omega), hsc]
      simp only [mgs, hh, cond_false]
/-- the mergers of a row, by the tiles that they make -/
def rowM (row : List Int) : List Int := mgs (0, 0, false, [0, 0, 0, 0]) (row.filter fun x => !(x == 0))
theorem row_tiles {row : List Int} (h : ∀ x ∈ row, tileOK x) : ∀ x ∈ row.filter (fun x => !(x == 0)), inB x 1 17 = true := by
  intro x hx
  rw [List.mem_filter] at hx
  have h1 := h x hx.1
  have h2 : x ≠ 0 := by simpa using hx.2
  simp only [tileOK, inB, Bool.and_eq_true, decide_eq_true_eq] at h1 ⊢
  omega
section
variable {row : List Int} (hl : row.length = 4) (h : ∀ x ∈ row, tileOK x)
include hl h
theorem row_fs (f : Int → Int) (h0 : f 0 = 0) : fs f (rslide row).2.2.2 = fs f row + fs (fun m => f m - 2 * f (m - 1)) (rowM row) := by
  have hn : (row.filter fun x => !(x == 0)).length ≤ 4 := by rw [← hl]; exact List.length_filter_le _ _
  have := rfold_fs f h0 (row.filter fun x => !(x == 0)) (0, 0, false, [0, 0, 0, 0]) ⟨rfl, fun j _ hj => by
    obtain rfl | rfl | rfl | rfl : j = 0 ∨ j = 1 ∨ j = 2 ∨ j = 3 := by omega
    all_goals rfl⟩ (by simpa using hn)
  rw [fs_filter f h0] at this
  rw [show fs f ((0 : Nat), (0 : Int), false, [0, 0, 0, 0]).2.2.2 = 0 by simp [fs, h0], Int.zero_add] at this
  exact this
theorem row_score : (rslide row).2.1 = fs W (rowM row) := by
  have hn : (row.filter fun x => !(x == 0)).length ≤ 4 := by rw [← hl]; exact List.length_filter_le _ _
  have := kfold_score (row.filter fun x => !(x == 0)) (0, 0, false, [0, 0, 0, 0]) (row_tiles h) (Int.le_refl _) (by show (0 : Int) + _ ≤ _; omega)
  rw [show ((0 : Nat), (0 : Int), false, [(0 : Int), 0, 0, 0]).2.1 = 0 from rfl, Int.zero_add] at this
  exact this
theorem rowM_ok : ∀ m ∈ rowM row, inB m 2 17 = true := mgs_ok _ _ (row_tiles h)
theorem rowM_len : (rowM row).length ≤ 4 := by
  have hn : (row.filter fun x => !(x == 0)).length ≤ 4 := by rw [← hl]; exact List.length_filter_le _ _
  exact Nat.le_trans (mgs_len _ _) hn
end
/-- the mergers of a slide -/
def boardM (b : List Int) (d : Nat) : List Int := rowM (lineB b d 0) ++ rowM (lineB b d 1) ++ rowM (lineB b d 2) ++ rowM (lineB b d 3)
theorem fs_lines (f : Int → Int) {b : List Int} (hb : b.length = 16) {d : Nat} (hd : d < 4) : fs f b = fs f (lineB b d 0) + fs f (lineB b d 1) + fs f (lineB b d 2) + fs f (lineB b d 3) := by
  obtain ⟨x0, x1, x2, x3, x4, x5, x6, x7, x8, x9, x10, x11, x12, x13, x14, x15, rfl⟩ := list16 hb
  obtain rfl | rfl | rfl | rfl : d = 0 ∨ d = 1 ∨ d = 2 ∨ d = 3 := by omega
  all_goals (simp [fs, lineB, plcD, iget]; omega)
theorem put_lines (b r0 r1 r2 r3 : List Int) (hb : b.length = 16) (h0 : r0.length = 4) (h1 : r1.length = 4) (h2 : r2.length = 4) (h3 : r3.length = 4) {d : Nat} (hd : d < 4) :
    lineB (putB (putB (putB (putB b d 0 r0) d 1 r1) d 2 r2) d 3 r3) d 0 = r0 ∧ lineB (putB (putB (putB (putB b d 0 r0) d 1 r1) d 2 r2) d 3 r3) d 1 = r1 ∧ lineB (putB (putB (putB (putB b d 0 r0) d 1 r1) d 2 r2) d 3 r3) d 2 = r2 ∧ lineB (putB (putB (putB (putB b d 0 r0) d 1 r1) d 2 r2) d 3 r3) d 3 = r3 := by
  obtain ⟨x0, x1, x2, x3, x4, x5, x6, x7, x8, x9, x10, x11, x12, x13, x14, x15, rfl⟩ := list16 hb
  obtain ⟨a0, a1, a2, a3, rfl⟩ := list4 h0
  obtain ⟨c0, c1, c2, c3, rfl⟩ := list4 h1
  obtain ⟨g0, g1, g2, g3, rfl⟩ := list4 h2
  obtain ⟨k0, k1, k2, k3, rfl⟩ := list4 h3
  obtain rfl | rfl | rfl | rfl : d = 0 ∨ d = 1 ∨ d = 2 ∨ d = 3 := by omega
  all_goals exact ⟨by kernel_rfl, by kernel_rfl, by kernel_rfl, by kernel_rfl⟩
section
variable {b : List Int} (hb : b.length = 16) (ok : okB b = true)
include hb ok
theorem slide_lines {d : Nat} (hd : d < 4) {i : Nat} (hi : i < 4) : lineB (slideB b d).1 d i = (rslide (lineB b d i)).2.2.2 := by
  have r := fun i hi => (rslide_ok (line_ok hb ((okB_iff b).1 ok) hd (show i < 4 from hi))).1
  have e : (slideB b d).1 = putB (putB (putB (putB b d 0 (rslide (lineB b d 0)).2.2.2) d 1 (rslide (lineB b d 1)).2.2.2) d 2 (rslide (lineB b d 2)).2.2.2) d 3 (rslide (lineB b d 3)).2.2.2 := rfl
  have h := put_lines b _ _ _ _ hb (r 0 (by omega)) (r 1 (by omega)) (r 2 (by omega)) (r 3 (by omega)) hd
  rw [e]
  obtain rfl | rfl | rfl | rfl : i = 0 ∨ i = 1 ∨ i = 2 ∨ i = 3 := by omega
  · exact h.1
  · exact h.2.1
  · exact h.2.2.1
  · exact h.2.2.2
/-- sums over the tiles behind a slide -/
theorem slide_fs (f : Int → Int) (h0 : f 0 = 0) {d : Nat} (hd : d < 4) : fs f (slideB b d).1 = fs f b + fs (fun m => f m - 2 * f (m - 1)) (boardM b d) := by
  have g := fun i (hi : i < 4) => row_fs (row := lineB b d i) rfl (line_ok hb ((okB_iff b).1 ok) hd hi) f h0
  rw [fs_lines f (slide_ok hb ok hd).1 hd, slide_lines hb ok hd (show 0 < 4 by omega), slide_lines hb ok hd (show 1 < 4 by omega), slide_lines hb ok hd (show 2 < 4 by omega), slide_lines hb ok hd (show 3 < 4 by omega),
    g 0 (by omega), g 1 (by omega), g 2 (by omega), g 3 (by omega), fs_lines f hb hd, boardM, fs_append, fs_append, fs_append]
  omega
theorem boardM_ok {d : Nat} (hd : d < 4) : ∀ m ∈ boardM b d, inB m 2 17 = true := by
  have g := fun i (hi : i < 4) => rowM_ok (row := lineB b d i) rfl (line_ok hb ((okB_iff b).1 ok) hd hi)
  intro m hm
  simp only [boardM, List.mem_append] at hm
  rcases hm with ((h | h) | h) | h
  · exact g 0 (by omega) m h
  · exact g 1 (by omega) m h
  · exact g 2 (by omega) m h
  · exact g 3 (by omega) m h
theorem kslide_score {d : Nat} (hd : d < 4) : (slideB b d).2 = fs W (boardM b d) := by
  have g := fun i (hi : i < 4) => row_score (row := lineB b d i) rfl (line_ok hb ((okB_iff b).1 ok) hd hi)
  have k := fun i (hi : i < 4) => rowM_ok (row := lineB b d i) rfl (line_ok hb ((okB_iff b).1 ok) hd hi)
  have n := fun i (hi : i < 4) => rowM_len (row := lineB b d i) rfl (line_ok hb ((okB_iff b).1 ok) hd hi)
  have w := fun i (hi : i < 4) => fs_bound (f := W) (m := 131072) (l := rowM (lineB b d i)) fun m hm => W_of (k i hi m hm)
  have w0 := w 0 (by omega); have w1 := w 1 (by omega); have w2 := w 2 (by omega); have w3 := w 3 (by omega)
  have n0 := n 0 (by omega); have n1 := n 1 (by omega); have n2 := n 2 (by omega); have n3 := n 3 (by omega)
  have e : (slideB b d).2 = IntKind.wrap .i64 (IntKind.wrap .i64 (IntKind.wrap .i64 (IntKind.wrap .i64 (0 + (rslide (lineB b d 0)).2.1) + (rslide (lineB b d 1)).2.1) + (rslide (lineB b d 2)).2.1) + (rslide (lineB b d 3)).2.1) := rfl
  rw [e, g 0 (by omega), g 1 (by omega), g 2 (by omega), g 3 (by omega), boardM, fs_append, fs_append, fs_append]
  rw [wrap_of (n := 0 + fs W (rowM (lineB b d 0))) (by omega) (by omega), wrap_of (n := 0 + fs W (rowM (lineB b d 0)) + fs W (rowM (lineB b d 1))) (by omega) (by omega), wrap_of (n := 0 + fs W (rowM (lineB b d 0)) + fs W (rowM (lineB b d 1)) + fs W (rowM (lineB b d 2))) (by omega) (by omega), wrap_of (by omega) (by omega)]
  omega
end
theorem W_double {m : Int} (h : inB m 2 17 = true) : W m - 2 * W (m - 1) = 0 := by
  have h2 : inB m 0 17 = true := by
    simp only [inB, Bool.and_eq_true, decide_eq_true_eq] at h ⊢; omega
  rcases tile_cases h2 with e | e | e | e | e | e | e | e | e | e | e | e | e | e | e | e | e | e <;> subst e <;> revert h <;> decide
theorem fs_zero {f : Int → Int} : ∀ {l : List Int}, (∀ x ∈ l, f x = 0) → fs f l = 0
  | [], _ => rfl
  | x :: l, h => by simp only [fs, h x List.mem_cons_self, fs_zero fun y hy => h y (List.mem_cons_of_mem _ hy)]; rfl
theorem sumB_fs (b : List Int) : sumB b = fs W b := by
  rw [sumB, fs_foldl]; omega
/-- a slide keeps the sum -/
theorem slide_sum {b : List Int} (hb : b.length = 16) (ok : okB b = true) {d : Nat} (hd : d < 4) : sumB (slideB b d).1 = sumB b := by
  rw [sumB_fs, sumB_fs, slide_fs hb ok W rfl hd, fs_zero fun m hm => W_double (boardM_ok hb ok hd m hm)]
  omega
end Go.Lv.P
