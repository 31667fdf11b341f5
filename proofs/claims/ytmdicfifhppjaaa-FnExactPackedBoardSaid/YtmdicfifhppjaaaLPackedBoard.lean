/-
FnExactPackedBoard: both say the same.
-/
import Derived.Test.YtmdicfifhppjaaaTBP0
import Derived.Test.YtmdicfifhppjaaaTBP1
import Derived.Test.YtmdicfifhppjaaaPTop
import Derived.Test.YtmdicfifhppjaaaPFor
import Derived.Test.YtmdicfifhppjaaaPEqB
namespace Go.Lv.P
open Go Go.Lv
set_option linter.unusedVariables false
set_option linter.unusedSimpArgs false

abbrev zero16 : List Int := [0, 0, 0, 0, 0, 0, 0, 0, 0, 0, 0, 0, 0, 0, 0, 0]
/-- the first tiles of a list, laid -/
def laid (l : List Int) (i : Nat) : List Int := fld (fun i b => iset b i (iget l i)) 0 i zero16
theorem fld_last {A : Type} (g : Nat → A → A) : ∀ (m i : Nat) (a : A), fld g i (m + 1) a = g (i + m) (fld g i m a)
  | 0, i, a => rfl
  | m + 1, i, a => by
    rw [fld, fld_last g m (i + 1) (g i a), fld, show i + 1 + m = i + (m + 1) by omega]
theorem laid_succ (l : List Int) (i : Nat) : laid l (i + 1) = iset (laid l i) i (iget l i) := by
  rw [laid, fld_last, Nat.zero_add]; rfl

theorem put_at (b : List Int) (t : Int) : ∀ i : Nat, i < 16 → spec_l2Put_p b [(IntKind.wrap .i64 (Int.tdiv (i : Int) (4 : Int))), (Int.tmod (i : Int) (4 : Int))] t = some (iset b i t) := by
  intro i hi
  obtain rfl | rfl | rfl | rfl | rfl | rfl | rfl | rfl | rfl | rfl | rfl | rfl | rfl | rfl | rfl | rfl : i = 0 ∨ i = 1 ∨ i = 2 ∨ i = 3 ∨ i = 4 ∨ i = 5 ∨ i = 6 ∨ i = 7 ∨ i = 8 ∨ i = 9 ∨ i = 10 ∨ i = 11 ∨ i = 12 ∨ i = 13 ∨ i = 14 ∨ i = 15 := by omega
  all_goals kernel_rfl

abbrev cells16 : List (List Int) := [[0, 0], [0, 1], [0, 2], [0, 3], [1, 0], [1, 1], [1, 2], [1, 3], [2, 0], [2, 1], [2, 2], [2, 3], [3, 0], [3, 1], [3, 2], [3, 3]]
theorem at_cell (b : List Int) : ∀ i : Nat, i < 16 → impl_Board_at_p (rget cells16 (0 + i)) b = some i := by
  intro i hi
  obtain rfl | rfl | rfl | rfl | rfl | rfl | rfl | rfl | rfl | rfl | rfl | rfl | rfl | rfl | rfl | rfl : i = 0 ∨ i = 1 ∨ i = 2 ∨ i = 3 ∨ i = 4 ∨ i = 5 ∨ i = 6 ∨ i = 7 ∨ i = 8 ∨ i = 9 ∨ i = 10 ∨ i = 11 ∨ i = 12 ∨ i = 13 ∨ i = 14 ∨ i = 15 := by omega
  all_goals rfl

theorem worth_top (t : Nat) (h1 : 1 ≤ t) (h2 : t ≤ 17) : impl_worth_p (t : Int) = some ((2 ^ t : Nat) : Int) := by
  obtain rfl | rfl | rfl | rfl | rfl | rfl | rfl | rfl | rfl | rfl | rfl | rfl | rfl | rfl | rfl | rfl | rfl : t = 1 ∨ t = 2 ∨ t = 3 ∨ t = 4 ∨ t = 5 ∨ t = 6 ∨ t = 7 ∨ t = 8 ∨ t = 9 ∨ t = 10 ∨ t = 11 ∨ t = 12 ∨ t = 13 ∨ t = 14 ∨ t = 15 ∨ t = 16 ∨ t = 17 := by omega
  all_goals kernel_rfl

theorem drop_cons {l r : List Int} {x : Int} {i : Nat} (h : l.drop i = x :: r) : i < l.length ∧ iget l i = x ∧ l.drop (i + 1) = r := by
  have hi : i < l.length := by
    by_cases h1 : i < l.length
    · exact h1
    · rw [List.drop_eq_nil_of_le (by omega)] at h; cases h
  rw [List.drop_eq_getElem_cons hi] at h
  injection h with h1 h2
  exact ⟨hi, by rw [igetL, List.getElem?_eq_getElem hi, ← h1]; rfl, h2⟩

theorem packed_same (F : Nat) (s : Int) (hF : 1000 < F) : ∃ v, spec_PackedBoard_p F s = some v ∧ impl_PackedBoard_p F s = some v := by
  simp only [spec_PackedBoard_p, spec_PackedBoard_c, impl_PackedBoard_p, impl_PackedBoard_c, sumfor_same F s hF, Option.isSome_some, Option.getD_some, cond_true]
  cases h : impl_isFor_v s with
  | false => exact ⟨_, rfl, rfl⟩
  | true =>
    obtain ⟨n, rfl, hn, he⟩ := isFor_nat h
    have hlen : (lst 17 n).length ≤ 16 := by
      have h' := h
      simp only [impl_isFor_v, least_impl n hn he] at h'
      cases h1 : impl_isSum_v (n : Int) with
      | false => rw [h1] at h'; exact absurd (show false = true from h') (by decide)
      | true =>
        cases h2 : Int.tmod (n : Int) 2 == 0 with
        | false => rw [h1, h2] at h'; exact absurd (show false = true from h') (by decide)
        | true =>
          rw [h1, h2] at h'
          simp only [cond_true, decide_eq_true_eq] at h'
          rw [lst_len]
          omega
    have e1 : spec_PackedBoard_l5 F (lst 17 n) 0 zero16 = some (laid (lst 17 n) (lst 17 n).length) := by
      refine (loop_fold (step := spec_PackedBoard_s5 F (lst 17 n)) (fun i a => (i, a)) (lst 17 n).length (fun i b => iset b i (iget (lst 17 n) i)) (fun a => a) (fun _ _ => True) (F := F) (by omega) (by omega) (a := zero16) trivial (fun i b hi _ => ⟨trivial, fun Q kn kx => ?_⟩) (fun a _ Q kn kx => by simp [spec_PackedBoard_s5])).1
      simp only [spec_PackedBoard_s5, Int.ofNat_lt, inR_cast, hi, Int.toNat_natCast, decide_true, cond_true, Nat.zero_add, put_at b _ i (by omega), Option.isSome_some, Option.getD_some]
    have e2 : impl_PackedBoard_l5 F n 0 zero16 = some (laid (lst 17 n) (lst 17 n).length) := by
      have hh := loop_fold (step := impl_PackedBoard_s5 F) (fun i (a : Nat × List Int) => ((a.1 : Int), i, a.2)) 16 (fun i a => if a.1 = 0 then a else (a.1 - 2 ^ top a.1, iset a.2 i ((top a.1 : Nat) : Int))) (fun a => a.2) (fun i a => a.1 ≤ 2097152 ∧ a.1 % 2 = 0 ∧ lst 17 a.1 = (lst 17 n).drop i ∧ a.2 = laid (lst 17 n) (min i (lst 17 n).length)) (F := F) (by omega) (by omega) (a := (n, zero16)) ⟨hn, he, rfl, by simp [laid, fld]⟩
        (fun i a hi ⟨h1, h2, h3, h4⟩ => by
          obtain ⟨m, b⟩ := a
          simp only at h1 h2 h3 h4 ⊢
          have hi' : (i : Int) < 16 := by omega
          by_cases h0 : m = 0
          · subst h0
            rw [lst_zero] at h3
            have hle : (lst 17 n).length ≤ i := List.drop_eq_nil_iff.1 h3.symm
            refine ⟨⟨h1, h2, ?_, ?_⟩, fun Q kn kx => ?_⟩
            · show lst 17 0 = _
              rw [lst_zero, List.drop_eq_nil_of_le (by omega)]
            · show b = _
              rw [h4, Nat.min_eq_right hle, Nat.min_eq_right (by omega)]
            · simp only [impl_PackedBoard_s5, hi', inR_cast, hi, decide_true, cond_true, if_true]
              rfl
          · have hm2 : 2 ≤ m := by omega
            obtain ⟨t1, t2, t3, t4⟩ := top_facts hm2 h2
            have ht := lst_top 17 m hm2 (by omega)
            rw [h3] at ht
            obtain ⟨d1, d2, d3⟩ := drop_cons ht
            have d2 : iget (lst 17 n) i = ((top m : Nat) : Int) := d2
            have d3 : (lst 17 n).drop (i + 1) = lst 17 (m - 2 ^ top m) := d3
            simp only [h0, if_false]
            have hlg : m.log2 < 64 := (Nat.log2_lt h0).2 (by omega)
            refine ⟨⟨Nat.le_trans (Nat.sub_le _ _) h1, t4, d3.symm, ?_⟩, fun Q kn kx => ?_⟩
            · rw [h4, Nat.min_eq_left (by omega), Nat.min_eq_left (by omega), laid_succ, d2]
            · have hp : decide ((0 : Int) < (m : Int)) = true := decide_eq_true (by omega)
              have hw : IntKind.wrap .i64 (((m.log2 + 1 : Nat) : Int) - 1) = (m.log2 : Int) := by
                rw [wrap_of (by omega) (by omega)]; omega
              have e : (if (17 : Int) < (m.log2 : Int) then (17 : Int) else (m.log2 : Int)) = ((top m : Nat) : Int) := by
                unfold top
                by_cases hh : 17 < m.log2
                · rw [if_pos (by omega), Nat.min_eq_left (by omega)]; rfl
                · rw [if_neg (by omega), Nat.min_eq_right (by omega)]
              have hs : IntKind.wrap .i64 ((m : Int) - ((2 ^ top m : Nat) : Int)) = ((m - 2 ^ top m : Nat) : Int) := by
                have : ∀ p : Nat, p ≤ m → IntKind.wrap .i64 ((m : Int) - (p : Int)) = ((m - p : Nat) : Int) := fun p hp => by
                  rw [wrap_of (by omega) (by omega)]; omega
                exact this _ t3
              simp only [impl_PackedBoard_s5, hi', inR_cast, hi, Int.toNat_natCast, decide_true, cond_true, hp, len_eq m (by omega), h0, if_false, Option.isSome_some, Option.getD_some, at_cell b i hi, hw, e, worth_top (top m) t1 t2, hs])
        (fun a _ Q kn kx => by simp [impl_PackedBoard_s5])
      refine hh.1.trans (congrArg some ?_)
      rw [hh.2.2.2.2, Nat.min_eq_right hlen]
    refine ⟨(laid (lst 17 n) (lst 17 n).length, true), ?_, ?_⟩
    · simp only [least_list F n hF hn, e1, Option.isSome_some, Option.getD_some, cond_true, Bool.not_true, cond_false, beq_selfL, Bool.and_self]
    · simp only [e2, Option.isSome_some, Option.getD_some, cond_true, Bool.not_true, cond_false]

theorem law_PackedBoard (F : Nat) (s : Int) (_ : Rng s) (hF : 1000 < F) : laws_FnExactPackedBoard_p F s = some true := by
  obtain ⟨v, h1, h2⟩ := packed_same F s hF
  simp only [laws_FnExactPackedBoard_p, laws_FnExactPackedBoard_c, h1, h2, Option.isSome_some, Option.getD_some, cond_true, eqBoard_refl F _ hF, beq_self_eq_true, Bool.not_true, cond_false]
end Go.Lv.P
