/-
Plain facts of the pure functions, part 4; without conditions.
-/
import Derived.Test.YtabfliifleonaaeQeP0
import Derived.Test.YtabfliifleonaaeQeP1
import Derived.Test.YtabfliifleonaaeQePG1
import Derived.Test.YtabfliifleonaaeQePG3
import Derived.Test.YtabfliifleonaaeQePG2
import Derived.Test.YtabfliifleonaaeQeP3
set_option linter.unusedVariables false
set_option linter.unusedSimpArgs false
set_option linter.unusedSectionVars false
namespace Go.Lv.P
open Go Go.Lv
theorem inR4d {x : Int} (h : inB x 0 3 = true) : inR x 4 = true := by
  simp [inB] at h
  exact inR_true h.1 (by omega)
theorem do_tot (F : Nat) {b : List Int} (hb : b.length = 16) (hB : okB b = true) {s : List Int} (hs : s.length = 4) (hF : 1000 < F) :
    ∃ (nb : List Int) (sc : Int) (o : Bool), spec_l5Do_p F b s = some (nb, sc, o) ∧ nb.length = 16 := by
  obtain ⟨d, r, c, t, rfl⟩ := list4 hs
  have s1 : sub [d, r, c, t] 1 2 = [r, c] := rfl
  have g0 : iget [d, r, c, t] 0 = d := rfl
  have g3 : iget [d, r, c, t] 3 = t := rfl
  have q0 : iget [r, c] 0 = r := rfl
  have q1 : iget [r, c] 1 = c := rfl
  simp only [spec_l5Do_p, spec_l5Do_c, Option.isSome_some, Option.getD_some, cond_true, spec_l2Side_v, l1In_eq, in_eq, s1, g0, g3, spec_l2Cell_v, cond_and, q0, q1]
  cases hd : inB d 0 3 with
  | false => exact ⟨_, _, false, rfl, rfl⟩
  | true =>
    cases hr : inB r 0 3 with
    | false => exact ⟨_, _, false, rfl, rfl⟩
    | true =>
      cases hc : inB c 0 3 with
      | false => exact ⟨_, _, false, rfl, rfl⟩
      | true =>
        obtain ⟨n, rfl, hn⟩ : ∃ n : Nat, d = n ∧ n < 4 := by
          simp [inB] at hd
          exact ⟨d.toNat, by omega, by omega⟩
        have hat : ∀ x : List Int, spec_l2At_p x [r, c] = some (iget x (0 + r.toNat * 4 + c.toNat * 1)) := fun x => by
          simp only [spec_l2At_p, spec_l2At_c, q0, q1, inR4d hr, inR4d hc, cond_true]
        have hput : ∀ (x : List Int), spec_l2Put_p x [r, c] t = some (iset x (0 + r.toNat * 4 + c.toNat * 1) t) := fun x => by
          simp only [spec_l2Put_p, spec_l2Put_c, q0, q1, inR4d hr, inR4d hc, cond_true]
        have hok := slide_ok hb hB hn
        simp only [spec_slide hb hB F hF hn, hat, hput, Option.isSome_some, Option.getD_some, cond_true, Bool.not_true, cond_false, Bool.and_self]
        generalize slideB b n = w at *
        obtain ⟨w1, w2⟩ := w
        simp only at hok ⊢
        cases w1 == b with
        | true => cases inB t 1 2 <;> exact ⟨_, _, false, rfl, rfl⟩
        | false =>
          cases ht : inB t 1 2 with
          | false => cases iget w1 (0 + r.toNat * 4 + c.toNat * 1) == 0 <;> exact ⟨_, _, false, rfl, rfl⟩
          | true =>
            cases iget w1 (0 + r.toNat * 4 + c.toNat * 1) == 0 with
            | false => exact ⟨_, _, false, rfl, rfl⟩
            | true => exact ⟨_, _, true, rfl, iset_len16 hok.1 _ _⟩
theorem play_tot (F : Nat) {b : List Int} (hb : b.length = 16) {s : List Int} (hs : s.length = 4) (hF : 1000 < F) : ∃ (nb : List Int) (sc n : Int) (o : Bool), spec_PlaySteps_p F b [s] = some (nb, sc, n, o) ∧ nb.length = 16 := by
  simp only [spec_PlaySteps_p, spec_PlaySteps_c, spec_l2Board_eq F b hb hF, Option.isSome_some, Option.getD_some, cond_true]
  cases hB : okB b with
  | false => exact ⟨_, _, _, false, rfl, rfl⟩
  | true =>
    obtain ⟨nb, sc, o, e, l⟩ := do_tot F hb hB hs hF
    obtain ⟨G, rfl⟩ : ∃ G, F = G + 2 := ⟨F - 2, by omega⟩
    have r0 : rget [s] (Int.toNat 0) = s := rfl
    have hl : [s].length = 1 := rfl
    have c1 : ((1 : Nat) : Int) = 1 := rfl
    have d0 : decide ((0 : Int) < 1) = true := by decide
    have d1 : decide ((1 : Int) < 1) = false := by decide
    have i0 : inR 0 1 = true := by decide
    have w0 : IntKind.wrap .i64 ((0 : Int) + 1) = 1 := by decide
    cases o with
    | false =>
      have h : spec_PlaySteps_l5 (G + 2) [s] 0 0 b = some (true, 0, 0, b, default, default) := by
        simp only [spec_PlaySteps_l5, loopC, spec_PlaySteps_s5, hl, c1, d0, i0, r0, e, Option.isSome_some, Option.getD_some, cond_true, Bool.not_false]
      simp only [h, Option.isSome_some, Option.getD_some, cond_true, cond_false, Bool.not_true]
      exact ⟨_, _, _, _, rfl, hb⟩
    | true =>
      have h : spec_PlaySteps_l5 (G + 2) [s] 0 0 b = some (false, default, default, default, IntKind.wrap .i64 (0 + sc), nb) := by
        simp only [spec_PlaySteps_l5, loopC, spec_PlaySteps_s5, hl, c1, d0, d1, i0, r0, w0, e, Option.isSome_some, Option.getD_some, cond_true, cond_false, Bool.not_true]
      simp only [h, Option.isSome_some, Option.getD_some, cond_true, cond_false, Bool.not_true]
      exact ⟨_, _, _, _, rfl, l⟩
theorem draw_mb {c : List Int} (hc : Byt c) (F : Nat) (hF : 1000 < F) : ∃ (a b : List Int), spec_DrawMovesBetween_p F c = some (a, b) ∧ a.length = 16 ∧ b.length = 16 := by
  obtain ⟨a, a1, s1, e1, l1, c1⟩ := board_ok hc F hF (n := 0) (by omega) (a := 0) (s := 0) ⟨by omega, by omega⟩
  obtain ⟨b, a2, s2, e2, l2, c2⟩ := board_ok hc F hF (by omega) c1 (s := s1)
  obtain ⟨f3, a3, s3, e3, c3⟩ := one_ok hc (by omega) (q := 2) (by decide) (by decide) c2 (s := s2)
  obtain ⟨v4, a4, s4, e4, l4, c4⟩ := step5_ok hc F hF l1 (by omega) c3 (s := s3)
  obtain ⟨nb, sc, n, o, e5, l5⟩ := play_tot F l1 l4 hF
  have q2 : ((2 : Nat) : Int) = 2 := rfl
  rw [q2] at e3
  simp only [spec_DrawMovesBetween_p, spec_DrawMovesBetween_c, e1, e2, e3, e4, e5, Option.isSome_some, Option.getD_some, cond_true]
  cases f3 with
  | true => exact ⟨_, _, rfl, l1, l5⟩
  | false => exact ⟨_, _, rfl, l1, l2⟩
end Go.Lv.P

namespace Go.Lv.P
open Go Go.Lv
theorem contains_packed (F : Nat) (s : List Int) (hs : s.length ≤ 1000) (hF : 1000 < F) : slices_ContainsFunc_intint_impl_IsPackedBoard_f1_p F s = some (s.any fun x => decide (1 < x)) := by
  have h : slices_IndexFunc_intint_impl_IsPackedBoard_f1_l2 F s s.length 0 = some (fnd (fun i => decide (1 < iget s i)) (fun i => (true, (i : Int))) (false, default) 0 s.length) := by
    refine loop_find (fun i => i) s.length _ _ _ (by omega) (by omega) (fun i hi Q kn kx => ?_) fun Q kn kx => ?_
    · simp only [slices_IndexFunc_intint_impl_IsPackedBoard_f1_s2, inR_cast, hi, impl_IsPackedBoard_f1_v, Int.toNat_natCast, decide_true, cond_true, Int.ofNat_lt]
    · simp [slices_IndexFunc_intint_impl_IsPackedBoard_f1_s2]
  simp only [slices_ContainsFunc_intint_impl_IsPackedBoard_f1_p, slices_ContainsFunc_intint_impl_IsPackedBoard_f1_c, slices_IndexFunc_intint_impl_IsPackedBoard_f1_p, slices_IndexFunc_intint_impl_IsPackedBoard_f1_c, h, Option.isSome_some, Option.getD_some, cond_true]
  rw [← any_iget s fun x => decide (1 < x), ← fnd_place]
  cases (fnd (fun i => decide (1 < iget s i)) (fun i => (true, (i : Int))) (false, default) 0 s.length).1 <;> rfl
theorem fnd_any' (p : Nat → Bool) : ∀ m i, fnd p (fun _ => true) false i m = (List.range' i m).any p
  | 0, i => rfl
  | m + 1, i => by
    simp only [fnd, fnd_any' p m, List.range'_succ, List.any_cons]
    cases p i <;> rfl
theorem many_eq (c : List Int) (hc : c.length = 18) : ((List.range' 1 17).any fun t => decide (1 < iget c (0 + t * 1))) = (sub c 1 17).any fun x => decide (1 < x) := by
  match c, hc with
  | [x0, x1, x2, x3, x4, x5, x6, x7, x8, x9, x10, x11, x12, x13, x14, x15, x16, x17], _ => simp [sub, List.range'_succ, iget, Bool.or_assoc]; rfl
/-- whether no tile is there twice -/
def packedV (b : List Int) : Bool × Bool := bif okB b then (!(sub (b.foldl bump zero18) 1 17).any fun x => decide (1 < x), true) else (false, false)
theorem packed_val (F : Nat) (b : List Int) (hb : b.length = 16) (hF : 1000 < F) : spec_IsPackedBoard_p F b = some (packedV b) ∧ impl_IsPackedBoard_p F b = some (packedV b) := by
  unfold packedV
  simp only [spec_IsPackedBoard_p, spec_IsPackedBoard_c, impl_IsPackedBoard_p, impl_IsPackedBoard_c, spec_Count_eq F b hb hF, impl_Count_eq F b hb hF, Option.isSome_some, Option.getD_some, cond_true]
  have l3 : ∀ ok (c : List Int), c.length = 18 → spec_IsPackedBoard_l3 F ok c 1 = some ((sub c 1 17).any fun x => decide (1 < x)) := fun ok c hc => by
    rw [← many_eq c hc, ← fnd_any']
    refine loop_find_gen (mk := fun i => i) (n := 18) (by omega) (fun i hi Q kn kx => ?_) (fun Q kn kx => ?_) 17 1 F rfl (by omega) some
    · have hi' : (i : Int) ≤ 17 := by omega
      simp only [spec_IsPackedBoard_s3, hi', inR_cast, hi, Int.toNat_natCast, decide_true, cond_true]
    · simp [spec_IsPackedBoard_s3]
  cases hB : okB b with
  | false => 
    simp only [cond_false]
    rw [l3 _ _ rfl]
    first | exact ⟨rfl, rfl⟩ | exact ⟨trivial, rfl⟩ | exact ⟨rfl, trivial⟩ | exact ⟨trivial, trivial⟩
  | true =>
    simp only [cond_true]
    have hl : (b.foldl bump zero18).length = 18 := by rw [bumps_len]; rfl
    rw [l3 _ _ hl, contains_packed F _ (by simp [sub]; omega) hF]
    cases ((sub (b.foldl bump zero18) 1 17).any fun x => decide (1 < x)) <;> first | exact ⟨rfl, rfl⟩ | exact ⟨trivial, rfl⟩ | exact ⟨rfl, trivial⟩ | exact ⟨trivial, trivial⟩
theorem packed_dis {b : List Int} (hb : b.length = 16) (h : (packedV b).1 = true) : okB b = true ∧ Dis b := by
  unfold packedV at h
  cases ok : okB b with
  | false => rw [ok] at h; cases h
  | true =>
    rw [ok, cond_true] at h
    refine ⟨rfl, dis_of hb ((okB_iff b).1 ok) fun t h1 h2 => ?_⟩
    have h : ((sub (b.foldl bump zero18) 1 17).any fun x => decide (1 < x)) = false := by simpa using h
    rw [List.any_eq_false] at h
    rw [← count_get hb ((okB_iff b).1 ok) t (by omega)]
    have hl : (b.foldl bump zero18).length = 18 := by rw [bumps_len]; rfl
    have := h (iget (b.foldl bump zero18) t) (by
      rw [sub, igetL, List.getElem?_eq_getElem (by omega)]
      refine List.mem_of_getElem? (i := t - 1) ?_
      rw [List.getElem?_take, if_pos (by omega), List.getElem?_drop, show 1 + (t - 1) = t by omega, List.getElem?_eq_getElem (by omega)]; rfl)
    simpa using this
end Go.Lv.P
