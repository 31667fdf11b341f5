/-
Marks in slices of steps.
-/
import Derived.Test.YtgpadaadcepgaaaTHP3
import Derived.Test.YtgpadaadcepgaaaTHP6
import Derived.Test.YtgpadaadcepgaaaTHP7
import Derived.Test.YtgpadaadcepgaaaTHPMark
namespace Go.Lv.P
open Go Go.Lv
set_option linter.unusedVariables false
set_option linter.unusedSimpArgs false

theorem eqIntA2_refl (F : Nat) (a : List Int) (hF : 1000 < F) : laws_eqIntA2_p F a a = some true := by
  have h : laws_eqIntA2_l2 F a a 0 = some false := by
    refine (loop_fold (step := laws_eqIntA2_s2 F a a) (fun i (_ : Unit) => i) 2 (fun _ a => a) (fun _ => false) (fun _ _ => True) (F := F) (by omega) (by omega) (a := ()) trivial (fun i _ hi _ => ⟨trivial, fun Q kn kx => ?_⟩) (fun _ _ Q kn kx => by simp [laws_eqIntA2_s2])).1
    have hi' : (i : Int) < 2 := by omega
    simp only [laws_eqIntA2_s2, hi', inR_cast, hi, decide_true, cond_true, beq_self_eq_true, Bool.not_true, cond_false]
  simp only [laws_eqIntA2_p, laws_eqIntA2_c, h, Option.isSome_some, Option.getD_some, cond_true, cond_false]

theorem eqStep_refl (F : Nat) (a : List Int) (hF : 1000 < F) : laws_eqStep_p F a a = some true := by
  simp only [laws_eqStep_p, laws_eqStep_c, eqIntA2_refl F _ hF, beq_self_eq_true, Bool.not_true, cond_false, Option.isSome_some, Option.getD_some, cond_true]

theorem eqStepS_refl (F : Nat) (a : LL) (ha : a.length ≤ 2000000) (hF : 1000 < F) (hF' : a.length < F) : laws_eqStepS_p F a a = some true := by
  have h : laws_eqStepS_l4 F a a 0 = some false := by
    refine (loop_fold (step := laws_eqStepS_s4 F a a) (fun i (_ : Unit) => i) a.length (fun _ a => a) (fun _ => false) (fun _ _ => True) (F := F) (by omega) (by omega) (a := ()) trivial (fun i _ hi _ => ⟨trivial, fun Q kn kx => ?_⟩) (fun _ _ Q kn kx => by simp [laws_eqStepS_s4])).1
    have hi' : (i : Int) < a.length := by omega
    simp only [laws_eqStepS_s4, hi', inR_cast, hi, Int.toNat_natCast, decide_true, cond_true, eqStep_refl F _ hF, Option.isSome_some, Option.getD_some, Bool.not_true, cond_false]
  simp only [laws_eqStepS_p, laws_eqStepS_c, h, beq_self_eq_true, Bool.not_true, cond_false, Option.isSome_some, Option.getD_some, cond_true]

theorem markStepS_row (F n i : Nat) (c : Int) (a : LL) (hi : i < n) (hn : n ≤ a.length) (ha : ∀ x ∈ a.take n, x.length = 4) (hc0 : 0 ≤ c) (hc : c ≤ 1000000000) (hF : 1000 < F) (Q : Type) (kn : Int × Int × LL → Option Q) (kx : Int × LL → Option Q) :
    laws_markStepS_s2 F n Q (c, (i : Int), a) kn kx = kn (c + 4, IntKind.wrap .i64 ((i : Int) + 1), rset a i [c, c + 1, c + 2, c + 3]) := by
  have hil : i < a.length := by omega
  obtain ⟨x0, x1, x2, x3, hx⟩ := list4 (ha (a[i]) (get_take hi hn))
  have hg : rget a i = [x0, x1, x2, x3] := by rw [rgetL, List.getElem?_eq_getElem hil, hx]; rfl
  have w1 : ∀ x : Int, 0 ≤ x → x ≤ 2000000000 → IntKind.wrap .i64 (x + 1) = x + 1 := fun x h h' => wrap_of (by omega) (by omega)
  have gs : ∀ (l : LL) (x : List Int), i < l.length → rget (rset l i x) i = x := fun l x hl => by rw [rsetL, rgetL, List.getElem?_set_self hl]; rfl
  have ss : ∀ (l : LL) (x y : List Int), rset (rset l i x) i y = rset l i y := fun l x y => by simp only [rsetL, List.set_set]
  have rl : ∀ (l : LL) (x : List Int), (rset l i x).length = l.length := fun l x => by simp [rsetL]
  have h7 : laws_markStepS_l7 F n i (c + 1) 0 (rset a i [c, x1, x2, x3]) = some (c + 3, rset a i [c, c + 1, c + 2, x3]) := by
    have h5 := loop_fold (step := laws_markStepS_s7 F n i) (fun j (a : Int × LL) => (a.1, j, a.2)) 2 (fun j s => (IntKind.wrap .i64 (s.1 + 1), rset s.2 (0 + i) (iset (rget s.2 (0 + i)) (1 + j * 1) s.1))) (fun s => s) (fun _ _ => True) (F := F) (by omega) (by omega) (a := (c + 1, rset a i [c, x1, x2, x3])) trivial
      (fun j s' hj _ => ⟨trivial, fun Q kn kx => by
        have hj' : (j : Int) < 2 := by omega
        simp only [laws_markStepS_s7, hj', inR_cast, hi, hj, Int.toNat_natCast, decide_true, cond_true]⟩) (fun s' _ Q kn kx => by simp [laws_markStepS_s7])
    refine h5.1.trans ?_
    simp only [fld, Nat.zero_add, gs, ss, rl, hil]
    rw [w1 (c + 1) (by omega) (by omega), w1 (c + 1 + 1) (by omega) (by omega)]
    simp only [Option.some.injEq, Prod.mk.injEq]
    refine ⟨by omega, ?_⟩
    congr 1
    show [c, c + 1, c + 1 + 1, x3] = _
    simp only [List.cons.injEq, and_true, true_and]
    omega
  have hi' : (i : Int) < (n : Int) := by omega
  have e0 : iset [x0, x1, x2, x3] 0 c = [c, x1, x2, x3] := rfl
  have e3 : iset [c, c + 1, c + 2, x3] 3 (c + 3) = [c, c + 1, c + 2, c + 3] := rfl
  have e4 : IntKind.wrap .i64 (c + 4) = c + 4 := wrap_of (by omega) (by omega)
  simp only [laws_markStepS_s2, hi', inR_cast, hi, Int.toNat_natCast, decide_true, cond_true, Nat.zero_add, hg, w1 c hc0 (by omega), e0, h7, Option.isSome_some, Option.getD_some, gs, ss, rl, hil, e3, e4, show c + 3 + 1 = c + 4 by omega]

theorem mrow4 (c : Int) : mrow 4 c = [c, c + 1, c + 2, c + 3] := by simp [mrow, List.range_succ]

theorem markStepS_eq (F n : Nat) (a : LL) (ha : ∀ x ∈ a.take n, x.length = 4) (hn : n ≤ a.length) (hb : n ≤ 900000) (hF : 1000 < F) (hF' : n < F) : ∃ a', laws_markStepS_p F n 1 a = some (1 + 4 * (n : Int), a') ∧ a'.length = a.length ∧ a'.take n = mrows 4 1 n := by
  obtain ⟨a', h1, h2, h3⟩ := mark_gen (step := laws_markStepS_s2 F n) 4 n F 1 a ha hn (by omega) (by omega)
    (fun i a' hi hl h4 Q kn kx => by
      rw [markStepS_row F n i _ a' hi (by omega) h4 (by omega) (by omega) hF Q kn kx, mrow4]
      congr 2
      all_goals omega) (fun c a' Q kn kx => by simp [laws_markStepS_s2])
  have h1 : laws_markStepS_l2 F n 1 0 a = some (1 + 4 * (n : Int), a') := h1
  exact ⟨a', by simp only [laws_markStepS_p, laws_markStepS_c, h1, Option.isSome_some, Option.getD_some, cond_true], h2, h3⟩

theorem heldStepS_eq (F n : Nat) (hn : n ≤ 900000) (hF : 1000 < F) (hF' : n < F) : laws_heldStepS_p F (mrows 4 1 n) 1 = some (1 + 4 * (n : Int)) := by
  have h := held_gen (step := laws_heldStepS_s2 F (mrows 4 1 n)) 4 n F 1 (by omega) (by omega)
    (fun i hi Q kn kx => by
      have hg := mrows_get 4 1 n i hi
      rw [mrow4] at hg
      have e : ((4 : Nat) : Int) = 4 := rfl
      rw [e] at hg ⊢
      generalize hc : (1 : Int) + 4 * (i : Int) = c at hg ⊢
      have w1 : ∀ x : Int, 0 ≤ x → x ≤ 2000000000 → IntKind.wrap .i64 (x + 1) = x + 1 := fun x h h' => wrap_of (by omega) (by omega)
      have h8 : laws_heldStepS_l8 F (mrows 4 1 n) i (c + 1) 0 = some (false, c + 3) := by
        have h5 := loop_fold (step := laws_heldStepS_s8 F (mrows 4 1 n) i) (fun j (a : Int) => (a, j)) 2 (fun j s => s + 1) (fun s => (false, s)) (fun j s => s = c + 1 + (j : Int)) (F := F) (by omega) (by omega) (a := c + 1) (by simp)
          (fun j s hj hs => ⟨by omega, fun Q kn kx => by
            have hj' : (j : Int) < 2 := by omega
            have hq : iget [c, c + 1, c + 2, c + 3] (1 + j * 1) = s := by
              rw [hs]
              obtain rfl | rfl : j = 0 ∨ j = 1 := by omega
              · simp [iget]
              · simp [iget]; omega
            simp only [laws_heldStepS_s8, hj', inR_cast, mrows_len, hi, hj, Int.toNat_natCast, decide_true, cond_true, hg, hq, beq_self_eq_true, Bool.not_true, cond_false, w1 s (by omega) (by omega)]⟩) (fun s _ Q kn kx => by simp [laws_heldStepS_s8])
        refine h5.1.trans ?_
        rw [h5.2]
        simp only [Option.some.injEq, Prod.mk.injEq, true_and]
        omega
      have hi' : (i : Int) < (n : Int) := by omega
      have q0 : iget [c, c + 1, c + 2, c + 3] 0 = c := rfl
      have q3 : iget [c, c + 1, c + 2, c + 3] 3 = c + 3 := rfl
      have e4 : (1 : Int) + 4 * ((i + 1 : Nat) : Int) = c + 3 + 1 := by omega
      simp only [laws_heldStepS_s2, hi', inR_cast, mrows_len, hi, Int.toNat_natCast, decide_true, cond_true, hg, q0, q3, w1 c (by omega) (by omega), h8, beq_self_eq_true, Bool.not_true, cond_false, Option.isSome_some, Option.getD_some, w1 (c + 3) (by omega) (by omega), e4])
    (fun c Q kn kx => by simp [laws_heldStepS_s2, mrows_len])
  have h : laws_heldStepS_l2 F (mrows 4 1 n) 1 0 = some (false, 1 + 4 * (n : Int)) := h
  simp only [laws_heldStepS_p, laws_heldStepS_c, h, Option.isSome_some, Option.getD_some, cond_true, cond_false]

end Go.Lv.P
