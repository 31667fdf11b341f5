/-
Marks in slices of cells.
-/
import Derived.Test.YtgmnclpjbhmioaaTKP6
import Derived.Test.YtgmnclpjbhmioaaTKPMark
namespace Go.Lv.P
open Go Go.Lv
set_option linter.unusedVariables false
set_option linter.unusedSimpArgs false

theorem eqIntA2_refl (F : Nat) (a : List Int) (hF : 1000 < F) : laws_eqIntA2_p F a a = some true := by
  have h : laws_eqIntA2_l2 F a a 0 = some false := by
    refine (loop_fold (step := laws_eqIntA2_s2 F a a) (fun i (_ : Unit) => i) 2 (fun _ a => a) (fun _ => false) (fun _ _ => True) (F := F) (by omega) (by omega) (a := ()) trivial (fun i _ hi _ => ⟨trivial, fun Q kn kx => ?_⟩) (fun _ _ Q kn kx => by simp [laws_eqIntA2_s2])).1
    have hi' : (i : Int) < 2 := by omega
    simp only [laws_eqIntA2_s2, hi', inR_cast, hi, decide_true, cond_true, beq_self_eq_true, Bool.not_true, cond_false]
  simp only [laws_eqIntA2_p, laws_eqIntA2_c, h, Option.isSome_some, Option.getD_some, cond_true, cond_false]

theorem eqIntA2S_refl (F : Nat) (a : LL) (ha : a.length ≤ 900000) (hF : 1000 < F) (hF' : a.length < F) : laws_eqIntA2S_p F a a = some true := by
  have h : laws_eqIntA2S_l4 F a a 0 = some false := by
    refine (loop_fold (step := laws_eqIntA2S_s4 F a a) (fun i (_ : Unit) => i) a.length (fun _ a => a) (fun _ => false) (fun _ _ => True) (F := F) (by omega) (by omega) (a := ()) trivial (fun i _ hi _ => ⟨trivial, fun Q kn kx => ?_⟩) (fun _ _ Q kn kx => by simp [laws_eqIntA2S_s4])).1
    have hi' : (i : Int) < a.length := by omega
    simp only [laws_eqIntA2S_s4, hi', inR_cast, hi, Int.toNat_natCast, decide_true, cond_true, eqIntA2_refl F _ hF, Option.isSome_some, Option.getD_some, Bool.not_true, cond_false]
  simp only [laws_eqIntA2S_p, laws_eqIntA2S_c, h, beq_self_eq_true, Bool.not_true, cond_false, Option.isSome_some, Option.getD_some, cond_true]

theorem mrow2 (c : Int) : mrow 2 c = [c, c + 1] := by simp [mrow, List.range_succ]
theorem markIntA2S_row (F n i : Nat) (c : Int) (a : LL) (hi : i < n) (hn : n ≤ a.length) (ha : ∀ x ∈ a.take n, x.length = 2) (hc0 : 0 ≤ c) (hc : c ≤ 1000000000) (hF : 1000 < F) (Q : Type) (kn : Int × Int × LL → Option Q) (kx : Int × LL → Option Q) :
    laws_markIntA2S_s2 F n Q (c, (i : Int), a) kn kx = kn (c + 2, IntKind.wrap .i64 ((i : Int) + 1), rset a i [c, c + 1]) := by
  have hil : i < a.length := by omega
  obtain ⟨x0, x1, hx⟩ := list2 (ha (a[i]) (get_take hi hn))
  have hg : rget a i = [x0, x1] := by rw [rgetL, List.getElem?_eq_getElem hil, hx]; rfl
  have w1 : ∀ x : Int, 0 ≤ x → x ≤ 2000000000 → IntKind.wrap .i64 (x + 1) = x + 1 := fun x h h' => wrap_of (by omega) (by omega)
  have gs : ∀ (l : LL) (x : List Int), i < l.length → rget (rset l i x) i = x := fun l x hl => by rw [rsetL, rgetL, List.getElem?_set_self hl]; rfl
  have ss : ∀ (l : LL) (x y : List Int), rset (rset l i x) i y = rset l i y := fun l x y => by simp only [rsetL, List.set_set]
  have rl : ∀ (l : LL) (x : List Int), (rset l i x).length = l.length := fun l x => by simp [rsetL]
  have h7 : laws_markIntA2S_l5 F n i c 0 a = some (c + 2, rset a i [c, c + 1]) := by
    have h5 := loop_fold (step := laws_markIntA2S_s5 F n i) (fun j (a : Int × LL) => (a.1, j, a.2)) 2 (fun j s => (IntKind.wrap .i64 (s.1 + 1), rset s.2 (0 + i) (iset (rget s.2 (0 + i)) (0 + j * 1) s.1))) (fun s => s) (fun _ _ => True) (F := F) (by omega) (by omega) (a := (c, a)) trivial
      (fun j s' hj _ => ⟨trivial, fun Q kn kx => by
        have hj' : (j : Int) < 2 := by omega
        simp only [laws_markIntA2S_s5, hj', inR_cast, hi, hj, Int.toNat_natCast, decide_true, cond_true]⟩) (fun s' _ Q kn kx => by simp [laws_markIntA2S_s5])
    refine h5.1.trans ?_
    simp only [fld, Nat.zero_add, gs, ss, rl, hil, hg]
    rw [w1 (c) (by omega) (by omega), w1 (c + 1) (by omega) (by omega)]
    simp only [Option.some.injEq, Prod.mk.injEq]
    refine ⟨by omega, ?_⟩
    congr 1 <;> (
      show [c, c + 1] = _
      simp only [List.cons.injEq, and_true, true_and]
      try omega)
  have hi' : (i : Int) < (n : Int) := by omega
  simp only [laws_markIntA2S_s2, hi', decide_true, cond_true, h7, Option.isSome_some, Option.getD_some]

theorem markIntA2S_eq (F n : Nat) (a : LL) (ha : ∀ x ∈ a.take n, x.length = 2) (hn : n ≤ a.length) (hb : n ≤ 900000) (hF : 1000 < F) (hF' : n < F) : ∃ a', laws_markIntA2S_p F n 1 a = some (1 + 2 * (n : Int), a') ∧ a'.length = a.length ∧ a'.take n = mrows 2 1 n := by
  obtain ⟨a', h1, h2, h3⟩ := mark_gen (step := laws_markIntA2S_s2 F n) 2 n F 1 a ha hn (by omega) (by omega)
    (fun i a' hi hl h4 Q kn kx => by
      rw [markIntA2S_row F n i _ a' hi (by omega) h4 (by omega) (by omega) hF Q kn kx, mrow2]
      congr 2
      all_goals omega) (fun c a' Q kn kx => by simp [laws_markIntA2S_s2])
  have h1 : laws_markIntA2S_l2 F n 1 0 a = some (1 + 2 * (n : Int), a') := h1
  exact ⟨a', by simp only [laws_markIntA2S_p, laws_markIntA2S_c, h1, Option.isSome_some, Option.getD_some, cond_true], h2, h3⟩

theorem heldIntA2S_eq (F n : Nat) (hn : n ≤ 900000) (hF : 1000 < F) (hF' : n < F) : laws_heldIntA2S_p F (mrows 2 1 n) 1 = some (1 + 2 * (n : Int)) := by
  have h := held_gen (step := laws_heldIntA2S_s2 F (mrows 2 1 n)) 2 n F 1 (by omega) (by omega)
    (fun i hi Q kn kx => by
      have hg := mrows_get 2 1 n i hi
      rw [mrow2] at hg
      have e : ((2 : Nat) : Int) = 2 := rfl
      rw [e] at hg ⊢
      generalize hc : (1 : Int) + 2 * (i : Int) = c at hg ⊢
      have w1 : ∀ x : Int, 0 ≤ x → x ≤ 2000000000 → IntKind.wrap .i64 (x + 1) = x + 1 := fun x h h' => wrap_of (by omega) (by omega)
      have h8 : laws_heldIntA2S_l5 F (mrows 2 1 n) i c 0 = some (false, c + 2) := by
        have h5 := loop_fold (step := laws_heldIntA2S_s5 F (mrows 2 1 n) i) (fun j (a : Int) => (a, j)) 2 (fun j s => s + 1) (fun s => (false, s)) (fun j s => s = c + (j : Int)) (F := F) (by omega) (by omega) (a := c) (by simp)
          (fun j s hj hs => ⟨by omega, fun Q kn kx => by
            have hj' : (j : Int) < 2 := by omega
            have hq : iget [c, c + 1] (0 + j * 1) = s := by
              rw [hs]
              obtain rfl | rfl : j = 0 ∨ j = 1 := by omega
              all_goals simp [iget]
            simp only [laws_heldIntA2S_s5, hj', inR_cast, mrows_len, hi, hj, Int.toNat_natCast, decide_true, cond_true, hg, hq, beq_self_eq_true, Bool.not_true, cond_false, w1 s (by omega) (by omega)]⟩) (fun s _ Q kn kx => by simp [laws_heldIntA2S_s5])
        refine h5.1.trans ?_
        rw [h5.2]
        simp only [Option.some.injEq, Prod.mk.injEq, true_and]
        omega
      have hi' : (i : Int) < (n : Int) := by omega
      have e4 : (1 : Int) + 2 * ((i + 1 : Nat) : Int) = c + 2 := by omega
      simp only [laws_heldIntA2S_s2, hi', mrows_len, decide_true, cond_true, h8, cond_false, Option.isSome_some, Option.getD_some, e4])
    (fun c Q kn kx => by simp [laws_heldIntA2S_s2, mrows_len])
  have h : laws_heldIntA2S_l2 F (mrows 2 1 n) 1 0 = some (false, 1 + 2 * (n : Int)) := h
  simp only [laws_heldIntA2S_p, laws_heldIntA2S_c, h, Option.isSome_some, Option.getD_some, cond_true, cond_false]

end Go.Lv.P
