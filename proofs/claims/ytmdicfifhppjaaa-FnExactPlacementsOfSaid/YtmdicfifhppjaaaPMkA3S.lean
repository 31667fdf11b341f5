/-
Marks in slices of placements.
-/
import Derived.Test.YtmdicfifhppjaaaTAP3
import Derived.Test.YtmdicfifhppjaaaTAP4
import Derived.Test.YtmdicfifhppjaaaLv3
import Derived.Test.YtmdicfifhppjaaaPDelete
namespace Go.Lv.P
open Go Go.Lv
set_option linter.unusedVariables false
set_option linter.unusedSimpArgs false

theorem eqIntA3_refl (F : Nat) (a : List Int) (hF : 1000 < F) : laws_eqIntA3_p F a a = some true := by
  have h : laws_eqIntA3_l2 F a a 0 = some false := by
    refine (loop_fold (step := laws_eqIntA3_s2 F a a) (fun i (_ : Unit) => i) 3 (fun _ a => a) (fun _ => false) (fun _ _ => True) (F := F) (by omega) (by omega) (a := ()) trivial (fun i _ hi _ => ⟨trivial, fun Q kn kx => ?_⟩) (fun _ _ Q kn kx => by simp [laws_eqIntA3_s2])).1
    have hi' : (i : Int) < 3 := by omega
    simp only [laws_eqIntA3_s2, hi', inR_cast, hi, decide_true, cond_true, beq_self_eq_true, Bool.not_true, cond_false]
  simp only [laws_eqIntA3_p, laws_eqIntA3_c, h, Option.isSome_some, Option.getD_some, cond_true, cond_false]

theorem eqIntA3S_refl (F : Nat) (a : LL) (ha : a.length ≤ 1000) (hF : 1000 < F) : laws_eqIntA3S_p F a a = some true := by
  have h : laws_eqIntA3S_l4 F a a 0 = some false := by
    refine (loop_fold (step := laws_eqIntA3S_s4 F a a) (fun i (_ : Unit) => i) a.length (fun _ a => a) (fun _ => false) (fun _ _ => True) (F := F) (by omega) (by omega) (a := ()) trivial (fun i _ hi _ => ⟨trivial, fun Q kn kx => ?_⟩) (fun _ _ Q kn kx => by simp [laws_eqIntA3S_s4])).1
    have hi' : (i : Int) < a.length := by omega
    simp only [laws_eqIntA3S_s4, hi', inR_cast, hi, Int.toNat_natCast, decide_true, cond_true, eqIntA3_refl F _ hF, Option.isSome_some, Option.getD_some, Bool.not_true, cond_false]
  simp only [laws_eqIntA3S_p, laws_eqIntA3S_c, h, beq_self_eq_true, Bool.not_true, cond_false, Option.isSome_some, Option.getD_some, cond_true]

/-- the marks of a slice of arrays -/
def mkIntA3S (k : Int) (n : Nat) : LL := (List.range n).map fun i : Nat => [k + 3 * (i : Int), k + 3 * (i : Int) + 1, k + 3 * (i : Int) + 2]
theorem mkIntA3S_get (k : Int) (n i : Nat) (h : i < n) : rget (mkIntA3S k n) i = [k + 3 * (i : Int), k + 3 * (i : Int) + 1, k + 3 * (i : Int) + 2] := by
  rw [rgetL, mkIntA3S, List.getElem?_map, List.getElem?_range h]; rfl

theorem markIntA3S_eq (F : Nat) (k : Int) (a : LL) (ha : ∀ x ∈ a, x.length = 3) (hn : a.length ≤ 900) (hk0 : 0 ≤ k) (hk : k ≤ 1000000) (hF : 1000 < F) : laws_markIntA3S_p F k a = some (k + 3 * (a.length : Int), mkIntA3S k a.length) := by
  have h := loop_fold (step := laws_markIntA3S_s2 F a.length) (fun i (a : Int × LL) => (a.1, i, a.2)) a.length (fun i s => (k + 3 * ((i + 1 : Nat) : Int), rset s.2 i [k + 3 * (i : Int), k + 3 * (i : Int) + 1, k + 3 * (i : Int) + 2])) (fun s => s)
    (fun i s => s.1 = k + 3 * (i : Int) ∧ s.2.length = a.length ∧ (∀ x ∈ s.2, x.length = 3) ∧ s.2.take i = mkIntA3S k i) (F := F) (by omega) (by omega) (a := (k, a)) ⟨by simp, rfl, ha, rfl⟩
    (fun i s hi ⟨h1, h2, h3, h4⟩ => by
      have hil : i < s.2.length := by omega
      refine ⟨⟨rfl, by rw [rsetL]; simpa using h2, ?_, ?_⟩, fun Q kn kx => ?_⟩
      · intro x hx
        rw [rsetL] at hx
        rcases List.mem_or_eq_of_mem_set hx with hx | rfl
        · exact h3 x hx
        · rfl
      · show (rset s.2 i [k + 3 * (i : Int), k + 3 * (i : Int) + 1, k + 3 * (i : Int) + 2]).take (i + 1) = _
        have := rset_take s.2 i [k + 3 * (i : Int), k + 3 * (i : Int) + 1, k + 3 * (i : Int) + 2] hil
        rw [this, h4, mkIntA3S, mkIntA3S, List.range_succ, List.map_append]; rfl
      · have e : laws_markIntA3S_l5 F a.length i s.1 0 s.2 = some (k + 3 * ((i + 1 : Nat) : Int), rset s.2 i [k + 3 * (i : Int), k + 3 * (i : Int) + 1, k + 3 * (i : Int) + 2]) := by
          have h5 := loop_fold (step := laws_markIntA3S_s5 F a.length i) (fun j (a : Int × LL) => (a.1, j, a.2)) 3 (fun j s => (IntKind.wrap .i64 (s.1 + 1), rset s.2 (0 + i) (iset (rget s.2 (0 + i)) (0 + j * 1) s.1))) (fun s => s) (fun _ _ => True) (F := F) (by omega) (by omega) (a := s) trivial
            (fun j s' hj _ => ⟨trivial, fun Q kn kx => by
              have hj' : (j : Int) < 3 := by omega
              simp only [laws_markIntA3S_s5, hj', inR_cast, hi, hj, Int.toNat_natCast, decide_true, cond_true]⟩) (fun s' _ Q kn kx => by simp [laws_markIntA3S_s5])
          refine h5.1.trans ?_
          obtain ⟨x0, x1, x2, hx⟩ := list3 (h3 (s.2[i]) (List.getElem_mem hil))
          have hg : rget s.2 i = [x0, x1, x2] := by rw [rgetL, List.getElem?_eq_getElem hil, hx]; rfl
          have w1 : ∀ x : Int, 0 ≤ x → x ≤ 2000000 → IntKind.wrap .i64 (x + 1) = x + 1 := fun x h h' => wrap_of (by omega) (by omega)
          have gs : ∀ (l : LL) (x : List Int), i < l.length → rget (rset l i x) i = x := fun l x hl => by rw [rsetL, rgetL, List.getElem?_set_self hl]; rfl
          have ss : ∀ (l : LL) (x y : List Int), rset (rset l i x) i y = rset l i y := fun l x y => by simp only [rsetL, List.set_set]
          have rl : ∀ (l : LL) (x : List Int), (rset l i x).length = l.length := fun l x => by simp [rsetL]
          simp only [fld, Nat.zero_add, gs, ss, rl, hil, hg]
          rw [h1]
          rw [w1 (k + 3 * (i : Int)) (by omega) (by omega), w1 (k + 3 * (i : Int) + 1) (by omega) (by omega), w1 (k + 3 * (i : Int) + 1 + 1) (by omega) (by omega)]
          simp only [Option.some.injEq, Prod.mk.injEq]
          refine ⟨by omega, ?_⟩
          congr 1
          show [k + 3 * (i : Int), k + 3 * (i : Int) + 1, k + 3 * (i : Int) + 1 + 1] = _
          simp only [List.cons.injEq, and_true, true_and]
          try omega
        have hi' : (i : Int) < a.length := by omega
        simp only [laws_markIntA3S_s2, hi', decide_true, cond_true, e, Option.isSome_some, Option.getD_some])
    (fun s _ Q kn kx => by simp [laws_markIntA3S_s2])
  have ex : ∀ r : Int × LL, r.1 = k + 3 * (a.length : Int) ∧ r.2.length = a.length ∧ (∀ x ∈ r.2, x.length = 3) ∧ r.2.take a.length = mkIntA3S k a.length → r = (k + 3 * (a.length : Int), mkIntA3S k a.length) := fun r h => Prod.ext h.1 (by rw [← h.2.2.2, List.take_of_length_le (by omega)])
  have e : laws_markIntA3S_l2 F a.length k 0 a = some (k + 3 * (a.length : Int), mkIntA3S k a.length) := by
    exact h.1.trans (congrArg some (ex _ h.2))
  simp only [laws_markIntA3S_p, laws_markIntA3S_c, e, Option.isSome_some, Option.getD_some, cond_true]

theorem heldIntA3S_eq (F : Nat) (k : Int) (n : Nat) (hn : n ≤ 900) (hk0 : 0 ≤ k) (hk : k ≤ 1000000) (hF : 1000 < F) : laws_heldIntA3S_p F (mkIntA3S k n) k = some (k + 3 * (n : Int)) := by
  have hl : (mkIntA3S k n).length = n := by simp [mkIntA3S]
  have h := loop_fold (step := laws_heldIntA3S_s2 F (mkIntA3S k n)) (fun i (a : Int) => (a, i)) n (fun i s => k + 3 * ((i + 1 : Nat) : Int)) (fun s => (false, s))
    (fun i s => s = k + 3 * (i : Int)) (F := F) (by omega) (by omega) (a := k) (by simp)
    (fun i s hi h1 => by
      refine ⟨rfl, fun Q kn kx => ?_⟩
      have e : laws_heldIntA3S_l5 F (mkIntA3S k n) i s 0 = some (false, k + 3 * ((i + 1 : Nat) : Int)) := by
        have h5 := loop_fold (step := laws_heldIntA3S_s5 F (mkIntA3S k n) i) (fun j (a : Int) => (a, j)) 3 (fun j s => s + 1) (fun s => (false, s)) (fun j s => s = k + 3 * (i : Int) + j) (F := F) (by omega) (by omega) (a := s) (by simpa using h1)
          (fun j s' hj hs => ⟨by omega, fun Q kn kx => by
            have hj' : (j : Int) < 3 := by omega
            have hg : iget ([k + 3 * (i : Int), k + 3 * (i : Int) + 1, k + 3 * (i : Int) + 2] : List Int) (0 + j * 1) = s' := by
              rw [hs]
              obtain rfl | rfl | rfl : j = 0 ∨ j = 1 ∨ j = 2 := by omega
              all_goals simp [iget]
            have hw : IntKind.wrap .i64 (s' + 1) = s' + 1 := wrap_of (by omega) (by omega)
            simp only [laws_heldIntA3S_s5, hj', inR_cast, hl, hi, hj, Int.toNat_natCast, decide_true, cond_true, mkIntA3S_get k n i hi, hg, beq_self_eq_true, Bool.not_true, cond_false, hw]⟩) (fun s' _ Q kn kx => by simp [laws_heldIntA3S_s5])
        refine h5.1.trans ?_
        have := h5.2
        rw [this]
        simp only [Option.some.injEq, Prod.mk.injEq, true_and]
        omega
      have hi' : (i : Int) < n := by omega
      simp only [laws_heldIntA3S_s2, hl, hi', decide_true, cond_true, e, Option.isSome_some, Option.getD_some, cond_false])
    (fun s _ Q kn kx => by simp [laws_heldIntA3S_s2, hl])
  have e : laws_heldIntA3S_l2 F (mkIntA3S k n) k 0 = some (false, k + 3 * (n : Int)) := by
    refine h.1.trans ?_
    rw [h.2]
  simp only [laws_heldIntA3S_p, laws_heldIntA3S_c, e, Option.isSome_some, Option.getD_some, cond_true, cond_false]

end Go.Lv.P
