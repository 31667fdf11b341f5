/-
Marks in slices of numbers.
-/
import Derived.Test.YtmdicfifhppjaaaTAP5
import Derived.Test.YtmdicfifhppjaaaLv3
namespace Go.Lv.P
open Go Go.Lv
set_option linter.unusedVariables false
set_option linter.unusedSimpArgs false

theorem eqIntS_refl (F : Nat) (a : List Int) (ha : a.length ≤ 1000) (hF : 1000 < F) : laws_eqIntS_p F a a = some true := by
  have h : laws_eqIntS_l4 F a a 0 = some false := by
    refine (loop_fold (step := laws_eqIntS_s4 F a a) (fun i (_ : Unit) => i) a.length (fun _ a => a) (fun _ => false) (fun _ _ => True) (F := F) (by omega) (by omega) (a := ()) trivial (fun i _ hi _ => ⟨trivial, fun Q kn kx => ?_⟩) (fun _ _ Q kn kx => by simp [laws_eqIntS_s4])).1
    have hi' : (i : Int) < a.length := by omega
    simp only [laws_eqIntS_s4, hi', inR_cast, hi, Int.toNat_natCast, decide_true, cond_true, beq_self_eq_true, Bool.not_true, cond_false]
  simp only [laws_eqIntS_p, laws_eqIntS_c, h, beq_self_eq_true, Bool.not_true, cond_false, Option.isSome_some, Option.getD_some, cond_true]

theorem subn_of {α : Type} {xs : List α} {n : Nat} (h : xs.length = n) : subn xs.length xs 0 n = xs := by
  subst h; exact subn_self xs

/-- the marks of a slice of numbers -/
def mkIntS (k : Int) (n : Nat) : List Int := (List.range n).map fun i : Nat => k + (i : Int)
theorem mkIntS_get (k : Int) (n i : Nat) (h : i < n) : iget (mkIntS k n) i = k + (i : Int) := by
  rw [igetL, mkIntS, List.getElem?_map, List.getElem?_range h]; rfl
theorem iset_take (s : List Int) (i : Nat) (x : Int) (h : i < s.length) : (iset s i x).take (i + 1) = s.take i ++ [x] := by
  rw [isetL, List.take_add_one]
  simp [List.take_set_of_le, h]

theorem markIntS_eq (F : Nat) (k : Int) (a : List Int) (hn : a.length ≤ 900) (hk0 : 0 ≤ k) (hk : k ≤ 1000000) (hF : 1000 < F) : laws_markIntS_p F k a = some (k + (a.length : Int), mkIntS k a.length) := by
  have h := loop_fold (step := laws_markIntS_s2 F a.length) (fun i (a : Int × List Int) => (a.1, i, a.2)) a.length (fun i s => (k + ((i + 1 : Nat) : Int), iset s.2 (0 + i) (k + (i : Int)))) (fun s => s)
    (fun i s => s.1 = k + (i : Int) ∧ s.2.length = a.length ∧ s.2.take i = mkIntS k i) (F := F) (by omega) (by omega) (a := (k, a)) ⟨by simp, rfl, rfl⟩
    (fun i s hi ⟨h1, h2, h4⟩ => by
      have hil : i < s.2.length := by omega
      refine ⟨⟨rfl, by rw [isetL]; simpa using h2, ?_⟩, fun Q kn kx => ?_⟩
      · show (iset s.2 (0 + i) (k + (i : Int))).take (i + 1) = _
        rw [Nat.zero_add, iset_take s.2 i _ hil, h4, mkIntS, mkIntS, List.range_succ, List.map_append]; rfl
      · have hi' : (i : Int) < a.length := by omega
        have hw : IntKind.wrap .i64 (k + (i : Int) + 1) = k + ((i + 1 : Nat) : Int) := by rw [wrap_of (by omega) (by omega)]; omega
        simp only [laws_markIntS_s2, hi', inR_cast, hi, Int.toNat_natCast, decide_true, cond_true, h1, hw])
    (fun s _ Q kn kx => by simp [laws_markIntS_s2])
  have ex : ∀ r : Int × List Int, r.1 = k + (a.length : Int) ∧ r.2.length = a.length ∧ r.2.take a.length = mkIntS k a.length → r = (k + (a.length : Int), mkIntS k a.length) := fun r h => Prod.ext h.1 (by rw [← h.2.2, List.take_of_length_le (by omega)])
  have e : laws_markIntS_l2 F a.length k 0 a = some (k + (a.length : Int), mkIntS k a.length) := h.1.trans (congrArg some (ex _ h.2))
  simp only [laws_markIntS_p, laws_markIntS_c, e, Option.isSome_some, Option.getD_some, cond_true]

theorem heldIntS_eq (F : Nat) (k : Int) (n : Nat) (hn : n ≤ 900) (hk0 : 0 ≤ k) (hk : k ≤ 1000000) (hF : 1000 < F) : laws_heldIntS_p F (mkIntS k n) k = some (k + (n : Int)) := by
  have hl : (mkIntS k n).length = n := by simp [mkIntS]
  have h := loop_fold (step := laws_heldIntS_s2 F (mkIntS k n)) (fun i (a : Int) => (a, i)) n (fun i s => k + ((i + 1 : Nat) : Int)) (fun s => (false, s))
    (fun i s => s = k + (i : Int)) (F := F) (by omega) (by omega) (a := k) (by simp)
    (fun i s hi h1 => by
      refine ⟨rfl, fun Q kn kx => ?_⟩
      have hi' : (i : Int) < n := by omega
      have hw : IntKind.wrap .i64 (k + (i : Int) + 1) = k + ((i + 1 : Nat) : Int) := by rw [wrap_of (by omega) (by omega)]; omega
      simp only [laws_heldIntS_s2, hl, hi', inR_cast, hi, Int.toNat_natCast, decide_true, cond_true, mkIntS_get k n i hi, h1, beq_self_eq_true, Bool.not_true, cond_false, hw])
    (fun s _ Q kn kx => by simp [laws_heldIntS_s2, hl])
  have e : laws_heldIntS_l2 F (mkIntS k n) k 0 = some (false, k + (n : Int)) := by
    refine h.1.trans ?_
    rw [h.2]
  simp only [laws_heldIntS_p, laws_heldIntS_c, e, Option.isSome_some, Option.getD_some, cond_true, cond_false]
end Go.Lv.P
