/-
Marks in slices of numbers.
-/
import Derived.Test.YtgmnclpjbhmioaaTKP5
import Derived.Test.YtgmnclpjbhmioaaLv3
import Derived.Test.YtgmnclpjbhmioaaTKPTail
namespace Go.Lv.P
open Go Go.Lv
set_option linter.unusedVariables false
set_option linter.unusedSimpArgs false

theorem eqIntS_refl (F : Nat) (a : List Int) (ha : a.length ≤ 900000) (hF : 1000 < F) (hF' : a.length < F) : laws_eqIntS_p F a a = some true := by
  have h : laws_eqIntS_l4 F a a 0 = some false := by
    refine (loop_fold (step := laws_eqIntS_s4 F a a) (fun i (_ : Unit) => i) a.length (fun _ a => a) (fun _ => false) (fun _ _ => True) (F := F) (by omega) (by omega) (a := ()) trivial (fun i _ hi _ => ⟨trivial, fun Q kn kx => ?_⟩) (fun _ _ Q kn kx => by simp [laws_eqIntS_s4])).1
    have hi' : (i : Int) < a.length := by omega
    simp only [laws_eqIntS_s4, hi', inR_cast, hi, Int.toNat_natCast, decide_true, cond_true, beq_self_eq_true, Bool.not_true, cond_false]
  simp only [laws_eqIntS_p, laws_eqIntS_c, h, beq_self_eq_true, Bool.not_true, cond_false, Option.isSome_some, Option.getD_some, cond_true]

/-- the marks of a slice of numbers -/
def mkIntS (k : Int) (n : Nat) : List Int := (List.range n).map fun i : Nat => k + (i : Int)
theorem mkIntS_get (k : Int) (n i : Nat) (h : i < n) : iget (mkIntS k n) i = k + (i : Int) := by
  rw [igetL, mkIntS, List.getElem?_map, List.getElem?_range h]; rfl
theorem iset_take (s : List Int) (i : Nat) (x : Int) (h : i < s.length) : (iset s i x).take (i + 1) = s.take i ++ [x] := by
  rw [isetL, List.take_add_one]
  simp [List.take_set_of_le, h]

theorem markIntS_eq (F n : Nat) (a : List Int) (hn : n ≤ a.length) (hb : n ≤ 900000) (hF : 1000 < F) (hF' : n < F) : ∃ a', laws_markIntS_p F n 1 a = some (1 + (n : Int), a') ∧ a'.length = a.length ∧ a'.take n = mkIntS 1 n := by
  have h := loop_fold (step := laws_markIntS_s2 F n) (fun i (a : Int × List Int) => (a.1, i, a.2)) n (fun i s => (1 + ((i + 1 : Nat) : Int), iset s.2 (0 + i) (1 + (i : Int)))) (fun s => s)
    (fun i s => s.1 = 1 + (i : Int) ∧ s.2.length = a.length ∧ s.2.take i = mkIntS 1 i) (F := F) (by omega) (by omega) (a := (1, a)) ⟨by simp, rfl, rfl⟩
    (fun i s hi ⟨h1, h2, h4⟩ => by
      have hil : i < s.2.length := by omega
      refine ⟨⟨rfl, by rw [isetL]; simpa using h2, ?_⟩, fun Q kn kx => ?_⟩
      · show (iset s.2 (0 + i) (1 + (i : Int))).take (i + 1) = _
        rw [Nat.zero_add, iset_take s.2 i _ hil, h4, mkIntS, mkIntS, List.range_succ, List.map_append]; rfl
      · have hi' : (i : Int) < (n : Int) := by omega
        have hw : IntKind.wrap .i64 (1 + (i : Int) + 1) = 1 + ((i + 1 : Nat) : Int) := by rw [wrap_of (by omega) (by omega)]; omega
        simp only [laws_markIntS_s2, hi', inR_cast, hi, Int.toNat_natCast, decide_true, cond_true, h1, hw])
    (fun s _ Q kn kx => by simp [laws_markIntS_s2])
  obtain ⟨h1, h2, h3, h4⟩ := h
  generalize fld (fun i (s : Int × List Int) => (1 + ((i + 1 : Nat) : Int), iset s.2 (0 + i) (1 + (i : Int)))) 0 n (1, a) = r at h1 h2 h3 h4
  have e : laws_markIntS_l2 F n 1 0 a = some (1 + (n : Int), r.2) := h1.trans (congrArg some (Prod.ext h2 rfl))
  exact ⟨r.2, by simp only [laws_markIntS_p, laws_markIntS_c, e, Option.isSome_some, Option.getD_some, cond_true], h3, h4⟩

theorem heldIntS_eq (F n : Nat) (hn : n ≤ 900000) (hF : 1000 < F) (hF' : n < F) : laws_heldIntS_p F (mkIntS 1 n) 1 = some (1 + (n : Int)) := by
  have hl : (mkIntS 1 n).length = n := by simp [mkIntS]
  have h := loop_fold (step := laws_heldIntS_s2 F (mkIntS 1 n)) (fun i (a : Int) => (a, i)) n (fun i s => 1 + ((i + 1 : Nat) : Int)) (fun s => (false, s))
    (fun i s => s = 1 + (i : Int)) (F := F) (by omega) (by omega) (a := 1) (by simp)
    (fun i s hi h1 => by
      refine ⟨rfl, fun Q kn kx => ?_⟩
      have hi' : (i : Int) < n := by omega
      have hw : IntKind.wrap .i64 (1 + (i : Int) + 1) = 1 + ((i + 1 : Nat) : Int) := by rw [wrap_of (by omega) (by omega)]; omega
      simp only [laws_heldIntS_s2, hl, hi', inR_cast, hi, Int.toNat_natCast, decide_true, cond_true, mkIntS_get 1 n i hi, h1, beq_self_eq_true, Bool.not_true, cond_false, hw])
    (fun s _ Q kn kx => by simp [laws_heldIntS_s2, hl])
  have e : laws_heldIntS_l2 F (mkIntS 1 n) 1 0 = some (false, 1 + (n : Int)) := by
    refine h.1.trans ?_
    rw [h.2]
  simp only [laws_heldIntS_p, laws_heldIntS_c, e, Option.isSome_some, Option.getD_some, cond_true, cond_false]
end Go.Lv.P
