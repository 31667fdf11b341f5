/-
The reference's order of boards.
-/
import Derived.Test.YtgmnclpjbhmioaaGreatTZP1
import Derived.Test.YtgmnclpjbhmioaaGreatTZPSet
import Derived.Test.YtgmnclpjbhmioaaGreatTZPTail
namespace Go.Lv.P
open Go Go.Lv
set_option linter.unusedVariables false
set_option linter.unusedSimpArgs false
set_option linter.unusedSectionVars false

theorem pair_in (a : Bool) (u : Bool) (X Y : Bool × Bool) : (bif (bif a then (true, u) else X).1 then (true, (bif a then (true, u) else X).2) else Y) = bif a then (true, u) else (bif X.1 then (true, X.2) else Y) := by cases a <;> rfl
theorem pair_out (a : Bool) (u : Bool) (X : Bool × Bool) : (bif (bif a then (true, u) else X).1 then (bif a then (true, u) else X).2 else false) = bif a then u else (bif X.1 then X.2 else false) := by cases a <;> rfl
theorem fnd_grid (p g : Nat → Bool) : fnd (fun r => (fnd (fun c => p (0 + r * 4 + c * 1)) (fun c => (true, g (0 + r * 4 + c * 1))) (false, default) 0 4).1) (fun r => (true, (fnd (fun c => p (0 + r * 4 + c * 1)) (fun c => (true, g (0 + r * 4 + c * 1))) (false, default) 0 4).2)) (false, default) 0 4 = fnd p (fun i => (true, g i)) (false, default) 0 16 := by
  simp only [fnd, pair_in, cond_false]
theorem before_eq (F : Nat) (hF : 1000 < F) {a b : List Int} (ha : a.length = 16) (hb : b.length = 16) : spec_l2Before_p F a b = some (ltL a b) := by
  have hin : ∀ r : Nat, r < 4 → spec_l2Before_l5 F r a b 0 = some (fnd (fun c => !(iget a (0 + r * 4 + c * 1) == iget b (0 + r * 4 + c * 1))) (fun c => (true, decide (iget a (0 + r * 4 + c * 1) < iget b (0 + r * 4 + c * 1)))) (false, default) 0 4) := fun r hr => by
    refine loop_find (step := spec_l2Before_s5 F r a b) (fun i => i) 4 (fun c => !(iget a (0 + r * 4 + c * 1) == iget b (0 + r * 4 + c * 1))) (fun c => (true, decide (iget a (0 + r * 4 + c * 1) < iget b (0 + r * 4 + c * 1)))) (false, default) (by omega) (by omega) (fun i hi Q kn kx => ?_) fun Q kn kx => ?_
    · have hi' : (i : Int) < 4 := by omega
      simp only [spec_l2Before_s5, hi', inR_cast, hr, hi, decide_true, cond_true, Int.toNat_natCast]
    · simp [spec_l2Before_s5]
  have hout : spec_l2Before_l2 F a b 0 = some (fnd (fun i => !(iget a i == iget b i)) (fun i => (true, decide (iget a i < iget b i))) (false, default) 0 16) := by
    rw [← fnd_grid (fun i => !(iget a i == iget b i)) (fun i => decide (iget a i < iget b i))]
    refine loop_find (step := spec_l2Before_s2 F a b) (fun i => i) 4 (fun r => (fnd (fun c => !(iget a (0 + r * 4 + c * 1) == iget b (0 + r * 4 + c * 1))) (fun c => (true, decide (iget a (0 + r * 4 + c * 1) < iget b (0 + r * 4 + c * 1)))) (false, default) 0 4).1) (fun r => (true, (fnd (fun c => !(iget a (0 + r * 4 + c * 1) == iget b (0 + r * 4 + c * 1))) (fun c => (true, decide (iget a (0 + r * 4 + c * 1) < iget b (0 + r * 4 + c * 1)))) (false, default) 0 4).2)) (false, default) (by omega) (by omega) (fun i hi Q kn kx => ?_) fun Q kn kx => ?_
    · have hi' : (i : Int) < 4 := by omega
      simp only [spec_l2Before_s2, hi', decide_true, cond_true, hin i hi, Option.isSome_some, Option.getD_some]
    · simp [spec_l2Before_s2]
  simp only [spec_l2Before_p, spec_l2Before_c, hout, Option.isSome_some, Option.getD_some, cond_true]
  have key : ∀ (n i : Nat), i + n = 16 → (bif (fnd (fun i => !(iget a i == iget b i)) (fun i => (true, decide (iget a i < iget b i))) (false, default) i n).1 then (fnd (fun i => !(iget a i == iget b i)) (fun i => (true, decide (iget a i < iget b i))) (false, default) i n).2 else false) = ltL (a.drop i) (b.drop i) := by
    intro n
    induction n with
    | zero => intro i h; rw [List.drop_eq_nil_of_le (by omega)]; rfl
    | succ n ih =>
      intro i h
      have hia : i < a.length := by omega
      have hib : i < b.length := by omega
      have ga : iget a i = a[i] := by rw [igetL, List.getElem?_eq_getElem hia]; rfl
      have gb : iget b i = b[i] := by rw [igetL, List.getElem?_eq_getElem hib]; rfl
      rw [List.drop_eq_getElem_cons hia, List.drop_eq_getElem_cons hib]
      simp only [fnd, pair_out, ltL]
      rw [ih (i + 1) (by omega), ga, gb]
      cases a[i] == b[i] <;> rfl
  have h0 := key 16 0 rfl
  rw [List.drop_zero, List.drop_zero] at h0
  have e : ∀ (X : Bool × Bool), (bif X.1 then some X.2 else some false) = some (bif X.1 then X.2 else false) := fun X => by cases X.1 <;> rfl
  rw [e, h0]
end Go.Lv.P
