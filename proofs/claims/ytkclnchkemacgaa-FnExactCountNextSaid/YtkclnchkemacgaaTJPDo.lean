/-
Boards behind steps, by the reference.
-/
import Derived.Test.YtkclnchkemacgaaTJP0
import Derived.Test.YtkclnchkemacgaaTJP4
import Derived.Test.YtkclnchkemacgaaTJPPlm
import Derived.Test.YtkclnchkemacgaaTJPBoard
namespace Go.Lv.P
open Go Go.Lv
set_option linter.unusedVariables false
set_option linter.unusedSimpArgs false
set_option linter.unusedSectionVars false

theorem do_eq {b : List Int} (hb : b.length = 16) (ok : okB b = true) (F : Nat) (hF : 1000 < F) {d : Nat} (hd : d < 4) (hq : ((slideB b d).1 == b) = false) {p : List Int} (hp : p ∈ plm (slideB b d).1) :
    spec_l5Do_p F b ((d : Int) :: p) = some (putP (slideB b d).1 p, (slideB b d).2, true) := by
  obtain ⟨r, c, t, rfl, hr, hc, ht, hz⟩ := plm_is hp
  have hr' : inB (r : Int) 0 3 = true := by simp [inB]; omega
  have hc' : inB (c : Int) 0 3 = true := by simp [inB]; omega
  have hd' : inB (d : Int) 0 3 = true := by simp [inB]; omega
  have ht' : inB t 1 2 = true := by simp [inB]; omega
  have s1 : sub [(d : Int), (r : Int), (c : Int), t] 1 2 = [(r : Int), (c : Int)] := rfl
  have g0 : iget [(d : Int), (r : Int), (c : Int), t] 0 = d := rfl
  have g3 : iget [(d : Int), (r : Int), (c : Int), t] 3 = t := rfl
  have q0 : iget [(r : Int), (c : Int)] 0 = r := rfl
  have q1 : iget [(r : Int), (c : Int)] 1 = c := rfl
  have hz' : iget (slideB b d).1 (0 + r * 4 + c * 1) = 0 := by rw [Nat.zero_add, Nat.mul_one]; exact hz
  have hz0 : ((0 : Int) == 0) = true := rfl
  simp only [spec_l5Do_p, spec_l5Do_c, g0, g3, s1, spec_l2Side_v, spec_l2Cell_v, l1In_eq, q0, q1, hd', hr', hc', ht', cond_true, Bool.not_true, cond_false, spec_slide hb ok F hF hd, hq, Option.isSome_some, Option.getD_some,
    spec_l2At_p, spec_l2At_c, spec_l2Put_p, spec_l2Put_c, inR_cast, hr, hc, decide_true, Int.toNat_natCast, hz', hz0]
  rfl
end Go.Lv.P
