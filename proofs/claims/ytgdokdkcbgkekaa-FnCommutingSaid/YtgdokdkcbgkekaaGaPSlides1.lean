/-
Slides by a list of one.
-/
import Derived.Test.YtgdokdkcbgkekaaGaP2
import Derived.Test.YtgdokdkcbgkekaaGaPSlide
namespace Go.Lv.P
open Go Go.Lv
set_option linter.unusedVariables false
set_option linter.unusedSimpArgs false
section
variable {b : List Int} (hb : b.length = 16) (ok : okB b = true)
include hb ok

theorem impl_slides1 (F : Nat) (hF : 1000 < F) {d : Nat} (hd : d < 4) : impl_Board_slides_p F b [(d : Int)] = some (slideB b d).1 := by
  obtain ⟨m, hm⟩ := impl_slide hb ok F hF hd
  have h := loop_fold (step := impl_Board_slides_s2 F [(d : Int)] 1) (fun i (a : List Int) => (i, a)) 1 (fun i a => (slideB b d).1) (fun a => a) (fun i a => i = 0 → a = b) (F := F) (by omega) (by omega) (a := b) (fun _ => rfl)
    (fun i a hi h => by
      obtain rfl : i = 0 := by omega
      refine ⟨fun h => absurd h (by omega), fun Q kn kx => ?_⟩
      have h0 : ((0 : Nat) : Int) < 1 := by omega
      have hg : iget [(d : Int)] 0 = d := rfl
      simp only [impl_Board_slides_s2, h0, decide_true, cond_true, inR_cast, List.length_singleton, Nat.zero_lt_one, Int.toNat_natCast, hg, h rfl, hm, Option.isSome_some, Option.getD_some])
    (fun a _ Q kn kx => by simp [impl_Board_slides_s2])
  have e : impl_Board_slides_l2 F [(d : Int)] 1 0 b = some (slideB b d).1 := h.1
  have e' : (([(d : Int)].length : Nat) : Int) = 1 := rfl
  simp only [impl_Board_slides_p, impl_Board_slides_c, e', e, Option.isSome_some, Option.getD_some, cond_true]

end
end Go.Lv.P
