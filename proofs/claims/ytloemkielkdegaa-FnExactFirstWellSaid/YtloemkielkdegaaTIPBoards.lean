/-
Boards behind the steps of a direction, by the reference.
-/
import Derived.Test.YtloemkielkdegaaTIP1
import Derived.Test.YtloemkielkdegaaTIPDo
import Derived.Test.YtloemkielkdegaaTIPStepsS
namespace Go.Lv.P
open Go Go.Lv
set_option linter.unusedVariables false
set_option linter.unusedSimpArgs false
set_option linter.unusedSectionVars false

theorem rget_map (l : LL) (f : List Int → List Int) (i : Nat) (h : i < l.length) : rget (l.map f) i = f (rget l i) := by
  rw [rgetL, rgetL, List.getElem?_map, List.getElem?_eq_getElem h]; rfl
theorem iget_map (l : LL) (f : List Int → Int) (i : Nat) (h : i < l.length) : iget (l.map f) i = f (rget l i) := by
  rw [igetL, rgetL, List.getElem?_map, List.getElem?_eq_getElem h]; rfl

section
variable {b : List Int} (hb : b.length = 16) (ok : okB b = true) {d : Nat} (hd : d < 4)
include hb ok hd
theorem steps_move (hq : ((slideB b d).1 == b) = false) : stepsB b d = (plm (slideB b d).1).map fun p => (d : Int) :: p := by
  rw [stepsB, hq, cond_false, stepsOn_list]
theorem spec_boards (F : Nat) (hF : 1000 < F) (hq : ((slideB b d).1 == b) = false) : spec_l9Boards_p F b (stepsB b d) = some ((plm (slideB b d).1).map (putP (slideB b d).1)) := by
  rw [steps_move hb ok hd hq]
  have hl := plm_len40 (slideB b d).1
  have h := loop_fold (step := spec_l9Boards_s3 F ((plm (slideB b d).1).map fun p => (d : Int) :: p) b) (fun i (s : LL) => (i, s)) (plm (slideB b d).1).length (fun i out => out ++ [putP (slideB b d).1 (rget (plm (slideB b d).1) i)]) (fun s => s) (fun i out => out.length = i) (F := F) (by omega) (by omega) (a := []) rfl
    (fun i out hi hI => ⟨by simp [hI], fun Q kn kx => by
      have hf : ∀ x : List Int, fits (out ++ [x]).length 128 = true := fun x => fits_of (by simp; omega) (by simp; omega)
      simp only [spec_l9Boards_s3, List.length_map, Int.ofNat_lt, hi, inR_cast, Int.toNat_natCast, decide_true, cond_true, rget_map _ _ i hi, do_eq hb ok F hF hd hq (rget_mem hi), Option.isSome_some, Option.getD_some, subn_self, hf]⟩) (fun s _ Q kn kx => by simp [spec_l9Boards_s3])
  have e : fld (fun i (out : LL) => out ++ [putP (slideB b d).1 (rget (plm (slideB b d).1) i)]) 0 (plm (slideB b d).1).length [] = (plm (slideB b d).1).map (putP (slideB b d).1) := by
    rw [fld_add, List.nil_append, List.map_eq_flatMap]
    exact rget_self _ _ _ fun i _ => rfl
  have h1 : spec_l9Boards_l3 F ((plm (slideB b d).1).map fun p => (d : Int) :: p) b 0 [] = some ((plm (slideB b d).1).map (putP (slideB b d).1)) := by rw [← e]; exact h.1
  simp only [spec_l9Boards_p, spec_l9Boards_c, h1, Option.isSome_some, Option.getD_some, cond_true]
end
theorem weight_step {nx p : List Int} (d : Int) (hp : p ∈ plm nx) : spec_l9Weight_v (d :: p) = ((wgt p : Nat) : Int) := by
  obtain ⟨r, c, t, rfl, _, _, ht, _⟩ := plm_is hp
  rcases ht with rfl | rfl <;> rfl
end Go.Lv.P
