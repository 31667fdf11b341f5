/-
Chances: what both count.
-/
import Derived.Test.YtgpadaadcepgaaaTHP0
import Derived.Test.YtgpadaadcepgaaaTHP1
import Derived.Test.YtgpadaadcepgaaaTHP2
import Derived.Test.YtgpadaadcepgaaaTHP3
import Derived.Test.YtgpadaadcepgaaaTHPDo
import Derived.Test.YtgpadaadcepgaaaTHPGcdC
import Derived.Test.YtgpadaadcepgaaaTHPSlides1
import Derived.Test.YtgpadaadcepgaaaTHPPlacesI
import Derived.Test.YtgpadaadcepgaaaTHPPutI
namespace Go.Lv.P
open Go Go.Lv
set_option linter.unusedVariables false
set_option linter.unusedSimpArgs false
set_option linter.unusedSectionVars false

/-- the tenths of those placements behind which something holds -/
def tsum (T : List Int → Bool) (nx : List Int) : Nat := (plm nx).foldl (fun s p => s + wgt p * (bif T (putP nx p) then 1 else 0)) 0
def one (t : Bool) : Nat := bif t then 1 else 0
theorem tsum_le (T : List Int → Bool) (nx : List Int) : tsum T nx ≤ 10 * (em nx).length := by
  rw [← wsum]
  have : ∀ (l : LL) (s s' : Nat), s ≤ s' → l.foldl (fun s p => s + wgt p * (bif T (putP nx p) then 1 else 0)) s ≤ l.foldl (fun s p => s + wgt p) s' := by
    intro l
    induction l with
    | nil => intro s s' h; exact h
    | cons p l ih =>
      intro s s' h
      refine ih _ _ ?_
      show s + wgt p * (bif T (putP nx p) then 1 else 0) ≤ s' + wgt p
      cases T (putP nx p)
      · show s + wgt p * 0 ≤ s' + wgt p; omega
      · show s + wgt p * 1 ≤ s' + wgt p; omega
  exact this _ 0 0 (Nat.le_refl _)
/-- a chance -/
def chanceF (T : List Int → Bool) (nx : List Int) : List Int := [((tsum T nx / Nat.gcd (tsum T nx) (10 * (em nx).length) : Nat) : Int), ((10 * (em nx).length / Nat.gcd (tsum T nx) (10 * (em nx).length) : Nat) : Int)]

theorem rget_map (l : LL) (f : List Int → List Int) (i : Nat) (h : i < l.length) : rget (l.map f) i = f (rget l i) := by
  rw [rgetL, rgetL, List.getElem?_map, List.getElem?_eq_getElem h]; rfl
theorem iget_map (l : LL) (f : List Int → Int) (i : Nat) (h : i < l.length) : iget (l.map f) i = f (rget l i) := by
  rw [igetL, rgetL, List.getElem?_map, List.getElem?_eq_getElem h]; rfl

section
variable {b : List Int} (hb : b.length = 16) (ok : okB b = true) {d : Nat} (hd : d < 4)
include hb ok hd
theorem steps_move (hq : ((slideB b d).1 == b) = false) : stepsB b d = (plm (slideB b d).1).map fun p => (d : Int) :: p := by
  rw [stepsB, hq, cond_false, stepsOn_list]
theorem spec_move (F : Nat) (hF : 1000 < F) : spec_l9Move_p F b d = some (!((slideB b d).1 == b)) := by
  have hd' : inB (d : Int) 0 3 = true := by simp [inB]; omega
  simp only [spec_l9Move_p, spec_l9Move_c, spec_l2Board_eq F b hb hF, ok, spec_steps hb ok F hF hd, spec_l2Side_v, l1In_eq, hd', Option.isSome_some, Option.getD_some, cond_true]
  cases hq : (slideB b d).1 == b with
  | true => rw [stepsB, hq]; rfl
  | false =>
    have hr := slide_room hb ok hd hq
    rw [steps_move hb ok hd hq, List.length_map, plm_len]
    rw [decide_eq_true (by omega)]; rfl
theorem impl_move (F : Nat) (hF : 1000 < F) : impl_Board_isMove_p F b d = some (!((slideB b d).1 == b)) := by
  have hd' : inB (d : Int) 0 3 = true := by simp [inB]; omega
  simp only [impl_Board_isMove_p, impl_Board_isMove_c, impl_IsBoard_eq F b hb hF, ok, impl_slides1 hb ok F hF hd, impl_isDirection_v, in_eq, hd', Option.isSome_some, Option.getD_some, cond_true]
theorem spec_boards (F : Nat) (hF : 1000 < F) (hq : ((slideB b d).1 == b) = false) : spec_l9Boards_p F b (stepsB b d) = some ((plm (slideB b d).1).map (putP (slideB b d).1)) := by
  rw [steps_move hb ok hd hq]
  have hl := plm_len40 (slideB b d).1
  have h := loop_fold (step := spec_l9Boards_s3 F ((plm (slideB b d).1).map fun p => (d : Int) :: p) b) (fun i (s : LL) => (i, s)) (plm (slideB b d).1).length (fun i out => out ++ [putP (slideB b d).1 (rget (plm (slideB b d).1) i)]) (fun s => s) (fun i out => out.length = i) (F := F) (by omega) (by omega) (a := []) rfl
    (fun i out hi hI => ⟨by simp [hI], fun Q kn kx => by
      have hf : ∀ x : List Int, fits (out ++ [x]).length 128 = true := fun x => fits_of (by simp; omega) (by simp; omega)
      simp only [spec_l9Boards_s3, List.length_map, Int.ofNat_lt, hi, inR_cast, Int.toNat_natCast, decide_true, cond_true, rget_map _ _ i hi, do_eq hb ok F hF hd hq (rget_mem hi), Option.isSome_some, Option.getD_some, subn_self, hf]⟩) (fun s _ Q kn kx => by simp [spec_l9Boards_s3])
  have e : fld (fun i (out : LL) => out ++ [putP (slideB b d).1 (rget (plm (slideB b d).1) i)]) 0 (plm (slideB b d).1).length [] = (plm (slideB b d).1).map (putP (slideB b d).1) := by
    rw [fld_add, List.nil_append, List.map_eq_flatMap]
    exact rget_self _ _ _ fun i _ => rfl
  have h1 : spec_l9Boards_l3 F ((plm (slideB b d).1).map fun p => (d : Int) :: p) b 0 [] = some ((plm (slideB b d).1).map (putP (slideB b d).1)) := by rw [← e]; exact h.1
  simp only [spec_l9Boards_p, spec_l9Boards_c, h1, Option.isSome_some, Option.getD_some, cond_true]
theorem spec_mean (F : Nat) (hF : 1000 < F) (hq : ((slideB b d).1 == b) = false) (T : List Int → Bool) : spec_l9Mean_p F (stepsB b d) (((plm (slideB b d).1).map (putP (slideB b d).1)).map fun o => ((one (T o) : Nat) : Int)) = some (chanceF T (slideB b d).1) := by
  rw [steps_move hb ok hd hq, List.map_map]
  have hl := plm_len40 (slideB b d).1
  have hroom := slide_room hb ok hd hq
  have hem := em_len (slideB b d).1
  generalize (slideB b d).1 = nx at *
  have hw : ∀ i, i < (plm nx).length → spec_l9Weight_v (rget ((plm nx).map fun p => (d : Int) :: p) i) = ((wgt (rget (plm nx) i) : Nat) : Int) := fun i hi => by
    rw [rget_map _ _ i hi]
    obtain ⟨r, c, t, hp, _, _, ht, _⟩ := plm_is (rget_mem hi)
    rw [hp]
    rcases ht with rfl | rfl <;> rfl
  have h := loop_fold (step := spec_l9Mean_s3 F ((plm nx).map fun p => (d : Int) :: p) ((plm nx).map ((fun o => ((one (T o) : Nat) : Int)) ∘ putP nx))) (fun i (s : Nat × Nat) => ((s.1 : Int), (s.2 : Int), i)) (plm nx).length (fun i s => (s.1 + wgt (rget (plm nx) i) * one (T (putP nx (rget (plm nx) i))), s.2 + wgt (rget (plm nx) i))) (fun s => ((s.1 : Int), (s.2 : Int))) (fun i s => s.1 ≤ 9 * i ∧ s.2 ≤ 9 * i) (F := F) (by omega) (by omega) (a := (0, 0)) ⟨by simp, by simp⟩
    (fun i s hi hI => by
      have h9 := wgt_9 (rget (plm nx) i)
      have h1 : wgt (rget (plm nx) i) * one (T (putP nx (rget (plm nx) i))) ≤ 9 := by
        cases T (putP nx (rget (plm nx) i))
        · show wgt (rget (plm nx) i) * 0 ≤ 9; omega
        · show wgt (rget (plm nx) i) * 1 ≤ 9; omega
      refine ⟨⟨by simp only; omega, by simp only; omega⟩, fun Q kn kx => ?_⟩
      simp only [spec_l9Mean_s3, List.length_map, Int.ofNat_lt, hi, inR_cast, Int.toNat_natCast, decide_true, cond_true, hw i hi, iget_map _ _ i hi, Function.comp]
      rw [← Int.natCast_mul, wi' _ (by omega), ← Int.natCast_add, wi' _ (by omega), ← Int.natCast_add, wi' _ (by omega)]) (fun s _ Q kn kx => by simp [spec_l9Mean_s3])
  have hpair : ∀ (l : LL) (s : Nat × Nat), l.foldl (fun (s : Nat × Nat) p => (s.1 + wgt p * one (T (putP nx p)), s.2 + wgt p)) s = (l.foldl (fun s p => s + wgt p * one (T (putP nx p))) s.1, l.foldl (fun s p => s + wgt p) s.2) := by
    intro l
    induction l with
    | nil => intro s; rfl
    | cons p l ih => intro s; exact ih _
  have e : fld (fun i (s : Nat × Nat) => (s.1 + wgt (rget (plm nx) i) * one (T (putP nx (rget (plm nx) i))), s.2 + wgt (rget (plm nx) i))) 0 (plm nx).length (0, 0) = (tsum T nx, 10 * (em nx).length) := by
    rw [fld_rget (plm nx) (fun p (s : Nat × Nat) => (s.1 + wgt p * one (T (putP nx p)), s.2 + wgt p)), hpair, wsum]; rfl
  have h1 : spec_l9Mean_l3 F ((plm nx).map fun p => (d : Int) :: p) ((plm nx).map ((fun o => ((one (T o) : Nat) : Int)) ∘ putP nx)) 0 0 0 = some (((tsum T nx : Nat) : Int), ((10 * (em nx).length : Nat) : Int)) := by
    have := h.1; rw [e] at this; exact this
  have ht := tsum_le T nx
  have hc := cut_eq F (tsum T nx) (10 * (em nx).length) (by omega) (by omega) (by omega) (by omega)
  simp only [spec_l9Mean_p, spec_l9Mean_c, h1, hc, Option.isSome_some, Option.getD_some, cond_true, chanceF]
end

theorem gcd_one (x : Nat) : x / Nat.gcd x 1 = x ∧ 1 / Nat.gcd x 1 = 1 := by simp
/-- a sum of whole numbers -/
theorem plus_whole (F : Nat) (hF : 1000 < F) (s x : Nat) (hs : s < 1000000) (hx : x < 1000000) : impl_plus_p F [(s : Int), 1] [(x : Int), 1] = some [((s + x : Nat) : Int), 1] := by
  have g0 : iget [(s : Int), 1] 0 = s := rfl
  have g1 : iget [(s : Int), 1] 1 = 1 := rfl
  have g2 : iget [(x : Int), 1] 0 = x := rfl
  have g3 : iget [(x : Int), 1] 1 = 1 := rfl
  have hc := fraction_eq F (s + x) 1 (by omega) (by omega) (by omega) (by omega)
  rw [(gcd_one (s + x)).1, (gcd_one (s + x)).2] at hc
  simp only [impl_plus_p, impl_plus_c, g0, g1, g2, g3, Int.mul_one, wi' s (by omega), wi' x (by omega)]
  rw [← Int.natCast_add, wi' (s + x) (by omega), show IntKind.wrap .i64 1 = ((1 : Nat) : Int) from rfl, hc]
  rfl
theorem flag_eq (t : Bool) : impl_flag_v t = [((one t : Nat) : Int), 1] := by cases t <;> rfl
theorem frac_whole (F : Nat) (hF : 1000 < F) (x : Nat) (hx : x < 1000000) : impl_fraction_p F (x : Int) 1 = some [(x : Int), 1] := by
  have hc := fraction_eq F x 1 (by omega) (by omega) (by omega) (by omega)
  rw [(gcd_one x).1, (gcd_one x).2] at hc
  exact hc
end Go.Lv.P
