/-
The highest tile of a board, told plainly.
-/
import Derived.Test.YtkclnchkemacgaaTJP2
import Derived.Test.YtkclnchkemacgaaTJP3
import Derived.Test.YtkclnchkemacgaaTJPBoard
namespace Go.Lv.P
open Go Go.Lv
set_option linter.unusedVariables false
set_option linter.unusedSimpArgs false
set_option linter.unusedSectionVars false

/-- one cell more -/
def hstep (b : List Int) (i : Nat) (s : Int × List Int) : Int × List Int := bif decide (s.1 < iget b i) then (iget b i, [((i / 4 : Nat) : Int), ((i % 4 : Nat) : Int)]) else s
/-- the highest tile and its first cell -/
def highB (b : List Int) : Int × List Int := fld (hstep b) 0 16 (0, [0, 0])
theorem fld_44 {A : Type} (g : Nat → A → A) (a : A) : fld (fun r a => fld (fun c a => g (0 + r * 4 + c * 1) a) 0 4 a) 0 4 a = fld g 0 16 a := rfl
theorem impl_high (F : Nat) (b : List Int) (hF : 1000 < F) : impl_Board_highest_p F b = some (highB b) := by
  have hat : ∀ i, i < 16 → impl_Board_at_p (rget [[(0 : Int), (0 : Int)], [(0 : Int), (1 : Int)], [(0 : Int), (2 : Int)], [(0 : Int), (3 : Int)], [(1 : Int), (0 : Int)], [(1 : Int), (1 : Int)], [(1 : Int), (2 : Int)], [(1 : Int), (3 : Int)], [(2 : Int), (0 : Int)], [(2 : Int), (1 : Int)], [(2 : Int), (2 : Int)], [(2 : Int), (3 : Int)], [(3 : Int), (0 : Int)], [(3 : Int), (1 : Int)], [(3 : Int), (2 : Int)], [(3 : Int), (3 : Int)]] (0 + i)) b = some i ∧
      rget [[(0 : Int), (0 : Int)], [(0 : Int), (1 : Int)], [(0 : Int), (2 : Int)], [(0 : Int), (3 : Int)], [(1 : Int), (0 : Int)], [(1 : Int), (1 : Int)], [(1 : Int), (2 : Int)], [(1 : Int), (3 : Int)], [(2 : Int), (0 : Int)], [(2 : Int), (1 : Int)], [(2 : Int), (2 : Int)], [(2 : Int), (3 : Int)], [(3 : Int), (0 : Int)], [(3 : Int), (1 : Int)], [(3 : Int), (2 : Int)], [(3 : Int), (3 : Int)]] (0 + i) = [((i / 4 : Nat) : Int), ((i % 4 : Nat) : Int)] := fun i hi => by
    obtain rfl | rfl | rfl | rfl | rfl | rfl | rfl | rfl | rfl | rfl | rfl | rfl | rfl | rfl | rfl | rfl : i = 0 ∨ i = 1 ∨ i = 2 ∨ i = 3 ∨ i = 4 ∨ i = 5 ∨ i = 6 ∨ i = 7 ∨ i = 8 ∨ i = 9 ∨ i = 10 ∨ i = 11 ∨ i = 12 ∨ i = 13 ∨ i = 14 ∨ i = 15 := by omega
    all_goals exact ⟨rfl, rfl⟩
  have h := loop_fold (step := impl_Board_highest_s3 F b) (fun i (s : Int × List Int) => (s.1, i, s.2)) 16 (hstep b) (fun s => (s.1, s.2)) (fun _ _ => True) (F := F) (by omega) (by omega) (a := (0, [0, 0])) trivial
    (fun i s hi _ => ⟨trivial, fun Q kn kx => by
      have hi' : (i : Int) < 16 := by omega
      obtain ⟨h1, h2⟩ := hat i hi
      rw [h2] at h1
      simp only [impl_Board_highest_s3, hi', decide_true, cond_true, inR_cast, hi, Int.toNat_natCast, h1, h2, Option.isSome_some, Option.getD_some, hstep]
      cases decide (s.1 < iget b i) <;> rfl⟩) (fun s _ Q kn kx => by simp [impl_Board_highest_s3])
  have h1 : impl_Board_highest_l3 F b 0 0 [0, 0] = some (highB b) := h.1
  simp only [impl_Board_highest_p, impl_Board_highest_c, h1, Option.isSome_some, Option.getD_some, cond_true]
theorem spec_high (F : Nat) (b : List Int) (hb : b.length = 16) (hF : 1000 < F) : spec_HighestTile_p F b = some (bif okB b then ((highB b).1, (highB b).2, decide (0 < (highB b).1)) else (0, [0, 0], false)) := by
  have hin : ∀ (r : Nat) (s : Int × List Int), r < 4 → spec_HighestTile_l8 F r b s.1 0 s.2 = some ((fld (fun c s => hstep b (0 + r * 4 + c * 1) s) 0 4 s).1, (fld (fun c s => hstep b (0 + r * 4 + c * 1) s) 0 4 s).2) := fun r s hr => by
    refine (loop_fold (step := spec_HighestTile_s8 F r b) (fun c (s : Int × List Int) => (s.1, c, s.2)) 4 (fun c s => hstep b (0 + r * 4 + c * 1) s) (fun s => (s.1, s.2)) (fun _ _ => True) (F := F) (by omega) (by omega) (a := s) trivial
      (fun c s hc _ => ⟨trivial, fun Q kn kx => by
        have hc' : (c : Int) < 4 := by omega
        have e1 : (0 + r * 4 + c * 1) / 4 = r := by omega
        have e2 : (0 + r * 4 + c * 1) % 4 = c := by omega
        simp only [spec_HighestTile_s8, hc', decide_true, cond_true, inR_cast, hc, hr, Int.toNat_natCast, hstep, e1, e2]
        cases decide (s.1 < iget b (0 + r * 4 + c * 1)) <;> rfl⟩) (fun s _ Q kn kx => by simp [spec_HighestTile_s8])).1
  have h := loop_fold (step := spec_HighestTile_s5 F b) (fun r (s : Int × List Int) => (s.1, r, s.2)) 4 (fun r s => fld (fun c s => hstep b (0 + r * 4 + c * 1) s) 0 4 s) (fun s => (s.1, s.2)) (fun _ _ => True) (F := F) (by omega) (by omega) (a := (0, [0, 0])) trivial
    (fun r s hr _ => ⟨trivial, fun Q kn kx => by
      have hr' : (r : Int) < 4 := by omega
      simp only [spec_HighestTile_s5, hr', decide_true, cond_true, hin r s hr, Option.isSome_some, Option.getD_some]⟩) (fun s _ Q kn kx => by simp [spec_HighestTile_s5])
  have h1 := h.1
  rw [fld_44 (hstep b)] at h1
  have h1 : spec_HighestTile_l5 F b 0 0 [0, 0] = some (highB b) := h1
  simp only [spec_HighestTile_p, spec_HighestTile_c, h1, spec_l2Board_eq F b hb hF, Option.isSome_some, Option.getD_some, cond_true]
  cases okB b <;> rfl
end Go.Lv.P
