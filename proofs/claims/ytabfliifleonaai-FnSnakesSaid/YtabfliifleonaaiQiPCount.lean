/-
Counts of tiles, as both count them.
-/
import Derived.Test.YtabfliifleonaaiQiP3
import Derived.Test.YtabfliifleonaaiQiPBoard
import Derived.Test.YtabfliifleonaaiQiPSumB
import Derived.Test.YtabfliifleonaaiQiPCnt
namespace Go.Lv.P
open Go Go.Lv
set_option linter.unusedVariables false
set_option linter.unusedSimpArgs false
set_option linter.unusedSectionVars false

abbrev cellsL : List (List Int) := [[0, 0], [0, 1], [0, 2], [0, 3], [1, 0], [1, 1], [1, 2], [1, 3], [2, 0], [2, 1], [2, 2], [2, 3], [3, 0], [3, 1], [3, 2], [3, 3]]

theorem inR18 {x : Int} (h : inB x 0 17 = true) : inR x 18 = true := by
  simp [inB] at h
  exact inR_true h.1 (by omega)

theorem at_cells (b : List Int) : ∀ i : Nat, i < 16 → impl_Board_at_p (rget cellsL (0 + i)) b = some i := by
  intro i hi
  obtain rfl | rfl | rfl | rfl | rfl | rfl | rfl | rfl | rfl | rfl | rfl | rfl | rfl | rfl | rfl | rfl : i = 0 ∨ i = 1 ∨ i = 2 ∨ i = 3 ∨ i = 4 ∨ i = 5 ∨ i = 6 ∨ i = 7 ∨ i = 8 ∨ i = 9 ∨ i = 10 ∨ i = 11 ∨ i = 12 ∨ i = 13 ∨ i = 14 ∨ i = 15 := by omega
  all_goals rfl

theorem bump_len (out : List Int) (x : Int) : (bump out x).length = out.length := by simp [bump, isetL]
theorem bumps_len : ∀ (l : List Int) (out : List Int), (l.foldl bump out).length = out.length
  | [], _ => rfl
  | x :: r, out => by rw [List.foldl_cons, bumps_len r, bump_len]

theorem impl_Count_eq (F : Nat) (b : List Int) (hb : b.length = 16) (hF : 1000 < F) : impl_CountTiles_p F b = some (bif okB b then (b.foldl bump zero18, true) else (zero18, false)) := by
  simp only [impl_CountTiles_p, impl_CountTiles_c, impl_IsBoard_eq F b hb hF, Option.isSome_some, Option.getD_some, cond_true]
  cases hB : okB b with
  | false => rfl
  | true =>
    have h := loop_fold (step := impl_CountTiles_s5 F b) (fun i a => (i, a)) 16 (fun i a => bump a (iget b i)) (fun a => a) (fun _ _ => True) (F := F) (by omega) (by omega) (a := zero18) trivial
      (fun i a hi _ => ⟨trivial, fun Q kn kx => by
        have hi' : (i : Int) < 16 := by omega
        simp only [impl_CountTiles_s5, Int.toNat_natCast, at_cells b i hi, hi', inR_cast, hi, decide_true, cond_true, Option.isSome_some, Option.getD_some, inR18 (okB_iget hb hB i hi), bump]⟩) (fun a _ Q kn kx => by simp [impl_CountTiles_s5])
    have e : impl_CountTiles_l5 F b 0 zero18 = some (b.foldl bump zero18) := by
      refine h.1.trans ?_
      clear h hB
      obtain ⟨x0, x1, x2, x3, x4, x5, x6, x7, x8, x9, x10, x11, x12, x13, x14, x15, rfl⟩ := list16 hb
      kernel_rfl
    simp only [e, Bool.not_true, cond_false, Option.isSome_some, Option.getD_some, cond_true]

end Go.Lv.P
