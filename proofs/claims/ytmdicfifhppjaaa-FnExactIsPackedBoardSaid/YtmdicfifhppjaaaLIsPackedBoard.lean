/-
FnExactIsPackedBoard: both say the same.
-/
import Derived.Test.YtmdicfifhppjaaaTAP0
import Derived.Test.YtmdicfifhppjaaaTAP1
import Derived.Test.YtmdicfifhppjaaaPEq
import Derived.Test.YtmdicfifhppjaaaPSum
namespace Go.Lv.P
open Go Go.Lv
set_option linter.unusedVariables false
set_option linter.unusedSimpArgs false

/-- one more of a tile -/
def bump (out : List Int) (x : Int) : List Int := iset out (0 + x.toNat * 1) (IntKind.wrap .i64 (iget out (0 + x.toNat * 1) + 1))
abbrev zero18 : List Int := [0, 0, 0, 0, 0, 0, 0, 0, 0, 0, 0, 0, 0, 0, 0, 0, 0, 0]
abbrev cellsL : List (List Int) := [[0, 0], [0, 1], [0, 2], [0, 3], [1, 0], [1, 1], [1, 2], [1, 3], [2, 0], [2, 1], [2, 2], [2, 3], [3, 0], [3, 1], [3, 2], [3, 3]]

theorem inR18 {x : Int} (h : inB x 0 17 = true) : inR x 18 = true := by
  simp [inB] at h
  exact inR_true h.1 (by omega)

theorem at_cells (b : List Int) : ∀ i : Nat, i < 16 → impl_Board_at_p (rget cellsL (0 + i)) b = some i := by
  intro i hi
  obtain rfl | rfl | rfl | rfl | rfl | rfl | rfl | rfl | rfl | rfl | rfl | rfl | rfl | rfl | rfl | rfl : i = 0 ∨ i = 1 ∨ i = 2 ∨ i = 3 ∨ i = 4 ∨ i = 5 ∨ i = 6 ∨ i = 7 ∨ i = 8 ∨ i = 9 ∨ i = 10 ∨ i = 11 ∨ i = 12 ∨ i = 13 ∨ i = 14 ∨ i = 15 := by omega
  all_goals rfl

theorem bump_len (out : List Int) (x : Int) : (bump out x).length = out.length := by simp [bump, isetL]
theorem bumps_len : ∀ (l : List Int) (out : List Int), (l.foldl bump out).length = out.length
  | [], _ => rfl
  | x :: r, out => by rw [List.foldl_cons, bumps_len r, bump_len]

theorem impl_Count_eq (F : Nat) (b : List Int) (hb : b.length = 16) (hF : 1000 < F) : impl_CountTiles_p F b = some (bif okB b then (b.foldl bump zero18, true) else (zero18, false)) := by
  simp only [impl_CountTiles_p, impl_CountTiles_c, impl_IsBoard_eq F b hb hF, Option.isSome_some, Option.getD_some, cond_true]
  cases hB : okB b with
  | false => rfl
  | true =>
    have h := loop_fold (step := impl_CountTiles_s5 F b) (fun i a => (i, a)) 16 (fun i a => bump a (iget b i)) (fun a => a) (fun _ _ => True) (F := F) (by omega) (by omega) (a := zero18) trivial
      (fun i a hi _ => ⟨trivial, fun Q kn kx => by
        have hi' : (i : Int) < 16 := by omega
        simp only [impl_CountTiles_s5, Int.toNat_natCast, at_cells b i hi, hi', inR_cast, hi, decide_true, cond_true, Option.isSome_some, Option.getD_some, inR18 (okB_iget hb hB i hi), bump]⟩) (fun a _ Q kn kx => by simp [impl_CountTiles_s5])
    have e : impl_CountTiles_l5 F b 0 zero18 = some (b.foldl bump zero18) := by
      refine h.1.trans ?_
      clear h hB
      obtain ⟨x0, x1, x2, x3, x4, x5, x6, x7, x8, x9, x10, x11, x12, x13, x14, x15, rfl⟩ := list16 hb
      kernel_rfl
    simp only [e, Bool.not_true, cond_false, Option.isSome_some, Option.getD_some, cond_true]

theorem spec_Count_eq (F : Nat) (b : List Int) (hb : b.length = 16) (hF : 1000 < F) : spec_CountTiles_p F b = some (bif okB b then (b.foldl bump zero18, true) else (zero18, false)) := by
  simp only [spec_CountTiles_p, spec_CountTiles_c, spec_l2Board_eq F b hb hF, Option.isSome_some, Option.getD_some, cond_true]
  cases hB : okB b with
  | false => rfl
  | true =>
    have h := loop_fold (step := spec_CountTiles_s5 F b) (fun i a => (i, a)) 4 (fun i a => bump (bump (bump (bump a (iget b (0 + i * 4))) (iget b (0 + i * 4 + 1))) (iget b (0 + i * 4 + 2))) (iget b (0 + i * 4 + 3))) (fun a => a) (fun _ _ => True) (F := F) (by omega) (by omega) (a := zero18) trivial
      (fun i a hi _ => ⟨trivial, fun Q kn kx => by
        have hi' : (i : Int) < 4 := by omega
        simp only [spec_CountTiles_s5, Int.toNat_natCast, hi', inR_cast, hi, decide_true, cond_true, inR18 (okB_iget hb hB (0 + i * 4) (by omega)), inR18 (okB_iget hb hB (0 + i * 4 + 1) (by omega)), inR18 (okB_iget hb hB (0 + i * 4 + 2) (by omega)), inR18 (okB_iget hb hB (0 + i * 4 + 3) (by omega)), bump]⟩) (fun a _ Q kn kx => by simp [spec_CountTiles_s5])
    have e : spec_CountTiles_l5 F b 0 zero18 = some (b.foldl bump zero18) := by
      refine h.1.trans ?_
      clear h hB
      obtain ⟨x0, x1, x2, x3, x4, x5, x6, x7, x8, x9, x10, x11, x12, x13, x14, x15, rfl⟩ := list16 hb
      kernel_rfl
    simp only [e, Bool.not_true, cond_false, Option.isSome_some, Option.getD_some, cond_true]

theorem contains_packed (F : Nat) (s : List Int) (hs : s.length ≤ 1000) (hF : 1000 < F) : slices_ContainsFunc_intint_impl_IsPackedBoard_f1_p F s = some (s.any fun x => decide (1 < x)) := by
  have h : slices_IndexFunc_intint_impl_IsPackedBoard_f1_l2 F s s.length 0 = some (fnd (fun i => decide (1 < iget s i)) (fun i => (true, (i : Int))) (false, default) 0 s.length) := by
    refine loop_find (fun i => i) s.length _ _ _ (by omega) (by omega) (fun i hi Q kn kx => ?_) fun Q kn kx => ?_
    · simp only [slices_IndexFunc_intint_impl_IsPackedBoard_f1_s2, inR_cast, hi, impl_IsPackedBoard_f1_v, Int.toNat_natCast, decide_true, cond_true, Int.ofNat_lt]
    · simp [slices_IndexFunc_intint_impl_IsPackedBoard_f1_s2]
  simp only [slices_ContainsFunc_intint_impl_IsPackedBoard_f1_p, slices_ContainsFunc_intint_impl_IsPackedBoard_f1_c, slices_IndexFunc_intint_impl_IsPackedBoard_f1_p, slices_IndexFunc_intint_impl_IsPackedBoard_f1_c, h, Option.isSome_some, Option.getD_some, cond_true]
  rw [← any_iget s fun x => decide (1 < x), ← fnd_place]
  cases (fnd (fun i => decide (1 < iget s i)) (fun i => (true, (i : Int))) (false, default) 0 s.length).1 <;> rfl

theorem fnd_any' (p : Nat → Bool) : ∀ m i, fnd p (fun _ => true) false i m = (List.range' i m).any p
  | 0, i => rfl
  | m + 1, i => by
    simp only [fnd, fnd_any' p m, List.range'_succ, List.any_cons]
    cases p i <;> rfl

theorem many_eq (c : List Int) (hc : c.length = 18) : ((List.range' 1 17).any fun t => decide (1 < iget c (0 + t * 1))) = (sub c 1 17).any fun x => decide (1 < x) := by
  match c, hc with
  | [x0, x1, x2, x3, x4, x5, x6, x7, x8, x9, x10, x11, x12, x13, x14, x15, x16, x17], _ => simp [sub, List.range'_succ, iget, Bool.or_assoc]; rfl

theorem packed_same (F : Nat) (b : List Int) (hb : b.length = 16) (hF : 1000 < F) : ∃ v, spec_IsPackedBoard_p F b = some v ∧ impl_IsPackedBoard_p F b = some v := by
  simp only [spec_IsPackedBoard_p, spec_IsPackedBoard_c, impl_IsPackedBoard_p, impl_IsPackedBoard_c, spec_Count_eq F b hb hF, impl_Count_eq F b hb hF, Option.isSome_some, Option.getD_some, cond_true]
  have l3 : ∀ ok (c : List Int), c.length = 18 → spec_IsPackedBoard_l3 F ok c 1 = some ((sub c 1 17).any fun x => decide (1 < x)) := fun ok c hc => by
    rw [← many_eq c hc, ← fnd_any']
    refine loop_find_gen (mk := fun i => i) (n := 18) (by omega) (fun i hi Q kn kx => ?_) (fun Q kn kx => ?_) 17 1 F rfl (by omega) some
    · have hi' : (i : Int) ≤ 17 := by omega
      simp only [spec_IsPackedBoard_s3, hi', inR_cast, hi, Int.toNat_natCast, decide_true, cond_true]
    · simp [spec_IsPackedBoard_s3]
  cases hB : okB b with
  | false => 
    simp only [cond_false]
    rw [l3 _ _ rfl]
    exact ⟨_, rfl, rfl⟩
  | true =>
    simp only [cond_true]
    have hl : (b.foldl bump zero18).length = 18 := by rw [bumps_len]; rfl
    rw [l3 _ _ hl, contains_packed F _ (by simp [sub]; omega) hF]
    cases ((sub (b.foldl bump zero18) 1 17).any fun x => decide (1 < x)) <;> exact ⟨_, rfl, rfl⟩

theorem law_IsPackedBoard (F : Nat) (b : List Int) (hb : b.length = 16) (_ : ∀ x ∈ b, Rng x) (hF : 1000 < F) : laws_FnExactIsPackedBoard_p F b = some true := by
  obtain ⟨v, h1, h2⟩ := packed_same F b hb hF
  simp only [laws_FnExactIsPackedBoard_p, laws_FnExactIsPackedBoard_c, toBoard_eq hb, h1, h2, Option.isSome_some, Option.getD_some, cond_true, beq_self_eq_true, Bool.not_true, cond_false]
end Go.Lv.P
