/-
The empty cells of a board, told plainly; the placements.
-/
import Derived.Test.YtidmlibanopfhaaTGP0
import Derived.Test.YtidmlibanopfhaaTGP3
import Derived.Test.YtidmlibanopfhaaTGPBoard
import Derived.Test.YtidmlibanopfhaaTGPDelete
namespace Go.Lv.P
open Go Go.Lv
set_option linter.unusedVariables false
set_option linter.unusedSimpArgs false

abbrev cells16 : LL := [[0, 0], [0, 1], [0, 2], [0, 3], [1, 0], [1, 1], [1, 2], [1, 3], [2, 0], [2, 1], [2, 2], [2, 3], [3, 0], [3, 1], [3, 2], [3, 3]]
/-- the place of a cell -/
def plc (c : List Int) : Nat := 0 + (iget c 0).toNat * 4 + (iget c 1).toNat * 1
/-- the empty cells -/
def em (b : List Int) : LL := cells16.filter fun c => iget b (plc c) == 0

theorem cells_all {p : List Int → Prop} (h : ∀ r c : Nat, r < 4 → c < 4 → p [(r : Int), (c : Int)]) : ∀ x ∈ cells16, p x := by
  intro x hx
  simp only [cells16, List.mem_cons, List.not_mem_nil, or_false] at hx
  rcases hx with rfl | rfl | rfl | rfl | rfl | rfl | rfl | rfl | rfl | rfl | rfl | rfl | rfl | rfl | rfl | rfl
  · exact h 0 0 (by decide) (by decide)
  · exact h 0 1 (by decide) (by decide)
  · exact h 0 2 (by decide) (by decide)
  · exact h 0 3 (by decide) (by decide)
  · exact h 1 0 (by decide) (by decide)
  · exact h 1 1 (by decide) (by decide)
  · exact h 1 2 (by decide) (by decide)
  · exact h 1 3 (by decide) (by decide)
  · exact h 2 0 (by decide) (by decide)
  · exact h 2 1 (by decide) (by decide)
  · exact h 2 2 (by decide) (by decide)
  · exact h 2 3 (by decide) (by decide)
  · exact h 3 0 (by decide) (by decide)
  · exact h 3 1 (by decide) (by decide)
  · exact h 3 2 (by decide) (by decide)
  · exact h 3 3 (by decide) (by decide)

theorem empty_f1 (b : List Int) : ∀ x ∈ cells16, impl_Board_empty_f1_p x b = some (!(iget b (plc x) == 0)) :=
  cells_all fun r c hr hc => by
    have e : impl_Board_at_p [(r : Int), (c : Int)] b = some (plc [(r : Int), (c : Int)]) := by
      simp only [impl_Board_at_p, impl_Board_at_c, show iget [(r : Int), (c : Int)] 0 = r from rfl, show iget [(r : Int), (c : Int)] 1 = c from rfl, inR_cast, hr, hc, decide_true, cond_true, plc]
    simp only [impl_Board_empty_f1_p, impl_Board_empty_f1_c, e, Option.isSome_some, Option.getD_some, cond_true]

theorem DeleteFunc_empty (F : Nat) (s : LL) (b : List Int) (q : List Int → Bool) (hs : s.length ≤ 1000) (hF : 1000 < F) (hq : ∀ x ∈ s, impl_Board_empty_f1_p x b = some (q x)) :
    ∃ r, slices_DeleteFunc_2int2int_impl_Board_empty_f1_p F s b = some r ∧ Deleted s q r := by
  have hg : ∀ i, i < s.length → impl_Board_empty_f1_p (rget s i) b = some (q (rget s i)) := fun i hi => by
    refine hq _ ?_
    rw [rgetL, List.getElem?_eq_getElem hi]
    exact List.getElem_mem hi
  have h1 : slices_IndexFunc_2int2int_impl_Board_empty_f1_l2 F s s.length b 0 = some (fnd (fun i => q (rget s i)) (fun i => (true, (i : Int))) (false, default) 0 s.length) := by
    refine loop_find (fun i => i) s.length _ _ _ (by omega) (by omega) (fun i hi Q kn kx => ?_) fun Q kn kx => ?_
    · simp only [slices_IndexFunc_2int2int_impl_Board_empty_f1_s2, inR_cast, hi, hg i hi, Int.toNat_natCast, decide_true, cond_true, Int.ofNat_lt, Option.isSome_some, Option.getD_some]
    · simp [slices_IndexFunc_2int2int_impl_Board_empty_f1_s2]
  simp only [slices_DeleteFunc_2int2int_impl_Board_empty_f1_p, slices_DeleteFunc_2int2int_impl_Board_empty_f1_c, slices_IndexFunc_2int2int_impl_Board_empty_f1_p, slices_IndexFunc_2int2int_impl_Board_empty_f1_c, subn_self, h1, Option.isSome_some, Option.getD_some, cond_true]
  rcases fnd_split s q s.length 0 (by omega) (by simp) with ⟨h2, h3⟩ | ⟨j, hj, h2, h3, h4⟩
  · rw [h2]
    refine ⟨(s.length, s), rfl, ?_⟩
    have e := filter_all (q := q) h3
    exact ⟨by rw [e], by rw [e]; exact List.take_length, rfl⟩
  · rw [h2]
    have hgj : rget s j = s[j] := by rw [rgetL, List.getElem?_eq_getElem hj]; rfl
    obtain ⟨s', l1, l2, l3⟩ := delete_loop (step := slices_DeleteFunc_2int2int_impl_Board_empty_f1_s5 F s.length b) q (fun x => impl_Board_empty_f1_p x b = some (q x)) s.length (by omega)
      (fun i j s'' hij hjn hl hp Q kn kx => by
        have hin : i < s.length := by omega
        simp only [slices_DeleteFunc_2int2int_impl_Board_empty_f1_s5, Int.ofNat_lt, hjn, inR_cast, hin, Int.toNat_natCast, decide_true, cond_true, hp, Option.isSome_some, Option.getD_some]
        cases q (rget s'' (0 + j)) <;> rfl)
      (fun i s'' Q kn kx => by simp [slices_DeleteFunc_2int2int_impl_Board_empty_f1_s5]) (s.length - (j + 1)) j (j + 1) F s (by omega) (by omega) (by omega) rfl (fun x hx => hq x (List.mem_of_mem_drop hx))
    have e : s.filter (fun x => !q x) = s.take j ++ (s.drop (j + 1)).filter (fun x => !q x) := by
      have e1 : s = s.take j ++ s[j] :: s.drop (j + 1) := by rw [← List.drop_eq_getElem_cons hj, List.take_append_drop]
      conv => lhs; rw [e1]
      rw [List.filter_append, List.filter_cons, ← hgj, h3]
      simp only [Bool.not_true, Bool.false_eq_true, if_false]
      rw [filter_all]
      exact h4
    have el : j + ((s.drop (j + 1)).filter fun x => !q x).length = (s.filter fun x => !q x).length := by
      rw [e, List.length_append, List.length_take, Nat.min_eq_left (Nat.le_of_lt hj)]
    rw [el] at l1 l3
    rw [← e] at l3
    have ll : (s.filter fun x => !q x).length ≤ s.length := List.length_filter_le _ _
    have l1' : slices_DeleteFunc_2int2int_impl_Board_empty_f1_l5 F s.length b (j : Int) (IntKind.wrap .i64 ((j : Int) + 1)) s = some ((((s.filter fun x => !q x).length : Nat) : Int), s') := by
      rw [wrap_succ (n := s.length) hj (by omega)]
      exact l1
    have hne : ((j : Int) == -1) = false := by
      rw [beq_eq_false_iff_ne]; omega
    simp only [cond_true, Option.getD_some, l1', hne, cond_false, Option.isSome_some, inLe_cast, ll, decide_true, Int.toNat_natCast, Nat.sub_zero]
    refine ⟨_, rfl, rfl, ?_, ?_⟩
    · show (splice s' (0 + _) _ _).take _ = _
      rw [splice_take _ _ _ _ (by omega) (by simp), l3]
    · rw [← l2]
      show (splice s' (0 + _) _ _).length = _
      exact splice_len' _ _ _ (by omega) (by simp)

theorem impl_empty_eq (F : Nat) (b : List Int) (hF : 1000 < F) : ∃ r, impl_Board_empty_p F b = some r ∧ Deleted cells16 (fun c => !(iget b (plc c) == 0)) r := by
  obtain ⟨r, h1, h2⟩ := DeleteFunc_empty F cells16 b (fun c => !(iget b (plc c) == 0)) (by decide) hF (empty_f1 b)
  exact ⟨r, by simp only [impl_Board_empty_p, impl_Board_empty_c, h1, Option.isSome_some, Option.getD_some, cond_true], h2⟩

theorem em_not (b : List Int) : (cells16.filter fun x => !!(iget b (plc x) == 0)) = em b := by simp only [Bool.not_not]; rfl
theorem em_len (b : List Int) : (em b).length ≤ 16 := List.length_filter_le _ _
theorem em_mem (b : List Int) : ∀ x ∈ em b, x ∈ cells16 := fun x hx => (List.mem_filter.1 hx).1

theorem fld_add {h : Nat → LL} : ∀ (m i : Nat) (a : LL), fld (fun i a => a ++ h i) i m a = a ++ (List.range' i m).flatMap h
  | 0, i, a => by simp [fld]
  | m + 1, i, a => by
    simp only [fld, fld_add m (i + 1), List.range'_succ, List.flatMap_cons, List.append_assoc]

theorem filter_flatMap (l : LL) (q : List Int → Bool) : l.filter q = l.flatMap fun c => bif q c then [c] else [] := by
  induction l with
  | nil => rfl
  | cons a r ih =>
    rw [List.filter_cons, List.flatMap_cons, ← ih]
    cases q a <;> rfl

theorem flat_len {h : Nat → LL} (hl : ∀ i, (h i).length ≤ 1) : ∀ m i, ((List.range' i m).flatMap h).length ≤ m
  | 0, i => by simp
  | m + 1, i => by
    have := flat_len hl m (i + 1)
    have := hl i
    simp only [List.range'_succ, List.flatMap_cons, List.length_append]
    omega

theorem spec_empty_eq (F : Nat) (b : List Int) (hF : 1000 < F) : spec_l2Empty_p F b = some (em b) := by
  let hc : Nat → Nat → LL := fun r c => bif iget b (0 + r * 4 + c * 1) == 0 then [[(r : Int), (c : Int)]] else []
  have hc1 : ∀ r c, (hc r c).length ≤ 1 := fun r c => by
    show (bif iget b (0 + r * 4 + c * 1) == 0 then [[(r : Int), (c : Int)]] else [] : LL).length ≤ 1
    cases iget b (0 + r * 4 + c * 1) == 0 <;> simp
  have hin : ∀ (r : Nat) (out : LL), r < 4 → out.length ≤ 100 → spec_l2Empty_l6 F r b 0 out = some (out ++ (List.range' 0 4).flatMap (hc r)) := fun r out hr ho => by
    rw [← fld_add]
    refine (loop_fold (step := spec_l2Empty_s6 F r b) (fun i a => (i, a)) 4 (fun i a => a ++ hc r i) (fun a => a) (fun i a => a.length ≤ 100 + i) (F := F) (by omega) (by omega) (a := out) (by omega) (fun i a hi hI => ⟨?_, fun Q kn kx => ?_⟩) (fun a _ Q kn kx => by simp [spec_l2Empty_s6])).1
    · have := hc1 r i
      simp only [List.length_append]
      omega
    · have hi' : (i : Int) < 4 := by omega
      have hf : fits (a ++ [[(r : Int), (i : Int)]]).length 16 = true := fits_of (by simp; omega) (by simp; omega)
      simp only [spec_l2Empty_s6, hi', inR_cast, hi, hr, Int.toNat_natCast, decide_true, cond_true, subn_self, hf, hc]
      cases iget b (0 + r * 4 + i * 1) == 0
      · simp only [cond_false, List.append_nil]
      · rfl
  have hout : spec_l2Empty_l3 F b 0 [] = some ([] ++ (List.range' 0 4).flatMap fun r => (List.range' 0 4).flatMap (hc r)) := by
    rw [← fld_add]
    refine (loop_fold (step := spec_l2Empty_s3 F b) (fun i a => (i, a)) 4 (fun r a => a ++ (List.range' 0 4).flatMap (hc r)) (fun a => a) (fun i a => a.length ≤ 4 * i) (F := F) (by omega) (by omega) (a := []) (by simp) (fun i a hi hI => ⟨?_, fun Q kn kx => ?_⟩) (fun a _ Q kn kx => by simp [spec_l2Empty_s3])).1
    · have := flat_len (hc1 i) 4 0
      simp only [List.length_append]
      omega
    · have hi' : (i : Int) < 4 := by omega
      simp only [spec_l2Empty_s3, hi', decide_true, cond_true, hin i a hi (by omega), beq_selfL, Option.isSome_some, Option.getD_some, Bool.and_self]
  simp only [spec_l2Empty_p, spec_l2Empty_c, hout, Option.isSome_some, Option.getD_some, cond_true]
  congr 1
  rw [em, filter_flatMap]
  simp only [List.range'_succ, List.range'_zero, List.flatMap_cons, List.flatMap_nil, List.append_nil, List.nil_append, List.append_assoc, hc, cells16]
  rfl

/-- the placements on a board -/
def plm (b : List Int) : LL := fld (fun i a => a ++ [[iget (rget (em b) i) 0, iget (rget (em b) i) 1, 1], [iget (rget (em b) i) 0, iget (rget (em b) i) 1, 2]]) 0 (em b).length []

theorem spec_places_eq (F : Nat) (b : List Int) (hF : 1000 < F) : spec_l8Places_p F b = some (plm b) := by
  have hl := em_len b
  have h : spec_l8Places_l3 F (em b) 0 [] = some (plm b) := by
    refine (loop_fold (step := spec_l8Places_s3 F (em b)) (fun i a => (i, a)) (em b).length _ (fun a => a) (fun i a => a.length ≤ 2 * i) (F := F) (by omega) (by omega) (a := []) (by simp) (fun i a hi hI => ⟨?_, fun Q kn kx => ?_⟩) (fun a _ Q kn kx => by simp [spec_l8Places_s3])).1
    · simp; omega
    · have hf : ∀ x y : List Int, fits (a ++ [x, y]).length 24 = true := fun x y => fits_of (by simp; omega) (by simp; omega)
      simp only [spec_l8Places_s3, Int.ofNat_lt, inR_cast, hi, Int.toNat_natCast, decide_true, cond_true, subn_self, hf, Nat.zero_add]
  simp only [spec_l8Places_p, spec_l8Places_c, spec_empty_eq F b hF, h, Option.isSome_some, Option.getD_some, cond_true, beq_selfL, Bool.and_self]

theorem impl_places_eq (F : Nat) (b : List Int) (hF : 1000 < F) : impl_Board_placements_p F b = some (plm b) := by
  have hl := em_len b
  obtain ⟨r, h1, h2⟩ := impl_empty_eq F b hF
  have hr : r.1 = (em b).length := by rw [h2.1, em_not]
  have hg : ∀ i, i < (em b).length → rget r.2 (0 + i) = rget (em b) i := fun i hi => by
    rw [h2.get (hr ▸ hi), em_not]
  have h : impl_Board_placements_l3 F r.1 r.1 r.2 0 [] = some (plm b) := by
    rw [hr]
    refine (loop_fold (step := impl_Board_placements_s3 F (em b).length (em b).length r.2) (fun i a => (i, a)) (em b).length _ (fun a => a) (fun i a => a.length ≤ 2 * i) (F := F) (by omega) (by omega) (a := []) (by simp) (fun i a hi hI => ⟨?_, fun Q kn kx => ?_⟩) (fun a _ Q kn kx => by simp [impl_Board_placements_s3])).1
    · simp; omega
    · have hf : ∀ x y : List Int, fits (a ++ [x, y]).length 24 = true := fun x y => fits_of (by simp; omega) (by simp; omega)
      simp only [impl_Board_placements_s3, Int.ofNat_lt, inR_cast, hi, Int.toNat_natCast, decide_true, cond_true, subn_self, hf, hg i hi]
  simp only [impl_Board_placements_p, impl_Board_placements_c, h1, h, Option.isSome_some, Option.getD_some, cond_true]

theorem plm_mem (b : List Int) : ∀ x ∈ plm b, x.length = 3 := by
  rw [plm, fld_add]
  intro x hx
  simp only [List.nil_append, List.mem_flatMap, List.mem_cons, List.not_mem_nil, or_false] at hx
  obtain ⟨i, _, rfl | rfl⟩ := hx <;> rfl

theorem plm_len (b : List Int) : (plm b).length = 2 * (em b).length := by
  rw [plm, fld_add]
  have : ∀ m i, ((List.range' i m).flatMap fun i => [[iget (rget (em b) i) 0, iget (rget (em b) i) 1, 1], [iget (rget (em b) i) 0, iget (rget (em b) i) 1, (2 : Int)]]).length = 2 * m := by
    intro m
    induction m with
    | zero => intro i; rfl
    | succ m ih => intro i; rw [List.range'_succ, List.flatMap_cons, List.length_append, ih]; simp; omega
  simpa using this (em b).length 0
end Go.Lv.P
