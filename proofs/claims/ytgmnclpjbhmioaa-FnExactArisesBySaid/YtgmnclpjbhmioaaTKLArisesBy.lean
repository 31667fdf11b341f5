/-
FnExactArisesBy: both say the same.
-/
import Derived.Test.YtgmnclpjbhmioaaTKP0
import Derived.Test.YtgmnclpjbhmioaaTKP1
import Derived.Test.YtgmnclpjbhmioaaTKP5
import Derived.Test.YtgmnclpjbhmioaaTKP6
import Derived.Test.YtgmnclpjbhmioaaTKPMade
import Derived.Test.YtgmnclpjbhmioaaTKPDelete
import Derived.Test.YtgmnclpjbhmioaaTKPEm
import Derived.Test.YtgmnclpjbhmioaaTKPMkA2S
import Derived.Test.YtgmnclpjbhmioaaTKPTail
import Derived.Test.YtgmnclpjbhmioaaTKPToBoard
namespace Go.Lv.P
open Go Go.Lv
set_option linter.unusedVariables false
set_option linter.unusedSimpArgs false
set_option linter.unusedSectionVars false

theorem Delete_arises (F : Nat) (s : LL) (b : List Int) (q : List Int → Bool) (hs : s.length ≤ 1000) (hF : 1000 < F) (hq : ∀ x ∈ s, impl_ArisesBy_f1_p F x b = some (q x)) :
    ∃ r, slices_DeleteFunc_2int2int_impl_ArisesBy_f1_p F s b = some r ∧ Deleted s q r := by
  have hg : ∀ i, i < s.length → impl_ArisesBy_f1_p F (rget s i) b = some (q (rget s i)) := fun i hi => by
    refine hq _ ?_
    rw [rgetL, List.getElem?_eq_getElem hi]
    exact List.getElem_mem hi
  have h1 : slices_IndexFunc_2int2int_impl_ArisesBy_f1_l2 F s s.length b 0 = some (fnd (fun i => q (rget s i)) (fun i => (true, (i : Int))) (false, default) 0 s.length) := by
    refine loop_find (fun i => i) s.length _ _ _ (by omega) (by omega) (fun i hi Q kn kx => ?_) fun Q kn kx => ?_
    · simp only [slices_IndexFunc_2int2int_impl_ArisesBy_f1_s2, inR_cast, hi, hg i hi, Int.toNat_natCast, decide_true, cond_true, Int.ofNat_lt, Option.isSome_some, Option.getD_some]
    · simp [slices_IndexFunc_2int2int_impl_ArisesBy_f1_s2]
  simp only [slices_DeleteFunc_2int2int_impl_ArisesBy_f1_p, slices_DeleteFunc_2int2int_impl_ArisesBy_f1_c, slices_IndexFunc_2int2int_impl_ArisesBy_f1_p, slices_IndexFunc_2int2int_impl_ArisesBy_f1_c, subn_self, h1, Option.isSome_some, Option.getD_some, cond_true]
  rcases fnd_split s q s.length 0 (by omega) (by simp) with ⟨h2, h3⟩ | ⟨j, hj, h2, h3, h4⟩
  · rw [h2]
    refine ⟨(s.length, s), rfl, ?_⟩
    have e := filter_all (q := q) h3
    exact ⟨by rw [e], by rw [e]; exact List.take_length, rfl⟩
  · rw [h2]
    have hgj : rget s j = s[j] := by rw [rgetL, List.getElem?_eq_getElem hj]; rfl
    obtain ⟨s', l1, l2, l3⟩ := delete_loop (step := slices_DeleteFunc_2int2int_impl_ArisesBy_f1_s5 F s.length b) q (fun x => impl_ArisesBy_f1_p F x b = some (q x)) s.length (by omega)
      (fun i j s'' hij hjn hl hp Q kn kx => by
        have hin : i < s.length := by omega
        simp only [slices_DeleteFunc_2int2int_impl_ArisesBy_f1_s5, Int.ofNat_lt, hjn, inR_cast, hin, Int.toNat_natCast, decide_true, cond_true, hp, Option.isSome_some, Option.getD_some]
        cases q (rget s'' (0 + j)) <;> rfl)
      (fun i s'' Q kn kx => by simp [slices_DeleteFunc_2int2int_impl_ArisesBy_f1_s5]) (s.length - (j + 1)) j (j + 1) F s (by omega) (by omega) (by omega) rfl (fun x hx => hq x (List.mem_of_mem_drop hx))
    have e : s.filter (fun x => !q x) = s.take j ++ (s.drop (j + 1)).filter (fun x => !q x) := by
      have e1 : s = s.take j ++ s[j] :: s.drop (j + 1) := by rw [← List.drop_eq_getElem_cons hj, List.take_append_drop]
      conv => lhs; rw [e1]
      rw [List.filter_append, List.filter_cons, ← hgj, h3]
      simp only [Bool.not_true, Bool.false_eq_true, if_false]
      rw [filter_all]
      exact h4
    have el : j + ((s.drop (j + 1)).filter fun x => !q x).length = (s.filter fun x => !q x).length := by
      rw [e, List.length_append, List.length_take, Nat.min_eq_left (Nat.le_of_lt hj)]
    rw [el] at l1 l3
    rw [← e] at l3
    have ll : (s.filter fun x => !q x).length ≤ s.length := List.length_filter_le _ _
    have l1' : slices_DeleteFunc_2int2int_impl_ArisesBy_f1_l5 F s.length b (j : Int) (IntKind.wrap .i64 ((j : Int) + 1)) s = some ((((s.filter fun x => !q x).length : Nat) : Int), s') := by
      rw [wrap_succ (n := s.length) hj (by omega)]
      exact l1
    have hne : ((j : Int) == -1) = false := by
      rw [beq_eq_false_iff_ne]; omega
    simp only [cond_true, Option.getD_some, l1', hne, cond_false, Option.isSome_some, inLe_cast, ll, decide_true, Int.toNat_natCast, Nat.sub_zero]
    refine ⟨_, rfl, rfl, ?_, ?_⟩
    · show (splice s' (0 + _) _ _).take _ = _
      rw [splice_take _ _ _ _ (by omega) (by simp), l3]
    · rw [← l2]
      show (splice s' (0 + _) _ _).length = _
      exact splice_len' _ _ _ (by omega) (by simp)


/-- does a board arise by a placement at a cell -/
def arB (b : List Int) (n : Nat) : Bool := inB (iget b n) 1 2 && decide ((0 : Int) < (((sidesB (iset b n 0)).length : Nat) : Int))
theorem zero_ok {b : List Int} (hb : b.length = 16) (ok : okB b = true) (n : Nat) : (iset b n 0).length = 16 ∧ okB (iset b n 0) = true := by
  refine ⟨by rw [iset_len, hb], (okB_iff _).2 ?_⟩
  exact iset_all (p := tileOK) ((okB_iff b).1 ok) n (by simp [tileOK, inB])
section
variable {b : List Int} (hb : b.length = 16) (ok : okB b = true) (F : Nat) (hF : 1000 < F)
include hb ok hF
theorem arises_f1 : ∀ x ∈ cells16, impl_ArisesBy_f1_p F x b = some (!arB b (plc x)) :=
  cells_all fun r c hr hc => by
    have e : impl_Board_at_p [(r : Int), (c : Int)] b = some (plc [(r : Int), (c : Int)]) := by
      simp only [impl_Board_at_p, impl_Board_at_c, show iget [(r : Int), (c : Int)] 0 = r from rfl, show iget [(r : Int), (c : Int)] 1 = c from rfl, inR_cast, hr, hc, decide_true, cond_true, plc]
    have z := zero_ok hb ok (plc [(r : Int), (c : Int)])
    simp only [impl_ArisesBy_f1_p, impl_ArisesBy_f1_c, e, Option.isSome_some, Option.getD_some, cond_true, impl_made z.1 F hF, z.2, in_eq, arB]
    generalize sidesB (iset b (plc [(r : Int), (c : Int)]) 0) = s
    cases inB (iget b (plc [(r : Int), (c : Int)])) 1 2 <;> rfl
theorem spec_arises : spec_ArisesBy_l5 F b 0 [] = some (cells16.filter fun c => arB b (plc c)) := by
  let hc : Nat → Nat → LL := fun r c => bif arB b (0 + r * 4 + c * 1) then [[(r : Int), (c : Int)]] else []
  have hc1 : ∀ r c, (hc r c).length ≤ 1 := fun r c => by
    show (bif arB b (0 + r * 4 + c * 1) then [[(r : Int), (c : Int)]] else [] : LL).length ≤ 1
    cases arB b (0 + r * 4 + c * 1) <;> simp
  have hin : ∀ (r : Nat) (out : LL), r < 4 → out.length ≤ 100 → spec_ArisesBy_l8 F r b 0 out = some (out ++ (List.range' 0 4).flatMap (hc r)) := fun r out hr ho => by
    rw [← fld_add]
    refine (loop_fold (step := spec_ArisesBy_s8 F r b) (fun i a => (i, a)) 4 (fun i a => a ++ hc r i) (fun a => a) (fun i a => a.length ≤ 100 + i) (F := F) (by omega) (by omega) (a := out) (by omega) (fun i a hi hI => ⟨?_, fun Q kn kx => ?_⟩) (fun a _ Q kn kx => by simp [spec_ArisesBy_s8])).1
    · have := hc1 r i
      simp only [List.length_append]
      omega
    · have hi' : (i : Int) < 4 := by omega
      have hf : fits (a ++ [[(r : Int), (i : Int)]]).length 16 = true := fits_of (by simp; omega) (by simp; omega)
      have e : spec_l2At_p b [(r : Int), (i : Int)] = some (iget b (0 + r * 4 + i * 1)) := by
        simp only [spec_l2At_p, spec_l2At_c, show iget [(r : Int), (i : Int)] 0 = r from rfl, show iget [(r : Int), (i : Int)] 1 = i from rfl, inR_cast, hr, hi, decide_true, cond_true, Int.toNat_natCast]
      have e2 : spec_l2Put_p b [(r : Int), (i : Int)] 0 = some (iset b (0 + r * 4 + i * 1) 0) := by
        simp only [spec_l2Put_p, spec_l2Put_c, show iget [(r : Int), (i : Int)] 0 = r from rfl, show iget [(r : Int), (i : Int)] 1 = i from rfl, inR_cast, hr, hi, decide_true, cond_true, Int.toNat_natCast]
      have z := zero_ok hb ok (0 + r * 4 + i * 1)
      simp only [spec_ArisesBy_s8, hi', decide_true, cond_true, e, e2, spec_sides z.1 z.2 F hF, Option.isSome_some, Option.getD_some, subn_self, hf, l1In_eq, hc, arB]
      cases inB (iget b (0 + r * 4 + i * 1)) 1 2
      · simp only [cond_false, Bool.false_and, List.append_nil]
      · simp only [cond_true, Bool.true_and]
        cases decide ((0 : Int) < (((sidesB (iset b (0 + r * 4 + i * 1) 0)).length : Nat) : Int))
        · simp only [cond_false, List.append_nil]
        · rfl
  have hout : spec_ArisesBy_l5 F b 0 [] = some ([] ++ (List.range' 0 4).flatMap fun r => (List.range' 0 4).flatMap (hc r)) := by
    rw [← fld_add]
    refine (loop_fold (step := spec_ArisesBy_s5 F b) (fun i a => (i, a)) 4 (fun r a => a ++ (List.range' 0 4).flatMap (hc r)) (fun a => a) (fun i a => a.length ≤ 4 * i) (F := F) (by omega) (by omega) (a := []) (by simp) (fun i a hi hI => ⟨?_, fun Q kn kx => ?_⟩) (fun a _ Q kn kx => by simp [spec_ArisesBy_s5])).1
    · have := flat_len (hc1 i) 4 0
      simp only [List.length_append]
      omega
    · have hi' : (i : Int) < 4 := by omega
      simp only [spec_ArisesBy_s5, hi', decide_true, cond_true, hin i a hi (by omega), beq_selfL, Option.isSome_some, Option.getD_some, Bool.and_self]
  rw [hout]
  congr 1
  rw [filter_flatMap]
  simp only [List.range'_succ, List.range'_zero, List.flatMap_cons, List.flatMap_nil, List.append_nil, List.nil_append, List.append_assoc, hc, cells16]
  rfl
end
theorem cells_two : ∀ x ∈ cells16, x.length = 2 := cells_all fun r c _ _ => rfl
theorem arises_same (F : Nat) (b : List Int) (hb : b.length = 16) (hF : 1000 < F) : ∃ (n : Nat) (m v : LL) (o : Bool), spec_ArisesBy_p F b = some (o, v) ∧ impl_ArisesBy_p F b = some (n, o, m) ∧ m.take n = v ∧ v.length = n ∧ n ≤ m.length ∧ n ≤ 40 ∧ (∀ x ∈ v, x.length = 2) := by
  simp only [spec_ArisesBy_p, spec_ArisesBy_c, impl_ArisesBy_p, impl_ArisesBy_c, spec_l2Board_eq F b hb hF, impl_IsBoard_eq F b hb hF, Option.isSome_some, Option.getD_some, cond_true]
  cases hB : okB b with
  | false => exact ⟨0, [], [], false, rfl, rfl, rfl, rfl, by simp, by simp, by simp⟩
  | true =>
    obtain ⟨r, hr, hd⟩ := Delete_arises F cells16 b (fun c => !arB b (plc c)) (by decide) hF (arises_f1 hb hB F hF)
    obtain ⟨d1, d2, d3⟩ := hd
    simp only [Bool.not_not] at d1 d2 d3
    have dl : (cells16.filter fun c => arB b (plc c)).length ≤ 16 := List.length_filter_le _ _
    have d3 : r.2.length = 16 := d3
    simp only [spec_arises hb hB F hF, hr, Option.isSome_some, Option.getD_some, cond_true, Bool.not_true, cond_false]
    exact ⟨r.1, r.2, _, true, rfl, rfl, d2, d1.symm, by omega, by omega, fun x hx => cells_two x ((List.mem_filter.1 hx).1)⟩
theorem law_ArisesBy (F : Nat) (b : List Int) (hb : b.length = 16) (_ : ∀ x ∈ b, Rng x) (hF : 1000 < F) : laws_FnExactArisesBy_p F b = some true := by
  obtain ⟨n, m, v, o, h1, h2, hv, hl, hn, h40, h3⟩ := arises_same F b hb hF
  obtain ⟨m', e1, e1l, e1t⟩ := markIntA2S_eq F n m (hv ▸ h3) hn (by omega) hF (by omega)
  have e2 := heldIntA2S_eq F n (by omega) hF (by omega)
  have e0 := eqIntA2S_refl F v (by omega) hF (by omega)
  have sv : subn v.length v 0 v.length = v := subn_self v
  have hp : decide ((1 : Int) + 2 * (n : Int) < 0) = false := by simp; omega
  simp only [laws_FnExactArisesBy_p, laws_FnExactArisesBy_c, toBoard_eq hb, h1, h2, Option.isSome_some, Option.getD_some, cond_true, subn_take0, hv, List.take_length, e0, beq_self_eq_true, Bool.not_true, cond_false, e1, e1t, e2, hp]
end Go.Lv.P
