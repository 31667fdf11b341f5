/-
The rows before a row: the program's.
-/
import Derived.Test.YtgmnclpjbhmioaaGreatTZP2
import Derived.Test.YtgmnclpjbhmioaaGreatTZP4
import Derived.Test.YtgmnclpjbhmioaaGreatTZPRowsS
import Derived.Test.YtgmnclpjbhmioaaGreatTZPApart
import Derived.Test.YtgmnclpjbhmioaaGreatTZPCompact4
namespace Go.Lv.P
open Go Go.Lv
set_option linter.unusedVariables false
set_option linter.unusedSimpArgs false
set_option linter.unusedSectionVars false

theorem equal_eq (F : Nat) (hF : 1000 < F) (a b : List Int) (ha : a.length ≤ 1000) : slices_Equal_intint_p F a b = some (a == b) := by
  by_cases hl : a.length = b.length
  · have h : slices_Equal_intint_l4 F a b ((a.length : Nat) : Int) 0 = some ((List.range a.length).any fun i => !(iget a i == iget b i)) := by
      rw [← fnd_any]
      refine loop_find (step := slices_Equal_intint_s4 F a b ((a.length : Nat) : Int)) (fun i => i) a.length _ _ _ (by omega) (by omega) (fun i hi Q kn kx => ?_) fun Q kn kx => ?_
      · have hb : i < b.length := by omega
        simp only [slices_Equal_intint_s4, Int.ofNat_lt, hi, hb, decide_true, cond_true, inR_cast, Int.toNat_natCast]
      · simp [slices_Equal_intint_s4]
    have e : ((List.range a.length).any fun i => !(iget a i == iget b i)) = !(a == b) := by
      cases hab : a == b with
      | true =>
        have := eq_of_beq hab
        subst this
        simp
      | false =>
        have hne : a ≠ b := by rw [beq_eq_false_iff_ne] at hab; exact hab
        rw [Bool.not_false, List.any_eq_true]
        by_cases hex : ∃ i, i < a.length ∧ iget a i ≠ iget b i
        · obtain ⟨i, hi, hn⟩ := hex
          refine ⟨i, List.mem_range.2 hi, ?_⟩
          have : (iget a i == iget b i) = false := by rw [beq_eq_false_iff_ne]; exact hn
          rw [this]; rfl
        · exfalso
          apply hne
          apply List.ext_getElem hl
          intro i h1 h2
          by_cases hn : iget a i = iget b i
          · rw [igetL, igetL, List.getElem?_eq_getElem h1, List.getElem?_eq_getElem h2] at hn
            exact hn
          · exact absurd ⟨i, h1, hn⟩ hex
    have hd : (((a.length : Nat) : Int) == ((b.length : Nat) : Int)) = true := by rw [hl]; exact beq_self_eq_true _
    simp only [slices_Equal_intint_p, slices_Equal_intint_c, h, hd, Bool.not_true, cond_false, Option.isSome_some, Option.getD_some, cond_true, e]
    cases a == b <;> rfl
  · have hd : (((a.length : Nat) : Int) == ((b.length : Nat) : Int)) = false := by rw [beq_eq_false_iff_ne]; omega
    have he : (a == b) = false := by rw [beq_eq_false_iff_ne]; intro e; rw [e] at hl; exact hl rfl
    simp only [slices_Equal_intint_p, slices_Equal_intint_c, hd, Bool.not_false, cond_true, he]
theorem tiles_eq (F : Nat) (hF : 1000 < F) {row : List Int} (h4 : row.length = 4) : ∃ r : Nat × List Int, impl_tiles_p F row = some r ∧ r.1 = (tl row).length ∧ r.2.take r.1 = tl row ∧ r.2.length = 4 := by
  have hs4 : sub row 0 4 = row := by obtain ⟨a, b, c, d, rfl⟩ := list4 h4; rfl
  obtain ⟨r, d1, d2, d3, d4⟩ := DeleteFunc_tiles F row (fun x => x == 0) (by omega) hF (fun x _ => rfl)
  refine ⟨r, ?_, d2, d3, by rw [d4, h4]⟩
  have hf : fits row.length 8 = true := fits_of (by omega) (by omega)
  simp only [impl_tiles_p, impl_tiles_c, hs4, d1, hf, Option.isSome_some, Option.getD_some, cond_true, beq_selfL, Bool.and_self]
theorem tl_le {row : List Int} (h4 : row.length = 4) : (tl row).length ≤ 4 := by rw [← h4]; exact List.length_filter_le _ _
theorem flush_eq (F : Nat) (hF : 1000 < F) {row : List Int} (h4 : row.length = 4) : impl_isFlush_p F row = some (flushB row) := by
  obtain ⟨r, e, r1, r2, r3⟩ := tiles_eq F hF h4
  have hl := tl_le h4
  have hsub : ∀ n, sub row 0 n = row.take n := fun n => rfl
  have hin : inLe ((r.1 : Nat) : Int) 4 = true := by rw [inLe_cast]; exact decide_eq_true (by omega)
  have hq := equal_eq F hF (tl row) (row.take (tl row).length) (by omega)
  rw [r1] at r2 hin
  simp only [impl_isFlush_p, impl_isFlush_c, e, Option.isSome_some, Option.getD_some, cond_true, hin, subn_take0, r2, Nat.sub_zero, hsub, r1, hq, flushB]
/-- one choice of places -/
theorem places_in (F : Nat) (hF : 1000 < F) (list : List Int) (t1 t2 t3 : Int) (row : List Int) (out ls : LL) {c : Nat} (hc : c < 16) (ht : list.length ≤ 100) : impl_rowsBefore_l12 F list c t1 t2 t3 row out ls 0 0 [0, 0, 0, 0] = some (((sp1 list c).1 : Int), (sp1 list c).2) := by
  refine (loop_fold (step := impl_rowsBefore_s12 F list c t1 t2 t3 row out ls) (fun i (s : Nat × List Int) => ((s.1 : Int), i, s.2)) 4 (spK list c) (fun s => ((s.1 : Int), s.2)) (fun i s => s.1 ≤ i) (F := F) (by omega) (by omega) (a := (0, [0, 0, 0, 0])) (Nat.le_refl 0)
    (fun i s hi hI => by
      have hI : s.1 ≤ i := hI
      have hw : IntKind.wrap .i64 ((s.1 : Int) + 1) = ((s.1 + 1 : Nat) : Int) := wrap_succ (n := 100) (by omega) (by omega)
      refine ⟨?_, fun Q kn kx => ?_⟩
      · unfold spK
        cases Nat.testBit c i
        · show s.1 ≤ i + 1; omega
        · show s.1 + 1 ≤ i + 1; omega
      · have hi' : (i : Int) < 4 := by omega
        have hn0 : ¬ (i : Int) < 0 := by omega
        have hb := bit_eq hc hi
        unfold bitI at hb
        simp only [Int.toNat_natCast] at hb
        simp only [impl_rowsBefore_s12, hi', hn0, decide_true, decide_false, cond_true, cond_false, hb, hw, Int.ofNat_lt, inR_cast, hi, Int.toNat_natCast, spK, Nat.zero_add, Nat.mul_one]
        cases Nat.testBit c i
        · rfl
        · simp only [cond_true]
          cases hd : decide (s.1 < list.length) <;> rfl)
    (fun s _ Q kn kx => by simp [impl_rowsBefore_s12])).1
/-- all choices of places -/
theorem places_all (F : Nat) (hF : 1000 < F) {list : List Int} (hT : ∀ x ∈ list, 0 < x ∧ x ≤ 17) (t1 t2 : Int) (row : List Int) (ls out : LL) (ht : list.length ≤ 100) (ho : out.length ≤ 500) :
    impl_rowsBefore_l8 F list t1 t2 row ls 0 out = some (out ++ (spread list).filter fun r => slR r == row) := by
  have hh := loop_fold (step := impl_rowsBefore_s8 F list t1 t2 row ls) (fun i (s : LL) => (i, s)) 16 (fun c s => bif (sp1 list c).1 == list.length then (bif slR (sp1 list c).2 == row then s ++ [(sp1 list c).2] else s) else s) (fun s => s) (fun i s => s.length ≤ 500 + i) (F := F) (by omega) (by omega) (a := out) (by omega)
    (fun c s hc hI => by
      have hI : s.length ≤ 500 + c := hI
      obtain ⟨r1, r2, r3⟩ := sp1_ok hT c
      obtain ⟨mg, hsr⟩ := impl_row F (sp1 list c).2 r1 r2 hF
      have e : (rslide (sp1 list c).2).2.2.2 = slR (sp1 list c).2 := rfl
      refine ⟨?_, fun Q kn kx => ?_⟩
      · show (bif (sp1 list c).1 == list.length then (bif slR (sp1 list c).2 == row then s ++ [(sp1 list c).2] else s) else s).length ≤ 500 + (c + 1)
        cases (sp1 list c).1 == list.length
        · simp only [cond_false]; omega
        · cases slR (sp1 list c).2 == row
          · simp only [cond_false, cond_true]; omega
          · simp only [cond_true, List.length_append, List.length_singleton]; omega
      · have hc' : (c : Int) < 16 := by omega
        have hf : fits (s ++ [(sp1 list c).2]).length 32 = true := fits_of (by simp; omega) (by simp; omega)
        have he : ((((sp1 list c).1 : Nat) : Int) == ((list.length : Nat) : Int)) = ((sp1 list c).1 == list.length) := by
          rw [Bool.eq_iff_iff, beq_iff_eq, beq_iff_eq]; omega
        simp only [impl_rowsBefore_s8, hc', decide_true, cond_true, places_in F hF list t1 t2 c row s ls hc ht, Option.isSome_some, Option.getD_some, beq_selfL, Bool.and_self, subn_self, he, hsr, e, hf]
        cases (sp1 list c).1 == list.length
        · rfl
        · cases slR (sp1 list c).2 == row <;> rfl)
    (fun s _ Q kn kx => by simp [impl_rowsBefore_s8])
  have h1 := hh.1
  have e : fld (fun c s => bif (sp1 list c).1 == list.length then (bif slR (sp1 list c).2 == row then s ++ [(sp1 list c).2] else s) else s) 0 16 out = out ++ (spread list).filter fun r => slR r == row := by
    rw [fld_range, ← List.range_eq_range']
    unfold spread
    have : ∀ (cs : List Nat) (s : LL), cs.foldl (fun s c => bif (sp1 list c).1 == list.length then (bif slR (sp1 list c).2 == row then s ++ [(sp1 list c).2] else s) else s) s = s ++ (((cs.filter fun c => (sp1 list c).1 == list.length).map fun c => (sp1 list c).2).filter fun r => slR r == row) := by
      intro cs
      induction cs with
      | nil => intro s; simp
      | cons c r ih =>
        intro s
        rw [List.foldl_cons, ih, List.filter_cons]
        cases (sp1 list c).1 == list.length
        · simp
        · simp only [cond_true, if_true, List.map_cons, List.filter_cons]
          cases slR (sp1 list c).2 == row <;> simp
    exact this _ _
  rw [e] at h1
  exact h1
theorem fld_app (h : List Int → LL) (ls : LL) : ∀ (m i : Nat) (s : LL), i + m = ls.length → fld (fun i s => s ++ h (rget ls i)) i m s = s ++ (ls.drop i).flatMap h
  | 0, i, s, hi => by rw [List.drop_eq_nil_of_le (by omega)]; simp [fld]
  | m + 1, i, s, hi => by
    have hil : i < ls.length := by omega
    have hg : rget ls i = ls[i] := by rw [rgetL, List.getElem?_eq_getElem hil]; rfl
    rw [fld, fld_app h ls m (i + 1) _ (by omega), List.drop_eq_getElem_cons hil, List.flatMap_cons, hg, List.append_assoc]
section
variable {row : List Int} (hl : row.length = 4) (h : ∀ x ∈ row, tileOK x)
include hl h
theorem impl_before (F : Nat) (hF : 1000 < F) : ∃ r : Nat × LL, impl_rowsBefore_p F row = some r ∧ r.1 = (rbL row).length ∧ r.2.take r.1 = rbL row ∧ r.1 ≤ r.2.length ∧ r.2.length ≤ 256 := by
  obtain ⟨t, e, t1, t2, t3⟩ := tiles_eq F hF hl
  have htl := tl_le hl
  simp only [impl_rowsBefore_p, impl_rowsBefore_c, flush_eq F hF hl, Option.isSome_some, Option.getD_some, cond_true]
  cases hf : flushB row with
  | false => exact ⟨(0, []), rfl, by rw [rb_none hl h hf]; rfl, by rw [rb_none hl h hf]; rfl, Nat.le_refl _, by simp⟩
  | true =>
    have hto : ∀ x ∈ tl row, tOK x := fun x hx => by
      have := row_tiles h x hx
      simp only [inB, Bool.and_eq_true, decide_eq_true_eq] at this
      exact ⟨by omega, by omega⟩
    have hap := apart_eq (tl row) htl hto
    have hal : (apL [] (tl row)).length ≤ 16 := by
      have h1 := apL_len (tl row) []
      have h2 : 2 ^ (tl row).length ≤ 2 ^ 4 := Nat.pow_le_pow_right (by omega) htl
      omega
    have hnz := ap_nz hl h hf
    have h4 : ∀ l ∈ apL [] (tl row), l.length ≤ 4 := fun l hm => ((apL_mem _ _ _).1 hm).1
    generalize hA : apL [] (tl row) = A at hap hal hnz h4
    have hh := loop_fold (step := impl_rowsBefore_s5 F ((A.length : Nat) : Int) row A) (fun i (s : LL) => (i, s)) A.length (fun i s => s ++ (spread (rget A i)).filter fun r => slR r == row) (fun s => s) (fun i s => s.length ≤ 16 * i) (F := F) (by omega) (by omega) (a := []) (by simp)
      (fun i s hi hI => by
        have hI : s.length ≤ 16 * i := hI
        have hm : rget A i ∈ A := by rw [rgetL, List.getElem?_eq_getElem hi]; exact List.getElem_mem hi
        have hp := places_all F hF (hnz _ hm) ((A.length : Nat) : Int) i row A s (by have := h4 _ hm; omega) (by omega)
        have hsl := spread_len (rget A i)
        have hfl := List.length_filter_le (fun r => slR r == row) (spread (rget A i))
        refine ⟨?_, fun Q kn kx => ?_⟩
        · show (s ++ (spread (rget A i)).filter fun r => slR r == row).length ≤ 16 * (i + 1)
          rw [List.length_append]; omega
        · simp only [impl_rowsBefore_s5, Int.ofNat_lt, hi, decide_true, cond_true, inR_cast, Int.toNat_natCast, Nat.zero_add, hp, beq_selfL, Bool.and_self, Option.isSome_some, Option.getD_some])
      (fun s _ Q kn kx => by simp [impl_rowsBefore_s5])
    have h1 := hh.1
    rw [fld_app (fun l => (spread l).filter fun r => slR r == row) A A.length 0 [] (by omega), List.drop_zero, List.nil_append] at h1
    have h1 : impl_rowsBefore_l5 F ((A.length : Nat) : Int) row A 0 [] = some (hitsOf row A) := h1
    have hlen : (hitsOf row A).length ≤ 256 := by have := hits_len row A; omega
    have hok := hits_ok hl h (ls := A) hnz
    have hso : compL (sortL (hitsOf row A)) = rbL row := sorted_eq (m := 4) (fun x hx => (hok x hx).1) (rb_facts hl h).1 fun x => by rw [← hA]; exact hits_same hl h hf x
    obtain ⟨r, c1, c2, c3, c4, c5⟩ := compact4 F (sortL (hitsOf row A)) (by rw [sort_len]; omega) (by rw [sort_len]; omega)
    rw [sort_len] at c1 c5
    have hb1 : Nat.blt 1000 F = true := Nat.blt_eq.mpr hF
    have hb2 : Nat.ble (hitsOf row A).length 1000000000 = true := Nat.ble_eq.mpr (by omega)
    refine ⟨r, ?_, by rw [c2, hso], by rw [c3, hso], c4, by omega⟩
    simp only [Bool.not_true, cond_false, e, Option.isSome_some, Option.getD_some, cond_true, subn_take0, t2, hap, h1, beq_selfL, ble_selfL, sortP_all, Bool.and_self, hb1, hb2, c1]
end
end Go.Lv.P
