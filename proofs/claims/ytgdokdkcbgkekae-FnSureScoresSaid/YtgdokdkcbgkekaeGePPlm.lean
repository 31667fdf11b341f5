/-
Placements and steps, as lists.
-/
import Derived.Test.YtgdokdkcbgkekaeGePStepsB
import Derived.Test.YtgdokdkcbgkekaeGePPut
import Derived.Test.YtgdokdkcbgkekaeGePLastB
import Derived.Test.YtgdokdkcbgkekaeGePFull
import Derived.Test.YtgdokdkcbgkekaeGePTail
namespace Go.Lv.P
open Go Go.Lv
set_option linter.unusedVariables false
set_option linter.unusedSimpArgs false
set_option linter.unusedSectionVars false

theorem rget_self (l : LL) (f : Nat → LL) (g : List Int → LL) (h : ∀ i, i < l.length → f i = g (rget l i)) : (List.range' 0 l.length).flatMap f = l.flatMap g := by
  have : ∀ (m i : Nat), i + m = l.length → (List.range' i m).flatMap f = (l.drop i).flatMap g := by
    intro m
    induction m with
    | zero => intro i hi; rw [List.drop_eq_nil_of_le (by omega)]; rfl
    | succ m ih =>
      intro i hi
      have hil : i < l.length := by omega
      have hg : rget l i = l[i] := by rw [rgetL, List.getElem?_eq_getElem hil]; rfl
      rw [List.range'_succ, List.flatMap_cons, ih (i + 1) (by omega), List.drop_eq_getElem_cons hil, List.flatMap_cons, h i hil, hg]
  simpa using this l.length 0 (by omega)
theorem plm_list (b : List Int) : plm b = (em b).flatMap fun c => [[iget c 0, iget c 1, 1], [iget c 0, iget c 1, 2]] := by
  rw [plm, fld_add, List.nil_append]
  exact rget_self _ _ _ fun i _ => rfl
theorem stepsOn_list (n : List Int) (d : Int) : stepsOn n d = (plm n).map fun p => d :: p := by
  rw [plm_list, List.map_flatMap, stepsOn, fld_add, List.nil_append]
  refine rget_self _ _ _ fun i hi => ?_
  obtain ⟨x, y, hc⟩ := list2 (cells_len _ (em_get hi))
  rw [hc]
  rfl
/-- what a placement is -/
theorem plm_is {b p : List Int} (h : p ∈ plm b) : ∃ (r c : Nat) (t : Int), p = [(r : Int), (c : Int), t] ∧ r < 4 ∧ c < 4 ∧ (t = 1 ∨ t = 2) ∧ iget b (r * 4 + c) = 0 := by
  rw [plm_list] at h
  simp only [List.mem_flatMap, List.mem_cons, List.not_mem_nil, or_false] at h
  obtain ⟨q, hq, h⟩ := h
  have hz : (iget b (plc q) == 0) = true := (List.mem_filter.1 hq).2
  have hz : iget b (plc q) = 0 := by simpa using hz
  have key : ∀ q ∈ cells16, ∃ r c : Nat, q = [(r : Int), (c : Int)] ∧ r < 4 ∧ c < 4 := cells_all fun r c hr hc => ⟨r, c, rfl, hr, hc⟩
  obtain ⟨r, c, rfl, hr, hc⟩ := key q (em_mem b q hq)
  have e : plc [(r : Int), (c : Int)] = r * 4 + c := by
    show 0 + (r : Int).toNat * 4 + (c : Int).toNat * 1 = _
    simp
  rw [e] at hz
  rcases h with rfl | rfl
  · exact ⟨r, c, 1, rfl, hr, hc, .inl rfl, hz⟩
  · exact ⟨r, c, 2, rfl, hr, hc, .inr rfl, hz⟩
theorem fld_rget {A : Type} (l : LL) (g : List Int → A → A) (s : A) : fld (fun i s => g (rget l i) s) 0 l.length s = l.foldl (fun s x => g x s) s := by
  have : ∀ (m i : Nat) (s : A), i + m = l.length → fld (fun i s => g (rget l i) s) i m s = (l.drop i).foldl (fun s x => g x s) s := by
    intro m
    induction m with
    | zero => intro i s h; rw [List.drop_eq_nil_of_le (by omega)]; rfl
    | succ m ih =>
      intro i s h
      have hi : i < l.length := by omega
      have hg : rget l i = l[i] := by rw [rgetL, List.getElem?_eq_getElem hi]; rfl
      simp only [fld]
      rw [ih (i + 1) _ (by omega), List.drop_eq_getElem_cons hi, List.foldl_cons, hg]
  simpa using this l.length 0 s (by omega)
/-- how many tenths a placement has, in its cell -/
def wgt (p : List Int) : Nat := bif iget p 2 == 2 then 1 else 9
theorem wgt_9 (p : List Int) : wgt p ≤ 9 := by
  unfold wgt
  cases iget p 2 == 2 <;> simp
theorem wsum (b : List Int) : (plm b).foldl (fun s p => s + wgt p) 0 = 10 * (em b).length := by
  rw [plm_list]
  have : ∀ (l : LL) (s : Nat), (l.flatMap fun c => [[iget c 0, iget c 1, (1 : Int)], [iget c 0, iget c 1, 2]]).foldl (fun s p => s + wgt p) s = s + 10 * l.length := by
    intro l
    induction l with
    | nil => intro s; simp
    | cons c l ih =>
      intro s
      rw [List.flatMap_cons, List.foldl_append, ih]
      show s + 9 + 1 + 10 * l.length = s + 10 * (l.length + 1)
      omega
  simpa using this (em b) 0
end Go.Lv.P
