/-
What laws over slices of one's own have in common.
-/
import Derived.Test.YtabfliifleonaaiLv3
import Derived.Test.YtabfliifleonaaiQiPMark
namespace Go.Lv.P
open Go Go.Lv
set_option linter.unusedVariables false
set_option linter.unusedSimpArgs false

theorem subn_take0 {α : Type} (m : List α) (n : Nat) : subn m.length m 0 n = m.take n := by
  rw [subn_eqL _ _ _ _ rfl, sub, List.drop_zero]

theorem subn_00 {α : Type} (l : List α) : subn l.length l 0 0 = [] := by rw [subn_take0, List.take_zero]

theorem fld_filter (l : LL) (q : List Int → Bool) : fld (fun i out => bif q (rget l i) then out ++ [rget l i] else out) 0 l.length [] = l.filter q := by
  have : ∀ (m i : Nat) (out : LL), i + m = l.length → fld (fun i out => bif q (rget l i) then out ++ [rget l i] else out) i m out = out ++ (l.drop i).filter q := by
    intro m
    induction m with
    | zero => intro i out h; rw [List.drop_eq_nil_of_le (by omega)]; simp [fld]
    | succ m ih =>
      intro i out h
      have hi : i < l.length := by omega
      have hg : rget l i = l[i] := by rw [rgetL, List.getElem?_eq_getElem hi]; rfl
      simp only [fld]
      rw [ih (i + 1) _ (by omega), List.drop_eq_getElem_cons hi, List.filter_cons, hg]
      cases q l[i] <;> simp
  simpa using this l.length 0 [] (by omega)

theorem fld_filterI (l : List Int) (q : Int → Bool) : fld (fun i out => bif q (iget l i) then out ++ [iget l i] else out) 0 l.length [] = l.filter q := by
  have : ∀ (m i : Nat) (out : List Int), i + m = l.length → fld (fun i out => bif q (iget l i) then out ++ [iget l i] else out) i m out = out ++ (l.drop i).filter q := by
    intro m
    induction m with
    | zero => intro i out h; rw [List.drop_eq_nil_of_le (by omega)]; simp [fld]
    | succ m ih =>
      intro i out h
      have hi : i < l.length := by omega
      have hg : iget l i = l[i] := by rw [igetL, List.getElem?_eq_getElem hi]; rfl
      simp only [fld]
      rw [ih (i + 1) _ (by omega), List.drop_eq_getElem_cons hi, List.filter_cons, hg]
      cases q l[i] <;> simp
  simpa using this l.length 0 [] (by omega)
end Go.Lv.P
