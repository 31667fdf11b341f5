/-
The best of the moves.
-/
import Derived.Test.YtloemkielkdegaaTIPFrac
import Derived.Test.YtloemkielkdegaaTIPMovesB
namespace Go.Lv.P
open Go Go.Lv
set_option linter.unusedVariables false
set_option linter.unusedSimpArgs false
set_option linter.unusedSectionVars false

theorem moves_are {b : List Int} {x : Int} (hx : x ∈ movesB b) : ∃ d : Nat, d < 4 ∧ x = (d : Int) ∧ ((slideB b d).1 == b) = false := by
  rw [movesB_eq] at hx
  obtain ⟨d, hd, rfl⟩ := List.mem_map.1 hx
  obtain ⟨h1, h2⟩ := List.mem_filter.1 hd
  refine ⟨d, List.mem_range.1 h1, rfl, ?_⟩
  simpa using h2
theorem iget_mem {l : List Int} {i : Nat} (h : i < l.length) : iget l i ∈ l := by
  rw [igetL, List.getElem?_eq_getElem h]; exact List.getElem_mem _
theorem fld_iget {A : Type} (l : List Int) (g : Int → A → A) (s : A) : fld (fun i s => g (iget l i) s) 0 l.length s = l.foldl (fun s x => g x s) s := by
  have : ∀ (m i : Nat) (s : A), i + m = l.length → fld (fun i s => g (iget l i) s) i m s = (l.drop i).foldl (fun s x => g x s) s := by
    intro m
    induction m with
    | zero => intro i s h; rw [List.drop_eq_nil_of_le (by omega)]; rfl
    | succ m ih =>
      intro i s h
      have hi : i < l.length := by omega
      have hg : iget l i = l[i] := by rw [igetL, List.getElem?_eq_getElem hi]; rfl
      simp only [fld]
      rw [ih (i + 1) _ (by omega), List.drop_eq_getElem_cons hi, List.foldl_cons, hg]
  simpa using this l.length 0 s (by omega)
theorem wrap5 (e : Nat) (h : e ≤ 16) : IntKind.wrap .i64 ((5 : Int) * ((2 * e : Nat) : Int)) = ((10 * e : Nat) : Int) := by
  rw [wrap_of (by omega) (by omega)]; omega
section
variable {F N1 N2 : Nat} {b : List Int} {V : Nat → Nat × Nat} (hF : 1000 < F) (hm : (movesB b).length ≤ 4)
  (hN : N1 * N2 < 2 ^ 63) (hN2 : 0 < N2) (hN1 : N1 < 2 ^ 62) (hV : ∀ x ∈ movesB b, (V x.toNat).1 ≤ N1 ∧ (V x.toNat).2 ≤ N2 ∧ 0 < (V x.toNat).2)
include hF hm hN hN2 hN1 hV
theorem less_ok {p : Nat × Nat} {x : Int} (hp : p.1 ≤ N1 ∧ p.2 ≤ N2) (hx : x ∈ movesB b) : p.1 * (V x.toNat).2 < 2 ^ 63 ∧ (V x.toNat).1 * p.2 < 2 ^ 63 := by
  obtain ⟨v1, v2, v3⟩ := hV x hx
  have q1 : p.1 * (V x.toNat).2 ≤ N1 * N2 := Nat.mul_le_mul hp.1 v2
  have q2 : (V x.toNat).1 * p.2 ≤ N1 * N2 := Nat.mul_le_mul v1 hp.2
  exact ⟨by omega, by omega⟩
theorem bestS_loop {step : (Q : Type) → (Int × List Int) → ((Int × List Int) → Option Q) → ((List Int) → Option Q) → Option Q}
    (hstep : ∀ i, i < (movesB b).length → ∀ (p : Nat × Nat) (t : Bool) (Q : Type) kn kx, spec_l9Less_v (toL p) (toL (V (iget (movesB b) i).toNat)) = t → step Q ((i : Int), toL p) kn kx = kn (IntKind.wrap .i64 ((i : Int) + 1), bif t then toL (V (iget (movesB b) i).toNat) else toL p))
    (hend : ∀ (x : List Int) (Q : Type) kn kx, step Q (((movesB b).length : Int), x) kn kx = kx x) :
    loopC step F ((0 : Int), [(0 : Int), (1 : Int)]) some = some (toL (bestF V (movesB b))) := by
  have h := loop_fold (step := step) (fun i (p : Nat × Nat) => (i, toL p)) (movesB b).length (fun i p => bif lessF p (V (iget (movesB b) i).toNat) then V (iget (movesB b) i).toNat else p) (fun p => toL p) (fun _ p => p.1 ≤ N1 ∧ p.2 ≤ N2) (F := F) (by omega) (by omega) (a := (0, 1)) ⟨Nat.zero_le _, hN2⟩
    (fun i p hi hI => by
      have hx := iget_mem hi
      obtain ⟨v1, v2, v3⟩ := hV _ hx
      obtain ⟨l1, l2⟩ := less_ok hF hm hN hN2 hN1 hV hI hx
      have key : ∀ t : Bool, (bif t then V (iget (movesB b) i).toNat else p).1 ≤ N1 ∧ (bif t then V (iget (movesB b) i).toNat else p).2 ≤ N2 := fun t => by
        cases t
        · exact hI
        · exact ⟨v1, v2⟩
      refine ⟨key _, fun Q kn kx => ?_⟩
      rw [hstep i hi p _ Q kn kx (spec_lessL l1 l2)]
      cases lessF p (V (iget (movesB b) i).toNat) <;> rfl) (fun p _ Q kn kx => hend _ Q kn kx)
  have e : fld (fun i p => bif lessF p (V (iget (movesB b) i).toNat) then V (iget (movesB b) i).toNat else p) 0 (movesB b).length (0, 1) = bestF V (movesB b) :=
    fld_iget (movesB b) (fun d p => bif lessF p (V d.toNat) then V d.toNat else p) (0, 1)
  have h1 := h.1
  rw [e] at h1
  exact h1
theorem bestI_loop {step : (Q : Type) → (Int × Int × List Int) → ((Int × Int × List Int) → Option Q) → ((Int × List Int) → Option Q) → Option Q}
    (hstep : ∀ i, i < (movesB b).length → ∀ (a : Int) (p : Nat × Nat) (t : Bool) (Q : Type) kn kx, impl_isLess_v (toL p) (toL (V (iget (movesB b) i).toNat)) = t → step Q (a, (i : Int), toL p) kn kx = kn (bif decide (a < 0) then (iget (movesB b) i, IntKind.wrap .i64 ((i : Int) + 1), toL (V (iget (movesB b) i).toNat)) else bif t then (iget (movesB b) i, IntKind.wrap .i64 ((i : Int) + 1), toL (V (iget (movesB b) i).toNat)) else (a, IntKind.wrap .i64 ((i : Int) + 1), toL p)))
    (hend : ∀ (a : Int) (x : List Int) (Q : Type) kn kx, step Q (a, ((movesB b).length : Int), x) kn kx = kx (a, x)) :
    loopC step F ((-1 : Int), (0 : Int), [(0 : Int), (1 : Int)]) some = some ((bestA V (movesB b)).1, toL (bestA V (movesB b)).2) := by
  have h := loop_fold (step := step) (fun i (s : Int × (Nat × Nat)) => (s.1, i, toL s.2)) (movesB b).length (fun i s => bif decide (s.1 < 0) then (iget (movesB b) i, V (iget (movesB b) i).toNat) else bif lessF s.2 (V (iget (movesB b) i).toNat) then (iget (movesB b) i, V (iget (movesB b) i).toNat) else s) (fun s => (s.1, toL s.2)) (fun _ s => s.2.1 ≤ N1 ∧ s.2.2 ≤ N2) (F := F) (by omega) (by omega) (a := (-1, (0, 1))) ⟨Nat.zero_le _, hN2⟩
    (fun i s hi hI => by
      have hx := iget_mem hi
      obtain ⟨v1, v2, v3⟩ := hV _ hx
      obtain ⟨l1, l2⟩ := less_ok hF hm hN hN2 hN1 hV hI hx
      have key : ∀ (t1 t2 : Bool) (x : Int) (u : Nat × Nat), (u.1 ≤ N1 ∧ u.2 ≤ N2) → (bif t1 then (x, u) else bif t2 then (x, u) else s).2.1 ≤ N1 ∧ (bif t1 then (x, u) else bif t2 then (x, u) else s).2.2 ≤ N2 := fun t1 t2 x u hu => by
        cases t1
        · cases t2
          · exact hI
          · exact hu
        · exact hu
      refine ⟨key _ _ _ _ ⟨v1, v2⟩, fun Q kn kx => ?_⟩
      have key2 : ∀ (t1 t2 : Bool) (x j : Int) (u : Nat × Nat), (bif t1 then (x, j, toL u) else bif t2 then (x, j, toL u) else (s.1, j, toL s.2)) = ((bif t1 then (x, u) else bif t2 then (x, u) else s).1, j, toL (bif t1 then (x, u) else bif t2 then (x, u) else s).2) := fun t1 t2 x j u => by
        cases t1
        · cases t2
          · rfl
          · rfl
        · rfl
      exact (hstep i hi s.1 s.2 _ Q kn kx (impl_lessL l1 l2)).trans (congrArg kn (key2 _ _ _ _ _))) (fun s _ Q kn kx => hend _ _ Q kn kx)
  have e : fld (fun i (s : Int × (Nat × Nat)) => bif decide (s.1 < 0) then (iget (movesB b) i, V (iget (movesB b) i).toNat) else bif lessF s.2 (V (iget (movesB b) i).toNat) then (iget (movesB b) i, V (iget (movesB b) i).toNat) else s) 0 (movesB b).length (-1, (0, 1)) = bestA V (movesB b) :=
    fld_iget (movesB b) (fun d s => bif decide (s.1 < 0) then (d, V d.toNat) else bif lessF s.2 (V d.toNat) then (d, V d.toNat) else s) (-1, (0, 1))
  have h1 := h.1
  rw [e] at h1
  exact h1
theorem bestF_le : (bestF V (movesB b)).1 ≤ N1 ∧ (bestF V (movesB b)).2 ≤ N2 ∧ 0 < (bestF V (movesB b)).2 := by
  have : ∀ (l : List Int) (p : Nat × Nat), (∀ x ∈ l, x ∈ movesB b) → (p.1 ≤ N1 ∧ p.2 ≤ N2 ∧ 0 < p.2) → (l.foldl (fun p d => bif lessF p (V d.toNat) then V d.toNat else p) p).1 ≤ N1 ∧ (l.foldl (fun p d => bif lessF p (V d.toNat) then V d.toNat else p) p).2 ≤ N2 ∧ 0 < (l.foldl (fun p d => bif lessF p (V d.toNat) then V d.toNat else p) p).2 := by
    intro l
    induction l with
    | nil => intro p _ h; exact h
    | cons x l ih =>
      intro p hl h
      have key : ∀ t : Bool, (bif t then V x.toNat else p).1 ≤ N1 ∧ (bif t then V x.toNat else p).2 ≤ N2 ∧ 0 < (bif t then V x.toNat else p).2 := fun t => by
        cases t
        · exact h
        · exact hV x (hl x List.mem_cons_self)
      exact ih _ (fun y hy => hl y (List.mem_cons_of_mem _ hy)) (key _)
  exact this _ _ (fun _ h => h) ⟨Nat.zero_le _, hN2, Nat.one_pos⟩
end
theorem bestF_dvd {b : List Int} {V : Nat → Nat × Nat} {L M : Nat} (hV : ∀ x ∈ movesB b, (V x.toNat).2 ∣ L ∧ (V x.toNat).1 ≤ M * (V x.toNat).2) : (bestF V (movesB b)).2 ∣ L ∧ (bestF V (movesB b)).1 ≤ M * (bestF V (movesB b)).2 := by
  have : ∀ (l : List Int) (p : Nat × Nat), (∀ x ∈ l, x ∈ movesB b) → (p.2 ∣ L ∧ p.1 ≤ M * p.2) → (l.foldl (fun p d => bif lessF p (V d.toNat) then V d.toNat else p) p).2 ∣ L ∧ (l.foldl (fun p d => bif lessF p (V d.toNat) then V d.toNat else p) p).1 ≤ M * (l.foldl (fun p d => bif lessF p (V d.toNat) then V d.toNat else p) p).2 := by
    intro l
    induction l with
    | nil => intro p _ h; exact h
    | cons x l ih =>
      intro p hl h
      have key : ∀ t : Bool, (bif t then V x.toNat else p).2 ∣ L ∧ (bif t then V x.toNat else p).1 ≤ M * (bif t then V x.toNat else p).2 := fun t => by
        cases t
        · exact h
        · exact hV x (hl x List.mem_cons_self)
      exact ih _ (fun y hy => hl y (List.mem_cons_of_mem _ hy)) (key _)
  exact this _ _ (fun _ h => h) ⟨Nat.one_dvd _, Nat.zero_le _⟩
end Go.Lv.P
