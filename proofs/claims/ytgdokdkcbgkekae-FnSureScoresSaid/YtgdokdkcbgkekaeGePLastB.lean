/-
Boards that last some moves.
-/
import Derived.Test.YtgdokdkcbgkekaeGePMovesB
import Derived.Test.YtgdokdkcbgkekaeGePPut
namespace Go.Lv.P
open Go Go.Lv
set_option linter.unusedVariables false
set_option linter.unusedSimpArgs false

/-- the first placement behind which a board does not last, and whether there is one -/
def refF (L : List Int → Bool) (nx : List Int) : Bool × List Int := fnd (fun i => !L (putP nx (rget (plm nx) i))) (fun i => (true, rget (plm nx) i)) (false, default) 0 (plm nx).length
def refM (L : List Int → Bool) (nx : List Int) : List Int × Bool := bif (refF L nx).1 then ((refF L nx).2, true) else ([0, 0, 0], false)
def safeM (L : List Int → Bool) (b : List Int) (d : Nat) : Bool := bif (slideB b d).1 == b then false else !(refM L (slideB b d).1).2
def lastM (L : List Int → Bool) (b : List Int) : Bool := fnd (fun d => safeM L b d) (fun _ => true) false 0 4
def lastN : Nat → List Int → Bool
  | 0 => fun _ => true
  | n + 1 => lastM (lastN n)

theorem fnd_none {X : Type} (f : Nat → X) (e : X) (p : Nat → Bool) (h : ∀ i, p i = false) : ∀ (m i : Nat), fnd p f e i m = e
  | 0, _ => rfl
  | m + 1, i => by simp only [fnd, h, cond_false]; exact fnd_none f e p h m (i + 1)
theorem refM_0 (nx : List Int) : refM (lastN 0) nx = ([0, 0, 0], false) := by
  have : refF (lastN 0) nx = (false, default) := fnd_none _ _ _ (fun _ => rfl) _ _
  rw [refM, this]; rfl
theorem refM_len (L : List Int → Bool) (nx : List Int) : (refM L nx).1.length = 3 := by
  have key : ∀ (m i : Nat), i + m = (plm nx).length → (fnd (fun i => !L (putP nx (rget (plm nx) i))) (fun i => (true, rget (plm nx) i)) (false, default) i m).1 = true → (fnd (fun i => !L (putP nx (rget (plm nx) i))) (fun i => (true, rget (plm nx) i)) (false, default) i m).2.length = 3 := by
    intro m
    induction m with
    | zero => intro i _ h; cases h
    | succ m ih =>
      intro i hi h
      simp only [fnd] at h ⊢
      cases hc : (!L (putP nx (rget (plm nx) i))) with
      | true => exact plm_mem nx _ (rget_mem (by omega))
      | false => rw [hc] at h; exact ih (i + 1) (by omega) h
  unfold refM
  cases h : (refF L nx).1 with
  | true => exact key _ _ (by omega) h
  | false => rfl
/-- lasting, told by the moves -/
theorem lastM_moves (L : List Int → Bool) (b : List Int) : lastM L b = (movesB b).any fun x => !(refM L (slideB b x.toNat).1).2 := by
  have e : List.range 4 = [0, 1, 2, 3] := rfl
  rw [lastM, fnd_any, movesB_eq, e]
  simp only [safeM, List.any_cons, List.any_nil, List.filter]
  cases ((slideB b 0).1 == b) <;> cases ((slideB b 1).1 == b) <;> cases ((slideB b 2).1 == b) <;> cases ((slideB b 3).1 == b) <;> simp
theorem last1_moves (b : List Int) : lastN 1 b = !((((movesB b).length : Nat) : Int) == 0) := by
  show lastM (lastN 0) b = _
  rw [lastM_moves]
  simp only [refM_0, Bool.not_false]
  cases movesB b with
  | nil => rfl
  | cons x r =>
    simp
    omega
theorem safe_filter (L : List Int → Bool) (b : List Int) : (((List.range 4).filter fun d => safeM L b d).map fun d : Nat => (d : Int)) = (movesB b).filter fun x => !(refM L (slideB b x.toNat).1).2 := by
  have e : List.range 4 = [0, 1, 2, 3] := rfl
  rw [movesB_eq, e]
  simp only [safeM, List.filter]
  cases ((slideB b 0).1 == b) <;> cases ((slideB b 1).1 == b) <;> cases ((slideB b 2).1 == b) <;> cases ((slideB b 3).1 == b) <;>
    cases h0 : (refM L (slideB b 0).1).2 <;> cases h1 : (refM L (slideB b 1).1).2 <;> cases h2 : (refM L (slideB b 2).1).2 <;> cases h3 : (refM L (slideB b 3).1).2 <;> simp [List.filter, h0, h1, h2, h3]
theorem put_all {nx : List Int} (hb : nx.length = 16) (ok : okB nx = true) {p : List Int} (hp : p ∈ plm nx) :
    (inR (iget p 0) 4 = true ∧ inR (iget p 1) 4 = true) ∧ (putP nx p).length = 16 ∧ okB (putP nx p) = true :=
  have ⟨p0, p1, p2⟩ := plm_in nx _ hp
  ⟨⟨p0, p1⟩, putP_ok hb ok p2⟩
theorem plm_len40 (b : List Int) : (plm b).length ≤ 40 := by have := em_len b; rw [plm_len]; omega
end Go.Lv.P
