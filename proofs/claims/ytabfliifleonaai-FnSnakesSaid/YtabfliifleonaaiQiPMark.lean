/-
Marks in slices of arrays: what all types have in common.
-/
import Derived.Test.YtabfliifleonaaiLv3
import Derived.Test.YtabfliifleonaaiQiPDelete
namespace Go.Lv.P
open Go Go.Lv
set_option linter.unusedVariables false
set_option linter.unusedSimpArgs false

/-- m marks from k on -/
def mrow (m : Nat) (k : Int) : List Int := (List.range m).map fun j : Nat => k + (j : Int)
/-- n rows of marks -/
def mrows (m : Nat) (k : Int) (n : Nat) : LL := (List.range n).map fun i : Nat => mrow m (k + (m : Int) * (i : Int))
theorem mrows_len (m : Nat) (k : Int) (n : Nat) : (mrows m k n).length = n := by simp [mrows]
theorem mrows_get (m : Nat) (k : Int) (n i : Nat) (h : i < n) : rget (mrows m k n) i = mrow m (k + (m : Int) * (i : Int)) := by
  rw [rgetL, mrows, List.getElem?_map, List.getElem?_range h]; rfl

theorem mark_gen {step : (Q : Type) → Int × Int × LL → (Int × Int × LL → Option Q) → (Int × LL → Option Q) → Option Q} (m n F : Nat) (k : Int) (a : LL) (ha : ∀ x ∈ a.take n, x.length = m) (hn : n ≤ a.length) (hF : n < F) (hb : n ≤ 1000000)
    (hs : ∀ (i : Nat) (a' : LL), i < n → a'.length = a.length → (∀ x ∈ a'.take n, x.length = m) → ∀ (Q : Type) kn kx, step Q (k + (m : Int) * (i : Int), (i : Int), a') kn kx = kn (k + (m : Int) * ((i + 1 : Nat) : Int), IntKind.wrap .i64 ((i : Int) + 1), rset a' i (mrow m (k + (m : Int) * (i : Int)))))
    (he : ∀ (c : Int) (a' : LL) (Q : Type) kn kx, step Q (c, (n : Int), a') kn kx = kx (c, a')) :
    ∃ a' : LL, loopC step F (k, 0, a) some = some (k + (m : Int) * (n : Int), a') ∧ a'.length = a.length ∧ a'.take n = mrows m k n := by
  have h := loop_fold (step := step) (fun i (s : Int × LL) => (s.1, i, s.2)) n (fun i s => (k + (m : Int) * ((i + 1 : Nat) : Int), rset s.2 i (mrow m (k + (m : Int) * (i : Int))))) (fun s => s)
    (fun i s => s.1 = k + (m : Int) * (i : Int) ∧ s.2.length = a.length ∧ (∀ x ∈ s.2.take n, x.length = m) ∧ s.2.take i = mrows m k i) (F := F) hF (by omega) (a := (k, a)) ⟨by simp, rfl, ha, rfl⟩
    (fun i s hi ⟨h1, h2, h3, h4⟩ => by
      have hil : i < s.2.length := by omega
      refine ⟨⟨rfl, by rw [rsetL]; simpa using h2, ?_, ?_⟩, fun Q kn kx => ?_⟩
      · intro x hx
        rw [rsetL, List.take_set] at hx
        rcases List.mem_or_eq_of_mem_set hx with hx | rfl
        · exact h3 x hx
        · simp [mrow]
      · show (rset s.2 i _).take (i + 1) = _
        rw [rset_take s.2 i _ hil, h4, mrows, mrows, List.range_succ, List.map_append]; rfl
      · rw [h1]
        exact hs i s.2 hi h2 h3 Q kn kx)
    (fun s _ Q kn kx => he s.1 s.2 Q kn kx)
  obtain ⟨h1, h2, h3, h4, h5⟩ := h
  exact ⟨_, h1.trans (congrArg some (Prod.ext h2 rfl)), h3, h5⟩

theorem get_take {a : LL} {n i : Nat} (hi : i < n) (hn : n ≤ a.length) : a[i]'(by omega) ∈ a.take n := by
  have h : i < (a.take n).length := by simp; omega
  have := List.getElem_mem h
  rwa [List.getElem_take] at this

theorem held_gen {step : (Q : Type) → Int × Int → (Int × Int → Option Q) → (Bool × Int → Option Q) → Option Q} (m n F : Nat) (k : Int) (hF : n < F) (hb : n ≤ 1000000)
    (hs : ∀ (i : Nat), i < n → ∀ (Q : Type) kn kx, step Q (k + (m : Int) * (i : Int), (i : Int)) kn kx = kn (k + (m : Int) * ((i + 1 : Nat) : Int), IntKind.wrap .i64 ((i : Int) + 1)))
    (he : ∀ (c : Int) (Q : Type) kn kx, step Q (c, (n : Int)) kn kx = kx (false, c)) : loopC step F (k, 0) some = some (false, k + (m : Int) * (n : Int)) := by
  have h := loop_fold (step := step) (fun i (s : Int) => (s, i)) n (fun i s => k + (m : Int) * ((i + 1 : Nat) : Int)) (fun s => (false, s))
    (fun i s => s = k + (m : Int) * (i : Int)) (F := F) hF (by omega) (a := k) (by simp)
    (fun i s hi h1 => ⟨rfl, fun Q kn kx => by rw [h1]; exact hs i hi Q kn kx⟩) (fun s _ Q kn kx => he s Q kn kx)
  exact h.1.trans (congrArg some (Prod.ext rfl h.2))
end Go.Lv.P
