/-
The reference's order of boards, and how it puts boards to their places.
-/
import Derived.Test.YtgmnclpjbhmioaaTRP0
import Derived.Test.YtgmnclpjbhmioaaTRPBefore
import Derived.Test.YtgmnclpjbhmioaaTRPSet
import Derived.Test.YtgmnclpjbhmioaaTRPTail
namespace Go.Lv.P
open Go Go.Lv
set_option linter.unusedVariables false
set_option linter.unusedSimpArgs false
set_option linter.unusedSectionVars false

/-- the first place that is not below -/
theorem insB_at (b : List Int) : ∀ l : LL, ∃ n, n ≤ l.length ∧ (∀ i, i < n → ltL (rget l i) b = true) ∧ (n < l.length → ltL (rget l n) b = false) ∧ insB b l = bif decide (n < l.length) && (rget l n == b) then l else l.take n ++ [b] ++ l.drop n
  | [] => ⟨0, Nat.le_refl _, fun i h => by omega, fun h => by simp at h, rfl⟩
  | a :: r => by
    cases h : ltL a b with
    | true =>
      obtain ⟨n, h1, h2, h3, h4⟩ := insB_at b r
      refine ⟨n + 1, by simp; omega, fun i hi => ?_, fun hn => ?_, ?_⟩
      · cases i with
        | zero => exact h
        | succ i => exact h2 i (by omega)
      · exact h3 (by simpa using hn)
      · have e1 : rget (a :: r) (n + 1) = rget r n := rfl
        have e2 : decide (n + 1 < (a :: r).length) = decide (n < r.length) := by simp
        rw [e1, e2]
        simp only [insB, h, cond_true, h4]
        cases decide (n < r.length) && (rget r n == b) <;> simp
    | false =>
      refine ⟨0, Nat.zero_le _, fun i hi => by omega, fun _ => h, ?_⟩
      have e1 : rget (a :: r) 0 = a := rfl
      rw [e1]
      simp only [insB, h, cond_false]
      cases a == b <;> simp
theorem fnd_at {X : Type} (p : Nat → Bool) (f : Nat → X) (e : X) : ∀ (m i n : Nat), (∀ j, i ≤ j → j < i + n → p j = false) → n ≤ m → (n < m → p (i + n) = true) → fnd p f e i m = bif decide (n < m) then f (i + n) else e
  | 0, i, n, _, h, _ => by
    have : n = 0 := by omega
    subst this; rfl
  | m + 1, i, 0, _, _, h => by
    have := h (by omega)
    simp only [Nat.add_zero] at this
    simp only [fnd, this, cond_true, Nat.add_zero]
    rw [decide_eq_true (by omega)]; rfl
  | m + 1, i, n + 1, h1, h2, h3 => by
    have h0 := h1 i (Nat.le_refl _) (by omega)
    simp only [fnd, h0, cond_false]
    rw [fnd_at p f e m (i + 1) n (fun j hj hj2 => h1 j (by omega) (by omega)) (by omega) (fun hh => by rw [show i + 1 + n = i + (n + 1) by omega]; exact h3 (by omega))]
    rw [show i + 1 + n = i + (n + 1) by omega]
    have : decide (n < m) = decide (n + 1 < m + 1) := by simp
    rw [this]
theorem add_eq (F : Nat) {l : LL} {b : List Int} (hF : 1000 < F) (hb : b.length = 16) (h16 : ∀ x ∈ l, x.length = 16) (hl : l.length ≤ 1000000) (hlF : l.length < F) : spec_l3Add_p F l b = some (insB b l) := by
  obtain ⟨n, h1, h2, h3, h4⟩ := insB_at b l
  have hmem : ∀ i, i < l.length → (rget l i).length = 16 := fun i hi => h16 _ (by rw [rgetL, List.getElem?_eq_getElem hi]; exact List.getElem_mem hi)
  have hloop : spec_l3Add_l2 F l b 0 = some ((n : Nat) : Int) := by
    have h := loop_find (step := spec_l3Add_s2 F l b) (fun i => i) l.length (fun i => !(ltL (rget l i) b)) (fun i => (i : Int)) ((l.length : Nat) : Int) (F := F) hlF (by omega) (fun i hi Q kn kx => by
      simp only [spec_l3Add_s2, Int.ofNat_lt, inR_cast, hi, Int.toNat_natCast, decide_true, cond_true, before_eq F hF (hmem i hi) hb, Option.isSome_some, Option.getD_some]
      cases ltL (rget l i) b <;> rfl) (fun Q kn kx => by simp [spec_l3Add_s2])
    rw [fnd_at _ _ _ l.length 0 n (fun j _ hj => by rw [h2 j (by omega)]; rfl) h1 (fun hn => by rw [Nat.zero_add, h3 hn]; rfl), Nat.zero_add] at h
    have h : spec_l3Add_l2 F l b 0 = _ := h
    rw [h]
    cases hd : decide (n < l.length) with
    | true => rfl
    | false =>
      have := of_decide_eq_false hd
      have : n = l.length := by omega
      rw [this]; rfl
  have f : ∀ m : Nat, m ≤ 1000001 → fits m 128 = true := fun m h => fits_of (by omega) (by omega)
  have e1 : subn l.length l 0 n = l.take n := subn_take0 l n
  have e2 : subn l.length l n (l.length - n) = l.drop n := by
    rw [subn_eqL _ _ _ _ rfl, sub, List.take_of_length_le (by simp)]
  have t1 : (l.take n).length ≤ 1000001 := by simp; omega
  have t2 : (l.take n ++ [b]).length ≤ 1000001 := by simp; omega
  have t3 : (l.take n ++ [b] ++ l.drop n).length ≤ 1000001 := by simp; omega
  simp only [spec_l3Add_p, spec_l3Add_c, hloop, Option.isSome_some, Option.getD_some, cond_true, Int.toNat_natCast, Int.ofNat_lt, inR_cast, inLe_cast, h1, Nat.sub_zero, e1, e2, subn_self, decide_true, f _ t1, f _ t2, f _ t3]
  rw [h4]
  cases hd : decide (n < l.length) with
  | true =>
    cases rget l n == b <;> rfl
  | false => rfl
end Go.Lv.P
