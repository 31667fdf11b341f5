/-
The order of lists of numbers.
-/
import Derived.Test.YtabfliifleonaakGreatLv3
namespace Go.Lv
set_option linter.unusedVariables false
set_option linter.unusedSimpArgs false
set_option linter.unusedSectionVars false
def ltL : List Int → List Int → Bool
  | x :: r, y :: s => bif x == y then ltL r s else decide (x < y)
  | _, _ => false
theorem u200 : ∀ a : List Int, ltL a a = false
  | [] => rfl
  | x :: r => by simp only [ltL, beq_self_eq_true, cond_true]; exact u200 r
theorem u095 : ∀ {a b c : List Int}, ltL a b = true → ltL b c = true → ltL a c = true
  | [], _, _, h, _ => by simp [ltL] at h
  | _ :: _, [], _, h, _ => by simp [ltL] at h
  | _ :: _, _ :: _, [], _, h => by simp [ltL] at h
  | x :: r, y :: s, z :: t, h1, h2 => by
    simp only [ltL] at h1 h2 ⊢
    cases hxy : x == y with
    | true =>
      rw [hxy, cond_true] at h1
      have e := eq_of_beq hxy
      subst e
      cases hyz : x == z with
      | true => rw [hyz, cond_true] at h2; rw [cond_true]; exact u095 h1 h2
      | false => rw [hyz, cond_false] at h2; rw [cond_false]; exact h2
    | false =>
      rw [hxy, cond_false] at h1
      have h1 := of_decide_eq_true h1
      cases hyz : y == z with
      | true =>
        have e := eq_of_beq hyz
        subst e
        rw [hxy, cond_false]; exact decide_eq_true h1
      | false =>
        rw [hyz, cond_false] at h2
        have h2 := of_decide_eq_true h2
        have : (x == z) = false := by rw [beq_eq_false_iff_ne]; omega
        rw [this, cond_false]; exact decide_eq_true (by omega)
theorem u199 : ∀ {a b : List Int}, a.length = b.length → ltL a b = false → a ≠ b → ltL b a = true
  | [], [], _, _, h => absurd rfl h
  | [], _ :: _, h, _, _ => by simp at h
  | _ :: _, [], h, _, _ => by simp at h
  | x :: r, y :: s, hl, h, hne => by
    simp only [ltL] at h ⊢
    cases hxy : x == y with
    | true =>
      rw [hxy, cond_true] at h
      have e := eq_of_beq hxy
      subst e
      rw [beq_self_eq_true, cond_true]
      exact u199 (by simpa using hl) h fun e => hne (by rw [e])
    | false =>
      rw [hxy, cond_false] at h
      have h := of_decide_eq_false h
      have hne2 : x ≠ y := by rw [beq_eq_false_iff_ne] at hxy; exact hxy
      have : (y == x) = false := by rw [beq_eq_false_iff_ne]; exact Ne.symm hne2
      rw [this, cond_false]; exact decide_eq_true (by omega)
theorem ltL_asym {a b : List Int} (h : ltL a b = true) : ltL b a = false := by
  cases h2 : ltL b a with
  | false => rfl
  | true => have := u095 h h2; rw [u200] at this; cases this
def cmpL (a b : List Int) : Int := bif ltL a b then -1 else bif a == b then 0 else 1
def sortL (xs : List (List Int)) : List (List Int) := xs.mergeSort fun x y => !ltL y x
def sortP (n : Nat) (xs : List (List Int)) : List (List Int) := sortL (xs.take n) ++ xs.drop n
theorem sortP_all (xs : List (List Int)) : sortP xs.length xs = sortL xs := by unfold sortP; rw [List.take_length, List.drop_length, List.append_nil]
theorem ble_selfL (n : Nat) : Nat.ble n n = true := Nat.ble_self_eq_true n
def sortI (xs : List Int) : List Int := xs.mergeSort fun x y => decide (x ≤ y)
end Go.Lv
