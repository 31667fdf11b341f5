/-
Deleting from a list of numbers in place, told plainly.
-/
import Derived.Test.YtabfliifleonaaiLv3
namespace Go.Lv.P
open Go Go.Lv
set_option linter.unusedVariables false
set_option linter.unusedSimpArgs false


theorem isetI_take (s : List Int) (i : Nat) (x : Int) (h : i < s.length) : (iset s i x).take (i + 1) = s.take i ++ [x] := by
  rw [isetL, List.take_add_one]
  simp [List.take_set_of_le, h]

theorem delete_loopI {step : (Q : Type) → Int × Int × List Int → (Int × Int × List Int → Option Q) → (Int × List Int → Option Q) → Option Q} (q : Int → Bool) (Pr : Int → Prop) (n : Nat) (hn : n ≤ 1000000)
    (hs : ∀ (i j : Nat) (s : List Int), i ≤ j → j < n → s.length = n → Pr (iget s (0 + j)) → ∀ (Q : Type) kn kx, step Q (i, j, s) kn kx = bif q (iget s (0 + j)) then kn (i, IntKind.wrap .i64 ((j : Int) + 1), s) else kn (IntKind.wrap .i64 ((i : Int) + 1), IntKind.wrap .i64 ((j : Int) + 1), iset s (0 + i) (iget s (0 + j))))
    (he : ∀ (i : Nat) (s : List Int) (Q : Type) kn kx, step Q (i, n, s) kn kx = kx (i, s)) :
    ∀ (m i j F : Nat) (s : List Int), j + m = n → m < F → i ≤ j → s.length = n → (∀ x ∈ s.drop j, Pr x) →
      ∃ s', loopC step F ((i : Int), (j : Int), s) some = some (((i + ((s.drop j).filter fun x => !q x).length : Nat) : Int), s') ∧ s'.length = n ∧ s'.take (i + ((s.drop j).filter fun x => !q x).length) = s.take i ++ (s.drop j).filter fun x => !q x
  | 0, i, j, F, s, hj, hF, hi, hl, hp => by
    obtain ⟨G, rfl⟩ : ∃ G, F = G + 1 := ⟨F - 1, by omega⟩
    have hjn : j = n := by omega
    have hd : s.drop j = [] := List.drop_eq_nil_of_le (by omega)
    refine ⟨s, ?_, hl, ?_⟩
    · rw [hd, hjn]
      simp only [loopC, he, List.filter_nil, List.length_nil, Nat.add_zero]
    · rw [hd]; simp
  | m + 1, i, j, F, s, hj, hF, hi, hl, hp => by
    obtain ⟨G, rfl⟩ : ∃ G, F = G + 1 := ⟨F - 1, by omega⟩
    have hjl : j < s.length := by omega
    have hd : s.drop j = s[j] :: s.drop (j + 1) := List.drop_eq_getElem_cons hjl
    have hg : iget s (0 + j) = s[j] := by rw [Nat.zero_add, igetL, List.getElem?_eq_getElem hjl]; rfl
    have hpj : Pr (iget s (0 + j)) := by rw [hg]; exact hp _ (hd ▸ List.mem_cons_self)
    simp only [loopC]
    rw [hs i j s hi (by omega) hl hpj, wrap_succ (n := n) (by omega) (by omega), wrap_succ (n := n) (by omega) (by omega)]
    cases hq : q (iget s (0 + j)) with
    | true =>
      simp only [cond_true]
      obtain ⟨s', h1, h2, h3⟩ := delete_loopI q Pr n hn hs he m i (j + 1) G s (by omega) (by omega) (by omega) hl (fun x hx => hp x (hd ▸ List.mem_cons_of_mem _ hx))
      have e : ((s.drop j).filter fun x => !q x) = (s.drop (j + 1)).filter fun x => !q x := by
        rw [hd, List.filter_cons, ← hg, hq]; rfl
      rw [e]
      exact ⟨s', h1, h2, h3⟩
    | false =>
      simp only [cond_false]
      have hdr : (iset s (0 + i) (iget s (0 + j))).drop (j + 1) = s.drop (j + 1) := by
        rw [isetL, List.drop_set_of_lt (by omega)]
      obtain ⟨s', h1, h2, h3⟩ := delete_loopI q Pr n hn hs he m (i + 1) (j + 1) G (iset s (0 + i) (iget s (0 + j))) (by omega) (by omega) (by omega) (by rw [isetL]; simpa using hl) (fun x hx => hp x (hd ▸ List.mem_cons_of_mem _ (hdr ▸ hx)))
      rw [hdr] at h1 h3
      have e : ((s.drop j).filter fun x => !q x) = s[j] :: (s.drop (j + 1)).filter fun x => !q x := by
        rw [hd, List.filter_cons, ← hg, hq]; rfl
      rw [e, List.length_cons]
      refine ⟨s', ?_, h2, ?_⟩
      · rw [h1]; congr 3; omega
      · rw [show i + ((List.filter (fun x => !q x) (s.drop (j + 1))).length + 1) = i + 1 + (List.filter (fun x => !q x) (s.drop (j + 1))).length by omega, h3, Nat.zero_add, isetI_take _ _ _ (by omega), hg]
        simp

/-- the first place at which one is to go: all ahead of it stay -/
theorem fnd_splitI (s : List Int) (q : Int → Bool) : ∀ (m i : Nat), i + m = s.length → (s.take i).all (fun x => !q x) = true →
    (fnd (fun i => q (iget s i)) (fun i => (true, (i : Int))) (false, default) i m = (false, default) ∧ s.all (fun x => !q x) = true) ∨
    ∃ j, j < s.length ∧ fnd (fun i => q (iget s i)) (fun i => (true, (i : Int))) (false, default) i m = (true, (j : Int)) ∧ q (iget s j) = true ∧ (s.take j).all (fun x => !q x) = true
  | 0, i, hi, ha => by
    refine .inl ⟨rfl, ?_⟩
    rwa [List.take_of_length_le (by omega)] at ha
  | m + 1, i, hi, ha => by
    have hil : i < s.length := by omega
    have hg : iget s i = s[i] := by rw [igetL, List.getElem?_eq_getElem hil]; rfl
    cases hq : q (iget s i) with
    | true => exact .inr ⟨i, hil, by simp only [fnd, hq, cond_true], hq, ha⟩
    | false =>
      have := fnd_splitI s q m (i + 1) (by omega) (by
        rw [List.take_add_one, List.getElem?_eq_getElem hil, List.all_append, ha]
        rw [hg] at hq
        simp [hq])
      simp only [fnd, hq, cond_false]
      exact this

theorem filter_allI {s : List Int} {q : Int → Bool} (h : s.all (fun x => !q x) = true) : (s.filter fun x => !q x) = s := by
  rw [List.filter_eq_self]
  simpa using h

/-- what is known behind a deletion: the slice's length, its memory -/
def DeletedI (s : List Int) (q : Int → Bool) (r : Nat × List Int) : Prop :=
  r.1 = (s.filter fun x => !q x).length ∧ r.2.take r.1 = s.filter (fun x => !q x) ∧ r.2.length = s.length

theorem splice_takeI (s z : List Int) (k n : Nat) (hk : k ≤ s.length) (hz : z.length = n) : (splice s (0 + k) z n).take k = s.take k := by
  unfold splice
  rw [Nat.zero_add, List.append_assoc, List.take_append_of_le_length (by simp; omega), List.take_take, Nat.min_self]

theorem splice_lenI (s z : List Int) (k : Nat) (hk : k ≤ s.length) (hz : z.length = s.length - k) : (splice s (0 + k) z (s.length - k)).length = s.length := by
  unfold splice
  simp [hz]
  omega

theorem DeletedI.get {s : List Int} {q : Int → Bool} {r : Nat × List Int} (h : DeletedI s q r) {i : Nat} (hi : i < r.1) : iget r.2 (0 + i) = iget (s.filter fun x => !q x) i := by
  rw [Nat.zero_add, igetL, igetL, ← h.2.1, List.getElem?_take, if_pos hi]
end Go.Lv.P
