/-
Ascending lists are told by their members; sorted lists without neighbours that are the same.
-/
import Derived.Test.YtgdokdkcbgkekaaGaPSet
namespace Go.Lv.P
open Go Go.Lv
set_option linter.unusedVariables false
set_option linter.unusedSimpArgs false
set_option linter.unusedSectionVars false

theorem asc_ext : ∀ {l l' : LL}, Asc l → Asc l' → (∀ x, x ∈ l ↔ x ∈ l') → l = l'
  | [], [], _, _, _ => rfl
  | [], b :: r', _, _, h => absurd ((h b).2 List.mem_cons_self) (by simp)
  | a :: r, [], _, _, h => absurd ((h a).1 List.mem_cons_self) (by simp)
  | a :: r, b :: r', ⟨h1, h2⟩, ⟨h1', h2'⟩, h => by
    have hab : a = b := by
      rcases List.mem_cons.1 ((h a).1 List.mem_cons_self) with e | ha
      · exact e
      · rcases List.mem_cons.1 ((h b).2 List.mem_cons_self) with e | hb
        · exact e.symm
        · have := ltL_trans (h1' a ha) (h1 b hb)
          rw [ltL_irr] at this; cases this
    subst hab
    have ht : ∀ x, x ∈ r ↔ x ∈ r' := fun x => by
      constructor
      · intro hx
        rcases List.mem_cons.1 ((h x).1 (List.mem_cons_of_mem _ hx)) with e | hx'
        · subst e
          have := h1 x hx
          rw [ltL_irr] at this; cases this
        · exact hx'
      · intro hx
        rcases List.mem_cons.1 ((h x).2 (List.mem_cons_of_mem _ hx)) with e | hx'
        · subst e
          have := h1' x hx
          rw [ltL_irr] at this; cases this
        · exact hx'
    rw [asc_ext h2 h2' ht]
/-- those that are not as the one ahead -/
def dd : List Int → LL → LL
  | _, [] => []
  | p, x :: r => bif x == p then dd x r else x :: dd x r
def compL : LL → LL
  | [] => []
  | a :: r => a :: dd a r
/-- not descending -/
def Up : LL → Prop
  | [] => True
  | a :: r => (∀ x ∈ r, ltL x a = false) ∧ Up r
abbrev LenT (m : Nat) := { x : List Int // x.length = m }
theorem exists_lenT {m : Nat} : ∀ (xs : LL), (∀ x ∈ xs, x.length = m) → ∃ l : List (LenT m), l.map (·.1) = xs
  | [], _ => ⟨[], rfl⟩
  | x :: r, h => by
    obtain ⟨l, rfl⟩ := exists_lenT r fun y hy => h y (List.mem_cons_of_mem _ hy)
    exact ⟨⟨x, h x List.mem_cons_self⟩ :: l, rfl⟩
theorem up_of_pair : ∀ {l : LL}, l.Pairwise (fun x y => ltL y x = false) → Up l
  | [], _ => trivial
  | a :: r, h => by
    rw [List.pairwise_cons] at h
    exact ⟨h.1, up_of_pair h.2⟩
theorem up_sort {m : Nat} (xs : LL) (hx : ∀ x ∈ xs, x.length = m) : Up (sortL xs) := by
  obtain ⟨l, rfl⟩ := exists_lenT xs hx
  have hp : (l.mergeSort fun x y : LenT m => !ltL y.1 x.1).Pairwise fun x y => (!ltL y.1 x.1) = true := by
    refine List.pairwise_mergeSort (le := fun x y : LenT m => !ltL y.1 x.1) (fun a b c h1 h2 => ?_) (fun a b => ?_) l
    · simp only [Bool.not_eq_true'] at h1 h2 ⊢
      cases h : ltL c.1 a.1 with
      | false => rfl
      | true =>
        by_cases hba : b.1 = a.1
        · rw [← hba, h2] at h; cases h
        · have h3 := ltL_tot (by rw [b.2, a.2]) h1 hba
          have h4 := ltL_trans h h3
          rw [h4] at h2; cases h2
    · cases h : ltL b.1 a.1 with
      | false => simp
      | true => rw [ltL_asym h]; simp
  have hm : sortL (l.map (·.1)) = (l.mergeSort fun x y : LenT m => !ltL y.1 x.1).map (·.1) := by
    unfold sortL
    exact (List.map_mergeSort (f := fun x : LenT m => x.1) (s := fun x y => !ltL y x) fun x _ y _ => rfl).symm
  rw [hm]
  refine up_of_pair ?_
  rw [List.pairwise_map]
  exact hp.imp fun h => by simpa using h
theorem dd_mem : ∀ (l : LL) (p x : List Int), x ∈ dd p l → x ∈ l
  | [], p, x, h => by simp [dd] at h
  | a :: r, p, x, h => by
    simp only [dd] at h
    cases hc : a == p with
    | true => rw [hc, cond_true] at h; exact List.mem_cons_of_mem _ (dd_mem r a x h)
    | false =>
      rw [hc, cond_false] at h
      rcases List.mem_cons.1 h with rfl | h
      · exact List.mem_cons_self
      · exact List.mem_cons_of_mem _ (dd_mem r a x h)
theorem mem_dd : ∀ (l : LL) (p x : List Int), x ∈ l → x ≠ p → x ∈ dd p l
  | [], p, x, h, _ => by cases h
  | a :: r, p, x, h, hn => by
    simp only [dd]
    by_cases hxa : x = a
    · subst hxa
      have : (x == p) = false := by rw [beq_eq_false_iff_ne]; exact hn
      rw [this, cond_false]
      exact List.mem_cons_self
    · rcases List.mem_cons.1 h with e | h
      · exact absurd e hxa
      · have ih := mem_dd r a x h hxa
        cases a == p
        · exact List.mem_cons_of_mem _ ih
        · exact ih
theorem dd_asc {m : Nat} : ∀ (l : LL) (p : List Int), p.length = m → (∀ x ∈ l, x.length = m) → (∀ x ∈ l, ltL x p = false) → Up l → (∀ x ∈ dd p l, ltL p x = true) ∧ Asc (dd p l)
  | [], p, _, _, _, _ => ⟨fun x h => (by simp [dd] at h), trivial⟩
  | a :: r, p, hp, hl, hlo, ⟨hu1, hu2⟩ => by
    have ha := hl a List.mem_cons_self
    obtain ⟨h1, h2⟩ := dd_asc r a ha (fun x hx => hl x (List.mem_cons_of_mem _ hx)) hu1 hu2
    simp only [dd]
    cases hc : a == p with
    | true =>
      have e := eq_of_beq hc
      subst e
      exact ⟨h1, h2⟩
    | false =>
      have hne : a ≠ p := by rw [beq_eq_false_iff_ne] at hc; exact hc
      have hpa : ltL p a = true := ltL_tot (by omega) (hlo a List.mem_cons_self) hne
      simp only [cond_false]
      refine ⟨fun x hx => ?_, h1, h2⟩
      rcases List.mem_cons.1 hx with rfl | hx
      · exact hpa
      · exact ltL_trans hpa (h1 x hx)
theorem comp_mem (l : LL) (x : List Int) : x ∈ compL l ↔ x ∈ l := by
  cases l with
  | nil => simp [compL]
  | cons a r =>
    simp only [compL, List.mem_cons]
    constructor
    · rintro (h | h)
      · exact .inl h
      · exact .inr (dd_mem r a x h)
    · rintro (h | h)
      · exact .inl h
      · by_cases hx : x = a
        · exact .inl hx
        · exact .inr (mem_dd r a x h hx)
theorem comp_asc {m : Nat} (l : LL) (hl : ∀ x ∈ l, x.length = m) (hu : Up l) : Asc (compL l) := by
  cases l with
  | nil => trivial
  | cons a r => exact dd_asc r a (hl a List.mem_cons_self) (fun x hx => hl x (List.mem_cons_of_mem _ hx)) hu.1 hu.2
theorem sort_mem (l : LL) (x : List Int) : x ∈ sortL l ↔ x ∈ l := List.mem_mergeSort
theorem sort_len (l : LL) : (sortL l).length = l.length := List.length_mergeSort _
/-- sorted, each once: the ascending list of the members -/
theorem sorted_eq {m : Nat} {l l' : LL} (hl : ∀ x ∈ l, x.length = m) (ha : Asc l') (hm : ∀ x, x ∈ l ↔ x ∈ l') : compL (sortL l) = l' := by
  refine asc_ext (comp_asc (m := m) _ (fun x hx => hl x ((sort_mem l x).1 hx)) (up_sort l hl)) ha fun x => ?_
  rw [comp_mem, sort_mem, hm]
/-- put to its place, one by one -/
def insAll (l : LL) : LL := l.foldl (fun s x => insB x s) []
theorem insAll_facts {m : Nat} : ∀ (l s : LL), (∀ x ∈ l, x.length = m) → (∀ x ∈ s, x.length = m) → Asc s → Asc (l.foldl (fun s x => insB x s) s) ∧ (∀ x, x ∈ l.foldl (fun s x => insB x s) s ↔ x ∈ s ∨ x ∈ l) ∧ ∀ x ∈ l.foldl (fun s x => insB x s) s, x.length = m
  | [], s, _, hs, ha => ⟨ha, fun x => by simp, hs⟩
  | a :: r, s, hl, hs, ha => by
    have hla := hl a List.mem_cons_self
    have hs2 : ∀ x ∈ insB a s, x.length = m := fun x hx => by
      rcases insB_mem.1 hx with rfl | hx
      · exact hla
      · exact hs x hx
    obtain ⟨h1, h2, h3⟩ := insAll_facts r (insB a s) (fun x hx => hl x (List.mem_cons_of_mem _ hx)) hs2 (insB_asc ha fun x hx => by rw [hs x hx, hla])
    refine ⟨h1, fun x => ?_, h3⟩
    rw [List.foldl_cons, h2, insB_mem, List.mem_cons]
    constructor
    · rintro ((h | h) | h)
      · exact .inr (.inl h)
      · exact .inl h
      · exact .inr (.inr h)
    · rintro (h | h | h)
      · exact .inl (.inr h)
      · exact .inl (.inl h)
      · exact .inr h
theorem insAll_ok {m : Nat} {l : LL} (hl : ∀ x ∈ l, x.length = m) : Asc (insAll l) ∧ (∀ x, x ∈ insAll l ↔ x ∈ l) ∧ ∀ x ∈ insAll l, x.length = m := by
  obtain ⟨h1, h2, h3⟩ := insAll_facts l [] hl (fun x hx => by cases hx) trivial
  exact ⟨h1, fun x => by rw [insAll, h2]; simp, h3⟩
end Go.Lv.P
