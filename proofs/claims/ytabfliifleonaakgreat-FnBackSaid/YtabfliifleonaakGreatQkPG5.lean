/-
Plain facts of the pure functions, part 5; without conditions.
-/
import Derived.Test.YtabfliifleonaakGreatQkPG4
import Derived.Test.YtabfliifleonaakGreatQkPG2
import Derived.Test.YtabfliifleonaakGreatQkP3
import Derived.Test.YtabfliifleonaakGreatQkPG1
import Derived.Test.YtabfliifleonaakGreatQkP2
set_option linter.unusedVariables false
set_option linter.unusedSimpArgs false
set_option linter.unusedSectionVars false
namespace Go.Lv.P
open Go Go.Lv
def tl (row : List Int) : List Int := row.filter fun x => !(x == 0)
def u184 (row : List Int) : Bool := tl row == row.take (tl row).length
def slR (row : List Int) : List Int := (u102 row).2.2.2
theorem rstep_nz {s : RS} {x : Int} (hx : inB x 1 17 = true) (h : RI s) (hs : s.1 < 4) (hn : ∀ j, j < s.1 → iget s.2.2.2 j ≠ 0) : ∀ j, j < (rstep s x).1 → iget (rstep s x).2.2.2 j ≠ 0 := by
  have hx1 : 1 ≤ x ∧ x ≤ 17 := by simpa [inB] using hx
  unfold rstep
  cases hc : decide (0 < s.1) && (iget s.2.2.2 (0 + (s.1 - 1) * 1) == x) && decide (x < 17) && !s.2.2.1 with
  | true =>
    intro j hj
    rw [cond_true] at hj ⊢
    have hj : j < s.1 := hj
    show iget (iset s.2.2.2 _ _) j ≠ 0
    rw [u217 _ _ _ _ (by rw [h.1]; omega)]
    split
    · omega
    · exact hn j hj
  | false =>
    intro j hj
    rw [cond_false] at hj ⊢
    have hj : j < s.1 + 1 := hj
    show iget (iset s.2.2.2 _ _) j ≠ 0
    rw [u217 _ _ _ _ (by rw [h.1]; omega)]
    split
    · omega
    · exact hn j (by omega)
theorem rfold_nz : ∀ (l : List Int) (s : RS), (∀ x ∈ l, inB x 1 17 = true) → RI s → s.1 + l.length ≤ 4 → (∀ j, j < s.1 → iget s.2.2.2 j ≠ 0) →
    (l.foldl rstep s).1 ≤ 4 ∧ RI (l.foldl rstep s) ∧ ∀ j, j < (l.foldl rstep s).1 → iget (l.foldl rstep s).2.2.2 j ≠ 0
  | [], s, _, h, hl, hn => ⟨by simpa using hl, h, hn⟩
  | x :: l, s, hx, h, hl, hn => by
    simp only [List.length_cons] at hl
    have h1 := rstep_n s x
    exact rfold_nz l (rstep s x) (fun y hy => hx y (List.mem_cons_of_mem _ hy)) (rstep_RI h (by omega)) (by omega) (rstep_nz (hx x List.mem_cons_self) h (by omega) hn)
theorem flush_of {out : List Int} {n : Nat} (h4 : out.length = 4) (hn : n ≤ 4) (h1 : ∀ j, j < n → iget out j ≠ 0) (h2 : ∀ j, n ≤ j → j < 4 → iget out j = 0) : u184 out = true ∧ (tl out).length = n := by
  obtain ⟨a, b, c, d, rfl⟩ := list4 h4
  have e0 : iget [a, b, c, d] 0 = a := rfl
  have e1 : iget [a, b, c, d] 1 = b := rfl
  have e2 : iget [a, b, c, d] 2 = c := rfl
  have e3 : iget [a, b, c, d] 3 = d := rfl
  obtain rfl | rfl | rfl | rfl | rfl : n = 0 ∨ n = 1 ∨ n = 2 ∨ n = 3 ∨ n = 4 := by omega
  · have ha := h2 0 (by omega) (by omega); have hb := h2 1 (by omega) (by omega); have hc := h2 2 (by omega) (by omega); have hd := h2 3 (by omega) (by omega)
    rw [e0] at ha; rw [e1] at hb; rw [e2] at hc; rw [e3] at hd
    subst ha hb hc hd
    decide
  · have ha := h1 0 (by omega); have hb := h2 1 (by omega) (by omega); have hc := h2 2 (by omega) (by omega); have hd := h2 3 (by omega) (by omega)
    rw [e0] at ha; rw [e1] at hb; rw [e2] at hc; rw [e3] at hd
    subst hb hc hd
    simp [u184, tl, ha]
  · have ha := h1 0 (by omega); have hb := h1 1 (by omega); have hc := h2 2 (by omega) (by omega); have hd := h2 3 (by omega) (by omega)
    rw [e0] at ha; rw [e1] at hb; rw [e2] at hc; rw [e3] at hd
    subst hc hd
    simp [u184, tl, ha, hb]
  · have ha := h1 0 (by omega); have hb := h1 1 (by omega); have hc := h1 2 (by omega); have hd := h2 3 (by omega) (by omega)
    rw [e0] at ha; rw [e1] at hb; rw [e2] at hc; rw [e3] at hd
    subst hd
    simp [u184, tl, ha, hb, hc]
  · have ha := h1 0 (by omega); have hb := h1 1 (by omega); have hc := h1 2 (by omega); have hd := h1 3 (by omega)
    rw [e0] at ha; rw [e1] at hb; rw [e2] at hc; rw [e3] at hd
    simp [u184, tl, ha, hb, hc, hd]
theorem slide_flush {r : List Int} (hl : r.length = 4) (h : ∀ x ∈ r, u045 x) : u184 (slR r) = true := by
  have hn : (tl r).length ≤ 4 := by rw [← hl]; exact List.length_filter_le _ _
  obtain ⟨h1, h2, h3⟩ := rfold_nz (tl r) (0, 0, false, [0, 0, 0, 0]) (u211 h) ⟨rfl, fun j _ hj => by
    obtain rfl | rfl | rfl | rfl : j = 0 ∨ j = 1 ∨ j = 2 ∨ j = 3 := by omega
    all_goals rfl⟩ (by simpa using hn) (fun j hj => by simp at hj)
  exact (flush_of h2.1 h1 h3 fun j hj hj4 => h2.2 j hj hj4).1
def exL : List Int → LL
  | [] => [[]]
  | t :: r => (exL r).map (t :: ·) ++ bif decide (1 < t) then (exL r).map (fun e => (t - 1) :: (t - 1) :: e) else []
def apL : List Int → List Int → LL
  | list, [] => bif decide (4 < list.length) then [] else [list]
  | list, t :: r => bif decide (4 < list.length) then [] else apL (list ++ [t]) r ++ bif decide (1 < t) then apL (list ++ [t - 1, t - 1]) r else []
theorem apL_mem : ∀ (rest list l : List Int), l ∈ apL list rest ↔ l.length ≤ 4 ∧ ∃ e ∈ exL rest, l = list ++ e
  | [], list, l => by
    simp only [apL, exL, List.mem_singleton]
    cases h : decide (4 < list.length) with
    | true =>
      have := of_decide_eq_true h
      simp only [cond_true, List.not_mem_nil, false_iff]
      rintro ⟨h1, e, rfl, rfl⟩
      simp at h1; omega
    | false =>
      have := of_decide_eq_false h
      simp only [cond_false, List.mem_singleton]
      constructor
      · rintro rfl; exact ⟨by omega, [], rfl, by simp⟩
      · rintro ⟨_, e, rfl, rfl⟩; simp
  | t :: r, list, l => by
    simp only [apL, exL]
    cases h : decide (4 < list.length) with
    | true =>
      have := of_decide_eq_true h
      simp only [cond_true, List.not_mem_nil, false_iff]
      rintro ⟨h1, e, _, rfl⟩
      simp at h1; omega
    | false =>
      simp only [cond_false, List.mem_append]
      rw [apL_mem r]
      cases ht : decide (1 < t) with
      | true =>
        simp only [cond_true]
        rw [apL_mem r]
        constructor
        · rintro (⟨h1, e, he, rfl⟩ | ⟨h1, e, he, rfl⟩)
          · exact ⟨h1, t :: e, .inl (List.mem_map.2 ⟨e, he, rfl⟩), by simp⟩
          · exact ⟨h1, (t - 1) :: (t - 1) :: e, .inr (List.mem_map.2 ⟨e, he, rfl⟩), by simp⟩
        · rintro ⟨h1, e, he | he, rfl⟩
          · obtain ⟨e', he', rfl⟩ := List.mem_map.1 he
            exact .inl ⟨h1, e', he', by simp⟩
          · obtain ⟨e', he', rfl⟩ := List.mem_map.1 he
            exact .inr ⟨h1, e', he', by simp⟩
      | false =>
        simp only [cond_false, List.not_mem_nil, or_false]
        constructor
        · rintro ⟨h1, e, he, rfl⟩
          exact ⟨h1, t :: e, List.mem_map.2 ⟨e, he, rfl⟩, by simp⟩
        · rintro ⟨h1, e, he, rfl⟩
          obtain ⟨e', he', rfl⟩ := List.mem_map.1 he
          exact ⟨h1, e', he', by simp⟩
def tk : Nat → List Int → List Int
  | c, [] => []
  | c, x :: r => bif decide (0 < x) then (bif Nat.testBit c 0 then [x - 1, x - 1] else [x]) ++ tk (c / 2) r else []
def pre : List Int → List Int
  | [] => []
  | x :: r => bif decide (0 < x) then x :: pre r else []
theorem tk_ex : ∀ (r : List Int) (c : Nat), (∀ x ∈ tk c r, x ≠ 0) → tk c r ∈ exL (pre r)
  | [], c, _ => by simp [tk, pre, exL]
  | x :: r, c, h => by
    simp only [tk, pre] at h ⊢
    cases hx : decide (0 < x) with
    | false => simp [exL]
    | true =>
      have hx0 := of_decide_eq_true hx
      rw [hx, cond_true] at h
      simp only [cond_true, exL, List.mem_append]
      have ih := tk_ex r (c / 2) fun y hy => h y (List.mem_append_right _ hy)
      cases hb : Nat.testBit c 0 with
      | false =>
        simp only [cond_false]
        exact .inl (List.mem_map.2 ⟨_, ih, rfl⟩)
      | true =>
        rw [hb, cond_true] at h
        have h1 : x - 1 ≠ 0 := h (x - 1) (by simp)
        rw [decide_eq_true (show 1 < x by omega), cond_true, cond_true]
        exact .inr (List.mem_map.2 ⟨_, ih, rfl⟩)
theorem ex_nz : ∀ (r : List Int), (∀ x ∈ r, 0 < x ∧ x ≤ 17) → ∀ e ∈ exL r, ∀ x ∈ e, 0 < x ∧ x ≤ 17
  | [], _, e, he, x, hx => by simp only [exL, List.mem_singleton] at he; subst he; cases hx
  | t :: r, h, e, he, x, hx => by
    have ht := h t List.mem_cons_self
    have ih := ex_nz r fun y hy => h y (List.mem_cons_of_mem _ hy)
    simp only [exL, List.mem_append] at he
    rcases he with he | he
    · obtain ⟨e', he', rfl⟩ := List.mem_map.1 he
      rcases List.mem_cons.1 hx with rfl | hx
      · exact ht
      · exact ih e' he' x hx
    · cases ht1 : decide (1 < t) with
      | false => rw [ht1] at he; cases he
      | true =>
        have := of_decide_eq_true ht1
        rw [ht1, cond_true] at he
        obtain ⟨e', he', rfl⟩ := List.mem_map.1 he
        rcases List.mem_cons.1 hx with rfl | hx
        · omega
        · rcases List.mem_cons.1 hx with rfl | hx
          · omega
          · exact ih e' he' x hx
theorem ex_tk : ∀ (r : List Int) (e : List Int), e ∈ exL (pre r) → ∃ c : Nat, c < 2 ^ r.length ∧ tk c r = e
  | [], e, he => by
    simp only [pre, exL, List.mem_singleton] at he
    subst he
    exact ⟨0, by simp, rfl⟩
  | x :: r, e, he => by
    simp only [pre] at he
    cases hx : decide (0 < x) with
    | false =>
      rw [hx] at he
      simp only [cond_false, exL, List.mem_singleton] at he
      subst he
      exact ⟨0, Nat.two_pow_pos _, by simp [tk, hx]⟩
    | true =>
      rw [hx, cond_true] at he
      simp only [exL, List.mem_append] at he
      rcases he with he | he
      · obtain ⟨e', he', rfl⟩ := List.mem_map.1 he
        obtain ⟨c, hc, rfl⟩ := ex_tk r e' he'
        refine ⟨2 * c, by rw [List.length_cons, Nat.pow_succ]; omega, ?_⟩
        have h1 : Nat.testBit (2 * c) 0 = false := by simp [Nat.testBit_zero]
        have h2 : 2 * c / 2 = c := by omega
        simp only [tk, hx, cond_true, h1, cond_false, h2]; rfl
      · cases ht1 : decide (1 < x) with
        | false => rw [ht1] at he; cases he
        | true =>
          rw [ht1, cond_true] at he
          obtain ⟨e', he', rfl⟩ := List.mem_map.1 he
          obtain ⟨c, hc, rfl⟩ := ex_tk r e' he'
          refine ⟨2 * c + 1, by rw [List.length_cons, Nat.pow_succ]; omega, ?_⟩
          have h1 : Nat.testBit (2 * c + 1) 0 = true := by simp [Nat.testBit_zero]
          have h2 : (2 * c + 1) / 2 = c := by omega
          simp only [tk, hx, cond_true, h1, h2]; rfl
def spK (list : List Int) (c : Nat) (i : Nat) (s : Nat × List Int) : Nat × List Int := bif Nat.testBit c i then (s.1 + 1, bif decide (s.1 < list.length) then iset s.2 i (iget list s.1) else s.2) else s
def sp1 (list : List Int) (c : Nat) : Nat × List Int := fld (spK list c) 0 4 (0, [0, 0, 0, 0])
def u053 (list : List Int) : LL := ((List.range 16).filter fun c => (sp1 list c).1 == list.length).map fun c => (sp1 list c).2
theorem sp1_ok {list : List Int} (hl : ∀ x ∈ list, 0 < x ∧ x ≤ 17) (c : Nat) : (sp1 list c).2.length = 4 ∧ (∀ x ∈ (sp1 list c).2, u045 x) ∧ (sp1 list c).1 ≤ 4 := by
  have step : ∀ i (s : Nat × List Int), i < 4 → s.2.length = 4 → (∀ x ∈ s.2, u045 x) → (spK list c i s).2.length = 4 ∧ (∀ x ∈ (spK list c i s).2, u045 x) ∧ (spK list c i s).1 ≤ s.1 + 1 := fun i s hi h1 h2 => by
    unfold spK
    cases Nat.testBit c i
    · exact ⟨h1, h2, Nat.le_succ _⟩
    · simp only [cond_true]
      cases hd : decide (s.1 < list.length)
      · exact ⟨h1, h2, Nat.le_refl _⟩
      · have hlt := of_decide_eq_true hd
        refine ⟨by simp only [cond_true]; rw [u104]; exact h1, ?_, Nat.le_refl _⟩
        simp only [cond_true]
        refine u130 h2 i ?_
        have := hl _ (by rw [igetL, List.getElem?_eq_getElem hlt]; exact List.getElem_mem hlt : iget list s.1 ∈ list)
        simp only [u045, inB, Bool.and_eq_true, decide_eq_true_eq]; omega
  have z : ∀ x ∈ [(0 : Int), 0, 0, 0], u045 x := by decide
  obtain ⟨a1, a2, a3⟩ := step 0 (0, [0, 0, 0, 0]) (by omega) rfl z
  obtain ⟨b1, b2, b3⟩ := step 1 _ (by omega) a1 a2
  obtain ⟨c1, c2, c3⟩ := step 2 _ (by omega) b1 b2
  obtain ⟨d1, d2, d3⟩ := step 3 _ (by omega) c1 c2
  refine ⟨d1, d2, ?_⟩
  show (spK list c 3 (spK list c 2 (spK list c 1 (spK list c 0 (0, [0, 0, 0, 0]))))).1 ≤ 4
  simp only at a3
  omega
theorem u297 {list : List Int} (hl : ∀ x ∈ list, 0 < x ∧ x ≤ 17) : ∀ r ∈ u053 list, r.length = 4 ∧ ∀ x ∈ r, u045 x := by
  intro r hr
  obtain ⟨c, _, rfl⟩ := List.mem_map.1 hr
  exact ⟨(sp1_ok hl c).1, (sp1_ok hl c).2.1⟩
theorem u160 (list : List Int) : (u053 list).length ≤ 16 := by
  unfold u053
  rw [List.length_map]
  exact Nat.le_trans (List.length_filter_le _ _) (by simp)
def u139 (row : List Int) (ls : LL) : LL := ls.flatMap fun l => (u053 l).filter fun r => slR r == row
def codeL (row : List Int) : LL := ((List.range 16).map fun c => tk c row).filter fun l => !(decide (4 < l.length)) && !(l.contains 0)
def rbL (row : List Int) : LL := u105 (u139 row (codeL row))
section
variable {row : List Int} (hl : row.length = 4) (h : ∀ x ∈ row, u045 x)
include hl h
theorem pre_nz : ∀ x ∈ pre row, 0 < x ∧ x ≤ 17 := by
  clear hl
  induction row with
  | nil => intro x hx; cases hx
  | cons y r ih =>
    intro x hx
    simp only [pre] at hx
    cases hy : decide (0 < y) with
    | false => rw [hy] at hx; cases hx
    | true =>
      have hy0 := of_decide_eq_true hy
      rw [hy, cond_true] at hx
      rcases List.mem_cons.1 hx with rfl | hx
      · have := h x List.mem_cons_self
        simp only [u045, inB, Bool.and_eq_true, decide_eq_true_eq] at this
        omega
      · exact ih (fun z hz => h z (List.mem_cons_of_mem _ hz)) x hx
theorem code_mem (l : List Int) : l ∈ codeL row ↔ l.length ≤ 4 ∧ l ∈ exL (pre row) := by
  unfold codeL
  rw [List.mem_filter, List.mem_map]
  simp only [List.mem_range, Bool.and_eq_true, Bool.not_eq_true', decide_eq_false_iff_not, Nat.not_lt]
  constructor
  · rintro ⟨⟨c, hc, rfl⟩, h1, h2⟩
    refine ⟨h1, tk_ex row c fun x hx hx0 => ?_⟩
    subst hx0
    rw [List.contains_iff_mem.2 hx] at h2; cases h2
  · rintro ⟨h1, h2⟩
    obtain ⟨c, hc, rfl⟩ := ex_tk row l h2
    refine ⟨⟨c, by rw [hl] at hc; exact hc, rfl⟩, h1, ?_⟩
    cases hz : (tk c row).contains 0 with
    | false => rfl
    | true =>
      have := ex_nz (pre row) (pre_nz hl h) _ h2 0 (List.contains_iff_mem.1 hz)
      omega
theorem tl_pre (hf : u184 row = true) : tl row = pre row := by
  have hx : ∀ x ∈ row, (!(x == 0)) = decide (0 < x) := fun x hx => by
    have := h x hx
    simp only [u045, inB, Bool.and_eq_true, decide_eq_true_eq] at this
    by_cases h0 : x = 0
    · subst h0; decide
    · have h1 : (x == 0) = false := by rw [beq_eq_false_iff_ne]; exact h0
      rw [h1, decide_eq_true (show 0 < x by omega)]; rfl
  have hf := eq_of_beq hf
  clear hl
  have key : ∀ (r : List Int), (∀ x ∈ r, (!(x == 0)) = decide (0 < x)) → tl r = r.take (tl r).length → tl r = pre r := by
    intro r
    induction r with
    | nil => intro _ _; rfl
    | cons y r ih =>
      intro hh hf
      have hy := hh y List.mem_cons_self
      simp only [tl, List.filter_cons, hy, pre] at hf ⊢
      cases hd : decide (0 < y) with
      | true =>
        rw [hd] at hf
        simp only [if_true, List.length_cons, List.take_succ_cons, List.cons.injEq, true_and, cond_true] at hf ⊢
        exact ih (fun z hz => hh z (List.mem_cons_of_mem _ hz)) hf
      | false =>
        rw [hd] at hf hy
        simp only [Bool.false_eq_true, if_false, cond_false] at hf ⊢
        cases hq : r.filter fun x => !(x == 0) with
        | nil => rfl
        | cons a q =>
          rw [hq] at hf
          simp only [List.length_cons, List.take_succ_cons, List.cons.injEq] at hf
          have : a ∈ r.filter fun x => !(x == 0) := by rw [hq]; exact List.mem_cons_self
          rw [List.mem_filter] at this
          have h2 := this.2
          rw [hf.1, hy] at h2; cases h2
  exact key row hx hf
theorem hits_ok {ls : LL} (hs : ∀ l ∈ ls, ∀ x ∈ l, 0 < x ∧ x ≤ 17) : ∀ r ∈ u139 row ls, r.length = 4 ∧ ∀ x ∈ r, u045 x := by
  intro r hr
  unfold u139 at hr
  rw [List.mem_flatMap] at hr
  obtain ⟨l, hl, hr⟩ := hr
  exact u297 (hs l hl) r (List.mem_filter.1 hr).1
theorem code_nz : ∀ l ∈ codeL row, ∀ x ∈ l, 0 < x ∧ x ≤ 17 := fun l hl2 => ex_nz _ (pre_nz hl h) l ((code_mem hl h l).1 hl2).2
theorem ap_nz (hf : u184 row = true) : ∀ l ∈ apL [] (tl row), ∀ x ∈ l, 0 < x ∧ x ≤ 17 := fun l hl2 => by
  rw [apL_mem] at hl2
  obtain ⟨_, e, he, rfl⟩ := hl2
  rw [tl_pre hl h hf] at he
  exact ex_nz _ (pre_nz hl h) _ he
theorem hits_same (hf : u184 row = true) (r : List Int) : r ∈ u139 row (apL [] (tl row)) ↔ r ∈ rbL row := by
  rw [rbL, (insAll_ok (m := 4) fun x hx => (hits_ok hl h (code_nz hl h) x hx).1).2.1]
  unfold u139
  rw [List.mem_flatMap, List.mem_flatMap]
  have hm : ∀ l, l ∈ apL [] (tl row) ↔ l ∈ codeL row := fun l => by
    rw [apL_mem, code_mem hl h, tl_pre hl h hf]
    constructor
    · rintro ⟨h1, e, he, rfl⟩; exact ⟨h1, by simpa using he⟩
    · rintro ⟨h1, h2⟩; exact ⟨h1, l, h2, rfl⟩
  constructor
  · rintro ⟨l, h1, h2⟩; exact ⟨l, (hm l).1 h1, h2⟩
  · rintro ⟨l, h1, h2⟩; exact ⟨l, (hm l).2 h1, h2⟩
theorem u125 : Asc (rbL row) ∧ ∀ r ∈ rbL row, (r.length = 4 ∧ ∀ x ∈ r, u045 x) ∧ slR r = row := by
  obtain ⟨h1, h2, h3⟩ := insAll_ok (m := 4) fun x hx => (hits_ok hl h (code_nz hl h) x hx).1
  refine ⟨h1, fun r hr => ?_⟩
  have hr := (h2 r).1 hr
  refine ⟨hits_ok hl h (code_nz hl h) r hr, ?_⟩
  unfold u139 at hr
  rw [List.mem_flatMap] at hr
  obtain ⟨l, _, hr⟩ := hr
  exact eq_of_beq (List.mem_filter.1 hr).2
theorem rb_none (hf : u184 row = false) : rbL row = [] := by
  cases hr : rbL row with
  | nil => rfl
  | cons r q =>
    obtain ⟨⟨h1, h2⟩, h3⟩ := (u125 hl h).2 r (by rw [hr]; exact List.mem_cons_self)
    have := slide_flush h1 h2
    rw [h3, hf] at this; cases this
end
theorem ins_len (l s : LL) : (l.foldl (fun s x => insB x s) s).length ≤ s.length + l.length := by
  induction l generalizing s with
  | nil => simp
  | cons a r ih =>
    rw [List.foldl_cons]
    have h1 := ih (insB a s)
    have h2 : (insB a s).length ≤ s.length + 1 := by
      clear ih h1
      induction s with
      | nil => simp [insB]
      | cons b q ih =>
        simp only [insB]
        cases ltL b a
        · cases b == a <;> simp
        · simp only [cond_true, List.length_cons]; omega
    rw [List.length_cons]; omega
theorem hits_len (row : List Int) (ls : LL) : (u139 row ls).length ≤ 16 * ls.length := by
  unfold u139
  induction ls with
  | nil => simp
  | cons l r ih =>
    rw [List.flatMap_cons, List.length_append, List.length_cons]
    have h1 := u160 l
    have h2 := List.length_filter_le (fun r => slR r == row) (u053 l)
    omega
theorem rb_len (row : List Int) : (rbL row).length ≤ 256 := by
  have h1 := ins_len (u139 row (codeL row)) []
  have h2 := hits_len row (codeL row)
  have h3 : (codeL row).length ≤ 16 := by
    unfold codeL
    exact Nat.le_trans (List.length_filter_le _ _) (by simp)
  unfold rbL u105
  simp only [List.length_nil] at h1
  omega
end Go.Lv.P
namespace Go.Lv.P
open Go Go.Lv
section
variable {b : List Int} (hb : b.length = 16) (ok : okB b = true)
include hb ok
theorem impl_slides1 (F : Nat) (hF : 1000 < F) {d : Nat} (hd : d < 4) : k33_p F b [(d : Int)] = some (u070 b d).1 := by
  obtain ⟨m, hm⟩ := impl_slide hb ok F hF hd
  have h := u036 (step := k33_s2 F [(d : Int)] 1) (fun i (a : List Int) => (i, a)) 1 (fun i a => (u070 b d).1) (fun a => a) (fun i a => i = 0 → a = b) (F := F) (by omega) (by omega) (a := b) (fun _ => rfl)
    (fun i a hi h => by
      obtain rfl : i = 0 := by omega
      refine ⟨fun h => absurd h (by omega), fun Q kn kx => ?_⟩
      have h0 : ((0 : Nat) : Int) < 1 := by omega
      have hg : iget [(d : Int)] 0 = d := rfl
      simp only [k33_s2, h0, decide_true, cond_true, u021, List.length_singleton, Nat.zero_lt_one, Int.toNat_natCast, hg, h rfl, hm, Option.isSome_some, Option.getD_some])
    (fun a _ Q kn kx => by simp [k33_s2])
  have e : k33_l2 F [(d : Int)] 1 0 b = some (u070 b d).1 := h.1
  have e' : (([(d : Int)].length : Nat) : Int) = 1 := rfl
  simp only [k33_p, k33_c, e', e, Option.isSome_some, Option.getD_some, cond_true]
end
end Go.Lv.P
namespace Go.Lv.P
open Go Go.Lv
def step1 (d : Int) (c : List Int) : List Int := iset (u029 [d, 0, 0, 0] 1 c 2) 3 1
def step2 (d : Int) (c : List Int) : List Int := iset (u029 [d, 0, 0, 0] 1 c 2) 3 2
def stepsOn (n : List Int) (d : Int) : LL := fld (fun i a => a ++ [step1 d (rget (em n) i), step2 d (rget (em n) i)]) 0 (em n).length []
def stepsB (b : List Int) (d : Nat) : LL := bif (u070 b d).1 == b then [] else stepsOn (u070 b d).1 (d : Int)
end Go.Lv.P
namespace Go.Lv.P
open Go Go.Lv
theorem fit8 {n : Nat} (h : n ≤ 1000) : fits n 8 = true := u093 (by omega) (by omega)
theorem fit24 {n : Nat} (h : n ≤ 1000) : fits n 24 = true := u093 (by omega) (by omega)
theorem u121 : ∀ (rest list : List Int), (apL list rest).length ≤ 2 ^ rest.length
  | [], list => by
    simp only [apL]
    cases decide (4 < list.length) <;> simp
  | t :: r, list => by
    have h1 := u121 r (list ++ [t])
    have h2 := u121 r (list ++ [t - 1, t - 1])
    simp only [apL, List.length_cons, Nat.pow_succ]
    cases decide (4 < list.length)
    · rw [cond_false, List.length_append]
      cases decide (1 < t)
      · simp only [cond_false, List.length_nil]; omega
      · simp only [cond_true]; omega
    · simp
theorem u138 (n : Nat) : decide ((4 : Int) < ((n : Nat) : Int)) = decide (4 < n) := by
  by_cases h : 4 < n
  · rw [decide_eq_true h, decide_eq_true (by omega)]
  · rw [decide_eq_false h, decide_eq_false (by omega)]
abbrev tOK (x : Int) : Prop := 0 ≤ x ∧ x ≤ 17
theorem wp1 {x : Int} (h : tOK x) : IntKind.wrap .i64 (x - 1) = x - 1 := u044 (by have := h.1; omega) (by have := h.2; omega)
theorem apart0_2 (list : List Int) (hl : list.length ≤ 100) : k35_p list = some (apL list []) := by
  simp only [k35_p, k35_c, u138, fit8 (show list.length ≤ 1000 by omega), u033, cond_true, apL]
  cases decide (4 < list.length) <;> rfl
theorem apart0_3 (list : List Int) (out : LL) (hl : list.length ≤ 100) (ho : out.length ≤ 500) : k36_p list out = some (out ++ apL list []) := by
  simp only [k36_p, k36_c, u138, fit8 (show list.length ≤ 1000 by omega), u033, cond_true, apL, fit24 (show (out ++ [list]).length ≤ 1000 by simp; omega)]
  cases decide (4 < list.length)
  · rfl
  · simp
theorem apart1_2 (list : List Int) (x0 : Int) (h0 : tOK x0) (hl : list.length ≤ 90) : k37_p list x0 = some (apL list [x0]) := by
  have l1 := u121 [] (list ++ [x0])
  have l1 : (apL (list ++ [x0]) []).length ≤ 1 := l1
  have e1 := apart0_2 (list ++ [x0]) (by simp; omega)
  have e2 := apart0_3 (list ++ [x0 - 1, x0 - 1]) (apL (list ++ [x0]) []) (by simp; omega) (by omega)
  have ea : apL list [x0] = bif decide (4 < list.length) then [] else apL (list ++ [x0]) [] ++ bif decide (1 < x0) then apL (list ++ [x0 - 1, x0 - 1]) [] else [] := rfl
  rw [ea]
  simp only [k37_p, k37_c, u138, u033, wp1 h0, fit8 (show list.length ≤ 1000 by omega), fit8 (show (list ++ [x0]).length ≤ 1000 by simp; omega), fit8 (show (list ++ [x0 - 1, x0 - 1]).length ≤ 1000 by simp; omega), e1, e2, Option.isSome_some, Option.getD_some, cond_true, u037, Bool.and_self]
  cases decide (4 < list.length)
  · cases decide (1 < x0)
    · simp
    · simp
  · simp
theorem apart1_3 (list : List Int) (x0 : Int) (out : LL) (h0 : tOK x0) (hl : list.length ≤ 90) (ho : out.length ≤ 460) : k38_p list x0 out = some (out ++ apL list [x0]) := by
  have l1 := u121 [] (list ++ [x0])
  have l1 : (apL (list ++ [x0]) []).length ≤ 1 := l1
  have e1 := apart0_3 (list ++ [x0]) out (by simp; omega) (by omega)
  have e2 := apart0_3 (list ++ [x0 - 1, x0 - 1]) (out ++ apL (list ++ [x0]) []) (by simp; omega) (by simp only [List.length_append]; omega)
  have ea : apL list [x0] = bif decide (4 < list.length) then [] else apL (list ++ [x0]) [] ++ bif decide (1 < x0) then apL (list ++ [x0 - 1, x0 - 1]) [] else [] := rfl
  rw [ea]
  simp only [k38_p, k38_c, u138, u033, wp1 h0, fit8 (show list.length ≤ 1000 by omega), fit8 (show (list ++ [x0]).length ≤ 1000 by simp; omega), fit8 (show (list ++ [x0 - 1, x0 - 1]).length ≤ 1000 by simp; omega), e1, e2, Option.isSome_some, Option.getD_some, cond_true, u037, Bool.and_self]
  cases decide (4 < list.length)
  · cases decide (1 < x0)
    · simp
    · simp
  · simp
theorem apart1_1 (x0 : Int) (h0 : tOK x0) : k60_p x0 = some (apL [] [x0]) := by
  have l1 := u121 [] [x0]
  have l1 : (apL [x0] []).length ≤ 1 := l1
  have e1 := apart0_2 [x0] (by simp)
  have e2 := apart0_3 [x0 - 1, x0 - 1] (apL [x0] []) (by simp) (by omega)
  simp only [k60_p, k60_c, wp1 h0, e1, e2, Option.isSome_some, Option.getD_some, cond_true, u037, Bool.and_self]
  have ea : apL [] ([x0]) = apL [x0] [] ++ bif decide (1 < x0) then apL [x0 - 1, x0 - 1] [] else [] := rfl
  rw [ea]
  cases decide (1 < x0)
  · simp
  · rfl
theorem apart2_2 (list : List Int) (x0 : Int) (x1 : Int) (h0 : tOK x0) (h1 : tOK x1) (hl : list.length ≤ 80) : k39_p list x0 x1 = some (apL list [x0, x1]) := by
  have l1 := u121 [x1] (list ++ [x0])
  have l1 : (apL (list ++ [x0]) [x1]).length ≤ 2 := l1
  have e1 := apart1_2 (list ++ [x0]) x1 h1 (by simp; omega)
  have e2 := apart1_3 (list ++ [x0 - 1, x0 - 1]) x1 (apL (list ++ [x0]) [x1]) h1 (by simp; omega) (by omega)
  have ea : apL list [x0, x1] = bif decide (4 < list.length) then [] else apL (list ++ [x0]) [x1] ++ bif decide (1 < x0) then apL (list ++ [x0 - 1, x0 - 1]) [x1] else [] := rfl
  rw [ea]
  simp only [k39_p, k39_c, u138, u033, wp1 h0, fit8 (show list.length ≤ 1000 by omega), fit8 (show (list ++ [x0]).length ≤ 1000 by simp; omega), fit8 (show (list ++ [x0 - 1, x0 - 1]).length ≤ 1000 by simp; omega), e1, e2, Option.isSome_some, Option.getD_some, cond_true, u037, Bool.and_self]
  cases decide (4 < list.length)
  · cases decide (1 < x0)
    · simp
    · simp
  · simp
theorem apart2_3 (list : List Int) (x0 : Int) (x1 : Int) (out : LL) (h0 : tOK x0) (h1 : tOK x1) (hl : list.length ≤ 80) (ho : out.length ≤ 420) : k40_p list x0 x1 out = some (out ++ apL list [x0, x1]) := by
  have l1 := u121 [x1] (list ++ [x0])
  have l1 : (apL (list ++ [x0]) [x1]).length ≤ 2 := l1
  have e1 := apart1_3 (list ++ [x0]) x1 out h1 (by simp; omega) (by omega)
  have e2 := apart1_3 (list ++ [x0 - 1, x0 - 1]) x1 (out ++ apL (list ++ [x0]) [x1]) h1 (by simp; omega) (by simp only [List.length_append]; omega)
  have ea : apL list [x0, x1] = bif decide (4 < list.length) then [] else apL (list ++ [x0]) [x1] ++ bif decide (1 < x0) then apL (list ++ [x0 - 1, x0 - 1]) [x1] else [] := rfl
  rw [ea]
  simp only [k40_p, k40_c, u138, u033, wp1 h0, fit8 (show list.length ≤ 1000 by omega), fit8 (show (list ++ [x0]).length ≤ 1000 by simp; omega), fit8 (show (list ++ [x0 - 1, x0 - 1]).length ≤ 1000 by simp; omega), e1, e2, Option.isSome_some, Option.getD_some, cond_true, u037, Bool.and_self]
  cases decide (4 < list.length)
  · cases decide (1 < x0)
    · simp
    · simp
  · simp
theorem apart2_1 (x0 : Int) (x1 : Int) (h0 : tOK x0) (h1 : tOK x1) : k61_p x0 x1 = some (apL [] [x0, x1]) := by
  have l1 := u121 [x1] [x0]
  have l1 : (apL [x0] [x1]).length ≤ 2 := l1
  have e1 := apart1_2 [x0] x1 h1 (by simp)
  have e2 := apart1_3 [x0 - 1, x0 - 1] x1 (apL [x0] [x1]) h1 (by simp) (by omega)
  simp only [k61_p, k61_c, wp1 h0, e1, e2, Option.isSome_some, Option.getD_some, cond_true, u037, Bool.and_self]
  have ea : apL [] ([x0, x1]) = apL [x0] [x1] ++ bif decide (1 < x0) then apL [x0 - 1, x0 - 1] [x1] else [] := rfl
  rw [ea]
  cases decide (1 < x0)
  · simp
  · rfl
theorem apart3_2 (list : List Int) (x0 : Int) (x1 : Int) (x2 : Int) (h0 : tOK x0) (h1 : tOK x1) (h2 : tOK x2) (hl : list.length ≤ 70) : k41_p list x0 x1 x2 = some (apL list [x0, x1, x2]) := by
  have l1 := u121 [x1, x2] (list ++ [x0])
  have l1 : (apL (list ++ [x0]) [x1, x2]).length ≤ 4 := l1
  have e1 := apart2_2 (list ++ [x0]) x1 x2 h1 h2 (by simp; omega)
  have e2 := apart2_3 (list ++ [x0 - 1, x0 - 1]) x1 x2 (apL (list ++ [x0]) [x1, x2]) h1 h2 (by simp; omega) (by omega)
  have ea : apL list [x0, x1, x2] = bif decide (4 < list.length) then [] else apL (list ++ [x0]) [x1, x2] ++ bif decide (1 < x0) then apL (list ++ [x0 - 1, x0 - 1]) [x1, x2] else [] := rfl
  rw [ea]
  simp only [k41_p, k41_c, u138, u033, wp1 h0, fit8 (show list.length ≤ 1000 by omega), fit8 (show (list ++ [x0]).length ≤ 1000 by simp; omega), fit8 (show (list ++ [x0 - 1, x0 - 1]).length ≤ 1000 by simp; omega), e1, e2, Option.isSome_some, Option.getD_some, cond_true, u037, Bool.and_self]
  cases decide (4 < list.length)
  · cases decide (1 < x0)
    · simp
    · simp
  · simp
theorem apart3_3 (list : List Int) (x0 : Int) (x1 : Int) (x2 : Int) (out : LL) (h0 : tOK x0) (h1 : tOK x1) (h2 : tOK x2) (hl : list.length ≤ 70) (ho : out.length ≤ 380) : k42_p list x0 x1 x2 out = some (out ++ apL list [x0, x1, x2]) := by
  have l1 := u121 [x1, x2] (list ++ [x0])
  have l1 : (apL (list ++ [x0]) [x1, x2]).length ≤ 4 := l1
  have e1 := apart2_3 (list ++ [x0]) x1 x2 out h1 h2 (by simp; omega) (by omega)
  have e2 := apart2_3 (list ++ [x0 - 1, x0 - 1]) x1 x2 (out ++ apL (list ++ [x0]) [x1, x2]) h1 h2 (by simp; omega) (by simp only [List.length_append]; omega)
  have ea : apL list [x0, x1, x2] = bif decide (4 < list.length) then [] else apL (list ++ [x0]) [x1, x2] ++ bif decide (1 < x0) then apL (list ++ [x0 - 1, x0 - 1]) [x1, x2] else [] := rfl
  rw [ea]
  simp only [k42_p, k42_c, u138, u033, wp1 h0, fit8 (show list.length ≤ 1000 by omega), fit8 (show (list ++ [x0]).length ≤ 1000 by simp; omega), fit8 (show (list ++ [x0 - 1, x0 - 1]).length ≤ 1000 by simp; omega), e1, e2, Option.isSome_some, Option.getD_some, cond_true, u037, Bool.and_self]
  cases decide (4 < list.length)
  · cases decide (1 < x0)
    · simp
    · simp
  · simp
theorem apart3_1 (x0 : Int) (x1 : Int) (x2 : Int) (h0 : tOK x0) (h1 : tOK x1) (h2 : tOK x2) : k62_p x0 x1 x2 = some (apL [] [x0, x1, x2]) := by
  have l1 := u121 [x1, x2] [x0]
  have l1 : (apL [x0] [x1, x2]).length ≤ 4 := l1
  have e1 := apart2_2 [x0] x1 x2 h1 h2 (by simp)
  have e2 := apart2_3 [x0 - 1, x0 - 1] x1 x2 (apL [x0] [x1, x2]) h1 h2 (by simp) (by omega)
  simp only [k62_p, k62_c, wp1 h0, e1, e2, Option.isSome_some, Option.getD_some, cond_true, u037, Bool.and_self]
  have ea : apL [] ([x0, x1, x2]) = apL [x0] [x1, x2] ++ bif decide (1 < x0) then apL [x0 - 1, x0 - 1] [x1, x2] else [] := rfl
  rw [ea]
  cases decide (1 < x0)
  · simp
  · rfl
theorem apart4_1 (x0 : Int) (x1 : Int) (x2 : Int) (x3 : Int) (h0 : tOK x0) (h1 : tOK x1) (h2 : tOK x2) (h3 : tOK x3) : k63_p x0 x1 x2 x3 = some (apL [] [x0, x1, x2, x3]) := by
  have l1 := u121 [x1, x2, x3] [x0]
  have l1 : (apL [x0] [x1, x2, x3]).length ≤ 8 := l1
  have e1 := apart3_2 [x0] x1 x2 x3 h1 h2 h3 (by simp)
  have e2 := apart3_3 [x0 - 1, x0 - 1] x1 x2 x3 (apL [x0] [x1, x2, x3]) h1 h2 h3 (by simp) (by omega)
  simp only [k63_p, k63_c, wp1 h0, e1, e2, Option.isSome_some, Option.getD_some, cond_true, u037, Bool.and_self]
  have ea : apL [] ([x0, x1, x2, x3]) = apL [x0] [x1, x2, x3] ++ bif decide (1 < x0) then apL [x0 - 1, x0 - 1] [x1, x2, x3] else [] := rfl
  rw [ea]
  cases decide (1 < x0)
  · simp
  · rfl
theorem apart_eq (rest : List Int) (hl : rest.length ≤ 4) (h : ∀ x ∈ rest, tOK x) : k118_p rest = some (apL [] rest) := by
  match rest, hl, h with
  | [], _, _ => rfl
  | [x0], _, h =>
    have e := apart1_1 x0 (h x0 (by simp))
    simp only [k118_p, k118_c, show iget [x0] 0 = x0 from rfl, e, Option.isSome_some, Option.getD_some]; rfl
  | [x0, x1], _, h =>
    have e := apart2_1 x0 x1 (h x0 (by simp)) (h x1 (by simp))
    simp only [k118_p, k118_c, show iget [x0, x1] 0 = x0 from rfl, show iget [x0, x1] 1 = x1 from rfl, e, Option.isSome_some, Option.getD_some]; rfl
  | [x0, x1, x2], _, h =>
    have e := apart3_1 x0 x1 x2 (h x0 (by simp)) (h x1 (by simp)) (h x2 (by simp))
    simp only [k118_p, k118_c, show iget [x0, x1, x2] 0 = x0 from rfl, show iget [x0, x1, x2] 1 = x1 from rfl, show iget [x0, x1, x2] 2 = x2 from rfl, e, Option.isSome_some, Option.getD_some]; rfl
  | [x0, x1, x2, x3], _, h =>
    have e := apart4_1 x0 x1 x2 x3 (h x0 (by simp)) (h x1 (by simp)) (h x2 (by simp)) (h x3 (by simp))
    simp only [k118_p, k118_c, show iget [x0, x1, x2, x3] 0 = x0 from rfl, show iget [x0, x1, x2, x3] 1 = x1 from rfl, show iget [x0, x1, x2, x3] 2 = x2 from rfl, show iget [x0, x1, x2, x3] 3 = x3 from rfl, e, Option.isSome_some, Option.getD_some]; rfl
end Go.Lv.P
namespace Go.Lv.P
open Go Go.Lv
def refF (L : List Int → Bool) (nx : List Int) : Bool × List Int := fnd (fun i => !L (putP nx (rget (plm nx) i))) (fun i => (true, rget (plm nx) i)) (false, default) 0 (plm nx).length
def refM (L : List Int → Bool) (nx : List Int) : List Int × Bool := bif (refF L nx).1 then ((refF L nx).2, true) else ([0, 0, 0], false)
def safeM (L : List Int → Bool) (b : List Int) (d : Nat) : Bool := bif (u070 b d).1 == b then false else !(refM L (u070 b d).1).2
def lastM (L : List Int → Bool) (b : List Int) : Bool := fnd (fun d => safeM L b d) (fun _ => true) false 0 4
def lastN : Nat → List Int → Bool
  | 0 => fun _ => true
  | n + 1 => lastM (lastN n)
end Go.Lv.P
namespace Go.Lv.P
open Go Go.Lv
theorem ex_app : ∀ {p q r e : List Int}, q ∈ exL p → e ∈ exL r → q ++ e ∈ exL (p ++ r)
  | [], q, r, e, h, he => by
    simp only [exL, List.mem_singleton] at h
    subst h; exact he
  | t :: p, q, r, e, h, he => by
    simp only [exL, List.mem_append] at h
    simp only [List.cons_append, exL, List.mem_append]
    rcases h with h | h
    · obtain ⟨q', hq, rfl⟩ := List.mem_map.1 h
      exact .inl (List.mem_map.2 ⟨q' ++ e, ex_app hq he, rfl⟩)
    · cases ht : decide (1 < t) with
      | false => rw [ht] at h; cases h
      | true =>
        rw [ht, cond_true] at h
        obtain ⟨q', hq, rfl⟩ := List.mem_map.1 h
        exact .inr (by rw [cond_true]; exact List.mem_map.2 ⟨q' ++ e, ex_app hq he, rfl⟩)
theorem ex_one (t : Int) : [t] ∈ exL [t] := by simp [exL]
theorem ex_two {t : Int} (h : 1 < t) : [t - 1, t - 1] ∈ exL [t] := by simp [exL, h]
def EI (s : RS) (q : List Int) : Prop := RI s ∧ s.1 ≤ 4 ∧ ((s.1 = 0 ∧ q = []) ∨ ∃ p0 q0 : List Int, ∃ t : Int, s.2.2.2.take s.1 = p0 ++ [t] ∧ q0 ∈ exL p0 ∧ ((s.2.2.1 = false ∧ q = q0 ++ [t]) ∨ (s.2.2.1 = true ∧ 1 < t ∧ q = q0 ++ [t - 1, t - 1])))
theorem EI_ex {s : RS} {q : List Int} (h : EI s q) : q ∈ exL (s.2.2.2.take s.1) := by
  obtain ⟨_, _, h | ⟨p0, q0, t, h1, h2, h3⟩⟩ := h
  · rw [h.1, h.2]; simp [exL]
  · rw [h1]
    rcases h3 with ⟨_, rfl⟩ | ⟨_, ht, rfl⟩
    · exact ex_app h2 (ex_one t)
    · exact ex_app h2 (ex_two ht)
theorem rstep_EI {s : RS} {x : Int} {q : List Int} (hx : inB x 1 17 = true) (h : EI s q) (hs : s.1 < 4) : EI (rstep s x) (q ++ [x]) := by
  have hq := EI_ex h
  obtain ⟨hR, _, hd⟩ := h
  have hR2 := rstep_RI (x := x) hR hs
  have hx1 : 1 ≤ x ∧ x ≤ 17 := by simpa [inB] using hx
  cases hc : decide (0 < s.1) && (iget s.2.2.2 (0 + (s.1 - 1) * 1) == x) && decide (x < 17) && !s.2.2.1 with
  | true =>
    have e : rstep s x = (s.1, IntKind.wrap .i64 (s.2.1 + W (x + 1)), true, iset s.2.2.2 (0 + (s.1 - 1) * 1) (x + 1)) := by unfold rstep; rw [hc]; rfl
    rw [e] at hR2 ⊢
    simp only [Bool.and_eq_true, decide_eq_true_eq, Bool.not_eq_true'] at hc
    obtain ⟨⟨⟨c1, c2⟩, c3⟩, c4⟩ := hc
    rcases hd with hd | ⟨p0, q0, t, h1, h2, h3⟩
    · omega
    · have hlen : p0.length + 1 = s.1 := by
        have := congrArg List.length h1
        rw [List.length_take, hR.1, List.length_append] at this
        simp at this; omega
      have ht : t = x := by
        have : (s.2.2.2.take s.1)[p0.length]? = (p0 ++ [t])[p0.length]? := by rw [h1]
        rw [List.getElem?_take, if_pos (by omega), List.getElem?_append_right (Nat.le_refl _), Nat.sub_self] at this
        have c2 := eq_of_beq c2
        rw [igetL, show 0 + (s.1 - 1) * 1 = p0.length by omega, this] at c2
        exact c2
      rcases h3 with ⟨_, rfl⟩ | ⟨h3, _⟩
      · refine ⟨hR2, by show s.1 ≤ 4; omega, .inr ⟨p0, q0, x + 1, ?_, h2, .inr ⟨rfl, by omega, ?_⟩⟩⟩
        · show (iset s.2.2.2 (0 + (s.1 - 1) * 1) (x + 1)).take s.1 = _
          rw [isetL, show 0 + (s.1 - 1) * 1 = p0.length by omega, List.take_set, h1, List.set_append_right _ _ (Nat.le_refl _), Nat.sub_self]; rfl
        · rw [ht, List.append_assoc, show x + 1 - 1 = x by omega]; rfl
      · rw [h3] at c4; cases c4
  | false =>
    have e : rstep s x = (s.1 + 1, s.2.1, false, iset s.2.2.2 (0 + s.1 * 1) x) := by unfold rstep; rw [hc]; rfl
    rw [e] at hR2 ⊢
    refine ⟨hR2, by show s.1 + 1 ≤ 4; omega, .inr ⟨s.2.2.2.take s.1, q, x, ?_, hq, .inl ⟨rfl, rfl⟩⟩⟩
    show (iset s.2.2.2 (0 + s.1 * 1) x).take (s.1 + 1) = _
    rw [show 0 + s.1 * 1 = s.1 by omega, isetL, List.take_add_one, List.take_set_of_le (Nat.le_refl _), List.getElem?_set_self (by rw [hR.1]; omega)]; rfl
theorem rfold_EI : ∀ (l : List Int) (s : RS) (q : List Int), (∀ x ∈ l, inB x 1 17 = true) → EI s q → s.1 + l.length ≤ 4 → EI (l.foldl rstep s) (q ++ l)
  | [], s, q, _, h, _ => by rw [List.append_nil]; exact h
  | x :: l, s, q, hl, h, hn => by
    simp only [List.length_cons] at hn
    have h1 := rstep_n s x
    have := rfold_EI l (rstep s x) (q ++ [x]) (fun y hy => hl y (List.mem_cons_of_mem _ hy)) (rstep_EI (hl x List.mem_cons_self) h (by omega)) (by omega)
    rw [List.foldl_cons]
    rw [List.append_assoc] at this
    exact this
theorem pre_take : ∀ (l : List Int) (n : Nat), n ≤ l.length → (∀ j, j < n → 0 < iget l j) → (∀ j, n ≤ j → j < l.length → iget l j = 0) → pre l = l.take n
  | [], n, _, _, _ => by simp [pre]
  | x :: l, 0, _, _, h => by
    have hx : x = 0 := h 0 (Nat.le_refl _) (by simp)
    simp [pre, hx]
  | x :: l, n + 1, hn, h1, h2 => by
    have hx : 0 < x := h1 0 (by omega)
    simp only [pre, decide_eq_true hx, cond_true, List.take_succ_cons]
    rw [pre_take l n (by simpa using hn) (fun j hj => h1 (j + 1) (by omega)) fun j a b => h2 (j + 1) (by omega) (by simp; omega)]
section
variable {r : List Int} (hl : r.length = 4) (h : ∀ x ∈ r, u045 x)
include hl h
theorem tl_ex : tl r ∈ exL (pre (slR r)) := by
  have hn : (tl r).length ≤ 4 := by rw [← hl]; exact List.length_filter_le _ _
  have h0 : RI ((0, 0, false, [0, 0, 0, 0]) : RS) := ⟨rfl, fun j _ hj => by
    obtain rfl | rfl | rfl | rfl : j = 0 ∨ j = 1 ∨ j = 2 ∨ j = 3 := by omega
    all_goals rfl⟩
  have he := rfold_EI (tl r) (0, 0, false, [0, 0, 0, 0]) [] (u211 h) ⟨h0, by decide, .inl ⟨rfl, rfl⟩⟩ (by simpa using hn)
  rw [List.nil_append] at he
  obtain ⟨h1, h2, h3⟩ := rfold_nz (tl r) (0, 0, false, [0, 0, 0, 0]) (u211 h) h0 (by simpa using hn) (fun j hj => by simp at hj)
  have hx := EI_ex he
  have hso := (u122 h).2
  have hp : pre (slR r) = (slR r).take ((tl r).foldl rstep (0, 0, false, [0, 0, 0, 0])).1 := by
    refine pre_take _ _ ?_ (fun j hj => ?_) fun j a b => ?_
    · have : (slR r).length = 4 := (u122 h).1
      rw [this]; exact he.2.1
    · have hne := h3 j hj
      have hlen : (slR r).length = 4 := (u122 h).1
      have hin := hso (iget (slR r) j) (by rw [igetL, List.getElem?_eq_getElem (show j < (slR r).length by have := he.2.1; omega)]; exact List.getElem_mem _)
      simp [u045, inB] at hin
      have hne : iget (slR r) j ≠ 0 := hne
      omega
    · have hlen : (slR r).length = 4 := (u122 h).1
      exact h2.2 j a (by omega)
  rw [hp]; exact hx
theorem in_spread : r ∈ u053 (tl r) := by
  obtain ⟨a, b, c, d, rfl⟩ := list4 hl
  have key : ∀ (l : List Int) (n : Nat), n < 16 → (sp1 l n).1 = l.length → (sp1 l n).2 ∈ u053 l := fun l n hn he => by
    unfold u053
    exact List.mem_map.2 ⟨n, List.mem_filter.2 ⟨List.mem_range.2 hn, beq_iff_eq.2 he⟩, rfl⟩
  have f : ∀ (x : Int) (l : List Int), (x :: l).filter (fun x => !(x == 0)) = if x = 0 then l.filter (fun x => !(x == 0)) else x :: l.filter (fun x => !(x == 0)) := fun x l => by
    rw [List.filter_cons]
    by_cases hx : x = 0
    · simp [hx]
    · have : (x == 0) = false := beq_eq_false_iff_ne.2 hx
      simp [this, hx]
  have f0 : ([] : List Int).filter (fun x => !(x == 0)) = [] := rfl
  unfold tl
  rw [f, f, f, f, f0]
  clear h hl
  by_cases ha : a = 0 <;> by_cases hb : b = 0 <;> by_cases hc : c = 0 <;> by_cases hd : d = 0 <;> simp only [ha, hb, hc, hd, if_true, if_false]
  · exact key [] 0 (by decide) rfl
  · exact key [d] 8 (by decide) rfl
  · exact key [c] 4 (by decide) rfl
  · exact key [c, d] 12 (by decide) rfl
  · exact key [b] 2 (by decide) rfl
  · exact key [b, d] 10 (by decide) rfl
  · exact key [b, c] 6 (by decide) rfl
  · exact key [b, c, d] 14 (by decide) rfl
  · exact key [a] 1 (by decide) rfl
  · exact key [a, d] 9 (by decide) rfl
  · exact key [a, c] 5 (by decide) rfl
  · exact key [a, c, d] 13 (by decide) rfl
  · exact key [a, b] 3 (by decide) rfl
  · exact key [a, b, d] 11 (by decide) rfl
  · exact key [a, b, c] 7 (by decide) rfl
  · exact key [a, b, c, d] 15 (by decide) rfl
theorem rb_all : r ∈ rbL (slR r) := by
  have hr : (slR r).length = 4 ∧ ∀ x ∈ slR r, u045 x := u122 h
  unfold rbL
  rw [(insAll_ok (m := 4) fun x hx => (hits_ok hr.1 hr.2 (code_nz hr.1 hr.2) x hx).1).2.1]
  unfold u139
  rw [List.mem_flatMap]
  refine ⟨tl r, (code_mem hr.1 hr.2 _).2 ⟨by rw [← hl]; exact List.length_filter_le _ _, tl_ex hl h⟩, List.mem_filter.2 ⟨in_spread hl h, beq_self_eq_true _⟩⟩
end
end Go.Lv.P
