/-
Regions that are drawn, sound.
-/
import Derived.Test.YtdcimcciokgdaaaLvS
namespace Go.Lv
set_option linter.unusedVariables false
set_option linter.unusedSimpArgs false
set_option linter.unusedSectionVars false
variable [fr : Fr]

section
variable {tt : TT} {tab : Tab} {ops : Array Oper} {n0 : Nat}

theorem vis_kind {dx : DI} {y : Item} (B : Beside dx y.2) {σ : St} {m : Mem} {v : V} {m' : Mem} (K : Kind tt tab ops n0 y σ m v m') : visM dx n0 m' = visM dx n0 m := by
  unfold visM
  rcases K with ⟨rfl, _⟩ | ⟨hc, b, _, rfl, _, _, _, _⟩ | ⟨hc, hn, blks, rfl, _⟩ | hc
  · rfl
  · split
    · exact mask_mset (B.two hc)
    · exact mask_take_mset (B.two hc)
    · rfl
  · split
    · rename_i h; exact absurd h (B.three hc)
    · rw [List.take_append_of_le_length hn]
    · rfl
  · obtain ⟨h0, h1⟩ := B.four hc
    split
    · rename_i h; exact absurd h h0
    · rename_i h; exact absurd h h1
    · rfl

theorem swapM {x y : Item} (Bxy : Beside x.2 y.2) (Byx : Beside y.2 x.2) (hok : okCls x.2.cls y.2.cls = true) {σ : St} {m0 mx my : Mem} {vx vy : V}
    (hx : stM tt tab ops n0 x σ m0 = some (vx, mx, [])) (hy : stM tt tab ops n0 y σ mx = some (vy, my, [])) (Kx : Kind tt tab ops n0 x σ m0 vx mx) (Ky : Kind tt tab ops n0 y σ mx vy my) :
    ∃ m', stM tt tab ops n0 y σ m0 = some (vy, m', []) ∧ stM tt tab ops n0 x σ m' = some (vx, my, []) := by
  have okc : (2 ≤ x.2.cls ∧ 2 ≤ y.2.cls) → (x.2.cls = 2 ∧ y.2.cls ≤ 3) ∨ (y.2.cls = 2 ∧ x.2.cls ≤ 3) := by
    intro ⟨h1, h2⟩
    simp only [okCls, Bool.or_eq_true, Bool.and_eq_true, Nat.ble_eq, Nat.beq_eq] at hok
    omega
  rcases Kx with ⟨rfl, hxs⟩ | Kx
  · exact ⟨my, hy, hxs my (vis_kind Bxy Ky)⟩
  have hvx : visM y.2 n0 mx = visM y.2 n0 m0 := vis_kind Byx (.inr Kx)
  rcases Ky with ⟨rfl, hys⟩ | Ky
  · exact ⟨m0, hys m0 hvx.symm, hx⟩
  rcases Kx with ⟨hc, b, hbl, rfl, hd, hl, hsn, hxs⟩ | ⟨hc, hn, blks, rfl, hxs⟩ | hc
  · rcases Ky with ⟨hc2, c, hcl, rfl, hd2, hl2, hsn2, hys⟩ | ⟨hc2, hn2, blks, rfl, hys⟩ | hc2
    · have hne : x.2.slot ≠ y.2.slot := fun e => by
        rw [← e, mset_get, if_pos ⟨rfl, hl⟩] at hd2
        rw [hd2] at hbl; cases hbl
      have hd3 : mget m0 y.2.slot = .dead := by
        rw [mset_get, if_neg (fun e => hne e.1.symm)] at hd2; exact hd2
      rw [mset_length] at hl2
      refine ⟨_, hys m0 hd3 hl2, ?_⟩
      rw [mset_comm hne]
      exact hxs _ (by rw [mset_get, if_neg (fun e => hne e.1)]; exact hd) (by rw [mset_length]; exact hl)
    · refine ⟨_, hys m0 (mask_mset (Byx.two hc)).symm (by rw [mset_length]), ?_⟩
      rw [← mset_app hl]
      exact hxs _ (by rw [mget_app, if_pos hl]; exact hd) (by rw [List.length_append]; omega)
    · rcases okc ⟨by omega, by omega⟩ with h | h <;> omega
  · rcases Ky with ⟨hc2, c, hcl, rfl, hd2, hl2, hsn2, hys⟩ | ⟨hc2, hn2, blks, rfl, hys⟩ | hc2
    · have hlt : y.2.slot < m0.length := Nat.lt_of_lt_of_le hsn2 hn
      rw [mget_app, if_pos hlt] at hd2
      refine ⟨_, hys m0 hd2 hlt, ?_⟩
      rw [mset_app hlt]
      exact hxs _ (mask_mset (Bxy.two hc2)) (by rw [mset_length])
    · rcases okc ⟨by omega, by omega⟩ with h | h <;> omega
    · rcases okc ⟨by omega, by omega⟩ with h | h <;> omega
  · rcases Ky with ⟨hc2, _⟩ | ⟨hc2, _⟩ | hc2 <;> rcases okc ⟨by omega, by omega⟩ with h | h <;> omega

/-- may x, that stands ahead of y in the text, come behind y -/
structure Pair (tab : Tab) (ops : Array Oper) (x y : Item) : Prop where
  apart : x.1.apart ops y.1 = true
  xy : Beside x.2 y.2
  yx : Beside y.2 x.2
  ok : okCls x.2.cls y.2.cls = true
  cx : x.2.cls = cls tab x.1
  cy : y.2.cls = cls tab y.1

theorem swap {x y : Item} (hp : Pair tab ops x y) {σ : St} {rx ry : Res} (hx : stO tt tab ops n0 x σ = some rx) (hy : stO tt tab ops n0 y (nxt x σ rx) = some ry) :
    ∃ ry' rx', stO tt tab ops n0 y σ = some ry' ∧ stO tt tab ops n0 x (nxt y σ ry') = some rx' ∧ nxt x (nxt y σ ry') rx' = nxt y (nxt x σ rx) ry := by
  obtain ⟨vx, mx, kx⟩ := rx
  obtain ⟨vy, my, ky⟩ := ry
  obtain ⟨a1, a2, a3⟩ := Oper.apart_spec hp.apart
  have hx' : stM tt tab ops n0 x σ σ.mem = some (vx, mx, kx) := hx
  obtain ⟨rfl, Kx⟩ := kind hp.cx hp.xy.iso hx'
  have hA : Agree ops y.1 (nxt x σ (vx, mx, [])) { σ with mem := mx } := agree_nxt (y := y) a1 σ vx mx
  have hy' : stM tt tab ops n0 y σ mx = some (vy, my, ky) := by
    unfold stM
    rw [← stO_agree hA (nxt_mem _ _ _)]
    exact hy
  obtain ⟨rfl, Ky⟩ := kind hp.cy hp.yx.iso hy'
  obtain ⟨m', h1, h2⟩ := swapM hp.xy hp.yx hp.ok hx' hy' Kx Ky
  refine ⟨(vy, m', []), (vx, my, []), h1, ?_, ?_⟩
  · have hB : Agree ops x.1 (nxt y σ (vy, m', [])) { σ with mem := m' } := agree_nxt (y := x) a3 σ vy m'
    rw [stO_agree hB (nxt_mem _ _ _)]
    exact h2
  · exact (nxt_comm a2 σ vx vy mx m' my).symm

theorem bubble {i : Item} {post : List Item} : ∀ {pre : List Item} {σ σf : St}, (∀ p ∈ pre, Pair tab ops p i) → runD tt tab ops n0 (pre ++ i :: post) σ = some σf → runD tt tab ops n0 (i :: (pre ++ post)) σ = some σf := by
  intro pre
  induction pre with
  | nil => intro σ σf _ h; exact h
  | cons p pre ih =>
    intro σ σf hp h
    rw [List.cons_append, runD] at h
    obtain ⟨rp, h1, h2⟩ := Option.bind_eq_some_iff.1 h
    have h3 := ih (fun q hq => hp q (by simp [hq])) h2
    rw [runD] at h3
    obtain ⟨ri, h4, h5⟩ := Option.bind_eq_some_iff.1 h3
    obtain ⟨ri', rp', g1, g2, g3⟩ := swap (hp p (by simp)) h1 h4
    rw [runD, g1, Option.bind_some, List.cons_append, runD, g2, Option.bind_some, g3]
    exact h5

/-! ### those that remain -/
def remL (listed : Array Bool) : Nat → List Item → List Item
  | _, [] => []
  | s, x :: l => bif listed.getD s true then remL listed (s + 1) l else x :: remL listed (s + 1) l

theorem remL_set (listed : Array Bool) (i : Nat) : ∀ (l : List Item) (s : Nat), i < s → remL (listed.setIfInBounds i true) s l = remL listed s l
  | [], s, _ => rfl
  | x :: l, s, h => by
    simp only [remL]
    rw [getD_set_ne true (by omega), remL_set listed i l (s + 1) (by omega)]

theorem remL_split (listed : Array Bool) : ∀ (l : List Item) (s i : Nat) (x : Item), l[i]? = some x → listed.getD (s + i) true = false →
    ∃ pre post, remL listed s l = pre ++ x :: post ∧ remL (listed.setIfInBounds (s + i) true) s l = pre ++ post ∧ ∀ p ∈ pre, ∃ j, j < i ∧ l[j]? = some p ∧ listed.getD (s + j) true = false
  | [], s, i, x, h, _ => by simp at h
  | y :: l, s, 0, x, h, hl => by
    simp only [List.getElem?_cons_zero, Option.some.injEq] at h
    subst h
    refine ⟨[], remL listed (s + 1) l, ?_, ?_, fun p hp => by cases hp⟩
    · simp only [remL, Nat.add_zero] at hl ⊢
      rw [hl]; rfl
    · have hlt : s < listed.size := by
        rcases Nat.lt_or_ge s listed.size with h' | h'
        · exact h'
        · simp [Array.getElem?_eq_none h'] at hl
      simp only [remL, Nat.add_zero, List.nil_append]
      rw [show (listed.setIfInBounds s true).getD s true = true by simp [hlt], remL_set _ _ _ _ (by omega)]
      rfl
  | y :: l, s, i + 1, x, h, hl => by
    obtain ⟨pre, post, h1, h2, h3⟩ := remL_split listed l (s + 1) i x (by simpa using h) (by rw [show s + 1 + i = s + (i + 1) by omega]; exact hl)
    rw [show s + 1 + i = s + (i + 1) by omega] at h2
    simp only [remL]
    rw [getD_set_ne true (by omega : s + (i + 1) ≠ s), h1, h2]
    cases hy : listed.getD s true with
    | true =>
      exact ⟨pre, post, rfl, rfl, fun p hp => by
        obtain ⟨j, hj, h4, h5⟩ := h3 p hp
        exact ⟨j + 1, by omega, by simpa using h4, by rw [show s + (j + 1) = s + 1 + j by omega]; exact h5⟩⟩
    | false =>
      refine ⟨y :: pre, post, rfl, rfl, fun p hp => ?_⟩
      cases hp with
      | head => exact ⟨0, by omega, rfl, hy⟩
      | tail _ hp =>
        obtain ⟨j, hj, h4, h5⟩ := h3 p hp
        exact ⟨j + 1, by omega, by simpa using h4, by rw [show s + (j + 1) = s + 1 + j by omega]; exact h5⟩

theorem remL_nil {listed : Array Bool} : ∀ {l : List Item} {s : Nat}, (∀ i, i < l.length → listed.getD (s + i) true = true) → remL listed s l = []
  | [], s, _ => rfl
  | x :: l, s, h => by
    simp only [remL]
    rw [show listed.getD s true = true from h 0 (by simp)]
    exact remL_nil fun i hi => by rw [show s + 1 + i = s + (i + 1) by omega]; exact h (i + 1) (by simpa using hi)

end
end Go.Lv
