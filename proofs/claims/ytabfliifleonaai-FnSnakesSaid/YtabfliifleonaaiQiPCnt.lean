/-
How often tiles are on a board.
-/
import Derived.Test.YtabfliifleonaaiQiPKeep
namespace Go.Lv.P
open Go Go.Lv
set_option linter.unusedVariables false
set_option linter.unusedSimpArgs false
set_option linter.unusedSectionVars false

/-- the number of tiles -/
def isT (x : Int) : Int := if x = 0 then 0 else 1
/-- how often a tile is in a list -/
def isN (t x : Int) : Int := if x = t then 1 else 0
def bump (out : List Int) (x : Int) : List Int := iset out (0 + x.toNat * 1) (IntKind.wrap .i64 (iget out (0 + x.toNat * 1) + 1))
theorem bump_get {out : List Int} (hl : out.length = 18) {x : Int} (hx : inB x 0 17 = true) (h0 : 0 ≤ iget out x.toNat ∧ iget out x.toNat ≤ 1000000) (t : Nat) (ht : t < 18) : iget (bump out x) t = iget out t + isN (t : Int) x := by
  simp [inB] at hx
  unfold bump isN
  rw [iget_iset _ _ _ _ (by omega), wrap_of (by simp only [Nat.mul_one, Nat.zero_add]; omega) (by simp only [Nat.mul_one, Nat.zero_add]; omega)]
  simp only [Nat.mul_one, Nat.zero_add]
  by_cases h : x.toNat = t
  · have h' : x = (t : Int) := by omega
    rw [if_pos h, if_pos h', h]
  · have h' : ¬ x = (t : Int) := by omega
    rw [if_neg h, if_neg h']; omega
theorem bumps_get : ∀ (l : List Int) (out : List Int), out.length = 18 → (∀ x ∈ l, inB x 0 17 = true) → l.length ≤ 1000 → (∀ t, t < 18 → 0 ≤ iget out t ∧ iget out t + l.length ≤ 100000) → ∀ t : Nat, t < 18 → iget (l.foldl bump out) t = iget out t + fs (isN (t : Int)) l
  | [], out, _, _, _, _, t, _ => by simp [fs]
  | x :: l, out, hl, hx, hn, hb, t, ht => by
    have hx0 := hx x List.mem_cons_self
    have hx1 : 0 ≤ x ∧ x ≤ 17 := by simpa [inB] using hx0
    simp only [List.length_cons] at hn hb
    have g := fun t (ht : t < 18) => bump_get hl hx0 (by have := hb x.toNat (by omega); omega) t ht
    have hlen : (bump out x).length = 18 := by unfold bump; rw [isetL, List.length_set, hl]
    have nn : ∀ t : Nat, 0 ≤ isN (t : Int) x ∧ isN (t : Int) x ≤ 1 := fun t => by unfold isN; split <;> omega
    rw [List.foldl_cons, bumps_get l (bump out x) hlen (fun y hy => hx y (List.mem_cons_of_mem _ hy)) (by omega) (fun t ht => by have := g t ht; have := hb t ht; have := nn t; omega) t ht, g t ht, fs]
    omega
abbrev zero18 : List Int := [0, 0, 0, 0, 0, 0, 0, 0, 0, 0, 0, 0, 0, 0, 0, 0, 0, 0]
theorem count_get {b : List Int} (hb : b.length = 16) (ok : ∀ x ∈ b, inB x 0 17 = true) (t : Nat) (ht : t < 18) : iget (b.foldl bump zero18) t = fs (isN (t : Int)) b := by
  have z : ∀ t, t < 18 → iget zero18 t = 0 := fun t ht => by
    obtain rfl | rfl | rfl | rfl | rfl | rfl | rfl | rfl | rfl | rfl | rfl | rfl | rfl | rfl | rfl | rfl | rfl | rfl : t = 0 ∨ t = 1 ∨ t = 2 ∨ t = 3 ∨ t = 4 ∨ t = 5 ∨ t = 6 ∨ t = 7 ∨ t = 8 ∨ t = 9 ∨ t = 10 ∨ t = 11 ∨ t = 12 ∨ t = 13 ∨ t = 14 ∨ t = 15 ∨ t = 16 ∨ t = 17 := by omega
    all_goals rfl
  rw [bumps_get b zero18 rfl ok (by omega) (fun t ht => by rw [z t ht]; omega) t ht, z t ht]; omega
theorem fs_nonneg {f : Int → Int} (h : ∀ x, 0 ≤ f x) : ∀ l : List Int, 0 ≤ fs f l
  | [] => Int.le_refl _
  | x :: l => by have := fs_nonneg h l; have := h x; simp only [fs]; omega
theorem isN_nn (t x : Int) : 0 ≤ isN t x := by unfold isN; split <;> omega
theorem fs_mem {t : Int} : ∀ {l : List Int} {p : Nat}, p < l.length → iget l p = t → 1 ≤ fs (isN t) l
  | [], p, h, _ => by simp at h
  | x :: l, 0, _, e => by
    have e : x = t := e
    have := fs_nonneg (isN_nn t) l
    simp only [fs, isN, e, if_true]; omega
  | x :: l, p + 1, h, e => by
    have := fs_mem (t := t) (l := l) (p := p) (by simpa using h) e
    have := isN_nn t x
    simp only [fs]; omega
theorem fs_two {t : Int} : ∀ {l : List Int} {p q : Nat}, p < q → q < l.length → iget l p = t → iget l q = t → 2 ≤ fs (isN t) l
  | [], p, q, _, h, _, _ => by simp at h
  | x :: l, 0, q + 1, _, h, e1, e2 => by
    have e1 : x = t := e1
    have := fs_mem (t := t) (l := l) (p := q) (by simpa using h) e2
    simp only [fs, isN, e1, if_true]; omega
  | x :: l, p + 1, q + 1, hpq, h, e1, e2 => by
    have := fs_two (t := t) (l := l) (p := p) (q := q) (by omega) (by simpa using h) e1 e2
    have := isN_nn t x
    simp only [fs]; omega
/-- no tile is there twice -/
def Dis (b : List Int) : Prop := ∀ p q : Nat, p < 16 → q < 16 → p ≠ q → iget b p = iget b q → iget b p = 0
theorem dis_of {b : List Int} (hb : b.length = 16) (ok : ∀ x ∈ b, inB x 0 17 = true) (h : ∀ t : Nat, 1 ≤ t → t ≤ 17 → fs (isN (t : Int)) b ≤ 1) : Dis b := by
  intro p q hp hq hpq e
  have hin : inB (iget b p) 0 17 = true := by
    rw [igetL, List.getElem?_eq_getElem (by omega)]; exact ok _ (List.getElem_mem _)
  simp [inB] at hin
  obtain ⟨t, ht⟩ := Int.eq_ofNat_of_zero_le hin.1
  by_cases h0 : t = 0
  · rw [ht, h0]; rfl
  · have := h t (by omega) (by omega)
    rcases Nat.lt_or_gt_of_ne hpq with h1 | h1
    · have := fs_two h1 (by omega) ht (by rw [← e, ht]); omega
    · have := fs_two h1 (by omega) (by rw [← e, ht]) ht; omega
end Go.Lv.P
