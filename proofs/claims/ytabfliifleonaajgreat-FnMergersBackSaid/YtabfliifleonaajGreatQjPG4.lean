/-
Plain facts of the pure functions, part 4; without conditions.
-/
import Derived.Test.YtabfliifleonaajGreatQjPG2
import Derived.Test.YtabfliifleonaajGreatQjPG3
import Derived.Test.YtabfliifleonaajGreatQjPG1
set_option linter.unusedVariables false
set_option linter.unusedSimpArgs false
set_option linter.unusedSectionVars false
namespace Go.Lv.P
open Go Go.Lv
/-! ### rows without mergers are pushed together -/
def nzf (row : List Int) : List Int := row.filter fun x => !(x == 0)
def packR (row : List Int) : List Int := nzf row ++ List.replicate (4 - (nzf row).length) 0
theorem zeros_of : ∀ (l : List Int) (n : Nat), l.length = n → (∀ j, j < n → iget l j = 0) → l = List.replicate n 0
  | [], n, h, _ => by subst h; rfl
  | x :: l, n, h, h0 => by
    subst h
    have e : x = 0 := h0 0 (by simp)
    rw [List.length_cons, List.replicate_succ, e, ← zeros_of l l.length rfl fun j hj => h0 (j + 1) (by simp; omega)]
theorem iget_drop (l : List Int) (n j : Nat) : iget (l.drop n) j = iget l (n + j) := by
  rw [igetL, igetL, List.getElem?_drop]
theorem fold_pack : ∀ (l : List Int) (s : RS), RI s → s.1 + l.length ≤ 4 → mgs s l = [] → (l.foldl rstep s).2.2.2 = s.2.2.2.take s.1 ++ (l ++ List.replicate (4 - (s.1 + l.length)) 0)
  | [], s, h, hl, _ => by
    have e := zeros_of (s.2.2.2.drop s.1) (4 - s.1) (by rw [List.length_drop, h.1]) fun j hj => by rw [iget_drop]; exact h.2 _ (by omega) (by omega)
    rw [List.foldl_nil, List.nil_append, List.length_nil, Nat.add_zero, ← e, List.take_append_drop]
  | x :: l, s, h, hl, hm => by
    simp only [List.length_cons] at hl
    have hr : rhit s x = false := by
      cases hh : rhit s x with
      | false => rfl
      | true => simp only [mgs, hh, cond_true] at hm; cases hm
    simp only [mgs, hr, cond_false] at hm
    have e : rstep s x = (s.1 + 1, s.2.1, false, iset s.2.2.2 (0 + s.1 * 1) x) := by
      unfold rhit at hr
      unfold rstep
      rw [hr]; rfl
    have h1 := rstep_RI (x := x) h (by omega)
    rw [List.foldl_cons]
    rw [e] at h1 hm ⊢
    rw [fold_pack l _ h1 (by show s.1 + 1 + l.length ≤ 4; omega) hm]
    show (iset s.2.2.2 (0 + s.1 * 1) x).take (s.1 + 1) ++ (l ++ List.replicate (4 - (s.1 + 1 + l.length)) 0) = _
    rw [show 0 + s.1 * 1 = s.1 by omega, isetL, List.take_add_one, List.take_set_of_le (Nat.le_refl _), List.getElem?_set_self (by rw [h.1]; omega), List.length_cons, show s.1 + (l.length + 1) = s.1 + 1 + l.length by omega, List.append_assoc]
    rfl
theorem row_pack {row : List Int} (hl : row.length = 4) (h : rowM row = []) : (rslide row).2.2.2 = packR row := by
  have hn : (row.filter fun x => !(x == 0)).length ≤ 4 := by rw [← hl]; exact List.length_filter_le _ _
  have := fold_pack (row.filter fun x => !(x == 0)) (0, 0, false, [0, 0, 0, 0]) ⟨rfl, fun j _ hj => by
    obtain rfl | rfl | rfl | rfl : j = 0 ∨ j = 1 ∨ j = 2 ∨ j = 3 := by omega
    all_goals rfl⟩ (by simpa using hn) h
  simp only [List.take_zero, List.nil_append, Nat.zero_add] at this
  exact this
def packB (b : List Int) (d : Nat) : List Int := putB (putB (putB (putB b d 0 (packR (lineB b d 0))) d 1 (packR (lineB b d 1))) d 2 (packR (lineB b d 2))) d 3 (packR (lineB b d 3))
/-! ### other names for the tiles -/
def Nam (f : Int → Int) : Prop := ∀ x, f x = 0 ↔ x = 0
def packW (w : List Nat) (b : List Int) : List Int := w.foldl packB b
/-! ### places come back -/
def itr (g : Nat → Nat) : Nat → Nat → Nat
  | 0, x => x
  | k + 1, x => itr g k (g x)
section
variable {g : Nat → Nat} {S : Nat → Prop} (hS : ∀ x, S x → S (g x)) (hlt : ∀ x, S x → x < 16) (hinj : ∀ x y, S x → S y → g x = g y → x = y)
include hS
include hinj
include hlt
end
/-! ### boards come back -/
def lab (b : List Int) : List Int := (List.range 16).map fun i => if iget b i = 0 then 0 else ((i + 1 : Nat) : Int)
def nam (b : List Int) (x : Int) : Int := if x = 0 then 0 else if iget b (x.toNat - 1) = 0 then 1 else iget b (x.toNat - 1)
def SameP (a b : List Int) : Prop := ∀ i, i < 16 → (iget a i = 0 ↔ iget b i = 0)
end Go.Lv.P
namespace Go.Lv.P
open Go Go.Lv
set_option maxRecDepth 100000
end Go.Lv.P
namespace Go.Lv.P
open Go Go.Lv
def lvl (d i : Nat) (rows : LL) (out : LL) : LL := out.flatMap fun o => rows.flatMap fun r => [putB o d i r]
abbrev zeroB : List Int := [0, 0, 0, 0, 0, 0, 0, 0, 0, 0, 0, 0, 0, 0, 0, 0]
def fullB (d : Nat) (r0 r1 r2 r3 : List Int) : List Int := putB (putB (putB (putB zeroB d 0 r0) d 1 r1) d 2 r2) d 3 r3
def allB (d : Nat) (a b c e : LL) : LL := a.flatMap fun r0 => b.flatMap fun r1 => c.flatMap fun r2 => e.flatMap fun r3 => [fullB d r0 r1 r2 r3]
attribute [local irreducible] fullB putB
end Go.Lv.P
namespace Go.Lv.P
open Go Go.Lv
def Gd (b : List Int) : Prop := b.length = 16 ∧ okB b = true
def stp (w : List Nat) (b : List Int) : List Int := w.foldl (fun b d => (slideB b d).1) b
def rn (w : List Nat) (b : List Int) (k : Nat) : List Int := Nat.repeat (stp w) k b
def encN (b : List Int) : Nat → Nat
  | 0 => 0
  | n + 1 => 2 * encN b n + (if iget b n = 0 then 0 else 1)
def wT (w : List Nat) : Nat → List Nat
  | 0 => []
  | T + 1 => wT w T ++ w
section
variable {w : List Nat} (hw : ∀ d ∈ w, d < 4) {b : List Int} (g : Gd b)
include hw g
end
end Go.Lv.P
namespace Go.Lv.P
open Go Go.Lv
def ends (s : RS) : Prop := ∀ j, s.1 ≤ j → iget s.2.2.2 j = 0
section
variable {b : List Int} (hb : b.length = 16) (ok : okB b = true)
include hb ok
end
end Go.Lv.P
namespace Go.Lv.P
open Go Go.Lv
def movesB (b : List Int) : List Int := fld (fun d out => bif (!((slideB b d).1 == b)) then out ++ [(d : Int)] else out) 0 4 []
end Go.Lv.P
namespace Go.Lv.P
open Go Go.Lv
def putP (b p : List Int) : List Int := iset b (0 + (iget p 0).toNat * 4 + (iget p 1).toNat * 1) (iget p 2)
end Go.Lv.P
