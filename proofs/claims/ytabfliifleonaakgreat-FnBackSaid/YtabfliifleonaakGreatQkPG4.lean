/-
Plain facts of the pure functions, part 4; without conditions.
-/
import Derived.Test.YtabfliifleonaakGreatQkPG2
import Derived.Test.YtabfliifleonaakGreatQkPG3
import Derived.Test.YtabfliifleonaakGreatQkPG1
set_option linter.unusedVariables false
set_option linter.unusedSimpArgs false
set_option linter.unusedSectionVars false
namespace Go.Lv.P
open Go Go.Lv
def nzf (row : List Int) : List Int := row.filter fun x => !(x == 0)
def packR (row : List Int) : List Int := nzf row ++ List.replicate (4 - (nzf row).length) 0
def packB (b : List Int) (d : Nat) : List Int := putB (putB (putB (putB b d 0 (packR (lineB b d 0))) d 1 (packR (lineB b d 1))) d 2 (packR (lineB b d 2))) d 3 (packR (lineB b d 3))
def Nam (f : Int → Int) : Prop := ∀ x, f x = 0 ↔ x = 0
def packW (w : List Nat) (b : List Int) : List Int := w.foldl packB b
def itr (g : Nat → Nat) : Nat → Nat → Nat
  | 0, x => x
  | k + 1, x => itr g k (g x)
section
variable {g : Nat → Nat} {S : Nat → Prop} (hS : ∀ x, S x → S (g x)) (hlt : ∀ x, S x → x < 16) (hinj : ∀ x y, S x → S y → g x = g y → x = y)
include hS
include hinj
include hlt
end
def lab (b : List Int) : List Int := (List.range 16).map fun i => if iget b i = 0 then 0 else ((i + 1 : Nat) : Int)
def nam (b : List Int) (x : Int) : Int := if x = 0 then 0 else if iget b (x.toNat - 1) = 0 then 1 else iget b (x.toNat - 1)
def SameP (a b : List Int) : Prop := ∀ i, i < 16 → (iget a i = 0 ↔ iget b i = 0)
end Go.Lv.P
namespace Go.Lv.P
open Go Go.Lv
set_option maxRecDepth 100000
end Go.Lv.P
namespace Go.Lv.P
open Go Go.Lv
def lvl (d i : Nat) (rows : LL) (out : LL) : LL := out.flatMap fun o => rows.flatMap fun r => [putB o d i r]
abbrev zeroB : List Int := [0, 0, 0, 0, 0, 0, 0, 0, 0, 0, 0, 0, 0, 0, 0, 0]
def fullB (d : Nat) (r0 r1 r2 r3 : List Int) : List Int := putB (putB (putB (putB zeroB d 0 r0) d 1 r1) d 2 r2) d 3 r3
def allB (d : Nat) (a b c e : LL) : LL := a.flatMap fun r0 => b.flatMap fun r1 => c.flatMap fun r2 => e.flatMap fun r3 => [fullB d r0 r1 r2 r3]
theorem full_base {o : List Int} (ho : o.length = 16) {d : Nat} (hd : d < 4) (r0 r1 r2 r3 : List Int) : putB (putB (putB (putB o d 0 r0) d 1 r1) d 2 r2) d 3 r3 = fullB d r0 r1 r2 r3 := by
  obtain ⟨x0, x1, x2, x3, x4, x5, x6, x7, x8, x9, xa, xb, xc, xd, xe, xf, rfl⟩ := list16 ho
  obtain rfl | rfl | rfl | rfl : d = 0 ∨ d = 1 ∨ d = 2 ∨ d = 3 := by omega
  all_goals kernel_rfl
theorem lvl_all {o : List Int} (ho : o.length = 16) {d : Nat} (hd : d < 4) (a b c e : LL) : lvl d 3 e (lvl d 2 c (lvl d 1 b (lvl d 0 a [o]))) = allB d a b c e := by
  simp only [lvl, List.flatMap_cons, List.flatMap_nil, List.append_nil, List.flatMap_assoc, allB, full_base ho hd]
theorem full_len (d : Nat) (r0 r1 r2 r3 : List Int) : (fullB d r0 r1 r2 r3).length = 16 := by
  simp only [fullB, putB, u104]; rfl
theorem all_len16 (d : Nat) (a b c e : LL) : ∀ x ∈ allB d a b c e, x.length = 16 := fun x hx => by
  simp only [allB, List.mem_flatMap, List.mem_singleton] at hx
  obtain ⟨r0, _, r1, _, r2, _, r3, _, rfl⟩ := hx
  exact full_len _ _ _ _ _
theorem full_inj {d : Nat} (hd : d < 4) {r0 r1 r2 r3 s0 s1 s2 s3 : List Int} (h0 : r0.length = 4) (h1 : r1.length = 4) (h2 : r2.length = 4) (h3 : r3.length = 4) (k0 : s0.length = 4) (k1 : s1.length = 4) (k2 : s2.length = 4) (k3 : s3.length = 4)
    (h : fullB d r0 r1 r2 r3 = fullB d s0 s1 s2 s3) : r0 = s0 ∧ r1 = s1 ∧ r2 = s2 ∧ r3 = s3 := by
  have key : ∀ {r0 r1 r2 r3 : List Int}, r0.length = 4 → r1.length = 4 → r2.length = 4 → r3.length = 4 → lineB (fullB d r0 r1 r2 r3) d 0 = r0 ∧ lineB (fullB d r0 r1 r2 r3) d 1 = r1 ∧ lineB (fullB d r0 r1 r2 r3) d 2 = r2 ∧ lineB (fullB d r0 r1 r2 r3) d 3 = r3 := fun h0 h1 h2 h3 => by
    obtain ⟨a0, a1, a2, a3, rfl⟩ := list4 h0
    obtain ⟨b0, b1, b2, b3, rfl⟩ := list4 h1
    obtain ⟨c0, c1, c2, c3, rfl⟩ := list4 h2
    obtain ⟨d0, d1, d2, d3, rfl⟩ := list4 h3
    obtain rfl | rfl | rfl | rfl : d = 0 ∨ d = 1 ∨ d = 2 ∨ d = 3 := by omega
    all_goals exact ⟨by kernel_rfl, by kernel_rfl, by kernel_rfl, by kernel_rfl⟩
  obtain ⟨e0, e1, e2, e3⟩ := key h0 h1 h2 h3
  obtain ⟨f0, f1, f2, f3⟩ := key k0 k1 k2 k3
  rw [h] at e0 e1 e2 e3
  exact ⟨e0.symm.trans f0, e1.symm.trans f1, e2.symm.trans f2, e3.symm.trans f3⟩
theorem asc_nodup : ∀ {l : LL}, Asc l → l.Nodup
  | [], _ => List.nodup_nil
  | a :: r, ⟨h1, h2⟩ => List.nodup_cons.2 ⟨fun h => (by have := h1 a h; rw [u200] at this; cases this), asc_nodup h2⟩
attribute [local irreducible] fullB putB
theorem all_nodup {d : Nat} (hd : d < 4) {a b c e : LL} (ha : a.Nodup) (hb : b.Nodup) (hc : c.Nodup) (he : e.Nodup) (la : ∀ x ∈ a, x.length = 4) (lb : ∀ x ∈ b, x.length = 4) (lc : ∀ x ∈ c, x.length = 4) (le : ∀ x ∈ e, x.length = 4) : (allB d a b c e).Nodup := by
  have mem0 : ∀ {l : LL} {R : List Int → List Int → Prop}, l.Nodup → (∀ x ∈ l, ∀ y ∈ l, x ≠ y → R x y) → l.Pairwise R := fun {l R} hl h => by
    have : l.Pairwise fun x y => x ∈ l ∧ y ∈ l ∧ x ≠ y := by
      rw [List.Nodup] at hl
      have := List.Pairwise.and_mem.1 hl
      exact this.imp fun h => ⟨h.1, h.2.1, h.2.2⟩
    exact this.imp fun ⟨h1, h2, h3⟩ => h _ h1 _ h2 h3
  unfold allB List.Nodup
  rw [List.pairwise_flatMap]
  refine ⟨fun r0 m0 => ?_, mem0 ha fun r0 m0 s0 n0 hne x hx y hy hxy => ?_⟩
  · rw [List.pairwise_flatMap]
    refine ⟨fun r1 m1 => ?_, mem0 hb fun r1 m1 s1 n1 hne x hx y hy hxy => ?_⟩
    · rw [List.pairwise_flatMap]
      refine ⟨fun r2 m2 => ?_, mem0 hc fun r2 m2 s2 n2 hne x hx y hy hxy => ?_⟩
      · rw [List.pairwise_flatMap]
        refine ⟨fun r3 m3 => List.pairwise_singleton _ _, mem0 he fun r3 m3 s3 n3 hne x hx y hy hxy => ?_⟩
        rw [List.mem_singleton] at hx hy
        subst hx hy
        exact hne (full_inj hd (la _ m0) (lb _ m1) (lc _ m2) (le _ m3) (la _ m0) (lb _ m1) (lc _ m2) (le _ n3) hxy).2.2.2
      · simp only [List.mem_flatMap, List.mem_singleton] at hx hy
        obtain ⟨r3, m3, rfl⟩ := hx
        obtain ⟨s3, n3, rfl⟩ := hy
        exact hne (full_inj hd (la _ m0) (lb _ m1) (lc _ m2) (le _ m3) (la _ m0) (lb _ m1) (lc _ n2) (le _ n3) hxy).2.2.1
    · simp only [List.mem_flatMap, List.mem_singleton] at hx hy
      obtain ⟨r2, m2, r3, m3, rfl⟩ := hx
      obtain ⟨s2, n2, s3, n3, rfl⟩ := hy
      exact hne (full_inj hd (la _ m0) (lb _ m1) (lc _ m2) (le _ m3) (la _ m0) (lb _ n1) (lc _ n2) (le _ n3) hxy).2.1
  · simp only [List.mem_flatMap, List.mem_singleton] at hx hy
    obtain ⟨r1, m1, r2, m2, r3, m3, rfl⟩ := hx
    obtain ⟨s1, n1, s2, n2, s3, n3, rfl⟩ := hy
    exact hne (full_inj hd (la _ m0) (lb _ m1) (lc _ m2) (le _ m3) (la _ n0) (lb _ n1) (lc _ n2) (le _ n3) hxy).1
theorem flat_le {h : List Int → LL} {k : Nat} (hk : ∀ x, (h x).length ≤ k) : ∀ l : LL, (l.flatMap h).length ≤ k * l.length
  | [] => by simp
  | a :: r => by
    have := flat_le hk r
    have := hk a
    rw [List.flatMap_cons, List.length_append, List.length_cons, Nat.mul_succ]; omega
theorem lvl_len {d i : Nat} {rows out : LL} (hr : rows.length ≤ 256) : (lvl d i rows out).length ≤ 256 * out.length :=
  flat_le (fun o => Nat.le_trans (flat_le (k := 1) (fun _ => Nat.le_refl _) rows) (by omega)) out
theorem asc_of_up {m : Nat} : ∀ {l : LL}, (∀ x ∈ l, x.length = m) → Up l → l.Nodup → Asc l
  | [], _, _, _ => trivial
  | a :: r, hl, ⟨h1, h2⟩, hn => by
    obtain ⟨n1, n2⟩ := List.nodup_cons.1 hn
    refine ⟨fun x hx => ?_, asc_of_up (fun x hx => hl x (List.mem_cons_of_mem _ hx)) h2 n2⟩
    exact u199 (by rw [hl x (List.mem_cons_of_mem _ hx), hl a List.mem_cons_self]) (h1 x hx) fun e => n1 (e ▸ hx)
theorem sort_ins {m : Nat} {l : LL} (hl : ∀ x ∈ l, x.length = m) (hn : l.Nodup) : sortL l = u105 l := by
  have h1 : Asc (sortL l) := asc_of_up (m := m) (fun x hx => hl x ((u299 l x).1 hx)) (up_sort l hl) ((List.mergeSort_perm l _).nodup_iff.2 hn)
  obtain ⟨h2, h3, _⟩ := u084 (m := m) l [] hl (fun x hx => by cases hx) trivial
  refine asc_ext h1 h2 fun x => ?_
  rw [u299]
  exact ((h3 x).trans (by simp)).symm
theorem asc_step : ∀ {l : LL}, Asc l → ∀ i, i + 1 < l.length → ltL (rget l i) (rget l (i + 1)) = true
  | [], _, i, h => by simp at h
  | a :: r, ⟨h1, h2⟩, i, h => by
    cases i with
    | zero =>
      have hr : 0 < r.length := by simpa using h
      have e : rget (a :: r) (0 + 1) = rget r 0 := rfl
      rw [e]
      exact h1 _ (by rw [rgetL, List.getElem?_eq_getElem hr]; exact List.getElem_mem hr)
    | succ i => exact asc_step h2 i (by simpa using h)
end Go.Lv.P
namespace Go.Lv.P
open Go Go.Lv
def Gd (b : List Int) : Prop := b.length = 16 ∧ okB b = true
def stp (w : List Nat) (b : List Int) : List Int := w.foldl (fun b d => (u070 b d).1) b
def rn (w : List Nat) (b : List Int) (k : Nat) : List Int := Nat.repeat (stp w) k b
def encN (b : List Int) : Nat → Nat
  | 0 => 0
  | n + 1 => 2 * encN b n + (if iget b n = 0 then 0 else 1)
def wT (w : List Nat) : Nat → List Nat
  | 0 => []
  | T + 1 => wT w T ++ w
section
variable {w : List Nat} (hw : ∀ d ∈ w, d < 4) {b : List Int} (g : Gd b)
include hw g
end
end Go.Lv.P
namespace Go.Lv.P
open Go Go.Lv
def ends (s : RS) : Prop := ∀ j, s.1 ≤ j → iget s.2.2.2 j = 0
section
variable {b : List Int} (hb : b.length = 16) (ok : okB b = true)
include hb ok
end
end Go.Lv.P
namespace Go.Lv.P
open Go Go.Lv
def movesB (b : List Int) : List Int := fld (fun d out => bif (!((u070 b d).1 == b)) then out ++ [(d : Int)] else out) 0 4 []
theorem moves_step {c : Bool} {d : Nat} {out : List Int} (h : out.length ≤ d) : (bif c then out ++ [(d : Int)] else out).length ≤ d + 1 := by
  cases c
  · simp; omega
  · simp; omega
end Go.Lv.P
namespace Go.Lv.P
open Go Go.Lv
def putP (b p : List Int) : List Int := iset b (0 + (iget p 0).toNat * 4 + (iget p 1).toNat * 1) (iget p 2)
end Go.Lv.P
