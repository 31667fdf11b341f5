/-
Plain facts of the pure functions, part 7; without conditions.
-/
import Derived.Test.YtabfliifleonaajGreatQjP0
import Derived.Test.YtabfliifleonaajGreatQjP1
import Derived.Test.YtabfliifleonaajGreatQjP7
import Derived.Test.YtabfliifleonaajGreatQjPG6
import Derived.Test.YtabfliifleonaajGreatQjPG4
import Derived.Test.YtabfliifleonaajGreatQjPG1
import Derived.Test.YtabfliifleonaajGreatQjP5
import Derived.Test.YtabfliifleonaajGreatQjP6
set_option linter.unusedVariables false
set_option linter.unusedSimpArgs false
set_option linter.unusedSectionVars false
namespace Go.Lv.P
open Go Go.Lv
theorem most_max (a b : Int) : k99_v a b = max a b := by
  unfold k99_v
  cases h : decide (b < a) with
  | true => have := of_decide_eq_true h; rw [cond_true]; omega
  | false => have := of_decide_eq_false h; rw [cond_false]; omega
theorem if_max (a b : Int) : (if b > a then b else a) = max a b := by
  split <;> omega
theorem len_count {a b c d : Int} (p : Int → Bool) : fld (fun k (n : Nat) => bif p (iget [a, b, c, d] (0 + k * 1)) then n + 1 else n) 0 4 0 = ([a, b, c, d].filter p).length := by
  have e0 : iget [a, b, c, d] (0 + 0 * 1) = a := rfl
  have e1 : iget [a, b, c, d] (0 + (0 + 1) * 1) = b := rfl
  have e2 : iget [a, b, c, d] (0 + (0 + 1 + 1) * 1) = c := rfl
  have e3 : iget [a, b, c, d] (0 + (0 + 1 + 1 + 1) * 1) = d := rfl
  simp only [fld, e0, e1, e2, e3, List.filter]
  cases p a <;> cases p b <;> cases p c <;> cases p d <;> rfl
theorem many_eq (F : Nat) (hF : 1000 < F) {row : List Int} (h4 : row.length = 4) (h : ∀ x ∈ row, tileOK x) : k103_p F row = some (((tl row).length : Nat) : Int) := by
  have hs := loop_fold (step := k103_s3 F row) (fun k (n : Nat) => ((n : Int), k)) 4 (fun k n => bif decide ((0 : Int) < iget row (0 + k * 1)) then n + 1 else n) (fun n => (n : Int)) (fun k n => n ≤ k) (F := F) (by omega) (by omega) (a := 0) (Nat.le_refl 0)
    (fun k n hk hI => ⟨by
      show (bif decide ((0 : Int) < iget row (0 + k * 1)) then n + 1 else n) ≤ k + 1
      have hI : n ≤ k := hI
      cases decide ((0 : Int) < iget row (0 + k * 1)) <;> simp <;> omega, fun Q kn kx => by
      have hI : n ≤ k := hI
      have hk' : (k : Int) < 4 := by omega
      have hw : IntKind.wrap .i64 ((n : Int) + 1) = ((n + 1 : Nat) : Int) := by rw [wrap_of (by omega) (by omega)]; omega
      simp only [k103_s3, hk', hk, inR_cast, Int.toNat_natCast, decide_true, cond_true, hw]
      cases decide ((0 : Int) < iget row (0 + k * 1)) <;> rfl⟩) (fun n _ Q kn kx => by simp [k103_s3])
  have h1 : k103_l3 F row 0 0 = some ((fld (fun k (n : Nat) => bif decide ((0 : Int) < iget row (0 + k * 1)) then n + 1 else n) 0 4 0 : Nat) : Int) := hs.1
  obtain ⟨a, b, c, d, rfl⟩ := list4 h4
  rw [len_count (fun x => decide ((0 : Int) < x))] at h1
  have e : ([a, b, c, d].filter fun x => decide ((0 : Int) < x)) = tl [a, b, c, d] := by
    unfold tl
    apply List.filter_congr
    intro x hx
    have := h x hx
    simp only [tileOK, inB, Bool.and_eq_true, decide_eq_true_eq] at this
    by_cases hz : x = 0
    · simp [hz]
    · have h1 : (x == 0) = false := by rw [beq_eq_false_iff_ne]; exact hz
      have h2 : decide ((0 : Int) < x) = true := decide_eq_true (by omega)
      rw [h1, h2]; rfl
  rw [e] at h1
  simp only [k103_p, k103_c, h1, Option.isSome_some, Option.getD_some, cond_true]
def mostL (ls : LL) : Int := fld (fun i (m : Int) => max m (((tl (rget ls i)).length : Nat) : Int)) 0 ls.length 0
theorem impl_most (F : Nat) (hF : 1000 < F) (s : Int) (a b c d : LL) (i : Int) {ls : LL} (h4 : ∀ x ∈ ls, x.length = 4) (hl : ls.length ≤ 256) : k59_l9 F s a b c d i ls ((ls.length : Nat) : Int) 0 0 = some (mostL ls) := by
  have hs := loop_fold (step := k59_s9 F s a b c d i ls ((ls.length : Nat) : Int)) (fun k (m : Int) => (m, k)) ls.length (fun k m => max m (((tl (rget ls k)).length : Nat) : Int)) (fun m => m) (fun _ _ => True) (F := F) (by omega) (by omega) (a := 0) trivial
    (fun k m hk _ => ⟨trivial, fun Q kn kx => by
      obtain ⟨t, e, t1, -, -⟩ := tiles_eq F hF (h4 _ (by rw [rgetL, List.getElem?_eq_getElem hk]; exact List.getElem_mem hk) : (rget ls k).length = 4)
      simp only [k59_s9, Int.ofNat_lt, hk, inR_cast, Int.toNat_natCast, decide_true, cond_true, e, Option.isSome_some, Option.getD_some, t1, if_max]⟩) (fun m _ Q kn kx => by simp [k59_s9])
  exact hs.1
theorem spec_most (F : Nat) (hF : 1000 < F) (s : Int) (a b c d : LL) {i : Nat} (hi : i < 4) {ls : LL} (hg : llget [a, b, c, d] (0 + i * 1) = ls) (h4 : ∀ x ∈ ls, x.length = 4 ∧ ∀ y ∈ x, tileOK y) (hl : ls.length ≤ 256) : k67_l9 F s i a b c d 0 0 = some (mostL ls) := by
  have hs := loop_fold (step := k67_s9 F s i a b c d) (fun k (m : Int) => (m, k)) ls.length (fun k m => max m (((tl (rget ls k)).length : Nat) : Int)) (fun m => m) (fun _ _ => True) (F := F) (by omega) (by omega) (a := 0) trivial
    (fun k m hk _ => ⟨trivial, fun Q kn kx => by
      have hr := h4 (rget ls k) (by rw [rgetL, List.getElem?_eq_getElem hk]; exact List.getElem_mem hk)
      simp only [k67_s9, hi, hg, Int.ofNat_lt, hk, inR_cast, Int.toNat_natCast, decide_true, cond_true, many_eq F hF hr.1 hr.2, Option.isSome_some, Option.getD_some, most_max]⟩) (fun m _ Q kn kx => by
        have e : decide (((ls.length : Nat) : Int) < ((ls.length : Nat) : Int)) = false := by simp
        simp only [k67_s9, hi, hg, inR_cast, Int.toNat_natCast, decide_true, cond_true, e, cond_false])
  exact hs.1
theorem list4L {P : LL → Prop} {a b c d : LL} (h0 : P a) (h1 : P b) (h2 : P c) (h3 : P d) {i : Nat} (hi : i < 4) : P (llget [a, b, c, d] (0 + i * 1)) := by
  obtain rfl | rfl | rfl | rfl : i = 0 ∨ i = 1 ∨ i = 2 ∨ i = 3 := by omega
  · exact h0
  · exact h1
  · exact h2
  · exact h3
def mostS (b : List Int) (d : Nat) : Int := IntKind.wrap .i64 (IntKind.wrap .i64 (IntKind.wrap .i64 (IntKind.wrap .i64 (0 + mostL (rwB b d 0)) + mostL (rwB b d 1)) + mostL (rwB b d 2)) + mostL (rwB b d 3))
def gB (b : List Int) (d : Int) : Bool := okB b && (inB d 0 3 && !(cntB b d.toNat == 0))
def mostV (b : List Int) (d : Int) : Int × Bool := bif gB b d then (mostS b d.toNat, true) else (0, false)
theorem most_val (F : Nat) (b : List Int) (hb : b.length = 16) (d : Int) (hF : 1000 < F) : k67_p F b d = some (mostV b d) ∧ k59_p F b d = some (mostV b d) := by
  unfold mostV gB
  simp only [k67_p, k67_c, k59_p, k59_c, k91_eq F b hb hF, k89_eq F b hb hF, Option.isSome_some, Option.getD_some, cond_true, k101_v, k52_v, l1In_eq, in_eq]
  cases hB : okB b with
  | false => exact ⟨rfl, rfl⟩
  | true =>
    cases hd : inB d 0 3 with
    | false => exact ⟨rfl, rfl⟩
    | true =>
      simp [inB] at hd
      obtain ⟨k, rfl⟩ := Int.eq_ofNat_of_zero_le hd.1
      have hk : k < 4 := by omega
      simp only [spec_count hb hB F hF hk, impl_count hb hB F hF hk, spec_lists hb hB F hF hk, impl_lines hb hB F hF hk, Option.isSome_some, Option.getD_some, cond_true, Bool.not_true, cond_false]
      have ha : ∀ i, i < 4 → (∀ x ∈ rwB b k i, x.length = 4 ∧ ∀ y ∈ x, tileOK y) ∧ (rwB b k i).length ≤ 256 := fun i hi => ⟨rw_ok hb hB hk hi, rwB_len b k i⟩
      have hall : ∀ i, i < 4 → (∀ x ∈ llget [rwB b k 0, rwB b k 1, rwB b k 2, rwB b k 3] (0 + i * 1), x.length = 4 ∧ ∀ y ∈ x, tileOK y) ∧ (llget [rwB b k 0, rwB b k 1, rwB b k 2, rwB b k 3] (0 + i * 1)).length ≤ 256 := fun i hi =>
        list4L (P := fun ls => (∀ x ∈ ls, x.length = 4 ∧ ∀ y ∈ x, tileOK y) ∧ ls.length ≤ 256) (ha 0 (by decide)) (ha 1 (by decide)) (ha 2 (by decide)) (ha 3 (by decide)) hi
      have hm : mostS b k = fld (fun i (s : Int) => IntKind.wrap .i64 (s + mostL (llget [rwB b k 0, rwB b k 1, rwB b k 2, rwB b k 3] (0 + i * 1)))) 0 4 0 := rfl
      rw [Int.toNat_natCast, hm]
      clear hm
      generalize rwB b k 0 = a at *
      generalize rwB b k 1 = b1 at *
      generalize rwB b k 2 = c at *
      generalize rwB b k 3 = e at *
      have hs := loop_fold (step := k67_s5 F a b1 c e) (fun i (s : Int) => (s, i)) 4 (fun i s => IntKind.wrap .i64 (s + mostL (llget [a, b1, c, e] (0 + i * 1)))) (fun s => s) (fun _ _ => True) (F := F) (by omega) (by omega) (a := 0) trivial
        (fun i s hi _ => ⟨trivial, fun Q kn kx => by
          have hi' : (i : Int) < 4 := by omega
          simp only [k67_s5, hi', decide_true, cond_true, spec_most F hF s a b1 c e hi rfl (hall i hi).1 (hall i hi).2, Option.isSome_some, Option.getD_some]⟩) (fun s _ Q kn kx => by simp [k67_s5])
      have hp := loop_fold (step := k59_s5 F a b1 c e) (fun i (s : Int) => (s, i)) 4 (fun i s => IntKind.wrap .i64 (s + mostL (llget [a, b1, c, e] (0 + i * 1)))) (fun s => s) (fun _ _ => True) (F := F) (by omega) (by omega) (a := 0) trivial
        (fun i s hi _ => ⟨trivial, fun Q kn kx => by
          have hi' : (i : Int) < 4 := by omega
          have h := hall i hi
          rw [Nat.zero_add] at h
          simp only [k59_s5, hi', hi, inR_cast, Int.toNat_natCast, decide_true, cond_true, Nat.zero_add, impl_most F hF s a b1 c e i (fun x hx => (h.1 x hx).1) h.2, Option.isSome_some, Option.getD_some]⟩) (fun s _ Q kn kx => by simp [k59_s5])
      have h1 : k67_l5 F a b1 c e 0 0 = _ := hs.1
      have h2 : k59_l5 F a b1 c e 0 0 = _ := hp.1
      simp only [h1, h2, Option.isSome_some, Option.getD_some, cond_true]
      cases cntB b k == 0 <;> exact ⟨rfl, rfl⟩
end Go.Lv.P
namespace Go.Lv.P
open Go Go.Lv
theorem spec_with (F : Nat) (hF : 1000 < F) (b row : List Int) {d i : Nat} (hd : d < 4) (hi : i < 4) : k104_p F b d i row = some (putB b d i row) := by
  obtain ⟨G, rfl⟩ : ∃ G, F = G + 1001 := ⟨F - 1001, by omega⟩
  simp only [k104_p, k104_c, spec_line G hd hi, put_line0 _ _ hd hi, put_line1 _ _ hd hi, put_line2 _ _ hd hi, put_line3 _ _ hd hi, Option.isSome_some, Option.getD_some, cond_true, putB]
end Go.Lv.P
namespace Go.Lv.P
open Go Go.Lv
theorem putB_len (b : List Int) (d i : Nat) (r : List Int) : (putB b d i r).length = b.length := by simp only [putB, iset_len]
section
variable {c : List Int} (hc : Byt c) (F : Nat) (hF : 1000 < F)
include hc hF
theorem made_lp {d : Nat} (hd : d < 4) : ∀ (m i G n : Nat), i + m = 3 → m < G → n + 10 * m ≤ 700000000 → ∀ (a s : Int) (b : List Int), b.length = 16 → Cur n a → ∃ (a' s' : Int) (b' : List Int), loopC (k68_s6 F d c) G ((i : Int), a, s, b) some = some (a', s', b') ∧ b'.length = 16 ∧ Cur (n + 10 * m + 2) a'
  | m, i, G, n, him, hG, hn, a, s, b, hb, h => by
    obtain ⟨G, rfl⟩ : ∃ G', G = G' + 1 := ⟨G - 1, by omega⟩
    obtain ⟨v, a1, s1, e1, hv, c1⟩ := pick_ok hc (by omega) (q := 3) (by decide) (by decide) h (s := s)
    have q3 : ((3 : Nat) : Int) = 3 := rfl
    rw [q3] at e1
    have hw : IntKind.wrap .i64 ((1 : Int) + (v : Int)) = ((1 + v : Nat) : Int) := by rw [wrap_of (by omega) (by omega)]; omega
    by_cases hlt : i < 1 + v
    · have hi : i < 4 := by omega
      have hp : decide ((i : Int) < ((1 + v : Nat) : Int)) = true := decide_eq_true (by omega)
      have hw2 : IntKind.wrap .i64 ((i : Int) + 1) = ((i + 1 : Nat) : Int) := by rw [wrap_of (by omega) (by omega)]; omega
      obtain ⟨m, rfl⟩ : ∃ m', m = m' + 1 := ⟨m - 1, by omega⟩
      obtain ⟨a', s', b', e, l, cc⟩ := made_lp hd m (i + 1) G (n + 10) (by omega) (by omega) (by omega) a1 s1 (putB b d i [0, 0, 0, 0]) (by rw [putB_len, hb]) (c1.mono (by omega))
      refine ⟨a', s', b', ?_, l, cc.mono (by omega)⟩
      rw [← e]
      show k68_s6 F d c _ _ _ _ = _
      simp only [k68_s6, e1, hw, hp, spec_with F hF b [0, 0, 0, 0] hd hi, hw2, Option.isSome_some, Option.getD_some, cond_true]
    · have hp : decide ((i : Int) < ((1 + v : Nat) : Int)) = false := decide_eq_false (by omega)
      refine ⟨a1, s1, b, ?_, hb, c1.mono (by omega)⟩
      show k68_s6 F d c _ _ _ _ = _
      simp only [k68_s6, e1, hw, hp, Option.isSome_some, Option.getD_some, cond_true, cond_false]
theorem made_loop {n : Nat} (hn : n ≤ 600000000) {d : Nat} (hd : d < 4) {a s : Int} {b : List Int} (hb : b.length = 16) (h : Cur n a) : ∃ (a' s' : Int) (b' : List Int), k68_l6 F d c 0 a s b = some (a', s', b') ∧ b'.length = 16 ∧ Cur (n + 40) a' := by
  obtain ⟨a', s', b', e, l, cc⟩ := made_lp hc F hF hd 3 0 F n rfl (by omega) (by omega) a s b hb h
  exact ⟨a', s', b', e, l, cc.mono (by omega)⟩
theorem made_ok {n : Nat} (hn : n ≤ 500000000) {a s : Int} (h : Cur n a) : ∃ (b : List Int) (d a' s' : Int), k68_p F c a s = some (b, d, a', s') ∧ b.length = 16 := by
  obtain ⟨b, a1, s1, e1, hb, c1⟩ := board_ok hc F hF (by omega) h (s := s)
  have c1 : Cur (n + 1000) a1 := c1.mono (by omega)
  obtain ⟨d, a2, s2, e2, c2⟩ := side_ok hc (by omega) c1 (s := s1)
  obtain ⟨v4, a4, s4, e4, c4⟩ := one_ok hc (by omega) (q := 4) (by decide) (by decide) c2 (s := s2)
  obtain ⟨v5, a5, s5, e5, c5⟩ := one_ok hc (by omega) (q := 2) (by decide) (by decide) c4 (s := s4)
  obtain ⟨v6, a6, s6, e6, c6⟩ := one_ok hc (by omega) (q := 2) (by decide) (by decide) c2 (s := s2)
  have q4 : ((4 : Nat) : Int) = 4 := rfl
  have q2 : ((2 : Nat) : Int) = 2 := rfl
  rw [q4] at e4
  rw [q2] at e5 e6
  have eb := k91_eq F b hb hF
  simp only [k68_p, k68_c, e1, e2, e4, e5, e6, eb, k101_v, l1In_eq, Option.isSome_some, Option.getD_some, cond_true]
  cases hB : okB b with
  | false => exact ⟨b, d, _, _, rfl, hb⟩
  | true =>
    cases hd : inB d 0 3 with
    | false => exact ⟨b, d, _, _, rfl, hb⟩
    | true =>
      obtain ⟨k, rfl, hk⟩ : ∃ n : Nat, d = n ∧ n < 4 := by
        simp [inB] at hd
        exact ⟨d.toNat, by omega, by omega⟩
      have es := spec_slide hb hB F hF hk
      obtain ⟨g1, g2⟩ := slide_ok hb hB hk
      have eb2 := k91_eq F (slideB b k).1 g1 hF
      obtain ⟨x1, x2, x3, f1, f2, _⟩ := made_loop hc F hF (by omega) hk g1 c5 (s := s5)
      obtain ⟨y1, y2, y3, f3, f4, _⟩ := made_loop hc F hF (by omega) hk hb c5 (s := s5)
      generalize slideB b k = w at *
      obtain ⟨w, sc⟩ := w
      simp only at g1 g2 eb2 f1
      simp only [es, eb2, g2, f1, f3, Option.isSome_some, Option.getD_some, cond_true, cond_false]
      cases v4 with
      | false =>
        cases v5 with
        | true => exact ⟨x3, _, _, _, rfl, f2⟩
        | false => exact ⟨w, _, _, _, rfl, g1⟩
      | true =>
        cases v5 with
        | true => exact ⟨y3, _, _, _, rfl, f4⟩
        | false => exact ⟨b, _, _, _, rfl, hb⟩
end
end Go.Lv.P
namespace Go.Lv.P
open Go Go.Lv
def stillB (b : List Int) (d : Nat) : Bool := (slideB b d).1 == b
def cS (b : List Int) (d : Nat) (some1 : Bool) (i k : Nat) : Bool :=
  bif some1 then decide (0 < mgN (rwB b d i) k) else Nat.beq (mgN (rwB b d i) k) (rwB b d i).length && !stillB b d
def otherB (b : List Int) (d : Nat) : Nat := fld (fun i n => bif decide (1 < (rwB b d i).length) then n + 1 else n) 0 4 0
def rowsI (b : List Int) (d i : Nat) : LL := bif stillB b d && (decide (1 < (rwB b d i).length) && Nat.beq (otherB b d) 1) then (rwB b d i).filter fun x => !(x == lineB b d i) else rwB b d i
def cI (b : List Int) (d : Nat) (all : Bool) (i k : Nat) : Bool := Nat.beq (mgN (rowsI b d i) k) (rowsI b d i).length || (!all && decide (0 < mgN (rowsI b d i) k))
theorem filter_lt {α : Type} {p : α → Bool} {l : List α} {x : α} (hx : x ∈ l) (hp : p x = false) : (l.filter p).length < l.length := by
  induction l with
  | nil => cases hx
  | cons a l ih =>
    have hle : (l.filter p).length ≤ l.length := List.length_filter_le _ _
    rw [List.filter_cons, List.length_cons]
    cases hpa : p a with
    | true =>
      rcases List.mem_cons.1 hx with e | hx
      · rw [← e, hp] at hpa; cases hpa
      · have := ih hx
        rw [if_pos rfl, List.length_cons]; omega
    | false => rw [if_neg (by simp)]; omega
theorem rw_eq (b : List Int) (d i : Nat) : rwB b d i = rbL (lineB b d i) := rfl
section
variable {b : List Int} (hb : b.length = 16) (ok : okB b = true) {d : Nat} (hd : d < 4)
include hb ok hd
theorem line_ok4 {i : Nat} (hi : i < 4) : (lineB b d i).length = 4 ∧ ∀ x ∈ lineB b d i, tileOK x := ⟨rfl, line_ok hb ((okB_iff b).1 ok) hd hi⟩
theorem still_line (hs : stillB b d = true) {i : Nat} (hi : i < 4) : slR (lineB b d i) = lineB b d i := by
  have h := slide_lines hb ok hd hi
  have e : (slideB b d).1 = b := eq_of_beq hs
  rw [e] at h
  exact h.symm
theorem own_in (hs : stillB b d = true) {i : Nat} (hi : i < 4) : lineB b d i ∈ rwB b d i := still_in (line_ok4 hb ok hd hi).1 (line_ok4 hb ok hd hi).2 (still_line hb ok hd hs hi)
theorem own_mark (hs : stillB b d = true) {i : Nat} (hi : i < 4) (k : Nat) : bget (mkR (lineB b d i)) k = false := still_marks (line_ok4 hb ok hd hi).1 (line_ok4 hb ok hd hi).2 (still_line hb ok hd hs hi) k
theorem rw_asc {i : Nat} (hi : i < 4) : Asc (rwB b d i) := (rb_facts (line_ok4 hb ok hd hi).1 (line_ok4 hb ok hd hi).2).1
theorem rw_shift (hs : stillB b d = true) {i : Nat} (hi : i < 4) {q : List Int} (hq : q ∈ rwB b d i) (hne : q ≠ lineB b d i) : ∃ q' ∈ rwB b d i, q' ≠ lineB b d i ∧ ∀ k, bget (mkR q') k = false :=
  still_shift (line_ok4 hb ok hd hi).1 (line_ok4 hb ok hd hi).2 (still_line hb ok hd hs hi) hq hne
end
theorem asc_two : ∀ {l : LL}, Asc l → 1 < l.length → ∀ x : List Int, ∃ q ∈ l, q ≠ x
  | [], _, h, _ => by simp at h
  | [a], _, h, _ => by simp at h
  | a :: c :: l, h, _, x => by
    by_cases hx : a = x
    · refine ⟨c, by simp, fun e => ?_⟩
      have := h.1 c List.mem_cons_self
      rw [hx, e, ltL_irr] at this; cases this
    · exact ⟨a, by simp, hx⟩
attribute [local irreducible] rwB mkR
section
variable {b : List Int} (hb : b.length = 16) (ok : okB b = true) {d : Nat} (hd : d < 4)
include hb ok hd
theorem cnt_eq : cntB b d = bif stillB b d then ((rwB b d 0).length : Int) * (rwB b d 1).length * (rwB b d 2).length * (rwB b d 3).length - 1 else ((rwB b d 0).length : Int) * (rwB b d 1).length * (rwB b d 2).length * (rwB b d 3).length := by
  have l0 := rwB_len b d 0
  have l1 := rwB_len b d 1
  have l2 := rwB_len b d 2
  have l3 := rwB_len b d 3
  have m1 : (rwB b d 0).length * (rwB b d 1).length ≤ 256 * 256 := Nat.mul_le_mul l0 l1
  have m2 : (rwB b d 0).length * (rwB b d 1).length * (rwB b d 2).length ≤ 256 * 256 * 256 := Nat.mul_le_mul m1 l2
  have m3 : (rwB b d 0).length * (rwB b d 1).length * (rwB b d 2).length * (rwB b d 3).length ≤ 256 * 256 * 256 * 256 := Nat.mul_le_mul m2 l3
  unfold cntB stillB
  generalize (rwB b d 0).length = n0 at *
  generalize (rwB b d 1).length = n1 at *
  generalize (rwB b d 2).length = n2 at *
  generalize (rwB b d 3).length = n3 at *
  have c1 : ((n0 : Int) * n1) = ((n0 * n1 : Nat) : Int) := by rw [Int.natCast_mul]
  have c2 : ((n0 : Int) * n1 * n2) = ((n0 * n1 * n2 : Nat) : Int) := by rw [Int.natCast_mul, Int.natCast_mul]
  have c3 : ((n0 : Int) * n1 * n2 * n3) = ((n0 * n1 * n2 * n3 : Nat) : Int) := by rw [Int.natCast_mul, Int.natCast_mul, Int.natCast_mul]
  simp only
  rw [Int.one_mul, wrap_of (n := (n0 : Int)) (by omega) (by omega), c1, wrap_of (n := ((n0 * n1 : Nat) : Int)) (by omega) (by omega), ← c1, c2, wrap_of (n := ((n0 * n1 * n2 : Nat) : Int)) (by omega) (by omega), ← c2, c3, wrap_of (n := ((n0 * n1 * n2 * n3 : Nat) : Int)) (by omega) (by omega), wrap_of (by omega) (by omega)]
theorem rows_some (hc : (cntB b d == 0) = false) {i : Nat} (hi : i < 4) : 0 < (rwB b d i).length := by
  have h := cnt_eq hb ok hd
  cases hs : stillB b d with
  | true => exact List.length_pos_of_mem (own_in hb ok hd hs hi)
  | false =>
    rw [hs, cond_false] at h
    rw [beq_eq_false_iff_ne] at hc
    refine Nat.pos_of_ne_zero fun h0 => hc ?_
    rw [h]
    obtain rfl | rfl | rfl | rfl : i = 0 ∨ i = 1 ∨ i = 2 ∨ i = 3 := by omega
    all_goals (rw [h0]; simp)
theorem mg_own (hs : stillB b d = true) {i : Nat} (hi : i < 4) (k : Nat) : mgN (rwB b d i) k < (rwB b d i).length := filter_lt (own_in hb ok hd hs hi) (own_mark hb ok hd hs hi k)
theorem cond_same (hc : (cntB b d == 0) = false) (all : Bool) {i : Nat} (hi : i < 4) (k : Nat) : cI b d all i k = cS b d (!all) i k := by
  have hn := rows_some hb ok hd hc hi
  have fin : ∀ (y n : Nat) (st : Bool), 0 < n → (st = true → y < n) → (Nat.beq y n || (!all && decide (0 < y))) = bif !all then decide (0 < y) else Nat.beq y n && !st := fun y n st hn hst => by
    cases all with
    | true =>
      simp only [Bool.not_true, Bool.false_and, Bool.or_false, cond_false]
      cases st with
      | false => simp
      | true =>
        have : Nat.beq y n = false := by rw [← Bool.not_eq_true, Nat.beq_eq]; have := hst rfl; omega
        rw [this]; rfl
    | false =>
      simp only [Bool.not_false, Bool.true_and, cond_true]
      by_cases hy : 0 < y
      · rw [decide_eq_true hy, Bool.or_true]
      · have : Nat.beq y n = false := by rw [← Bool.not_eq_true, Nat.beq_eq]; omega
        rw [this, decide_eq_false hy]; rfl
  unfold cI cS
  cases hs : stillB b d with
  | false =>
    have e : rowsI b d i = rwB b d i := by unfold rowsI; rw [hs]; rfl
    rw [e]
    exact fin _ _ false hn fun h => by cases h
  | true =>
    cases ho : (decide (1 < (rwB b d i).length) && Nat.beq (otherB b d) 1) with
    | false =>
      have e : rowsI b d i = rwB b d i := by unfold rowsI; rw [hs, ho]; rfl
      rw [e]
      exact fin _ _ true hn fun _ => mg_own hb ok hd hs hi k
    | true =>
      have e : rowsI b d i = (rwB b d i).filter fun x => !(x == lineB b d i) := by unfold rowsI; rw [hs, ho]; rfl
      have hy : mgN (rowsI b d i) k = mgN (rwB b d i) k := by
        rw [e, mgN, mgN, List.filter_filter]
        refine congrArg List.length (List.filter_congr fun x hx => ?_)
        by_cases hxo : x = lineB b d i
        · rw [hxo, own_mark hb ok hd hs hi k]; rfl
        · have : (x == lineB b d i) = false := beq_eq_false_iff_ne.2 hxo
          rw [this]; simp
      -- another row
      simp only [Bool.and_eq_true, decide_eq_true_eq] at ho
      obtain ⟨q, hq1, hq2⟩ := asc_two (rw_asc hb ok hd hi) ho.1 (lineB b d i)
      obtain ⟨q', h1, h2, h3⟩ := rw_shift hb ok hd hs hi hq1 hq2
      have hq' : q' ∈ rowsI b d i := by rw [e]; exact List.mem_filter.2 ⟨h1, by simp [h2]⟩
      have hlt : mgN (rowsI b d i) k < (rowsI b d i).length := filter_lt hq' (h3 k)
      have := fin (mgN (rowsI b d i) k) (rowsI b d i).length true (List.length_pos_of_mem hq') fun _ => hlt
      rw [this, hy]
      cases all with
      | true => simp only [Bool.not_true, cond_false, Bool.and_false]
      | false => rfl
end
/-! ### cells by their lines -/
def liD (d p : Nat) : Nat := match d with
  | 0 => p / 4
  | 1 => p % 4
  | 2 => p / 4
  | _ => p % 4
def kiD (d p : Nat) : Nat := match d with
  | 0 => p % 4
  | 1 => p / 4
  | 2 => 3 - p % 4
  | _ => 3 - p / 4
theorem li_pl : ∀ d : Fin 4, ∀ p : Fin 16, liD d.val p.val < 4 ∧ kiD d.val p.val < 4 ∧ plcD d.val (liD d.val p.val) (kiD d.val p.val) = p.val := by decide
theorem pl_li : ∀ d i k : Fin 4, liD d.val (plcD d.val i.val k.val) = i.val ∧ kiD d.val (plcD d.val i.val k.val) = k.val := by decide
def celL (p : Nat) : List Int := [((p / 4 : Nat) : Int), ((p % 4 : Nat) : Int)]
theorem celL_inj {p q : Nat} (h : celL p = celL q) : p = q := by
  unfold celL at h
  injection h with h1 h
  injection h with h2 _
  omega
def mgd (b : List Int) (d : Nat) (some1 : Bool) : LL := ((List.range 16).filter fun p => cS b d some1 (liD d p) (kiD d p)).map celL
theorem mgd_len (b : List Int) (d : Nat) (some1 : Bool) : (mgd b d some1).length ≤ 16 := by
  rw [mgd, List.length_map]
  exact Nat.le_trans (List.length_filter_le _ _) (by simp)
theorem marks_at {pl : Nat → Nat} {C : Nat → Bool} (hlt : ∀ j, j < 16 → pl j < 16) (hinj : ∀ i j, i < 16 → j < 16 → pl i = pl j → i = j) : ∀ (n i : Nat) (m : List Int), i + n = 16 → m.length = 16 → ∀ j0, j0 < 16 →
    iget (fld (fun j m => bif C j then iset m (pl j) 1 else m) i n m) (pl j0) = if i ≤ j0 ∧ C j0 = true then 1 else iget m (pl j0)
  | 0, i, m, hi, hm, j0, h0 => by rw [fld, if_neg (by omega)]
  | n + 1, i, m, hi, hm, j0, h0 => by
    rw [fld, marks_at hlt hinj n (i + 1) _ (by omega) (by cases C i <;> simp [isetL, hm]) j0 h0]
    by_cases h1 : i + 1 ≤ j0
    · by_cases hc : C j0 = true
      · rw [if_pos ⟨h1, hc⟩, if_pos ⟨by omega, hc⟩]
      · rw [if_neg (by simp [hc]), if_neg (by simp [hc])]
        cases hci : C i with
        | false => rfl
        | true =>
          have := hlt i (by omega)
          rw [cond_true, iget_iset _ _ _ _ (by omega), if_neg (fun e => by have := hinj i j0 (by omega) h0 e; omega)]
    · rw [if_neg (by omega)]
      by_cases h2 : i = j0
      · subst h2
        cases hci : C i with
        | false => rw [if_neg (by simp)]; rfl
        | true =>
          have := hlt i (by omega)
          rw [if_pos ⟨Nat.le_refl _, rfl⟩, cond_true, iget_iset _ _ _ _ (by omega), if_pos rfl]
      · rw [if_neg (by omega)]
        cases hci : C i with
        | false => rfl
        | true =>
          have := hlt i (by omega)
          rw [cond_true, iget_iset _ _ _ _ (by omega), if_neg (fun e => h2 (hinj i j0 (by omega) h0 e))]
theorem mlook_put {α : Type} (c k : List Int) (v : α) : ∀ m : List (List Int × α), mlook c (mput k v m) = bif c == k then some v else mlook c m
  | [] => by simp only [mput, mlook]
  | (x, u) :: m => by
    simp only [mput]
    cases hkx : k == x with
    | true =>
      have e := eq_of_beq hkx
      subst e
      simp only [cond_true, mlook]
      cases c == k <;> rfl
    | false =>
      simp only [cond_false, mlook, mlook_put c k v m]
      cases hcx : c == x with
      | true =>
        have e := eq_of_beq hcx
        subst e
        have : (c == k) = false := by
          rw [beq_eq_false_iff_ne] at hkx ⊢; exact Ne.symm hkx
        rw [this]; rfl
      | false => simp only [cond_false]
theorem flags_at {cl : Nat → List Int} {D : Nat → Bool} (hinj : ∀ i j, i < 16 → j < 16 → cl i = cl j → i = j) : ∀ (n i : Nat) (m : List (List Int × Bool)), i + n = 16 → ∀ j0, j0 < 16 →
    mlook (cl j0) (fld (fun j m => mput (cl j) (D j) m) i n m) = if i ≤ j0 then some (D j0) else mlook (cl j0) m
  | 0, i, m, hi, j0, h0 => by rw [fld, if_neg (by omega)]
  | n + 1, i, m, hi, j0, h0 => by
    rw [fld, flags_at hinj n (i + 1) _ (by omega) j0 h0, mlook_put]
    by_cases h1 : i + 1 ≤ j0
    · rw [if_pos h1, if_pos (by omega)]
    · rw [if_neg h1]
      by_cases h2 : i = j0
      · subst h2
        rw [if_pos (Nat.le_refl _), beq_self_eq_true]; rfl
      · have : (cl j0 == cl i) = false := by rw [beq_eq_false_iff_ne]; exact fun e => h2 (hinj i j0 (by omega) h0 e.symm)
        rw [this, if_neg (by omega)]; rfl
theorem list_if {p : Nat → Bool} : ∀ (n i : Nat) (o : LL), fld (fun j o => bif p j then o ++ [celL j] else o) i n o = o ++ ((List.range' i n).filter p).map celL
  | 0, i, o => by simp [fld]
  | n + 1, i, o => by
    rw [fld, list_if n (i + 1), List.range'_succ, List.filter_cons]
    cases p i with
    | true => simp [List.append_assoc]
    | false => simp
theorem cells_rng : cells16 = (List.range 16).map celL := rfl
end Go.Lv.P
namespace Go.Lv.P
open Go Go.Lv
def gstep (a : (RS × List Bool) × Int) (x : Int) : (RS × List Bool) × Int := bif x == 0 then a else (rstep2 a.1 x, bif rhit a.1.1 x then 0 else x)
theorem gfold_fst : ∀ (l : List Int) (a : (RS × List Bool) × Int), (l.foldl gstep a).1 = (l.filter fun x => !(x == 0)).foldl rstep2 a.1
  | [], a => rfl
  | x :: l, a => by
    rw [List.foldl_cons, gfold_fst l, List.filter_cons]
    unfold gstep
    cases x == 0 <;> rfl
def GI (k : Nat) (a : (RS × List Bool) × Int) : Prop := a.1.1.1 ≤ k ∧ MI a.1 ∧ (0 < a.1.1.1 → (a.1.1.2.2.1 = true → a.2 = 0) ∧ (a.1.1.2.2.1 = false → a.2 = iget a.1.1.2.2.2 (0 + (a.1.1.1 - 1) * 1))) ∧ a.1.1.2.2.2.length = 4
theorem spec_mk (F : Nat) (hF : 1000 < F) {row : List Int} (hl : row.length = 4) (hr : ∀ x ∈ row, tileOK x) : k88_p F row = some (mkR row) := by
  have h := loop_fold (step := k88_s3 F row) (fun k (a : (RS × List Bool) × Int) => (((a.1.1.1 : Nat) : Int), a.2, k, a.1.2)) 4 (fun k a => gstep a (iget row (0 + k * 1))) (fun a => a.1.2) GI (F := F) (by omega) (by omega) (a := (((0, 0, false, [0, 0, 0, 0]), [false, false, false, false]), 0))
    ⟨Nat.le_refl 0, ⟨rfl, fun h => absurd h (by decide), fun j _ => by rw [bgetL]; rcases j with _ | _ | _ | _ | j <;> simp⟩, fun h => absurd h (by decide), rfl⟩
    (fun k a hk hI => by
      obtain ⟨⟨⟨n, sc, mg, out⟩, ms⟩, last⟩ := a
      obtain ⟨i1, i2, i3, i4⟩ := hI
      have hx : tileOK (iget row (0 + k * 1)) := by
        rw [show 0 + k * 1 = k by omega]
        exact iget_ok hr (by omega)
      simp only at i1 i3 i4
      have hk' : (k : Int) < 4 := by omega
      have hsn : IntKind.wrap .i64 ((n : Int) + 1) = ((n + 1 : Nat) : Int) := wrap_succ (n := 4) (by omega) (by omega)
      have hst : ∀ x : Int, (∀ (Q : Type) (kn : Int × Int × Int × List Bool → Option Q) (kx : List Bool → Option Q), k88_s3 F row Q ((n : Int), last, (k : Int), ms) kn kx = kn ((((gstep (((n, sc, mg, out), ms), last) x).1.1.1 : Nat) : Int), (gstep (((n, sc, mg, out), ms), last) x).2, IntKind.wrap .i64 ((k : Int) + 1), (gstep (((n, sc, mg, out), ms), last) x).1.2)) → GI (k + 1) (gstep (((n, sc, mg, out), ms), last) x) →
          GI (k + 1) (gstep (((n, sc, mg, out), ms), last) x) ∧ ∀ (Q : Type) (kn : Int × Int × Int × List Bool → Option Q) (kx : List Bool → Option Q), k88_s3 F row Q ((n : Int), last, (k : Int), ms) kn kx = kn ((((gstep (((n, sc, mg, out), ms), last) x).1.1.1 : Nat) : Int), (gstep (((n, sc, mg, out), ms), last) x).2, IntKind.wrap .i64 ((k : Int) + 1), (gstep (((n, sc, mg, out), ms), last) x).1.2) := fun x h1 h2 => ⟨h2, h1⟩
      generalize hxe : iget row (0 + k * 1) = x at hx
      simp [tileOK, inB] at hx
      refine hst x ?_ ?_
      · intro Q kn kx
        cases hx0 : x == 0 with
        | true => simp only [k88_s3, hk', hk, inR_cast, Int.toNat_natCast, decide_true, cond_true, hxe, hx0, gstep]
        | false =>
          have hne : x ≠ 0 := by rw [beq_eq_false_iff_ne] at hx0; exact hx0
          by_cases hn : 0 < n
          · have hn' : (0 : Int) < (n : Int) := by omega
            have hp : IntKind.wrap .i64 ((n : Int) - 1) = ((n - 1 : Nat) : Int) := wrap_pred hn (by omega)
            have hp4 : n - 1 < 4 := by omega
            have hmg : bget ms (0 + (n - 1) * 1) = mg := i2.2.1 hn
            obtain ⟨l1, l2⟩ := i3 hn
            cases mg with
            | true =>
              have hz : ((0 : Int) == x) = false := by rw [beq_eq_false_iff_ne]; exact Ne.symm hne
              simp only [k88_s3, hk', hk, inR_cast, Int.toNat_natCast, decide_true, cond_true, cond_false, hxe, hx0, hn', l1 rfl, hz, hsn, gstep, rhit, rstep2, rstep, Bool.not_true, Bool.and_false]
            | false =>
              have l3 := l2 rfl
              subst l3
              cases hq : iget out (0 + (n - 1) * 1) == x with
              | false => simp only [k88_s3, hk', hk, inR_cast, Int.toNat_natCast, decide_true, cond_true, cond_false, hxe, hx0, hn', hq, hsn, gstep, rhit, rstep2, rstep, Bool.and_false, Bool.false_and]
              | true =>
                by_cases h17 : x < 17
                · simp only [k88_s3, hk', hk, inR_cast, Int.toNat_natCast, decide_true, cond_true, cond_false, hxe, hx0, hn', hn, hq, h17, hp, hp4, hmg, hsn, gstep, rhit, rstep2, rstep, Bool.not_false, Bool.and_self]
                · simp only [k88_s3, hk', hk, inR_cast, Int.toNat_natCast, decide_true, decide_false, cond_true, cond_false, hxe, hx0, hn', hn, hq, h17, hsn, gstep, rhit, rstep2, rstep, Bool.and_false, Bool.false_and]
          · have hn' : ¬ (0 : Int) < (n : Int) := by omega
            simp only [k88_s3, hk', hk, inR_cast, Int.toNat_natCast, decide_true, decide_false, cond_true, cond_false, hxe, hx0, hn', hn, hsn, gstep, rhit, rstep2, rstep, Bool.false_and]
      · cases hx0 : x == 0 with
        | true =>
          unfold gstep
          rw [hx0, cond_true]
          exact ⟨by show n ≤ k + 1; omega, i2, i3, i4⟩
        | false =>
          have hm := (rstep2_MI (x := x) i2 (by show n < 4; omega)).1
          unfold gstep
          rw [hx0, cond_false]
          cases hc : rhit (n, sc, mg, out) x with
          | true =>
            have e : rstep (n, sc, mg, out) x = (n, IntKind.wrap .i64 (sc + W (x + 1)), true, iset out (0 + (n - 1) * 1) (x + 1)) := by
              unfold rhit at hc
              unfold rstep
              rw [hc]; rfl
            refine ⟨?_, hm, fun _ => ⟨fun _ => rfl, fun hf => ?_⟩, ?_⟩
            · show (rstep (n, sc, mg, out) x).1 ≤ k + 1
              rw [e]; show n ≤ k + 1; omega
            · have hf : (rstep (n, sc, mg, out) x).2.2.1 = false := hf
              rw [e] at hf; cases hf
            · show (rstep (n, sc, mg, out) x).2.2.2.length = 4
              rw [e]; show (iset _ _ _).length = 4; rw [iset_len]; exact i4
          | false =>
            have e : rstep (n, sc, mg, out) x = (n + 1, sc, false, iset out (0 + n * 1) x) := by
              unfold rhit at hc
              unfold rstep
              rw [hc]; rfl
            refine ⟨?_, hm, fun _ => ⟨fun hf => ?_, fun _ => ?_⟩, ?_⟩
            · show (rstep (n, sc, mg, out) x).1 ≤ k + 1
              rw [e]; show n + 1 ≤ k + 1; omega
            · have hf : (rstep (n, sc, mg, out) x).2.2.1 = true := hf
              rw [e] at hf; cases hf
            · show x = iget (rstep (n, sc, mg, out) x).2.2.2 (0 + ((rstep (n, sc, mg, out) x).1 - 1) * 1)
              rw [e]
              show x = iget (iset out (0 + n * 1) x) (0 + (n + 1 - 1) * 1)
              rw [iget_iset _ _ _ _ (by omega), if_pos (by omega)]
            · show (rstep (n, sc, mg, out) x).2.2.2.length = 4
              rw [e]; show (iset _ _ _).length = 4; rw [iset_len]; exact i4)
    (fun a _ Q kn kx => by simp [k88_s3])
  obtain ⟨x0, x1, x2, x3, rfl⟩ := list4 hl
  have e : fld (fun k a => gstep a (iget [x0, x1, x2, x3] (0 + k * 1))) 0 4 (((0, 0, false, [0, 0, 0, 0]), [false, false, false, false]), 0) = [x0, x1, x2, x3].foldl gstep (((0, 0, false, [0, 0, 0, 0]), [false, false, false, false]), 0) := rfl
  have h1 : k88_l3 F [x0, x1, x2, x3] 0 0 0 [false, false, false, false] = some (mkR [x0, x1, x2, x3]) := by
    have h2 := h.1
    rw [e, gfold_fst] at h2
    exact h2
  simp only [k88_p, k88_c, h1, Option.isSome_some, Option.getD_some, cond_true]
theorem cnt_fld (rows : LL) (k : Nat) : fld (fun n (y : Nat) => bif bget (mkR (rget rows n)) k then y + 1 else y) 0 rows.length 0 = mgN rows k := by
  rw [fld_rget rows (fun x (y : Nat) => bif bget (mkR x) k then y + 1 else y)]
  have key : ∀ (l : LL) (y : Nat), l.foldl (fun y x => bif bget (mkR x) k then y + 1 else y) y = y + (l.filter fun r => bget (mkR r) k).length := by
    intro l
    induction l with
    | nil => intro y; rfl
    | cons x l ih =>
      intro y
      rw [List.foldl_cons, ih, List.filter_cons]
      cases bget (mkR x) k with
      | true => simp; omega
      | false => simp
  rw [key, Nat.zero_add]; rfl
section
variable (F : Nat) (hF : 1000 < F) {rows : LL} (h4 : ∀ x ∈ rows, x.length = 4 ∧ ∀ y ∈ x, tileOK y) (hl : rows.length ≤ 256)
include hF h4 hl
theorem spec_cnt (d : Int) (s st : Bool) {i k : Nat} (hi : i < 4) (hk : k < 4) {a b c e : LL} (hg : llget [a, b, c, e] (0 + i * 1) = rows) (m ln : List Int) : k77_l12 F d s st i k a b c e m ln 0 0 = some ((mgN rows k : Nat) : Int) := by
  have h := loop_fold (step := k77_s12 F d s st i k a b c e m ln) (fun n (y : Nat) => (((y : Nat) : Int), n)) rows.length (fun n y => bif bget (mkR (rget rows n)) k then y + 1 else y) (fun y => ((y : Nat) : Int)) (fun n y => y ≤ n) (F := F) (by omega) (by omega) (a := 0) (Nat.le_refl 0)
    (fun n y hn hI => ⟨by
      show (bif bget (mkR (rget rows n)) k then y + 1 else y) ≤ n + 1
      have hI : y ≤ n := hI
      cases bget (mkR (rget rows n)) k <;> simp <;> omega, fun Q kn kx => by
      have hI : y ≤ n := hI
      have hr := h4 (rget rows n) (by rw [rgetL, List.getElem?_eq_getElem hn]; exact List.getElem_mem hn)
      have hw : IntKind.wrap .i64 (((y : Nat) : Int) + 1) = ((y + 1 : Nat) : Int) := by rw [wrap_of (by omega) (by omega)]; omega
      have hk1 : k * 1 = k := by omega
      simp only [k77_s12, hi, hk, hg, Int.ofNat_lt, hn, inR_cast, Int.toNat_natCast, decide_true, cond_true, spec_mk F hF hr.1 hr.2, Option.isSome_some, Option.getD_some, hw, hk1]
      cases bget (mkR (rget rows n)) k <;> rfl⟩) (fun y _ Q kn kx => by
        have e : decide (((rows.length : Nat) : Int) < ((rows.length : Nat) : Int)) = false := by simp
        simp only [k77_s12, hi, hg, inR_cast, Int.toNat_natCast, decide_true, cond_true, e, cond_false])
  have h1 := h.1
  rw [cnt_fld] at h1
  exact h1
theorem impl_cnt (d : Int) (al : Bool) (o : Int) (st : Bool) (i : Int) (rw0 : LL) {k : Nat} (hk : k < 4) (a b c e : LL) (t1 t2 : Int) (bb : List Int) (m : List (List Int × Bool)) : k39_l22 F d al o st i rw0 k a b c e t1 t2 rows ((rows.length : Nat) : Int) bb m 0 0 = some ((mgN rows k : Nat) : Int) := by
  have h := loop_fold (step := k39_s22 F d al o st i rw0 k a b c e t1 t2 rows ((rows.length : Nat) : Int) bb m) (fun n (y : Nat) => (((y : Nat) : Int), n)) rows.length (fun n y => bif bget (mkR (rget rows n)) k then y + 1 else y) (fun y => ((y : Nat) : Int)) (fun n y => y ≤ n) (F := F) (by omega) (by omega) (a := 0) (Nat.le_refl 0)
    (fun n y hn hI => ⟨by
      show (bif bget (mkR (rget rows n)) k then y + 1 else y) ≤ n + 1
      have hI : y ≤ n := hI
      cases bget (mkR (rget rows n)) k <;> simp <;> omega, fun Q kn kx => by
      have hI : y ≤ n := hI
      have hr := h4 (rget rows n) (by rw [rgetL, List.getElem?_eq_getElem hn]; exact List.getElem_mem hn)
      have hw : IntKind.wrap .i64 (((y : Nat) : Int) + 1) = ((y + 1 : Nat) : Int) := by rw [wrap_of (by omega) (by omega)]; omega
      have hk1 : 0 + k * 1 = k := by omega
      have hm : bget (rslide2 (rget rows n)).2 (0 + k * 1) = bget (mkR (rget rows n)) k := by rw [hk1]; rfl
      simp only [k39_s22, hk, Int.ofNat_lt, hn, inR_cast, Int.toNat_natCast, decide_true, cond_true, impl_row2 F _ hr.1 hr.2 hF, Option.isSome_some, Option.getD_some, hw, hm]
      cases bget (mkR (rget rows n)) k <;> rfl⟩) (fun y _ Q kn kx => by simp [k39_s22])
  have h1 := h.1
  rw [cnt_fld] at h1
  exact h1
end
end Go.Lv.P
