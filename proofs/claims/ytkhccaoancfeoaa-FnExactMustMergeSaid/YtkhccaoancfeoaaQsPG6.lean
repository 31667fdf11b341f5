/-
Plain facts of the pure functions, part 6; without conditions.
-/
import Derived.Test.YtkhccaoancfeoaaQsPG5
import Derived.Test.YtkhccaoancfeoaaQsPG3
import Derived.Test.YtkhccaoancfeoaaQsP0
import Derived.Test.YtkhccaoancfeoaaQsP1
import Derived.Test.YtkhccaoancfeoaaQsP5
import Derived.Test.YtkhccaoancfeoaaQsPG1
set_option linter.unusedVariables false
set_option linter.unusedSimpArgs false
set_option linter.unusedSectionVars false
namespace Go.Lv.P
open Go Go.Lv
theorem W_tileM {x : Int} (h : inB x 0 17 = true) (h0 : x ≠ 0) : ∃ t : Nat, t ≤ 16 ∧ W x = ((2 * 2 ^ t : Nat) : Int) := by
  simp [inB] at h
  refine ⟨x.toNat - 1, by omega, ?_⟩
  have e : x.toNat = x.toNat - 1 + 1 := by omega
  unfold W
  rw [if_neg h0]
  conv => lhs; rw [e, Int.pow_succ]
  rw [Int.natCast_mul, Int.natCast_pow]; exact Int.mul_comm _ _
/-- the marks of a row -/
def mkR (r : List Int) : List Bool := (rslide2 r).2
/-- how many rows have a merger at a place -/
def mgN (rows : LL) (k : Nat) : Nat := (rows.filter fun r => bget (mkR r) k).length
theorem tr_zero : ∀ {l : List Bool}, tr l = 0 → ∀ k, bget l k = false
  | [], _, k => rfl
  | b :: l, h, 0 => by
    simp only [tr] at h
    cases b with
    | false => rfl
    | true => simp at h
  | b :: l, h, k + 1 => by
    simp only [tr] at h
    have : tr l = 0 := by cases b <;> simp at h <;> omega
    exact tr_zero (l := l) this k
/-- tiles before and behind -/
theorem row_tilesM {r : List Int} (hl : r.length = 4) (h : ∀ x ∈ r, tileOK x) : fs isT (slR r) = fs isT r - ((tr (mkR r) : Nat) : Int) := by
  have key : ∀ l : List Int, (∀ m ∈ l, inB m 2 17 = true) → fs (fun m => isT m - 2 * isT (m - 1)) l = -((l.length : Nat) : Int) := by
    intro l
    induction l with
    | nil => intro _; rfl
    | cons x l ih =>
      intro h
      have hx := h x List.mem_cons_self
      simp [inB] at hx
      simp only [fs, List.length_cons]
      rw [ih fun m hm => h m (List.mem_cons_of_mem _ hm), isT, isT, if_neg (by omega), if_neg (by omega)]
      omega
  have := row_fs hl h isT rfl
  rw [key _ (rowM_ok hl h)] at this
  unfold mkR
  rw [rslide2_tr hl]
  show fs isT (rslide r).2.2.2 = _
  omega
theorem row_sumW {r : List Int} (hl : r.length = 4) (h : ∀ x ∈ r, tileOK x) : fs W (slR r) = fs W r := by
  have := row_fs hl h W rfl
  rw [fs_zero fun m hm => W_double (rowM_ok hl h m hm)] at this
  show fs W (rslide r).2.2.2 = _
  omega
section
variable {r : List Int} (hl : r.length = 4) (h : ∀ x ∈ r, tileOK x) (hs : slR r = r)
include hl h hs
/-- what slides to itself merges nothing -/
theorem still_marks (k : Nat) : bget (mkR r) k = false := by
  have := row_tilesM hl h
  rw [hs] at this
  exact tr_zero (by omega) k
theorem still_in : r ∈ rbL r := by
  have := rb_all hl h
  rw [hs] at this; exact this
/-- one row more: the row, moved on by one place, merges nothing -/
theorem still_shift {q : List Int} (hq : q ∈ rbL r) (hne : q ≠ r) : ∃ q' ∈ rbL r, q' ≠ r ∧ ∀ k, bget (mkR q') k = false := by
  have hfl : flushB r = true := by have := slide_flush hl h; rw [hs] at this; exact this
  obtain ⟨⟨q4, qok⟩, qs⟩ := (rb_facts hl h).2 q hq
  obtain ⟨a, b, c, d, rfl⟩ := list4 hl
  have ht := row_tilesM q4 qok
  rw [qs] at ht
  -- a full row has itself alone before it
  have hd : d = 0 := by
    refine Classical.byContradiction fun hd => ?_
    have h4 : (tl [a, b, c, d]).length = 4 ∨ d = 0 := by
      unfold flushB at hfl
      have hfl := eq_of_beq hfl
      by_cases hlen : (tl [a, b, c, d]).length = 4
      · exact .inl hlen
      · right
        have hle : (tl [a, b, c, d]).length ≤ 4 := List.length_filter_le _ _
        have hmem : d ∈ tl [a, b, c, d] ∨ d = 0 := by
          by_cases e : d = 0
          · exact .inr e
          · left
            refine List.mem_filter.2 ⟨by simp, by simp [e]⟩
        rcases hmem with hmem | e
        · rw [hfl] at hmem
          -- the tiles come first
          have : (tl [a, b, c, d]).length = (tl ([a, b, c, d].take (tl [a, b, c, d]).length)).length := by
            have e1 : tl (tl [a, b, c, d]) = tl [a, b, c, d] := by unfold tl; rw [List.filter_filter]; simp
            rw [← hfl, e1]
          have hcount : (tl [a, b, c, d]).length = ([a, b, c, d].filter fun x => !(x == 0)).length := rfl
          have hdrop : (tl ([a, b, c, d].drop (tl [a, b, c, d]).length)).length = 0 := by
            have hsp : tl [a, b, c, d] = tl ([a, b, c, d].take (tl [a, b, c, d]).length) ++ tl ([a, b, c, d].drop (tl [a, b, c, d]).length) := by
              unfold tl
              rw [← List.filter_append, List.take_append_drop]
            have := congrArg List.length hsp
            rw [List.length_append] at this
            omega
          have hdm : d ∈ [a, b, c, d].drop (tl [a, b, c, d]).length := by
            have : (tl [a, b, c, d]).length = 0 ∨ (tl [a, b, c, d]).length = 1 ∨ (tl [a, b, c, d]).length = 2 ∨ (tl [a, b, c, d]).length = 3 := by omega
            rcases this with e | e | e | e <;> rw [e] <;> simp
          refine Classical.byContradiction fun hd0 => ?_
          have hm2 : d ∈ tl ([a, b, c, d].drop (tl [a, b, c, d]).length) := List.mem_filter.2 ⟨hdm, by simp [hd0]⟩
          have := List.length_pos_of_mem hm2
          omega
        · exact e
    rcases h4 with h4 | h4
    · have hall : fs isT [a, b, c, d] = 4 := by
        have f : ∀ l : List Int, fs isT l = (((l.filter fun x => !(x == 0)).length : Nat) : Int) := by
          intro l
          induction l with
          | nil => rfl
          | cons x l ih =>
            rw [fs, ih, List.filter_cons]
            by_cases hx : x = 0
            · subst hx; simp [isT]
            · have : (x == 0) = false := beq_eq_false_iff_ne.2 hx
              simp [isT, hx, this]; omega
        rw [f]
        have : ([a, b, c, d].filter fun x => !(x == 0)).length = 4 := h4
        omega
      have hq4 : fs isT q ≤ 4 := by
        have := (fs_bound (f := isT) (m := 1) (l := q) fun x _ => by unfold isT; split <;> omega).2
        omega
      have htr : tr (mkR q) = 0 := by omega
      have hm : rowM q = [] := by
        have := rslide2_tr q4
        unfold mkR at htr
        rw [htr] at this
        exact List.length_eq_zero_iff.1 this.symm
      have hp := row_pack q4 hm
      have hp : slR q = packR q := hp
      rw [qs] at hp
      have hqf : fs isT q = 4 := by omega
      obtain ⟨x0, x1, x2, x3, rfl⟩ := list4 q4
      have n0 : x0 ≠ 0 := fun e => by subst e; have := (fs_bound (f := isT) (m := 1) (l := [x1, x2, x3]) fun x _ => by unfold isT; split <;> omega).2; simp only [fs, isT, if_true] at hqf this; simp at this; omega
      have n1 : x1 ≠ 0 := fun e => by subst e; have := (fs_bound (f := isT) (m := 1) (l := [x0, x2, x3]) fun x _ => by unfold isT; split <;> omega).2; simp only [fs, isT, if_true] at hqf this; simp at this; omega
      have n2 : x2 ≠ 0 := fun e => by subst e; have := (fs_bound (f := isT) (m := 1) (l := [x0, x1, x3]) fun x _ => by unfold isT; split <;> omega).2; simp only [fs, isT, if_true] at hqf this; simp at this; omega
      have n3 : x3 ≠ 0 := fun e => by subst e; have := (fs_bound (f := isT) (m := 1) (l := [x0, x1, x2]) fun x _ => by unfold isT; split <;> omega).2; simp only [fs, isT, if_true] at hqf this; simp at this; omega
      have e0 : (x0 == 0) = false := beq_eq_false_iff_ne.2 n0
      have e1 : (x1 == 0) = false := beq_eq_false_iff_ne.2 n1
      have e2 : (x2 == 0) = false := beq_eq_false_iff_ne.2 n2
      have e3 : (x3 == 0) = false := beq_eq_false_iff_ne.2 n3
      have hpk : packR [x0, x1, x2, x3] = [x0, x1, x2, x3] := by simp [packR, nzf, e0, e1, e2, e3]
      rw [hpk] at hp
      exact hne hp.symm
    · exact hd h4
  -- an empty row too
  have ha : a ≠ 0 := fun ha => by
    have hz : [a, b, c, d] = [0, 0, 0, 0] := by
      have hpre : tl [a, b, c, d] = [a, b, c, d].take (tl [a, b, c, d]).length := eq_of_beq hfl
      have : (tl [a, b, c, d]).length = 0 := by
        refine Classical.byContradiction fun hn => ?_
        have hm : a ∈ [a, b, c, d].take (tl [a, b, c, d]).length := by
          obtain ⟨n, hn⟩ : ∃ n, (tl [a, b, c, d]).length = n + 1 := ⟨(tl [a, b, c, d]).length - 1, by omega⟩
          rw [hn, List.take_succ_cons]; exact List.mem_cons_self
        rw [← hpre] at hm
        have := (List.mem_filter.1 hm).2
        rw [ha] at this; cases this
      have hnil : tl [a, b, c, d] = [] := List.length_eq_zero_iff.1 this
      have hz : ∀ x ∈ [a, b, c, d], x = 0 := fun x hx => by
        refine Classical.byContradiction fun hx0 => ?_
        have : x ∈ tl [a, b, c, d] := List.mem_filter.2 ⟨hx, by simp [hx0]⟩
        rw [hnil] at this; cases this
      rw [hz a (by simp), hz b (by simp), hz c (by simp), hz d (by simp)]
    have hw := row_sumW q4 qok
    rw [qs, hz] at hw
    have hq0 : ∀ x ∈ q, x = 0 := by
      have key : ∀ l : List Int, (∀ x ∈ l, tileOK x) → fs W l = 0 → ∀ x ∈ l, x = 0 := by
        intro l
        induction l with
        | nil => intro _ _ x hx; cases hx
        | cons y l ih =>
          intro hok h0 x hx
          have hy := hok y List.mem_cons_self
          have w0 := (W_facts hy).1
          have wl : 0 ≤ fs W l := (fs_bound (f := W) (m := 131072) (l := l) fun z hz => ⟨(W_facts (hok z (List.mem_cons_of_mem _ hz))).1, (W_facts (hok z (List.mem_cons_of_mem _ hz))).2.1⟩).1
          simp only [fs] at h0
          have hy0 : y = 0 := by
            refine Classical.byContradiction fun hy0 => ?_
            obtain ⟨t, t1, t2⟩ := W_tileM hy hy0
            have := Nat.two_pow_pos t
            omega
          rcases List.mem_cons.1 hx with rfl | hx
          · exact hy0
          · exact ih (fun z hz => hok z (List.mem_cons_of_mem _ hz)) (by omega) x hx
      exact key q qok (by rw [← hw]; decide)
    have : q = [a, b, c, d] := by
      obtain ⟨x0, x1, x2, x3, rfl⟩ := list4 q4
      rw [hz, hq0 x0 (by simp), hq0 x1 (by simp), hq0 x2 (by simp), hq0 x3 (by simp)]
    exact hne this
  subst hd
  have hok' : ∀ x ∈ [0, a, b, c], tileOK x := fun x hx => by
    rcases List.mem_cons.1 hx with rfl | hx
    · decide
    · exact h x (by simp only [List.mem_cons, List.not_mem_nil, or_false] at hx ⊢; rcases hx with h | h | h <;> simp [h])
  have htl : ([0, a, b, c].filter fun x => !(x == 0)) = [a, b, c, 0].filter fun x => !(x == 0) := by
    have f0 : ∀ l : List Int, (0 :: l).filter (fun x => !(x == 0)) = l.filter fun x => !(x == 0) := fun l => by rw [List.filter_cons]; rfl
    have e : [a, b, c, (0 : Int)] = [a, b, c] ++ [0] := rfl
    rw [f0, e, List.filter_append]
    simp
  have hsl : slR [0, a, b, c] = [a, b, c, 0] := by
    have : slR [0, a, b, c] = slR [a, b, c, 0] := by unfold slR rslide; rw [htl]
    rw [this, hs]
  have hmk : mkR [0, a, b, c] = mkR [a, b, c, 0] := by unfold mkR rslide2; rw [htl]
  refine ⟨[0, a, b, c], ?_, fun e => ?_, fun k => ?_⟩
  · have := rb_all (r := [0, a, b, c]) rfl hok'
    rw [hsl] at this; exact this
  · injection e with e1 _
    exact ha e1.symm
  · rw [hmk]; exact still_marks hl h hs k
end
end Go.Lv.P

namespace Go.Lv.P
open Go Go.Lv
def stillB (b : List Int) (d : Nat) : Bool := (slideB b d).1 == b
/-- the reference's condition for the place k of the line i -/
def cS (b : List Int) (d : Nat) (some1 : Bool) (i k : Nat) : Bool :=
  bif some1 then decide (0 < mgN (rwB b d i) k) else Nat.beq (mgN (rwB b d i) k) (rwB b d i).length && !stillB b d
def otherB (b : List Int) (d : Nat) : Nat := fld (fun i n => bif decide (1 < (rwB b d i).length) then n + 1 else n) 0 4 0
/-- the rows that the program looks at -/
def rowsI (b : List Int) (d i : Nat) : LL := bif stillB b d && (decide (1 < (rwB b d i).length) && Nat.beq (otherB b d) 1) then (rwB b d i).filter fun x => !(x == lineB b d i) else rwB b d i
def cI (b : List Int) (d : Nat) (all : Bool) (i k : Nat) : Bool := Nat.beq (mgN (rowsI b d i) k) (rowsI b d i).length || (!all && decide (0 < mgN (rowsI b d i) k))
theorem filter_lt {α : Type} {p : α → Bool} {l : List α} {x : α} (hx : x ∈ l) (hp : p x = false) : (l.filter p).length < l.length := by
  induction l with
  | nil => cases hx
  | cons a l ih =>
    have hle : (l.filter p).length ≤ l.length := List.length_filter_le _ _
    rw [List.filter_cons, List.length_cons]
    cases hpa : p a with
    | true =>
      rcases List.mem_cons.1 hx with e | hx
      · rw [← e, hp] at hpa; cases hpa
      · have := ih hx
        rw [if_pos rfl, List.length_cons]; omega
    | false => rw [if_neg (by simp)]; omega
section
variable {b : List Int} (hb : b.length = 16) (ok : okB b = true) {d : Nat} (hd : d < 4)
include hb ok hd
theorem line_ok4 {i : Nat} (hi : i < 4) : (lineB b d i).length = 4 ∧ ∀ x ∈ lineB b d i, tileOK x := ⟨rfl, line_ok hb ((okB_iff b).1 ok) hd hi⟩
theorem still_line (hs : stillB b d = true) {i : Nat} (hi : i < 4) : slR (lineB b d i) = lineB b d i := by
  have h := slide_lines hb ok hd hi
  have e : (slideB b d).1 = b := eq_of_beq hs
  rw [e] at h
  exact h.symm
theorem own_in (hs : stillB b d = true) {i : Nat} (hi : i < 4) : lineB b d i ∈ rwB b d i := still_in (line_ok4 hb ok hd hi).1 (line_ok4 hb ok hd hi).2 (still_line hb ok hd hs hi)
theorem own_mark (hs : stillB b d = true) {i : Nat} (hi : i < 4) (k : Nat) : bget (mkR (lineB b d i)) k = false := still_marks (line_ok4 hb ok hd hi).1 (line_ok4 hb ok hd hi).2 (still_line hb ok hd hs hi) k
theorem rw_asc {i : Nat} (hi : i < 4) : Asc (rwB b d i) := (rb_facts (line_ok4 hb ok hd hi).1 (line_ok4 hb ok hd hi).2).1
theorem rw_shift (hs : stillB b d = true) {i : Nat} (hi : i < 4) {q : List Int} (hq : q ∈ rwB b d i) (hne : q ≠ lineB b d i) : ∃ q' ∈ rwB b d i, q' ≠ lineB b d i ∧ ∀ k, bget (mkR q') k = false :=
  still_shift (line_ok4 hb ok hd hi).1 (line_ok4 hb ok hd hi).2 (still_line hb ok hd hs hi) hq hne
end
theorem asc_two : ∀ {l : LL}, Asc l → 1 < l.length → ∀ x : List Int, ∃ q ∈ l, q ≠ x
  | [], _, h, _ => by simp at h
  | [a], _, h, _ => by simp at h
  | a :: c :: l, h, _, x => by
    by_cases hx : a = x
    · refine ⟨c, by simp, fun e => ?_⟩
      have := h.1 c List.mem_cons_self
      rw [hx, e, ltL_irr] at this; cases this
    · exact ⟨a, by simp, hx⟩
attribute [local irreducible] rwB mkR
section
variable {b : List Int} (hb : b.length = 16) (ok : okB b = true) {d : Nat} (hd : d < 4)
include hb ok hd
/-- how many boards there are before -/
theorem cnt_eq : cntB b d = bif stillB b d then ((rwB b d 0).length : Int) * (rwB b d 1).length * (rwB b d 2).length * (rwB b d 3).length - 1 else ((rwB b d 0).length : Int) * (rwB b d 1).length * (rwB b d 2).length * (rwB b d 3).length := by
  have l0 := rwB_len b d 0
  have l1 := rwB_len b d 1
  have l2 := rwB_len b d 2
  have l3 := rwB_len b d 3
  have m1 : (rwB b d 0).length * (rwB b d 1).length ≤ 256 * 256 := Nat.mul_le_mul l0 l1
  have m2 : (rwB b d 0).length * (rwB b d 1).length * (rwB b d 2).length ≤ 256 * 256 * 256 := Nat.mul_le_mul m1 l2
  have m3 : (rwB b d 0).length * (rwB b d 1).length * (rwB b d 2).length * (rwB b d 3).length ≤ 256 * 256 * 256 * 256 := Nat.mul_le_mul m2 l3
  unfold cntB stillB
  generalize (rwB b d 0).length = n0 at *
  generalize (rwB b d 1).length = n1 at *
  generalize (rwB b d 2).length = n2 at *
  generalize (rwB b d 3).length = n3 at *
  have c1 : ((n0 : Int) * n1) = ((n0 * n1 : Nat) : Int) := by rw [Int.natCast_mul]
  have c2 : ((n0 : Int) * n1 * n2) = ((n0 * n1 * n2 : Nat) : Int) := by rw [Int.natCast_mul, Int.natCast_mul]
  have c3 : ((n0 : Int) * n1 * n2 * n3) = ((n0 * n1 * n2 * n3 : Nat) : Int) := by rw [Int.natCast_mul, Int.natCast_mul, Int.natCast_mul]
  simp only
  rw [Int.one_mul, wrap_of (n := (n0 : Int)) (by omega) (by omega), c1, wrap_of (n := ((n0 * n1 : Nat) : Int)) (by omega) (by omega), ← c1, c2, wrap_of (n := ((n0 * n1 * n2 : Nat) : Int)) (by omega) (by omega), ← c2, c3, wrap_of (n := ((n0 * n1 * n2 * n3 : Nat) : Int)) (by omega) (by omega), wrap_of (by omega) (by omega)]
theorem rows_some (hc : (cntB b d == 0) = false) {i : Nat} (hi : i < 4) : 0 < (rwB b d i).length := by
  have h := cnt_eq hb ok hd
  cases hs : stillB b d with
  | true => exact List.length_pos_of_mem (own_in hb ok hd hs hi)
  | false =>
    rw [hs, cond_false] at h
    rw [beq_eq_false_iff_ne] at hc
    refine Nat.pos_of_ne_zero fun h0 => hc ?_
    rw [h]
    obtain rfl | rfl | rfl | rfl : i = 0 ∨ i = 1 ∨ i = 2 ∨ i = 3 := by omega
    all_goals (rw [h0]; simp)
theorem mg_own (hs : stillB b d = true) {i : Nat} (hi : i < 4) (k : Nat) : mgN (rwB b d i) k < (rwB b d i).length := filter_lt (own_in hb ok hd hs hi) (own_mark hb ok hd hs hi k)
/-- both conditions are one -/
theorem cond_same (hc : (cntB b d == 0) = false) (all : Bool) {i : Nat} (hi : i < 4) (k : Nat) : cI b d all i k = cS b d (!all) i k := by
  have hn := rows_some hb ok hd hc hi
  have fin : ∀ (y n : Nat) (st : Bool), 0 < n → (st = true → y < n) → (Nat.beq y n || (!all && decide (0 < y))) = bif !all then decide (0 < y) else Nat.beq y n && !st := fun y n st hn hst => by
    cases all with
    | true =>
      simp only [Bool.not_true, Bool.false_and, Bool.or_false, cond_false]
      cases st with
      | false => simp
      | true =>
        have : Nat.beq y n = false := by rw [← Bool.not_eq_true, Nat.beq_eq]; have := hst rfl; omega
        rw [this]; rfl
    | false =>
      simp only [Bool.not_false, Bool.true_and, cond_true]
      by_cases hy : 0 < y
      · rw [decide_eq_true hy, Bool.or_true]
      · have : Nat.beq y n = false := by rw [← Bool.not_eq_true, Nat.beq_eq]; omega
        rw [this, decide_eq_false hy]; rfl
  unfold cI cS
  cases hs : stillB b d with
  | false =>
    have e : rowsI b d i = rwB b d i := by unfold rowsI; rw [hs]; rfl
    rw [e]
    exact fin _ _ false hn fun h => by cases h
  | true =>
    cases ho : (decide (1 < (rwB b d i).length) && Nat.beq (otherB b d) 1) with
    | false =>
      have e : rowsI b d i = rwB b d i := by unfold rowsI; rw [hs, ho]; rfl
      rw [e]
      exact fin _ _ true hn fun _ => mg_own hb ok hd hs hi k
    | true =>
      have e : rowsI b d i = (rwB b d i).filter fun x => !(x == lineB b d i) := by unfold rowsI; rw [hs, ho]; rfl
      have hy : mgN (rowsI b d i) k = mgN (rwB b d i) k := by
        rw [e, mgN, mgN, List.filter_filter]
        refine congrArg List.length (List.filter_congr fun x hx => ?_)
        by_cases hxo : x = lineB b d i
        · rw [hxo, own_mark hb ok hd hs hi k]; rfl
        · have : (x == lineB b d i) = false := beq_eq_false_iff_ne.2 hxo
          rw [this]; simp
      -- another row
      simp only [Bool.and_eq_true, decide_eq_true_eq] at ho
      obtain ⟨q, hq1, hq2⟩ := asc_two (rw_asc hb ok hd hi) ho.1 (lineB b d i)
      obtain ⟨q', h1, h2, h3⟩ := rw_shift hb ok hd hs hi hq1 hq2
      have hq' : q' ∈ rowsI b d i := by rw [e]; exact List.mem_filter.2 ⟨h1, by simp [h2]⟩
      have hlt : mgN (rowsI b d i) k < (rowsI b d i).length := filter_lt hq' (h3 k)
      have := fin (mgN (rowsI b d i) k) (rowsI b d i).length true (List.length_pos_of_mem hq') fun _ => hlt
      rw [this, hy]
      cases all with
      | true => simp only [Bool.not_true, cond_false, Bool.and_false]
      | false => rfl
end
/-! ### cells by their lines -/
/-- the line and the place of a cell -/
def liD (d p : Nat) : Nat := match d with
  | 0 => p / 4
  | 1 => p % 4
  | 2 => p / 4
  | _ => p % 4
def kiD (d p : Nat) : Nat := match d with
  | 0 => p % 4
  | 1 => p / 4
  | 2 => 3 - p % 4
  | _ => 3 - p / 4
theorem li_pl : ∀ d : Fin 4, ∀ p : Fin 16, liD d.val p.val < 4 ∧ kiD d.val p.val < 4 ∧ plcD d.val (liD d.val p.val) (kiD d.val p.val) = p.val := by decide
theorem pl_li : ∀ d i k : Fin 4, liD d.val (plcD d.val i.val k.val) = i.val ∧ kiD d.val (plcD d.val i.val k.val) = k.val := by decide
def celL (p : Nat) : List Int := [((p / 4 : Nat) : Int), ((p % 4 : Nat) : Int)]
theorem celL_inj {p q : Nat} (h : celL p = celL q) : p = q := by
  unfold celL at h
  injection h with h1 h
  injection h with h2 _
  omega
/-- the cells whose tile has come out of a merger -/
def mgd (b : List Int) (d : Nat) (some1 : Bool) : LL := ((List.range 16).filter fun p => cS b d some1 (liD d p) (kiD d p)).map celL
theorem mgd_len (b : List Int) (d : Nat) (some1 : Bool) : (mgd b d some1).length ≤ 16 := by
  rw [mgd, List.length_map]
  exact Nat.le_trans (List.length_filter_le _ _) (by simp)
theorem mgd_two (b : List Int) (d : Nat) (some1 : Bool) : ∀ x ∈ mgd b d some1, x.length = 2 := by
  intro x hx
  obtain ⟨p, _, rfl⟩ := List.mem_map.1 hx
  rfl
/-- marks, put one by one -/
theorem marks_at {pl : Nat → Nat} {C : Nat → Bool} (hlt : ∀ j, j < 16 → pl j < 16) (hinj : ∀ i j, i < 16 → j < 16 → pl i = pl j → i = j) : ∀ (n i : Nat) (m : List Int), i + n = 16 → m.length = 16 → ∀ j0, j0 < 16 →
    iget (fld (fun j m => bif C j then iset m (pl j) 1 else m) i n m) (pl j0) = if i ≤ j0 ∧ C j0 = true then 1 else iget m (pl j0)
  | 0, i, m, hi, hm, j0, h0 => by rw [fld, if_neg (by omega)]
  | n + 1, i, m, hi, hm, j0, h0 => by
    rw [fld, marks_at hlt hinj n (i + 1) _ (by omega) (by cases C i <;> simp [isetL, hm]) j0 h0]
    by_cases h1 : i + 1 ≤ j0
    · by_cases hc : C j0 = true
      · rw [if_pos ⟨h1, hc⟩, if_pos ⟨by omega, hc⟩]
      · rw [if_neg (by simp [hc]), if_neg (by simp [hc])]
        cases hci : C i with
        | false => rfl
        | true =>
          have := hlt i (by omega)
          rw [cond_true, iget_iset _ _ _ _ (by omega), if_neg (fun e => by have := hinj i j0 (by omega) h0 e; omega)]
    · rw [if_neg (by omega)]
      by_cases h2 : i = j0
      · subst h2
        cases hci : C i with
        | false => rw [if_neg (by simp)]; rfl
        | true =>
          have := hlt i (by omega)
          rw [if_pos ⟨Nat.le_refl _, rfl⟩, cond_true, iget_iset _ _ _ _ (by omega), if_pos rfl]
      · rw [if_neg (by omega)]
        cases hci : C i with
        | false => rfl
        | true =>
          have := hlt i (by omega)
          rw [cond_true, iget_iset _ _ _ _ (by omega), if_neg (fun e => h2 (hinj i j0 (by omega) h0 e))]
theorem mlook_put {α : Type} (c k : List Int) (v : α) : ∀ m : List (List Int × α), mlook c (mput k v m) = bif c == k then some v else mlook c m
  | [] => by simp only [mput, mlook]
  | (x, u) :: m => by
    simp only [mput]
    cases hkx : k == x with
    | true =>
      have e := eq_of_beq hkx
      subst e
      simp only [cond_true, mlook]
      cases c == k <;> rfl
    | false =>
      simp only [cond_false, mlook, mlook_put c k v m]
      cases hcx : c == x with
      | true =>
        have e := eq_of_beq hcx
        subst e
        have : (c == k) = false := by
          rw [beq_eq_false_iff_ne] at hkx ⊢; exact Ne.symm hkx
        rw [this]; rfl
      | false => simp only [cond_false]
theorem flags_at {cl : Nat → List Int} {D : Nat → Bool} (hinj : ∀ i j, i < 16 → j < 16 → cl i = cl j → i = j) : ∀ (n i : Nat) (m : List (List Int × Bool)), i + n = 16 → ∀ j0, j0 < 16 →
    mlook (cl j0) (fld (fun j m => mput (cl j) (D j) m) i n m) = if i ≤ j0 then some (D j0) else mlook (cl j0) m
  | 0, i, m, hi, j0, h0 => by rw [fld, if_neg (by omega)]
  | n + 1, i, m, hi, j0, h0 => by
    rw [fld, flags_at hinj n (i + 1) _ (by omega) j0 h0, mlook_put]
    by_cases h1 : i + 1 ≤ j0
    · rw [if_pos h1, if_pos (by omega)]
    · rw [if_neg h1]
      by_cases h2 : i = j0
      · subst h2
        rw [if_pos (Nat.le_refl _), beq_self_eq_true]; rfl
      · have : (cl j0 == cl i) = false := by rw [beq_eq_false_iff_ne]; exact fun e => h2 (hinj i j0 (by omega) h0 e.symm)
        rw [this, if_neg (by omega)]; rfl
theorem list_if {p : Nat → Bool} : ∀ (n i : Nat) (o : LL), fld (fun j o => bif p j then o ++ [celL j] else o) i n o = o ++ ((List.range' i n).filter p).map celL
  | 0, i, o => by simp [fld]
  | n + 1, i, o => by
    rw [fld, list_if n (i + 1), List.range'_succ, List.filter_cons]
    cases p i with
    | true => simp [List.append_assoc]
    | false => simp
theorem cells_rng : cells16 = (List.range 16).map celL := rfl
end Go.Lv.P

namespace Go.Lv.P
open Go Go.Lv
/-- one number of a row, as the reference looks for mergers -/
def gstep (a : (RS × List Bool) × Int) (x : Int) : (RS × List Bool) × Int := bif x == 0 then a else (rstep2 a.1 x, bif rhit a.1.1 x then 0 else x)
theorem gfold_fst : ∀ (l : List Int) (a : (RS × List Bool) × Int), (l.foldl gstep a).1 = (l.filter fun x => !(x == 0)).foldl rstep2 a.1
  | [], a => rfl
  | x :: l, a => by
    rw [List.foldl_cons, gfold_fst l, List.filter_cons]
    unfold gstep
    cases x == 0 <;> rfl
def GI (k : Nat) (a : (RS × List Bool) × Int) : Prop := a.1.1.1 ≤ k ∧ MI a.1 ∧ (0 < a.1.1.1 → (a.1.1.2.2.1 = true → a.2 = 0) ∧ (a.1.1.2.2.1 = false → a.2 = iget a.1.1.2.2.2 (0 + (a.1.1.1 - 1) * 1))) ∧ a.1.1.2.2.2.length = 4
theorem spec_mk (F : Nat) (hF : 1000 < F) {row : List Int} (hl : row.length = 4) (hr : ∀ x ∈ row, tileOK x) : spec_l6Merged_p F row = some (mkR row) := by
  have h := loop_fold (step := spec_l6Merged_s3 F row) (fun k (a : (RS × List Bool) × Int) => (((a.1.1.1 : Nat) : Int), a.2, k, a.1.2)) 4 (fun k a => gstep a (iget row (0 + k * 1))) (fun a => a.1.2) GI (F := F) (by omega) (by omega) (a := (((0, 0, false, [0, 0, 0, 0]), [false, false, false, false]), 0))
    ⟨Nat.le_refl 0, ⟨rfl, fun h => absurd h (by decide), fun j _ => by rw [bgetL]; rcases j with _ | _ | _ | _ | j <;> simp⟩, fun h => absurd h (by decide), rfl⟩
    (fun k a hk hI => by
      obtain ⟨⟨⟨n, sc, mg, out⟩, ms⟩, last⟩ := a
      obtain ⟨i1, i2, i3, i4⟩ := hI
      have hx : tileOK (iget row (0 + k * 1)) := by
        rw [show 0 + k * 1 = k by omega]
        exact iget_ok hr (by omega)
      simp only at i1 i3 i4
      have hk' : (k : Int) < 4 := by omega
      have hsn : IntKind.wrap .i64 ((n : Int) + 1) = ((n + 1 : Nat) : Int) := wrap_succ (n := 4) (by omega) (by omega)
      have hst : ∀ x : Int, (∀ (Q : Type) (kn : Int × Int × Int × List Bool → Option Q) (kx : List Bool → Option Q), spec_l6Merged_s3 F row Q ((n : Int), last, (k : Int), ms) kn kx = kn ((((gstep (((n, sc, mg, out), ms), last) x).1.1.1 : Nat) : Int), (gstep (((n, sc, mg, out), ms), last) x).2, IntKind.wrap .i64 ((k : Int) + 1), (gstep (((n, sc, mg, out), ms), last) x).1.2)) → GI (k + 1) (gstep (((n, sc, mg, out), ms), last) x) →
          GI (k + 1) (gstep (((n, sc, mg, out), ms), last) x) ∧ ∀ (Q : Type) (kn : Int × Int × Int × List Bool → Option Q) (kx : List Bool → Option Q), spec_l6Merged_s3 F row Q ((n : Int), last, (k : Int), ms) kn kx = kn ((((gstep (((n, sc, mg, out), ms), last) x).1.1.1 : Nat) : Int), (gstep (((n, sc, mg, out), ms), last) x).2, IntKind.wrap .i64 ((k : Int) + 1), (gstep (((n, sc, mg, out), ms), last) x).1.2) := fun x h1 h2 => ⟨h2, h1⟩
      generalize hxe : iget row (0 + k * 1) = x at hx
      simp [tileOK, inB] at hx
      refine hst x ?_ ?_
      · intro Q kn kx
        cases hx0 : x == 0 with
        | true => simp only [spec_l6Merged_s3, hk', hk, inR_cast, Int.toNat_natCast, decide_true, cond_true, hxe, hx0, gstep]
        | false =>
          have hne : x ≠ 0 := by rw [beq_eq_false_iff_ne] at hx0; exact hx0
          by_cases hn : 0 < n
          · have hn' : (0 : Int) < (n : Int) := by omega
            have hp : IntKind.wrap .i64 ((n : Int) - 1) = ((n - 1 : Nat) : Int) := wrap_pred hn (by omega)
            have hp4 : n - 1 < 4 := by omega
            have hmg : bget ms (0 + (n - 1) * 1) = mg := i2.2.1 hn
            obtain ⟨l1, l2⟩ := i3 hn
            cases mg with
            | true =>
              have hz : ((0 : Int) == x) = false := by rw [beq_eq_false_iff_ne]; exact Ne.symm hne
              simp only [spec_l6Merged_s3, hk', hk, inR_cast, Int.toNat_natCast, decide_true, cond_true, cond_false, hxe, hx0, hn', l1 rfl, hz, hsn, gstep, rhit, rstep2, rstep, Bool.not_true, Bool.and_false]
            | false =>
              have l3 := l2 rfl
              subst l3
              cases hq : iget out (0 + (n - 1) * 1) == x with
              | false => simp only [spec_l6Merged_s3, hk', hk, inR_cast, Int.toNat_natCast, decide_true, cond_true, cond_false, hxe, hx0, hn', hq, hsn, gstep, rhit, rstep2, rstep, Bool.and_false, Bool.false_and]
              | true =>
                by_cases h17 : x < 17
                · simp only [spec_l6Merged_s3, hk', hk, inR_cast, Int.toNat_natCast, decide_true, cond_true, cond_false, hxe, hx0, hn', hn, hq, h17, hp, hp4, hmg, hsn, gstep, rhit, rstep2, rstep, Bool.not_false, Bool.and_self]
                · simp only [spec_l6Merged_s3, hk', hk, inR_cast, Int.toNat_natCast, decide_true, decide_false, cond_true, cond_false, hxe, hx0, hn', hn, hq, h17, hsn, gstep, rhit, rstep2, rstep, Bool.and_false, Bool.false_and]
          · have hn' : ¬ (0 : Int) < (n : Int) := by omega
            simp only [spec_l6Merged_s3, hk', hk, inR_cast, Int.toNat_natCast, decide_true, decide_false, cond_true, cond_false, hxe, hx0, hn', hn, hsn, gstep, rhit, rstep2, rstep, Bool.false_and]
      · cases hx0 : x == 0 with
        | true =>
          unfold gstep
          rw [hx0, cond_true]
          exact ⟨by show n ≤ k + 1; omega, i2, i3, i4⟩
        | false =>
          have hm := (rstep2_MI (x := x) i2 (by show n < 4; omega)).1
          unfold gstep
          rw [hx0, cond_false]
          cases hc : rhit (n, sc, mg, out) x with
          | true =>
            have e : rstep (n, sc, mg, out) x = (n, IntKind.wrap .i64 (sc + W (x + 1)), true, iset out (0 + (n - 1) * 1) (x + 1)) := by
              unfold rhit at hc
              unfold rstep
              rw [hc]; rfl
            refine ⟨?_, hm, fun _ => ⟨fun _ => rfl, fun hf => ?_⟩, ?_⟩
            · show (rstep (n, sc, mg, out) x).1 ≤ k + 1
              rw [e]; show n ≤ k + 1; omega
            · have hf : (rstep (n, sc, mg, out) x).2.2.1 = false := hf
              rw [e] at hf; cases hf
            · show (rstep (n, sc, mg, out) x).2.2.2.length = 4
              rw [e]; show (iset _ _ _).length = 4; rw [iset_len]; exact i4
          | false =>
            have e : rstep (n, sc, mg, out) x = (n + 1, sc, false, iset out (0 + n * 1) x) := by
              unfold rhit at hc
              unfold rstep
              rw [hc]; rfl
            refine ⟨?_, hm, fun _ => ⟨fun hf => ?_, fun _ => ?_⟩, ?_⟩
            · show (rstep (n, sc, mg, out) x).1 ≤ k + 1
              rw [e]; show n + 1 ≤ k + 1; omega
            · have hf : (rstep (n, sc, mg, out) x).2.2.1 = true := hf
              rw [e] at hf; cases hf
            · show x = iget (rstep (n, sc, mg, out) x).2.2.2 (0 + ((rstep (n, sc, mg, out) x).1 - 1) * 1)
              rw [e]
              show x = iget (iset out (0 + n * 1) x) (0 + (n + 1 - 1) * 1)
              rw [iget_iset _ _ _ _ (by omega), if_pos (by omega)]
            · show (rstep (n, sc, mg, out) x).2.2.2.length = 4
              rw [e]; show (iset _ _ _).length = 4; rw [iset_len]; exact i4)
    (fun a _ Q kn kx => by simp [spec_l6Merged_s3])
  obtain ⟨x0, x1, x2, x3, rfl⟩ := list4 hl
  have e : fld (fun k a => gstep a (iget [x0, x1, x2, x3] (0 + k * 1))) 0 4 (((0, 0, false, [0, 0, 0, 0]), [false, false, false, false]), 0) = [x0, x1, x2, x3].foldl gstep (((0, 0, false, [0, 0, 0, 0]), [false, false, false, false]), 0) := rfl
  have h1 : spec_l6Merged_l3 F [x0, x1, x2, x3] 0 0 0 [false, false, false, false] = some (mkR [x0, x1, x2, x3]) := by
    have h2 := h.1
    rw [e, gfold_fst] at h2
    exact h2
  simp only [spec_l6Merged_p, spec_l6Merged_c, h1, Option.isSome_some, Option.getD_some, cond_true]
theorem cnt_fld (rows : LL) (k : Nat) : fld (fun n (y : Nat) => bif bget (mkR (rget rows n)) k then y + 1 else y) 0 rows.length 0 = mgN rows k := by
  rw [fld_rget rows (fun x (y : Nat) => bif bget (mkR x) k then y + 1 else y)]
  have key : ∀ (l : LL) (y : Nat), l.foldl (fun y x => bif bget (mkR x) k then y + 1 else y) y = y + (l.filter fun r => bget (mkR r) k).length := by
    intro l
    induction l with
    | nil => intro y; rfl
    | cons x l ih =>
      intro y
      rw [List.foldl_cons, ih, List.filter_cons]
      cases bget (mkR x) k with
      | true => simp; omega
      | false => simp
  rw [key, Nat.zero_add]; rfl
section
variable (F : Nat) (hF : 1000 < F) {rows : LL} (h4 : ∀ x ∈ rows, x.length = 4 ∧ ∀ y ∈ x, tileOK y) (hl : rows.length ≤ 256)
include hF h4 hl
theorem spec_cnt (d : Int) (s st : Bool) {i k : Nat} (hi : i < 4) (hk : k < 4) {a b c e : LL} (hg : llget [a, b, c, e] (0 + i * 1) = rows) (m ln : List Int) : spec_l6Mergers_l12 F d s st i k a b c e m ln 0 0 = some ((mgN rows k : Nat) : Int) := by
  have h := loop_fold (step := spec_l6Mergers_s12 F d s st i k a b c e m ln) (fun n (y : Nat) => (((y : Nat) : Int), n)) rows.length (fun n y => bif bget (mkR (rget rows n)) k then y + 1 else y) (fun y => ((y : Nat) : Int)) (fun n y => y ≤ n) (F := F) (by omega) (by omega) (a := 0) (Nat.le_refl 0)
    (fun n y hn hI => ⟨by
      show (bif bget (mkR (rget rows n)) k then y + 1 else y) ≤ n + 1
      have hI : y ≤ n := hI
      cases bget (mkR (rget rows n)) k <;> simp <;> omega, fun Q kn kx => by
      have hI : y ≤ n := hI
      have hr := h4 (rget rows n) (by rw [rgetL, List.getElem?_eq_getElem hn]; exact List.getElem_mem hn)
      have hw : IntKind.wrap .i64 (((y : Nat) : Int) + 1) = ((y + 1 : Nat) : Int) := by rw [wrap_of (by omega) (by omega)]; omega
      have hk1 : k * 1 = k := by omega
      simp only [spec_l6Mergers_s12, hi, hk, hg, Int.ofNat_lt, hn, inR_cast, Int.toNat_natCast, decide_true, cond_true, spec_mk F hF hr.1 hr.2, Option.isSome_some, Option.getD_some, hw, hk1]
      cases bget (mkR (rget rows n)) k <;> rfl⟩) (fun y _ Q kn kx => by
        have e : decide (((rows.length : Nat) : Int) < ((rows.length : Nat) : Int)) = false := by simp
        simp only [spec_l6Mergers_s12, hi, hg, inR_cast, Int.toNat_natCast, decide_true, cond_true, e, cond_false])
  have h1 := h.1
  rw [cnt_fld] at h1
  exact h1
theorem impl_cnt (d : Int) (al : Bool) (o : Int) (st : Bool) (i : Int) (rw0 : LL) {k : Nat} (hk : k < 4) (a b c e : LL) (t1 t2 : Int) (bb : List Int) (m : List (List Int × Bool)) : impl_Board_merged_l22 F d al o st i rw0 k a b c e t1 t2 rows ((rows.length : Nat) : Int) bb m 0 0 = some ((mgN rows k : Nat) : Int) := by
  have h := loop_fold (step := impl_Board_merged_s22 F d al o st i rw0 k a b c e t1 t2 rows ((rows.length : Nat) : Int) bb m) (fun n (y : Nat) => (((y : Nat) : Int), n)) rows.length (fun n y => bif bget (mkR (rget rows n)) k then y + 1 else y) (fun y => ((y : Nat) : Int)) (fun n y => y ≤ n) (F := F) (by omega) (by omega) (a := 0) (Nat.le_refl 0)
    (fun n y hn hI => ⟨by
      show (bif bget (mkR (rget rows n)) k then y + 1 else y) ≤ n + 1
      have hI : y ≤ n := hI
      cases bget (mkR (rget rows n)) k <;> simp <;> omega, fun Q kn kx => by
      have hI : y ≤ n := hI
      have hr := h4 (rget rows n) (by rw [rgetL, List.getElem?_eq_getElem hn]; exact List.getElem_mem hn)
      have hw : IntKind.wrap .i64 (((y : Nat) : Int) + 1) = ((y + 1 : Nat) : Int) := by rw [wrap_of (by omega) (by omega)]; omega
      have hk1 : 0 + k * 1 = k := by omega
      have hm : bget (rslide2 (rget rows n)).2 (0 + k * 1) = bget (mkR (rget rows n)) k := by rw [hk1]; rfl
      simp only [impl_Board_merged_s22, hk, Int.ofNat_lt, hn, inR_cast, Int.toNat_natCast, decide_true, cond_true, impl_row2 F _ hr.1 hr.2 hF, Option.isSome_some, Option.getD_some, hw, hm]
      cases bget (mkR (rget rows n)) k <;> rfl⟩) (fun y _ Q kn kx => by simp [impl_Board_merged_s22])
  have h1 := h.1
  rw [cnt_fld] at h1
  exact h1
end
end Go.Lv.P

namespace Go.Lv.P
open Go Go.Lv
attribute [local irreducible] rwB mkR
theorem crd_at : ∀ d i k : Fin 4, iget (crd d.val i.val) (0 + k.val * 2) = ((plcD d.val i.val k.val / 4 : Nat) : Int) ∧ iget (crd d.val i.val) (0 + k.val * 2 + 1) = ((plcD d.val i.val k.val % 4 : Nat) : Int) := by decide
theorem cell_at : ∀ d i k : Fin 4, impl_lineCell_v ((d.val : Nat) : Int) ((i.val : Nat) : Int) ((k.val : Nat) : Int) = celL (plcD d.val i.val k.val) := by decide
theorem int_beq (a b : Nat) : (((a : Nat) : Int) == ((b : Nat) : Int)) = Nat.beq a b := by
  by_cases h : a = b
  · subst h; rw [beq_self_eq_true, Nat.beq_refl]
  · rw [show Nat.beq a b = false by rw [← Bool.not_eq_true, Nat.beq_eq]; exact h, beq_eq_false_iff_ne]; omega
/-- the reference's condition, by rows -/
def cSg (rows : LL) (s st : Bool) (k : Nat) : Bool := bif s then decide (0 < mgN rows k) else Nat.beq (mgN rows k) rows.length && !st
def cIg (rows : LL) (al : Bool) (k : Nat) : Bool := Nat.beq (mgN rows k) rows.length || (!al && decide (0 < mgN rows k))
section
variable (F : Nat) (hF : 1000 < F) {rows : LL} (h4 : ∀ x ∈ rows, x.length = 4 ∧ ∀ y ∈ x, tileOK y) (hl : rows.length ≤ 256)
include hF h4 hl
theorem spec_line8 {d i : Nat} (hd : d < 4) (hi : i < 4) (s st : Bool) {a b c e : LL} (hg : llget [a, b, c, e] (0 + i * 1) = rows) (m : List Int) :
    spec_l6Mergers_l8 F d s st i a b c e (crd d i) 0 m = some (fld (fun k m => bif cSg rows s st k then iset m (plcD d i k) 1 else m) 0 4 m) := by
  exact (loop_fold (step := spec_l6Mergers_s8 F d s st i a b c e (crd d i)) (fun k (m : List Int) => (k, m)) 4 (fun k m => bif cSg rows s st k then iset m (plcD d i k) 1 else m) (fun m => m) (fun _ _ => True) (F := F) (by omega) (by omega) (a := m) trivial
    (fun k m hk _ => ⟨trivial, fun Q kn kx => by
      have hk' : (k : Int) < 4 := by omega
      have hc := spec_cnt F hF h4 hl d s st hi hk hg m (crd d i)
      obtain ⟨c1, c2⟩ := crd_at ⟨d, hd⟩ ⟨i, hi⟩ ⟨k, hk⟩
      have c1 : iget (crd d i) (0 + k * 2) = ((plcD d i k / 4 : Nat) : Int) := c1
      have c2 : iget (crd d i) (0 + k * 2 + 1) = ((plcD d i k % 4 : Nat) : Int) := c2
      have hp := plcD_lt hd hi hk
      have r1 : plcD d i k / 4 < 4 := by omega
      have r2 : plcD d i k % 4 < 4 := by omega
      have hx : 0 + plcD d i k / 4 * 4 + plcD d i k % 4 * 1 = plcD d i k := by omega
      have hpos : decide ((0 : Int) < ((mgN rows k : Nat) : Int)) = decide (0 < mgN rows k) := by
        by_cases h : 0 < mgN rows k
        · rw [decide_eq_true h, decide_eq_true (by omega)]
        · rw [decide_eq_false h, decide_eq_false (by omega)]
      simp only [spec_l6Mergers_s8, hk', hk, hi, hc, hg, inR_cast, Int.toNat_natCast, decide_true, cond_true, c1, c2, r1, r2, hx, Option.isSome_some, Option.getD_some, hpos, int_beq, cSg]
      cases s with
      | true => cases decide (0 < mgN rows k) <;> rfl
      | false =>
        cases Nat.beq (mgN rows k) rows.length with
        | false => rfl
        | true => cases st <;> rfl⟩) (fun m _ Q kn kx => by simp [spec_l6Mergers_s8])).1
theorem impl_line18 {d i : Nat} (hd : d < 4) (hi : i < 4) (al : Bool) (o : Int) (st : Bool) (a b c e : LL) (t : Int) (bb : List Int) (m : List (List Int × Bool)) :
    impl_Board_merged_l18 F d al o st i rows a b c e t bb 0 m = some (fld (fun k m => mput (celL (plcD d i k)) (cIg rows al k) m) 0 4 m) := by
  exact (loop_fold (step := impl_Board_merged_s18 F d al o st i rows a b c e t bb) (fun k (m : List (List Int × Bool)) => (k, m)) 4 (fun k m => mput (celL (plcD d i k)) (cIg rows al k) m) (fun m => m) (fun _ _ => True) (F := F) (by omega) (by omega) (a := m) trivial
    (fun k m hk _ => ⟨trivial, fun Q kn kx => by
      have hk' : (k : Int) < 4 := by omega
      have hc := impl_cnt F hF h4 hl d al o st i rows hk a b c e t k bb m
      have hcell : impl_lineCell_v (d : Int) (i : Int) (k : Int) = celL (plcD d i k) := cell_at ⟨d, hd⟩ ⟨i, hi⟩ ⟨k, hk⟩
      have hpos : decide ((0 : Int) < ((mgN rows k : Nat) : Int)) = decide (0 < mgN rows k) := by
        by_cases h : 0 < mgN rows k
        · rw [decide_eq_true h, decide_eq_true (by omega)]
        · rw [decide_eq_false h, decide_eq_false (by omega)]
      simp only [impl_Board_merged_s18, hk', hc, hcell, decide_true, cond_true, Option.isSome_some, Option.getD_some, hpos, int_beq, cIg]
      cases Nat.beq (mgN rows k) rows.length with
      | true => rfl
      | false => cases al <;> rfl⟩) (fun m _ Q kn kx => by simp [impl_Board_merged_s18])).1
end
theorem llget4 (r : Nat → LL) {i : Nat} (hi : i < 4) : llget [r 0, r 1, r 2, r 3] (0 + i * 1) = r i := by
  obtain rfl | rfl | rfl | rfl : i = 0 ∨ i = 1 ∨ i = 2 ∨ i = 3 := by omega
  all_goals rfl
theorem fld_16 {A : Type} (h : Nat → Nat → A → A) (m : A) : fld (fun i m => fld (fun k m => h i k m) 0 4 m) 0 4 m = fld (fun j m => h (j / 4) (j % 4) m) 0 16 m := rfl
theorem celL_rc {r c : Nat} (hc : c < 4) : celL (0 + r * 4 + c * 1) = [(r : Int), (c : Int)] := by
  unfold celL
  rw [show (0 + r * 4 + c * 1) / 4 = r by omega, show (0 + r * 4 + c * 1) % 4 = c by omega]
def gCel (M : List Int) (j : Nat) (o : LL) : LL := bif iget M j == 1 then o ++ [celL j] else o
theorem gCel_len (M : List Int) (j : Nat) (o : LL) : (gCel M j o).length ≤ o.length + 1 := by
  unfold gCel
  cases iget M j == 1 with
  | true => rw [cond_true, List.length_append]; exact Nat.le_refl _
  | false => rw [cond_false]; exact Nat.le_succ _
theorem gCel_fld (M : List Int) (g : Nat → Nat) : ∀ (n i : Nat) (o : LL), (fld (fun c o => gCel M (g c) o) i n o).length ≤ o.length + n
  | 0, i, o => Nat.le_refl _
  | n + 1, i, o => by
    rw [fld]
    have h1 := gCel_fld M g n (i + 1) (gCel M (g i) o)
    have h2 := gCel_len M (g i) o
    exact Nat.le_trans h1 (by omega)
theorem fld_rc {A : Type} (g : Nat → A → A) (a : A) : fld (fun r a => fld (fun c a => g (0 + r * 4 + c * 1) a) 0 4 a) 0 4 a = fld g 0 16 a := rfl
theorem spec_cells23 (F : Nat) (hF : 1000 < F) (M : List Int) {r : Nat} (hr : r < 4) (o : LL) (ho : o.length ≤ 4 * r) : spec_l6Mergers_l23 F r M 0 o = some (fld (fun c o => gCel M (0 + r * 4 + c * 1) o) 0 4 o) :=
  (loop_fold (step := spec_l6Mergers_s23 F r M) (fun c (o : LL) => (c, o)) 4 (fun c o => gCel M (0 + r * 4 + c * 1) o) (fun o => o) (fun c o => o.length ≤ 4 * r + c) (F := F) (by omega) (by omega) (a := o) ho
    (fun c o hc hI => ⟨by
      have h1 := gCel_len M (0 + r * 4 + c * 1) o
      have hI : o.length ≤ 4 * r + c := hI
      exact Nat.le_trans h1 (by omega), fun Q kn kx => by
      have hI : o.length ≤ 4 * r + c := hI
      have hc' : (c : Int) < 4 := by omega
      have hf : fits (o ++ [[(r : Int), (c : Int)]]).length 16 = true := fits_of (by simp; omega) (by simp; omega)
      have hg : gCel M (0 + r * 4 + c * 1) o = bif iget M (0 + r * 4 + c * 1) == 1 then o ++ [[(r : Int), (c : Int)]] else o := by unfold gCel; rw [celL_rc hc]
      rw [hg]
      simp only [spec_l6Mergers_s23, hc', hc, hr, inR_cast, Int.toNat_natCast, decide_true, cond_true, subn_self, hf]
      cases iget M (0 + r * 4 + c * 1) == 1 <;> rfl⟩) (fun o _ Q kn kx => by simp [spec_l6Mergers_s23])).1
theorem spec_cells (F : Nat) (hF : 1000 < F) (M : List Int) : spec_l6Mergers_l20 F M 0 [] = some (fld (gCel M) 0 16 []) := by
  have h := loop_fold (step := spec_l6Mergers_s20 F M) (fun r (o : LL) => (r, o)) 4 (fun r o => fld (fun c o => gCel M (0 + r * 4 + c * 1) o) 0 4 o) (fun o => o) (fun r o => o.length ≤ 4 * r) (F := F) (by omega) (by omega) (a := []) (Nat.zero_le _)
    (fun r o hr hI => ⟨by
        have hI : o.length ≤ 4 * r := hI
        have h1 := gCel_fld M (fun c => 0 + r * 4 + c * 1) 4 0 o
        exact Nat.le_trans h1 (by omega), fun Q kn kx => by
        have hr' : (r : Int) < 4 := by omega
        simp only [spec_l6Mergers_s20, hr', spec_cells23 F hF M hr o hI, beq_selfL, Bool.true_and, decide_true, cond_true, Option.isSome_some, Option.getD_some]⟩) (fun o _ Q kn kx => by simp [spec_l6Mergers_s20])
  rw [fld_rc (gCel M)] at h
  exact h.1
section
variable {b : List Int} (hb : b.length = 16) (ok : okB b = true) {d : Nat} (hd : d < 4)
include hb ok hd
theorem rowsI_ok (i : Nat) (hi : i < 4) : (∀ x ∈ rowsI b d i, x.length = 4 ∧ ∀ y ∈ x, tileOK y) ∧ (rowsI b d i).length ≤ 256 := by
  have h1 := rw_ok hb ok hd hi
  have h2 := rwB_len b d i
  unfold rowsI
  cases (stillB b d && (decide (1 < (rwB b d i).length) && Nat.beq (otherB b d) 1)) with
  | true =>
    rw [cond_true]
    have := List.length_filter_le (fun x => !(x == lineB b d i)) (rwB b d i)
    exact ⟨fun x hx => h1 x (List.mem_filter.1 hx).1, by omega⟩
  | false => exact ⟨h1, h2⟩
theorem spec_marks (F : Nat) (hF : 1000 < F) (s : Bool) (m : List Int) : spec_l6Mergers_l4 F d s (stillB b d) (rwB b d 0) (rwB b d 1) (rwB b d 2) (rwB b d 3) 0 m = some (fld (fun j m => bif cS b d s (j / 4) (j % 4) then iset m (plcD d (j / 4) (j % 4)) 1 else m) 0 16 m) := by
  rw [← fld_16 (fun i k m => bif cS b d s i k then iset m (plcD d i k) 1 else m)]
  obtain ⟨G, rfl⟩ : ∃ G, F = G + 1001 := ⟨F - 1001, by omega⟩
  exact (loop_fold (step := spec_l6Mergers_s4 (G + 1001) d s (stillB b d) (rwB b d 0) (rwB b d 1) (rwB b d 2) (rwB b d 3)) (fun i (m : List Int) => (i, m)) 4 (fun i m => fld (fun k m => bif cS b d s i k then iset m (plcD d i k) 1 else m) 0 4 m) (fun m => m) (fun _ _ => True) (F := G + 1001) (by omega) (by omega) (a := m) trivial
    (fun i m hi _ => ⟨trivial, fun Q kn kx => by
      have hi' : (i : Int) < 4 := by omega
      have h := spec_line8 (G + 1001) hF (rw_ok hb ok hd hi) (rwB_len b d i) hd hi s (stillB b d) (llget4 (fun i => rwB b d i) hi) m
      simp only [spec_l6Mergers_s4, hi', spec_line G hd hi, h, decide_true, cond_true, Option.isSome_some, Option.getD_some]
      rfl⟩) (fun m _ Q kn kx => by simp [spec_l6Mergers_s4])).1
theorem impl_other (F : Nat) (hF : 1000 < F) (al : Bool) (bb : List Int) (p q r s : LL) : impl_Board_merged_l5 F d al (rwB b d 0) (rwB b d 1) (rwB b d 2) (rwB b d 3) bb p q r s 0 0 = some ((otherB b d : Nat) : Int) := by
  have h := loop_fold (step := impl_Board_merged_s5 F d al (rwB b d 0) (rwB b d 1) (rwB b d 2) (rwB b d 3) bb p q r s) (fun i (n : Nat) => (((n : Nat) : Int), i)) 4 (fun i n => bif decide (1 < (rwB b d i).length) then n + 1 else n) (fun n => ((n : Nat) : Int)) (fun i n => n ≤ i) (F := F) (by omega) (by omega) (a := 0) (Nat.le_refl 0)
    (fun i n hi hI => ⟨by
      show (bif decide (1 < (rwB b d i).length) then n + 1 else n) ≤ i + 1
      have hI : n ≤ i := hI
      cases decide (1 < (rwB b d i).length) <;> simp <;> omega, fun Q kn kx => by
      have hI : n ≤ i := hI
      have hi' : (i : Int) < 4 := by omega
      have hw : IntKind.wrap .i64 (((n : Nat) : Int) + 1) = ((n + 1 : Nat) : Int) := by rw [wrap_of (by omega) (by omega)]; omega
      have hg := llget4 (fun i => rwB b d i) hi
      rw [Nat.zero_add] at hg
      have hpos : decide ((1 : Int) < (((rwB b d i).length : Nat) : Int)) = decide (1 < (rwB b d i).length) := by
        by_cases h : 1 < (rwB b d i).length
        · rw [decide_eq_true h, decide_eq_true (by omega)]
        · rw [decide_eq_false h, decide_eq_false (by omega)]
      simp only [impl_Board_merged_s5, hi', hi, inR_cast, Int.toNat_natCast, decide_true, cond_true, hg, hpos, hw]
      cases decide (1 < (rwB b d i).length) <;> rfl⟩) (fun n _ Q kn kx => by simp [impl_Board_merged_s5])
  exact h.1
theorem impl_flags (F : Nat) (hF : 1000 < F) (al : Bool) (m : List (List Int × Bool)) : impl_Board_merged_l12 F d al ((otherB b d : Nat) : Int) (stillB b d) (rwB b d 0) (rwB b d 1) (rwB b d 2) (rwB b d 3) b 0 m = some (fld (fun j m => mput (celL (plcD d (j / 4) (j % 4))) (cI b d al (j / 4) (j % 4)) m) 0 16 m) := by
  rw [← fld_16 (fun i k m => mput (celL (plcD d i k)) (cI b d al i k) m)]
  exact (loop_fold (step := impl_Board_merged_s12 F d al ((otherB b d : Nat) : Int) (stillB b d) (rwB b d 0) (rwB b d 1) (rwB b d 2) (rwB b d 3) b) (fun i (m : List (List Int × Bool)) => (i, m)) 4 (fun i m => fld (fun k m => mput (celL (plcD d i k)) (cI b d al i k) m) 0 4 m) (fun m => m) (fun _ _ => True) (F := F) (by omega) (by omega) (a := m) trivial
    (fun i m hi _ => ⟨trivial, fun Q kn kx => by
      have hi' : (i : Int) < 4 := by omega
      have hg := llget4 (fun i => rwB b d i) hi
      rw [Nat.zero_add] at hg
      have hline := impl_line b hd hi
      have hw := rw_ok hb ok hd hi
      have hwl := rwB_len b d i
      obtain ⟨rI, rl⟩ := rowsI_ok hb ok hd i hi
      have h18 := impl_line18 F hF rI rl hd hi al ((otherB b d : Nat) : Int) (stillB b d) (rwB b d 0) (rwB b d 1) (rwB b d 2) (rwB b d 3) i b m
      have hf : fits (rwB b d i).length 32 = true := fits_of (by omega) (by omega)
      have hpos : decide ((1 : Int) < (((rwB b d i).length : Nat) : Int)) = decide (1 < (rwB b d i).length) := by
        by_cases h : 1 < (rwB b d i).length
        · rw [decide_eq_true h, decide_eq_true (by omega)]
        · rw [decide_eq_false h, decide_eq_false (by omega)]
      have hone : (((otherB b d : Nat) : Int) == 1) = Nat.beq (otherB b d) 1 := int_beq (otherB b d) 1
      have hgoal : (fun k m => mput (celL (plcD d i k)) (cI b d al i k) m) = (fun k (m : List (List Int × Bool)) => mput (celL (plcD d i k)) (cIg (rowsI b d i) al k) m) := rfl
      have hmid : ∀ c : Bool, (stillB b d && (decide (1 < (rwB b d i).length) && Nat.beq (otherB b d) 1)) = c → rowsI b d i = bif c then (rwB b d i).filter (fun x => !(x == lineB b d i)) else rwB b d i := fun c hc => by unfold rowsI; rw [hc]
      rw [hgoal]
      obtain ⟨r, d1, d2⟩ := DeleteFunc_own F (rwB b d i) (lineB b d i) (fun x => x == lineB b d i) (by omega) hF fun x _ => rfl
      have d3 : subn r.2.length r.2 0 r.1 = (rwB b d i).filter fun x => !(x == lineB b d i) := by rw [subn_take0]; exact d2.2.1
      simp only [impl_Board_merged_s12, hi', hi, inR_cast, Int.toNat_natCast, decide_true, cond_true, hline, hg, hpos, hone, hf, beq_selfL, Bool.true_and, d1, d3, Option.isSome_some, Option.getD_some]
      cases hs : stillB b d with
      | false =>
        have e := hmid false (by rw [hs]; rfl)
        rw [hs, e] at h18
        rw [e]
        simp only [cond_false] at h18 ⊢
        simp only [h18, Option.isSome_some, Option.getD_some, cond_true]
      | true =>
        cases hn : decide (1 < (rwB b d i).length) with
        | false =>
          have e := hmid false (by rw [hs, hn]; rfl)
          rw [hs, e] at h18
          rw [e]
          simp only [cond_false, cond_true] at h18 ⊢
          simp only [h18, Option.isSome_some, Option.getD_some, cond_true]
        | true =>
          cases ho : Nat.beq (otherB b d) 1 with
          | false =>
            have e := hmid false (by rw [hs, hn, ho]; rfl)
            rw [hs, e] at h18
            rw [e]
            simp only [cond_false, cond_true] at h18 ⊢
            simp only [h18, Option.isSome_some, Option.getD_some, cond_true]
          | true =>
            have e := hmid true (by rw [hs, hn, ho]; rfl)
            rw [hs, e] at h18
            rw [e]
            simp only [cond_true] at h18 ⊢
            simp only [h18, Option.isSome_some, Option.getD_some, cond_true]⟩) (fun m _ Q kn kx => by simp [impl_Board_merged_s12])).1
theorem pl_lt (j : Nat) (hj : j < 16) : plcD d (j / 4) (j % 4) < 16 := plcD_lt hd (by omega) (by omega)
theorem pl_inj (i j : Nat) (hi : i < 16) (hj : j < 16) (h : plcD d (i / 4) (i % 4) = plcD d (j / 4) (j % 4)) : i = j := by
  obtain ⟨a1, a2⟩ := pl_li ⟨d, hd⟩ ⟨i / 4, by omega⟩ ⟨i % 4, by omega⟩
  obtain ⟨b1, b2⟩ := pl_li ⟨d, hd⟩ ⟨j / 4, by omega⟩ ⟨j % 4, by omega⟩
  simp only at a1 a2 b1 b2
  rw [h, b1] at a1
  rw [h, b2] at a2
  omega
/-- the place of a cell, among lines -/
theorem cell_j (p : Nat) (hp : p < 16) : ∃ j, j < 16 ∧ plcD d (j / 4) (j % 4) = p ∧ j / 4 = liD d p ∧ j % 4 = kiD d p := by
  obtain ⟨h1, h2, h3⟩ := li_pl ⟨d, hd⟩ ⟨p, hp⟩
  simp only at h1 h2 h3
  exact ⟨liD d p * 4 + kiD d p, by omega, by rw [show (liD d p * 4 + kiD d p) / 4 = liD d p by omega, show (liD d p * 4 + kiD d p) % 4 = kiD d p by omega]; exact h3, by omega, by omega⟩
theorem spec_mgd (F : Nat) (hF : 1000 < F) (s : Bool) : spec_l6Mergers_p F b d s = some (mgd b d s) := by
  have hm := spec_marks hb ok hd F hF s [0, 0, 0, 0, 0, 0, 0, 0, 0, 0, 0, 0, 0, 0, 0, 0]
  generalize hM : fld (fun j m => bif cS b d s (j / 4) (j % 4) then iset m (plcD d (j / 4) (j % 4)) 1 else m) 0 16 [0, 0, 0, 0, 0, 0, 0, 0, 0, 0, 0, 0, 0, 0, 0, 0] = M at hm
  have hat : ∀ p, p < 16 → (iget M p == 1) = cS b d s (liD d p) (kiD d p) := fun p hp => by
    obtain ⟨j, hj, j1, j2, j3⟩ := cell_j hb ok hd p hp
    have h := marks_at (C := fun j => cS b d s (j / 4) (j % 4)) (pl_lt hb ok hd) (pl_inj hb ok hd) 16 0 [0, 0, 0, 0, 0, 0, 0, 0, 0, 0, 0, 0, 0, 0, 0, 0] rfl rfl j hj
    rw [hM, j1] at h
    have hz : iget [(0 : Int), 0, 0, 0, 0, 0, 0, 0, 0, 0, 0, 0, 0, 0, 0, 0] p = 0 := by
      have : ∀ p : Fin 16, iget [(0 : Int), 0, 0, 0, 0, 0, 0, 0, 0, 0, 0, 0, 0, 0, 0, 0] p.val = 0 := by decide
      exact this ⟨p, hp⟩
    rw [hz, j2, j3] at h
    rw [h]
    cases cS b d s (liD d p) (kiD d p) with
    | true => rw [if_pos ⟨Nat.zero_le _, rfl⟩]; rfl
    | false => rw [if_neg (by simp)]; rfl
  have h20 := spec_cells F hF M
  have hgCel : gCel M = fun j o => bif iget M j == 1 then o ++ [celL j] else o := rfl
  rw [hgCel, list_if (p := fun j => iget M j == 1) 16 0 [], List.nil_append] at h20
  have hr : List.range' 0 16 = List.range 16 := rfl
  have e : ((List.range' 0 16).filter fun j => iget M j == 1) = (List.range 16).filter fun p => cS b d s (liD d p) (kiD d p) := by
    rw [hr]
    exact List.filter_congr fun p hp => hat p (List.mem_range.1 hp)
  rw [e] at h20
  have h20 : spec_l6Mergers_l20 F M 0 [] = some (mgd b d s) := h20
  have hst : spec_l6Still_p F b d = some (stillB b d) := by
    simp only [spec_l6Still_p, spec_l6Still_c, spec_slide hb ok F hF hd, Option.isSome_some, Option.getD_some, cond_true]; rfl
  simp only [spec_l6Mergers_p, spec_l6Mergers_c, spec_lists hb ok F hF hd, hst, hm, h20, Option.isSome_some, Option.getD_some, cond_true]
theorem impl_mgd (F : Nat) (hF : 1000 < F) (al : Bool) : ∃ m : LL, impl_Board_merged_p F b d al = some (bif cntB b d == 0 then (0, false, []) else ((mgd b d (!al)).length, true, m)) ∧ ((cntB b d == 0) = false → m.take (mgd b d (!al)).length = mgd b d (!al) ∧ m.length = 16) := by
  have hf := impl_flags hb ok hd F hF al []
  generalize hM : fld (fun j m => mput (celL (plcD d (j / 4) (j % 4))) (cI b d al (j / 4) (j % 4)) m) 0 16 ([] : List (List Int × Bool)) = M at hf
  obtain ⟨r, d1, d2⟩ := DeleteFunc_flag F cells16 M (fun x => !(Option.getD (mlook x M) false)) (by decide) hF fun x _ => rfl
  have hin : inB (d : Int) 0 3 = true := by simp [inB]; omega
  have hst : ((slideB b d).1 == b) = stillB b d := rfl
  refine ⟨r.2, ?_, fun hc => ?_⟩
  · have hr : (cntB b d == 0) = false → r.1 = (mgd b d (!al)).length := fun hc => by
      rw [d2.1]
      have hat : ∀ p, p < 16 → (Option.getD (mlook (celL p) M) false) = cS b d (!al) (liD d p) (kiD d p) := fun p hp => by
        obtain ⟨j, hj, j1, j2, j3⟩ := cell_j hb ok hd p hp
        have h := flags_at (cl := fun j => celL (plcD d (j / 4) (j % 4))) (D := fun j => cI b d al (j / 4) (j % 4)) (fun i j hi hj e => pl_inj hb ok hd i j hi hj (celL_inj e)) 16 0 [] rfl j hj
        rw [hM, j1, if_pos (Nat.zero_le _), cond_same hb ok hd hc al (by omega), j2, j3] at h
        rw [h]; rfl
      rw [cells_rng, List.filter_map, List.length_map, mgd, List.length_map]
      refine congrArg List.length (List.filter_congr fun p hp => ?_)
      show (!!(Option.getD (mlook (celL p) M) false)) = _
      rw [Bool.not_not]; exact hat p (List.mem_range.1 hp)
    simp only [impl_Board_merged_p, impl_Board_merged_c, impl_IsBoard_eq F b hb hF, ok, impl_isDirection_v, in_eq, hin, impl_count hb ok F hF hd, impl_lines hb ok F hF hd, impl_other hb ok hd F hF al b, impl_slides1 hb ok F hF hd, hst, hf, d1, Option.isSome_some, Option.getD_some, cond_true, cond_false, Bool.not_true]
    cases hc : cntB b d == 0 with
    | true => rfl
    | false => rw [cond_false, cond_false, hr hc]
  · have hat : ∀ p, p < 16 → (Option.getD (mlook (celL p) M) false) = cS b d (!al) (liD d p) (kiD d p) := fun p hp => by
      obtain ⟨j, hj, j1, j2, j3⟩ := cell_j hb ok hd p hp
      have h := flags_at (cl := fun j => celL (plcD d (j / 4) (j % 4))) (D := fun j => cI b d al (j / 4) (j % 4)) (fun i j hi hj e => pl_inj hb ok hd i j hi hj (celL_inj e)) 16 0 [] rfl j hj
      rw [hM, j1, if_pos (Nat.zero_le _), cond_same hb ok hd hc al (by omega), j2, j3] at h
      rw [h]; rfl
    have e : (cells16.filter fun x => !!(Option.getD (mlook x M) false)) = mgd b d (!al) := by
      rw [cells_rng, List.filter_map, mgd]
      refine congrArg (List.map celL) (List.filter_congr fun p hp => ?_)
      show (!!(Option.getD (mlook (celL p) M) false)) = _
      rw [Bool.not_not]; exact hat p (List.mem_range.1 hp)
    refine ⟨?_, d2.2.2⟩
    have h2 := d2.2.1
    rw [e] at h2
    rw [← h2, List.length_take, Nat.min_eq_left]
    rw [d2.1, e, d2.2.2]
    exact mgd_len b d (!al)
end
end Go.Lv.P
