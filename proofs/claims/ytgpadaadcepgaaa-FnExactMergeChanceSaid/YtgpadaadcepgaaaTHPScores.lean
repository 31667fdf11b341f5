/-
Slides that score: there and back.
-/
import Derived.Test.YtgpadaadcepgaaaTHPSlide
import Derived.Test.YtgpadaadcepgaaaTHPFull
namespace Go.Lv.P
open Go Go.Lv
set_option linter.unusedVariables false
set_option linter.unusedSimpArgs false
set_option linter.unusedSectionVars false

def pr (x y : Int) : Bool := (x == y) && decide (y < 17)
theorem pr_comm (x y : Int) : pr x y = pr y x := by
  unfold pr
  cases h : x == y with
  | true => rw [eq_of_beq h]; simp
  | false =>
    have : (y == x) = false := by rw [beq_eq_false_iff_ne] at h ⊢; exact fun e => h e.symm
    rw [this]; rfl
def hasP : List Int → Bool
  | x :: y :: l => pr x y || hasP (y :: l)
  | _ => false
theorem hasP_rev : ∀ l : List Int, l.length ≤ 4 → hasP l.reverse = hasP l
  | [], _ => rfl
  | [a], _ => rfl
  | [a, b], _ => by show (pr b a || false) = (pr a b || false); rw [pr_comm]
  | [a, b, c], _ => by
    show (pr c b || (pr b a || false)) = (pr a b || (pr b c || false))
    rw [pr_comm c b, pr_comm b a]; cases pr a b <;> cases pr b c <;> rfl
  | [a, b, c, d], _ => by
    show (pr d c || (pr c b || (pr b a || false))) = (pr a b || (pr b c || (pr c d || false)))
    rw [pr_comm d c, pr_comm c b, pr_comm b a]; cases pr a b <;> cases pr b c <;> cases pr c d <;> rfl
  | _ :: _ :: _ :: _ :: _ :: _, h => by simp at h
theorem W_pos {x : Int} (h : inB x 1 17 = true) (h17 : decide (x < 17) = true) : 0 < W (x + 1) ∧ W (x + 1) ≤ 131072 := by
  simp [inB] at h
  simp at h17
  obtain ⟨n, rfl, h1, h2⟩ : ∃ n : Nat, x = n ∧ 1 ≤ n ∧ n < 17 := ⟨x.toNat, by omega, by omega, by omega⟩
  obtain rfl | rfl | rfl | rfl | rfl | rfl | rfl | rfl | rfl | rfl | rfl | rfl | rfl | rfl | rfl | rfl : n = 1 ∨ n = 2 ∨ n = 3 ∨ n = 4 ∨ n = 5 ∨ n = 6 ∨ n = 7 ∨ n = 8 ∨ n = 9 ∨ n = 10 ∨ n = 11 ∨ n = 12 ∨ n = 13 ∨ n = 14 ∨ n = 15 ∨ n = 16 := by omega
  all_goals (constructor <;> decide)
theorem fold_pos : ∀ (l : List Int) (x : Int) (s : RS), (∀ y ∈ l, inB y 1 17 = true) → 0 < s.1 → s.1 + l.length ≤ 4 → s.2.2.2.length = 4 → iget s.2.2.2 (0 + (s.1 - 1) * 1) = x → s.2.2.1 = false → s.2.1 = 0 → decide (0 < (l.foldl rstep s).2.1) = hasP (x :: l)
  | [], x, s, _, _, _, _, _, _, h0 => by show decide (0 < s.2.1) = false; rw [h0]; exact decide_eq_false (by omega)
  | y :: l, x, s, hl, hp, hn, h4, hx, hm, h0 => by
    rw [List.foldl_cons]
    have hy := hl y List.mem_cons_self
    show _ = (pr x y || hasP (y :: l))
    cases hpr : pr x y with
    | true =>
      have e : rstep s y = (s.1, IntKind.wrap .i64 (s.2.1 + W (y + 1)), true, iset s.2.2.2 (0 + (s.1 - 1) * 1) (y + 1)) := by
        unfold rstep
        rw [hx, hm, decide_eq_true hp, Bool.true_and, show ((x == y) && decide (y < 17)) = true from hpr]; rfl
      have h17 : decide (y < 17) = true := by unfold pr at hpr; cases h : decide (y < 17) with | true => rfl | false => rw [h, Bool.and_false] at hpr; cases hpr
      obtain ⟨w1, w2⟩ := W_pos hy h17
      have es : (rstep s y).2.1 = W (y + 1) := by rw [e]; show IntKind.wrap .i64 (s.2.1 + W (y + 1)) = _; rw [h0, Int.zero_add, wrap_of (by omega) (by omega)]
      simp only [List.length_cons] at hn
      have := (rfold_score l (rstep s y) (fun z hz => hl z (List.mem_cons_of_mem _ hz)) (by omega) (by omega)).1
      rw [decide_eq_true (by omega)]; rfl
    | false =>
      have e : rstep s y = (s.1 + 1, s.2.1, false, iset s.2.2.2 (0 + s.1 * 1) y) := by
        unfold rstep
        rw [hx, hm, decide_eq_true hp, Bool.true_and, show ((x == y) && decide (y < 17)) = false from hpr]; rfl
      simp only [List.length_cons] at hn
      have ih := fold_pos l y (rstep s y) (fun z hz => hl z (List.mem_cons_of_mem _ hz)) (by rw [e]; simp) (by rw [e]; simp only; omega) (by rw [e]; simp only; rw [iset_len]; exact h4) (by
        rw [e]
        show iget (iset s.2.2.2 (0 + s.1 * 1) y) (0 + (s.1 + 1 - 1) * 1) = y
        rw [Nat.add_sub_cancel, igetL, isetL, List.getElem?_set_self (by omega)]; rfl) (by rw [e]) (by rw [e]; exact h0)
      rw [ih]; rfl
theorem row_pos {row : List Int} (hl : row.length = 4) (hr : ∀ x ∈ row, tileOK x) : decide (0 < (rslide row).2.1) = hasP (row.filter fun x => !(x == 0)) := by
  have ht := tiles_in hr
  have hn : (row.filter fun x => !(x == 0)).length ≤ 4 := hl ▸ List.length_filter_le _ _
  unfold rslide
  generalize (row.filter fun x => !(x == 0)) = l at *
  cases l with
  | nil => rfl
  | cons x l =>
    simp only [List.length_cons] at hn
    exact fold_pos l x (1, 0, false, [x, 0, 0, 0]) (fun y hy => ht y (List.mem_cons_of_mem _ hy)) Nat.one_pos (by simp only; omega) rfl rfl rfl rfl
theorem row_rev {a b c d : Int} (hr : ∀ x ∈ [a, b, c, d], tileOK x) : decide (0 < (rslide [d, c, b, a]).2.1) = decide (0 < (rslide [a, b, c, d]).2.1) := by
  rw [row_pos rfl hr, row_pos rfl (fun x hx => hr x (by simp at hx ⊢; rcases hx with h | h | h | h <;> simp [h])), ← hasP_rev _ (List.length_filter_le _ [a, b, c, d]), ← List.filter_reverse]
  rfl
section
variable {b : List Int} (hb : b.length = 16) (ok : okB b = true)
include hb ok
theorem pos_rows {d : Nat} (hd : d < 4) : decide (0 < (slideB b d).2) = (decide (0 < (rslide (lineB b d 0)).2.1) || decide (0 < (rslide (lineB b d 1)).2.1) || decide (0 < (rslide (lineB b d 2)).2.1) || decide (0 < (rslide (lineB b d 3)).2.1)) := by
  have hl : ∀ i, i < 4 → 0 ≤ (rslide (lineB b d i)).2.1 ∧ (rslide (lineB b d i)).2.1 ≤ 524288 := fun i hi => rslide_score rfl (line_ok hb ((okB_iff b).1 ok) hd hi)
  have l0 := hl 0 (by omega)
  have l1 := hl 1 (by omega)
  have l2 := hl 2 (by omega)
  have l3 := hl 3 (by omega)
  have e : (slideB b d).2 = IntKind.wrap .i64 (IntKind.wrap .i64 (IntKind.wrap .i64 (IntKind.wrap .i64 (0 + (rslide (lineB b d 0)).2.1) + (rslide (lineB b d 1)).2.1) + (rslide (lineB b d 2)).2.1) + (rslide (lineB b d 3)).2.1) := rfl
  rw [e, wrap_of (n := 0 + _) (by omega) (by omega), wrap_of (n := 0 + _ + _) (by omega) (by omega), wrap_of (n := 0 + _ + _ + _) (by omega) (by omega), wrap_of (by omega) (by omega)]
  rw [Bool.eq_iff_iff]
  simp only [Bool.or_eq_true, decide_eq_true_eq]
  omega
/-- there and back -/
theorem pos_back {d : Nat} (hd : d < 2) : decide (0 < (slideB b (d + 2)).2) = decide (0 < (slideB b d).2) := by
  rw [pos_rows hb ok (by omega), pos_rows hb ok (by omega)]
  have hl : ∀ i, i < 4 → decide (0 < (rslide (lineB b (d + 2) i)).2.1) = decide (0 < (rslide (lineB b d i)).2.1) := fun i hi => by
    have h := row_rev (line_ok hb ((okB_iff b).1 ok) (d := d) (by omega) hi)
    rw [← show lineB b d i = [iget b (plcD d i 0), iget b (plcD d i 1), iget b (plcD d i 2), iget b (plcD d i 3)] from rfl] at h
    rw [← h]
    obtain rfl | rfl : d = 0 ∨ d = 1 := by omega
    · rfl
    · rfl
  rw [hl 0 (by omega), hl 1 (by omega), hl 2 (by omega), hl 3 (by omega)]
end
/-- some slide scores -/
def tScore (b : List Int) : Bool := fnd (fun d => decide (0 < (slideB b d).2)) (fun _ => true) false 0 4
theorem tScore2 {b : List Int} (hb : b.length = 16) (ok : okB b = true) : fnd (fun d => decide (0 < (slideB b d).2)) (fun _ => true) false 0 2 = tScore b := by
  have h2 := pos_back hb ok (d := 0) (by omega)
  have h3 := pos_back hb ok (d := 1) (by omega)
  simp only [Nat.zero_add] at h2
  have e : tScore b = (bif decide (0 < (slideB b 0).2) then true else bif decide (0 < (slideB b 1).2) then true else bif decide (0 < (slideB b 2).2) then true else bif decide (0 < (slideB b 3).2) then true else false) := rfl
  have e2 : fnd (fun d => decide (0 < (slideB b d).2)) (fun _ => true) false 0 2 = (bif decide (0 < (slideB b 0).2) then true else bif decide (0 < (slideB b 1).2) then true else false) := rfl
  rw [e, e2, h2, show decide (0 < (slideB b 3).2) = _ from h3]
  cases decide (0 < (slideB b 0).2) <;> cases decide (0 < (slideB b 1).2) <;> rfl
end Go.Lv.P
