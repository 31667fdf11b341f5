/-
Plain facts of the pure functions, part 8; without conditions.
-/
import Derived.Test.YtabfliifleonaajGreatQjPG7
import Derived.Test.YtabfliifleonaajGreatQjP0
import Derived.Test.YtabfliifleonaajGreatQjP1
import Derived.Test.YtabfliifleonaajGreatQjP5
import Derived.Test.YtabfliifleonaajGreatQjP6
import Derived.Test.YtabfliifleonaajGreatQjPG3
set_option linter.unusedVariables false
set_option linter.unusedSimpArgs false
set_option linter.unusedSectionVars false
namespace Go.Lv.P
open Go Go.Lv
attribute [local irreducible] rwB mkR
theorem crd_at : ∀ d i k : Fin 4, iget (crd d.val i.val) (0 + k.val * 2) = ((plcD d.val i.val k.val / 4 : Nat) : Int) ∧ iget (crd d.val i.val) (0 + k.val * 2 + 1) = ((plcD d.val i.val k.val % 4 : Nat) : Int) := by decide
theorem cell_at : ∀ d i k : Fin 4, k82_v ((d.val : Nat) : Int) ((i.val : Nat) : Int) ((k.val : Nat) : Int) = celL (plcD d.val i.val k.val) := by decide
theorem int_beq (a b : Nat) : (((a : Nat) : Int) == ((b : Nat) : Int)) = Nat.beq a b := by
  by_cases h : a = b
  · subst h; rw [beq_self_eq_true, Nat.beq_refl]
  · rw [show Nat.beq a b = false by rw [← Bool.not_eq_true, Nat.beq_eq]; exact h, beq_eq_false_iff_ne]; omega
def cSg (rows : LL) (s st : Bool) (k : Nat) : Bool := bif s then decide (0 < mgN rows k) else Nat.beq (mgN rows k) rows.length && !st
def cIg (rows : LL) (al : Bool) (k : Nat) : Bool := Nat.beq (mgN rows k) rows.length || (!al && decide (0 < mgN rows k))
section
variable (F : Nat) (hF : 1000 < F) {rows : LL} (h4 : ∀ x ∈ rows, x.length = 4 ∧ ∀ y ∈ x, tileOK y) (hl : rows.length ≤ 256)
include hF h4 hl
theorem spec_line8 {d i : Nat} (hd : d < 4) (hi : i < 4) (s st : Bool) {a b c e : LL} (hg : llget [a, b, c, e] (0 + i * 1) = rows) (m : List Int) :
    k77_l8 F d s st i a b c e (crd d i) 0 m = some (fld (fun k m => bif cSg rows s st k then iset m (plcD d i k) 1 else m) 0 4 m) := by
  exact (loop_fold (step := k77_s8 F d s st i a b c e (crd d i)) (fun k (m : List Int) => (k, m)) 4 (fun k m => bif cSg rows s st k then iset m (plcD d i k) 1 else m) (fun m => m) (fun _ _ => True) (F := F) (by omega) (by omega) (a := m) trivial
    (fun k m hk _ => ⟨trivial, fun Q kn kx => by
      have hk' : (k : Int) < 4 := by omega
      have hc := spec_cnt F hF h4 hl d s st hi hk hg m (crd d i)
      obtain ⟨c1, c2⟩ := crd_at ⟨d, hd⟩ ⟨i, hi⟩ ⟨k, hk⟩
      have c1 : iget (crd d i) (0 + k * 2) = ((plcD d i k / 4 : Nat) : Int) := c1
      have c2 : iget (crd d i) (0 + k * 2 + 1) = ((plcD d i k % 4 : Nat) : Int) := c2
      have hp := plcD_lt hd hi hk
      have r1 : plcD d i k / 4 < 4 := by omega
      have r2 : plcD d i k % 4 < 4 := by omega
      have hx : 0 + plcD d i k / 4 * 4 + plcD d i k % 4 * 1 = plcD d i k := by omega
      have hpos : decide ((0 : Int) < ((mgN rows k : Nat) : Int)) = decide (0 < mgN rows k) := by
        by_cases h : 0 < mgN rows k
        · rw [decide_eq_true h, decide_eq_true (by omega)]
        · rw [decide_eq_false h, decide_eq_false (by omega)]
      simp only [k77_s8, hk', hk, hi, hc, hg, inR_cast, Int.toNat_natCast, decide_true, cond_true, c1, c2, r1, r2, hx, Option.isSome_some, Option.getD_some, hpos, int_beq, cSg]
      cases s with
      | true => cases decide (0 < mgN rows k) <;> rfl
      | false =>
        cases Nat.beq (mgN rows k) rows.length with
        | false => rfl
        | true => cases st <;> rfl⟩) (fun m _ Q kn kx => by simp [k77_s8])).1
theorem impl_line18 {d i : Nat} (hd : d < 4) (hi : i < 4) (al : Bool) (o : Int) (st : Bool) (a b c e : LL) (t : Int) (bb : List Int) (m : List (List Int × Bool)) :
    k39_l18 F d al o st i rows a b c e t bb 0 m = some (fld (fun k m => mput (celL (plcD d i k)) (cIg rows al k) m) 0 4 m) := by
  exact (loop_fold (step := k39_s18 F d al o st i rows a b c e t bb) (fun k (m : List (List Int × Bool)) => (k, m)) 4 (fun k m => mput (celL (plcD d i k)) (cIg rows al k) m) (fun m => m) (fun _ _ => True) (F := F) (by omega) (by omega) (a := m) trivial
    (fun k m hk _ => ⟨trivial, fun Q kn kx => by
      have hk' : (k : Int) < 4 := by omega
      have hc := impl_cnt F hF h4 hl d al o st i rows hk a b c e t k bb m
      have hcell : k82_v (d : Int) (i : Int) (k : Int) = celL (plcD d i k) := cell_at ⟨d, hd⟩ ⟨i, hi⟩ ⟨k, hk⟩
      have hpos : decide ((0 : Int) < ((mgN rows k : Nat) : Int)) = decide (0 < mgN rows k) := by
        by_cases h : 0 < mgN rows k
        · rw [decide_eq_true h, decide_eq_true (by omega)]
        · rw [decide_eq_false h, decide_eq_false (by omega)]
      simp only [k39_s18, hk', hc, hcell, decide_true, cond_true, Option.isSome_some, Option.getD_some, hpos, int_beq, cIg]
      cases Nat.beq (mgN rows k) rows.length with
      | true => rfl
      | false => cases al <;> rfl⟩) (fun m _ Q kn kx => by simp [k39_s18])).1
end
theorem llget4 (r : Nat → LL) {i : Nat} (hi : i < 4) : llget [r 0, r 1, r 2, r 3] (0 + i * 1) = r i := by
  obtain rfl | rfl | rfl | rfl : i = 0 ∨ i = 1 ∨ i = 2 ∨ i = 3 := by omega
  all_goals rfl
theorem fld_16 {A : Type} (h : Nat → Nat → A → A) (m : A) : fld (fun i m => fld (fun k m => h i k m) 0 4 m) 0 4 m = fld (fun j m => h (j / 4) (j % 4) m) 0 16 m := rfl
theorem celL_rc {r c : Nat} (hc : c < 4) : celL (0 + r * 4 + c * 1) = [(r : Int), (c : Int)] := by
  unfold celL
  rw [show (0 + r * 4 + c * 1) / 4 = r by omega, show (0 + r * 4 + c * 1) % 4 = c by omega]
def gCel (M : List Int) (j : Nat) (o : LL) : LL := bif iget M j == 1 then o ++ [celL j] else o
theorem gCel_len (M : List Int) (j : Nat) (o : LL) : (gCel M j o).length ≤ o.length + 1 := by
  unfold gCel
  cases iget M j == 1 with
  | true => rw [cond_true, List.length_append]; exact Nat.le_refl _
  | false => rw [cond_false]; exact Nat.le_succ _
theorem gCel_fld (M : List Int) (g : Nat → Nat) : ∀ (n i : Nat) (o : LL), (fld (fun c o => gCel M (g c) o) i n o).length ≤ o.length + n
  | 0, i, o => Nat.le_refl _
  | n + 1, i, o => by
    rw [fld]
    have h1 := gCel_fld M g n (i + 1) (gCel M (g i) o)
    have h2 := gCel_len M (g i) o
    exact Nat.le_trans h1 (by omega)
theorem fld_rc {A : Type} (g : Nat → A → A) (a : A) : fld (fun r a => fld (fun c a => g (0 + r * 4 + c * 1) a) 0 4 a) 0 4 a = fld g 0 16 a := rfl
theorem spec_cells23 (F : Nat) (hF : 1000 < F) (M : List Int) {r : Nat} (hr : r < 4) (o : LL) (ho : o.length ≤ 4 * r) : k77_l23 F r M 0 o = some (fld (fun c o => gCel M (0 + r * 4 + c * 1) o) 0 4 o) :=
  (loop_fold (step := k77_s23 F r M) (fun c (o : LL) => (c, o)) 4 (fun c o => gCel M (0 + r * 4 + c * 1) o) (fun o => o) (fun c o => o.length ≤ 4 * r + c) (F := F) (by omega) (by omega) (a := o) ho
    (fun c o hc hI => ⟨by
      have h1 := gCel_len M (0 + r * 4 + c * 1) o
      have hI : o.length ≤ 4 * r + c := hI
      exact Nat.le_trans h1 (by omega), fun Q kn kx => by
      have hI : o.length ≤ 4 * r + c := hI
      have hc' : (c : Int) < 4 := by omega
      have hf : fits (o ++ [[(r : Int), (c : Int)]]).length 16 = true := fits_of (by simp; omega) (by simp; omega)
      have hg : gCel M (0 + r * 4 + c * 1) o = bif iget M (0 + r * 4 + c * 1) == 1 then o ++ [[(r : Int), (c : Int)]] else o := by unfold gCel; rw [celL_rc hc]
      rw [hg]
      simp only [k77_s23, hc', hc, hr, inR_cast, Int.toNat_natCast, decide_true, cond_true, subn_self, hf]
      cases iget M (0 + r * 4 + c * 1) == 1 <;> rfl⟩) (fun o _ Q kn kx => by simp [k77_s23])).1
theorem spec_cells (F : Nat) (hF : 1000 < F) (M : List Int) : k77_l20 F M 0 [] = some (fld (gCel M) 0 16 []) := by
  have h := loop_fold (step := k77_s20 F M) (fun r (o : LL) => (r, o)) 4 (fun r o => fld (fun c o => gCel M (0 + r * 4 + c * 1) o) 0 4 o) (fun o => o) (fun r o => o.length ≤ 4 * r) (F := F) (by omega) (by omega) (a := []) (Nat.zero_le _)
    (fun r o hr hI => ⟨by
        have hI : o.length ≤ 4 * r := hI
        have h1 := gCel_fld M (fun c => 0 + r * 4 + c * 1) 4 0 o
        exact Nat.le_trans h1 (by omega), fun Q kn kx => by
        have hr' : (r : Int) < 4 := by omega
        simp only [k77_s20, hr', spec_cells23 F hF M hr o hI, beq_selfL, Bool.true_and, decide_true, cond_true, Option.isSome_some, Option.getD_some]⟩) (fun o _ Q kn kx => by simp [k77_s20])
  rw [fld_rc (gCel M)] at h
  exact h.1
section
variable {b : List Int} (hb : b.length = 16) (ok : okB b = true) {d : Nat} (hd : d < 4)
include hb ok hd
theorem rowsI_ok (i : Nat) (hi : i < 4) : (∀ x ∈ rowsI b d i, x.length = 4 ∧ ∀ y ∈ x, tileOK y) ∧ (rowsI b d i).length ≤ 256 := by
  have h1 := rw_ok hb ok hd hi
  have h2 := rwB_len b d i
  unfold rowsI
  cases (stillB b d && (decide (1 < (rwB b d i).length) && Nat.beq (otherB b d) 1)) with
  | true =>
    rw [cond_true]
    have := List.length_filter_le (fun x => !(x == lineB b d i)) (rwB b d i)
    exact ⟨fun x hx => h1 x (List.mem_filter.1 hx).1, by omega⟩
  | false => exact ⟨h1, h2⟩
theorem spec_marks (F : Nat) (hF : 1000 < F) (s : Bool) (m : List Int) : k77_l4 F d s (stillB b d) (rwB b d 0) (rwB b d 1) (rwB b d 2) (rwB b d 3) 0 m = some (fld (fun j m => bif cS b d s (j / 4) (j % 4) then iset m (plcD d (j / 4) (j % 4)) 1 else m) 0 16 m) := by
  rw [← fld_16 (fun i k m => bif cS b d s i k then iset m (plcD d i k) 1 else m)]
  obtain ⟨G, rfl⟩ : ∃ G, F = G + 1001 := ⟨F - 1001, by omega⟩
  exact (loop_fold (step := k77_s4 (G + 1001) d s (stillB b d) (rwB b d 0) (rwB b d 1) (rwB b d 2) (rwB b d 3)) (fun i (m : List Int) => (i, m)) 4 (fun i m => fld (fun k m => bif cS b d s i k then iset m (plcD d i k) 1 else m) 0 4 m) (fun m => m) (fun _ _ => True) (F := G + 1001) (by omega) (by omega) (a := m) trivial
    (fun i m hi _ => ⟨trivial, fun Q kn kx => by
      have hi' : (i : Int) < 4 := by omega
      have h := spec_line8 (G + 1001) hF (rw_ok hb ok hd hi) (rwB_len b d i) hd hi s (stillB b d) (llget4 (fun i => rwB b d i) hi) m
      simp only [k77_s4, hi', spec_line G hd hi, h, decide_true, cond_true, Option.isSome_some, Option.getD_some]
      rfl⟩) (fun m _ Q kn kx => by simp [k77_s4])).1
theorem impl_other (F : Nat) (hF : 1000 < F) (al : Bool) (bb : List Int) (p q r s : LL) : k39_l5 F d al (rwB b d 0) (rwB b d 1) (rwB b d 2) (rwB b d 3) bb p q r s 0 0 = some ((otherB b d : Nat) : Int) := by
  have h := loop_fold (step := k39_s5 F d al (rwB b d 0) (rwB b d 1) (rwB b d 2) (rwB b d 3) bb p q r s) (fun i (n : Nat) => (((n : Nat) : Int), i)) 4 (fun i n => bif decide (1 < (rwB b d i).length) then n + 1 else n) (fun n => ((n : Nat) : Int)) (fun i n => n ≤ i) (F := F) (by omega) (by omega) (a := 0) (Nat.le_refl 0)
    (fun i n hi hI => ⟨by
      show (bif decide (1 < (rwB b d i).length) then n + 1 else n) ≤ i + 1
      have hI : n ≤ i := hI
      cases decide (1 < (rwB b d i).length) <;> simp <;> omega, fun Q kn kx => by
      have hI : n ≤ i := hI
      have hi' : (i : Int) < 4 := by omega
      have hw : IntKind.wrap .i64 (((n : Nat) : Int) + 1) = ((n + 1 : Nat) : Int) := by rw [wrap_of (by omega) (by omega)]; omega
      have hg := llget4 (fun i => rwB b d i) hi
      rw [Nat.zero_add] at hg
      have hpos : decide ((1 : Int) < (((rwB b d i).length : Nat) : Int)) = decide (1 < (rwB b d i).length) := by
        by_cases h : 1 < (rwB b d i).length
        · rw [decide_eq_true h, decide_eq_true (by omega)]
        · rw [decide_eq_false h, decide_eq_false (by omega)]
      simp only [k39_s5, hi', hi, inR_cast, Int.toNat_natCast, decide_true, cond_true, hg, hpos, hw]
      cases decide (1 < (rwB b d i).length) <;> rfl⟩) (fun n _ Q kn kx => by simp [k39_s5])
  exact h.1
theorem impl_flags (F : Nat) (hF : 1000 < F) (al : Bool) (m : List (List Int × Bool)) : k39_l12 F d al ((otherB b d : Nat) : Int) (stillB b d) (rwB b d 0) (rwB b d 1) (rwB b d 2) (rwB b d 3) b 0 m = some (fld (fun j m => mput (celL (plcD d (j / 4) (j % 4))) (cI b d al (j / 4) (j % 4)) m) 0 16 m) := by
  rw [← fld_16 (fun i k m => mput (celL (plcD d i k)) (cI b d al i k) m)]
  exact (loop_fold (step := k39_s12 F d al ((otherB b d : Nat) : Int) (stillB b d) (rwB b d 0) (rwB b d 1) (rwB b d 2) (rwB b d 3) b) (fun i (m : List (List Int × Bool)) => (i, m)) 4 (fun i m => fld (fun k m => mput (celL (plcD d i k)) (cI b d al i k) m) 0 4 m) (fun m => m) (fun _ _ => True) (F := F) (by omega) (by omega) (a := m) trivial
    (fun i m hi _ => ⟨trivial, fun Q kn kx => by
      have hi' : (i : Int) < 4 := by omega
      have hg := llget4 (fun i => rwB b d i) hi
      rw [Nat.zero_add] at hg
      have hline := impl_line b hd hi
      have hw := rw_ok hb ok hd hi
      have hwl := rwB_len b d i
      obtain ⟨rI, rl⟩ := rowsI_ok hb ok hd i hi
      have h18 := impl_line18 F hF rI rl hd hi al ((otherB b d : Nat) : Int) (stillB b d) (rwB b d 0) (rwB b d 1) (rwB b d 2) (rwB b d 3) i b m
      have hf : fits (rwB b d i).length 32 = true := fits_of (by omega) (by omega)
      have hpos : decide ((1 : Int) < (((rwB b d i).length : Nat) : Int)) = decide (1 < (rwB b d i).length) := by
        by_cases h : 1 < (rwB b d i).length
        · rw [decide_eq_true h, decide_eq_true (by omega)]
        · rw [decide_eq_false h, decide_eq_false (by omega)]
      have hone : (((otherB b d : Nat) : Int) == 1) = Nat.beq (otherB b d) 1 := int_beq (otherB b d) 1
      have hgoal : (fun k m => mput (celL (plcD d i k)) (cI b d al i k) m) = (fun k (m : List (List Int × Bool)) => mput (celL (plcD d i k)) (cIg (rowsI b d i) al k) m) := rfl
      have hmid : ∀ c : Bool, (stillB b d && (decide (1 < (rwB b d i).length) && Nat.beq (otherB b d) 1)) = c → rowsI b d i = bif c then (rwB b d i).filter (fun x => !(x == lineB b d i)) else rwB b d i := fun c hc => by unfold rowsI; rw [hc]
      rw [hgoal]
      obtain ⟨r, d1, d2⟩ := DeleteFunc_own F (rwB b d i) (lineB b d i) (fun x => x == lineB b d i) (by omega) hF fun x _ => rfl
      have d3 : subn r.2.length r.2 0 r.1 = (rwB b d i).filter fun x => !(x == lineB b d i) := by rw [subn_take0]; exact d2.2.1
      simp only [k39_s12, hi', hi, inR_cast, Int.toNat_natCast, decide_true, cond_true, hline, hg, hpos, hone, hf, beq_selfL, Bool.true_and, d1, d3, Option.isSome_some, Option.getD_some]
      cases hs : stillB b d with
      | false =>
        have e := hmid false (by rw [hs]; rfl)
        rw [hs, e] at h18
        rw [e]
        simp only [cond_false] at h18 ⊢
        simp only [h18, Option.isSome_some, Option.getD_some, cond_true]
      | true =>
        cases hn : decide (1 < (rwB b d i).length) with
        | false =>
          have e := hmid false (by rw [hs, hn]; rfl)
          rw [hs, e] at h18
          rw [e]
          simp only [cond_false, cond_true] at h18 ⊢
          simp only [h18, Option.isSome_some, Option.getD_some, cond_true]
        | true =>
          cases ho : Nat.beq (otherB b d) 1 with
          | false =>
            have e := hmid false (by rw [hs, hn, ho]; rfl)
            rw [hs, e] at h18
            rw [e]
            simp only [cond_false, cond_true] at h18 ⊢
            simp only [h18, Option.isSome_some, Option.getD_some, cond_true]
          | true =>
            have e := hmid true (by rw [hs, hn, ho]; rfl)
            rw [hs, e] at h18
            rw [e]
            simp only [cond_true] at h18 ⊢
            simp only [h18, Option.isSome_some, Option.getD_some, cond_true]⟩) (fun m _ Q kn kx => by simp [k39_s12])).1
theorem pl_lt (j : Nat) (hj : j < 16) : plcD d (j / 4) (j % 4) < 16 := plcD_lt hd (by omega) (by omega)
theorem pl_inj (i j : Nat) (hi : i < 16) (hj : j < 16) (h : plcD d (i / 4) (i % 4) = plcD d (j / 4) (j % 4)) : i = j := by
  obtain ⟨a1, a2⟩ := pl_li ⟨d, hd⟩ ⟨i / 4, by omega⟩ ⟨i % 4, by omega⟩
  obtain ⟨b1, b2⟩ := pl_li ⟨d, hd⟩ ⟨j / 4, by omega⟩ ⟨j % 4, by omega⟩
  simp only at a1 a2 b1 b2
  rw [h, b1] at a1
  rw [h, b2] at a2
  omega
theorem cell_j (p : Nat) (hp : p < 16) : ∃ j, j < 16 ∧ plcD d (j / 4) (j % 4) = p ∧ j / 4 = liD d p ∧ j % 4 = kiD d p := by
  obtain ⟨h1, h2, h3⟩ := li_pl ⟨d, hd⟩ ⟨p, hp⟩
  simp only at h1 h2 h3
  exact ⟨liD d p * 4 + kiD d p, by omega, by rw [show (liD d p * 4 + kiD d p) / 4 = liD d p by omega, show (liD d p * 4 + kiD d p) % 4 = kiD d p by omega]; exact h3, by omega, by omega⟩
theorem spec_mgd (F : Nat) (hF : 1000 < F) (s : Bool) : k77_p F b d s = some (mgd b d s) := by
  have hm := spec_marks hb ok hd F hF s [0, 0, 0, 0, 0, 0, 0, 0, 0, 0, 0, 0, 0, 0, 0, 0]
  generalize hM : fld (fun j m => bif cS b d s (j / 4) (j % 4) then iset m (plcD d (j / 4) (j % 4)) 1 else m) 0 16 [0, 0, 0, 0, 0, 0, 0, 0, 0, 0, 0, 0, 0, 0, 0, 0] = M at hm
  have hat : ∀ p, p < 16 → (iget M p == 1) = cS b d s (liD d p) (kiD d p) := fun p hp => by
    obtain ⟨j, hj, j1, j2, j3⟩ := cell_j hb ok hd p hp
    have h := marks_at (C := fun j => cS b d s (j / 4) (j % 4)) (pl_lt hb ok hd) (pl_inj hb ok hd) 16 0 [0, 0, 0, 0, 0, 0, 0, 0, 0, 0, 0, 0, 0, 0, 0, 0] rfl rfl j hj
    rw [hM, j1] at h
    have hz : iget [(0 : Int), 0, 0, 0, 0, 0, 0, 0, 0, 0, 0, 0, 0, 0, 0, 0] p = 0 := by
      have : ∀ p : Fin 16, iget [(0 : Int), 0, 0, 0, 0, 0, 0, 0, 0, 0, 0, 0, 0, 0, 0, 0] p.val = 0 := by decide
      exact this ⟨p, hp⟩
    rw [hz, j2, j3] at h
    rw [h]
    cases cS b d s (liD d p) (kiD d p) with
    | true => rw [if_pos ⟨Nat.zero_le _, rfl⟩]; rfl
    | false => rw [if_neg (by simp)]; rfl
  have h20 := spec_cells F hF M
  have hgCel : gCel M = fun j o => bif iget M j == 1 then o ++ [celL j] else o := rfl
  rw [hgCel, list_if (p := fun j => iget M j == 1) 16 0 [], List.nil_append] at h20
  have hr : List.range' 0 16 = List.range 16 := rfl
  have e : ((List.range' 0 16).filter fun j => iget M j == 1) = (List.range 16).filter fun p => cS b d s (liD d p) (kiD d p) := by
    rw [hr]
    exact List.filter_congr fun p hp => hat p (List.mem_range.1 hp)
  rw [e] at h20
  have h20 : k77_l20 F M 0 [] = some (mgd b d s) := h20
  have hst : k97_p F b d = some (stillB b d) := by
    simp only [k97_p, k97_c, spec_slide hb ok F hF hd, Option.isSome_some, Option.getD_some, cond_true]; rfl
  simp only [k77_p, k77_c, spec_lists hb ok F hF hd, hst, hm, h20, Option.isSome_some, Option.getD_some, cond_true]
theorem impl_mgd (F : Nat) (hF : 1000 < F) (al : Bool) : ∃ m : LL, k39_p F b d al = some (bif cntB b d == 0 then (0, false, []) else ((mgd b d (!al)).length, true, m)) ∧ ((cntB b d == 0) = false → m.take (mgd b d (!al)).length = mgd b d (!al) ∧ m.length = 16) := by
  have hf := impl_flags hb ok hd F hF al []
  generalize hM : fld (fun j m => mput (celL (plcD d (j / 4) (j % 4))) (cI b d al (j / 4) (j % 4)) m) 0 16 ([] : List (List Int × Bool)) = M at hf
  obtain ⟨r, d1, d2⟩ := DeleteFunc_flag F cells16 M (fun x => !(Option.getD (mlook x M) false)) (by decide) hF fun x _ => rfl
  have hin : inB (d : Int) 0 3 = true := by simp [inB]; omega
  have hst : ((slideB b d).1 == b) = stillB b d := rfl
  refine ⟨r.2, ?_, fun hc => ?_⟩
  · have hr : (cntB b d == 0) = false → r.1 = (mgd b d (!al)).length := fun hc => by
      rw [d2.1]
      have hat : ∀ p, p < 16 → (Option.getD (mlook (celL p) M) false) = cS b d (!al) (liD d p) (kiD d p) := fun p hp => by
        obtain ⟨j, hj, j1, j2, j3⟩ := cell_j hb ok hd p hp
        have h := flags_at (cl := fun j => celL (plcD d (j / 4) (j % 4))) (D := fun j => cI b d al (j / 4) (j % 4)) (fun i j hi hj e => pl_inj hb ok hd i j hi hj (celL_inj e)) 16 0 [] rfl j hj
        rw [hM, j1, if_pos (Nat.zero_le _), cond_same hb ok hd hc al (by omega), j2, j3] at h
        rw [h]; rfl
      rw [cells_rng, List.filter_map, List.length_map, mgd, List.length_map]
      refine congrArg List.length (List.filter_congr fun p hp => ?_)
      show (!!(Option.getD (mlook (celL p) M) false)) = _
      rw [Bool.not_not]; exact hat p (List.mem_range.1 hp)
    simp only [k39_p, k39_c, k89_eq F b hb hF, ok, k52_v, in_eq, hin, impl_count hb ok F hF hd, impl_lines hb ok F hF hd, impl_other hb ok hd F hF al b, impl_slides1 hb ok F hF hd, hst, hf, d1, Option.isSome_some, Option.getD_some, cond_true, cond_false, Bool.not_true]
    cases hc : cntB b d == 0 with
    | true => rfl
    | false => rw [cond_false, cond_false, hr hc]
  · have hat : ∀ p, p < 16 → (Option.getD (mlook (celL p) M) false) = cS b d (!al) (liD d p) (kiD d p) := fun p hp => by
      obtain ⟨j, hj, j1, j2, j3⟩ := cell_j hb ok hd p hp
      have h := flags_at (cl := fun j => celL (plcD d (j / 4) (j % 4))) (D := fun j => cI b d al (j / 4) (j % 4)) (fun i j hi hj e => pl_inj hb ok hd i j hi hj (celL_inj e)) 16 0 [] rfl j hj
      rw [hM, j1, if_pos (Nat.zero_le _), cond_same hb ok hd hc al (by omega), j2, j3] at h
      rw [h]; rfl
    have e : (cells16.filter fun x => !!(Option.getD (mlook x M) false)) = mgd b d (!al) := by
      rw [cells_rng, List.filter_map, mgd]
      refine congrArg (List.map celL) (List.filter_congr fun p hp => ?_)
      show (!!(Option.getD (mlook (celL p) M) false)) = _
      rw [Bool.not_not]; exact hat p (List.mem_range.1 hp)
    refine ⟨?_, d2.2.2⟩
    have h2 := d2.2.1
    rw [e] at h2
    rw [← h2, List.length_take, Nat.min_eq_left]
    rw [d2.1, e, d2.2.2]
    exact mgd_len b d (!al)
end
end Go.Lv.P
namespace Go.Lv.P
open Go Go.Lv
def mgV (b : List Int) (d : Int) (s : Bool) : LL := bif gB b d then mgd b d.toNat s else []
theorem mgV_len (b : List Int) (d : Int) (s : Bool) : (mgV b d s).length ≤ 16 := by
  unfold mgV
  cases gB b d with
  | true => exact mgd_len b d.toNat s
  | false => exact Nat.zero_le _
theorem canM_val (F : Nat) (b : List Int) (hb : b.length = 16) (d : Int) (hF : 1000 < F) : ∃ m : LL, k85_p F b d = some (gB b d, mgV b d true) ∧ k80_p F b d = some ((mgV b d true).length, gB b d, m) ∧ m.take (mgV b d true).length = mgV b d true ∧ (mgV b d true).length ≤ m.length := by
  unfold mgV gB
  cases hB : okB b with
  | false =>
    refine ⟨[], ?_, ?_, rfl, Nat.le_refl _⟩
    · simp only [k85_p, k85_c, k91_eq F b hb hF, hB, Option.isSome_some, Option.getD_some, cond_true, Bool.not_false, Bool.true_and, Bool.false_and, Int.toNat_natCast, List.length_nil, cond_false]
    · simp only [k80_p, k80_c, k39_p, k39_c, k89_eq F b hb hF, hB, Option.isSome_some, Option.getD_some, cond_true, Bool.not_false, Bool.true_and, Bool.false_and, Int.toNat_natCast, List.length_nil, cond_false]
  | true =>
    cases hd : inB d 0 3 with
    | false =>
      refine ⟨[], ?_, ?_, rfl, Nat.le_refl _⟩
      · simp only [k85_p, k85_c, k91_eq F b hb hF, hB, k101_v, l1In_eq, hd, Option.isSome_some, Option.getD_some, cond_true, cond_false, Bool.not_false, Bool.not_true, Bool.true_and, Bool.false_and, Int.toNat_natCast, List.length_nil]
      · simp only [k80_p, k80_c, k39_p, k39_c, k89_eq F b hb hF, hB, k52_v, in_eq, hd, Option.isSome_some, Option.getD_some, cond_true, cond_false, Bool.not_false, Bool.not_true, Bool.true_and, Bool.false_and, Int.toNat_natCast, List.length_nil]
    | true =>
      obtain ⟨k, rfl, hk⟩ : ∃ n : Nat, d = n ∧ n < 4 := by
        simp [inB] at hd
        exact ⟨d.toNat, by omega, by omega⟩
      obtain ⟨m, e1, e2⟩ := impl_mgd hb hB hk F hF false
      have e0 := spec_mgd hb hB hk F hF true
      have ec := spec_count hb hB F hF hk
      simp only [Int.toNat_natCast, Bool.true_and]
      cases hc : cntB b k == 0 with
      | true =>
        refine ⟨[], ?_, ?_, rfl, Nat.le_refl _⟩
        · simp only [k85_p, k85_c, k91_eq F b hb hF, hB, k101_v, l1In_eq, hd, ec, hc, Option.isSome_some, Option.getD_some, cond_true, cond_false, Bool.not_false, Bool.not_true, Bool.true_and, Bool.false_and, Int.toNat_natCast, List.length_nil]
        · rw [hc, cond_true] at e1
          simp only [k80_p, k80_c, e1, hc, Option.isSome_some, Option.getD_some, cond_true, cond_false, Bool.not_true, Bool.true_and, Int.toNat_natCast, List.length_nil]
      | false =>
        obtain ⟨e3, e4⟩ := e2 hc
        have hl := mgd_len b k true
        rw [hc, cond_false] at e1
        refine ⟨m, ?_, ?_, e3, by rw [e4]; exact hl⟩
        · simp only [k85_p, k85_c, k91_eq F b hb hF, hB, k101_v, l1In_eq, hd, ec, hc, e0, Option.isSome_some, Option.getD_some, cond_true, cond_false, Bool.not_false, Bool.not_true, Bool.true_and, Bool.false_and, Int.toNat_natCast, List.length_nil]
        · simp only [k80_p, k80_c, e1, hc, Option.isSome_some, Option.getD_some, cond_true, Bool.not_true, Bool.not_false, Bool.true_and, Bool.false_and, Int.toNat_natCast, List.length_nil, cond_false]
theorem mustM_val (F : Nat) (b : List Int) (hb : b.length = 16) (d : Int) (hF : 1000 < F) : ∃ m : LL, k74_p F b d = some (gB b d, mgV b d false) ∧ k73_p F b d = some ((mgV b d false).length, gB b d, m) ∧ m.take (mgV b d false).length = mgV b d false ∧ (mgV b d false).length ≤ m.length := by
  unfold mgV gB
  cases hB : okB b with
  | false =>
    refine ⟨[], ?_, ?_, rfl, Nat.le_refl _⟩
    · simp only [k74_p, k74_c, k91_eq F b hb hF, hB, Option.isSome_some, Option.getD_some, cond_true, Bool.not_false, Bool.true_and, Bool.false_and, Int.toNat_natCast, List.length_nil, cond_false]
    · simp only [k73_p, k73_c, k39_p, k39_c, k89_eq F b hb hF, hB, Option.isSome_some, Option.getD_some, cond_true, Bool.not_false, Bool.true_and, Bool.false_and, Int.toNat_natCast, List.length_nil, cond_false]
  | true =>
    cases hd : inB d 0 3 with
    | false =>
      refine ⟨[], ?_, ?_, rfl, Nat.le_refl _⟩
      · simp only [k74_p, k74_c, k91_eq F b hb hF, hB, k101_v, l1In_eq, hd, Option.isSome_some, Option.getD_some, cond_true, cond_false, Bool.not_false, Bool.not_true, Bool.true_and, Bool.false_and, Int.toNat_natCast, List.length_nil]
      · simp only [k73_p, k73_c, k39_p, k39_c, k89_eq F b hb hF, hB, k52_v, in_eq, hd, Option.isSome_some, Option.getD_some, cond_true, cond_false, Bool.not_false, Bool.not_true, Bool.true_and, Bool.false_and, Int.toNat_natCast, List.length_nil]
    | true =>
      obtain ⟨k, rfl, hk⟩ : ∃ n : Nat, d = n ∧ n < 4 := by
        simp [inB] at hd
        exact ⟨d.toNat, by omega, by omega⟩
      obtain ⟨m, e1, e2⟩ := impl_mgd hb hB hk F hF true
      have e0 := spec_mgd hb hB hk F hF false
      have ec := spec_count hb hB F hF hk
      simp only [Int.toNat_natCast, Bool.true_and]
      cases hc : cntB b k == 0 with
      | true =>
        refine ⟨[], ?_, ?_, rfl, Nat.le_refl _⟩
        · simp only [k74_p, k74_c, k91_eq F b hb hF, hB, k101_v, l1In_eq, hd, ec, hc, Option.isSome_some, Option.getD_some, cond_true, cond_false, Bool.not_false, Bool.not_true, Bool.true_and, Bool.false_and, Int.toNat_natCast, List.length_nil]
        · rw [hc, cond_true] at e1
          simp only [k73_p, k73_c, e1, hc, Option.isSome_some, Option.getD_some, cond_true, cond_false, Bool.not_true, Bool.true_and, Int.toNat_natCast, List.length_nil]
      | false =>
        obtain ⟨e3, e4⟩ := e2 hc
        have hl := mgd_len b k false
        rw [hc, cond_false] at e1
        refine ⟨m, ?_, ?_, e3, by rw [e4]; exact hl⟩
        · simp only [k74_p, k74_c, k91_eq F b hb hF, hB, k101_v, l1In_eq, hd, ec, hc, e0, Option.isSome_some, Option.getD_some, cond_true, cond_false, Bool.not_false, Bool.not_true, Bool.true_and, Bool.false_and, Int.toNat_natCast, List.length_nil]
        · simp only [k73_p, k73_c, e1, hc, Option.isSome_some, Option.getD_some, cond_true, Bool.not_true, Bool.not_false, Bool.true_and, Bool.false_and, Int.toNat_natCast, List.length_nil, cond_false]
end Go.Lv.P
namespace Go.Lv.P
open Go Go.Lv
theorem tl_fs : ∀ l : List Int, (((tl l).length : Nat) : Int) = fs isT l
  | [] => rfl
  | x :: l => by
    have ih := tl_fs l
    unfold tl at ih ⊢
    rw [List.filter_cons, fs, isT]
    by_cases h : x = 0
    · rw [if_pos h, h, if_neg (by decide)]; omega
    · have : (x == 0) = false := by rw [beq_eq_false_iff_ne]; exact h
      rw [if_neg h, this, if_pos (show (!false) = true from rfl), List.length_cons]; omega
theorem most_fld (g : Nat → Int) : ∀ (m i : Nat) (a : Int), a ≤ fld (fun i (m : Int) => max m (g i)) i m a ∧ (∀ j, i ≤ j → j < i + m → g j ≤ fld (fun i (m : Int) => max m (g i)) i m a) ∧ (fld (fun i (m : Int) => max m (g i)) i m a = a ∨ ∃ j, i ≤ j ∧ j < i + m ∧ fld (fun i (m : Int) => max m (g i)) i m a = g j)
  | 0, i, a => ⟨Int.le_refl _, fun j h1 h2 => by omega, .inl rfl⟩
  | m + 1, i, a => by
    obtain ⟨h1, h2, h3⟩ := most_fld g m (i + 1) (max a (g i))
    rw [fld]
    have e : max a (g i) = a ∨ max a (g i) = g i := by rw [Int.max_def]; split <;> simp
    have e1 : a ≤ max a (g i) := Int.le_max_left _ _
    have e2 : g i ≤ max a (g i) := Int.le_max_right _ _
    refine ⟨Int.le_trans e1 h1, fun j j1 j2 => ?_, ?_⟩
    · by_cases hj : j = i
      · subst hj; exact Int.le_trans e2 h1
      · exact h2 j (by omega) (by omega)
    · rcases h3 with h3 | ⟨j, j1, j2, j3⟩
      · rcases e with e | e
        · exact .inl (h3.trans e)
        · exact .inr ⟨i, Nat.le_refl _, by omega, h3.trans e⟩
      · exact .inr ⟨j, by omega, by omega, j3⟩
theorem mostL_ge {ls : LL} {x : List Int} (hx : x ∈ ls) : fs isT x ≤ mostL ls := by
  obtain ⟨i, hi, rfl⟩ := List.mem_iff_getElem.1 hx
  have h := (most_fld (fun k => (((tl (rget ls k)).length : Nat) : Int)) ls.length 0 0).2.1 i (Nat.zero_le _) (by omega)
  have hg : rget ls i = ls[i] := by rw [rgetL, List.getElem?_eq_getElem hi]; rfl
  have h : (((tl (rget ls i)).length : Nat) : Int) ≤ mostL ls := h
  rw [hg, tl_fs] at h
  exact h
theorem mostL_is {ls : LL} (h0 : 0 < ls.length) : ∃ x ∈ ls, mostL ls = fs isT x := by
  have hx : rget ls 0 ∈ ls := by rw [rgetL, List.getElem?_eq_getElem h0]; exact List.getElem_mem _
  rcases (most_fld (fun k => (((tl (rget ls k)).length : Nat) : Int)) ls.length 0 0).2.2 with h | ⟨j, _, j2, h⟩
  · refine ⟨rget ls 0, hx, ?_⟩
    have h1 := mostL_ge hx
    have h : mostL ls = 0 := h
    have := tl_fs (rget ls 0)
    omega
  · have hj : j < ls.length := by omega
    refine ⟨rget ls j, by rw [rgetL, List.getElem?_eq_getElem hj]; exact List.getElem_mem _, ?_⟩
    have h : mostL ls = (((tl (rget ls j)).length : Nat) : Int) := h
    rw [h, tl_fs]
def c4 (p : Nat → Bool) : Nat := (p 0).toNat + (p 1).toNat + (p 2).toNat + (p 3).toNat
theorem tr_c4 {l : List Bool} (h : l.length = 4) : tr l = c4 (bget l) := by
  match l, h with
  | [a, b, c, d], _ =>
    show (bif a then 1 else 0) + ((bif b then 1 else 0) + ((bif c then 1 else 0) + ((bif d then 1 else 0) + 0))) = a.toNat + b.toNat + c.toNat + d.toNat
    cases a <;> cases b <;> cases c <;> cases d <;> rfl
theorem c4_mono {p q : Nat → Bool} (h : ∀ k, k < 4 → p k = true → q k = true) : c4 p ≤ c4 q := by
  have key : ∀ k, k < 4 → (p k).toNat ≤ (q k).toNat := fun k hk => by
    have := h k hk
    cases hp : p k with
    | false => exact Nat.zero_le _
    | true => rw [this hp]; exact Nat.le_refl _
  have h0 := key 0 (by decide)
  have h1 := key 1 (by decide)
  have h2 := key 2 (by decide)
  have h3 := key 3 (by decide)
  unfold c4; omega
theorem filt_sum (p : Nat → Bool) : ∀ l : List Nat, (l.filter p).length = (l.map fun x => (p x).toNat).sum
  | [] => rfl
  | x :: l => by
    rw [List.filter_cons, List.map_cons, List.sum_cons, ← filt_sum p l]
    cases p x with
    | true => rw [if_pos rfl, List.length_cons]; show _ = 1 + _; omega
    | false => rw [if_neg (by decide)]; show _ = 0 + _; omega
theorem mgd_sum (b : List Int) {d : Nat} (hd : d < 4) (s : Bool) : (mgd b d s).length = c4 (cS b d s 0) + c4 (cS b d s 1) + c4 (cS b d s 2) + c4 (cS b d s 3) := by
  have key : ∀ (C : Nat → Nat → Bool), ((List.range 16).map fun p => (C (liD d p) (kiD d p)).toNat).sum = c4 (C 0) + c4 (C 1) + c4 (C 2) + c4 (C 3) := by
    intro C
    have e : List.range 16 = [0, 1, 2, 3, 4, 5, 6, 7, 8, 9, 10, 11, 12, 13, 14, 15] := rfl
    rw [e]
    simp only [List.map_cons, List.map_nil, List.sum_cons, List.sum_nil]
    unfold c4
    obtain rfl | rfl | rfl | rfl : d = 0 ∨ d = 1 ∨ d = 2 ∨ d = 3 := by omega
    · show (C 0 0).toNat + ((C 0 1).toNat + ((C 0 2).toNat + ((C 0 3).toNat + ((C 1 0).toNat + ((C 1 1).toNat + ((C 1 2).toNat + ((C 1 3).toNat + ((C 2 0).toNat + ((C 2 1).toNat + ((C 2 2).toNat + ((C 2 3).toNat + ((C 3 0).toNat + ((C 3 1).toNat + ((C 3 2).toNat + ((C 3 3).toNat + 0))))))))))))))) = _
      omega
    · show (C 0 0).toNat + ((C 1 0).toNat + ((C 2 0).toNat + ((C 3 0).toNat + ((C 0 1).toNat + ((C 1 1).toNat + ((C 2 1).toNat + ((C 3 1).toNat + ((C 0 2).toNat + ((C 1 2).toNat + ((C 2 2).toNat + ((C 3 2).toNat + ((C 0 3).toNat + ((C 1 3).toNat + ((C 2 3).toNat + ((C 3 3).toNat + 0))))))))))))))) = _
      omega
    · show (C 0 3).toNat + ((C 0 2).toNat + ((C 0 1).toNat + ((C 0 0).toNat + ((C 1 3).toNat + ((C 1 2).toNat + ((C 1 1).toNat + ((C 1 0).toNat + ((C 2 3).toNat + ((C 2 2).toNat + ((C 2 1).toNat + ((C 2 0).toNat + ((C 3 3).toNat + ((C 3 2).toNat + ((C 3 1).toNat + ((C 3 0).toNat + 0))))))))))))))) = _
      omega
    · show (C 0 3).toNat + ((C 1 3).toNat + ((C 2 3).toNat + ((C 3 3).toNat + ((C 0 2).toNat + ((C 1 2).toNat + ((C 2 2).toNat + ((C 3 2).toNat + ((C 0 1).toNat + ((C 1 1).toNat + ((C 2 1).toNat + ((C 3 1).toNat + ((C 0 0).toNat + ((C 1 0).toNat + ((C 2 0).toNat + ((C 3 0).toNat + 0))))))))))))))) = _
      omega
  rw [mgd, List.length_map, filt_sum, key (cS b d s)]
theorem fs_rngT (l : List Int) : 0 ≤ fs isT l ∧ fs isT l ≤ l.length := by
  rw [← tl_fs]
  have := List.length_filter_le (fun x : Int => !(x == 0)) l
  exact ⟨by omega, by unfold tl; omega⟩
attribute [local irreducible] mkR
section
variable {b : List Int} (hb : b.length = 16) (ok : okB b = true) {d : Nat} (hd : d < 4)
include hb ok hd
theorem row_back {i : Nat} (hi : i < 4) {r : List Int} (hr : r ∈ rwB b d i) : fs isT r = fs isT (lineB b d i) + ((tr (mkR r) : Nat) : Int) ∧ (mkR r).length = 4 := by
  obtain ⟨⟨h4, h5⟩, h6⟩ := (rb_facts (row := lineB b d i) rfl (line_ok hb ((okB_iff b).1 ok) hd hi)).2 r hr
  have h := row_tilesM h4 h5
  rw [h6] at h
  exact ⟨by omega, by have := mk_len h4; exact this⟩
theorem line_most {i : Nat} (hi : i < 4) (h0 : 0 < (rwB b d i).length) :
    fs isT (lineB b d i) + ((c4 (cS b d false i) : Nat) : Int) ≤ mostL (rwB b d i) ∧ mostL (rwB b d i) ≤ fs isT (lineB b d i) + ((c4 (cS b d true i) : Nat) : Int) := by
  have hx : rget (rwB b d i) 0 ∈ rwB b d i := by rw [rgetL, List.getElem?_eq_getElem h0]; exact List.getElem_mem _
  constructor
  · obtain ⟨h1, h2⟩ := row_back hb ok hd hi hx
    have h3 := mostL_ge hx
    have h4 : c4 (cS b d false i) ≤ tr (mkR (rget (rwB b d i) 0)) := by
      rw [tr_c4 h2]
      refine c4_mono fun k hk hc => ?_
      unfold cS at hc
      simp only [cond_false, Bool.and_eq_true] at hc
      have hc := Nat.eq_of_beq_eq_true hc.1
      unfold mgN at hc
      have hall := List.length_filter_eq_length_iff.1 hc
      exact hall _ hx
    omega
  · obtain ⟨r, hr, e⟩ := mostL_is h0
    obtain ⟨h1, h2⟩ := row_back hb ok hd hi hr
    have h4 : tr (mkR r) ≤ c4 (cS b d true i) := by
      rw [tr_c4 h2]
      refine c4_mono fun k hk hc => ?_
      unfold cS
      rw [cond_true]
      exact decide_eq_true (List.length_pos_of_mem (List.mem_filter.2 ⟨hr, hc⟩))
    omega
theorem most_sum : mostS b d = mostL (rwB b d 0) + mostL (rwB b d 1) + mostL (rwB b d 2) + mostL (rwB b d 3) ∧ (∀ i, i < 4 → 0 ≤ mostL (rwB b d i) ∧ mostL (rwB b d i) ≤ 4) := by
  have key : ∀ i, i < 4 → 0 ≤ mostL (rwB b d i) ∧ mostL (rwB b d i) ≤ 4 := fun i hi => by
    by_cases h0 : 0 < (rwB b d i).length
    · obtain ⟨r, hr, e⟩ := mostL_is h0
      have h4 := (rw_ok hb ok hd hi r hr).1
      have := fs_rngT r
      omega
    · have : rwB b d i = [] := List.eq_nil_of_length_eq_zero (by omega)
      rw [this]
      exact ⟨Int.le_refl _, by decide⟩
  refine ⟨?_, key⟩
  have k0 := key 0 (by decide)
  have k1 := key 1 (by decide)
  have k2 := key 2 (by decide)
  have k3 := key 3 (by decide)
  unfold mostS
  generalize mostL (rwB b d 0) = m0 at *
  generalize mostL (rwB b d 1) = m1 at *
  generalize mostL (rwB b d 2) = m2 at *
  generalize mostL (rwB b d 3) = m3 at *
  rw [wrap_of (n := 0 + m0) (by omega) (by omega), wrap_of (n := 0 + m0 + m1) (by omega) (by omega), wrap_of (n := 0 + m0 + m1 + m2) (by omega) (by omega), wrap_of (by omega) (by omega)]
  omega
theorem most_between (hc : (cntB b d == 0) = false) : fs isT b + (((mgd b d false).length : Nat) : Int) ≤ mostS b d ∧ mostS b d ≤ fs isT b + (((mgd b d true).length : Nat) : Int) := by
  have key := fun i (hi : i < 4) => line_most hb ok hd hi (rows_some hb ok hd hc hi)
  have k0 := key 0 (by decide)
  have k1 := key 1 (by decide)
  have k2 := key 2 (by decide)
  have k3 := key 3 (by decide)
  rw [(most_sum hb ok hd).1, fs_lines isT hb hd, mgd_sum b hd, mgd_sum b hd]
  omega
theorem must_can (hc : (cntB b d == 0) = false) : ∀ x ∈ mgd b d false, x ∈ mgd b d true := by
  intro x hx
  obtain ⟨p, hp, rfl⟩ := List.mem_map.1 hx
  obtain ⟨h1, h2⟩ := List.mem_filter.1 hp
  refine List.mem_map.2 ⟨p, List.mem_filter.2 ⟨h1, ?_⟩, rfl⟩
  obtain ⟨g1, g2, g3⟩ := li_pl ⟨d, hd⟩ ⟨p, List.mem_range.1 h1⟩
  simp only at g1
  have h0 := rows_some hb ok hd hc g1
  unfold cS at h2 ⊢
  simp only [cond_false, cond_true, Bool.and_eq_true] at h2 ⊢
  have := Nat.eq_of_beq_eq_true h2.1
  exact decide_eq_true (by omega)
end
section
variable {c : List Int} (hb : c.length = 16) (ok : okB c = true) {d : Nat} (hd : d < 4)
include hb ok hd
theorem own_row {i : Nat} (hi : i < 4) : lineB c d i ∈ rwB (slideB c d).1 d i := by
  rw [rw_eq, slide_lines hb ok hd hi]
  exact rb_all (line_ok4 hb ok hd hi).1 (line_ok4 hb ok hd hi).2
theorem two_of {l : LL} {x y : List Int} (hx : x ∈ l) (hy : y ∈ l) (h : x ≠ y) : 1 < l.length := by
  match l, hx, hy with
  | [a], hx, hy =>
    simp only [List.mem_singleton] at hx hy
    exact absurd (hx.trans hy.symm) h
  | a :: b :: l, _, _ => simp
theorem same_lines {e : List Int} (he : e.length = 16) (h : ∀ i, i < 4 → lineB c d i = lineB e d i) : c = e := by
  obtain ⟨x0, x1, x2, x3, x4, x5, x6, x7, x8, x9, xa, xb, xc, xd, xe, xf, rfl⟩ := list16 hb
  obtain ⟨y0, y1, y2, y3, y4, y5, y6, y7, y8, y9, ya, yb, yc, yd, ye, yf, rfl⟩ := list16 he
  have h0 := h 0 (by decide)
  have h1 := h 1 (by decide)
  have h2 := h 2 (by decide)
  have h3 := h 3 (by decide)
  obtain rfl | rfl | rfl | rfl : d = 0 ∨ d = 1 ∨ d = 2 ∨ d = 3 := by omega
  all_goals
    simp [lineB, plcD, iget] at h0 h1 h2 h3
    obtain ⟨a0, a1, a2, a3⟩ := h0
    obtain ⟨b0, b1, b2, b3⟩ := h1
    obtain ⟨c0, c1, c2, c3⟩ := h2
    obtain ⟨d0, d1, d2, d3⟩ := h3
    subst a0 a1 a2 a3 b0 b1 b2 b3 c0 c1 c2 c3 d0 d1 d2 d3
    rfl
theorem cnt_pos (hne : (slideB c d).1 ≠ c) : 1 ≤ cntB (slideB c d).1 d := by
  obtain ⟨g1, g2⟩ := slide_ok hb ok hd
  have hrow := fun i (hi : i < 4) => own_row hb ok hd hi
  have hpos := fun i (hi : i < 4) => List.length_pos_of_mem (hrow i hi)
  have p0 := hpos 0 (by decide)
  have p1 := hpos 1 (by decide)
  have p2 := hpos 2 (by decide)
  have p3 := hpos 3 (by decide)
  rw [cnt_eq g1 g2 hd]
  have hmul : ∀ x y : Nat, 0 < x → 0 < y → x ≤ x * y ∧ y ≤ x * y := fun x y hx hy => ⟨Nat.le_mul_of_pos_right x hy, Nat.le_mul_of_pos_left y hx⟩
  have hprod : ∀ n0 n1 n2 n3 : Nat, 0 < n0 → 0 < n1 → 0 < n2 → 0 < n3 → n0 ≤ n0 * n1 * n2 * n3 ∧ n1 ≤ n0 * n1 * n2 * n3 ∧ n2 ≤ n0 * n1 * n2 * n3 ∧ n3 ≤ n0 * n1 * n2 * n3 := fun n0 n1 n2 n3 h0 h1 h2 h3 => by
    obtain ⟨a1, a2⟩ := hmul n0 n1 h0 h1
    obtain ⟨b1, b2⟩ := hmul (n0 * n1) n2 (by omega) h2
    obtain ⟨c1, c2⟩ := hmul (n0 * n1 * n2) n3 (by omega) h3
    omega
  cases hs : stillB (slideB c d).1 d with
  | false =>
    rw [cond_false]
    have := hprod _ _ _ _ p0 p1 p2 p3
    generalize (rwB (slideB c d).1 d 0).length = n0 at *
    generalize (rwB (slideB c d).1 d 1).length = n1 at *
    generalize (rwB (slideB c d).1 d 2).length = n2 at *
    generalize (rwB (slideB c d).1 d 3).length = n3 at *
    rw [← Int.natCast_mul, ← Int.natCast_mul, ← Int.natCast_mul]
    omega
  | true =>
    rw [cond_true]
    have hex : ∃ i, i < 4 ∧ lineB c d i ≠ lineB (slideB c d).1 d i := Classical.byContradiction fun hn => hne (same_lines hb ok hd g1 fun i hi => Classical.byContradiction fun h => hn ⟨i, hi, h⟩).symm
    obtain ⟨i, hi, hne2⟩ := hex
    have h2 := two_of hb ok hd (hrow i hi) (own_in g1 g2 hd hs hi) hne2
    have := hprod _ _ _ _ p0 p1 p2 p3
    have h2' : 1 < (rwB (slideB c d).1 d 0).length ∨ 1 < (rwB (slideB c d).1 d 1).length ∨ 1 < (rwB (slideB c d).1 d 2).length ∨ 1 < (rwB (slideB c d).1 d 3).length := by
      obtain rfl | rfl | rfl | rfl : i = 0 ∨ i = 1 ∨ i = 2 ∨ i = 3 := by omega
      · exact .inl h2
      · exact .inr (.inl h2)
      · exact .inr (.inr (.inl h2))
      · exact .inr (.inr (.inr h2))
    generalize (rwB (slideB c d).1 d 0).length = n0 at *
    generalize (rwB (slideB c d).1 d 1).length = n1 at *
    generalize (rwB (slideB c d).1 d 2).length = n2 at *
    generalize (rwB (slideB c d).1 d 3).length = n3 at *
    rw [← Int.natCast_mul, ← Int.natCast_mul, ← Int.natCast_mul]
    omega
theorem most_ge : fs isT c ≤ mostS (slideB c d).1 d := by
  obtain ⟨g1, g2⟩ := slide_ok hb ok hd
  have hrow := fun i (hi : i < 4) => mostL_ge (own_row hb ok hd hi)
  have k0 := hrow 0 (by decide)
  have k1 := hrow 1 (by decide)
  have k2 := hrow 2 (by decide)
  have k3 := hrow 3 (by decide)
  rw [(most_sum g1 g2 hd).1, fs_lines isT hb hd]
  omega
end
end Go.Lv.P
