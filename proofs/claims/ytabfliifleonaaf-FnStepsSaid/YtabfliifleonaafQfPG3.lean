/-
Plain facts of the pure functions, part 3; without conditions.
-/
import Derived.Test.YtabfliifleonaafQfP1
import Derived.Test.YtabfliifleonaafQfP2
import Derived.Test.YtabfliifleonaafQfPG2
import Derived.Test.YtabfliifleonaafQfP0
import Derived.Test.YtabfliifleonaafQfP3
import Derived.Test.YtabfliifleonaafQfP5
import Derived.Test.YtabfliifleonaafQfPG1
import Derived.Test.YtabfliifleonaafQfP4
set_option linter.unusedVariables false
set_option linter.unusedSimpArgs false
set_option linter.unusedSectionVars false
namespace Go.Lv.P
open Go Go.Lv
set_option maxRecDepth 100000
theorem impl_line (b : List Int) {d i : Nat} (hd : d < 4) (hi : i < 4) : impl_Board_line_p b d i = some (lineB b d i) := by
  obtain rfl | rfl | rfl | rfl : d = 0 ∨ d = 1 ∨ d = 2 ∨ d = 3 := by omega
  all_goals
    obtain rfl | rfl | rfl | rfl : i = 0 ∨ i = 1 ∨ i = 2 ∨ i = 3 := by omega
    all_goals rfl
theorem impl_with (b row : List Int) {d i : Nat} (hd : d < 4) (hi : i < 4) : impl_Board_withLine_p b d i row = some (putB b d i row) := by
  obtain rfl | rfl | rfl | rfl : d = 0 ∨ d = 1 ∨ d = 2 ∨ d = 3 := by omega
  all_goals
    obtain rfl | rfl | rfl | rfl : i = 0 ∨ i = 1 ∨ i = 2 ∨ i = 3 := by omega
    all_goals rfl
section
variable {b : List Int} (hb : b.length = 16) (ok : okB b = true)
include hb ok
theorem impl_slide (F : Nat) (hF : 1000 < F) {d : Nat} (hd : d < 4) : ∃ m, impl_Board_slide_p F b d = some ((slideB b d).1, (slideB b d).2, m) := by
  have l8 : ∀ (sc : Int) (t : Int) (ms : List Bool) (b' out : List Int) (m : Int), ∃ m', impl_Board_slide_l8 F d sc t ms b' out m 0 = some m' := fun sc t ms b' out m =>
    ⟨_, (loop_fold (step := impl_Board_slide_s8 F d sc t ms b' out) (fun i (a : Int) => (a, i)) 4 (fun i a => bif bget ms (i * 1) then IntKind.wrap .i64 (a + 1) else a) (fun a => a) (fun _ _ => True) (F := F) (by omega) (by omega) (a := m) trivial (fun i a hi _ => ⟨trivial, fun Q kn kx => by
      have hi' : (i : Int) < 4 := by omega
      simp only [impl_Board_slide_s8, hi', inR_cast, hi, Int.toNat_natCast, decide_true, cond_true]
      cases bget ms (i * 1) <;> rfl⟩) (fun a _ Q kn kx => by simp [impl_Board_slide_s8])).1⟩
  have row : ∀ i, i < 4 → ∃ mg, impl_slideRow_p F (lineB b d i) = some ((rslide (lineB b d i)).2.2.2, (rslide (lineB b d i)).2.1, mg) := fun i hi => impl_row F _ rfl (line_ok hb ((okB_iff b).1 ok) hd hi) hF
  have step : ∀ (i : Nat) (m : Int) (s : List Int × Int), i < 4 → ∃ m' : Int, ∀ (Q : Type) kn kx, impl_Board_slide_s3 F d b Q (s.2, m, (i : Int), s.1) kn kx = kn ((sstep b d i s).2, m', IntKind.wrap .i64 ((i : Int) + 1), (sstep b d i s).1) := fun i m s hi => by
    obtain ⟨mg, hr⟩ := row i hi
    obtain ⟨m', h8⟩ := l8 (IntKind.wrap .i64 (s.2 + (rslide (lineB b d i)).2.1)) i mg b (putB s.1 d i (rslide (lineB b d i)).2.2.2) m
    refine ⟨m', fun Q kn kx => ?_⟩
    have hi' : (i : Int) < 4 := by omega
    simp only [impl_Board_slide_s3, hi', decide_true, cond_true, impl_line b hd hi, hr, impl_with _ _ hd hi, h8, Option.isSome_some, Option.getD_some, sstep]
  obtain ⟨G, rfl⟩ : ∃ G, F = G + 5 := ⟨F - 5, by omega⟩
  obtain ⟨m1, h1⟩ := step 0 0 (b, 0) (by omega)
  obtain ⟨m2, h2⟩ := step 1 m1 _ (by omega)
  obtain ⟨m3, h3⟩ := step 2 m2 _ (by omega)
  obtain ⟨m4, h4⟩ := step 3 m3 _ (by omega)
  have e : impl_Board_slide_l3 (G + 5) d b 0 0 0 b = some ((slideB b d).2, m4, (slideB b d).1) := by
    have w : ∀ n : Nat, n < 4 → IntKind.wrap .i64 ((n : Int) + 1) = ((n + 1 : Nat) : Int) := fun n hn => wrap_succ hn (by omega)
    show loopC _ (G + 5) ((b, (0 : Int)).2, (0 : Int), ((0 : Nat) : Int), (b, (0 : Int)).1) some = _
    simp only [loopC]
    rw [h1, w 0 (by omega), h2, w 1 (by omega), h3, w 2 (by omega), h4, w 3 (by omega)]
    simp [impl_Board_slide_s3]
    exact ⟨rfl, rfl⟩
  exact ⟨m4, by simp only [impl_Board_slide_p, impl_Board_slide_c, e, Option.isSome_some, Option.getD_some, cond_true]⟩
end
end Go.Lv.P

namespace Go.Lv.P
open Go Go.Lv
set_option maxRecDepth 100000
theorem spec_line (G : Nat) {d i : Nat} (hd : d < 4) (hi : i < 4) : spec_l2Line_p (G + 1001) d i = some (crd d i) := by
  obtain rfl | rfl | rfl | rfl : d = 0 ∨ d = 1 ∨ d = 2 ∨ d = 3 := by omega
  all_goals
    obtain rfl | rfl | rfl | rfl : i = 0 ∨ i = 1 ∨ i = 2 ∨ i = 3 := by omega
    all_goals kernel_rfl
theorem spec_nums (G : Nat) (b : List Int) {d i : Nat} (hd : d < 4) (hi : i < 4) : spec_l2Numbers_p (G + 1001) b d i = some (lineB b d i) := by
  obtain rfl | rfl | rfl | rfl : d = 0 ∨ d = 1 ∨ d = 2 ∨ d = 3 := by omega
  all_goals
    obtain rfl | rfl | rfl | rfl : i = 0 ∨ i = 1 ∨ i = 2 ∨ i = 3 := by omega
    all_goals kernel_rfl
theorem put_line0 (out : List Int) (x : Int) {d i : Nat} (hd : d < 4) (hi : i < 4) : spec_l2Put_p out (sub (crd d i) 0 2) x = some (iset out (plcD d i 0) x) := by
  obtain rfl | rfl | rfl | rfl : d = 0 ∨ d = 1 ∨ d = 2 ∨ d = 3 := by omega
  all_goals
    obtain rfl | rfl | rfl | rfl : i = 0 ∨ i = 1 ∨ i = 2 ∨ i = 3 := by omega
    all_goals kernel_rfl
theorem put_line1 (out : List Int) (x : Int) {d i : Nat} (hd : d < 4) (hi : i < 4) : spec_l2Put_p out (sub (crd d i) 2 2) x = some (iset out (plcD d i 1) x) := by
  obtain rfl | rfl | rfl | rfl : d = 0 ∨ d = 1 ∨ d = 2 ∨ d = 3 := by omega
  all_goals
    obtain rfl | rfl | rfl | rfl : i = 0 ∨ i = 1 ∨ i = 2 ∨ i = 3 := by omega
    all_goals kernel_rfl
theorem put_line2 (out : List Int) (x : Int) {d i : Nat} (hd : d < 4) (hi : i < 4) : spec_l2Put_p out (sub (crd d i) 4 2) x = some (iset out (plcD d i 2) x) := by
  obtain rfl | rfl | rfl | rfl : d = 0 ∨ d = 1 ∨ d = 2 ∨ d = 3 := by omega
  all_goals
    obtain rfl | rfl | rfl | rfl : i = 0 ∨ i = 1 ∨ i = 2 ∨ i = 3 := by omega
    all_goals kernel_rfl
theorem put_line3 (out : List Int) (x : Int) {d i : Nat} (hd : d < 4) (hi : i < 4) : spec_l2Put_p out (sub (crd d i) 6 2) x = some (iset out (plcD d i 3) x) := by
  obtain rfl | rfl | rfl | rfl : d = 0 ∨ d = 1 ∨ d = 2 ∨ d = 3 := by omega
  all_goals
    obtain rfl | rfl | rfl | rfl : i = 0 ∨ i = 1 ∨ i = 2 ∨ i = 3 := by omega
    all_goals kernel_rfl
section
variable {b : List Int} (hb : b.length = 16) (ok : okB b = true)
include hb ok
theorem spec_slide (F : Nat) (hF : 1000 < F) {d : Nat} (hd : d < 4) : spec_l2Slide_p F b d = some (slideB b d) := by
  obtain ⟨G, rfl⟩ : ∃ G, F = G + 1001 := ⟨F - 1001, by omega⟩
  have h := loop_fold (step := spec_l2Slide_s3 (G + 1001) d b) (fun i (s : List Int × Int) => (s.2, i, s.1)) 4 (sstep b d) (fun s => (s.2, s.1)) (fun _ _ => True) (F := G + 1001) (by omega) (by omega) (a := (b, 0)) trivial
    (fun i s hi _ => ⟨trivial, fun Q kn kx => by
      have hi' : (i : Int) < 4 := by omega
      simp only [spec_l2Slide_s3, hi', decide_true, cond_true, spec_nums G b hd hi, spec_row (G + 1001) _ rfl (line_ok hb ((okB_iff b).1 ok) hd hi) hF, spec_line G hd hi, put_line0 _ _ hd hi, put_line1 _ _ hd hi, put_line2 _ _ hd hi, put_line3 _ _ hd hi, Option.isSome_some, Option.getD_some, sstep, putB]⟩)
    (fun s _ Q kn kx => by simp [spec_l2Slide_s3])
  have e : spec_l2Slide_l3 (G + 1001) d b 0 0 b = some ((slideB b d).2, (slideB b d).1) := h.1
  simp only [spec_l2Slide_p, spec_l2Slide_c, e, Option.isSome_some, Option.getD_some, cond_true]
end
end Go.Lv.P

namespace Go.Lv.P
open Go Go.Lv
theorem sum_val (F : Nat) (hF : 1000 < F) {b : List Int} (hb : b.length = 16) (ok : okB b = true) : impl_SumOf_p F b = some (sumB b, true) := by
  simp only [impl_SumOf_p, impl_SumOf_c, impl_IsBoard_eq F b hb hF, ok, impl_sum_eq b hb ok, Option.isSome_some, Option.getD_some, cond_true, cond_false, Bool.not_true]
end Go.Lv.P

namespace Go.Lv.P
open Go Go.Lv
/-- the first place that is not below -/
theorem insB_at (b : List Int) : ∀ l : LL, ∃ n, n ≤ l.length ∧ (∀ i, i < n → ltL (rget l i) b = true) ∧ (n < l.length → ltL (rget l n) b = false) ∧ insB b l = bif decide (n < l.length) && (rget l n == b) then l else l.take n ++ [b] ++ l.drop n
  | [] => ⟨0, Nat.le_refl _, fun i h => by omega, fun h => by simp at h, rfl⟩
  | a :: r => by
    cases h : ltL a b with
    | true =>
      obtain ⟨n, h1, h2, h3, h4⟩ := insB_at b r
      refine ⟨n + 1, by simp; omega, fun i hi => ?_, fun hn => ?_, ?_⟩
      · cases i with
        | zero => exact h
        | succ i => exact h2 i (by omega)
      · exact h3 (by simpa using hn)
      · have e1 : rget (a :: r) (n + 1) = rget r n := rfl
        have e2 : decide (n + 1 < (a :: r).length) = decide (n < r.length) := by simp
        rw [e1, e2]
        simp only [insB, h, cond_true, h4]
        cases decide (n < r.length) && (rget r n == b) <;> simp
    | false =>
      refine ⟨0, Nat.zero_le _, fun i hi => by omega, fun _ => h, ?_⟩
      have e1 : rget (a :: r) 0 = a := rfl
      rw [e1]
      simp only [insB, h, cond_false]
      cases a == b <;> simp
theorem fnd_at {X : Type} (p : Nat → Bool) (f : Nat → X) (e : X) : ∀ (m i n : Nat), (∀ j, i ≤ j → j < i + n → p j = false) → n ≤ m → (n < m → p (i + n) = true) → fnd p f e i m = bif decide (n < m) then f (i + n) else e
  | 0, i, n, _, h, _ => by
    have : n = 0 := by omega
    subst this; rfl
  | m + 1, i, 0, _, _, h => by
    have := h (by omega)
    simp only [Nat.add_zero] at this
    simp only [fnd, this, cond_true, Nat.add_zero]
    rw [decide_eq_true (by omega)]; rfl
  | m + 1, i, n + 1, h1, h2, h3 => by
    have h0 := h1 i (Nat.le_refl _) (by omega)
    simp only [fnd, h0, cond_false]
    rw [fnd_at p f e m (i + 1) n (fun j hj hj2 => h1 j (by omega) (by omega)) (by omega) (fun hh => by rw [show i + 1 + n = i + (n + 1) by omega]; exact h3 (by omega))]
    rw [show i + 1 + n = i + (n + 1) by omega]
    have : decide (n < m) = decide (n + 1 < m + 1) := by simp
    rw [this]
theorem add_eq (F : Nat) {l : LL} {b : List Int} (hF : 1000 < F) (hb : b.length = 16) (h16 : ∀ x ∈ l, x.length = 16) (hl : l.length ≤ 1000000) (hlF : l.length < F) : spec_l3Add_p F l b = some (insB b l) := by
  obtain ⟨n, h1, h2, h3, h4⟩ := insB_at b l
  have hmem : ∀ i, i < l.length → (rget l i).length = 16 := fun i hi => h16 _ (by rw [rgetL, List.getElem?_eq_getElem hi]; exact List.getElem_mem hi)
  have hloop : spec_l3Add_l2 F l b 0 = some ((n : Nat) : Int) := by
    have h := loop_find (step := spec_l3Add_s2 F l b) (fun i => i) l.length (fun i => !(ltL (rget l i) b)) (fun i => (i : Int)) ((l.length : Nat) : Int) (F := F) hlF (by omega) (fun i hi Q kn kx => by
      simp only [spec_l3Add_s2, Int.ofNat_lt, inR_cast, hi, Int.toNat_natCast, decide_true, cond_true, before_eq F hF (hmem i hi) hb, Option.isSome_some, Option.getD_some]
      cases ltL (rget l i) b <;> rfl) (fun Q kn kx => by simp [spec_l3Add_s2])
    rw [fnd_at _ _ _ l.length 0 n (fun j _ hj => by rw [h2 j (by omega)]; rfl) h1 (fun hn => by rw [Nat.zero_add, h3 hn]; rfl), Nat.zero_add] at h
    have h : spec_l3Add_l2 F l b 0 = _ := h
    rw [h]
    cases hd : decide (n < l.length) with
    | true => rfl
    | false =>
      have := of_decide_eq_false hd
      have : n = l.length := by omega
      rw [this]; rfl
  have f : ∀ m : Nat, m ≤ 1000001 → fits m 128 = true := fun m h => fits_of (by omega) (by omega)
  have e1 : subn l.length l 0 n = l.take n := subn_take0 l n
  have e2 : subn l.length l n (l.length - n) = l.drop n := by
    rw [subn_eqL _ _ _ _ rfl, sub, List.take_of_length_le (by simp)]
  have t1 : (l.take n).length ≤ 1000001 := by simp; omega
  have t2 : (l.take n ++ [b]).length ≤ 1000001 := by simp; omega
  have t3 : (l.take n ++ [b] ++ l.drop n).length ≤ 1000001 := by simp; omega
  simp only [spec_l3Add_p, spec_l3Add_c, hloop, Option.isSome_some, Option.getD_some, cond_true, Int.toNat_natCast, Int.ofNat_lt, inR_cast, inLe_cast, h1, Nat.sub_zero, e1, e2, subn_self, decide_true, f _ t1, f _ t2, f _ t3]
  rw [h4]
  cases hd : decide (n < l.length) with
  | true =>
    cases rget l n == b <;> rfl
  | false => rfl
end Go.Lv.P

namespace Go.Lv.P
open Go Go.Lv
set_option maxRecDepth 100000
end Go.Lv.P

namespace Go.Lv.P
open Go Go.Lv
theorem inR4d {x : Int} (h : inB x 0 3 = true) : inR x 4 = true := by
  simp [inB] at h
  exact inR_true h.1 (by omega)
theorem do_tot (F : Nat) {b : List Int} (hb : b.length = 16) (hB : okB b = true) {s : List Int} (hs : s.length = 4) (hF : 1000 < F) :
    ∃ (nb : List Int) (sc : Int) (o : Bool), spec_l5Do_p F b s = some (nb, sc, o) ∧ nb.length = 16 := by
  obtain ⟨d, r, c, t, rfl⟩ := list4 hs
  have s1 : sub [d, r, c, t] 1 2 = [r, c] := rfl
  have g0 : iget [d, r, c, t] 0 = d := rfl
  have g3 : iget [d, r, c, t] 3 = t := rfl
  have q0 : iget [r, c] 0 = r := rfl
  have q1 : iget [r, c] 1 = c := rfl
  simp only [spec_l5Do_p, spec_l5Do_c, Option.isSome_some, Option.getD_some, cond_true, spec_l2Side_v, l1In_eq, in_eq, s1, g0, g3, spec_l2Cell_v, cond_and, q0, q1]
  cases hd : inB d 0 3 with
  | false => exact ⟨_, _, false, rfl, rfl⟩
  | true =>
    cases hr : inB r 0 3 with
    | false => exact ⟨_, _, false, rfl, rfl⟩
    | true =>
      cases hc : inB c 0 3 with
      | false => exact ⟨_, _, false, rfl, rfl⟩
      | true =>
        obtain ⟨n, rfl, hn⟩ : ∃ n : Nat, d = n ∧ n < 4 := by
          simp [inB] at hd
          exact ⟨d.toNat, by omega, by omega⟩
        have hat : ∀ x : List Int, spec_l2At_p x [r, c] = some (iget x (0 + r.toNat * 4 + c.toNat * 1)) := fun x => by
          simp only [spec_l2At_p, spec_l2At_c, q0, q1, inR4d hr, inR4d hc, cond_true]
        have hput : ∀ (x : List Int), spec_l2Put_p x [r, c] t = some (iset x (0 + r.toNat * 4 + c.toNat * 1) t) := fun x => by
          simp only [spec_l2Put_p, spec_l2Put_c, q0, q1, inR4d hr, inR4d hc, cond_true]
        have hok := slide_ok hb hB hn
        simp only [spec_slide hb hB F hF hn, hat, hput, Option.isSome_some, Option.getD_some, cond_true, Bool.not_true, cond_false, Bool.and_self]
        generalize slideB b n = w at *
        obtain ⟨w1, w2⟩ := w
        simp only at hok ⊢
        cases w1 == b with
        | true => cases inB t 1 2 <;> exact ⟨_, _, false, rfl, rfl⟩
        | false =>
          cases ht : inB t 1 2 with
          | false => cases iget w1 (0 + r.toNat * 4 + c.toNat * 1) == 0 <;> exact ⟨_, _, false, rfl, rfl⟩
          | true =>
            cases iget w1 (0 + r.toNat * 4 + c.toNat * 1) == 0 with
            | false => exact ⟨_, _, false, rfl, rfl⟩
            | true => exact ⟨_, _, true, rfl, iset_len16 hok.1 _ _⟩
end Go.Lv.P

namespace Go.Lv.P
open Go Go.Lv
theorem rstep_score {s : RS} {x : Int} (hx : inB x 1 17 = true) (h0 : 0 ≤ s.2.1) (h1 : s.2.1 ≤ 1000000000) : s.2.1 ≤ (rstep s x).2.1 ∧ (rstep s x).2.1 ≤ s.2.1 + 131072 := by
  have hx1 : 1 ≤ x ∧ x ≤ 17 := by simpa [inB] using hx
  unfold rstep
  cases h17 : decide (x < 17) with
  | false =>
    simp only [Bool.and_false, Bool.false_and, cond_false]
    omega
  | true =>
    have h17 := of_decide_eq_true h17
    obtain ⟨w1, w2, _⟩ := W_facts (t := x + 1) (by simp [inB]; omega)
    cases decide (0 < s.1) && (iget s.2.2.2 (0 + (s.1 - 1) * 1) == x) && true && !s.2.2.1
    · simp only [cond_false]; omega
    · simp only [cond_true]
      rw [wrap_of (by omega) (by omega)]
      omega
theorem rfold_score : ∀ (l : List Int) (s : RS), (∀ x ∈ l, inB x 1 17 = true) → 0 ≤ s.2.1 → s.2.1 + 131072 * l.length ≤ 900000000 → s.2.1 ≤ (l.foldl rstep s).2.1 ∧ (l.foldl rstep s).2.1 ≤ s.2.1 + 131072 * l.length := by
  intro l
  induction l with
  | nil => intro s _ _ _; simp
  | cons y r ih =>
    intro s hl h0 h1
    simp only [List.length_cons] at h1
    obtain ⟨g1, g2⟩ := rstep_score (s := s) (hl y List.mem_cons_self) h0 (by omega)
    obtain ⟨g3, g4⟩ := ih (rstep s y) (fun z hz => hl z (List.mem_cons_of_mem _ hz)) (by omega) (by omega)
    simp only [List.foldl_cons, List.length_cons]
    omega
theorem tiles_in {row : List Int} (hr : ∀ x ∈ row, tileOK x) : ∀ x ∈ row.filter fun x => !(x == 0), inB x 1 17 = true := by
  intro x hx
  rw [List.mem_filter] at hx
  have h1 := hr x hx.1
  have h2 : x ≠ 0 := by simpa using hx.2
  simp [tileOK, inB] at h1
  simp [inB]
  omega
theorem rslide_score {row : List Int} (hl : row.length = 4) (hr : ∀ x ∈ row, tileOK x) : 0 ≤ (rslide row).2.1 ∧ (rslide row).2.1 ≤ 524288 := by
  have h := rfold_score _ (0, 0, false, [0, 0, 0, 0]) (tiles_in hr) (by simp) (by have := List.length_filter_le (fun x => !(x == 0)) row; simp only; omega)
  have hq := List.length_filter_le (fun x => !(x == 0)) row
  simp only [rslide]
  simp only at h
  omega
theorem rstep_inc {s : RS} {x : Int} (h : (rstep s x).1 = s.1 + 1) : rstep s x = (s.1 + 1, s.2.1, false, iset s.2.2.2 (0 + s.1 * 1) x) := by
  unfold rstep at h ⊢
  cases hc : decide (0 < s.1) && (iget s.2.2.2 (0 + (s.1 - 1) * 1) == x) && decide (x < 17) && !s.2.2.1 with
  | false => rfl
  | true => rw [hc] at h; simp at h
theorem iget_iset_ne (l : List Int) (i j : Nat) (x : Int) (h : i ≠ j) : iget (iset l i x) j = iget l j := by
  rw [igetL, igetL, isetL, List.getElem?_set_ne h]
/-- behind the tiles that lie there all is empty -/
def ends (s : RS) : Prop := ∀ j, s.1 ≤ j → iget s.2.2.2 j = 0
theorem rstep_ends {s : RS} {x : Int} (h : ends s) : ends (rstep s x) := by
  unfold rstep
  cases hc : decide (0 < s.1) && (iget s.2.2.2 (0 + (s.1 - 1) * 1) == x) && decide (x < 17) && !s.2.2.1 with
  | false =>
    intro j hj
    simp only [cond_false] at hj ⊢
    rw [iget_iset_ne _ _ _ _ (by omega)]
    exact h j (by omega)
  | true =>
    intro j hj
    simp only [Bool.and_eq_true, decide_eq_true_eq] at hc
    simp only [cond_true] at hj ⊢
    rw [iget_iset_ne _ _ _ _ (by omega)]
    exact h j (by omega)
theorem rfold_ends : ∀ (l : List Int) (s : RS), ends s → ends (l.foldl rstep s) ∧ (l.foldl rstep s).1 ≤ s.1 + l.length
  | [], s, h => ⟨h, Nat.le_refl _⟩
  | x :: r, s, h => by
    obtain ⟨g1, g2⟩ := rfold_ends r (rstep s x) (rstep_ends h)
    have := rstep_n s x
    exact ⟨g1, by simp only [List.foldl_cons, List.length_cons]; omega⟩
theorem rstep4 {a b c d : Int} (h4 : 4 ≤ (rstep (rstep (rstep (rstep (0, 0, false, [0, 0, 0, 0]) a) b) c) d).1) : rstep (rstep (rstep (rstep (0, 0, false, [0, 0, 0, 0]) a) b) c) d = (4, 0, false, [a, b, c, d]) := by
  have n1 : (rstep (0, 0, false, [0, 0, 0, 0]) a).1 ≤ 1 := rstep_n _ _
  have n2 := rstep_n (rstep (0, 0, false, [0, 0, 0, 0]) a) b
  have n3 := rstep_n (rstep (rstep (0, 0, false, [0, 0, 0, 0]) a) b) c
  have n4 := rstep_n (rstep (rstep (rstep (0, 0, false, [0, 0, 0, 0]) a) b) c) d
  have k1 : rstep (0, 0, false, [0, 0, 0, 0]) a = (1, 0, false, [a, 0, 0, 0]) := rstep_inc (by show (rstep (0, 0, false, [0, 0, 0, 0]) a).1 = 1; omega)
  rw [k1] at n2 n3 n4 h4 ⊢
  have n2 : (rstep (1, 0, false, [a, 0, 0, 0]) b).1 ≤ 2 := n2
  have k2 : rstep (1, 0, false, [a, 0, 0, 0]) b = (2, 0, false, [a, b, 0, 0]) := rstep_inc (by show (rstep (1, 0, false, [a, 0, 0, 0]) b).1 = 2; omega)
  rw [k2] at n3 n4 h4 ⊢
  have n3 : (rstep (2, 0, false, [a, b, 0, 0]) c).1 ≤ 3 := n3
  have k3 : rstep (2, 0, false, [a, b, 0, 0]) c = (3, 0, false, [a, b, c, 0]) := rstep_inc (by show (rstep (2, 0, false, [a, b, 0, 0]) c).1 = 3; omega)
  rw [k3] at n4 h4 ⊢
  have n4 : (rstep (3, 0, false, [a, b, c, 0]) d).1 ≤ 4 := n4
  exact rstep_inc (by show (rstep (3, 0, false, [a, b, c, 0]) d).1 = 4; omega)
/-- a row that is full behind its slide has not moved -/
theorem row_full {row : List Int} (hl : row.length = 4) (hf : ∀ x ∈ (rslide row).2.2.2, x ≠ 0) (hr : ∀ x ∈ row, tileOK x) : (rslide row).2.2.2 = row := by
  obtain ⟨a, b, c, d, rfl⟩ := list4 hl
  have h0 : ends (0, 0, false, [0, 0, 0, 0]) := fun j _ => by
    match j with
    | 0 => rfl
    | 1 => rfl
    | 2 => rfl
    | 3 => rfl
    | j + 4 => rfl
  obtain ⟨e1, e2⟩ := rfold_ends ([a, b, c, d].filter fun x => !(x == 0)) _ h0
  have h3 : iget (rslide [a, b, c, d]).2.2.2 3 ≠ 0 := by
    have hlen := (rslide_ok hr).1
    have := hf (rslide [a, b, c, d]).2.2.2[3] (List.getElem_mem _)
    rw [igetL, List.getElem?_eq_getElem (by omega)]
    exact this
  have h4 : 4 ≤ (rslide [a, b, c, d]).1 := by
    rcases Nat.lt_or_ge (rslide [a, b, c, d]).1 4 with h | h
    · exact absurd (e1 3 (by show (rslide [a, b, c, d]).1 ≤ 3; omega)) h3
    · exact h
  have hq : ([a, b, c, d].filter fun x => !(x == 0)).length = 4 := by
    have := List.length_filter_le (fun x : Int => !(x == 0)) [a, b, c, d]
    have e2 : (rslide [a, b, c, d]).1 ≤ 0 + ([a, b, c, d].filter fun x => !(x == 0)).length := e2
    simp only [List.length_cons, List.length_nil] at this
    omega
  have hall : ([a, b, c, d].filter fun x => !(x == 0)) = [a, b, c, d] := by
    apply (List.filter_sublist (l := [a, b, c, d]) (p := fun x => !(x == 0))).eq_of_length
    rw [hq]; rfl
  have hs : rslide [a, b, c, d] = rstep (rstep (rstep (rstep (0, 0, false, [0, 0, 0, 0]) a) b) c) d := by
    rw [rslide, hall]; rfl
  rw [hs] at h4 ⊢
  rw [rstep4 h4]
theorem slide_rows (b : List Int) (d : Nat) : (slideB b d).1 = putB (putB (putB (putB b d 0 (rslide (lineB b d 0)).2.2.2) d 1 (rslide (lineB b d 1)).2.2.2) d 2 (rslide (lineB b d 2)).2.2.2) d 3 (rslide (lineB b d 3)).2.2.2 := rfl
theorem rows_full {b r0 r1 r2 r3 : List Int} (hb : b.length = 16) (h0 : r0.length = 4) (h1 : r1.length = 4) (h2 : r2.length = 4) (h3 : r3.length = 4) {d : Nat} (hd : d < 4)
    (hf : ∀ x ∈ putB (putB (putB (putB b d 0 r0) d 1 r1) d 2 r2) d 3 r3, x ≠ 0) : (∀ x ∈ r0, x ≠ 0) ∧ (∀ x ∈ r1, x ≠ 0) ∧ (∀ x ∈ r2, x ≠ 0) ∧ ∀ x ∈ r3, x ≠ 0 := by
  obtain ⟨x0, x1, x2, x3, x4, x5, x6, x7, x8, x9, x10, x11, x12, x13, x14, x15, rfl⟩ := list16 hb
  obtain ⟨a0, a1, a2, a3, rfl⟩ := list4 h0
  obtain ⟨b0, b1, b2, b3, rfl⟩ := list4 h1
  obtain ⟨c0, c1, c2, c3, rfl⟩ := list4 h2
  obtain ⟨d0, d1, d2, d3, rfl⟩ := list4 h3
  obtain rfl | rfl | rfl | rfl : d = 0 ∨ d = 1 ∨ d = 2 ∨ d = 3 := by omega
  · have e : putB (putB (putB (putB [x0, x1, x2, x3, x4, x5, x6, x7, x8, x9, x10, x11, x12, x13, x14, x15] 0 0 [a0, a1, a2, a3]) 0 1 [b0, b1, b2, b3]) 0 2 [c0, c1, c2, c3]) 0 3 [d0, d1, d2, d3] = [a0, a1, a2, a3, b0, b1, b2, b3, c0, c1, c2, c3, d0, d1, d2, d3] := by kernel_rfl
    rw [e] at hf
    simp only [List.mem_cons, List.not_mem_nil, or_false, forall_eq_or_imp, forall_eq] at hf ⊢
    simp_all
  · have e : putB (putB (putB (putB [x0, x1, x2, x3, x4, x5, x6, x7, x8, x9, x10, x11, x12, x13, x14, x15] 1 0 [a0, a1, a2, a3]) 1 1 [b0, b1, b2, b3]) 1 2 [c0, c1, c2, c3]) 1 3 [d0, d1, d2, d3] = [a0, b0, c0, d0, a1, b1, c1, d1, a2, b2, c2, d2, a3, b3, c3, d3] := by kernel_rfl
    rw [e] at hf
    simp only [List.mem_cons, List.not_mem_nil, or_false, forall_eq_or_imp, forall_eq] at hf ⊢
    simp_all
  · have e : putB (putB (putB (putB [x0, x1, x2, x3, x4, x5, x6, x7, x8, x9, x10, x11, x12, x13, x14, x15] 2 0 [a0, a1, a2, a3]) 2 1 [b0, b1, b2, b3]) 2 2 [c0, c1, c2, c3]) 2 3 [d0, d1, d2, d3] = [a3, a2, a1, a0, b3, b2, b1, b0, c3, c2, c1, c0, d3, d2, d1, d0] := by kernel_rfl
    rw [e] at hf
    simp only [List.mem_cons, List.not_mem_nil, or_false, forall_eq_or_imp, forall_eq] at hf ⊢
    simp_all
  · have e : putB (putB (putB (putB [x0, x1, x2, x3, x4, x5, x6, x7, x8, x9, x10, x11, x12, x13, x14, x15] 3 0 [a0, a1, a2, a3]) 3 1 [b0, b1, b2, b3]) 3 2 [c0, c1, c2, c3]) 3 3 [d0, d1, d2, d3] = [a3, b3, c3, d3, a2, b2, c2, d2, a1, b1, c1, d1, a0, b0, c0, d0] := by kernel_rfl
    rw [e] at hf
    simp only [List.mem_cons, List.not_mem_nil, or_false, forall_eq_or_imp, forall_eq] at hf ⊢
    simp_all
theorem rows_self {b : List Int} (hb : b.length = 16) {d : Nat} (hd : d < 4) : putB (putB (putB (putB b d 0 (lineB b d 0)) d 1 (lineB b d 1)) d 2 (lineB b d 2)) d 3 (lineB b d 3) = b := by
  obtain ⟨x0, x1, x2, x3, x4, x5, x6, x7, x8, x9, x10, x11, x12, x13, x14, x15, rfl⟩ := list16 hb
  obtain rfl | rfl | rfl | rfl : d = 0 ∨ d = 1 ∨ d = 2 ∨ d = 3 := by omega
  all_goals kernel_rfl
theorem em_full {n : List Int} (hn : n.length = 16) (h : (em n).length = 0) : ∀ x ∈ n, x ≠ 0 := by
  have h : em n = [] := List.eq_nil_of_length_eq_zero h
  have key : ∀ c ∈ cells16, iget n (plc c) ≠ 0 := fun c hc h0 => by
    have : c ∈ em n := List.mem_filter.2 ⟨hc, by simpa using h0⟩
    rw [h] at this; cases this
  obtain ⟨x0, x1, x2, x3, x4, x5, x6, x7, x8, x9, x10, x11, x12, x13, x14, x15, rfl⟩ := list16 hn
  have g : ∀ (c : List Int) (x : Int), c ∈ cells16 → iget [x0, x1, x2, x3, x4, x5, x6, x7, x8, x9, x10, x11, x12, x13, x14, x15] (plc c) = x → x ≠ 0 := fun c x hc e => e ▸ key c hc
  intro x hx
  simp only [List.mem_cons, List.not_mem_nil, or_false] at hx
  rcases hx with rfl | rfl | rfl | rfl | rfl | rfl | rfl | rfl | rfl | rfl | rfl | rfl | rfl | rfl | rfl | rfl
  · exact g [0, 0] _ (by decide) rfl
  · exact g [0, 1] _ (by decide) rfl
  · exact g [0, 2] _ (by decide) rfl
  · exact g [0, 3] _ (by decide) rfl
  · exact g [1, 0] _ (by decide) rfl
  · exact g [1, 1] _ (by decide) rfl
  · exact g [1, 2] _ (by decide) rfl
  · exact g [1, 3] _ (by decide) rfl
  · exact g [2, 0] _ (by decide) rfl
  · exact g [2, 1] _ (by decide) rfl
  · exact g [2, 2] _ (by decide) rfl
  · exact g [2, 3] _ (by decide) rfl
  · exact g [3, 0] _ (by decide) rfl
  · exact g [3, 1] _ (by decide) rfl
  · exact g [3, 2] _ (by decide) rfl
  · exact g [3, 3] _ (by decide) rfl
section
variable {b : List Int} (hb : b.length = 16) (ok : okB b = true)
include hb ok
/-- a board that changes has an empty cell behind the slide -/
theorem slide_room {d : Nat} (hd : d < 4) (h : ((slideB b d).1 == b) = false) : 0 < (em (slideB b d).1).length := by
  rcases Nat.eq_zero_or_pos (em (slideB b d).1).length with h0 | h0
  · exfalso
    have hf := em_full (slide_ok hb ok hd).1 h0
    rw [slide_rows] at hf
    have hl : ∀ i, i < 4 → ∀ x ∈ lineB b d i, tileOK x := fun i hi => line_ok hb ((okB_iff b).1 ok) hd hi
    obtain ⟨f0, f1, f2, f3⟩ := rows_full hb (rslide_ok (hl 0 (by omega))).1 (rslide_ok (hl 1 (by omega))).1 (rslide_ok (hl 2 (by omega))).1 (rslide_ok (hl 3 (by omega))).1 hd hf
    have e := slide_rows b d
    rw [row_full rfl f0 (hl 0 (by omega)), row_full rfl f1 (hl 1 (by omega)), row_full rfl f2 (hl 2 (by omega)), row_full rfl f3 (hl 3 (by omega)), rows_self hb hd] at e
    rw [e] at h
    simp at h
  · exact h0
theorem slide_score {d : Nat} (hd : d < 4) : 0 ≤ (slideB b d).2 ∧ (slideB b d).2 ≤ 2097152 := by
  have hl : ∀ i, i < 4 → 0 ≤ (rslide (lineB b d i)).2.1 ∧ (rslide (lineB b d i)).2.1 ≤ 524288 := fun i hi => rslide_score rfl (line_ok hb ((okB_iff b).1 ok) hd hi)
  have l0 := hl 0 (by omega)
  have l1 := hl 1 (by omega)
  have l2 := hl 2 (by omega)
  have l3 := hl 3 (by omega)
  have e : (slideB b d).2 = IntKind.wrap .i64 (IntKind.wrap .i64 (IntKind.wrap .i64 (IntKind.wrap .i64 (0 + (rslide (lineB b d 0)).2.1) + (rslide (lineB b d 1)).2.1) + (rslide (lineB b d 2)).2.1) + (rslide (lineB b d 3)).2.1) := rfl
  rw [e, wrap_of (n := 0 + _) (by omega) (by omega), wrap_of (n := 0 + _ + _) (by omega) (by omega), wrap_of (n := 0 + _ + _ + _) (by omega) (by omega), wrap_of (by omega) (by omega)]
  omega
end
end Go.Lv.P


namespace Go.Lv.P
open Go Go.Lv
/-- the directions in which a slide is a move -/
def movesB (b : List Int) : List Int := fld (fun d out => bif (!((slideB b d).1 == b)) then out ++ [(d : Int)] else out) 0 4 []
theorem moves_step {c : Bool} {d : Nat} {out : List Int} (h : out.length ≤ d) : (bif c then out ++ [(d : Int)] else out).length ≤ d + 1 := by
  cases c
  · simp; omega
  · simp; omega
theorem movesB_eq (b : List Int) : movesB b = ((List.range 4).filter fun d => !((slideB b d).1 == b)).map fun d : Nat => (d : Int) := by
  have e : List.range 4 = [0, 1, 2, 3] := rfl
  rw [e]
  simp only [movesB, fld, List.filter]
  cases ((slideB b 0).1 == b) <;> cases ((slideB b (0 + 1)).1 == b) <;> cases ((slideB b (0 + 1 + 1)).1 == b) <;> cases ((slideB b (0 + 1 + 1 + 1)).1 == b) <;> rfl
theorem movesB_len (b : List Int) : (movesB b).length ≤ 4 := by
  rw [movesB_eq, List.length_map]
  exact List.length_filter_le _ _
theorem movesB_mem {b : List Int} {x : Int} (h : x ∈ movesB b) : ∃ d : Nat, x = d ∧ d < 4 ∧ ((slideB b d).1 == b) = false := by
  rw [movesB_eq] at h
  simp only [List.mem_map, List.mem_filter, List.mem_range] at h
  obtain ⟨d, ⟨h1, h2⟩, rfl⟩ := h
  exact ⟨d, rfl, h1, by simpa using h2⟩
end Go.Lv.P

namespace Go.Lv.P
open Go Go.Lv
/-- a board with a placement -/
def putP (b p : List Int) : List Int := iset b (0 + (iget p 0).toNat * 4 + (iget p 1).toNat * 1) (iget p 2)
theorem plm_in (b : List Int) : ∀ p ∈ plm b, inR (iget p 0) 4 = true ∧ inR (iget p 1) 4 = true ∧ inB (iget p 2) 1 2 = true := by
  rw [plm, fld_add]
  intro x hx
  simp only [List.nil_append, List.mem_flatMap, List.mem_cons, List.not_mem_nil, or_false] at hx
  obtain ⟨i, hi, hx⟩ := hx
  have hi : i < (em b).length := by
    have := List.mem_range'_1.1 hi
    omega
  have hm : rget (em b) i ∈ cells16 := by
    rw [rgetL, List.getElem?_eq_getElem hi]
    exact em_mem b _ (List.getElem_mem _)
  have key : ∀ c ∈ cells16, inR (iget c 0) 4 = true ∧ inR (iget c 1) 4 = true := cells_all fun r c hr hc => ⟨by show inR (r : Int) 4 = true; rw [inR_cast]; simpa using hr, by show inR (c : Int) 4 = true; rw [inR_cast]; simpa using hc⟩
  obtain ⟨k0, k1⟩ := key _ hm
  rcases hx with rfl | rfl
  · exact ⟨k0, k1, rfl⟩
  · exact ⟨k0, k1, rfl⟩
theorem rget_mem {l : LL} {i : Nat} (h : i < l.length) : rget l i ∈ l := by
  rw [rgetL, List.getElem?_eq_getElem h]
  exact List.getElem_mem _
theorem putP_ok {b p : List Int} (hb : b.length = 16) (ok : okB b = true) (h2 : inB (iget p 2) 1 2 = true) : (putP b p).length = 16 ∧ okB (putP b p) = true := by
  refine ⟨by rw [putP, iset_len]; exact hb, (okB_iff _).2 (iset_all ((okB_iff b).1 ok) _ ?_)⟩
  simp [inB] at h2
  simp [tileOK, inB]
  omega
end Go.Lv.P

namespace Go.Lv.P
open Go Go.Lv
section
variable {b : List Int} (hb : b.length = 16) (ok : okB b = true)
include hb ok
theorem impl_slides1 (F : Nat) (hF : 1000 < F) {d : Nat} (hd : d < 4) : impl_Board_slides_p F b [(d : Int)] = some (slideB b d).1 := by
  obtain ⟨m, hm⟩ := impl_slide hb ok F hF hd
  have h := loop_fold (step := impl_Board_slides_s2 F [(d : Int)] 1) (fun i (a : List Int) => (i, a)) 1 (fun i a => (slideB b d).1) (fun a => a) (fun i a => i = 0 → a = b) (F := F) (by omega) (by omega) (a := b) (fun _ => rfl)
    (fun i a hi h => by
      obtain rfl : i = 0 := by omega
      refine ⟨fun h => absurd h (by omega), fun Q kn kx => ?_⟩
      have h0 : ((0 : Nat) : Int) < 1 := by omega
      have hg : iget [(d : Int)] 0 = d := rfl
      simp only [impl_Board_slides_s2, h0, decide_true, cond_true, inR_cast, List.length_singleton, Nat.zero_lt_one, Int.toNat_natCast, hg, h rfl, hm, Option.isSome_some, Option.getD_some])
    (fun a _ Q kn kx => by simp [impl_Board_slides_s2])
  have e : impl_Board_slides_l2 F [(d : Int)] 1 0 b = some (slideB b d).1 := h.1
  have e' : (([(d : Int)].length : Nat) : Int) = 1 := rfl
  simp only [impl_Board_slides_p, impl_Board_slides_c, e', e, Option.isSome_some, Option.getD_some, cond_true]
end
end Go.Lv.P

namespace Go.Lv.P
open Go Go.Lv
/-- the two steps with a cell -/
def step1 (d : Int) (c : List Int) : List Int := iset (splice [d, 0, 0, 0] 1 c 2) 3 1
def step2 (d : Int) (c : List Int) : List Int := iset (splice [d, 0, 0, 0] 1 c 2) 3 2
/-- the steps onto a board -/
def stepsOn (n : List Int) (d : Int) : LL := fld (fun i a => a ++ [step1 d (rget (em n) i), step2 d (rget (em n) i)]) 0 (em n).length []
def stepsB (b : List Int) (d : Nat) : LL := bif (slideB b d).1 == b then [] else stepsOn (slideB b d).1 (d : Int)
theorem stepsOn_len (n : List Int) (d : Int) : (stepsOn n d).length = 2 * (em n).length := by
  rw [stepsOn, fld_add]
  have : ∀ m i, ((List.range' i m).flatMap fun i => [step1 d (rget (em n) i), step2 d (rget (em n) i)]).length = 2 * m := by
    intro m
    induction m with
    | zero => intro i; rfl
    | succ m ih => intro i; rw [List.range'_succ, List.flatMap_cons, List.length_append, ih]; simp; omega
  simpa using this (em n).length 0
theorem cells_len : ∀ x ∈ cells16, x.length = 2 := cells_all fun _ _ _ _ => rfl
theorem em_get {n : List Int} {i : Nat} (h : i < (em n).length) : rget (em n) i ∈ cells16 := by
  rw [rgetL, List.getElem?_eq_getElem h]
  exact em_mem n _ (List.getElem_mem _)
theorem step1_eq (d x y : Int) : step1 d [x, y] = [d, x, y, 1] := rfl
theorem step2_eq (d x y : Int) : step2 d [x, y] = [d, x, y, 2] := rfl
theorem stepsOn_mem (n : List Int) (d : Int) : ∀ x ∈ stepsOn n d, ∃ c ∈ em n, x = step1 d c ∨ x = step2 d c := by
  rw [stepsOn, fld_add]
  intro x hx
  simp only [List.nil_append, List.mem_flatMap, List.mem_cons, List.not_mem_nil, or_false] at hx
  obtain ⟨i, hi, hx⟩ := hx
  have hi : i < (em n).length := by
    have := List.mem_range'_1.1 hi
    omega
  refine ⟨rget (em n) i, ?_, hx⟩
  rw [rgetL, List.getElem?_eq_getElem hi]
  exact List.getElem_mem _
theorem stepsB_len (b : List Int) (d : Nat) : (stepsB b d).length ≤ 32 := by
  unfold stepsB
  generalize (slideB b d).1 = n
  cases n == b
  · have := stepsOn_len n d
    have := em_len n
    simp only [cond_false]
    omega
  · simp
theorem stepsB_mem (b : List Int) (d : Nat) : ∀ x ∈ stepsB b d, ∃ c ∈ em (slideB b d).1, x = step1 d c ∨ x = step2 d c := by
  unfold stepsB
  generalize (slideB b d).1 = n
  cases n == b
  · simp only [cond_false]; exact stepsOn_mem _ _
  · intro x hx; simp at hx
theorem stepsB_rows (b : List Int) (d : Nat) : ∀ x ∈ stepsB b d, x.length = 4 := by
  intro x hx
  obtain ⟨c, hc, h⟩ := stepsB_mem b d x hx
  obtain ⟨p, q, rfl⟩ := list2 (cells_len c (em_mem _ _ hc))
  rcases h with rfl | rfl <;> rfl
end Go.Lv.P

namespace Go.Lv.P
open Go Go.Lv
/-- the first placement behind which a board does not last, and whether there is one -/
def refF (L : List Int → Bool) (nx : List Int) : Bool × List Int := fnd (fun i => !L (putP nx (rget (plm nx) i))) (fun i => (true, rget (plm nx) i)) (false, default) 0 (plm nx).length
def refM (L : List Int → Bool) (nx : List Int) : List Int × Bool := bif (refF L nx).1 then ((refF L nx).2, true) else ([0, 0, 0], false)
def safeM (L : List Int → Bool) (b : List Int) (d : Nat) : Bool := bif (slideB b d).1 == b then false else !(refM L (slideB b d).1).2
def lastM (L : List Int → Bool) (b : List Int) : Bool := fnd (fun d => safeM L b d) (fun _ => true) false 0 4
def lastN : Nat → List Int → Bool
  | 0 => fun _ => true
  | n + 1 => lastM (lastN n)
theorem fnd_none {X : Type} (f : Nat → X) (e : X) (p : Nat → Bool) (h : ∀ i, p i = false) : ∀ (m i : Nat), fnd p f e i m = e
  | 0, _ => rfl
  | m + 1, i => by simp only [fnd, h, cond_false]; exact fnd_none f e p h m (i + 1)
theorem refM_0 (nx : List Int) : refM (lastN 0) nx = ([0, 0, 0], false) := by
  have : refF (lastN 0) nx = (false, default) := fnd_none _ _ _ (fun _ => rfl) _ _
  rw [refM, this]; rfl
theorem refM_len (L : List Int → Bool) (nx : List Int) : (refM L nx).1.length = 3 := by
  have key : ∀ (m i : Nat), i + m = (plm nx).length → (fnd (fun i => !L (putP nx (rget (plm nx) i))) (fun i => (true, rget (plm nx) i)) (false, default) i m).1 = true → (fnd (fun i => !L (putP nx (rget (plm nx) i))) (fun i => (true, rget (plm nx) i)) (false, default) i m).2.length = 3 := by
    intro m
    induction m with
    | zero => intro i _ h; cases h
    | succ m ih =>
      intro i hi h
      simp only [fnd] at h ⊢
      cases hc : (!L (putP nx (rget (plm nx) i))) with
      | true => exact plm_mem nx _ (rget_mem (by omega))
      | false => rw [hc] at h; exact ih (i + 1) (by omega) h
  unfold refM
  cases h : (refF L nx).1 with
  | true => exact key _ _ (by omega) h
  | false => rfl
/-- lasting, told by the moves -/
theorem lastM_moves (L : List Int → Bool) (b : List Int) : lastM L b = (movesB b).any fun x => !(refM L (slideB b x.toNat).1).2 := by
  have e : List.range 4 = [0, 1, 2, 3] := rfl
  rw [lastM, fnd_any, movesB_eq, e]
  simp only [safeM, List.any_cons, List.any_nil, List.filter]
  cases ((slideB b 0).1 == b) <;> cases ((slideB b 1).1 == b) <;> cases ((slideB b 2).1 == b) <;> cases ((slideB b 3).1 == b) <;> simp
theorem last1_moves (b : List Int) : lastN 1 b = !((((movesB b).length : Nat) : Int) == 0) := by
  show lastM (lastN 0) b = _
  rw [lastM_moves]
  simp only [refM_0, Bool.not_false]
  cases movesB b with
  | nil => rfl
  | cons x r =>
    simp
    omega
theorem safe_filter (L : List Int → Bool) (b : List Int) : (((List.range 4).filter fun d => safeM L b d).map fun d : Nat => (d : Int)) = (movesB b).filter fun x => !(refM L (slideB b x.toNat).1).2 := by
  have e : List.range 4 = [0, 1, 2, 3] := rfl
  rw [movesB_eq, e]
  simp only [safeM, List.filter]
  cases ((slideB b 0).1 == b) <;> cases ((slideB b 1).1 == b) <;> cases ((slideB b 2).1 == b) <;> cases ((slideB b 3).1 == b) <;>
    cases h0 : (refM L (slideB b 0).1).2 <;> cases h1 : (refM L (slideB b 1).1).2 <;> cases h2 : (refM L (slideB b 2).1).2 <;> cases h3 : (refM L (slideB b 3).1).2 <;> simp [List.filter, h0, h1, h2, h3]
theorem put_all {nx : List Int} (hb : nx.length = 16) (ok : okB nx = true) {p : List Int} (hp : p ∈ plm nx) :
    (inR (iget p 0) 4 = true ∧ inR (iget p 1) 4 = true) ∧ (putP nx p).length = 16 ∧ okB (putP nx p) = true :=
  have ⟨p0, p1, p2⟩ := plm_in nx _ hp
  ⟨⟨p0, p1⟩, putP_ok hb ok p2⟩
theorem plm_len40 (b : List Int) : (plm b).length ≤ 40 := by have := em_len b; rw [plm_len]; omega
end Go.Lv.P

namespace Go.Lv.P
open Go Go.Lv
section
variable {b : List Int} (hb : b.length = 16) (ok : okB b = true)
include hb ok
theorem impl_steps (F : Nat) (hF : 1000 < F) {d : Nat} (hd : d < 4) : impl_Board_steps_p F b d = some (stepsB b d) := by
  have hl := em_len (slideB b d).1
  obtain ⟨r, h1, h2⟩ := impl_empty_eq F (slideB b d).1 hF
  have hr : r.1 = (em (slideB b d).1).length := by rw [h2.1, em_not]
  have hg : ∀ i, i < (em (slideB b d).1).length → rget r.2 (0 + i) = rget (em (slideB b d).1) i := fun i hi => by
    rw [h2.get (hr ▸ hi), em_not]
  have h : impl_Board_steps_l5 F d r.1 r.1 r.2 0 [] = some (stepsOn (slideB b d).1 d) := by
    rw [hr]
    refine (loop_fold (step := impl_Board_steps_s5 F d (em (slideB b d).1).length (em (slideB b d).1).length r.2) (fun i a => (i, a)) (em (slideB b d).1).length _ (fun a => a) (fun i a => a.length ≤ 2 * i) (F := F) (by omega) (by omega) (a := []) (by simp) (fun i a hi hI => ⟨?_, fun Q kn kx => ?_⟩) (fun a _ Q kn kx => by simp [impl_Board_steps_s5])).1
    · simp; omega
    · have hf : ∀ x y : List Int, fits (a ++ [x, y]).length 32 = true := fun x y => fits_of (by simp; omega) (by simp; omega)
      simp only [impl_Board_steps_s5, Int.ofNat_lt, inR_cast, hi, Int.toNat_natCast, decide_true, cond_true, subn_self, hf, hg i hi, step1, step2]
  simp only [impl_Board_steps_p, impl_Board_steps_c, impl_slides1 hb ok F hF hd, h1, h, Option.isSome_some, Option.getD_some, cond_true, stepsB]
  generalize (slideB b d).1 = n
  cases n == b
  · simp only [cond_false]
  · simp only [cond_true]
end
end Go.Lv.P

namespace Go.Lv.P
open Go Go.Lv
section
variable {b : List Int} (hb : b.length = 16) (ok : okB b = true)
include hb ok
theorem spec_steps (F : Nat) (hF : 1000 < F) {d : Nat} (hd : d < 4) : spec_l5Steps_p F b d = some (stepsB b d) := by
  have hl := em_len (slideB b d).1
  have h : spec_l5Steps_l7 F d (em (slideB b d).1) 0 [] = some (stepsOn (slideB b d).1 d) := by
    refine (loop_fold (step := spec_l5Steps_s7 F d (em (slideB b d).1)) (fun i a => (i, a)) (em (slideB b d).1).length _ (fun a => a) (fun i a => a.length ≤ 2 * i) (F := F) (by omega) (by omega) (a := []) (by simp) (fun i a hi hI => ⟨?_, fun Q kn kx => ?_⟩) (fun a _ Q kn kx => by simp [spec_l5Steps_s7])).1
    · simp; omega
    · have hf : ∀ x y : List Int, fits (a ++ [x, y]).length 32 = true := fun x y => fits_of (by simp; omega) (by simp; omega)
      simp only [spec_l5Steps_s7, Int.ofNat_lt, inR_cast, hi, Int.toNat_natCast, decide_true, cond_true, subn_self, hf, Nat.zero_add, step1, step2]
  simp only [spec_l5Steps_p, spec_l5Steps_c, spec_slide hb ok F hF hd, spec_empty_eq F _ hF, h, Option.isSome_some, Option.getD_some, cond_true, beq_selfL, Bool.and_self, stepsB]
  generalize (slideB b d).1 = n
  cases n == b
  · simp only [cond_false]
  · simp only [cond_true]
end
end Go.Lv.P

namespace Go.Lv.P
open Go Go.Lv
def allB (b : List Int) : LL := stepsB b 0 ++ stepsB b 1 ++ stepsB b 2 ++ stepsB b 3
theorem allB_len (b : List Int) : (allB b).length ≤ 128 := by
  have h0 := stepsB_len b 0
  have h1 := stepsB_len b 1
  have h2 := stepsB_len b 2
  have h3 := stepsB_len b 3
  simp only [allB, List.length_append]; omega
theorem allB_rows (b : List Int) : ∀ x ∈ allB b, x.length = 4 := by
  intro x hx
  simp only [allB, List.mem_append] at hx
  rcases hx with ((h | h) | h) | h <;> exact stepsB_rows _ _ _ h
section
variable {b : List Int} (hb : b.length = 16) (ok : okB b = true)
include hb ok
theorem spec_all (F : Nat) (hF : 1000 < F) : spec_l5All_p F b = some (allB b) := by
  have h := loop_fold (step := spec_l5All_s3 F b) (fun i (a : LL) => (i, a)) 4 (fun i a => a ++ stepsB b i) (fun a => a) (fun i a => a.length ≤ 32 * i) (F := F) (by omega) (by omega) (a := []) (by simp)
    (fun i a hi hI => by
      have hl := stepsB_len b i
      refine ⟨by simp only [List.length_append]; omega, fun Q kn kx => ?_⟩
      have hi' : (i : Int) < 4 := by omega
      have hf : fits (a ++ stepsB b i).length 32 = true := fits_of (by simp only [List.length_append]; omega) (by simp only [List.length_append]; omega)
      simp only [spec_l5All_s3, hi', decide_true, spec_steps hb ok F hF hi, Option.isSome_some, Option.getD_some, cond_true, subn_self, hf]) (fun a _ Q kn kx => by simp [spec_l5All_s3])
  have f4 : ∀ (g : Nat → LL → LL) (a : LL), fld g 0 4 a = g 3 (g 2 (g 1 (g 0 a))) := fun _ _ => rfl
  have hh := h.1
  rw [f4, List.nil_append] at hh
  have h1 : spec_l5All_l3 F b 0 [] = some (allB b) := hh
  simp only [spec_l5All_p, spec_l5All_c, h1, Option.isSome_some, Option.getD_some, cond_true]
end
end Go.Lv.P

namespace Go.Lv.P
open Go Go.Lv
theorem rget_self (l : LL) (f : Nat → LL) (g : List Int → LL) (h : ∀ i, i < l.length → f i = g (rget l i)) : (List.range' 0 l.length).flatMap f = l.flatMap g := by
  have : ∀ (m i : Nat), i + m = l.length → (List.range' i m).flatMap f = (l.drop i).flatMap g := by
    intro m
    induction m with
    | zero => intro i hi; rw [List.drop_eq_nil_of_le (by omega)]; rfl
    | succ m ih =>
      intro i hi
      have hil : i < l.length := by omega
      have hg : rget l i = l[i] := by rw [rgetL, List.getElem?_eq_getElem hil]; rfl
      rw [List.range'_succ, List.flatMap_cons, ih (i + 1) (by omega), List.drop_eq_getElem_cons hil, List.flatMap_cons, h i hil, hg]
  simpa using this l.length 0 (by omega)
theorem plm_list (b : List Int) : plm b = (em b).flatMap fun c => [[iget c 0, iget c 1, 1], [iget c 0, iget c 1, 2]] := by
  rw [plm, fld_add, List.nil_append]
  exact rget_self _ _ _ fun i _ => rfl
theorem stepsOn_list (n : List Int) (d : Int) : stepsOn n d = (plm n).map fun p => d :: p := by
  rw [plm_list, List.map_flatMap, stepsOn, fld_add, List.nil_append]
  refine rget_self _ _ _ fun i hi => ?_
  obtain ⟨x, y, hc⟩ := list2 (cells_len _ (em_get hi))
  rw [hc]
  rfl
/-- what a placement is -/
theorem plm_is {b p : List Int} (h : p ∈ plm b) : ∃ (r c : Nat) (t : Int), p = [(r : Int), (c : Int), t] ∧ r < 4 ∧ c < 4 ∧ (t = 1 ∨ t = 2) ∧ iget b (r * 4 + c) = 0 := by
  rw [plm_list] at h
  simp only [List.mem_flatMap, List.mem_cons, List.not_mem_nil, or_false] at h
  obtain ⟨q, hq, h⟩ := h
  have hz : (iget b (plc q) == 0) = true := (List.mem_filter.1 hq).2
  have hz : iget b (plc q) = 0 := by simpa using hz
  have key : ∀ q ∈ cells16, ∃ r c : Nat, q = [(r : Int), (c : Int)] ∧ r < 4 ∧ c < 4 := cells_all fun r c hr hc => ⟨r, c, rfl, hr, hc⟩
  obtain ⟨r, c, rfl, hr, hc⟩ := key q (em_mem b q hq)
  have e : plc [(r : Int), (c : Int)] = r * 4 + c := by
    show 0 + (r : Int).toNat * 4 + (c : Int).toNat * 1 = _
    simp
  rw [e] at hz
  rcases h with rfl | rfl
  · exact ⟨r, c, 1, rfl, hr, hc, .inl rfl, hz⟩
  · exact ⟨r, c, 2, rfl, hr, hc, .inr rfl, hz⟩
theorem fld_rget {A : Type} (l : LL) (g : List Int → A → A) (s : A) : fld (fun i s => g (rget l i) s) 0 l.length s = l.foldl (fun s x => g x s) s := by
  have : ∀ (m i : Nat) (s : A), i + m = l.length → fld (fun i s => g (rget l i) s) i m s = (l.drop i).foldl (fun s x => g x s) s := by
    intro m
    induction m with
    | zero => intro i s h; rw [List.drop_eq_nil_of_le (by omega)]; rfl
    | succ m ih =>
      intro i s h
      have hi : i < l.length := by omega
      have hg : rget l i = l[i] := by rw [rgetL, List.getElem?_eq_getElem hi]; rfl
      simp only [fld]
      rw [ih (i + 1) _ (by omega), List.drop_eq_getElem_cons hi, List.foldl_cons, hg]
  simpa using this l.length 0 s (by omega)
/-- how many tenths a placement has, in its cell -/
def wgt (p : List Int) : Nat := bif iget p 2 == 2 then 1 else 9
theorem wgt_9 (p : List Int) : wgt p ≤ 9 := by
  unfold wgt
  cases iget p 2 == 2 <;> simp
theorem wsum (b : List Int) : (plm b).foldl (fun s p => s + wgt p) 0 = 10 * (em b).length := by
  rw [plm_list]
  have : ∀ (l : LL) (s : Nat), (l.flatMap fun c => [[iget c 0, iget c 1, (1 : Int)], [iget c 0, iget c 1, 2]]).foldl (fun s p => s + wgt p) s = s + 10 * l.length := by
    intro l
    induction l with
    | nil => intro s; simp
    | cons c l ih =>
      intro s
      rw [List.flatMap_cons, List.foldl_append, ih]
      show s + 9 + 1 + 10 * l.length = s + 10 * (l.length + 1)
      omega
  simpa using this (em b) 0
end Go.Lv.P

namespace Go.Lv.P
end Go.Lv.P

namespace Go.Lv.P
open Go Go.Lv
theorem do_eq {b : List Int} (hb : b.length = 16) (ok : okB b = true) (F : Nat) (hF : 1000 < F) {d : Nat} (hd : d < 4) (hq : ((slideB b d).1 == b) = false) {p : List Int} (hp : p ∈ plm (slideB b d).1) :
    spec_l5Do_p F b ((d : Int) :: p) = some (putP (slideB b d).1 p, (slideB b d).2, true) := by
  obtain ⟨r, c, t, rfl, hr, hc, ht, hz⟩ := plm_is hp
  have hr' : inB (r : Int) 0 3 = true := by simp [inB]; omega
  have hc' : inB (c : Int) 0 3 = true := by simp [inB]; omega
  have hd' : inB (d : Int) 0 3 = true := by simp [inB]; omega
  have ht' : inB t 1 2 = true := by simp [inB]; omega
  have s1 : sub [(d : Int), (r : Int), (c : Int), t] 1 2 = [(r : Int), (c : Int)] := rfl
  have g0 : iget [(d : Int), (r : Int), (c : Int), t] 0 = d := rfl
  have g3 : iget [(d : Int), (r : Int), (c : Int), t] 3 = t := rfl
  have q0 : iget [(r : Int), (c : Int)] 0 = r := rfl
  have q1 : iget [(r : Int), (c : Int)] 1 = c := rfl
  have hz' : iget (slideB b d).1 (0 + r * 4 + c * 1) = 0 := by rw [Nat.zero_add, Nat.mul_one]; exact hz
  have hz0 : ((0 : Int) == 0) = true := rfl
  simp only [spec_l5Do_p, spec_l5Do_c, g0, g3, s1, spec_l2Side_v, spec_l2Cell_v, l1In_eq, q0, q1, hd', hr', hc', ht', cond_true, Bool.not_true, cond_false, spec_slide hb ok F hF hd, hq, Option.isSome_some, Option.getD_some,
    spec_l2At_p, spec_l2At_c, spec_l2Put_p, spec_l2Put_c, inR_cast, hr, hc, decide_true, Int.toNat_natCast, hz', hz0]
  rfl
end Go.Lv.P

namespace Go.Lv.P
open Go Go.Lv
theorem step5_ok {c : List Int} (hc : Byt c) (F : Nat) (hF : 1000 < F) {b : List Int} (hb : b.length = 16) {n : Nat} (hn : n ≤ 500000000) {a s : Int} (h : Cur n a) : ∃ (v : List Int) (a' s' : Int), spec_l1Cur_step5_p F b c a s = some (v, a', s') ∧ v.length = 4 ∧ Cur (n + 100) a' := by
  obtain ⟨v1, a1, s1, e1, c1⟩ := side_ok hc (by omega) h (s := s)
  obtain ⟨v2, a2, s2, e2, l2, c2⟩ := cell_ok hc (by omega) c1 (s := s1)
  obtain ⟨v3, a3, s3, e3, _, c3⟩ := pick_ok hc (by omega) (q := 10) (by decide) (by decide) c2 (s := s2)
  obtain ⟨f4, a4, s4, e4, c4⟩ := one_ok hc (by omega) (q := 8) (by decide) (by decide) c3 (s := s3)
  obtain ⟨f5, a5, s5, e5, c5⟩ := one_ok hc (by omega) (q := 40) (by decide) (by decide) c4 (s := s4)
  obtain ⟨v6, a6, s6, e6, _, c6⟩ := among_ok hc (by omega) (l := [0, 3, -1]) (by decide) (by decide) c5 (s := s5)
  obtain ⟨f7, a7, s7, e7, c7⟩ := one_ok hc (by omega) (q := 40) (by decide) (by decide) c3 (s := s3)
  obtain ⟨v8, a8, s8, e8, _, c8⟩ := among_ok hc (by omega) (l := [0, 3, -1]) (by decide) (by decide) c7 (s := s7)
  have q10 : ((10 : Nat) : Int) = 10 := rfl
  have q8 : ((8 : Nat) : Int) = 8 := rfl
  have q40 : ((40 : Nat) : Int) = 40 := rfl
  rw [q10] at e3
  rw [q8] at e4
  rw [q40] at e5 e7
  have il : ∀ (l : List Int) (i : Nat) (x : Int), l.length = 4 → (iset l i x).length = 4 := fun l i x h => by rw [isetL, List.length_set, h]
  have sl : ∀ x : Int, (splice [x, (0 : Int), (0 : Int), (0 : Int)] 1 v2 2).length = 4 := fun x => by
    obtain ⟨y, z, rfl⟩ := list2 l2
    rfl
  simp only [spec_l1Cur_step5_p, spec_l1Cur_step5_c, e1, e2, e3, e4, e5, e6, e7, e8, spec_l2Board_eq F b hb hF, Option.isSome_some, Option.getD_some, cond_true]
  cases ok : okB b with
  | false =>
    cases f7 with
    | true => exact ⟨_, _, _, rfl, il _ _ _ (il _ _ _ (sl _)), c8.mono (by omega)⟩
    | false => exact ⟨_, _, _, rfl, il _ _ _ (sl _), c7.mono (by omega)⟩
  | true =>
    have hall := spec_all hb ok F hF
    have hlen := allB_len b
    have hrows := allB_rows b
    generalize allB b = L at hall hlen hrows
    simp only [hall, Option.isSome_some, Option.getD_some, cond_true]
    have last : ∃ (v : List Int) (a' s' : Int), (bif f5 then some (iset (iset (splice [v1, (0 : Int), (0 : Int), (0 : Int)] 1 v2 2) 3 (IntKind.wrap .i64 ((1 : Int) + (IntKind.wrap .i64 (Int.tdiv (v3 : Int) (9 : Int)))))) 3 v6, a6, s6) else some (iset (splice [v1, (0 : Int), (0 : Int), (0 : Int)] 1 v2 2) 3 (IntKind.wrap .i64 ((1 : Int) + (IntKind.wrap .i64 (Int.tdiv (v3 : Int) (9 : Int))))), a5, s5)) = some (v, a', s') ∧ v.length = 4 ∧ Cur (n + 100) a' := by
      cases f5 with
      | true => exact ⟨_, _, _, rfl, il _ _ _ (il _ _ _ (sl _)), c6.mono (by omega)⟩
      | false => exact ⟨_, _, _, rfl, il _ _ _ (sl _), c5.mono (by omega)⟩
    cases f4 with
    | true => exact last
    | false =>
      by_cases h0 : 0 < L.length
      · have hp : decide ((0 : Int) < ((L.length : Nat) : Int)) = true := decide_eq_true (by omega)
        obtain ⟨v9, a9, s9, e9, g9, c9⟩ := pick_ok hc (by omega) (q := L.length) (by omega) (by omega) c4 (s := s4)
        obtain ⟨fa, aa, sa, ea, ca⟩ := one_ok hc (by omega) (q := 40) (by decide) (by decide) c9 (s := s9)
        obtain ⟨vb, ab, sb, eb, _, cb⟩ := among_ok hc (by omega) (l := [0, 3, -1]) (by decide) (by decide) ca (s := sa)
        rw [q40] at ea
        have hm : (rget L (0 + v9)).length = 4 := by
          rw [Nat.zero_add, rgetL, List.getElem?_eq_getElem g9]
          exact hrows _ (List.getElem_mem g9)
        simp only [hp, e9, ea, eb, inR_cast, g9, decide_true, cond_true, Bool.not_false, Option.isSome_some, Option.getD_some, Int.toNat_natCast]
        cases fa with
        | true => exact ⟨_, _, _, rfl, il _ _ _ hm, cb.mono (by omega)⟩
        | false => exact ⟨_, _, _, rfl, hm, ca.mono (by omega)⟩
      · have hp : decide ((0 : Int) < ((L.length : Nat) : Int)) = false := decide_eq_false (by omega)
        simp only [hp, cond_true, cond_false, Bool.not_false]
        exact last
end Go.Lv.P

namespace Go.Lv.P
open Go Go.Lv
theorem contains_step (F : Nat) (s : LL) (v : List Int) (hs : s.length ≤ 1000) (hF : 1000 < F) : slices_Contains_implStepimplStep_p F s v = some (s.any fun x => v == x) := by
  have h : slices_Index_implStepimplStep_l2 F s s.length v 0 = some (fnd (fun i => v == rget s i) (fun i => (true, (i : Int))) (false, default) 0 s.length) := by
    refine loop_find (fun i => i) s.length _ _ _ (by omega) (by omega) (fun i hi Q kn kx => ?_) fun Q kn kx => ?_
    · simp only [slices_Index_implStepimplStep_s2, inR_cast, hi, Int.toNat_natCast, decide_true, cond_true, Int.ofNat_lt]
    · simp [slices_Index_implStepimplStep_s2]
  simp only [slices_Contains_implStepimplStep_p, slices_Contains_implStepimplStep_c, slices_Index_implStepimplStep_p, slices_Index_implStepimplStep_c, h, Option.isSome_some, Option.getD_some, cond_true]
  rw [← any_rget s fun x => v == x, ← fnd_place]
  cases (fnd (fun i => v == rget s i) (fun i => (true, (i : Int))) (false, default) 0 s.length).1 <;> rfl
theorem stepsOn_iff (n : List Int) (d : Int) (x : List Int) : x ∈ stepsOn n d ↔ ∃ c ∈ em n, x = step1 d c ∨ x = step2 d c := by
  refine ⟨stepsOn_mem n d x, fun ⟨c, hc, h⟩ => ?_⟩
  rw [stepsOn, fld_add]
  simp only [List.nil_append, List.mem_flatMap, List.mem_cons, List.not_mem_nil, or_false]
  obtain ⟨i, hi, rfl⟩ := List.getElem_of_mem hc
  refine ⟨i, List.mem_range'_1.2 ⟨by omega, by omega⟩, ?_⟩
  rw [rgetL, List.getElem?_eq_getElem hi]
  exact h
theorem mem_cells {r c : Int} (hr : inB r 0 3 = true) (hc : inB c 0 3 = true) : [r, c] ∈ cells16 := by
  simp [inB] at hr hc
  obtain rfl | rfl | rfl | rfl : r = 0 ∨ r = 1 ∨ r = 2 ∨ r = 3 := by omega
  all_goals
    obtain rfl | rfl | rfl | rfl : c = 0 ∨ c = 1 ∨ c = 2 ∨ c = 3 := by omega
    all_goals simp [cells16]
theorem step_any (n : List Int) (d r c t : Int) (hr : inB r 0 3 = true) (hc : inB c 0 3 = true) : ((stepsOn n d).any fun x => [d, r, c, t] == x) = ((iget n (plc [r, c]) == 0) && inB t 1 2) := by
  rw [Bool.eq_iff_iff, List.any_eq_true]
  constructor
  · rintro ⟨x, hx, e⟩
    have e := eq_of_beq e
    subst e
    obtain ⟨p, hp, h⟩ := (stepsOn_iff n d _).1 hx
    obtain ⟨u, v, rfl⟩ := list2 (cells_len p (em_mem _ _ hp))
    rw [step1_eq, step2_eq] at h
    have h0 := (List.mem_filter.1 hp).2
    rcases h with h | h
    · injection h with _ h; injection h with h1 h; injection h with h2 h; injection h with h3 h
      subst h1; subst h2; subst h3
      rw [h0]; rfl
    · injection h with _ h; injection h with h1 h; injection h with h2 h; injection h with h3 h
      subst h1; subst h2; subst h3
      rw [h0]; rfl
  · intro h
    rw [Bool.and_eq_true] at h
    have ht : t = 1 ∨ t = 2 := by
      have := h.2
      simp [inB] at this
      omega
    refine ⟨[d, r, c, t], (stepsOn_iff n d _).2 ⟨[r, c], List.mem_filter.2 ⟨mem_cells hr hc, h.1⟩, ?_⟩, beq_self_eq_true _⟩
    rw [step1_eq, step2_eq]
    rcases ht with rfl | rfl
    · exact .inl rfl
    · exact .inr rfl
/-- is it a step -/
def isStepB (b : List Int) (d : Nat) (r c t : Int) : Bool := !((slideB b d).1 == b) && ((iget (slideB b d).1 (plc [r, c]) == 0) && inB t 1 2)
theorem stepsB_any (b : List Int) (d : Nat) (r c t : Int) (hr : inB r 0 3 = true) (hc : inB c 0 3 = true) : ((stepsB b d).any fun x => [(d : Int), r, c, t] == x) = isStepB b d r c t := by
  unfold stepsB isStepB
  rw [← step_any (slideB b d).1 d r c t hr hc]
  generalize (slideB b d).1 = n
  cases n == b
  · simp only [cond_false, Bool.not_false, Bool.true_and]
  · simp only [cond_true, Bool.not_true, Bool.false_and, List.any_nil]
end Go.Lv.P
