/-
What the laws draw out of bytes: formed boards.
-/
import Derived.Test.YtgdokdkcbgkekaaGaP0
import Derived.Test.YtgdokdkcbgkekaaGaPDrawB
namespace Go.Lv.P
open Go Go.Lv
set_option linter.unusedVariables false
set_option linter.unusedSimpArgs false
set_option linter.unusedSectionVars false

section
variable {c : List Int} (hc : Byt c) (F : Nat) (hF : 1000 < F)
include hc hF
theorem formed_in {n : Nat} (hn : n ≤ 800000000) {r : Nat} (hr : r < 4) {a s : Int} (h : Cur n a) {b : List Int} (hb : b.length = 16) : ∃ (a' s' : Int) (b' : List Int), spec_l1Cur_formed3_l8 F r c 0 a s b = some (a', s', b') ∧ b'.length = 16 ∧ Cur (n + 16) a' := by
  obtain ⟨⟨a', s', b'⟩, ⟨g1, g2⟩, g3⟩ := loop_ex (step := spec_l1Cur_formed3_s8 F r c) (fun i (x : Int × Int × List Int) => (i, x.1, x.2.1, x.2.2)) 4 (fun x => x) (fun i x => Cur (n + 4 * i) x.1 ∧ x.2.2.length = 16) (F := F) (by omega) (by omega)
    (fun i x hi ⟨h1, h2⟩ => by
      obtain ⟨xa, xs, xb⟩ := x
      have hi' : (i : Int) < 4 := by omega
      obtain ⟨v4, a4, s4, e4, _, c4⟩ := pick_ok hc (by omega) (q := 6) (by decide) (by decide) h1 (s := xs)
      obtain ⟨v5, a5, s5, e5, _, c5⟩ := pick_ok hc (by omega) (q := 2) (by decide) (by decide) c4 (s := s4)
      have q2 : ((2 : Nat) : Int) = 2 := rfl
      have q6 : ((6 : Nat) : Int) = 6 := rfl
      rw [q6] at e4
      rw [q2] at e5
      have w1 : IntKind.wrap .i64 ((3 : Int) - (i : Int)) = ((3 - i : Nat) : Int) := by rw [wrap_of (by omega) (by omega)]; omega
      have w2 : IntKind.wrap .i64 ((3 : Int) - (r : Int)) = ((3 - r : Nat) : Int) := by rw [wrap_of (by omega) (by omega)]; omega
      have k1 : 3 - i < 4 := by omega
      have k2 : 3 - r < 4 := by omega
      cases h0 : ((v4 : Int) == 0) with
      | true => exact ⟨(a4, s4, _), ⟨c4.mono (by omega), iset_len16 h2 _ _⟩, fun Q kn kx => by simp only [spec_l1Cur_formed3_s8, hi', hi, hr, k1, k2, w1, w2, inR_cast, e4, e5, h0, Option.isSome_some, Option.getD_some, decide_true, cond_true]; rfl⟩
      | false =>
        cases h3 : ((v4 : Int) == 1) with
        | true => exact ⟨(a4, s4, _), ⟨c4.mono (by omega), iset_len16 h2 _ _⟩, fun Q kn kx => by simp only [spec_l1Cur_formed3_s8, hi', hi, hr, k1, k2, w1, w2, inR_cast, e4, e5, h0, h3, Option.isSome_some, Option.getD_some, decide_true, cond_true, cond_false]; rfl⟩
        | false =>
          cases h4 : ((v4 : Int) == 2) with
          | true => exact ⟨(a4, s4, _), ⟨c4.mono (by omega), iset_len16 h2 _ _⟩, fun Q kn kx => by simp only [spec_l1Cur_formed3_s8, hi', hi, hr, k1, k2, w1, w2, inR_cast, e4, e5, h0, h3, h4, Option.isSome_some, Option.getD_some, decide_true, cond_true, cond_false]; rfl⟩
          | false => exact ⟨(a5, s5, _), ⟨c5.mono (by omega), iset_len16 h2 _ _⟩, fun Q kn kx => by simp only [spec_l1Cur_formed3_s8, hi', hi, hr, k1, k2, w1, w2, inR_cast, e4, e5, h0, h3, h4, Option.isSome_some, Option.getD_some, decide_true, cond_true, cond_false]; rfl⟩)
    (fun x _ Q kn kx => by simp [spec_l1Cur_formed3_s8]) (a := (a, s, b)) ⟨h, hb⟩
  exact ⟨a', s', b', g3, g2, g1⟩
theorem formed_all {n : Nat} (hn : n ≤ 700000000) {a s : Int} (h : Cur n a) {b : List Int} (hb : b.length = 16) : ∃ (a' s' : Int) (b' : List Int), spec_l1Cur_formed3_l5 F c 0 a s b = some (a', s', b') ∧ b'.length = 16 ∧ Cur (n + 64) a' := by
  obtain ⟨⟨a', s', b'⟩, ⟨g1, g2⟩, g3⟩ := loop_ex (step := spec_l1Cur_formed3_s5 F c) (fun i (x : Int × Int × List Int) => (i, x.1, x.2.1, x.2.2)) 4 (fun x => x) (fun i x => Cur (n + 16 * i) x.1 ∧ x.2.2.length = 16) (F := F) (by omega) (by omega)
    (fun i x hi ⟨h1, h2⟩ => by
      obtain ⟨xa, xs, xb⟩ := x
      have hi' : (i : Int) < 4 := by omega
      obtain ⟨a', s', b', e, l, c1⟩ := formed_in hc F hF (by omega) hi h1 h2 (s := xs)
      exact ⟨(a', s', b'), ⟨c1.mono (by omega), l⟩, fun Q kn kx => by simp only [spec_l1Cur_formed3_s5, hi', e, Option.isSome_some, Option.getD_some, decide_true, cond_true]⟩)
    (fun x _ Q kn kx => by simp [spec_l1Cur_formed3_s5]) (a := (a, s, b)) ⟨h, hb⟩
  exact ⟨a', s', b', g3, g2, g1⟩
theorem mirror_all (m0 : List Int) (m1 m2 : Int) {b : List Int} (hb : b.length = 16) : ∃ b' : List Int, spec_l1Cur_formed3_l21 F m0 m1 m2 0 b = some b' ∧ b'.length = 16 := by
  obtain ⟨b', g1, g3⟩ := loop_ex (step := spec_l1Cur_formed3_s21 F m0 m1 m2) (fun i (x : List Int) => (i, x)) 4 (fun x => x) (fun i x => x.length = 16) (F := F) (by omega) (by omega)
    (fun i x hi h2 => by
      have hi' : (i : Int) < 4 := by omega
      exact ⟨_, iset_len16 (iset_len16 h2 _ _) _ _, fun Q kn kx => by simp only [spec_l1Cur_formed3_s21, hi', hi, inR_cast, decide_true, cond_true]; rfl⟩)
    (fun x _ Q kn kx => by simp [spec_l1Cur_formed3_s21]) (a := b) hb
  exact ⟨b', g3, g1⟩
theorem formed_ok {n : Nat} (hn : n ≤ 500000000) {a s : Int} (h : Cur n a) : ∃ (b : List Int) (a' s' : Int), spec_l1Cur_formed3_p F c a s = some (b, a', s') ∧ b.length = 16 ∧ Cur (n + 400) a' := by
  obtain ⟨b2, a2, s2, e2, l2, c2⟩ := board_ok hc F hF (by omega) h (s := s)
  obtain ⟨f1, a1, s1, e1, c1⟩ := one_ok hc (by omega) (q := 2) (by decide) (by decide) c2 (s := s2)
  obtain ⟨a3, s3, b3, e3, l3, c3⟩ := formed_all hc F hF (by omega) c1 (s := s1) l2
  obtain ⟨v4, a4, s4, e4, g4, c4⟩ := pick_ok hc (by omega) (q := 4) (by decide) (by decide) c3 (s := s3)
  obtain ⟨b5, e5, l5⟩ := mirror_all hc F hF c a4 s4 l3
  obtain ⟨v6, a6, s6, e6, g6, c6⟩ := pick_ok hc (by omega) (q := 3) (by decide) (by decide) c4 (s := s4)
  have q2 : ((2 : Nat) : Int) = 2 := rfl
  have q3 : ((3 : Nat) : Int) = 3 := rfl
  have q4 : ((4 : Nat) : Int) = 4 := rfl
  rw [q2] at e1
  rw [q4] at e4
  rw [q3] at e6
  simp only [spec_l1Cur_formed3_p, spec_l1Cur_formed3_c, e1, e2, e3, e4, e5, e6, Option.isSome_some, Option.getD_some, cond_true]
  cases f1 with
  | true => exact ⟨_, _, _, rfl, l2, c1.mono (by omega)⟩
  | false =>
    cases h0 : ((v4 : Int) == 0) with
    | true => exact ⟨_, _, _, rfl, l5, c4.mono (by omega)⟩
    | false =>
      cases h1 : ((v4 : Int) == 1) with
      | true => exact ⟨_, _, _, rfl, rfl, c6.mono (by omega)⟩
      | false => exact ⟨_, _, _, rfl, l3, c4.mono (by omega)⟩
end
end Go.Lv.P
