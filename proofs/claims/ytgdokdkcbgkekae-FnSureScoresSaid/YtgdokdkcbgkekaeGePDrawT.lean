/-
What the laws draw out of bytes: tight boards, sides, cells.
-/
import Derived.Test.YtgdokdkcbgkekaeGeP0
import Derived.Test.YtgdokdkcbgkekaeGePDrawB
namespace Go.Lv.P
open Go Go.Lv
set_option linter.unusedVariables false
set_option linter.unusedSimpArgs false
set_option linter.unusedSectionVars false

section
variable {c : List Int} (hc : Byt c) (F : Nat) (hF : 1000 < F)
include hc hF
theorem tight_in {n : Nat} (hn : n ≤ 800000000) {r : Nat} (hr : r < 4) {a s : Int} (h : Cur n a) {b : List Int} (hb : b.length = 16) : ∃ (a' s' : Int) (b' : List Int), spec_l1Cur_tight_l8 F r c 0 a s b = some (a', s', b') ∧ b'.length = 16 ∧ Cur (n + 16) a' := by
  obtain ⟨⟨a', s', b'⟩, ⟨g1, g2⟩, g3⟩ := loop_ex (step := spec_l1Cur_tight_s8 F r c) (fun i (x : Int × Int × List Int) => (i, x.1, x.2.1, x.2.2)) 4 (fun x => x) (fun i x => Cur (n + 4 * i) x.1 ∧ x.2.2.length = 16) (F := F) (by omega) (by omega)
    (fun i x hi ⟨h1, h2⟩ => by
      obtain ⟨xa, xs, xb⟩ := x
      have hi' : (i : Int) < 4 := by omega
      obtain ⟨v4, a4, s4, e4, _, c4⟩ := pick_ok hc (by omega) (q := 2) (by decide) (by decide) h1 (s := xs)
      obtain ⟨v5, a5, s5, e5, _, c5⟩ := pick_ok hc (by omega) (q := 9) (by decide) (by decide) c4 (s := s4)
      have q2 : ((2 : Nat) : Int) = 2 := rfl
      have q9 : ((9 : Nat) : Int) = 9 := rfl
      rw [q2] at e4
      rw [q9] at e5
      exact ⟨(a5, s5, _), ⟨c5.mono (by omega), iset_len16 h2 _ _⟩, fun Q kn kx => by simp only [spec_l1Cur_tight_s8, hi', hi, hr, inR_cast, e4, e5, Option.isSome_some, Option.getD_some, decide_true, cond_true]; rfl⟩)
    (fun x _ Q kn kx => by simp [spec_l1Cur_tight_s8]) (a := (a, s, b)) ⟨h, hb⟩
  exact ⟨a', s', b', g3, g2, g1⟩
theorem tight_all {n : Nat} (hn : n ≤ 700000000) {a s : Int} (h : Cur n a) {b : List Int} (hb : b.length = 16) : ∃ (a' s' : Int) (b' : List Int), spec_l1Cur_tight_l5 F c 0 a s b = some (a', s', b') ∧ b'.length = 16 ∧ Cur (n + 64) a' := by
  obtain ⟨⟨a', s', b'⟩, ⟨g1, g2⟩, g3⟩ := loop_ex (step := spec_l1Cur_tight_s5 F c) (fun i (x : Int × Int × List Int) => (i, x.1, x.2.1, x.2.2)) 4 (fun x => x) (fun i x => Cur (n + 16 * i) x.1 ∧ x.2.2.length = 16) (F := F) (by omega) (by omega)
    (fun i x hi ⟨h1, h2⟩ => by
      obtain ⟨xa, xs, xb⟩ := x
      have hi' : (i : Int) < 4 := by omega
      obtain ⟨a', s', b', e, l, c1⟩ := tight_in hc F hF (by omega) hi h1 h2 (s := xs)
      exact ⟨(a', s', b'), ⟨c1.mono (by omega), l⟩, fun Q kn kx => by simp only [spec_l1Cur_tight_s5, hi', e, Option.isSome_some, Option.getD_some, decide_true, cond_true]⟩)
    (fun x _ Q kn kx => by simp [spec_l1Cur_tight_s5]) (a := (a, s, b)) ⟨h, hb⟩
  exact ⟨a', s', b', g3, g2, g1⟩
theorem holes_ok : ∀ (k G n : Nat), k < G → n + 4 * k ≤ 800000000 → ∀ (a s : Int) (b : List Int), Cur n a → b.length = 16 → ∃ (a' s' : Int) (b' : List Int), loopC (spec_l1Cur_tight_s12 F c) G ((k : Int), a, s, b) some = some (a', s', b') ∧ b'.length = 16 ∧ Cur (n + 4 * k) a'
  | 0, G, n, hG, hn, a, s, b, h, hb => by
    obtain ⟨G, rfl⟩ : ∃ G', G = G' + 1 := ⟨G - 1, by omega⟩
    exact ⟨a, s, b, rfl, hb, h⟩
  | k + 1, G, n, hG, hn, a, s, b, h, hb => by
    obtain ⟨G, rfl⟩ : ∃ G', G = G' + 1 := ⟨G - 1, by omega⟩
    obtain ⟨v4, a4, s4, e4, g4, c4⟩ := pick_ok hc (by omega) (q := 4) (by decide) (by decide) h (s := s)
    obtain ⟨v5, a5, s5, e5, g5, c5⟩ := pick_ok hc (by omega) (q := 4) (by decide) (by decide) c4 (s := s4)
    have q4 : ((4 : Nat) : Int) = 4 := rfl
    rw [q4] at e4 e5
    have hp : decide ((0 : Int) < ((k + 1 : Nat) : Int)) = true := decide_eq_true (by omega)
    have hw : IntKind.wrap .i64 (((k + 1 : Nat) : Int) - 1) = ((k : Nat) : Int) := by
      by_cases hk : k ≤ 200000000
      · rw [wrap_of (by omega) (by omega)]; omega
      · omega
    obtain ⟨a', s', b', e, l, cc⟩ := holes_ok k G (n + 2 + 2) (by omega) (by omega) a5 s5 (iset b (0 + (v4 : Int).toNat * 4 + (v5 : Int).toNat * 1) 0) c5 (iset_len16 hb _ _)
    refine ⟨a', s', b', ?_, l, cc.mono (by omega)⟩
    rw [← e]
    show spec_l1Cur_tight_s12 F c _ _ _ _ = _
    simp only [spec_l1Cur_tight_s12, hp, cond_true, e4, e5, inR_cast, g4, g5, decide_true, hw, Option.isSome_some, Option.getD_some]
theorem tight_ok {n : Nat} (hn : n ≤ 500000000) {a s : Int} (h : Cur n a) : ∃ (b : List Int) (a' s' : Int), spec_l1Cur_tight_p F c a s = some (b, a', s') ∧ b.length = 16 ∧ Cur (n + 400) a' := by
  obtain ⟨f1, a1, s1, e1, c1⟩ := one_ok hc (by omega) (q := 6) (by decide) (by decide) h (s := s)
  obtain ⟨b2, a2, s2, e2, l2, c2⟩ := board_ok hc F hF (by omega) c1 (s := s1)
  obtain ⟨a3, s3, b3, e3, l3, c3⟩ := tight_all hc F hF (by omega) c1 (s := s1) (b := [0, 0, 0, 0, 0, 0, 0, 0, 0, 0, 0, 0, 0, 0, 0, 0]) rfl
  obtain ⟨v4, a4, s4, e4, g4, c4⟩ := pick_ok hc (by omega) (q := 4) (by decide) (by decide) c3 (s := s3)
  obtain ⟨a5, s5, b5, e5, l5, c5⟩ := holes_ok hc F hF v4 F (n + 2 + 64 + 2) (by omega) (by omega) a4 s4 b3 c4 l3
  have e5 : spec_l1Cur_tight_l12 F c (v4 : Int) a4 s4 b3 = some (a5, s5, b5) := e5
  have c5 : Cur (n + 84) a5 := c5.mono (by omega)
  obtain ⟨f6, a6, s6, e6, c6⟩ := one_ok hc (by omega) (q := 3) (by decide) (by decide) c5 (s := s5)
  obtain ⟨v7, a7, s7, e7, g7, c7⟩ := pick_ok hc (by omega) (q := 4) (by decide) (by decide) c6 (s := s6)
  obtain ⟨v8, a8, s8, e8, g8, c8⟩ := pick_ok hc (by omega) (q := 4) (by decide) (by decide) c7 (s := s7)
  have q3 : ((3 : Nat) : Int) = 3 := rfl
  have q4 : ((4 : Nat) : Int) = 4 := rfl
  have q6 : ((6 : Nat) : Int) = 6 := rfl
  rw [q6] at e1
  rw [q4] at e4 e7 e8
  rw [q3] at e6
  simp only [spec_l1Cur_tight_p, spec_l1Cur_tight_c, e1, e2, e3, e4, e5, e6, e7, e8, Option.isSome_some, Option.getD_some, cond_true, inR_cast, g7, g8, decide_true]
  cases f1 with
  | true => exact ⟨_, _, _, rfl, l2, c2.mono (by omega)⟩
  | false =>
    cases f6 with
    | true => exact ⟨_, _, _, rfl, iset_len16 l5 _ _, c8.mono (by omega)⟩
    | false => exact ⟨_, _, _, rfl, l5, c6.mono (by omega)⟩
end
end Go.Lv.P
