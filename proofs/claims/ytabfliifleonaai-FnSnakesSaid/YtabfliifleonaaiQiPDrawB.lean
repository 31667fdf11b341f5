/-
What the laws draw out of bytes: boards.
-/
import Derived.Test.YtabfliifleonaaiQiP1
import Derived.Test.YtabfliifleonaaiQiPDraw
namespace Go.Lv.P
open Go Go.Lv
set_option linter.unusedVariables false
set_option linter.unusedSimpArgs false
set_option linter.unusedSectionVars false

theorem iset_len16 {l : List Int} (h : l.length = 16) (i : Nat) (x : Int) : (iset l i x).length = 16 := by rw [isetL, List.length_set, h]
theorem splicen_len16 {l z : List Int} (h : l.length = 16) (hz : z.length = 4) {k : Nat} (hk : k < 4) : (splicen 16 l (0 + k * 4) z 4).length = 16 := by
  obtain ⟨z0, z1, z2, z3, rfl⟩ := list4 hz
  obtain ⟨x0, x1, x2, x3, x4, x5, x6, x7, x8, x9, xa, xb, xc, xd, xe, xf, rfl⟩ := list16 h
  obtain rfl | rfl | rfl | rfl : k = 0 ∨ k = 1 ∨ k = 2 ∨ k = 3 := by omega
  all_goals rfl
section
variable {c : List Int} (hc : Byt c) (F : Nat) (hF : 1000 < F)
include hc hF
theorem board_in {n : Nat} (hn : n ≤ 800000000) (few full : Bool) {r : Nat} (hr : r < 4) {a s : Int} (h : Cur n a) {b : List Int} (hb : b.length = 16) : ∃ (a' s' : Int) (b' : List Int), spec_l1Cur_board_l6 F few full r c 0 a s b = some (a', s', b') ∧ b'.length = 16 ∧ Cur (n + 24) a' := by
  obtain ⟨⟨a', s', b'⟩, ⟨g1, g2⟩, g3⟩ := loop_ex (step := spec_l1Cur_board_s6 F few full r c) (fun i (x : Int × Int × List Int) => (i, x.1, x.2.1, x.2.2)) 4 (fun x => x) (fun i x => Cur (n + 6 * i) x.1 ∧ x.2.2.length = 16) (F := F) (by omega) (by omega)
    (fun i x hi ⟨h1, h2⟩ => by
      obtain ⟨xa, xs, xb⟩ := x
      simp only at h1 h2
      have hi' : (i : Int) < 4 := by omega
      obtain ⟨v1, a1, s1, e1, c1⟩ := tile_ok hc (by omega) h1 (s := xs)
      obtain ⟨v3, a3, s3, e3, c3⟩ := one_ok hc (by omega) (q := 3) (by decide) (by decide) c1 (s := s1)
      obtain ⟨v4, a4, s4, e4, _, c4⟩ := pick_ok hc (by omega) (q := 3) (by decide) (by decide) c3 (s := s3)
      obtain ⟨v5, a5, s5, e5, _, c5⟩ := pick_ok hc (by omega) (q := 3) (by decide) (by decide) c1 (s := s1)
      have q3 : ((3 : Nat) : Int) = 3 := rfl
      rw [q3] at e3 e4 e5
      have w : ∀ (a' s' : Int) (b' : List Int), b'.length = 16 → Cur (n + 6 * i + 2 + 2 + 2) a' → (∀ (Q : Type) (kn : Int × Int × Int × List Int → Option Q) (kx : Int × Int × List Int → Option Q), spec_l1Cur_board_s6 F few full r c Q ((i : Int), xa, xs, xb) kn kx = kn (IntKind.wrap .i64 ((i : Int) + 1), a', s', b')) →
          ∃ a' : Int × Int × List Int, (Cur (n + 6 * (i + 1)) a'.1 ∧ a'.2.2.length = 16) ∧ ∀ (Q : Type) (kn : Int × Int × Int × List Int → Option Q) (kx : Int × Int × List Int → Option Q), spec_l1Cur_board_s6 F few full r c Q ((i : Int), xa, xs, xb) kn kx = kn (IntKind.wrap .i64 ((i : Int) + 1), a'.1, a'.2.1, a'.2.2) := fun a' s' b' h1 h2 h3 => ⟨(a', s', b'), ⟨h2.mono (by omega), h1⟩, h3⟩
      have l1 : ∀ k x, (iset xb k x).length = 16 := fun k x => iset_len16 h2 k x
      cases few with
      | true =>
        cases v3 with
        | false =>
          cases full with
          | true => exact w _ _ _ (l1 _ _) c4 fun Q kn kx => by simp only [spec_l1Cur_board_s6, hi', hi, hr, inR_cast, e1, e3, e4, Option.isSome_some, Option.getD_some, decide_true, cond_true, Bool.not_false]; rfl
          | false => exact w _ _ _ (l1 _ _) (c3.mono (by omega)) fun Q kn kx => by simp only [spec_l1Cur_board_s6, hi', hi, hr, inR_cast, e1, e3, e4, Option.isSome_some, Option.getD_some, decide_true, cond_true, cond_false, Bool.not_false]; rfl
        | true =>
          cases full with
          | true =>
            cases hv : v1 == 0 with
            | true => exact w _ _ _ (l1 _ _) c4 fun Q kn kx => by simp only [spec_l1Cur_board_s6, hi', hi, hr, inR_cast, e1, e3, e4, hv, Option.isSome_some, Option.getD_some, decide_true, cond_true, cond_false, Bool.not_true]; rfl
            | false => exact w _ _ _ (l1 _ _) (c3.mono (by omega)) fun Q kn kx => by simp only [spec_l1Cur_board_s6, hi', hi, hr, inR_cast, e1, e3, e4, hv, Option.isSome_some, Option.getD_some, decide_true, cond_true, cond_false, Bool.not_true]; rfl
          | false => exact w _ _ _ (l1 _ _) (c3.mono (by omega)) fun Q kn kx => by simp only [spec_l1Cur_board_s6, hi', hi, hr, inR_cast, e1, e3, e4, Option.isSome_some, Option.getD_some, decide_true, cond_true, cond_false, Bool.not_true]; rfl
      | false =>
        cases full with
        | true =>
          cases hv : v1 == 0 with
          | true => exact w _ _ _ (l1 _ _) (c5.mono (by omega)) fun Q kn kx => by simp only [spec_l1Cur_board_s6, hi', hi, hr, inR_cast, e1, e5, hv, Option.isSome_some, Option.getD_some, decide_true, cond_true, cond_false]; rfl
          | false => exact w _ _ _ (l1 _ _) (c1.mono (by omega)) fun Q kn kx => by simp only [spec_l1Cur_board_s6, hi', hi, hr, inR_cast, e1, hv, Option.isSome_some, Option.getD_some, decide_true, cond_true, cond_false]; rfl
        | false => exact w _ _ _ (l1 _ _) (c1.mono (by omega)) fun Q kn kx => by simp only [spec_l1Cur_board_s6, hi', hi, hr, inR_cast, e1, Option.isSome_some, Option.getD_some, decide_true, cond_true, cond_false]; rfl)
    (fun x _ Q kn kx => by simp [spec_l1Cur_board_s6]) (a := (a, s, b)) ⟨h, hb⟩
  exact ⟨a', s', b', g3, g2, g1⟩
theorem board_all {n : Nat} (hn : n ≤ 700000000) (few full : Bool) {a s : Int} (h : Cur n a) {b : List Int} (hb : b.length = 16) : ∃ (a' s' : Int) (b' : List Int), spec_l1Cur_board_l3 F few full c 0 a s b = some (a', s', b') ∧ b'.length = 16 ∧ Cur (n + 96) a' := by
  obtain ⟨⟨a', s', b'⟩, ⟨g1, g2⟩, g3⟩ := loop_ex (step := spec_l1Cur_board_s3 F few full c) (fun i (x : Int × Int × List Int) => (i, x.1, x.2.1, x.2.2)) 4 (fun x => x) (fun i x => Cur (n + 24 * i) x.1 ∧ x.2.2.length = 16) (F := F) (by omega) (by omega)
    (fun i x hi ⟨h1, h2⟩ => by
      obtain ⟨xa, xs, xb⟩ := x
      have hi' : (i : Int) < 4 := by omega
      obtain ⟨a', s', b', e, l, c1⟩ := board_in hc F hF (by omega) few full hi h1 h2 (s := xs)
      exact ⟨(a', s', b'), ⟨c1.mono (by omega), l⟩, fun Q kn kx => by simp only [spec_l1Cur_board_s3, hi', e, Option.isSome_some, Option.getD_some, decide_true, cond_true]⟩)
    (fun x _ Q kn kx => by simp [spec_l1Cur_board_s3]) (a := (a, s, b)) ⟨h, hb⟩
  exact ⟨a', s', b', g3, g2, g1⟩
theorem chess_in {n : Nat} (hn : n ≤ 800000000) {r : Nat} (hr : r < 4) {a s : Int} (h : Cur n a) {b : List Int} (hb : b.length = 16) : ∃ (a' s' : Int) (b' : List Int), spec_l1Cur_board_l29 F r c 0 a s b = some (a', s', b') ∧ b'.length = 16 ∧ Cur (n + 8) a' := by
  obtain ⟨⟨a', s', b'⟩, ⟨g1, g2⟩, g3⟩ := loop_ex (step := spec_l1Cur_board_s29 F r c) (fun i (x : Int × Int × List Int) => (i, x.1, x.2.1, x.2.2)) 4 (fun x => x) (fun i x => Cur (n + 2 * i) x.1 ∧ x.2.2.length = 16) (F := F) (by omega) (by omega)
    (fun i x hi ⟨h1, h2⟩ => by
      obtain ⟨xa, xs, xb⟩ := x
      have hi' : (i : Int) < 4 := by omega
      obtain ⟨v5, a5, s5, e5, _, c5⟩ := pick_ok hc (by omega) (q := 12) (by decide) (by decide) h1 (s := xs)
      have q3 : ((12 : Nat) : Int) = 12 := rfl
      rw [q3] at e5
      exact ⟨(a5, s5, _), ⟨c5.mono (by omega), iset_len16 h2 _ _⟩, fun Q kn kx => by simp only [spec_l1Cur_board_s29, hi', hi, hr, inR_cast, e5, Option.isSome_some, Option.getD_some, decide_true, cond_true]; rfl⟩)
    (fun x _ Q kn kx => by simp [spec_l1Cur_board_s29]) (a := (a, s, b)) ⟨h, hb⟩
  exact ⟨a', s', b', g3, g2, g1⟩
theorem chess_all {n : Nat} (hn : n ≤ 700000000) {a s : Int} (h : Cur n a) {b : List Int} (hb : b.length = 16) : ∃ (a' s' : Int) (b' : List Int), spec_l1Cur_board_l26 F c 0 a s b = some (a', s', b') ∧ b'.length = 16 ∧ Cur (n + 32) a' := by
  obtain ⟨⟨a', s', b'⟩, ⟨g1, g2⟩, g3⟩ := loop_ex (step := spec_l1Cur_board_s26 F c) (fun i (x : Int × Int × List Int) => (i, x.1, x.2.1, x.2.2)) 4 (fun x => x) (fun i x => Cur (n + 8 * i) x.1 ∧ x.2.2.length = 16) (F := F) (by omega) (by omega)
    (fun i x hi ⟨h1, h2⟩ => by
      obtain ⟨xa, xs, xb⟩ := x
      have hi' : (i : Int) < 4 := by omega
      obtain ⟨a', s', b', e, l, c1⟩ := chess_in hc F hF (by omega) hi h1 h2 (s := xs)
      exact ⟨(a', s', b'), ⟨c1.mono (by omega), l⟩, fun Q kn kx => by simp only [spec_l1Cur_board_s26, hi', e, Option.isSome_some, Option.getD_some, decide_true, cond_true]⟩)
    (fun x _ Q kn kx => by simp [spec_l1Cur_board_s26]) (a := (a, s, b)) ⟨h, hb⟩
  exact ⟨a', s', b', g3, g2, g1⟩
theorem board_ok {n : Nat} (hn : n ≤ 600000000) {a s : Int} (h : Cur n a) : ∃ (b : List Int) (a' s' : Int), spec_l1Cur_board_p F c a s = some (b, a', s') ∧ b.length = 16 ∧ Cur (n + 300) a' := by
  obtain ⟨f1, a1, s1, e1, c1⟩ := one_ok hc (by omega) (q := 4) (by decide) (by decide) h (s := s)
  obtain ⟨f2, a2, s2, e2, c2⟩ := one_ok hc (by omega) (q := 4) (by decide) (by decide) c1 (s := s1)
  obtain ⟨a3, s3, b3, e3, l3, c3⟩ := board_all hc F hF (by omega) f1 f2 c2 (s := s2) (b := [0, 0, 0, 0, 0, 0, 0, 0, 0, 0, 0, 0, 0, 0, 0, 0]) rfl
  obtain ⟨v4, a4, s4, e4, _, c4⟩ := pick_ok hc (by omega) (q := 40) (by decide) (by decide) c3 (s := s3)
  obtain ⟨v5, a5, s5, e5, g5, c5⟩ := pick_ok hc (by omega) (q := 4) (by decide) (by decide) c4 (s := s4)
  obtain ⟨v6, a6, s6, e6, g6, c6⟩ := pick_ok hc (by omega) (q := 4) (by decide) (by decide) c5 (s := s5)
  obtain ⟨v7, a7, s7, e7, _, c7⟩ := among_ok hc (by omega) (l := [-1, 18, 4611686018427387904]) (by decide) (by decide) c6 (s := s6)
  obtain ⟨v8, a8, s8, e8, _, c8⟩ := among_ok hc (by omega) (l := [16, 17, 16]) (by decide) (by decide) c4 (s := s4)
  obtain ⟨v9, a9, s9, e9, g9, c9⟩ := pick_ok hc (by omega) (q := 3) (by decide) (by decide) c8 (s := s8)
  obtain ⟨va, aa, sa, ea, ga, ca⟩ := pick_ok hc (by omega) (q := 4) (by decide) (by decide) c9 (s := s9)
  obtain ⟨vb, ab, sb, eb, gb, cb⟩ := pick_ok hc (by omega) (q := 2) (by decide) (by decide) ca (s := sa)
  obtain ⟨ac, sc, bc, ec, lc, cc⟩ := chess_all hc F hF (by omega) c4 (s := s4) l3
  have q2 : ((2 : Nat) : Int) = 2 := rfl
  have q3 : ((3 : Nat) : Int) = 3 := rfl
  have q4 : ((4 : Nat) : Int) = 4 := rfl
  have q40 : ((40 : Nat) : Int) = 40 := rfl
  rw [q4] at e1 e2 e5 e6 ea
  rw [q40] at e4
  rw [q3] at e9
  rw [q2] at eb
  simp only [spec_l1Cur_board_p, spec_l1Cur_board_c, e1, e2, e3, e4, e5, e6, e7, e8, e9, ea, eb, ec, Option.isSome_some, Option.getD_some, cond_true, inR_cast, g5, g6, ga, decide_true, Int.toNat_natCast]
  cases h0 : ((v4 : Int) == 0) with
  | true => exact ⟨_, _, _, rfl, iset_len16 l3 _ _, c7.mono (by omega)⟩
  | false =>
    cases h1 : ((v4 : Int) == 1) with
    | true => exact ⟨_, _, _, rfl, splicen_len16 l3 rfl ga, cb.mono (by omega)⟩
    | false =>
      cases h2 : ((v4 : Int) == 2) with
      | true => exact ⟨_, _, _, rfl, splicen_len16 l3 rfl ga, cb.mono (by omega)⟩
      | false =>
        cases h3 : ((v4 : Int) == 3) with
        | true => exact ⟨_, _, _, rfl, rfl, c4.mono (by omega)⟩
        | false =>
          cases h4 : ((v4 : Int) == 4) with
          | true => exact ⟨_, _, _, rfl, lc, cc.mono (by omega)⟩
          | false => exact ⟨_, _, _, rfl, l3, c4.mono (by omega)⟩
end
end Go.Lv.P
