/-
What the laws draw out of bytes: it is there.
-/
import Derived.Test.YtabfliifleonaaiQiP0
import Derived.Test.YtabfliifleonaaiLv3
namespace Go.Lv.P
open Go Go.Lv
set_option linter.unusedVariables false
set_option linter.unusedSimpArgs false
set_option linter.unusedSectionVars false

/-- a loop whose rounds go on -/
theorem loop_ex {S A X : Type} {step : (Q : Type) → S → (S → Option Q) → (X → Option Q) → Option Q} (mk : Int → A → S) (n : Nat) (e : A → X) (I : Nat → A → Prop) {F : Nat} (hF : n < F) (hn : n ≤ 4611686018427387904)
    (hs : ∀ (i : Nat) (a : A), i < n → I i a → ∃ a', I (i + 1) a' ∧ ∀ (Q : Type) (kn : S → Option Q) (kx : X → Option Q), step Q (mk (i : Int) a) kn kx = kn (mk (IntKind.wrap .i64 ((i : Int) + 1)) a'))
    (he : ∀ (a : A), I n a → ∀ (Q : Type) (kn : S → Option Q) (kx : X → Option Q), step Q (mk (n : Int) a) kn kx = kx (e a)) {a : A} (h0 : I 0 a) : ∃ a', I n a' ∧ loopC step F (mk 0 a) some = some (e a') := by
  have key : ∀ (m i F : Nat) (a : A), i + m = n → m < F → I i a → ∃ a', I n a' ∧ loopC step F (mk (i : Int) a) some = some (e a') := by
    intro m
    induction m with
    | zero =>
      intro i F a hi hF h
      obtain ⟨G, rfl⟩ : ∃ G, F = G + 1 := ⟨F - 1, by omega⟩
      have : i = n := by omega
      subst this
      exact ⟨a, h, by simp only [loopC]; exact he a h _ _ _⟩
    | succ m ih =>
      intro i F a hi hF h
      obtain ⟨G, rfl⟩ : ∃ G, F = G + 1 := ⟨F - 1, by omega⟩
      obtain ⟨a', h1, h2⟩ := hs i a (by omega) h
      obtain ⟨b, g1, g2⟩ := ih (i + 1) G a' (by omega) (by omega) h1
      refine ⟨b, g1, ?_⟩
      simp only [loopC, h2]
      rw [wrap_succ (n := n) (by omega) hn]
      exact g2
  exact key n 0 F a (by omega) hF h0

/-- the place of a cursor -/
def Cur (n : Nat) (a : Int) : Prop := 0 ≤ a ∧ a ≤ (n : Int)
theorem Cur.mono {n m : Nat} {a : Int} (h : Cur n a) (hm : n ≤ m) : Cur m a := ⟨h.1, by have := h.2; omega⟩
/-- bytes -/
def Byt (c : List Int) : Prop := ∀ x ∈ c, 0 ≤ x ∧ x ≤ 255

theorem low_byte (x : Int) : ∃ n : Nat, n ≤ 255 ∧ IntKind.wrap .i64 (IntKind.wrap .u64 (((BitVec.ofInt (IntKind.bits .u64) x &&& BitVec.ofInt (IntKind.bits .u64) (255 : Int)).toNat : Nat) : Int)) = (n : Int) := by
  have h255 : (BitVec.ofInt (IntKind.bits .u64) (255 : Int)).toNat = 255 := by decide
  generalize hy : (BitVec.ofInt (IntKind.bits .u64) x) = y
  have hle : (y &&& BitVec.ofInt (IntKind.bits .u64) (255 : Int)).toNat ≤ 255 := by
    rw [BitVec.toNat_and, h255]
    exact Nat.and_le_right
  generalize (y &&& BitVec.ofInt (IntKind.bits .u64) (255 : Int)).toNat = n at hle
  refine ⟨n, hle, ?_⟩
  have e1 : IntKind.wrap .u64 (n : Int) = n := by rw [IntKind.wrap_u64]; omega
  rw [e1, wrap_of (by omega) (by omega)]

section
variable {c : List Int} (hc : Byt c)
include hc
theorem next_ok {n : Nat} (hn : n ≤ 1000000000) {a s : Int} (h : Cur n a) : ∃ v a' s', spec_l1Cur_next_p c a s = some (v, a', s') ∧ 0 ≤ v ∧ v ≤ 255 ∧ Cur (n + 1) a' := by
  obtain ⟨k, rfl⟩ := Int.eq_ofNat_of_zero_le h.1
  have hk : k ≤ n := by have := h.2; omega
  have hw : IntKind.wrap .i64 ((k : Int) + 1) = ((k + 1 : Nat) : Int) := by rw [wrap_of (by omega) (by omega)]; omega
  have hcur : Cur (n + 1) ((k + 1 : Nat) : Int) := ⟨by omega, by omega⟩
  simp only [spec_l1Cur_next_p, spec_l1Cur_next_c, hw, Int.ofNat_lt, Int.ofNat_le, inR_cast, Int.toNat_natCast]
  by_cases hl : k < c.length
  · have hle : k + 1 ≤ c.length := hl
    have hb : 0 ≤ iget c k ∧ iget c k ≤ 255 := by
      rw [igetL, List.getElem?_eq_getElem hl]
      exact hc _ (List.getElem_mem hl)
    simp only [hl, hle, decide_true, cond_true]
    exact ⟨_, _, _, rfl, by rw [wrap_of (by omega) (by omega)]; exact hb.1, by rw [wrap_of (by omega) (by omega)]; exact hb.2, hcur⟩
  · have hle : ¬ (k + 1 ≤ c.length) := by omega
    simp only [hl, hle, decide_false, cond_false]
    generalize IntKind.wrap .u64 ((IntKind.wrap .u64 ((IntKind.wrap .u64 (s * (6364136223846793005 : Int))) + (0 : Int))) + (462197 : Int)) = z
    generalize (Int.fdiv z (2 ^ (min (Int.toNat (40 : Int)) (IntKind.bits .u64)) : Int)) = x
    obtain ⟨m, m1, m2⟩ := low_byte x
    rw [m2]
    exact ⟨_, _, _, rfl, by omega, by omega, hcur⟩
theorem pick_ok {n : Nat} (hn : n ≤ 900000000) {q : Nat} (h1 : 1 ≤ q) (h2 : q ≤ 65536) {a s : Int} (h : Cur n a) : ∃ (v : Nat) (a' s' : Int), spec_l1Cur_pick_p (q : Int) c a s = some ((v : Int), a', s') ∧ v < q ∧ Cur (n + 2) a' := by
  simp only [spec_l1Cur_pick_p, spec_l1Cur_pick_c]
  by_cases hq : q ≤ 1
  · have hd : decide (((q : Nat) : Int) ≤ 1) = true := decide_eq_true (by omega)
    simp only [hd, cond_true]
    exact ⟨0, _, _, rfl, by omega, h.mono (by omega)⟩
  · have hd : decide (((q : Nat) : Int) ≤ 1) = false := decide_eq_false (by omega)
    obtain ⟨v, a1, s1, e1, v0, v1, c1⟩ := next_ok hc (by omega) h (s := s)
    obtain ⟨v', a2, s2, e2, u0, u1, c2⟩ := next_ok hc (n := n + 1) (by omega) c1 (s := s1)
    have hz : (((q : Nat) : Int) == 0) = false := by rw [beq_eq_false_iff_ne]; omega
    have fin : ∀ x : Int, 0 ≤ x → ∃ v : Nat, Int.tmod x ((q : Nat) : Int) = (v : Int) ∧ v < q := fun x hx => by
      obtain ⟨m, rfl⟩ := Int.eq_ofNat_of_zero_le hx
      refine ⟨m % q, ?_, Nat.mod_lt _ (by omega)⟩
      rw [Int.tmod_eq_emod_of_nonneg hx]; rfl
    simp only [hd, cond_false, e1, e2, hz, Option.isSome_some, Option.getD_some, cond_true]
    by_cases h200 : (200 : Int) < ((q : Nat) : Int)
    · simp only [h200, decide_true, cond_true]
      have w1 : IntKind.wrap .i64 (v * 256) = v * 256 := wrap_of (by omega) (by omega)
      have w2 : IntKind.wrap .i64 (v * 256 + v') = v * 256 + v' := wrap_of (by omega) (by omega)
      rw [w1, w2]
      obtain ⟨m, m1, m2⟩ := fin (v * 256 + v') (by omega)
      rw [m1]
      exact ⟨m, _, _, rfl, m2, c2.mono (by omega)⟩
    · simp only [h200, decide_false, cond_false]
      obtain ⟨m, m1, m2⟩ := fin v v0
      rw [m1]
      exact ⟨m, _, _, rfl, m2, c1.mono (by omega)⟩
theorem one_ok {n : Nat} (hn : n ≤ 900000000) {q : Nat} (h1 : 1 ≤ q) (h2 : q ≤ 65536) {a s : Int} (h : Cur n a) : ∃ (v : Bool) (a' s' : Int), spec_l1Cur_one_p (q : Int) c a s = some (v, a', s') ∧ Cur (n + 2) a' := by
  obtain ⟨v, a', s', e, _, g⟩ := pick_ok hc hn h1 h2 h (s := s)
  exact ⟨((v : Int) == 0), a', s', by simp only [spec_l1Cur_one_p, spec_l1Cur_one_c, e, Option.isSome_some, Option.getD_some, cond_true], g⟩
theorem among_ok {n : Nat} (hn : n ≤ 900000000) {l : List Int} (h1 : 1 ≤ l.length) (h2 : l.length ≤ 65536) {a s : Int} (h : Cur n a) : ∃ (v a' s' : Int), spec_l1Cur_among_p l c a s = some (v, a', s') ∧ v ∈ l ∧ Cur (n + 2) a' := by
  obtain ⟨v, a', s', e, hv, g⟩ := pick_ok hc hn h1 h2 h (s := s)
  refine ⟨iget l v, a', s', by simp only [spec_l1Cur_among_p, spec_l1Cur_among_c, e, Option.isSome_some, Option.getD_some, cond_true, inR_cast, hv, decide_true, Int.toNat_natCast], ?_, g⟩
  rw [igetL, List.getElem?_eq_getElem hv]
  exact List.getElem_mem hv
theorem tile_ok {n : Nat} (hn : n ≤ 900000000) {a s : Int} (h : Cur n a) : ∃ (v a' s' : Int), spec_l1Cur_tile_p c a s = some (v, a', s') ∧ Cur (n + 2) a' := by
  obtain ⟨v, a', s', e, _, g⟩ := among_ok hc hn (l := [1, 2, 0, 1, 3, 0, 2, 1, 4, 5, 0]) (by decide) (by decide) h (s := s)
  exact ⟨v, a', s', by simp only [spec_l1Cur_tile_p, spec_l1Cur_tile_c, e, Option.isSome_some, Option.getD_some, cond_true], g⟩
end
end Go.Lv.P
