/-
Plain facts of the pure functions, part 6; without conditions.
-/
import Derived.Test.YtabfliifleonaakGreatQkP0
import Derived.Test.YtabfliifleonaakGreatQkP5
import Derived.Test.YtabfliifleonaakGreatQkPG5
import Derived.Test.YtabfliifleonaakGreatQkPG2
import Derived.Test.YtabfliifleonaakGreatQkPG4
import Derived.Test.YtabfliifleonaakGreatQkP2
import Derived.Test.YtabfliifleonaakGreatQkP3
import Derived.Test.YtabfliifleonaakGreatQkPG3
import Derived.Test.YtabfliifleonaakGreatQkP1
import Derived.Test.YtabfliifleonaakGreatQkP6
set_option linter.unusedVariables false
set_option linter.unusedSimpArgs false
set_option linter.unusedSectionVars false
namespace Go.Lv.P
open Go Go.Lv
def bitI (c k : Int) : Int := IntKind.wrap .i64 (((BitVec.ofInt (IntKind.bits .i64) (Int.fdiv c (2 ^ (min (Int.toNat k) (IntKind.bits .i64)) : Int)) &&& BitVec.ofInt (IntKind.bits .i64) (1 : Int)).toNat : Nat) : Int)
theorem bit_all : ∀ c : Fin 16, ∀ k : Fin 4, (bitI ((c.val : Nat) : Int) ((k.val : Nat) : Int) == 1) = Nat.testBit c.val k.val := by decide
theorem bit_eq {c k : Nat} (hc : c < 16) (hk : k < 4) : (bitI (c : Int) (k : Int) == 1) = Nat.testBit c k := bit_all ⟨c, hc⟩ ⟨k, hk⟩
theorem has0 (F : Nat) (l : List Int) (n : Int) (hl : l.length ≤ 1000) (hF : 1000 < F) : k123_p F l n = some (l.contains n) := by
  have h : k123_l2 F l n 0 = some ((List.range l.length).any fun i => iget l i == n) := by
    rw [← fnd_any]
    refine u061 (step := k123_s2 F l n) (fun i => i) l.length _ _ _ (by omega) (by omega) (fun i hi Q kn kx => ?_) fun Q kn kx => ?_
    · simp only [k123_s2, Int.ofNat_lt, hi, decide_true, cond_true, u021, Int.toNat_natCast]
    · simp [k123_s2]
  have e : ((List.range l.length).any fun i => iget l i == n) = l.contains n := by
    rw [Bool.eq_iff_iff, List.any_eq_true, List.contains_iff_mem]
    constructor
    · rintro ⟨i, hi, e⟩
      rw [List.mem_range] at hi
      rw [← eq_of_beq e, igetL, List.getElem?_eq_getElem hi]
      exact List.getElem_mem hi
    · intro hm
      obtain ⟨i, hi, e⟩ := List.getElem_of_mem hm
      exact ⟨i, List.mem_range.2 hi, by rw [igetL, List.getElem?_eq_getElem hi, Option.getD_some, e]; exact beq_self_eq_true n⟩
  simp only [k123_p, k123_c, h, Option.isSome_some, Option.getD_some, cond_true, e]
  cases l.contains n <;> rfl
theorem less4 (F : Nat) (hF : 1000 < F) {a b : List Int} (ha : a.length = 4) (hb : b.length = 4) : k115_p F a b = some (ltL a b) := by
  have h : k115_l2 F a b 0 = some (fnd (fun c => !(iget a (0 + c * 1) == iget b (0 + c * 1))) (fun c => (true, decide (iget a (0 + c * 1) < iget b (0 + c * 1)))) (false, default) 0 4) := by
    refine u061 (step := k115_s2 F a b) (fun i => i) 4 (fun c => !(iget a (0 + c * 1) == iget b (0 + c * 1))) (fun c => (true, decide (iget a (0 + c * 1) < iget b (0 + c * 1)))) (false, default) (by omega) (by omega) (fun i hi Q kn kx => ?_) fun Q kn kx => ?_
    · have hi' : (i : Int) < 4 := by omega
      simp only [k115_s2, hi', u021, hi, decide_true, cond_true, Int.toNat_natCast]
    · simp [k115_s2]
  simp only [k115_p, k115_c, h, Option.isSome_some, Option.getD_some, cond_true]
  obtain ⟨a0, a1, a2, a3, rfl⟩ := list4 ha
  obtain ⟨b0, b1, b2, b3, rfl⟩ := list4 hb
  have e : fnd (fun c => !(iget [a0, a1, a2, a3] (0 + c * 1) == iget [b0, b1, b2, b3] (0 + c * 1))) (fun c => (true, decide (iget [a0, a1, a2, a3] (0 + c * 1) < iget [b0, b1, b2, b3] (0 + c * 1)))) (false, default) 0 4 =
      bif !(a0 == b0) then (true, decide (a0 < b0)) else bif !(a1 == b1) then (true, decide (a1 < b1)) else bif !(a2 == b2) then (true, decide (a2 < b2)) else bif !(a3 == b3) then (true, decide (a3 < b3)) else (false, default) := rfl
  rw [e]
  simp only [ltL]
  cases a0 == b0
  · rfl
  · cases a1 == b1
    · rfl
    · cases a2 == b2
      · rfl
      · cases a3 == b3 <;> rfl
theorem insB_at4 (b : List Int) : ∀ l : LL, ∃ n, n ≤ l.length ∧ (∀ i, i < n → ltL (rget l i) b = true) ∧ (n < l.length → ltL (rget l n) b = false) ∧ insB b l = bif decide (n < l.length) && (rget l n == b) then l else l.take n ++ [b] ++ l.drop n
  | [] => ⟨0, Nat.le_refl _, fun i h => by omega, fun h => by simp at h, rfl⟩
  | a :: r => by
    cases h : ltL a b with
    | true =>
      obtain ⟨n, h1, h2, h3, h4⟩ := insB_at4 b r
      refine ⟨n + 1, by simp; omega, fun i hi => ?_, fun hn => ?_, ?_⟩
      · cases i with
        | zero => exact h
        | succ i => exact h2 i (by omega)
      · exact h3 (by simpa using hn)
      · have e1 : rget (a :: r) (n + 1) = rget r n := rfl
        have e2 : decide (n + 1 < (a :: r).length) = decide (n < r.length) := by simp
        rw [e1, e2]
        simp only [insB, h, cond_true, h4]
        cases decide (n < r.length) && (rget r n == b) <;> simp
    | false =>
      refine ⟨0, Nat.zero_le _, fun i hi => by omega, fun _ => h, ?_⟩
      have e1 : rget (a :: r) 0 = a := rfl
      rw [e1]
      simp only [insB, h, cond_false]
      cases a == b <;> simp
theorem fnd_at4 {X : Type} (p : Nat → Bool) (f : Nat → X) (e : X) : ∀ (m i n : Nat), (∀ j, i ≤ j → j < i + n → p j = false) → n ≤ m → (n < m → p (i + n) = true) → fnd p f e i m = bif decide (n < m) then f (i + n) else e
  | 0, i, n, _, h, _ => by
    have : n = 0 := by omega
    subst this; rfl
  | m + 1, i, 0, _, _, h => by
    have := h (by omega)
    simp only [Nat.add_zero] at this
    simp only [fnd, this, cond_true, Nat.add_zero]
    rw [decide_eq_true (by omega)]; rfl
  | m + 1, i, n + 1, h1, h2, h3 => by
    have h0 := h1 i (Nat.le_refl _) (by omega)
    simp only [fnd, h0, cond_false]
    rw [fnd_at4 p f e m (i + 1) n (fun j hj hj2 => h1 j (by omega) (by omega)) (by omega) (fun hh => by rw [show i + 1 + n = i + (n + 1) by omega]; exact h3 (by omega))]
    rw [show i + 1 + n = i + (n + 1) by omega]
    have : decide (n < m) = decide (n + 1 < m + 1) := by simp
    rw [this]
theorem put4 (F : Nat) {l : LL} {b : List Int} (hF : 1000 < F) (hb : b.length = 4) (h4 : ∀ x ∈ l, x.length = 4) (hl : l.length ≤ 900) : k126_p F l b = some (insB b l) := by
  obtain ⟨n, h1, h2, h3, h5⟩ := insB_at4 b l
  have hmem : ∀ i, i < l.length → (rget l i).length = 4 := fun i hi => h4 _ (by rw [rgetL, List.getElem?_eq_getElem hi]; exact List.getElem_mem hi)
  have hloop : k103_l2 F l b 0 = some ((n : Nat) : Int) := by
    have h := u061 (step := k103_s2 F l b) (fun i => i) l.length (fun i => !(ltL (rget l i) b)) (fun i => (i : Int)) ((l.length : Nat) : Int) (F := F) (by omega) (by omega) (fun i hi Q kn kx => by
      simp only [k103_s2, Int.ofNat_lt, u021, hi, Int.toNat_natCast, decide_true, cond_true, less4 F hF (hmem i hi) hb, Option.isSome_some, Option.getD_some]
      cases ltL (rget l i) b <;> rfl) (fun Q kn kx => by simp [k103_s2])
    rw [fnd_at4 _ _ _ l.length 0 n (fun j _ hj => by rw [h2 j (by omega)]; rfl) h1 (fun hn => by rw [Nat.zero_add, h3 hn]; rfl), Nat.zero_add] at h
    have h : k103_l2 F l b 0 = _ := h
    rw [h]
    cases hd : decide (n < l.length) with
    | true => rfl
    | false =>
      have := of_decide_eq_false hd
      have : n = l.length := by omega
      rw [this]; rfl
  have hpl : k103_p F l b = some ((n : Nat) : Int) := by
    simp only [k103_p, k103_c, hloop, Option.isSome_some, Option.getD_some, cond_true]
  have f : ∀ m : Nat, m ≤ 1000 → fits m 32 = true := fun m h => u093 (by omega) (by omega)
  have e1 : subn l.length l 0 n = l.take n := u072 l n
  have e2 : subn l.length l n (l.length - n) = l.drop n := by
    rw [subn_eqL _ _ _ _ rfl, sub, List.take_of_length_le (by simp)]
  have t1 : (l.take n).length ≤ 1000 := by simp; omega
  have t2 : (l.take n ++ [b]).length ≤ 1000 := by simp; omega
  have t3 : (l.take n ++ [b] ++ l.drop n).length ≤ 1000 := by simp; omega
  simp only [k126_p, k126_c, hpl, Option.isSome_some, Option.getD_some, cond_true, Int.toNat_natCast, Int.ofNat_lt, u021, u111, h1, Nat.sub_zero, e1, e2, u033, decide_true, f _ t1, f _ t2, f _ t3]
  rw [h5]
  cases hd : decide (n < l.length) with
  | true =>
    cases rget l n == b <;> rfl
  | false => rfl
theorem spread_in (F : Nat) (hF : 1000 < F) (tiles : List Int) (o : Nat) (out : LL) {c : Nat} (hc : c < 16) (ht : tiles.length ≤ 100) : k94_l7 F tiles o c out 0 0 [0, 0, 0, 0] = some (((sp1 tiles c).1 : Int), (sp1 tiles c).2) := by
  refine (u036 (step := k94_s7 F tiles o c out) (fun i (s : Nat × List Int) => ((s.1 : Int), i, s.2)) 4 (spK tiles c) (fun s => ((s.1 : Int), s.2)) (fun i s => s.1 ≤ i) (F := F) (by omega) (by omega) (a := (0, [0, 0, 0, 0])) (Nat.le_refl 0)
    (fun i s hi hI => by
      have hI : s.1 ≤ i := hI
      have hw : IntKind.wrap .i64 ((s.1 : Int) + 1) = ((s.1 + 1 : Nat) : Int) := u047 (n := 100) (by omega) (by omega)
      refine ⟨?_, fun Q kn kx => ?_⟩
      · unfold spK
        cases Nat.testBit c i
        · show s.1 ≤ i + 1; omega
        · show s.1 + 1 ≤ i + 1; omega
      · have hi' : (i : Int) < 4 := by omega
        have hn0 : ¬ (i : Int) < 0 := by omega
        have hb := bit_eq hc hi
        unfold bitI at hb
        simp only [Int.toNat_natCast] at hb
        simp only [k94_s7, hi', hn0, decide_true, decide_false, cond_true, cond_false, hb, hw, Int.ofNat_lt, u021, hi, Int.toNat_natCast, spK, Nat.zero_add, Nat.mul_one]
        cases Nat.testBit c i
        · rfl
        · simp only [cond_true]
          cases hd : decide (s.1 < tiles.length) <;> rfl)
    (fun s _ Q kn kx => by simp [k94_s7])).1
theorem u219 {A : Type} (g : Nat → A → A) : ∀ (m i : Nat) (a : A), fld g i m a = (List.range' i m).foldl (fun a i => g i a) a
  | 0, i, a => rfl
  | m + 1, i, a => by rw [fld, u219 g m (i + 1), List.range'_succ, List.foldl_cons]
theorem spread_eq (F : Nat) (hF : 1000 < F) (tiles : List Int) (ht : tiles.length ≤ 100) : k94_p F tiles = some ((u053 tiles).length, u053 tiles) := by
  have h := u036 (step := k94_s3 F tiles) (fun i (s : LL) => (s.length, i, s)) 16 (fun c s => bif (sp1 tiles c).1 == tiles.length then s ++ [(sp1 tiles c).2] else s) (fun s => (s.length, s)) (fun i s => s.length ≤ i) (F := F) (by omega) (by omega) (a := []) (Nat.le_refl 0)
    (fun c s hc hI => by
      have hI : s.length ≤ c := hI
      refine ⟨?_, fun Q kn kx => ?_⟩
      · show (bif (sp1 tiles c).1 == tiles.length then s ++ [(sp1 tiles c).2] else s).length ≤ c + 1
        cases (sp1 tiles c).1 == tiles.length
        · simp only [cond_false]; omega
        · simp only [cond_true, List.length_append, List.length_singleton]; omega
      · have hc' : (c : Int) < 16 := by omega
        have hf : fits (s ++ [(sp1 tiles c).2]).length 32 = true := u093 (by simp; omega) (by simp; omega)
        have he : ((((sp1 tiles c).1 : Nat) : Int) == ((tiles.length : Nat) : Int)) = ((sp1 tiles c).1 == tiles.length) := by
          rw [Bool.eq_iff_iff, beq_iff_eq, beq_iff_eq]; omega
        simp only [k94_s3, hc', decide_true, cond_true, spread_in F hF tiles s.length s hc ht, Option.isSome_some, Option.getD_some, u033, he, hf]
        cases (sp1 tiles c).1 == tiles.length <;> rfl)
    (fun s _ Q kn kx => by simp [k94_s3])
  have h1 := h.1
  have e : fld (fun c s => bif (sp1 tiles c).1 == tiles.length then s ++ [(sp1 tiles c).2] else s) 0 16 [] = u053 tiles := by
    rw [u219, ← List.range_eq_range']
    unfold u053
    have : ∀ (cs : List Nat) (s : LL), cs.foldl (fun s c => bif (sp1 tiles c).1 == tiles.length then s ++ [(sp1 tiles c).2] else s) s = s ++ (cs.filter fun c => (sp1 tiles c).1 == tiles.length).map fun c => (sp1 tiles c).2 := by
      intro cs
      induction cs with
      | nil => intro s; simp
      | cons c r ih =>
        intro s
        rw [List.foldl_cons, ih, List.filter_cons]
        cases (sp1 tiles c).1 == tiles.length <;> simp
    rw [this, List.nil_append]
  rw [e] at h1
  have h1 : k94_l3 F tiles 0 0 [] = some ((u053 tiles).length, u053 tiles) := h1
  simp only [k94_p, k94_c, h1, Option.isSome_some, Option.getD_some, cond_true]
theorem code_in (F : Nat) (out : LL) {c : Nat} (hc : c < 16) {row : List Int} (hl : row.length = 4) (h : ∀ x ∈ row, u045 x) : ∀ (m k G : Nat) (tiles : List Int), k + m = 4 → m < G → tiles.length ≤ 2 * k →
    loopC (k93_s7 F out c row) G ((k : Int), tiles) some = some (tiles ++ tk (c / 2 ^ k) (row.drop k))
  | 0, k, G, tiles, hk, hG, ht => by
    obtain ⟨G, rfl⟩ : ∃ G', G = G' + 1 := ⟨G - 1, by omega⟩
    have : ¬ (k : Int) < 4 := by omega
    rw [List.drop_eq_nil_of_le (by omega)]
    simp only [loopC, k93_s7, this, decide_false, cond_false, tk, List.append_nil]
  | m + 1, k, G, tiles, hk, hG, ht => by
    obtain ⟨G, rfl⟩ : ∃ G', G = G' + 1 := ⟨G - 1, by omega⟩
    have hk4 : k < 4 := by omega
    have hk' : (k : Int) < 4 := by omega
    have hn0 : ¬ (k : Int) < 0 := by omega
    have hb := bit_eq hc hk4
    unfold bitI at hb
    simp only [Int.toNat_natCast] at hb
    have hkl : k < row.length := by omega
    have hg : iget row (0 + k * 1) = row[k] := by rw [Nat.zero_add, Nat.mul_one, igetL, List.getElem?_eq_getElem hkl]; rfl
    have hx := h row[k] (List.getElem_mem hkl)
    simp only [u045, inB, Bool.and_eq_true, decide_eq_true_eq] at hx
    have hw : IntKind.wrap .i64 (row[k] - 1) = row[k] - 1 := u044 (by omega) (by omega)
    have hbt : Nat.testBit (c / 2 ^ k) 0 = Nat.testBit c k := by rw [Nat.testBit_div_two_pow, Nat.zero_add]
    have hdiv : c / 2 ^ k / 2 = c / 2 ^ (k + 1) := by rw [Nat.div_div_eq_div_mul, Nat.pow_succ]
    rw [List.drop_eq_getElem_cons hkl]
    simp only [loopC, k93_s7, hk', hn0, decide_true, decide_false, cond_true, cond_false, u021, hk4, Int.toNat_natCast, hg, hb, hw, u033, tk, hbt, hdiv]
    cases h0 : decide (0 < row[k]) with
    | false => simp
    | true =>
      simp only [cond_true]
      rw [u047 (n := 4) hk4 (by omega)]
      cases Nat.testBit c k with
      | false =>
        have hf : fits (tiles ++ [row[k]]).length 8 = true := u093 (by simp; omega) (by simp; omega)
        simp only [cond_false, hf, cond_true]
        rw [code_in F out hc hl h m (k + 1) G (tiles ++ [row[k]]) (by omega) (by omega) (by simp; omega), List.append_assoc]
      | true =>
        have hf : fits (tiles ++ [row[k] - 1, row[k] - 1]).length 8 = true := u093 (by simp; omega) (by simp; omega)
        simp only [cond_true, hf]
        rw [code_in F out hc hl h m (k + 1) G (tiles ++ [row[k] - 1, row[k] - 1]) (by omega) (by omega) (by simp; omega), List.append_assoc]
theorem tk_len : ∀ (r : List Int) (c : Nat), (tk c r).length ≤ 2 * r.length
  | [], c => by simp [tk]
  | x :: r, c => by
    have := tk_len r (c / 2)
    simp only [tk, List.length_cons]
    cases decide (0 < x)
    · simp
    · cases Nat.testBit c 0 <;> simp <;> omega
def gC (row : List Int) (c : Nat) (out : LL) : LL := bif decide (4 < (tk c row).length) then out else bif (tk c row).contains 0 then out else ((u053 (tk c row)).filter fun r => slR r == row).foldl (fun s x => insB x s) out
theorem gC_all (row : List Int) : ∀ (cs : List Nat) (out : LL), cs.foldl (fun o c => gC row c o) out = (u139 row ((cs.map fun c => tk c row).filter fun l => !(decide (4 < l.length)) && !(l.contains 0))).foldl (fun s x => insB x s) out
  | [], out => rfl
  | c :: cs, out => by
    rw [List.foldl_cons, gC_all row cs, List.map_cons, List.filter_cons]
    unfold gC
    cases decide (4 < (tk c row).length)
    · cases (tk c row).contains 0
      · simp only [cond_false, Bool.not_false, Bool.and_self, if_true, u139, List.flatMap_cons, List.foldl_append]
      · rfl
    · rfl
section
variable {row : List Int} (hl : row.length = 4) (h : ∀ x ∈ row, u045 x)
include hl h
theorem tk_nz {c : Nat} (hz : (tk c row).contains 0 = false) : ∀ x ∈ tk c row, 0 < x ∧ x ≤ 17 := fun x hx =>
  ex_nz _ (pre_nz hl h) _ (tk_ex row c fun y hy hy0 => by
    subst hy0
    rw [List.contains_iff_mem.2 hy] at hz; cases hz) x hx
theorem hits_in (F : Nat) (hF : 1000 < F) (c : Nat) {T : List Int} (hT : ∀ x ∈ T, 0 < x ∧ x ≤ 17) (out : LL) (ho : out.length ≤ 500) (h4 : ∀ x ∈ out, x.length = 4) :
    k93_l15 F c (u053 T).length row (u053 T) out 0 = some (((u053 T).filter fun r => slR r == row).foldl (fun s x => insB x s) out) := by
  have hs := u297 hT
  have hsl := u160 T
  have hh := u036 (step := k93_s15 F c (u053 T).length row (u053 T)) (fun i (s : LL) => (s, i)) (u053 T).length (fun i s => bif slR (rget (u053 T) i) == row then insB (rget (u053 T) i) s else s) (fun s => s) (fun i s => s.length ≤ 500 + i ∧ ∀ x ∈ s, x.length = 4) (F := F) (by omega) (by omega) (a := out) ⟨by omega, h4⟩
    (fun i s hi hI => by
      have hm : rget (u053 T) i ∈ u053 T := by rw [rgetL, List.getElem?_eq_getElem hi]; exact List.getElem_mem hi
      obtain ⟨r1, r2⟩ := hs _ hm
      have hsr := spec_row F (rget (u053 T) i) r1 r2 hF
      have e : (u102 (rget (u053 T) i)).2.2.2 = slR (rget (u053 T) i) := rfl
      refine ⟨?_, fun Q kn kx => ?_⟩
      · cases slR (rget (u053 T) i) == row with
        | false => exact ⟨by simp only [cond_false]; omega, by simpa using hI.2⟩
        | true =>
          have hlen : (insB (rget (u053 T) i) s).length ≤ s.length + 1 := by
            have := ins_len [rget (u053 T) i] s
            simpa using this
          refine ⟨by simp only [cond_true]; omega, fun x hx => ?_⟩
          simp only [cond_true] at hx
          rcases insB_mem.1 hx with rfl | hx
          · exact r1
          · exact hI.2 x hx
      · simp only [k93_s15, Int.ofNat_lt, hi, decide_true, cond_true, u021, Int.toNat_natCast, Nat.zero_add, hsr, e, Option.isSome_some, Option.getD_some, put4 F hF r1 hI.2 (show s.length ≤ 900 by omega)]
        cases slR (rget (u053 T) i) == row <;> rfl)
    (fun s _ Q kn kx => by simp [k93_s15])
  have h1 := hh.1
  have e : fld (fun i s => bif slR (rget (u053 T) i) == row then insB (rget (u053 T) i) s else s) 0 (u053 T).length out = ((u053 T).filter fun r => slR r == row).foldl (fun s x => insB x s) out := by
    have : ∀ (l : LL) (m i : Nat) (s : LL), i + m = l.length → fld (fun i s => bif slR (rget l i) == row then insB (rget l i) s else s) i m s = ((l.drop i).filter fun r => slR r == row).foldl (fun s x => insB x s) s := by
      intro l m
      induction m with
      | zero => intro i s hi; rw [List.drop_eq_nil_of_le (by omega)]; rfl
      | succ m ih =>
        intro i s hi
        have hil : i < l.length := by omega
        have hg : rget l i = l[i] := by rw [rgetL, List.getElem?_eq_getElem hil]; rfl
        rw [fld, ih (i + 1) _ (by omega), List.drop_eq_getElem_cons hil, List.filter_cons, hg]
        cases slR l[i] == row <;> rfl
    have := this (u053 T) (u053 T).length 0 out (by omega)
    rwa [List.drop_zero] at this
  rw [e] at h1
  exact h1
theorem u143 (F : Nat) (hF : 1000 < F) : k93_p F row = some (rbL row) := by
  have hh := u036 (step := k93_s3 F row) (fun c (s : LL) => (s, c)) 16 (gC row) (fun s => s) (fun c s => s.length ≤ 16 * c ∧ ∀ x ∈ s, x.length = 4) (F := F) (by omega) (by omega) (a := []) ⟨by simp, fun x hx => (by cases hx)⟩
    (fun c s hc hI => by
      have hcode := code_in F s hc hl h 4 0 F [] (by omega) (by omega) (by simp)
      rw [Nat.pow_zero, Nat.div_one, List.drop_zero, List.nil_append] at hcode
      have hcode : k93_l7 F s c row 0 [] = some (tk c row) := hcode
      have htl := tk_len row c
      have hc' : (c : Int) < 16 := by omega
      have hlong : decide ((4 : Int) < (((tk c row).length : Nat) : Int)) = decide (4 < (tk c row).length) := by
        by_cases h4 : 4 < (tk c row).length
        · rw [decide_eq_true h4, decide_eq_true (by omega)]
        · rw [decide_eq_false h4, decide_eq_false (by omega)]
      have hhas := has0 F (tk c row) 0 (by omega) hF
      have hsp := spread_eq F hF (tk c row) (by omega)
      refine ⟨?_, fun Q kn kx => ?_⟩
      · unfold gC
        cases decide (4 < (tk c row).length)
        · cases hz : (tk c row).contains 0
          · simp only [cond_false]
            have h1 := ins_len ((u053 (tk c row)).filter fun r => slR r == row) s
            have h2 := u160 (tk c row)
            have h3 := List.length_filter_le (fun r => slR r == row) (u053 (tk c row))
            refine ⟨by omega, ?_⟩
            have hs := u297 (tk_nz hl h hz)
            have : ∀ (l s : LL), (∀ x ∈ l, x.length = 4) → (∀ x ∈ s, x.length = 4) → ∀ x ∈ l.foldl (fun s x => insB x s) s, x.length = 4 := by
              intro l
              induction l with
              | nil => intro s _ hs; exact hs
              | cons a r ih =>
                intro s hl2 hs2
                refine ih _ (fun x hx => hl2 x (List.mem_cons_of_mem _ hx)) fun x hx => ?_
                rcases insB_mem.1 hx with rfl | hx
                · exact hl2 _ List.mem_cons_self
                · exact hs2 x hx
            exact this _ _ (fun x hx => (hs x (List.mem_filter.1 hx).1).1) hI.2
          · exact ⟨by simp only [cond_true, cond_false]; omega, by simpa using hI.2⟩
        · exact ⟨by simp only [cond_true]; omega, by simpa using hI.2⟩
      · simp only [k93_s3, hc', decide_true, cond_true, hcode, Option.isSome_some, Option.getD_some, hlong, u033, hhas, hsp, gC]
        cases decide (4 < (tk c row).length)
        · cases hz : (tk c row).contains 0
          · simp only [cond_false, hits_in hl h F hF c (tk_nz hl h hz) s (by omega) hI.2, Option.isSome_some, Option.getD_some, cond_true]
          · rfl
        · rfl)
    (fun s _ Q kn kx => by simp [k93_s3])
  have h1 := hh.1
  rw [u219, ← List.range_eq_range', gC_all row (List.range 16) []] at h1
  have h1 : k93_l3 F row [] 0 = some (rbL row) := h1
  simp only [k93_p, k93_c, h1, Option.isSome_some, Option.getD_some, cond_true]
end
end Go.Lv.P
namespace Go.Lv.P
open Go Go.Lv
def wgt (p : List Int) : Nat := bif iget p 2 == 2 then 1 else 9
end Go.Lv.P
namespace Go.Lv.P
open Go Go.Lv
theorem equal_eq (F : Nat) (hF : 1000 < F) (a b : List Int) (ha : a.length ≤ 1000) : k30_p F a b = some (a == b) := by
  by_cases hl : a.length = b.length
  · have h : k30_l4 F a b ((a.length : Nat) : Int) 0 = some ((List.range a.length).any fun i => !(iget a i == iget b i)) := by
      rw [← fnd_any]
      refine u061 (step := k30_s4 F a b ((a.length : Nat) : Int)) (fun i => i) a.length _ _ _ (by omega) (by omega) (fun i hi Q kn kx => ?_) fun Q kn kx => ?_
      · have hb : i < b.length := by omega
        simp only [k30_s4, Int.ofNat_lt, hi, hb, decide_true, cond_true, u021, Int.toNat_natCast]
      · simp [k30_s4]
    have e : ((List.range a.length).any fun i => !(iget a i == iget b i)) = !(a == b) := by
      cases hab : a == b with
      | true =>
        have := eq_of_beq hab
        subst this
        simp
      | false =>
        have hne : a ≠ b := by rw [beq_eq_false_iff_ne] at hab; exact hab
        rw [Bool.not_false, List.any_eq_true]
        by_cases hex : ∃ i, i < a.length ∧ iget a i ≠ iget b i
        · obtain ⟨i, hi, hn⟩ := hex
          refine ⟨i, List.mem_range.2 hi, ?_⟩
          have : (iget a i == iget b i) = false := by rw [beq_eq_false_iff_ne]; exact hn
          rw [this]; rfl
        · exfalso
          apply hne
          apply List.ext_getElem hl
          intro i h1 h2
          by_cases hn : iget a i = iget b i
          · rw [igetL, igetL, List.getElem?_eq_getElem h1, List.getElem?_eq_getElem h2] at hn
            exact hn
          · exact absurd ⟨i, h1, hn⟩ hex
    have hd : (((a.length : Nat) : Int) == ((b.length : Nat) : Int)) = true := by rw [hl]; exact beq_self_eq_true _
    simp only [k30_p, k30_c, h, hd, Bool.not_true, cond_false, Option.isSome_some, Option.getD_some, cond_true, e]
    cases a == b <;> rfl
  · have hd : (((a.length : Nat) : Int) == ((b.length : Nat) : Int)) = false := by rw [beq_eq_false_iff_ne]; omega
    have he : (a == b) = false := by rw [beq_eq_false_iff_ne]; intro e; rw [e] at hl; exact hl rfl
    simp only [k30_p, k30_c, hd, Bool.not_false, cond_true, he]
theorem tiles_eq (F : Nat) (hF : 1000 < F) {row : List Int} (h4 : row.length = 4) : ∃ r : Nat × List Int, k120_p F row = some r ∧ r.1 = (tl row).length ∧ r.2.take r.1 = tl row ∧ r.2.length = 4 := by
  have hs4 : sub row 0 4 = row := by obtain ⟨a, b, c, d, rfl⟩ := list4 h4; rfl
  obtain ⟨r, d1, d2, d3, d4⟩ := u142 F row (fun x => x == 0) (by omega) hF (fun x _ => rfl)
  refine ⟨r, ?_, d2, d3, by rw [d4, h4]⟩
  have hf : fits row.length 8 = true := u093 (by omega) (by omega)
  simp only [k120_p, k120_c, hs4, d1, hf, Option.isSome_some, Option.getD_some, cond_true, u037, Bool.and_self]
theorem tl_le {row : List Int} (h4 : row.length = 4) : (tl row).length ≤ 4 := by rw [← h4]; exact List.length_filter_le _ _
theorem flush_eq (F : Nat) (hF : 1000 < F) {row : List Int} (h4 : row.length = 4) : k97_p F row = some (u184 row) := by
  obtain ⟨r, e, r1, r2, r3⟩ := tiles_eq F hF h4
  have hl := tl_le h4
  have hsub : ∀ n, sub row 0 n = row.take n := fun n => rfl
  have hin : inLe ((r.1 : Nat) : Int) 4 = true := by rw [u111]; exact decide_eq_true (by omega)
  have hq := equal_eq F hF (tl row) (row.take (tl row).length) (by omega)
  rw [r1] at r2 hin
  simp only [k97_p, k97_c, e, Option.isSome_some, Option.getD_some, cond_true, hin, u072, r2, Nat.sub_zero, hsub, r1, hq, u184]
theorem places_in (F : Nat) (hF : 1000 < F) (list : List Int) (t1 t2 t3 : Int) (row : List Int) (out ls : LL) {c : Nat} (hc : c < 16) (ht : list.length ≤ 100) : k64_l12 F list c t1 t2 t3 row out ls 0 0 [0, 0, 0, 0] = some (((sp1 list c).1 : Int), (sp1 list c).2) := by
  refine (u036 (step := k64_s12 F list c t1 t2 t3 row out ls) (fun i (s : Nat × List Int) => ((s.1 : Int), i, s.2)) 4 (spK list c) (fun s => ((s.1 : Int), s.2)) (fun i s => s.1 ≤ i) (F := F) (by omega) (by omega) (a := (0, [0, 0, 0, 0])) (Nat.le_refl 0)
    (fun i s hi hI => by
      have hI : s.1 ≤ i := hI
      have hw : IntKind.wrap .i64 ((s.1 : Int) + 1) = ((s.1 + 1 : Nat) : Int) := u047 (n := 100) (by omega) (by omega)
      refine ⟨?_, fun Q kn kx => ?_⟩
      · unfold spK
        cases Nat.testBit c i
        · show s.1 ≤ i + 1; omega
        · show s.1 + 1 ≤ i + 1; omega
      · have hi' : (i : Int) < 4 := by omega
        have hn0 : ¬ (i : Int) < 0 := by omega
        have hb := bit_eq hc hi
        unfold bitI at hb
        simp only [Int.toNat_natCast] at hb
        simp only [k64_s12, hi', hn0, decide_true, decide_false, cond_true, cond_false, hb, hw, Int.ofNat_lt, u021, hi, Int.toNat_natCast, spK, Nat.zero_add, Nat.mul_one]
        cases Nat.testBit c i
        · rfl
        · simp only [cond_true]
          cases hd : decide (s.1 < list.length) <;> rfl)
    (fun s _ Q kn kx => by simp [k64_s12])).1
theorem places_all (F : Nat) (hF : 1000 < F) {list : List Int} (hT : ∀ x ∈ list, 0 < x ∧ x ≤ 17) (t1 t2 : Int) (row : List Int) (ls out : LL) (ht : list.length ≤ 100) (ho : out.length ≤ 500) :
    k64_l8 F list t1 t2 row ls 0 out = some (out ++ (u053 list).filter fun r => slR r == row) := by
  have hh := u036 (step := k64_s8 F list t1 t2 row ls) (fun i (s : LL) => (i, s)) 16 (fun c s => bif (sp1 list c).1 == list.length then (bif slR (sp1 list c).2 == row then s ++ [(sp1 list c).2] else s) else s) (fun s => s) (fun i s => s.length ≤ 500 + i) (F := F) (by omega) (by omega) (a := out) (by omega)
    (fun c s hc hI => by
      have hI : s.length ≤ 500 + c := hI
      obtain ⟨r1, r2, r3⟩ := sp1_ok hT c
      obtain ⟨mg, hsr⟩ := impl_row F (sp1 list c).2 r1 r2 hF
      have e : (u102 (sp1 list c).2).2.2.2 = slR (sp1 list c).2 := rfl
      refine ⟨?_, fun Q kn kx => ?_⟩
      · show (bif (sp1 list c).1 == list.length then (bif slR (sp1 list c).2 == row then s ++ [(sp1 list c).2] else s) else s).length ≤ 500 + (c + 1)
        cases (sp1 list c).1 == list.length
        · simp only [cond_false]; omega
        · cases slR (sp1 list c).2 == row
          · simp only [cond_false, cond_true]; omega
          · simp only [cond_true, List.length_append, List.length_singleton]; omega
      · have hc' : (c : Int) < 16 := by omega
        have hf : fits (s ++ [(sp1 list c).2]).length 32 = true := u093 (by simp; omega) (by simp; omega)
        have he : ((((sp1 list c).1 : Nat) : Int) == ((list.length : Nat) : Int)) = ((sp1 list c).1 == list.length) := by
          rw [Bool.eq_iff_iff, beq_iff_eq, beq_iff_eq]; omega
        simp only [k64_s8, hc', decide_true, cond_true, places_in F hF list t1 t2 c row s ls hc ht, Option.isSome_some, Option.getD_some, u037, Bool.and_self, u033, he, hsr, e, hf]
        cases (sp1 list c).1 == list.length
        · rfl
        · cases slR (sp1 list c).2 == row <;> rfl)
    (fun s _ Q kn kx => by simp [k64_s8])
  have h1 := hh.1
  have e : fld (fun c s => bif (sp1 list c).1 == list.length then (bif slR (sp1 list c).2 == row then s ++ [(sp1 list c).2] else s) else s) 0 16 out = out ++ (u053 list).filter fun r => slR r == row := by
    rw [u219, ← List.range_eq_range']
    unfold u053
    have : ∀ (cs : List Nat) (s : LL), cs.foldl (fun s c => bif (sp1 list c).1 == list.length then (bif slR (sp1 list c).2 == row then s ++ [(sp1 list c).2] else s) else s) s = s ++ (((cs.filter fun c => (sp1 list c).1 == list.length).map fun c => (sp1 list c).2).filter fun r => slR r == row) := by
      intro cs
      induction cs with
      | nil => intro s; simp
      | cons c r ih =>
        intro s
        rw [List.foldl_cons, ih, List.filter_cons]
        cases (sp1 list c).1 == list.length
        · simp
        · simp only [cond_true, if_true, List.map_cons, List.filter_cons]
          cases slR (sp1 list c).2 == row <;> simp
    exact this _ _
  rw [e] at h1
  exact h1
theorem fld_app (h : List Int → LL) (ls : LL) : ∀ (m i : Nat) (s : LL), i + m = ls.length → fld (fun i s => s ++ h (rget ls i)) i m s = s ++ (ls.drop i).flatMap h
  | 0, i, s, hi => by rw [List.drop_eq_nil_of_le (by omega)]; simp [fld]
  | m + 1, i, s, hi => by
    have hil : i < ls.length := by omega
    have hg : rget ls i = ls[i] := by rw [rgetL, List.getElem?_eq_getElem hil]; rfl
    rw [fld, fld_app h ls m (i + 1) _ (by omega), List.drop_eq_getElem_cons hil, List.flatMap_cons, hg, List.append_assoc]
section
variable {row : List Int} (hl : row.length = 4) (h : ∀ x ∈ row, u045 x)
include hl h
theorem u148 (F : Nat) (hF : 1000 < F) : ∃ r : Nat × LL, k64_p F row = some r ∧ r.1 = (rbL row).length ∧ r.2.take r.1 = rbL row ∧ r.1 ≤ r.2.length ∧ r.2.length ≤ 256 := by
  obtain ⟨t, e, t1, t2, t3⟩ := tiles_eq F hF hl
  have htl := tl_le hl
  simp only [k64_p, k64_c, flush_eq F hF hl, Option.isSome_some, Option.getD_some, cond_true]
  cases hf : u184 row with
  | false => exact ⟨(0, []), rfl, by rw [rb_none hl h hf]; rfl, by rw [rb_none hl h hf]; rfl, Nat.le_refl _, by simp⟩
  | true =>
    have hto : ∀ x ∈ tl row, tOK x := fun x hx => by
      have := u211 h x hx
      simp only [inB, Bool.and_eq_true, decide_eq_true_eq] at this
      exact ⟨by omega, by omega⟩
    have hap := apart_eq (tl row) htl hto
    have hal : (apL [] (tl row)).length ≤ 16 := by
      have h1 := u121 (tl row) []
      have h2 : 2 ^ (tl row).length ≤ 2 ^ 4 := Nat.pow_le_pow_right (by omega) htl
      omega
    have hnz := ap_nz hl h hf
    have h4 : ∀ l ∈ apL [] (tl row), l.length ≤ 4 := fun l hm => ((apL_mem _ _ _).1 hm).1
    generalize hA : apL [] (tl row) = A at hap hal hnz h4
    have hh := u036 (step := k64_s5 F ((A.length : Nat) : Int) row A) (fun i (s : LL) => (i, s)) A.length (fun i s => s ++ (u053 (rget A i)).filter fun r => slR r == row) (fun s => s) (fun i s => s.length ≤ 16 * i) (F := F) (by omega) (by omega) (a := []) (by simp)
      (fun i s hi hI => by
        have hI : s.length ≤ 16 * i := hI
        have hm : rget A i ∈ A := by rw [rgetL, List.getElem?_eq_getElem hi]; exact List.getElem_mem hi
        have hp := places_all F hF (hnz _ hm) ((A.length : Nat) : Int) i row A s (by have := h4 _ hm; omega) (by omega)
        have hsl := u160 (rget A i)
        have hfl := List.length_filter_le (fun r => slR r == row) (u053 (rget A i))
        refine ⟨?_, fun Q kn kx => ?_⟩
        · show (s ++ (u053 (rget A i)).filter fun r => slR r == row).length ≤ 16 * (i + 1)
          rw [List.length_append]; omega
        · simp only [k64_s5, Int.ofNat_lt, hi, decide_true, cond_true, u021, Int.toNat_natCast, Nat.zero_add, hp, u037, Bool.and_self, Option.isSome_some, Option.getD_some])
      (fun s _ Q kn kx => by simp [k64_s5])
    have h1 := hh.1
    rw [fld_app (fun l => (u053 l).filter fun r => slR r == row) A A.length 0 [] (by omega), List.drop_zero, List.nil_append] at h1
    have h1 : k64_l5 F ((A.length : Nat) : Int) row A 0 [] = some (u139 row A) := h1
    have hlen : (u139 row A).length ≤ 256 := by have := hits_len row A; omega
    have hok := hits_ok hl h (ls := A) hnz
    have hso : compL (sortL (u139 row A)) = rbL row := sorted_eq (m := 4) (fun x hx => (hok x hx).1) (u125 hl h).1 fun x => by rw [← hA]; exact hits_same hl h hf x
    obtain ⟨r, c1, c2, c3, c4, c5⟩ := compact4 F (sortL (u139 row A)) (by rw [u177]; omega) (by rw [u177]; omega)
    rw [u177] at c1 c5
    have hb1 : Nat.blt 1000 F = true := Nat.blt_eq.mpr hF
    have hb2 : Nat.ble (u139 row A).length 1000000000 = true := Nat.ble_eq.mpr (by omega)
    refine ⟨r, ?_, by rw [c2, hso], by rw [c3, hso], c4, by omega⟩
    simp only [Bool.not_true, cond_false, e, Option.isSome_some, Option.getD_some, cond_true, u072, t2, hap, h1, u037, ble_selfL, sortP_all, Bool.and_self, hb1, hb2, c1]
end
end Go.Lv.P
namespace Go.Lv.P
open Go Go.Lv
def rwB (b : List Int) (d i : Nat) : LL := rbL (lineB b d i)
def cntB (b : List Int) (d : Nat) : Int :=
  let n := IntKind.wrap .i64 ((IntKind.wrap .i64 ((IntKind.wrap .i64 ((IntKind.wrap .i64 ((1 : Int) * (((rwB b d 0).length : Nat) : Int))) * (((rwB b d 1).length : Nat) : Int))) * (((rwB b d 2).length : Nat) : Int))) * (((rwB b d 3).length : Nat) : Int))
  bif (u070 b d).1 == b then IntKind.wrap .i64 (n - 1) else n
theorem u092 (b : List Int) (d i : Nat) : (rwB b d i).length ≤ 256 := rb_len _
section
variable {b : List Int} (hb : b.length = 16) (ok : okB b = true)
include hb ok
theorem rw_ok {d i : Nat} (hd : d < 4) (hi : i < 4) : ∀ x ∈ rwB b d i, x.length = 4 ∧ ∀ y ∈ x, u045 y := fun x hx =>
  ((u125 (row := lineB b d i) rfl (u078 hb ((u082 b).1 ok) hd hi)).2 x hx).1
theorem impl_lines (F : Nat) (hF : 1000 < F) {d : Nat} (hd : d < 4) : k22_p F b d = some (rwB b d 0, rwB b d 1, rwB b d 2, rwB b d 3) := by
  have k := (u082 b).1 ok
  have h0 := u168 b hd (i := 0) (by decide)
  have h1 := u168 b hd (i := 1) (by decide)
  have h2 := u168 b hd (i := 2) (by decide)
  have h3 := u168 b hd (i := 3) (by decide)
  obtain ⟨r0, a0, -, t0, -, -⟩ := u148 (row := lineB b d 0) rfl (u078 hb k hd (by decide)) F hF
  obtain ⟨r1, a1, -, t1, -, -⟩ := u148 (row := lineB b d 1) rfl (u078 hb k hd (by decide)) F hF
  obtain ⟨r2, a2, -, t2, -, -⟩ := u148 (row := lineB b d 2) rfl (u078 hb k hd (by decide)) F hF
  obtain ⟨r3, a3, -, t3, -, -⟩ := u148 (row := lineB b d 3) rfl (u078 hb k hd (by decide)) F hF
  have e0 : ((0 : Nat) : Int) = 0 := rfl
  have e1 : ((1 : Nat) : Int) = 1 := rfl
  have e2 : ((2 : Nat) : Int) = 2 := rfl
  have e3 : ((3 : Nat) : Int) = 3 := rfl
  rw [e0] at h0
  rw [e1] at h1
  rw [e2] at h2
  rw [e3] at h3
  simp only [k22_p, k22_c, h0, h1, h2, h3, a0, a1, a2, a3, Option.isSome_some, Option.getD_some, cond_true, u072, t0, t1, t2, t3, rwB]
theorem spec_lists (F : Nat) (hF : 1000 < F) {d : Nat} (hd : d < 4) : k105_p F b d = some (rwB b d 0, rwB b d 1, rwB b d 2, rwB b d 3) := by
  obtain ⟨G, rfl⟩ : ∃ G, F = G + 1001 := ⟨F - 1001, by omega⟩
  have k := (u082 b).1 ok
  have h0 := u161 G b hd (i := 0) (by decide)
  have h1 := u161 G b hd (i := 1) (by decide)
  have h2 := u161 G b hd (i := 2) (by decide)
  have h3 := u161 G b hd (i := 3) (by decide)
  have a0 := u143 (row := lineB b d 0) rfl (u078 hb k hd (by decide)) (G + 1001) hF
  have a1 := u143 (row := lineB b d 1) rfl (u078 hb k hd (by decide)) (G + 1001) hF
  have a2 := u143 (row := lineB b d 2) rfl (u078 hb k hd (by decide)) (G + 1001) hF
  have a3 := u143 (row := lineB b d 3) rfl (u078 hb k hd (by decide)) (G + 1001) hF
  have e0 : ((0 : Nat) : Int) = 0 := rfl
  have e1 : ((1 : Nat) : Int) = 1 := rfl
  have e2 : ((2 : Nat) : Int) = 2 := rfl
  have e3 : ((3 : Nat) : Int) = 3 := rfl
  rw [e0] at h0
  rw [e1] at h1
  rw [e2] at h2
  rw [e3] at h3
  simp only [k105_p, k105_c, h0, h1, h2, h3, a0, a1, a2, a3, Option.isSome_some, Option.getD_some, cond_true, rwB]
theorem u088 (F : Nat) (hF : 1000 < F) {d : Nat} (hd : d < 4) : k21_p F b d = some (cntB b d) := by
  simp only [k21_p, k21_c, impl_lines hb ok F hF hd, impl_slides1 hb ok F hF hd, Option.isSome_some, Option.getD_some, cond_true, cntB]
  cases (u070 b d).1 == b <;> rfl
theorem u100 (F : Nat) (hF : 1000 < F) {d : Nat} (hd : d < 4) : k104_p F b d = some (cntB b d) := by
  simp only [k104_p, k104_c, k107_p, k107_c, spec_lists hb ok F hF hd, spec_slide hb ok F hF hd, Option.isSome_some, Option.getD_some, cond_true, cntB]
  cases (u070 b d).1 == b <;> rfl
end
end Go.Lv.P
namespace Go.Lv.P
open Go Go.Lv
def cntV (b : List Int) (d : Int) : Int × Bool := bif okB b && inB d 0 3 then (cntB b d.toNat, true) else (0, false)
theorem cnt_val (F : Nat) (b : List Int) (hb : b.length = 16) (d : Int) (hF : 1000 < F) : k51_p F b d = some (cntV b d) ∧ k49_p F b d = some (cntV b d) := by
  unfold cntV
  simp only [k51_p, k51_c, k49_p, k49_c, k99_eq F b hb hF, k96_eq F b hb hF, Option.isSome_some, Option.getD_some, cond_true, k114_v, k50_v, u280, in_eq]
  cases hB : okB b with
  | false => exact ⟨rfl, rfl⟩
  | true =>
    cases hd : inB d 0 3 with
    | false => exact ⟨rfl, rfl⟩
    | true =>
      simp [inB] at hd
      obtain ⟨k, rfl⟩ := Int.eq_ofNat_of_zero_le hd.1
      simp only [u100 hb hB F hF (d := k) (by omega), u088 hb hB F hF (d := k) (by omega), Option.isSome_some, Option.getD_some, cond_true, Bool.not_true, cond_false]
      exact ⟨rfl, rfl⟩
def waysV (b : List Int) : List Int × Bool := bif okB b then ([cntB b 0, cntB b 1, cntB b 2, cntB b 3], true) else ([0, 0, 0, 0], false)
theorem ways_val (F : Nat) (b : List Int) (hb : b.length = 16) (hF : 1000 < F) : k91_p F b = some (waysV b) ∧ k81_p F b = some (waysV b) := by
  unfold waysV
  simp only [k91_p, k91_c, k81_p, k81_c, k99_eq F b hb hF, k96_eq F b hb hF, Option.isSome_some, Option.getD_some, cond_true]
  cases hB : okB b with
  | false => exact ⟨rfl, rfl⟩
  | true =>
    have s0 := u100 hb hB F hF (d := 0) (by decide)
    have s1 := u100 hb hB F hF (d := 1) (by decide)
    have s2 := u100 hb hB F hF (d := 2) (by decide)
    have s3 := u100 hb hB F hF (d := 3) (by decide)
    have i0 := u088 hb hB F hF (d := 0) (by decide)
    have i1 := u088 hb hB F hF (d := 1) (by decide)
    have i2 := u088 hb hB F hF (d := 2) (by decide)
    have i3 := u088 hb hB F hF (d := 3) (by decide)
    have e0 : ((0 : Nat) : Int) = 0 := rfl
    have e1 : ((1 : Nat) : Int) = 1 := rfl
    have e2 : ((2 : Nat) : Int) = 2 := rfl
    have e3 : ((3 : Nat) : Int) = 3 := rfl
    rw [e0] at s0 i0
    rw [e1] at s1 i1
    rw [e2] at s2 i2
    rw [e3] at s3 i3
    simp only [s0, s1, s2, s3, i0, i1, i2, i3, Option.isSome_some, Option.getD_some, cond_true, Bool.not_true, cond_false]
    exact ⟨by first | rfl | trivial, by first | rfl | trivial⟩
end Go.Lv.P
namespace Go.Lv.P
open Go Go.Lv
def mkR (r : List Int) : List Bool := (rslide2 r).2
def mgN (rows : LL) (k : Nat) : Nat := (rows.filter fun r => bget (mkR r) k).length
section
variable {r : List Int} (hl : r.length = 4) (h : ∀ x ∈ r, u045 x) (hs : slR r = r)
include hl h hs
theorem still_in : r ∈ rbL r := by
  have := rb_all hl h
  rw [hs] at this; exact this
end
end Go.Lv.P
