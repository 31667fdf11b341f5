/-
Plain facts of the pure functions, part 6; without conditions.
-/
import Derived.Test.YtabfliifleonaajGreatQjP0
import Derived.Test.YtabfliifleonaajGreatQjP5
import Derived.Test.YtabfliifleonaajGreatQjP6
import Derived.Test.YtabfliifleonaajGreatQjPG5
import Derived.Test.YtabfliifleonaajGreatQjPG2
import Derived.Test.YtabfliifleonaajGreatQjPG4
import Derived.Test.YtabfliifleonaajGreatQjP2
import Derived.Test.YtabfliifleonaajGreatQjP3
import Derived.Test.YtabfliifleonaajGreatQjPG3
set_option linter.unusedVariables false
set_option linter.unusedSimpArgs false
set_option linter.unusedSectionVars false
namespace Go.Lv.P
open Go Go.Lv
def bitI (c k : Int) : Int := IntKind.wrap .i64 (((BitVec.ofInt (IntKind.bits .i64) (Int.fdiv c (2 ^ (min (Int.toNat k) (IntKind.bits .i64)) : Int)) &&& BitVec.ofInt (IntKind.bits .i64) (1 : Int)).toNat : Nat) : Int)
theorem bit_all : ∀ c : Fin 16, ∀ k : Fin 4, (bitI ((c.val : Nat) : Int) ((k.val : Nat) : Int) == 1) = Nat.testBit c.val k.val := by decide
theorem bit_eq {c k : Nat} (hc : c < 16) (hk : k < 4) : (bitI (c : Int) (k : Int) == 1) = Nat.testBit c k := bit_all ⟨c, hc⟩ ⟨k, hk⟩
theorem has0 (F : Nat) (l : List Int) (n : Int) (hl : l.length ≤ 1000) (hF : 1000 < F) : k110_p F l n = some (l.contains n) := by
  have h : k110_l2 F l n 0 = some ((List.range l.length).any fun i => iget l i == n) := by
    rw [← fnd_any]
    refine loop_find (step := k110_s2 F l n) (fun i => i) l.length _ _ _ (by omega) (by omega) (fun i hi Q kn kx => ?_) fun Q kn kx => ?_
    · simp only [k110_s2, Int.ofNat_lt, hi, decide_true, cond_true, inR_cast, Int.toNat_natCast]
    · simp [k110_s2]
  have e : ((List.range l.length).any fun i => iget l i == n) = l.contains n := by
    rw [Bool.eq_iff_iff, List.any_eq_true, List.contains_iff_mem]
    constructor
    · rintro ⟨i, hi, e⟩
      rw [List.mem_range] at hi
      rw [← eq_of_beq e, igetL, List.getElem?_eq_getElem hi]
      exact List.getElem_mem hi
    · intro hm
      obtain ⟨i, hi, e⟩ := List.getElem_of_mem hm
      exact ⟨i, List.mem_range.2 hi, by rw [igetL, List.getElem?_eq_getElem hi, Option.getD_some, e]; exact beq_self_eq_true n⟩
  simp only [k110_p, k110_c, h, Option.isSome_some, Option.getD_some, cond_true, e]
  cases l.contains n <;> rfl
theorem less4 (F : Nat) (hF : 1000 < F) {a b : List Int} (ha : a.length = 4) (hb : b.length = 4) : k102_p F a b = some (ltL a b) := by
  have h : k102_l2 F a b 0 = some (fnd (fun c => !(iget a (0 + c * 1) == iget b (0 + c * 1))) (fun c => (true, decide (iget a (0 + c * 1) < iget b (0 + c * 1)))) (false, default) 0 4) := by
    refine loop_find (step := k102_s2 F a b) (fun i => i) 4 (fun c => !(iget a (0 + c * 1) == iget b (0 + c * 1))) (fun c => (true, decide (iget a (0 + c * 1) < iget b (0 + c * 1)))) (false, default) (by omega) (by omega) (fun i hi Q kn kx => ?_) fun Q kn kx => ?_
    · have hi' : (i : Int) < 4 := by omega
      simp only [k102_s2, hi', inR_cast, hi, decide_true, cond_true, Int.toNat_natCast]
    · simp [k102_s2]
  simp only [k102_p, k102_c, h, Option.isSome_some, Option.getD_some, cond_true]
  obtain ⟨a0, a1, a2, a3, rfl⟩ := list4 ha
  obtain ⟨b0, b1, b2, b3, rfl⟩ := list4 hb
  have e : fnd (fun c => !(iget [a0, a1, a2, a3] (0 + c * 1) == iget [b0, b1, b2, b3] (0 + c * 1))) (fun c => (true, decide (iget [a0, a1, a2, a3] (0 + c * 1) < iget [b0, b1, b2, b3] (0 + c * 1)))) (false, default) 0 4 =
      bif !(a0 == b0) then (true, decide (a0 < b0)) else bif !(a1 == b1) then (true, decide (a1 < b1)) else bif !(a2 == b2) then (true, decide (a2 < b2)) else bif !(a3 == b3) then (true, decide (a3 < b3)) else (false, default) := rfl
  rw [e]
  simp only [ltL]
  cases a0 == b0
  · rfl
  · cases a1 == b1
    · rfl
    · cases a2 == b2
      · rfl
      · cases a3 == b3 <;> rfl
theorem insB_at4 (b : List Int) : ∀ l : LL, ∃ n, n ≤ l.length ∧ (∀ i, i < n → ltL (rget l i) b = true) ∧ (n < l.length → ltL (rget l n) b = false) ∧ insB b l = bif decide (n < l.length) && (rget l n == b) then l else l.take n ++ [b] ++ l.drop n
  | [] => ⟨0, Nat.le_refl _, fun i h => by omega, fun h => by simp at h, rfl⟩
  | a :: r => by
    cases h : ltL a b with
    | true =>
      obtain ⟨n, h1, h2, h3, h4⟩ := insB_at4 b r
      refine ⟨n + 1, by simp; omega, fun i hi => ?_, fun hn => ?_, ?_⟩
      · cases i with
        | zero => exact h
        | succ i => exact h2 i (by omega)
      · exact h3 (by simpa using hn)
      · have e1 : rget (a :: r) (n + 1) = rget r n := rfl
        have e2 : decide (n + 1 < (a :: r).length) = decide (n < r.length) := by simp
        rw [e1, e2]
        simp only [insB, h, cond_true, h4]
        cases decide (n < r.length) && (rget r n == b) <;> simp
    | false =>
      refine ⟨0, Nat.zero_le _, fun i hi => by omega, fun _ => h, ?_⟩
      have e1 : rget (a :: r) 0 = a := rfl
      rw [e1]
      simp only [insB, h, cond_false]
      cases a == b <;> simp
theorem fnd_at4 {X : Type} (p : Nat → Bool) (f : Nat → X) (e : X) : ∀ (m i n : Nat), (∀ j, i ≤ j → j < i + n → p j = false) → n ≤ m → (n < m → p (i + n) = true) → fnd p f e i m = bif decide (n < m) then f (i + n) else e
  | 0, i, n, _, h, _ => by
    have : n = 0 := by omega
    subst this; rfl
  | m + 1, i, 0, _, _, h => by
    have := h (by omega)
    simp only [Nat.add_zero] at this
    simp only [fnd, this, cond_true, Nat.add_zero]
    rw [decide_eq_true (by omega)]; rfl
  | m + 1, i, n + 1, h1, h2, h3 => by
    have h0 := h1 i (Nat.le_refl _) (by omega)
    simp only [fnd, h0, cond_false]
    rw [fnd_at4 p f e m (i + 1) n (fun j hj hj2 => h1 j (by omega) (by omega)) (by omega) (fun hh => by rw [show i + 1 + n = i + (n + 1) by omega]; exact h3 (by omega))]
    rw [show i + 1 + n = i + (n + 1) by omega]
    have : decide (n < m) = decide (n + 1 < m + 1) := by simp
    rw [this]
theorem put4 (F : Nat) {l : LL} {b : List Int} (hF : 1000 < F) (hb : b.length = 4) (h4 : ∀ x ∈ l, x.length = 4) (hl : l.length ≤ 900) : k113_p F l b = some (insB b l) := by
  obtain ⟨n, h1, h2, h3, h5⟩ := insB_at4 b l
  have hmem : ∀ i, i < l.length → (rget l i).length = 4 := fun i hi => h4 _ (by rw [rgetL, List.getElem?_eq_getElem hi]; exact List.getElem_mem hi)
  have hloop : k94_l2 F l b 0 = some ((n : Nat) : Int) := by
    have h := loop_find (step := k94_s2 F l b) (fun i => i) l.length (fun i => !(ltL (rget l i) b)) (fun i => (i : Int)) ((l.length : Nat) : Int) (F := F) (by omega) (by omega) (fun i hi Q kn kx => by
      simp only [k94_s2, Int.ofNat_lt, inR_cast, hi, Int.toNat_natCast, decide_true, cond_true, less4 F hF (hmem i hi) hb, Option.isSome_some, Option.getD_some]
      cases ltL (rget l i) b <;> rfl) (fun Q kn kx => by simp [k94_s2])
    rw [fnd_at4 _ _ _ l.length 0 n (fun j _ hj => by rw [h2 j (by omega)]; rfl) h1 (fun hn => by rw [Nat.zero_add, h3 hn]; rfl), Nat.zero_add] at h
    have h : k94_l2 F l b 0 = _ := h
    rw [h]
    cases hd : decide (n < l.length) with
    | true => rfl
    | false =>
      have := of_decide_eq_false hd
      have : n = l.length := by omega
      rw [this]; rfl
  have hpl : k94_p F l b = some ((n : Nat) : Int) := by
    simp only [k94_p, k94_c, hloop, Option.isSome_some, Option.getD_some, cond_true]
  have f : ∀ m : Nat, m ≤ 1000 → fits m 32 = true := fun m h => fits_of (by omega) (by omega)
  have e1 : subn l.length l 0 n = l.take n := subn_take0 l n
  have e2 : subn l.length l n (l.length - n) = l.drop n := by
    rw [subn_eqL _ _ _ _ rfl, sub, List.take_of_length_le (by simp)]
  have t1 : (l.take n).length ≤ 1000 := by simp; omega
  have t2 : (l.take n ++ [b]).length ≤ 1000 := by simp; omega
  have t3 : (l.take n ++ [b] ++ l.drop n).length ≤ 1000 := by simp; omega
  simp only [k113_p, k113_c, hpl, Option.isSome_some, Option.getD_some, cond_true, Int.toNat_natCast, Int.ofNat_lt, inR_cast, inLe_cast, h1, Nat.sub_zero, e1, e2, subn_self, decide_true, f _ t1, f _ t2, f _ t3]
  rw [h5]
  cases hd : decide (n < l.length) with
  | true =>
    cases rget l n == b <;> rfl
  | false => rfl
theorem spread_in (F : Nat) (hF : 1000 < F) (tiles : List Int) (o : Nat) (out : LL) {c : Nat} (hc : c < 16) (ht : tiles.length ≤ 100) : k87_l7 F tiles o c out 0 0 [0, 0, 0, 0] = some (((sp1 tiles c).1 : Int), (sp1 tiles c).2) := by
  refine (loop_fold (step := k87_s7 F tiles o c out) (fun i (s : Nat × List Int) => ((s.1 : Int), i, s.2)) 4 (spK tiles c) (fun s => ((s.1 : Int), s.2)) (fun i s => s.1 ≤ i) (F := F) (by omega) (by omega) (a := (0, [0, 0, 0, 0])) (Nat.le_refl 0)
    (fun i s hi hI => by
      have hI : s.1 ≤ i := hI
      have hw : IntKind.wrap .i64 ((s.1 : Int) + 1) = ((s.1 + 1 : Nat) : Int) := wrap_succ (n := 100) (by omega) (by omega)
      refine ⟨?_, fun Q kn kx => ?_⟩
      · unfold spK
        cases Nat.testBit c i
        · show s.1 ≤ i + 1; omega
        · show s.1 + 1 ≤ i + 1; omega
      · have hi' : (i : Int) < 4 := by omega
        have hn0 : ¬ (i : Int) < 0 := by omega
        have hb := bit_eq hc hi
        unfold bitI at hb
        simp only [Int.toNat_natCast] at hb
        simp only [k87_s7, hi', hn0, decide_true, decide_false, cond_true, cond_false, hb, hw, Int.ofNat_lt, inR_cast, hi, Int.toNat_natCast, spK, Nat.zero_add, Nat.mul_one]
        cases Nat.testBit c i
        · rfl
        · simp only [cond_true]
          cases hd : decide (s.1 < tiles.length) <;> rfl)
    (fun s _ Q kn kx => by simp [k87_s7])).1
theorem fld_range {A : Type} (g : Nat → A → A) : ∀ (m i : Nat) (a : A), fld g i m a = (List.range' i m).foldl (fun a i => g i a) a
  | 0, i, a => rfl
  | m + 1, i, a => by rw [fld, fld_range g m (i + 1), List.range'_succ, List.foldl_cons]
theorem spread_eq (F : Nat) (hF : 1000 < F) (tiles : List Int) (ht : tiles.length ≤ 100) : k87_p F tiles = some ((spread tiles).length, spread tiles) := by
  have h := loop_fold (step := k87_s3 F tiles) (fun i (s : LL) => (s.length, i, s)) 16 (fun c s => bif (sp1 tiles c).1 == tiles.length then s ++ [(sp1 tiles c).2] else s) (fun s => (s.length, s)) (fun i s => s.length ≤ i) (F := F) (by omega) (by omega) (a := []) (Nat.le_refl 0)
    (fun c s hc hI => by
      have hI : s.length ≤ c := hI
      refine ⟨?_, fun Q kn kx => ?_⟩
      · show (bif (sp1 tiles c).1 == tiles.length then s ++ [(sp1 tiles c).2] else s).length ≤ c + 1
        cases (sp1 tiles c).1 == tiles.length
        · simp only [cond_false]; omega
        · simp only [cond_true, List.length_append, List.length_singleton]; omega
      · have hc' : (c : Int) < 16 := by omega
        have hf : fits (s ++ [(sp1 tiles c).2]).length 32 = true := fits_of (by simp; omega) (by simp; omega)
        have he : ((((sp1 tiles c).1 : Nat) : Int) == ((tiles.length : Nat) : Int)) = ((sp1 tiles c).1 == tiles.length) := by
          rw [Bool.eq_iff_iff, beq_iff_eq, beq_iff_eq]; omega
        simp only [k87_s3, hc', decide_true, cond_true, spread_in F hF tiles s.length s hc ht, Option.isSome_some, Option.getD_some, subn_self, he, hf]
        cases (sp1 tiles c).1 == tiles.length <;> rfl)
    (fun s _ Q kn kx => by simp [k87_s3])
  have h1 := h.1
  have e : fld (fun c s => bif (sp1 tiles c).1 == tiles.length then s ++ [(sp1 tiles c).2] else s) 0 16 [] = spread tiles := by
    rw [fld_range, ← List.range_eq_range']
    unfold spread
    have : ∀ (cs : List Nat) (s : LL), cs.foldl (fun s c => bif (sp1 tiles c).1 == tiles.length then s ++ [(sp1 tiles c).2] else s) s = s ++ (cs.filter fun c => (sp1 tiles c).1 == tiles.length).map fun c => (sp1 tiles c).2 := by
      intro cs
      induction cs with
      | nil => intro s; simp
      | cons c r ih =>
        intro s
        rw [List.foldl_cons, ih, List.filter_cons]
        cases (sp1 tiles c).1 == tiles.length <;> simp
    rw [this, List.nil_append]
  rw [e] at h1
  have h1 : k87_l3 F tiles 0 0 [] = some ((spread tiles).length, spread tiles) := h1
  simp only [k87_p, k87_c, h1, Option.isSome_some, Option.getD_some, cond_true]
theorem code_in (F : Nat) (out : LL) {c : Nat} (hc : c < 16) {row : List Int} (hl : row.length = 4) (h : ∀ x ∈ row, tileOK x) : ∀ (m k G : Nat) (tiles : List Int), k + m = 4 → m < G → tiles.length ≤ 2 * k →
    loopC (k86_s7 F out c row) G ((k : Int), tiles) some = some (tiles ++ tk (c / 2 ^ k) (row.drop k))
  | 0, k, G, tiles, hk, hG, ht => by
    obtain ⟨G, rfl⟩ : ∃ G', G = G' + 1 := ⟨G - 1, by omega⟩
    have : ¬ (k : Int) < 4 := by omega
    rw [List.drop_eq_nil_of_le (by omega)]
    simp only [loopC, k86_s7, this, decide_false, cond_false, tk, List.append_nil]
  | m + 1, k, G, tiles, hk, hG, ht => by
    obtain ⟨G, rfl⟩ : ∃ G', G = G' + 1 := ⟨G - 1, by omega⟩
    have hk4 : k < 4 := by omega
    have hk' : (k : Int) < 4 := by omega
    have hn0 : ¬ (k : Int) < 0 := by omega
    have hb := bit_eq hc hk4
    unfold bitI at hb
    simp only [Int.toNat_natCast] at hb
    have hkl : k < row.length := by omega
    have hg : iget row (0 + k * 1) = row[k] := by rw [Nat.zero_add, Nat.mul_one, igetL, List.getElem?_eq_getElem hkl]; rfl
    have hx := h row[k] (List.getElem_mem hkl)
    simp only [tileOK, inB, Bool.and_eq_true, decide_eq_true_eq] at hx
    have hw : IntKind.wrap .i64 (row[k] - 1) = row[k] - 1 := wrap_of (by omega) (by omega)
    have hbt : Nat.testBit (c / 2 ^ k) 0 = Nat.testBit c k := by rw [Nat.testBit_div_two_pow, Nat.zero_add]
    have hdiv : c / 2 ^ k / 2 = c / 2 ^ (k + 1) := by rw [Nat.div_div_eq_div_mul, Nat.pow_succ]
    rw [List.drop_eq_getElem_cons hkl]
    simp only [loopC, k86_s7, hk', hn0, decide_true, decide_false, cond_true, cond_false, inR_cast, hk4, Int.toNat_natCast, hg, hb, hw, subn_self, tk, hbt, hdiv]
    cases h0 : decide (0 < row[k]) with
    | false => simp
    | true =>
      simp only [cond_true]
      rw [wrap_succ (n := 4) hk4 (by omega)]
      cases Nat.testBit c k with
      | false =>
        have hf : fits (tiles ++ [row[k]]).length 8 = true := fits_of (by simp; omega) (by simp; omega)
        simp only [cond_false, hf, cond_true]
        rw [code_in F out hc hl h m (k + 1) G (tiles ++ [row[k]]) (by omega) (by omega) (by simp; omega), List.append_assoc]
      | true =>
        have hf : fits (tiles ++ [row[k] - 1, row[k] - 1]).length 8 = true := fits_of (by simp; omega) (by simp; omega)
        simp only [cond_true, hf]
        rw [code_in F out hc hl h m (k + 1) G (tiles ++ [row[k] - 1, row[k] - 1]) (by omega) (by omega) (by simp; omega), List.append_assoc]
theorem tk_len : ∀ (r : List Int) (c : Nat), (tk c r).length ≤ 2 * r.length
  | [], c => by simp [tk]
  | x :: r, c => by
    have := tk_len r (c / 2)
    simp only [tk, List.length_cons]
    cases decide (0 < x)
    · simp
    · cases Nat.testBit c 0 <;> simp <;> omega
def gC (row : List Int) (c : Nat) (out : LL) : LL := bif decide (4 < (tk c row).length) then out else bif (tk c row).contains 0 then out else ((spread (tk c row)).filter fun r => slR r == row).foldl (fun s x => insB x s) out
theorem gC_all (row : List Int) : ∀ (cs : List Nat) (out : LL), cs.foldl (fun o c => gC row c o) out = (hitsOf row ((cs.map fun c => tk c row).filter fun l => !(decide (4 < l.length)) && !(l.contains 0))).foldl (fun s x => insB x s) out
  | [], out => rfl
  | c :: cs, out => by
    rw [List.foldl_cons, gC_all row cs, List.map_cons, List.filter_cons]
    unfold gC
    cases decide (4 < (tk c row).length)
    · cases (tk c row).contains 0
      · simp only [cond_false, Bool.not_false, Bool.and_self, if_true, hitsOf, List.flatMap_cons, List.foldl_append]
      · rfl
    · rfl
section
variable {row : List Int} (hl : row.length = 4) (h : ∀ x ∈ row, tileOK x)
include hl h
theorem tk_nz {c : Nat} (hz : (tk c row).contains 0 = false) : ∀ x ∈ tk c row, 0 < x ∧ x ≤ 17 := fun x hx =>
  ex_nz _ (pre_nz hl h) _ (tk_ex row c fun y hy hy0 => by
    subst hy0
    rw [List.contains_iff_mem.2 hy] at hz; cases hz) x hx
theorem hits_in (F : Nat) (hF : 1000 < F) (c : Nat) {T : List Int} (hT : ∀ x ∈ T, 0 < x ∧ x ≤ 17) (out : LL) (ho : out.length ≤ 500) (h4 : ∀ x ∈ out, x.length = 4) :
    k86_l15 F c (spread T).length row (spread T) out 0 = some (((spread T).filter fun r => slR r == row).foldl (fun s x => insB x s) out) := by
  have hs := spread_ok hT
  have hsl := spread_len T
  have hh := loop_fold (step := k86_s15 F c (spread T).length row (spread T)) (fun i (s : LL) => (s, i)) (spread T).length (fun i s => bif slR (rget (spread T) i) == row then insB (rget (spread T) i) s else s) (fun s => s) (fun i s => s.length ≤ 500 + i ∧ ∀ x ∈ s, x.length = 4) (F := F) (by omega) (by omega) (a := out) ⟨by omega, h4⟩
    (fun i s hi hI => by
      have hm : rget (spread T) i ∈ spread T := by rw [rgetL, List.getElem?_eq_getElem hi]; exact List.getElem_mem hi
      obtain ⟨r1, r2⟩ := hs _ hm
      have hsr := spec_row F (rget (spread T) i) r1 r2 hF
      have e : (rslide (rget (spread T) i)).2.2.2 = slR (rget (spread T) i) := rfl
      refine ⟨?_, fun Q kn kx => ?_⟩
      · cases slR (rget (spread T) i) == row with
        | false => exact ⟨by simp only [cond_false]; omega, by simpa using hI.2⟩
        | true =>
          have hlen : (insB (rget (spread T) i) s).length ≤ s.length + 1 := by
            have := ins_len [rget (spread T) i] s
            simpa using this
          refine ⟨by simp only [cond_true]; omega, fun x hx => ?_⟩
          simp only [cond_true] at hx
          rcases insB_mem.1 hx with rfl | hx
          · exact r1
          · exact hI.2 x hx
      · simp only [k86_s15, Int.ofNat_lt, hi, decide_true, cond_true, inR_cast, Int.toNat_natCast, Nat.zero_add, hsr, e, Option.isSome_some, Option.getD_some, put4 F hF r1 hI.2 (show s.length ≤ 900 by omega)]
        cases slR (rget (spread T) i) == row <;> rfl)
    (fun s _ Q kn kx => by simp [k86_s15])
  have h1 := hh.1
  have e : fld (fun i s => bif slR (rget (spread T) i) == row then insB (rget (spread T) i) s else s) 0 (spread T).length out = ((spread T).filter fun r => slR r == row).foldl (fun s x => insB x s) out := by
    have : ∀ (l : LL) (m i : Nat) (s : LL), i + m = l.length → fld (fun i s => bif slR (rget l i) == row then insB (rget l i) s else s) i m s = ((l.drop i).filter fun r => slR r == row).foldl (fun s x => insB x s) s := by
      intro l m
      induction m with
      | zero => intro i s hi; rw [List.drop_eq_nil_of_le (by omega)]; rfl
      | succ m ih =>
        intro i s hi
        have hil : i < l.length := by omega
        have hg : rget l i = l[i] := by rw [rgetL, List.getElem?_eq_getElem hil]; rfl
        rw [fld, ih (i + 1) _ (by omega), List.drop_eq_getElem_cons hil, List.filter_cons, hg]
        cases slR l[i] == row <;> rfl
    have := this (spread T) (spread T).length 0 out (by omega)
    rwa [List.drop_zero] at this
  rw [e] at h1
  exact h1
theorem spec_before (F : Nat) (hF : 1000 < F) : k86_p F row = some (rbL row) := by
  have hh := loop_fold (step := k86_s3 F row) (fun c (s : LL) => (s, c)) 16 (gC row) (fun s => s) (fun c s => s.length ≤ 16 * c ∧ ∀ x ∈ s, x.length = 4) (F := F) (by omega) (by omega) (a := []) ⟨by simp, fun x hx => (by cases hx)⟩
    (fun c s hc hI => by
      have hcode := code_in F s hc hl h 4 0 F [] (by omega) (by omega) (by simp)
      rw [Nat.pow_zero, Nat.div_one, List.drop_zero, List.nil_append] at hcode
      have hcode : k86_l7 F s c row 0 [] = some (tk c row) := hcode
      have htl := tk_len row c
      have hc' : (c : Int) < 16 := by omega
      have hlong : decide ((4 : Int) < (((tk c row).length : Nat) : Int)) = decide (4 < (tk c row).length) := by
        by_cases h4 : 4 < (tk c row).length
        · rw [decide_eq_true h4, decide_eq_true (by omega)]
        · rw [decide_eq_false h4, decide_eq_false (by omega)]
      have hhas := has0 F (tk c row) 0 (by omega) hF
      have hsp := spread_eq F hF (tk c row) (by omega)
      refine ⟨?_, fun Q kn kx => ?_⟩
      · unfold gC
        cases decide (4 < (tk c row).length)
        · cases hz : (tk c row).contains 0
          · simp only [cond_false]
            have h1 := ins_len ((spread (tk c row)).filter fun r => slR r == row) s
            have h2 := spread_len (tk c row)
            have h3 := List.length_filter_le (fun r => slR r == row) (spread (tk c row))
            refine ⟨by omega, ?_⟩
            have hs := spread_ok (tk_nz hl h hz)
            have : ∀ (l s : LL), (∀ x ∈ l, x.length = 4) → (∀ x ∈ s, x.length = 4) → ∀ x ∈ l.foldl (fun s x => insB x s) s, x.length = 4 := by
              intro l
              induction l with
              | nil => intro s _ hs; exact hs
              | cons a r ih =>
                intro s hl2 hs2
                refine ih _ (fun x hx => hl2 x (List.mem_cons_of_mem _ hx)) fun x hx => ?_
                rcases insB_mem.1 hx with rfl | hx
                · exact hl2 _ List.mem_cons_self
                · exact hs2 x hx
            exact this _ _ (fun x hx => (hs x (List.mem_filter.1 hx).1).1) hI.2
          · exact ⟨by simp only [cond_true, cond_false]; omega, by simpa using hI.2⟩
        · exact ⟨by simp only [cond_true]; omega, by simpa using hI.2⟩
      · simp only [k86_s3, hc', decide_true, cond_true, hcode, Option.isSome_some, Option.getD_some, hlong, subn_self, hhas, hsp, gC]
        cases decide (4 < (tk c row).length)
        · cases hz : (tk c row).contains 0
          · simp only [cond_false, hits_in hl h F hF c (tk_nz hl h hz) s (by omega) hI.2, Option.isSome_some, Option.getD_some, cond_true]
          · rfl
        · rfl)
    (fun s _ Q kn kx => by simp [k86_s3])
  have h1 := hh.1
  rw [fld_range, ← List.range_eq_range', gC_all row (List.range 16) []] at h1
  have h1 : k86_l3 F row [] 0 = some (rbL row) := h1
  simp only [k86_p, k86_c, h1, Option.isSome_some, Option.getD_some, cond_true]
end
end Go.Lv.P
namespace Go.Lv.P
open Go Go.Lv
theorem fld_rget {A : Type} (l : LL) (g : List Int → A → A) (s : A) : fld (fun i s => g (rget l i) s) 0 l.length s = l.foldl (fun s x => g x s) s := by
  have : ∀ (m i : Nat) (s : A), i + m = l.length → fld (fun i s => g (rget l i) s) i m s = (l.drop i).foldl (fun s x => g x s) s := by
    intro m
    induction m with
    | zero => intro i s h; rw [List.drop_eq_nil_of_le (by omega)]; rfl
    | succ m ih =>
      intro i s h
      have hi : i < l.length := by omega
      have hg : rget l i = l[i] := by rw [rgetL, List.getElem?_eq_getElem hi]; rfl
      simp only [fld]
      rw [ih (i + 1) _ (by omega), List.drop_eq_getElem_cons hi, List.foldl_cons, hg]
  simpa using this l.length 0 s (by omega)
def wgt (p : List Int) : Nat := bif iget p 2 == 2 then 1 else 9
end Go.Lv.P
namespace Go.Lv.P
open Go Go.Lv
theorem equal_eq (F : Nat) (hF : 1000 < F) (a b : List Int) (ha : a.length ≤ 1000) : k34_p F a b = some (a == b) := by
  by_cases hl : a.length = b.length
  · have h : k34_l4 F a b ((a.length : Nat) : Int) 0 = some ((List.range a.length).any fun i => !(iget a i == iget b i)) := by
      rw [← fnd_any]
      refine loop_find (step := k34_s4 F a b ((a.length : Nat) : Int)) (fun i => i) a.length _ _ _ (by omega) (by omega) (fun i hi Q kn kx => ?_) fun Q kn kx => ?_
      · have hb : i < b.length := by omega
        simp only [k34_s4, Int.ofNat_lt, hi, hb, decide_true, cond_true, inR_cast, Int.toNat_natCast]
      · simp [k34_s4]
    have e : ((List.range a.length).any fun i => !(iget a i == iget b i)) = !(a == b) := by
      cases hab : a == b with
      | true =>
        have := eq_of_beq hab
        subst this
        simp
      | false =>
        have hne : a ≠ b := by rw [beq_eq_false_iff_ne] at hab; exact hab
        rw [Bool.not_false, List.any_eq_true]
        by_cases hex : ∃ i, i < a.length ∧ iget a i ≠ iget b i
        · obtain ⟨i, hi, hn⟩ := hex
          refine ⟨i, List.mem_range.2 hi, ?_⟩
          have : (iget a i == iget b i) = false := by rw [beq_eq_false_iff_ne]; exact hn
          rw [this]; rfl
        · exfalso
          apply hne
          apply List.ext_getElem hl
          intro i h1 h2
          by_cases hn : iget a i = iget b i
          · rw [igetL, igetL, List.getElem?_eq_getElem h1, List.getElem?_eq_getElem h2] at hn
            exact hn
          · exact absurd ⟨i, h1, hn⟩ hex
    have hd : (((a.length : Nat) : Int) == ((b.length : Nat) : Int)) = true := by rw [hl]; exact beq_self_eq_true _
    simp only [k34_p, k34_c, h, hd, Bool.not_true, cond_false, Option.isSome_some, Option.getD_some, cond_true, e]
    cases a == b <;> rfl
  · have hd : (((a.length : Nat) : Int) == ((b.length : Nat) : Int)) = false := by rw [beq_eq_false_iff_ne]; omega
    have he : (a == b) = false := by rw [beq_eq_false_iff_ne]; intro e; rw [e] at hl; exact hl rfl
    simp only [k34_p, k34_c, hd, Bool.not_false, cond_true, he]
theorem tiles_eq (F : Nat) (hF : 1000 < F) {row : List Int} (h4 : row.length = 4) : ∃ r : Nat × List Int, k108_p F row = some r ∧ r.1 = (tl row).length ∧ r.2.take r.1 = tl row ∧ r.2.length = 4 := by
  have hs4 : sub row 0 4 = row := by obtain ⟨a, b, c, d, rfl⟩ := list4 h4; rfl
  obtain ⟨r, d1, d2, d3, d4⟩ := DeleteFunc_tiles F row (fun x => x == 0) (by omega) hF (fun x _ => rfl)
  refine ⟨r, ?_, d2, d3, by rw [d4, h4]⟩
  have hf : fits row.length 8 = true := fits_of (by omega) (by omega)
  simp only [k108_p, k108_c, hs4, d1, hf, Option.isSome_some, Option.getD_some, cond_true, beq_selfL, Bool.and_self]
theorem tl_le {row : List Int} (h4 : row.length = 4) : (tl row).length ≤ 4 := by rw [← h4]; exact List.length_filter_le _ _
theorem flush_eq (F : Nat) (hF : 1000 < F) {row : List Int} (h4 : row.length = 4) : k90_p F row = some (flushB row) := by
  obtain ⟨r, e, r1, r2, r3⟩ := tiles_eq F hF h4
  have hl := tl_le h4
  have hsub : ∀ n, sub row 0 n = row.take n := fun n => rfl
  have hin : inLe ((r.1 : Nat) : Int) 4 = true := by rw [inLe_cast]; exact decide_eq_true (by omega)
  have hq := equal_eq F hF (tl row) (row.take (tl row).length) (by omega)
  rw [r1] at r2 hin
  simp only [k90_p, k90_c, e, Option.isSome_some, Option.getD_some, cond_true, hin, subn_take0, r2, Nat.sub_zero, hsub, r1, hq, flushB]
theorem places_in (F : Nat) (hF : 1000 < F) (list : List Int) (t1 t2 t3 : Int) (row : List Int) (out ls : LL) {c : Nat} (hc : c < 16) (ht : list.length ≤ 100) : k66_l12 F list c t1 t2 t3 row out ls 0 0 [0, 0, 0, 0] = some (((sp1 list c).1 : Int), (sp1 list c).2) := by
  refine (loop_fold (step := k66_s12 F list c t1 t2 t3 row out ls) (fun i (s : Nat × List Int) => ((s.1 : Int), i, s.2)) 4 (spK list c) (fun s => ((s.1 : Int), s.2)) (fun i s => s.1 ≤ i) (F := F) (by omega) (by omega) (a := (0, [0, 0, 0, 0])) (Nat.le_refl 0)
    (fun i s hi hI => by
      have hI : s.1 ≤ i := hI
      have hw : IntKind.wrap .i64 ((s.1 : Int) + 1) = ((s.1 + 1 : Nat) : Int) := wrap_succ (n := 100) (by omega) (by omega)
      refine ⟨?_, fun Q kn kx => ?_⟩
      · unfold spK
        cases Nat.testBit c i
        · show s.1 ≤ i + 1; omega
        · show s.1 + 1 ≤ i + 1; omega
      · have hi' : (i : Int) < 4 := by omega
        have hn0 : ¬ (i : Int) < 0 := by omega
        have hb := bit_eq hc hi
        unfold bitI at hb
        simp only [Int.toNat_natCast] at hb
        simp only [k66_s12, hi', hn0, decide_true, decide_false, cond_true, cond_false, hb, hw, Int.ofNat_lt, inR_cast, hi, Int.toNat_natCast, spK, Nat.zero_add, Nat.mul_one]
        cases Nat.testBit c i
        · rfl
        · simp only [cond_true]
          cases hd : decide (s.1 < list.length) <;> rfl)
    (fun s _ Q kn kx => by simp [k66_s12])).1
theorem places_all (F : Nat) (hF : 1000 < F) {list : List Int} (hT : ∀ x ∈ list, 0 < x ∧ x ≤ 17) (t1 t2 : Int) (row : List Int) (ls out : LL) (ht : list.length ≤ 100) (ho : out.length ≤ 500) :
    k66_l8 F list t1 t2 row ls 0 out = some (out ++ (spread list).filter fun r => slR r == row) := by
  have hh := loop_fold (step := k66_s8 F list t1 t2 row ls) (fun i (s : LL) => (i, s)) 16 (fun c s => bif (sp1 list c).1 == list.length then (bif slR (sp1 list c).2 == row then s ++ [(sp1 list c).2] else s) else s) (fun s => s) (fun i s => s.length ≤ 500 + i) (F := F) (by omega) (by omega) (a := out) (by omega)
    (fun c s hc hI => by
      have hI : s.length ≤ 500 + c := hI
      obtain ⟨r1, r2, r3⟩ := sp1_ok hT c
      obtain ⟨mg, hsr⟩ := impl_row F (sp1 list c).2 r1 r2 hF
      have e : (rslide (sp1 list c).2).2.2.2 = slR (sp1 list c).2 := rfl
      refine ⟨?_, fun Q kn kx => ?_⟩
      · show (bif (sp1 list c).1 == list.length then (bif slR (sp1 list c).2 == row then s ++ [(sp1 list c).2] else s) else s).length ≤ 500 + (c + 1)
        cases (sp1 list c).1 == list.length
        · simp only [cond_false]; omega
        · cases slR (sp1 list c).2 == row
          · simp only [cond_false, cond_true]; omega
          · simp only [cond_true, List.length_append, List.length_singleton]; omega
      · have hc' : (c : Int) < 16 := by omega
        have hf : fits (s ++ [(sp1 list c).2]).length 32 = true := fits_of (by simp; omega) (by simp; omega)
        have he : ((((sp1 list c).1 : Nat) : Int) == ((list.length : Nat) : Int)) = ((sp1 list c).1 == list.length) := by
          rw [Bool.eq_iff_iff, beq_iff_eq, beq_iff_eq]; omega
        simp only [k66_s8, hc', decide_true, cond_true, places_in F hF list t1 t2 c row s ls hc ht, Option.isSome_some, Option.getD_some, beq_selfL, Bool.and_self, subn_self, he, hsr, e, hf]
        cases (sp1 list c).1 == list.length
        · rfl
        · cases slR (sp1 list c).2 == row <;> rfl)
    (fun s _ Q kn kx => by simp [k66_s8])
  have h1 := hh.1
  have e : fld (fun c s => bif (sp1 list c).1 == list.length then (bif slR (sp1 list c).2 == row then s ++ [(sp1 list c).2] else s) else s) 0 16 out = out ++ (spread list).filter fun r => slR r == row := by
    rw [fld_range, ← List.range_eq_range']
    unfold spread
    have : ∀ (cs : List Nat) (s : LL), cs.foldl (fun s c => bif (sp1 list c).1 == list.length then (bif slR (sp1 list c).2 == row then s ++ [(sp1 list c).2] else s) else s) s = s ++ (((cs.filter fun c => (sp1 list c).1 == list.length).map fun c => (sp1 list c).2).filter fun r => slR r == row) := by
      intro cs
      induction cs with
      | nil => intro s; simp
      | cons c r ih =>
        intro s
        rw [List.foldl_cons, ih, List.filter_cons]
        cases (sp1 list c).1 == list.length
        · simp
        · simp only [cond_true, if_true, List.map_cons, List.filter_cons]
          cases slR (sp1 list c).2 == row <;> simp
    exact this _ _
  rw [e] at h1
  exact h1
theorem fld_app (h : List Int → LL) (ls : LL) : ∀ (m i : Nat) (s : LL), i + m = ls.length → fld (fun i s => s ++ h (rget ls i)) i m s = s ++ (ls.drop i).flatMap h
  | 0, i, s, hi => by rw [List.drop_eq_nil_of_le (by omega)]; simp [fld]
  | m + 1, i, s, hi => by
    have hil : i < ls.length := by omega
    have hg : rget ls i = ls[i] := by rw [rgetL, List.getElem?_eq_getElem hil]; rfl
    rw [fld, fld_app h ls m (i + 1) _ (by omega), List.drop_eq_getElem_cons hil, List.flatMap_cons, hg, List.append_assoc]
section
variable {row : List Int} (hl : row.length = 4) (h : ∀ x ∈ row, tileOK x)
include hl h
theorem impl_before (F : Nat) (hF : 1000 < F) : ∃ r : Nat × LL, k66_p F row = some r ∧ r.1 = (rbL row).length ∧ r.2.take r.1 = rbL row ∧ r.1 ≤ r.2.length ∧ r.2.length ≤ 256 := by
  obtain ⟨t, e, t1, t2, t3⟩ := tiles_eq F hF hl
  have htl := tl_le hl
  simp only [k66_p, k66_c, flush_eq F hF hl, Option.isSome_some, Option.getD_some, cond_true]
  cases hf : flushB row with
  | false => exact ⟨(0, []), rfl, by rw [rb_none hl h hf]; rfl, by rw [rb_none hl h hf]; rfl, Nat.le_refl _, by simp⟩
  | true =>
    have hto : ∀ x ∈ tl row, tOK x := fun x hx => by
      have := row_tiles h x hx
      simp only [inB, Bool.and_eq_true, decide_eq_true_eq] at this
      exact ⟨by omega, by omega⟩
    have hap := apart_eq (tl row) htl hto
    have hal : (apL [] (tl row)).length ≤ 16 := by
      have h1 := apL_len (tl row) []
      have h2 : 2 ^ (tl row).length ≤ 2 ^ 4 := Nat.pow_le_pow_right (by omega) htl
      omega
    have hnz := ap_nz hl h hf
    have h4 : ∀ l ∈ apL [] (tl row), l.length ≤ 4 := fun l hm => ((apL_mem _ _ _).1 hm).1
    generalize hA : apL [] (tl row) = A at hap hal hnz h4
    have hh := loop_fold (step := k66_s5 F ((A.length : Nat) : Int) row A) (fun i (s : LL) => (i, s)) A.length (fun i s => s ++ (spread (rget A i)).filter fun r => slR r == row) (fun s => s) (fun i s => s.length ≤ 16 * i) (F := F) (by omega) (by omega) (a := []) (by simp)
      (fun i s hi hI => by
        have hI : s.length ≤ 16 * i := hI
        have hm : rget A i ∈ A := by rw [rgetL, List.getElem?_eq_getElem hi]; exact List.getElem_mem hi
        have hp := places_all F hF (hnz _ hm) ((A.length : Nat) : Int) i row A s (by have := h4 _ hm; omega) (by omega)
        have hsl := spread_len (rget A i)
        have hfl := List.length_filter_le (fun r => slR r == row) (spread (rget A i))
        refine ⟨?_, fun Q kn kx => ?_⟩
        · show (s ++ (spread (rget A i)).filter fun r => slR r == row).length ≤ 16 * (i + 1)
          rw [List.length_append]; omega
        · simp only [k66_s5, Int.ofNat_lt, hi, decide_true, cond_true, inR_cast, Int.toNat_natCast, Nat.zero_add, hp, beq_selfL, Bool.and_self, Option.isSome_some, Option.getD_some])
      (fun s _ Q kn kx => by simp [k66_s5])
    have h1 := hh.1
    rw [fld_app (fun l => (spread l).filter fun r => slR r == row) A A.length 0 [] (by omega), List.drop_zero, List.nil_append] at h1
    have h1 : k66_l5 F ((A.length : Nat) : Int) row A 0 [] = some (hitsOf row A) := h1
    have hlen : (hitsOf row A).length ≤ 256 := by have := hits_len row A; omega
    have hok := hits_ok hl h (ls := A) hnz
    have hso : compL (sortL (hitsOf row A)) = rbL row := sorted_eq (m := 4) (fun x hx => (hok x hx).1) (rb_facts hl h).1 fun x => by rw [← hA]; exact hits_same hl h hf x
    obtain ⟨r, c1, c2, c3, c4, c5⟩ := compact4 F (sortL (hitsOf row A)) (by rw [sort_len]; omega) (by rw [sort_len]; omega)
    rw [sort_len] at c1 c5
    have hb1 : Nat.blt 1000 F = true := Nat.blt_eq.mpr hF
    have hb2 : Nat.ble (hitsOf row A).length 1000000000 = true := Nat.ble_eq.mpr (by omega)
    refine ⟨r, ?_, by rw [c2, hso], by rw [c3, hso], c4, by omega⟩
    simp only [Bool.not_true, cond_false, e, Option.isSome_some, Option.getD_some, cond_true, subn_take0, t2, hap, h1, beq_selfL, ble_selfL, sortP_all, Bool.and_self, hb1, hb2, c1]
end
end Go.Lv.P
namespace Go.Lv.P
open Go Go.Lv
def rwB (b : List Int) (d i : Nat) : LL := rbL (lineB b d i)
def cntB (b : List Int) (d : Nat) : Int :=
  let n := IntKind.wrap .i64 ((IntKind.wrap .i64 ((IntKind.wrap .i64 ((IntKind.wrap .i64 ((1 : Int) * (((rwB b d 0).length : Nat) : Int))) * (((rwB b d 1).length : Nat) : Int))) * (((rwB b d 2).length : Nat) : Int))) * (((rwB b d 3).length : Nat) : Int))
  bif (slideB b d).1 == b then IntKind.wrap .i64 (n - 1) else n
theorem rwB_len (b : List Int) (d i : Nat) : (rwB b d i).length ≤ 256 := rb_len _
section
variable {b : List Int} (hb : b.length = 16) (ok : okB b = true)
include hb ok
theorem rw_ok {d i : Nat} (hd : d < 4) (hi : i < 4) : ∀ x ∈ rwB b d i, x.length = 4 ∧ ∀ y ∈ x, tileOK y := fun x hx =>
  ((rb_facts (row := lineB b d i) rfl (line_ok hb ((okB_iff b).1 ok) hd hi)).2 x hx).1
theorem impl_lines (F : Nat) (hF : 1000 < F) {d : Nat} (hd : d < 4) : k27_p F b d = some (rwB b d 0, rwB b d 1, rwB b d 2, rwB b d 3) := by
  have k := (okB_iff b).1 ok
  have h0 := impl_line b hd (i := 0) (by decide)
  have h1 := impl_line b hd (i := 1) (by decide)
  have h2 := impl_line b hd (i := 2) (by decide)
  have h3 := impl_line b hd (i := 3) (by decide)
  obtain ⟨r0, a0, -, t0, -, -⟩ := impl_before (row := lineB b d 0) rfl (line_ok hb k hd (by decide)) F hF
  obtain ⟨r1, a1, -, t1, -, -⟩ := impl_before (row := lineB b d 1) rfl (line_ok hb k hd (by decide)) F hF
  obtain ⟨r2, a2, -, t2, -, -⟩ := impl_before (row := lineB b d 2) rfl (line_ok hb k hd (by decide)) F hF
  obtain ⟨r3, a3, -, t3, -, -⟩ := impl_before (row := lineB b d 3) rfl (line_ok hb k hd (by decide)) F hF
  have e0 : ((0 : Nat) : Int) = 0 := rfl
  have e1 : ((1 : Nat) : Int) = 1 := rfl
  have e2 : ((2 : Nat) : Int) = 2 := rfl
  have e3 : ((3 : Nat) : Int) = 3 := rfl
  rw [e0] at h0
  rw [e1] at h1
  rw [e2] at h2
  rw [e3] at h3
  simp only [k27_p, k27_c, h0, h1, h2, h3, a0, a1, a2, a3, Option.isSome_some, Option.getD_some, cond_true, subn_take0, t0, t1, t2, t3, rwB]
theorem spec_lists (F : Nat) (hF : 1000 < F) {d : Nat} (hd : d < 4) : k96_p F b d = some (rwB b d 0, rwB b d 1, rwB b d 2, rwB b d 3) := by
  obtain ⟨G, rfl⟩ : ∃ G, F = G + 1001 := ⟨F - 1001, by omega⟩
  have k := (okB_iff b).1 ok
  have h0 := spec_nums G b hd (i := 0) (by decide)
  have h1 := spec_nums G b hd (i := 1) (by decide)
  have h2 := spec_nums G b hd (i := 2) (by decide)
  have h3 := spec_nums G b hd (i := 3) (by decide)
  have a0 := spec_before (row := lineB b d 0) rfl (line_ok hb k hd (by decide)) (G + 1001) hF
  have a1 := spec_before (row := lineB b d 1) rfl (line_ok hb k hd (by decide)) (G + 1001) hF
  have a2 := spec_before (row := lineB b d 2) rfl (line_ok hb k hd (by decide)) (G + 1001) hF
  have a3 := spec_before (row := lineB b d 3) rfl (line_ok hb k hd (by decide)) (G + 1001) hF
  have e0 : ((0 : Nat) : Int) = 0 := rfl
  have e1 : ((1 : Nat) : Int) = 1 := rfl
  have e2 : ((2 : Nat) : Int) = 2 := rfl
  have e3 : ((3 : Nat) : Int) = 3 := rfl
  rw [e0] at h0
  rw [e1] at h1
  rw [e2] at h2
  rw [e3] at h3
  simp only [k96_p, k96_c, h0, h1, h2, h3, a0, a1, a2, a3, Option.isSome_some, Option.getD_some, cond_true, rwB]
theorem impl_count (F : Nat) (hF : 1000 < F) {d : Nat} (hd : d < 4) : k26_p F b d = some (cntB b d) := by
  simp only [k26_p, k26_c, impl_lines hb ok F hF hd, impl_slides1 hb ok F hF hd, Option.isSome_some, Option.getD_some, cond_true, cntB]
  cases (slideB b d).1 == b <;> rfl
theorem spec_count (F : Nat) (hF : 1000 < F) {d : Nat} (hd : d < 4) : k95_p F b d = some (cntB b d) := by
  simp only [k95_p, k95_c, k97_p, k97_c, spec_lists hb ok F hF hd, spec_slide hb ok F hF hd, Option.isSome_some, Option.getD_some, cond_true, cntB]
  cases (slideB b d).1 == b <;> rfl
end
end Go.Lv.P
namespace Go.Lv.P
open Go Go.Lv
theorem W_tileM {x : Int} (h : inB x 0 17 = true) (h0 : x ≠ 0) : ∃ t : Nat, t ≤ 16 ∧ W x = ((2 * 2 ^ t : Nat) : Int) := by
  simp [inB] at h
  refine ⟨x.toNat - 1, by omega, ?_⟩
  have e : x.toNat = x.toNat - 1 + 1 := by omega
  unfold W
  rw [if_neg h0]
  conv => lhs; rw [e, Int.pow_succ]
  rw [Int.natCast_mul, Int.natCast_pow]; exact Int.mul_comm _ _
def mkR (r : List Int) : List Bool := (rslide2 r).2
def mgN (rows : LL) (k : Nat) : Nat := (rows.filter fun r => bget (mkR r) k).length
theorem mk_len {r : List Int} (h : r.length = 4) : (mkR r).length = 4 := rslide2_len h
theorem tr_zero : ∀ {l : List Bool}, tr l = 0 → ∀ k, bget l k = false
  | [], _, k => rfl
  | b :: l, h, 0 => by
    simp only [tr] at h
    cases b with
    | false => rfl
    | true => simp at h
  | b :: l, h, k + 1 => by
    simp only [tr] at h
    have : tr l = 0 := by cases b <;> simp at h <;> omega
    exact tr_zero (l := l) this k
theorem row_tilesM {r : List Int} (hl : r.length = 4) (h : ∀ x ∈ r, tileOK x) : fs isT (slR r) = fs isT r - ((tr (mkR r) : Nat) : Int) := by
  have key : ∀ l : List Int, (∀ m ∈ l, inB m 2 17 = true) → fs (fun m => isT m - 2 * isT (m - 1)) l = -((l.length : Nat) : Int) := by
    intro l
    induction l with
    | nil => intro _; rfl
    | cons x l ih =>
      intro h
      have hx := h x List.mem_cons_self
      simp [inB] at hx
      simp only [fs, List.length_cons]
      rw [ih fun m hm => h m (List.mem_cons_of_mem _ hm), isT, isT, if_neg (by omega), if_neg (by omega)]
      omega
  have := row_fs hl h isT rfl
  rw [key _ (rowM_ok hl h)] at this
  unfold mkR
  rw [rslide2_tr hl]
  show fs isT (rslide r).2.2.2 = _
  omega
theorem row_sumW {r : List Int} (hl : r.length = 4) (h : ∀ x ∈ r, tileOK x) : fs W (slR r) = fs W r := by
  have := row_fs hl h W rfl
  rw [fs_zero fun m hm => W_double (rowM_ok hl h m hm)] at this
  show fs W (rslide r).2.2.2 = _
  omega
section
variable {r : List Int} (hl : r.length = 4) (h : ∀ x ∈ r, tileOK x) (hs : slR r = r)
include hl h hs
theorem still_marks (k : Nat) : bget (mkR r) k = false := by
  have := row_tilesM hl h
  rw [hs] at this
  exact tr_zero (by omega) k
theorem still_in : r ∈ rbL r := by
  have := rb_all hl h
  rw [hs] at this; exact this
theorem still_shift {q : List Int} (hq : q ∈ rbL r) (hne : q ≠ r) : ∃ q' ∈ rbL r, q' ≠ r ∧ ∀ k, bget (mkR q') k = false := by
  have hfl : flushB r = true := by have := slide_flush hl h; rw [hs] at this; exact this
  obtain ⟨⟨q4, qok⟩, qs⟩ := (rb_facts hl h).2 q hq
  obtain ⟨a, b, c, d, rfl⟩ := list4 hl
  have ht := row_tilesM q4 qok
  rw [qs] at ht
  -- a full row has itself alone before it
  have hd : d = 0 := by
    refine Classical.byContradiction fun hd => ?_
    have h4 : (tl [a, b, c, d]).length = 4 ∨ d = 0 := by
      unfold flushB at hfl
      have hfl := eq_of_beq hfl
      by_cases hlen : (tl [a, b, c, d]).length = 4
      · exact .inl hlen
      · right
        have hle : (tl [a, b, c, d]).length ≤ 4 := List.length_filter_le _ _
        have hmem : d ∈ tl [a, b, c, d] ∨ d = 0 := by
          by_cases e : d = 0
          · exact .inr e
          · left
            refine List.mem_filter.2 ⟨by simp, by simp [e]⟩
        rcases hmem with hmem | e
        · rw [hfl] at hmem
          -- the tiles come first
          have : (tl [a, b, c, d]).length = (tl ([a, b, c, d].take (tl [a, b, c, d]).length)).length := by
            have e1 : tl (tl [a, b, c, d]) = tl [a, b, c, d] := by unfold tl; rw [List.filter_filter]; simp
            rw [← hfl, e1]
          have hcount : (tl [a, b, c, d]).length = ([a, b, c, d].filter fun x => !(x == 0)).length := rfl
          have hdrop : (tl ([a, b, c, d].drop (tl [a, b, c, d]).length)).length = 0 := by
            have hsp : tl [a, b, c, d] = tl ([a, b, c, d].take (tl [a, b, c, d]).length) ++ tl ([a, b, c, d].drop (tl [a, b, c, d]).length) := by
              unfold tl
              rw [← List.filter_append, List.take_append_drop]
            have := congrArg List.length hsp
            rw [List.length_append] at this
            omega
          have hdm : d ∈ [a, b, c, d].drop (tl [a, b, c, d]).length := by
            have : (tl [a, b, c, d]).length = 0 ∨ (tl [a, b, c, d]).length = 1 ∨ (tl [a, b, c, d]).length = 2 ∨ (tl [a, b, c, d]).length = 3 := by omega
            rcases this with e | e | e | e <;> rw [e] <;> simp
          refine Classical.byContradiction fun hd0 => ?_
          have hm2 : d ∈ tl ([a, b, c, d].drop (tl [a, b, c, d]).length) := List.mem_filter.2 ⟨hdm, by simp [hd0]⟩
          have := List.length_pos_of_mem hm2
          omega
        · exact e
    rcases h4 with h4 | h4
    · have hall : fs isT [a, b, c, d] = 4 := by
        have f : ∀ l : List Int, fs isT l = (((l.filter fun x => !(x == 0)).length : Nat) : Int) := by
          intro l
          induction l with
          | nil => rfl
          | cons x l ih =>
            rw [fs, ih, List.filter_cons]
            by_cases hx : x = 0
            · subst hx; simp [isT]
            · have : (x == 0) = false := beq_eq_false_iff_ne.2 hx
              simp [isT, hx, this]; omega
        rw [f]
        have : ([a, b, c, d].filter fun x => !(x == 0)).length = 4 := h4
        omega
      have hq4 : fs isT q ≤ 4 := by
        have := (fs_bound (f := isT) (m := 1) (l := q) fun x _ => by unfold isT; split <;> omega).2
        omega
      have htr : tr (mkR q) = 0 := by omega
      have hm : rowM q = [] := by
        have := rslide2_tr q4
        unfold mkR at htr
        rw [htr] at this
        exact List.length_eq_zero_iff.1 this.symm
      have hp := row_pack q4 hm
      have hp : slR q = packR q := hp
      rw [qs] at hp
      have hqf : fs isT q = 4 := by omega
      obtain ⟨x0, x1, x2, x3, rfl⟩ := list4 q4
      have n0 : x0 ≠ 0 := fun e => by subst e; have := (fs_bound (f := isT) (m := 1) (l := [x1, x2, x3]) fun x _ => by unfold isT; split <;> omega).2; simp only [fs, isT, if_true] at hqf this; simp at this; omega
      have n1 : x1 ≠ 0 := fun e => by subst e; have := (fs_bound (f := isT) (m := 1) (l := [x0, x2, x3]) fun x _ => by unfold isT; split <;> omega).2; simp only [fs, isT, if_true] at hqf this; simp at this; omega
      have n2 : x2 ≠ 0 := fun e => by subst e; have := (fs_bound (f := isT) (m := 1) (l := [x0, x1, x3]) fun x _ => by unfold isT; split <;> omega).2; simp only [fs, isT, if_true] at hqf this; simp at this; omega
      have n3 : x3 ≠ 0 := fun e => by subst e; have := (fs_bound (f := isT) (m := 1) (l := [x0, x1, x2]) fun x _ => by unfold isT; split <;> omega).2; simp only [fs, isT, if_true] at hqf this; simp at this; omega
      have e0 : (x0 == 0) = false := beq_eq_false_iff_ne.2 n0
      have e1 : (x1 == 0) = false := beq_eq_false_iff_ne.2 n1
      have e2 : (x2 == 0) = false := beq_eq_false_iff_ne.2 n2
      have e3 : (x3 == 0) = false := beq_eq_false_iff_ne.2 n3
      have hpk : packR [x0, x1, x2, x3] = [x0, x1, x2, x3] := by simp [packR, nzf, e0, e1, e2, e3]
      rw [hpk] at hp
      exact hne hp.symm
    · exact hd h4
  -- an empty row too
  have ha : a ≠ 0 := fun ha => by
    have hz : [a, b, c, d] = [0, 0, 0, 0] := by
      have hpre : tl [a, b, c, d] = [a, b, c, d].take (tl [a, b, c, d]).length := eq_of_beq hfl
      have : (tl [a, b, c, d]).length = 0 := by
        refine Classical.byContradiction fun hn => ?_
        have hm : a ∈ [a, b, c, d].take (tl [a, b, c, d]).length := by
          obtain ⟨n, hn⟩ : ∃ n, (tl [a, b, c, d]).length = n + 1 := ⟨(tl [a, b, c, d]).length - 1, by omega⟩
          rw [hn, List.take_succ_cons]; exact List.mem_cons_self
        rw [← hpre] at hm
        have := (List.mem_filter.1 hm).2
        rw [ha] at this; cases this
      have hnil : tl [a, b, c, d] = [] := List.length_eq_zero_iff.1 this
      have hz : ∀ x ∈ [a, b, c, d], x = 0 := fun x hx => by
        refine Classical.byContradiction fun hx0 => ?_
        have : x ∈ tl [a, b, c, d] := List.mem_filter.2 ⟨hx, by simp [hx0]⟩
        rw [hnil] at this; cases this
      rw [hz a (by simp), hz b (by simp), hz c (by simp), hz d (by simp)]
    have hw := row_sumW q4 qok
    rw [qs, hz] at hw
    have hq0 : ∀ x ∈ q, x = 0 := by
      have key : ∀ l : List Int, (∀ x ∈ l, tileOK x) → fs W l = 0 → ∀ x ∈ l, x = 0 := by
        intro l
        induction l with
        | nil => intro _ _ x hx; cases hx
        | cons y l ih =>
          intro hok h0 x hx
          have hy := hok y List.mem_cons_self
          have w0 := (W_facts hy).1
          have wl : 0 ≤ fs W l := (fs_bound (f := W) (m := 131072) (l := l) fun z hz => ⟨(W_facts (hok z (List.mem_cons_of_mem _ hz))).1, (W_facts (hok z (List.mem_cons_of_mem _ hz))).2.1⟩).1
          simp only [fs] at h0
          have hy0 : y = 0 := by
            refine Classical.byContradiction fun hy0 => ?_
            obtain ⟨t, t1, t2⟩ := W_tileM hy hy0
            have := Nat.two_pow_pos t
            omega
          rcases List.mem_cons.1 hx with rfl | hx
          · exact hy0
          · exact ih (fun z hz => hok z (List.mem_cons_of_mem _ hz)) (by omega) x hx
      exact key q qok (by rw [← hw]; decide)
    have : q = [a, b, c, d] := by
      obtain ⟨x0, x1, x2, x3, rfl⟩ := list4 q4
      rw [hz, hq0 x0 (by simp), hq0 x1 (by simp), hq0 x2 (by simp), hq0 x3 (by simp)]
    exact hne this
  subst hd
  have hok' : ∀ x ∈ [0, a, b, c], tileOK x := fun x hx => by
    rcases List.mem_cons.1 hx with rfl | hx
    · decide
    · exact h x (by simp only [List.mem_cons, List.not_mem_nil, or_false] at hx ⊢; rcases hx with h | h | h <;> simp [h])
  have htl : ([0, a, b, c].filter fun x => !(x == 0)) = [a, b, c, 0].filter fun x => !(x == 0) := by
    have f0 : ∀ l : List Int, (0 :: l).filter (fun x => !(x == 0)) = l.filter fun x => !(x == 0) := fun l => by rw [List.filter_cons]; rfl
    have e : [a, b, c, (0 : Int)] = [a, b, c] ++ [0] := rfl
    rw [f0, e, List.filter_append]
    simp
  have hsl : slR [0, a, b, c] = [a, b, c, 0] := by
    have : slR [0, a, b, c] = slR [a, b, c, 0] := by unfold slR rslide; rw [htl]
    rw [this, hs]
  have hmk : mkR [0, a, b, c] = mkR [a, b, c, 0] := by unfold mkR rslide2; rw [htl]
  refine ⟨[0, a, b, c], ?_, fun e => ?_, fun k => ?_⟩
  · have := rb_all (r := [0, a, b, c]) rfl hok'
    rw [hsl] at this; exact this
  · injection e with e1 _
    exact ha e1.symm
  · rw [hmk]; exact still_marks hl h hs k
end
end Go.Lv.P
