/-
The rows before a row: the reference's.
-/
import Derived.Test.YtgmnclpjbhmioaaGreatTZP0
import Derived.Test.YtgmnclpjbhmioaaGreatTZP1
import Derived.Test.YtgmnclpjbhmioaaGreatTZPRowsM
import Derived.Test.YtgmnclpjbhmioaaGreatTZPTail
namespace Go.Lv.P
open Go Go.Lv
set_option linter.unusedVariables false
set_option linter.unusedSimpArgs false
set_option linter.unusedSectionVars false

def bitI (c k : Int) : Int := IntKind.wrap .i64 (((BitVec.ofInt (IntKind.bits .i64) (Int.fdiv c (2 ^ (min (Int.toNat k) (IntKind.bits .i64)) : Int)) &&& BitVec.ofInt (IntKind.bits .i64) (1 : Int)).toNat : Nat) : Int)
theorem bit_all : ∀ c : Fin 16, ∀ k : Fin 4, (bitI ((c.val : Nat) : Int) ((k.val : Nat) : Int) == 1) = Nat.testBit c.val k.val := by decide
theorem bit_eq {c k : Nat} (hc : c < 16) (hk : k < 4) : (bitI (c : Int) (k : Int) == 1) = Nat.testBit c k := bit_all ⟨c, hc⟩ ⟨k, hk⟩
theorem has0 (F : Nat) (l : List Int) (n : Int) (hl : l.length ≤ 1000) (hF : 1000 < F) : spec_l1Has_p F l n = some (l.contains n) := by
  have h : spec_l1Has_l2 F l n 0 = some ((List.range l.length).any fun i => iget l i == n) := by
    rw [← fnd_any]
    refine loop_find (step := spec_l1Has_s2 F l n) (fun i => i) l.length _ _ _ (by omega) (by omega) (fun i hi Q kn kx => ?_) fun Q kn kx => ?_
    · simp only [spec_l1Has_s2, Int.ofNat_lt, hi, decide_true, cond_true, inR_cast, Int.toNat_natCast]
    · simp [spec_l1Has_s2]
  have e : ((List.range l.length).any fun i => iget l i == n) = l.contains n := by
    rw [Bool.eq_iff_iff, List.any_eq_true, List.contains_iff_mem]
    constructor
    · rintro ⟨i, hi, e⟩
      rw [List.mem_range] at hi
      rw [← eq_of_beq e, igetL, List.getElem?_eq_getElem hi]
      exact List.getElem_mem hi
    · intro hm
      obtain ⟨i, hi, e⟩ := List.getElem_of_mem hm
      exact ⟨i, List.mem_range.2 hi, by rw [igetL, List.getElem?_eq_getElem hi, Option.getD_some, e]; exact beq_self_eq_true n⟩
  simp only [spec_l1Has_p, spec_l1Has_c, h, Option.isSome_some, Option.getD_some, cond_true, e]
  cases l.contains n <;> rfl
theorem less4 (F : Nat) (hF : 1000 < F) {a b : List Int} (ha : a.length = 4) (hb : b.length = 4) : spec_l4Less_p F a b = some (ltL a b) := by
  have h : spec_l4Less_l2 F a b 0 = some (fnd (fun c => !(iget a (0 + c * 1) == iget b (0 + c * 1))) (fun c => (true, decide (iget a (0 + c * 1) < iget b (0 + c * 1)))) (false, default) 0 4) := by
    refine loop_find (step := spec_l4Less_s2 F a b) (fun i => i) 4 (fun c => !(iget a (0 + c * 1) == iget b (0 + c * 1))) (fun c => (true, decide (iget a (0 + c * 1) < iget b (0 + c * 1)))) (false, default) (by omega) (by omega) (fun i hi Q kn kx => ?_) fun Q kn kx => ?_
    · have hi' : (i : Int) < 4 := by omega
      simp only [spec_l4Less_s2, hi', inR_cast, hi, decide_true, cond_true, Int.toNat_natCast]
    · simp [spec_l4Less_s2]
  simp only [spec_l4Less_p, spec_l4Less_c, h, Option.isSome_some, Option.getD_some, cond_true]
  obtain ⟨a0, a1, a2, a3, rfl⟩ := list4 ha
  obtain ⟨b0, b1, b2, b3, rfl⟩ := list4 hb
  have e : fnd (fun c => !(iget [a0, a1, a2, a3] (0 + c * 1) == iget [b0, b1, b2, b3] (0 + c * 1))) (fun c => (true, decide (iget [a0, a1, a2, a3] (0 + c * 1) < iget [b0, b1, b2, b3] (0 + c * 1)))) (false, default) 0 4 =
      bif !(a0 == b0) then (true, decide (a0 < b0)) else bif !(a1 == b1) then (true, decide (a1 < b1)) else bif !(a2 == b2) then (true, decide (a2 < b2)) else bif !(a3 == b3) then (true, decide (a3 < b3)) else (false, default) := rfl
  rw [e]
  simp only [ltL]
  cases a0 == b0
  · rfl
  · cases a1 == b1
    · rfl
    · cases a2 == b2
      · rfl
      · cases a3 == b3 <;> rfl
/-- the first place that is not below -/
theorem insB_at4 (b : List Int) : ∀ l : LL, ∃ n, n ≤ l.length ∧ (∀ i, i < n → ltL (rget l i) b = true) ∧ (n < l.length → ltL (rget l n) b = false) ∧ insB b l = bif decide (n < l.length) && (rget l n == b) then l else l.take n ++ [b] ++ l.drop n
  | [] => ⟨0, Nat.le_refl _, fun i h => by omega, fun h => by simp at h, rfl⟩
  | a :: r => by
    cases h : ltL a b with
    | true =>
      obtain ⟨n, h1, h2, h3, h4⟩ := insB_at4 b r
      refine ⟨n + 1, by simp; omega, fun i hi => ?_, fun hn => ?_, ?_⟩
      · cases i with
        | zero => exact h
        | succ i => exact h2 i (by omega)
      · exact h3 (by simpa using hn)
      · have e1 : rget (a :: r) (n + 1) = rget r n := rfl
        have e2 : decide (n + 1 < (a :: r).length) = decide (n < r.length) := by simp
        rw [e1, e2]
        simp only [insB, h, cond_true, h4]
        cases decide (n < r.length) && (rget r n == b) <;> simp
    | false =>
      refine ⟨0, Nat.zero_le _, fun i hi => by omega, fun _ => h, ?_⟩
      have e1 : rget (a :: r) 0 = a := rfl
      rw [e1]
      simp only [insB, h, cond_false]
      cases a == b <;> simp
theorem fnd_at4 {X : Type} (p : Nat → Bool) (f : Nat → X) (e : X) : ∀ (m i n : Nat), (∀ j, i ≤ j → j < i + n → p j = false) → n ≤ m → (n < m → p (i + n) = true) → fnd p f e i m = bif decide (n < m) then f (i + n) else e
  | 0, i, n, _, h, _ => by
    have : n = 0 := by omega
    subst this; rfl
  | m + 1, i, 0, _, _, h => by
    have := h (by omega)
    simp only [Nat.add_zero] at this
    simp only [fnd, this, cond_true, Nat.add_zero]
    rw [decide_eq_true (by omega)]; rfl
  | m + 1, i, n + 1, h1, h2, h3 => by
    have h0 := h1 i (Nat.le_refl _) (by omega)
    simp only [fnd, h0, cond_false]
    rw [fnd_at4 p f e m (i + 1) n (fun j hj hj2 => h1 j (by omega) (by omega)) (by omega) (fun hh => by rw [show i + 1 + n = i + (n + 1) by omega]; exact h3 (by omega))]
    rw [show i + 1 + n = i + (n + 1) by omega]
    have : decide (n < m) = decide (n + 1 < m + 1) := by simp
    rw [this]
theorem put4 (F : Nat) {l : LL} {b : List Int} (hF : 1000 < F) (hb : b.length = 4) (h4 : ∀ x ∈ l, x.length = 4) (hl : l.length ≤ 900) : spec_l4Put_p F l b = some (insB b l) := by
  obtain ⟨n, h1, h2, h3, h5⟩ := insB_at4 b l
  have hmem : ∀ i, i < l.length → (rget l i).length = 4 := fun i hi => h4 _ (by rw [rgetL, List.getElem?_eq_getElem hi]; exact List.getElem_mem hi)
  have hloop : spec_l4Place_l2 F l b 0 = some ((n : Nat) : Int) := by
    have h := loop_find (step := spec_l4Place_s2 F l b) (fun i => i) l.length (fun i => !(ltL (rget l i) b)) (fun i => (i : Int)) ((l.length : Nat) : Int) (F := F) (by omega) (by omega) (fun i hi Q kn kx => by
      simp only [spec_l4Place_s2, Int.ofNat_lt, inR_cast, hi, Int.toNat_natCast, decide_true, cond_true, less4 F hF (hmem i hi) hb, Option.isSome_some, Option.getD_some]
      cases ltL (rget l i) b <;> rfl) (fun Q kn kx => by simp [spec_l4Place_s2])
    rw [fnd_at4 _ _ _ l.length 0 n (fun j _ hj => by rw [h2 j (by omega)]; rfl) h1 (fun hn => by rw [Nat.zero_add, h3 hn]; rfl), Nat.zero_add] at h
    have h : spec_l4Place_l2 F l b 0 = _ := h
    rw [h]
    cases hd : decide (n < l.length) with
    | true => rfl
    | false =>
      have := of_decide_eq_false hd
      have : n = l.length := by omega
      rw [this]; rfl
  have hpl : spec_l4Place_p F l b = some ((n : Nat) : Int) := by
    simp only [spec_l4Place_p, spec_l4Place_c, hloop, Option.isSome_some, Option.getD_some, cond_true]
  have f : ∀ m : Nat, m ≤ 1000 → fits m 32 = true := fun m h => fits_of (by omega) (by omega)
  have e1 : subn l.length l 0 n = l.take n := subn_take0 l n
  have e2 : subn l.length l n (l.length - n) = l.drop n := by
    rw [subn_eqL _ _ _ _ rfl, sub, List.take_of_length_le (by simp)]
  have t1 : (l.take n).length ≤ 1000 := by simp; omega
  have t2 : (l.take n ++ [b]).length ≤ 1000 := by simp; omega
  have t3 : (l.take n ++ [b] ++ l.drop n).length ≤ 1000 := by simp; omega
  simp only [spec_l4Put_p, spec_l4Put_c, hpl, Option.isSome_some, Option.getD_some, cond_true, Int.toNat_natCast, Int.ofNat_lt, inR_cast, inLe_cast, h1, Nat.sub_zero, e1, e2, subn_self, decide_true, f _ t1, f _ t2, f _ t3]
  rw [h5]
  cases hd : decide (n < l.length) with
  | true =>
    cases rget l n == b <;> rfl
  | false => rfl

/-- one code's row -/
theorem spread_in (F : Nat) (hF : 1000 < F) (tiles : List Int) (o : Nat) (out : LL) {c : Nat} (hc : c < 16) (ht : tiles.length ≤ 100) : spec_l4Spread_l7 F tiles o c out 0 0 [0, 0, 0, 0] = some (((sp1 tiles c).1 : Int), (sp1 tiles c).2) := by
  refine (loop_fold (step := spec_l4Spread_s7 F tiles o c out) (fun i (s : Nat × List Int) => ((s.1 : Int), i, s.2)) 4 (spK tiles c) (fun s => ((s.1 : Int), s.2)) (fun i s => s.1 ≤ i) (F := F) (by omega) (by omega) (a := (0, [0, 0, 0, 0])) (Nat.le_refl 0)
    (fun i s hi hI => by
      have hI : s.1 ≤ i := hI
      have hw : IntKind.wrap .i64 ((s.1 : Int) + 1) = ((s.1 + 1 : Nat) : Int) := wrap_succ (n := 100) (by omega) (by omega)
      refine ⟨?_, fun Q kn kx => ?_⟩
      · unfold spK
        cases Nat.testBit c i
        · show s.1 ≤ i + 1; omega
        · show s.1 + 1 ≤ i + 1; omega
      · have hi' : (i : Int) < 4 := by omega
        have hn0 : ¬ (i : Int) < 0 := by omega
        have hb := bit_eq hc hi
        unfold bitI at hb
        simp only [Int.toNat_natCast] at hb
        simp only [spec_l4Spread_s7, hi', hn0, decide_true, decide_false, cond_true, cond_false, hb, hw, Int.ofNat_lt, inR_cast, hi, Int.toNat_natCast, spK, Nat.zero_add, Nat.mul_one]
        cases Nat.testBit c i
        · rfl
        · simp only [cond_true]
          cases hd : decide (s.1 < tiles.length) <;> rfl)
    (fun s _ Q kn kx => by simp [spec_l4Spread_s7])).1
theorem fld_range {A : Type} (g : Nat → A → A) : ∀ (m i : Nat) (a : A), fld g i m a = (List.range' i m).foldl (fun a i => g i a) a
  | 0, i, a => rfl
  | m + 1, i, a => by rw [fld, fld_range g m (i + 1), List.range'_succ, List.foldl_cons]
theorem spread_eq (F : Nat) (hF : 1000 < F) (tiles : List Int) (ht : tiles.length ≤ 100) : spec_l4Spread_p F tiles = some ((spread tiles).length, spread tiles) := by
  have h := loop_fold (step := spec_l4Spread_s3 F tiles) (fun i (s : LL) => (s.length, i, s)) 16 (fun c s => bif (sp1 tiles c).1 == tiles.length then s ++ [(sp1 tiles c).2] else s) (fun s => (s.length, s)) (fun i s => s.length ≤ i) (F := F) (by omega) (by omega) (a := []) (Nat.le_refl 0)
    (fun c s hc hI => by
      have hI : s.length ≤ c := hI
      refine ⟨?_, fun Q kn kx => ?_⟩
      · show (bif (sp1 tiles c).1 == tiles.length then s ++ [(sp1 tiles c).2] else s).length ≤ c + 1
        cases (sp1 tiles c).1 == tiles.length
        · simp only [cond_false]; omega
        · simp only [cond_true, List.length_append, List.length_singleton]; omega
      · have hc' : (c : Int) < 16 := by omega
        have hf : fits (s ++ [(sp1 tiles c).2]).length 32 = true := fits_of (by simp; omega) (by simp; omega)
        have he : ((((sp1 tiles c).1 : Nat) : Int) == ((tiles.length : Nat) : Int)) = ((sp1 tiles c).1 == tiles.length) := by
          rw [Bool.eq_iff_iff, beq_iff_eq, beq_iff_eq]; omega
        simp only [spec_l4Spread_s3, hc', decide_true, cond_true, spread_in F hF tiles s.length s hc ht, Option.isSome_some, Option.getD_some, subn_self, he, hf]
        cases (sp1 tiles c).1 == tiles.length <;> rfl)
    (fun s _ Q kn kx => by simp [spec_l4Spread_s3])
  have h1 := h.1
  have e : fld (fun c s => bif (sp1 tiles c).1 == tiles.length then s ++ [(sp1 tiles c).2] else s) 0 16 [] = spread tiles := by
    rw [fld_range, ← List.range_eq_range']
    unfold spread
    have : ∀ (cs : List Nat) (s : LL), cs.foldl (fun s c => bif (sp1 tiles c).1 == tiles.length then s ++ [(sp1 tiles c).2] else s) s = s ++ (cs.filter fun c => (sp1 tiles c).1 == tiles.length).map fun c => (sp1 tiles c).2 := by
      intro cs
      induction cs with
      | nil => intro s; simp
      | cons c r ih =>
        intro s
        rw [List.foldl_cons, ih, List.filter_cons]
        cases (sp1 tiles c).1 == tiles.length <;> simp
    rw [this, List.nil_append]
  rw [e] at h1
  have h1 : spec_l4Spread_l3 F tiles 0 0 [] = some ((spread tiles).length, spread tiles) := h1
  simp only [spec_l4Spread_p, spec_l4Spread_c, h1, Option.isSome_some, Option.getD_some, cond_true]

/-- one code's tiles -/
theorem code_in (F : Nat) (out : LL) {c : Nat} (hc : c < 16) {row : List Int} (hl : row.length = 4) (h : ∀ x ∈ row, tileOK x) : ∀ (m k G : Nat) (tiles : List Int), k + m = 4 → m < G → tiles.length ≤ 2 * k →
    loopC (spec_l4Before_s7 F out c row) G ((k : Int), tiles) some = some (tiles ++ tk (c / 2 ^ k) (row.drop k))
  | 0, k, G, tiles, hk, hG, ht => by
    obtain ⟨G, rfl⟩ : ∃ G', G = G' + 1 := ⟨G - 1, by omega⟩
    have : ¬ (k : Int) < 4 := by omega
    rw [List.drop_eq_nil_of_le (by omega)]
    simp only [loopC, spec_l4Before_s7, this, decide_false, cond_false, tk, List.append_nil]
  | m + 1, k, G, tiles, hk, hG, ht => by
    obtain ⟨G, rfl⟩ : ∃ G', G = G' + 1 := ⟨G - 1, by omega⟩
    have hk4 : k < 4 := by omega
    have hk' : (k : Int) < 4 := by omega
    have hn0 : ¬ (k : Int) < 0 := by omega
    have hb := bit_eq hc hk4
    unfold bitI at hb
    simp only [Int.toNat_natCast] at hb
    have hkl : k < row.length := by omega
    have hg : iget row (0 + k * 1) = row[k] := by rw [Nat.zero_add, Nat.mul_one, igetL, List.getElem?_eq_getElem hkl]; rfl
    have hx := h row[k] (List.getElem_mem hkl)
    simp only [tileOK, inB, Bool.and_eq_true, decide_eq_true_eq] at hx
    have hw : IntKind.wrap .i64 (row[k] - 1) = row[k] - 1 := wrap_of (by omega) (by omega)
    have hbt : Nat.testBit (c / 2 ^ k) 0 = Nat.testBit c k := by rw [Nat.testBit_div_two_pow, Nat.zero_add]
    have hdiv : c / 2 ^ k / 2 = c / 2 ^ (k + 1) := by rw [Nat.div_div_eq_div_mul, Nat.pow_succ]
    rw [List.drop_eq_getElem_cons hkl]
    simp only [loopC, spec_l4Before_s7, hk', hn0, decide_true, decide_false, cond_true, cond_false, inR_cast, hk4, Int.toNat_natCast, hg, hb, hw, subn_self, tk, hbt, hdiv]
    cases h0 : decide (0 < row[k]) with
    | false => simp
    | true =>
      simp only [cond_true]
      rw [wrap_succ (n := 4) hk4 (by omega)]
      cases Nat.testBit c k with
      | false =>
        have hf : fits (tiles ++ [row[k]]).length 8 = true := fits_of (by simp; omega) (by simp; omega)
        simp only [cond_false, hf, cond_true]
        rw [code_in F out hc hl h m (k + 1) G (tiles ++ [row[k]]) (by omega) (by omega) (by simp; omega), List.append_assoc]
      | true =>
        have hf : fits (tiles ++ [row[k] - 1, row[k] - 1]).length 8 = true := fits_of (by simp; omega) (by simp; omega)
        simp only [cond_true, hf]
        rw [code_in F out hc hl h m (k + 1) G (tiles ++ [row[k] - 1, row[k] - 1]) (by omega) (by omega) (by simp; omega), List.append_assoc]
theorem tk_len : ∀ (r : List Int) (c : Nat), (tk c r).length ≤ 2 * r.length
  | [], c => by simp [tk]
  | x :: r, c => by
    have := tk_len r (c / 2)
    simp only [tk, List.length_cons]
    cases decide (0 < x)
    · simp
    · cases Nat.testBit c 0 <;> simp <;> omega
/-- what one code adds -/
def gC (row : List Int) (c : Nat) (out : LL) : LL := bif decide (4 < (tk c row).length) then out else bif (tk c row).contains 0 then out else ((spread (tk c row)).filter fun r => slR r == row).foldl (fun s x => insB x s) out
theorem gC_all (row : List Int) : ∀ (cs : List Nat) (out : LL), cs.foldl (fun o c => gC row c o) out = (hitsOf row ((cs.map fun c => tk c row).filter fun l => !(decide (4 < l.length)) && !(l.contains 0))).foldl (fun s x => insB x s) out
  | [], out => rfl
  | c :: cs, out => by
    rw [List.foldl_cons, gC_all row cs, List.map_cons, List.filter_cons]
    unfold gC
    cases decide (4 < (tk c row).length)
    · cases (tk c row).contains 0
      · simp only [cond_false, Bool.not_false, Bool.and_self, if_true, hitsOf, List.flatMap_cons, List.foldl_append]
      · rfl
    · rfl
section
variable {row : List Int} (hl : row.length = 4) (h : ∀ x ∈ row, tileOK x)
include hl h
theorem tk_nz {c : Nat} (hz : (tk c row).contains 0 = false) : ∀ x ∈ tk c row, 0 < x ∧ x ≤ 17 := fun x hx =>
  ex_nz _ (pre_nz hl h) _ (tk_ex row c fun y hy hy0 => by
    subst hy0
    rw [List.contains_iff_mem.2 hy] at hz; cases hz) x hx
theorem hits_in (F : Nat) (hF : 1000 < F) (c : Nat) {T : List Int} (hT : ∀ x ∈ T, 0 < x ∧ x ≤ 17) (out : LL) (ho : out.length ≤ 500) (h4 : ∀ x ∈ out, x.length = 4) :
    spec_l4Before_l15 F c (spread T).length row (spread T) out 0 = some (((spread T).filter fun r => slR r == row).foldl (fun s x => insB x s) out) := by
  have hs := spread_ok hT
  have hsl := spread_len T
  have hh := loop_fold (step := spec_l4Before_s15 F c (spread T).length row (spread T)) (fun i (s : LL) => (s, i)) (spread T).length (fun i s => bif slR (rget (spread T) i) == row then insB (rget (spread T) i) s else s) (fun s => s) (fun i s => s.length ≤ 500 + i ∧ ∀ x ∈ s, x.length = 4) (F := F) (by omega) (by omega) (a := out) ⟨by omega, h4⟩
    (fun i s hi hI => by
      have hm : rget (spread T) i ∈ spread T := by rw [rgetL, List.getElem?_eq_getElem hi]; exact List.getElem_mem hi
      obtain ⟨r1, r2⟩ := hs _ hm
      have hsr := spec_row F (rget (spread T) i) r1 r2 hF
      have e : (rslide (rget (spread T) i)).2.2.2 = slR (rget (spread T) i) := rfl
      refine ⟨?_, fun Q kn kx => ?_⟩
      · cases slR (rget (spread T) i) == row with
        | false => exact ⟨by simp only [cond_false]; omega, by simpa using hI.2⟩
        | true =>
          have hlen : (insB (rget (spread T) i) s).length ≤ s.length + 1 := by
            have := ins_len [rget (spread T) i] s
            simpa using this
          refine ⟨by simp only [cond_true]; omega, fun x hx => ?_⟩
          simp only [cond_true] at hx
          rcases insB_mem.1 hx with rfl | hx
          · exact r1
          · exact hI.2 x hx
      · simp only [spec_l4Before_s15, Int.ofNat_lt, hi, decide_true, cond_true, inR_cast, Int.toNat_natCast, Nat.zero_add, hsr, e, Option.isSome_some, Option.getD_some, put4 F hF r1 hI.2 (show s.length ≤ 900 by omega)]
        cases slR (rget (spread T) i) == row <;> rfl)
    (fun s _ Q kn kx => by simp [spec_l4Before_s15])
  have h1 := hh.1
  have e : fld (fun i s => bif slR (rget (spread T) i) == row then insB (rget (spread T) i) s else s) 0 (spread T).length out = ((spread T).filter fun r => slR r == row).foldl (fun s x => insB x s) out := by
    have : ∀ (l : LL) (m i : Nat) (s : LL), i + m = l.length → fld (fun i s => bif slR (rget l i) == row then insB (rget l i) s else s) i m s = ((l.drop i).filter fun r => slR r == row).foldl (fun s x => insB x s) s := by
      intro l m
      induction m with
      | zero => intro i s hi; rw [List.drop_eq_nil_of_le (by omega)]; rfl
      | succ m ih =>
        intro i s hi
        have hil : i < l.length := by omega
        have hg : rget l i = l[i] := by rw [rgetL, List.getElem?_eq_getElem hil]; rfl
        rw [fld, ih (i + 1) _ (by omega), List.drop_eq_getElem_cons hil, List.filter_cons, hg]
        cases slR l[i] == row <;> rfl
    have := this (spread T) (spread T).length 0 out (by omega)
    rwa [List.drop_zero] at this
  rw [e] at h1
  exact h1
theorem spec_before (F : Nat) (hF : 1000 < F) : spec_l4Before_p F row = some (rbL row) := by
  have hh := loop_fold (step := spec_l4Before_s3 F row) (fun c (s : LL) => (s, c)) 16 (gC row) (fun s => s) (fun c s => s.length ≤ 16 * c ∧ ∀ x ∈ s, x.length = 4) (F := F) (by omega) (by omega) (a := []) ⟨by simp, fun x hx => (by cases hx)⟩
    (fun c s hc hI => by
      have hcode := code_in F s hc hl h 4 0 F [] (by omega) (by omega) (by simp)
      rw [Nat.pow_zero, Nat.div_one, List.drop_zero, List.nil_append] at hcode
      have hcode : spec_l4Before_l7 F s c row 0 [] = some (tk c row) := hcode
      have htl := tk_len row c
      have hc' : (c : Int) < 16 := by omega
      have hlong : decide ((4 : Int) < (((tk c row).length : Nat) : Int)) = decide (4 < (tk c row).length) := by
        by_cases h4 : 4 < (tk c row).length
        · rw [decide_eq_true h4, decide_eq_true (by omega)]
        · rw [decide_eq_false h4, decide_eq_false (by omega)]
      have hhas := has0 F (tk c row) 0 (by omega) hF
      have hsp := spread_eq F hF (tk c row) (by omega)
      refine ⟨?_, fun Q kn kx => ?_⟩
      · unfold gC
        cases decide (4 < (tk c row).length)
        · cases hz : (tk c row).contains 0
          · simp only [cond_false]
            have h1 := ins_len ((spread (tk c row)).filter fun r => slR r == row) s
            have h2 := spread_len (tk c row)
            have h3 := List.length_filter_le (fun r => slR r == row) (spread (tk c row))
            refine ⟨by omega, ?_⟩
            have hs := spread_ok (tk_nz hl h hz)
            have : ∀ (l s : LL), (∀ x ∈ l, x.length = 4) → (∀ x ∈ s, x.length = 4) → ∀ x ∈ l.foldl (fun s x => insB x s) s, x.length = 4 := by
              intro l
              induction l with
              | nil => intro s _ hs; exact hs
              | cons a r ih =>
                intro s hl2 hs2
                refine ih _ (fun x hx => hl2 x (List.mem_cons_of_mem _ hx)) fun x hx => ?_
                rcases insB_mem.1 hx with rfl | hx
                · exact hl2 _ List.mem_cons_self
                · exact hs2 x hx
            exact this _ _ (fun x hx => (hs x (List.mem_filter.1 hx).1).1) hI.2
          · exact ⟨by simp only [cond_true, cond_false]; omega, by simpa using hI.2⟩
        · exact ⟨by simp only [cond_true]; omega, by simpa using hI.2⟩
      · simp only [spec_l4Before_s3, hc', decide_true, cond_true, hcode, Option.isSome_some, Option.getD_some, hlong, subn_self, hhas, hsp, gC]
        cases decide (4 < (tk c row).length)
        · cases hz : (tk c row).contains 0
          · simp only [cond_false, hits_in hl h F hF c (tk_nz hl h hz) s (by omega) hI.2, Option.isSome_some, Option.getD_some, cond_true]
          · rfl
        · rfl)
    (fun s _ Q kn kx => by simp [spec_l4Before_s3])
  have h1 := hh.1
  rw [fld_range, ← List.range_eq_range', gC_all row (List.range 16) []] at h1
  have h1 : spec_l4Before_l3 F row [] 0 = some (rbL row) := h1
  simp only [spec_l4Before_p, spec_l4Before_c, h1, Option.isSome_some, Option.getD_some, cond_true]
end
end Go.Lv.P
