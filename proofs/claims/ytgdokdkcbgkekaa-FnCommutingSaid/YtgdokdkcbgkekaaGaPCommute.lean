/-
Do two slides commute; the pairs that do.
-/
import Derived.Test.YtgdokdkcbgkekaaGaP1
import Derived.Test.YtgdokdkcbgkekaaGaP2
import Derived.Test.YtgdokdkcbgkekaaGaP3
import Derived.Test.YtgdokdkcbgkekaaGaPSlides1
import Derived.Test.YtgdokdkcbgkekaaGaPBoard
import Derived.Test.YtgdokdkcbgkekaaGaPDelete
import Derived.Test.YtgdokdkcbgkekaaGaPTail
namespace Go.Lv.P
open Go Go.Lv
set_option linter.unusedVariables false
set_option linter.unusedSimpArgs false
set_option linter.unusedSectionVars false

def commV (b : List Int) (d e : Nat) : Bool := (slideB (slideB b d).1 e).1 == (slideB (slideB b e).1 d).1
theorem comm_symm (b : List Int) (d e : Nat) : commV b d e = commV b e d := by
  unfold commV
  rw [Bool.eq_iff_iff, beq_iff_eq, beq_iff_eq]; exact eq_comm
def pairsV (c : Nat → Nat → Bool) : LL := fld (fun d out => fld (fun e (out : LL) => bif c d e then out ++ [[(d : Int), (e : Int)]] else out) (d + 1) (3 - d) out) 0 4 []
theorem fld_keep {A : Type} (f : Nat → A → A) (P : A → Prop) : ∀ (m i : Nat) (a : A), (∀ j a, i ≤ j → j < i + m → P a → P (f j a)) → P a → P (fld f i m a)
  | 0, _, _, _, h => h
  | m + 1, i, a, hs, h => by
    rw [fld]
    exact fld_keep f P m (i + 1) _ (fun j a h1 h2 => hs j a (by omega) (by omega)) (hs i a (Nat.le_refl _) (by omega) h)
theorem pairs_mem (c : Nat → Nat → Bool) : ∀ x ∈ pairsV c, ∃ d e : Nat, d < e ∧ e < 4 ∧ c d e = true ∧ x = [(d : Int), (e : Int)] := by
  unfold pairsV
  refine fld_keep _ (fun out : LL => ∀ x ∈ out, ∃ d e : Nat, d < e ∧ e < 4 ∧ c d e = true ∧ x = [(d : Int), (e : Int)]) 4 0 [] (fun d out _ hd h => ?_) (fun x hx => by cases hx)
  refine fld_keep _ (fun out : LL => ∀ x ∈ out, ∃ d e : Nat, d < e ∧ e < 4 ∧ c d e = true ∧ x = [(d : Int), (e : Int)]) (3 - d) (d + 1) out (fun e out he1 he2 h => ?_) h
  intro x hx
  cases hc : c d e with
  | false => rw [hc] at hx; exact h x hx
  | true =>
    rw [hc, cond_true, List.mem_append, List.mem_singleton] at hx
    rcases hx with hx | rfl
    · exact h x hx
    · exact ⟨d, e, by omega, by omega, hc, rfl⟩
theorem pairs_len (c : Nat → Nat → Bool) : (pairsV c).length = (c 0 1).toNat + (c 0 2).toNat + (c 0 3).toNat + (c 1 2).toNat + (c 1 3).toNat + (c 2 3).toNat := by
  simp only [pairsV, fld, Nat.zero_add, Nat.reduceAdd, Nat.reduceSub]
  cases c 0 1 <;> cases c 0 2 <;> cases c 0 3 <;> cases c 1 2 <;> cases c 1 3 <;> cases c 2 3 <;> rfl
theorem pairs_le (c : Nat → Nat → Bool) : (pairsV c).length ≤ 6 := by
  rw [pairs_len]
  have h : ∀ b : Bool, b.toNat ≤ 1 := fun b => by cases b <;> decide
  have := h (c 0 1); have := h (c 0 2); have := h (c 0 3); have := h (c 1 2); have := h (c 1 3); have := h (c 2 3)
  omega
section
variable {b : List Int} (hb : b.length = 16) (ok : okB b = true) (F : Nat) (hF : 1000 < F)
include hb ok hF
theorem impl_slides2 {d e : Nat} (hd : d < 4) (he : e < 4) : impl_Board_slides_p F b [(d : Int), (e : Int)] = some (slideB (slideB b d).1 e).1 := by
  obtain ⟨m, hm⟩ := impl_slide hb ok F hF hd
  obtain ⟨l, o⟩ := slide_ok hb ok hd
  obtain ⟨m2, hm2⟩ := impl_slide l o F hF he
  obtain ⟨G, rfl⟩ : ∃ G, F = G + 3 := ⟨F - 3, by omega⟩
  have g0 : iget [(d : Int), (e : Int)] (Int.toNat 0) = d := rfl
  have g1 : iget [(d : Int), (e : Int)] (Int.toNat 1) = e := rfl
  have w0 : IntKind.wrap .i64 ((0 : Int) + 1) = 1 := by decide
  have w1 : IntKind.wrap .i64 ((1 : Int) + 1) = 2 := by decide
  have i0 : inR 0 2 = true := by decide
  have i1 : inR 1 2 = true := by decide
  have d0 : decide ((0 : Int) < 2) = true := by decide
  have d1 : decide ((1 : Int) < 2) = true := by decide
  have d2 : decide ((2 : Int) < 2) = false := by decide
  have h : impl_Board_slides_l2 (G + 3) [(d : Int), (e : Int)] 2 0 b = some (slideB (slideB b d).1 e).1 := by
    have hl : [(d : Int), (e : Int)].length = 2 := rfl
    simp only [impl_Board_slides_l2, loopC, impl_Board_slides_s2, hl, g0, g1, w0, w1, i0, i1, d0, d1, d2, hm, hm2, Option.isSome_some, Option.getD_some, cond_true, cond_false]
  have e' : (([(d : Int), (e : Int)].length : Nat) : Int) = 2 := rfl
  simp only [impl_Board_slides_p, impl_Board_slides_c, e', h, Option.isSome_some, Option.getD_some, cond_true]
theorem spec_comm {d e : Nat} (hd : d < 4) (he : e < 4) : spec_l3Commute_p F b d e = some (commV b d e) := by
  obtain ⟨l, o⟩ := slide_ok hb ok hd
  obtain ⟨l2, o2⟩ := slide_ok hb ok he
  simp only [spec_l3Commute_p, spec_l3Commute_c, spec_slide hb ok F hF hd, spec_slide hb ok F hF he, spec_slide l o F hF he, spec_slide l2 o2 F hF hd, Option.isSome_some, Option.getD_some, cond_true, commV]
theorem spec_pairs_in {d : Nat} (hd : d < 4) {out : LL} (ho : out.length ≤ 100) : spec_CommutingPairs_l8 F d b ((d + 1 : Nat) : Int) out = some (fld (fun e (out : LL) => bif commV b d e then out ++ [[(d : Int), (e : Int)]] else out) (d + 1) (3 - d) out) := by
  have h := loop_fold_gen (step := spec_CommutingPairs_s8 F d b) (mk := fun i (s : LL) => (i, s)) (n := 4) (g := fun e (out : LL) => bif commV b d e then out ++ [[(d : Int), (e : Int)]] else out) (e := fun s => s) (I := fun i s => s.length ≤ 100 + i) (by omega)
    (fun i s hi hI => ⟨by cases commV b d i <;> simp <;> omega, fun Q kn kx => by
      have hi' : (i : Int) < 4 := by omega
      have hf : fits (s ++ [[(d : Int), (i : Int)]]).length 16 = true := fits_of (by simp; omega) (by simp; omega)
      simp only [spec_CommutingPairs_s8, hi', decide_true, cond_true, spec_comm hb ok F hF hd hi, Option.isSome_some, Option.getD_some, subn_self, hf]
      cases commV b d i <;> rfl⟩)
    (fun s _ Q kn kx => by simp [spec_CommutingPairs_s8]) (3 - d) (d + 1) F out (by omega) (by omega) (by omega)
  exact h.2 some
theorem impl_pairs_in {d : Nat} (t : Int) (hd : d < 4) {out : LL} (ho : out.length ≤ 100) : impl_CommutingPairs_l8 F d t b ((d + 1 : Nat) : Int) out = some (fld (fun e (out : LL) => bif commV b d e then out ++ [[(d : Int), (e : Int)]] else out) (d + 1) (3 - d) out) := by
  have h := loop_fold_gen (step := impl_CommutingPairs_s8 F d t b) (mk := fun i (s : LL) => (i, s)) (n := 4) (g := fun e (out : LL) => bif commV b d e then out ++ [[(d : Int), (e : Int)]] else out) (e := fun s => s) (I := fun i s => s.length ≤ 100 + i) (by omega)
    (fun i s hi hI => ⟨by cases commV b d i <;> simp <;> omega, fun Q kn kx => by
      have hi' : (i : Int) < 4 := by omega
      have hf : fits (s ++ [[(d : Int), (i : Int)]]).length 16 = true := fits_of (by simp; omega) (by simp; omega)
      have hc : ((slideB (slideB b d).1 i).1 == (slideB (slideB b i).1 d).1) = commV b d i := rfl
      simp only [impl_CommutingPairs_s8, hi', decide_true, cond_true, impl_slides2 hb ok F hF hd hi, impl_slides2 hb ok F hF hi hd, hc, Option.isSome_some, Option.getD_some, subn_self, hf]
      cases commV b d i <;> rfl⟩)
    (fun s _ Q kn kx => by simp [impl_CommutingPairs_s8]) (3 - d) (d + 1) F out (by omega) (by omega) (by omega)
  exact h.2 some
theorem in_len {d : Nat} (hd : d < 4) (out : LL) : (fld (fun e (out : LL) => bif commV b d e then out ++ [[(d : Int), (e : Int)]] else out) (d + 1) (3 - d) out).length ≤ out.length + 3 := by
  have : ∀ (m i : Nat) (out : LL), (fld (fun e (out : LL) => bif commV b d e then out ++ [[(d : Int), (e : Int)]] else out) i m out).length ≤ out.length + m := by
    intro m
    induction m with
    | zero => intro i out; exact Nat.le_refl _
    | succ m ih =>
      intro i out
      rw [fld]
      have h1 := ih (i + 1) (bif commV b d i then out ++ [[(d : Int), (i : Int)]] else out)
      have h2 : (bif commV b d i then out ++ [[(d : Int), (i : Int)]] else out).length ≤ out.length + 1 := by cases commV b d i <;> simp
      omega
  have := this (3 - d) (d + 1) out
  omega
theorem spec_pairs : spec_CommutingPairs_p F b = some (true, pairsV (commV b)) := by
  have h := loop_fold (step := spec_CommutingPairs_s5 F b) (fun i (s : LL) => (i, s)) 4 (fun d out => fld (fun e (out : LL) => bif commV b d e then out ++ [[(d : Int), (e : Int)]] else out) (d + 1) (3 - d) out) (fun s => s) (fun i s => s.length ≤ 3 * i) (F := F) (by omega) (by omega) (a := []) (by simp)
    (fun i s hi hI => ⟨by have := in_len hb ok F hF hi s; have hI : s.length ≤ 3 * i := hI; show _ ≤ 3 * (i + 1); omega, fun Q kn kx => by
      have hI : s.length ≤ 3 * i := hI
      have hi' : (i : Int) < 4 := by omega
      have hw : IntKind.wrap .i64 ((i : Int) + 1) = ((i + 1 : Nat) : Int) := by rw [wrap_of (by omega) (by omega)]; omega
      simp only [spec_CommutingPairs_s5, hi', decide_true, cond_true, hw, spec_pairs_in hb ok F hF hi (show s.length ≤ 100 by omega), beq_selfL, Bool.true_and, Option.isSome_some, Option.getD_some]⟩)
    (fun s _ Q kn kx => by simp [spec_CommutingPairs_s5])
  have h1 : spec_CommutingPairs_l5 F b 0 [] = some (pairsV (commV b)) := h.1
  simp only [spec_CommutingPairs_p, spec_CommutingPairs_c, spec_l2Board_eq F b hb hF, ok, h1, Option.isSome_some, Option.getD_some, cond_true, cond_false, Bool.not_true]
theorem impl_pairs : impl_CommutingPairs_p F b = some (true, pairsV (commV b)) := by
  have h := loop_fold (step := impl_CommutingPairs_s5 F b) (fun i (s : LL) => (i, s)) 4 (fun d out => fld (fun e (out : LL) => bif commV b d e then out ++ [[(d : Int), (e : Int)]] else out) (d + 1) (3 - d) out) (fun s => s) (fun i s => s.length ≤ 3 * i) (F := F) (by omega) (by omega) (a := []) (by simp)
    (fun i s hi hI => ⟨by have := in_len hb ok F hF hi s; have hI : s.length ≤ 3 * i := hI; show _ ≤ 3 * (i + 1); omega, fun Q kn kx => by
      have hI : s.length ≤ 3 * i := hI
      have hi' : (i : Int) < 4 := by omega
      have hw : IntKind.wrap .i64 ((i : Int) + 1) = ((i + 1 : Nat) : Int) := by rw [wrap_of (by omega) (by omega)]; omega
      simp only [impl_CommutingPairs_s5, hi', decide_true, cond_true, hw, impl_pairs_in hb ok F hF (i : Int) hi (show s.length ≤ 100 by omega), beq_selfL, Bool.true_and, Option.isSome_some, Option.getD_some]⟩)
    (fun s _ Q kn kx => by simp [impl_CommutingPairs_s5])
  have h1 : impl_CommutingPairs_l5 F b 0 [] = some (pairsV (commV b)) := h.1
  simp only [impl_CommutingPairs_p, impl_CommutingPairs_c, impl_IsBoard_eq F b hb hF, ok, h1, Option.isSome_some, Option.getD_some, cond_true, cond_false, Bool.not_true]
end
def doV (b : List Int) (d e : Int) : Bool × Bool := bif okB b && inB d 0 3 && inB e 0 3 then (commV b d.toNat e.toNat, true) else (false, false)
theorem do_val (F : Nat) (b : List Int) (hb : b.length = 16) (d e : Int) (hF : 1000 < F) : spec_DoCommute_p F b d e = some (doV b d e) ∧ impl_DoCommute_p F b d e = some (doV b d e) := by
  unfold doV
  simp only [spec_DoCommute_p, spec_DoCommute_c, impl_DoCommute_p, impl_DoCommute_c, spec_l2Board_eq F b hb hF, impl_IsBoard_eq F b hb hF, Option.isSome_some, Option.getD_some, cond_true, spec_l2Side_v, impl_isDirection_v, l1In_eq, in_eq]
  cases hB : okB b with
  | false => exact ⟨rfl, rfl⟩
  | true =>
    cases hd : inB d 0 3 with
    | false => exact ⟨rfl, rfl⟩
    | true =>
      cases he : inB e 0 3 with
      | false => exact ⟨rfl, rfl⟩
      | true =>
        simp [inB] at hd he
        obtain ⟨k, rfl⟩ := Int.eq_ofNat_of_zero_le hd.1
        obtain ⟨l, rfl⟩ := Int.eq_ofNat_of_zero_le he.1
        have hk : k < 4 := by omega
        have hl : l < 4 := by omega
        simp only [Int.toNat_natCast, spec_comm hb hB F hF hk hl, impl_slides2 hb hB F hF hk hl, impl_slides2 hb hB F hF hl hk, Option.isSome_some, Option.getD_some, cond_true, cond_false, Bool.not_true, Bool.and_self, commV]
        exact ⟨trivial, trivial⟩
end Go.Lv.P
