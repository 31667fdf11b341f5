/-
Plain facts of the pure functions, part 7; without conditions.
-/
import Derived.Test.YtabfliifleonaakGreatQkP6
import Derived.Test.YtabfliifleonaakGreatQkPG6
import Derived.Test.YtabfliifleonaakGreatQkPG4
import Derived.Test.YtabfliifleonaakGreatQkP1
import Derived.Test.YtabfliifleonaakGreatQkP0
import Derived.Test.YtabfliifleonaakGreatQkP4
import Derived.Test.YtabfliifleonaakGreatQkP5
import Derived.Test.YtabfliifleonaakGreatQkPG2
import Derived.Test.YtabfliifleonaakGreatQkPG1
set_option linter.unusedVariables false
set_option linter.unusedSimpArgs false
set_option linter.unusedSectionVars false
namespace Go.Lv.P
open Go Go.Lv
def u101 (b : List Int) : List Int := fld (fun d (out : List Int) => bif decide ((0 : Int) < cntB b d) then out ++ [(d : Int)] else out) 0 4 []
theorem sides_len (b : List Int) : (u101 b).length ≤ 4 := by
  have h : ∀ (p : Nat → Bool), (fld (fun d (out : List Int) => bif p d then out ++ [(d : Int)] else out) 0 4 []).length ≤ 4 := fun p => by
    simp only [fld]
    cases p 0 <;> cases p (0 + 1) <;> cases p (0 + 1 + 1) <;> cases p (0 + 1 + 1 + 1) <;> simp
  exact h _
theorem u226 {b : List Int} (hb : b.length = 16) (ok : okB b = true) (F : Nat) (hF : 1000 < F) : k106_p F b = some (u101 b) := by
  have hs := u036 (step := k106_s3 F b) (fun d a => (d, a)) 4 (fun d (out : List Int) => bif decide ((0 : Int) < cntB b d) then out ++ [(d : Int)] else out) (fun a => a) (fun d a => a.length ≤ d) (F := F) (by omega) (by omega) (a := []) (Nat.le_refl 0)
    (fun d out hd h => ⟨moves_step h, fun Q kn kx => by
      have hd' : (d : Int) < 4 := by omega
      have hf : fits (out ++ [(d : Int)]).length 8 = true := u093 (by simp; omega) (by simp; omega)
      simp only [k106_s3, hd', decide_true, cond_true, u100 hb ok F hF hd, Option.isSome_some, Option.getD_some, u033, hf]
      cases decide ((0 : Int) < cntB b d) <;> rfl⟩) (fun a _ Q kn kx => by simp [k106_s3])
  have h1 : k106_l3 F b 0 [] = some (u101 b) := hs.1
  simp only [k106_p, k106_c, h1, Option.isSome_some, Option.getD_some, cond_true]
theorem k71_eq {b : List Int} (hb : b.length = 16) (F : Nat) (hF : 1000 < F) : k71_p F b = some (bif okB b then (true, u101 b) else (false, [])) := by
  simp only [k71_p, k71_c, k96_eq F b hb hF, Option.isSome_some, Option.getD_some, cond_true]
  cases ok : okB b with
  | false => rfl
  | true =>
    have hs := u036 (step := k71_s5 F b) (fun d a => (d, a)) 4 (fun d (out : List Int) => bif decide ((0 : Int) < cntB b d) then out ++ [(d : Int)] else out) (fun a => a) (fun d a => a.length ≤ d) (F := F) (by omega) (by omega) (a := []) (Nat.le_refl 0)
      (fun d out hd h => ⟨moves_step h, fun Q kn kx => by
        have hd' : (d : Int) < 4 := by omega
        have hf : fits (out ++ [(d : Int)]).length 8 = true := u093 (by simp; omega) (by simp; omega)
        simp only [k71_s5, hd', decide_true, cond_true, u088 hb ok F hF hd, Option.isSome_some, Option.getD_some, u033, hf]
        cases decide ((0 : Int) < cntB b d) <;> rfl⟩) (fun a _ Q kn kx => by simp [k71_s5])
    have h1 : k71_l5 F b 0 [] = some (u101 b) := hs.1
    simp only [h1, Option.isSome_some, Option.getD_some, cond_true, cond_false, Bool.not_true]
theorem k72_eq {b : List Int} (hb : b.length = 16) (F : Nat) (hF : 1000 < F) : k72_p F b = some (bif okB b then (true, u101 b) else (false, [])) := by
  simp only [k72_p, k72_c, k99_eq F b hb hF, Option.isSome_some, Option.getD_some, cond_true]
  cases ok : okB b with
  | false => rfl
  | true => simp only [u226 hb ok F hF, Option.isSome_some, Option.getD_some, cond_true, cond_false, Bool.not_true]
end Go.Lv.P
namespace Go.Lv.P
open Go Go.Lv
theorem u298 (F : Nat) (hF : 1000 < F) (b row : List Int) {d i : Nat} (hd : d < 4) (hi : i < 4) : k116_p F b d i row = some (putB b d i row) := by
  obtain ⟨G, rfl⟩ : ∃ G, F = G + 1001 := ⟨F - 1001, by omega⟩
  simp only [k116_p, k116_c, spec_line G hd hi, put_line0 _ _ hd hi, put_line1 _ _ hd hi, put_line2 _ _ hd hi, put_line3 _ _ hd hi, Option.isSome_some, Option.getD_some, cond_true, putB]
end Go.Lv.P
namespace Go.Lv.P
open Go Go.Lv
theorem Delete_own (F : Nat) (s : LL) (b : List Int) (q : List Int → Bool) (hs : s.length ≤ 1000) (hF : 1000 < F) (hq : ∀ x ∈ s, k26_v x b = q x) :
    ∃ r, k4_p F s b = some r ∧ Deleted s q r := by
  have hg : ∀ i, i < s.length → k26_v (rget s i) b = q (rget s i) := fun i hi => by
    refine hq _ ?_
    rw [rgetL, List.getElem?_eq_getElem hi]
    exact List.getElem_mem hi
  have h1 : k5_l2 F s s.length b 0 = some (fnd (fun i => q (rget s i)) (fun i => (true, (i : Int))) (false, default) 0 s.length) := by
    refine u061 (fun i => i) s.length _ _ _ (by omega) (by omega) (fun i hi Q kn kx => ?_) fun Q kn kx => ?_
    · simp only [k5_s2, u021, hi, hg i hi, Int.toNat_natCast, decide_true, cond_true, Int.ofNat_lt, Option.isSome_some, Option.getD_some]
    · simp [k5_s2]
  simp only [k4_p, k4_c, k5_p, k5_c, u033, h1, Option.isSome_some, Option.getD_some, cond_true]
  rcases fnd_split s q s.length 0 (by omega) (by simp) with ⟨h2, h3⟩ | ⟨j, hj, h2, h3, h4⟩
  · rw [h2]
    refine ⟨(s.length, s), rfl, ?_⟩
    have e := u170 (q := q) h3
    exact ⟨by rw [e], by rw [e]; exact List.take_length, rfl⟩
  · rw [h2]
    have hgj : rget s j = s[j] := by rw [rgetL, List.getElem?_eq_getElem hj]; rfl
    obtain ⟨s', l1, l2, l3⟩ := u150 (step := k4_s5 F s.length b) q (fun x => k26_v x b = q x) s.length (by omega)
      (fun i j s'' hij hjn hl hp Q kn kx => by
        have hin : i < s.length := by omega
        simp only [k4_s5, Int.ofNat_lt, hjn, u021, hin, Int.toNat_natCast, decide_true, cond_true, hp, Option.isSome_some, Option.getD_some]
        cases q (rget s'' (0 + j)) <;> rfl)
      (fun i s'' Q kn kx => by simp [k4_s5]) (s.length - (j + 1)) j (j + 1) F s (by omega) (by omega) (by omega) rfl (fun x hx => hq x (List.mem_of_mem_drop hx))
    have e : s.filter (fun x => !q x) = s.take j ++ (s.drop (j + 1)).filter (fun x => !q x) := by
      have e1 : s = s.take j ++ s[j] :: s.drop (j + 1) := by rw [← List.drop_eq_getElem_cons hj, List.take_append_drop]
      conv => lhs; rw [e1]
      rw [List.filter_append, List.filter_cons, ← hgj, h3]
      simp only [Bool.not_true, Bool.false_eq_true, if_false]
      rw [u170]
      exact h4
    have el : j + ((s.drop (j + 1)).filter fun x => !q x).length = (s.filter fun x => !q x).length := by
      rw [e, List.length_append, List.length_take, Nat.min_eq_left (Nat.le_of_lt hj)]
    rw [el] at l1 l3
    rw [← e] at l3
    have ll : (s.filter fun x => !q x).length ≤ s.length := List.length_filter_le _ _
    have l1' : k4_l5 F s.length b (j : Int) (IntKind.wrap .i64 ((j : Int) + 1)) s = some ((((s.filter fun x => !q x).length : Nat) : Int), s') := by
      rw [u047 (n := s.length) hj (by omega)]
      exact l1
    have hne : ((j : Int) == -1) = false := by
      rw [beq_eq_false_iff_ne]; omega
    simp only [cond_true, Option.getD_some, l1', hne, cond_false, Option.isSome_some, u111, ll, decide_true, Int.toNat_natCast, Nat.sub_zero]
    refine ⟨_, rfl, rfl, ?_, ?_⟩
    · show (u029 s' (0 + _) _ _).take _ = _
      rw [u266 _ _ _ _ (by omega) (by simp), l3]
    · rw [← l2]
      show (u029 s' (0 + _) _ _).length = _
      exact u267 _ _ _ (by omega) (by simp)
theorem app_fld (h : List Int → LL) (ls : LL) : ∀ (m i : Nat) (s : LL), i + m = ls.length → fld (fun i s => s ++ h (rget ls i)) i m s = s ++ (ls.drop i).flatMap h
  | 0, i, s, hi => by rw [List.drop_eq_nil_of_le (by omega)]; simp [fld]
  | m + 1, i, s, hi => by
    have hil : i < ls.length := by omega
    have hg : rget ls i = ls[i] := by rw [rgetL, List.getElem?_eq_getElem hil]; rfl
    rw [fld, app_fld h ls m (i + 1) _ (by omega), List.drop_eq_getElem_cons hil, List.flatMap_cons, hg, List.append_assoc]
theorem fits128 {n : Nat} (h : n ≤ 4300000000) : fits n 128 = true := u093 (by omega) (by omega)
section
variable {d : Nat} (hd : d < 4) (F : Nat) (hF : 10000000000 < F) (a b c e : LL)
include hd hF
theorem all_rows {i : Nat} (hi : i < 4) {ls : LL} (hg : llget [a, b, c, e] (0 + i * 1) = ls) (hl : ls.length ≤ 256) (out next : LL) {n : Nat} (hn : n < out.length) (hx : next.length ≤ 4294967296) :
    k127_l10 F d out.length i n a b c e out 0 next = some (next ++ ls.flatMap fun r => [putB (rget out n) d i r]) := by
  have h := u036 (step := k127_s10 F d out.length i n a b c e out) (fun k (s : LL) => (k, s)) ls.length (fun k s => s ++ [putB (rget out n) d i (rget ls k)]) (fun s => s) (fun k s => s.length ≤ next.length + k) (F := F) (by omega) (by omega) (a := next) (Nat.le_refl _)
    (fun k s hk hI => ⟨by show (s ++ [_]).length ≤ _; rw [List.length_append, List.length_singleton]; have : s.length ≤ next.length + k := hI; omega, fun Q kn kx => by
      have hI : s.length ≤ next.length + k := hI
      have hf : fits (s ++ [putB (rget out n) d i (rget ls k)]).length 128 = true := fits128 (by rw [List.length_append, List.length_singleton]; omega)
      simp only [k127_s10, u021, hi, hg, Int.ofNat_lt, hk, hn, Int.toNat_natCast, Nat.zero_add, decide_true, cond_true, u298 F (show 1000 < F by omega) _ _ hd hi, Option.isSome_some, Option.getD_some, u033, hf]
      rw [Nat.zero_add] at hg
      simp only [hg, hk, decide_true, cond_true, u298 F (show 1000 < F by omega) _ _ hd hi, Option.isSome_some, Option.getD_some, hf]⟩)
    (fun s _ Q kn kx => by
      have e1 : decide (((ls.length : Nat) : Int) < ((ls.length : Nat) : Int)) = false := by simp
      simp only [k127_s10, u021, hi, hg, Int.toNat_natCast, decide_true, cond_true, e1, cond_false])
  have h1 := h.1
  rw [app_fld (fun r => [putB (rget out n) d i r]) ls ls.length 0 next (by omega), List.drop_zero] at h1
  exact h1
theorem all_own {i : Nat} (hi : i < 4) {ls : LL} (hg : llget [a, b, c, e] (0 + i * 1) = ls) (hl : ls.length ≤ 256) (out : LL) (ho : out.length ≤ 16777216) : k127_l7 F d i a b c e out 0 [] = some (lvl d i ls out) := by
  have h := u036 (step := k127_s7 F d i a b c e out) (fun k (s : LL) => (k, s)) out.length (fun k s => s ++ ls.flatMap fun r => [putB (rget out k) d i r]) (fun s => s) (fun k s => s.length ≤ 256 * k) (F := F) (by omega) (by omega) (a := []) (Nat.le_refl _)
    (fun k s hk hI => by
      have hI : s.length ≤ 256 * k := hI
      have hfl := flat_le (h := fun r => [putB (rget out k) d i r]) (k := 1) (fun _ => Nat.le_refl _) ls
      refine ⟨?_, fun Q kn kx => ?_⟩
      · show (s ++ ls.flatMap fun r => [putB (rget out k) d i r]).length ≤ _
        rw [List.length_append]; omega
      · simp only [k127_s7, Int.ofNat_lt, hk, decide_true, cond_true, u037, Bool.true_and, all_rows hd F hF a b c e hi hg hl out s hk (by omega), Option.isSome_some, Option.getD_some])
    (fun s _ Q kn kx => by simp [k127_s7])
  have h1 := h.1
  rw [app_fld (fun o => ls.flatMap fun r => [putB o d i r]) out out.length 0 [] (by omega), List.drop_zero, List.nil_append] at h1
  exact h1
theorem pow_i {i : Nat} (hi : i < 4) : 256 ^ i ≤ 16777216 := Nat.le_trans (Nat.pow_le_pow_right (by omega) (show i ≤ 3 by omega)) (by decide)
theorem all_spec {o : List Int} (ho : o.length = 16) (ha : a.length ≤ 256) (hb : b.length ≤ 256) (hc : c.length ≤ 256) (he : e.length ≤ 256) : k127_l3 F d a b c e 0 [o] = some (allB d a b c e) := by
  have hall : ∀ i, i < 4 → (llget [a, b, c, e] (0 + i * 1)).length ≤ 256 := fun i hi => by
    obtain rfl | rfl | rfl | rfl : i = 0 ∨ i = 1 ∨ i = 2 ∨ i = 3 := by omega
    · exact ha
    · exact hb
    · exact hc
    · exact he
  have h := u036 (step := k127_s3 F d a b c e) (fun k (s : LL) => (k, s)) 4 (fun k s => lvl d k (llget [a, b, c, e] (0 + k * 1)) s) (fun s => s) (fun k s => s.length ≤ 256 ^ k) (F := F) (by omega) (by omega) (a := [o]) (Nat.le_refl _)
    (fun k s hk hI => by
      have hI : s.length ≤ 256 ^ k := hI
      have hp := pow_i hd F hF hk
      have hk' : (k : Int) < 4 := by omega
      refine ⟨?_, fun Q kn kx => ?_⟩
      · have := lvl_len (d := d) (i := k) (out := s) (hall k hk)
        show _ ≤ 256 ^ (k + 1)
        rw [Nat.pow_succ]; omega
      · simp only [k127_s3, hk', decide_true, cond_true, u037, Bool.true_and, all_own hd F hF a b c e hk rfl (hall k hk) s (by omega), Option.isSome_some, Option.getD_some])
    (fun s _ Q kn kx => by simp [k127_s3])
  rw [← lvl_all ho hd]
  exact h.1
theorem imp_rows {i : Nat} (hi : i < 4) {ls : LL} (hl : ls.length ≤ 256) (t1 t2 t3 t4 t5 : LL) (i1 i2 i3 : Int) (own bb : List Int) (out next : LL) (hx : next.length ≤ 4294967296) :
    k34_l12 F d i t1 t2 t3 t4 t5 i1 i2 i3 ls ((ls.length : Nat) : Int) bb own out 0 next = some (next ++ ls.flatMap fun r => [putB own d i r]) := by
  have h := u036 (step := k34_s12 F d i t1 t2 t3 t4 t5 i1 i2 i3 ls ((ls.length : Nat) : Int) bb own out) (fun k (s : LL) => (k, s)) ls.length (fun k s => s ++ [putB own d i (rget ls k)]) (fun s => s) (fun k s => s.length ≤ next.length + k) (F := F) (by omega) (by omega) (a := next) (Nat.le_refl _)
    (fun k s hk hI => ⟨by show (s ++ [_]).length ≤ _; rw [List.length_append, List.length_singleton]; have : s.length ≤ next.length + k := hI; omega, fun Q kn kx => by
      have hI : s.length ≤ next.length + k := hI
      have hf : fits (s ++ [putB own d i (rget ls k)]).length 128 = true := fits128 (by rw [List.length_append, List.length_singleton]; omega)
      simp only [k34_s12, u021, Int.ofNat_lt, hk, Int.toNat_natCast, decide_true, cond_true, impl_with _ _ hd hi, Option.isSome_some, Option.getD_some, u033, hf]⟩)
    (fun s _ Q kn kx => by simp [k34_s12])
  have h1 := h.1
  rw [app_fld (fun r => [putB own d i r]) ls ls.length 0 next (by omega), List.drop_zero] at h1
  exact h1
theorem imp_own {i : Nat} (hi : i < 4) {ls : LL} (hl : ls.length ≤ 256) (t1 t2 t3 t4 : LL) (i1 : Int) (bb : List Int) (out : LL) (ho : out.length ≤ 16777216) : k34_l9 F d i ls t1 t2 t3 t4 i1 ((out.length : Nat) : Int) bb out 0 [] = some (lvl d i ls out) := by
  have h := u036 (step := k34_s9 F d i ls t1 t2 t3 t4 i1 ((out.length : Nat) : Int) bb out) (fun k (s : LL) => (k, s)) out.length (fun k s => s ++ ls.flatMap fun r => [putB (rget out k) d i r]) (fun s => s) (fun k s => s.length ≤ 256 * k) (F := F) (by omega) (by omega) (a := []) (Nat.le_refl _)
    (fun k s hk hI => by
      have hI : s.length ≤ 256 * k := hI
      have hfl := flat_le (h := fun r => [putB (rget out k) d i r]) (k := 1) (fun _ => Nat.le_refl _) ls
      refine ⟨?_, fun Q kn kx => ?_⟩
      · show (s ++ ls.flatMap fun r => [putB (rget out k) d i r]).length ≤ _
        rw [List.length_append]; omega
      · simp only [k34_s9, Int.ofNat_lt, hk, u021, Int.toNat_natCast, Nat.zero_add, decide_true, cond_true, u037, Bool.true_and, imp_rows hd F hF hi hl _ _ _ _ _ _ _ _ _ _ _ s (show s.length ≤ 4294967296 by omega), Option.isSome_some, Option.getD_some])
    (fun s _ Q kn kx => by simp [k34_s9])
  have h1 := h.1
  rw [app_fld (fun o => ls.flatMap fun r => [putB o d i r]) out out.length 0 [] (by omega), List.drop_zero, List.nil_append] at h1
  exact h1
theorem all_impl (bb : List Int) {o : List Int} (ho : o.length = 16) (ha : a.length ≤ 256) (hb : b.length ≤ 256) (hc : c.length ≤ 256) (he : e.length ≤ 256) : k34_l5 F d a b c e bb 0 [o] = some (allB d a b c e) := by
  have hall : ∀ i, i < 4 → (llget [a, b, c, e] (0 + i * 1)).length ≤ 256 := fun i hi => by
    obtain rfl | rfl | rfl | rfl : i = 0 ∨ i = 1 ∨ i = 2 ∨ i = 3 := by omega
    · exact ha
    · exact hb
    · exact hc
    · exact he
  have h := u036 (step := k34_s5 F d a b c e bb) (fun k (s : LL) => (k, s)) 4 (fun k s => lvl d k (llget [a, b, c, e] (0 + k * 1)) s) (fun s => s) (fun k s => s.length ≤ 256 ^ k) (F := F) (by omega) (by omega) (a := [o]) (Nat.le_refl _)
    (fun k s hk hI => by
      have hI : s.length ≤ 256 ^ k := hI
      have hp := pow_i hd F hF hk
      have hk' : (k : Int) < 4 := by omega
      have hal := hall k hk
      rw [Nat.zero_add] at hal
      refine ⟨?_, fun Q kn kx => ?_⟩
      · have := lvl_len (d := d) (i := k) (out := s) (hall k hk)
        show _ ≤ 256 ^ (k + 1)
        rw [Nat.pow_succ]; omega
      · simp only [k34_s5, hk', hk, u021, Int.toNat_natCast, Nat.zero_add, decide_true, cond_true, u037, Bool.true_and, imp_own hd F hF hk hal _ _ _ _ _ _ s (show s.length ≤ 16777216 by omega), Option.isSome_some, Option.getD_some])
    (fun s _ Q kn kx => by simp [k34_s5])
  rw [← lvl_all ho hd]
  exact h.1
end
theorem put_at (b : List Int) : ∀ l : LL, (∀ x ∈ l, x.length = b.length) → Asc l → b ∉ l → ∃ n, n ≤ l.length ∧ (∀ i, n ≤ i → i < l.length → ltL b (rget l i) = true) ∧ (∀ i, i < n → ltL b (rget l i) = false) ∧ insB b l = l.take n ++ [b] ++ l.drop n
  | [], _, _, _ => ⟨0, Nat.le_refl _, fun i _ h => by simp at h, fun i h => by omega, rfl⟩
  | a :: r, hl, ⟨h1, h2⟩, hn => by
    rw [List.mem_cons, not_or] at hn
    cases h : ltL a b with
    | true =>
      obtain ⟨n, n1, n2, n3, n4⟩ := put_at b r (fun x hx => hl x (List.mem_cons_of_mem _ hx)) h2 hn.2
      refine ⟨n + 1, by simp; omega, fun i g1 g2 => ?_, fun i g => ?_, ?_⟩
      · cases i with
        | zero => omega
        | succ i => exact n2 i (by omega) (by simpa using g2)
      · cases i with
        | zero => exact ltL_asym h
        | succ i => exact n3 i (by omega)
      · simp only [insB, h, cond_true, n4, List.take_succ_cons, List.drop_succ_cons, List.cons_append]
    | false =>
      have hab : ltL b a = true := u199 (hl a List.mem_cons_self) h (Ne.symm hn.1)
      refine ⟨0, Nat.zero_le _, fun i _ g2 => ?_, fun i g => by omega, ?_⟩
      · cases i with
        | zero => exact hab
        | succ i =>
          have hi : i < r.length := by simpa using g2
          refine u095 hab (h1 _ ?_)
          show rget r i ∈ r
          rw [rgetL, List.getElem?_eq_getElem hi]; exact List.getElem_mem hi
      · have hba : (a == b) = false := by rw [beq_eq_false_iff_ne]; exact Ne.symm hn.1
        simp only [insB, h, hba, cond_false, List.take_zero, List.drop_zero, List.nil_append, List.singleton_append]
section
variable (F : Nat) (hF : 10000000000 < F) (L : LL) (hL : ∀ x ∈ L, x.length = 16) (hn : L.Nodup) (hlen : L.length ≤ 4294967296) (w : List Int)
include hF hL hn hlen
theorem scan_eq {i : Nat} (hi : i < L.length) {s : LL} (hs : ∀ x ∈ s, x.length = 16) {n : Nat} (hns : n ≤ s.length) (hsl : s.length ≤ 4294967296) (h1 : ∀ j, n ≤ j → j < s.length → ltL (rget L i) (rget s j) = true) (h2 : ∀ j, j < n → ltL (rget L i) (rget s j) = false) :
    ∀ (m G : Nat), m ≤ s.length → n ≤ m → m < G → loopC (k95_s7 F L i w s) G (m : Int) some = some ((n : Nat) : Int)
  | 0, G, hm, hnm, hG => by
    obtain ⟨G, rfl⟩ : ∃ G', G = G' + 1 := ⟨G - 1, by omega⟩
    have : n = 0 := by omega
    subst this
    rfl
  | m + 1, G, hm, hnm, hG => by
    obtain ⟨G, rfl⟩ : ∃ G', G = G' + 1 := ⟨G - 1, by omega⟩
    have hp : decide ((0 : Int) < ((m + 1 : Nat) : Int)) = true := decide_eq_true (by omega)
    have hw : IntKind.wrap .i64 (((m + 1 : Nat) : Int) - 1) = ((m : Nat) : Int) := by rw [u044 (by omega) (by omega)]; omega
    have hml : m < s.length := by omega
    have hb := before_eq F (show 1000 < F by omega) (hL (rget L i) (by rw [rgetL, List.getElem?_eq_getElem hi]; exact List.getElem_mem hi)) (hs (rget s m) (by rw [rgetL, List.getElem?_eq_getElem hml]; exact List.getElem_mem hml))
    show k95_s7 F L i w s _ _ _ _ = _
    simp only [k95_s7, hp, cond_true, u021, hi, decide_true, hw, hml, Int.toNat_natCast, Nat.zero_add, hb, Option.isSome_some, Option.getD_some]
    by_cases hnm2 : n ≤ m
    · rw [h1 m hnm2 hml, cond_true]
      exact scan_eq hi hs hns hsl h1 h2 m G (by omega) hnm2 (by omega)
    · have e : n = m + 1 := by omega
      subst e
      rw [h2 m (by omega), cond_false]
theorem sorted_spec : k95_p F L w = some (u105 (L.filter fun x => !(x == w))) := by
  have hm : ∀ i, i < L.length → rget L i = L[i]! := fun i hi => by rw [rgetL]; simp [hi]
  have h := u036 (step := k95_s3 F L w) (fun i (s : LL) => (i, s)) L.length (fun i s => bif rget L i == w then s else insB (rget L i) s) (fun s => s) (fun i s => s = u105 ((L.take i).filter fun x => !(x == w))) (F := F) (by omega) (by omega) (a := []) (by simp [u105])
    (fun i s hi hI => by
      have hI : s = u105 ((L.take i).filter fun x => !(x == w)) := hI
      have hil : rget L i = L[i] := by rw [rgetL, List.getElem?_eq_getElem hi]; rfl
      obtain ⟨f1, f2, f3⟩ := u084 (m := 16) ((L.take i).filter fun x => !(x == w)) [] (fun x hx => hL x (List.mem_of_mem_take (List.mem_filter.1 hx).1)) (fun x hx => by cases hx) trivial
      have hs16 : ∀ x ∈ s, x.length = 16 := fun x hx => f3 x (by rw [hI] at hx; exact hx)
      have hasc : Asc s := by rw [hI]; exact f1
      have hmem : ∀ x, x ∈ s → x ∈ L.take i := fun x hx => by
        rw [hI] at hx
        rcases (f2 x).1 hx with h | h
        · cases h
        · exact (List.mem_filter.1 h).1
      have hnot : rget L i ∉ s := fun hx => by
        have h1 := hmem _ hx
        rw [hil] at h1
        have h2 : (L.take i ++ L[i] :: L.drop (i + 1)).Nodup := by rw [← List.drop_eq_getElem_cons hi, List.take_append_drop]; exact hn
        exact (List.nodup_append.1 h2).2.2 _ h1 _ List.mem_cons_self rfl
      have hsl : s.length ≤ i := by
        have hcnt : ∀ (l t : LL), (l.foldl (fun s x => insB x s) t).length ≤ t.length + l.length := fun l => by
          induction l with
          | nil => intro t; simp
          | cons a r ih =>
            intro t
            rw [List.foldl_cons, List.length_cons]
            have h1 := ih (insB a t)
            have h2 : (insB a t).length ≤ t.length + 1 := by
              clear h1
              induction t with
              | nil => simp [insB]
              | cons c q ihq =>
                simp only [insB]
                cases ltL c a with
                | true => simp only [cond_true, List.length_cons]; omega
                | false => cases c == a <;> simp
            omega
        have h1 := hcnt ((L.take i).filter fun x => !(x == w)) []
        have h2 := List.length_filter_le (fun x => !(x == w)) (L.take i)
        have h3 := List.length_take_le i L
        rw [hI, u105]
        simp only [List.length_nil] at h1
        omega
      have htk : (L.take (i + 1)).filter (fun x => !(x == w)) = bif rget L i == w then (L.take i).filter (fun x => !(x == w)) else (L.take i).filter (fun x => !(x == w)) ++ [rget L i] := by
        rw [List.take_succ_eq_append_getElem hi, List.filter_append, hil]
        cases hc : L[i] == w with
        | true => simp [hc]
        | false => simp [hc]
      obtain ⟨n, n1, n2, n3, n4⟩ := put_at (rget L i) s (fun x hx => by rw [hs16 x hx, hL _ (by rw [hil]; exact List.getElem_mem hi)]) hasc hnot
      refine ⟨?_, fun Q kn kx => ?_⟩
      · show (bif rget L i == w then s else insB (rget L i) s) = _
        rw [htk]
        cases rget L i == w with
        | true => exact hI
        | false => simp only [cond_false]; rw [u105, List.foldl_append, hI]; rfl
      · have hsc : k95_l7 F L i w s ((s.length : Nat) : Int) = some ((n : Nat) : Int) := scan_eq F hF L hL hn hlen w hi hs16 n1 (by omega) n2 n3 s.length F (Nat.le_refl _) n1 (by omega)
        simp only [k95_s3, Int.ofNat_lt, hi, decide_true, cond_true, u021, Int.toNat_natCast]
        cases hc : rget L i == w with
        | true => simp only [cond_true]
        | false =>
          have t1 : (s.take n).length = n := by rw [List.length_take]; omega
          have e1 : subn s.length s 0 n = s.take n := u072 s n
          have e2 : subn s.length s n (s.length - n) = s.drop n := by
            rw [subn_eqL _ _ _ _ rfl]
            show (s.drop n).take (s.length - n) = s.drop n
            rw [List.take_of_length_le (by simp)]
          have f1 : fits (s.take n).length 128 = true := fits128 (by omega)
          have f2 : fits (s.take n ++ [rget L i]).length 128 = true := fits128 (by rw [List.length_append, List.length_singleton]; omega)
          have f3 : fits (s.take n ++ [rget L i] ++ s.drop n).length 128 = true := fits128 (by rw [List.length_append, List.length_append, List.length_singleton, List.length_drop]; omega)
          have hle : decide (n ≤ s.length) = true := decide_eq_true n1
          simp only [cond_false, u037, Bool.true_and, hsc, Option.isSome_some, Option.getD_some, cond_true, u111, hle, Int.toNat_natCast, Nat.sub_zero, Nat.zero_add, e1, e2, u033, f1, f2, f3, n4])
    (fun s _ Q kn kx => by simp [k95_s3])
  have h1 : k95_l3 F L w 0 [] = some (u105 (L.filter fun x => !(x == w))) := by
    have h2 := h.2
    rw [List.take_length] at h2
    exact h.1.trans (congrArg some h2)
  simp only [k95_p, k95_c, h1, Option.isSome_some, Option.getD_some, cond_true]
end
theorem compact_none (F n : Nat) (s : LL) (hn : n ≤ s.length) (hb : n ≤ 4300000000) (hF : 10000000000 < F) (hp : ∀ i, 1 ≤ i → i < n → (rget s i == rget s (i - 1)) = false) : k19_p F n s = some (n, s) := by
  by_cases h2 : n < 2
  · have hd : decide (((n : Nat) : Int) < 2) = true := decide_eq_true (by omega)
    simp only [k19_p, k19_c, hd, cond_true]
  · have hd : decide (((n : Nat) : Int) < 2) = false := decide_eq_false (by omega)
    have key : ∀ (m j G : Nat), j + m = n → 1 ≤ j → m < G → loopC (k19_s4 F n s) G (j : Int) some = some (false, default, default) := by
      intro m
      induction m with
      | zero =>
        intro j G hj h1 hG
        obtain ⟨G, rfl⟩ : ∃ G', G = G' + 1 := ⟨G - 1, by omega⟩
        have hlt : decide ((j : Int) < ((n : Nat) : Int)) = false := decide_eq_false (by omega)
        simp only [loopC, k19_s4, hlt, cond_false]
      | succ m ih =>
        intro j G hj h1 hG
        obtain ⟨G, rfl⟩ : ∃ G', G = G' + 1 := ⟨G - 1, by omega⟩
        have hlt : j < n := by omega
        have hj1 : j - 1 < n := by omega
        have hw : IntKind.wrap .i64 ((j : Int) - 1) = ((j - 1 : Nat) : Int) := by rw [u044 (by omega) (by omega)]; omega
        simp only [loopC, k19_s4, Int.ofNat_lt, hlt, decide_true, cond_true, u021, hw, hj1, Int.toNat_natCast, Nat.zero_add, hp j h1 hlt, cond_false]
        rw [u047 (n := n) hlt (by omega)]
        exact ih (j + 1) G (by omega) (by omega) (by omega)
    have h1 : k19_l4 F n s 1 = some (false, default, default) := key (n - 1) 1 F (by omega) (by omega) (by omega)
    simp only [k19_p, k19_c, hd, cond_false, h1, Option.isSome_some, Option.getD_some, cond_true]
theorem ordered_own (F : Nat) (hF : 10000000000 < F) (n : Nat) (m : LL) (hn : n ≤ m.length) (hm : m.length ≤ 1000000000) (h16 : ∀ x ∈ m.take n, x.length = 16) (hnd : (m.take n).Nodup) : k98_p F n m = some (n, sortP n m) ∧ (sortP n m).take n = u105 (m.take n) := by
  have hs := sort_ins h16 hnd
  have hl : (sortL (m.take n)).length = n := by rw [u177, List.length_take]; omega
  have ht : (sortP n m).take n = u105 (m.take n) := by
    unfold sortP
    rw [List.take_append_of_le_length (by omega), List.take_of_length_le (by omega), hs]
  have hasc : Asc (u105 (m.take n)) := (u084 (m := 16) (m.take n) [] h16 (fun x hx => by cases hx) trivial).1
  have hil : (u105 (m.take n)).length = n := by rw [← hs, hl]
  have hg : ∀ i, i < n → rget (sortP n m) i = rget (u105 (m.take n)) i := fun i hi => by
    rw [← ht, rgetL, rgetL, List.getElem?_take, if_pos hi]
  refine ⟨?_, ht⟩
  have hsp : (sortP n m).length = m.length := by unfold sortP; rw [List.length_append, hl, List.length_drop]; omega
  have hc := compact_none F n (sortP n m) (by omega) (by omega) hF fun i h1 h2 => by
    rw [hg i h2, hg (i - 1) (by omega)]
    have := asc_step hasc (i - 1) (by omega)
    rw [show i - 1 + 1 = i by omega] at this
    rw [beq_eq_false_iff_ne]
    intro e
    rw [e, u200] at this; cases this
  have hb0 : Nat.ble n m.length = true := Nat.ble_eq.symm ▸ hn
  have hb1 : Nat.blt 1000 F = true := Nat.blt_eq.mpr (by omega)
  have hb2 : Nat.ble m.length 1000000000 = true := Nat.ble_eq.symm ▸ hm
  simp only [k98_p, k98_c, hc, hb0, hb1, hb2, Bool.and_self, cond_true, Option.isSome_some, Option.getD_some]
end Go.Lv.P
namespace Go.Lv.P
open Go Go.Lv
theorem putB_len (b : List Int) (d i : Nat) (r : List Int) : (putB b d i r).length = b.length := by simp only [putB, u104]
section
variable {c : List Int} (hc : Byt c) (F : Nat) (hF : 1000 < F)
include hc hF
theorem made_lp {d : Nat} (hd : d < 4) : ∀ (m i G n : Nat), i + m = 3 → m < G → n + 10 * m ≤ 700000000 → ∀ (a s : Int) (b : List Int), b.length = 16 → Cur n a → ∃ (a' s' : Int) (b' : List Int), loopC (k65_s6 F d c) G ((i : Int), a, s, b) some = some (a', s', b') ∧ b'.length = 16 ∧ Cur (n + 10 * m + 2) a'
  | m, i, G, n, him, hG, hn, a, s, b, hb, h => by
    obtain ⟨G, rfl⟩ : ∃ G', G = G' + 1 := ⟨G - 1, by omega⟩
    obtain ⟨v, a1, s1, e1, hv, c1⟩ := pick_ok hc (by omega) (q := 3) (by decide) (by decide) h (s := s)
    have q3 : ((3 : Nat) : Int) = 3 := rfl
    rw [q3] at e1
    have hw : IntKind.wrap .i64 ((1 : Int) + (v : Int)) = ((1 + v : Nat) : Int) := by rw [u044 (by omega) (by omega)]; omega
    by_cases hlt : i < 1 + v
    · have hi : i < 4 := by omega
      have hp : decide ((i : Int) < ((1 + v : Nat) : Int)) = true := decide_eq_true (by omega)
      have hw2 : IntKind.wrap .i64 ((i : Int) + 1) = ((i + 1 : Nat) : Int) := by rw [u044 (by omega) (by omega)]; omega
      obtain ⟨m, rfl⟩ : ∃ m', m = m' + 1 := ⟨m - 1, by omega⟩
      obtain ⟨a', s', b', e, l, cc⟩ := made_lp hd m (i + 1) G (n + 10) (by omega) (by omega) (by omega) a1 s1 (putB b d i [0, 0, 0, 0]) (by rw [putB_len, hb]) (c1.mono (by omega))
      refine ⟨a', s', b', ?_, l, cc.mono (by omega)⟩
      rw [← e]
      show k65_s6 F d c _ _ _ _ = _
      simp only [k65_s6, e1, hw, hp, u298 F hF b [0, 0, 0, 0] hd hi, hw2, Option.isSome_some, Option.getD_some, cond_true]
    · have hp : decide ((i : Int) < ((1 + v : Nat) : Int)) = false := decide_eq_false (by omega)
      refine ⟨a1, s1, b, ?_, hb, c1.mono (by omega)⟩
      show k65_s6 F d c _ _ _ _ = _
      simp only [k65_s6, e1, hw, hp, Option.isSome_some, Option.getD_some, cond_true, cond_false]
theorem made_loop {n : Nat} (hn : n ≤ 600000000) {d : Nat} (hd : d < 4) {a s : Int} {b : List Int} (hb : b.length = 16) (h : Cur n a) : ∃ (a' s' : Int) (b' : List Int), k65_l6 F d c 0 a s b = some (a', s', b') ∧ b'.length = 16 ∧ Cur (n + 40) a' := by
  obtain ⟨a', s', b', e, l, cc⟩ := made_lp hc F hF hd 3 0 F n rfl (by omega) (by omega) a s b hb h
  exact ⟨a', s', b', e, l, cc.mono (by omega)⟩
theorem made_cur {n : Nat} (hn : n ≤ 500000000) {a s : Int} (h : Cur n a) : ∃ (b : List Int) (d a' s' : Int), k65_p F c a s = some (b, d, a', s') ∧ b.length = 16 ∧ Cur (n + 2000) a' := by
  obtain ⟨b, a1, s1, e1, hb, c1⟩ := board_ok hc F hF (by omega) h (s := s)
  have c1 : Cur (n + 1000) a1 := c1.mono (by omega)
  obtain ⟨d, a2, s2, e2, c2⟩ := side_ok hc (by omega) c1 (s := s1)
  obtain ⟨v4, a4, s4, e4, c4⟩ := one_ok hc (by omega) (q := 4) (by decide) (by decide) c2 (s := s2)
  obtain ⟨v5, a5, s5, e5, c5⟩ := one_ok hc (by omega) (q := 2) (by decide) (by decide) c4 (s := s4)
  obtain ⟨v6, a6, s6, e6, c6⟩ := one_ok hc (by omega) (q := 2) (by decide) (by decide) c2 (s := s2)
  have q4 : ((4 : Nat) : Int) = 4 := rfl
  have q2 : ((2 : Nat) : Int) = 2 := rfl
  rw [q4] at e4
  rw [q2] at e5 e6
  have eb := k99_eq F b hb hF
  simp only [k65_p, k65_c, e1, e2, e4, e5, e6, eb, k114_v, u280, Option.isSome_some, Option.getD_some, cond_true]
  cases hB : okB b with
  | false => exact ⟨b, d, a2, s2, rfl, hb, c2.mono (by omega)⟩
  | true =>
    cases hd : inB d 0 3 with
    | false => exact ⟨b, d, a2, s2, rfl, hb, c2.mono (by omega)⟩
    | true =>
      obtain ⟨k, rfl, hk⟩ : ∃ n : Nat, d = n ∧ n < 4 := by
        simp [inB] at hd
        exact ⟨d.toNat, by omega, by omega⟩
      have es := spec_slide hb hB F hF hk
      obtain ⟨g1, g2⟩ := slide_ok hb hB hk
      have eb2 := k99_eq F (u070 b k).1 g1 hF
      obtain ⟨x1, x2, x3, f1, f2, f7⟩ := made_loop hc F hF (by omega) hk g1 c5 (s := s5)
      obtain ⟨y1, y2, y3, f3, f4, f8⟩ := made_loop hc F hF (by omega) hk hb c5 (s := s5)
      generalize u070 b k = w at *
      obtain ⟨w, sc⟩ := w
      simp only at g1 g2 eb2 f1
      simp only [es, eb2, g2, f1, f3, Option.isSome_some, Option.getD_some, cond_true, cond_false]
      cases v4 with
      | false =>
        cases v5 with
        | true => exact ⟨x3, _, _, _, rfl, f2, f7.mono (by omega)⟩
        | false => exact ⟨w, _, _, _, rfl, g1, c5.mono (by omega)⟩
      | true =>
        cases v5 with
        | true => exact ⟨y3, _, _, _, rfl, f4, f8.mono (by omega)⟩
        | false => exact ⟨b, _, _, _, rfl, hb, c5.mono (by omega)⟩
theorem made_ok {n : Nat} (hn : n ≤ 500000000) {a s : Int} (h : Cur n a) : ∃ (b : List Int) (d a' s' : Int), k65_p F c a s = some (b, d, a', s') ∧ b.length = 16 := by
  obtain ⟨b, d, a', s', e, l, _⟩ := made_cur hc F hF hn h (s := s)
  exact ⟨b, d, a', s', e, l⟩
end
end Go.Lv.P
namespace Go.Lv.P
open Go Go.Lv
theorem impl_made {b : List Int} (hb : b.length = 16) (F : Nat) (hF : 1000 < F) : k108_p F b = some (bif okB b then (decide ((0 : Int) < (((u101 b).length : Nat) : Int)), true) else (false, false)) := by
  simp only [k108_p, k108_c, k71_eq hb F hF, Option.isSome_some, Option.getD_some, cond_true]
  generalize u101 b = s
  cases okB b <;> rfl
theorem spec_made {b : List Int} (hb : b.length = 16) (F : Nat) (hF : 1000 < F) : k112_p F b = some (bif okB b then (decide ((0 : Int) < (((u101 b).length : Nat) : Int)), true) else (false, false)) := by
  simp only [k112_p, k112_c, k99_eq F b hb hF, Option.isSome_some, Option.getD_some, cond_true]
  cases ok : okB b with
  | false => rfl
  | true => simp only [u226 hb ok F hF, Option.isSome_some, Option.getD_some, cond_true, cond_false, Bool.not_true]
end Go.Lv.P
namespace Go.Lv.P
open Go Go.Lv
def u295 (b : List Int) (d : Nat) : Bool := (u070 b d).1 == b
def cS (b : List Int) (d : Nat) (some1 : Bool) (i k : Nat) : Bool :=
  bif some1 then decide (0 < mgN (rwB b d i) k) else Nat.beq (mgN (rwB b d i) k) (rwB b d i).length && !u295 b d
def otherB (b : List Int) (d : Nat) : Nat := fld (fun i n => bif decide (1 < (rwB b d i).length) then n + 1 else n) 0 4 0
def rowsI (b : List Int) (d i : Nat) : LL := bif u295 b d && (decide (1 < (rwB b d i).length) && Nat.beq (otherB b d) 1) then (rwB b d i).filter fun x => !(x == lineB b d i) else rwB b d i
def cI (b : List Int) (d : Nat) (all : Bool) (i k : Nat) : Bool := Nat.beq (mgN (rowsI b d i) k) (rowsI b d i).length || (!all && decide (0 < mgN (rowsI b d i) k))
section
variable {b : List Int} (hb : b.length = 16) (ok : okB b = true) {d : Nat} (hd : d < 4)
include hb ok hd
theorem line_ok4 {i : Nat} (hi : i < 4) : (lineB b d i).length = 4 ∧ ∀ x ∈ lineB b d i, u045 x := ⟨rfl, u078 hb ((u082 b).1 ok) hd hi⟩
theorem still_line (hs : u295 b d = true) {i : Nat} (hi : i < 4) : slR (lineB b d i) = lineB b d i := by
  have h := u114 hb ok hd hi
  have e : (u070 b d).1 = b := eq_of_beq hs
  rw [e] at h
  exact h.symm
theorem own_in (hs : u295 b d = true) {i : Nat} (hi : i < 4) : lineB b d i ∈ rwB b d i := still_in (line_ok4 hb ok hd hi).1 (line_ok4 hb ok hd hi).2 (still_line hb ok hd hs hi)
theorem rw_asc {i : Nat} (hi : i < 4) : Asc (rwB b d i) := (u125 (line_ok4 hb ok hd hi).1 (line_ok4 hb ok hd hi).2).1
end
attribute [local irreducible] rwB mkR
section
variable {b : List Int} (hb : b.length = 16) (ok : okB b = true) {d : Nat} (hd : d < 4)
include hb ok hd
theorem cnt_eq : cntB b d = bif u295 b d then ((rwB b d 0).length : Int) * (rwB b d 1).length * (rwB b d 2).length * (rwB b d 3).length - 1 else ((rwB b d 0).length : Int) * (rwB b d 1).length * (rwB b d 2).length * (rwB b d 3).length := by
  have l0 := u092 b d 0
  have l1 := u092 b d 1
  have l2 := u092 b d 2
  have l3 := u092 b d 3
  have m1 : (rwB b d 0).length * (rwB b d 1).length ≤ 256 * 256 := Nat.mul_le_mul l0 l1
  have m2 : (rwB b d 0).length * (rwB b d 1).length * (rwB b d 2).length ≤ 256 * 256 * 256 := Nat.mul_le_mul m1 l2
  have m3 : (rwB b d 0).length * (rwB b d 1).length * (rwB b d 2).length * (rwB b d 3).length ≤ 256 * 256 * 256 * 256 := Nat.mul_le_mul m2 l3
  unfold cntB u295
  generalize (rwB b d 0).length = n0 at *
  generalize (rwB b d 1).length = n1 at *
  generalize (rwB b d 2).length = n2 at *
  generalize (rwB b d 3).length = n3 at *
  have c1 : ((n0 : Int) * n1) = ((n0 * n1 : Nat) : Int) := by rw [Int.natCast_mul]
  have c2 : ((n0 : Int) * n1 * n2) = ((n0 * n1 * n2 : Nat) : Int) := by rw [Int.natCast_mul, Int.natCast_mul]
  have c3 : ((n0 : Int) * n1 * n2 * n3) = ((n0 * n1 * n2 * n3 : Nat) : Int) := by rw [Int.natCast_mul, Int.natCast_mul, Int.natCast_mul]
  simp only
  rw [Int.one_mul, u044 (n := (n0 : Int)) (by omega) (by omega), c1, u044 (n := ((n0 * n1 : Nat) : Int)) (by omega) (by omega), ← c1, c2, u044 (n := ((n0 * n1 * n2 : Nat) : Int)) (by omega) (by omega), ← c2, c3, u044 (n := ((n0 * n1 * n2 * n3 : Nat) : Int)) (by omega) (by omega), u044 (by omega) (by omega)]
end
def liD (d p : Nat) : Nat := match d with
  | 0 => p / 4
  | 1 => p % 4
  | 2 => p / 4
  | _ => p % 4
def kiD (d p : Nat) : Nat := match d with
  | 0 => p % 4
  | 1 => p / 4
  | 2 => 3 - p % 4
  | _ => 3 - p / 4
def celL (p : Nat) : List Int := [((p / 4 : Nat) : Int), ((p % 4 : Nat) : Int)]
def mgd (b : List Int) (d : Nat) (some1 : Bool) : LL := ((List.range 16).filter fun p => cS b d some1 (liD d p) (kiD d p)).map celL
end Go.Lv.P
namespace Go.Lv.P
open Go Go.Lv
theorem side_in (p : Nat → Bool) {d : Nat} (hd : d < 4) : (fld (fun d (out : List Int) => bif p d then out ++ [(d : Int)] else out) 0 4 []).contains (d : Int) = p d := by
  have e1 : p (0 + 1) = p 1 := rfl
  have e2 : p (0 + 1 + 1) = p 2 := rfl
  have e3 : p (0 + 1 + 1 + 1) = p 3 := rfl
  simp only [fld, e1, e2, e3]
  obtain rfl | rfl | rfl | rfl : d = 0 ∨ d = 1 ∨ d = 2 ∨ d = 3 := by omega
  all_goals (cases p 0 <;> cases p 1 <;> cases p 2 <;> cases p 3 <;> rfl)
theorem sides_has (b : List Int) {d : Nat} (hd : d < 4) : (u101 b).contains (d : Int) = decide ((0 : Int) < cntB b d) := side_in (fun d => decide ((0 : Int) < cntB b d)) hd
end Go.Lv.P
