/-
The boards before a board.
-/
import Derived.Test.YtgmnclpjbhmioaaGreatTZP0
import Derived.Test.YtgmnclpjbhmioaaGreatTZP1
import Derived.Test.YtgmnclpjbhmioaaGreatTZP2
import Derived.Test.YtgmnclpjbhmioaaGreatTZP5
import Derived.Test.YtgmnclpjbhmioaaGreatTZPLinesB
import Derived.Test.YtgmnclpjbhmioaaGreatTZPAllB
import Derived.Test.YtgmnclpjbhmioaaGreatTZPBefore
import Derived.Test.YtgmnclpjbhmioaaGreatTZPDelete
import Derived.Test.YtgmnclpjbhmioaaGreatTZPTail
namespace Go.Lv.P
open Go Go.Lv
set_option linter.unusedVariables false
set_option linter.unusedSimpArgs false
set_option linter.unusedSectionVars false

theorem Delete_own (F : Nat) (s : LL) (b : List Int) (q : List Int → Bool) (hs : s.length ≤ 1000) (hF : 1000 < F) (hq : ∀ x ∈ s, impl_BoardsBefore_f1_v x b = q x) :
    ∃ r, slices_DeleteFunc_implBoardimplBoard_impl_BoardsBefore_f1_p F s b = some r ∧ Deleted s q r := by
  have hg : ∀ i, i < s.length → impl_BoardsBefore_f1_v (rget s i) b = q (rget s i) := fun i hi => by
    refine hq _ ?_
    rw [rgetL, List.getElem?_eq_getElem hi]
    exact List.getElem_mem hi
  have h1 : slices_IndexFunc_implBoardimplBoard_impl_BoardsBefore_f1_l2 F s s.length b 0 = some (fnd (fun i => q (rget s i)) (fun i => (true, (i : Int))) (false, default) 0 s.length) := by
    refine loop_find (fun i => i) s.length _ _ _ (by omega) (by omega) (fun i hi Q kn kx => ?_) fun Q kn kx => ?_
    · simp only [slices_IndexFunc_implBoardimplBoard_impl_BoardsBefore_f1_s2, inR_cast, hi, hg i hi, Int.toNat_natCast, decide_true, cond_true, Int.ofNat_lt, Option.isSome_some, Option.getD_some]
    · simp [slices_IndexFunc_implBoardimplBoard_impl_BoardsBefore_f1_s2]
  simp only [slices_DeleteFunc_implBoardimplBoard_impl_BoardsBefore_f1_p, slices_DeleteFunc_implBoardimplBoard_impl_BoardsBefore_f1_c, slices_IndexFunc_implBoardimplBoard_impl_BoardsBefore_f1_p, slices_IndexFunc_implBoardimplBoard_impl_BoardsBefore_f1_c, subn_self, h1, Option.isSome_some, Option.getD_some, cond_true]
  rcases fnd_split s q s.length 0 (by omega) (by simp) with ⟨h2, h3⟩ | ⟨j, hj, h2, h3, h4⟩
  · rw [h2]
    refine ⟨(s.length, s), rfl, ?_⟩
    have e := filter_all (q := q) h3
    exact ⟨by rw [e], by rw [e]; exact List.take_length, rfl⟩
  · rw [h2]
    have hgj : rget s j = s[j] := by rw [rgetL, List.getElem?_eq_getElem hj]; rfl
    obtain ⟨s', l1, l2, l3⟩ := delete_loop (step := slices_DeleteFunc_implBoardimplBoard_impl_BoardsBefore_f1_s5 F s.length b) q (fun x => impl_BoardsBefore_f1_v x b = q x) s.length (by omega)
      (fun i j s'' hij hjn hl hp Q kn kx => by
        have hin : i < s.length := by omega
        simp only [slices_DeleteFunc_implBoardimplBoard_impl_BoardsBefore_f1_s5, Int.ofNat_lt, hjn, inR_cast, hin, Int.toNat_natCast, decide_true, cond_true, hp, Option.isSome_some, Option.getD_some]
        cases q (rget s'' (0 + j)) <;> rfl)
      (fun i s'' Q kn kx => by simp [slices_DeleteFunc_implBoardimplBoard_impl_BoardsBefore_f1_s5]) (s.length - (j + 1)) j (j + 1) F s (by omega) (by omega) (by omega) rfl (fun x hx => hq x (List.mem_of_mem_drop hx))
    have e : s.filter (fun x => !q x) = s.take j ++ (s.drop (j + 1)).filter (fun x => !q x) := by
      have e1 : s = s.take j ++ s[j] :: s.drop (j + 1) := by rw [← List.drop_eq_getElem_cons hj, List.take_append_drop]
      conv => lhs; rw [e1]
      rw [List.filter_append, List.filter_cons, ← hgj, h3]
      simp only [Bool.not_true, Bool.false_eq_true, if_false]
      rw [filter_all]
      exact h4
    have el : j + ((s.drop (j + 1)).filter fun x => !q x).length = (s.filter fun x => !q x).length := by
      rw [e, List.length_append, List.length_take, Nat.min_eq_left (Nat.le_of_lt hj)]
    rw [el] at l1 l3
    rw [← e] at l3
    have ll : (s.filter fun x => !q x).length ≤ s.length := List.length_filter_le _ _
    have l1' : slices_DeleteFunc_implBoardimplBoard_impl_BoardsBefore_f1_l5 F s.length b (j : Int) (IntKind.wrap .i64 ((j : Int) + 1)) s = some ((((s.filter fun x => !q x).length : Nat) : Int), s') := by
      rw [wrap_succ (n := s.length) hj (by omega)]
      exact l1
    have hne : ((j : Int) == -1) = false := by
      rw [beq_eq_false_iff_ne]; omega
    simp only [cond_true, Option.getD_some, l1', hne, cond_false, Option.isSome_some, inLe_cast, ll, decide_true, Int.toNat_natCast, Nat.sub_zero]
    refine ⟨_, rfl, rfl, ?_, ?_⟩
    · show (splice s' (0 + _) _ _).take _ = _
      rw [splice_take _ _ _ _ (by omega) (by simp), l3]
    · rw [← l2]
      show (splice s' (0 + _) _ _).length = _
      exact splice_len' _ _ _ (by omega) (by simp)


theorem spec_with (F : Nat) (hF : 1000 < F) (b row : List Int) {d i : Nat} (hd : d < 4) (hi : i < 4) : spec_l6With_p F b d i row = some (putB b d i row) := by
  obtain ⟨G, rfl⟩ : ∃ G, F = G + 1001 := ⟨F - 1001, by omega⟩
  simp only [spec_l6With_p, spec_l6With_c, spec_line G hd hi, put_line0 _ _ hd hi, put_line1 _ _ hd hi, put_line2 _ _ hd hi, put_line3 _ _ hd hi, Option.isSome_some, Option.getD_some, cond_true, putB]
theorem app_fld (h : List Int → LL) (ls : LL) : ∀ (m i : Nat) (s : LL), i + m = ls.length → fld (fun i s => s ++ h (rget ls i)) i m s = s ++ (ls.drop i).flatMap h
  | 0, i, s, hi => by rw [List.drop_eq_nil_of_le (by omega)]; simp [fld]
  | m + 1, i, s, hi => by
    have hil : i < ls.length := by omega
    have hg : rget ls i = ls[i] := by rw [rgetL, List.getElem?_eq_getElem hil]; rfl
    rw [fld, app_fld h ls m (i + 1) _ (by omega), List.drop_eq_getElem_cons hil, List.flatMap_cons, hg, List.append_assoc]
theorem fits128 {n : Nat} (h : n ≤ 4300000000) : fits n 128 = true := fits_of (by omega) (by omega)
section
variable {d : Nat} (hd : d < 4) (F : Nat) (hF : 10000000000 < F) (a b c e : LL)
include hd hF
theorem all_rows {i : Nat} (hi : i < 4) {ls : LL} (hg : llget [a, b, c, e] (0 + i * 1) = ls) (hl : ls.length ≤ 256) (out next : LL) {n : Nat} (hn : n < out.length) (hx : next.length ≤ 4294967296) :
    spec_l6All_l10 F d out.length i n a b c e out 0 next = some (next ++ ls.flatMap fun r => [putB (rget out n) d i r]) := by
  have h := loop_fold (step := spec_l6All_s10 F d out.length i n a b c e out) (fun k (s : LL) => (k, s)) ls.length (fun k s => s ++ [putB (rget out n) d i (rget ls k)]) (fun s => s) (fun k s => s.length ≤ next.length + k) (F := F) (by omega) (by omega) (a := next) (Nat.le_refl _)
    (fun k s hk hI => ⟨by show (s ++ [_]).length ≤ _; rw [List.length_append, List.length_singleton]; have : s.length ≤ next.length + k := hI; omega, fun Q kn kx => by
      have hI : s.length ≤ next.length + k := hI
      have hf : fits (s ++ [putB (rget out n) d i (rget ls k)]).length 128 = true := fits128 (by rw [List.length_append, List.length_singleton]; omega)
      simp only [spec_l6All_s10, inR_cast, hi, hg, Int.ofNat_lt, hk, hn, Int.toNat_natCast, Nat.zero_add, decide_true, cond_true, spec_with F (show 1000 < F by omega) _ _ hd hi, Option.isSome_some, Option.getD_some, subn_self, hf]
      rw [Nat.zero_add] at hg
      simp only [hg, hk, decide_true, cond_true, spec_with F (show 1000 < F by omega) _ _ hd hi, Option.isSome_some, Option.getD_some, hf]⟩)
    (fun s _ Q kn kx => by
      have e1 : decide (((ls.length : Nat) : Int) < ((ls.length : Nat) : Int)) = false := by simp
      simp only [spec_l6All_s10, inR_cast, hi, hg, Int.toNat_natCast, decide_true, cond_true, e1, cond_false])
  have h1 := h.1
  rw [app_fld (fun r => [putB (rget out n) d i r]) ls ls.length 0 next (by omega), List.drop_zero] at h1
  exact h1
theorem all_own {i : Nat} (hi : i < 4) {ls : LL} (hg : llget [a, b, c, e] (0 + i * 1) = ls) (hl : ls.length ≤ 256) (out : LL) (ho : out.length ≤ 16777216) : spec_l6All_l7 F d i a b c e out 0 [] = some (lvl d i ls out) := by
  have h := loop_fold (step := spec_l6All_s7 F d i a b c e out) (fun k (s : LL) => (k, s)) out.length (fun k s => s ++ ls.flatMap fun r => [putB (rget out k) d i r]) (fun s => s) (fun k s => s.length ≤ 256 * k) (F := F) (by omega) (by omega) (a := []) (Nat.le_refl _)
    (fun k s hk hI => by
      have hI : s.length ≤ 256 * k := hI
      have hfl := flat_le (h := fun r => [putB (rget out k) d i r]) (k := 1) (fun _ => Nat.le_refl _) ls
      refine ⟨?_, fun Q kn kx => ?_⟩
      · show (s ++ ls.flatMap fun r => [putB (rget out k) d i r]).length ≤ _
        rw [List.length_append]; omega
      · simp only [spec_l6All_s7, Int.ofNat_lt, hk, decide_true, cond_true, beq_selfL, Bool.true_and, all_rows hd F hF a b c e hi hg hl out s hk (by omega), Option.isSome_some, Option.getD_some])
    (fun s _ Q kn kx => by simp [spec_l6All_s7])
  have h1 := h.1
  rw [app_fld (fun o => ls.flatMap fun r => [putB o d i r]) out out.length 0 [] (by omega), List.drop_zero, List.nil_append] at h1
  exact h1
theorem pow_i {i : Nat} (hi : i < 4) : 256 ^ i ≤ 16777216 := Nat.le_trans (Nat.pow_le_pow_right (by omega) (show i ≤ 3 by omega)) (by decide)
theorem all_spec {o : List Int} (ho : o.length = 16) (ha : a.length ≤ 256) (hb : b.length ≤ 256) (hc : c.length ≤ 256) (he : e.length ≤ 256) : spec_l6All_l3 F d a b c e 0 [o] = some (allB d a b c e) := by
  have hall : ∀ i, i < 4 → (llget [a, b, c, e] (0 + i * 1)).length ≤ 256 := fun i hi => by
    obtain rfl | rfl | rfl | rfl : i = 0 ∨ i = 1 ∨ i = 2 ∨ i = 3 := by omega
    · exact ha
    · exact hb
    · exact hc
    · exact he
  have h := loop_fold (step := spec_l6All_s3 F d a b c e) (fun k (s : LL) => (k, s)) 4 (fun k s => lvl d k (llget [a, b, c, e] (0 + k * 1)) s) (fun s => s) (fun k s => s.length ≤ 256 ^ k) (F := F) (by omega) (by omega) (a := [o]) (Nat.le_refl _)
    (fun k s hk hI => by
      have hI : s.length ≤ 256 ^ k := hI
      have hp := pow_i hd F hF hk
      have hk' : (k : Int) < 4 := by omega
      refine ⟨?_, fun Q kn kx => ?_⟩
      · have := lvl_len (d := d) (i := k) (out := s) (hall k hk)
        show _ ≤ 256 ^ (k + 1)
        rw [Nat.pow_succ]; omega
      · simp only [spec_l6All_s3, hk', decide_true, cond_true, beq_selfL, Bool.true_and, all_own hd F hF a b c e hk rfl (hall k hk) s (by omega), Option.isSome_some, Option.getD_some])
    (fun s _ Q kn kx => by simp [spec_l6All_s3])
  rw [← lvl_all ho hd]
  exact h.1
theorem imp_rows {i : Nat} (hi : i < 4) {ls : LL} (hl : ls.length ≤ 256) (t1 t2 t3 t4 t5 : LL) (i1 i2 i3 : Int) (own bb : List Int) (out next : LL) (hx : next.length ≤ 4294967296) :
    impl_BoardsBefore_l12 F d i t1 t2 t3 t4 t5 i1 i2 i3 ls ((ls.length : Nat) : Int) bb own out 0 next = some (next ++ ls.flatMap fun r => [putB own d i r]) := by
  have h := loop_fold (step := impl_BoardsBefore_s12 F d i t1 t2 t3 t4 t5 i1 i2 i3 ls ((ls.length : Nat) : Int) bb own out) (fun k (s : LL) => (k, s)) ls.length (fun k s => s ++ [putB own d i (rget ls k)]) (fun s => s) (fun k s => s.length ≤ next.length + k) (F := F) (by omega) (by omega) (a := next) (Nat.le_refl _)
    (fun k s hk hI => ⟨by show (s ++ [_]).length ≤ _; rw [List.length_append, List.length_singleton]; have : s.length ≤ next.length + k := hI; omega, fun Q kn kx => by
      have hI : s.length ≤ next.length + k := hI
      have hf : fits (s ++ [putB own d i (rget ls k)]).length 128 = true := fits128 (by rw [List.length_append, List.length_singleton]; omega)
      simp only [impl_BoardsBefore_s12, inR_cast, Int.ofNat_lt, hk, Int.toNat_natCast, decide_true, cond_true, impl_with _ _ hd hi, Option.isSome_some, Option.getD_some, subn_self, hf]⟩)
    (fun s _ Q kn kx => by simp [impl_BoardsBefore_s12])
  have h1 := h.1
  rw [app_fld (fun r => [putB own d i r]) ls ls.length 0 next (by omega), List.drop_zero] at h1
  exact h1
theorem imp_own {i : Nat} (hi : i < 4) {ls : LL} (hl : ls.length ≤ 256) (t1 t2 t3 t4 : LL) (i1 : Int) (bb : List Int) (out : LL) (ho : out.length ≤ 16777216) : impl_BoardsBefore_l9 F d i ls t1 t2 t3 t4 i1 ((out.length : Nat) : Int) bb out 0 [] = some (lvl d i ls out) := by
  have h := loop_fold (step := impl_BoardsBefore_s9 F d i ls t1 t2 t3 t4 i1 ((out.length : Nat) : Int) bb out) (fun k (s : LL) => (k, s)) out.length (fun k s => s ++ ls.flatMap fun r => [putB (rget out k) d i r]) (fun s => s) (fun k s => s.length ≤ 256 * k) (F := F) (by omega) (by omega) (a := []) (Nat.le_refl _)
    (fun k s hk hI => by
      have hI : s.length ≤ 256 * k := hI
      have hfl := flat_le (h := fun r => [putB (rget out k) d i r]) (k := 1) (fun _ => Nat.le_refl _) ls
      refine ⟨?_, fun Q kn kx => ?_⟩
      · show (s ++ ls.flatMap fun r => [putB (rget out k) d i r]).length ≤ _
        rw [List.length_append]; omega
      · simp only [impl_BoardsBefore_s9, Int.ofNat_lt, hk, inR_cast, Int.toNat_natCast, Nat.zero_add, decide_true, cond_true, beq_selfL, Bool.true_and, imp_rows hd F hF hi hl _ _ _ _ _ _ _ _ _ _ _ s (show s.length ≤ 4294967296 by omega), Option.isSome_some, Option.getD_some])
    (fun s _ Q kn kx => by simp [impl_BoardsBefore_s9])
  have h1 := h.1
  rw [app_fld (fun o => ls.flatMap fun r => [putB o d i r]) out out.length 0 [] (by omega), List.drop_zero, List.nil_append] at h1
  exact h1
theorem all_impl (bb : List Int) {o : List Int} (ho : o.length = 16) (ha : a.length ≤ 256) (hb : b.length ≤ 256) (hc : c.length ≤ 256) (he : e.length ≤ 256) : impl_BoardsBefore_l5 F d a b c e bb 0 [o] = some (allB d a b c e) := by
  have hall : ∀ i, i < 4 → (llget [a, b, c, e] (0 + i * 1)).length ≤ 256 := fun i hi => by
    obtain rfl | rfl | rfl | rfl : i = 0 ∨ i = 1 ∨ i = 2 ∨ i = 3 := by omega
    · exact ha
    · exact hb
    · exact hc
    · exact he
  have h := loop_fold (step := impl_BoardsBefore_s5 F d a b c e bb) (fun k (s : LL) => (k, s)) 4 (fun k s => lvl d k (llget [a, b, c, e] (0 + k * 1)) s) (fun s => s) (fun k s => s.length ≤ 256 ^ k) (F := F) (by omega) (by omega) (a := [o]) (Nat.le_refl _)
    (fun k s hk hI => by
      have hI : s.length ≤ 256 ^ k := hI
      have hp := pow_i hd F hF hk
      have hk' : (k : Int) < 4 := by omega
      have hal := hall k hk
      rw [Nat.zero_add] at hal
      refine ⟨?_, fun Q kn kx => ?_⟩
      · have := lvl_len (d := d) (i := k) (out := s) (hall k hk)
        show _ ≤ 256 ^ (k + 1)
        rw [Nat.pow_succ]; omega
      · simp only [impl_BoardsBefore_s5, hk', hk, inR_cast, Int.toNat_natCast, Nat.zero_add, decide_true, cond_true, beq_selfL, Bool.true_and, imp_own hd F hF hk hal _ _ _ _ _ _ s (show s.length ≤ 16777216 by omega), Option.isSome_some, Option.getD_some])
    (fun s _ Q kn kx => by simp [impl_BoardsBefore_s5])
  rw [← lvl_all ho hd]
  exact h.1
end

/-- the first place that is not below -/
theorem put_at (b : List Int) : ∀ l : LL, (∀ x ∈ l, x.length = b.length) → Asc l → b ∉ l → ∃ n, n ≤ l.length ∧ (∀ i, n ≤ i → i < l.length → ltL b (rget l i) = true) ∧ (∀ i, i < n → ltL b (rget l i) = false) ∧ insB b l = l.take n ++ [b] ++ l.drop n
  | [], _, _, _ => ⟨0, Nat.le_refl _, fun i _ h => by simp at h, fun i h => by omega, rfl⟩
  | a :: r, hl, ⟨h1, h2⟩, hn => by
    rw [List.mem_cons, not_or] at hn
    cases h : ltL a b with
    | true =>
      obtain ⟨n, n1, n2, n3, n4⟩ := put_at b r (fun x hx => hl x (List.mem_cons_of_mem _ hx)) h2 hn.2
      refine ⟨n + 1, by simp; omega, fun i g1 g2 => ?_, fun i g => ?_, ?_⟩
      · cases i with
        | zero => omega
        | succ i => exact n2 i (by omega) (by simpa using g2)
      · cases i with
        | zero => exact ltL_asym h
        | succ i => exact n3 i (by omega)
      · simp only [insB, h, cond_true, n4, List.take_succ_cons, List.drop_succ_cons, List.cons_append]
    | false =>
      have hab : ltL b a = true := ltL_tot (hl a List.mem_cons_self) h (Ne.symm hn.1)
      refine ⟨0, Nat.zero_le _, fun i _ g2 => ?_, fun i g => by omega, ?_⟩
      · cases i with
        | zero => exact hab
        | succ i =>
          have hi : i < r.length := by simpa using g2
          refine ltL_trans hab (h1 _ ?_)
          show rget r i ∈ r
          rw [rgetL, List.getElem?_eq_getElem hi]; exact List.getElem_mem hi
      · have hba : (a == b) = false := by rw [beq_eq_false_iff_ne]; exact Ne.symm hn.1
        simp only [insB, h, hba, cond_false, List.take_zero, List.drop_zero, List.nil_append, List.singleton_append]
section
variable (F : Nat) (hF : 10000000000 < F) (L : LL) (hL : ∀ x ∈ L, x.length = 16) (hn : L.Nodup) (hlen : L.length ≤ 4294967296) (w : List Int)
include hF hL hn hlen
theorem scan_eq {i : Nat} (hi : i < L.length) {s : LL} (hs : ∀ x ∈ s, x.length = 16) {n : Nat} (hns : n ≤ s.length) (hsl : s.length ≤ 4294967296) (h1 : ∀ j, n ≤ j → j < s.length → ltL (rget L i) (rget s j) = true) (h2 : ∀ j, j < n → ltL (rget L i) (rget s j) = false) :
    ∀ (m G : Nat), m ≤ s.length → n ≤ m → m < G → loopC (spec_l6Sorted_s7 F L i w s) G (m : Int) some = some ((n : Nat) : Int)
  | 0, G, hm, hnm, hG => by
    obtain ⟨G, rfl⟩ : ∃ G', G = G' + 1 := ⟨G - 1, by omega⟩
    have : n = 0 := by omega
    subst this
    rfl
  | m + 1, G, hm, hnm, hG => by
    obtain ⟨G, rfl⟩ : ∃ G', G = G' + 1 := ⟨G - 1, by omega⟩
    have hp : decide ((0 : Int) < ((m + 1 : Nat) : Int)) = true := decide_eq_true (by omega)
    have hw : IntKind.wrap .i64 (((m + 1 : Nat) : Int) - 1) = ((m : Nat) : Int) := by rw [wrap_of (by omega) (by omega)]; omega
    have hml : m < s.length := by omega
    have hb := before_eq F (show 1000 < F by omega) (hL (rget L i) (by rw [rgetL, List.getElem?_eq_getElem hi]; exact List.getElem_mem hi)) (hs (rget s m) (by rw [rgetL, List.getElem?_eq_getElem hml]; exact List.getElem_mem hml))
    show spec_l6Sorted_s7 F L i w s _ _ _ _ = _
    simp only [spec_l6Sorted_s7, hp, cond_true, inR_cast, hi, decide_true, hw, hml, Int.toNat_natCast, Nat.zero_add, hb, Option.isSome_some, Option.getD_some]
    by_cases hnm2 : n ≤ m
    · rw [h1 m hnm2 hml, cond_true]
      exact scan_eq hi hs hns hsl h1 h2 m G (by omega) hnm2 (by omega)
    · have e : n = m + 1 := by omega
      subst e
      rw [h2 m (by omega), cond_false]
theorem sorted_spec : spec_l6Sorted_p F L w = some (insAll (L.filter fun x => !(x == w))) := by
  have hm : ∀ i, i < L.length → rget L i = L[i]! := fun i hi => by rw [rgetL]; simp [hi]
  have h := loop_fold (step := spec_l6Sorted_s3 F L w) (fun i (s : LL) => (i, s)) L.length (fun i s => bif rget L i == w then s else insB (rget L i) s) (fun s => s) (fun i s => s = insAll ((L.take i).filter fun x => !(x == w))) (F := F) (by omega) (by omega) (a := []) (by simp [insAll])
    (fun i s hi hI => by
      have hI : s = insAll ((L.take i).filter fun x => !(x == w)) := hI
      have hil : rget L i = L[i] := by rw [rgetL, List.getElem?_eq_getElem hi]; rfl
      obtain ⟨f1, f2, f3⟩ := insAll_facts (m := 16) ((L.take i).filter fun x => !(x == w)) [] (fun x hx => hL x (List.mem_of_mem_take (List.mem_filter.1 hx).1)) (fun x hx => by cases hx) trivial
      have hs16 : ∀ x ∈ s, x.length = 16 := fun x hx => f3 x (by rw [hI] at hx; exact hx)
      have hasc : Asc s := by rw [hI]; exact f1
      have hmem : ∀ x, x ∈ s → x ∈ L.take i := fun x hx => by
        rw [hI] at hx
        rcases (f2 x).1 hx with h | h
        · cases h
        · exact (List.mem_filter.1 h).1
      have hnot : rget L i ∉ s := fun hx => by
        have h1 := hmem _ hx
        rw [hil] at h1
        have h2 : (L.take i ++ L[i] :: L.drop (i + 1)).Nodup := by rw [← List.drop_eq_getElem_cons hi, List.take_append_drop]; exact hn
        exact (List.nodup_append.1 h2).2.2 _ h1 _ List.mem_cons_self rfl
      have hsl : s.length ≤ i := by
        have hcnt : ∀ (l t : LL), (l.foldl (fun s x => insB x s) t).length ≤ t.length + l.length := fun l => by
          induction l with
          | nil => intro t; simp
          | cons a r ih =>
            intro t
            rw [List.foldl_cons, List.length_cons]
            have h1 := ih (insB a t)
            have h2 : (insB a t).length ≤ t.length + 1 := by
              clear h1
              induction t with
              | nil => simp [insB]
              | cons c q ihq =>
                simp only [insB]
                cases ltL c a with
                | true => simp only [cond_true, List.length_cons]; omega
                | false => cases c == a <;> simp
            omega
        have h1 := hcnt ((L.take i).filter fun x => !(x == w)) []
        have h2 := List.length_filter_le (fun x => !(x == w)) (L.take i)
        have h3 := List.length_take_le i L
        rw [hI, insAll]
        simp only [List.length_nil] at h1
        omega
      have htk : (L.take (i + 1)).filter (fun x => !(x == w)) = bif rget L i == w then (L.take i).filter (fun x => !(x == w)) else (L.take i).filter (fun x => !(x == w)) ++ [rget L i] := by
        rw [List.take_succ_eq_append_getElem hi, List.filter_append, hil]
        cases hc : L[i] == w with
        | true => simp [hc]
        | false => simp [hc]
      obtain ⟨n, n1, n2, n3, n4⟩ := put_at (rget L i) s (fun x hx => by rw [hs16 x hx, hL _ (by rw [hil]; exact List.getElem_mem hi)]) hasc hnot
      refine ⟨?_, fun Q kn kx => ?_⟩
      · show (bif rget L i == w then s else insB (rget L i) s) = _
        rw [htk]
        cases rget L i == w with
        | true => exact hI
        | false => simp only [cond_false]; rw [insAll, List.foldl_append, hI]; rfl
      · have hsc : spec_l6Sorted_l7 F L i w s ((s.length : Nat) : Int) = some ((n : Nat) : Int) := scan_eq F hF L hL hn hlen w hi hs16 n1 (by omega) n2 n3 s.length F (Nat.le_refl _) n1 (by omega)
        simp only [spec_l6Sorted_s3, Int.ofNat_lt, hi, decide_true, cond_true, inR_cast, Int.toNat_natCast]
        cases hc : rget L i == w with
        | true => simp only [cond_true]
        | false =>
          have t1 : (s.take n).length = n := by rw [List.length_take]; omega
          have e1 : subn s.length s 0 n = s.take n := subn_take0 s n
          have e2 : subn s.length s n (s.length - n) = s.drop n := by
            rw [subn_eqL _ _ _ _ rfl]
            show (s.drop n).take (s.length - n) = s.drop n
            rw [List.take_of_length_le (by simp)]
          have f1 : fits (s.take n).length 128 = true := fits128 (by omega)
          have f2 : fits (s.take n ++ [rget L i]).length 128 = true := fits128 (by rw [List.length_append, List.length_singleton]; omega)
          have f3 : fits (s.take n ++ [rget L i] ++ s.drop n).length 128 = true := fits128 (by rw [List.length_append, List.length_append, List.length_singleton, List.length_drop]; omega)
          have hle : decide (n ≤ s.length) = true := decide_eq_true n1
          simp only [cond_false, beq_selfL, Bool.true_and, hsc, Option.isSome_some, Option.getD_some, cond_true, inLe_cast, hle, Int.toNat_natCast, Nat.sub_zero, Nat.zero_add, e1, e2, subn_self, f1, f2, f3, n4])
    (fun s _ Q kn kx => by simp [spec_l6Sorted_s3])
  have h1 : spec_l6Sorted_l3 F L w 0 [] = some (insAll (L.filter fun x => !(x == w))) := by
    have h2 := h.2
    rw [List.take_length] at h2
    exact h.1.trans (congrArg some h2)
  simp only [spec_l6Sorted_p, spec_l6Sorted_c, h1, Option.isSome_some, Option.getD_some, cond_true]
end
/-- slices.Compact where no neighbours are the same -/
theorem compact_none (F n : Nat) (s : LL) (hn : n ≤ s.length) (hb : n ≤ 4300000000) (hF : 10000000000 < F) (hp : ∀ i, 1 ≤ i → i < n → (rget s i == rget s (i - 1)) = false) : slices_Compact_implBoardimplBoard_p F n s = some (n, s) := by
  by_cases h2 : n < 2
  · have hd : decide (((n : Nat) : Int) < 2) = true := decide_eq_true (by omega)
    simp only [slices_Compact_implBoardimplBoard_p, slices_Compact_implBoardimplBoard_c, hd, cond_true]
  · have hd : decide (((n : Nat) : Int) < 2) = false := decide_eq_false (by omega)
    have key : ∀ (m j G : Nat), j + m = n → 1 ≤ j → m < G → loopC (slices_Compact_implBoardimplBoard_s4 F n s) G (j : Int) some = some (false, default, default) := by
      intro m
      induction m with
      | zero =>
        intro j G hj h1 hG
        obtain ⟨G, rfl⟩ : ∃ G', G = G' + 1 := ⟨G - 1, by omega⟩
        have hlt : decide ((j : Int) < ((n : Nat) : Int)) = false := decide_eq_false (by omega)
        simp only [loopC, slices_Compact_implBoardimplBoard_s4, hlt, cond_false]
      | succ m ih =>
        intro j G hj h1 hG
        obtain ⟨G, rfl⟩ : ∃ G', G = G' + 1 := ⟨G - 1, by omega⟩
        have hlt : j < n := by omega
        have hj1 : j - 1 < n := by omega
        have hw : IntKind.wrap .i64 ((j : Int) - 1) = ((j - 1 : Nat) : Int) := by rw [wrap_of (by omega) (by omega)]; omega
        simp only [loopC, slices_Compact_implBoardimplBoard_s4, Int.ofNat_lt, hlt, decide_true, cond_true, inR_cast, hw, hj1, Int.toNat_natCast, Nat.zero_add, hp j h1 hlt, cond_false]
        rw [wrap_succ (n := n) hlt (by omega)]
        exact ih (j + 1) G (by omega) (by omega) (by omega)
    have h1 : slices_Compact_implBoardimplBoard_l4 F n s 1 = some (false, default, default) := key (n - 1) 1 F (by omega) (by omega) (by omega)
    simp only [slices_Compact_implBoardimplBoard_p, slices_Compact_implBoardimplBoard_c, hd, cond_false, h1, Option.isSome_some, Option.getD_some, cond_true]
theorem ordered_own (F : Nat) (hF : 10000000000 < F) (n : Nat) (m : LL) (hn : n ≤ m.length) (hm : m.length ≤ 1000000000) (h16 : ∀ x ∈ m.take n, x.length = 16) (hnd : (m.take n).Nodup) : impl_ordered_p F n m = some (n, sortP n m) ∧ (sortP n m).take n = insAll (m.take n) := by
  have hs := sort_ins h16 hnd
  have hl : (sortL (m.take n)).length = n := by rw [sort_len, List.length_take]; omega
  have ht : (sortP n m).take n = insAll (m.take n) := by
    unfold sortP
    rw [List.take_append_of_le_length (by omega), List.take_of_length_le (by omega), hs]
  have hasc : Asc (insAll (m.take n)) := (insAll_facts (m := 16) (m.take n) [] h16 (fun x hx => by cases hx) trivial).1
  have hil : (insAll (m.take n)).length = n := by rw [← hs, hl]
  have hg : ∀ i, i < n → rget (sortP n m) i = rget (insAll (m.take n)) i := fun i hi => by
    rw [← ht, rgetL, rgetL, List.getElem?_take, if_pos hi]
  refine ⟨?_, ht⟩
  have hsp : (sortP n m).length = m.length := by unfold sortP; rw [List.length_append, hl, List.length_drop]; omega
  have hc := compact_none F n (sortP n m) (by omega) (by omega) hF fun i h1 h2 => by
    rw [hg i h2, hg (i - 1) (by omega)]
    have := asc_step hasc (i - 1) (by omega)
    rw [show i - 1 + 1 = i by omega] at this
    rw [beq_eq_false_iff_ne]
    intro e
    rw [e, ltL_irr] at this; cases this
  have hb0 : Nat.ble n m.length = true := Nat.ble_eq.symm ▸ hn
  have hb1 : Nat.blt 1000 F = true := Nat.blt_eq.mpr (by omega)
  have hb2 : Nat.ble m.length 1000000000 = true := Nat.ble_eq.symm ▸ hm
  simp only [impl_ordered_p, impl_ordered_c, hc, hb0, hb1, hb2, Bool.and_self, cond_true, Option.isSome_some, Option.getD_some]
end Go.Lv.P
