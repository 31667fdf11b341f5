/-
Plain facts of the pure functions, part 8; without conditions.
-/
import Derived.Test.YtabfliifleonaakGreatQkP0
import Derived.Test.YtabfliifleonaakGreatQkP1
import Derived.Test.YtabfliifleonaakGreatQkP7
import Derived.Test.YtabfliifleonaakGreatQkPG7
import Derived.Test.YtabfliifleonaakGreatQkPG1
import Derived.Test.YtabfliifleonaakGreatQkPG2
import Derived.Test.YtabfliifleonaakGreatQkP4
import Derived.Test.YtabfliifleonaakGreatQkP6
import Derived.Test.YtabfliifleonaakGreatQkPG3
set_option linter.unusedVariables false
set_option linter.unusedSimpArgs false
set_option linter.unusedSectionVars false
namespace Go.Lv.P
open Go Go.Lv
theorem Delete_arises (F : Nat) (s : LL) (b : List Int) (q : List Int → Bool) (hs : s.length ≤ 1000) (hF : 1000 < F) (hq : ∀ x ∈ s, k46_p F x b = some (q x)) :
    ∃ r, k11_p F s b = some r ∧ Deleted s q r := by
  have hg : ∀ i, i < s.length → k46_p F (rget s i) b = some (q (rget s i)) := fun i hi => by
    refine hq _ ?_
    rw [rgetL, List.getElem?_eq_getElem hi]
    exact List.getElem_mem hi
  have h1 : k13_l2 F s s.length b 0 = some (fnd (fun i => q (rget s i)) (fun i => (true, (i : Int))) (false, default) 0 s.length) := by
    refine u061 (fun i => i) s.length _ _ _ (by omega) (by omega) (fun i hi Q kn kx => ?_) fun Q kn kx => ?_
    · simp only [k13_s2, u021, hi, hg i hi, Int.toNat_natCast, decide_true, cond_true, Int.ofNat_lt, Option.isSome_some, Option.getD_some]
    · simp [k13_s2]
  simp only [k11_p, k11_c, k13_p, k13_c, u033, h1, Option.isSome_some, Option.getD_some, cond_true]
  rcases fnd_split s q s.length 0 (by omega) (by simp) with ⟨h2, h3⟩ | ⟨j, hj, h2, h3, h4⟩
  · rw [h2]
    refine ⟨(s.length, s), rfl, ?_⟩
    have e := u170 (q := q) h3
    exact ⟨by rw [e], by rw [e]; exact List.take_length, rfl⟩
  · rw [h2]
    have hgj : rget s j = s[j] := by rw [rgetL, List.getElem?_eq_getElem hj]; rfl
    obtain ⟨s', l1, l2, l3⟩ := u150 (step := k11_s5 F s.length b) q (fun x => k46_p F x b = some (q x)) s.length (by omega)
      (fun i j s'' hij hjn hl hp Q kn kx => by
        have hin : i < s.length := by omega
        simp only [k11_s5, Int.ofNat_lt, hjn, u021, hin, Int.toNat_natCast, decide_true, cond_true, hp, Option.isSome_some, Option.getD_some]
        cases q (rget s'' (0 + j)) <;> rfl)
      (fun i s'' Q kn kx => by simp [k11_s5]) (s.length - (j + 1)) j (j + 1) F s (by omega) (by omega) (by omega) rfl (fun x hx => hq x (List.mem_of_mem_drop hx))
    have e : s.filter (fun x => !q x) = s.take j ++ (s.drop (j + 1)).filter (fun x => !q x) := by
      have e1 : s = s.take j ++ s[j] :: s.drop (j + 1) := by rw [← List.drop_eq_getElem_cons hj, List.take_append_drop]
      conv => lhs; rw [e1]
      rw [List.filter_append, List.filter_cons, ← hgj, h3]
      simp only [Bool.not_true, Bool.false_eq_true, if_false]
      rw [u170]
      exact h4
    have el : j + ((s.drop (j + 1)).filter fun x => !q x).length = (s.filter fun x => !q x).length := by
      rw [e, List.length_append, List.length_take, Nat.min_eq_left (Nat.le_of_lt hj)]
    rw [el] at l1 l3
    rw [← e] at l3
    have ll : (s.filter fun x => !q x).length ≤ s.length := List.length_filter_le _ _
    have l1' : k11_l5 F s.length b (j : Int) (IntKind.wrap .i64 ((j : Int) + 1)) s = some ((((s.filter fun x => !q x).length : Nat) : Int), s') := by
      rw [u047 (n := s.length) hj (by omega)]
      exact l1
    have hne : ((j : Int) == -1) = false := by
      rw [beq_eq_false_iff_ne]; omega
    simp only [cond_true, Option.getD_some, l1', hne, cond_false, Option.isSome_some, u111, ll, decide_true, Int.toNat_natCast, Nat.sub_zero]
    refine ⟨_, rfl, rfl, ?_, ?_⟩
    · show (u029 s' (0 + _) _ _).take _ = _
      rw [u266 _ _ _ _ (by omega) (by simp), l3]
    · rw [← l2]
      show (u029 s' (0 + _) _ _).length = _
      exact u267 _ _ _ (by omega) (by simp)
def arB (b : List Int) (n : Nat) : Bool := inB (iget b n) 1 2 && decide ((0 : Int) < (((u101 (iset b n 0)).length : Nat) : Int))
theorem zero_ok {b : List Int} (hb : b.length = 16) (ok : okB b = true) (n : Nat) : (iset b n 0).length = 16 ∧ okB (iset b n 0) = true := by
  refine ⟨by rw [u104, hb], (u082 _).2 ?_⟩
  exact u130 (p := u045) ((u082 b).1 ok) n (by simp [u045, inB])
section
variable {b : List Int} (hb : b.length = 16) (ok : okB b = true) (F : Nat) (hF : 1000 < F)
include hb ok hF
theorem arises_f1 : ∀ x ∈ cells16, k46_p F x b = some (!arB b (plc x)) :=
  u220 fun r c hr hc => by
    have e : k78_p [(r : Int), (c : Int)] b = some (plc [(r : Int), (c : Int)]) := by
      simp only [k78_p, k78_c, show iget [(r : Int), (c : Int)] 0 = r from rfl, show iget [(r : Int), (c : Int)] 1 = c from rfl, u021, hr, hc, decide_true, cond_true, plc]
    have z := zero_ok hb ok (plc [(r : Int), (c : Int)])
    simp only [k46_p, k46_c, e, Option.isSome_some, Option.getD_some, cond_true, impl_made z.1 F hF, z.2, in_eq, arB]
    generalize u101 (iset b (plc [(r : Int), (c : Int)]) 0) = s
    cases inB (iget b (plc [(r : Int), (c : Int)])) 1 2 <;> rfl
theorem spec_arises : k89_l5 F b 0 [] = some (cells16.filter fun c => arB b (plc c)) := by
  let hc : Nat → Nat → LL := fun r c => bif arB b (0 + r * 4 + c * 1) then [[(r : Int), (c : Int)]] else []
  have hc1 : ∀ r c, (hc r c).length ≤ 1 := fun r c => by
    show (bif arB b (0 + r * 4 + c * 1) then [[(r : Int), (c : Int)]] else [] : LL).length ≤ 1
    cases arB b (0 + r * 4 + c * 1) <;> simp
  have hin : ∀ (r : Nat) (out : LL), r < 4 → out.length ≤ 100 → k89_l8 F r b 0 out = some (out ++ (List.range' 0 4).flatMap (hc r)) := fun r out hr ho => by
    rw [← fld_add]
    refine (u036 (step := k89_s8 F r b) (fun i a => (i, a)) 4 (fun i a => a ++ hc r i) (fun a => a) (fun i a => a.length ≤ 100 + i) (F := F) (by omega) (by omega) (a := out) (by omega) (fun i a hi hI => ⟨?_, fun Q kn kx => ?_⟩) (fun a _ Q kn kx => by simp [k89_s8])).1
    · have := hc1 r i
      simp only [List.length_append]
      omega
    · have hi' : (i : Int) < 4 := by omega
      have hf : fits (a ++ [[(r : Int), (i : Int)]]).length 16 = true := u093 (by simp; omega) (by simp; omega)
      have e : k131_p b [(r : Int), (i : Int)] = some (iget b (0 + r * 4 + i * 1)) := by
        simp only [k131_p, k131_c, show iget [(r : Int), (i : Int)] 0 = r from rfl, show iget [(r : Int), (i : Int)] 1 = i from rfl, u021, hr, hi, decide_true, cond_true, Int.toNat_natCast]
      have e2 : k124_p b [(r : Int), (i : Int)] 0 = some (iset b (0 + r * 4 + i * 1) 0) := by
        simp only [k124_p, k124_c, show iget [(r : Int), (i : Int)] 0 = r from rfl, show iget [(r : Int), (i : Int)] 1 = i from rfl, u021, hr, hi, decide_true, cond_true, Int.toNat_natCast]
      have z := zero_ok hb ok (0 + r * 4 + i * 1)
      simp only [k89_s8, hi', decide_true, cond_true, e, e2, u226 z.1 z.2 F hF, Option.isSome_some, Option.getD_some, u033, hf, u280, hc, arB]
      cases inB (iget b (0 + r * 4 + i * 1)) 1 2
      · simp only [cond_false, Bool.false_and, List.append_nil]
      · simp only [cond_true, Bool.true_and]
        cases decide ((0 : Int) < (((u101 (iset b (0 + r * 4 + i * 1) 0)).length : Nat) : Int))
        · simp only [cond_false, List.append_nil]
        · rfl
  have hout : k89_l5 F b 0 [] = some ([] ++ (List.range' 0 4).flatMap fun r => (List.range' 0 4).flatMap (hc r)) := by
    rw [← fld_add]
    refine (u036 (step := k89_s5 F b) (fun i a => (i, a)) 4 (fun r a => a ++ (List.range' 0 4).flatMap (hc r)) (fun a => a) (fun i a => a.length ≤ 4 * i) (F := F) (by omega) (by omega) (a := []) (by simp) (fun i a hi hI => ⟨?_, fun Q kn kx => ?_⟩) (fun a _ Q kn kx => by simp [k89_s5])).1
    · have := flat_len (hc1 i) 4 0
      simp only [List.length_append]
      omega
    · have hi' : (i : Int) < 4 := by omega
      simp only [k89_s5, hi', decide_true, cond_true, hin i a hi (by omega), u037, Option.isSome_some, Option.getD_some, Bool.and_self]
  rw [hout]
  congr 1
  rw [u169]
  simp only [List.range'_succ, List.range'_zero, List.flatMap_cons, List.flatMap_nil, List.append_nil, List.nil_append, List.append_assoc, hc, cells16]
  rfl
end
theorem cells_two : ∀ x ∈ cells16, x.length = 2 := u220 fun r c _ _ => rfl
theorem arises_val (F : Nat) (b : List Int) (hb : b.length = 16) (hF : 1000 < F) : ∃ (n : Nat) (m v : LL) (o : Bool), k89_p F b = some (o, v) ∧ k76_p F b = some (n, o, m) ∧ m.take n = v ∧ v.length = n ∧ n ≤ m.length ∧ n ≤ 40 ∧ (∀ x ∈ v, x.length = 2) ∧ v = bif okB b then cells16.filter (fun c => arB b (plc c)) else [] := by
  simp only [k89_p, k89_c, k76_p, k76_c, k99_eq F b hb hF, k96_eq F b hb hF, Option.isSome_some, Option.getD_some, cond_true]
  cases hB : okB b with
  | false => exact ⟨0, [], [], false, rfl, rfl, rfl, rfl, by simp, by simp, by simp, rfl⟩
  | true =>
    obtain ⟨r, hr, hd⟩ := Delete_arises F cells16 b (fun c => !arB b (plc c)) (by decide) hF (arises_f1 hb hB F hF)
    obtain ⟨d1, d2, d3⟩ := hd
    simp only [Bool.not_not] at d1 d2 d3
    have dl : (cells16.filter fun c => arB b (plc c)).length ≤ 16 := List.length_filter_le _ _
    have d3 : r.2.length = 16 := d3
    simp only [spec_arises hb hB F hF, hr, Option.isSome_some, Option.getD_some, cond_true, Bool.not_true, cond_false]
    exact ⟨r.1, r.2, _, true, rfl, rfl, d2, d1.symm, by omega, by omega, fun x hx => cells_two x ((List.mem_filter.1 hx).1), rfl⟩
end Go.Lv.P
namespace Go.Lv.P
open Go Go.Lv
theorem u140 {h : List Int → LL} {k : Nat} : ∀ {l : LL}, (∀ x ∈ l, (h x).length = k) → (l.flatMap h).length = l.length * k
  | [], _ => by simp
  | a :: r, hk => by
    rw [List.flatMap_cons, List.length_append, hk a List.mem_cons_self, u140 fun x hx => hk x (List.mem_cons_of_mem _ hx), List.length_cons, Nat.succ_mul]; omega
theorem all_length (d : Nat) (a b c e : LL) : (allB d a b c e).length = a.length * (b.length * (c.length * (e.length * 1))) := by
  unfold allB
  exact u140 fun r0 _ => u140 fun r1 _ => u140 fun r2 _ => u140 fun r3 _ => rfl
def bbfL (b : List Int) (d : Nat) : LL := allB d (rwB b d 0) (rwB b d 1) (rwB b d 2) (rwB b d 3)
theorem mul256 {x y k : Nat} (hx : x ≤ k) (hy : y ≤ 256) : x * y ≤ k * 256 := Nat.mul_le_mul hx hy
theorem cnt_len (b : List Int) (d : Nat) (h : cntB b d ≤ 300) : (bbfL b d).length ≤ 301 := by
  have l0 := u092 b d 0
  have l1 := u092 b d 1
  have l2 := u092 b d 2
  have l3 := u092 b d 3
  rw [bbfL, all_length, Nat.mul_one]
  unfold cntB at h
  generalize (rwB b d 0).length = n0 at *
  generalize (rwB b d 1).length = n1 at *
  generalize (rwB b d 2).length = n2 at *
  generalize (rwB b d 3).length = n3 at *
  have p1 : n0 * n1 ≤ 256 * 256 := mul256 l0 l1
  have p2 : n0 * n1 * n2 ≤ 256 * 256 * 256 := mul256 p1 l2
  have p3 : n0 * n1 * n2 * n3 ≤ 256 * 256 * 256 * 256 := mul256 p2 l3
  have w0 : IntKind.wrap .i64 ((1 : Int) * ((n0 : Nat) : Int)) = ((n0 : Nat) : Int) := by rw [Int.one_mul, u044 (by omega) (by omega)]
  have w1 : IntKind.wrap .i64 (((n0 : Nat) : Int) * ((n1 : Nat) : Int)) = ((n0 * n1 : Nat) : Int) := by rw [← Int.natCast_mul, u044 (by omega) (by omega)]
  have w2 : IntKind.wrap .i64 (((n0 * n1 : Nat) : Int) * ((n2 : Nat) : Int)) = ((n0 * n1 * n2 : Nat) : Int) := by rw [← Int.natCast_mul, u044 (by omega) (by omega)]
  have w3 : IntKind.wrap .i64 (((n0 * n1 * n2 : Nat) : Int) * ((n3 : Nat) : Int)) = ((n0 * n1 * n2 * n3 : Nat) : Int) := by rw [← Int.natCast_mul, u044 (by omega) (by omega)]
  simp only [w0, w1, w2, w3] at h
  have e : n0 * (n1 * (n2 * n3)) = n0 * n1 * n2 * n3 := by rw [← Nat.mul_assoc, ← Nat.mul_assoc]
  rw [e]
  generalize n0 * n1 * n2 * n3 = p at *
  cases hs : (u070 b d).1 == b with
  | true =>
    rw [hs, cond_true, u044 (by omega) (by omega)] at h
    omega
  | false =>
    rw [hs, cond_false] at h
    omega
theorem boards_val (F : Nat) (b : List Int) (hb : b.length = 16) (d : Int) (hF : 10000000000 < F) : ∃ (k : Nat) (m v : LL) (o : Bool), k43_p F b d = some (o, v) ∧ k34_p F b d = some (k, o, m) ∧ m.take k = v ∧ v.length = k ∧ k ≤ m.length ∧ k ≤ 1000 ∧ o = (okB b && (inB d 0 3 && decide (cntB b d.toNat ≤ 300))) ∧ (o = true → v = u105 ((bbfL b d.toNat).filter fun x => !(x == b))) := by
  have hF1 : 1000 < F := by omega
  simp only [k43_p, k43_c, k34_p, k34_c, k99_eq F b hb hF1, k96_eq F b hb hF1, Option.isSome_some, Option.getD_some, cond_true, k114_v, k50_v, u280, in_eq]
  cases hB : okB b with
  | false => exact ⟨0, [], [], false, rfl, rfl, rfl, rfl, by simp, by simp, rfl, fun h => by cases h⟩
  | true =>
    cases hd : inB d 0 3 with
    | false => exact ⟨0, [], [], false, rfl, rfl, rfl, rfl, by simp, by simp, rfl, fun h => by cases h⟩
    | true =>
      simp [inB] at hd
      obtain ⟨n, rfl⟩ := Int.eq_ofNat_of_zero_le hd.1
      have hn : n < 4 := by omega
      simp only [u100 hb hB F hF1 hn, u088 hb hB F hF1 hn, impl_lines hb hB F hF1 hn, Option.isSome_some, Option.getD_some, cond_true, Bool.not_true, cond_false]
      by_cases hc : 300 < cntB b n
      · simp only [hc, decide_true, cond_true]
        exact ⟨0, [], [], false, rfl, rfl, rfl, rfl, by simp, by simp, by rw [Int.toNat_natCast, decide_eq_false (by omega)]; rfl, fun h => by cases h⟩
      · have hcl := cnt_len b n (by omega)
        simp only [hc, decide_false, cond_false]
        have a4 : ∀ i, i < 4 → ∀ x ∈ rwB b n i, x.length = 4 := fun i hi x hx => (rw_ok hb hB hn hi x hx).1
        have asc : ∀ i, i < 4 → (rwB b n i).Nodup := fun i hi => asc_nodup (u125 (row := lineB b n i) rfl (u078 hb ((u082 b).1 hB) hn hi)).1
        have h16 : ∀ x ∈ bbfL b n, x.length = 16 := all_len16 _ _ _ _ _
        have hnd : (bbfL b n).Nodup := all_nodup hn (asc 0 (by decide)) (asc 1 (by decide)) (asc 2 (by decide)) (asc 3 (by decide)) (a4 0 (by decide)) (a4 1 (by decide)) (a4 2 (by decide)) (a4 3 (by decide))
        have s1 : k127_p F b n = some (bbfL b n) := by
          simp only [k127_p, k127_c, spec_lists hb hB F hF1 hn, Option.isSome_some, Option.getD_some, cond_true, all_spec hn F hF _ _ _ _ hb (u092 b n 0) (u092 b n 1) (u092 b n 2) (u092 b n 3)]
          rfl
        have i1 : k34_l5 F n (rwB b n 0) (rwB b n 1) (rwB b n 2) (rwB b n 3) b 0 [zeroB] = some (bbfL b n) := all_impl hn F hF _ _ _ _ b rfl (u092 b n 0) (u092 b n 1) (u092 b n 2) (u092 b n 3)
        have s2 := sorted_spec F hF (bbfL b n) h16 hnd (by omega) b
        obtain ⟨r, i2, d1, d2, d3⟩ := Delete_own F (bbfL b n) b (fun x => x == b) (by omega) hF1 (fun x hx => rfl)
        have hfl := List.length_filter_le (fun x => !(x == b)) (bbfL b n)
        simp only at d1 d2 d3
        obtain ⟨i3, i4⟩ := ordered_own F hF r.1 r.2 (by omega) (by omega) (by rw [d2]; exact fun x hx => h16 x (List.mem_filter.1 hx).1) (by rw [d2]; exact hnd.sublist List.filter_sublist)
        have hsp : (sortP r.1 r.2).length = r.2.length := by unfold sortP; rw [List.length_append, u177, List.length_take, List.length_drop]; omega
        simp only [s1, i1, i2, i3, s2, u033, u037, Bool.and_self, Option.isSome_some, Option.getD_some, cond_true]
        refine ⟨r.1, sortP r.1 r.2, _, true, rfl, rfl, by rw [i4, d2], ?_, by omega, by omega, by rw [Int.toNat_natCast, decide_eq_true (by omega)]; rfl, fun _ => rfl⟩
        have h1 := congrArg List.length i4
        rw [d2, List.length_take] at h1
        omega
end Go.Lv.P
namespace Go.Lv.P
open Go Go.Lv
theorem full_lines {d : Nat} (hd : d < 4) {r0 r1 r2 r3 : List Int} (h0 : r0.length = 4) (h1 : r1.length = 4) (h2 : r2.length = 4) (h3 : r3.length = 4) : lineB (fullB d r0 r1 r2 r3) d 0 = r0 ∧ lineB (fullB d r0 r1 r2 r3) d 1 = r1 ∧ lineB (fullB d r0 r1 r2 r3) d 2 = r2 ∧ lineB (fullB d r0 r1 r2 r3) d 3 = r3 := by
  obtain ⟨a0, a1, a2, a3, rfl⟩ := list4 h0
  obtain ⟨b0, b1, b2, b3, rfl⟩ := list4 h1
  obtain ⟨c0, c1, c2, c3, rfl⟩ := list4 h2
  obtain ⟨d0, d1, d2, d3, rfl⟩ := list4 h3
  obtain rfl | rfl | rfl | rfl : d = 0 ∨ d = 1 ∨ d = 2 ∨ d = 3 := by omega
  all_goals exact ⟨by kernel_rfl, by kernel_rfl, by kernel_rfl, by kernel_rfl⟩
theorem all4 {p : Nat → Prop} (h0 : p 0) (h1 : p 1) (h2 : p 2) (h3 : p 3) : ∀ i, i < 4 → p i := fun i hi => by
  obtain rfl | rfl | rfl | rfl : i = 0 ∨ i = 1 ∨ i = 2 ∨ i = 3 := by omega
  · exact h0
  · exact h1
  · exact h2
  · exact h3
theorem zero_good : zeroB.length = 16 ∧ ∀ x ∈ zeroB, u045 x := ⟨rfl, by decide⟩
theorem filt_one {b : List Int} : ∀ {l : LL}, l.Nodup → b ∈ l → (l.filter fun x => !(x == b)).length + 1 = l.length
  | [], _, h => by cases h
  | a :: l, hn, h => by
    obtain ⟨n1, n2⟩ := List.nodup_cons.1 hn
    rw [List.filter_cons, List.length_cons]
    by_cases e : a = b
    · subst e
      have : (l.filter fun x => !(x == a)) = l := List.filter_eq_self.2 fun x hx => by
        have : x ≠ a := fun e => n1 (e ▸ hx)
        have : (x == a) = false := beq_eq_false_iff_ne.2 this
        rw [this]; rfl
      rw [beq_self_eq_true, if_neg (by decide), this]
    · have hb : b ∈ l := by
        rcases List.mem_cons.1 h with h | h
        · exact absurd h.symm e
        · exact h
      have hab : (a == b) = false := beq_eq_false_iff_ne.2 e
      rw [hab, if_pos (show (!false) = true from rfl), List.length_cons, filt_one n2 hb]
attribute [local irreducible] fullB rwB
section
variable {b : List Int} (hb : b.length = 16) (ok : okB b = true) {d : Nat} (hd : d < 4)
include hb ok hd
theorem bb_mem {x : List Int} (hx : x ∈ bbfL b d) : x.length = 16 ∧ okB x = true ∧ (u070 x d).1 = b := by
  unfold bbfL allB at hx
  simp only [List.mem_flatMap, List.mem_singleton] at hx
  obtain ⟨r0, m0, r1, m1, r2, m2, r3, m3, rfl⟩ := hx
  have k0 := (u125 (row := lineB b d 0) rfl (u078 hb ((u082 b).1 ok) hd (by decide))).2 r0 (by unfold rwB at m0; exact m0)
  have k1 := (u125 (row := lineB b d 1) rfl (u078 hb ((u082 b).1 ok) hd (by decide))).2 r1 (by unfold rwB at m1; exact m1)
  have k2 := (u125 (row := lineB b d 2) rfl (u078 hb ((u082 b).1 ok) hd (by decide))).2 r2 (by unfold rwB at m2; exact m2)
  have k3 := (u125 (row := lineB b d 3) rfl (u078 hb ((u082 b).1 ok) hd (by decide))).2 r3 (by unfold rwB at m3; exact m3)
  obtain ⟨l0, l1, l2, l3⟩ := full_lines hd k0.1.1 k1.1.1 k2.1.1 k3.1.1
  have hlen := full_len d r0 r1 r2 r3
  have hok : okB (fullB d r0 r1 r2 r3) = true := by
    refine (u082 _).2 ?_
    unfold fullB
    exact (put_ok (put_ok (put_ok (put_ok zero_good k0.1 d 0) k1.1 d 1) k2.1 d 2) k3.1 d 3).2
  refine ⟨hlen, hok, ?_⟩
  obtain ⟨g1, g2⟩ := slide_ok hlen hok hd
  refine same_lines g1 hd hb (all4 ?_ ?_ ?_ ?_)
  · rw [u114 hlen hok hd (by decide), l0]; exact k0.2
  · rw [u114 hlen hok hd (by decide), l1]; exact k1.2
  · rw [u114 hlen hok hd (by decide), l2]; exact k2.2
  · rw [u114 hlen hok hd (by decide), l3]; exact k3.2
theorem bb_own (hs : u295 b d = true) : b ∈ bbfL b d := by
  have e : b = fullB d (lineB b d 0) (lineB b d 1) (lineB b d 2) (lineB b d 3) := by
    obtain ⟨l0, l1, l2, l3⟩ := full_lines hd (r0 := lineB b d 0) (r1 := lineB b d 1) (r2 := lineB b d 2) (r3 := lineB b d 3) rfl rfl rfl rfl
    exact same_lines hb hd (full_len _ _ _ _ _) (all4 l0.symm l1.symm l2.symm l3.symm)
  unfold bbfL allB
  simp only [List.mem_flatMap, List.mem_singleton]
  exact ⟨_, own_in hb ok hd hs (by decide), _, own_in hb ok hd hs (by decide), _, own_in hb ok hd hs (by decide), _, own_in hb ok hd hs (by decide), e⟩
theorem bb_nodup : (bbfL b d).Nodup := by
  have a4 : ∀ i, i < 4 → ∀ x ∈ rwB b d i, x.length = 4 := fun i hi x hx => (rw_ok hb ok hd hi x hx).1
  have asc : ∀ i, i < 4 → (rwB b d i).Nodup := fun i hi => asc_nodup (rw_asc hb ok hd hi)
  exact all_nodup hd (asc 0 (by decide)) (asc 1 (by decide)) (asc 2 (by decide)) (asc 3 (by decide)) (a4 0 (by decide)) (a4 1 (by decide)) (a4 2 (by decide)) (a4 3 (by decide))
theorem bb_cnt : ((((bbfL b d).filter fun x => !(x == b)).length : Nat) : Int) = cntB b d := by
  have hn := bb_nodup hb ok hd
  have hl : (((bbfL b d).length : Nat) : Int) = ((rwB b d 0).length : Int) * (rwB b d 1).length * (rwB b d 2).length * (rwB b d 3).length := by
    have : (bbfL b d).length = (rwB b d 0).length * (rwB b d 1).length * (rwB b d 2).length * (rwB b d 3).length := by
      rw [bbfL, all_length, Nat.mul_one, ← Nat.mul_assoc, ← Nat.mul_assoc]
    rw [this, Int.natCast_mul, Int.natCast_mul, Int.natCast_mul]
  rw [cnt_eq hb ok hd, ← hl]
  cases hs : u295 b d with
  | true =>
    have := filt_one hn (bb_own hb ok hd hs)
    rw [cond_true]; omega
  | false =>
    have hnot : b ∉ bbfL b d := fun h => by
      have := (bb_mem hb ok hd h).2.2
      unfold u295 at hs
      rw [this, beq_self_eq_true] at hs; cases hs
    have : ((bbfL b d).filter fun x => !(x == b)) = bbfL b d := List.filter_eq_self.2 fun x hx => by
      have : x ≠ b := fun e => hnot (e ▸ hx)
      have : (x == b) = false := beq_eq_false_iff_ne.2 this
      rw [this]; rfl
    rw [this, cond_false]
theorem bb_facts {v : LL} (hv : v = u105 ((bbfL b d).filter fun x => !(x == b))) : (∀ x ∈ v, x.length = 16 ∧ okB x = true ∧ (u070 x d).1 = b ∧ x ≠ b) ∧ Asc v ∧ ((v.length : Nat) : Int) = cntB b d := by
  have h16 : ∀ x ∈ (bbfL b d).filter (fun x => !(x == b)), x.length = 16 := fun x hx => (bb_mem hb ok hd (List.mem_filter.1 hx).1).1
  have hnd : ((bbfL b d).filter fun x => !(x == b)).Nodup := (bb_nodup hb ok hd).sublist List.filter_sublist
  obtain ⟨f1, f2, f3⟩ := u084 (m := 16) _ [] h16 (fun x hx => by cases hx) trivial
  subst hv
  refine ⟨fun x hx => ?_, f1, ?_⟩
  · rcases (f2 x).1 hx with h | h
    · cases h
    · obtain ⟨h1, h2⟩ := List.mem_filter.1 h
      obtain ⟨g1, g2, g3⟩ := bb_mem hb ok hd h1
      refine ⟨g1, g2, g3, fun e => ?_⟩
      subst e
      rw [beq_self_eq_true] at h2; cases h2
  · rw [← sort_ins h16 hnd, u177, bb_cnt hb ok hd]
end
end Go.Lv.P
namespace Go.Lv.P
open Go Go.Lv
theorem back_val (F : Nat) (b : List Int) (hb : b.length = 16) (d k : Int) (hF : 10000000000 < F) : ∃ (x : List Int) (o : Bool), k90_p F b d k = some (x, o) ∧ k77_p F b d k = some (x, o) ∧
    (o = true → okB b = true ∧ ∃ n : Nat, d = (n : Int) ∧ n < 4 ∧ x.length = 16 ∧ okB x = true ∧ (u070 x n).1 = b ∧ x ≠ b) := by
  obtain ⟨n, m, v, o, h1, h2, hv, hl, hn, h40, ho, hvv⟩ := boards_val F b hb d hF
  simp only [k90_p, k90_c, k77_p, k77_c, h1, h2, Option.isSome_some, Option.getD_some, cond_true, u280, in_eq, hl]
  cases hoo : o with
  | false => exact ⟨_, false, rfl, rfl, fun h => by cases h⟩
  | true =>
    cases hk : inB k 0 (IntKind.wrap .i64 (((n : Nat) : Int) - 1)) with
    | false => exact ⟨_, false, rfl, rfl, fun h => by cases h⟩
    | true =>
      simp only [inB, Bool.and_eq_true, decide_eq_true_eq] at hk
      rw [u044 (by omega) (by omega)] at hk
      obtain ⟨j, rfl⟩ := Int.eq_ofNat_of_zero_le hk.1
      have hj : j < n := by omega
      have e : rget m (0 + j) = rget v (0 + j) := by
        rw [Nat.zero_add, rgetL, rgetL, ← hv, List.getElem?_take, if_pos hj]
      simp only [u021, hj, decide_true, cond_true, cond_false, Bool.not_true, Int.toNat_natCast, e]
      refine ⟨rget v (0 + j), true, rfl, rfl, fun _ => ?_⟩
      rw [hoo] at ho
      have ho2 := ho.symm
      simp only [Bool.and_eq_true] at ho2
      obtain ⟨hB, hd, _⟩ := ho2
      obtain ⟨i, rfl, hi⟩ : ∃ i : Nat, d = i ∧ i < 4 := by
        simp [inB] at hd
        exact ⟨d.toNat, by omega, by omega⟩
      have hv2 := hvv hoo
      rw [Int.toNat_natCast] at hv2
      have hm : rget v (0 + j) ∈ v := by
        rw [Nat.zero_add, rgetL, List.getElem?_eq_getElem (by omega)]; exact List.getElem_mem _
      obtain ⟨f1, f2, f3, f4⟩ := (bb_facts hb hB hi hv2).1 _ hm
      exact ⟨hB, i, rfl, hi, f1, f2, f3, f4⟩
end Go.Lv.P
