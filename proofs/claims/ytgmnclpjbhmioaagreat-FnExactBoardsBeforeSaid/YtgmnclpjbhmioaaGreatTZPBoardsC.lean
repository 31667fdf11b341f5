/-
The boards before a board: both say the same.
-/
import Derived.Test.YtgmnclpjbhmioaaGreatTZP2
import Derived.Test.YtgmnclpjbhmioaaGreatTZP5
import Derived.Test.YtgmnclpjbhmioaaGreatTZPBoardsB
namespace Go.Lv.P
open Go Go.Lv
set_option linter.unusedVariables false
set_option linter.unusedSimpArgs false
set_option linter.unusedSectionVars false

theorem flat_const {h : List Int → LL} {k : Nat} : ∀ {l : LL}, (∀ x ∈ l, (h x).length = k) → (l.flatMap h).length = l.length * k
  | [], _ => by simp
  | a :: r, hk => by
    rw [List.flatMap_cons, List.length_append, hk a List.mem_cons_self, flat_const fun x hx => hk x (List.mem_cons_of_mem _ hx), List.length_cons, Nat.succ_mul]; omega
theorem all_length (d : Nat) (a b c e : LL) : (allB d a b c e).length = a.length * (b.length * (c.length * (e.length * 1))) := by
  unfold allB
  exact flat_const fun r0 _ => flat_const fun r1 _ => flat_const fun r2 _ => flat_const fun r3 _ => rfl
def bbfL (b : List Int) (d : Nat) : LL := allB d (rwB b d 0) (rwB b d 1) (rwB b d 2) (rwB b d 3)
theorem mul256 {x y k : Nat} (hx : x ≤ k) (hy : y ≤ 256) : x * y ≤ k * 256 := Nat.mul_le_mul hx hy
theorem cnt_len (b : List Int) (d : Nat) (h : cntB b d ≤ 300) : (bbfL b d).length ≤ 301 := by
  have l0 := rwB_len b d 0
  have l1 := rwB_len b d 1
  have l2 := rwB_len b d 2
  have l3 := rwB_len b d 3
  rw [bbfL, all_length, Nat.mul_one]
  unfold cntB at h
  generalize (rwB b d 0).length = n0 at *
  generalize (rwB b d 1).length = n1 at *
  generalize (rwB b d 2).length = n2 at *
  generalize (rwB b d 3).length = n3 at *
  have p1 : n0 * n1 ≤ 256 * 256 := mul256 l0 l1
  have p2 : n0 * n1 * n2 ≤ 256 * 256 * 256 := mul256 p1 l2
  have p3 : n0 * n1 * n2 * n3 ≤ 256 * 256 * 256 * 256 := mul256 p2 l3
  have w0 : IntKind.wrap .i64 ((1 : Int) * ((n0 : Nat) : Int)) = ((n0 : Nat) : Int) := by rw [Int.one_mul, wrap_of (by omega) (by omega)]
  have w1 : IntKind.wrap .i64 (((n0 : Nat) : Int) * ((n1 : Nat) : Int)) = ((n0 * n1 : Nat) : Int) := by rw [← Int.natCast_mul, wrap_of (by omega) (by omega)]
  have w2 : IntKind.wrap .i64 (((n0 * n1 : Nat) : Int) * ((n2 : Nat) : Int)) = ((n0 * n1 * n2 : Nat) : Int) := by rw [← Int.natCast_mul, wrap_of (by omega) (by omega)]
  have w3 : IntKind.wrap .i64 (((n0 * n1 * n2 : Nat) : Int) * ((n3 : Nat) : Int)) = ((n0 * n1 * n2 * n3 : Nat) : Int) := by rw [← Int.natCast_mul, wrap_of (by omega) (by omega)]
  simp only [w0, w1, w2, w3] at h
  have e : n0 * (n1 * (n2 * n3)) = n0 * n1 * n2 * n3 := by rw [← Nat.mul_assoc, ← Nat.mul_assoc]
  rw [e]
  generalize n0 * n1 * n2 * n3 = p at *
  cases hs : (slideB b d).1 == b with
  | true =>
    rw [hs, cond_true, wrap_of (by omega) (by omega)] at h
    omega
  | false =>
    rw [hs, cond_false] at h
    omega
theorem boards_same (F : Nat) (b : List Int) (hb : b.length = 16) (d : Int) (hF : 10000000000 < F) : ∃ (k : Nat) (m v : LL) (o : Bool), spec_BoardsBefore_p F b d = some (o, v) ∧ impl_BoardsBefore_p F b d = some (k, o, m) ∧ m.take k = v ∧ v.length = k ∧ k ≤ m.length ∧ k ≤ 1000 := by
  have hF1 : 1000 < F := by omega
  simp only [spec_BoardsBefore_p, spec_BoardsBefore_c, impl_BoardsBefore_p, impl_BoardsBefore_c, spec_l2Board_eq F b hb hF1, impl_IsBoard_eq F b hb hF1, Option.isSome_some, Option.getD_some, cond_true, spec_l2Side_v, impl_isDirection_v, l1In_eq, in_eq]
  cases hB : okB b with
  | false => exact ⟨0, [], [], false, rfl, rfl, rfl, rfl, by simp, by simp⟩
  | true =>
    cases hd : inB d 0 3 with
    | false => exact ⟨0, [], [], false, rfl, rfl, rfl, rfl, by simp, by simp⟩
    | true =>
      simp [inB] at hd
      obtain ⟨n, rfl⟩ := Int.eq_ofNat_of_zero_le hd.1
      have hn : n < 4 := by omega
      simp only [spec_count hb hB F hF1 hn, impl_count hb hB F hF1 hn, impl_lines hb hB F hF1 hn, Option.isSome_some, Option.getD_some, cond_true, Bool.not_true, cond_false]
      by_cases hc : 300 < cntB b n
      · simp only [hc, decide_true, cond_true]
        exact ⟨0, [], [], false, rfl, rfl, rfl, rfl, by simp, by simp⟩
      · have hcl := cnt_len b n (by omega)
        simp only [hc, decide_false, cond_false]
        have a4 : ∀ i, i < 4 → ∀ x ∈ rwB b n i, x.length = 4 := fun i hi x hx => (rw_ok hb hB hn hi x hx).1
        have asc : ∀ i, i < 4 → (rwB b n i).Nodup := fun i hi => asc_nodup (rb_facts (row := lineB b n i) rfl (line_ok hb ((okB_iff b).1 hB) hn hi)).1
        have h16 : ∀ x ∈ bbfL b n, x.length = 16 := all_len16 _ _ _ _ _
        have hnd : (bbfL b n).Nodup := all_nodup hn (asc 0 (by decide)) (asc 1 (by decide)) (asc 2 (by decide)) (asc 3 (by decide)) (a4 0 (by decide)) (a4 1 (by decide)) (a4 2 (by decide)) (a4 3 (by decide))
        have s1 : spec_l6All_p F b n = some (bbfL b n) := by
          simp only [spec_l6All_p, spec_l6All_c, spec_lists hb hB F hF1 hn, Option.isSome_some, Option.getD_some, cond_true, all_spec hn F hF _ _ _ _ hb (rwB_len b n 0) (rwB_len b n 1) (rwB_len b n 2) (rwB_len b n 3)]
          rfl
        have i1 : impl_BoardsBefore_l5 F n (rwB b n 0) (rwB b n 1) (rwB b n 2) (rwB b n 3) b 0 [zeroB] = some (bbfL b n) := all_impl hn F hF _ _ _ _ b rfl (rwB_len b n 0) (rwB_len b n 1) (rwB_len b n 2) (rwB_len b n 3)
        have s2 := sorted_spec F hF (bbfL b n) h16 hnd (by omega) b
        obtain ⟨r, i2, d1, d2, d3⟩ := Delete_own F (bbfL b n) b (fun x => x == b) (by omega) hF1 (fun x hx => rfl)
        have hfl := List.length_filter_le (fun x => !(x == b)) (bbfL b n)
        simp only at d1 d2 d3
        obtain ⟨i3, i4⟩ := ordered_own F hF r.1 r.2 (by omega) (by omega) (by rw [d2]; exact fun x hx => h16 x (List.mem_filter.1 hx).1) (by rw [d2]; exact hnd.sublist List.filter_sublist)
        have hsp : (sortP r.1 r.2).length = r.2.length := by unfold sortP; rw [List.length_append, sort_len, List.length_take, List.length_drop]; omega
        simp only [s1, i1, i2, i3, s2, subn_self, beq_selfL, Bool.and_self, Option.isSome_some, Option.getD_some, cond_true]
        refine ⟨r.1, sortP r.1 r.2, _, true, rfl, rfl, by rw [i4, d2], ?_, by omega, by omega⟩
        have h1 := congrArg List.length i4
        rw [d2, List.length_take] at h1
        omega
end Go.Lv.P
