/-
Plain facts of the pure functions, part 2; without conditions.
-/
import Derived.Test.YtabfliifleonaakGreatQkP6
import Derived.Test.YtabfliifleonaakGreatQkPG1
import Derived.Test.YtabfliifleonaakGreatQkP2
import Derived.Test.YtabfliifleonaakGreatLv3
import Derived.Test.YtabfliifleonaakGreatMvOrd
import Derived.Test.YtabfliifleonaakGreatQkP0
import Derived.Test.YtabfliifleonaakGreatQkP4
set_option linter.unusedVariables false
set_option linter.unusedSimpArgs false
set_option linter.unusedSectionVars false
namespace Go.Lv.P
open Go Go.Lv
theorem spec_empty_eq (F : Nat) (b : List Int) (hF : 1000 < F) : k100_p F b = some (em b) := by
  let hc : Nat → Nat → LL := fun r c => bif iget b (0 + r * 4 + c * 1) == 0 then [[(r : Int), (c : Int)]] else []
  have hc1 : ∀ r c, (hc r c).length ≤ 1 := fun r c => by
    show (bif iget b (0 + r * 4 + c * 1) == 0 then [[(r : Int), (c : Int)]] else [] : LL).length ≤ 1
    cases iget b (0 + r * 4 + c * 1) == 0 <;> simp
  have hin : ∀ (r : Nat) (out : LL), r < 4 → out.length ≤ 100 → k100_l6 F r b 0 out = some (out ++ (List.range' 0 4).flatMap (hc r)) := fun r out hr ho => by
    rw [← fld_add]
    refine (u036 (step := k100_s6 F r b) (fun i a => (i, a)) 4 (fun i a => a ++ hc r i) (fun a => a) (fun i a => a.length ≤ 100 + i) (F := F) (by omega) (by omega) (a := out) (by omega) (fun i a hi hI => ⟨?_, fun Q kn kx => ?_⟩) (fun a _ Q kn kx => by simp [k100_s6])).1
    · have := hc1 r i
      simp only [List.length_append]
      omega
    · have hi' : (i : Int) < 4 := by omega
      have hf : fits (a ++ [[(r : Int), (i : Int)]]).length 16 = true := u093 (by simp; omega) (by simp; omega)
      simp only [k100_s6, hi', u021, hi, hr, Int.toNat_natCast, decide_true, cond_true, u033, hf, hc]
      cases iget b (0 + r * 4 + i * 1) == 0
      · simp only [cond_false, List.append_nil]
      · rfl
  have hout : k100_l3 F b 0 [] = some ([] ++ (List.range' 0 4).flatMap fun r => (List.range' 0 4).flatMap (hc r)) := by
    rw [← fld_add]
    refine (u036 (step := k100_s3 F b) (fun i a => (i, a)) 4 (fun r a => a ++ (List.range' 0 4).flatMap (hc r)) (fun a => a) (fun i a => a.length ≤ 4 * i) (F := F) (by omega) (by omega) (a := []) (by simp) (fun i a hi hI => ⟨?_, fun Q kn kx => ?_⟩) (fun a _ Q kn kx => by simp [k100_s3])).1
    · have := flat_len (hc1 i) 4 0
      simp only [List.length_append]
      omega
    · have hi' : (i : Int) < 4 := by omega
      simp only [k100_s3, hi', decide_true, cond_true, hin i a hi (by omega), u037, Option.isSome_some, Option.getD_some, Bool.and_self]
  simp only [k100_p, k100_c, hout, Option.isSome_some, Option.getD_some, cond_true]
  congr 1
  rw [em, u169]
  simp only [List.range'_succ, List.range'_zero, List.flatMap_cons, List.flatMap_nil, List.append_nil, List.nil_append, List.append_assoc, hc, cells16]
  rfl
end Go.Lv.P
namespace Go.Lv.P
open Go Go.Lv
set_option maxRecDepth 100000
theorem u142 (F : Nat) (s : List Int) (q : Int → Bool) (hs : s.length ≤ 1000) (hF : 1000 < F) (hq : ∀ x ∈ s, k84_v x = q x) :
    ∃ r, k16_p F s = some r ∧ DeletedI s q r := by
  have hg : ∀ i, i < s.length → k84_v (iget s i) = q (iget s i) := fun i hi => by
    refine hq _ ?_
    rw [igetL, List.getElem?_eq_getElem hi]
    exact List.getElem_mem hi
  have h1 : k18_l2 F s s.length 0 = some (fnd (fun i => q (iget s i)) (fun i => (true, (i : Int))) (false, default) 0 s.length) := by
    refine u061 (fun i => i) s.length _ _ _ (by omega) (by omega) (fun i hi Q kn kx => ?_) fun Q kn kx => ?_
    · simp only [k18_s2, u021, hi, hg i hi, Int.toNat_natCast, decide_true, cond_true, Int.ofNat_lt, Option.isSome_some, Option.getD_some]
    · simp [k18_s2]
  simp only [k16_p, k16_c, k18_p, k18_c, u033, h1, Option.isSome_some, Option.getD_some, cond_true]
  rcases fnd_splitI s q s.length 0 (by omega) (by simp) with ⟨h2, h3⟩ | ⟨j, hj, h2, h3, h4⟩
  · rw [h2]
    refine ⟨(s.length, s), rfl, ?_⟩
    have e := u282 (q := q) h3
    exact ⟨by rw [e], by rw [e]; exact List.take_length, rfl⟩
  · rw [h2]
    have hgj : iget s j = s[j] := by rw [igetL, List.getElem?_eq_getElem hj]; rfl
    obtain ⟨s', l1, l2, l3⟩ := u156 (step := k16_s5 F s.length) q (fun x => k84_v x = q x) s.length (by omega)
      (fun i j s'' hij hjn hl hp Q kn kx => by
        have hin : i < s.length := by omega
        simp only [k16_s5, Int.ofNat_lt, hjn, u021, hin, Int.toNat_natCast, decide_true, cond_true, hp, Option.isSome_some, Option.getD_some]
        cases q (iget s'' (0 + j)) <;> rfl)
      (fun i s'' Q kn kx => by simp [k16_s5]) (s.length - (j + 1)) j (j + 1) F s (by omega) (by omega) (by omega) rfl (fun x hx => hq x (List.mem_of_mem_drop hx))
    have e : s.filter (fun x => !q x) = s.take j ++ (s.drop (j + 1)).filter (fun x => !q x) := by
      have e1 : s = s.take j ++ s[j] :: s.drop (j + 1) := by rw [← List.drop_eq_getElem_cons hj, List.take_append_drop]
      conv => lhs; rw [e1]
      rw [List.filter_append, List.filter_cons, ← hgj, h3]
      simp only [Bool.not_true, Bool.false_eq_true, if_false]
      rw [u282]
      exact h4
    have el : j + ((s.drop (j + 1)).filter fun x => !q x).length = (s.filter fun x => !q x).length := by
      rw [e, List.length_append, List.length_take, Nat.min_eq_left (Nat.le_of_lt hj)]
    rw [el] at l1 l3
    rw [← e] at l3
    have ll : (s.filter fun x => !q x).length ≤ s.length := List.length_filter_le _ _
    have l1' : k16_l5 F s.length (j : Int) (IntKind.wrap .i64 ((j : Int) + 1)) s = some ((((s.filter fun x => !q x).length : Nat) : Int), s') := by
      rw [u047 (n := s.length) hj (by omega)]
      exact l1
    have hne : ((j : Int) == -1) = false := by
      rw [beq_eq_false_iff_ne]; omega
    simp only [cond_true, Option.getD_some, l1', hne, cond_false, Option.isSome_some, u111, ll, decide_true, Int.toNat_natCast, Nat.sub_zero]
    refine ⟨_, rfl, rfl, ?_, ?_⟩
    · show (u029 s' (0 + _) _ _).take _ = _
      rw [splice_takeI _ _ _ _ (by omega) (by simp), l3]
    · rw [← l2]
      show (u029 s' (0 + _) _ _).length = _
      exact splice_lenI _ _ _ (by omega) (by simp)
theorem impl_row (F : Nat) (row : List Int) (h4 : row.length = 4) (hr : ∀ x ∈ row, inB x 0 17 = true) (hF : 1000 < F) : ∃ mg, k83_p F row = some ((u102 row).2.2.2, (u102 row).2.1, mg) := by
  have hs4 : sub row 0 4 = row := by obtain ⟨a, b, c, d, rfl⟩ := list4 h4; rfl
  obtain ⟨r, d1, d2⟩ := u142 F row (fun x => x == 0) (by omega) hF (fun x _ => rfl)
  have ht : k120_p F row = some r := by
    have hf : fits row.length 8 = true := u093 (by omega) (by omega)
    simp only [k120_p, k120_c, hs4, d1, hf, Option.isSome_some, Option.getD_some, cond_true, u037, Bool.and_self]
  obtain ⟨m, mem⟩ := r
  have hm : m = (row.filter fun x => !(x == 0)).length := d2.1
  have hl : ∀ i, i < m → iget mem (0 + i) = iget (row.filter fun x => !(x == 0)) i := fun i hi => d2.get hi
  have hm4 : m ≤ 4 := by rw [hm, ← h4]; exact List.length_filter_le _ _
  have hx : ∀ i, i < m → inB (iget (row.filter fun x => !(x == 0)) i) 1 17 = true := fun i hi => by
    have hm : iget (row.filter fun x => !(x == 0)) i ∈ row.filter fun x => !(x == 0) := by
      rw [igetL, List.getElem?_eq_getElem (by omega)]
      exact List.getElem_mem _
    generalize iget (row.filter fun x => !(x == 0)) i = y at hm ⊢
    have this := List.mem_filter.1 hm
    have h1 := hr _ this.1
    have h2 : y ≠ 0 := by simpa using this.2
    simp [inB] at h1
    show inB y 1 17 = true
    simp [inB]
    omega
  have h := u036 (step := k83_s3 F m m mem) (fun i (s : RS × List Bool) => (s.1.2.1, (s.1.1 : Int), i, s.1.2.2.2, s.2)) m
    (fun i s => (rstep s.1 (iget (row.filter fun x => !(x == 0)) i), bif decide (0 < s.1.1) && (iget s.1.2.2.2 (0 + (s.1.1 - 1) * 1) == iget (row.filter fun x => !(x == 0)) i) && decide (iget (row.filter fun x => !(x == 0)) i < 17) && !s.1.2.2.1 then bset s.2 (0 + (s.1.1 - 1) * 1) true else s.2)) (fun s => (s.1.2.1, s.1.2.2.2, s.2))
    (fun i s => s.1.1 ≤ i ∧ s.2.length = 4 ∧ (0 < s.1.1 → bget s.2 (0 + (s.1.1 - 1) * 1) = s.1.2.2.1) ∧ ∀ j, s.1.1 ≤ j → bget s.2 j = false) (F := F) (by omega) (by omega) (a := ((0, 0, false, [0, 0, 0, 0]), [false, false, false, false]))
    ⟨Nat.le_refl 0, rfl, fun h => absurd h (by decide), fun j _ => by rw [bgetL]; rcases j with _ | _ | _ | _ | j <;> simp⟩
    (fun i s hi hI => by
      obtain ⟨⟨n, sc, mg, out⟩, ms⟩ := s
      obtain ⟨i1, i2, i3, i4⟩ := hI
      simp only at i1 i2 i3 i4 ⊢
      have hxi := hx i hi
      have hi' : (i : Int) < (m : Int) := by omega
      have hn4 : n < 4 := by omega
      have hsn : IntKind.wrap .i64 ((n : Int) + 1) = ((n + 1 : Nat) : Int) := u047 (n := 4) hn4 (by omega)
      simp only [k83_s3, hi', u021, hi, Int.toNat_natCast, decide_true, cond_true, hl i hi, hn4]
      generalize iget (row.filter fun x => !(x == 0)) i = x at hxi ⊢
      have hx1 : 1 ≤ x ∧ x ≤ 17 := by simpa [inB] using hxi
      have push : (n + 1 ≤ i + 1 ∧ ms.length = 4 ∧ (0 < n + 1 → bget ms (0 + (n + 1 - 1) * 1) = false) ∧ ∀ j, n + 1 ≤ j → bget ms j = false) := ⟨by omega, i2, fun _ => i4 _ (by omega), fun j hj => i4 j (by omega)⟩
      by_cases hn : 0 < n
      · have hn' : (0 : Int) < (n : Int) := by omega
        have hp := wrap_pred hn (by omega)
        have hp4 : n - 1 < 4 := by omega
        have hmg := i3 hn
        simp only [hn', decide_true, cond_true, hp, u021, hp4, Int.toNat_natCast, rstep, hn, Bool.true_and, hsn, hn4, hmg]
        cases hq : iget out (0 + (n - 1) * 1) == x with
        | false => exact ⟨push, fun Q kn kx => by first | rfl | trivial⟩
        | true =>
          by_cases h17 : x < 17
          · have hw : IntKind.wrap .i64 (x + 1) = x + 1 := u044 (by omega) (by omega)
            have hwo : k121_p (x + 1) = some (W (x + 1)) := worth_eq (by simp [inB]; omega)
            cases mg with
            | true =>
              simp only [h17, decide_true, cond_true, Bool.not_true, cond_false, Bool.true_and]
              exact ⟨push, fun Q kn kx => by first | rfl | trivial⟩
            | false =>
              simp only [h17, decide_true, cond_true, Bool.not_false, hw, hwo, Option.isSome_some, Option.getD_some, Bool.true_and]
              refine ⟨⟨by omega, by rw [bsetL]; simpa using i2, fun _ => ?_, fun j hj => ?_⟩, fun Q kn kx => by first | rfl | trivial⟩
              · rw [bsetL, bgetL, List.getElem?_set_self (by omega)]; rfl
              · rw [bsetL, bgetL, List.getElem?_set_ne (by omega), ← bgetL]
                exact i4 j hj
          · simp only [h17, decide_false, cond_false, cond_true, Bool.and_false, Bool.false_and, Bool.true_and]
            exact ⟨push, fun Q kn kx => by first | rfl | trivial⟩
      · have hn' : ¬ (0 : Int) < (n : Int) := by omega
        simp only [cond_false, hn', decide_false, cond_true, rstep, hn, Bool.false_and, hsn, u021, hn4, decide_true, Int.toNat_natCast]
        exact ⟨push, fun Q kn kx => by first | rfl | trivial⟩)
    (fun s _ Q kn kx => by simp [k83_s3])
  have hf : ∀ (k i : Nat) (s : RS) (ms : List Bool), (fld (fun i (s : RS × List Bool) => (rstep s.1 (iget (row.filter fun x => !(x == 0)) i), bif decide (0 < s.1.1) && (iget s.1.2.2.2 (0 + (s.1.1 - 1) * 1) == iget (row.filter fun x => !(x == 0)) i) && decide (iget (row.filter fun x => !(x == 0)) i < 17) && !s.1.2.2.1 then bset s.2 (0 + (s.1.1 - 1) * 1) true else s.2)) i k (s, ms)).1 = fld (fun i s => rstep s (iget (row.filter fun x => !(x == 0)) (0 + i))) i k s := by
    intro k
    induction k with
    | zero => intro i s ms; rfl
    | succ k ih =>
      intro i s ms
      simp only [fld]
      rw [ih, Nat.zero_add]
  obtain ⟨r, e, hr2⟩ : ∃ r : RS × List Bool, k83_l3 F m m mem 0 0 0 [0, 0, 0, 0] [false, false, false, false] = some (r.1.2.1, r.1.2.2.2, r.2) ∧ r.1 = u102 row :=
    ⟨_, h.1, by
      rw [hf, fld_list (row.filter fun x => !(x == 0)) rstep m 0 _ (by omega), List.drop_zero]
      rfl⟩
  rw [hr2] at e
  exact ⟨r.2, by simp only [k83_p, k83_c, ht, e, Option.isSome_some, Option.getD_some, cond_true]⟩
end Go.Lv.P
namespace Go.Lv.P
open Go Go.Lv
def Asc : LL → Prop
  | [] => True
  | a :: r => (∀ x ∈ r, ltL a x = true) ∧ Asc r
def insB (b : List Int) : LL → LL
  | [] => [b]
  | a :: r => bif ltL a b then a :: insB b r else bif a == b then a :: r else b :: a :: r
theorem insB_mem {b x : List Int} : ∀ {l : LL}, x ∈ insB b l ↔ x = b ∨ x ∈ l
  | [] => by simp [insB]
  | a :: r => by
    simp only [insB]
    cases h1 : ltL a b with
    | true =>
      rw [cond_true, List.mem_cons, insB_mem, List.mem_cons]
      constructor
      · rintro (h | h | h)
        · exact .inr (.inl h)
        · exact .inl h
        · exact .inr (.inr h)
      · rintro (h | h | h)
        · exact .inr (.inl h)
        · exact .inl h
        · exact .inr (.inr h)
    | false =>
      rw [cond_false]
      cases h2 : a == b with
      | true =>
        rw [cond_true]
        have e := eq_of_beq h2
        subst e
        simp
      | false => rw [cond_false]; simp
theorem insB_asc {b : List Int} : ∀ {l : LL}, Asc l → (∀ x ∈ l, x.length = b.length) → Asc (insB b l)
  | [], _, _ => ⟨fun x hx => (by cases hx), trivial⟩
  | a :: r, ⟨h1, h2⟩, hl => by
    simp only [insB]
    cases hab : ltL a b with
    | true =>
      rw [cond_true]
      refine ⟨fun x hx => ?_, insB_asc h2 fun x hx => hl x (List.mem_cons_of_mem _ hx)⟩
      rcases insB_mem.1 hx with rfl | hx
      · exact hab
      · exact h1 x hx
    | false =>
      rw [cond_false]
      cases he : a == b with
      | true => exact ⟨h1, h2⟩
      | false =>
        rw [cond_false]
        have hne : a ≠ b := by rw [beq_eq_false_iff_ne] at he; exact he
        have hba := u199 (hl a List.mem_cons_self) hab hne
        refine ⟨fun x hx => ?_, h1, h2⟩
        rcases List.mem_cons.1 hx with rfl | hx
        · exact hba
        · exact u095 hba (h1 x hx)
end Go.Lv.P
namespace Go.Lv.P
open Go Go.Lv
set_option maxRecDepth 100000
def plcD (d i k : Nat) : Nat :=
  match d with
  | 0 => i * 4 + k
  | 1 => k * 4 + i
  | 2 => i * 4 + (3 - k)
  | _ => (3 - k) * 4 + i
def crd (d i : Nat) : List Int := [0, 1, 2, 3].flatMap fun k => [((plcD d i k / 4 : Nat) : Int), ((plcD d i k % 4 : Nat) : Int)]
def lineB (b : List Int) (d i : Nat) : List Int := [iget b (plcD d i 0), iget b (plcD d i 1), iget b (plcD d i 2), iget b (plcD d i 3)]
def putB (b : List Int) (d i : Nat) (row : List Int) : List Int := iset (iset (iset (iset b (plcD d i 0) (iget row 0)) (plcD d i 1) (iget row 1)) (plcD d i 2) (iget row 2)) (plcD d i 3) (iget row 3)
def sstep (b : List Int) (d i : Nat) (s : List Int × Int) : List Int × Int := (putB s.1 d i (u102 (lineB b d i)).2.2.2, IntKind.wrap .i64 (s.2 + (u102 (lineB b d i)).2.1))
def u070 (b : List Int) (d : Nat) : List Int × Int := fld (sstep b d) 0 4 (b, 0)
theorem plcD_lt {d i k : Nat} (hd : d < 4) (hi : i < 4) (hk : k < 4) : plcD d i k < 16 := by
  obtain rfl | rfl | rfl | rfl : d = 0 ∨ d = 1 ∨ d = 2 ∨ d = 3 := by omega
  all_goals (simp only [plcD]; omega)
theorem u104 (l : List Int) (i : Nat) (x : Int) : (iset l i x).length = l.length := by rw [isetL, List.length_set]
theorem u130 {p : Int → Prop} {l : List Int} (h : ∀ y ∈ l, p y) (i : Nat) {x : Int} (hx : p x) : ∀ y ∈ iset l i x, p y := by
  rw [isetL]
  intro y hy
  rcases List.mem_or_eq_of_mem_set hy with hy | rfl
  · exact h y hy
  · exact hx
abbrev u045 (x : Int) : Prop := inB x 0 17 = true
theorem rstep_ok {s : RS} {x : Int} (hx : inB x 1 17 = true) (h : s.2.2.2.length = 4 ∧ ∀ y ∈ s.2.2.2, u045 y) : (rstep s x).2.2.2.length = 4 ∧ ∀ y ∈ (rstep s x).2.2.2, u045 y := by
  have hx1 : 1 ≤ x ∧ x ≤ 17 := by simpa [inB] using hx
  unfold rstep
  cases h17 : decide (x < 17) with
  | false =>
    simp only [Bool.and_false, Bool.false_and, cond_false]
    exact ⟨by rw [u104]; exact h.1, u130 h.2 _ (by simp [u045, inB]; omega)⟩
  | true =>
    have h17 := of_decide_eq_true h17
    cases decide (0 < s.1) && (iget s.2.2.2 (0 + (s.1 - 1) * 1) == x) && true && !s.2.2.1
    · exact ⟨by simp only [cond_false]; rw [u104]; exact h.1, u130 h.2 _ (by simp [u045, inB]; omega)⟩
    · exact ⟨by simp only [cond_true]; rw [u104]; exact h.1, u130 h.2 _ (by simp [u045, inB]; omega)⟩
theorem rfold_ok : ∀ (l : List Int) (s : RS), (∀ x ∈ l, inB x 1 17 = true) → (s.2.2.2.length = 4 ∧ ∀ y ∈ s.2.2.2, u045 y) → ((l.foldl rstep s).2.2.2.length = 4 ∧ ∀ y ∈ (l.foldl rstep s).2.2.2, u045 y)
  | [], s, _, h => h
  | x :: r, s, hl, h => rfold_ok r (rstep s x) (fun y hy => hl y (List.mem_cons_of_mem _ hy)) (rstep_ok (hl x List.mem_cons_self) h)
theorem u122 {row : List Int} (hr : ∀ x ∈ row, u045 x) : (u102 row).2.2.2.length = 4 ∧ ∀ y ∈ (u102 row).2.2.2, u045 y := by
  refine rfold_ok _ _ (fun x hx => ?_) ⟨rfl, by decide⟩
  rw [List.mem_filter] at hx
  have h1 := hr x hx.1
  have h2 : x ≠ 0 := by simpa using hx.2
  simp [u045, inB] at h1
  simp [inB]
  omega
theorem u082 (b : List Int) : okB b = true ↔ ∀ x ∈ b, u045 x := by simp [okB, u045]
theorem iget_ok {b : List Int} {n : Nat} (h : ∀ x ∈ b, u045 x) (hn : n < b.length) : u045 (iget b n) := by
  rw [igetL, List.getElem?_eq_getElem hn]
  exact h _ (List.getElem_mem _)
theorem u078 {b : List Int} (hb : b.length = 16) (ok : ∀ x ∈ b, u045 x) {d i : Nat} (hd : d < 4) (hi : i < 4) : ∀ x ∈ lineB b d i, u045 x := by
  have h : ∀ k, k < 4 → u045 (iget b (plcD d i k)) := fun k hk => iget_ok ok (by rw [hb]; exact plcD_lt hd hi hk)
  intro x hx
  simp only [lineB, List.mem_cons, List.not_mem_nil, or_false] at hx
  rcases hx with rfl | rfl | rfl | rfl
  · exact h 0 (by omega)
  · exact h 1 (by omega)
  · exact h 2 (by omega)
  · exact h 3 (by omega)
theorem put_ok {b row : List Int} (hb : b.length = 16 ∧ ∀ x ∈ b, u045 x) (hr : row.length = 4 ∧ ∀ x ∈ row, u045 x) (d i : Nat) : (putB b d i row).length = 16 ∧ ∀ x ∈ putB b d i row, u045 x := by
  have h : ∀ k, k < 4 → u045 (iget row k) := fun k hk => iget_ok hr.2 (by omega)
  refine ⟨by simp only [putB, u104]; exact hb.1, ?_⟩
  exact u130 (u130 (u130 (u130 hb.2 _ (h 0 (by omega))) _ (h 1 (by omega))) _ (h 2 (by omega))) _ (h 3 (by omega))
section
variable {b : List Int} (hb : b.length = 16) (ok : okB b = true)
include hb ok
theorem u296 {d i : Nat} (hd : d < 4) (hi : i < 4) {s : List Int × Int} (hs : s.1.length = 16 ∧ ∀ x ∈ s.1, u045 x) : (sstep b d i s).1.length = 16 ∧ ∀ x ∈ (sstep b d i s).1, u045 x :=
  put_ok hs (u122 (u078 hb ((u082 b).1 ok) hd hi)) d i
theorem slide_ok {d : Nat} (hd : d < 4) : (u070 b d).1.length = 16 ∧ okB (u070 b d).1 = true := by
  have h0 : (b, (0 : Int)).1.length = 16 ∧ ∀ x ∈ (b, (0 : Int)).1, u045 x := ⟨hb, (u082 b).1 ok⟩
  have h := u296 hb ok hd (show 3 < 4 by omega) (u296 hb ok hd (show 2 < 4 by omega) (u296 hb ok hd (show 1 < 4 by omega) (u296 hb ok hd (show 0 < 4 by omega) h0)))
  exact ⟨h.1, (u082 _).2 h.2⟩
end
end Go.Lv.P
namespace Go.Lv.P
open Go Go.Lv
theorem u072 {α : Type} (m : List α) (n : Nat) : subn m.length m 0 n = m.take n := by
  rw [subn_eqL _ _ _ _ rfl, sub, List.drop_zero]
theorem subn_00 {α : Type} (l : List α) : subn l.length l 0 0 = [] := by rw [u072, List.take_zero]
end Go.Lv.P
namespace Go.Lv.P
open Go Go.Lv
theorem l2Worth_eq {t : Int} (h : inB t 0 17 = true) (h0 : 0 < t) : k102_p t = some (W t) := by
  rcases tile_cases h with h | h | h | h | h | h | h | h | h | h | h | h | h | h | h | h | h | h <;> subst h <;> first | (exact absurd h0 (by decide)) | decide
end Go.Lv.P
namespace Go.Lv.P
open Go Go.Lv
theorem asc_ext : ∀ {l l' : LL}, Asc l → Asc l' → (∀ x, x ∈ l ↔ x ∈ l') → l = l'
  | [], [], _, _, _ => rfl
  | [], b :: r', _, _, h => absurd ((h b).2 List.mem_cons_self) (by simp)
  | a :: r, [], _, _, h => absurd ((h a).1 List.mem_cons_self) (by simp)
  | a :: r, b :: r', ⟨h1, h2⟩, ⟨h1', h2'⟩, h => by
    have hab : a = b := by
      rcases List.mem_cons.1 ((h a).1 List.mem_cons_self) with e | ha
      · exact e
      · rcases List.mem_cons.1 ((h b).2 List.mem_cons_self) with e | hb
        · exact e.symm
        · have := u095 (h1' a ha) (h1 b hb)
          rw [u200] at this; cases this
    subst hab
    have ht : ∀ x, x ∈ r ↔ x ∈ r' := fun x => by
      constructor
      · intro hx
        rcases List.mem_cons.1 ((h x).1 (List.mem_cons_of_mem _ hx)) with e | hx'
        · subst e
          have := h1 x hx
          rw [u200] at this; cases this
        · exact hx'
      · intro hx
        rcases List.mem_cons.1 ((h x).2 (List.mem_cons_of_mem _ hx)) with e | hx'
        · subst e
          have := h1' x hx
          rw [u200] at this; cases this
        · exact hx'
    rw [asc_ext h2 h2' ht]
def dd : List Int → LL → LL
  | _, [] => []
  | p, x :: r => bif x == p then dd x r else x :: dd x r
def compL : LL → LL
  | [] => []
  | a :: r => a :: dd a r
def Up : LL → Prop
  | [] => True
  | a :: r => (∀ x ∈ r, ltL x a = false) ∧ Up r
abbrev LenT (m : Nat) := { x : List Int // x.length = m }
theorem u285 {m : Nat} : ∀ (xs : LL), (∀ x ∈ xs, x.length = m) → ∃ l : List (LenT m), l.map (·.1) = xs
  | [], _ => ⟨[], rfl⟩
  | x :: r, h => by
    obtain ⟨l, rfl⟩ := u285 r fun y hy => h y (List.mem_cons_of_mem _ hy)
    exact ⟨⟨x, h x List.mem_cons_self⟩ :: l, rfl⟩
theorem up_of_pair : ∀ {l : LL}, l.Pairwise (fun x y => ltL y x = false) → Up l
  | [], _ => trivial
  | a :: r, h => by
    rw [List.pairwise_cons] at h
    exact ⟨h.1, up_of_pair h.2⟩
theorem up_sort {m : Nat} (xs : LL) (hx : ∀ x ∈ xs, x.length = m) : Up (sortL xs) := by
  obtain ⟨l, rfl⟩ := u285 xs hx
  have hp : (l.mergeSort fun x y : LenT m => !ltL y.1 x.1).Pairwise fun x y => (!ltL y.1 x.1) = true := by
    refine List.pairwise_mergeSort (le := fun x y : LenT m => !ltL y.1 x.1) (fun a b c h1 h2 => ?_) (fun a b => ?_) l
    · simp only [Bool.not_eq_true'] at h1 h2 ⊢
      cases h : ltL c.1 a.1 with
      | false => rfl
      | true =>
        by_cases hba : b.1 = a.1
        · rw [← hba, h2] at h; cases h
        · have h3 := u199 (by rw [b.2, a.2]) h1 hba
          have h4 := u095 h h3
          rw [h4] at h2; cases h2
    · cases h : ltL b.1 a.1 with
      | false => simp
      | true => rw [ltL_asym h]; simp
  have hm : sortL (l.map (·.1)) = (l.mergeSort fun x y : LenT m => !ltL y.1 x.1).map (·.1) := by
    unfold sortL
    exact (List.map_mergeSort (f := fun x : LenT m => x.1) (s := fun x y => !ltL y x) fun x _ y _ => rfl).symm
  rw [hm]
  refine up_of_pair ?_
  rw [List.pairwise_map]
  exact hp.imp fun h => by simpa using h
theorem dd_mem : ∀ (l : LL) (p x : List Int), x ∈ dd p l → x ∈ l
  | [], p, x, h => by simp [dd] at h
  | a :: r, p, x, h => by
    simp only [dd] at h
    cases hc : a == p with
    | true => rw [hc, cond_true] at h; exact List.mem_cons_of_mem _ (dd_mem r a x h)
    | false =>
      rw [hc, cond_false] at h
      rcases List.mem_cons.1 h with rfl | h
      · exact List.mem_cons_self
      · exact List.mem_cons_of_mem _ (dd_mem r a x h)
theorem mem_dd : ∀ (l : LL) (p x : List Int), x ∈ l → x ≠ p → x ∈ dd p l
  | [], p, x, h, _ => by cases h
  | a :: r, p, x, h, hn => by
    simp only [dd]
    by_cases hxa : x = a
    · subst hxa
      have : (x == p) = false := by rw [beq_eq_false_iff_ne]; exact hn
      rw [this, cond_false]
      exact List.mem_cons_self
    · rcases List.mem_cons.1 h with e | h
      · exact absurd e hxa
      · have ih := mem_dd r a x h hxa
        cases a == p
        · exact List.mem_cons_of_mem _ ih
        · exact ih
theorem dd_asc {m : Nat} : ∀ (l : LL) (p : List Int), p.length = m → (∀ x ∈ l, x.length = m) → (∀ x ∈ l, ltL x p = false) → Up l → (∀ x ∈ dd p l, ltL p x = true) ∧ Asc (dd p l)
  | [], p, _, _, _, _ => ⟨fun x h => (by simp [dd] at h), trivial⟩
  | a :: r, p, hp, hl, hlo, ⟨hu1, hu2⟩ => by
    have ha := hl a List.mem_cons_self
    obtain ⟨h1, h2⟩ := dd_asc r a ha (fun x hx => hl x (List.mem_cons_of_mem _ hx)) hu1 hu2
    simp only [dd]
    cases hc : a == p with
    | true =>
      have e := eq_of_beq hc
      subst e
      exact ⟨h1, h2⟩
    | false =>
      have hne : a ≠ p := by rw [beq_eq_false_iff_ne] at hc; exact hc
      have hpa : ltL p a = true := u199 (by omega) (hlo a List.mem_cons_self) hne
      simp only [cond_false]
      refine ⟨fun x hx => ?_, h1, h2⟩
      rcases List.mem_cons.1 hx with rfl | hx
      · exact hpa
      · exact u095 hpa (h1 x hx)
theorem comp_mem (l : LL) (x : List Int) : x ∈ compL l ↔ x ∈ l := by
  cases l with
  | nil => simp [compL]
  | cons a r =>
    simp only [compL, List.mem_cons]
    constructor
    · rintro (h | h)
      · exact .inl h
      · exact .inr (dd_mem r a x h)
    · rintro (h | h)
      · exact .inl h
      · by_cases hx : x = a
        · exact .inl hx
        · exact .inr (mem_dd r a x h hx)
theorem comp_asc {m : Nat} (l : LL) (hl : ∀ x ∈ l, x.length = m) (hu : Up l) : Asc (compL l) := by
  cases l with
  | nil => trivial
  | cons a r => exact dd_asc r a (hl a List.mem_cons_self) (fun x hx => hl x (List.mem_cons_of_mem _ hx)) hu.1 hu.2
theorem u299 (l : LL) (x : List Int) : x ∈ sortL l ↔ x ∈ l := List.mem_mergeSort
theorem u177 (l : LL) : (sortL l).length = l.length := List.length_mergeSort _
theorem sorted_eq {m : Nat} {l l' : LL} (hl : ∀ x ∈ l, x.length = m) (ha : Asc l') (hm : ∀ x, x ∈ l ↔ x ∈ l') : compL (sortL l) = l' := by
  refine asc_ext (comp_asc (m := m) _ (fun x hx => hl x ((u299 l x).1 hx)) (up_sort l hl)) ha fun x => ?_
  rw [comp_mem, u299, hm]
def u105 (l : LL) : LL := l.foldl (fun s x => insB x s) []
theorem u084 {m : Nat} : ∀ (l s : LL), (∀ x ∈ l, x.length = m) → (∀ x ∈ s, x.length = m) → Asc s → Asc (l.foldl (fun s x => insB x s) s) ∧ (∀ x, x ∈ l.foldl (fun s x => insB x s) s ↔ x ∈ s ∨ x ∈ l) ∧ ∀ x ∈ l.foldl (fun s x => insB x s) s, x.length = m
  | [], s, _, hs, ha => ⟨ha, fun x => by simp, hs⟩
  | a :: r, s, hl, hs, ha => by
    have hla := hl a List.mem_cons_self
    have hs2 : ∀ x ∈ insB a s, x.length = m := fun x hx => by
      rcases insB_mem.1 hx with rfl | hx
      · exact hla
      · exact hs x hx
    obtain ⟨h1, h2, h3⟩ := u084 r (insB a s) (fun x hx => hl x (List.mem_cons_of_mem _ hx)) hs2 (insB_asc ha fun x hx => by rw [hs x hx, hla])
    refine ⟨h1, fun x => ?_, h3⟩
    rw [List.foldl_cons, h2, insB_mem, List.mem_cons]
    constructor
    · rintro ((h | h) | h)
      · exact .inr (.inl h)
      · exact .inl h
      · exact .inr (.inr h)
    · rintro (h | h | h)
      · exact .inl (.inr h)
      · exact .inl (.inl h)
      · exact .inr h
theorem insAll_ok {m : Nat} {l : LL} (hl : ∀ x ∈ l, x.length = m) : Asc (u105 l) ∧ (∀ x, x ∈ u105 l ↔ x ∈ l) ∧ ∀ x ∈ u105 l, x.length = m := by
  obtain ⟨h1, h2, h3⟩ := u084 l [] hl (fun x hx => by cases hx) trivial
  exact ⟨h1, fun x => by rw [u105, h2]; simp, h3⟩
end Go.Lv.P
namespace Go.Lv.P
open Go Go.Lv
theorem pair_in (a : Bool) (u : Bool) (X Y : Bool × Bool) : (bif (bif a then (true, u) else X).1 then (true, (bif a then (true, u) else X).2) else Y) = bif a then (true, u) else (bif X.1 then (true, X.2) else Y) := by cases a <;> rfl
theorem pair_out (a : Bool) (u : Bool) (X : Bool × Bool) : (bif (bif a then (true, u) else X).1 then (bif a then (true, u) else X).2 else false) = bif a then u else (bif X.1 then X.2 else false) := by cases a <;> rfl
theorem fnd_grid (p g : Nat → Bool) : fnd (fun r => (fnd (fun c => p (0 + r * 4 + c * 1)) (fun c => (true, g (0 + r * 4 + c * 1))) (false, default) 0 4).1) (fun r => (true, (fnd (fun c => p (0 + r * 4 + c * 1)) (fun c => (true, g (0 + r * 4 + c * 1))) (false, default) 0 4).2)) (false, default) 0 4 = fnd p (fun i => (true, g i)) (false, default) 0 16 := by
  simp only [fnd, pair_in, cond_false]
theorem before_eq (F : Nat) (hF : 1000 < F) {a b : List Int} (ha : a.length = 16) (hb : b.length = 16) : k92_p F a b = some (ltL a b) := by
  have hin : ∀ r : Nat, r < 4 → k92_l5 F r a b 0 = some (fnd (fun c => !(iget a (0 + r * 4 + c * 1) == iget b (0 + r * 4 + c * 1))) (fun c => (true, decide (iget a (0 + r * 4 + c * 1) < iget b (0 + r * 4 + c * 1)))) (false, default) 0 4) := fun r hr => by
    refine u061 (step := k92_s5 F r a b) (fun i => i) 4 (fun c => !(iget a (0 + r * 4 + c * 1) == iget b (0 + r * 4 + c * 1))) (fun c => (true, decide (iget a (0 + r * 4 + c * 1) < iget b (0 + r * 4 + c * 1)))) (false, default) (by omega) (by omega) (fun i hi Q kn kx => ?_) fun Q kn kx => ?_
    · have hi' : (i : Int) < 4 := by omega
      simp only [k92_s5, hi', u021, hr, hi, decide_true, cond_true, Int.toNat_natCast]
    · simp [k92_s5]
  have hout : k92_l2 F a b 0 = some (fnd (fun i => !(iget a i == iget b i)) (fun i => (true, decide (iget a i < iget b i))) (false, default) 0 16) := by
    rw [← fnd_grid (fun i => !(iget a i == iget b i)) (fun i => decide (iget a i < iget b i))]
    refine u061 (step := k92_s2 F a b) (fun i => i) 4 (fun r => (fnd (fun c => !(iget a (0 + r * 4 + c * 1) == iget b (0 + r * 4 + c * 1))) (fun c => (true, decide (iget a (0 + r * 4 + c * 1) < iget b (0 + r * 4 + c * 1)))) (false, default) 0 4).1) (fun r => (true, (fnd (fun c => !(iget a (0 + r * 4 + c * 1) == iget b (0 + r * 4 + c * 1))) (fun c => (true, decide (iget a (0 + r * 4 + c * 1) < iget b (0 + r * 4 + c * 1)))) (false, default) 0 4).2)) (false, default) (by omega) (by omega) (fun i hi Q kn kx => ?_) fun Q kn kx => ?_
    · have hi' : (i : Int) < 4 := by omega
      simp only [k92_s2, hi', decide_true, cond_true, hin i hi, Option.isSome_some, Option.getD_some]
    · simp [k92_s2]
  simp only [k92_p, k92_c, hout, Option.isSome_some, Option.getD_some, cond_true]
  have key : ∀ (n i : Nat), i + n = 16 → (bif (fnd (fun i => !(iget a i == iget b i)) (fun i => (true, decide (iget a i < iget b i))) (false, default) i n).1 then (fnd (fun i => !(iget a i == iget b i)) (fun i => (true, decide (iget a i < iget b i))) (false, default) i n).2 else false) = ltL (a.drop i) (b.drop i) := by
    intro n
    induction n with
    | zero => intro i h; rw [List.drop_eq_nil_of_le (by omega)]; rfl
    | succ n ih =>
      intro i h
      have hia : i < a.length := by omega
      have hib : i < b.length := by omega
      have ga : iget a i = a[i] := by rw [igetL, List.getElem?_eq_getElem hia]; rfl
      have gb : iget b i = b[i] := by rw [igetL, List.getElem?_eq_getElem hib]; rfl
      rw [List.drop_eq_getElem_cons hia, List.drop_eq_getElem_cons hib]
      simp only [fnd, pair_out, ltL]
      rw [ih (i + 1) (by omega), ga, gb]
      cases a[i] == b[i] <;> rfl
  have h0 := key 16 0 rfl
  rw [List.drop_zero, List.drop_zero] at h0
  have e : ∀ (X : Bool × Bool), (bif X.1 then some X.2 else some false) = some (bif X.1 then X.2 else false) := fun X => by cases X.1 <;> rfl
  rw [e, h0]
end Go.Lv.P
namespace Go.Lv.P
open Go Go.Lv
theorem concat_ints (s0 s1 s2 s3 : List Int) (h0 : s0.length ≤ 32) (h1 : s1.length ≤ 32) (h2 : s2.length ≤ 32) (h3 : s3.length ≤ 32) : k27_p s0 s1 s2 s3 = some (s0 ++ s1 ++ s2 ++ s3) := by
  have e0 : IntKind.wrap .i64 ((0 : Int) + (s0.length : Int)) = ((s0.length : Nat) : Int) := by rw [Int.zero_add, u044 (by omega) (by omega)]
  have e1 : IntKind.wrap .i64 (((s0.length : Nat) : Int) + (s1.length : Int)) = ((s0.length + s1.length : Nat) : Int) := by rw [u044 (by omega) (by omega)]; omega
  have e2 : IntKind.wrap .i64 (((s0.length + s1.length : Nat) : Int) + (s2.length : Int)) = ((s0.length + s1.length + s2.length : Nat) : Int) := by rw [u044 (by omega) (by omega)]; omega
  have e3 : IntKind.wrap .i64 (((s0.length + s1.length + s2.length : Nat) : Int) + (s3.length : Int)) = ((s0.length + s1.length + s2.length + s3.length : Nat) : Int) := by rw [u044 (by omega) (by omega)]; omega
  have hneg : ∀ n : Nat, decide ((n : Int) < 0) = false := fun n => decide_eq_false (by omega)
  obtain ⟨g, hg⟩ : ∃ g, k32_p ((s0.length + s1.length + s2.length + s3.length : Nat) : Int) = some g := by
    generalize hn : s0.length + s1.length + s2.length + s3.length = n
    have e : IntKind.wrap .i64 ((n : Int) - 0) = (n : Int) := by rw [Int.sub_zero, u044 (by omega) (by omega)]
    simp only [k32_p, k32_c, e, hneg, cond_false, Int.toNat_natCast]
    cases hp : decide ((0 : Int) < (n : Int)) with
    | false => exact ⟨_, rfl⟩
    | true =>
      simp at hp
      have hf : fits n 8 = true := u093 (by omega) (by omega)
      have h1 : decide ((1 : Int) ≤ (n : Int)) = true := decide_eq_true (by omega)
      have h2 : inLe (0 : Int) n = true := u111 0 n ▸ decide_eq_true (Nat.zero_le _)
      rw [cond_true, h1, hf, h2]; exact ⟨_, rfl⟩
  have f : ∀ n : Nat, n ≤ 128 → fits n 8 = true := fun n h => u093 (by omega) (by omega)
  simp only [k27_p, k27_c, e0, e1, e2, e3, hneg, hg, cond_false, cond_true, Option.isSome_some, Option.getD_some, subn_00, u033, List.nil_append]
  rw [f _ (by omega), cond_true, f _ (by rw [List.length_append]; omega), cond_true, f _ (by simp only [List.length_append]; omega), cond_true, f _ (by simp only [List.length_append]; omega), cond_true]
theorem flat_eq {b : List Int} (hb : b.length = 16) : k55_p b = some b := by
  have hs : ∀ o, (sub b o 4).length ≤ 32 := fun o => by unfold sub; exact Nat.le_trans (List.length_take_le _ _) (by omega)
  have hc := concat_ints (sub b 0 4) (sub b 4 4) (sub b 8 4) (sub b 12 4) (hs _) (hs _) (hs _) (hs _)
  have e : sub b 0 4 ++ sub b 4 4 ++ sub b 8 4 ++ sub b 12 4 = b := by
    obtain ⟨x0, x1, x2, x3, x4, x5, x6, x7, x8, x9, xa, xb, xc, xd, xe, xf, rfl⟩ := list16 hb
    rfl
  rw [e] at hc
  simp only [k55_p, k55_c, hc, Option.isSome_some, Option.getD_some, cond_true]
end Go.Lv.P
namespace Go.Lv.P
open Go Go.Lv
def fs (f : Int → Int) : List Int → Int
  | [] => 0
  | x :: r => f x + fs f r
def rhit (s : RS) (x : Int) : Bool := decide (0 < s.1) && (iget s.2.2.2 (0 + (s.1 - 1) * 1) == x) && decide (x < 17) && !s.2.2.1
def mgs : RS → List Int → List Int
  | _, [] => []
  | s, x :: r => bif rhit s x then (x + 1) :: mgs (rstep s x) r else mgs (rstep s x) r
def RI (s : RS) : Prop := s.2.2.2.length = 4 ∧ ∀ j, s.1 ≤ j → j < 4 → iget s.2.2.2 j = 0
theorem u217 (l : List Int) (i j : Nat) (x : Int) (h : i < l.length) : iget (iset l i x) j = if i = j then x else iget l j := by
  rw [igetL, igetL, isetL, List.getElem?_set]
  split
  · rename_i e; subst e; simp [h]
  · rfl
theorem rstep_RI {s : RS} {x : Int} (h : RI s) (hs : s.1 < 4) : RI (rstep s x) := by
  unfold rstep
  cases hc : decide (0 < s.1) && (iget s.2.2.2 (0 + (s.1 - 1) * 1) == x) && decide (x < 17) && !s.2.2.1 with
  | true =>
    have h0 : 0 < s.1 := by simp at hc; omega
    refine ⟨by rw [cond_true]; show (iset _ _ _).length = 4; rw [u104]; exact h.1, fun j hj hj4 => ?_⟩
    rw [cond_true] at hj ⊢
    have hj : s.1 ≤ j := hj
    show iget (iset s.2.2.2 _ _) j = 0
    rw [u217 _ _ _ _ (by rw [h.1]; omega), if_neg (by omega)]
    exact h.2 j hj hj4
  | false =>
    refine ⟨by rw [cond_false]; show (iset _ _ _).length = 4; rw [u104]; exact h.1, fun j hj hj4 => ?_⟩
    rw [cond_false] at hj ⊢
    have hj : s.1 + 1 ≤ j := hj
    show iget (iset s.2.2.2 _ _) j = 0
    rw [u217 _ _ _ _ (by rw [h.1]; omega), if_neg (by omega)]
    exact h.2 j (by omega) hj4
def rowM (row : List Int) : List Int := mgs (0, 0, false, [0, 0, 0, 0]) (row.filter fun x => !(x == 0))
theorem u211 {row : List Int} (h : ∀ x ∈ row, u045 x) : ∀ x ∈ row.filter (fun x => !(x == 0)), inB x 1 17 = true := by
  intro x hx
  rw [List.mem_filter] at hx
  have h1 := h x hx.1
  have h2 : x ≠ 0 := by simpa using hx.2
  simp only [u045, inB, Bool.and_eq_true, decide_eq_true_eq] at h1 ⊢
  omega
section
variable {row : List Int} (hl : row.length = 4) (h : ∀ x ∈ row, u045 x)
include hl h
end
def boardM (b : List Int) (d : Nat) : List Int := rowM (lineB b d 0) ++ rowM (lineB b d 1) ++ rowM (lineB b d 2) ++ rowM (lineB b d 3)
theorem put_lines (b r0 r1 r2 r3 : List Int) (hb : b.length = 16) (h0 : r0.length = 4) (h1 : r1.length = 4) (h2 : r2.length = 4) (h3 : r3.length = 4) {d : Nat} (hd : d < 4) :
    lineB (putB (putB (putB (putB b d 0 r0) d 1 r1) d 2 r2) d 3 r3) d 0 = r0 ∧ lineB (putB (putB (putB (putB b d 0 r0) d 1 r1) d 2 r2) d 3 r3) d 1 = r1 ∧ lineB (putB (putB (putB (putB b d 0 r0) d 1 r1) d 2 r2) d 3 r3) d 2 = r2 ∧ lineB (putB (putB (putB (putB b d 0 r0) d 1 r1) d 2 r2) d 3 r3) d 3 = r3 := by
  obtain ⟨x0, x1, x2, x3, x4, x5, x6, x7, x8, x9, x10, x11, x12, x13, x14, x15, rfl⟩ := list16 hb
  obtain ⟨a0, a1, a2, a3, rfl⟩ := list4 h0
  obtain ⟨c0, c1, c2, c3, rfl⟩ := list4 h1
  obtain ⟨g0, g1, g2, g3, rfl⟩ := list4 h2
  obtain ⟨k0, k1, k2, k3, rfl⟩ := list4 h3
  obtain rfl | rfl | rfl | rfl : d = 0 ∨ d = 1 ∨ d = 2 ∨ d = 3 := by omega
  all_goals exact ⟨by kernel_rfl, by kernel_rfl, by kernel_rfl, by kernel_rfl⟩
section
variable {b : List Int} (hb : b.length = 16) (ok : okB b = true)
include hb ok
theorem u114 {d : Nat} (hd : d < 4) {i : Nat} (hi : i < 4) : lineB (u070 b d).1 d i = (u102 (lineB b d i)).2.2.2 := by
  have r := fun i hi => (u122 (u078 hb ((u082 b).1 ok) hd (show i < 4 from hi))).1
  have e : (u070 b d).1 = putB (putB (putB (putB b d 0 (u102 (lineB b d 0)).2.2.2) d 1 (u102 (lineB b d 1)).2.2.2) d 2 (u102 (lineB b d 2)).2.2.2) d 3 (u102 (lineB b d 3)).2.2.2 := rfl
  have h := put_lines b _ _ _ _ hb (r 0 (by omega)) (r 1 (by omega)) (r 2 (by omega)) (r 3 (by omega)) hd
  rw [e]
  obtain rfl | rfl | rfl | rfl : i = 0 ∨ i = 1 ∨ i = 2 ∨ i = 3 := by omega
  · exact h.1
  · exact h.2.1
  · exact h.2.2.1
  · exact h.2.2.2
end
end Go.Lv.P
