/-
What slides reach: the program's search in breadth.
-/
import Derived.Test.YtgmnclpjbhmioaaTRP2
import Derived.Test.YtgmnclpjbhmioaaTRPReachS
import Derived.Test.YtgmnclpjbhmioaaTRPSlides1
namespace Go.Lv.P
open Go Go.Lv
set_option linter.unusedVariables false
set_option linter.unusedSimpArgs false
set_option linter.unusedSectionVars false

def keysE (E : EL) : LL := E.map Prod.fst
theorem insE_keep {E : EL} {y p : List Int} (h : mlook y E = some p) (x : List Int × List Int) : mlook y (insE E x) = some p := by
  unfold insE
  cases (E.map Prod.fst).contains x.1
  · rw [cond_false, mlook_append, h]; rfl
  · exact h
theorem keysE_len (E : EL) : (keysE E).length = E.length := by simp [keysE]
theorem reach_in (F : Nat) (n0 fr : Int) {own p : List Int} (ho : GoodB own) {E : EL} (hE : mlook own E = some p) (hl : E.length ≤ 200000) (hp : p.length ≤ 10) (hF : 1000000 < F) :
    impl_Board_reach_l8 F n0 fr own 0 E (keysE E) = some (expE sl E (own, p), keysE (expE sl E (own, p))) := by
  have f : ∀ n b : Nat, n ≤ 1000000 → b ≤ 128 → fits n b = true := fun n b h h2 => fits_of (by
    have : n * b ≤ 1000000 * 128 := Nat.mul_le_mul h h2
    omega) (by omega)
  exact (loop_fold (step := impl_Board_reach_s8 F n0 fr own) (fun d (E : EL) => (d, E, keysE E)) 4 (fun d E => insE E (sl own d, p ++ [((d : Nat) : Int)])) (fun E => (E, keysE E)) (fun d E => mlook own E = some p ∧ E.length ≤ 200000 + d) (F := F) (by omega) (by omega) (a := E) ⟨hE, by omega⟩
    (fun d E hd hI => by
      have hlen := insE_len E (sl own d, p ++ [((d : Nat) : Int)])
      refine ⟨⟨insE_keep hI.1 _, by omega⟩, fun Q kn kx => ?_⟩
      have hd' : (d : Int) < 4 := by omega
      have hs := impl_slides1 ho.1 ho.2 F (by omega) hd
      have e : (slideB own d).1 = sl own d := rfl
      have hk : (keysE E).length = E.length := keysE_len E
      have f1 := f p.length 8 (by omega) (by omega)
      have f2 := f (p ++ [(d : Int)]).length 8 (by simp; omega) (by omega)
      have f3 := f (keysE E ++ [sl own d]).length 128 (by simp [hk]; omega) (by omega)
      simp only [impl_Board_reach_s8, hd', decide_true, cond_true, hs, Option.isSome_some, Option.getD_some, e, mlook_isSome, hI.1, subn_self, f1, f2, f3]
      unfold insE
      cases hc : (E.map Prod.fst).contains (sl own d) with
      | true => rfl
      | false =>
        simp only [Bool.not_false, cond_true, cond_false, mput_none hc]
        simp [keysE])
    (fun E _ Q kn kx => by simp [impl_Board_reach_s8])).1

theorem exp_pre (E : EL) (x : List Int × List Int) : ∃ l, expE sl E x = E ++ l := by
  obtain ⟨l0, e0⟩ := insE_pre E (sl x.1 0, x.2 ++ [((0 : Nat) : Int)])
  obtain ⟨l1, e1⟩ := insE_pre (E ++ l0) (sl x.1 1, x.2 ++ [((1 : Nat) : Int)])
  obtain ⟨l2, e2⟩ := insE_pre (E ++ l0 ++ l1) (sl x.1 2, x.2 ++ [((2 : Nat) : Int)])
  obtain ⟨l3, e3⟩ := insE_pre (E ++ l0 ++ l1 ++ l2) (sl x.1 3, x.2 ++ [((3 : Nat) : Int)])
  refine ⟨l0 ++ l1 ++ l2 ++ l3, ?_⟩
  simp only [expE, List.foldl_cons, List.foldl_nil]
  rw [e0, e1, e2, e3]
  simp only [List.append_assoc]
theorem foldexp_pre : ∀ (l E : EL), ∃ m, l.foldl (expE sl) E = E ++ m
  | [], E => ⟨[], by simp⟩
  | x :: l, E => by
    obtain ⟨m, e⟩ := exp_pre E x
    obtain ⟨m', e'⟩ := foldexp_pre l (E ++ m)
    exact ⟨m ++ m', by rw [List.foldl_cons, e, e', List.append_assoc]⟩

/-- one level of the search -/
theorem reach_level (F : Nat) {b : List Int} (hb : GoodB b) {n : Nat} (hn : n ≤ 6) (k : Nat) (hk : k < n) {L : EL} (hL : TW sl b (k + 1) = TW sl b k ++ L) (hF : 1000000 < F) : ∀ (l pre : EL) (G : Nat), L = pre ++ l → ∀ (Q : Type) (kx : EL × LL → Option Q),
    loopC (impl_Board_reach_s3 F n) (G + l.length) ((((TW sl b k).length + pre.length : Nat) : Int), pre.foldl (expE sl) (TW sl b (k + 1)), keysE (pre.foldl (expE sl) (TW sl b (k + 1)))) kx =
    loopC (impl_Board_reach_s3 F n) G ((((TW sl b (k + 1)).length : Nat) : Int), L.foldl (expE sl) (TW sl b (k + 1)), keysE (L.foldl (expE sl) (TW sl b (k + 1)))) kx := by
  intro l
  induction l with
  | nil =>
    intro pre G h Q kx
    rw [List.append_nil] at h
    rw [← h, hL, List.length_append, List.length_nil, Nat.add_zero]
  | cons x l IH =>
    intro pre G h Q kx
    have h5 : TW sl b (k + 2) = L.foldl (expE sl) (TW sl b (k + 1)) := (TW_next sl b k hL).symm
    obtain ⟨m, hm⟩ := foldexp_pre pre (TW sl b (k + 1))
    obtain ⟨m2, hm2⟩ := foldexp_pre (x :: l) (pre.foldl (expE sl) (TW sl b (k + 1)))
    rw [← List.foldl_append, ← h, ← h5] at hm2
    have hlen : (pre.foldl (expE sl) (TW sl b (k + 1))).length ≤ 114688 := by
      have h1 := congrArg List.length hm2
      rw [List.length_append] at h1
      have h2 := TW_len sl b (k + 2)
      have h3 : 4 ^ (k + 2) ≤ 4 ^ 7 := Nat.pow_le_pow_right (by omega) (by omega)
      have h4 : (k + 2) * 4 ^ (k + 2) ≤ 7 * 4 ^ 7 := Nat.mul_le_mul (by omega) h3
      have h6 : (7 : Nat) * 4 ^ 7 = 114688 := by decide
      omega
    have hx : (TW sl b (k + 1))[(TW sl b k).length + pre.length]? = some x := by
      rw [hL, h, List.getElem?_append_right (by omega), Nat.add_sub_cancel_left, List.getElem?_append_right (by omega), Nat.sub_self]; rfl
    have hin : x ∈ TW sl b (k + 1) := List.mem_of_getElem? hx
    obtain ⟨w, w1, w2, w3⟩ := TW_ent sl b (k + 1) x hin
    have hidx : (TW sl b k).length + pre.length < (TW sl b (k + 1)).length := (List.getElem?_eq_some_iff.1 hx).1
    generalize hG : pre.foldl (expE sl) (TW sl b (k + 1)) = E at hlen hm ⊢
    have hE : E = TW sl b (k + 1) ++ m := hm
    have hidx2 : (TW sl b k).length + pre.length < E.length := by rw [hE, List.length_append]; omega
    have hg : rget (keysE E) (0 + ((TW sl b k).length + pre.length)) = x.1 := by
      rw [Nat.zero_add, rgetL, keysE, List.getElem?_map, hE, List.getElem?_append_left hidx, hx]; rfl
    have hlook : mlook x.1 E = some x.2 := by
      rw [hE, mlook_append, mlook_mem (TW_nodup sl b (k + 1)) hin]; rfl
    have hgood : GoodB x.1 := by rw [w3]; exact run_good hb w2
    have hp : x.2.length = w.length := by rw [w3]; exact nw_len w
    have hin8 := reach_in F n ((TW sl b k).length + pre.length : Nat) hgood hlook (by omega) (by omega) hF
    have ex : (x.1, x.2) = x := rfl
    rw [ex] at hin8
    have hne : ¬ ((x.2.length : Nat) : Int) = (n : Int) := by omega
    rw [List.length_cons, ← Nat.add_assoc]
    simp only [loopC, impl_Board_reach_s3, Int.toNat_natCast, hg, keysE_len, Int.ofNat_lt, hidx2, decide_true, cond_true, inR_cast, hlook, Option.getD_some, hin8, Option.isSome_some, beq_selfL, Bool.and_self]
    rw [show (((x.2.length : Nat) : Int) == (n : Int)) = false from by rw [beq_eq_false_iff_ne]; exact hne, cond_false]
    rw [wrap_succ (n := 200000) (by omega) (by omega)]
    have ih := IH (pre ++ [x]) G (by rw [h]; simp) Q kx
    rw [List.foldl_append, hG, List.length_append, ← Nat.add_assoc, List.foldl_cons, List.foldl_nil, List.length_singleton] at ih
    exact ih

/-- the levels that are left -/
theorem reach_levels (F : Nat) {b : List Int} (hb : GoodB b) {n : Nat} (hn : n ≤ 6) (hF : 1000000 < F) : ∀ (m k G : Nat), k + m = n → m * 200000 < G → loopC (impl_Board_reach_s3 F n) G ((((TW sl b k).length : Nat) : Int), TW sl b (k + 1), keysE (TW sl b (k + 1))) some = some (TW sl b (n + 1), keysE (TW sl b (n + 1))) := by
  intro m
  induction m with
  | zero =>
    intro k G h hG
    obtain ⟨G, rfl⟩ : ∃ G', G = G' + 1 := ⟨G - 1, by omega⟩
    obtain rfl : k = n := by omega
    obtain ⟨L, hL, hL2, _⟩ := fold_pre sl b (words k) (TW sl b k)
    have hL : TW sl b (k + 1) = TW sl b k ++ L := hL
    cases L with
    | nil =>
      have e : (TW sl b (k + 1)).length = (TW sl b k).length := by rw [hL]; simp
      have h1 : ¬ (((TW sl b k).length : Nat) : Int) < (((TW sl b (k + 1)).length : Nat) : Int) := by omega
      simp only [loopC, impl_Board_reach_s3, keysE_len, h1, decide_false, cond_false]
    | cons x l =>
      have hx : (TW sl b (k + 1))[(TW sl b k).length]? = some x := by
        rw [hL, List.getElem?_append_right (Nat.le_refl _), Nat.sub_self]; rfl
      have hin : x ∈ TW sl b (k + 1) := List.mem_of_getElem? hx
      have hidx : (TW sl b k).length < (TW sl b (k + 1)).length := (List.getElem?_eq_some_iff.1 hx).1
      have hg : rget (keysE (TW sl b (k + 1))) (0 + (TW sl b k).length) = x.1 := by
        rw [Nat.zero_add, rgetL, keysE, List.getElem?_map, hx]; rfl
      have hlook : mlook x.1 (TW sl b (k + 1)) = some x.2 := mlook_mem (TW_nodup sl b (k + 1)) hin
      obtain ⟨w, hw, e⟩ := hL2 x List.mem_cons_self
      have hp : x.2.length = k := by rw [e, nw_len]; exact (mem_words.1 hw).1
      simp only [loopC, impl_Board_reach_s3, Int.toNat_natCast, hg, keysE_len, Int.ofNat_lt, hidx, decide_true, cond_true, inR_cast, hlook, Option.getD_some, hp, beq_self_eq_true]
  | succ m IH =>
    intro k G h hG
    obtain ⟨L, hL, _, hL3⟩ := fold_pre sl b (words k) (TW sl b k)
    have hL : TW sl b (k + 1) = TW sl b k ++ L := hL
    have h3 : 4 ^ k ≤ 4 ^ 7 := Nat.pow_le_pow_right (by omega) (by omega)
    have h6 : (4 : Nat) ^ 7 = 16384 := by decide
    rw [words_len] at hL3
    obtain ⟨G', rfl⟩ : ∃ G', G = G' + L.length := ⟨G - L.length, by omega⟩
    have hlev := reach_level F hb hn k (by omega) hL hF L [] G' rfl _ some
    rw [TW_next sl b k hL] at hlev
    have hL4 : L.length ≤ 16384 := by rw [← h6]; exact Nat.le_trans hL3 h3
    have hG2 : m * 200000 < G' := by
      rw [Nat.succ_mul] at hG
      revert hG
      generalize m * 200000 = z
      generalize L.length = y at hL4
      intro hG
      exact Nat.lt_of_add_lt_add_right (n := 200000) (Nat.lt_of_lt_of_le hG (Nat.add_le_add_left (Nat.le_trans hL4 (by decide)) _))
    exact hlev.trans (IH (k + 1) G' (by omega) hG2)
theorem reach_eq (F : Nat) {b : List Int} (hb : GoodB b) {n : Nat} (hn : n ≤ 6) (hF : 2000000 < F) : impl_Board_reach_p F b n = some (TW sl b (n + 1), keysE (TW sl b (n + 1))) := by
  have h := reach_levels F hb hn (by omega) n 0 F (by omega) (by omega)
  have e0 : TW sl b 0 = [] := rfl
  have e1 : TW sl b 1 = [(b, [])] := by simp [TW, words, addW, insE, runW, nw]
  have e2 : keysE [(b, ([] : List Int))] = [b] := rfl
  have e3 : mput b ([] : List Int) [] = [(b, [])] := rfl
  rw [e0, Nat.zero_add, e1, e2, List.length_nil] at h
  simp only [impl_Board_reach_p, impl_Board_reach_c, e3, impl_Board_reach_l3]
  have h : loopC (impl_Board_reach_s3 F n) F (0, [(b, ([] : List Int))], [b]) some = some (TW sl b (n + 1), keysE (TW sl b (n + 1))) := h
  simp only [h, Option.isSome_some, Option.getD_some, cond_true]
end Go.Lv.P
