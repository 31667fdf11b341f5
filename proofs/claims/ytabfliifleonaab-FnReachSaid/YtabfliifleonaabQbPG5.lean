/-
Plain facts of the pure functions, part 5; without conditions.
-/
import Derived.Test.YtabfliifleonaabQbP4
import Derived.Test.YtabfliifleonaabQbPG3
import Derived.Test.YtabfliifleonaabQbPG1
import Derived.Test.YtabfliifleonaabQbPG4
import Derived.Test.YtabfliifleonaabQbPG2
import Derived.Test.YtabfliifleonaabQbP3
import Derived.Test.YtabfliifleonaabQbP1
import Derived.Test.YtabfliifleonaabQbP2
set_option linter.unusedVariables false
set_option linter.unusedSimpArgs false
set_option linter.unusedSectionVars false
namespace Go.Lv.P
open Go Go.Lv
def sidesL (l : List Int) : Bool := l.all fun x => inB x 0 3
theorem areDir_eq (F : Nat) (s : List Int) (hs : s.length ≤ 1000) (hF : 1000 < F) : impl_areDirections_p F s = some (sidesL s) := by
  have h : slices_IndexFunc_intint_impl_areDirections_f1_l2 F s s.length 0 = some (fnd (fun i => !inB (iget s i) 0 3) (fun i => (true, (i : Int))) (false, default) 0 s.length) := by
    refine loop_find (fun i => i) s.length _ _ _ (by omega) (by omega) (fun i hi Q kn kx => ?_) fun Q kn kx => ?_
    · simp only [slices_IndexFunc_intint_impl_areDirections_f1_s2, inR_cast, hi, impl_areDirections_f1_v, impl_isDirection_v, in_eq, Int.toNat_natCast, decide_true, cond_true, Int.ofNat_lt]
    · simp [slices_IndexFunc_intint_impl_areDirections_f1_s2]
  have hp := fnd_place (fun i => !inB (iget s i) 0 3) s.length
  rw [any_iget s fun x => !inB x 0 3] at hp
  have ha : sidesL s = !(s.any fun x => !inB x 0 3) := (any_not_all s fun x => inB x 0 3).symm
  simp only [impl_areDirections_p, impl_areDirections_c, slices_ContainsFunc_intint_impl_areDirections_f1_p, slices_ContainsFunc_intint_impl_areDirections_f1_c, slices_IndexFunc_intint_impl_areDirections_f1_p, slices_IndexFunc_intint_impl_areDirections_f1_c, h, Option.isSome_some, Option.getD_some, cond_true]
  rw [ha, ← hp]
  cases (fnd (fun i => !inB (iget s i) 0 3) (fun i => (true, (i : Int))) (false, default) 0 s.length).1 <;> rfl
/-- one slide more, and the score -/
def dstep (s : List Int × Int) (x : Int) : List Int × Int := ((slideB s.1 x.toNat).1, IntKind.wrap .i64 (s.2 + (slideB s.1 x.toNat).2))
def doS (b : List Int) (l : List Int) : List Int × Int := l.foldl dstep (b, 0)
theorem dstep_fst : ∀ (l : List Int) (s : List Int × Int), (l.foldl dstep s).1 = stp (l.map Int.toNat) s.1
  | [], s => rfl
  | x :: l, s => by rw [List.foldl_cons, dstep_fst l]; rfl
theorem doS_fst (b l : List Int) : (doS b l).1 = stp (l.map Int.toNat) b := dstep_fst l _
theorem sides_nat {l : List Int} (h : sidesL l = true) : ∀ i, i < l.length → ∃ d : Nat, iget l i = (d : Int) ∧ d < 4 := fun i hi => by
  simp only [sidesL, List.all_eq_true] at h
  have := h (iget l i) (by rw [igetL, List.getElem?_eq_getElem hi]; exact List.getElem_mem _)
  simp [inB] at this
  exact ⟨(iget l i).toNat, by omega, by omega⟩
theorem sides_lt {l : List Int} (h : sidesL l = true) : ∀ d ∈ l.map Int.toNat, d < 4 := fun d hd => by
  obtain ⟨x, hx, rfl⟩ := List.mem_map.1 hd
  simp only [sidesL, List.all_eq_true] at h
  have := h x hx
  simp [inB] at this; omega
theorem fld_igetl {A : Type} (l : List Int) (g : A → Int → A) : ∀ (m i : Nat) (a : A), i + m = l.length → fld (fun i s => g s (iget l i)) i m a = (l.drop i).foldl g a
  | 0, i, a, h => by rw [List.drop_eq_nil_of_le (by omega)]; rfl
  | m + 1, i, a, h => by
    have hi : i < l.length := by omega
    rw [fld, fld_igetl l g m (i + 1) _ (by omega), List.drop_eq_getElem_cons hi, List.foldl_cons, igetL, List.getElem?_eq_getElem hi]; rfl
theorem doSl_val (F : Nat) {b : List Int} (hb : b.length = 16) (l : List Int) (hl : l.length ≤ 900) (hF : 1000 < F) : impl_DoSlides_p F b l = some (bif okB b && sidesL l then ((doS b l).1, (doS b l).2, true) else ([0, 0, 0, 0, 0, 0, 0, 0, 0, 0, 0, 0, 0, 0, 0, 0], 0, false)) := by
  simp only [impl_DoSlides_p, impl_DoSlides_c, impl_IsBoard_eq F b hb hF, areDir_eq F l (by omega) hF, Option.isSome_some, Option.getD_some, cond_true]
  cases hB : okB b with
  | false => rfl
  | true =>
    cases hs : sidesL l with
    | false => rfl
    | true =>
      have h := loop_fold (step := impl_DoSlides_s5 F l ((l.length : Nat) : Int)) (fun i (s : List Int × Int) => (s.2, i, s.1)) l.length (fun i s => dstep s (iget l i)) (fun s => (s.2, s.1)) (fun i s => Gd s.1) (F := F) (by omega) (by omega) (a := (b, 0)) ⟨hb, hB⟩
        (fun i s hi g => by
          obtain ⟨d, hd, hd4⟩ := sides_nat hs i hi
          obtain ⟨m, hm⟩ := impl_slide g.1 g.2 F hF hd4
          rw [hd]
          refine ⟨?_, fun Q kn kx => ?_⟩
          · show Gd (slideB s.1 ((d : Nat) : Int).toNat).1
            rw [Int.toNat_natCast]; exact slide_ok g.1 g.2 hd4
          · simp only [impl_DoSlides_s5, Int.ofNat_lt, hi, decide_true, cond_true, inR_cast, Int.toNat_natCast, hd, hm, Option.isSome_some, Option.getD_some, dstep]) (fun s _ Q kn kx => by simp [impl_DoSlides_s5])
      have h1 := h.1
      rw [fld_igetl l dstep l.length 0 _ (by omega), List.drop_zero] at h1
      have h1 : impl_DoSlides_l5 F l ((l.length : Nat) : Int) 0 0 b = some ((doS b l).2, (doS b l).1) := h1
      simp only [h1, Option.isSome_some, Option.getD_some, cond_true, cond_false, Bool.not_true, Bool.and_self]
end Go.Lv.P

namespace Go.Lv.P
open Go Go.Lv
theorem rget_self (l : LL) (f : Nat → LL) (g : List Int → LL) (h : ∀ i, i < l.length → f i = g (rget l i)) : (List.range' 0 l.length).flatMap f = l.flatMap g := by
  have : ∀ (m i : Nat), i + m = l.length → (List.range' i m).flatMap f = (l.drop i).flatMap g := by
    intro m
    induction m with
    | zero => intro i hi; rw [List.drop_eq_nil_of_le (by omega)]; rfl
    | succ m ih =>
      intro i hi
      have hil : i < l.length := by omega
      have hg : rget l i = l[i] := by rw [rgetL, List.getElem?_eq_getElem hil]; rfl
      rw [List.range'_succ, List.flatMap_cons, ih (i + 1) (by omega), List.drop_eq_getElem_cons hil, List.flatMap_cons, h i hil, hg]
  simpa using this l.length 0 (by omega)
theorem plm_list (b : List Int) : plm b = (em b).flatMap fun c => [[iget c 0, iget c 1, 1], [iget c 0, iget c 1, 2]] := by
  rw [plm, fld_add, List.nil_append]
  exact rget_self _ _ _ fun i _ => rfl
theorem stepsOn_list (n : List Int) (d : Int) : stepsOn n d = (plm n).map fun p => d :: p := by
  rw [plm_list, List.map_flatMap, stepsOn, fld_add, List.nil_append]
  refine rget_self _ _ _ fun i hi => ?_
  obtain ⟨x, y, hc⟩ := list2 (cells_len _ (em_get hi))
  rw [hc]
  rfl
/-- what a placement is -/
theorem plm_is {b p : List Int} (h : p ∈ plm b) : ∃ (r c : Nat) (t : Int), p = [(r : Int), (c : Int), t] ∧ r < 4 ∧ c < 4 ∧ (t = 1 ∨ t = 2) ∧ iget b (r * 4 + c) = 0 := by
  rw [plm_list] at h
  simp only [List.mem_flatMap, List.mem_cons, List.not_mem_nil, or_false] at h
  obtain ⟨q, hq, h⟩ := h
  have hz : (iget b (plc q) == 0) = true := (List.mem_filter.1 hq).2
  have hz : iget b (plc q) = 0 := by simpa using hz
  have key : ∀ q ∈ cells16, ∃ r c : Nat, q = [(r : Int), (c : Int)] ∧ r < 4 ∧ c < 4 := cells_all fun r c hr hc => ⟨r, c, rfl, hr, hc⟩
  obtain ⟨r, c, rfl, hr, hc⟩ := key q (em_mem b q hq)
  have e : plc [(r : Int), (c : Int)] = r * 4 + c := by
    show 0 + (r : Int).toNat * 4 + (c : Int).toNat * 1 = _
    simp
  rw [e] at hz
  rcases h with rfl | rfl
  · exact ⟨r, c, 1, rfl, hr, hc, .inl rfl, hz⟩
  · exact ⟨r, c, 2, rfl, hr, hc, .inr rfl, hz⟩
theorem fld_rget {A : Type} (l : LL) (g : List Int → A → A) (s : A) : fld (fun i s => g (rget l i) s) 0 l.length s = l.foldl (fun s x => g x s) s := by
  have : ∀ (m i : Nat) (s : A), i + m = l.length → fld (fun i s => g (rget l i) s) i m s = (l.drop i).foldl (fun s x => g x s) s := by
    intro m
    induction m with
    | zero => intro i s h; rw [List.drop_eq_nil_of_le (by omega)]; rfl
    | succ m ih =>
      intro i s h
      have hi : i < l.length := by omega
      have hg : rget l i = l[i] := by rw [rgetL, List.getElem?_eq_getElem hi]; rfl
      simp only [fld]
      rw [ih (i + 1) _ (by omega), List.drop_eq_getElem_cons hi, List.foldl_cons, hg]
  simpa using this l.length 0 s (by omega)
/-- how many tenths a placement has, in its cell -/
def wgt (p : List Int) : Nat := bif iget p 2 == 2 then 1 else 9
theorem wgt_9 (p : List Int) : wgt p ≤ 9 := by
  unfold wgt
  cases iget p 2 == 2 <;> simp
theorem wsum (b : List Int) : (plm b).foldl (fun s p => s + wgt p) 0 = 10 * (em b).length := by
  rw [plm_list]
  have : ∀ (l : LL) (s : Nat), (l.flatMap fun c => [[iget c 0, iget c 1, (1 : Int)], [iget c 0, iget c 1, 2]]).foldl (fun s p => s + wgt p) s = s + 10 * l.length := by
    intro l
    induction l with
    | nil => intro s; simp
    | cons c l ih =>
      intro s
      rw [List.flatMap_cons, List.foldl_append, ih]
      show s + 9 + 1 + 10 * l.length = s + 10 * (l.length + 1)
      omega
  simpa using this (em b) 0
end Go.Lv.P

namespace Go.Lv.P
open Go Go.Lv
def sl (b : List Int) (d : Nat) : List Int := (slideB b d).1
def GoodB (b : List Int) : Prop := b.length = 16 ∧ okB b = true
theorem sl_good {b : List Int} (h : GoodB b) {d : Nat} (hd : d < 4) : GoodB (sl b d) := slide_ok h.1 h.2 hd
theorem run_good {w : List Nat} : ∀ {b : List Int}, GoodB b → (∀ d ∈ w, d < 4) → GoodB (runW sl b w) := by
  induction w with
  | nil => intro b h _; simp only [runW]; exact h
  | cons d w ih =>
    intro b h hw
    simp only [runW]
    exact ih (sl_good h (hw d List.mem_cons_self)) fun e he => hw e (List.mem_cons_of_mem _ he)
def addS (x : List Int) (s : LL) : LL := fld (fun d s => insB (sl x d) s) 0 4 s
def nextL (all : LL) : LL := all.foldl (fun s x => addS x s) all
def reachL (b : List Int) : Nat → LL
  | 0 => [b]
  | n + 1 => nextL (reachL b n)
theorem insB_len1 (x : List Int) : ∀ l : LL, (insB x l).length ≤ l.length + 1 := by
  intro l
  induction l with
  | nil => simp [insB]
  | cons a r ih =>
    simp only [insB]
    cases ltL a x
    · cases a == x <;> simp
    · simp only [cond_true, List.length_cons]; omega
theorem addS_mem (x : List Int) (s : LL) (y : List Int) : y ∈ addS x s ↔ y ∈ s ∨ ∃ d : Nat, d < 4 ∧ y = sl x d := by
  simp only [addS, fld, insB_mem, Nat.zero_add, Nat.reduceAdd]
  constructor
  · rintro (h | h | h | h | h)
    · exact .inr ⟨3, by omega, h⟩
    · exact .inr ⟨2, by omega, h⟩
    · exact .inr ⟨1, by omega, h⟩
    · exact .inr ⟨0, by omega, h⟩
    · exact .inl h
  · rintro (h | ⟨d, hd, h⟩)
    · exact .inr (.inr (.inr (.inr h)))
    · obtain rfl | rfl | rfl | rfl : d = 0 ∨ d = 1 ∨ d = 2 ∨ d = 3 := by omega
      · exact .inr (.inr (.inr (.inl h)))
      · exact .inr (.inr (.inl h))
      · exact .inr (.inl h)
      · exact .inl h
theorem addS_len (x : List Int) (s : LL) : (addS x s).length ≤ s.length + 4 := by
  simp only [addS, fld, Nat.zero_add, Nat.reduceAdd]
  have h1 := insB_len1 (sl x 0) s
  have h2 := insB_len1 (sl x 1) (insB (sl x 0) s)
  have h3 := insB_len1 (sl x 2) (insB (sl x 1) (insB (sl x 0) s))
  have h4 := insB_len1 (sl x 3) (insB (sl x 2) (insB (sl x 1) (insB (sl x 0) s)))
  omega
def OKs (s : LL) : Prop := (∀ x ∈ s, GoodB x) ∧ Asc s
theorem ins_ok {s : LL} (h : OKs s) {x : List Int} (hx : GoodB x) : OKs (insB x s) := by
  refine ⟨fun y hy => ?_, insB_asc h.2 fun y hy => by rw [(h.1 y hy).1, hx.1]⟩
  rcases insB_mem.1 hy with rfl | hy
  · exact hx
  · exact h.1 y hy
theorem addS_ok {s : LL} (h : OKs s) {x : List Int} (hx : GoodB x) : OKs (addS x s) :=
  ins_ok (ins_ok (ins_ok (ins_ok h (sl_good hx (by omega))) (sl_good hx (by omega))) (sl_good hx (by omega))) (sl_good hx (by omega))
theorem foldS_mem : ∀ (l s : LL) (y : List Int), y ∈ l.foldl (fun s x => addS x s) s ↔ y ∈ s ∨ ∃ x ∈ l, ∃ d : Nat, d < 4 ∧ y = sl x d
  | [], s, y => by simp
  | x :: l, s, y => by
    rw [List.foldl_cons, foldS_mem l, addS_mem]
    constructor
    · rintro ((h | h) | ⟨z, hz, h⟩)
      · exact .inl h
      · exact .inr ⟨x, List.mem_cons_self, h⟩
      · exact .inr ⟨z, List.mem_cons_of_mem _ hz, h⟩
    · rintro (h | ⟨z, hz, h⟩)
      · exact .inl (.inl h)
      · rcases List.mem_cons.1 hz with rfl | hz
        · exact .inl (.inr h)
        · exact .inr ⟨z, hz, h⟩
theorem foldS_ok : ∀ (l s : LL), (∀ x ∈ l, GoodB x) → OKs s → OKs (l.foldl (fun s x => addS x s) s)
  | [], s, _, h => h
  | x :: l, s, hl, h => foldS_ok l _ (fun y hy => hl y (List.mem_cons_of_mem _ hy)) (addS_ok h (hl x List.mem_cons_self))
theorem foldS_len : ∀ (l s : LL), (l.foldl (fun s x => addS x s) s).length ≤ s.length + 4 * l.length
  | [], s => by simp
  | x :: l, s => by
    have h1 := foldS_len l (addS x s)
    have h2 := addS_len x s
    rw [List.foldl_cons, List.length_cons]; omega
theorem reachL_ok {b : List Int} (hb : GoodB b) : ∀ n : Nat, OKs (reachL b n)
  | 0 => ⟨fun x hx => by simp only [reachL, List.mem_singleton] at hx; subst hx; exact hb, fun x hx => (by cases hx), trivial⟩
  | n + 1 => foldS_ok _ _ (reachL_ok hb n).1 (reachL_ok hb n)
theorem reachL_len (b : List Int) : ∀ n : Nat, (reachL b n).length ≤ 5 ^ n
  | 0 => Nat.le_refl _
  | n + 1 => by
    have h1 := reachL_len b n
    have h2 := foldS_len (reachL b n) (reachL b n)
    rw [Nat.pow_succ]
    show (nextL (reachL b n)).length ≤ _
    unfold nextL
    omega
theorem reachL_mem {b : List Int} : ∀ (n : Nat) (y : List Int), y ∈ reachL b n ↔ ∃ w : List Nat, w.length ≤ n ∧ (∀ d ∈ w, d < 4) ∧ runW sl b w = y
  | 0, y => by
    simp only [reachL, List.mem_singleton]
    constructor
    · rintro rfl; exact ⟨[], Nat.le_refl _, fun d h => (by cases h), rfl⟩
    · rintro ⟨w, h, _, rfl⟩
      have : w = [] := List.length_eq_zero_iff.1 (by omega)
      subst this; rfl
  | n + 1, y => by
    show y ∈ nextL (reachL b n) ↔ _
    rw [nextL, foldS_mem]
    constructor
    · rintro (h | ⟨x, hx, d, hd, rfl⟩)
      · obtain ⟨w, h1, h2, h3⟩ := (reachL_mem n y).1 h
        exact ⟨w, by omega, h2, h3⟩
      · obtain ⟨w, h1, h2, rfl⟩ := (reachL_mem n x).1 hx
        refine ⟨w ++ [d], by simp; omega, fun e he => ?_, runW_snoc sl b w d⟩
        rcases List.mem_append.1 he with he | he
        · exact h2 e he
        · rw [List.mem_singleton] at he; omega
    · rintro ⟨w, h1, h2, h3⟩
      rcases List.eq_nil_or_concat w with rfl | ⟨v, d, rfl⟩
      · exact .inl ((reachL_mem n y).2 ⟨[], by simp, h2, h3⟩)
      · rw [List.concat_eq_append] at h1 h2 h3
        rw [runW_snoc] at h3
        rw [List.length_append, List.length_singleton] at h1
        exact .inr ⟨runW sl b v, (reachL_mem n _).2 ⟨v, by omega, fun e he => h2 e (List.mem_append_left _ he), rfl⟩, d, h2 d (by simp), h3.symm⟩
theorem spec_next (F : Nat) {all : LL} (ho : OKs all) (hl : all.length ≤ 20000) (hF : 1000000 < F) : spec_l5Next_p F all = some (nextL all) := by
  have hin : ∀ (i : Nat) (s : LL), i < all.length → OKs s → s.length ≤ 200000 → spec_l5Next_l6 F all i s 0 = some (addS (rget all i) s) := fun i s hi hs hsl => by
    have hg := ho.1 _ (rget_mem hi)
    exact (loop_fold (step := spec_l5Next_s6 F all i) (fun d (s : LL) => (s, d)) 4 (fun d s => insB (sl (rget all i) d) s) (fun s => s) (fun d s => OKs s ∧ s.length ≤ 200000 + d) (F := F) (by omega) (by omega) (a := s) ⟨hs, by omega⟩
      (fun d s hd hI => by
        have hg2 := sl_good hg hd
        have h1 := insB_len1 (sl (rget all i) d) s
        refine ⟨⟨ins_ok hI.1 hg2, by omega⟩, fun Q kn kx => ?_⟩
        have hd' : (d : Int) < 4 := by omega
        have e : (slideB (rget all i) d).1 = sl (rget all i) d := rfl
        simp only [spec_l5Next_s6, hd', decide_true, cond_true, inR_cast, hi, Int.toNat_natCast, spec_slide hg.1 hg.2 F (by omega) hd, Option.isSome_some, Option.getD_some, e,
          add_eq F (by omega) hg2.1 (fun x hx => (hI.1.1 x hx).1) (show s.length ≤ 1000000 by omega) (by omega)])
      (fun s _ Q kn kx => by simp [spec_l5Next_s6])).1
  have h := loop_fold (step := spec_l5Next_s3 F all) (fun i (s : LL) => (s, i)) all.length (fun i s => addS (rget all i) s) (fun s => s) (fun i s => OKs s ∧ s.length ≤ 20000 + 4 * i) (F := F) (by omega) (by omega) (a := all) ⟨ho, by omega⟩
    (fun i s hi hI => by
      have h1 := addS_len (rget all i) s
      refine ⟨⟨addS_ok hI.1 (ho.1 _ (rget_mem hi)), by omega⟩, fun Q kn kx => ?_⟩
      simp only [spec_l5Next_s3, Int.ofNat_lt, hi, decide_true, cond_true, hin i s hi hI.1 (by omega), Option.isSome_some, Option.getD_some])
    (fun s _ Q kn kx => by simp [spec_l5Next_s3])
  have h1 := h.1
  rw [fld_rget all (fun x (s : LL) => addS x s)] at h1
  have h1 : spec_l5Next_l3 F all all 0 = _ := h1
  simp only [spec_l5Next_p, spec_l5Next_c, h1, Option.isSome_some, Option.getD_some, cond_true]
  rfl
theorem reachL_small (b : List Int) {n : Nat} (hn : n ≤ 6) : (reachL b n).length ≤ 15625 := by
  have h := reachL_len b n
  have : 5 ^ n ≤ 5 ^ 6 := Nat.pow_le_pow_right (by omega) hn
  omega
end Go.Lv.P

namespace Go.Lv.P
open Go Go.Lv
theorem has_eq (F : Nat) (all : LL) (c : List Int) (hl : all.length ≤ 100000) (hF : 1000000 < F) : spec_l5Has_p F all c = some (all.contains c) := by
  have h : spec_l5Has_l2 F all c 0 = some ((List.range all.length).any fun i => rget all i == c) := by
    rw [← fnd_any]
    refine loop_find (step := spec_l5Has_s2 F all c) (fun i => i) all.length _ _ _ (by omega) (by omega) (fun i hi Q kn kx => ?_) fun Q kn kx => ?_
    · simp only [spec_l5Has_s2, Int.ofNat_lt, hi, decide_true, cond_true, inR_cast, Int.toNat_natCast]
    · simp [spec_l5Has_s2]
  have e : ((List.range all.length).any fun i => rget all i == c) = all.contains c := by
    rw [any_rget all fun x => x == c]
    rw [Bool.eq_iff_iff, List.any_eq_true, List.contains_iff_mem]
    constructor
    · rintro ⟨x, hx, e⟩; rw [← eq_of_beq e]; exact hx
    · intro h; exact ⟨c, h, beq_self_eq_true c⟩
  simp only [spec_l5Has_p, spec_l5Has_c, h, Option.isSome_some, Option.getD_some, cond_true, e]
  cases all.contains c <;> rfl
/-- the number of slides, from n on, m at most -/
def fewL (a c : List Int) : Nat → Nat → Int
  | n, 0 => -1
  | n, m + 1 => bif (reachL a n).contains c then (n : Int) else fewL a c (n + 1) m
theorem fewest_loop (F : Nat) {a c : List Int} (ha : GoodB a) {most : Nat} (hm : most ≤ 6) (hF : 1000000 < F) : ∀ (m n G : Nat), n + m = most + 1 → m < G → ∃ r : Bool × Int, loopC (spec_l5Fewest_s3 F most c) G (reachL a n, (n : Int)) some = some r ∧ (bif r.1 then r.2 else -1) = fewL a c n m
  | 0, n, G, h, hG => by
    obtain ⟨G, rfl⟩ : ∃ G', G = G' + 1 := ⟨G - 1, by omega⟩
    have : ¬ (n : Int) ≤ (most : Int) := by omega
    refine ⟨(false, default), ?_, rfl⟩
    simp only [loopC, spec_l5Fewest_s3, this, decide_false, cond_false]
  | m + 1, n, G, h, hG => by
    obtain ⟨G, rfl⟩ : ∃ G', G = G' + 1 := ⟨G - 1, by omega⟩
    have hn : (n : Int) ≤ (most : Int) := by omega
    have hs := reachL_small a (n := n) (by omega)
    simp only [loopC, spec_l5Fewest_s3, hn, decide_true, cond_true, has_eq F (reachL a n) c (by omega) hF, Option.isSome_some, Option.getD_some, spec_next F (reachL_ok ha n) (by omega) hF, fewL]
    cases (reachL a n).contains c with
    | true => exact ⟨(true, n), rfl, rfl⟩
    | false =>
      have e : nextL (reachL a n) = reachL a (n + 1) := rfl
      rw [cond_false, cond_false, e, wrap_of (by omega) (by omega), show (n : Int) + 1 = ((n + 1 : Nat) : Int) by omega]
      exact fewest_loop F ha hm hF m (n + 1) G (by omega) (by omega)
theorem fewest_eq (F : Nat) {a c : List Int} (ha : GoodB a) {most : Nat} (hm : most ≤ 6) (hF : 1000000 < F) : spec_l5Fewest_p F a c most = some (fewL a c 0 (most + 1)) := by
  obtain ⟨r, h1, h2⟩ := fewest_loop F (c := c) ha hm hF (most + 1) 0 F (by omega) (by omega)
  have h1 : spec_l5Fewest_l3 F most c [a] 0 = some r := h1
  simp only [spec_l5Fewest_p, spec_l5Fewest_c, h1, Option.isSome_some, Option.getD_some, cond_true, ← h2]
  cases r.1 <;> rfl
/-- a board that slides reach is there at some number of slides first -/
theorem contains_reach {a c : List Int} {n : Nat} : (reachL a n).contains c = true ↔ ∃ w : List Nat, w.length ≤ n ∧ (∀ d ∈ w, d < 4) ∧ runW sl a w = c := by
  rw [List.contains_iff_mem, reachL_mem]
theorem fewL_none {a c : List Int} : ∀ (m n : Nat), (∀ k, n ≤ k → k < n + m → (reachL a k).contains c = false) → fewL a c n m = -1
  | 0, n, _ => rfl
  | m + 1, n, h => by
    simp only [fewL, h n (Nat.le_refl _) (by omega), cond_false]
    exact fewL_none m (n + 1) fun k h1 h2 => h k (by omega) (by omega)
theorem fewL_at {a c : List Int} {k : Nat} (hk : (reachL a k).contains c = true) (hb : ∀ j, j < k → (reachL a j).contains c = false) : ∀ (m n : Nat), n ≤ k → k < n + m → fewL a c n m = k
  | 0, n, h1, h2 => by omega
  | m + 1, n, h1, h2 => by
    simp only [fewL]
    by_cases h : n = k
    · subst h; rw [hk]; rfl
    · rw [hb n (by omega), cond_false]
      exact fewL_at hk hb m (n + 1) (by omega) (by omega)
/-- the first word of fewest letters -/
theorem mlook_TW (a c : List Int) (k : Nat) : mlook c (TW sl a (k + 1)) = (mlook c (TW sl a k)).or (((words k).find? fun w => runW sl a w == c).map nw) := by
  rw [TW, mlook_fold]
theorem TW_reach (a c : List Int) (n : Nat) : (mlook c (TW sl a (n + 1))).isSome = (reachL a n).contains c := by
  rw [Bool.eq_iff_iff, mlook_isSome, List.contains_iff_mem, TW_mem, contains_reach]
  constructor
  · rintro ⟨w, h, h2⟩; exact ⟨w, by omega, h2⟩
  · rintro ⟨w, h, h2⟩; exact ⟨w, by omega, h2⟩
theorem mlook_keep {a c p : List Int} {j k : Nat} (h : mlook c (TW sl a j) = some p) (hjk : j ≤ k) : mlook c (TW sl a k) = some p := by
  induction k with
  | zero => rw [show (0 : Nat) = j by omega]; exact h
  | succ k ih =>
    by_cases hj : j = k + 1
    · subst hj; exact h
    · rw [mlook_TW, ih (by omega)]; rfl
/-- either there is none, or it has a least number of letters -/
theorem road (a c : List Int) : ∀ k : Nat, (mlook c (TW sl a k) = none ∧ ∀ j, j < k → (reachL a j).contains c = false) ∨
    ∃ (n : Nat) (w : List Nat), n < k ∧ mlook c (TW sl a k) = some (nw w) ∧ (words n).find? (fun w => runW sl a w == c) = some w ∧ (reachL a n).contains c = true ∧ ∀ j, j < n → (reachL a j).contains c = false
  | 0 => .inl ⟨rfl, fun j h => by omega⟩
  | k + 1 => by
    rcases road a c k with ⟨h1, h2⟩ | ⟨n, w, h0, h1, h2, h3, h4⟩
    · have e := mlook_TW a c k
      rw [h1, Option.none_or] at e
      cases hf : (words k).find? fun w => runW sl a w == c with
      | none =>
        rw [hf] at e
        refine .inl ⟨e, fun j hj => ?_⟩
        by_cases hjk : j = k
        · subst hjk; rw [← TW_reach, e]; rfl
        · exact h2 j (by omega)
      | some w =>
        rw [hf] at e
        exact .inr ⟨k, w, by omega, e, hf, by rw [← TW_reach, e]; rfl, h2⟩
    · exact .inr ⟨n, w, by omega, mlook_keep h1 (by omega), h2, h3, h4⟩
theorem find_len {a c : List Int} {n : Nat} {w : List Nat} (h : (words n).find? (fun w => runW sl a w == c) = some w) : w.length = n ∧ (∀ d ∈ w, d < 4) ∧ runW sl a w = c := by
  obtain ⟨h1, h2⟩ := mem_words.1 (List.mem_of_find?_eq_some h)
  have h3 := List.find?_some (p := fun w => runW sl a w == c) h
  exact ⟨h1, h2, eq_of_beq h3⟩
def fewI : Option (List Int) → Int
  | some p => p.length
  | none => -1
def fewR : Option (List Int) → Int × Bool
  | some p => (p.length, true)
  | none => (0, false)
/-- what the fewest slides are, by the words -/
theorem few_road (a c : List Int) : fewL a c 0 7 = fewI (mlook c (TW sl a 7)) := by
  rcases road a c 7 with ⟨h1, h2⟩ | ⟨n, w, h0, h1, h2, h3, h4⟩
  · rw [h1]
    exact fewL_none 7 0 fun k _ hk => h2 k (by omega)
  · rw [h1, fewL_at h3 h4 7 0 (by omega) (by omega)]
    simp only [fewI, nw_len, (find_len h2).1]
theorem few_case (r : Option (List Int)) : (spec_l1Most_v (fewI r) 0, decide ((0 : Int) ≤ (fewI r))) = fewR r := by
  cases r with
  | none => rfl
  | some p =>
    have e : fewI (some p) = (p.length : Int) := rfl
    have e2 : fewR (some p) = ((p.length : Int), true) := rfl
    rw [e, e2]
    generalize (p.length : Nat) = n
    have h1 : decide ((0 : Int) ≤ (n : Int)) = true := decide_eq_true (by omega)
    rw [h1]
    unfold spec_l1Most_v
    cases hp : decide ((0 : Int) < (n : Int)) with
    | true => rfl
    | false =>
      have := of_decide_eq_false hp
      have : (n : Int) = 0 := by omega
      rw [this]; rfl
theorem spec_fewest0 (F : Nat) {a c : List Int} (ha : a.length = 16) (hc : c.length = 16) (hF : 1000000 < F) (r : Option (List Int)) (e : okB a = true → spec_l5Fewest_p F a c 6 = some (fewI r)) : spec_FewestSlides_p F a c = some (bif okB a && okB c then fewR r else (0, false)) := by
  simp only [spec_FewestSlides_p, spec_FewestSlides_c, spec_l2Board_eq F a ha (by omega), spec_l2Board_eq F c hc (by omega), Option.isSome_some, Option.getD_some, cond_true]
  cases ka : okB a with
  | false => rfl
  | true =>
    cases kc : okB c with
    | false => rfl
    | true =>
      simp only [Bool.not_true, cond_false, cond_true, Bool.and_self, e ka, Option.isSome_some, Option.getD_some]
      exact congrArg some (few_case r)
theorem spec_fewest (F : Nat) {a c : List Int} (ha : a.length = 16) (hc : c.length = 16) (hF : 1000000 < F) : spec_FewestSlides_p F a c = some (bif okB a && okB c then fewR (mlook c (TW sl a 7)) else (0, false)) := by
  refine spec_fewest0 F ha hc hF _ fun ka => ?_
  have e := fewest_eq F (c := c) (most := 6) ⟨ha, ka⟩ (by omega) hF
  rw [few_road] at e
  exact e
end Go.Lv.P

namespace Go.Lv.P
open Go Go.Lv
def keysE (E : EL) : LL := E.map Prod.fst
theorem insE_keep {E : EL} {y p : List Int} (h : mlook y E = some p) (x : List Int × List Int) : mlook y (insE E x) = some p := by
  unfold insE
  cases (E.map Prod.fst).contains x.1
  · rw [cond_false, mlook_append, h]; rfl
  · exact h
theorem keysE_len (E : EL) : (keysE E).length = E.length := by simp [keysE]
theorem reach_in (F : Nat) (n0 fr : Int) {own p : List Int} (ho : GoodB own) {E : EL} (hE : mlook own E = some p) (hl : E.length ≤ 200000) (hp : p.length ≤ 10) (hF : 1000000 < F) :
    impl_Board_reach_l8 F n0 fr own 0 E (keysE E) = some (expE sl E (own, p), keysE (expE sl E (own, p))) := by
  have f : ∀ n b : Nat, n ≤ 1000000 → b ≤ 128 → fits n b = true := fun n b h h2 => fits_of (by
    have : n * b ≤ 1000000 * 128 := Nat.mul_le_mul h h2
    omega) (by omega)
  exact (loop_fold (step := impl_Board_reach_s8 F n0 fr own) (fun d (E : EL) => (d, E, keysE E)) 4 (fun d E => insE E (sl own d, p ++ [((d : Nat) : Int)])) (fun E => (E, keysE E)) (fun d E => mlook own E = some p ∧ E.length ≤ 200000 + d) (F := F) (by omega) (by omega) (a := E) ⟨hE, by omega⟩
    (fun d E hd hI => by
      have hlen := insE_len E (sl own d, p ++ [((d : Nat) : Int)])
      refine ⟨⟨insE_keep hI.1 _, by omega⟩, fun Q kn kx => ?_⟩
      have hd' : (d : Int) < 4 := by omega
      have hs := impl_slides1 ho.1 ho.2 F (by omega) hd
      have e : (slideB own d).1 = sl own d := rfl
      have hk : (keysE E).length = E.length := keysE_len E
      have f1 := f p.length 8 (by omega) (by omega)
      have f2 := f (p ++ [(d : Int)]).length 8 (by simp; omega) (by omega)
      have f3 := f (keysE E ++ [sl own d]).length 128 (by simp [hk]; omega) (by omega)
      simp only [impl_Board_reach_s8, hd', decide_true, cond_true, hs, Option.isSome_some, Option.getD_some, e, mlook_isSome, hI.1, subn_self, f1, f2, f3]
      unfold insE
      cases hc : (E.map Prod.fst).contains (sl own d) with
      | true => rfl
      | false =>
        simp only [Bool.not_false, cond_true, cond_false, mput_none hc]
        simp [keysE])
    (fun E _ Q kn kx => by simp [impl_Board_reach_s8])).1
theorem exp_pre (E : EL) (x : List Int × List Int) : ∃ l, expE sl E x = E ++ l := by
  obtain ⟨l0, e0⟩ := insE_pre E (sl x.1 0, x.2 ++ [((0 : Nat) : Int)])
  obtain ⟨l1, e1⟩ := insE_pre (E ++ l0) (sl x.1 1, x.2 ++ [((1 : Nat) : Int)])
  obtain ⟨l2, e2⟩ := insE_pre (E ++ l0 ++ l1) (sl x.1 2, x.2 ++ [((2 : Nat) : Int)])
  obtain ⟨l3, e3⟩ := insE_pre (E ++ l0 ++ l1 ++ l2) (sl x.1 3, x.2 ++ [((3 : Nat) : Int)])
  refine ⟨l0 ++ l1 ++ l2 ++ l3, ?_⟩
  simp only [expE, List.foldl_cons, List.foldl_nil]
  rw [e0, e1, e2, e3]
  simp only [List.append_assoc]
theorem foldexp_pre : ∀ (l E : EL), ∃ m, l.foldl (expE sl) E = E ++ m
  | [], E => ⟨[], by simp⟩
  | x :: l, E => by
    obtain ⟨m, e⟩ := exp_pre E x
    obtain ⟨m', e'⟩ := foldexp_pre l (E ++ m)
    exact ⟨m ++ m', by rw [List.foldl_cons, e, e', List.append_assoc]⟩
/-- one level of the search -/
theorem reach_level (F : Nat) {b : List Int} (hb : GoodB b) {n : Nat} (hn : n ≤ 6) (k : Nat) (hk : k < n) {L : EL} (hL : TW sl b (k + 1) = TW sl b k ++ L) (hF : 1000000 < F) : ∀ (l pre : EL) (G : Nat), L = pre ++ l → ∀ (Q : Type) (kx : EL × LL → Option Q),
    loopC (impl_Board_reach_s3 F n) (G + l.length) ((((TW sl b k).length + pre.length : Nat) : Int), pre.foldl (expE sl) (TW sl b (k + 1)), keysE (pre.foldl (expE sl) (TW sl b (k + 1)))) kx =
    loopC (impl_Board_reach_s3 F n) G ((((TW sl b (k + 1)).length : Nat) : Int), L.foldl (expE sl) (TW sl b (k + 1)), keysE (L.foldl (expE sl) (TW sl b (k + 1)))) kx := by
  intro l
  induction l with
  | nil =>
    intro pre G h Q kx
    rw [List.append_nil] at h
    rw [← h, hL, List.length_append, List.length_nil, Nat.add_zero]
  | cons x l IH =>
    intro pre G h Q kx
    have h5 : TW sl b (k + 2) = L.foldl (expE sl) (TW sl b (k + 1)) := (TW_next sl b k hL).symm
    obtain ⟨m, hm⟩ := foldexp_pre pre (TW sl b (k + 1))
    obtain ⟨m2, hm2⟩ := foldexp_pre (x :: l) (pre.foldl (expE sl) (TW sl b (k + 1)))
    rw [← List.foldl_append, ← h, ← h5] at hm2
    have hlen : (pre.foldl (expE sl) (TW sl b (k + 1))).length ≤ 114688 := by
      have h1 := congrArg List.length hm2
      rw [List.length_append] at h1
      have h2 := TW_len sl b (k + 2)
      have h3 : 4 ^ (k + 2) ≤ 4 ^ 7 := Nat.pow_le_pow_right (by omega) (by omega)
      have h4 : (k + 2) * 4 ^ (k + 2) ≤ 7 * 4 ^ 7 := Nat.mul_le_mul (by omega) h3
      have h6 : (7 : Nat) * 4 ^ 7 = 114688 := by decide
      omega
    have hx : (TW sl b (k + 1))[(TW sl b k).length + pre.length]? = some x := by
      rw [hL, h, List.getElem?_append_right (by omega), Nat.add_sub_cancel_left, List.getElem?_append_right (by omega), Nat.sub_self]; rfl
    have hin : x ∈ TW sl b (k + 1) := List.mem_of_getElem? hx
    obtain ⟨w, w1, w2, w3⟩ := TW_ent sl b (k + 1) x hin
    have hidx : (TW sl b k).length + pre.length < (TW sl b (k + 1)).length := (List.getElem?_eq_some_iff.1 hx).1
    generalize hG : pre.foldl (expE sl) (TW sl b (k + 1)) = E at hlen hm ⊢
    have hE : E = TW sl b (k + 1) ++ m := hm
    have hidx2 : (TW sl b k).length + pre.length < E.length := by rw [hE, List.length_append]; omega
    have hg : rget (keysE E) (0 + ((TW sl b k).length + pre.length)) = x.1 := by
      rw [Nat.zero_add, rgetL, keysE, List.getElem?_map, hE, List.getElem?_append_left hidx, hx]; rfl
    have hlook : mlook x.1 E = some x.2 := by
      rw [hE, mlook_append, mlook_mem (TW_nodup sl b (k + 1)) hin]; rfl
    have hgood : GoodB x.1 := by rw [w3]; exact run_good hb w2
    have hp : x.2.length = w.length := by rw [w3]; exact nw_len w
    have hin8 := reach_in F n ((TW sl b k).length + pre.length : Nat) hgood hlook (by omega) (by omega) hF
    have ex : (x.1, x.2) = x := rfl
    rw [ex] at hin8
    have hne : ¬ ((x.2.length : Nat) : Int) = (n : Int) := by omega
    rw [List.length_cons, ← Nat.add_assoc]
    simp only [loopC, impl_Board_reach_s3, Int.toNat_natCast, hg, keysE_len, Int.ofNat_lt, hidx2, decide_true, cond_true, inR_cast, hlook, Option.getD_some, hin8, Option.isSome_some, beq_selfL, Bool.and_self]
    rw [show (((x.2.length : Nat) : Int) == (n : Int)) = false from by rw [beq_eq_false_iff_ne]; exact hne, cond_false]
    rw [wrap_succ (n := 200000) (by omega) (by omega)]
    have ih := IH (pre ++ [x]) G (by rw [h]; simp) Q kx
    rw [List.foldl_append, hG, List.length_append, ← Nat.add_assoc, List.foldl_cons, List.foldl_nil, List.length_singleton] at ih
    exact ih
/-- the levels that are left -/
theorem reach_levels (F : Nat) {b : List Int} (hb : GoodB b) {n : Nat} (hn : n ≤ 6) (hF : 1000000 < F) : ∀ (m k G : Nat), k + m = n → m * 200000 < G → loopC (impl_Board_reach_s3 F n) G ((((TW sl b k).length : Nat) : Int), TW sl b (k + 1), keysE (TW sl b (k + 1))) some = some (TW sl b (n + 1), keysE (TW sl b (n + 1))) := by
  intro m
  induction m with
  | zero =>
    intro k G h hG
    obtain ⟨G, rfl⟩ : ∃ G', G = G' + 1 := ⟨G - 1, by omega⟩
    obtain rfl : k = n := by omega
    obtain ⟨L, hL, hL2, _⟩ := fold_pre sl b (words k) (TW sl b k)
    have hL : TW sl b (k + 1) = TW sl b k ++ L := hL
    cases L with
    | nil =>
      have e : (TW sl b (k + 1)).length = (TW sl b k).length := by rw [hL]; simp
      have h1 : ¬ (((TW sl b k).length : Nat) : Int) < (((TW sl b (k + 1)).length : Nat) : Int) := by omega
      simp only [loopC, impl_Board_reach_s3, keysE_len, h1, decide_false, cond_false]
    | cons x l =>
      have hx : (TW sl b (k + 1))[(TW sl b k).length]? = some x := by
        rw [hL, List.getElem?_append_right (Nat.le_refl _), Nat.sub_self]; rfl
      have hin : x ∈ TW sl b (k + 1) := List.mem_of_getElem? hx
      have hidx : (TW sl b k).length < (TW sl b (k + 1)).length := (List.getElem?_eq_some_iff.1 hx).1
      have hg : rget (keysE (TW sl b (k + 1))) (0 + (TW sl b k).length) = x.1 := by
        rw [Nat.zero_add, rgetL, keysE, List.getElem?_map, hx]; rfl
      have hlook : mlook x.1 (TW sl b (k + 1)) = some x.2 := mlook_mem (TW_nodup sl b (k + 1)) hin
      obtain ⟨w, hw, e⟩ := hL2 x List.mem_cons_self
      have hp : x.2.length = k := by rw [e, nw_len]; exact (mem_words.1 hw).1
      simp only [loopC, impl_Board_reach_s3, Int.toNat_natCast, hg, keysE_len, Int.ofNat_lt, hidx, decide_true, cond_true, inR_cast, hlook, Option.getD_some, hp, beq_self_eq_true]
  | succ m IH =>
    intro k G h hG
    obtain ⟨L, hL, _, hL3⟩ := fold_pre sl b (words k) (TW sl b k)
    have hL : TW sl b (k + 1) = TW sl b k ++ L := hL
    have h3 : 4 ^ k ≤ 4 ^ 7 := Nat.pow_le_pow_right (by omega) (by omega)
    have h6 : (4 : Nat) ^ 7 = 16384 := by decide
    rw [words_len] at hL3
    obtain ⟨G', rfl⟩ : ∃ G', G = G' + L.length := ⟨G - L.length, by omega⟩
    have hlev := reach_level F hb hn k (by omega) hL hF L [] G' rfl _ some
    rw [TW_next sl b k hL] at hlev
    have hL4 : L.length ≤ 16384 := by rw [← h6]; exact Nat.le_trans hL3 h3
    have hG2 : m * 200000 < G' := by
      rw [Nat.succ_mul] at hG
      revert hG
      generalize m * 200000 = z
      generalize L.length = y at hL4
      intro hG
      exact Nat.lt_of_add_lt_add_right (n := 200000) (Nat.lt_of_lt_of_le hG (Nat.add_le_add_left (Nat.le_trans hL4 (by decide)) _))
    exact hlev.trans (IH (k + 1) G' (by omega) hG2)
theorem reach_eq (F : Nat) {b : List Int} (hb : GoodB b) {n : Nat} (hn : n ≤ 6) (hF : 2000000 < F) : impl_Board_reach_p F b n = some (TW sl b (n + 1), keysE (TW sl b (n + 1))) := by
  have h := reach_levels F hb hn (by omega) n 0 F (by omega) (by omega)
  have e0 : TW sl b 0 = [] := rfl
  have e1 : TW sl b 1 = [(b, [])] := by simp [TW, words, addW, insE, runW, nw]
  have e2 : keysE [(b, ([] : List Int))] = [b] := rfl
  have e3 : mput b ([] : List Int) [] = [(b, [])] := rfl
  rw [e0, Nat.zero_add, e1, e2, List.length_nil] at h
  simp only [impl_Board_reach_p, impl_Board_reach_c, e3, impl_Board_reach_l3]
  have h : loopC (impl_Board_reach_s3 F n) F (0, [(b, ([] : List Int))], [b]) some = some (TW sl b (n + 1), keysE (TW sl b (n + 1))) := h
  simp only [h, Option.isSome_some, Option.getD_some, cond_true]
end Go.Lv.P

namespace Go.Lv.P
open Go Go.Lv
theorem spec_reach (F : Nat) {b : List Int} (hb : GoodB b) {n : Nat} (hn : n ≤ 6) (hF : 1000000 < F) : spec_l5Reach_p F b n = some (reachL b n) := by
  have h := loop_fold (step := spec_l5Reach_s3 F n) (fun i (s : LL) => (s, i)) n (fun i s => nextL s) (fun s => s) (fun i s => s = reachL b i) (F := F) (by omega) (by omega) (a := [b]) rfl
    (fun i s hi hI => by
      refine ⟨by rw [hI]; rfl, fun Q kn kx => ?_⟩
      have hs := reachL_small b (n := i) (by omega)
      rw [hI]
      simp only [spec_l5Reach_s3, Int.ofNat_lt, hi, decide_true, cond_true, spec_next F (reachL_ok hb i) (by omega) hF, Option.isSome_some, Option.getD_some])
    (fun s _ Q kn kx => by simp [spec_l5Reach_s3])
  have h1 : spec_l5Reach_l3 F n [b] 0 = some (reachL b n) := h.1.trans (congrArg some h.2)
  simp only [spec_l5Reach_p, spec_l5Reach_c, h1, Option.isSome_some, Option.getD_some, cond_true]
theorem keys_reach (a : List Int) (n : Nat) (x : List Int) : x ∈ keysE (TW sl a (n + 1)) ↔ x ∈ reachL a n := by
  unfold keysE
  rw [TW_mem, reachL_mem]
  constructor
  · rintro ⟨w, h, h2⟩; exact ⟨w, by omega, h2⟩
  · rintro ⟨w, h, h2⟩; exact ⟨w, by omega, h2⟩
end Go.Lv.P

namespace Go.Lv.P
open Go Go.Lv
theorem run_sum {w : List Nat} : ∀ {b : List Int}, GoodB b → (∀ d ∈ w, d < 4) → sumB (runW sl b w) = sumB b := by
  induction w with
  | nil => intro b _ _; simp only [runW]
  | cons d w ih =>
    intro b h hw
    have hd := hw d List.mem_cons_self
    simp only [runW]
    rw [ih (sl_good h hd) fun e he => hw e (List.mem_cons_of_mem _ he)]
    exact slide_sum h.1 h.2 hd
theorem road_word {a c p : List Int} {k : Nat} (h : mlook c (TW sl a k) = some p) : ∃ w : List Nat, w.length < k ∧ (∀ d ∈ w, d < 4) ∧ runW sl a w = c ∧ p = nw w := by
  have : ∀ E : EL, mlook c E = some p → (c, p) ∈ E := by
    intro E
    induction E with
    | nil => intro h; cases h
    | cons x r ih =>
      intro h
      simp only [mlook] at h
      cases hx : c == x.1 with
      | true =>
        rw [hx, cond_true] at h
        cases h
        rw [eq_of_beq hx]; exact List.mem_cons_self
      | false => rw [hx, cond_false] at h; exact List.mem_cons_of_mem _ (ih h)
  obtain ⟨w, h1, h2, h3⟩ := TW_ent sl a k _ (this _ h)
  cases h3
  exact ⟨w, h1, h2, rfl, rfl⟩
def roadR : Option (List Int) → List Int × Bool
  | some p => (p, true)
  | none => ([], false)
theorem impl_road0 (F : Nat) {a c : List Int} (ha : a.length = 16) (hc : c.length = 16) (hF : 2000000 < F) (E : EL) (e : okB a = true → impl_Board_reach_p F a 6 = some (E, keysE E)) (hr : okB a = true → (sumB a == sumB c) = false → mlook c E = none) :
    impl_Board_roadTo_p F a c = some (bif okB a && okB c then roadR (mlook c E) else ([], false)) := by
  simp only [impl_Board_roadTo_p, impl_Board_roadTo_c, impl_IsBoard_eq F a ha (by omega), impl_IsBoard_eq F c hc (by omega), Option.isSome_some, Option.getD_some, cond_true]
  cases ka : okB a with
  | false => rfl
  | true =>
    cases kc : okB c with
    | false => rfl
    | true =>
      simp only [Bool.not_true, cond_false, cond_true, Bool.and_self, impl_sum_eq a ha ka, impl_sum_eq c hc kc, Option.isSome_some, Option.getD_some, e ka]
      cases hs : sumB a == sumB c with
      | false => rw [hr ka hs]; rfl
      | true =>
        simp only [Bool.not_true, cond_false]
        cases mlook c E <;> rfl
theorem impl_road (F : Nat) {a c : List Int} (ha : a.length = 16) (hc : c.length = 16) (hF : 2000000 < F) : impl_Board_roadTo_p F a c = some (bif okB a && okB c then roadR (mlook c (TW sl a 7)) else ([], false)) := by
  refine impl_road0 F ha hc hF (TW sl a 7) (fun ka => ?_) fun ka hs => ?_
  · have e := reach_eq F (b := a) (n := 6) ⟨ha, ka⟩ (by omega) hF
    exact e
  · cases h : mlook c (TW sl a 7) with
    | none => rfl
    | some p =>
      obtain ⟨w, _, h2, h3, _⟩ := road_word h
      have := run_sum (b := a) ⟨ha, ka⟩ h2
      rw [h3] at this
      rw [this, beq_self_eq_true] at hs; cases hs
end Go.Lv.P

namespace Go.Lv.P
open Go Go.Lv
theorem impl_fewest (F : Nat) {a c : List Int} (ha : a.length = 16) (hc : c.length = 16) (hF : 2000000 < F) : impl_FewestSlides_p F a c = some (bif okB a && okB c then fewR (mlook c (TW sl a 7)) else (0, false)) := by
  have h := impl_road F ha hc hF
  revert h
  generalize mlook c (TW sl a 7) = r
  intro h
  simp only [impl_FewestSlides_p, impl_FewestSlides_c, h, Option.isSome_some, Option.getD_some, cond_true]
  cases okB a && okB c with
  | false => rfl
  | true => cases r <;> rfl
/-- is there a word of n letters -/
def wordB (a c : List Int) (n : Nat) : Bool := ((words n).find? fun w => runW sl a w == c).isSome
theorem wordB_iff {a c : List Int} {n : Nat} : wordB a c n = true ↔ ∃ w : List Nat, w.length = n ∧ (∀ d ∈ w, d < 4) ∧ runW sl a w = c := by
  unfold wordB
  rw [List.find?_isSome]
  constructor
  · rintro ⟨w, hw, h⟩
    obtain ⟨h1, h2⟩ := mem_words.1 hw
    exact ⟨w, h1, h2, eq_of_beq h⟩
  · rintro ⟨w, h1, h2, h3⟩
    exact ⟨w, mem_words.2 ⟨h1, h2⟩, by rw [h3]; exact beq_self_eq_true c⟩
/-- none leads there in fewer -/
def NoShort (a c : List Int) (n : Nat) : Prop := ∀ j, j < n → (reachL a j).contains c = false
theorem noshort_word {a c : List Int} {n : Nat} (h : NoShort a c n) {w : List Nat} (h1 : w.length < n) (h2 : ∀ d ∈ w, d < 4) : runW sl a w ≠ c := fun h3 => by
  have := h w.length h1
  rw [contains_reach.2 ⟨w, Nat.le_refl _, h2, h3⟩] at this; cases this
theorem noshort_next {a c : List Int} {n : Nat} (h : NoShort a c (n + 1)) {d : Nat} (hd : d < 4) : NoShort (sl a d) c n := fun j hj => by
  cases hc : (reachL (sl a d) j).contains c with
  | false => rfl
  | true =>
    obtain ⟨w, h1, h2, h3⟩ := contains_reach.1 hc
    refine absurd h3 (noshort_word (w := d :: w) h (by simp; omega) fun e he => ?_)
    rcases List.mem_cons.1 he with rfl | he
    · exact hd
    · exact h2 e he
theorem few_word {a c : List Int} {n : Nat} (h : NoShort a c n) : (fewL a c 0 (n + 1) == (n : Int)) = wordB a c n := by
  cases hr : (reachL a n).contains c with
  | true =>
    have e := fewL_at hr h (n + 1) 0 (by omega) (by omega)
    rw [e, beq_self_eq_true]
    obtain ⟨w, h1, h2, h3⟩ := contains_reach.1 hr
    have hl : w.length = n := by
      by_cases hlt : w.length < n
      · exact absurd h3 (noshort_word h hlt h2)
      · omega
    exact (wordB_iff.2 ⟨w, hl, h2, h3⟩).symm
  | false =>
    have e : fewL a c 0 (n + 1) = -1 := fewL_none (n + 1) 0 fun k _ hk => by
      by_cases hkn : k = n
      · subst hkn; exact hr
      · exact h k (by omega)
    rw [e, show ((-1 : Int) == (n : Int)) = false from by rw [beq_eq_false_iff_ne]; omega]
    cases hw : wordB a c n with
    | false => rfl
    | true =>
      obtain ⟨w, h1, h2, h3⟩ := wordB_iff.1 hw
      rw [contains_reach.2 ⟨w, by omega, h2, h3⟩] at hr; cases hr
theorem fnd4 {X : Type} (p : Nat → Bool) (f : Nat → X) (e : X) {d : Nat} (h : [0, 1, 2, 3].find? p = some d) : fnd p f e 0 4 = f d := by
  simp only [List.find?] at h
  simp only [fnd, Nat.zero_add, Nat.reduceAdd]
  cases h0 : p 0
  · rw [h0] at h
    cases h1 : p 1
    · rw [h1] at h
      cases h2 : p 2
      · rw [h2] at h
        cases h3 : p 3
        · rw [h3] at h; cases h
        · rw [h3] at h; cases h; rfl
      · rw [h2] at h; cases h; rfl
    · rw [h1] at h; cases h; rfl
  · rw [h0] at h; cases h; rfl
theorem first_in (F : Nat) {a c : List Int} (ha : GoodB a) {n : Nat} (hn : n ≤ 5) (hs : NoShort a c (n + 1)) (out : List Int) (ho : out.length ≤ 100) (hF : 2000000 < F) :
    spec_FirstSlides_l8 F ((n + 1 : Nat) : Int) a c out 0 = some (fnd (fun d => wordB (sl a d) c n) (fun d => (sl a d, out ++ [((d : Nat) : Int)])) (a, out) 0 4) := by
  refine loop_find (step := spec_FirstSlides_s8 F ((n + 1 : Nat) : Int) a c out) (fun d => d) 4 _ _ _ (by omega) (by omega) (fun d hd Q kn kx => ?_) fun Q kn kx => ?_
  · have hd' : (d : Int) < 4 := by omega
    have hw : IntKind.wrap .i64 (((n + 1 : Nat) : Int) - 1) = (n : Int) := by rw [wrap_of (by omega) (by omega)]; omega
    have hf := fewest_eq F (c := c) (sl_good ha hd) (most := n) (by omega) (by omega)
    have e : (slideB a d).1 = sl a d := rfl
    have f1 : fits (out ++ [(d : Int)]).length 8 = true := fits_of (by simp; omega) (by simp; omega)
    simp only [spec_FirstSlides_s8, hd', decide_true, cond_true, spec_slide ha.1 ha.2 F (by omega) hd, Option.isSome_some, Option.getD_some, hw, e, hf, few_word (noshort_next hs hd), subn_self, f1]
  · simp [spec_FirstSlides_s8]
theorem nw_cons (d : Nat) (w : List Nat) : nw (d :: w) = (d : Int) :: nw w := rfl
theorem first_loop (F : Nat) {c : List Int} (hF : 2000000 < F) : ∀ (n : Nat) (a : List Int) (w : List Nat) (out : List Int) (G : Nat), GoodB a → n ≤ 6 → NoShort a c n → (words n).find? (fun w => runW sl a w == c) = some w → n < G → out.length + n ≤ 100 →
    loopC (spec_FirstSlides_s5 F c) G ((n : Int), a, out) some = some (out ++ nw w) := by
  intro n
  induction n with
  | zero =>
    intro a w out G ha hn hs hf hG ho
    obtain ⟨G, rfl⟩ : ∃ G', G = G' + 1 := ⟨G - 1, by omega⟩
    have : w = [] := List.length_eq_zero_iff.1 (find_len hf).1
    subst this
    have h0 : ¬ (0 : Int) < ((0 : Nat) : Int) := by omega
    simp only [loopC, spec_FirstSlides_s5, h0, decide_false, cond_false]
    simp [nw]
  | succ n ih =>
    intro a w out G ha hn hs hf hG ho
    obtain ⟨G, rfl⟩ : ∃ G', G = G' + 1 := ⟨G - 1, by omega⟩
    have hfw := hf
    rw [find_words] at hf
    cases hd : [0, 1, 2, 3].find? fun d => ((words n).find? fun w => runW sl (sl a d) w == c).isSome with
    | none => rw [hd] at hf; cases hf
    | some d =>
      rw [hd, Option.bind_some] at hf
      cases hv : (words n).find? fun w => runW sl (sl a d) w == c with
      | none => rw [hv] at hf; cases hf
      | some v =>
        rw [hv, Option.map_some] at hf
        cases hf
        have hd4 : d < 4 := by
          have := List.mem_of_find?_eq_some hd
          simp only [List.mem_cons, List.not_mem_nil, or_false] at this
          omega
        have hin := first_in F ha (by omega) hs out (by omega) hF
        rw [fnd4 (fun d => wordB (sl a d) c n) _ _ hd] at hin
        have h1 : (0 : Int) < ((n + 1 : Nat) : Int) := by omega
        have hw : IntKind.wrap .i64 (((n + 1 : Nat) : Int) - 1) = (n : Int) := by rw [wrap_of (by omega) (by omega)]; omega
        simp only [loopC, spec_FirstSlides_s5, h1, decide_true, cond_true, hin, Option.isSome_some, Option.getD_some, beq_selfL, Bool.and_self, hw]
        rw [ih (sl a d) v (out ++ [(d : Int)]) G (sl_good ha hd4) (by omega) (noshort_next hs hd4) hv (by omega) (by simp; omega)]
        rw [nw_cons, List.append_assoc]; rfl
def firstR : Option (List Int) → Bool × List Int
  | some p => (true, p)
  | none => (false, [])
theorem spec_first (F : Nat) {a c : List Int} (ha : a.length = 16) (hc : c.length = 16) (hF : 2000000 < F) : spec_FirstSlides_p F a c = some (bif okB a && okB c then firstR (mlook c (TW sl a 7)) else (false, [])) := by
  have h := spec_fewest F ha hc (by omega)
  simp only [spec_FirstSlides_p, spec_FirstSlides_c, h, Option.isSome_some, Option.getD_some, cond_true]
  cases ka : okB a with
  | false => rfl
  | true =>
    cases kc : okB c with
    | false => rfl
    | true =>
      rcases road a c 7 with ⟨h1, h2⟩ | ⟨n, w, h0, h1, h2, h3, h4⟩
      · rw [h1]; rfl
      · rw [h1]
        have hl := first_loop F (c := c) hF n a w [] F ⟨ha, ka⟩ (by omega) h4 h2 (by omega) (by simp; omega)
        have e1 : (fewR (some (nw w))) = ((n : Int), true) := by
          simp only [fewR, nw_len, (find_len h2).1]
        have hl : spec_FirstSlides_l5 F c (n : Int) a [] = some (nw w) := hl
        simp only [Bool.and_self, cond_true, e1, hl, Bool.not_true, cond_false, Option.isSome_some, Option.getD_some]
        rfl
theorem impl_first (F : Nat) {a c : List Int} (ha : a.length = 16) (hc : c.length = 16) (hF : 2000000 < F) : impl_FirstSlides_p F a c = some (bif okB a && okB c then firstR (mlook c (TW sl a 7)) else (false, [])) := by
  have h := impl_road F ha hc hF
  have hl : ∀ p, mlook c (TW sl a 7) = some p → fits p.length 8 = true := fun p hp => by
    obtain ⟨w, h1, h2, h3, rfl⟩ := road_word hp
    exact fits_of (by rw [nw_len]; omega) (by rw [nw_len]; omega)
  revert h hl
  generalize mlook c (TW sl a 7) = r
  intro h hl
  simp only [impl_FirstSlides_p, impl_FirstSlides_c, h, Option.isSome_some, Option.getD_some, cond_true]
  cases okB a && okB c with
  | false => rfl
  | true =>
    cases r with
    | none => rfl
    | some p =>
      have := hl p rfl
      simp only [cond_true, roadR, firstR, this]
theorem first_len {a c : List Int} : (bif okB a && okB c then firstR (mlook c (TW sl a 7)) else (false, [])).2.length ≤ 6 := by
  cases okB a && okB c with
  | false => simp
  | true =>
    rw [cond_true]
    cases h : mlook c (TW sl a 7) with
    | none => simp [firstR]
    | some p =>
      obtain ⟨w, h1, h2, h3, rfl⟩ := road_word h
      simp only [firstR, nw_len]; omega
end Go.Lv.P

namespace Go.Lv.P
open Go Go.Lv
/-- a list of boards, put into order -/
theorem ordered_eq (F : Nat) {l l' : LL} (hl : ∀ x ∈ l, x.length = 16) (ha : Asc l') (hm : ∀ x, x ∈ l ↔ x ∈ l') (hn : l.length ≤ 900000) (hF : 1000000 < F) : ∃ r : Nat × LL, impl_ordered_p F l = some r ∧ r.1 = l'.length ∧ r.2.take r.1 = l' ∧ r.1 ≤ r.2.length := by
  have hs := sorted_eq (m := 16) hl ha hm
  obtain ⟨r, c1, c2, c3, c4, c5⟩ := compact16 F (sortL l) (by rw [sort_len]; omega) (by rw [sort_len]; omega)
  rw [sort_len] at c1 c5
  have hb1 : Nat.blt 1000 F = true := Nat.blt_eq.mpr (by omega)
  have hb2 : Nat.ble l.length 1000000000 = true := Nat.ble_eq.mpr (by omega)
  refine ⟨r, ?_, by rw [c2, hs], by rw [c3, hs], c4⟩
  simp only [impl_ordered_p, impl_ordered_c, sortP_all, ble_selfL, c1, hb1, hb2, beq_selfL, Bool.and_self, cond_true, Option.isSome_some, Option.getD_some]
theorem TW_good {b : List Int} (hb : GoodB b) (k : Nat) (hk : k ≤ 7) : ((keysE (TW sl b k)).length ≤ 114688) := by
  rw [keysE_len]
  have h := TW_len sl b k
  have h1 : k * 4 ^ k ≤ 7 * 4 ^ 7 := Nat.mul_le_mul hk (Nat.pow_le_pow_right (by omega) hk)
  have h2 : 7 * 4 ^ 7 = 114688 := by decide
  omega
theorem reach_ord (F : Nat) {b : List Int} (hb : GoodB b) {n : Nat} (hn : n ≤ 6) (hF : 2000000 < F) {K : LL} (hK : keysE (TW sl b (n + 1)) = K) : ∃ r : Nat × LL, impl_ordered_p F K = some r ∧ r.1 = (reachL b n).length ∧ r.2.take r.1 = reachL b n ∧ r.1 ≤ r.2.length := by
  have hg := reachL_ok hb n
  have hl := TW_good hb (n + 1) (by omega)
  rw [hK] at hl
  refine ordered_eq F (fun x hx => ?_) hg.2 (fun x => by rw [← hK]; exact keys_reach b n x) (by omega) (by omega)
  exact (hg.1 x ((keys_reach b n x).1 (hK ▸ hx))).1
theorem impl_rbs (F : Nat) {b : List Int} (hb : b.length = 16) (kb : okB b = true) {n : Nat} (hn : n ≤ 6) (hF : 2000000 < F) : ∃ r : Nat × LL, impl_ReachBySlides_p F b n = some (r.1, true, r.2) ∧ r.1 = (reachL b n).length ∧ r.2.take r.1 = reachL b n ∧ r.1 ≤ r.2.length := by
  have e := reach_eq F (b := b) ⟨hb, kb⟩ hn hF
  obtain ⟨r, h1, h2⟩ := reach_ord F (b := b) ⟨hb, kb⟩ hn hF rfl
  refine ⟨r, ?_, h2⟩
  revert e h1
  generalize keysE (TW sl b (n + 1)) = K
  generalize TW sl b (n + 1) = E
  intro e h1
  have hin : inB (n : Int) 0 6 = true := by simp [inB]; omega
  simp only [impl_ReachBySlides_p, impl_ReachBySlides_c, impl_IsBoard_eq F b hb (by omega), kb, in_eq, hin, e, h1, beq_selfL, Option.isSome_some, Option.getD_some, cond_true, cond_false, Bool.not_true, Bool.and_self]
theorem rbs_val (F : Nat) (b : List Int) (hb : b.length = 16) (n : Int) (hF : 2000000 < F) : ∃ (k : Nat) (m v : LL) (o : Bool), spec_ReachBySlides_p F b n = some (v, o) ∧ impl_ReachBySlides_p F b n = some (k, o, m) ∧ m.take k = v ∧ v.length = k ∧ k ≤ m.length ∧ k ≤ 20000 ∧ (o = true → okB b = true ∧ ∃ j : Nat, n = (j : Int) ∧ j ≤ 6 ∧ v = reachL b j) := by
  cases hB : okB b with
  | false =>
    refine ⟨0, [], [], false, ?_, ?_, rfl, rfl, by simp, by simp, fun h => by cases h⟩
    · simp only [spec_ReachBySlides_p, spec_ReachBySlides_c, spec_l2Board_eq F b hb (by omega), hB, Option.isSome_some, Option.getD_some, cond_true, Bool.not_false]
    · simp only [impl_ReachBySlides_p, impl_ReachBySlides_c, impl_IsBoard_eq F b hb (by omega), hB, Option.isSome_some, Option.getD_some, cond_true, Bool.not_false]
  | true =>
    cases hn : inB n 0 6 with
    | false =>
      refine ⟨0, [], [], false, ?_, ?_, rfl, rfl, by simp, by simp, fun h => by cases h⟩
      · simp only [spec_ReachBySlides_p, spec_ReachBySlides_c, spec_l2Board_eq F b hb (by omega), hB, l1In_eq, hn, Option.isSome_some, Option.getD_some, cond_true, cond_false, Bool.not_true, Bool.not_false]
      · simp only [impl_ReachBySlides_p, impl_ReachBySlides_c, impl_IsBoard_eq F b hb (by omega), hB, in_eq, hn, Option.isSome_some, Option.getD_some, cond_true, cond_false, Bool.not_true, Bool.not_false]
    | true =>
      have h2 := hn
      simp [inB] at h2
      obtain ⟨k, rfl⟩ := Int.eq_ofNat_of_zero_le h2.1
      have hk : k ≤ 6 := by omega
      obtain ⟨r, e, r1, r2, r3⟩ := impl_rbs F hb hB hk hF
      have hs := reachL_small b (n := k) hk
      have e2 := spec_reach F (b := b) ⟨hb, hB⟩ hk (by omega)
      refine ⟨r.1, r.2, reachL b k, true, ?_, e, r2, r1.symm, r3, by omega, fun _ => ⟨by first | rfl | exact hB, k, rfl, hk, rfl⟩⟩
      simp only [spec_ReachBySlides_p, spec_ReachBySlides_c, spec_l2Board_eq F b hb (by omega), hB, l1In_eq, hn, e2, Option.isSome_some, Option.getD_some, cond_true, cond_false, Bool.not_true]
end Go.Lv.P
