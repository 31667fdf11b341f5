/-
FnExactFirstSlides: both say the same.
-/
import Derived.Test.YtkclnchkemacgaaTJP3
import Derived.Test.YtkclnchkemacgaaTJPRoad
import Derived.Test.YtkclnchkemacgaaTJPToBoard
import Derived.Test.YtkclnchkemacgaaTJPMkS
namespace Go.Lv.P
open Go Go.Lv
set_option linter.unusedVariables false
set_option linter.unusedSimpArgs false
set_option linter.unusedSectionVars false

/-- is there a word of n letters -/
def wordB (a c : List Int) (n : Nat) : Bool := ((words n).find? fun w => runW sl a w == c).isSome
theorem wordB_iff {a c : List Int} {n : Nat} : wordB a c n = true ↔ ∃ w : List Nat, w.length = n ∧ (∀ d ∈ w, d < 4) ∧ runW sl a w = c := by
  unfold wordB
  rw [List.find?_isSome]
  constructor
  · rintro ⟨w, hw, h⟩
    obtain ⟨h1, h2⟩ := mem_words.1 hw
    exact ⟨w, h1, h2, eq_of_beq h⟩
  · rintro ⟨w, h1, h2, h3⟩
    exact ⟨w, mem_words.2 ⟨h1, h2⟩, by rw [h3]; exact beq_self_eq_true c⟩
/-- none leads there in fewer -/
def NoShort (a c : List Int) (n : Nat) : Prop := ∀ j, j < n → (reachL a j).contains c = false
theorem noshort_word {a c : List Int} {n : Nat} (h : NoShort a c n) {w : List Nat} (h1 : w.length < n) (h2 : ∀ d ∈ w, d < 4) : runW sl a w ≠ c := fun h3 => by
  have := h w.length h1
  rw [contains_reach.2 ⟨w, Nat.le_refl _, h2, h3⟩] at this; cases this
theorem noshort_next {a c : List Int} {n : Nat} (h : NoShort a c (n + 1)) {d : Nat} (hd : d < 4) : NoShort (sl a d) c n := fun j hj => by
  cases hc : (reachL (sl a d) j).contains c with
  | false => rfl
  | true =>
    obtain ⟨w, h1, h2, h3⟩ := contains_reach.1 hc
    refine absurd h3 (noshort_word (w := d :: w) h (by simp; omega) fun e he => ?_)
    rcases List.mem_cons.1 he with rfl | he
    · exact hd
    · exact h2 e he
theorem few_word {a c : List Int} {n : Nat} (h : NoShort a c n) : (fewL a c 0 (n + 1) == (n : Int)) = wordB a c n := by
  cases hr : (reachL a n).contains c with
  | true =>
    have e := fewL_at hr h (n + 1) 0 (by omega) (by omega)
    rw [e, beq_self_eq_true]
    obtain ⟨w, h1, h2, h3⟩ := contains_reach.1 hr
    have hl : w.length = n := by
      by_cases hlt : w.length < n
      · exact absurd h3 (noshort_word h hlt h2)
      · omega
    exact (wordB_iff.2 ⟨w, hl, h2, h3⟩).symm
  | false =>
    have e : fewL a c 0 (n + 1) = -1 := fewL_none (n + 1) 0 fun k _ hk => by
      by_cases hkn : k = n
      · subst hkn; exact hr
      · exact h k (by omega)
    rw [e, show ((-1 : Int) == (n : Int)) = false from by rw [beq_eq_false_iff_ne]; omega]
    cases hw : wordB a c n with
    | false => rfl
    | true =>
      obtain ⟨w, h1, h2, h3⟩ := wordB_iff.1 hw
      rw [contains_reach.2 ⟨w, by omega, h2, h3⟩] at hr; cases hr
theorem fnd4 {X : Type} (p : Nat → Bool) (f : Nat → X) (e : X) {d : Nat} (h : [0, 1, 2, 3].find? p = some d) : fnd p f e 0 4 = f d := by
  simp only [List.find?] at h
  simp only [fnd, Nat.zero_add, Nat.reduceAdd]
  cases h0 : p 0
  · rw [h0] at h
    cases h1 : p 1
    · rw [h1] at h
      cases h2 : p 2
      · rw [h2] at h
        cases h3 : p 3
        · rw [h3] at h; cases h
        · rw [h3] at h; cases h; rfl
      · rw [h2] at h; cases h; rfl
    · rw [h1] at h; cases h; rfl
  · rw [h0] at h; cases h; rfl
theorem first_in (F : Nat) {a c : List Int} (ha : GoodB a) {n : Nat} (hn : n ≤ 5) (hs : NoShort a c (n + 1)) (out : List Int) (ho : out.length ≤ 100) (hF : 2000000 < F) :
    spec_FirstSlides_l8 F ((n + 1 : Nat) : Int) a c out 0 = some (fnd (fun d => wordB (sl a d) c n) (fun d => (sl a d, out ++ [((d : Nat) : Int)])) (a, out) 0 4) := by
  refine loop_find (step := spec_FirstSlides_s8 F ((n + 1 : Nat) : Int) a c out) (fun d => d) 4 _ _ _ (by omega) (by omega) (fun d hd Q kn kx => ?_) fun Q kn kx => ?_
  · have hd' : (d : Int) < 4 := by omega
    have hw : IntKind.wrap .i64 (((n + 1 : Nat) : Int) - 1) = (n : Int) := by rw [wrap_of (by omega) (by omega)]; omega
    have hf := fewest_eq F (c := c) (sl_good ha hd) (most := n) (by omega) (by omega)
    have e : (slideB a d).1 = sl a d := rfl
    have f1 : fits (out ++ [(d : Int)]).length 8 = true := fits_of (by simp; omega) (by simp; omega)
    simp only [spec_FirstSlides_s8, hd', decide_true, cond_true, spec_slide ha.1 ha.2 F (by omega) hd, Option.isSome_some, Option.getD_some, hw, e, hf, few_word (noshort_next hs hd), subn_self, f1]
  · simp [spec_FirstSlides_s8]
theorem nw_cons (d : Nat) (w : List Nat) : nw (d :: w) = (d : Int) :: nw w := rfl
theorem first_loop (F : Nat) {c : List Int} (hF : 2000000 < F) : ∀ (n : Nat) (a : List Int) (w : List Nat) (out : List Int) (G : Nat), GoodB a → n ≤ 6 → NoShort a c n → (words n).find? (fun w => runW sl a w == c) = some w → n < G → out.length + n ≤ 100 →
    loopC (spec_FirstSlides_s5 F c) G ((n : Int), a, out) some = some (out ++ nw w) := by
  intro n
  induction n with
  | zero =>
    intro a w out G ha hn hs hf hG ho
    obtain ⟨G, rfl⟩ : ∃ G', G = G' + 1 := ⟨G - 1, by omega⟩
    have : w = [] := List.length_eq_zero_iff.1 (find_len hf).1
    subst this
    have h0 : ¬ (0 : Int) < ((0 : Nat) : Int) := by omega
    simp only [loopC, spec_FirstSlides_s5, h0, decide_false, cond_false]
    simp [nw]
  | succ n ih =>
    intro a w out G ha hn hs hf hG ho
    obtain ⟨G, rfl⟩ : ∃ G', G = G' + 1 := ⟨G - 1, by omega⟩
    have hfw := hf
    rw [find_words] at hf
    cases hd : [0, 1, 2, 3].find? fun d => ((words n).find? fun w => runW sl (sl a d) w == c).isSome with
    | none => rw [hd] at hf; cases hf
    | some d =>
      rw [hd, Option.bind_some] at hf
      cases hv : (words n).find? fun w => runW sl (sl a d) w == c with
      | none => rw [hv] at hf; cases hf
      | some v =>
        rw [hv, Option.map_some] at hf
        cases hf
        have hd4 : d < 4 := by
          have := List.mem_of_find?_eq_some hd
          simp only [List.mem_cons, List.not_mem_nil, or_false] at this
          omega
        have hin := first_in F ha (by omega) hs out (by omega) hF
        rw [fnd4 (fun d => wordB (sl a d) c n) _ _ hd] at hin
        have h1 : (0 : Int) < ((n + 1 : Nat) : Int) := by omega
        have hw : IntKind.wrap .i64 (((n + 1 : Nat) : Int) - 1) = (n : Int) := by rw [wrap_of (by omega) (by omega)]; omega
        simp only [loopC, spec_FirstSlides_s5, h1, decide_true, cond_true, hin, Option.isSome_some, Option.getD_some, beq_selfL, Bool.and_self, hw]
        rw [ih (sl a d) v (out ++ [(d : Int)]) G (sl_good ha hd4) (by omega) (noshort_next hs hd4) hv (by omega) (by simp; omega)]
        rw [nw_cons, List.append_assoc]; rfl
def firstR : Option (List Int) → Bool × List Int
  | some p => (true, p)
  | none => (false, [])
theorem spec_first (F : Nat) {a c : List Int} (ha : a.length = 16) (hc : c.length = 16) (hF : 2000000 < F) : spec_FirstSlides_p F a c = some (bif okB a && okB c then firstR (mlook c (TW sl a 7)) else (false, [])) := by
  have h := spec_fewest F ha hc (by omega)
  simp only [spec_FirstSlides_p, spec_FirstSlides_c, h, Option.isSome_some, Option.getD_some, cond_true]
  cases ka : okB a with
  | false => rfl
  | true =>
    cases kc : okB c with
    | false => rfl
    | true =>
      rcases road a c 7 with ⟨h1, h2⟩ | ⟨n, w, h0, h1, h2, h3, h4⟩
      · rw [h1]; rfl
      · rw [h1]
        have hl := first_loop F (c := c) hF n a w [] F ⟨ha, ka⟩ (by omega) h4 h2 (by omega) (by simp; omega)
        have e1 : (fewR (some (nw w))) = ((n : Int), true) := by
          simp only [fewR, nw_len, (find_len h2).1]
        have hl : spec_FirstSlides_l5 F c (n : Int) a [] = some (nw w) := hl
        simp only [Bool.and_self, cond_true, e1, hl, Bool.not_true, cond_false, Option.isSome_some, Option.getD_some]
        rfl
theorem impl_first (F : Nat) {a c : List Int} (ha : a.length = 16) (hc : c.length = 16) (hF : 2000000 < F) : impl_FirstSlides_p F a c = some (bif okB a && okB c then firstR (mlook c (TW sl a 7)) else (false, [])) := by
  have h := impl_road F ha hc hF
  have hl : ∀ p, mlook c (TW sl a 7) = some p → fits p.length 8 = true := fun p hp => by
    obtain ⟨w, h1, h2, h3, rfl⟩ := road_word hp
    exact fits_of (by rw [nw_len]; omega) (by rw [nw_len]; omega)
  revert h hl
  generalize mlook c (TW sl a 7) = r
  intro h hl
  simp only [impl_FirstSlides_p, impl_FirstSlides_c, h, Option.isSome_some, Option.getD_some, cond_true]
  cases okB a && okB c with
  | false => rfl
  | true =>
    cases r with
    | none => rfl
    | some p =>
      have := hl p rfl
      simp only [cond_true, roadR, firstR, this]
theorem first_len {a c : List Int} : (bif okB a && okB c then firstR (mlook c (TW sl a 7)) else (false, [])).2.length ≤ 6 := by
  cases okB a && okB c with
  | false => simp
  | true =>
    rw [cond_true]
    cases h : mlook c (TW sl a 7) with
    | none => simp [firstR]
    | some p =>
      obtain ⟨w, h1, h2, h3, rfl⟩ := road_word h
      simp only [firstR, nw_len]; omega
theorem law_FirstSlides (F : Nat) (a : List Int) (ha : a.length = 16) (_ : ∀ x ∈ a, Rng x) (c : List Int) (hc : c.length = 16) (_ : ∀ x ∈ c, Rng x) (hF : 2000000 < F) : laws_FnExactFirstSlides_p F a c = some true := by
  have h1 := spec_first F ha hc hF
  have h2 := impl_first F ha hc hF
  have h3 := first_len (a := a) (c := c)
  revert h1 h2 h3
  generalize (bif okB a && okB c then firstR (mlook c (TW sl a 7)) else (false, [])) = r
  intro h1 h2 h3
  obtain ⟨m', e1, e1l, e1t⟩ := markIntS_eq F r.2.length r.2 (Nat.le_refl _) (by omega) (by omega) (by omega)
  have e2 := heldIntS_eq F r.2.length (by omega) (by omega) (by omega)
  have e0 := eqIntS_refl F r.2 (by omega) (by omega) (by omega)
  have hp : decide ((1 : Int) + (r.2.length : Int) < 0) = false := by simp; omega
  simp only [laws_FnExactFirstSlides_p, laws_FnExactFirstSlides_c, toBoard_eq ha, toBoard_eq hc, h1, h2, Option.isSome_some, Option.getD_some, cond_true, subn_self, subn_take0, List.take_length, e0, beq_self_eq_true, Bool.not_true, cond_false, e1, e1t, e2, hp]
end Go.Lv.P
