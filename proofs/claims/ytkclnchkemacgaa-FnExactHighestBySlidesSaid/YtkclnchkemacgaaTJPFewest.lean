/-
The fewest slides, as the reference tells them.
-/
import Derived.Test.YtkclnchkemacgaaTJP0
import Derived.Test.YtkclnchkemacgaaTJP1
import Derived.Test.YtkclnchkemacgaaTJPReachS
namespace Go.Lv.P
open Go Go.Lv
set_option linter.unusedVariables false
set_option linter.unusedSimpArgs false
set_option linter.unusedSectionVars false

theorem has_eq (F : Nat) (all : LL) (c : List Int) (hl : all.length ≤ 100000) (hF : 1000000 < F) : spec_l5Has_p F all c = some (all.contains c) := by
  have h : spec_l5Has_l2 F all c 0 = some ((List.range all.length).any fun i => rget all i == c) := by
    rw [← fnd_any]
    refine loop_find (step := spec_l5Has_s2 F all c) (fun i => i) all.length _ _ _ (by omega) (by omega) (fun i hi Q kn kx => ?_) fun Q kn kx => ?_
    · simp only [spec_l5Has_s2, Int.ofNat_lt, hi, decide_true, cond_true, inR_cast, Int.toNat_natCast]
    · simp [spec_l5Has_s2]
  have e : ((List.range all.length).any fun i => rget all i == c) = all.contains c := by
    rw [any_rget all fun x => x == c]
    rw [Bool.eq_iff_iff, List.any_eq_true, List.contains_iff_mem]
    constructor
    · rintro ⟨x, hx, e⟩; rw [← eq_of_beq e]; exact hx
    · intro h; exact ⟨c, h, beq_self_eq_true c⟩
  simp only [spec_l5Has_p, spec_l5Has_c, h, Option.isSome_some, Option.getD_some, cond_true, e]
  cases all.contains c <;> rfl

/-- the number of slides, from n on, m at most -/
def fewL (a c : List Int) : Nat → Nat → Int
  | n, 0 => -1
  | n, m + 1 => bif (reachL a n).contains c then (n : Int) else fewL a c (n + 1) m
theorem fewest_loop (F : Nat) {a c : List Int} (ha : GoodB a) {most : Nat} (hm : most ≤ 6) (hF : 1000000 < F) : ∀ (m n G : Nat), n + m = most + 1 → m < G → ∃ r : Bool × Int, loopC (spec_l5Fewest_s3 F most c) G (reachL a n, (n : Int)) some = some r ∧ (bif r.1 then r.2 else -1) = fewL a c n m
  | 0, n, G, h, hG => by
    obtain ⟨G, rfl⟩ : ∃ G', G = G' + 1 := ⟨G - 1, by omega⟩
    have : ¬ (n : Int) ≤ (most : Int) := by omega
    refine ⟨(false, default), ?_, rfl⟩
    simp only [loopC, spec_l5Fewest_s3, this, decide_false, cond_false]
  | m + 1, n, G, h, hG => by
    obtain ⟨G, rfl⟩ : ∃ G', G = G' + 1 := ⟨G - 1, by omega⟩
    have hn : (n : Int) ≤ (most : Int) := by omega
    have hs := reachL_small a (n := n) (by omega)
    simp only [loopC, spec_l5Fewest_s3, hn, decide_true, cond_true, has_eq F (reachL a n) c (by omega) hF, Option.isSome_some, Option.getD_some, spec_next F (reachL_ok ha n) (by omega) hF, fewL]
    cases (reachL a n).contains c with
    | true => exact ⟨(true, n), rfl, rfl⟩
    | false =>
      have e : nextL (reachL a n) = reachL a (n + 1) := rfl
      rw [cond_false, cond_false, e, wrap_of (by omega) (by omega), show (n : Int) + 1 = ((n + 1 : Nat) : Int) by omega]
      exact fewest_loop F ha hm hF m (n + 1) G (by omega) (by omega)
theorem fewest_eq (F : Nat) {a c : List Int} (ha : GoodB a) {most : Nat} (hm : most ≤ 6) (hF : 1000000 < F) : spec_l5Fewest_p F a c most = some (fewL a c 0 (most + 1)) := by
  obtain ⟨r, h1, h2⟩ := fewest_loop F (c := c) ha hm hF (most + 1) 0 F (by omega) (by omega)
  have h1 : spec_l5Fewest_l3 F most c [a] 0 = some r := h1
  simp only [spec_l5Fewest_p, spec_l5Fewest_c, h1, Option.isSome_some, Option.getD_some, cond_true, ← h2]
  cases r.1 <;> rfl

/-- a board that slides reach is there at some number of slides first -/
theorem contains_reach {a c : List Int} {n : Nat} : (reachL a n).contains c = true ↔ ∃ w : List Nat, w.length ≤ n ∧ (∀ d ∈ w, d < 4) ∧ runW sl a w = c := by
  rw [List.contains_iff_mem, reachL_mem]
theorem fewL_none {a c : List Int} : ∀ (m n : Nat), (∀ k, n ≤ k → k < n + m → (reachL a k).contains c = false) → fewL a c n m = -1
  | 0, n, _ => rfl
  | m + 1, n, h => by
    simp only [fewL, h n (Nat.le_refl _) (by omega), cond_false]
    exact fewL_none m (n + 1) fun k h1 h2 => h k (by omega) (by omega)
theorem fewL_at {a c : List Int} {k : Nat} (hk : (reachL a k).contains c = true) (hb : ∀ j, j < k → (reachL a j).contains c = false) : ∀ (m n : Nat), n ≤ k → k < n + m → fewL a c n m = k
  | 0, n, h1, h2 => by omega
  | m + 1, n, h1, h2 => by
    simp only [fewL]
    by_cases h : n = k
    · subst h; rw [hk]; rfl
    · rw [hb n (by omega), cond_false]
      exact fewL_at hk hb m (n + 1) (by omega) (by omega)

/-- the first word of fewest letters -/
theorem mlook_TW (a c : List Int) (k : Nat) : mlook c (TW sl a (k + 1)) = (mlook c (TW sl a k)).or (((words k).find? fun w => runW sl a w == c).map nw) := by
  rw [TW, mlook_fold]
theorem TW_reach (a c : List Int) (n : Nat) : (mlook c (TW sl a (n + 1))).isSome = (reachL a n).contains c := by
  rw [Bool.eq_iff_iff, mlook_isSome, List.contains_iff_mem, TW_mem, contains_reach]
  constructor
  · rintro ⟨w, h, h2⟩; exact ⟨w, by omega, h2⟩
  · rintro ⟨w, h, h2⟩; exact ⟨w, by omega, h2⟩
theorem mlook_keep {a c p : List Int} {j k : Nat} (h : mlook c (TW sl a j) = some p) (hjk : j ≤ k) : mlook c (TW sl a k) = some p := by
  induction k with
  | zero => rw [show (0 : Nat) = j by omega]; exact h
  | succ k ih =>
    by_cases hj : j = k + 1
    · subst hj; exact h
    · rw [mlook_TW, ih (by omega)]; rfl
/-- either there is none, or it has a least number of letters -/
theorem road (a c : List Int) : ∀ k : Nat, (mlook c (TW sl a k) = none ∧ ∀ j, j < k → (reachL a j).contains c = false) ∨
    ∃ (n : Nat) (w : List Nat), n < k ∧ mlook c (TW sl a k) = some (nw w) ∧ (words n).find? (fun w => runW sl a w == c) = some w ∧ (reachL a n).contains c = true ∧ ∀ j, j < n → (reachL a j).contains c = false
  | 0 => .inl ⟨rfl, fun j h => by omega⟩
  | k + 1 => by
    rcases road a c k with ⟨h1, h2⟩ | ⟨n, w, h0, h1, h2, h3, h4⟩
    · have e := mlook_TW a c k
      rw [h1, Option.none_or] at e
      cases hf : (words k).find? fun w => runW sl a w == c with
      | none =>
        rw [hf] at e
        refine .inl ⟨e, fun j hj => ?_⟩
        by_cases hjk : j = k
        · subst hjk; rw [← TW_reach, e]; rfl
        · exact h2 j (by omega)
      | some w =>
        rw [hf] at e
        exact .inr ⟨k, w, by omega, e, hf, by rw [← TW_reach, e]; rfl, h2⟩
    · exact .inr ⟨n, w, by omega, mlook_keep h1 (by omega), h2, h3, h4⟩
theorem find_len {a c : List Int} {n : Nat} {w : List Nat} (h : (words n).find? (fun w => runW sl a w == c) = some w) : w.length = n ∧ (∀ d ∈ w, d < 4) ∧ runW sl a w = c := by
  obtain ⟨h1, h2⟩ := mem_words.1 (List.mem_of_find?_eq_some h)
  have h3 := List.find?_some (p := fun w => runW sl a w == c) h
  exact ⟨h1, h2, eq_of_beq h3⟩
def fewI : Option (List Int) → Int
  | some p => p.length
  | none => -1
def fewR : Option (List Int) → Int × Bool
  | some p => (p.length, true)
  | none => (0, false)
/-- what the fewest slides are, by the words -/
theorem few_road (a c : List Int) : fewL a c 0 7 = fewI (mlook c (TW sl a 7)) := by
  rcases road a c 7 with ⟨h1, h2⟩ | ⟨n, w, h0, h1, h2, h3, h4⟩
  · rw [h1]
    exact fewL_none 7 0 fun k _ hk => h2 k (by omega)
  · rw [h1, fewL_at h3 h4 7 0 (by omega) (by omega)]
    simp only [fewI, nw_len, (find_len h2).1]
theorem few_case (r : Option (List Int)) : (spec_l1Most_v (fewI r) 0, decide ((0 : Int) ≤ (fewI r))) = fewR r := by
  cases r with
  | none => rfl
  | some p =>
    have e : fewI (some p) = (p.length : Int) := rfl
    have e2 : fewR (some p) = ((p.length : Int), true) := rfl
    rw [e, e2]
    generalize (p.length : Nat) = n
    have h1 : decide ((0 : Int) ≤ (n : Int)) = true := decide_eq_true (by omega)
    rw [h1]
    unfold spec_l1Most_v
    cases hp : decide ((0 : Int) < (n : Int)) with
    | true => rfl
    | false =>
      have := of_decide_eq_false hp
      have : (n : Int) = 0 := by omega
      rw [this]; rfl
theorem spec_fewest0 (F : Nat) {a c : List Int} (ha : a.length = 16) (hc : c.length = 16) (hF : 1000000 < F) (r : Option (List Int)) (e : okB a = true → spec_l5Fewest_p F a c 6 = some (fewI r)) : spec_FewestSlides_p F a c = some (bif okB a && okB c then fewR r else (0, false)) := by
  simp only [spec_FewestSlides_p, spec_FewestSlides_c, spec_l2Board_eq F a ha (by omega), spec_l2Board_eq F c hc (by omega), Option.isSome_some, Option.getD_some, cond_true]
  cases ka : okB a with
  | false => rfl
  | true =>
    cases kc : okB c with
    | false => rfl
    | true =>
      simp only [Bool.not_true, cond_false, cond_true, Bool.and_self, e ka, Option.isSome_some, Option.getD_some]
      exact congrArg some (few_case r)
theorem spec_fewest (F : Nat) {a c : List Int} (ha : a.length = 16) (hc : c.length = 16) (hF : 1000000 < F) : spec_FewestSlides_p F a c = some (bif okB a && okB c then fewR (mlook c (TW sl a 7)) else (0, false)) := by
  refine spec_fewest0 F ha hc hF _ fun ka => ?_
  have e := fewest_eq F (c := c) (most := 6) ⟨ha, ka⟩ (by omega) hF
  rw [few_road] at e
  exact e
end Go.Lv.P
