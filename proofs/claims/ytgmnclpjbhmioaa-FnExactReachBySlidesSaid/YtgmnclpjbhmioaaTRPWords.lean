/-
Words of slides in order, and what a search in breadth finds first: plain lists.
-/
import Derived.Test.YtgmnclpjbhmioaaLv3
import Derived.Test.YtgmnclpjbhmioaaTRPSet
namespace Go.Lv.P
open Go Go.Lv
set_option linter.unusedVariables false
set_option linter.unusedSimpArgs false
set_option linter.unusedSectionVars false

/-- words of n letters, in order -/
def words : Nat → List (List Nat)
  | 0 => [[]]
  | n + 1 => [0, 1, 2, 3].flatMap fun d => (words n).map (d :: ·)
theorem mem_words : ∀ {n : Nat} {w : List Nat}, w ∈ words n ↔ w.length = n ∧ ∀ d ∈ w, d < 4
  | 0, w => by
    simp only [words, List.mem_singleton]
    constructor
    · rintro rfl; exact ⟨rfl, fun d h => by cases h⟩
    · rintro ⟨h, _⟩; exact List.length_eq_zero_iff.1 h
  | n + 1, w => by
    simp only [words, List.mem_flatMap, List.mem_map]
    constructor
    · rintro ⟨d, hd, v, hv, rfl⟩
      obtain ⟨h1, h2⟩ := mem_words.1 hv
      refine ⟨by simp [h1], fun e he => ?_⟩
      rcases List.mem_cons.1 he with rfl | he
      · simp at hd; omega
      · exact h2 e he
    · rintro ⟨h1, h2⟩
      cases w with
      | nil => simp at h1
      | cons d v =>
        have hd := h2 d List.mem_cons_self
        exact ⟨d, by simp; omega, v, mem_words.2 ⟨by simpa using h1, fun e he => h2 e (List.mem_cons_of_mem _ he)⟩, rfl⟩
/-- the same words, grown at their end -/
theorem words_snoc : ∀ n : Nat, words (n + 1) = (words n).flatMap fun w => [0, 1, 2, 3].map fun d => w ++ [d]
  | 0 => rfl
  | n + 1 => by
    have ih := words_snoc n
    have e : words (n + 2) = [0, 1, 2, 3].flatMap fun d => ((words n).flatMap fun w => [0, 1, 2, 3].map fun e => w ++ [e]).map (d :: ·) := by rw [← ih]; rfl
    rw [e]
    have e2 : words (n + 1) = [0, 1, 2, 3].flatMap fun d => (words n).map (d :: ·) := rfl
    rw [e2]
    simp only [List.flatMap_assoc, List.map_flatMap, List.flatMap_map]
    simp [List.flatMap_cons]
theorem words_len : ∀ n : Nat, (words n).length = 4 ^ n
  | 0 => rfl
  | n + 1 => by
    have ih := words_len n
    simp [words, ih]
    omega

abbrev EL := List (List Int × List Int)
def nw (w : List Nat) : List Int := w.map fun d : Nat => (d : Int)

theorem nw_len (w : List Nat) : (nw w).length = w.length := by simp [nw]
/-- an entry, if there is none of its key -/
def insE (E : EL) (x : List Int × List Int) : EL := bif (E.map Prod.fst).contains x.1 then E else E ++ [x]
theorem insE_mem (E : EL) (x : List Int × List Int) (y : List Int) : y ∈ (insE E x).map Prod.fst ↔ y ∈ E.map Prod.fst ∨ y = x.1 := by
  unfold insE
  cases h : (E.map Prod.fst).contains x.1 with
  | true =>
    rw [cond_true]
    refine ⟨.inl, ?_⟩
    rintro (h1 | rfl)
    · exact h1
    · exact List.contains_iff_mem.1 h
  | false => rw [cond_false]; simp
theorem insE_pre (E : EL) (x : List Int × List Int) : ∃ l, insE E x = E ++ l := by
  unfold insE
  cases (E.map Prod.fst).contains x.1
  · exact ⟨[x], rfl⟩
  · exact ⟨[], by simp⟩
theorem insE_len (E : EL) (x : List Int × List Int) : (insE E x).length ≤ E.length + 1 := by
  unfold insE
  cases (E.map Prod.fst).contains x.1 <;> simp
theorem insE_nodup {E : EL} (h : (E.map Prod.fst).Nodup) (x : List Int × List Int) : ((insE E x).map Prod.fst).Nodup := by
  unfold insE
  cases hc : (E.map Prod.fst).contains x.1 with
  | true => exact h
  | false =>
    rw [cond_false, List.map_append, List.nodup_append]
    refine ⟨h, by simp, fun a ha b hb => ?_⟩
    simp only [List.map_cons, List.map_nil, List.mem_singleton] at hb
    subst hb
    rintro rfl
    rw [List.contains_iff_mem.2 ha] at hc; cases hc
theorem mlook_none {x : List Int} : ∀ {E : EL}, mlook x E = none ↔ x ∉ E.map Prod.fst
  | [] => by simp [mlook]
  | (y, p) :: r => by
    simp only [mlook, List.map_cons, List.mem_cons]
    cases h : x == y with
    | true => simp [eq_of_beq h]
    | false =>
      rw [cond_false, mlook_none]
      have : x ≠ y := by rw [beq_eq_false_iff_ne] at h; exact h
      simp [this]
theorem mlook_isSome {x : List Int} {E : EL} : (mlook x E).isSome = (E.map Prod.fst).contains x := by
  rw [Bool.eq_iff_iff, List.contains_iff_mem]
  cases h : mlook x E with
  | none => simpa using mlook_none.1 h
  | some p =>
    simp only [Option.isSome_some, true_iff]
    by_cases hm : x ∈ E.map Prod.fst
    · exact hm
    · rw [mlook_none.2 hm] at h; cases h
theorem mlook_append {x : List Int} {l : EL} : ∀ {E : EL}, mlook x (E ++ l) = (mlook x E).or (mlook x l)
  | [] => rfl
  | (y, p) :: r => by
    simp only [List.cons_append, mlook]
    cases x == y
    · simp only [cond_false]; exact mlook_append
    · rfl
theorem mlook_mem {x p : List Int} : ∀ {E : EL}, (E.map Prod.fst).Nodup → (x, p) ∈ E → mlook x E = some p
  | [], _, h => by cases h
  | (y, q) :: r, hn, h => by
    simp only [mlook]
    rw [List.map_cons, List.nodup_cons] at hn
    rcases List.mem_cons.1 h with h | h
    · cases h; simp
    · have : x ∈ r.map Prod.fst := List.mem_map.2 ⟨_, h, rfl⟩
      have hne : (x == y) = false := by
        rw [beq_eq_false_iff_ne]; rintro rfl; exact hn.1 this
      rw [hne, cond_false]
      exact mlook_mem hn.2 h
theorem mput_none {x p : List Int} : ∀ {E : EL}, (E.map Prod.fst).contains x = false → mput x p E = E ++ [(x, p)]
  | [], _ => rfl
  | (y, q) :: r, h => by
    rw [List.map_cons, List.contains_cons] at h
    have h1 : (x == y) = false := by
      cases hx : x == y with
      | false => rfl
      | true => rw [hx] at h; cases h
    rw [h1, Bool.false_or] at h
    simp only [mput, h1, cond_false, mput_none h, List.cons_append]

section
variable (S : List Int → Nat → List Int) (b : List Int)
/-- the board behind slides -/
def runW (S : List Int → Nat → List Int) : List Int → List Nat → List Int
  | b, [] => b
  | b, d :: r => runW S (S b d) r
theorem runW_snoc (S : List Int → Nat → List Int) : ∀ (b : List Int) (w : List Nat) (d : Nat), runW S b (w ++ [d]) = S (runW S b w) d
  | b, [], d => rfl
  | b, e :: w, d => by simp only [List.cons_append, runW]; exact runW_snoc S _ w d

def addW (E : EL) (w : List Nat) : EL := insE E (runW S b w, nw w)
/-- what words of fewer than k letters find -/
def TW : Nat → EL
  | 0 => []
  | k + 1 => (words k).foldl (addW S b) (TW k)
/-- all boards behind one -/
def expE (E : EL) (x : List Int × List Int) : EL := [0, 1, 2, 3].foldl (fun E d => insE E (S x.1 d, x.2 ++ [((d : Nat) : Int)])) E

theorem fold_mem : ∀ (ws : List (List Nat)) (E : EL) (y : List Int), y ∈ (ws.foldl (addW S b) E).map Prod.fst ↔ y ∈ E.map Prod.fst ∨ ∃ w ∈ ws, runW S b w = y
  | [], E, y => by simp
  | w :: ws, E, y => by
    rw [List.foldl_cons, fold_mem ws, addW, insE_mem]
    constructor
    · rintro ((h | h) | ⟨v, hv, h⟩)
      · exact .inl h
      · exact .inr ⟨w, List.mem_cons_self, h.symm⟩
      · exact .inr ⟨v, List.mem_cons_of_mem _ hv, h⟩
    · rintro (h | ⟨v, hv, h⟩)
      · exact .inl (.inl h)
      · rcases List.mem_cons.1 hv with rfl | hv
        · exact .inl (.inr h.symm)
        · exact .inr ⟨v, hv, h⟩
theorem TW_mem : ∀ (k : Nat) (y : List Int), y ∈ (TW S b k).map Prod.fst ↔ ∃ w : List Nat, w.length < k ∧ (∀ d ∈ w, d < 4) ∧ runW S b w = y
  | 0, y => by simp [TW]
  | k + 1, y => by
    rw [TW, fold_mem, TW_mem k]
    constructor
    · rintro (⟨w, h1, h2, h3⟩ | ⟨w, hw, h3⟩)
      · exact ⟨w, by omega, h2, h3⟩
      · obtain ⟨h1, h2⟩ := mem_words.1 hw
        exact ⟨w, by omega, h2, h3⟩
    · rintro ⟨w, h1, h2, h3⟩
      by_cases h : w.length = k
      · exact .inr ⟨w, mem_words.2 ⟨h, h2⟩, h3⟩
      · exact .inl ⟨w, by omega, h2, h3⟩
theorem fold_nodup : ∀ (ws : List (List Nat)) (E : EL), (E.map Prod.fst).Nodup → ((ws.foldl (addW S b) E).map Prod.fst).Nodup
  | [], E, h => h
  | w :: ws, E, h => fold_nodup ws _ (insE_nodup h _)
theorem TW_nodup : ∀ k : Nat, ((TW S b k).map Prod.fst).Nodup
  | 0 => List.nodup_nil
  | k + 1 => fold_nodup S b _ _ (TW_nodup k)
theorem fold_pre : ∀ (ws : List (List Nat)) (E : EL), ∃ l, ws.foldl (addW S b) E = E ++ l ∧ (∀ x ∈ l, ∃ w ∈ ws, x = (runW S b w, nw w)) ∧ l.length ≤ ws.length
  | [], E => ⟨[], by simp, fun x h => (by cases h), by simp⟩
  | w :: ws, E => by
    obtain ⟨l, h1, h2, h3⟩ := fold_pre ws (addW S b E w)
    rw [List.foldl_cons, h1]
    unfold addW insE
    cases (E.map Prod.fst).contains (runW S b w)
    · refine ⟨(runW S b w, nw w) :: l, by simp, fun x hx => ?_, by simp; omega⟩
      rcases List.mem_cons.1 hx with rfl | hx
      · exact ⟨w, List.mem_cons_self, rfl⟩
      · obtain ⟨v, hv, e⟩ := h2 x hx
        exact ⟨v, List.mem_cons_of_mem _ hv, e⟩
    · refine ⟨l, rfl, fun x hx => ?_, by simp; omega⟩
      obtain ⟨v, hv, e⟩ := h2 x hx
      exact ⟨v, List.mem_cons_of_mem _ hv, e⟩
theorem TW_ent : ∀ (k : Nat) (x : List Int × List Int), x ∈ TW S b k → ∃ w : List Nat, w.length < k ∧ (∀ d ∈ w, d < 4) ∧ x = (runW S b w, nw w)
  | 0, x, h => by simp [TW] at h
  | k + 1, x, h => by
    obtain ⟨l, h1, h2, _⟩ := fold_pre S b (words k) (TW S b k)
    rw [TW, h1, List.mem_append] at h
    rcases h with h | h
    · obtain ⟨w, a1, a2, a3⟩ := TW_ent k x h
      exact ⟨w, by omega, a2, a3⟩
    · obtain ⟨w, hw, e⟩ := h2 x h
      obtain ⟨a1, a2⟩ := mem_words.1 hw
      exact ⟨w, by omega, a2, e⟩
theorem TW_len : ∀ k : Nat, (TW S b k).length ≤ k * 4 ^ k
  | 0 => by simp [TW]
  | k + 1 => by
    obtain ⟨l, h1, _, h3⟩ := fold_pre S b (words k) (TW S b k)
    rw [TW, h1, List.length_append]
    have := TW_len k
    rw [words_len] at h3
    have e : 4 ^ (k + 1) = 4 * 4 ^ k := by rw [Nat.pow_succ]; omega
    rw [e, Nat.add_mul, Nat.mul_left_comm]
    omega

theorem exp_mem (E : EL) (x : List Int × List Int) (y : List Int) : y ∈ (expE S E x).map Prod.fst ↔ y ∈ E.map Prod.fst ∨ ∃ d : Nat, d < 4 ∧ y = S x.1 d := by
  simp only [expE, List.foldl_cons, List.foldl_nil, insE_mem]
  constructor
  · rintro ((((h | h) | h) | h) | h)
    · exact .inl h
    · exact .inr ⟨0, by omega, h⟩
    · exact .inr ⟨1, by omega, h⟩
    · exact .inr ⟨2, by omega, h⟩
    · exact .inr ⟨3, by omega, h⟩
  · rintro (h | ⟨d, hd, h⟩)
    · exact .inl (.inl (.inl (.inl h)))
    · obtain rfl | rfl | rfl | rfl : d = 0 ∨ d = 1 ∨ d = 2 ∨ d = 3 := by omega
      · exact .inl (.inl (.inl (.inr h)))
      · exact .inl (.inl (.inr h))
      · exact .inl (.inr h)
      · exact .inr h
theorem exp_idle (E : EL) (x : List Int × List Int) (h : ∀ d : Nat, d < 4 → S x.1 d ∈ E.map Prod.fst) : expE S E x = E := by
  have e : ∀ d : Nat, d < 4 → insE E (S x.1 d, x.2 ++ [((d : Nat) : Int)]) = E := fun d hd => by
    unfold insE
    rw [show (E.map Prod.fst).contains (S x.1 d, x.2 ++ [((d : Nat) : Int)]).1 = true from List.contains_iff_mem.2 (h d hd)]; rfl
  simp only [expE, List.foldl_cons, List.foldl_nil]
  rw [e 0 (by omega), e 1 (by omega), e 2 (by omega), e 3 (by omega)]
/-- only the new ones matter -/
theorem exp_new : ∀ (ws : List (List Nat)) (E0 G : EL) (l : EL), ws.foldl (addW S b) E0 = E0 ++ l → (∀ x ∈ E0.map Prod.fst, ∀ d : Nat, d < 4 → S x d ∈ G.map Prod.fst) →
    l.foldl (expE S) G = (ws.map fun w => (runW S b w, nw w)).foldl (expE S) G
  | [], E0, G, l, h, _ => by
    rw [List.foldl_nil] at h
    have : l = [] := by
      have := congrArg List.length h
      rw [List.length_append] at this
      exact List.length_eq_zero_iff.1 (by omega)
    rw [this]; rfl
  | w :: ws, E0, G, l, h, hc => by
    rw [List.foldl_cons] at h
    rw [List.map_cons, List.foldl_cons]
    cases hm : (E0.map Prod.fst).contains (runW S b w) with
    | true =>
      have e : addW S b E0 w = E0 := by unfold addW insE; rw [hm]; rfl
      rw [e] at h
      rw [exp_idle S G _ fun d hd => hc _ (List.contains_iff_mem.1 hm) d hd]
      exact exp_new ws E0 G l h hc
    | false =>
      have e : addW S b E0 w = E0 ++ [(runW S b w, nw w)] := by unfold addW insE; rw [hm]; rfl
      rw [e] at h
      obtain ⟨l', h1, _, _⟩ := fold_pre S b ws (E0 ++ [(runW S b w, nw w)])
      have hl : l = (runW S b w, nw w) :: l' := by
        rw [h1, List.append_assoc] at h
        exact (List.append_cancel_left h).symm
      rw [hl, List.foldl_cons]
      refine exp_new ws _ _ l' h1 fun x hx d hd => ?_
      rw [List.map_append, List.mem_append] at hx
      rw [exp_mem]
      rcases hx with hx | hx
      · exact .inl (hc x hx d hd)
      · simp only [List.map_cons, List.map_nil, List.mem_singleton] at hx
        subst hx
        exact .inr ⟨d, hd, rfl⟩
theorem fold_exp : ∀ (ws : List (List Nat)) (G : EL), (ws.map fun w => (runW S b w, nw w)).foldl (expE S) G = (ws.flatMap fun w => [0, 1, 2, 3].map fun d => w ++ [d]).foldl (addW S b) G
  | [], G => rfl
  | w :: ws, G => by
    rw [List.map_cons, List.foldl_cons, fold_exp ws, List.flatMap_cons, List.foldl_append]
    congr 1
    simp only [expE, List.map_cons, List.map_nil, List.foldl_cons, List.foldl_nil, addW, runW_snoc]
    simp [nw]
/-- what a level adds is what the next one comes of -/
theorem TW_next (k : Nat) {l : EL} (h : TW S b (k + 1) = TW S b k ++ l) : l.foldl (expE S) (TW S b (k + 1)) = TW S b (k + 2) := by
  rw [exp_new S b (words k) (TW S b k) _ l h fun x hx d hd => ?_, fold_exp, ← words_snoc]
  · rfl
  · obtain ⟨w, h1, h2, rfl⟩ := (TW_mem S b k x).1 hx
    refine (TW_mem S b (k + 1) _).2 ⟨w ++ [d], by simp; omega, fun e he => ?_, runW_snoc S b w d⟩
    rcases List.mem_append.1 he with he | he
    · exact h2 e he
    · simp at he; omega

/-- the first word that leads somewhere -/
theorem mlook_fold (c : List Int) : ∀ (ws : List (List Nat)) (E : EL), mlook c (ws.foldl (addW S b) E) = (mlook c E).or ((ws.find? fun w => runW S b w == c).map nw)
  | [], E => by simp
  | w :: ws, E => by
    rw [List.foldl_cons, mlook_fold c ws, List.find?_cons]
    unfold addW insE
    cases hm : (E.map Prod.fst).contains (runW S b w) with
    | true =>
      rw [cond_true]
      cases hw : runW S b w == c with
      | false => rfl
      | true =>
        have e := eq_of_beq hw
        subst e
        obtain ⟨p, hp⟩ : ∃ p, mlook (runW S b w) E = some p := by
          rw [← Option.isSome_iff_exists, mlook_isSome]; exact hm
        rw [hp]; rfl
    | false =>
      rw [cond_false, mlook_append]
      have e2 : mlook c [(runW S b w, nw w)] = bif runW S b w == c then some (nw w) else none := by
        simp only [mlook]
        have : (c == runW S b w) = (runW S b w == c) := by rw [Bool.eq_iff_iff, beq_iff_eq, beq_iff_eq]; exact ⟨Eq.symm, Eq.symm⟩
        rw [this]
      rw [e2]
      cases hw : runW S b w == c with
      | false => simp
      | true =>
        cases mlook c E <;> rfl
theorem find_words (a c : List Int) (n : Nat) : (words (n + 1)).find? (fun w => runW S a w == c) = ([0, 1, 2, 3].find? fun d => ((words n).find? fun w => runW S (S a d) w == c).isSome).bind fun d => ((words n).find? fun w => runW S (S a d) w == c).map (d :: ·) := by
  have key : ∀ ds : List Nat, (ds.flatMap fun d => (words n).map (d :: ·)).find? (fun w => runW S a w == c) = (ds.find? fun d => ((words n).find? fun w => runW S (S a d) w == c).isSome).bind fun d => ((words n).find? fun w => runW S (S a d) w == c).map (d :: ·) := by
    intro ds
    induction ds with
    | nil => rfl
    | cons d r ih =>
      rw [List.flatMap_cons, List.find?_append, ih, List.find?_cons, List.find?_map]
      have e : ((fun w => runW S a w == c) ∘ (d :: ·)) = fun w => runW S (S a d) w == c := rfl
      rw [e]
      cases h : (words n).find? fun w => runW S (S a d) w == c with
      | none => simp
      | some v => simp [h]
  exact key _
end
end Go.Lv.P
