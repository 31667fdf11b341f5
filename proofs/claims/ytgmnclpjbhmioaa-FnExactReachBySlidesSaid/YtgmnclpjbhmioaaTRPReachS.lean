/-
What slides reach: the reference's sets of boards.
-/
import Derived.Test.YtgmnclpjbhmioaaTRP0
import Derived.Test.YtgmnclpjbhmioaaTRPAdd
import Derived.Test.YtgmnclpjbhmioaaTRPSlide
import Derived.Test.YtgmnclpjbhmioaaTRPWords
import Derived.Test.YtgmnclpjbhmioaaTRPPlm
namespace Go.Lv.P
open Go Go.Lv
set_option linter.unusedVariables false
set_option linter.unusedSimpArgs false
set_option linter.unusedSectionVars false

def sl (b : List Int) (d : Nat) : List Int := (slideB b d).1
def GoodB (b : List Int) : Prop := b.length = 16 ∧ okB b = true
theorem sl_good {b : List Int} (h : GoodB b) {d : Nat} (hd : d < 4) : GoodB (sl b d) := slide_ok h.1 h.2 hd
theorem run_good {w : List Nat} : ∀ {b : List Int}, GoodB b → (∀ d ∈ w, d < 4) → GoodB (runW sl b w) := by
  induction w with
  | nil => intro b h _; simp only [runW]; exact h
  | cons d w ih =>
    intro b h hw
    simp only [runW]
    exact ih (sl_good h (hw d List.mem_cons_self)) fun e he => hw e (List.mem_cons_of_mem _ he)

def addS (x : List Int) (s : LL) : LL := fld (fun d s => insB (sl x d) s) 0 4 s
def nextL (all : LL) : LL := all.foldl (fun s x => addS x s) all
def reachL (b : List Int) : Nat → LL
  | 0 => [b]
  | n + 1 => nextL (reachL b n)

theorem insB_len1 (x : List Int) : ∀ l : LL, (insB x l).length ≤ l.length + 1 := by
  intro l
  induction l with
  | nil => simp [insB]
  | cons a r ih =>
    simp only [insB]
    cases ltL a x
    · cases a == x <;> simp
    · simp only [cond_true, List.length_cons]; omega
theorem addS_mem (x : List Int) (s : LL) (y : List Int) : y ∈ addS x s ↔ y ∈ s ∨ ∃ d : Nat, d < 4 ∧ y = sl x d := by
  simp only [addS, fld, insB_mem, Nat.zero_add, Nat.reduceAdd]
  constructor
  · rintro (h | h | h | h | h)
    · exact .inr ⟨3, by omega, h⟩
    · exact .inr ⟨2, by omega, h⟩
    · exact .inr ⟨1, by omega, h⟩
    · exact .inr ⟨0, by omega, h⟩
    · exact .inl h
  · rintro (h | ⟨d, hd, h⟩)
    · exact .inr (.inr (.inr (.inr h)))
    · obtain rfl | rfl | rfl | rfl : d = 0 ∨ d = 1 ∨ d = 2 ∨ d = 3 := by omega
      · exact .inr (.inr (.inr (.inl h)))
      · exact .inr (.inr (.inl h))
      · exact .inr (.inl h)
      · exact .inl h
theorem addS_len (x : List Int) (s : LL) : (addS x s).length ≤ s.length + 4 := by
  simp only [addS, fld, Nat.zero_add, Nat.reduceAdd]
  have h1 := insB_len1 (sl x 0) s
  have h2 := insB_len1 (sl x 1) (insB (sl x 0) s)
  have h3 := insB_len1 (sl x 2) (insB (sl x 1) (insB (sl x 0) s))
  have h4 := insB_len1 (sl x 3) (insB (sl x 2) (insB (sl x 1) (insB (sl x 0) s)))
  omega
def OKs (s : LL) : Prop := (∀ x ∈ s, GoodB x) ∧ Asc s
theorem ins_ok {s : LL} (h : OKs s) {x : List Int} (hx : GoodB x) : OKs (insB x s) := by
  refine ⟨fun y hy => ?_, insB_asc h.2 fun y hy => by rw [(h.1 y hy).1, hx.1]⟩
  rcases insB_mem.1 hy with rfl | hy
  · exact hx
  · exact h.1 y hy
theorem addS_ok {s : LL} (h : OKs s) {x : List Int} (hx : GoodB x) : OKs (addS x s) :=
  ins_ok (ins_ok (ins_ok (ins_ok h (sl_good hx (by omega))) (sl_good hx (by omega))) (sl_good hx (by omega))) (sl_good hx (by omega))
theorem foldS_mem : ∀ (l s : LL) (y : List Int), y ∈ l.foldl (fun s x => addS x s) s ↔ y ∈ s ∨ ∃ x ∈ l, ∃ d : Nat, d < 4 ∧ y = sl x d
  | [], s, y => by simp
  | x :: l, s, y => by
    rw [List.foldl_cons, foldS_mem l, addS_mem]
    constructor
    · rintro ((h | h) | ⟨z, hz, h⟩)
      · exact .inl h
      · exact .inr ⟨x, List.mem_cons_self, h⟩
      · exact .inr ⟨z, List.mem_cons_of_mem _ hz, h⟩
    · rintro (h | ⟨z, hz, h⟩)
      · exact .inl (.inl h)
      · rcases List.mem_cons.1 hz with rfl | hz
        · exact .inl (.inr h)
        · exact .inr ⟨z, hz, h⟩
theorem foldS_ok : ∀ (l s : LL), (∀ x ∈ l, GoodB x) → OKs s → OKs (l.foldl (fun s x => addS x s) s)
  | [], s, _, h => h
  | x :: l, s, hl, h => foldS_ok l _ (fun y hy => hl y (List.mem_cons_of_mem _ hy)) (addS_ok h (hl x List.mem_cons_self))
theorem foldS_len : ∀ (l s : LL), (l.foldl (fun s x => addS x s) s).length ≤ s.length + 4 * l.length
  | [], s => by simp
  | x :: l, s => by
    have h1 := foldS_len l (addS x s)
    have h2 := addS_len x s
    rw [List.foldl_cons, List.length_cons]; omega
theorem reachL_ok {b : List Int} (hb : GoodB b) : ∀ n : Nat, OKs (reachL b n)
  | 0 => ⟨fun x hx => by simp only [reachL, List.mem_singleton] at hx; subst hx; exact hb, fun x hx => (by cases hx), trivial⟩
  | n + 1 => foldS_ok _ _ (reachL_ok hb n).1 (reachL_ok hb n)
theorem reachL_len (b : List Int) : ∀ n : Nat, (reachL b n).length ≤ 5 ^ n
  | 0 => Nat.le_refl _
  | n + 1 => by
    have h1 := reachL_len b n
    have h2 := foldS_len (reachL b n) (reachL b n)
    rw [Nat.pow_succ]
    show (nextL (reachL b n)).length ≤ _
    unfold nextL
    omega
theorem reachL_mem {b : List Int} : ∀ (n : Nat) (y : List Int), y ∈ reachL b n ↔ ∃ w : List Nat, w.length ≤ n ∧ (∀ d ∈ w, d < 4) ∧ runW sl b w = y
  | 0, y => by
    simp only [reachL, List.mem_singleton]
    constructor
    · rintro rfl; exact ⟨[], Nat.le_refl _, fun d h => (by cases h), rfl⟩
    · rintro ⟨w, h, _, rfl⟩
      have : w = [] := List.length_eq_zero_iff.1 (by omega)
      subst this; rfl
  | n + 1, y => by
    show y ∈ nextL (reachL b n) ↔ _
    rw [nextL, foldS_mem]
    constructor
    · rintro (h | ⟨x, hx, d, hd, rfl⟩)
      · obtain ⟨w, h1, h2, h3⟩ := (reachL_mem n y).1 h
        exact ⟨w, by omega, h2, h3⟩
      · obtain ⟨w, h1, h2, rfl⟩ := (reachL_mem n x).1 hx
        refine ⟨w ++ [d], by simp; omega, fun e he => ?_, runW_snoc sl b w d⟩
        rcases List.mem_append.1 he with he | he
        · exact h2 e he
        · rw [List.mem_singleton] at he; omega
    · rintro ⟨w, h1, h2, h3⟩
      rcases List.eq_nil_or_concat w with rfl | ⟨v, d, rfl⟩
      · exact .inl ((reachL_mem n y).2 ⟨[], by simp, h2, h3⟩)
      · rw [List.concat_eq_append] at h1 h2 h3
        rw [runW_snoc] at h3
        rw [List.length_append, List.length_singleton] at h1
        exact .inr ⟨runW sl b v, (reachL_mem n _).2 ⟨v, by omega, fun e he => h2 e (List.mem_append_left _ he), rfl⟩, d, h2 d (by simp), h3.symm⟩

theorem spec_next (F : Nat) {all : LL} (ho : OKs all) (hl : all.length ≤ 20000) (hF : 1000000 < F) : spec_l5Next_p F all = some (nextL all) := by
  have hin : ∀ (i : Nat) (s : LL), i < all.length → OKs s → s.length ≤ 200000 → spec_l5Next_l6 F all i s 0 = some (addS (rget all i) s) := fun i s hi hs hsl => by
    have hg := ho.1 _ (rget_mem hi)
    exact (loop_fold (step := spec_l5Next_s6 F all i) (fun d (s : LL) => (s, d)) 4 (fun d s => insB (sl (rget all i) d) s) (fun s => s) (fun d s => OKs s ∧ s.length ≤ 200000 + d) (F := F) (by omega) (by omega) (a := s) ⟨hs, by omega⟩
      (fun d s hd hI => by
        have hg2 := sl_good hg hd
        have h1 := insB_len1 (sl (rget all i) d) s
        refine ⟨⟨ins_ok hI.1 hg2, by omega⟩, fun Q kn kx => ?_⟩
        have hd' : (d : Int) < 4 := by omega
        have e : (slideB (rget all i) d).1 = sl (rget all i) d := rfl
        simp only [spec_l5Next_s6, hd', decide_true, cond_true, inR_cast, hi, Int.toNat_natCast, spec_slide hg.1 hg.2 F (by omega) hd, Option.isSome_some, Option.getD_some, e,
          add_eq F (by omega) hg2.1 (fun x hx => (hI.1.1 x hx).1) (show s.length ≤ 1000000 by omega) (by omega)])
      (fun s _ Q kn kx => by simp [spec_l5Next_s6])).1
  have h := loop_fold (step := spec_l5Next_s3 F all) (fun i (s : LL) => (s, i)) all.length (fun i s => addS (rget all i) s) (fun s => s) (fun i s => OKs s ∧ s.length ≤ 20000 + 4 * i) (F := F) (by omega) (by omega) (a := all) ⟨ho, by omega⟩
    (fun i s hi hI => by
      have h1 := addS_len (rget all i) s
      refine ⟨⟨addS_ok hI.1 (ho.1 _ (rget_mem hi)), by omega⟩, fun Q kn kx => ?_⟩
      simp only [spec_l5Next_s3, Int.ofNat_lt, hi, decide_true, cond_true, hin i s hi hI.1 (by omega), Option.isSome_some, Option.getD_some])
    (fun s _ Q kn kx => by simp [spec_l5Next_s3])
  have h1 := h.1
  rw [fld_rget all (fun x (s : LL) => addS x s)] at h1
  have h1 : spec_l5Next_l3 F all all 0 = _ := h1
  simp only [spec_l5Next_p, spec_l5Next_c, h1, Option.isSome_some, Option.getD_some, cond_true]
  rfl
theorem reachL_small (b : List Int) {n : Nat} (hn : n ≤ 6) : (reachL b n).length ≤ 15625 := by
  have h := reachL_len b n
  have : 5 ^ n ≤ 5 ^ 6 := Nat.pow_le_pow_right (by omega) hn
  omega
end Go.Lv.P
