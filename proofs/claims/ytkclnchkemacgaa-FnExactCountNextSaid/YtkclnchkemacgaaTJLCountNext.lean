/-
FnExactCountNext: both say the same.
-/
import Derived.Test.YtkclnchkemacgaaTJP4
import Derived.Test.YtkclnchkemacgaaTJPAdd
import Derived.Test.YtkclnchkemacgaaTJPAll
import Derived.Test.YtkclnchkemacgaaTJPToBoard
namespace Go.Lv.P
open Go Go.Lv
set_option linter.unusedVariables false
set_option linter.unusedSimpArgs false
set_option linter.unusedSectionVars false

abbrev KM := List (List Int × Bool)
theorem mput_len (k : List Int) (v : Bool) : ∀ l : KM, (mput k v l).length = bif (l.map Prod.fst).contains k then l.length else l.length + 1
  | [] => rfl
  | (x, u) :: r => by
    simp only [mput, List.map_cons, List.contains_cons]
    cases h : k == x with
    | true => rfl
    | false =>
      rw [cond_false, Bool.false_or, List.length_cons, mput_len k v r]
      cases (r.map Prod.fst).contains k <;> rfl
theorem mput_keys (k : List Int) (v : Bool) (x : List Int) : ∀ l : KM, x ∈ (mput k v l).map Prod.fst ↔ x = k ∨ x ∈ l.map Prod.fst
  | [] => by simp [mput]
  | (y, u) :: r => by
    simp only [mput]
    cases h : k == y with
    | true =>
      have e := eq_of_beq h
      subst e
      simp
    | false =>
      rw [cond_false, List.map_cons, List.mem_cons, mput_keys k v x r, List.map_cons, List.mem_cons]
      constructor
      · rintro (h | h | h)
        · exact .inr (.inl h)
        · exact .inl h
        · exact .inr (.inr h)
      · rintro (h | h | h)
        · exact .inr (.inl h)
        · exact .inl h
        · exact .inr (.inr h)
/-- the two tell as many -/
theorem fold_same (g : List Int → List Int) : ∀ (all : LL) (s : LL) (m : KM), (∀ x ∈ all, (g x).length = 16) → (∀ x ∈ s, x.length = 16) → Asc s → (∀ x, x ∈ s ↔ x ∈ m.map Prod.fst) → s.length = m.length →
    (all.foldl (fun s x => insB (g x) s) s).length = (all.foldl (fun m x => mput (g x) true m) m).length
  | [], s, m, _, _, _, _, h => h
  | a :: r, s, m, h16, hs, ha, hk, hl => by
    have hg := h16 a List.mem_cons_self
    have h2 : ∀ x ∈ s, x.length = (g a).length := fun x hx => by rw [hs x hx, hg]
    refine fold_same g r _ _ (fun x hx => h16 x (List.mem_cons_of_mem _ hx)) (fun x hx => ?_) (insB_asc ha h2) (fun x => ?_) ?_
    · rcases insB_mem.1 hx with rfl | hx
      · exact hg
      · exact hs x hx
    · rw [insB_mem, mput_keys, hk]
    · rw [insB_len ha h2, mput_len, hl]
      have : s.contains (g a) = (m.map Prod.fst).contains (g a) := by
        rw [Bool.eq_iff_iff, List.contains_iff_mem, List.contains_iff_mem]; exact hk _
      rw [this]
theorem next_same (F : Nat) (b : List Int) (hb : b.length = 16) (hF : 1000 < F) : ∃ v, spec_CountNext_p F b = some v ∧ impl_CountNext_p F b = some v := by
  cases hB : okB b with
  | false =>
    simp only [spec_CountNext_p, spec_CountNext_c, impl_CountNext_p, impl_CountNext_c, spec_l2Board_eq F b hb hF, impl_IsBoard_eq F b hb hF, hB, Option.isSome_some, Option.getD_some, cond_true, Bool.not_false]
    exact ⟨_, rfl, rfl⟩
  | true =>
    have hl := allB_len b
    have hs := loop_fold (step := spec_CountNext_s5 F (allB b) b) (fun i (s : LL) => (s, i)) (allB b).length (fun i s => insB (nxt b (rget (allB b) i)) s) (fun s => s) (fun i s => s.length ≤ i ∧ ∀ x ∈ s, x.length = 16) (F := F) (by omega) (by omega) (a := []) ⟨by simp, fun x hx => (by cases hx)⟩
      (fun i s hi hI => by
        obtain ⟨w, hw⟩ := spec_nxt hb hB F hF (rget_mem hi)
        have hn := (nxt_ok hb hB (rget_mem hi)).1
        have hlen : (insB (nxt b (rget (allB b) i)) s).length ≤ s.length + 1 := by
          have : ∀ l : LL, (insB (nxt b (rget (allB b) i)) l).length ≤ l.length + 1 := by
            intro l
            induction l with
            | nil => simp [insB]
            | cons a r ih =>
              simp only [insB]
              cases ltL a (nxt b (rget (allB b) i))
              · cases a == nxt b (rget (allB b) i) <;> simp
              · simp only [cond_true, List.length_cons]; omega
          exact this s
        refine ⟨⟨by omega, fun x hx => ?_⟩, fun Q kn kx => ?_⟩
        · rcases insB_mem.1 hx with rfl | hx
          · exact hn
          · exact hI.2 x hx
        · simp only [spec_CountNext_s5, Int.ofNat_lt, inR_cast, hi, Int.toNat_natCast, decide_true, cond_true, hw, add_eq F hF hn hI.2 (by omega) (by omega), Option.isSome_some, Option.getD_some]) (fun s _ Q kn kx => by simp [spec_CountNext_s5])
    have hi := loop_fold (step := impl_CountNext_s5 F (((allB b).length : Nat) : Int) b (allB b)) (fun i (m : KM) => (i, m)) (allB b).length (fun i m => mput (nxt b (rget (allB b) i)) true m) (fun m => m) (fun _ _ => True) (F := F) (by omega) (by omega) (a := []) trivial
      (fun i m hi _ => ⟨trivial, fun Q kn kx => by
        obtain ⟨w, hw⟩ := impl_nxt hb hB F hF (rget_mem hi)
        simp only [impl_CountNext_s5, Int.ofNat_lt, inR_cast, hi, Int.toNat_natCast, decide_true, cond_true, Nat.zero_add, hw, Option.isSome_some, Option.getD_some]⟩) (fun m _ Q kn kx => by simp [impl_CountNext_s5])
    have h1 := hs.1
    have h2 := hi.1
    rw [fld_rget (allB b) (fun x (s : LL) => insB (nxt b x) s)] at h1
    rw [fld_rget (allB b) (fun x (m : KM) => mput (nxt b x) true m)] at h2
    have hsame := fold_same (nxt b) (allB b) [] [] (fun x hx => (nxt_ok hb hB hx).1) (fun x hx => (by cases hx)) trivial (fun x => by simp) rfl
    have h1 : spec_CountNext_l5 F (allB b) b [] 0 = _ := h1
    have h2 : impl_CountNext_l5 F (((allB b).length : Nat) : Int) b (allB b) 0 [] = _ := h2
    refine ⟨((((allB b).foldl (fun m x => mput (nxt b x) true m) ([] : KM)).length : Nat), true), ?_, ?_⟩
    · simp only [spec_CountNext_p, spec_CountNext_c, spec_l2Board_eq F b hb hF, hB, spec_all hb hB F hF, subn_self, h1, hsame, Option.isSome_some, Option.getD_some, cond_true, Bool.not_true, cond_false]
    · simp only [impl_CountNext_p, impl_CountNext_c, impl_IsBoard_eq F b hb hF, hB, impl_all hb hB F hF, h2, Option.isSome_some, Option.getD_some, cond_true, Bool.not_true, cond_false, beq_selfL, Bool.and_self]
theorem law_CountNext (F : Nat) (b : List Int) (hb : b.length = 16) (_ : ∀ x ∈ b, Rng x) (hF : 1000 < F) : laws_FnExactCountNext_p F b = some true := by
  obtain ⟨v, h1, h2⟩ := next_same F b hb hF
  simp only [laws_FnExactCountNext_p, laws_FnExactCountNext_c, toBoard_eq hb, h1, h2, Option.isSome_some, Option.getD_some, cond_true, beq_self_eq_true, Bool.not_true, cond_false]
end Go.Lv.P
