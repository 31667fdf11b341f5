/-
Snakes of a board: what both say.
-/
import Derived.Test.YtabfliifleonaaiQiP0
import Derived.Test.YtabfliifleonaaiQiP2
import Derived.Test.YtabfliifleonaaiQiPBoard
import Derived.Test.YtabfliifleonaaiQiPSumB
namespace Go.Lv.P
open Go Go.Lv
set_option linter.unusedVariables false
set_option linter.unusedSimpArgs false
set_option linter.unusedSectionVars false

/-- the eight ways of the snake -/
def pth : Nat → List Nat
  | 0 => [0, 1, 2, 3, 7, 6, 5, 4, 8, 9, 10, 11, 15, 14, 13, 12]
  | 1 => [3, 7, 11, 15, 14, 10, 6, 2, 1, 5, 9, 13, 12, 8, 4, 0]
  | 2 => [15, 14, 13, 12, 8, 9, 10, 11, 7, 6, 5, 4, 0, 1, 2, 3]
  | 3 => [12, 8, 4, 0, 1, 5, 9, 13, 14, 10, 6, 2, 3, 7, 11, 15]
  | 4 => [3, 2, 1, 0, 4, 5, 6, 7, 11, 10, 9, 8, 12, 13, 14, 15]
  | 5 => [0, 4, 8, 12, 13, 9, 5, 1, 2, 6, 10, 14, 15, 11, 7, 3]
  | 6 => [12, 13, 14, 15, 11, 10, 9, 8, 4, 5, 6, 7, 3, 2, 1, 0]
  | _ => [15, 11, 7, 3, 2, 6, 10, 14, 13, 9, 5, 1, 0, 4, 8, 12]

def pcs (k : Nat) : List Int := (pth k).flatMap fun i => [((i / 4 : Nat) : Int), ((i % 4 : Nat) : Int)]
def pv (b : List Int) (k i : Nat) : Int := iget b ((pth k)[i]?.getD 0)
def pvs (b : List Int) (k : Nat) : List Int := (pth k).map fun i => IntKind.wrap .i64 (0 - iget b i)

theorem k8 {k : Nat} (h : k < 8) : k = 0 ∨ k = 1 ∨ k = 2 ∨ k = 3 ∨ k = 4 ∨ k = 5 ∨ k = 6 ∨ k = 7 := by omega
theorem i16 {i : Nat} (h : i < 16) : i = 0 ∨ i = 1 ∨ i = 2 ∨ i = 3 ∨ i = 4 ∨ i = 5 ∨ i = 6 ∨ i = 7 ∨ i = 8 ∨ i = 9 ∨ i = 10 ∨ i = 11 ∨ i = 12 ∨ i = 13 ∨ i = 14 ∨ i = 15 := by omega
theorem snake_spec (G : Nat) : ∀ k : Nat, k < 8 → spec_l7Snake_p (G + 1001) k = some (pcs k) := by
  intro k hk
  obtain rfl | rfl | rfl | rfl | rfl | rfl | rfl | rfl := k8 hk
  all_goals kernel_rfl
theorem snake_at (b : List Int) : ∀ k : Nat, k < 8 → ∀ i : Nat, i < 16 → spec_l2At_p b (subn 32 (pcs k) (0 + i * 2) 2) = some (pv b k i) := by
  intro k hk i hi
  obtain rfl | rfl | rfl | rfl | rfl | rfl | rfl | rfl := k8 hk
  all_goals
    obtain rfl | rfl | rfl | rfl | rfl | rfl | rfl | rfl | rfl | rfl | rfl | rfl | rfl | rfl | rfl | rfl := i16 hi
    all_goals kernel_rfl

theorem any_fnd (p : Nat → Bool) : ∀ m i, fnd p (fun _ => true) false i m = (List.range' i m).any p
  | 0, i => rfl
  | m + 1, i => by
    simp only [fnd, any_fnd p m, List.range'_succ, List.any_cons]
    cases p i <;> rfl

theorem ordered_eq (G : Nat) (b : List Int) (k : Nat) (hk : k < 8) : spec_l7Ordered_p (G + 1001) b k = some (!(List.range' 0 15).any fun i => decide (pv b k i < pv b k (i + 1))) := by
  have h : spec_l7Ordered_l3 (G + 1001) b (pcs k) 1 = some ((List.range' 0 15).any fun i => decide (pv b k i < pv b k (i + 1))) := by
    rw [← any_fnd]
    refine loop_find_gen (step := spec_l7Ordered_s3 (G + 1001) b (pcs k)) (mk := fun i => i + 1) (n := 15) (by omega) (fun i hi Q kn kx => ?_) (fun Q kn kx => ?_) 15 0 (G + 1001) rfl (by omega) some
    · have e1 : (i : Int) + 1 = ((i + 1 : Nat) : Int) := by omega
      have e2 : IntKind.wrap .i64 (((i + 1 : Nat) : Int) - 1) = ((i : Nat) : Int) := by rw [wrap_of (by omega) (by omega)]; omega
      have e3 : IntKind.wrap .i64 (((i + 1 : Nat) : Int) + 1) = IntKind.wrap .i64 ((i : Int) + 1) + 1 := by rw [wrap_of (by omega) (by omega), wrap_of (by omega) (by omega)]; omega
      have h1 : ((i + 1 : Nat) : Int) < 16 := by omega
      have h2 : i + 1 < 16 := by omega
      have h3 : i < 16 := by omega
      simp only [e1, spec_l7Ordered_s3, h1, decide_true, cond_true, inR_cast, h2, e2, h3, Int.toNat_natCast, snake_at b k hk (i + 1) h2, snake_at b k hk i h3, Option.isSome_some, Option.getD_some, e3]
    · simp [spec_l7Ordered_s3]
  simp only [spec_l7Ordered_p, spec_l7Ordered_c, snake_spec G k hk, h, Option.isSome_some, Option.getD_some, cond_true]
  cases (List.range' 0 15).any fun i => decide (pv b k i < pv b k (i + 1)) <;> rfl

theorem less_eq (x y : Int) : cmp_Less_int_v x y = decide (x < y) := by
  unfold cmp_Less_int_v cmp_isNaN_int_v
  rw [beq_self_eq_true, beq_self_eq_true]
  rfl

theorem sorted_eq (F : Nat) (x : List Int) (hx : x.length = 16) (hF : 1000 < F) : slices_IsSorted_intint_p F x = some (!(List.range' 0 15).any fun i => decide (iget x (15 - i) < iget x (14 - i))) := by
  have h : slices_IsSorted_intint_l2 F x 15 = some ((List.range' 0 15).any fun i => decide (iget x (15 - i) < iget x (14 - i))) := by
    rw [← any_fnd]
    refine loop_find_gen (step := slices_IsSorted_intint_s2 F x) (mk := fun i => 15 - i) (n := 15) (by omega) (fun i hi Q kn kx => ?_) (fun Q kn kx => ?_) 15 0 F rfl (by omega) some
    · have e1 : (15 : Int) - (i : Int) = ((15 - i : Nat) : Int) := by omega
      have e2 : IntKind.wrap .i64 (((15 - i : Nat) : Int) - 1) = ((14 - i : Nat) : Int) := by rw [wrap_of (by omega) (by omega)]; omega
      have e3 : (15 : Int) - IntKind.wrap .i64 ((i : Int) + 1) = ((14 - i : Nat) : Int) := by rw [wrap_of (by omega) (by omega)]; omega
      have h1 : (0 : Int) < ((15 - i : Nat) : Int) := by omega
      have h2 : 15 - i < 16 := by omega
      have h3 : 14 - i < 16 := by omega
      simp only [e1, e3, slices_IsSorted_intint_s2, h1, hx, decide_true, cond_true, inR_cast, h2, e2, h3, Int.toNat_natCast, less_eq]
    · simp [slices_IsSorted_intint_s2]
  have e : IntKind.wrap .i64 ((((List.length x) : Nat) : Int) - (1 : Int)) = 15 := by rw [hx]; rfl
  simp only [slices_IsSorted_intint_p, slices_IsSorted_intint_c, e, h, Option.isSome_some, Option.getD_some, cond_true]
  cases (List.range' 0 15).any fun i => decide (iget x (15 - i) < iget x (14 - i)) <;> rfl

theorem impl_step (G : Nat) (b : List Int) (k : Nat) (hk : k < 8) (n : Nat) (out : List Int) (Q : Type) (kn : Nat × Int × List Int → Option Q) (kx : Nat × List Int → Option Q) :
    impl_SnakesOf_s5 (G + 1001) b Q (n, (k : Int), out) kn kx = bif (Option.isSome (slices_IsSorted_intint_p (G + 1001) (pvs b k))) then bif (Option.getD (slices_IsSorted_intint_p (G + 1001) (pvs b k)) default) then bif (fits (List.length (subn out.length out 0 n ++ [(k : Int)])) 8) then kn (List.length (subn out.length out 0 n ++ [(k : Int)]), IntKind.wrap .i64 ((k : Int) + 1), subn out.length out 0 n ++ [(k : Int)]) else none else kn (n, IntKind.wrap .i64 ((k : Int) + 1), out) else none := by
  obtain rfl | rfl | rfl | rfl | rfl | rfl | rfl | rfl := k8 hk
  all_goals kernel_rfl

theorem pvs_len (b : List Int) (k : Nat) (hk : k < 8) : (pvs b k).length = 16 := by
  obtain rfl | rfl | rfl | rfl | rfl | rfl | rfl | rfl := k8 hk
  all_goals rfl

theorem pth_small : ∀ k : Nat, k < 8 → ∀ i, i < 16 → (pth k)[i]?.getD 0 < 16 ∧ (pth k)[i]? = some ((pth k)[i]?.getD 0) := by decide

theorem pvs_get (b : List Int) (hb : b.length = 16) (ok : okB b = true) (k : Nat) (hk : k < 8) (i : Nat) (hi : i < 16) : iget (pvs b k) i = - pv b k i := by
  obtain ⟨h1, h2⟩ := pth_small k hk i hi
  have h3 := okB_iget hb ok _ h1
  simp [inB] at h3
  rw [igetL, pvs, List.getElem?_map, h2]
  show IntKind.wrap .i64 (0 - iget b ((pth k)[i]?.getD 0)) = _
  rw [wrap_of (by omega) (by omega), pv]
  omega

theorem order_same (b : List Int) (hb : b.length = 16) (ok : okB b = true) (k : Nat) (hk : k < 8) : ((List.range' 0 15).any fun i => decide (iget (pvs b k) (15 - i) < iget (pvs b k) (14 - i))) = (List.range' 0 15).any fun i => decide (pv b k i < pv b k (i + 1)) := by
  rw [Bool.eq_iff_iff]
  simp only [List.any_eq_true, List.mem_range'_1, decide_eq_true_eq]
  constructor
  · rintro ⟨i, hi, h⟩
    rw [pvs_get b hb ok k hk _ (by omega), pvs_get b hb ok k hk _ (by omega)] at h
    refine ⟨14 - i, by omega, ?_⟩
    rw [show 14 - i + 1 = 15 - i by omega]
    omega
  · rintro ⟨i, hi, h⟩
    refine ⟨14 - i, by omega, ?_⟩
    rw [pvs_get b hb ok k hk _ (by omega), pvs_get b hb ok k hk _ (by omega), show 15 - (14 - i) = i + 1 by omega, show 14 - (14 - i) = i by omega]
    omega

/-- the ways along which a board is ordered -/
def snk (b : List Int) : List Int := fld (fun k out => bif (List.range' 0 15).any fun i => decide (pv b k i < pv b k (i + 1)) then out else out ++ [(k : Int)]) 0 8 []

/-- is a board in order along a way -/
def ordB (b : List Int) (k : Nat) : Bool := !(List.range' 0 15).any fun i => decide (pv b k i < pv b k (i + 1))
theorem snk_mem (b : List Int) (x : Int) : x ∈ snk b ↔ ∃ k : Nat, k < 8 ∧ ordB b k = true ∧ x = (k : Int) := by
  have key : ∀ (m i : Nat) (out : List Int), x ∈ fld (fun k out => bif (List.range' 0 15).any fun i => decide (pv b k i < pv b k (i + 1)) then out else out ++ [(k : Int)]) i m out ↔ x ∈ out ∨ ∃ k : Nat, i ≤ k ∧ k < i + m ∧ ordB b k = true ∧ x = (k : Int) := by
    intro m
    induction m with
    | zero =>
      intro i out
      constructor
      · exact .inl
      · rintro (h | ⟨k, h1, h2, _⟩)
        · exact h
        · omega
    | succ m ih =>
      intro i out
      rw [fld, ih]
      unfold ordB
      cases hi : (List.range' 0 15).any fun j => decide (pv b i j < pv b i (j + 1)) with
      | true =>
        rw [cond_true]
        constructor
        · rintro (h | ⟨k, h1, h2, h3⟩)
          · exact .inl h
          · exact .inr ⟨k, by omega, by omega, h3⟩
        · rintro (h | ⟨k, h1, h2, h3, h4⟩)
          · exact .inl h
          · by_cases e : k = i
            · subst e; rw [hi] at h3; cases h3
            · exact .inr ⟨k, by omega, by omega, h3, h4⟩
      | false =>
        rw [cond_false]
        constructor
        · rintro (h | ⟨k, h1, h2, h3⟩)
          · rcases List.mem_append.1 h with h | h
            · exact .inl h
            · exact .inr ⟨i, Nat.le_refl _, by omega, by rw [hi]; rfl, by simpa using h⟩
          · exact .inr ⟨k, by omega, by omega, h3⟩
        · rintro (h | ⟨k, h1, h2, h3, h4⟩)
          · exact .inl (List.mem_append.2 (.inl h))
          · by_cases e : k = i
            · subst e; exact .inl (List.mem_append.2 (.inr (by rw [h4]; exact List.mem_singleton.2 rfl)))
            · exact .inr ⟨k, by omega, by omega, h3, h4⟩
  unfold snk
  rw [key 8 0 []]
  constructor
  · rintro (h | ⟨k, _, h2, h3⟩)
    · cases h
    · exact ⟨k, by omega, h3⟩
  · rintro ⟨k, h2, h3⟩
    exact .inr ⟨k, Nat.zero_le _, by omega, h3⟩
theorem snakes_val (F : Nat) (b : List Int) (hb : b.length = 16) (hF : 1000 < F) : ∃ v : List Int, spec_SnakesOf_p F b = some (okB b, v) ∧ impl_SnakesOf_p F b = some (v.length, okB b, v) ∧ v.length ≤ 8 ∧ (okB b = true → v = snk b) := by
  obtain ⟨G, rfl⟩ : ∃ G, F = G + 1001 := ⟨F - 1001, by omega⟩
  simp only [spec_SnakesOf_p, spec_SnakesOf_c, impl_SnakesOf_p, impl_SnakesOf_c, spec_l2Board_eq _ b hb hF, impl_IsBoard_eq _ b hb hF, Option.isSome_some, Option.getD_some, cond_true]
  cases hB : okB b with
  | false => exact ⟨_, rfl, rfl, by decide, fun h => by cases h⟩
  | true =>
    have hI : ∀ (k : Nat) (out : List Int), out.length ≤ k → ∀ c : Bool, (bif c then out else out ++ [(k : Int)]).length ≤ k + 1 := fun k out h c => by
      cases c
      · simp; omega
      · simp; omega
    have h1 := loop_fold (step := spec_SnakesOf_s5 (G + 1001) b) (fun i a => (i, a)) 8 (fun k out => bif (List.range' 0 15).any fun i => decide (pv b k i < pv b k (i + 1)) then out else out ++ [(k : Int)]) (fun a => a) (fun i a => a.length ≤ i) (F := G + 1001) (by omega) (by omega) (a := []) (by simp)
      (fun k out hk h => ⟨hI k out h _, fun Q kn kx => by
        have hk' : (k : Int) < 8 := by omega
        have hf : fits (out ++ [(k : Int)]).length 8 = true := fits_of (by simp; omega) (by simp; omega)
        simp only [spec_SnakesOf_s5, hk', decide_true, cond_true, ordered_eq G b k hk, Option.isSome_some, Option.getD_some, subn_self, hf]
        cases (List.range' 0 15).any fun i => decide (pv b k i < pv b k (i + 1)) <;> rfl⟩) (fun a _ Q kn kx => by simp [spec_SnakesOf_s5])
    have h2 := loop_fold (step := impl_SnakesOf_s5 (G + 1001) b) (fun i a => (a.length, i, a)) 8 (fun k out => bif (List.range' 0 15).any fun i => decide (pv b k i < pv b k (i + 1)) then out else out ++ [(k : Int)]) (fun a => (a.length, a)) (fun i a => a.length ≤ i) (F := G + 1001) (by omega) (by omega) (a := []) (by simp)
      (fun k out hk h => ⟨hI k out h _, fun Q kn kx => by
        have hf : fits (out ++ [(k : Int)]).length 8 = true := fits_of (by simp; omega) (by simp; omega)
        rw [impl_step G b k hk, sorted_eq (G + 1001) _ (pvs_len b k hk) hF, order_same b hb hB k hk]
        simp only [Option.isSome_some, Option.getD_some, subn_self, hf, cond_true]
        cases (List.range' 0 15).any fun i => decide (pv b k i < pv b k (i + 1)) <;> rfl⟩) (fun a _ Q kn kx => by simp [impl_SnakesOf_s5])
    refine ⟨snk b, ?_, ?_, h1.2, fun _ => rfl⟩
    · simp only [spec_SnakesOf_l5, h1.1, Option.isSome_some, Option.getD_some, cond_true, Bool.not_true, cond_false]
      rfl
    · have h3 : impl_SnakesOf_l5 (G + 1001) b 0 0 [] = some ((snk b).length, snk b) := h2.1
      simp only [h3, Option.isSome_some, Option.getD_some, cond_true, Bool.not_true, cond_false]
end Go.Lv.P
