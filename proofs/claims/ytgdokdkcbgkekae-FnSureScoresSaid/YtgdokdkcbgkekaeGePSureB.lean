/-
Sure scores.
-/
import Derived.Test.YtgdokdkcbgkekaeGePFull
import Derived.Test.YtgdokdkcbgkekaeGePMovesB
import Derived.Test.YtgdokdkcbgkekaeGePPut
import Derived.Test.YtgdokdkcbgkekaeGePLastB
namespace Go.Lv.P
open Go Go.Lv
set_option linter.unusedVariables false
set_option linter.unusedSimpArgs false
set_option linter.unusedSectionVars false

/-- one placement more: the least value, and the first placement that has it -/
def lstep (V : List Int → Int) (nx : List Int) (i : Nat) (s : Int × List Int) : Int × List Int :=
  bif decide (V (putP nx (rget (plm nx) i)) < s.1) then (V (putP nx (rget (plm nx) i)), rget (plm nx) i) else s
def leastM (V : List Int → Int) (nx : List Int) : Int × List Int := fld (lstep V nx) 1 ((plm nx).length - 1) (V (putP nx (rget (plm nx) 0)), rget (plm nx) 0)
def Vrng (V : List Int → Int) : Prop := ∀ b : List Int, b.length = 16 → okB b = true → 0 ≤ V b ∧ V b ≤ 100000000

theorem fld_congr {A : Type} (f g : Nat → A → A) (P : Nat → A → Prop) : ∀ (m i : Nat) (a : A), (∀ j a, i ≤ j → j < i + m → P j a → f j a = g j a ∧ P (j + 1) (g j a)) → P i a → fld f i m a = fld g i m a
  | 0, _, _, _, _ => rfl
  | m + 1, i, a, h, h0 => by
    obtain ⟨e, h1⟩ := h i a (Nat.le_refl _) (by omega) h0
    simp only [fld, e]
    exact fld_congr f g P m (i + 1) _ (fun j a hj hj' => h j a (by omega) (by omega)) h1
theorem fld_inv {A : Type} (f : Nat → A → A) (P : A → Prop) : ∀ (m i : Nat) (a : A), (∀ j a, i ≤ j → j < i + m → P a → P (f j a)) → P a → P (fld f i m a)
  | 0, _, _, _, h => h
  | m + 1, i, a, h, h0 => fld_inv f P m (i + 1) _ (fun j a hj hj' => h j a (by omega) (by omega)) (h i a (Nat.le_refl _) (by omega) h0)

section
variable {nx : List Int} (hb : nx.length = 16) (ok : okB nx = true) {V : List Int → Int} (hV : Vrng V) (hp : 0 < (plm nx).length)
include hb ok hV hp
theorem least_rng : 0 ≤ (leastM V nx).1 ∧ (leastM V nx).1 ≤ 100000000 ∧ (leastM V nx).2 ∈ plm nx := by
  have hv : ∀ i, i < (plm nx).length → 0 ≤ V (putP nx (rget (plm nx) i)) ∧ V (putP nx (rget (plm nx) i)) ≤ 100000000 := fun i hi =>
    have ⟨_, h1, h2⟩ := put_all hb ok (rget_mem hi)
    hV _ h1 h2
  refine fld_inv (lstep V nx) (fun s => 0 ≤ s.1 ∧ s.1 ≤ 100000000 ∧ s.2 ∈ plm nx) _ _ _ (fun j s h1 h2 h3 => ?_) ⟨(hv 0 hp).1, (hv 0 hp).2, rget_mem hp⟩
  unfold lstep
  cases decide (V (putP nx (rget (plm nx) j)) < s.1) with
  | false => exact h3
  | true => exact ⟨(hv j (by omega)).1, (hv j (by omega)).2, rget_mem (by omega)⟩

/-- as the program goes -/
theorem least_impl : fld (fun i s => bif decide (s.1 < 0) then (V (putP nx (rget (plm nx) i)), rget (plm nx) i) else lstep V nx i s) 0 (plm nx).length (-1, [0, 0, 0]) = leastM V nx := by
  have hv : ∀ i, i < (plm nx).length → 0 ≤ V (putP nx (rget (plm nx) i)) := fun i hi =>
    have ⟨_, h1, h2⟩ := put_all hb ok (rget_mem hi)
    (hV _ h1 h2).1
  obtain ⟨m, hm⟩ : ∃ m, (plm nx).length = m + 1 := ⟨(plm nx).length - 1, by omega⟩
  rw [leastM, hm]
  simp only [fld, Nat.add_sub_cancel]
  refine fld_congr _ _ (fun _ (s : Int × List Int) => 0 ≤ s.1) _ _ _ (fun j s h1 h2 h3 => ?_) (hv 0 hp)
  have hn : decide (s.1 < 0) = false := decide_eq_false (by omega)
  refine ⟨by simp only [hn, cond_false], ?_⟩
  unfold lstep
  cases decide (V (putP nx (rget (plm nx) j)) < s.1) with
  | false => exact h3
  | true => exact hv j (by omega)
/-- as the reference goes -/
theorem least_spec : fld (fun i s => bif ((i : Int) == 0) then (V (putP nx (rget (plm nx) i)), rget (plm nx) i) else lstep V nx i s) 0 (plm nx).length (0, rget (plm nx) 0) = leastM V nx := by
  obtain ⟨m, hm⟩ : ∃ m, (plm nx).length = m + 1 := ⟨(plm nx).length - 1, by omega⟩
  rw [leastM, hm]
  simp only [fld, Nat.add_sub_cancel]
  refine fld_congr _ _ (fun _ _ => True) _ _ _ (fun j s h1 h2 h3 => ⟨?_, trivial⟩) trivial
  have : (((j : Nat) : Int) == 0) = false := by
    rw [beq_eq_false_iff_ne]; omega
  simp only [this, cond_false]
end

theorem least_zero (nx : List Int) : leastM (fun _ => 0) nx = (0, rget (plm nx) 0) := by
  rw [leastM]
  have : ∀ (m i : Nat), fld (lstep (fun _ => 0) nx) i m (0, rget (plm nx) 0) = (0, rget (plm nx) 0) := by
    intro m
    induction m with
    | zero => intro i; rfl
    | succ m ih => intro i; exact ih (i + 1)
  exact this _ _

/-- the sure score of a move -/
def valM (V : List Int → Int) (b : List Int) (d : Nat) : Int := (slideB b d).2 + (leastM V (slideB b d).1).1
/-- one direction more: the best score, and the first direction that has it -/
def bstep (V : List Int → Int) (b : List Int) (d : Nat) (s : Int × Int) : Int × Int :=
  bif (slideB b d).1 == b then s else bif decide (s.2 < 0) then (valM V b d, (d : Int)) else bif decide (s.1 < valM V b d) then (valM V b d, (d : Int)) else s
def bestM (V : List Int → Int) (b : List Int) : Int × Int := fld (bstep V b) 0 4 (0, -1)
def sureN : Nat → List Int → Int
  | 0 => fun _ => 0
  | n + 1 => fun b => (bestM (sureN n) b).1

theorem plm_pos {b : List Int} (hb : b.length = 16) (ok : okB b = true) {d : Nat} (hd : d < 4) (h : ((slideB b d).1 == b) = false) : 0 < (plm (slideB b d).1).length := by
  have := slide_room hb ok hd h
  rw [plm_len]; omega
theorem val_rng {b : List Int} (hb : b.length = 16) (ok : okB b = true) {V : List Int → Int} (hV : Vrng V) {d : Nat} (hd : d < 4) (h : ((slideB b d).1 == b) = false) : 0 ≤ valM V b d ∧ valM V b d ≤ 102097152 := by
  obtain ⟨l, o⟩ := slide_ok hb ok hd
  obtain ⟨g1, g2, _⟩ := least_rng l o hV (plm_pos hb ok hd h)
  obtain ⟨g3, g4⟩ := slide_score hb ok hd
  simp only [valM]; omega

theorem fld_skip {A : Type} (c : Nat → Bool) (g : Nat → A → A) (s : A) : fld (fun d s => bif c d then s else g d s) 0 4 s = ((List.range 4).filter fun d => !c d).foldl (fun s d => g d s) s := by
  have e : List.range 4 = [0, 1, 2, 3] := rfl
  rw [e]
  simp only [fld, List.filter]
  cases c 0 <;> cases c (0 + 1) <;> cases c (0 + 1 + 1) <;> cases c (0 + 1 + 1 + 1) <;> rfl
theorem fld_iget {A : Type} (l : List Int) (g : Int → A → A) (s : A) : fld (fun i s => g (iget l i) s) 0 l.length s = l.foldl (fun s x => g x s) s := by
  have : ∀ (m i : Nat) (s : A), i + m = l.length → fld (fun i s => g (iget l i) s) i m s = (l.drop i).foldl (fun s x => g x s) s := by
    intro m
    induction m with
    | zero => intro i s h; rw [List.drop_eq_nil_of_le (by omega)]; rfl
    | succ m ih =>
      intro i s h
      have hi : i < l.length := by omega
      have hg : iget l i = l[i] := by rw [igetL, List.getElem?_eq_getElem hi]; rfl
      simp only [fld]
      rw [ih (i + 1) _ (by omega), List.drop_eq_getElem_cons hi, List.foldl_cons, hg]
  simpa using this l.length 0 s (by omega)
theorem fnd_find (l : List Int) (q : Int → Bool) : fnd (fun i => q (iget l i)) (fun i => (true, iget l i)) (false, default) 0 l.length = match l.find? q with
    | some x => (true, x)
    | none => (false, default) := by
  have : ∀ (m i : Nat), i + m = l.length → fnd (fun i => q (iget l i)) (fun i => (true, iget l i)) (false, default) i m = match (l.drop i).find? q with
    | some x => (true, x)
    | none => (false, default) := by
    intro m
    induction m with
    | zero => intro i h; rw [List.drop_eq_nil_of_le (by omega)]; rfl
    | succ m ih =>
      intro i h
      have hi : i < l.length := by omega
      have hg : iget l i = l[i] := by rw [igetL, List.getElem?_eq_getElem hi]; rfl
      simp only [fnd]
      rw [List.drop_eq_getElem_cons hi, List.find?_cons, hg, ih (i + 1) (by omega)]
      cases q l[i] <;> rfl
  simpa using this l.length 0 (by omega)

def bst (v : Nat → Int) (d : Nat) (s : Int × Int) : Int × Int := bif decide (s.2 < 0) then (v d, (d : Int)) else bif decide (s.1 < v d) then (v d, (d : Int)) else s
def mst (v : Nat → Int) (d : Nat) (m : Int) : Int := if v d > m then v d else m
/-- what holds of the directions that have been looked at -/
def BInv (v : Nat → Int) (pre : List Nat) (s : Int × Int) (m : Int) : Prop :=
  m = s.1 ∧ 0 ≤ m ∧ (s.2 < 0 → pre = [] ∧ s.1 = 0) ∧ (0 ≤ s.2 → pre.find? (fun d => v d == s.1) = some s.2.toNat ∧ ∀ d ∈ pre, v d ≤ s.1)
theorem binv_step {v : Nat → Int} {pre : List Nat} {s : Int × Int} {m : Int} {d : Nat} (h : BInv v pre s m) (hd : 0 ≤ v d) : BInv v (pre ++ [d]) (bst v d s) (mst v d m) := by
  obtain ⟨h1, h2, h3, h4⟩ := h
  unfold bst mst
  rcases Int.lt_or_le s.2 0 with hs | hs
  · obtain ⟨rfl, e⟩ := h3 hs
    rw [decide_eq_true hs]
    refine ⟨?_, ?_, fun hn => ?_, fun _ => ⟨?_, ?_⟩⟩
    · simp only [cond_true]; split <;> omega
    · split <;> omega
    · simp only [cond_true] at hn; omega
    · simp
    · simp
  · obtain ⟨e1, e2⟩ := h4 hs
    rw [decide_eq_false (by omega : ¬ s.2 < 0)]
    simp only [cond_false]
    rcases Int.lt_or_le s.1 (v d) with hv | hv
    · rw [decide_eq_true hv]
      refine ⟨?_, ?_, fun hn => ?_, fun _ => ⟨?_, ?_⟩⟩
      · simp only [cond_true]; split <;> omega
      · split <;> omega
      · simp only [cond_true] at hn; omega
      · simp only [cond_true]
        rw [List.find?_append]
        have : pre.find? (fun x => v x == v d) = none := by
          rw [List.find?_eq_none]
          intro x hx
          have := e2 x hx
          simp; omega
        rw [this]; simp
      · simp only [cond_true]
        intro x hx
        rcases List.mem_append.1 hx with hx | hx
        · have := e2 x hx; omega
        · simp at hx; subst hx; omega
    · rw [decide_eq_false (by omega : ¬ s.1 < v d)]
      simp only [cond_false]
      refine ⟨?_, ?_, fun hn => by omega, fun _ => ⟨?_, ?_⟩⟩
      · split <;> omega
      · split <;> omega
      · rw [List.find?_append, e1]; rfl
      · intro x hx
        rcases List.mem_append.1 hx with hx | hx
        · exact e2 x hx
        · simp at hx; subst hx; omega
theorem binv_fold (v : Nat → Int) : ∀ (ds pre : List Nat) (s : Int × Int) (m : Int), BInv v pre s m → (∀ d ∈ ds, 0 ≤ v d) → BInv v (pre ++ ds) (ds.foldl (fun s d => bst v d s) s) (ds.foldl (fun m d => mst v d m) m)
  | [], pre, s, m, h, _ => by simpa using h
  | d :: ds, pre, s, m, h, hd => by
    have := binv_fold v ds (pre ++ [d]) _ _ (binv_step h (hd d List.mem_cons_self)) fun x hx => hd x (List.mem_cons_of_mem _ hx)
    simpa using this

/-- the sure score as the program tells it: the most of the moves'; and the first move that has it -/
theorem best_moves {b : List Int} (v : Nat → Int) (hv : ∀ d, d < 4 → ((slideB b d).1 == b) = false → 0 ≤ v d) {s : Int × Int} (hs : fld (fun d (s : Int × Int) => bif (slideB b d).1 == b then s else bst v d s) 0 4 (0, -1) = s) :
    fld (fun i (s : Int) => if v (iget (movesB b) i).toNat > s then v (iget (movesB b) i).toNat else s) 0 (movesB b).length 0 = s.1 ∧
    fnd (fun i => v (iget (movesB b) i).toNat == s.1) (fun i => (true, iget (movesB b) i)) (false, default) 0 (movesB b).length = (bif decide (0 ≤ s.2) then (true, s.2) else (false, default)) := by
  rw [fld_skip] at hs
  have hI := binv_fold v ((List.range 4).filter fun d => !((slideB b d).1 == b)) [] (0, -1) 0 ⟨rfl, by simp, fun _ => ⟨rfl, rfl⟩, fun h => by simp at h⟩ (fun d hd => by
    simp only [List.mem_filter, List.mem_range] at hd
    exact hv d hd.1 (by simpa using hd.2))
  rw [hs, List.nil_append] at hI
  obtain ⟨h1, h2, h3, h4⟩ := hI
  rw [fld_iget (movesB b) (fun x (s : Int) => if v x.toNat > s then v x.toNat else s), fnd_find (movesB b) (fun x => v x.toNat == s.1), movesB_eq, List.foldl_map, List.find?_map]
  refine ⟨?_, ?_⟩
  · rw [← h1]
    simp only [Int.toNat_natCast, mst]
  · have e : ((fun x : Int => v x.toNat == s.1) ∘ fun d : Nat => (d : Int)) = fun d => v d == s.1 := by
      funext d; simp
    rw [e]
    rcases Int.lt_or_le s.2 0 with hs2 | hs2
    · obtain ⟨e1, e2⟩ := h3 hs2
      rw [e1, decide_eq_false (by omega)]; rfl
    · rw [(h4 hs2).1, decide_eq_true hs2]
      have : ((s.2.toNat : Nat) : Int) = s.2 := by omega
      simp only [Option.map_some, cond_true, this]
theorem bestM_eq (V : List Int → Int) (b : List Int) : bestM V b = fld (fun d (s : Int × Int) => bif (slideB b d).1 == b then s else bst (valM V b) d s) 0 4 (0, -1) := rfl
theorem best_rng {b : List Int} (hb : b.length = 16) (ok : okB b = true) {V : List Int → Int} (hV : Vrng V) : 0 ≤ (bestM V b).1 ∧ (bestM V b).1 ≤ 102097152 := by
  refine fld_inv (bstep V b) (fun s => 0 ≤ s.1 ∧ s.1 ≤ 102097152) 4 0 (0, -1) (fun d s _ hd h => ?_) ⟨by simp, by simp⟩
  unfold bstep
  cases hq : (slideB b d).1 == b with
  | true => exact h
  | false =>
    have := val_rng hb ok hV (by omega) hq
    simp only [cond_false]
    cases decide (s.2 < 0) with
    | true => exact this
    | false =>
      simp only [cond_false]
      cases decide (s.1 < valM V b d) with
      | true => exact this
      | false => exact h
theorem sure_rng : ∀ n, n ≤ 1 → Vrng (sureN n)
  | 0, _ => fun _ _ _ => by simp [sureN]
  | 1, _ => fun b hb ok => by
    have h0 : ∀ s : Int × Int, s.1 ≤ 2097152 → 0 ≤ s.1 → ∀ d, d < 4 → 0 ≤ (bstep (fun _ => 0) b d s).1 ∧ (bstep (fun _ => 0) b d s).1 ≤ 2097152 := fun s h1 h2 d hd => by
      unfold bstep
      cases hq : (slideB b d).1 == b with
      | true => exact ⟨h2, h1⟩
      | false =>
        have hs := slide_score hb ok hd
        have hv : valM (fun _ => 0) b d = (slideB b d).2 := by rw [valM, least_zero]; simp
        simp only [cond_false, hv]
        cases decide (s.2 < 0) with
        | true => exact hs
        | false =>
          simp only [cond_false]
          cases decide (s.1 < (slideB b d).2) with
          | true => exact hs
          | false => exact ⟨h2, h1⟩
    have := fld_inv (bstep (fun _ => 0) b) (fun s => 0 ≤ s.1 ∧ s.1 ≤ 2097152) 4 0 (0, -1) (fun d s _ hd h => h0 s h.2 h.1 d (by omega)) ⟨by simp, by simp⟩
    show 0 ≤ (bestM (fun _ => 0) b).1 ∧ (bestM (fun _ => 0) b).1 ≤ 100000000
    unfold bestM
    omega
end Go.Lv.P
