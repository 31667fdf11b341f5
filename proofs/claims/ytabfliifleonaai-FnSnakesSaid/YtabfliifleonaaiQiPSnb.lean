/-
The board of a snake: what both say.
-/
import Derived.Test.YtabfliifleonaaiQiP0
import Derived.Test.YtabfliifleonaaiQiP1
import Derived.Test.YtabfliifleonaaiQiP2
import Derived.Test.YtabfliifleonaaiQiPFlat
import Derived.Test.YtabfliifleonaaiQiPBoard
namespace Go.Lv.P
open Go Go.Lv
set_option linter.unusedVariables false
set_option linter.unusedSimpArgs false
set_option linter.unusedSectionVars false

/-- the eight ways of the snake -/
def wayS : Nat → List Nat
  | 0 => [0, 1, 2, 3, 7, 6, 5, 4, 8, 9, 10, 11, 15, 14, 13, 12]
  | 1 => [3, 7, 11, 15, 14, 10, 6, 2, 1, 5, 9, 13, 12, 8, 4, 0]
  | 2 => [15, 14, 13, 12, 8, 9, 10, 11, 7, 6, 5, 4, 0, 1, 2, 3]
  | 3 => [12, 8, 4, 0, 1, 5, 9, 13, 14, 10, 6, 2, 3, 7, 11, 15]
  | 4 => [3, 2, 1, 0, 4, 5, 6, 7, 11, 10, 9, 8, 12, 13, 14, 15]
  | 5 => [0, 4, 8, 12, 13, 9, 5, 1, 2, 6, 10, 14, 15, 11, 7, 3]
  | 6 => [12, 13, 14, 15, 11, 10, 9, 8, 4, 5, 6, 7, 3, 2, 1, 0]
  | _ => [15, 11, 7, 3, 2, 6, 10, 14, 13, 9, 5, 1, 0, 4, 8, 12]
def wayC (k : Nat) : List Int := (wayS k).flatMap fun i => [((i / 4 : Nat) : Int), ((i % 4 : Nat) : Int)]
def wayP (k i : Nat) : Nat := (wayS k)[i]?.getD 0
theorem k8' {k : Nat} (h : k < 8) : k = 0 ∨ k = 1 ∨ k = 2 ∨ k = 3 ∨ k = 4 ∨ k = 5 ∨ k = 6 ∨ k = 7 := by omega
theorem i16' {i : Nat} (h : i < 16) : i = 0 ∨ i = 1 ∨ i = 2 ∨ i = 3 ∨ i = 4 ∨ i = 5 ∨ i = 6 ∨ i = 7 ∨ i = 8 ∨ i = 9 ∨ i = 10 ∨ i = 11 ∨ i = 12 ∨ i = 13 ∨ i = 14 ∨ i = 15 := by omega
theorem way_spec (G : Nat) : ∀ k : Nat, k < 8 → spec_l7Snake_p (G + 1001) k = some (wayC k) := by
  intro k hk
  obtain rfl | rfl | rfl | rfl | rfl | rfl | rfl | rfl := k8' hk
  all_goals kernel_rfl
theorem way_impl (G : Nat) : ∀ k : Nat, k < 8 → impl_snake_p (G + 1001) k = some (wayC k) := by
  intro k hk
  obtain rfl | rfl | rfl | rfl | rfl | rfl | rfl | rfl := k8' hk
  all_goals kernel_rfl
theorem way_put (b : List Int) (x : Int) : ∀ k : Nat, k < 8 → ∀ i : Nat, i < 16 → spec_l2Put_p b (subn 32 (wayC k) (0 + i * 2) 2) x = some (iset b (wayP k i) x) := by
  intro k hk i hi
  obtain rfl | rfl | rfl | rfl | rfl | rfl | rfl | rfl := k8' hk
  all_goals
    obtain rfl | rfl | rfl | rfl | rfl | rfl | rfl | rfl | rfl | rfl | rfl | rfl | rfl | rfl | rfl | rfl := i16' hi
    all_goals kernel_rfl
theorem way_at (b : List Int) : ∀ k : Nat, k < 8 → ∀ i : Nat, i < 16 → impl_Board_at_p (subn 32 (wayC k) (i * 2) 2) b = some (wayP k i) := by
  intro k hk i hi
  obtain rfl | rfl | rfl | rfl | rfl | rfl | rfl | rfl := k8' hk
  all_goals
    obtain rfl | rfl | rfl | rfl | rfl | rfl | rfl | rfl | rfl | rfl | rfl | rfl | rfl | rfl | rfl | rfl := i16' hi
    all_goals kernel_rfl
theorem way_all : ∀ k : Fin 8, ∀ i : Fin 16, wayP k.val i.val < 16 ∧ ∀ j : Fin 16, wayP k.val i.val = wayP k.val j.val → i = j := by decide
theorem way_lt {k i : Nat} (hk : k < 8) (hi : i < 16) : wayP k i < 16 := (way_all ⟨k, hk⟩ ⟨i, hi⟩).1
theorem way_inj {k i j : Nat} (hk : k < 8) (hi : i < 16) (hj : j < 16) (h : wayP k i = wayP k j) : i = j := congrArg Fin.val ((way_all ⟨k, hk⟩ ⟨i, hi⟩).2 ⟨j, hj⟩ h)

/-- numbers put one by one along a way -/
def fillP (k : Nat) : List Int → Nat → List Int → List Int
  | out, _, [] => out
  | out, n, x :: l => fillP k (iset out (wayP k n) x) (n + 1) l
theorem fill_app (k : Nat) : ∀ (l l' out : List Int) (n : Nat), fillP k out n (l ++ l') = fillP k (fillP k out n l) (n + l.length) l'
  | [], l', out, n => rfl
  | x :: l, l', out, n => by
    rw [List.cons_append, fillP, fillP, fill_app k l, List.length_cons, show n + 1 + l.length = n + (l.length + 1) by omega]
theorem fill_len (k : Nat) : ∀ (l out : List Int) (n : Nat), (fillP k out n l).length = out.length
  | [], out, n => rfl
  | x :: l, out, n => by rw [fillP, fill_len k l, isetL, List.length_set]
theorem fill_far {k : Nat} (hk : k < 8) : ∀ (l out : List Int) (n : Nat), n + l.length ≤ 16 → ∀ j, n + l.length ≤ j → j < 16 → iget (fillP k out n l) (wayP k j) = iget out (wayP k j)
  | [], out, n, h, j, h1, h2 => rfl
  | x :: l, out, n, h, j, h1, h2 => by
    rw [List.length_cons] at h h1
    rw [fillP, fill_far hk l _ (n + 1) (by omega) j (by omega) h2]
    have hne : wayP k n ≠ wayP k j := fun e => by have := way_inj hk (by omega) h2 e; omega
    rw [igetL, igetL, isetL, List.getElem?_set_ne hne]
theorem fill_zero {k : Nat} (hk : k < 8) : ∀ (m n : Nat) (out : List Int), out.length = 16 → n + m ≤ 16 → (∀ j, n ≤ j → j < 16 → iget out (wayP k j) = 0) → fillP k out n (List.replicate m 0) = out
  | 0, n, out, _, _, _ => rfl
  | m + 1, n, out, hl, h, hz => by
    have e : iset out (wayP k n) 0 = out := by
      have h1 := hz n (Nat.le_refl _) (by omega)
      have h2 := way_lt hk (i := n) (by omega)
      rw [isetL]
      apply List.ext_getElem (by simp)
      intro i i1 i2
      rw [List.getElem_set]
      split
      · rename_i e
        subst e
        rw [igetL, List.getElem?_eq_getElem i2] at h1
        exact h1.symm
      · rfl
    rw [List.replicate_succ, fillP, e]
    exact fill_zero hk m (n + 1) out hl (by omega) fun j h1 h2 => hz j (by omega) h2

/-- the tiles of a board, the highest first -/
def dnL (b : List Int) : Nat → List Int
  | 0 => []
  | m + 1 => List.replicate (b.count ((m + 1 : Nat) : Int)) ((m + 1 : Nat) : Int) ++ dnL b m
theorem dn_mem (b : List Int) : ∀ (m : Nat) (x : Int), x ∈ dnL b m → 1 ≤ x ∧ x ≤ m
  | 0, x, h => (by cases h)
  | m + 1, x, h => by
    rw [dnL, List.mem_append] at h
    rcases h with h | h
    · have := List.eq_of_mem_replicate h; omega
    · have := dn_mem b m x h; omega
theorem dn_count (b : List Int) : ∀ (m : Nat) (x : Int), (dnL b m).count x = if 1 ≤ x ∧ x ≤ m then b.count x else 0
  | 0, x => by rw [if_neg (by omega)]; rfl
  | m + 1, x => by
    rw [dnL, List.count_append, List.count_replicate, dn_count b m]
    by_cases h : x = ((m + 1 : Nat) : Int)
    · subst h
      rw [if_pos (beq_self_eq_true _), if_neg (by omega), if_pos (by omega)]; rfl
    · have h1 : ¬((((m + 1 : Nat) : Int) == x) = true) := by rw [beq_iff_eq]; exact Ne.symm h
      rw [if_neg h1]
      by_cases h2 : 1 ≤ x ∧ x ≤ (m : Int)
      · rw [if_pos h2, if_pos (by omega)]; omega
      · rw [if_neg h2, if_neg (by omega)]
theorem dn_sorted (b : List Int) : ∀ m, (dnL b m).Pairwise fun x y => y ≤ x
  | 0 => List.Pairwise.nil
  | m + 1 => by
    rw [dnL, List.pairwise_append]
    refine ⟨?_, dn_sorted b m, fun x hx y hy => ?_⟩
    · rw [List.pairwise_replicate]; right; exact Int.le_refl _
    · have := List.eq_of_mem_replicate hx
      have := dn_mem b m y hy
      omega
theorem all_count {b : List Int} (h : ∀ x ∈ b, inB x 0 17 = true) {x : Int} (hx : ¬(0 ≤ x ∧ x ≤ 17)) : b.count x = 0 := by
  apply List.count_eq_zero_of_not_mem
  intro hm
  have := h x hm
  simp [inB] at this
  omega
theorem sort_rev {b : List Int} (h : ∀ x ∈ b, inB x 0 17 = true) : (sortI b).reverse = dnL b 17 ++ List.replicate (b.count 0) 0 := by
  have s1 : (sortI b).reverse.Pairwise fun x y => y ≤ x := by
    rw [List.pairwise_reverse]
    have := List.pairwise_mergeSort (le := fun x y : Int => decide (x ≤ y)) (fun a b c h1 h2 => decide_eq_true (by have := of_decide_eq_true h1; have := of_decide_eq_true h2; omega)) (fun a b => by
      by_cases h : a ≤ b
      · simp [h]
      · have : b ≤ a := by omega
        simp [this]) b
    exact this.imp fun h => of_decide_eq_true h
  have s2 : (dnL b 17 ++ List.replicate (b.count 0) 0).Pairwise fun x y => y ≤ x := by
    rw [List.pairwise_append]
    refine ⟨dn_sorted b 17, ?_, fun x hx y hy => ?_⟩
    · rw [List.pairwise_replicate]; right; exact Int.le_refl _
    · have := List.eq_of_mem_replicate hy
      have := dn_mem b 17 x hx
      omega
  refine List.Perm.eq_of_pairwise (le := fun x y : Int => y ≤ x) (fun a b _ _ h1 h2 => by omega) s1 s2 ?_
  refine (List.reverse_perm _).trans ((List.mergeSort_perm b _).trans ?_)
  rw [List.perm_iff_count]
  intro x
  rw [List.count_append, List.count_replicate, dn_count]
  by_cases h0 : x = 0
  · subst h0
    rw [if_neg (by omega), if_pos (beq_self_eq_true _)]; omega
  · rw [if_neg (show ¬(((0 : Int) == x) = true) by rw [beq_iff_eq]; exact Ne.symm h0)]
    by_cases h1 : 1 ≤ x ∧ x ≤ ((17 : Nat) : Int)
    · rw [if_pos h1]; rfl
    · rw [if_neg h1, all_count h (by omega)]

abbrev zero18' : List Int := [0, 0, 0, 0, 0, 0, 0, 0, 0, 0, 0, 0, 0, 0, 0, 0, 0, 0]
abbrev zero16' : List Int := [0, 0, 0, 0, 0, 0, 0, 0, 0, 0, 0, 0, 0, 0, 0, 0]
/-- one more of a tile -/
def bumpC (out : List Int) (x : Int) : List Int := iset out (0 + x.toNat * 1) (IntKind.wrap .i64 (iget out (0 + x.toNat * 1) + 1))
theorem bumpC_get : ∀ (l out : List Int), out.length = 18 → (∀ x ∈ l, inB x 0 17 = true) → ∀ v : Nat, v < 18 → 0 ≤ iget out v → iget out v + l.length ≤ 1000 → iget (l.foldl bumpC out) v = iget out v + ((l.count (v : Int) : Nat) : Int)
  | [], out, ho, hl, v, hv, h0, h1 => by simp
  | x :: l, out, ho, hl, v, hv, h0, h1 => by
    have hx := hl x List.mem_cons_self
    simp [inB] at hx
    obtain ⟨n, rfl⟩ := Int.eq_ofNat_of_zero_le hx.1
    have hbl : (bumpC out (n : Int)).length = 18 := by rw [bumpC, isetL, List.length_set, ho]
    rw [List.length_cons] at h1
    have hg : iget (bumpC out (n : Int)) v = iget out v + if n = v then 1 else 0 := by
      rw [bumpC, Int.toNat_natCast, Nat.mul_one, Nat.zero_add, isetL]
      by_cases e : n = v
      · subst e
        rw [igetL, List.getElem?_set_self (by omega), if_pos rfl]
        show IntKind.wrap .i64 (iget out n + 1) = _
        rw [wrap_of (by omega) (by omega)]
      · rw [igetL, List.getElem?_set_ne e, if_neg e, ← igetL]; omega
    rw [List.foldl_cons, bumpC_get l _ hbl (fun y hy => hl y (List.mem_cons_of_mem _ hy)) v hv (by rw [hg]; split <;> omega) (by rw [hg]; split <;> omega), hg, List.count_cons]
    by_cases e : n = v
    · subst e
      rw [if_pos rfl, if_pos (beq_self_eq_true _)]; omega
    · have : ¬((((n : Nat) : Int) == ((v : Nat) : Int)) = true) := by rw [beq_iff_eq]; omega
      rw [if_neg e, if_neg this]; omega
theorem inR18' {x : Int} (h : inB x 0 17 = true) : inR x 18 = true := by
  simp [inB] at h
  exact inR_true h.1 (by omega)
theorem okB_get {b : List Int} (hb : b.length = 16) (ok : okB b = true) {i : Nat} (hi : i < 16) : inB (iget b i) 0 17 = true := by
  rw [igetL, List.getElem?_eq_getElem (by omega : i < b.length)]
  exact List.all_eq_true.1 ok _ (List.getElem_mem _)
theorem count_spec (F : Nat) (b : List Int) (hb : b.length = 16) (hF : 1000 < F) : spec_CountTiles_p F b = some (bif okB b then (b.foldl bumpC zero18', true) else (zero18', false)) := by
  simp only [spec_CountTiles_p, spec_CountTiles_c, spec_l2Board_eq F b hb hF, Option.isSome_some, Option.getD_some, cond_true]
  cases hB : okB b with
  | false => rfl
  | true =>
    have h := loop_fold (step := spec_CountTiles_s5 F b) (fun i a => (i, a)) 4 (fun i a => bumpC (bumpC (bumpC (bumpC a (iget b (0 + i * 4))) (iget b (0 + i * 4 + 1))) (iget b (0 + i * 4 + 2))) (iget b (0 + i * 4 + 3))) (fun a => a) (fun _ _ => True) (F := F) (by omega) (by omega) (a := zero18') trivial
      (fun i a hi _ => ⟨trivial, fun Q kn kx => by
        have hi' : (i : Int) < 4 := by omega
        simp only [spec_CountTiles_s5, Int.toNat_natCast, hi', inR_cast, hi, decide_true, cond_true, inR18' (okB_get hb hB (i := 0 + i * 4) (by omega)), inR18' (okB_get hb hB (i := 0 + i * 4 + 1) (by omega)), inR18' (okB_get hb hB (i := 0 + i * 4 + 2) (by omega)), inR18' (okB_get hb hB (i := 0 + i * 4 + 3) (by omega)), bumpC]⟩) (fun a _ Q kn kx => by simp [spec_CountTiles_s5])
    have e : spec_CountTiles_l5 F b 0 zero18' = some (b.foldl bumpC zero18') := by
      refine h.1.trans ?_
      clear h hB
      obtain ⟨x0, x1, x2, x3, x4, x5, x6, x7, x8, x9, x10, x11, x12, x13, x14, x15, rfl⟩ := list16 hb
      kernel_rfl
    simp only [e, Bool.not_true, cond_false, Option.isSome_some, Option.getD_some, cond_true]

theorem fld_rep (k : Nat) (x : Int) : ∀ (m i n : Nat) (out : List Int), fld (fun _ (s : Nat × List Int) => (s.1 + 1, iset s.2 (wayP k s.1) x)) i m (n, out) = (n + m, fillP k out n (List.replicate m x))
  | 0, i, n, out => rfl
  | m + 1, i, n, out => by
    rw [fld, fld_rep k x m, List.replicate_succ, fillP]
    simp only [Prod.mk.injEq, and_true]
    omega
theorem fld_way (k : Nat) (h : Nat → Int) : ∀ (m i : Nat) (out : List Int), fld (fun t (o : List Int) => iset o (wayP k t) (h t)) i m out = fillP k out i ((List.range' i m).map h)
  | 0, i, out => rfl
  | m + 1, i, out => by rw [fld, fld_way k h m, List.range'_succ, List.map_cons, fillP]
theorem gt_len (b : List Int) (t : Nat) : (b.filter fun x => decide ((t : Int) ≤ x)).length = (b.filter fun x => decide (((t + 1 : Nat) : Int) ≤ x)).length + b.count (t : Int) := by
  induction b with
  | nil => rfl
  | cons a l ih =>
    rw [List.filter_cons, List.filter_cons, List.count_cons]
    by_cases h1 : a = (t : Int)
    · subst h1
      rw [if_pos (decide_eq_true (by omega)), if_neg (by simp; omega), if_pos (beq_self_eq_true _), List.length_cons]; omega
    · have h3 : ¬((a == (t : Int)) = true) := by rw [beq_iff_eq]; exact h1
      rw [if_neg h3]
      by_cases h2 : (t : Int) ≤ a
      · rw [if_pos (decide_eq_true h2), if_pos (decide_eq_true (by omega)), List.length_cons, List.length_cons]; omega
      · rw [if_neg (by simp; omega), if_neg (by simp; omega)]; omega
section
variable {b : List Int} (hb : b.length = 16) (ok : okB b = true)
include hb ok
theorem counts_get {t : Nat} (ht : t < 18) : iget (b.foldl bumpC zero18') (0 + t * 1) = ((b.count (t : Int) : Nat) : Int) := by
  have h0 : iget zero18' t = 0 := by
    have : ∀ t : Fin 18, iget zero18' t.val = 0 := by decide
    exact this ⟨t, ht⟩
  rw [Nat.zero_add, Nat.mul_one, bumpC_get b zero18' rfl (fun x hx => List.all_eq_true.1 ok x hx) t ht (by omega) (by omega), h0]; omega
theorem spec_in (F : Nat) (hF : 1000 < F) {k : Nat} (hk : k < 8) {t n : Nat} (ht : t < 18) (out : List Int) (hn : n + b.count (t : Int) ≤ 16) : spec_SnakeBoard_l9 F t (b.foldl bumpC zero18') (wayC k) n 0 out = some (((n + b.count (t : Int) : Nat) : Int), fillP k out n (List.replicate (b.count (t : Int)) (t : Int))) := by
  have hc := counts_get hb ok ht
  have h := loop_fold (step := spec_SnakeBoard_s9 F t (b.foldl bumpC zero18') (wayC k)) (fun i (s : Nat × List Int) => ((s.1 : Int), i, s.2)) (b.count (t : Int)) (fun _ s => (s.1 + 1, iset s.2 (wayP k s.1) (t : Int))) (fun s => ((s.1 : Int), s.2)) (fun i s => s.1 = n + i) (F := F) (by omega) (by omega) (a := (n, out)) (by simp)
    (fun i s hi hI => ⟨by show s.1 + 1 = n + (i + 1); have : s.1 = n + i := hI; omega, fun Q kn kx => by
      have hI : s.1 = n + i := hI
      have h16 : s.1 < 16 := by omega
      simp only [spec_SnakeBoard_s9, inR_cast, ht, Int.toNat_natCast, hc, Int.ofNat_lt, hi, h16, way_put _ _ k hk s.1 h16, decide_true, cond_true, Option.isSome_some, Option.getD_some, wrap_succ h16 (by omega)]⟩)
    (fun s _ Q kn kx => by
      have e : decide (((b.count (t : Int) : Nat) : Int) < ((b.count (t : Int) : Nat) : Int)) = false := by simp
      simp only [spec_SnakeBoard_s9, inR_cast, ht, Int.toNat_natCast, hc, decide_true, cond_true, e, cond_false])
  have h1 := h.1
  rw [fld_rep] at h1
  exact h1
def gtN (b : List Int) (t : Nat) : Nat := (b.filter fun x => decide ((t : Int) ≤ x)).length
theorem gtN_le (t : Nat) : gtN b t ≤ 16 := by rw [← hb]; exact List.length_filter_le _ _
theorem gtN_18 : gtN b 18 = 0 := by
  unfold gtN
  rw [List.length_eq_zero_iff, List.filter_eq_nil_iff]
  intro x hx
  have := List.all_eq_true.1 ok x hx
  simp [inB] at this
  simp
  omega
theorem spec_out (F : Nat) (hF : 1000 < F) {k : Nat} (hk : k < 8) : ∀ (t : Nat), t ≤ 17 → ∀ (G : Nat) (out : List Int), t < G →
    loopC (spec_SnakeBoard_s6 F (b.foldl bumpC zero18') (wayC k)) G (((gtN b (t + 1) : Nat) : Int), (t : Int), out) some = some (fillP k out (gtN b (t + 1)) (dnL b t))
  | 0, _, G, out, hG => by
    obtain ⟨G, rfl⟩ : ∃ G', G = G' + 1 := ⟨G - 1, by omega⟩
    rfl
  | t + 1, ht, G, out, hG => by
    obtain ⟨G, rfl⟩ : ∃ G', G = G' + 1 := ⟨G - 1, by omega⟩
    have e1 : gtN b (t + 1) = gtN b (t + 1 + 1) + b.count ((t + 1 : Nat) : Int) := gt_len b (t + 1)
    have hle := gtN_le hb ok (t + 1)
    have h := spec_in hb ok F hF hk (t := t + 1) (n := gtN b (t + 1 + 1)) (by omega) out (by omega)
    have hp : decide ((0 : Int) < ((t + 1 : Nat) : Int)) = true := decide_eq_true (by omega)
    have hw : IntKind.wrap .i64 (((t + 1 : Nat) : Int) - 1) = ((t : Nat) : Int) := by rw [wrap_of (by omega) (by omega)]; omega
    have ih := spec_out F hF hk t (by omega) G (fillP k out (gtN b (t + 1 + 1)) (List.replicate (b.count ((t + 1 : Nat) : Int)) ((t + 1 : Nat) : Int))) (by omega)
    rw [dnL, fill_app, List.length_replicate, ← e1, ← ih]
    rw [← e1] at h
    show spec_SnakeBoard_s6 F (b.foldl bumpC zero18') (wayC k) _ _ _ _ = _
    simp only [spec_SnakeBoard_s6, hp, cond_true, h, Option.isSome_some, Option.getD_some, hw]
theorem spec_snb (F : Nat) (hF : 1000 < F) {k : Nat} (hk : k < 8) : spec_SnakeBoard_p F b k = some (fillP k zero16' 0 (dnL b 17), true) := by
  have h := spec_out hb ok F hF hk 17 (by omega) F zero16' (by omega)
  have h18 : gtN b (17 + 1) = 0 := gtN_18 hb ok
  rw [h18] at h
  have h : spec_SnakeBoard_l6 F (b.foldl bumpC zero18') (wayC k) 0 17 zero16' = some (fillP k zero16' 0 (dnL b 17)) := h
  have hf : inB (k : Int) 0 7 = true := by simp [inB]; omega
  obtain ⟨G, rfl⟩ : ∃ G, F = G + 1001 := ⟨F - 1001, by omega⟩
  simp only [spec_SnakeBoard_p, spec_SnakeBoard_c, count_spec (G + 1001) b hb hF, ok, spec_l3Form_v, l1In_eq, hf, way_spec G k hk, h, Option.isSome_some, Option.getD_some, cond_true, cond_false, Bool.not_true]
theorem impl_snb (F : Nat) (hF : 1000 < F) {k : Nat} (hk : k < 8) : impl_SnakeBoard_p F b k = some (fillP k zero16' 0 (sortI b).reverse, true) := by
  have hl : (sortI b).length = 16 := by rw [sortI, List.length_mergeSort, hb]
  have hf : inB (k : Int) 0 7 = true := by simp [inB]; omega
  have h := loop_fold (step := impl_SnakeBoard_s7 F 16 (wayC k) (sortI b)) (fun i (o : List Int) => (i, o)) 16 (fun t o => iset o (wayP k t) (iget (sortI b) (15 - t))) (fun o => o) (fun _ _ => True) (F := F) (by omega) (by omega) (a := zero16') trivial
    (fun i o hi _ => ⟨trivial, fun Q kn kx => by
      have hi' : (i : Int) < 16 := by omega
      have hw : IntKind.wrap .i64 ((15 : Int) - (i : Int)) = ((15 - i : Nat) : Int) := by rw [wrap_of (by omega) (by omega)]; omega
      have h15 : 15 - i < 16 := by omega
      simp only [impl_SnakeBoard_s7, hi', inR_cast, hi, Int.toNat_natCast, way_at o k hk i hi, hw, h15, decide_true, cond_true, Option.isSome_some, Option.getD_some, Nat.zero_add]⟩)
    (fun o _ Q kn kx => by simp [impl_SnakeBoard_s7])
  have h1 := h.1
  rw [fld_way k (fun t => iget (sortI b) (15 - t))] at h1
  have e : ((List.range' 0 16).map fun t => iget (sortI b) (15 - t)) = (sortI b).reverse := by
    generalize sortI b = s at hl
    obtain ⟨x0, x1, x2, x3, x4, x5, x6, x7, x8, x9, x10, x11, x12, x13, x14, x15, rfl⟩ := list16 hl
    rfl
  rw [e] at h1
  have h1 : impl_SnakeBoard_l7 F 16 (wayC k) (sortI b) 0 zero16' = some (fillP k zero16' 0 (sortI b).reverse) := h1
  obtain ⟨G, rfl⟩ : ∃ G, F = G + 1001 := ⟨F - 1001, by omega⟩
  have hb2 : Nat.ble 16 1000000000 = true := by decide
  simp only [impl_SnakeBoard_p, impl_SnakeBoard_c, impl_IsBoard_eq (G + 1001) b hb hF, ok, impl_isForm_v, in_eq, hf, flat_eq hb, hb, way_impl G k hk, h1, beq_selfL, hb2, Bool.and_self, Option.isSome_some, Option.getD_some, cond_true, cond_false, Bool.not_true]
theorem fill_same {k : Nat} (hk : k < 8) : fillP k zero16' 0 (sortI b).reverse = fillP k zero16' 0 (dnL b 17) := by
  have e := sort_rev (b := b) (fun x hx => List.all_eq_true.1 ok x hx)
  have hl : (sortI b).reverse.length = 16 := by rw [List.length_reverse, sortI, List.length_mergeSort, hb]
  rw [e, List.length_append, List.length_replicate] at hl
  rw [e, fill_app]
  refine fill_zero hk _ _ _ (by rw [fill_len]; rfl) (by omega) fun j h1 h2 => ?_
  rw [fill_far hk _ _ _ (by omega) j (by omega) h2]
  have : ∀ t : Fin 16, iget zero16' t.val = 0 := by decide
  exact this ⟨wayP k j, way_lt hk h2⟩
end
/-- the board of a snake -/
def sbB (b : List Int) (k : Nat) : List Int := fillP k zero16' 0 (sortI b).reverse
theorem snb_val (F : Nat) (b : List Int) (hb : b.length = 16) (k : Int) (hF : 1000 < F) : spec_SnakeBoard_p F b k = some (bif okB b && inB k 0 7 then (sbB b k.toNat, true) else (zero16', false)) ∧ impl_SnakeBoard_p F b k = some (bif okB b && inB k 0 7 then (sbB b k.toNat, true) else (zero16', false)) := by
  cases hB : okB b with
  | false =>
    refine ⟨?_, ?_⟩
    · simp only [spec_SnakeBoard_p, spec_SnakeBoard_c, count_spec F b hb hF, hB, Option.isSome_some, Option.getD_some, cond_true, cond_false, Bool.not_false, Bool.false_and]
    · simp only [impl_SnakeBoard_p, impl_SnakeBoard_c, impl_IsBoard_eq F b hb hF, hB, Option.isSome_some, Option.getD_some, cond_true, cond_false, Bool.not_false, Bool.false_and]
  | true =>
    cases hf : inB k 0 7 with
    | false =>
      refine ⟨?_, ?_⟩
      · simp only [spec_SnakeBoard_p, spec_SnakeBoard_c, count_spec F b hb hF, hB, spec_l3Form_v, l1In_eq, hf, Option.isSome_some, Option.getD_some, cond_true, cond_false, Bool.not_true, Bool.not_false, Bool.and_false]
      · simp only [impl_SnakeBoard_p, impl_SnakeBoard_c, impl_IsBoard_eq F b hb hF, hB, impl_isForm_v, in_eq, hf, Option.isSome_some, Option.getD_some, cond_true, cond_false, Bool.not_true, Bool.not_false, Bool.and_false]
    | true =>
      simp [inB] at hf
      obtain ⟨n, rfl⟩ := Int.eq_ofNat_of_zero_le hf.1
      have hn : n < 8 := by omega
      rw [spec_snb hb hB F hF hn, impl_snb hb hB F hF hn, Int.toNat_natCast, ← fill_same hb hB hn]
      exact ⟨rfl, rfl⟩
/-! ### what is true of it -/
/-- the numbers along a way -/
def vw (b : List Int) (k : Nat) : List Int := (wayS k).map fun i => iget b i
theorem vw_fill {s : List Int} (hs : s.length = 16) : ∀ k, k < 8 → vw (fillP k zero16' 0 s) k = s := by
  intro k hk
  obtain ⟨x0, x1, x2, x3, x4, x5, x6, x7, x8, x9, xa, xb, xc, xd, xe, xf, rfl⟩ := list16 hs
  obtain rfl | rfl | rfl | rfl | rfl | rfl | rfl | rfl := k8' hk
  all_goals kernel_rfl
theorem fill_vw {b : List Int} (hb : b.length = 16) : ∀ k, k < 8 → fillP k zero16' 0 (vw b k) = b := by
  intro k hk
  obtain ⟨x0, x1, x2, x3, x4, x5, x6, x7, x8, x9, xa, xb, xc, xd, xe, xf, rfl⟩ := list16 hb
  obtain rfl | rfl | rfl | rfl | rfl | rfl | rfl | rfl := k8' hk
  all_goals kernel_rfl
theorem way_perm : ∀ k, k < 8 → (wayS k).Perm (List.range 16) := by
  intro k hk
  obtain rfl | rfl | rfl | rfl | rfl | rfl | rfl | rfl := k8' hk
  all_goals decide
theorem vw_perm {b : List Int} (hb : b.length = 16) {k : Nat} (hk : k < 8) : (vw b k).Perm b := by
  have h := (way_perm k hk).map fun i => iget b i
  have e : (List.range 16).map (fun i => iget b i) = b := by
    obtain ⟨x0, x1, x2, x3, x4, x5, x6, x7, x8, x9, xa, xb, xc, xd, xe, xf, rfl⟩ := list16 hb
    rfl
  rw [e] at h
  exact h
theorem sort_desc (b : List Int) : (sortI b).reverse.Pairwise fun x y => y ≤ x := by
  rw [List.pairwise_reverse]
  have := List.pairwise_mergeSort (le := fun x y : Int => decide (x ≤ y)) (fun a b c h1 h2 => decide_eq_true (by have := of_decide_eq_true h1; have := of_decide_eq_true h2; omega)) (fun a b => by
    by_cases h : a ≤ b
    · simp [h]
    · have : b ≤ a := by omega
      simp [this]) b
  exact this.imp fun h => of_decide_eq_true h
theorem sort_perm (b : List Int) : (sortI b).reverse.Perm b := (List.reverse_perm _).trans (List.mergeSort_perm b _)
theorem desc_uni {a b : List Int} (ha : a.Pairwise fun x y => y ≤ x) (hb : b.Pairwise fun x y => y ≤ x) (h : a.Perm b) : a = b :=
  List.Perm.eq_of_pairwise (le := fun x y : Int => y ≤ x) (fun a b _ _ h1 h2 => by omega) ha hb h
section
variable {b : List Int} (hb : b.length = 16) {k : Nat} (hk : k < 8)
include hb hk
theorem sb_len : (sbB b k).length = 16 := by rw [sbB, fill_len]; rfl
theorem sb_vw : vw (sbB b k) k = (sortI b).reverse := vw_fill (by rw [List.length_reverse, sortI, List.length_mergeSort, hb]) k hk
theorem sb_perm : (sbB b k).Perm b := by
  have h := (vw_perm (sb_len hb hk) hk).symm
  rw [sb_vw hb hk] at h
  exact h.trans (sort_perm b)
/-- a board in order along a way is the board of its snake -/
theorem sb_self (h : (vw b k).Pairwise fun x y => y ≤ x) : sbB b k = b := by
  have e := desc_uni (sort_desc b) h ((sort_perm b).trans (vw_perm hb hk).symm)
  rw [sbB, e]; exact fill_vw hb k hk
end
end Go.Lv.P
