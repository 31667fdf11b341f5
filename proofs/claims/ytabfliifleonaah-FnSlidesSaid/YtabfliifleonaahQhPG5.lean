/-
Plain facts of the pure functions, part 5; without conditions.
-/
import Derived.Test.YtabfliifleonaahQhP2
import Derived.Test.YtabfliifleonaahQhP3
import Derived.Test.YtabfliifleonaahQhPG4
import Derived.Test.YtabfliifleonaahQhPG3
import Derived.Test.YtabfliifleonaahQhPG2
import Derived.Test.YtabfliifleonaahQhP4
set_option linter.unusedVariables false
set_option linter.unusedSimpArgs false
set_option linter.unusedSectionVars false
namespace Go.Lv.P
open Go Go.Lv
theorem sides_spec (F : Nat) (l : List Int) (hl : l.length ≤ 900) (hF : 1000 < F) : spec_l5Sides_p F l = some (sidesL l) := by
  have h : spec_l5Sides_l2 F l 0 = some (fnd (fun i => !inB (iget l i) 0 3) (fun _ => true) false 0 l.length) := by
    refine loop_find (fun i => i) l.length (fun i => !inB (iget l i) 0 3) _ _ (by omega) (by omega) (fun i hi Q kn kx => ?_) fun Q kn kx => ?_
    · simp only [spec_l5Sides_s2, Int.ofNat_lt, hi, decide_true, cond_true, inR_cast, Int.toNat_natCast, spec_l2Side_v, l1In_eq]
    · simp [spec_l5Sides_s2]
  rw [fnd_any, any_iget l (fun y => !inB y 0 3)] at h
  have ha : sidesL l = !(l.any fun x => !inB x 0 3) := (any_not_all l fun x => inB x 0 3).symm
  simp only [spec_l5Sides_p, spec_l5Sides_c, h, ha, Option.isSome_some, Option.getD_some, cond_true]
  cases (l.any fun x => !inB x 0 3) <;> rfl
theorem made_eq (F : Nat) {b : List Int} (g : Gd b) {l : List Int} (hs : sidesL l = true) (hl : l.length ≤ 900) (hF : 1000 < F) : spec_l5Made_p F b l = some (doS b l) := by
  have h := loop_fold (step := spec_l5Made_s3 F l) (fun i (s : List Int × Int) => (s.2, i, s.1)) l.length (fun i s => dstep s (iget l i)) (fun s => (s.2, s.1)) (fun i s => Gd s.1) (F := F) (by omega) (by omega) (a := (b, 0)) g
    (fun i s hi g => by
      obtain ⟨d, hd, hd4⟩ := sides_nat hs i hi
      have hm := spec_slide g.1 g.2 F hF hd4
      rw [hd]
      refine ⟨?_, fun Q kn kx => ?_⟩
      · show Gd (slideB s.1 ((d : Nat) : Int).toNat).1
        rw [Int.toNat_natCast]; exact slide_ok g.1 g.2 hd4
      · simp only [spec_l5Made_s3, Int.ofNat_lt, hi, decide_true, cond_true, inR_cast, Int.toNat_natCast, hd, hm, Option.isSome_some, Option.getD_some, dstep]) (fun s _ Q kn kx => by simp [spec_l5Made_s3])
  have h1 := h.1
  rw [fld_igetl l dstep l.length 0 _ (by omega), List.drop_zero] at h1
  have h1 : spec_l5Made_l3 F l 0 0 b = some ((doS b l).2, (doS b l).1) := h1
  simp only [spec_l5Made_p, spec_l5Made_c, h1, Option.isSome_some, Option.getD_some, cond_true]
theorem doSl_spec (F : Nat) {b : List Int} (hb : b.length = 16) (l : List Int) (hl : l.length ≤ 900) (hF : 1000 < F) : spec_DoSlides_p F b l = some (bif okB b && sidesL l then ((doS b l).1, (doS b l).2, true) else ([0, 0, 0, 0, 0, 0, 0, 0, 0, 0, 0, 0, 0, 0, 0, 0], 0, false)) := by
  simp only [spec_DoSlides_p, spec_DoSlides_c, spec_l2Board_eq F b hb hF, sides_spec F l hl hF, Option.isSome_some, Option.getD_some, cond_true]
  cases hB : okB b with
  | false => rfl
  | true =>
    cases hs : sidesL l with
    | false => rfl
    | true =>
      simp only [made_eq F ⟨hb, hB⟩ hs hl hF, Option.isSome_some, Option.getD_some, cond_true, cond_false, Bool.not_true, Bool.and_self]
theorem slides_eq (F : Nat) {b : List Int} (g : Gd b) {l : List Int} (hs : sidesL l = true) (hl : l.length ≤ 900) (hF : 1000 < F) : impl_Board_slides_p F b l = some (doS b l).1 := by
  have h := loop_fold (step := impl_Board_slides_s2 F l ((l.length : Nat) : Int)) (fun i (s : List Int × Int) => (i, s.1)) l.length (fun i s => dstep s (iget l i)) (fun s => s.1) (fun i s => Gd s.1) (F := F) (by omega) (by omega) (a := (b, 0)) g
    (fun i s hi g => by
      obtain ⟨d, hd, hd4⟩ := sides_nat hs i hi
      obtain ⟨m, hm⟩ := impl_slide g.1 g.2 F hF hd4
      rw [hd]
      refine ⟨?_, fun Q kn kx => ?_⟩
      · show Gd (slideB s.1 ((d : Nat) : Int).toNat).1
        rw [Int.toNat_natCast]; exact slide_ok g.1 g.2 hd4
      · simp only [impl_Board_slides_s2, Int.ofNat_lt, hi, decide_true, cond_true, inR_cast, Int.toNat_natCast, hd, hm, Option.isSome_some, Option.getD_some, dstep]) (fun s _ Q kn kx => by simp [impl_Board_slides_s2])
  have h1 := h.1
  rw [fld_igetl l dstep l.length 0 _ (by omega), List.drop_zero] at h1
  have h1 : impl_Board_slides_l2 F l ((l.length : Nat) : Int) 0 b = some (doS b l).1 := h1
  simp only [impl_Board_slides_p, impl_Board_slides_c, h1, Option.isSome_some, Option.getD_some, cond_true]
/-! ### scores are what potentials grow by -/
theorem pt_step {m : Int} (h : inB m 2 17 = true) : pt m - 2 * pt (m - 1) = W m := by
  have h2 : inB m 0 17 = true := by
    simp only [inB, Bool.and_eq_true, decide_eq_true_eq] at h ⊢; omega
  rcases tile_cases h2 with e | e | e | e | e | e | e | e | e | e | e | e | e | e | e | e | e | e <;> subst e <;> revert h <;> decide
theorem slide_pot {b : List Int} (g : Gd b) {d : Nat} (hd : d < 4) : potB (slideB b d).1 = potB b + (slideB b d).2 ∧ 0 ≤ (slideB b d).2 := by
  obtain ⟨l, o⟩ := slide_ok g.1 g.2 hd
  have hm := boardM_ok g.1 g.2 hd
  rw [(potB_fs l o).1, (potB_fs g.1 g.2).1, slide_fs g.1 g.2 pt rfl hd, kslide_score g.1 g.2 hd, fs_congr fun m h => pt_step (hm m h)]
  refine ⟨rfl, ?_⟩
  have key : ∀ l : List Int, (∀ m ∈ l, inB m 2 17 = true) → 0 ≤ fs W l := by
    intro l
    induction l with
    | nil => intro _; exact Int.le_refl _
    | cons x l ih =>
      intro h
      have := (W_of (h x List.mem_cons_self)).1
      have := ih fun m hm => h m (List.mem_cons_of_mem _ hm)
      simp only [fs]; omega
  exact key _ hm
theorem doS_pot_gen : ∀ (l : List Int) (b0 : List Int) (s : List Int × Int), sidesL l = true → Gd b0 → Gd s.1 → s.2 = potB s.1 - potB b0 → (l.foldl dstep s).2 = potB (l.foldl dstep s).1 - potB b0 ∧ Gd (l.foldl dstep s).1
  | [], b0, s, _, _, g, h => ⟨h, g⟩
  | x :: l, b0, s, hs, g0, g, h => by
    have hx : inB x 0 3 = true := by simp only [sidesL, List.all_cons, Bool.and_eq_true] at hs; exact hs.1
    have hl : sidesL l = true := by simp only [sidesL, List.all_cons, Bool.and_eq_true] at hs; exact hs.2
    simp [inB] at hx
    have hd : x.toNat < 4 := by omega
    have g' := slide_ok g.1 g.2 hd
    obtain ⟨p1, p2⟩ := slide_pot g hd
    have q0 := potB_fs g0.1 g0.2
    have q1 := potB_fs g'.1 g'.2
    rw [List.foldl_cons]
    refine doS_pot_gen l b0 (dstep s x) hl g0 g' ?_
    show IntKind.wrap .i64 (s.2 + (slideB s.1 x.toNat).2) = potB (slideB s.1 x.toNat).1 - potB b0
    rw [wrap_of (by omega) (by omega)]; omega
theorem doS_pot {b : List Int} (g : Gd b) {l : List Int} (hs : sidesL l = true) : (doS b l).2 = potB (doS b l).1 - potB b ∧ Gd (doS b l).1 := doS_pot_gen l b (b, 0) hs g g (by show (0 : Int) = potB b - potB b; omega)
/-! ### the first board that comes back -/
theorem least_nat {p : Nat → Prop} : ∀ n, p n → ∃ m, m ≤ n ∧ p m ∧ ∀ k, k < m → ¬ p k := by
  intro n
  induction n using Nat.strongRecOn with
  | _ n ih =>
    intro h
    by_cases hex : ∃ k, k < n ∧ p k
    · obtain ⟨k, h1, h2⟩ := hex
      obtain ⟨m, m1, m2, m3⟩ := ih k h1 h2
      exact ⟨m, by omega, m2, m3⟩
    · exact ⟨n, Nat.le_refl _, h, fun k hk hp => hex ⟨k, hk, hp⟩⟩
theorem first_back {w : List Nat} (hw : ∀ d ∈ w, d < 4) {b : List Int} (g : Gd b) : ∃ i j, i < j ∧ j ≤ 802963914752 ∧ rn w b i = rn w b j ∧ ∀ x y, x < y → y < j → rn w b x ≠ rn w b y := by
  obtain ⟨i0, j0, h1, h2, h3⟩ := comes_back hw g
  obtain ⟨j, j1, ⟨i, i1, i2⟩, j3⟩ := least_nat (p := fun j => ∃ i, i < j ∧ rn w b i = rn w b j) j0 ⟨i0, h1, h3⟩
  exact ⟨i, j, i1, by omega, i2, fun x y hxy hy e => j3 y hy ⟨x, hxy, e⟩⟩
/-- the boards so far -/
def snL (w : List Nat) (b : List Int) (k : Nat) : LL := (List.range k).map (rn w b)
theorem snL_len (w : List Nat) (b : List Int) (k : Nat) : (snL w b k).length = k := by simp [snL]
theorem snL_succ (w : List Nat) (b : List Int) (k : Nat) : snL w b (k + 1) = snL w b k ++ [rn w b k] := by simp [snL, List.range_succ]
theorem snL_get (w : List Nat) (b : List Int) {k i : Nat} (h : i < k) : rget (snL w b k) i = rn w b i := by
  rw [rgetL, snL, List.getElem?_map, List.getElem?_range h]; rfl
theorem subn_take0' {l : LL} {k : Nat} (h : l.length = k) : subn k l 0 k = l := by
  subst h; exact subn_self l
theorem subn_sn (w : List Nat) (b : List Int) (k : Nat) : subn k (snL w b k) 0 k = snL w b k := by
  rw [subn_take0' (snL_len w b k)]
theorem fnd_no {X : Type} {q : Nat → Bool} {f : Nat → X} {e : X} : ∀ (m i : Nat), (∀ j, i ≤ j → j < i + m → q j = false) → fnd q f e i m = e
  | 0, _, _ => rfl
  | m + 1, i, h => by
    rw [fnd, h i (Nat.le_refl _) (by omega), cond_false]
    exact fnd_no m (i + 1) fun j h1 h2 => h j (by omega) (by omega)
theorem fnd_yes {X : Type} {q : Nat → Bool} {f : Nat → X} {e : X} : ∀ (m i n : Nat), (∀ j, i ≤ j → j < i + n → q j = false) → q (i + n) = true → n < m → fnd q f e i m = f (i + n)
  | 0, _, n, _, _, h => by omega
  | m + 1, i, 0, _, h, _ => by rw [fnd, show i + 0 = i from rfl] at *; rw [h]; rfl
  | m + 1, i, n + 1, h1, h2, h3 => by
    rw [fnd, h1 i (Nat.le_refl _) (by omega), cond_false, fnd_yes m (i + 1) n (fun j a b => h1 j (by omega) (by omega)) (by rw [show i + 1 + n = i + (n + 1) by omega]; exact h2) (by omega), show i + 1 + n = i + (n + 1) by omega]
section
variable {w : List Nat} {b : List Int} {i j : Nat} (hij : i < j) (hj : j ≤ 802963914752) (he : rn w b i = rn w b j) (hd : ∀ x y, x < y → y < j → rn w b x ≠ rn w b y)
include hij hj he hd
theorem index_no (F : Nat) (hF : 1000000000000 < F) {k : Nat} (hk : k < j) : slices_Index_implBoardimplBoard_p F (snL w b k) (rn w b k) = some (-1) := by
  have hl := snL_len w b k
  have h : slices_Index_implBoardimplBoard_l2 F (snL w b k) (((snL w b k).length : Nat) : Int) (rn w b k) 0 = some (fnd (fun x => rn w b k == rget (snL w b k) x) (fun x => (true, (x : Int))) (false, default) 0 (snL w b k).length) := by
    refine loop_find (fun x => x) (snL w b k).length _ _ _ (by omega) (by omega) (fun x hx Q kn kx => ?_) fun Q kn kx => ?_
    · simp only [slices_Index_implBoardimplBoard_s2, inR_cast, hx, Int.toNat_natCast, decide_true, cond_true, Int.ofNat_lt]
    · simp [slices_Index_implBoardimplBoard_s2]
  rw [fnd_no _ _ fun x _ hx => by
    rw [beq_eq_false_iff_ne, snL_get w b (by omega)]
    exact Ne.symm (hd x k (by omega) hk)] at h
  simp only [slices_Index_implBoardimplBoard_p, slices_Index_implBoardimplBoard_c, h, Option.isSome_some, Option.getD_some, cond_true, cond_false]
theorem index_yes (F : Nat) (hF : 1000000000000 < F) : slices_Index_implBoardimplBoard_p F (snL w b j) (rn w b j) = some (i : Int) := by
  have hl := snL_len w b j
  have h : slices_Index_implBoardimplBoard_l2 F (snL w b j) (((snL w b j).length : Nat) : Int) (rn w b j) 0 = some (fnd (fun x => rn w b j == rget (snL w b j) x) (fun x => (true, (x : Int))) (false, default) 0 (snL w b j).length) := by
    refine loop_find (fun x => x) (snL w b j).length _ _ _ (by omega) (by omega) (fun x hx Q kn kx => ?_) fun Q kn kx => ?_
    · simp only [slices_Index_implBoardimplBoard_s2, inR_cast, hx, Int.toNat_natCast, decide_true, cond_true, Int.ofNat_lt]
    · simp [slices_Index_implBoardimplBoard_s2]
  rw [fnd_yes _ 0 i (fun x _ hx => by
    rw [beq_eq_false_iff_ne, snL_get w b (by omega), ← he]
    exact Ne.symm (hd x i (by omega) hij)) (by rw [Nat.zero_add, snL_get w b hij, he]; exact beq_self_eq_true _) (by omega), Nat.zero_add] at h
  simp only [slices_Index_implBoardimplBoard_p, slices_Index_implBoardimplBoard_c, h, Option.isSome_some, Option.getD_some, cond_true]
variable {l : List Int} (hw : w = l.map Int.toNat) (hs : sidesL l = true) (hl : l.length ≤ 900) (g : Gd b)
include hw hs hl g
theorem made_rn (k : Nat) : (doS (rn w b k) l).1 = rn w b (k + 1) := by rw [doS_fst, ← hw, rn_succ]
theorem good_rn (k : Nat) : Gd (rn w b k) := rn_good (by rw [hw]; exact sides_lt hs) g k
theorem cyc_impl (F : Nat) (hF : 1000000000000 < F) : ∀ (m k G : Nat), k + m = j → m < G → loopC (impl_SlideCycle_s5 F l) G (rn w b k, snL w b k) some = some ((i : Int), ((j - i : Nat) : Int))
  | 0, k, G, hk, hG => by
    obtain ⟨G, rfl⟩ : ∃ G', G = G' + 1 := ⟨G - 1, by omega⟩
    have hkj : k = j := by omega
    subst hkj
    have e := index_yes hij hj he hd F hF
    have hp : decide ((0 : Int) ≤ (i : Int)) = true := decide_eq_true (by omega)
    have hwr : IntKind.wrap .i64 (((k : Nat) : Int) - (i : Int)) = ((k - i : Nat) : Int) := by rw [wrap_of (by omega) (by omega)]; omega
    simp only [loopC, impl_SlideCycle_s5, snL_len, subn_sn, e, hp, hwr, Option.isSome_some, Option.getD_some, cond_true]
  | m + 1, k, G, hk, hG => by
    obtain ⟨G, rfl⟩ : ∃ G', G = G' + 1 := ⟨G - 1, by omega⟩
    have e := index_no hij hj he hd F hF (k := k) (by omega)
    have hp : decide ((0 : Int) ≤ (-1 : Int)) = false := by decide
    have hsl := slides_eq F (good_rn hij hj he hd hw hs hl g k) hs hl (show 1000 < F by omega)
    rw [made_rn hij hj he hd hw hs hl g k] at hsl
    have hf : fits (k + 1) 128 = true := fits_of (by omega) (by omega)
    have ih := cyc_impl F hF m (k + 1) G (by omega) (by omega)
    rw [snL_succ] at ih
    simp only [loopC, impl_SlideCycle_s5, snL_len, subn_sn, e, hp, hsl, List.length_append, List.length_cons, List.length_nil, Nat.zero_add, hf, Option.isSome_some, Option.getD_some, cond_true, cond_false]
    exact ih
theorem cyc_in (F : Nat) (hF : 1000000000000 < F) {k : Nat} (hk : k < j) (nx : List Int) (hnx : nx = rn w b (k + 1)) : spec_SlideCycle_l6 F l (snL w b (k + 1)) nx 0 = some (bif Nat.beq (k + 1) j then (true, (i : Int), ((j - i : Nat) : Int)) else (false, default, default)) := by
  have hlen := snL_len w b (k + 1)
  have h : spec_SlideCycle_l6 F l (snL w b (k + 1)) nx 0 = some (fnd (fun x => rget (snL w b (k + 1)) x == nx) (fun x => (true, (x : Int), IntKind.wrap .i64 ((((snL w b (k + 1)).length : Nat) : Int) - (x : Int)))) (false, default, default) 0 (snL w b (k + 1)).length) := by
    refine loop_find (fun x => x) (snL w b (k + 1)).length _ _ _ (by omega) (by omega) (fun x hx Q kn kx => ?_) fun Q kn kx => ?_
    · simp only [spec_SlideCycle_s6, inR_cast, hx, Int.toNat_natCast, decide_true, cond_true, Int.ofNat_lt, Nat.zero_add]
    · simp [spec_SlideCycle_s6]
  rw [h]
  congr 1
  by_cases hkj : k + 1 = j
  · rw [show Nat.beq (k + 1) j = true from Nat.beq_eq.mpr hkj, cond_true]
    rw [fnd_yes _ 0 i (fun x _ hx => by
      rw [beq_eq_false_iff_ne, snL_get w b (by omega), hnx, hkj, ← he]
      exact hd x i (by omega) hij) (by rw [Nat.zero_add, snL_get w b (by omega), hnx, hkj, he]; exact beq_self_eq_true _) (by omega), Nat.zero_add, hlen, wrap_of (by omega) (by omega)]
    have : ((k + 1 : Nat) : Int) - (i : Int) = ((j - i : Nat) : Int) := by omega
    rw [this]
  · rw [show Nat.beq (k + 1) j = false by rw [← Bool.not_eq_true, Nat.beq_eq]; exact hkj, cond_false]
    exact fnd_no _ _ fun x _ hx => by
      rw [beq_eq_false_iff_ne, snL_get w b (by omega), hnx]
      exact hd x (k + 1) (by omega) (by omega)
theorem cyc_spec (F : Nat) (hF : 1000000000000 < F) : ∀ (m k G : Nat), k + 1 + m = j → m < G → loopC (spec_SlideCycle_s4 F l) G (snL w b (k + 1)) some = some ((i : Int), ((j - i : Nat) : Int))
  | m, k, 0, hk, hG => by omega
  | m, k, G + 1, hk, hG => by
    have hw1 : IntKind.wrap .i64 (((k + 1 : Nat) : Int) - 1) = ((k : Nat) : Int) := by rw [wrap_of (by omega) (by omega)]; omega
    have hk1 : k < k + 1 := by omega
    have hm := made_eq F (good_rn hij hj he hd hw hs hl g k) hs hl (show 1000 < F by omega)
    have hmr := made_rn hij hj he hd hw hs hl g k
    have hin := cyc_in hij hj he hd hw hs hl g F hF (k := k) (by omega) _ hmr
    have hf : fits (k + 1 + 1) 128 = true := fits_of (by omega) (by omega)
    simp only [loopC, spec_SlideCycle_s4, snL_len, hw1, inR_cast, hk1, Int.toNat_natCast, Nat.zero_add, snL_get w b hk1, hm, hin, beq_selfL, Bool.true_and, subn_sn, List.length_append, List.length_cons, List.length_nil, hf, decide_true, Option.isSome_some, Option.getD_some, cond_true]
    cases m with
    | zero =>
      rw [show Nat.beq (k + 1) j = true from Nat.beq_eq.mpr (by omega)]
      rfl
    | succ m =>
      have ih := cyc_spec F hF m (k + 1) G (by omega) (by omega)
      rw [snL_succ] at ih
      rw [show Nat.beq (k + 1) j = false by rw [← Bool.not_eq_true, Nat.beq_eq]; omega, cond_false, cond_false, hmr]
      exact ih
end
/-- what both say of a cycle -/
theorem cycle_val (F : Nat) {b : List Int} (hb : b.length = 16) (l : List Int) (hl : l.length ≤ 900) (hF : 1000000000000 < F) : ∃ (a n : Int) (o : Bool), spec_SlideCycle_p F b l = some (a, n, o) ∧ impl_SlideCycle_p F b l = some (a, n, o) ∧
    (o = true → okB b = true ∧ sidesL l = true ∧ ∃ i j : Nat, a = (i : Int) ∧ n = ((j - i : Nat) : Int) ∧ i < j ∧ j ≤ 802963914752 ∧ rn (l.map Int.toNat) b i = rn (l.map Int.toNat) b j ∧ ∀ x y, x < y → y < j → rn (l.map Int.toNat) b x ≠ rn (l.map Int.toNat) b y) := by
  simp only [spec_SlideCycle_p, spec_SlideCycle_c, impl_SlideCycle_p, impl_SlideCycle_c, spec_l2Board_eq F b hb (by omega), impl_IsBoard_eq F b hb (by omega), l1In_eq, in_eq, sides_spec F l hl (by omega), areDir_eq F l (by omega) (by omega), Option.isSome_some, Option.getD_some, cond_true]
  cases hB : okB b with
  | false => exact ⟨_, _, false, rfl, rfl, fun h => by cases h⟩
  | true =>
    cases h14 : inB ((l.length : Nat) : Int) 1 4 with
    | false => exact ⟨_, _, false, rfl, rfl, fun h => by cases h⟩
    | true =>
      cases hs : sidesL l with
      | false => exact ⟨_, _, false, rfl, rfl, fun h => by cases h⟩
      | true =>
        have g : Gd b := ⟨hb, hB⟩
        obtain ⟨i, j, h1, h2, h3, h4⟩ := first_back (sides_lt hs) g
        have e1 := cyc_impl h1 h2 h3 h4 rfl hs hl g F hF j 0 F (by omega) (by omega)
        have e2 := cyc_spec h1 h2 h3 h4 rfl hs hl g F hF (j - 1) 0 F (by omega) (by omega)
        have e1 : impl_SlideCycle_l5 F l b [] = some ((i : Int), ((j - i : Nat) : Int)) := e1
        have e2 : spec_SlideCycle_l4 F l [b] = some ((i : Int), ((j - i : Nat) : Int)) := e2
        simp only [e1, e2, Option.isSome_some, Option.getD_some, cond_true, cond_false, Bool.not_true]
        exact ⟨_, _, true, rfl, rfl, fun _ => ⟨by first | rfl | trivial, by first | rfl | trivial, i, j, rfl, rfl, h1, h2, h3, h4⟩⟩
end Go.Lv.P

namespace Go.Lv.P
open Go Go.Lv
theorem rget_self (l : LL) (f : Nat → LL) (g : List Int → LL) (h : ∀ i, i < l.length → f i = g (rget l i)) : (List.range' 0 l.length).flatMap f = l.flatMap g := by
  have : ∀ (m i : Nat), i + m = l.length → (List.range' i m).flatMap f = (l.drop i).flatMap g := by
    intro m
    induction m with
    | zero => intro i hi; rw [List.drop_eq_nil_of_le (by omega)]; rfl
    | succ m ih =>
      intro i hi
      have hil : i < l.length := by omega
      have hg : rget l i = l[i] := by rw [rgetL, List.getElem?_eq_getElem hil]; rfl
      rw [List.range'_succ, List.flatMap_cons, ih (i + 1) (by omega), List.drop_eq_getElem_cons hil, List.flatMap_cons, h i hil, hg]
  simpa using this l.length 0 (by omega)
theorem plm_list (b : List Int) : plm b = (em b).flatMap fun c => [[iget c 0, iget c 1, 1], [iget c 0, iget c 1, 2]] := by
  rw [plm, fld_add, List.nil_append]
  exact rget_self _ _ _ fun i _ => rfl
theorem stepsOn_list (n : List Int) (d : Int) : stepsOn n d = (plm n).map fun p => d :: p := by
  rw [plm_list, List.map_flatMap, stepsOn, fld_add, List.nil_append]
  refine rget_self _ _ _ fun i hi => ?_
  obtain ⟨x, y, hc⟩ := list2 (cells_len _ (em_get hi))
  rw [hc]
  rfl
/-- what a placement is -/
theorem plm_is {b p : List Int} (h : p ∈ plm b) : ∃ (r c : Nat) (t : Int), p = [(r : Int), (c : Int), t] ∧ r < 4 ∧ c < 4 ∧ (t = 1 ∨ t = 2) ∧ iget b (r * 4 + c) = 0 := by
  rw [plm_list] at h
  simp only [List.mem_flatMap, List.mem_cons, List.not_mem_nil, or_false] at h
  obtain ⟨q, hq, h⟩ := h
  have hz : (iget b (plc q) == 0) = true := (List.mem_filter.1 hq).2
  have hz : iget b (plc q) = 0 := by simpa using hz
  have key : ∀ q ∈ cells16, ∃ r c : Nat, q = [(r : Int), (c : Int)] ∧ r < 4 ∧ c < 4 := cells_all fun r c hr hc => ⟨r, c, rfl, hr, hc⟩
  obtain ⟨r, c, rfl, hr, hc⟩ := key q (em_mem b q hq)
  have e : plc [(r : Int), (c : Int)] = r * 4 + c := by
    show 0 + (r : Int).toNat * 4 + (c : Int).toNat * 1 = _
    simp
  rw [e] at hz
  rcases h with rfl | rfl
  · exact ⟨r, c, 1, rfl, hr, hc, .inl rfl, hz⟩
  · exact ⟨r, c, 2, rfl, hr, hc, .inr rfl, hz⟩
theorem fld_rget {A : Type} (l : LL) (g : List Int → A → A) (s : A) : fld (fun i s => g (rget l i) s) 0 l.length s = l.foldl (fun s x => g x s) s := by
  have : ∀ (m i : Nat) (s : A), i + m = l.length → fld (fun i s => g (rget l i) s) i m s = (l.drop i).foldl (fun s x => g x s) s := by
    intro m
    induction m with
    | zero => intro i s h; rw [List.drop_eq_nil_of_le (by omega)]; rfl
    | succ m ih =>
      intro i s h
      have hi : i < l.length := by omega
      have hg : rget l i = l[i] := by rw [rgetL, List.getElem?_eq_getElem hi]; rfl
      simp only [fld]
      rw [ih (i + 1) _ (by omega), List.drop_eq_getElem_cons hi, List.foldl_cons, hg]
  simpa using this l.length 0 s (by omega)
/-- how many tenths a placement has, in its cell -/
def wgt (p : List Int) : Nat := bif iget p 2 == 2 then 1 else 9
theorem wgt_9 (p : List Int) : wgt p ≤ 9 := by
  unfold wgt
  cases iget p 2 == 2 <;> simp
theorem wsum (b : List Int) : (plm b).foldl (fun s p => s + wgt p) 0 = 10 * (em b).length := by
  rw [plm_list]
  have : ∀ (l : LL) (s : Nat), (l.flatMap fun c => [[iget c 0, iget c 1, (1 : Int)], [iget c 0, iget c 1, 2]]).foldl (fun s p => s + wgt p) s = s + 10 * l.length := by
    intro l
    induction l with
    | nil => intro s; simp
    | cons c l ih =>
      intro s
      rw [List.flatMap_cons, List.foldl_append, ih]
      show s + 9 + 1 + 10 * l.length = s + 10 * (l.length + 1)
      omega
  simpa using this (em b) 0
end Go.Lv.P

namespace Go.Lv.P
open Go Go.Lv
def sl (b : List Int) (d : Nat) : List Int := (slideB b d).1
def GoodB (b : List Int) : Prop := b.length = 16 ∧ okB b = true
theorem sl_good {b : List Int} (h : GoodB b) {d : Nat} (hd : d < 4) : GoodB (sl b d) := slide_ok h.1 h.2 hd
theorem run_good {w : List Nat} : ∀ {b : List Int}, GoodB b → (∀ d ∈ w, d < 4) → GoodB (runW sl b w) := by
  induction w with
  | nil => intro b h _; simp only [runW]; exact h
  | cons d w ih =>
    intro b h hw
    simp only [runW]
    exact ih (sl_good h (hw d List.mem_cons_self)) fun e he => hw e (List.mem_cons_of_mem _ he)
def addS (x : List Int) (s : LL) : LL := fld (fun d s => insB (sl x d) s) 0 4 s
def nextL (all : LL) : LL := all.foldl (fun s x => addS x s) all
def reachL (b : List Int) : Nat → LL
  | 0 => [b]
  | n + 1 => nextL (reachL b n)
theorem insB_len1 (x : List Int) : ∀ l : LL, (insB x l).length ≤ l.length + 1 := by
  intro l
  induction l with
  | nil => simp [insB]
  | cons a r ih =>
    simp only [insB]
    cases ltL a x
    · cases a == x <;> simp
    · simp only [cond_true, List.length_cons]; omega
theorem addS_mem (x : List Int) (s : LL) (y : List Int) : y ∈ addS x s ↔ y ∈ s ∨ ∃ d : Nat, d < 4 ∧ y = sl x d := by
  simp only [addS, fld, insB_mem, Nat.zero_add, Nat.reduceAdd]
  constructor
  · rintro (h | h | h | h | h)
    · exact .inr ⟨3, by omega, h⟩
    · exact .inr ⟨2, by omega, h⟩
    · exact .inr ⟨1, by omega, h⟩
    · exact .inr ⟨0, by omega, h⟩
    · exact .inl h
  · rintro (h | ⟨d, hd, h⟩)
    · exact .inr (.inr (.inr (.inr h)))
    · obtain rfl | rfl | rfl | rfl : d = 0 ∨ d = 1 ∨ d = 2 ∨ d = 3 := by omega
      · exact .inr (.inr (.inr (.inl h)))
      · exact .inr (.inr (.inl h))
      · exact .inr (.inl h)
      · exact .inl h
theorem addS_len (x : List Int) (s : LL) : (addS x s).length ≤ s.length + 4 := by
  simp only [addS, fld, Nat.zero_add, Nat.reduceAdd]
  have h1 := insB_len1 (sl x 0) s
  have h2 := insB_len1 (sl x 1) (insB (sl x 0) s)
  have h3 := insB_len1 (sl x 2) (insB (sl x 1) (insB (sl x 0) s))
  have h4 := insB_len1 (sl x 3) (insB (sl x 2) (insB (sl x 1) (insB (sl x 0) s)))
  omega
def OKs (s : LL) : Prop := (∀ x ∈ s, GoodB x) ∧ Asc s
theorem ins_ok {s : LL} (h : OKs s) {x : List Int} (hx : GoodB x) : OKs (insB x s) := by
  refine ⟨fun y hy => ?_, insB_asc h.2 fun y hy => by rw [(h.1 y hy).1, hx.1]⟩
  rcases insB_mem.1 hy with rfl | hy
  · exact hx
  · exact h.1 y hy
theorem addS_ok {s : LL} (h : OKs s) {x : List Int} (hx : GoodB x) : OKs (addS x s) :=
  ins_ok (ins_ok (ins_ok (ins_ok h (sl_good hx (by omega))) (sl_good hx (by omega))) (sl_good hx (by omega))) (sl_good hx (by omega))
theorem foldS_mem : ∀ (l s : LL) (y : List Int), y ∈ l.foldl (fun s x => addS x s) s ↔ y ∈ s ∨ ∃ x ∈ l, ∃ d : Nat, d < 4 ∧ y = sl x d
  | [], s, y => by simp
  | x :: l, s, y => by
    rw [List.foldl_cons, foldS_mem l, addS_mem]
    constructor
    · rintro ((h | h) | ⟨z, hz, h⟩)
      · exact .inl h
      · exact .inr ⟨x, List.mem_cons_self, h⟩
      · exact .inr ⟨z, List.mem_cons_of_mem _ hz, h⟩
    · rintro (h | ⟨z, hz, h⟩)
      · exact .inl (.inl h)
      · rcases List.mem_cons.1 hz with rfl | hz
        · exact .inl (.inr h)
        · exact .inr ⟨z, hz, h⟩
theorem foldS_ok : ∀ (l s : LL), (∀ x ∈ l, GoodB x) → OKs s → OKs (l.foldl (fun s x => addS x s) s)
  | [], s, _, h => h
  | x :: l, s, hl, h => foldS_ok l _ (fun y hy => hl y (List.mem_cons_of_mem _ hy)) (addS_ok h (hl x List.mem_cons_self))
theorem foldS_len : ∀ (l s : LL), (l.foldl (fun s x => addS x s) s).length ≤ s.length + 4 * l.length
  | [], s => by simp
  | x :: l, s => by
    have h1 := foldS_len l (addS x s)
    have h2 := addS_len x s
    rw [List.foldl_cons, List.length_cons]; omega
theorem reachL_ok {b : List Int} (hb : GoodB b) : ∀ n : Nat, OKs (reachL b n)
  | 0 => ⟨fun x hx => by simp only [reachL, List.mem_singleton] at hx; subst hx; exact hb, fun x hx => (by cases hx), trivial⟩
  | n + 1 => foldS_ok _ _ (reachL_ok hb n).1 (reachL_ok hb n)
theorem reachL_len (b : List Int) : ∀ n : Nat, (reachL b n).length ≤ 5 ^ n
  | 0 => Nat.le_refl _
  | n + 1 => by
    have h1 := reachL_len b n
    have h2 := foldS_len (reachL b n) (reachL b n)
    rw [Nat.pow_succ]
    show (nextL (reachL b n)).length ≤ _
    unfold nextL
    omega
theorem reachL_mem {b : List Int} : ∀ (n : Nat) (y : List Int), y ∈ reachL b n ↔ ∃ w : List Nat, w.length ≤ n ∧ (∀ d ∈ w, d < 4) ∧ runW sl b w = y
  | 0, y => by
    simp only [reachL, List.mem_singleton]
    constructor
    · rintro rfl; exact ⟨[], Nat.le_refl _, fun d h => (by cases h), rfl⟩
    · rintro ⟨w, h, _, rfl⟩
      have : w = [] := List.length_eq_zero_iff.1 (by omega)
      subst this; rfl
  | n + 1, y => by
    show y ∈ nextL (reachL b n) ↔ _
    rw [nextL, foldS_mem]
    constructor
    · rintro (h | ⟨x, hx, d, hd, rfl⟩)
      · obtain ⟨w, h1, h2, h3⟩ := (reachL_mem n y).1 h
        exact ⟨w, by omega, h2, h3⟩
      · obtain ⟨w, h1, h2, rfl⟩ := (reachL_mem n x).1 hx
        refine ⟨w ++ [d], by simp; omega, fun e he => ?_, runW_snoc sl b w d⟩
        rcases List.mem_append.1 he with he | he
        · exact h2 e he
        · rw [List.mem_singleton] at he; omega
    · rintro ⟨w, h1, h2, h3⟩
      rcases List.eq_nil_or_concat w with rfl | ⟨v, d, rfl⟩
      · exact .inl ((reachL_mem n y).2 ⟨[], by simp, h2, h3⟩)
      · rw [List.concat_eq_append] at h1 h2 h3
        rw [runW_snoc] at h3
        rw [List.length_append, List.length_singleton] at h1
        exact .inr ⟨runW sl b v, (reachL_mem n _).2 ⟨v, by omega, fun e he => h2 e (List.mem_append_left _ he), rfl⟩, d, h2 d (by simp), h3.symm⟩
theorem spec_next (F : Nat) {all : LL} (ho : OKs all) (hl : all.length ≤ 20000) (hF : 1000000 < F) : spec_l5Next_p F all = some (nextL all) := by
  have hin : ∀ (i : Nat) (s : LL), i < all.length → OKs s → s.length ≤ 200000 → spec_l5Next_l6 F all i s 0 = some (addS (rget all i) s) := fun i s hi hs hsl => by
    have hg := ho.1 _ (rget_mem hi)
    exact (loop_fold (step := spec_l5Next_s6 F all i) (fun d (s : LL) => (s, d)) 4 (fun d s => insB (sl (rget all i) d) s) (fun s => s) (fun d s => OKs s ∧ s.length ≤ 200000 + d) (F := F) (by omega) (by omega) (a := s) ⟨hs, by omega⟩
      (fun d s hd hI => by
        have hg2 := sl_good hg hd
        have h1 := insB_len1 (sl (rget all i) d) s
        refine ⟨⟨ins_ok hI.1 hg2, by omega⟩, fun Q kn kx => ?_⟩
        have hd' : (d : Int) < 4 := by omega
        have e : (slideB (rget all i) d).1 = sl (rget all i) d := rfl
        simp only [spec_l5Next_s6, hd', decide_true, cond_true, inR_cast, hi, Int.toNat_natCast, spec_slide hg.1 hg.2 F (by omega) hd, Option.isSome_some, Option.getD_some, e,
          add_eq F (by omega) hg2.1 (fun x hx => (hI.1.1 x hx).1) (show s.length ≤ 1000000 by omega) (by omega)])
      (fun s _ Q kn kx => by simp [spec_l5Next_s6])).1
  have h := loop_fold (step := spec_l5Next_s3 F all) (fun i (s : LL) => (s, i)) all.length (fun i s => addS (rget all i) s) (fun s => s) (fun i s => OKs s ∧ s.length ≤ 20000 + 4 * i) (F := F) (by omega) (by omega) (a := all) ⟨ho, by omega⟩
    (fun i s hi hI => by
      have h1 := addS_len (rget all i) s
      refine ⟨⟨addS_ok hI.1 (ho.1 _ (rget_mem hi)), by omega⟩, fun Q kn kx => ?_⟩
      simp only [spec_l5Next_s3, Int.ofNat_lt, hi, decide_true, cond_true, hin i s hi hI.1 (by omega), Option.isSome_some, Option.getD_some])
    (fun s _ Q kn kx => by simp [spec_l5Next_s3])
  have h1 := h.1
  rw [fld_rget all (fun x (s : LL) => addS x s)] at h1
  have h1 : spec_l5Next_l3 F all all 0 = _ := h1
  simp only [spec_l5Next_p, spec_l5Next_c, h1, Option.isSome_some, Option.getD_some, cond_true]
  rfl
theorem reachL_small (b : List Int) {n : Nat} (hn : n ≤ 6) : (reachL b n).length ≤ 15625 := by
  have h := reachL_len b n
  have : 5 ^ n ≤ 5 ^ 6 := Nat.pow_le_pow_right (by omega) hn
  omega
end Go.Lv.P

namespace Go.Lv.P
open Go Go.Lv
def keysE (E : EL) : LL := E.map Prod.fst
theorem insE_keep {E : EL} {y p : List Int} (h : mlook y E = some p) (x : List Int × List Int) : mlook y (insE E x) = some p := by
  unfold insE
  cases (E.map Prod.fst).contains x.1
  · rw [cond_false, mlook_append, h]; rfl
  · exact h
theorem keysE_len (E : EL) : (keysE E).length = E.length := by simp [keysE]
theorem reach_in (F : Nat) (n0 fr : Int) {own p : List Int} (ho : GoodB own) {E : EL} (hE : mlook own E = some p) (hl : E.length ≤ 200000) (hp : p.length ≤ 10) (hF : 1000000 < F) :
    impl_Board_reach_l8 F n0 fr own 0 E (keysE E) = some (expE sl E (own, p), keysE (expE sl E (own, p))) := by
  have f : ∀ n b : Nat, n ≤ 1000000 → b ≤ 128 → fits n b = true := fun n b h h2 => fits_of (by
    have : n * b ≤ 1000000 * 128 := Nat.mul_le_mul h h2
    omega) (by omega)
  exact (loop_fold (step := impl_Board_reach_s8 F n0 fr own) (fun d (E : EL) => (d, E, keysE E)) 4 (fun d E => insE E (sl own d, p ++ [((d : Nat) : Int)])) (fun E => (E, keysE E)) (fun d E => mlook own E = some p ∧ E.length ≤ 200000 + d) (F := F) (by omega) (by omega) (a := E) ⟨hE, by omega⟩
    (fun d E hd hI => by
      have hlen := insE_len E (sl own d, p ++ [((d : Nat) : Int)])
      refine ⟨⟨insE_keep hI.1 _, by omega⟩, fun Q kn kx => ?_⟩
      have hd' : (d : Int) < 4 := by omega
      have hs := impl_slides1 ho.1 ho.2 F (by omega) hd
      have e : (slideB own d).1 = sl own d := rfl
      have hk : (keysE E).length = E.length := keysE_len E
      have f1 := f p.length 8 (by omega) (by omega)
      have f2 := f (p ++ [(d : Int)]).length 8 (by simp; omega) (by omega)
      have f3 := f (keysE E ++ [sl own d]).length 128 (by simp [hk]; omega) (by omega)
      simp only [impl_Board_reach_s8, hd', decide_true, cond_true, hs, Option.isSome_some, Option.getD_some, e, mlook_isSome, hI.1, subn_self, f1, f2, f3]
      unfold insE
      cases hc : (E.map Prod.fst).contains (sl own d) with
      | true => rfl
      | false =>
        simp only [Bool.not_false, cond_true, cond_false, mput_none hc]
        simp [keysE])
    (fun E _ Q kn kx => by simp [impl_Board_reach_s8])).1
theorem exp_pre (E : EL) (x : List Int × List Int) : ∃ l, expE sl E x = E ++ l := by
  obtain ⟨l0, e0⟩ := insE_pre E (sl x.1 0, x.2 ++ [((0 : Nat) : Int)])
  obtain ⟨l1, e1⟩ := insE_pre (E ++ l0) (sl x.1 1, x.2 ++ [((1 : Nat) : Int)])
  obtain ⟨l2, e2⟩ := insE_pre (E ++ l0 ++ l1) (sl x.1 2, x.2 ++ [((2 : Nat) : Int)])
  obtain ⟨l3, e3⟩ := insE_pre (E ++ l0 ++ l1 ++ l2) (sl x.1 3, x.2 ++ [((3 : Nat) : Int)])
  refine ⟨l0 ++ l1 ++ l2 ++ l3, ?_⟩
  simp only [expE, List.foldl_cons, List.foldl_nil]
  rw [e0, e1, e2, e3]
  simp only [List.append_assoc]
theorem foldexp_pre : ∀ (l E : EL), ∃ m, l.foldl (expE sl) E = E ++ m
  | [], E => ⟨[], by simp⟩
  | x :: l, E => by
    obtain ⟨m, e⟩ := exp_pre E x
    obtain ⟨m', e'⟩ := foldexp_pre l (E ++ m)
    exact ⟨m ++ m', by rw [List.foldl_cons, e, e', List.append_assoc]⟩
/-- one level of the search -/
theorem reach_level (F : Nat) {b : List Int} (hb : GoodB b) {n : Nat} (hn : n ≤ 6) (k : Nat) (hk : k < n) {L : EL} (hL : TW sl b (k + 1) = TW sl b k ++ L) (hF : 1000000 < F) : ∀ (l pre : EL) (G : Nat), L = pre ++ l → ∀ (Q : Type) (kx : EL × LL → Option Q),
    loopC (impl_Board_reach_s3 F n) (G + l.length) ((((TW sl b k).length + pre.length : Nat) : Int), pre.foldl (expE sl) (TW sl b (k + 1)), keysE (pre.foldl (expE sl) (TW sl b (k + 1)))) kx =
    loopC (impl_Board_reach_s3 F n) G ((((TW sl b (k + 1)).length : Nat) : Int), L.foldl (expE sl) (TW sl b (k + 1)), keysE (L.foldl (expE sl) (TW sl b (k + 1)))) kx := by
  intro l
  induction l with
  | nil =>
    intro pre G h Q kx
    rw [List.append_nil] at h
    rw [← h, hL, List.length_append, List.length_nil, Nat.add_zero]
  | cons x l IH =>
    intro pre G h Q kx
    have h5 : TW sl b (k + 2) = L.foldl (expE sl) (TW sl b (k + 1)) := (TW_next sl b k hL).symm
    obtain ⟨m, hm⟩ := foldexp_pre pre (TW sl b (k + 1))
    obtain ⟨m2, hm2⟩ := foldexp_pre (x :: l) (pre.foldl (expE sl) (TW sl b (k + 1)))
    rw [← List.foldl_append, ← h, ← h5] at hm2
    have hlen : (pre.foldl (expE sl) (TW sl b (k + 1))).length ≤ 114688 := by
      have h1 := congrArg List.length hm2
      rw [List.length_append] at h1
      have h2 := TW_len sl b (k + 2)
      have h3 : 4 ^ (k + 2) ≤ 4 ^ 7 := Nat.pow_le_pow_right (by omega) (by omega)
      have h4 : (k + 2) * 4 ^ (k + 2) ≤ 7 * 4 ^ 7 := Nat.mul_le_mul (by omega) h3
      have h6 : (7 : Nat) * 4 ^ 7 = 114688 := by decide
      omega
    have hx : (TW sl b (k + 1))[(TW sl b k).length + pre.length]? = some x := by
      rw [hL, h, List.getElem?_append_right (by omega), Nat.add_sub_cancel_left, List.getElem?_append_right (by omega), Nat.sub_self]; rfl
    have hin : x ∈ TW sl b (k + 1) := List.mem_of_getElem? hx
    obtain ⟨w, w1, w2, w3⟩ := TW_ent sl b (k + 1) x hin
    have hidx : (TW sl b k).length + pre.length < (TW sl b (k + 1)).length := (List.getElem?_eq_some_iff.1 hx).1
    generalize hG : pre.foldl (expE sl) (TW sl b (k + 1)) = E at hlen hm ⊢
    have hE : E = TW sl b (k + 1) ++ m := hm
    have hidx2 : (TW sl b k).length + pre.length < E.length := by rw [hE, List.length_append]; omega
    have hg : rget (keysE E) (0 + ((TW sl b k).length + pre.length)) = x.1 := by
      rw [Nat.zero_add, rgetL, keysE, List.getElem?_map, hE, List.getElem?_append_left hidx, hx]; rfl
    have hlook : mlook x.1 E = some x.2 := by
      rw [hE, mlook_append, mlook_mem (TW_nodup sl b (k + 1)) hin]; rfl
    have hgood : GoodB x.1 := by rw [w3]; exact run_good hb w2
    have hp : x.2.length = w.length := by rw [w3]; exact nw_len w
    have hin8 := reach_in F n ((TW sl b k).length + pre.length : Nat) hgood hlook (by omega) (by omega) hF
    have ex : (x.1, x.2) = x := rfl
    rw [ex] at hin8
    have hne : ¬ ((x.2.length : Nat) : Int) = (n : Int) := by omega
    rw [List.length_cons, ← Nat.add_assoc]
    simp only [loopC, impl_Board_reach_s3, Int.toNat_natCast, hg, keysE_len, Int.ofNat_lt, hidx2, decide_true, cond_true, inR_cast, hlook, Option.getD_some, hin8, Option.isSome_some, beq_selfL, Bool.and_self]
    rw [show (((x.2.length : Nat) : Int) == (n : Int)) = false from by rw [beq_eq_false_iff_ne]; exact hne, cond_false]
    rw [wrap_succ (n := 200000) (by omega) (by omega)]
    have ih := IH (pre ++ [x]) G (by rw [h]; simp) Q kx
    rw [List.foldl_append, hG, List.length_append, ← Nat.add_assoc, List.foldl_cons, List.foldl_nil, List.length_singleton] at ih
    exact ih
/-- the levels that are left -/
theorem reach_levels (F : Nat) {b : List Int} (hb : GoodB b) {n : Nat} (hn : n ≤ 6) (hF : 1000000 < F) : ∀ (m k G : Nat), k + m = n → m * 200000 < G → loopC (impl_Board_reach_s3 F n) G ((((TW sl b k).length : Nat) : Int), TW sl b (k + 1), keysE (TW sl b (k + 1))) some = some (TW sl b (n + 1), keysE (TW sl b (n + 1))) := by
  intro m
  induction m with
  | zero =>
    intro k G h hG
    obtain ⟨G, rfl⟩ : ∃ G', G = G' + 1 := ⟨G - 1, by omega⟩
    obtain rfl : k = n := by omega
    obtain ⟨L, hL, hL2, _⟩ := fold_pre sl b (words k) (TW sl b k)
    have hL : TW sl b (k + 1) = TW sl b k ++ L := hL
    cases L with
    | nil =>
      have e : (TW sl b (k + 1)).length = (TW sl b k).length := by rw [hL]; simp
      have h1 : ¬ (((TW sl b k).length : Nat) : Int) < (((TW sl b (k + 1)).length : Nat) : Int) := by omega
      simp only [loopC, impl_Board_reach_s3, keysE_len, h1, decide_false, cond_false]
    | cons x l =>
      have hx : (TW sl b (k + 1))[(TW sl b k).length]? = some x := by
        rw [hL, List.getElem?_append_right (Nat.le_refl _), Nat.sub_self]; rfl
      have hin : x ∈ TW sl b (k + 1) := List.mem_of_getElem? hx
      have hidx : (TW sl b k).length < (TW sl b (k + 1)).length := (List.getElem?_eq_some_iff.1 hx).1
      have hg : rget (keysE (TW sl b (k + 1))) (0 + (TW sl b k).length) = x.1 := by
        rw [Nat.zero_add, rgetL, keysE, List.getElem?_map, hx]; rfl
      have hlook : mlook x.1 (TW sl b (k + 1)) = some x.2 := mlook_mem (TW_nodup sl b (k + 1)) hin
      obtain ⟨w, hw, e⟩ := hL2 x List.mem_cons_self
      have hp : x.2.length = k := by rw [e, nw_len]; exact (mem_words.1 hw).1
      simp only [loopC, impl_Board_reach_s3, Int.toNat_natCast, hg, keysE_len, Int.ofNat_lt, hidx, decide_true, cond_true, inR_cast, hlook, Option.getD_some, hp, beq_self_eq_true]
  | succ m IH =>
    intro k G h hG
    obtain ⟨L, hL, _, hL3⟩ := fold_pre sl b (words k) (TW sl b k)
    have hL : TW sl b (k + 1) = TW sl b k ++ L := hL
    have h3 : 4 ^ k ≤ 4 ^ 7 := Nat.pow_le_pow_right (by omega) (by omega)
    have h6 : (4 : Nat) ^ 7 = 16384 := by decide
    rw [words_len] at hL3
    obtain ⟨G', rfl⟩ : ∃ G', G = G' + L.length := ⟨G - L.length, by omega⟩
    have hlev := reach_level F hb hn k (by omega) hL hF L [] G' rfl _ some
    rw [TW_next sl b k hL] at hlev
    have hL4 : L.length ≤ 16384 := by rw [← h6]; exact Nat.le_trans hL3 h3
    have hG2 : m * 200000 < G' := by
      rw [Nat.succ_mul] at hG
      revert hG
      generalize m * 200000 = z
      generalize L.length = y at hL4
      intro hG
      exact Nat.lt_of_add_lt_add_right (n := 200000) (Nat.lt_of_lt_of_le hG (Nat.add_le_add_left (Nat.le_trans hL4 (by decide)) _))
    exact hlev.trans (IH (k + 1) G' (by omega) hG2)
theorem reach_eq (F : Nat) {b : List Int} (hb : GoodB b) {n : Nat} (hn : n ≤ 6) (hF : 2000000 < F) : impl_Board_reach_p F b n = some (TW sl b (n + 1), keysE (TW sl b (n + 1))) := by
  have h := reach_levels F hb hn (by omega) n 0 F (by omega) (by omega)
  have e0 : TW sl b 0 = [] := rfl
  have e1 : TW sl b 1 = [(b, [])] := by simp [TW, words, addW, insE, runW, nw]
  have e2 : keysE [(b, ([] : List Int))] = [b] := rfl
  have e3 : mput b ([] : List Int) [] = [(b, [])] := rfl
  rw [e0, Nat.zero_add, e1, e2, List.length_nil] at h
  simp only [impl_Board_reach_p, impl_Board_reach_c, e3, impl_Board_reach_l3]
  have h : loopC (impl_Board_reach_s3 F n) F (0, [(b, ([] : List Int))], [b]) some = some (TW sl b (n + 1), keysE (TW sl b (n + 1))) := h
  simp only [h, Option.isSome_some, Option.getD_some, cond_true]
end Go.Lv.P

namespace Go.Lv.P
open Go Go.Lv
theorem spec_reach (F : Nat) {b : List Int} (hb : GoodB b) {n : Nat} (hn : n ≤ 6) (hF : 1000000 < F) : spec_l5Reach_p F b n = some (reachL b n) := by
  have h := loop_fold (step := spec_l5Reach_s3 F n) (fun i (s : LL) => (s, i)) n (fun i s => nextL s) (fun s => s) (fun i s => s = reachL b i) (F := F) (by omega) (by omega) (a := [b]) rfl
    (fun i s hi hI => by
      refine ⟨by rw [hI]; rfl, fun Q kn kx => ?_⟩
      have hs := reachL_small b (n := i) (by omega)
      rw [hI]
      simp only [spec_l5Reach_s3, Int.ofNat_lt, hi, decide_true, cond_true, spec_next F (reachL_ok hb i) (by omega) hF, Option.isSome_some, Option.getD_some])
    (fun s _ Q kn kx => by simp [spec_l5Reach_s3])
  have h1 : spec_l5Reach_l3 F n [b] 0 = some (reachL b n) := h.1.trans (congrArg some h.2)
  simp only [spec_l5Reach_p, spec_l5Reach_c, h1, Option.isSome_some, Option.getD_some, cond_true]
theorem keys_reach (a : List Int) (n : Nat) (x : List Int) : x ∈ keysE (TW sl a (n + 1)) ↔ x ∈ reachL a n := by
  unfold keysE
  rw [TW_mem, reachL_mem]
  constructor
  · rintro ⟨w, h, h2⟩; exact ⟨w, by omega, h2⟩
  · rintro ⟨w, h, h2⟩; exact ⟨w, by omega, h2⟩
end Go.Lv.P

namespace Go.Lv.P
open Go Go.Lv
/-- the greatest of numbers that belong to boards -/
def maxL (h : List Int → Int) (l : LL) : Int := l.foldl (fun m x => max m (h x)) 0
theorem maxL_facts (h : List Int → Int) : ∀ (l : LL) (m : Int), (m ≤ l.foldl (fun m x => max m (h x)) m) ∧ (∀ x ∈ l, h x ≤ l.foldl (fun m x => max m (h x)) m) ∧ (l.foldl (fun m x => max m (h x)) m = m ∨ ∃ x ∈ l, l.foldl (fun m x => max m (h x)) m = h x)
  | [], m => ⟨Int.le_refl _, fun x hx => (by cases hx), .inl rfl⟩
  | a :: l, m => by
    obtain ⟨h1, h2, h3⟩ := maxL_facts h l (max m (h a))
    rw [List.foldl_cons]
    refine ⟨by omega, fun x hx => ?_, ?_⟩
    · rcases List.mem_cons.1 hx with rfl | hx
      · omega
      · exact h2 x hx
    · rcases h3 with h3 | ⟨x, hx, h3⟩
      · rw [h3]
        by_cases hm : h a ≤ m
        · exact .inl (by omega)
        · exact .inr ⟨a, List.mem_cons_self, by omega⟩
      · exact .inr ⟨x, List.mem_cons_of_mem _ hx, h3⟩
theorem maxL_same (h : List Int → Int) {l l' : LL} (hm : ∀ x, x ∈ l ↔ x ∈ l') : maxL h l = maxL h l' := by
  obtain ⟨a1, a2, a3⟩ := maxL_facts h l 0
  obtain ⟨b1, b2, b3⟩ := maxL_facts h l' 0
  unfold maxL
  have h1 : l.foldl (fun m x => max m (h x)) 0 ≤ l'.foldl (fun m x => max m (h x)) 0 := by
    rcases a3 with a3 | ⟨x, hx, a3⟩
    · rw [a3]; exact b1
    · rw [a3]; exact b2 x ((hm x).1 hx)
  have h2 : l'.foldl (fun m x => max m (h x)) 0 ≤ l.foldl (fun m x => max m (h x)) 0 := by
    rcases b3 with b3 | ⟨x, hx, b3⟩
    · rw [b3]; exact a1
    · rw [b3]; exact a2 x ((hm x).2 hx)
  omega
theorem max_most (a b : Int) : spec_l1Most_v a b = max a b := by
  unfold spec_l1Most_v
  cases h : decide (b < a) with
  | true => have := of_decide_eq_true h; rw [cond_true]; omega
  | false => have := of_decide_eq_false h; rw [cond_false]; omega
theorem max_if (a b : Int) : (if b > a then b else a) = max a b := by
  split <;> omega
theorem spec_hbs (F : Nat) {b : List Int} (hb : b.length = 16) (hF : 2000000 < F) : spec_HighestBySlides_p F b = some (bif okB b then (maxL (fun x => (highB x).1) (reachL b 6), true) else (0, false)) := by
  simp only [spec_HighestBySlides_p, spec_HighestBySlides_c, spec_l2Board_eq F b hb (by omega), Option.isSome_some, Option.getD_some, cond_true]
  cases kb : okB b with
  | false => rfl
  | true =>
    have e := spec_reach F (b := b) (n := 6) ⟨hb, kb⟩ (by omega) (by omega)
    have hs := reachL_small b (n := 6) (by omega)
    have ho := reachL_ok (b := b) ⟨hb, kb⟩ 6
    have e6 : ((6 : Nat) : Int) = 6 := rfl
    rw [e6] at e
    revert e hs ho
    generalize reachL b 6 = all
    intro e hs ho
    have h := loop_fold (step := spec_HighestBySlides_s5 F all) (fun i (m : Int) => (m, i)) all.length (fun i m => max m (highB (rget all i)).1) (fun m => m) (fun _ _ => True) (F := F) (by omega) (by omega) (a := 0) trivial
      (fun i m hi _ => ⟨trivial, fun Q kn kx => by
        have hg := ho.1 _ (rget_mem hi)
        simp only [spec_HighestBySlides_s5, Int.ofNat_lt, hi, decide_true, cond_true, inR_cast, Int.toNat_natCast, spec_l5Highest_p, spec_l5Highest_c, spec_high F _ hg.1 (by omega), hg.2, Option.isSome_some, Option.getD_some, max_most]⟩)
      (fun m _ Q kn kx => by simp [spec_HighestBySlides_s5])
    have h1 := h.1
    rw [fld_rget all (fun x (m : Int) => max m (highB x).1)] at h1
    have h1 : spec_HighestBySlides_l5 F all 0 0 = some (maxL (fun x => (highB x).1) all) := h1
    simp only [Bool.not_true, cond_false, cond_true, e, h1, Option.isSome_some, Option.getD_some]
theorem impl_hbs0 (F : Nat) {b : List Int} (hb : b.length = 16) (hF : 2000000 < F) (E : EL) (e : okB b = true → impl_Board_reach_p F b 6 = some (E, keysE E)) (hE : E.length ≤ 1000000) : impl_HighestBySlides_p F b = some (bif okB b then (maxL (fun x => (highB x).1) (keysE E), true) else (0, false)) := by
  simp only [impl_HighestBySlides_p, impl_HighestBySlides_c, impl_IsBoard_eq F b hb (by omega), Option.isSome_some, Option.getD_some, cond_true]
  cases kb : okB b with
  | false => rfl
  | true =>
    have hk := keysE_len E
    have e := e kb
    revert e hk
    generalize keysE E = all
    intro hk e
    have h := loop_fold (step := impl_HighestBySlides_s6 F ((all.length : Nat) : Int) all) (fun i (m : Int) => (m, i)) all.length (fun i m => max m (highB (rget all i)).1) (fun m => m) (fun _ _ => True) (F := F) (by omega) (by omega) (a := 0) trivial
      (fun i m hi _ => ⟨trivial, fun Q kn kx => by
        simp only [impl_HighestBySlides_s6, Int.ofNat_lt, hi, decide_true, cond_true, inR_cast, Int.toNat_natCast, Nat.zero_add, impl_high F _ (show 1000 < F by omega), Option.isSome_some, Option.getD_some, max_if]⟩)
      (fun m _ Q kn kx => by simp [impl_HighestBySlides_s6])
    have h1 := h.1
    rw [fld_rget all (fun x (m : Int) => max m (highB x).1)] at h1
    have h1 : impl_HighestBySlides_l6 F ((all.length : Nat) : Int) all 0 0 = some (maxL (fun x => (highB x).1) all) := h1
    simp only [Bool.not_true, cond_false, cond_true, e, h1, Option.isSome_some, Option.getD_some, beq_selfL, Bool.and_self]
theorem impl_hbs (F : Nat) {b : List Int} (hb : b.length = 16) (hF : 2000000 < F) : impl_HighestBySlides_p F b = some (bif okB b then (maxL (fun x => (highB x).1) (reachL b 6), true) else (0, false)) := by
  have hl := TW_len sl b 7
  have h6 : (7 : Nat) * 4 ^ 7 = 114688 := by decide
  rw [h6] at hl
  have h := impl_hbs0 F hb hF (TW sl b 7) (fun kb => by
    have e := reach_eq F (b := b) (n := 6) ⟨hb, kb⟩ (by omega) hF
    exact e) (Nat.le_trans hl (by decide))
  rw [maxL_same (fun x => (highB x).1) (keys_reach b 6)] at h
  exact h
end Go.Lv.P
