/-
Plain facts of the pure functions, part 4; without conditions.
-/
import Derived.Test.YtabfliifleonaahQhPG3
import Derived.Test.YtabfliifleonaahQhPG1
import Derived.Test.YtabfliifleonaahQhPG2
import Derived.Test.YtabfliifleonaahQhP3
import Derived.Test.YtabfliifleonaahQhP1
import Derived.Test.YtabfliifleonaahQhP2
set_option linter.unusedVariables false
set_option linter.unusedSimpArgs false
set_option linter.unusedSectionVars false
namespace Go.Lv.P
open Go Go.Lv
/-! ### rows without mergers are pushed together -/
def nzf (row : List Int) : List Int := row.filter fun x => !(x == 0)
def packR (row : List Int) : List Int := nzf row ++ List.replicate (4 - (nzf row).length) 0
theorem zeros_of : ∀ (l : List Int) (n : Nat), l.length = n → (∀ j, j < n → iget l j = 0) → l = List.replicate n 0
  | [], n, h, _ => by subst h; rfl
  | x :: l, n, h, h0 => by
    subst h
    have e : x = 0 := h0 0 (by simp)
    rw [List.length_cons, List.replicate_succ, e, ← zeros_of l l.length rfl fun j hj => h0 (j + 1) (by simp; omega)]
theorem iget_drop (l : List Int) (n j : Nat) : iget (l.drop n) j = iget l (n + j) := by
  rw [igetL, igetL, List.getElem?_drop]
theorem fold_pack : ∀ (l : List Int) (s : RS), RI s → s.1 + l.length ≤ 4 → mgs s l = [] → (l.foldl rstep s).2.2.2 = s.2.2.2.take s.1 ++ (l ++ List.replicate (4 - (s.1 + l.length)) 0)
  | [], s, h, hl, _ => by
    have e := zeros_of (s.2.2.2.drop s.1) (4 - s.1) (by rw [List.length_drop, h.1]) fun j hj => by rw [iget_drop]; exact h.2 _ (by omega) (by omega)
    rw [List.foldl_nil, List.nil_append, List.length_nil, Nat.add_zero, ← e, List.take_append_drop]
  | x :: l, s, h, hl, hm => by
    simp only [List.length_cons] at hl
    have hr : rhit s x = false := by
      cases hh : rhit s x with
      | false => rfl
      | true => simp only [mgs, hh, cond_true] at hm; cases hm
    simp only [mgs, hr, cond_false] at hm
    have e : rstep s x = (s.1 + 1, s.2.1, false, iset s.2.2.2 (0 + s.1 * 1) x) := by
      unfold rhit at hr
      unfold rstep
      rw [hr]; rfl
    have h1 := rstep_RI (x := x) h (by omega)
    rw [List.foldl_cons]
    rw [e] at h1 hm ⊢
    rw [fold_pack l _ h1 (by show s.1 + 1 + l.length ≤ 4; omega) hm]
    show (iset s.2.2.2 (0 + s.1 * 1) x).take (s.1 + 1) ++ (l ++ List.replicate (4 - (s.1 + 1 + l.length)) 0) = _
    rw [show 0 + s.1 * 1 = s.1 by omega, isetL, List.take_add_one, List.take_set_of_le (Nat.le_refl _), List.getElem?_set_self (by rw [h.1]; omega), List.length_cons, show s.1 + (l.length + 1) = s.1 + 1 + l.length by omega, List.append_assoc]
    rfl
theorem row_pack {row : List Int} (hl : row.length = 4) (h : rowM row = []) : (rslide row).2.2.2 = packR row := by
  have hn : (row.filter fun x => !(x == 0)).length ≤ 4 := by rw [← hl]; exact List.length_filter_le _ _
  have := fold_pack (row.filter fun x => !(x == 0)) (0, 0, false, [0, 0, 0, 0]) ⟨rfl, fun j _ hj => by
    obtain rfl | rfl | rfl | rfl : j = 0 ∨ j = 1 ∨ j = 2 ∨ j = 3 := by omega
    all_goals rfl⟩ (by simpa using hn) h
  simp only [List.take_zero, List.nil_append, Nat.zero_add] at this
  exact this
def packB (b : List Int) (d : Nat) : List Int := putB (putB (putB (putB b d 0 (packR (lineB b d 0))) d 1 (packR (lineB b d 1))) d 2 (packR (lineB b d 2))) d 3 (packR (lineB b d 3))
theorem slide_pack {b : List Int} {d : Nat} (h : boardM b d = []) : (slideB b d).1 = packB b d := by
  have e : (slideB b d).1 = putB (putB (putB (putB b d 0 (rslide (lineB b d 0)).2.2.2) d 1 (rslide (lineB b d 1)).2.2.2) d 2 (rslide (lineB b d 2)).2.2.2) d 3 (rslide (lineB b d 3)).2.2.2 := rfl
  simp only [boardM, List.append_eq_nil_iff] at h
  obtain ⟨⟨⟨h0, h1⟩, h2⟩, h3⟩ := h
  rw [e, row_pack rfl h0, row_pack rfl h1, row_pack rfl h2, row_pack rfl h3]; rfl
/-! ### other names for the tiles -/
def Nam (f : Int → Int) : Prop := ∀ x, f x = 0 ↔ x = 0
theorem iget_map {f : Int → Int} (h : f 0 = 0) (l : List Int) (i : Nat) : iget (l.map f) i = f (iget l i) := by
  rw [igetL, igetL, List.getElem?_map]
  cases l[i]? with
  | none => exact h.symm
  | some x => rfl
theorem line_map {f : Int → Int} (h : f 0 = 0) (b : List Int) (d i : Nat) : lineB (b.map f) d i = (lineB b d i).map f := by
  simp only [lineB, iget_map h, List.map_cons, List.map_nil]
theorem put_map {f : Int → Int} (h : f 0 = 0) (b r : List Int) (d i : Nat) : putB (b.map f) d i (r.map f) = (putB b d i r).map f := by
  simp only [putB, iget_map h, isetL, List.map_set]
theorem nzf_map {f : Int → Int} (h : Nam f) : ∀ r : List Int, nzf (r.map f) = (nzf r).map f
  | [] => rfl
  | x :: r => by
    have ih := nzf_map h r
    unfold nzf at ih ⊢
    rw [List.map_cons, List.filter_cons, List.filter_cons]
    have : (f x == 0) = (x == 0) := by
      rw [Bool.eq_iff_iff, beq_iff_eq, beq_iff_eq]; exact h x
    rw [this]
    cases x == 0 <;> simp [ih]
theorem pack_map {f : Int → Int} (h : Nam f) (r : List Int) : packR (r.map f) = (packR r).map f := by
  unfold packR
  rw [nzf_map h, List.length_map, List.map_append, List.map_replicate, (h 0).2 rfl]
theorem packB_map {f : Int → Int} (h : Nam f) (b : List Int) (d : Nat) : packB (b.map f) d = (packB b d).map f := by
  have h0 : f 0 = 0 := (h 0).2 rfl
  unfold packB
  simp only [line_map h0, pack_map h, put_map h0]
/-- all slides of a list, without mergers -/
def packW (w : List Nat) (b : List Int) : List Int := w.foldl packB b
theorem packW_map {f : Int → Int} (h : Nam f) : ∀ (w : List Nat) (b : List Int), packW w (b.map f) = (packW w b).map f
  | [], b => rfl
  | d :: w, b => by
    show packW w (packB (b.map f) d) = _
    rw [packB_map h, packW_map h w]; rfl
theorem packR_len {r : List Int} (h : r.length = 4) : (packR r).length = 4 := by
  have hn : (nzf r).length ≤ 4 := by rw [← h]; exact List.length_filter_le _ _
  unfold packR
  rw [List.length_append, List.length_replicate]; omega
theorem packB_len {b : List Int} (hb : b.length = 16) (d : Nat) : (packB b d).length = 16 := by
  simp only [packB, putB, iset_len, hb]
theorem packW_len : ∀ (w : List Nat) {b : List Int}, b.length = 16 → (packW w b).length = 16
  | [], b, h => h
  | d :: w, b, h => packW_len w (packB_len h d)
theorem pack_fs {f : Int → Int} (h0 : f 0 = 0) (r : List Int) : fs f (packR r) = fs f r := by
  have hz : ∀ n, fs f (List.replicate n 0) = 0 := fun n => fs_zero fun x hx => by rw [List.eq_of_mem_replicate hx]; exact h0
  unfold packR nzf
  rw [fs_append, hz, fs_filter f h0]; omega
theorem packB_fs {f : Int → Int} (h0 : f 0 = 0) {b : List Int} (hb : b.length = 16) {d : Nat} (hd : d < 4) : fs f (packB b d) = fs f b := by
  have h := put_lines b (packR (lineB b d 0)) (packR (lineB b d 1)) (packR (lineB b d 2)) (packR (lineB b d 3)) hb (packR_len rfl) (packR_len rfl) (packR_len rfl) (packR_len rfl) hd
  rw [fs_lines f (packB_len hb d) hd, fs_lines f hb hd]
  unfold packB
  rw [h.1, h.2.1, h.2.2.1, h.2.2.2, pack_fs h0, pack_fs h0, pack_fs h0, pack_fs h0]
theorem packW_fs {f : Int → Int} (h0 : f 0 = 0) : ∀ (w : List Nat), (∀ d ∈ w, d < 4) → ∀ {b : List Int}, b.length = 16 → fs f (packW w b) = fs f b
  | [], _, b, _ => rfl
  | d :: w, hw, b, hb => by
    show fs f (packW w (packB b d)) = _
    rw [packW_fs h0 w (fun e he => hw e (List.mem_cons_of_mem _ he)) (packB_len hb d), packB_fs h0 hb (hw d List.mem_cons_self)]
/-! ### places come back -/
/-- the pigeonhole -/
theorem pigeon : ∀ (n : Nat) (f : Nat → Nat), (∀ i, i ≤ n → f i < n) → ∃ i j, i < j ∧ j ≤ n ∧ f i = f j
  | 0, f, h => absurd (h 0 (Nat.le_refl _)) (by omega)
  | n + 1, f, h => by
    by_cases hex : ∃ i, i ≤ n ∧ f i = f (n + 1)
    · obtain ⟨i, h1, h2⟩ := hex
      exact ⟨i, n + 1, by omega, Nat.le_refl _, h2⟩
    · have hne : ∀ i, i ≤ n → f i ≠ f (n + 1) := fun i hi e => hex ⟨i, hi, e⟩
      have hl := h (n + 1) (Nat.le_refl _)
      obtain ⟨i, j, h1, h2, h3⟩ := pigeon n (fun i => if f i = n then f (n + 1) else f i) fun i hi => by
        have hi1 := h i (by omega)
        have hi2 := hne i hi
        show (if f i = n then f (n + 1) else f i) < n
        split
        · rename_i e; omega
        · omega
      refine ⟨i, j, h1, by omega, ?_⟩
      have hi2 := hne i (by omega)
      have hj2 := hne j h2
      have h3 : (if f i = n then f (n + 1) else f i) = (if f j = n then f (n + 1) else f j) := h3
      split at h3
      · rename_i ei
        split at h3
        · rename_i ej; omega
        · exact absurd h3.symm hj2
      · split at h3
        · exact absurd h3 hi2
        · exact h3
/-- a function, again and again -/
def itr (g : Nat → Nat) : Nat → Nat → Nat
  | 0, x => x
  | k + 1, x => itr g k (g x)
theorem itr_add (g : Nat → Nat) : ∀ (a b x : Nat), itr g (a + b) x = itr g b (itr g a x)
  | 0, b, x => by rw [Nat.zero_add]; rfl
  | a + 1, b, x => by rw [show a + 1 + b = (a + b) + 1 by omega]; exact itr_add g a b (g x)
section
variable {g : Nat → Nat} {S : Nat → Prop} (hS : ∀ x, S x → S (g x)) (hlt : ∀ x, S x → x < 16) (hinj : ∀ x y, S x → S y → g x = g y → x = y)
include hS
theorem itr_S : ∀ (k : Nat) {x : Nat}, S x → S (itr g k x)
  | 0, x, h => h
  | k + 1, x, h => itr_S k (hS x h)
include hinj
theorem itr_inj : ∀ (k : Nat) {x y : Nat}, S x → S y → itr g k x = itr g k y → x = y
  | 0, x, y, _, _, h => h
  | k + 1, x, y, hx, hy, h => hinj x y hx hy (itr_inj k (hS x hx) (hS y hy) h)
include hlt
theorem itr_back {x : Nat} (hx : S x) : itr g 720720 x = x := by
  obtain ⟨i, j, h1, h2, h3⟩ := pigeon 16 (fun k => itr g k x) fun k _ => hlt _ (itr_S hS k hx)
  have h3 : itr g i x = itr g j x := h3
  obtain ⟨m, rfl⟩ : ∃ m, j = m + i := ⟨j - i, by omega⟩
  rw [itr_add] at h3
  have hm : itr g m x = x := (itr_inj hS hinj i hx (itr_S hS m hx) h3).symm
  have hmul : ∀ k, itr g (k * m) x = x := by
    intro k
    induction k with
    | zero => rw [Nat.zero_mul]; rfl
    | succ k ih => rw [Nat.add_mul, Nat.one_mul, itr_add, ih, hm]
  have hd : ∃ k, 720720 = k * m := by
    have : m = 1 ∨ m = 2 ∨ m = 3 ∨ m = 4 ∨ m = 5 ∨ m = 6 ∨ m = 7 ∨ m = 8 ∨ m = 9 ∨ m = 10 ∨ m = 11 ∨ m = 12 ∨ m = 13 ∨ m = 14 ∨ m = 15 ∨ m = 16 := by omega
    refine ⟨720720 / m, ?_⟩
    rcases this with h | h | h | h | h | h | h | h | h | h | h | h | h | h | h | h <;> subst h <;> rfl
  obtain ⟨k, hk⟩ := hd
  rw [hk]; exact hmul k
end
/-! ### boards come back -/
/-- names of the places that have a tile -/
def lab (b : List Int) : List Int := (List.range 16).map fun i => if iget b i = 0 then 0 else ((i + 1 : Nat) : Int)
def nam (b : List Int) (x : Int) : Int := if x = 0 then 0 else if iget b (x.toNat - 1) = 0 then 1 else iget b (x.toNat - 1)
theorem nam_ok (b : List Int) : Nam (nam b) := by
  intro x
  unfold nam
  by_cases h : x = 0
  · simp [h]
  · simp only [h, if_false, iff_false]
    split
    · omega
    · assumption
theorem lab_len (b : List Int) : (lab b).length = 16 := by simp [lab]
theorem lab_get (b : List Int) {i : Nat} (hi : i < 16) : iget (lab b) i = if iget b i = 0 then 0 else ((i + 1 : Nat) : Int) := by
  rw [igetL, lab, List.getElem?_map, List.getElem?_range hi]; rfl
theorem ext16 {a b : List Int} (ha : a.length = 16) (hb : b.length = 16) (h : ∀ i, i < 16 → iget a i = iget b i) : a = b := by
  refine List.ext_getElem (by rw [ha, hb]) fun i h1 h2 => ?_
  have := h i (by omega)
  rw [igetL, igetL, List.getElem?_eq_getElem h1, List.getElem?_eq_getElem h2] at this
  exact this
theorem lab_nam {b : List Int} (hb : b.length = 16) : (lab b).map (nam b) = b := by
  refine ext16 (by rw [List.length_map, lab_len]) hb fun i hi => ?_
  rw [iget_map rfl, lab_get b hi]
  by_cases h : iget b i = 0
  · rw [if_pos h, h]; rfl
  · have hne : ¬ ((i + 1 : Nat) : Int) = 0 := by omega
    have e : ((i + 1 : Nat) : Int).toNat - 1 = i := by omega
    rw [if_neg h, nam, if_neg hne, e, if_neg h]
/-- the same places have tiles -/
def SameP (a b : List Int) : Prop := ∀ i, i < 16 → (iget a i = 0 ↔ iget b i = 0)
theorem lab_same {a b : List Int} (h : SameP a b) : lab a = lab b := by
  refine ext16 (lab_len a) (lab_len b) fun i hi => ?_
  rw [lab_get a hi, lab_get b hi]
  by_cases h0 : iget b i = 0
  · rw [if_pos h0, if_pos ((h i hi).2 h0)]
  · rw [if_neg h0, if_neg (fun e => h0 ((h i hi).1 e))]
/-- a list of slides that merge nothing, and that leave the same places with tiles, comes back when it is done often enough -/
theorem pack_back (w : List Nat) (hw : ∀ d ∈ w, d < 4) {b : List Int} (hb : b.length = 16) (hp : SameP (packW w b) b) : ∀ (k : Nat) {c : List Int}, c = b → Nat.repeat (packW w) 720720 c = b := by
  intro k c hc
  subst hc
  -- the places' names
  have hL := lab_len c
  have hL' : (packW w (lab c)).length = 16 := packW_len w hL
  have hnat : ∀ {a : List Int}, a.length = 16 → SameP a c → packW w a = (packW w (lab c)).map (nam a) := fun {a} ha hs => by
    conv => lhs; rw [← lab_nam ha, packW_map (nam_ok a), lab_same hs]
  have hpat : ∀ i, i < 16 → (iget (packW w (lab c)) i = 0 ↔ iget c i = 0) := fun i hi => by
    have h := hp i hi
    rw [hnat hb (fun i _ => Iff.rfl), iget_map rfl, nam_ok c] at h
    exact h
  -- each name is there once
  have hin : ∀ x ∈ lab c, inB x 0 17 = true := fun x hx => by
    simp only [lab, List.mem_map, List.mem_range] at hx
    obtain ⟨i, hi, rfl⟩ := hx
    split
    · decide
    · simp [inB]; omega
  have once : ∀ t : Int, t ≠ 0 → fs (isN t) (lab c) ≤ 1 := fun t ht => by
    have key : ∀ (l : List Nat), l.Nodup → fs (isN t) (l.map fun i => if iget c i = 0 then (0 : Int) else ((i + 1 : Nat) : Int)) ≤ 1 ∧ ((∀ i ∈ l, ((i + 1 : Nat) : Int) ≠ t) → fs (isN t) (l.map fun i => if iget c i = 0 then (0 : Int) else ((i + 1 : Nat) : Int)) = 0) := by
      intro l
      induction l with
      | nil => intro _; exact ⟨by simp [fs], fun _ => rfl⟩
      | cons i l ih =>
        intro hn
        rw [List.nodup_cons] at hn
        obtain ⟨g1, g2⟩ := ih hn.2
        simp only [List.map_cons, fs]
        have hle : isN t (if iget c i = 0 then (0 : Int) else ((i + 1 : Nat) : Int)) ≤ 1 := by unfold isN; split <;> omega
        by_cases he : ((i + 1 : Nat) : Int) = t
        · have h0 := g2 fun j hj e => hn.1 (by have : i = j := by omega
                                               rw [this]; exact hj)
          exact ⟨by omega, fun h => absurd he (h i List.mem_cons_self)⟩
        · have hz : isN t (if iget c i = 0 then (0 : Int) else ((i + 1 : Nat) : Int)) = 0 := by
            unfold isN
            by_cases hc0 : iget c i = 0
            · rw [if_pos hc0, if_neg (Ne.symm ht)]
            · rw [if_neg hc0, if_neg he]
          exact ⟨by omega, fun h => by rw [hz, g2 fun j hj => h j (List.mem_cons_of_mem _ hj)]; rfl⟩
    exact (key (List.range 16) List.nodup_range).1
  have once' : ∀ t : Int, t ≠ 0 → fs (isN t) (packW w (lab c)) ≤ 1 := fun t ht => by
    have h0 : isN t 0 = 0 := by unfold isN; rw [if_neg (Ne.symm ht)]
    rw [packW_fs h0 w hw hL]; exact once t ht
  have fs_pos : ∀ {l : List Int} {t : Int}, 1 ≤ fs (isN t) l → t ∈ l := by
    intro l t
    induction l with
    | nil => intro h; simp [fs] at h
    | cons x l ih =>
      intro h
      simp only [fs] at h
      by_cases hx : x = t
      · subst hx; exact List.mem_cons_self
      · have : isN t x = 0 := by unfold isN; rw [if_neg hx]
        exact List.mem_cons_of_mem _ (ih (by omega))
  let S : Nat → Prop := fun x => x < 16 ∧ iget c x ≠ 0
  let g : Nat → Nat := fun x => (iget (packW w (lab c)) x).toNat - 1
  have hg : ∀ x, S x → ∃ y, S y ∧ g x = y ∧ iget (packW w (lab c)) x = ((y + 1 : Nat) : Int) := fun x hx => by
    have hne : iget (packW w (lab c)) x ≠ 0 := fun e => hx.2 ((hpat x hx.1).1 e)
    have h1 : 1 ≤ fs (isN (iget (packW w (lab c)) x)) (packW w (lab c)) := fs_mem (by rw [hL']; exact hx.1) rfl
    have h0 : isN (iget (packW w (lab c)) x) 0 = 0 := by unfold isN; rw [if_neg (Ne.symm hne)]
    rw [packW_fs h0 w hw hL] at h1
    have hm := fs_pos h1
    simp only [lab, List.mem_map, List.mem_range] at hm
    obtain ⟨y, hy, e⟩ := hm
    by_cases hy0 : iget c y = 0
    · rw [if_pos hy0] at e; exact absurd e.symm hne
    · rw [if_neg hy0] at e
      exact ⟨y, ⟨hy, hy0⟩, by show (iget (packW w (lab c)) x).toNat - 1 = y; unfold lab; rw [← e]; omega, e.symm⟩
  have hS : ∀ x, S x → S (g x) := fun x hx => by obtain ⟨y, h1, h2, _⟩ := hg x hx; rw [h2]; exact h1
  have hinj : ∀ x y, S x → S y → g x = g y → x = y := fun x y hx hy e => by
    obtain ⟨u, _, u2, u3⟩ := hg x hx
    obtain ⟨v, _, v2, v3⟩ := hg y hy
    have huv : u = v := by rw [← u2, ← v2, e]
    subst huv
    by_cases hxy : x = y
    · exact hxy
    · have := once' ((u + 1 : Nat) : Int) (by omega)
      rcases Nat.lt_or_gt_of_ne hxy with h | h
      · have := fs_two h (by rw [hL']; exact hy.1) u3 v3; omega
      · have := fs_two h (by rw [hL']; exact hx.1) v3 u3; omega
  -- one round more
  have one : ∀ {a : List Int}, a.length = 16 → SameP a c → SameP (packW w a) c ∧ ∀ x, S x → iget (packW w a) x = iget a (g x) := fun {a} ha hs => by
    have e := hnat ha hs
    refine ⟨fun i hi => by rw [e, iget_map rfl, nam_ok a]; exact hpat i hi, fun x hx => ?_⟩
    obtain ⟨y, h1, h2, h3⟩ := hg x hx
    rw [e, iget_map rfl, h3, h2, nam, if_neg (by omega), show ((y + 1 : Nat) : Int).toNat - 1 = y by omega, if_neg (fun e0 => h1.2 ((hs y h1.1).1 e0))]
  have all : ∀ k, (Nat.repeat (packW w) k c).length = 16 ∧ SameP (Nat.repeat (packW w) k c) c ∧ ∀ x, S x → iget (Nat.repeat (packW w) k c) x = iget c (itr g k x) := by
    intro k
    induction k with
    | zero => exact ⟨hb, fun i _ => Iff.rfl, fun x _ => rfl⟩
    | succ k ih =>
      obtain ⟨i1, i2, i3⟩ := ih
      obtain ⟨o1, o2⟩ := one i1 i2
      refine ⟨packW_len w i1, o1, fun x hx => ?_⟩
      show iget (packW w (Nat.repeat (packW w) k c)) x = _
      rw [o2 x hx, i3 _ (hS x hx)]; rfl
  obtain ⟨a1, a2, a3⟩ := all 720720
  refine ext16 a1 hb fun i hi => ?_
  by_cases h0 : iget c i = 0
  · rw [h0, (a2 i hi).2 h0]
  · rw [a3 i ⟨hi, h0⟩, itr_back hS (fun x hx => hx.1) hinj ⟨hi, h0⟩]
end Go.Lv.P

namespace Go.Lv.P
open Go Go.Lv
/-- the potential as a sum -/
def pt (x : Int) : Int := if 0 < x then (x - 1) * W x else 0
theorem pt_facts {x : Int} (h : inB x 0 17 = true) : 0 ≤ pt x ∧ pt x ≤ 2097152 := by
  rcases tile_cases h with e | e | e | e | e | e | e | e | e | e | e | e | e | e | e | e | e | e <;> subst e <;> decide
theorem pst_eq {x : Int} (h : inB x 0 17 = true) {s : Int} (h0 : 0 ≤ s) (h1 : s ≤ 1000000000) : pst x s = s + pt x := by
  have hp := pt_facts h
  have hx : 0 ≤ x ∧ x ≤ 17 := by simpa [inB] using h
  unfold pst
  by_cases hx0 : 0 < x
  · have e : pt x = (x - 1) * W x := by unfold pt; rw [if_pos hx0]
    rw [decide_eq_true hx0, cond_true, wrap_of (n := x - 1) (by omega) (by omega), ← e, wrap_of (n := pt x) (by omega) (by omega), wrap_of (by omega) (by omega)]
  · have e : pt x = 0 := by unfold pt; rw [if_neg hx0]
    rw [decide_eq_false hx0, cond_false, e]; omega
theorem fld_drop {g : Int → Int → Int} (b : List Int) : ∀ (m i : Nat) (s : Int), i + m = b.length → fld (fun i s => g (iget b (0 + i)) s) i m s = (b.drop i).foldl (fun s x => g x s) s
  | 0, i, s, h => by rw [List.drop_eq_nil_of_le (by omega)]; rfl
  | m + 1, i, s, h => by
    have hi : i < b.length := by omega
    rw [fld, fld_drop b m (i + 1) _ (by omega), List.drop_eq_getElem_cons hi, List.foldl_cons, Nat.zero_add, igetL, List.getElem?_eq_getElem hi]; rfl
theorem pst_fold : ∀ (l : List Int) (s : Int), (∀ x ∈ l, inB x 0 17 = true) → 0 ≤ s → s + 2097152 * l.length ≤ 1000000000 → l.foldl (fun s x => pst x s) s = s + fs pt l
  | [], s, _, _, _ => by simp [fs]
  | x :: l, s, h, h0, h1 => by
    have hx := h x List.mem_cons_self
    have hp := pt_facts hx
    simp only [List.length_cons] at h1
    rw [List.foldl_cons, pst_eq hx h0 (by omega), pst_fold l _ (fun y hy => h y (List.mem_cons_of_mem _ hy)) (by omega) (by omega), fs]; omega
theorem potB_fs {b : List Int} (hb : b.length = 16) (ok : okB b = true) : potB b = fs pt b ∧ 0 ≤ potB b ∧ potB b ≤ 33554432 := by
  have e : potB b = fs pt b := by
    unfold potB
    rw [fld_drop b 16 0 0 (by omega), List.drop_zero, pst_fold b 0 ((okB_iff b).1 ok) (Int.le_refl _) (by omega)]; omega
  have h := fs_bound (f := pt) (m := 2097152) (l := b) fun x hx => pt_facts ((okB_iff b).1 ok x hx)
  rw [e]
  exact ⟨rfl, by omega, by omega⟩
end Go.Lv.P

namespace Go.Lv.P
open Go Go.Lv
set_option maxRecDepth 100000
end Go.Lv.P

namespace Go.Lv.P
open Go Go.Lv
def Gd (b : List Int) : Prop := b.length = 16 ∧ okB b = true
/-- all slides of a list -/
def stp (w : List Nat) (b : List Int) : List Int := w.foldl (fun b d => (slideB b d).1) b
theorem stp_nil (b : List Int) : stp [] b = b := rfl
theorem packW_nil (b : List Int) : packW [] b = b := rfl
theorem packW_cons (d : Nat) (w : List Nat) (b : List Int) : packW (d :: w) b = packW w (packB b d) := rfl
theorem stp_cons (d : Nat) (w : List Nat) (b : List Int) : stp (d :: w) b = stp w (slideB b d).1 := rfl
theorem slide_tiles {b : List Int} (g : Gd b) {d : Nat} (hd : d < 4) : fs isT (slideB b d).1 = fs isT b - (((boardM b d).length : Nat) : Int) := by
  have key : ∀ l : List Int, (∀ m ∈ l, inB m 2 17 = true) → fs (fun m => isT m - 2 * isT (m - 1)) l = -((l.length : Nat) : Int) := by
    intro l
    induction l with
    | nil => intro _; rfl
    | cons x l ih =>
      intro h
      have hx := h x List.mem_cons_self
      simp [inB] at hx
      simp only [fs, List.length_cons]
      rw [ih fun m hm => h m (List.mem_cons_of_mem _ hm), isT, isT, if_neg (by omega), if_neg (by omega)]
      omega
  rw [slide_fs g.1 g.2 isT rfl hd, key _ (boardM_ok g.1 g.2 hd)]; omega
theorem stp_good : ∀ (w : List Nat), (∀ d ∈ w, d < 4) → ∀ {b : List Int}, Gd b → Gd (stp w b)
  | [], _, b, g => g
  | d :: w, hw, b, g => by
    rw [stp_cons]
    exact stp_good w (fun e he => hw e (List.mem_cons_of_mem _ he)) (slide_ok g.1 g.2 (hw d List.mem_cons_self))
theorem stp_tiles : ∀ (w : List Nat), (∀ d ∈ w, d < 4) → ∀ {b : List Int}, Gd b → fs isT (stp w b) ≤ fs isT b ∧ (fs isT (stp w b) = fs isT b → stp w b = packW w b)
  | [], _, b, g => by rw [stp_nil, packW_nil]; exact ⟨Int.le_refl _, fun _ => rfl⟩
  | d :: w, hw, b, g => by
    have hd := hw d List.mem_cons_self
    have h1 := slide_tiles g hd
    obtain ⟨h2, h3⟩ := stp_tiles w (fun e he => hw e (List.mem_cons_of_mem _ he)) (b := (slideB b d).1) (slide_ok g.1 g.2 hd)
    rw [stp_cons]
    refine ⟨by omega, fun e => ?_⟩
    have h0 : boardM b d = [] := List.length_eq_zero_iff.1 (by omega)
    rw [h3 (by omega), slide_pack h0, packW_cons]
/-- so many rounds -/
def rn (w : List Nat) (b : List Int) (k : Nat) : List Int := Nat.repeat (stp w) k b
theorem rn_succ (w : List Nat) (b : List Int) (k : Nat) : rn w b (k + 1) = stp w (rn w b k) := rfl
theorem rn_add (w : List Nat) (b : List Int) (a : Nat) : ∀ k, rn w b (a + k) = rn w (rn w b a) k
  | 0 => rfl
  | k + 1 => by rw [← Nat.add_assoc, rn_succ, rn_succ, rn_add w b a k]
def encN (b : List Int) : Nat → Nat
  | 0 => 0
  | n + 1 => 2 * encN b n + (if iget b n = 0 then 0 else 1)
theorem encN_lt (b : List Int) : ∀ n, encN b n < 2 ^ n
  | 0 => Nat.one_pos
  | n + 1 => by
    have := encN_lt b n
    rw [encN, Nat.pow_succ]
    split <;> omega
theorem encN_inj (a b : List Int) : ∀ n, encN a n = encN b n → ∀ i, i < n → (iget a i = 0 ↔ iget b i = 0)
  | 0, _, i, hi => by omega
  | n + 1, h, i, hi => by
    rw [encN, encN] at h
    by_cases ha : iget a n = 0 <;> by_cases hb : iget b n = 0
    · rw [if_pos ha, if_pos hb] at h
      by_cases e : i = n
      · subst e; exact ⟨fun _ => hb, fun _ => ha⟩
      · exact encN_inj a b n (by omega) i (by omega)
    · rw [if_pos ha, if_neg hb] at h; omega
    · rw [if_neg ha, if_pos hb] at h; omega
    · rw [if_neg ha, if_neg hb] at h
      by_cases e : i = n
      · subst e; exact ⟨fun h => absurd h ha, fun h => absurd h hb⟩
      · exact encN_inj a b n (by omega) i (by omega)
theorem packW_append (u w : List Nat) (b : List Int) : packW (u ++ w) b = packW w (packW u b) := List.foldl_append
/-- T rounds -/
def wT (w : List Nat) : Nat → List Nat
  | 0 => []
  | T + 1 => wT w T ++ w
theorem wT_lt {w : List Nat} (hw : ∀ d ∈ w, d < 4) : ∀ T, ∀ d ∈ wT w T, d < 4
  | 0, d, h => by simp [wT] at h
  | T + 1, d, h => by
    simp only [wT, List.mem_append] at h
    rcases h with h | h
    · exact wT_lt hw T d h
    · exact hw d h
theorem tiles_le {b : List Int} (g : Gd b) : 0 ≤ fs isT b ∧ fs isT b ≤ 16 := by
  have := fs_bound (f := isT) (m := 1) (l := b) fun x _ => by unfold isT; split <;> omega
  have := g.1
  omega
section
variable {w : List Nat} (hw : ∀ d ∈ w, d < 4) {b : List Int} (g : Gd b)
include hw g
theorem rn_good : ∀ k, Gd (rn w b k)
  | 0 => g
  | k + 1 => stp_good w hw (rn_good k)
theorem rn_le : ∀ k j, fs isT (rn w b (k + j)) ≤ fs isT (rn w b k)
  | k, 0 => Int.le_refl _
  | k, j + 1 => Int.le_trans (stp_tiles w hw (rn_good hw g (k + j))).1 (rn_le k j)
/-- rounds without mergers -/
theorem rn_pack {lo hi : Nat} (he : fs isT (rn w b lo) = fs isT (rn w b hi)) : ∀ T k, lo ≤ k → k + T ≤ hi → rn w b (k + T) = packW (wT w T) (rn w b k)
  | 0, k, _, _ => rfl
  | T + 1, k, h1, h2 => by
    have ih := rn_pack he T k h1 (by omega)
    obtain ⟨s1, s2⟩ := stp_tiles w hw (rn_good hw g (k + T))
    have a1 := rn_le hw g lo (k + T - lo)
    rw [show lo + (k + T - lo) = k + T by omega] at a1
    have a2 := rn_le hw g (k + T + 1) (hi - (k + T + 1))
    rw [show k + T + 1 + (hi - (k + T + 1)) = hi by omega] at a2
    have e : rn w b (k + T + 1) = stp w (rn w b (k + T)) := rfl
    rw [e] at a2
    show rn w b (k + T + 1) = _
    rw [e, s2 (by omega), ih, wT, packW_append]
theorem rn_turn {lo hi : Nat} (he : fs isT (rn w b lo) = fs isT (rn w b hi)) {k T : Nat} (h1 : lo ≤ k) : ∀ m, k + m * T ≤ hi → rn w b (k + m * T) = Nat.repeat (packW (wT w T)) m (rn w b k)
  | 0, _ => by rw [Nat.zero_mul]; rfl
  | m + 1, h2 => by
    rw [Nat.add_mul, Nat.one_mul] at h2
    have ih := rn_turn he (T := T) h1 m (by omega)
    have hp := rn_pack hw g he T (k + m * T) (by omega) (by omega)
    rw [Nat.add_mul, Nat.one_mul, ← Nat.add_assoc, hp, ih]; rfl
/-- a board comes back -/
theorem comes_back_gen (K : Nat) (hK : K = 65536 + 720720 * 65536) : ∃ i j, i < j ∧ j ≤ 17 * K ∧ rn w b i = rn w b j := by
  have hblock : ∃ c, c ≤ 16 ∧ fs isT (rn w b (c * K)) = fs isT (rn w b (c * K + K)) := by
    refine Classical.byContradiction fun hn => ?_
    have key : ∀ c : Nat, c ≤ 17 → fs isT (rn w b (c * K)) + (c : Int) ≤ 16 := by
      intro c
      induction c with
      | zero => intro _; have := (tiles_le (rn_good hw g (0 * K))).2; omega
      | succ c ih =>
        intro hc
        have h1 := ih (by omega)
        have h2 := rn_le hw g (c * K) K
        have h3 : fs isT (rn w b (c * K)) ≠ fs isT (rn w b (c * K + K)) := fun e => hn ⟨c, by omega, e⟩
        rw [show (c + 1) * K = c * K + K by rw [Nat.add_mul, Nat.one_mul]]
        omega
    have h1 := key 17 (Nat.le_refl _)
    have h2 := (tiles_le (rn_good hw g (17 * K))).1
    omega
  obtain ⟨c, hc, he⟩ := hblock
  have hcK : c * K ≤ 16 * K := Nat.mul_le_mul_right K hc
  generalize hN : (65536 : Nat) = N at hK
  obtain ⟨i, j, h1, h2, h3⟩ := pigeon N (fun k => encN (rn w b (c * K + k)) 16) fun k _ => by rw [← hN]; exact encN_lt _ 16
  have h3 : encN (rn w b (c * K + i)) 16 = encN (rn w b (c * K + j)) 16 := h3
  obtain ⟨T, rfl⟩ : ∃ T, j = i + T := ⟨j - i, by omega⟩
  have hTN : 720720 * (i + T) ≤ 720720 * N := Nat.mul_le_mul_left _ h2
  have hp := rn_pack hw g he T (c * K + i) (by omega) (by omega)
  rw [Nat.add_assoc] at hp
  have hs : SameP (packW (wT w T) (rn w b (c * K + i))) (rn w b (c * K + i)) := by
    rw [← hp]
    intro x hx
    exact (encN_inj _ _ 16 h3 x hx).symm
  have hk := pack_back (wT w T) (wT_lt hw T) (rn_good hw g (c * K + i)).1 hs 0 rfl
  have ht := rn_turn hw g he (k := c * K + i) (T := T) (by omega) 720720 (by omega)
  rw [hk] at ht
  exact ⟨c * K + i, c * K + i + 720720 * T, by omega, by omega, ht.symm⟩
theorem comes_back : ∃ i j, i < j ∧ j ≤ 802963914752 ∧ rn w b i = rn w b j := by
  obtain ⟨i, j, h1, h2, h3⟩ := comes_back_gen hw g 47233171456 (by decide)
  exact ⟨i, j, h1, by omega, h3⟩
end
end Go.Lv.P

namespace Go.Lv.P
open Go Go.Lv
theorem rstep_score {s : RS} {x : Int} (hx : inB x 1 17 = true) (h0 : 0 ≤ s.2.1) (h1 : s.2.1 ≤ 1000000000) : s.2.1 ≤ (rstep s x).2.1 ∧ (rstep s x).2.1 ≤ s.2.1 + 131072 := by
  have hx1 : 1 ≤ x ∧ x ≤ 17 := by simpa [inB] using hx
  unfold rstep
  cases h17 : decide (x < 17) with
  | false =>
    simp only [Bool.and_false, Bool.false_and, cond_false]
    omega
  | true =>
    have h17 := of_decide_eq_true h17
    obtain ⟨w1, w2, _⟩ := W_facts (t := x + 1) (by simp [inB]; omega)
    cases decide (0 < s.1) && (iget s.2.2.2 (0 + (s.1 - 1) * 1) == x) && true && !s.2.2.1
    · simp only [cond_false]; omega
    · simp only [cond_true]
      rw [wrap_of (by omega) (by omega)]
      omega
theorem rfold_score : ∀ (l : List Int) (s : RS), (∀ x ∈ l, inB x 1 17 = true) → 0 ≤ s.2.1 → s.2.1 + 131072 * l.length ≤ 900000000 → s.2.1 ≤ (l.foldl rstep s).2.1 ∧ (l.foldl rstep s).2.1 ≤ s.2.1 + 131072 * l.length := by
  intro l
  induction l with
  | nil => intro s _ _ _; simp
  | cons y r ih =>
    intro s hl h0 h1
    simp only [List.length_cons] at h1
    obtain ⟨g1, g2⟩ := rstep_score (s := s) (hl y List.mem_cons_self) h0 (by omega)
    obtain ⟨g3, g4⟩ := ih (rstep s y) (fun z hz => hl z (List.mem_cons_of_mem _ hz)) (by omega) (by omega)
    simp only [List.foldl_cons, List.length_cons]
    omega
theorem tiles_in {row : List Int} (hr : ∀ x ∈ row, tileOK x) : ∀ x ∈ row.filter fun x => !(x == 0), inB x 1 17 = true := by
  intro x hx
  rw [List.mem_filter] at hx
  have h1 := hr x hx.1
  have h2 : x ≠ 0 := by simpa using hx.2
  simp [tileOK, inB] at h1
  simp [inB]
  omega
theorem rslide_score {row : List Int} (hl : row.length = 4) (hr : ∀ x ∈ row, tileOK x) : 0 ≤ (rslide row).2.1 ∧ (rslide row).2.1 ≤ 524288 := by
  have h := rfold_score _ (0, 0, false, [0, 0, 0, 0]) (tiles_in hr) (by simp) (by have := List.length_filter_le (fun x => !(x == 0)) row; simp only; omega)
  have hq := List.length_filter_le (fun x => !(x == 0)) row
  simp only [rslide]
  simp only at h
  omega
theorem rstep_inc {s : RS} {x : Int} (h : (rstep s x).1 = s.1 + 1) : rstep s x = (s.1 + 1, s.2.1, false, iset s.2.2.2 (0 + s.1 * 1) x) := by
  unfold rstep at h ⊢
  cases hc : decide (0 < s.1) && (iget s.2.2.2 (0 + (s.1 - 1) * 1) == x) && decide (x < 17) && !s.2.2.1 with
  | false => rfl
  | true => rw [hc] at h; simp at h
theorem iget_iset_ne (l : List Int) (i j : Nat) (x : Int) (h : i ≠ j) : iget (iset l i x) j = iget l j := by
  rw [igetL, igetL, isetL, List.getElem?_set_ne h]
/-- behind the tiles that lie there all is empty -/
def ends (s : RS) : Prop := ∀ j, s.1 ≤ j → iget s.2.2.2 j = 0
theorem rstep_ends {s : RS} {x : Int} (h : ends s) : ends (rstep s x) := by
  unfold rstep
  cases hc : decide (0 < s.1) && (iget s.2.2.2 (0 + (s.1 - 1) * 1) == x) && decide (x < 17) && !s.2.2.1 with
  | false =>
    intro j hj
    simp only [cond_false] at hj ⊢
    rw [iget_iset_ne _ _ _ _ (by omega)]
    exact h j (by omega)
  | true =>
    intro j hj
    simp only [Bool.and_eq_true, decide_eq_true_eq] at hc
    simp only [cond_true] at hj ⊢
    rw [iget_iset_ne _ _ _ _ (by omega)]
    exact h j (by omega)
theorem rfold_ends : ∀ (l : List Int) (s : RS), ends s → ends (l.foldl rstep s) ∧ (l.foldl rstep s).1 ≤ s.1 + l.length
  | [], s, h => ⟨h, Nat.le_refl _⟩
  | x :: r, s, h => by
    obtain ⟨g1, g2⟩ := rfold_ends r (rstep s x) (rstep_ends h)
    have := rstep_n s x
    exact ⟨g1, by simp only [List.foldl_cons, List.length_cons]; omega⟩
theorem rstep4 {a b c d : Int} (h4 : 4 ≤ (rstep (rstep (rstep (rstep (0, 0, false, [0, 0, 0, 0]) a) b) c) d).1) : rstep (rstep (rstep (rstep (0, 0, false, [0, 0, 0, 0]) a) b) c) d = (4, 0, false, [a, b, c, d]) := by
  have n1 : (rstep (0, 0, false, [0, 0, 0, 0]) a).1 ≤ 1 := rstep_n _ _
  have n2 := rstep_n (rstep (0, 0, false, [0, 0, 0, 0]) a) b
  have n3 := rstep_n (rstep (rstep (0, 0, false, [0, 0, 0, 0]) a) b) c
  have n4 := rstep_n (rstep (rstep (rstep (0, 0, false, [0, 0, 0, 0]) a) b) c) d
  have k1 : rstep (0, 0, false, [0, 0, 0, 0]) a = (1, 0, false, [a, 0, 0, 0]) := rstep_inc (by show (rstep (0, 0, false, [0, 0, 0, 0]) a).1 = 1; omega)
  rw [k1] at n2 n3 n4 h4 ⊢
  have n2 : (rstep (1, 0, false, [a, 0, 0, 0]) b).1 ≤ 2 := n2
  have k2 : rstep (1, 0, false, [a, 0, 0, 0]) b = (2, 0, false, [a, b, 0, 0]) := rstep_inc (by show (rstep (1, 0, false, [a, 0, 0, 0]) b).1 = 2; omega)
  rw [k2] at n3 n4 h4 ⊢
  have n3 : (rstep (2, 0, false, [a, b, 0, 0]) c).1 ≤ 3 := n3
  have k3 : rstep (2, 0, false, [a, b, 0, 0]) c = (3, 0, false, [a, b, c, 0]) := rstep_inc (by show (rstep (2, 0, false, [a, b, 0, 0]) c).1 = 3; omega)
  rw [k3] at n4 h4 ⊢
  have n4 : (rstep (3, 0, false, [a, b, c, 0]) d).1 ≤ 4 := n4
  exact rstep_inc (by show (rstep (3, 0, false, [a, b, c, 0]) d).1 = 4; omega)
/-- a row that is full behind its slide has not moved -/
theorem row_full {row : List Int} (hl : row.length = 4) (hf : ∀ x ∈ (rslide row).2.2.2, x ≠ 0) (hr : ∀ x ∈ row, tileOK x) : (rslide row).2.2.2 = row := by
  obtain ⟨a, b, c, d, rfl⟩ := list4 hl
  have h0 : ends (0, 0, false, [0, 0, 0, 0]) := fun j _ => by
    match j with
    | 0 => rfl
    | 1 => rfl
    | 2 => rfl
    | 3 => rfl
    | j + 4 => rfl
  obtain ⟨e1, e2⟩ := rfold_ends ([a, b, c, d].filter fun x => !(x == 0)) _ h0
  have h3 : iget (rslide [a, b, c, d]).2.2.2 3 ≠ 0 := by
    have hlen := (rslide_ok hr).1
    have := hf (rslide [a, b, c, d]).2.2.2[3] (List.getElem_mem _)
    rw [igetL, List.getElem?_eq_getElem (by omega)]
    exact this
  have h4 : 4 ≤ (rslide [a, b, c, d]).1 := by
    rcases Nat.lt_or_ge (rslide [a, b, c, d]).1 4 with h | h
    · exact absurd (e1 3 (by show (rslide [a, b, c, d]).1 ≤ 3; omega)) h3
    · exact h
  have hq : ([a, b, c, d].filter fun x => !(x == 0)).length = 4 := by
    have := List.length_filter_le (fun x : Int => !(x == 0)) [a, b, c, d]
    have e2 : (rslide [a, b, c, d]).1 ≤ 0 + ([a, b, c, d].filter fun x => !(x == 0)).length := e2
    simp only [List.length_cons, List.length_nil] at this
    omega
  have hall : ([a, b, c, d].filter fun x => !(x == 0)) = [a, b, c, d] := by
    apply (List.filter_sublist (l := [a, b, c, d]) (p := fun x => !(x == 0))).eq_of_length
    rw [hq]; rfl
  have hs : rslide [a, b, c, d] = rstep (rstep (rstep (rstep (0, 0, false, [0, 0, 0, 0]) a) b) c) d := by
    rw [rslide, hall]; rfl
  rw [hs] at h4 ⊢
  rw [rstep4 h4]
theorem slide_rows (b : List Int) (d : Nat) : (slideB b d).1 = putB (putB (putB (putB b d 0 (rslide (lineB b d 0)).2.2.2) d 1 (rslide (lineB b d 1)).2.2.2) d 2 (rslide (lineB b d 2)).2.2.2) d 3 (rslide (lineB b d 3)).2.2.2 := rfl
theorem rows_full {b r0 r1 r2 r3 : List Int} (hb : b.length = 16) (h0 : r0.length = 4) (h1 : r1.length = 4) (h2 : r2.length = 4) (h3 : r3.length = 4) {d : Nat} (hd : d < 4)
    (hf : ∀ x ∈ putB (putB (putB (putB b d 0 r0) d 1 r1) d 2 r2) d 3 r3, x ≠ 0) : (∀ x ∈ r0, x ≠ 0) ∧ (∀ x ∈ r1, x ≠ 0) ∧ (∀ x ∈ r2, x ≠ 0) ∧ ∀ x ∈ r3, x ≠ 0 := by
  obtain ⟨x0, x1, x2, x3, x4, x5, x6, x7, x8, x9, x10, x11, x12, x13, x14, x15, rfl⟩ := list16 hb
  obtain ⟨a0, a1, a2, a3, rfl⟩ := list4 h0
  obtain ⟨b0, b1, b2, b3, rfl⟩ := list4 h1
  obtain ⟨c0, c1, c2, c3, rfl⟩ := list4 h2
  obtain ⟨d0, d1, d2, d3, rfl⟩ := list4 h3
  obtain rfl | rfl | rfl | rfl : d = 0 ∨ d = 1 ∨ d = 2 ∨ d = 3 := by omega
  · have e : putB (putB (putB (putB [x0, x1, x2, x3, x4, x5, x6, x7, x8, x9, x10, x11, x12, x13, x14, x15] 0 0 [a0, a1, a2, a3]) 0 1 [b0, b1, b2, b3]) 0 2 [c0, c1, c2, c3]) 0 3 [d0, d1, d2, d3] = [a0, a1, a2, a3, b0, b1, b2, b3, c0, c1, c2, c3, d0, d1, d2, d3] := by kernel_rfl
    rw [e] at hf
    simp only [List.mem_cons, List.not_mem_nil, or_false, forall_eq_or_imp, forall_eq] at hf ⊢
    simp_all
  · have e : putB (putB (putB (putB [x0, x1, x2, x3, x4, x5, x6, x7, x8, x9, x10, x11, x12, x13, x14, x15] 1 0 [a0, a1, a2, a3]) 1 1 [b0, b1, b2, b3]) 1 2 [c0, c1, c2, c3]) 1 3 [d0, d1, d2, d3] = [a0, b0, c0, d0, a1, b1, c1, d1, a2, b2, c2, d2, a3, b3, c3, d3] := by kernel_rfl
    rw [e] at hf
    simp only [List.mem_cons, List.not_mem_nil, or_false, forall_eq_or_imp, forall_eq] at hf ⊢
    simp_all
  · have e : putB (putB (putB (putB [x0, x1, x2, x3, x4, x5, x6, x7, x8, x9, x10, x11, x12, x13, x14, x15] 2 0 [a0, a1, a2, a3]) 2 1 [b0, b1, b2, b3]) 2 2 [c0, c1, c2, c3]) 2 3 [d0, d1, d2, d3] = [a3, a2, a1, a0, b3, b2, b1, b0, c3, c2, c1, c0, d3, d2, d1, d0] := by kernel_rfl
    rw [e] at hf
    simp only [List.mem_cons, List.not_mem_nil, or_false, forall_eq_or_imp, forall_eq] at hf ⊢
    simp_all
  · have e : putB (putB (putB (putB [x0, x1, x2, x3, x4, x5, x6, x7, x8, x9, x10, x11, x12, x13, x14, x15] 3 0 [a0, a1, a2, a3]) 3 1 [b0, b1, b2, b3]) 3 2 [c0, c1, c2, c3]) 3 3 [d0, d1, d2, d3] = [a3, b3, c3, d3, a2, b2, c2, d2, a1, b1, c1, d1, a0, b0, c0, d0] := by kernel_rfl
    rw [e] at hf
    simp only [List.mem_cons, List.not_mem_nil, or_false, forall_eq_or_imp, forall_eq] at hf ⊢
    simp_all
theorem rows_self {b : List Int} (hb : b.length = 16) {d : Nat} (hd : d < 4) : putB (putB (putB (putB b d 0 (lineB b d 0)) d 1 (lineB b d 1)) d 2 (lineB b d 2)) d 3 (lineB b d 3) = b := by
  obtain ⟨x0, x1, x2, x3, x4, x5, x6, x7, x8, x9, x10, x11, x12, x13, x14, x15, rfl⟩ := list16 hb
  obtain rfl | rfl | rfl | rfl : d = 0 ∨ d = 1 ∨ d = 2 ∨ d = 3 := by omega
  all_goals kernel_rfl
theorem em_full {n : List Int} (hn : n.length = 16) (h : (em n).length = 0) : ∀ x ∈ n, x ≠ 0 := by
  have h : em n = [] := List.eq_nil_of_length_eq_zero h
  have key : ∀ c ∈ cells16, iget n (plc c) ≠ 0 := fun c hc h0 => by
    have : c ∈ em n := List.mem_filter.2 ⟨hc, by simpa using h0⟩
    rw [h] at this; cases this
  obtain ⟨x0, x1, x2, x3, x4, x5, x6, x7, x8, x9, x10, x11, x12, x13, x14, x15, rfl⟩ := list16 hn
  have g : ∀ (c : List Int) (x : Int), c ∈ cells16 → iget [x0, x1, x2, x3, x4, x5, x6, x7, x8, x9, x10, x11, x12, x13, x14, x15] (plc c) = x → x ≠ 0 := fun c x hc e => e ▸ key c hc
  intro x hx
  simp only [List.mem_cons, List.not_mem_nil, or_false] at hx
  rcases hx with rfl | rfl | rfl | rfl | rfl | rfl | rfl | rfl | rfl | rfl | rfl | rfl | rfl | rfl | rfl | rfl
  · exact g [0, 0] _ (by decide) rfl
  · exact g [0, 1] _ (by decide) rfl
  · exact g [0, 2] _ (by decide) rfl
  · exact g [0, 3] _ (by decide) rfl
  · exact g [1, 0] _ (by decide) rfl
  · exact g [1, 1] _ (by decide) rfl
  · exact g [1, 2] _ (by decide) rfl
  · exact g [1, 3] _ (by decide) rfl
  · exact g [2, 0] _ (by decide) rfl
  · exact g [2, 1] _ (by decide) rfl
  · exact g [2, 2] _ (by decide) rfl
  · exact g [2, 3] _ (by decide) rfl
  · exact g [3, 0] _ (by decide) rfl
  · exact g [3, 1] _ (by decide) rfl
  · exact g [3, 2] _ (by decide) rfl
  · exact g [3, 3] _ (by decide) rfl
section
variable {b : List Int} (hb : b.length = 16) (ok : okB b = true)
include hb ok
/-- a board that changes has an empty cell behind the slide -/
theorem slide_room {d : Nat} (hd : d < 4) (h : ((slideB b d).1 == b) = false) : 0 < (em (slideB b d).1).length := by
  rcases Nat.eq_zero_or_pos (em (slideB b d).1).length with h0 | h0
  · exfalso
    have hf := em_full (slide_ok hb ok hd).1 h0
    rw [slide_rows] at hf
    have hl : ∀ i, i < 4 → ∀ x ∈ lineB b d i, tileOK x := fun i hi => line_ok hb ((okB_iff b).1 ok) hd hi
    obtain ⟨f0, f1, f2, f3⟩ := rows_full hb (rslide_ok (hl 0 (by omega))).1 (rslide_ok (hl 1 (by omega))).1 (rslide_ok (hl 2 (by omega))).1 (rslide_ok (hl 3 (by omega))).1 hd hf
    have e := slide_rows b d
    rw [row_full rfl f0 (hl 0 (by omega)), row_full rfl f1 (hl 1 (by omega)), row_full rfl f2 (hl 2 (by omega)), row_full rfl f3 (hl 3 (by omega)), rows_self hb hd] at e
    rw [e] at h
    simp at h
  · exact h0
theorem slide_score {d : Nat} (hd : d < 4) : 0 ≤ (slideB b d).2 ∧ (slideB b d).2 ≤ 2097152 := by
  have hl : ∀ i, i < 4 → 0 ≤ (rslide (lineB b d i)).2.1 ∧ (rslide (lineB b d i)).2.1 ≤ 524288 := fun i hi => rslide_score rfl (line_ok hb ((okB_iff b).1 ok) hd hi)
  have l0 := hl 0 (by omega)
  have l1 := hl 1 (by omega)
  have l2 := hl 2 (by omega)
  have l3 := hl 3 (by omega)
  have e : (slideB b d).2 = IntKind.wrap .i64 (IntKind.wrap .i64 (IntKind.wrap .i64 (IntKind.wrap .i64 (0 + (rslide (lineB b d 0)).2.1) + (rslide (lineB b d 1)).2.1) + (rslide (lineB b d 2)).2.1) + (rslide (lineB b d 3)).2.1) := rfl
  rw [e, wrap_of (n := 0 + _) (by omega) (by omega), wrap_of (n := 0 + _ + _) (by omega) (by omega), wrap_of (n := 0 + _ + _ + _) (by omega) (by omega), wrap_of (by omega) (by omega)]
  omega
end
end Go.Lv.P


namespace Go.Lv.P
open Go Go.Lv
/-- the directions in which a slide is a move -/
def movesB (b : List Int) : List Int := fld (fun d out => bif (!((slideB b d).1 == b)) then out ++ [(d : Int)] else out) 0 4 []
theorem moves_step {c : Bool} {d : Nat} {out : List Int} (h : out.length ≤ d) : (bif c then out ++ [(d : Int)] else out).length ≤ d + 1 := by
  cases c
  · simp; omega
  · simp; omega
theorem movesB_eq (b : List Int) : movesB b = ((List.range 4).filter fun d => !((slideB b d).1 == b)).map fun d : Nat => (d : Int) := by
  have e : List.range 4 = [0, 1, 2, 3] := rfl
  rw [e]
  simp only [movesB, fld, List.filter]
  cases ((slideB b 0).1 == b) <;> cases ((slideB b (0 + 1)).1 == b) <;> cases ((slideB b (0 + 1 + 1)).1 == b) <;> cases ((slideB b (0 + 1 + 1 + 1)).1 == b) <;> rfl
theorem movesB_len (b : List Int) : (movesB b).length ≤ 4 := by
  rw [movesB_eq, List.length_map]
  exact List.length_filter_le _ _
theorem movesB_mem {b : List Int} {x : Int} (h : x ∈ movesB b) : ∃ d : Nat, x = d ∧ d < 4 ∧ ((slideB b d).1 == b) = false := by
  rw [movesB_eq] at h
  simp only [List.mem_map, List.mem_filter, List.mem_range] at h
  obtain ⟨d, ⟨h1, h2⟩, rfl⟩ := h
  exact ⟨d, rfl, h1, by simpa using h2⟩
end Go.Lv.P

namespace Go.Lv.P
open Go Go.Lv
/-- a board with a placement -/
def putP (b p : List Int) : List Int := iset b (0 + (iget p 0).toNat * 4 + (iget p 1).toNat * 1) (iget p 2)
theorem plm_in (b : List Int) : ∀ p ∈ plm b, inR (iget p 0) 4 = true ∧ inR (iget p 1) 4 = true ∧ inB (iget p 2) 1 2 = true := by
  rw [plm, fld_add]
  intro x hx
  simp only [List.nil_append, List.mem_flatMap, List.mem_cons, List.not_mem_nil, or_false] at hx
  obtain ⟨i, hi, hx⟩ := hx
  have hi : i < (em b).length := by
    have := List.mem_range'_1.1 hi
    omega
  have hm : rget (em b) i ∈ cells16 := by
    rw [rgetL, List.getElem?_eq_getElem hi]
    exact em_mem b _ (List.getElem_mem _)
  have key : ∀ c ∈ cells16, inR (iget c 0) 4 = true ∧ inR (iget c 1) 4 = true := cells_all fun r c hr hc => ⟨by show inR (r : Int) 4 = true; rw [inR_cast]; simpa using hr, by show inR (c : Int) 4 = true; rw [inR_cast]; simpa using hc⟩
  obtain ⟨k0, k1⟩ := key _ hm
  rcases hx with rfl | rfl
  · exact ⟨k0, k1, rfl⟩
  · exact ⟨k0, k1, rfl⟩
theorem rget_mem {l : LL} {i : Nat} (h : i < l.length) : rget l i ∈ l := by
  rw [rgetL, List.getElem?_eq_getElem h]
  exact List.getElem_mem _
theorem putP_ok {b p : List Int} (hb : b.length = 16) (ok : okB b = true) (h2 : inB (iget p 2) 1 2 = true) : (putP b p).length = 16 ∧ okB (putP b p) = true := by
  refine ⟨by rw [putP, iset_len]; exact hb, (okB_iff _).2 (iset_all ((okB_iff b).1 ok) _ ?_)⟩
  simp [inB] at h2
  simp [tileOK, inB]
  omega
end Go.Lv.P

namespace Go.Lv.P
open Go Go.Lv
section
variable {b : List Int} (hb : b.length = 16) (ok : okB b = true)
include hb ok
theorem impl_slides1 (F : Nat) (hF : 1000 < F) {d : Nat} (hd : d < 4) : impl_Board_slides_p F b [(d : Int)] = some (slideB b d).1 := by
  obtain ⟨m, hm⟩ := impl_slide hb ok F hF hd
  have h := loop_fold (step := impl_Board_slides_s2 F [(d : Int)] 1) (fun i (a : List Int) => (i, a)) 1 (fun i a => (slideB b d).1) (fun a => a) (fun i a => i = 0 → a = b) (F := F) (by omega) (by omega) (a := b) (fun _ => rfl)
    (fun i a hi h => by
      obtain rfl : i = 0 := by omega
      refine ⟨fun h => absurd h (by omega), fun Q kn kx => ?_⟩
      have h0 : ((0 : Nat) : Int) < 1 := by omega
      have hg : iget [(d : Int)] 0 = d := rfl
      simp only [impl_Board_slides_s2, h0, decide_true, cond_true, inR_cast, List.length_singleton, Nat.zero_lt_one, Int.toNat_natCast, hg, h rfl, hm, Option.isSome_some, Option.getD_some])
    (fun a _ Q kn kx => by simp [impl_Board_slides_s2])
  have e : impl_Board_slides_l2 F [(d : Int)] 1 0 b = some (slideB b d).1 := h.1
  have e' : (([(d : Int)].length : Nat) : Int) = 1 := rfl
  simp only [impl_Board_slides_p, impl_Board_slides_c, e', e, Option.isSome_some, Option.getD_some, cond_true]
end
end Go.Lv.P

namespace Go.Lv.P
open Go Go.Lv
/-- the two steps with a cell -/
def step1 (d : Int) (c : List Int) : List Int := iset (splice [d, 0, 0, 0] 1 c 2) 3 1
def step2 (d : Int) (c : List Int) : List Int := iset (splice [d, 0, 0, 0] 1 c 2) 3 2
/-- the steps onto a board -/
def stepsOn (n : List Int) (d : Int) : LL := fld (fun i a => a ++ [step1 d (rget (em n) i), step2 d (rget (em n) i)]) 0 (em n).length []
def stepsB (b : List Int) (d : Nat) : LL := bif (slideB b d).1 == b then [] else stepsOn (slideB b d).1 (d : Int)
theorem stepsOn_len (n : List Int) (d : Int) : (stepsOn n d).length = 2 * (em n).length := by
  rw [stepsOn, fld_add]
  have : ∀ m i, ((List.range' i m).flatMap fun i => [step1 d (rget (em n) i), step2 d (rget (em n) i)]).length = 2 * m := by
    intro m
    induction m with
    | zero => intro i; rfl
    | succ m ih => intro i; rw [List.range'_succ, List.flatMap_cons, List.length_append, ih]; simp; omega
  simpa using this (em n).length 0
theorem cells_len : ∀ x ∈ cells16, x.length = 2 := cells_all fun _ _ _ _ => rfl
theorem em_get {n : List Int} {i : Nat} (h : i < (em n).length) : rget (em n) i ∈ cells16 := by
  rw [rgetL, List.getElem?_eq_getElem h]
  exact em_mem n _ (List.getElem_mem _)
theorem step1_eq (d x y : Int) : step1 d [x, y] = [d, x, y, 1] := rfl
theorem step2_eq (d x y : Int) : step2 d [x, y] = [d, x, y, 2] := rfl
theorem stepsOn_mem (n : List Int) (d : Int) : ∀ x ∈ stepsOn n d, ∃ c ∈ em n, x = step1 d c ∨ x = step2 d c := by
  rw [stepsOn, fld_add]
  intro x hx
  simp only [List.nil_append, List.mem_flatMap, List.mem_cons, List.not_mem_nil, or_false] at hx
  obtain ⟨i, hi, hx⟩ := hx
  have hi : i < (em n).length := by
    have := List.mem_range'_1.1 hi
    omega
  refine ⟨rget (em n) i, ?_, hx⟩
  rw [rgetL, List.getElem?_eq_getElem hi]
  exact List.getElem_mem _
theorem stepsB_len (b : List Int) (d : Nat) : (stepsB b d).length ≤ 32 := by
  unfold stepsB
  generalize (slideB b d).1 = n
  cases n == b
  · have := stepsOn_len n d
    have := em_len n
    simp only [cond_false]
    omega
  · simp
theorem stepsB_mem (b : List Int) (d : Nat) : ∀ x ∈ stepsB b d, ∃ c ∈ em (slideB b d).1, x = step1 d c ∨ x = step2 d c := by
  unfold stepsB
  generalize (slideB b d).1 = n
  cases n == b
  · simp only [cond_false]; exact stepsOn_mem _ _
  · intro x hx; simp at hx
theorem stepsB_rows (b : List Int) (d : Nat) : ∀ x ∈ stepsB b d, x.length = 4 := by
  intro x hx
  obtain ⟨c, hc, h⟩ := stepsB_mem b d x hx
  obtain ⟨p, q, rfl⟩ := list2 (cells_len c (em_mem _ _ hc))
  rcases h with rfl | rfl <;> rfl
end Go.Lv.P

namespace Go.Lv.P
open Go Go.Lv
def sidesL (l : List Int) : Bool := l.all fun x => inB x 0 3
theorem areDir_eq (F : Nat) (s : List Int) (hs : s.length ≤ 1000) (hF : 1000 < F) : impl_areDirections_p F s = some (sidesL s) := by
  have h : slices_IndexFunc_intint_impl_areDirections_f1_l2 F s s.length 0 = some (fnd (fun i => !inB (iget s i) 0 3) (fun i => (true, (i : Int))) (false, default) 0 s.length) := by
    refine loop_find (fun i => i) s.length _ _ _ (by omega) (by omega) (fun i hi Q kn kx => ?_) fun Q kn kx => ?_
    · simp only [slices_IndexFunc_intint_impl_areDirections_f1_s2, inR_cast, hi, impl_areDirections_f1_v, impl_isDirection_v, in_eq, Int.toNat_natCast, decide_true, cond_true, Int.ofNat_lt]
    · simp [slices_IndexFunc_intint_impl_areDirections_f1_s2]
  have hp := fnd_place (fun i => !inB (iget s i) 0 3) s.length
  rw [any_iget s fun x => !inB x 0 3] at hp
  have ha : sidesL s = !(s.any fun x => !inB x 0 3) := (any_not_all s fun x => inB x 0 3).symm
  simp only [impl_areDirections_p, impl_areDirections_c, slices_ContainsFunc_intint_impl_areDirections_f1_p, slices_ContainsFunc_intint_impl_areDirections_f1_c, slices_IndexFunc_intint_impl_areDirections_f1_p, slices_IndexFunc_intint_impl_areDirections_f1_c, h, Option.isSome_some, Option.getD_some, cond_true]
  rw [ha, ← hp]
  cases (fnd (fun i => !inB (iget s i) 0 3) (fun i => (true, (i : Int))) (false, default) 0 s.length).1 <;> rfl
/-- one slide more, and the score -/
def dstep (s : List Int × Int) (x : Int) : List Int × Int := ((slideB s.1 x.toNat).1, IntKind.wrap .i64 (s.2 + (slideB s.1 x.toNat).2))
def doS (b : List Int) (l : List Int) : List Int × Int := l.foldl dstep (b, 0)
theorem dstep_fst : ∀ (l : List Int) (s : List Int × Int), (l.foldl dstep s).1 = stp (l.map Int.toNat) s.1
  | [], s => rfl
  | x :: l, s => by rw [List.foldl_cons, dstep_fst l]; rfl
theorem doS_fst (b l : List Int) : (doS b l).1 = stp (l.map Int.toNat) b := dstep_fst l _
theorem sides_nat {l : List Int} (h : sidesL l = true) : ∀ i, i < l.length → ∃ d : Nat, iget l i = (d : Int) ∧ d < 4 := fun i hi => by
  simp only [sidesL, List.all_eq_true] at h
  have := h (iget l i) (by rw [igetL, List.getElem?_eq_getElem hi]; exact List.getElem_mem _)
  simp [inB] at this
  exact ⟨(iget l i).toNat, by omega, by omega⟩
theorem sides_lt {l : List Int} (h : sidesL l = true) : ∀ d ∈ l.map Int.toNat, d < 4 := fun d hd => by
  obtain ⟨x, hx, rfl⟩ := List.mem_map.1 hd
  simp only [sidesL, List.all_eq_true] at h
  have := h x hx
  simp [inB] at this; omega
theorem fld_igetl {A : Type} (l : List Int) (g : A → Int → A) : ∀ (m i : Nat) (a : A), i + m = l.length → fld (fun i s => g s (iget l i)) i m a = (l.drop i).foldl g a
  | 0, i, a, h => by rw [List.drop_eq_nil_of_le (by omega)]; rfl
  | m + 1, i, a, h => by
    have hi : i < l.length := by omega
    rw [fld, fld_igetl l g m (i + 1) _ (by omega), List.drop_eq_getElem_cons hi, List.foldl_cons, igetL, List.getElem?_eq_getElem hi]; rfl
theorem doSl_val (F : Nat) {b : List Int} (hb : b.length = 16) (l : List Int) (hl : l.length ≤ 900) (hF : 1000 < F) : impl_DoSlides_p F b l = some (bif okB b && sidesL l then ((doS b l).1, (doS b l).2, true) else ([0, 0, 0, 0, 0, 0, 0, 0, 0, 0, 0, 0, 0, 0, 0, 0], 0, false)) := by
  simp only [impl_DoSlides_p, impl_DoSlides_c, impl_IsBoard_eq F b hb hF, areDir_eq F l (by omega) hF, Option.isSome_some, Option.getD_some, cond_true]
  cases hB : okB b with
  | false => rfl
  | true =>
    cases hs : sidesL l with
    | false => rfl
    | true =>
      have h := loop_fold (step := impl_DoSlides_s5 F l ((l.length : Nat) : Int)) (fun i (s : List Int × Int) => (s.2, i, s.1)) l.length (fun i s => dstep s (iget l i)) (fun s => (s.2, s.1)) (fun i s => Gd s.1) (F := F) (by omega) (by omega) (a := (b, 0)) ⟨hb, hB⟩
        (fun i s hi g => by
          obtain ⟨d, hd, hd4⟩ := sides_nat hs i hi
          obtain ⟨m, hm⟩ := impl_slide g.1 g.2 F hF hd4
          rw [hd]
          refine ⟨?_, fun Q kn kx => ?_⟩
          · show Gd (slideB s.1 ((d : Nat) : Int).toNat).1
            rw [Int.toNat_natCast]; exact slide_ok g.1 g.2 hd4
          · simp only [impl_DoSlides_s5, Int.ofNat_lt, hi, decide_true, cond_true, inR_cast, Int.toNat_natCast, hd, hm, Option.isSome_some, Option.getD_some, dstep]) (fun s _ Q kn kx => by simp [impl_DoSlides_s5])
      have h1 := h.1
      rw [fld_igetl l dstep l.length 0 _ (by omega), List.drop_zero] at h1
      have h1 : impl_DoSlides_l5 F l ((l.length : Nat) : Int) 0 0 b = some ((doS b l).2, (doS b l).1) := h1
      simp only [h1, Option.isSome_some, Option.getD_some, cond_true, cond_false, Bool.not_true, Bool.and_self]
end Go.Lv.P

namespace Go.Lv.P
open Go Go.Lv
/-- the first placement behind which a board does not last, and whether there is one -/
def refF (L : List Int → Bool) (nx : List Int) : Bool × List Int := fnd (fun i => !L (putP nx (rget (plm nx) i))) (fun i => (true, rget (plm nx) i)) (false, default) 0 (plm nx).length
def refM (L : List Int → Bool) (nx : List Int) : List Int × Bool := bif (refF L nx).1 then ((refF L nx).2, true) else ([0, 0, 0], false)
def safeM (L : List Int → Bool) (b : List Int) (d : Nat) : Bool := bif (slideB b d).1 == b then false else !(refM L (slideB b d).1).2
def lastM (L : List Int → Bool) (b : List Int) : Bool := fnd (fun d => safeM L b d) (fun _ => true) false 0 4
def lastN : Nat → List Int → Bool
  | 0 => fun _ => true
  | n + 1 => lastM (lastN n)
theorem fnd_none {X : Type} (f : Nat → X) (e : X) (p : Nat → Bool) (h : ∀ i, p i = false) : ∀ (m i : Nat), fnd p f e i m = e
  | 0, _ => rfl
  | m + 1, i => by simp only [fnd, h, cond_false]; exact fnd_none f e p h m (i + 1)
theorem refM_0 (nx : List Int) : refM (lastN 0) nx = ([0, 0, 0], false) := by
  have : refF (lastN 0) nx = (false, default) := fnd_none _ _ _ (fun _ => rfl) _ _
  rw [refM, this]; rfl
theorem refM_len (L : List Int → Bool) (nx : List Int) : (refM L nx).1.length = 3 := by
  have key : ∀ (m i : Nat), i + m = (plm nx).length → (fnd (fun i => !L (putP nx (rget (plm nx) i))) (fun i => (true, rget (plm nx) i)) (false, default) i m).1 = true → (fnd (fun i => !L (putP nx (rget (plm nx) i))) (fun i => (true, rget (plm nx) i)) (false, default) i m).2.length = 3 := by
    intro m
    induction m with
    | zero => intro i _ h; cases h
    | succ m ih =>
      intro i hi h
      simp only [fnd] at h ⊢
      cases hc : (!L (putP nx (rget (plm nx) i))) with
      | true => exact plm_mem nx _ (rget_mem (by omega))
      | false => rw [hc] at h; exact ih (i + 1) (by omega) h
  unfold refM
  cases h : (refF L nx).1 with
  | true => exact key _ _ (by omega) h
  | false => rfl
/-- lasting, told by the moves -/
theorem lastM_moves (L : List Int → Bool) (b : List Int) : lastM L b = (movesB b).any fun x => !(refM L (slideB b x.toNat).1).2 := by
  have e : List.range 4 = [0, 1, 2, 3] := rfl
  rw [lastM, fnd_any, movesB_eq, e]
  simp only [safeM, List.any_cons, List.any_nil, List.filter]
  cases ((slideB b 0).1 == b) <;> cases ((slideB b 1).1 == b) <;> cases ((slideB b 2).1 == b) <;> cases ((slideB b 3).1 == b) <;> simp
theorem last1_moves (b : List Int) : lastN 1 b = !((((movesB b).length : Nat) : Int) == 0) := by
  show lastM (lastN 0) b = _
  rw [lastM_moves]
  simp only [refM_0, Bool.not_false]
  cases movesB b with
  | nil => rfl
  | cons x r =>
    simp
    omega
theorem safe_filter (L : List Int → Bool) (b : List Int) : (((List.range 4).filter fun d => safeM L b d).map fun d : Nat => (d : Int)) = (movesB b).filter fun x => !(refM L (slideB b x.toNat).1).2 := by
  have e : List.range 4 = [0, 1, 2, 3] := rfl
  rw [movesB_eq, e]
  simp only [safeM, List.filter]
  cases ((slideB b 0).1 == b) <;> cases ((slideB b 1).1 == b) <;> cases ((slideB b 2).1 == b) <;> cases ((slideB b 3).1 == b) <;>
    cases h0 : (refM L (slideB b 0).1).2 <;> cases h1 : (refM L (slideB b 1).1).2 <;> cases h2 : (refM L (slideB b 2).1).2 <;> cases h3 : (refM L (slideB b 3).1).2 <;> simp [List.filter, h0, h1, h2, h3]
theorem put_all {nx : List Int} (hb : nx.length = 16) (ok : okB nx = true) {p : List Int} (hp : p ∈ plm nx) :
    (inR (iget p 0) 4 = true ∧ inR (iget p 1) 4 = true) ∧ (putP nx p).length = 16 ∧ okB (putP nx p) = true :=
  have ⟨p0, p1, p2⟩ := plm_in nx _ hp
  ⟨⟨p0, p1⟩, putP_ok hb ok p2⟩
theorem plm_len40 (b : List Int) : (plm b).length ≤ 40 := by have := em_len b; rw [plm_len]; omega
end Go.Lv.P
