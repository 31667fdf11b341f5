/-
FnSlides: true for every input.
-/
import Derived.Test.YtabfliifleonaahQhP0
import Derived.Test.YtabfliifleonaahQhP3
import Derived.Test.YtabfliifleonaahQhP4
import Derived.Test.YtabfliifleonaahQhP5
import Derived.Test.YtabfliifleonaahQhPG1
import Derived.Test.YtabfliifleonaahQhPG2
import Derived.Test.YtabfliifleonaahQhPG5
import Derived.Test.YtabfliifleonaahQhPG3
namespace Go.Lv.P
open Go Go.Lv
set_option linter.unusedVariables false
set_option linter.unusedSimpArgs false
set_option linter.unusedSectionVars false

theorem slide_valL (F : Nat) {b : List Int} (g : Gd b) {d : Nat} (hd : d < 4) (hF : 1000 < F) : impl_SlideBoard_p F b d = some ((slideB b d).1, (slideB b d).2, true) := by
  obtain ⟨m, e⟩ := impl_slide g.1 g.2 F hF hd
  have h : inB (d : Int) 0 3 = true := by simp [inB]; omega
  simp only [impl_SlideBoard_p, impl_SlideBoard_c, impl_IsBoard_eq F b g.1 hF, g.2, impl_isDirection_v, in_eq, h, e, Option.isSome_some, Option.getD_some, cond_true, cond_false, Bool.not_true]
section
variable {c : List Int} (hc : Byt c) (F : Nat) (hF : 1000 < F)
include hc hF
theorem sides_loopD : ∀ (k G n : Nat), k < G → n + 20 * k ≤ 700000000 → ∀ (a s : Int) (l : List Int), Cur n a → l.length + k ≤ 100 → ∃ (a' s' : Int) (l' : List Int), loopC (spec_DrawDoSlides_s4 F c) G ((k : Int), a, s, l) some = some (a', s', l') ∧ l'.length = l.length + k ∧ Cur (n + 20 * k) a'
  | 0, G, n, hG, hn, a, s, l, h, hl => by
    obtain ⟨G, rfl⟩ : ∃ G', G = G' + 1 := ⟨G - 1, by omega⟩
    exact ⟨a, s, l, rfl, rfl, h⟩
  | k + 1, G, n, hG, hn, a, s, l, h, hl => by
    obtain ⟨G, rfl⟩ : ∃ G', G = G' + 1 := ⟨G - 1, by omega⟩
    obtain ⟨v, a1, s1, e1, c1⟩ := side_ok hc (by omega) h (s := s)
    have c1 : Cur (n + 20) a1 := c1.mono (by omega)
    have hp : decide ((0 : Int) < ((k + 1 : Nat) : Int)) = true := decide_eq_true (by omega)
    have hw : IntKind.wrap .i64 (((k + 1 : Nat) : Int) - 1) = ((k : Nat) : Int) := by rw [wrap_of (by omega) (by omega)]; omega
    have hf : fits (l ++ [v]).length 8 = true := fits_of (by simp; omega) (by simp; omega)
    obtain ⟨a', s', l', e, q, cc⟩ := sides_loopD k G (n + 20) (by omega) (by omega) a1 s1 (l ++ [v]) c1 (by simp; omega)
    refine ⟨a', s', l', ?_, by rw [q]; simp; omega, cc.mono (by omega)⟩
    rw [← e]
    show spec_DrawDoSlides_s4 F c _ _ _ _ = _
    simp only [spec_DrawDoSlides_s4, hp, e1, subn_self, hf, hw, Option.isSome_some, Option.getD_some, cond_true]
theorem sides_loopC : ∀ (k G n : Nat), k < G → n + 20 * k ≤ 700000000 → ∀ (a s : Int) (l : List Int), Cur n a → l.length + k ≤ 100 → ∃ (a' s' : Int) (l' : List Int), loopC (spec_DrawSlideCycle_s4 F c) G ((k : Int), a, s, l) some = some (a', s', l') ∧ l'.length = l.length + k ∧ Cur (n + 20 * k) a'
  | 0, G, n, hG, hn, a, s, l, h, hl => by
    obtain ⟨G, rfl⟩ : ∃ G', G = G' + 1 := ⟨G - 1, by omega⟩
    exact ⟨a, s, l, rfl, rfl, h⟩
  | k + 1, G, n, hG, hn, a, s, l, h, hl => by
    obtain ⟨G, rfl⟩ : ∃ G', G = G' + 1 := ⟨G - 1, by omega⟩
    obtain ⟨v, a1, s1, e1, c1⟩ := side_ok hc (by omega) h (s := s)
    have c1 : Cur (n + 20) a1 := c1.mono (by omega)
    have hp : decide ((0 : Int) < ((k + 1 : Nat) : Int)) = true := decide_eq_true (by omega)
    have hw : IntKind.wrap .i64 (((k + 1 : Nat) : Int) - 1) = ((k : Nat) : Int) := by rw [wrap_of (by omega) (by omega)]; omega
    have hf : fits (l ++ [v]).length 8 = true := fits_of (by simp; omega) (by simp; omega)
    obtain ⟨a', s', l', e, q, cc⟩ := sides_loopC k G (n + 20) (by omega) (by omega) a1 s1 (l ++ [v]) c1 (by simp; omega)
    refine ⟨a', s', l', ?_, by rw [q]; simp; omega, cc.mono (by omega)⟩
    rw [← e]
    show spec_DrawSlideCycle_s4 F c _ _ _ _ = _
    simp only [spec_DrawSlideCycle_s4, hp, e1, subn_self, hf, hw, Option.isSome_some, Option.getD_some, cond_true]
theorem draw_dosl : ∃ (b l : List Int), spec_DrawDoSlides_p F c = some (b, l) ∧ b.length = 16 ∧ l.length ≤ 12 := by
  obtain ⟨v1, a1, s1, e1, m1, c1⟩ := among_ok hc (n := 0) (by omega) (l := [2, 1, 3, 4, 0, 5, 12]) (by decide) (by decide) (a := 0) (s := 0) ⟨by omega, by omega⟩
  have hv : ∃ k : Nat, v1 = (k : Int) ∧ k ≤ 12 := by
    simp only [List.mem_cons, List.not_mem_nil, or_false] at m1
    exact ⟨v1.toNat, by omega, by omega⟩
  obtain ⟨k, rfl, hk⟩ := hv
  obtain ⟨a2, s2, l2, e2, q2, c2⟩ := sides_loopD hc F hF k F _ (by omega) (by omega) a1 s1 [] c1 (by simp; omega)
  obtain ⟨b, a3, s3, e3, l3, _⟩ := board_ok hc F hF (by omega) c2 (s := s2)
  have e2 : spec_DrawDoSlides_l4 F c (k : Int) a1 s1 [] = some (a2, s2, l2) := e2
  simp only [List.length_nil, Nat.zero_add] at q2
  exact ⟨b, l2, by simp only [spec_DrawDoSlides_p, spec_DrawDoSlides_c, e1, e2, e3, Option.isSome_some, Option.getD_some, cond_true], l3, by omega⟩
theorem draw_cyc : ∃ (b l : List Int), spec_DrawSlideCycle_p F c = some (b, l) ∧ b.length = 16 ∧ l.length ≤ 12 := by
  obtain ⟨v1, a1, s1, e1, m1, c1⟩ := among_ok hc (n := 0) (by omega) (l := [2, 4, 1, 3, 2, 4, 0, 5]) (by decide) (by decide) (a := 0) (s := 0) ⟨by omega, by omega⟩
  have hv : ∃ k : Nat, v1 = (k : Int) ∧ k ≤ 12 := by
    simp only [List.mem_cons, List.not_mem_nil, or_false] at m1
    exact ⟨v1.toNat, by omega, by omega⟩
  obtain ⟨k, rfl, hk⟩ := hv
  obtain ⟨a2, s2, l2, e2, q2, c2⟩ := sides_loopC hc F hF k F _ (by omega) (by omega) a1 s1 [] c1 (by simp; omega)
  obtain ⟨b, a3, s3, e3, l3, _⟩ := board_ok hc F hF (by omega) c2 (s := s2)
  have e2 : spec_DrawSlideCycle_l4 F c (k : Int) a1 s1 [] = some (a2, s2, l2) := e2
  simp only [List.length_nil, Nat.zero_add] at q2
  exact ⟨b, l2, by simp only [spec_DrawSlideCycle_p, spec_DrawSlideCycle_c, e1, e2, e3, Option.isSome_some, Option.getD_some, cond_true], l3, by omega⟩
theorem draw_hbs : ∃ (b : List Int), spec_DrawHighestBySlides_p F c = some b ∧ b.length = 16 := by
  obtain ⟨b, a1, s1, e1, l1, c1⟩ := board_ok hc F hF (n := 0) (by omega) (a := 0) (s := 0) ⟨by omega, by omega⟩
  exact ⟨b, by simp only [spec_DrawHighestBySlides_p, spec_DrawHighestBySlides_c, e1, Option.isSome_some, Option.getD_some, cond_true], l1⟩
end
theorem pot_val (F : Nat) (hF : 1000 < F) {b : List Int} (g : Gd b) : impl_PotentialOf_p F b = some (potB b, true) := by
  simp only [impl_PotentialOf_p, impl_PotentialOf_c, impl_IsBoard_eq F b g.1 hF, g.2, impl_pot g.1 g.2 F hF, Option.isSome_some, Option.getD_some, cond_true, cond_false, Bool.not_true]
/-- slides one by one -/
theorem one_loop (F : Nat) (hF : 1000 < F) (sc a n : Int) (fi : Bool) (t : Int) (th : Bool) {b : List Int} (g : Gd b) {l : List Int} (hs : sidesL l = true) (hl : l.length ≤ 900) (e u r w : List Int) :
    laws_FnSlides_l17 F sc a n fi t th b l e u r w 0 0 b = some (false, (doS b l).2, (doS b l).1) := by
  have h := loop_fold (step := laws_FnSlides_s17 F sc a n fi t th b l e u r w) (fun i (s : List Int × Int) => (s.2, i, s.1)) l.length (fun i s => dstep s (iget l i)) (fun s => (false, s.2, s.1)) (fun i s => Gd s.1) (F := F) (by omega) (by omega) (a := (b, 0)) g
    (fun i s hi g => by
      obtain ⟨d, hd, hd4⟩ := sides_nat hs i hi
      have hm := slide_valL F g hd4 hF
      rw [hd]
      refine ⟨?_, fun Q kn kx => ?_⟩
      · show Gd (slideB s.1 ((d : Nat) : Int).toNat).1
        rw [Int.toNat_natCast]; exact slide_ok g.1 g.2 hd4
      · simp only [laws_FnSlides_s17, Int.ofNat_lt, hi, decide_true, cond_true, inR_cast, Int.toNat_natCast, Nat.zero_add, hd, hm, Option.isSome_some, Option.getD_some, dstep, cond_false, Bool.not_true]) (fun s _ Q kn kx => by simp [laws_FnSlides_s17])
  have h1 := h.1
  rw [fld_igetl l dstep l.length 0 _ (by omega), List.drop_zero] at h1
  exact h1
theorem stp_pot : ∀ (w : List Nat), (∀ d ∈ w, d < 4) → ∀ {b : List Int}, Gd b → potB b ≤ potB (stp w b)
  | [], _, b, _ => by rw [stp_nil]; exact Int.le_refl _
  | d :: w, hw, b, g => by
    have hd := hw d List.mem_cons_self
    obtain ⟨p1, p2⟩ := slide_pot g hd
    have := stp_pot w (fun e he => hw e (List.mem_cons_of_mem _ he)) (b := (slideB b d).1) (slide_ok g.1 g.2 hd)
    rw [stp_cons]; omega
theorem rn_pot {w : List Nat} (hw : ∀ d ∈ w, d < 4) {b : List Int} (g : Gd b) : ∀ k j, potB (rn w b k) ≤ potB (rn w b (k + j))
  | k, 0 => Int.le_refl _
  | k, j + 1 => Int.le_trans (rn_pot hw g k j) (stp_pot w hw (rn_good hw g (k + j)))
section
variable (F : Nat) (hF : 1000000000000 < F) {u : List Int} (g : Gd u) {l : List Int} (hs : sidesL l = true) (hl : l.length ≤ 900)
include hF g hs hl
theorem do_rn (k : Nat) : impl_DoSlides_p F (rn (l.map Int.toNat) u k) l = some (rn (l.map Int.toNat) u (k + 1), (doS (rn (l.map Int.toNat) u k) l).2, true) := by
  have gk := rn_good (sides_lt hs) g k
  rw [doSl_val F gk.1 l hl (by omega), gk.2, hs, doS_fst, rn_succ]; rfl
theorem ahead_loop {i : Nat} (hi : i ≤ 802963914752) (n t : Int) (th : Bool) (w : List Int) : laws_FnSlides_l31 F i n t th l w 0 u = some (false, rn (l.map Int.toNat) u i) := by
  have h := loop_fold (step := laws_FnSlides_s31 F i n t th l w) (fun i (s : List Int) => (i, s)) i (fun k s => rn (l.map Int.toNat) u (k + 1)) (fun s => (false, s)) (fun k s => s = rn (l.map Int.toNat) u k) (F := F) (by omega) (by omega) (a := u) rfl
    (fun k s hk hI => ⟨rfl, fun Q kn kx => by
      rw [hI]
      simp only [laws_FnSlides_s31, Int.ofNat_lt, hk, decide_true, cond_true, subn_self, do_rn F hF g hs hl k, Option.isSome_some, Option.getD_some, cond_false, Bool.not_true]⟩) (fun s _ Q kn kx => by simp [laws_FnSlides_s31])
  have h1 := h.1
  rw [h.2] at h1
  exact h1
theorem back_loop {i j : Nat} (hij : i < j) (hj : j ≤ 802963914752) (he : rn (l.map Int.toNat) u i = rn (l.map Int.toNat) u j) (hd : ∀ x y, x < y → y < j → rn (l.map Int.toNat) u x ≠ rn (l.map Int.toNat) u y) (t : Int) (th : Bool) (w : List Int) :
    laws_FnSlides_l39 F ((j - i : Nat) : Int) t th l w (rn (l.map Int.toNat) u i) 0 (rn (l.map Int.toNat) u i) = some (false, rn (l.map Int.toNat) u j) := by
  have h := loop_fold (step := laws_FnSlides_s39 F ((j - i : Nat) : Int) t th l w (rn (l.map Int.toNat) u i)) (fun k (s : List Int) => (k, s)) (j - i) (fun k s => rn (l.map Int.toNat) u (i + k + 1)) (fun s => (false, s)) (fun k s => s = rn (l.map Int.toNat) u (i + k)) (F := F) (by omega) (by omega) (a := rn (l.map Int.toNat) u i) rfl
    (fun k s hk hI => ⟨rfl, fun Q kn kx => by
      have gk := rn_good (sides_lt hs) g (i + k)
      have hz : (doS (rn (l.map Int.toNat) u (i + k)) l).2 = 0 := by
        rw [(doS_pot gk hs).1, doS_fst, ← rn_succ]
        have a1 := rn_pot (sides_lt hs) g i k
        have a2 := rn_pot (sides_lt hs) g (i + k) 1
        have a3 := rn_pot (sides_lt hs) g (i + k + 1) (j - (i + k + 1))
        rw [show i + k + 1 + (j - (i + k + 1)) = j by omega, ← he] at a3
        omega
      rw [hI]
      by_cases h0 : 0 < k
      · have hne : (rn (l.map Int.toNat) u (i + k) == rn (l.map Int.toNat) u i) = false := by
          rw [beq_eq_false_iff_ne]; exact Ne.symm (hd i (i + k) (by omega) (by omega))
        have hp : decide ((0 : Int) < (k : Int)) = true := decide_eq_true (by omega)
        simp only [laws_FnSlides_s39, Int.ofNat_lt, hk, decide_true, cond_true, subn_self, do_rn F hF g hs hl (i + k), hz, hne, hp, beq_self_eq_true, Option.isSome_some, Option.getD_some, cond_false, Bool.not_true]
      · have hp : decide ((0 : Int) < (k : Int)) = false := decide_eq_false (by omega)
        simp only [laws_FnSlides_s39, Int.ofNat_lt, hk, decide_true, cond_true, subn_self, do_rn F hF g hs hl (i + k), hz, hp, beq_self_eq_true, Option.isSome_some, Option.getD_some, cond_false, Bool.not_true]⟩) (fun s _ Q kn kx => by simp [laws_FnSlides_s39])
  have h1 := h.1
  rw [h.2, show i + (j - i) = j by omega] at h1
  exact h1
end
/-! ### the highest tile -/
theorem high_max (b : List Int) : 0 ≤ (highB b).1 ∧ (∀ i, i < 16 → iget b i ≤ (highB b).1) ∧ ((highB b).1 = 0 ∨ ∃ i, i < 16 ∧ (highB b).1 = iget b i) := by
  have key : ∀ (m i : Nat) (s : Int × List Int), i + m = 16 → s.1 ≤ (fld (hstep b) i m s).1 ∧ (∀ j, i ≤ j → j < 16 → iget b j ≤ (fld (hstep b) i m s).1) ∧ ((fld (hstep b) i m s).1 = s.1 ∨ ∃ j, j < 16 ∧ (fld (hstep b) i m s).1 = iget b j) := by
    intro m
    induction m with
    | zero => intro i s hi; exact ⟨Int.le_refl _, fun j h1 h2 => by omega, .inl rfl⟩
    | succ m ih =>
      intro i s hi
      obtain ⟨h1, h2, h3⟩ := ih (i + 1) (hstep b i s) (by omega)
      rw [fld]
      have hs : (hstep b i s).1 = if s.1 < iget b i then iget b i else s.1 := by
        unfold hstep
        by_cases h : s.1 < iget b i
        · rw [decide_eq_true h, if_pos h]; rfl
        · rw [decide_eq_false h, if_neg h]; rfl
      refine ⟨?_, fun j j1 j2 => ?_, ?_⟩
      · rw [hs] at h1; split at h1 <;> omega
      · by_cases e : j = i
        · subst e; rw [hs] at h1; split at h1 <;> omega
        · exact h2 j (by omega) j2
      · rcases h3 with h3 | h3
        · rw [hs] at h3
          split at h3
          · exact .inr ⟨i, by omega, h3⟩
          · exact .inl h3
        · exact .inr h3
  obtain ⟨h1, h2, h3⟩ := key 16 0 (0, [0, 0]) rfl
  exact ⟨h1, fun i hi => h2 i (Nat.zero_le _) hi, h3⟩
theorem fs_ge {f : Int → Int} (l : List Int) (h : ∀ x ∈ l, 0 ≤ f x) : ∀ i, i < l.length → f (iget l i) ≤ fs f l := by
  induction l with
  | nil => intro i hi; simp at hi
  | cons x l ih =>
    intro i hi
    have h0 := h x List.mem_cons_self
    have hl : 0 ≤ fs f l := by
      have : ∀ l : List Int, (∀ x ∈ l, 0 ≤ f x) → 0 ≤ fs f l := by
        intro l
        induction l with
        | nil => intro _; exact Int.le_refl _
        | cons y l ih => intro h; have := h y List.mem_cons_self; have := ih fun z hz => h z (List.mem_cons_of_mem _ hz); simp only [fs]; omega
      exact this l fun y hy => h y (List.mem_cons_of_mem _ hy)
    cases i with
    | zero => show f x ≤ fs f (x :: l); simp only [fs]; omega
    | succ i =>
      have := ih (fun y hy => h y (List.mem_cons_of_mem _ hy)) i (by simpa using hi)
      show f (iget l i) ≤ fs f (x :: l)
      simp only [fs]; omega
theorem run_sumL {w : List Nat} : ∀ {b : List Int}, Gd b → (∀ d ∈ w, d < 4) → sumB (runW sl b w) = sumB b ∧ Gd (runW sl b w) := by
  induction w with
  | nil => intro b g _; exact ⟨rfl, g⟩
  | cons d w ih =>
    intro b h hw
    have hd := hw d List.mem_cons_self
    have gs : Gd (sl b d) := slide_ok h.1 h.2 hd
    obtain ⟨i1, i2⟩ := ih gs fun e he => hw e (List.mem_cons_of_mem _ he)
    simp only [runW]
    exact ⟨i1.trans (slide_sum h.1 h.2 hd), i2⟩
theorem hi_impl (n : Nat) (hn : n ≤ 2097152) (h : sumV (n : Int) = true) : impl_HighestFor_p (n : Int) = some (if n = 0 then 0 else ((min 17 n.log2 : Nat) : Int), true) := by
  simp only [impl_HighestFor_p, impl_HighestFor_c, isFor_val, h, len_eq n (by omega), Option.isSome_some, Option.getD_some, cond_true, Bool.not_true, cond_false]
  by_cases h0 : n = 0
  · subst h0; rfl
  · have hlg : n.log2 < 64 := (Nat.log2_lt h0).2 (by omega)
    have hw : IntKind.wrap .i64 (((if n = 0 then 0 else n.log2 + 1 : Nat) : Int) - 1) = (n.log2 : Int) := by
      rw [if_neg h0, wrap_of (by omega) (by omega)]; omega
    have e : (if (17 : Int) < (n.log2 : Int) then (17 : Int) else (n.log2 : Int)) = ((min 17 n.log2 : Nat) : Int) := by
      by_cases hh : 17 < n.log2
      · rw [if_pos (by omega), Nat.min_eq_left (by omega)]; rfl
      · rw [if_neg (by omega), Nat.min_eq_right (by omega)]
    rw [hw, e, if_neg (by omega), if_neg h0]
theorem top_facts_all (F : Nat) (hF : 2000000 < F) {w : List Int} (g : Gd w) : ∃ (hi : Int) (c : List Int) (kn : Bool) (mo : Int) (to : Bool), impl_HighestTile_p F w = some (hi, c, kn) ∧ laws_vSum2_p F w = some (sumB w) ∧ impl_HighestFor_p (sumB w) = some (mo, to) ∧
    (kn == decide ((0 : Int) < maxL (fun x => (highB x).1) (reachL w 6))) = true ∧ (kn = true → decide (maxL (fun x => (highB x).1) (reachL w 6) < hi) = false) ∧ (to = true → decide (mo < maxL (fun x => (highB x).1) (reachL w 6)) = false) := by
  obtain ⟨m1, m2, m3⟩ := maxL_facts (fun x => (highB x).1) (reachL w 6) 0
  have m1 : 0 ≤ maxL (fun x => (highB x).1) (reachL w 6) := m1
  have m2 : ∀ x ∈ reachL w 6, (highB x).1 ≤ maxL (fun x => (highB x).1) (reachL w 6) := m2
  have m3 : maxL (fun x => (highB x).1) (reachL w 6) = 0 ∨ ∃ x ∈ reachL w 6, maxL (fun x => (highB x).1) (reachL w 6) = (highB x).1 := m3
  have hself : w ∈ reachL w 6 := (reachL_mem 6 w).2 ⟨[], by simp, by simp, rfl⟩
  have mw := m2 w hself
  have hsum := sumB_facts g.2
  rw [g.1] at hsum
  -- the top is a tile of a board of the same sum
  have htile : 0 < maxL (fun x => (highB x).1) (reachL w 6) → ∃ t : Nat, maxL (fun x => (highB x).1) (reachL w 6) = (t : Int) ∧ 1 ≤ t ∧ t ≤ 17 ∧ ((2 ^ t : Nat) : Int) ≤ sumB w := fun hpos => by
    rcases m3 with h | ⟨x, hx, h⟩
    · omega
    · obtain ⟨v, v1, v2, rfl⟩ := (reachL_mem 6 x).1 hx
      obtain ⟨r1, r2⟩ := run_sumL g v2
      obtain ⟨_, _, h3⟩ := high_max (runW sl w v)
      rcases h3 with h3 | ⟨p, hp, h3⟩
      · omega
      · have hin : inB (iget (runW sl w v) p) 0 17 = true := (okB_iff _).1 r2.2 _ (by rw [igetL, List.getElem?_eq_getElem (by have := r2.1; omega)]; exact List.getElem_mem _)
        have hin2 : 0 ≤ iget (runW sl w v) p ∧ iget (runW sl w v) p ≤ 17 := by simpa [inB] using hin
        obtain ⟨t, ht⟩ := Int.eq_ofNat_of_zero_le hin2.1
        have hge := fs_ge (f := W) (runW sl w v) (fun y hy => (W_facts ((okB_iff _).1 r2.2 y hy)).1) p (by have := r2.1; omega)
        rw [← sumB_fs, r1, ht] at hge
        have hW : W (t : Int) = ((2 ^ t : Nat) : Int) := by
          unfold W
          rw [if_neg (by omega), Int.toNat_natCast, Int.natCast_pow]; rfl
        rw [hW] at hge
        exact ⟨t, by omega, by omega, by omega, hge⟩
  have hvs : laws_vSum2_p F w = some (sumB w) := by
    simp only [laws_vSum2_p, laws_vSum2_c, sum_val F (by omega) g.1 g.2, Option.isSome_some, Option.getD_some, cond_true]
  obtain ⟨n, hn⟩ := Int.eq_ofNat_of_zero_le hsum.1
  have hfor : ∃ (mo : Int) (to : Bool), impl_HighestFor_p (sumB w) = some (mo, to) ∧ (to = true → decide (mo < maxL (fun x => (highB x).1) (reachL w 6)) = false) := by
    cases hsv : sumV (sumB w) with
    | false =>
      refine ⟨0, false, ?_, fun h => by cases h⟩
      simp only [impl_HighestFor_p, impl_HighestFor_c, isFor_val, hsv, Bool.not_false, cond_true]
    | true =>
      rw [hn] at hsv ⊢
      refine ⟨_, true, hi_impl n (by omega) hsv, fun _ => decide_eq_false fun hlt => ?_⟩
      have hpos : 0 < maxL (fun x => (highB x).1) (reachL w 6) := by split at hlt <;> omega
      obtain ⟨t, t1, t2, t3, t4⟩ := htile hpos
      rw [hn] at t4
      have t4 : 2 ^ t ≤ n := by omega
      have hn0 : n ≠ 0 := by have := Nat.two_pow_pos t; omega
      have hlog : t ≤ n.log2 := (Nat.le_log2 hn0).2 t4
      rw [if_neg hn0] at hlt
      omega
  obtain ⟨mo, to, f1, f2⟩ := hfor
  cases hz : w == [(0 : Int), 0, 0, 0, 0, 0, 0, 0, 0, 0, 0, 0, 0, 0, 0, 0] with
  | true =>
    refine ⟨0, [0, 0], false, mo, to, ?_, hvs, f1, ?_, fun h => (by cases h), f2⟩
    · simp only [impl_HighestTile_p, impl_HighestTile_c, impl_IsBoard_eq F w g.1 (show 1000 < F by omega), g.2, hz, Option.isSome_some, Option.getD_some, cond_true, cond_false, Bool.not_true]
    · have h0 : ¬ 0 < maxL (fun x => (highB x).1) (reachL w 6) := fun hpos => by
        obtain ⟨t, t1, t2, t3, t4⟩ := htile hpos
        have : sumB w = 0 := by rw [eq_of_beq hz]; decide
        have := Nat.two_pow_pos t
        omega
      rw [decide_eq_false h0]; rfl
  | false =>
    obtain ⟨h1, h2, h3⟩ := high_max w
    refine ⟨(highB w).1, (highB w).2, true, mo, to, ?_, hvs, f1, ?_, fun _ => decide_eq_false (by omega), f2⟩
    · simp only [impl_HighestTile_p, impl_HighestTile_c, impl_IsBoard_eq F w g.1 (show 1000 < F by omega), g.2, hz, impl_high F w (by omega), Option.isSome_some, Option.getD_some, cond_true, cond_false, Bool.not_true]
    · have hpos : 0 < maxL (fun x => (highB x).1) (reachL w 6) := by
        refine Classical.byContradiction fun hn => ?_
        have hall : ∀ i, i < 16 → iget w i = 0 := fun i hi => by
          have := h2 i hi
          have hin := (okB_iff _).1 g.2 (iget w i) (by rw [igetL, List.getElem?_eq_getElem (by have := g.1; omega)]; exact List.getElem_mem _)
          simp [tileOK, inB] at hin
          omega
        have e : w = [(0 : Int), 0, 0, 0, 0, 0, 0, 0, 0, 0, 0, 0, 0, 0, 0, 0] := ext16 g.1 rfl fun i hi => by
          rw [hall i hi]
          have : ∀ i : Fin 16, iget [(0 : Int), 0, 0, 0, 0, 0, 0, 0, 0, 0, 0, 0, 0, 0, 0, 0] i.val = 0 := by decide
          exact (this ⟨i, hi⟩).symm
        rw [e] at hz
        cases hz
      rw [decide_eq_true hpos]; rfl
theorem law_FnSlides (F : Nat) (code : List Int) (hc : Byt code) (hF : 1000000000000 < F) : laws_FnSlides_p F code = some true := by
  have hF' : 1000 < F := by omega
  by_cases hbig : (65536 : Int) < ((code.length : Nat) : Int)
  · simp only [laws_FnSlides_p, laws_FnSlides_c, laws_vBig_v, hbig, decide_true, cond_true]
  obtain ⟨cut1, q1, hcut1⟩ := cut_ok hc (by omega) (n := 1) (by omega)
  obtain ⟨cut2, q2, hcut2⟩ := cut_ok hc (by omega) (n := 2) (by omega)
  have q1 : laws_vCut_p code 1 = some cut1 := q1
  have q2 : laws_vCut_p code 2 = some cut2 := q2
  obtain ⟨b, l, d1, hb, hl⟩ := draw_dosl hc F hF'
  obtain ⟨u, r, d2, hu, hr⟩ := draw_cyc hcut1 F hF'
  obtain ⟨w, d3, hw⟩ := draw_hbs hcut2 F hF'
  have a1 := doSl_val F hb l (by omega) hF'
  have a2 := doSl_spec F hb l (by omega) hF'
  obtain ⟨a, n, fine, c1, c2, c3⟩ := cycle_val F hu r (by omega) hF
  have h1 := spec_hbs F hw (show 2000000 < F by omega)
  have h2 := impl_hbs F hw (show 2000000 < F by omega)
  have hA : (okB b && sidesL l) = true → ∃ (p q : Int), impl_PotentialOf_p F b = some (p, true) ∧ impl_PotentialOf_p F (doS b l).1 = some (q, true) ∧ (IntKind.wrap .i64 (q - p) == (doS b l).2) = true ∧
      ∀ (sc a n : Int) (fi : Bool) (t : Int) (th : Bool) (e u r w : List Int), laws_FnSlides_l17 F sc a n fi t th b l e u r w 0 0 b = some (false, (doS b l).2, (doS b l).1) := fun h => by
    simp only [Bool.and_eq_true] at h
    have g : Gd b := ⟨hb, h.1⟩
    obtain ⟨p1, p2⟩ := doS_pot g h.2
    have x1 := potB_fs hb h.1
    have x2 := potB_fs p2.1 p2.2
    refine ⟨_, _, pot_val F hF' g, pot_val F hF' p2, ?_, fun sc a n fi t th e u r w => one_loop F hF' sc a n fi t th g h.2 (by omega) e u r w⟩
    rw [p1, wrap_of (by omega) (by omega)]; exact beq_self_eq_true _
  have hB : fine = true → ∃ (now : List Int), (∀ (t : Int) (th : Bool) (w : List Int), laws_FnSlides_l31 F a n t th r w 0 u = some (false, now)) ∧ (∀ (t : Int) (th : Bool) (w : List Int), laws_FnSlides_l39 F n t th r w now 0 now = some (false, now)) ∧ decide (n < 1) = false := fun h => by
    obtain ⟨ku, ks, i, j, rfl, rfl, e1, e2, e3, e4⟩ := c3 h
    have g : Gd u := ⟨hu, ku⟩
    refine ⟨rn (r.map Int.toNat) u i, fun t th w => ahead_loop F hF g ks (by omega) (by omega) _ t th w, fun t th w => ?_, decide_eq_false (by omega)⟩
    have := back_loop F hF g ks (by omega) e1 e2 e3 e4 t th w
    rw [← e3] at this
    exact this
  have hC : okB w = true → _ := fun h => top_facts_all F (show 2000000 < F by omega) (w := w) ⟨hw, h⟩
  generalize hT : maxL (fun x => (highB x).1) (reachL w 6) = T at *
  generalize hD : doS b l = D at *
  obtain ⟨E, S⟩ := D
  simp only at hA a1 a2
  simp only [laws_FnSlides_p, laws_FnSlides_c, laws_vBig_v, hbig, decide_false, cond_false, d1, d2, d3, q1, q2, subn_self, a1, a2, c1, c2, h1, h2, beq_selfL, Bool.true_and, Option.isSome_some, Option.getD_some, cond_true, beq_self_eq_true, Bool.not_true]
  clear a1 a2 c1 c2 c3 d1 d2 d3 q1 q2 h1 h2 hT hD
  cases hq : (okB b && sidesL l)
  · cases hf : fine
    · cases hk : okB w
      · simp only [cond_true, cond_false, Bool.not_false, Bool.not_true]
      · have hC1 := hC hk
        obtain ⟨hi, c, kn, mo, to, g1, g2, g3, g4, g5, g6⟩ := hC1
        cases hkn : kn <;> cases hto : to
        all_goals
          subst hkn hto
          (try have g7 := g5 rfl)
          (try have g8 := g6 rfl)
          simp only [*, Option.isSome_some, Option.getD_some, cond_true, cond_false, Bool.not_true, Bool.not_false]
    · have hB1 := hB hf
      obtain ⟨now, b1, b2, b3⟩ := hB1
      cases hk : okB w
      · simp only [b1, b2, b3, beq_self_eq_true, Option.isSome_some, Option.getD_some, cond_true, cond_false, Bool.not_false, Bool.not_true]
      · have hC1 := hC hk
        obtain ⟨hi, c, kn, mo, to, g1, g2, g3, g4, g5, g6⟩ := hC1
        cases hkn : kn <;> cases hto : to
        all_goals
          subst hkn hto
          (try have g7 := g5 rfl)
          (try have g8 := g6 rfl)
          simp only [*, beq_self_eq_true, Option.isSome_some, Option.getD_some, cond_true, cond_false, Bool.not_true, Bool.not_false]
  · have hA1 := hA hq
    obtain ⟨p, q, a1, a2, a3, a4⟩ := hA1
    cases hf : fine
    · cases hk : okB w
      · simp only [a1, a2, a3, a4, beq_self_eq_true, Option.isSome_some, Option.getD_some, cond_true, cond_false, Bool.not_false, Bool.not_true]
      · have hC1 := hC hk
        obtain ⟨hi, c, kn, mo, to, g1, g2, g3, g4, g5, g6⟩ := hC1
        cases hkn : kn <;> cases hto : to
        all_goals
          subst hkn hto
          (try have g7 := g5 rfl)
          (try have g8 := g6 rfl)
          simp only [*, beq_self_eq_true, Option.isSome_some, Option.getD_some, cond_true, cond_false, Bool.not_true, Bool.not_false]
    · have hB1 := hB hf
      obtain ⟨now, b1, b2, b3⟩ := hB1
      cases hk : okB w
      · simp only [a1, a2, a3, a4, b1, b2, b3, beq_self_eq_true, Option.isSome_some, Option.getD_some, cond_true, cond_false, Bool.not_false, Bool.not_true]
      · have hC1 := hC hk
        obtain ⟨hi, c, kn, mo, to, g1, g2, g3, g4, g5, g6⟩ := hC1
        cases hkn : kn <;> cases hto : to
        all_goals
          subst hkn hto
          (try have g7 := g5 rfl)
          (try have g8 := g6 rfl)
          simp only [*, beq_self_eq_true, Option.isSome_some, Option.getD_some, cond_true, cond_false, Bool.not_true, Bool.not_false]
end Go.Lv.P
