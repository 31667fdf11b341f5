/-
FnExactFirstWell: both say the same.
-/
import Derived.Test.YtloemkielkdegaaTIP6
import Derived.Test.YtloemkielkdegaaTIPBest
import Derived.Test.YtloemkielkdegaaTIPBoards
import Derived.Test.YtloemkielkdegaaTIPMovesS
import Derived.Test.YtloemkielkdegaaTIPMovesI
import Derived.Test.YtloemkielkdegaaTIPToBoard
import Derived.Test.YtloemkielkdegaaTIPPlacesI
import Derived.Test.YtloemkielkdegaaTIPPutI
import Derived.Test.YtloemkielkdegaaTIPFull
import Derived.Test.YtloemkielkdegaaTIPSlides1
namespace Go.Lv.P
open Go Go.Lv
set_option linter.unusedVariables false
set_option linter.unusedSimpArgs false
set_option linter.unusedSectionVars false

theorem mean_impl_Board_mean_impl_Board_keepOf_f1_n2 {nx : List Int} (hn : nx.length = 16) (okn : okB nx = true) {F D A B : Nat} {v : List Int → Nat × Nat} (hF : 1000 < F) (hroom : 0 < (em nx).length) (hD : 0 < D)
    (hv : ∀ p ∈ plm nx, 0 < (v (putP nx p)).2 ∧ (v (putP nx p)).2 ∣ D ∧ (v (putP nx p)).1 ≤ A ∧ (v (putP nx p)).2 ≤ B)
    (n1 : (0 + 360 * (A * D)) * (160 * B) + 9 * A * (160 * D) < 2 ^ 62) (n2 : 160 * D * (160 * B) < 2 ^ 62) (n3 : 160 * D * (160 * B) < F)
    (hc : ∀ o : List Int, o.length = 16 → okB o = true → impl_Board_keepOf_f1_n2_p F o = some (toL (v o))) : impl_Board_mean_impl_Board_keepOf_f1_n2_p F nx = some (toL (red (asum v D nx) (D * (10 * (em nx).length)))) := by
  have hB : ∀ p ∈ plm nx, (v (putP nx p)).2 < F ∧ 9 * (v (putP nx p)).1 < 2 ^ 62 ∧ (v (putP nx p)).2 < 2 ^ 62 := fun p hp => by
    obtain ⟨v1, v2, v3, v4⟩ := hv p hp
    have h1 : 1 * B ≤ 160 * D * (160 * B) := Nat.mul_le_mul (by omega) (by omega)
    have h2 : 9 * A * 1 ≤ 9 * A * (160 * D) := Nat.mul_le_mul_left _ (by omega)
    exact ⟨by omega, by omega, by omega⟩
  have h := meanI_loop (c := 0) hF hroom hD hv n1 n2 n3 (step := impl_Board_mean_impl_Board_keepOf_f1_n2_s3 F ((plm nx).length : Int) nx (plm nx)) (fun i hi x z Q kn kx hz => by
      obtain ⟨⟨p0, p1⟩, q3, q4⟩ := put_all hn okn (rget_mem hi)
      have ho := hc _ q3 q4
      obtain ⟨v1, v2, v3, v4⟩ := hv _ (rget_mem hi)
      obtain ⟨b1, b2, b3⟩ := hB _ (rget_mem hi)
      simp only [impl_Board_mean_impl_Board_keepOf_f1_n2_s3, Int.ofNat_lt, hi, inR_cast, Int.toNat_natCast, decide_true, cond_true, Nat.zero_add, impl_put p0 p1, ho, Option.isSome_some, Option.getD_some, toL0, toL1]
      generalize v (putP nx (rget (plm nx) i)) = u at *
      cases h2 : iget (rget (plm nx) i) 2 == 2 with
      | true =>
        have hw : wgt (rget (plm nx) i) = 1 := by rw [wgt, h2]; rfl
        rw [hw] at hz
        have e : IntKind.wrap .i64 (1 * ((u.1 : Nat) : Int)) = ((1 * u.1 : Nat) : Int) := by rw [← wi' (1 * u.1) (by omega), Int.natCast_mul]; rfl
        simp only [e, fracL F _ _ v1 b1 (show 1 * u.1 < 2 ^ 62 by omega) b3, hz, Option.isSome_some, Option.getD_some, cond_true]
      | false =>
        have hw : wgt (rget (plm nx) i) = 9 := by rw [wgt, h2]; rfl
        rw [hw] at hz
        have e : IntKind.wrap .i64 (9 * ((u.1 : Nat) : Int)) = ((9 * u.1 : Nat) : Int) := by rw [← wi' (9 * u.1) (by omega), Int.natCast_mul]; rfl
        simp only [e, fracL F _ _ v1 b1 (show 9 * u.1 < 2 ^ 62 by omega) b3, hz, Option.isSome_some, Option.getD_some, cond_true, cond_false]) (fun x Q kn kx => by simp [impl_Board_mean_impl_Board_keepOf_f1_n2_s3])
  have h1 : impl_Board_mean_impl_Board_keepOf_f1_n2_l3 F ((plm nx).length : Int) nx (plm nx) 0 [0, 1] = _ := h
  obtain ⟨r, g1, g2⟩ := impl_empty_eq F nx hF
  have hr : r.1 = (em nx).length := by rw [g2.1, em_not]
  have hlast := impl_last (c := 0) hF hroom hD hv n1 n2 n3
  simp only [impl_Board_mean_impl_Board_keepOf_f1_n2_p, impl_Board_mean_impl_Board_keepOf_f1_n2_c, impl_places_eq F nx hF, h1, g1, hr, toL0, toL1, hlast, Option.isSome_some, Option.getD_some, cond_true, beq_selfL, Bool.and_self]

theorem mean_impl_Board_mean_impl_Board_keepOf_f1_n3 {nx : List Int} (hn : nx.length = 16) (okn : okB nx = true) {F D A B : Nat} {v : List Int → Nat × Nat} (hF : 1000 < F) (hroom : 0 < (em nx).length) (hD : 0 < D)
    (hv : ∀ p ∈ plm nx, 0 < (v (putP nx p)).2 ∧ (v (putP nx p)).2 ∣ D ∧ (v (putP nx p)).1 ≤ A ∧ (v (putP nx p)).2 ≤ B)
    (n1 : (0 + 360 * (A * D)) * (160 * B) + 9 * A * (160 * D) < 2 ^ 62) (n2 : 160 * D * (160 * B) < 2 ^ 62) (n3 : 160 * D * (160 * B) < F)
    (hc : ∀ o : List Int, o.length = 16 → okB o = true → impl_Board_keepOf_f1_n3_p F o = some (toL (v o))) : impl_Board_mean_impl_Board_keepOf_f1_n3_p F nx = some (toL (red (asum v D nx) (D * (10 * (em nx).length)))) := by
  have hB : ∀ p ∈ plm nx, (v (putP nx p)).2 < F ∧ 9 * (v (putP nx p)).1 < 2 ^ 62 ∧ (v (putP nx p)).2 < 2 ^ 62 := fun p hp => by
    obtain ⟨v1, v2, v3, v4⟩ := hv p hp
    have h1 : 1 * B ≤ 160 * D * (160 * B) := Nat.mul_le_mul (by omega) (by omega)
    have h2 : 9 * A * 1 ≤ 9 * A * (160 * D) := Nat.mul_le_mul_left _ (by omega)
    exact ⟨by omega, by omega, by omega⟩
  have h := meanI_loop (c := 0) hF hroom hD hv n1 n2 n3 (step := impl_Board_mean_impl_Board_keepOf_f1_n3_s3 F ((plm nx).length : Int) nx (plm nx)) (fun i hi x z Q kn kx hz => by
      obtain ⟨⟨p0, p1⟩, q3, q4⟩ := put_all hn okn (rget_mem hi)
      have ho := hc _ q3 q4
      obtain ⟨v1, v2, v3, v4⟩ := hv _ (rget_mem hi)
      obtain ⟨b1, b2, b3⟩ := hB _ (rget_mem hi)
      simp only [impl_Board_mean_impl_Board_keepOf_f1_n3_s3, Int.ofNat_lt, hi, inR_cast, Int.toNat_natCast, decide_true, cond_true, Nat.zero_add, impl_put p0 p1, ho, Option.isSome_some, Option.getD_some, toL0, toL1]
      generalize v (putP nx (rget (plm nx) i)) = u at *
      cases h2 : iget (rget (plm nx) i) 2 == 2 with
      | true =>
        have hw : wgt (rget (plm nx) i) = 1 := by rw [wgt, h2]; rfl
        rw [hw] at hz
        have e : IntKind.wrap .i64 (1 * ((u.1 : Nat) : Int)) = ((1 * u.1 : Nat) : Int) := by rw [← wi' (1 * u.1) (by omega), Int.natCast_mul]; rfl
        simp only [e, fracL F _ _ v1 b1 (show 1 * u.1 < 2 ^ 62 by omega) b3, hz, Option.isSome_some, Option.getD_some, cond_true]
      | false =>
        have hw : wgt (rget (plm nx) i) = 9 := by rw [wgt, h2]; rfl
        rw [hw] at hz
        have e : IntKind.wrap .i64 (9 * ((u.1 : Nat) : Int)) = ((9 * u.1 : Nat) : Int) := by rw [← wi' (9 * u.1) (by omega), Int.natCast_mul]; rfl
        simp only [e, fracL F _ _ v1 b1 (show 9 * u.1 < 2 ^ 62 by omega) b3, hz, Option.isSome_some, Option.getD_some, cond_true, cond_false]) (fun x Q kn kx => by simp [impl_Board_mean_impl_Board_keepOf_f1_n3_s3])
  have h1 : impl_Board_mean_impl_Board_keepOf_f1_n3_l3 F ((plm nx).length : Int) nx (plm nx) 0 [0, 1] = _ := h
  obtain ⟨r, g1, g2⟩ := impl_empty_eq F nx hF
  have hr : r.1 = (em nx).length := by rw [g2.1, em_not]
  have hlast := impl_last (c := 0) hF hroom hD hv n1 n2 n3
  simp only [impl_Board_mean_impl_Board_keepOf_f1_n3_p, impl_Board_mean_impl_Board_keepOf_f1_n3_c, impl_places_eq F nx hF, h1, g1, hr, toL0, toL1, hlast, Option.isSome_some, Option.getD_some, cond_true, beq_selfL, Bool.and_self]

theorem best_impl_Board_best_impl_Board_keep_f1_n1 {F N1 N2 : Nat} {b : List Int} (hb : b.length = 16) (ok : okB b = true) {V : Nat → Nat × Nat} (hF : 1000 < F) (hm : (movesB b).length ≤ 4)
    (hN : N1 * N2 < 2 ^ 63) (hN2 : 0 < N2) (hN1 : N1 < 2 ^ 62) (hV : ∀ x ∈ movesB b, (V x.toNat).1 ≤ N1 ∧ (V x.toNat).2 ≤ N2 ∧ 0 < (V x.toNat).2)
    (hc : ∀ x ∈ movesB b, impl_Board_keep_f1_n1_v x b = toL (V x.toNat)) : impl_Board_best_impl_Board_keep_f1_n1_p F b b = some ((bestA V (movesB b)).1, toL (bestA V (movesB b)).2) := by
  have h := bestI_loop hF hm hN hN2 hN1 hV (step := impl_Board_best_impl_Board_keep_f1_n1_s3 F ((movesB b).length : Int) b (movesB b)) (fun i hi a p t Q kn kx ht => by
      have hx := hc _ (iget_mem hi)
      simp only [impl_Board_best_impl_Board_keep_f1_n1_s3, Int.ofNat_lt, hi, inR_cast, Int.toNat_natCast, decide_true, cond_true, Nat.zero_add, hx, ht, Option.isSome_some, Option.getD_some]
      cases decide (a < 0) <;> cases t <;> rfl) (fun a x Q kn kx => by simp [impl_Board_best_impl_Board_keep_f1_n1_s3])
  have h1 : impl_Board_best_impl_Board_keep_f1_n1_l3 F ((movesB b).length : Int) b (movesB b) (-1) 0 (impl_whole_v 0) = _ := h
  simp only [impl_Board_best_impl_Board_keep_f1_n1_p, impl_Board_best_impl_Board_keep_f1_n1_c, impl_moves hb ok F hF, h1, Option.isSome_some, Option.getD_some, cond_true, beq_selfL, Bool.and_self]

theorem best_impl_Board_best_impl_Board_keep_f1_n2 {F N1 N2 : Nat} {b : List Int} (hb : b.length = 16) (ok : okB b = true) {V : Nat → Nat × Nat} (hF : 1000 < F) (hm : (movesB b).length ≤ 4)
    (hN : N1 * N2 < 2 ^ 63) (hN2 : 0 < N2) (hN1 : N1 < 2 ^ 62) (hV : ∀ x ∈ movesB b, (V x.toNat).1 ≤ N1 ∧ (V x.toNat).2 ≤ N2 ∧ 0 < (V x.toNat).2)
    (hc : ∀ x ∈ movesB b, impl_Board_keep_f1_n2_p F x b = some (toL (V x.toNat))) : impl_Board_best_impl_Board_keep_f1_n2_p F b b = some ((bestA V (movesB b)).1, toL (bestA V (movesB b)).2) := by
  have h := bestI_loop hF hm hN hN2 hN1 hV (step := impl_Board_best_impl_Board_keep_f1_n2_s3 F ((movesB b).length : Int) b (movesB b)) (fun i hi a p t Q kn kx ht => by
      have hx := hc _ (iget_mem hi)
      simp only [impl_Board_best_impl_Board_keep_f1_n2_s3, Int.ofNat_lt, hi, inR_cast, Int.toNat_natCast, decide_true, cond_true, Nat.zero_add, hx, ht, Option.isSome_some, Option.getD_some]
      cases decide (a < 0) <;> cases t <;> rfl) (fun a x Q kn kx => by simp [impl_Board_best_impl_Board_keep_f1_n2_s3])
  have h1 : impl_Board_best_impl_Board_keep_f1_n2_l3 F ((movesB b).length : Int) b (movesB b) (-1) 0 (impl_whole_v 0) = _ := h
  simp only [impl_Board_best_impl_Board_keep_f1_n2_p, impl_Board_best_impl_Board_keep_f1_n2_c, impl_moves hb ok F hF, h1, Option.isSome_some, Option.getD_some, cond_true, beq_selfL, Bool.and_self]

theorem best_impl_Board_best_impl_FirstWell_f1 {F N1 N2 : Nat} {b : List Int} (hb : b.length = 16) (ok : okB b = true) {V : Nat → Nat × Nat} {q : List Int} (hF : 1000 < F) (hm : (movesB b).length ≤ 4)
    (hN : N1 * N2 < 2 ^ 63) (hN2 : 0 < N2) (hN1 : N1 < 2 ^ 62) (hV : ∀ x ∈ movesB b, (V x.toNat).1 ≤ N1 ∧ (V x.toNat).2 ≤ N2 ∧ 0 < (V x.toNat).2)
    (hc : ∀ x ∈ movesB b, impl_FirstWell_f1_p F x b q = some (toL (V x.toNat))) : impl_Board_best_impl_FirstWell_f1_p F b b q = some ((bestA V (movesB b)).1, toL (bestA V (movesB b)).2) := by
  have h := bestI_loop hF hm hN hN2 hN1 hV (step := impl_Board_best_impl_FirstWell_f1_s3 F ((movesB b).length : Int) b q (movesB b)) (fun i hi a p t Q kn kx ht => by
      have hx := hc _ (iget_mem hi)
      simp only [impl_Board_best_impl_FirstWell_f1_s3, Int.ofNat_lt, hi, inR_cast, Int.toNat_natCast, decide_true, cond_true, Nat.zero_add, hx, ht, Option.isSome_some, Option.getD_some]
      cases decide (a < 0) <;> cases t <;> rfl) (fun a x Q kn kx => by simp [impl_Board_best_impl_FirstWell_f1_s3])
  have h1 : impl_Board_best_impl_FirstWell_f1_l3 F ((movesB b).length : Int) b q (movesB b) (-1) 0 (impl_whole_v 0) = _ := h
  simp only [impl_Board_best_impl_FirstWell_f1_p, impl_Board_best_impl_FirstWell_f1_c, impl_moves hb ok F hF, h1, Option.isSome_some, Option.getD_some, cond_true, beq_selfL, Bool.and_self]

theorem moves_nat {b : List Int} {x : Int} (hx : x ∈ movesB b) : x.toNat < 4 ∧ x = ((x.toNat : Nat) : Int) ∧ ((slideB b x.toNat).1 == b) = false := by
  obtain ⟨d, hd, rfl, hq⟩ := moves_are hx
  exact ⟨hd, rfl, hq⟩
theorem ten_dvd (e : Nat) (h0 : 0 < e) (h : e ≤ 16) : 10 * e ∣ 7207200 := by
  have : ∀ k : Fin 17, 0 < k.val → 10 * k.val ∣ 7207200 := by decide
  exact this ⟨e, by omega⟩ h0
def cst (o : List Int) : Nat × Nat := (1, 1)
def K1 (b : List Int) (d : Nat) : Nat × Nat := (1, 1)
def KB1 (b : List Int) : Nat × Nat := bestF (K1 b) (movesB b)
def K2 (b : List Int) (d : Nat) : Nat × Nat := red (asum KB1 1 (slideB b d).1) (1 * (10 * (em (slideB b d).1).length))
def KB2 (b : List Int) : Nat × Nat := bestF (K2 b) (movesB b)
def K3 (b : List Int) (d : Nat) : Nat × Nat := red (asum KB2 7207200 (slideB b d).1) (7207200 * (10 * (em (slideB b d).1).length))
def KB3 (b : List Int) : Nat × Nat := bestF (K3 b) (movesB b)
theorem asum_cst (nx : List Int) : asum cst 1 nx = 10 * (em nx).length := by
  rw [← wsum]
  have h1 : ∀ p : List Int, am cst 1 (putP nx p) = 1 := fun _ => by simp [am, cst]
  unfold asum
  simp only [h1, Nat.mul_one]
section
variable {b : List Int} (hb : b.length = 16) (ok : okB b = true)
include hb ok
theorem K1_ok : ∀ x ∈ movesB b, (K1 b x.toNat).1 ≤ 1 ∧ (K1 b x.toNat).2 ≤ 1 ∧ 0 < (K1 b x.toNat).2 := fun x hx => ⟨Nat.le_refl 1, Nat.le_refl 1, Nat.one_pos⟩
theorem KB1_fact : 0 < (KB1 b).2 ∧ (KB1 b).2 ∣ 1 ∧ (KB1 b).1 ≤ 1 ∧ (KB1 b).2 ≤ 1 := by
  obtain ⟨s1, s2, s3⟩ := bestF_le (F := 1001) (by omega) (spec_moves hb ok 1001 (by omega)).2 (by decide) (by omega) (by omega) (K1_ok hb ok)
  have s1 : (KB1 b).1 ≤ 1 := s1
  have s2 : (KB1 b).2 ≤ 1 := s2
  have s3 : 0 < (KB1 b).2 := s3
  have e : (KB1 b).2 = 1 := by omega
  exact ⟨s3, by rw [e]; exact Nat.dvd_refl 1, s1, s2⟩
theorem cst_all {d : Nat} (hd : d < 4) : ∀ p ∈ plm (slideB b d).1, 0 < (cst (putP (slideB b d).1 p)).2 ∧ (cst (putP (slideB b d).1 p)).2 ∣ 1 ∧ (cst (putP (slideB b d).1 p)).1 ≤ 1 ∧ (cst (putP (slideB b d).1 p)).2 ≤ 1 := fun p hp => ⟨Nat.one_pos, Nat.dvd_refl 1, Nat.le_refl 1, Nat.le_refl 1⟩
theorem KB1_all {d : Nat} (hd : d < 4) : ∀ p ∈ plm (slideB b d).1, 0 < (KB1 (putP (slideB b d).1 p)).2 ∧ (KB1 (putP (slideB b d).1 p)).2 ∣ 1 ∧ (KB1 (putP (slideB b d).1 p)).1 ≤ 1 ∧ (KB1 (putP (slideB b d).1 p)).2 ≤ 1 := fun p hp => by
  obtain ⟨l, o⟩ := slide_ok hb ok hd
  obtain ⟨_, q1, q2⟩ := put_all l o hp
  exact KB1_fact q1 q2
theorem K2_fact {d : Nat} (hd : d < 4) (hq : ((slideB b d).1 == b) = false) : (K2 b d).1 ≤ 1 * (K2 b d).2 ∧ (K2 b d).2 ≤ 160 ∧ 0 < (K2 b d).2 ∧ (K2 b d).2 ∣ 7207200 := by
  have hroom := slide_room hb ok hd hq
  have hem := em_len (slideB b d).1
  have ha : asum KB1 1 (slideB b d).1 ≤ 1 * (1 * (10 * (em (slideB b d).1).length)) := asum_le fun p hp => by
    obtain ⟨a1, a2, a3, a4⟩ := KB1_all hb ok hd p hp
    exact am_M a2 a1 (by omega)
  have l2 := red_le2 (asum KB1 1 (slideB b d).1) (1 * (10 * (em (slideB b d).1).length))
  refine ⟨red_M (by omega) ha, ?_, red_pos (by omega), ?_⟩
  · show (red _ _).2 ≤ _
    omega
  · refine Nat.dvd_trans (red_dvd _ _) ?_
    rw [Nat.one_mul]
    exact ten_dvd _ hroom hem
theorem K2_ok : ∀ x ∈ movesB b, (K2 b x.toNat).1 ≤ 160 ∧ (K2 b x.toNat).2 ≤ 160 ∧ 0 < (K2 b x.toNat).2 := fun x hx => by
  obtain ⟨h1, h2, h3⟩ := moves_nat hx
  obtain ⟨k1, k2, k3, k4⟩ := K2_fact hb ok h1 h3
  exact ⟨by omega, k2, k3⟩
theorem KB2_fact : 0 < (KB2 b).2 ∧ (KB2 b).2 ∣ 7207200 ∧ (KB2 b).1 ≤ 160 ∧ (KB2 b).2 ≤ 160 ∧ (KB2 b).1 ≤ 1 * (KB2 b).2 := by
  obtain ⟨s1, s2, s3⟩ := bestF_le (F := 1001) (by omega) (spec_moves hb ok 1001 (by omega)).2 (by decide) (by omega) (by omega) (K2_ok hb ok)
  obtain ⟨t1, t2⟩ := bestF_dvd (b := b) (V := K2 b) (L := 7207200) (M := 1) (fun x hx => by
    obtain ⟨h1, h2, h3⟩ := moves_nat hx
    obtain ⟨k1, k2, k3, k4⟩ := K2_fact hb ok h1 h3
    exact ⟨k4, k1⟩)
  exact ⟨s3, t1, s1, s2, t2⟩
theorem KB2_all {d : Nat} (hd : d < 4) : ∀ p ∈ plm (slideB b d).1, 0 < (KB2 (putP (slideB b d).1 p)).2 ∧ (KB2 (putP (slideB b d).1 p)).2 ∣ 7207200 ∧ (KB2 (putP (slideB b d).1 p)).1 ≤ 160 ∧ (KB2 (putP (slideB b d).1 p)).2 ≤ 160 := fun p hp => by
  obtain ⟨l, o⟩ := slide_ok hb ok hd
  obtain ⟨_, q1, q2⟩ := put_all l o hp
  obtain ⟨k1, k2, k3, k4, k5⟩ := KB2_fact q1 q2
  exact ⟨k1, k2, k3, k4⟩
theorem K3_fact {d : Nat} (hd : d < 4) (hq : ((slideB b d).1 == b) = false) : (K3 b d).1 ≤ 1 * (K3 b d).2 ∧ (K3 b d).2 ≤ 1153152000 ∧ 0 < (K3 b d).2 := by
  have hroom := slide_room hb ok hd hq
  have hem := em_len (slideB b d).1
  have ha : asum KB2 7207200 (slideB b d).1 ≤ 1 * (7207200 * (10 * (em (slideB b d).1).length)) := asum_le fun p hp => by
    obtain ⟨l, o⟩ := slide_ok hb ok hd
    obtain ⟨_, q1, q2⟩ := put_all l o hp
    obtain ⟨k1, k2, k3, k4, k5⟩ := KB2_fact q1 q2
    exact am_M k2 k1 k5
  have l2 := red_le2 (asum KB2 7207200 (slideB b d).1) (7207200 * (10 * (em (slideB b d).1).length))
  refine ⟨red_M (by omega) ha, ?_, red_pos (by omega)⟩
  show (red _ _).2 ≤ _
  omega
theorem K3_ok : ∀ x ∈ movesB b, (K3 b x.toNat).1 ≤ 1153152000 ∧ (K3 b x.toNat).2 ≤ 1153152000 ∧ 0 < (K3 b x.toNat).2 := fun x hx => by
  obtain ⟨h1, h2, h3⟩ := moves_nat hx
  obtain ⟨k1, k2, k3⟩ := K3_fact hb ok h1 h3
  exact ⟨by omega, k2, k3⟩
theorem KB1_moves : KB1 b = bif decide ((0 : Int) < (((movesB b).length : Nat) : Int)) then (1, 1) else (0, 1) := by
  have key : ∀ l : List Int, l.foldl (fun p d => bif lessF p (K1 b d.toNat) then K1 b d.toNat else p) (1, 1) = (1, 1) := by
    intro l
    induction l with
    | nil => rfl
    | cons x l ih => exact ih
  unfold KB1 bestF
  cases movesB b with
  | nil => rfl
  | cons x l =>
    have hd : decide ((0 : Int) < (((x :: l).length : Nat) : Int)) = true := decide_eq_true (by simp only [List.length_cons]; omega)
    rw [hd]
    exact key l

theorem spec_K1 (F : Nat) (hF : 100000000000000 < F) {d : Nat} (hd : d < 4) (hq : ((slideB b d).1 == b) = false) : spec_l9Keep_n1_p F b d = some (toL (K1 b d)) := by
  have hF' : 1000 < F := by omega
  have hroom := slide_room hb ok hd hq
  have hem := em_len (slideB b d).1
  have hSall := cst_all hb ok hd
  have hst := spec_steps hb ok F hF' hd
  have hbs := spec_boards hb ok hd F hF' hq
  obtain ⟨l, o⟩ := slide_ok hb ok hd
  have hV : K1 b d = red (0 + asum cst 1 (slideB b d).1) (1 * (10 * (em (slideB b d).1).length)) := by rw [Nat.zero_add]; rw [asum_cst, Nat.one_mul, red_self (by omega)]; rfl
  have hl : spec_l9Keep_n1_l4 F (stepsB b d) ((plm (slideB b d).1).map (putP (slideB b d).1)) 0 [0, 1] = some (toL (K1 b d)) := by
    rw [hV, steps_move hb ok hd hq]
    clear hV hst hbs
    generalize (slideB b d).1 = nx at *
    have hl40 := plm_len40 nx
    have hpl := plm_len nx
    have hw5 := wrap5 _ hem
    rw [← hpl] at hw5
    have e0 : [(0 : Int), (1 : Int)] = toL (red 0 (1 * (10 * (em nx).length))) := by rw [red_zero (by omega)]; rfl
    rw [e0]
    exact meanS_loop (c := 0) (A := 1) (B := 1) (D := 1) (v := cst) hF' hroom (by omega) hSall (by decide) (by decide) (by omega) (Nat.le_refl 0) (step := spec_l9Keep_n1_s4 F ((plm nx).map fun p => (d : Int) :: p) ((plm nx).map (putP nx))) (fun j hj x z Q kn kx hp hz => by
      obtain ⟨_, q1, q2⟩ := put_all l o (rget_mem hj)
      have hp : spec_l9Part_p F [1, 1] _ _ = _ := hp
      simp only [spec_l9Keep_n1_s4, List.length_map, Int.ofNat_lt, inR_cast, Int.toNat_natCast, Nat.zero_add, hj, decide_true, cond_true, rget_map _ _ j hj, weight_step _ (rget_mem hj), hw5, hp, hz, Option.isSome_some, Option.getD_some]) (fun x Q kn kx => by simp [spec_l9Keep_n1_s4])
  simp only [spec_l9Keep_n1_p, spec_l9Keep_n1_c, hst, hbs, subn_self, hl, Option.isSome_some, Option.getD_some, cond_true, beq_selfL, Bool.and_self]

theorem spec_KB1 (F : Nat) (hF : 100000000000000 < F) : spec_l9KeepBest_n1_p F b = some (toL (KB1 b)) := by
  have hF' : 1000 < F := by omega
  obtain ⟨hmv, hm⟩ := spec_moves hb ok F hF'
  have hk := KB1_moves hb ok
  cases hz : decide ((0 : Int) < (((movesB b).length : Nat) : Int)) with
  | true =>
    rw [hz, cond_true] at hk
    simp only [spec_l9KeepBest_n1_p, spec_l9KeepBest_n1_c, hmv, hz, Option.isSome_some, Option.getD_some, cond_true, hk]
    rfl
  | false =>
    have h := bestS_loop hF' hm (by decide) (by omega) (by omega) (K1_ok hb ok) (step := spec_l9KeepBest_n1_s7 F b (movesB b)) (fun i hi p t Q kn kx ht => by
      have := of_decide_eq_false hz; omega) (fun x Q kn kx => by simp [spec_l9KeepBest_n1_s7])
    have h1 : spec_l9KeepBest_n1_l7 F b (movesB b) 0 [0, 1] = some (toL (KB1 b)) := h
    simp only [spec_l9KeepBest_n1_p, spec_l9KeepBest_n1_c, hmv, hz, h1, Option.isSome_some, Option.getD_some, cond_true, cond_false, beq_selfL, Bool.and_self]
theorem impl_KB1 (F : Nat) (hF : 100000000000000 < F) : impl_Board_keep_n1_p F b = some (toL (KB1 b)) := by
  have hF' : 1000 < F := by omega
  obtain ⟨hmv, hm⟩ := spec_moves hb ok F hF'
  have h := best_impl_Board_best_impl_Board_keep_f1_n1 hb ok hF' hm (by decide) (by omega) (by omega) (K1_ok hb ok) (fun x hx => rfl)
  have e := bestA_2 (K1 b) (movesB b) (fun d hd => by
    obtain ⟨h1, h2, h3⟩ := moves_nat hd
    exact ⟨by omega, fun h => by cases h⟩)
  simp only [impl_Board_keep_n1_p, impl_Board_keep_n1_c, h, e, Option.isSome_some, Option.getD_some, cond_true]
  rfl
end
section
variable {b : List Int} (hb : b.length = 16) (ok : okB b = true)
include hb ok

theorem spec_K2 (F : Nat) (hF : 100000000000000 < F) {d : Nat} (hd : d < 4) (hq : ((slideB b d).1 == b) = false) : spec_l9Keep_n2_p F b d = some (toL (K2 b d)) := by
  have hF' : 1000 < F := by omega
  have hroom := slide_room hb ok hd hq
  have hem := em_len (slideB b d).1
  have hSall := KB1_all hb ok hd
  have hst := spec_steps hb ok F hF' hd
  have hbs := spec_boards hb ok hd F hF' hq
  obtain ⟨l, o⟩ := slide_ok hb ok hd
  have hV : K2 b d = red (0 + asum KB1 1 (slideB b d).1) (1 * (10 * (em (slideB b d).1).length)) := by rw [Nat.zero_add]; rfl
  have hl : spec_l9Keep_n2_l4 F (stepsB b d) ((plm (slideB b d).1).map (putP (slideB b d).1)) 0 [0, 1] = some (toL (K2 b d)) := by
    rw [hV, steps_move hb ok hd hq]
    clear hV hst hbs
    generalize (slideB b d).1 = nx at *
    have hl40 := plm_len40 nx
    have hpl := plm_len nx
    have hw5 := wrap5 _ hem
    rw [← hpl] at hw5
    have e0 : [(0 : Int), (1 : Int)] = toL (red 0 (1 * (10 * (em nx).length))) := by rw [red_zero (by omega)]; rfl
    rw [e0]
    exact meanS_loop (c := 0) (A := 1) (B := 1) (D := 1) (v := KB1) hF' hroom (by omega) hSall (by decide) (by decide) (by omega) (Nat.le_refl 0) (step := spec_l9Keep_n2_s4 F ((plm nx).map fun p => (d : Int) :: p) ((plm nx).map (putP nx))) (fun j hj x z Q kn kx hp hz => by
      obtain ⟨_, q1, q2⟩ := put_all l o (rget_mem hj)
      simp only [spec_l9Keep_n2_s4, List.length_map, Int.ofNat_lt, inR_cast, Int.toNat_natCast, Nat.zero_add, hj, decide_true, cond_true, rget_map _ _ j hj, spec_KB1 q1 q2 F hF, weight_step _ (rget_mem hj), hw5, hp, hz, Option.isSome_some, Option.getD_some]) (fun x Q kn kx => by simp [spec_l9Keep_n2_s4])
  simp only [spec_l9Keep_n2_p, spec_l9Keep_n2_c, hst, hbs, subn_self, hl, Option.isSome_some, Option.getD_some, cond_true, beq_selfL, Bool.and_self]

theorem impl_K2 (F : Nat) (hF : 100000000000000 < F) {d : Nat} (hd : d < 4) (hq : ((slideB b d).1 == b) = false) : impl_Board_keepOf_n2_p F b d = some (toL (K2 b d)) := by
  have hF' : 1000 < F := by omega
  have hroom := slide_room hb ok hd hq
  have hsl := impl_slides1 hb ok F hF' hd
  obtain ⟨l, o⟩ := slide_ok hb ok hd
  have hmean := mean_impl_Board_mean_impl_Board_keepOf_f1_n2 (A := 1) (B := 1) (D := 1) (v := KB1) l o hF' hroom Nat.one_pos (KB1_all hb ok hd) (by decide) (by decide) (by omega) (fun o h1 h2 => by
      simp only [impl_Board_keepOf_f1_n2_p, impl_Board_keepOf_f1_n2_c, impl_KB1 h1 h2 F hF, Option.isSome_some, Option.getD_some, cond_true])
  simp only [impl_Board_keepOf_n2_p, impl_Board_keepOf_n2_c, hsl, hmean, Option.isSome_some, Option.getD_some, cond_true]
  rfl

theorem spec_KB2 (F : Nat) (hF : 100000000000000 < F) : spec_l9KeepBest_n2_p F b = some (toL (KB2 b)) := by
  have hF' : 1000 < F := by omega
  obtain ⟨hmv, hm⟩ := spec_moves hb ok F hF'
  have h := bestS_loop hF' hm (by decide) (by omega) (by omega) (K2_ok hb ok) (step := spec_l9KeepBest_n2_s7 F b (movesB b)) (fun i hi p t Q kn kx ht => by
    obtain ⟨h1, h2, h3⟩ := moves_nat (iget_mem hi)
    have hs := spec_K2 hb ok F hF h1 h3
    rw [← h2] at hs
    simp only [spec_l9KeepBest_n2_s7, Int.ofNat_lt, hi, inR_cast, Int.toNat_natCast, decide_true, cond_true, Nat.zero_add, hs, Option.isSome_some, Option.getD_some, ht]
    cases t <;> rfl) (fun x Q kn kx => by simp [spec_l9KeepBest_n2_s7])
  have h1 : spec_l9KeepBest_n2_l7 F b (movesB b) 0 [0, 1] = some (toL (KB2 b)) := h
  simp only [spec_l9KeepBest_n2_p, spec_l9KeepBest_n2_c, hmv, h1, Option.isSome_some, Option.getD_some, cond_true, beq_selfL, Bool.and_self]

theorem impl_KB2 (F : Nat) (hF : 100000000000000 < F) : impl_Board_keep_n2_p F b = some (toL (KB2 b)) := by
  have hF' : 1000 < F := by omega
  obtain ⟨hmv, hm⟩ := spec_moves hb ok F hF'
  have h := best_impl_Board_best_impl_Board_keep_f1_n2 hb ok hF' hm (by decide) (by omega) (by omega) (K2_ok hb ok) (fun x hx => by
    obtain ⟨h1, h2, h3⟩ := moves_nat hx
    have hk := impl_K2 hb ok F hF h1 h3
    rw [← h2] at hk
    simp only [impl_Board_keep_f1_n2_p, impl_Board_keep_f1_n2_c, hk, Option.isSome_some, Option.getD_some, cond_true])
  have e := bestA_2 (K2 b) (movesB b) (fun d hd => by
    obtain ⟨h1, h2, h3⟩ := moves_nat hd
    have hroom := slide_room hb ok h1 h3
    exact ⟨by omega, fun h => red_0 (by omega) h⟩)
  simp only [impl_Board_keep_n2_p, impl_Board_keep_n2_c, h, e, Option.isSome_some, Option.getD_some, cond_true]
  rfl
end
section
variable {b : List Int} (hb : b.length = 16) (ok : okB b = true)
include hb ok

theorem spec_K3 (F : Nat) (hF : 100000000000000 < F) {d : Nat} (hd : d < 4) (hq : ((slideB b d).1 == b) = false) : spec_l9Keep_n3_p F b d = some (toL (K3 b d)) := by
  have hF' : 1000 < F := by omega
  have hroom := slide_room hb ok hd hq
  have hem := em_len (slideB b d).1
  have hSall := KB2_all hb ok hd
  have hst := spec_steps hb ok F hF' hd
  have hbs := spec_boards hb ok hd F hF' hq
  obtain ⟨l, o⟩ := slide_ok hb ok hd
  have hV : K3 b d = red (0 + asum KB2 7207200 (slideB b d).1) (7207200 * (10 * (em (slideB b d).1).length)) := by rw [Nat.zero_add]; rfl
  have hl : spec_l9Keep_n3_l4 F (stepsB b d) ((plm (slideB b d).1).map (putP (slideB b d).1)) 0 [0, 1] = some (toL (K3 b d)) := by
    rw [hV, steps_move hb ok hd hq]
    clear hV hst hbs
    generalize (slideB b d).1 = nx at *
    have hl40 := plm_len40 nx
    have hpl := plm_len nx
    have hw5 := wrap5 _ hem
    rw [← hpl] at hw5
    have e0 : [(0 : Int), (1 : Int)] = toL (red 0 (7207200 * (10 * (em nx).length))) := by rw [red_zero (by omega)]; rfl
    rw [e0]
    exact meanS_loop (c := 0) (A := 160) (B := 160) (D := 7207200) (v := KB2) hF' hroom (by omega) hSall (by decide) (by decide) (by omega) (Nat.le_refl 0) (step := spec_l9Keep_n3_s4 F ((plm nx).map fun p => (d : Int) :: p) ((plm nx).map (putP nx))) (fun j hj x z Q kn kx hp hz => by
      obtain ⟨_, q1, q2⟩ := put_all l o (rget_mem hj)
      simp only [spec_l9Keep_n3_s4, List.length_map, Int.ofNat_lt, inR_cast, Int.toNat_natCast, Nat.zero_add, hj, decide_true, cond_true, rget_map _ _ j hj, spec_KB2 q1 q2 F hF, weight_step _ (rget_mem hj), hw5, hp, hz, Option.isSome_some, Option.getD_some]) (fun x Q kn kx => by simp [spec_l9Keep_n3_s4])
  simp only [spec_l9Keep_n3_p, spec_l9Keep_n3_c, hst, hbs, subn_self, hl, Option.isSome_some, Option.getD_some, cond_true, beq_selfL, Bool.and_self]

theorem impl_K3 (F : Nat) (hF : 100000000000000 < F) {d : Nat} (hd : d < 4) (hq : ((slideB b d).1 == b) = false) : impl_Board_keepOf_n3_p F b d = some (toL (K3 b d)) := by
  have hF' : 1000 < F := by omega
  have hroom := slide_room hb ok hd hq
  have hsl := impl_slides1 hb ok F hF' hd
  obtain ⟨l, o⟩ := slide_ok hb ok hd
  have hmean := mean_impl_Board_mean_impl_Board_keepOf_f1_n3 (A := 160) (B := 160) (D := 7207200) (v := KB2) l o hF' hroom (by omega) (KB2_all hb ok hd) (by decide) (by decide) (by omega) (fun o h1 h2 => by
      simp only [impl_Board_keepOf_f1_n3_p, impl_Board_keepOf_f1_n3_c, impl_KB2 h1 h2 F hF, Option.isSome_some, Option.getD_some, cond_true])
  simp only [impl_Board_keepOf_n3_p, impl_Board_keepOf_n3_c, hsl, hmean, Option.isSome_some, Option.getD_some, cond_true]
  rfl

theorem spec_KB3 (F : Nat) (hF : 100000000000000 < F) : spec_l9KeepBest_n3_p F b = some (toL (KB3 b)) := by
  have hF' : 1000 < F := by omega
  obtain ⟨hmv, hm⟩ := spec_moves hb ok F hF'
  have h := bestS_loop hF' hm (by decide) (by omega) (by omega) (K3_ok hb ok) (step := spec_l9KeepBest_n3_s7 F b (movesB b)) (fun i hi p t Q kn kx ht => by
    obtain ⟨h1, h2, h3⟩ := moves_nat (iget_mem hi)
    have hs := spec_K3 hb ok F hF h1 h3
    rw [← h2] at hs
    simp only [spec_l9KeepBest_n3_s7, Int.ofNat_lt, hi, inR_cast, Int.toNat_natCast, decide_true, cond_true, Nat.zero_add, hs, Option.isSome_some, Option.getD_some, ht]
    cases t <;> rfl) (fun x Q kn kx => by simp [spec_l9KeepBest_n3_s7])
  have h1 : spec_l9KeepBest_n3_l7 F b (movesB b) 0 [0, 1] = some (toL (KB3 b)) := h
  simp only [spec_l9KeepBest_n3_p, spec_l9KeepBest_n3_c, hmv, h1, Option.isSome_some, Option.getD_some, cond_true, beq_selfL, Bool.and_self]

/-- both find the first of the best moves -/
theorem well_same (F N : Nat) (hF : 1000 < F) (n : Int) (hn : inB n 1 3 = true) (V : Nat → Nat × Nat) (hN : N * N < 2 ^ 63) (hN2 : 0 < N) (hN1 : N < 2 ^ 62)
    (hV : ∀ x ∈ movesB b, (V x.toNat).1 ≤ N ∧ (V x.toNat).2 ≤ N ∧ 0 < (V x.toNat).2) (h0 : ∀ x ∈ movesB b, (V x.toNat).1 = 0 → V x.toNat = (0, 1))
    (hS : ∀ x ∈ movesB b, spec_l9Keep_p F b x n = some (toL (V x.toNat))) (hB : spec_l9KeepBest_p F b n = some (toL (bestF V (movesB b))))
    (hI : ∀ x ∈ movesB b, impl_FirstWell_f1_p F x b [n] = some (toL (V x.toNat))) : ∃ v, spec_FirstWell_p F b n = some v ∧ impl_FirstWell_p F b n = some v := by
  obtain ⟨hmv, hm⟩ := spec_moves hb ok F hF
  have himv := impl_moves hb ok F hF
  have hl : spec_FirstWell_l5 F n b (movesB b) (toL (bestF V (movesB b))) 0 = some (fnd (fun i => V (iget (movesB b) i).toNat == bestF V (movesB b)) (fun i => (true, iget (movesB b) i)) (false, default) 0 (movesB b).length) := by
    refine loop_find (step := spec_FirstWell_s5 F n b (movesB b) (toL (bestF V (movesB b)))) (fun i => i) (movesB b).length (fun i => V (iget (movesB b) i).toNat == bestF V (movesB b)) (fun i => (true, iget (movesB b) i)) (false, default) (by omega) (by omega) (fun i hi Q kn kx => ?_) fun Q kn kx => ?_
    · simp only [spec_FirstWell_s5, Int.ofNat_lt, hi, inR_cast, Int.toNat_natCast, decide_true, cond_true, Nat.zero_add, hS _ (iget_mem hi), Option.isSome_some, Option.getD_some, toL_beq]
    · simp [spec_FirstWell_s5]
  rw [fnd_find (movesB b) (fun d => V d.toNat == bestF V (movesB b))] at hl
  have hb1 := best_impl_Board_best_impl_FirstWell_f1 (q := [n]) hb ok hF hm hN hN2 hN1 hV hI
  simp only [spec_FirstWell_p, spec_FirstWell_c, impl_FirstWell_p, impl_FirstWell_c, spec_l2Board_eq F b hb hF, impl_IsBoard_eq F b hb hF, ok, l1In_eq, in_eq, hn, hmv, hB, hl, impl_Board_isOver_p, impl_Board_isOver_c, himv, hb1, Option.isSome_some, Option.getD_some, cond_true, Bool.not_true, cond_false, beq_selfL, Bool.and_self]
  cases hms : movesB b with
  | nil => exact ⟨((0 : Int), false), rfl, rfl⟩
  | cons x r =>
    have hf := best_find V (movesB b) (fun d hd => ⟨by obtain ⟨h1, h2, h3⟩ := moves_nat hd; omega, (hV d hd).2.2, h0 d hd⟩) (by rw [hms]; exact List.cons_ne_nil _ _)
    rw [hms] at hf
    rw [hf]
    have hne : ((((x :: r).length : Nat) : Int) == 0) = false := by rw [beq_eq_false_iff_ne]; simp; omega
    rw [hne]
    exact ⟨((bestA V (x :: r)).1, true), rfl, rfl⟩
end
theorem first_same (F : Nat) (b : List Int) (hb : b.length = 16) (n : Int) (hF : 100000000000000 < F) : ∃ v, spec_FirstWell_p F b n = some v ∧ impl_FirstWell_p F b n = some v := by
  have hF' : 1000 < F := by omega
  cases hB : okB b with
  | false =>
    simp only [spec_FirstWell_p, spec_FirstWell_c, impl_FirstWell_p, impl_FirstWell_c, spec_l2Board_eq F b hb hF', impl_IsBoard_eq F b hb hF', hB, Option.isSome_some, Option.getD_some, cond_true, Bool.not_false]
    exact ⟨_, rfl, rfl⟩
  | true =>
    cases hn : inB n 1 3 with
    | false =>
      simp only [spec_FirstWell_p, spec_FirstWell_c, impl_FirstWell_p, impl_FirstWell_c, spec_l2Board_eq F b hb hF', impl_IsBoard_eq F b hb hF', hB, l1In_eq, in_eq, hn, Option.isSome_some, Option.getD_some, cond_true, Bool.not_true, cond_false, Bool.not_false]
      exact ⟨_, rfl, rfl⟩
    | true =>
      have hn3 : n = 1 ∨ n = 2 ∨ n = 3 := by simp [inB] at hn; omega
      rcases hn3 with rfl | rfl | rfl
      · refine well_same hb hB F 1 hF' 1 hn (K1 b) (by decide) (by omega) (by omega) (K1_ok hb hB) (fun x hx h => by cases h) (fun x hx => ?_) ?_ (fun x hx => ?_)
        · obtain ⟨h1, h2, h3⟩ := moves_nat hx
          have hs := spec_K1 hb hB F hF h1 h3
          rw [← h2] at hs
          simp only [spec_l9Keep_p, spec_l9Keep_c, hs, Option.isSome_some, Option.getD_some, cond_true]; rfl
        · simp only [spec_l9KeepBest_p, spec_l9KeepBest_c, spec_KB1 hb hB F hF, Option.isSome_some, Option.getD_some, cond_true]; rfl
        · rfl
      · refine well_same hb hB F 160 hF' 2 hn (K2 b) (by decide) (by omega) (by omega) (K2_ok hb hB) (fun x hx h => ?_) (fun x hx => ?_) ?_ (fun x hx => ?_)
        · obtain ⟨h1, h2, h3⟩ := moves_nat hx
          have hroom := slide_room hb hB h1 h3
          exact red_0 (by omega) h
        · obtain ⟨h1, h2, h3⟩ := moves_nat hx
          have hs := spec_K2 hb hB F hF h1 h3
          rw [← h2] at hs
          simp only [spec_l9Keep_p, spec_l9Keep_c, hs, Option.isSome_some, Option.getD_some, cond_true]; rfl
        · simp only [spec_l9KeepBest_p, spec_l9KeepBest_c, spec_KB2 hb hB F hF, Option.isSome_some, Option.getD_some, cond_true]; rfl
        · obtain ⟨h1, h2, h3⟩ := moves_nat hx
          have hs := impl_K2 hb hB F hF h1 h3
          rw [← h2] at hs
          have i2 : iget [(2 : Int)] 0 = 2 := rfl
          simp only [impl_FirstWell_f1_p, impl_FirstWell_f1_c, impl_Board_keepOf_p, impl_Board_keepOf_c, i2, hs, Option.isSome_some, Option.getD_some, cond_true]; rfl
      · refine well_same hb hB F 1153152000 hF' 3 hn (K3 b) (by decide) (by omega) (by omega) (K3_ok hb hB) (fun x hx h => ?_) (fun x hx => ?_) ?_ (fun x hx => ?_)
        · obtain ⟨h1, h2, h3⟩ := moves_nat hx
          have hroom := slide_room hb hB h1 h3
          exact red_0 (by omega) h
        · obtain ⟨h1, h2, h3⟩ := moves_nat hx
          have hs := spec_K3 hb hB F hF h1 h3
          rw [← h2] at hs
          simp only [spec_l9Keep_p, spec_l9Keep_c, hs, Option.isSome_some, Option.getD_some, cond_true]; rfl
        · simp only [spec_l9KeepBest_p, spec_l9KeepBest_c, spec_KB3 hb hB F hF, Option.isSome_some, Option.getD_some, cond_true]; rfl
        · obtain ⟨h1, h2, h3⟩ := moves_nat hx
          have hs := impl_K3 hb hB F hF h1 h3
          rw [← h2] at hs
          have i3 : iget [(3 : Int)] 0 = 3 := rfl
          simp only [impl_FirstWell_f1_p, impl_FirstWell_f1_c, impl_Board_keepOf_p, impl_Board_keepOf_c, i3, hs, Option.isSome_some, Option.getD_some, cond_true]; rfl
theorem law_FirstWell (F : Nat) (b : List Int) (hb : b.length = 16) (_ : ∀ x ∈ b, Rng x) (n : Int) (_ : Rng n) (hF : 100000000000000 < F) : laws_FnExactFirstWell_p F b n = some true := by
  obtain ⟨v, h1, h2⟩ := first_same F b hb n hF
  simp only [laws_FnExactFirstWell_p, laws_FnExactFirstWell_c, toBoard_eq hb, h1, h2, Option.isSome_some, Option.getD_some, cond_true, beq_self_eq_true, Bool.not_true, cond_false]
end Go.Lv.P
