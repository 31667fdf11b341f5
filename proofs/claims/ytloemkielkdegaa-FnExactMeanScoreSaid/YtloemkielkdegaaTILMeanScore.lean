/-
FnExactMeanScore: both say the same.
-/
import Derived.Test.YtloemkielkdegaaTIP4
import Derived.Test.YtloemkielkdegaaTIPBest
import Derived.Test.YtloemkielkdegaaTIPBoards
import Derived.Test.YtloemkielkdegaaTIPMovesS
import Derived.Test.YtloemkielkdegaaTIPMovesI
import Derived.Test.YtloemkielkdegaaTIPToBoard
import Derived.Test.YtloemkielkdegaaTIPEqA2
import Derived.Test.YtloemkielkdegaaTIPPlacesI
import Derived.Test.YtloemkielkdegaaTIPPutI
import Derived.Test.YtloemkielkdegaaTIPFull
namespace Go.Lv.P
open Go Go.Lv
set_option linter.unusedVariables false
set_option linter.unusedSimpArgs false
set_option linter.unusedSectionVars false

theorem mean_impl_Board_mean_impl_Board_meanScore_f1_f1_n2 {nx : List Int} (hn : nx.length = 16) (okn : okB nx = true) {F D A B : Nat} {v : List Int → Nat × Nat} (hF : 1000 < F) (hroom : 0 < (em nx).length) (hD : 0 < D)
    (hv : ∀ p ∈ plm nx, 0 < (v (putP nx p)).2 ∧ (v (putP nx p)).2 ∣ D ∧ (v (putP nx p)).1 ≤ A ∧ (v (putP nx p)).2 ≤ B)
    (n1 : (0 + 360 * (A * D)) * (160 * B) + 9 * A * (160 * D) < 2 ^ 62) (n2 : 160 * D * (160 * B) < 2 ^ 62) (n3 : 160 * D * (160 * B) < F)
    (hc : ∀ o : List Int, o.length = 16 → okB o = true → impl_Board_meanScore_f1_f1_n2_p F o = some (toL (v o))) : impl_Board_mean_impl_Board_meanScore_f1_f1_n2_p F nx = some (toL (red (asum v D nx) (D * (10 * (em nx).length)))) := by
  have hB : ∀ p ∈ plm nx, (v (putP nx p)).2 < F ∧ 9 * (v (putP nx p)).1 < 2 ^ 62 ∧ (v (putP nx p)).2 < 2 ^ 62 := fun p hp => by
    obtain ⟨v1, v2, v3, v4⟩ := hv p hp
    have h1 : 1 * B ≤ 160 * D * (160 * B) := Nat.mul_le_mul (by omega) (by omega)
    have h2 : 9 * A * 1 ≤ 9 * A * (160 * D) := Nat.mul_le_mul_left _ (by omega)
    exact ⟨by omega, by omega, by omega⟩
  have h := meanI_loop (c := 0) hF hroom hD hv n1 n2 n3 (step := impl_Board_mean_impl_Board_meanScore_f1_f1_n2_s3 F ((plm nx).length : Int) nx (plm nx)) (fun i hi x z Q kn kx hz => by
      obtain ⟨⟨p0, p1⟩, q3, q4⟩ := put_all hn okn (rget_mem hi)
      have ho := hc _ q3 q4
      obtain ⟨v1, v2, v3, v4⟩ := hv _ (rget_mem hi)
      obtain ⟨b1, b2, b3⟩ := hB _ (rget_mem hi)
      simp only [impl_Board_mean_impl_Board_meanScore_f1_f1_n2_s3, Int.ofNat_lt, hi, inR_cast, Int.toNat_natCast, decide_true, cond_true, Nat.zero_add, impl_put p0 p1, ho, Option.isSome_some, Option.getD_some, toL0, toL1]
      generalize v (putP nx (rget (plm nx) i)) = u at *
      cases h2 : iget (rget (plm nx) i) 2 == 2 with
      | true =>
        have hw : wgt (rget (plm nx) i) = 1 := by rw [wgt, h2]; rfl
        rw [hw] at hz
        have e : IntKind.wrap .i64 (1 * ((u.1 : Nat) : Int)) = ((1 * u.1 : Nat) : Int) := by rw [← wi' (1 * u.1) (by omega), Int.natCast_mul]; rfl
        simp only [e, fracL F _ _ v1 b1 (show 1 * u.1 < 2 ^ 62 by omega) b3, hz, Option.isSome_some, Option.getD_some, cond_true]
      | false =>
        have hw : wgt (rget (plm nx) i) = 9 := by rw [wgt, h2]; rfl
        rw [hw] at hz
        have e : IntKind.wrap .i64 (9 * ((u.1 : Nat) : Int)) = ((9 * u.1 : Nat) : Int) := by rw [← wi' (9 * u.1) (by omega), Int.natCast_mul]; rfl
        simp only [e, fracL F _ _ v1 b1 (show 9 * u.1 < 2 ^ 62 by omega) b3, hz, Option.isSome_some, Option.getD_some, cond_true, cond_false]) (fun x Q kn kx => by simp [impl_Board_mean_impl_Board_meanScore_f1_f1_n2_s3])
  have h1 : impl_Board_mean_impl_Board_meanScore_f1_f1_n2_l3 F ((plm nx).length : Int) nx (plm nx) 0 [0, 1] = _ := h
  obtain ⟨r, g1, g2⟩ := impl_empty_eq F nx hF
  have hr : r.1 = (em nx).length := by rw [g2.1, em_not]
  have hlast := impl_last (c := 0) hF hroom hD hv n1 n2 n3
  simp only [impl_Board_mean_impl_Board_meanScore_f1_f1_n2_p, impl_Board_mean_impl_Board_meanScore_f1_f1_n2_c, impl_places_eq F nx hF, h1, g1, hr, toL0, toL1, hlast, Option.isSome_some, Option.getD_some, cond_true, beq_selfL, Bool.and_self]

theorem best_impl_Board_best_impl_Board_meanScore_f1_n1 {F N1 N2 : Nat} {b : List Int} (hb : b.length = 16) (ok : okB b = true) {V : Nat → Nat × Nat} (hF : 1000 < F) (hm : (movesB b).length ≤ 4)
    (hN : N1 * N2 < 2 ^ 63) (hN2 : 0 < N2) (hN1 : N1 < 2 ^ 62) (hV : ∀ x ∈ movesB b, (V x.toNat).1 ≤ N1 ∧ (V x.toNat).2 ≤ N2 ∧ 0 < (V x.toNat).2)
    (hc : ∀ x ∈ movesB b, impl_Board_meanScore_f1_n1_p F x b = some (toL (V x.toNat))) : impl_Board_best_impl_Board_meanScore_f1_n1_p F b b = some ((bestA V (movesB b)).1, toL (bestA V (movesB b)).2) := by
  have h := bestI_loop hF hm hN hN2 hN1 hV (step := impl_Board_best_impl_Board_meanScore_f1_n1_s3 F ((movesB b).length : Int) b (movesB b)) (fun i hi a p t Q kn kx ht => by
      have hx := hc _ (iget_mem hi)
      simp only [impl_Board_best_impl_Board_meanScore_f1_n1_s3, Int.ofNat_lt, hi, inR_cast, Int.toNat_natCast, decide_true, cond_true, Nat.zero_add, hx, ht, Option.isSome_some, Option.getD_some]
      cases decide (a < 0) <;> cases t <;> rfl) (fun a x Q kn kx => by simp [impl_Board_best_impl_Board_meanScore_f1_n1_s3])
  have h1 : impl_Board_best_impl_Board_meanScore_f1_n1_l3 F ((movesB b).length : Int) b (movesB b) (-1) 0 (impl_whole_v 0) = _ := h
  simp only [impl_Board_best_impl_Board_meanScore_f1_n1_p, impl_Board_best_impl_Board_meanScore_f1_n1_c, impl_moves hb ok F hF, h1, Option.isSome_some, Option.getD_some, cond_true, beq_selfL, Bool.and_self]

theorem best_impl_Board_best_impl_Board_meanScore_f1_n2 {F N1 N2 : Nat} {b : List Int} (hb : b.length = 16) (ok : okB b = true) {V : Nat → Nat × Nat} (hF : 1000 < F) (hm : (movesB b).length ≤ 4)
    (hN : N1 * N2 < 2 ^ 63) (hN2 : 0 < N2) (hN1 : N1 < 2 ^ 62) (hV : ∀ x ∈ movesB b, (V x.toNat).1 ≤ N1 ∧ (V x.toNat).2 ≤ N2 ∧ 0 < (V x.toNat).2)
    (hc : ∀ x ∈ movesB b, impl_Board_meanScore_f1_n2_p F x b = some (toL (V x.toNat))) : impl_Board_best_impl_Board_meanScore_f1_n2_p F b b = some ((bestA V (movesB b)).1, toL (bestA V (movesB b)).2) := by
  have h := bestI_loop hF hm hN hN2 hN1 hV (step := impl_Board_best_impl_Board_meanScore_f1_n2_s3 F ((movesB b).length : Int) b (movesB b)) (fun i hi a p t Q kn kx ht => by
      have hx := hc _ (iget_mem hi)
      simp only [impl_Board_best_impl_Board_meanScore_f1_n2_s3, Int.ofNat_lt, hi, inR_cast, Int.toNat_natCast, decide_true, cond_true, Nat.zero_add, hx, ht, Option.isSome_some, Option.getD_some]
      cases decide (a < 0) <;> cases t <;> rfl) (fun a x Q kn kx => by simp [impl_Board_best_impl_Board_meanScore_f1_n2_s3])
  have h1 : impl_Board_best_impl_Board_meanScore_f1_n2_l3 F ((movesB b).length : Int) b (movesB b) (-1) 0 (impl_whole_v 0) = _ := h
  simp only [impl_Board_best_impl_Board_meanScore_f1_n2_p, impl_Board_best_impl_Board_meanScore_f1_n2_c, impl_moves hb ok F hF, h1, Option.isSome_some, Option.getD_some, cond_true, beq_selfL, Bool.and_self]

theorem moves_nat {b : List Int} {x : Int} (hx : x ∈ movesB b) : x.toNat < 4 ∧ x = ((x.toNat : Nat) : Int) ∧ ((slideB b x.toNat).1 == b) = false := by
  obtain ⟨d, hd, rfl, hq⟩ := moves_are hx
  exact ⟨hd, rfl, hq⟩
def sc (b : List Int) (d : Nat) : Nat := (slideB b d).2.toNat
def V1 (b : List Int) (d : Nat) : Nat × Nat := (sc b d, 1)
def S1 (b : List Int) : Nat × Nat := bestF (V1 b) (movesB b)
def V2 (b : List Int) (d : Nat) : Nat × Nat := red (sc b d * (10 * (em (slideB b d).1).length) + asum S1 1 (slideB b d).1) (10 * (em (slideB b d).1).length)
def S2 (b : List Int) : Nat × Nat := bestF (V2 b) (movesB b)
section
variable {b : List Int} (hb : b.length = 16) (ok : okB b = true)
include hb ok
theorem sc_eq {d : Nat} (hd : d < 4) : ((sc b d : Nat) : Int) = (slideB b d).2 ∧ sc b d ≤ 2097152 := by
  obtain ⟨h1, h2⟩ := slide_score hb ok hd
  unfold sc
  exact ⟨by omega, by omega⟩
theorem V1_ok : ∀ x ∈ movesB b, (V1 b x.toNat).1 ≤ 2097152 ∧ (V1 b x.toNat).2 ≤ 1 ∧ 0 < (V1 b x.toNat).2 := fun x hx => by
  obtain ⟨h1, h2, h3⟩ := moves_nat hx
  exact ⟨(sc_eq hb ok h1).2, Nat.le_refl _, Nat.one_pos⟩
theorem S1_ok (hm : (movesB b).length ≤ 4) : (S1 b).1 ≤ 2097152 ∧ (S1 b).2 ≤ 1 ∧ 0 < (S1 b).2 := bestF_le (F := 1001) (by omega) hm (by decide) (by omega) (by omega) (V1_ok hb ok)
theorem spec_S1 (F : Nat) (hF : 1000 < F) : spec_l9Score_n1_p F b = some (toL (S1 b)) := by
  obtain ⟨hmv, hm⟩ := spec_moves hb ok F hF
  have h := bestS_loop hF hm (by decide) (by omega) (by omega) (V1_ok hb ok) (step := spec_l9Score_n1_s3 F b (movesB b)) (fun i hi p t Q kn kx ht => by
    obtain ⟨h1, h2, h3⟩ := moves_nat (iget_mem hi)
    have hs := spec_slide hb ok F hF h1
    rw [← h2] at hs
    have e : [(slideB b (iget (movesB b) i).toNat).2, (1 : Int)] = toL (V1 b (iget (movesB b) i).toNat) := by rw [← (sc_eq hb ok h1).1]; rfl
    simp only [spec_l9Score_n1_s3, Int.ofNat_lt, hi, inR_cast, Int.toNat_natCast, decide_true, cond_true, Nat.zero_add, hs, Option.isSome_some, Option.getD_some, e, ht]
    cases t <;> rfl) (fun x Q kn kx => by simp [spec_l9Score_n1_s3])
  have h1 : spec_l9Score_n1_l3 F b (movesB b) 0 [0, 1] = some (toL (S1 b)) := h
  simp only [spec_l9Score_n1_p, spec_l9Score_n1_c, hmv, h1, Option.isSome_some, Option.getD_some, cond_true, beq_selfL, Bool.and_self]
theorem impl_S1 (F : Nat) (hF : 1000 < F) : impl_Board_meanScore_n1_p F b = some (toL (S1 b)) := by
  obtain ⟨hmv, hm⟩ := spec_moves hb ok F hF
  have h := best_impl_Board_best_impl_Board_meanScore_f1_n1 hb ok hF hm (by decide) (by omega) (by omega) (V1_ok hb ok) (fun x hx => by
    obtain ⟨h1, h2, h3⟩ := moves_nat hx
    obtain ⟨m, hs⟩ := impl_slide hb ok F hF h1
    rw [← h2] at hs
    simp only [impl_Board_meanScore_f1_n1_p, impl_Board_meanScore_f1_n1_c, hs, Option.isSome_some, Option.getD_some, cond_true, impl_whole_v]
    rw [← (sc_eq hb ok h1).1]; rfl)
  have e := bestA_2 (V1 b) (movesB b) (fun d hd => by
    obtain ⟨h1, h2, h3⟩ := moves_nat hd
    exact ⟨by omega, fun h => by show (sc b d.toNat, 1) = (0, 1); rw [show sc b d.toNat = 0 from h]⟩)
  simp only [impl_Board_meanScore_n1_p, impl_Board_meanScore_n1_c, h, e, Option.isSome_some, Option.getD_some, cond_true]
  rfl
end
section
variable {b : List Int} (hb : b.length = 16) (ok : okB b = true)
include hb ok
theorem S1_all {d : Nat} (hd : d < 4) : ∀ p ∈ plm (slideB b d).1, 0 < (S1 (putP (slideB b d).1 p)).2 ∧ (S1 (putP (slideB b d).1 p)).2 ∣ 1 ∧ (S1 (putP (slideB b d).1 p)).1 ≤ 2097152 ∧ (S1 (putP (slideB b d).1 p)).2 ≤ 1 := fun p hp => by
  obtain ⟨l, o⟩ := slide_ok hb ok hd
  obtain ⟨_, q1, q2⟩ := put_all l o hp
  obtain ⟨s1, s2, s3⟩ := S1_ok q1 q2 (spec_moves q1 q2 1001 (by omega)).2
  have e : (S1 (putP (slideB b d).1 p)).2 = 1 := by omega
  exact ⟨s3, by rw [e]; exact Nat.dvd_refl 1, s1, s2⟩
theorem V2_ok : ∀ x ∈ movesB b, (V2 b x.toNat).1 ≤ 2097152 * 520 ∧ (V2 b x.toNat).2 ≤ 160 ∧ 0 < (V2 b x.toNat).2 := fun x hx => by
  obtain ⟨h1, h2, h3⟩ := moves_nat hx
  have hroom := slide_room hb ok h1 h3
  have hem := em_len (slideB b x.toNat).1
  have hs := (sc_eq hb ok h1).2
  have ha : asum S1 1 (slideB b x.toNat).1 ≤ 2097152 * (1 * (10 * (em (slideB b x.toNat).1).length)) := asum_le fun p hp => by
    obtain ⟨a1, a2, a3, a4⟩ := S1_all hb ok h1 p hp
    exact am_M a2 a1 (Nat.le_trans a3 (Nat.le_mul_of_pos_right _ a1))
  have l1 := red_le1 (sc b x.toNat * (10 * (em (slideB b x.toNat).1).length) + asum S1 1 (slideB b x.toNat).1) (10 * (em (slideB b x.toNat).1).length)
  have l2 := red_le2 (sc b x.toNat * (10 * (em (slideB b x.toNat).1).length) + asum S1 1 (slideB b x.toNat).1) (10 * (em (slideB b x.toNat).1).length)
  have l3 : sc b x.toNat * (10 * (em (slideB b x.toNat).1).length) ≤ 2097152 * 160 := Nat.mul_le_mul hs (by omega)
  refine ⟨?_, ?_, red_pos (by omega)⟩
  · show (red _ _).1 ≤ _
    omega
  · show (red _ _).2 ≤ _
    omega
theorem spec_mean2 (F : Nat) (hF : 1000000 < F) {d : Nat} (hd : d < 4) (hq : ((slideB b d).1 == b) = false) (i : Int) (best moves : List Int) : spec_l9Score_n2_l11 F i b best moves (stepsB b d) ((plm (slideB b d).1).map (putP (slideB b d).1)) 0 [(slideB b d).2, 1] = some (toL (V2 b d)) := by
  have hF' : 1000 < F := by omega
  have hroom := slide_room hb ok hd hq
  have hsc := sc_eq hb ok hd
  have hem := em_len (slideB b d).1
  have hSall := S1_all hb ok hd
  obtain ⟨l, o⟩ := slide_ok hb ok hd
  have e0 : [(slideB b d).2, (1 : Int)] = toL (red (sc b d * (1 * (10 * (em (slideB b d).1).length))) (1 * (10 * (em (slideB b d).1).length))) := by
    rw [red_whole _ (by omega), ← hsc.1]; rfl
  have hV : V2 b d = red (sc b d * (1 * (10 * (em (slideB b d).1).length)) + asum S1 1 (slideB b d).1) (1 * (10 * (em (slideB b d).1).length)) := by rw [Nat.one_mul]; rfl
  have hcS : sc b d * (1 * (10 * (em (slideB b d).1).length)) ≤ 2097152 * 160 := Nat.mul_le_mul hsc.2 (by omega)
  rw [e0, hV, steps_move hb ok hd hq]
  clear hV e0 hsc
  generalize (slideB b d).1 = nx at *
  generalize sc b d = s0 at *
  have hl40 := plm_len40 nx
  have hpl := plm_len nx
  have hw5 := wrap5 _ hem
  rw [← hpl] at hw5
  exact meanS_loop (c := 2097152 * 160) (A := 2097152) (B := 1) (D := 1) (v := S1) hF' hroom Nat.one_pos hSall (by decide) (by decide) (by omega) hcS (step := spec_l9Score_n2_s11 F i b best moves ((plm nx).map fun p => (d : Int) :: p) ((plm nx).map (putP nx))) (fun j hj x z Q kn kx hp hz => by
      obtain ⟨_, q1, q2⟩ := put_all l o (rget_mem hj)
      simp only [spec_l9Score_n2_s11, List.length_map, Int.ofNat_lt, inR_cast, Int.toNat_natCast, Nat.zero_add, hj, decide_true, cond_true, rget_map _ _ j hj, spec_S1 q1 q2 F hF', weight_step _ (rget_mem hj), hw5, hp, hz, Option.isSome_some, Option.getD_some]) (fun x Q kn kx => by simp [spec_l9Score_n2_s11])
theorem spec_S2 (F : Nat) (hF : 1000000 < F) : spec_l9Score_n2_p F b = some (toL (S2 b)) := by
  have hF' : 1000 < F := by omega
  obtain ⟨hmv, hm⟩ := spec_moves hb ok F hF'
  have h := bestS_loop hF' hm (by decide) (by omega) (by omega) (V2_ok hb ok) (step := spec_l9Score_n2_s3 F b (movesB b)) (fun i hi p t Q kn kx ht => by
    obtain ⟨h1, h2, h3⟩ := moves_nat (iget_mem hi)
    have hs := spec_slide hb ok F hF' h1
    have hst := spec_steps hb ok F hF' h1
    have hbs := spec_boards hb ok h1 F hF' h3
    have hmean := spec_mean2 hb ok F hF h1 h3 i (toL p) (movesB b)
    rw [← h2] at hs hst
    simp only [spec_l9Score_n2_s3, Int.ofNat_lt, hi, inR_cast, Int.toNat_natCast, decide_true, cond_true, Nat.zero_add, hs, hst, hbs, subn_self, hmean, Option.isSome_some, Option.getD_some, ht, beq_selfL, Bool.and_self]
    cases t <;> rfl) (fun x Q kn kx => by simp [spec_l9Score_n2_s3])
  have h1 : spec_l9Score_n2_l3 F b (movesB b) 0 [0, 1] = some (toL (S2 b)) := h
  simp only [spec_l9Score_n2_p, spec_l9Score_n2_c, hmv, h1, Option.isSome_some, Option.getD_some, cond_true, beq_selfL, Bool.and_self]
theorem impl_S2 (F : Nat) (hF : 1000000 < F) : impl_Board_meanScore_n2_p F b = some (toL (S2 b)) := by
  have hF' : 1000 < F := by omega
  obtain ⟨hmv, hm⟩ := spec_moves hb ok F hF'
  have h := best_impl_Board_best_impl_Board_meanScore_f1_n2 hb ok hF' hm (by decide) (by omega) (by omega) (V2_ok hb ok) (fun x hx => by
    obtain ⟨h1, h2, h3⟩ := moves_nat hx
    obtain ⟨m, hs⟩ := impl_slide hb ok F hF' h1
    rw [← h2] at hs
    have hsc := sc_eq hb ok h1
    have hroom := slide_room hb ok h1 h3
    have hem := em_len (slideB b x.toNat).1
    obtain ⟨l, o⟩ := slide_ok hb ok h1
    have hmean := mean_impl_Board_mean_impl_Board_meanScore_f1_f1_n2 (A := 2097152) (B := 1) (D := 1) (v := S1) l o hF' hroom Nat.one_pos (S1_all hb ok h1) (by decide) (by decide) (by omega) (fun o h1 h2 => by
      simp only [impl_Board_meanScore_f1_f1_n2_p, impl_Board_meanScore_f1_f1_n2_c, impl_S1 h1 h2 F hF', Option.isSome_some, Option.getD_some, cond_true])
    have ha : asum S1 1 (slideB b x.toNat).1 ≤ 2097152 * (1 * (10 * (em (slideB b x.toNat).1).length)) := asum_le fun p hp => by
      obtain ⟨a1, a2, a3, a4⟩ := S1_all hb ok h1 p hp
      exact am_M a2 a1 (Nat.le_trans a3 (Nat.le_mul_of_pos_right _ a1))
    rw [Nat.one_mul] at hmean ha
    have hw : impl_whole_v (slideB b x.toNat).2 = toL (red (sc b x.toNat) 1) := by rw [red_one, ← hsc.1]; rfl
    have y1 := red_le1 (asum S1 1 (slideB b x.toNat).1) (10 * (em (slideB b x.toNat).1).length)
    have y2 := red_le2 (asum S1 1 (slideB b x.toNat).1) (10 * (em (slideB b x.toNat).1).length)
    have r1 : red (sc b x.toNat) 1 = (sc b x.toNat, 1) := red_one _
    have p1 : (red (sc b x.toNat) 1).1 * (red (asum S1 1 (slideB b x.toNat).1) (10 * (em (slideB b x.toNat).1).length)).2 ≤ 2097152 * 160 := Nat.mul_le_mul (by rw [r1]; exact hsc.2) (by omega)
    have hplus := impl_plusL (F := F) (x := red (sc b x.toNat) 1) (y := red (asum S1 1 (slideB b x.toNat).1) (10 * (em (slideB b x.toNat).1).length)) (red_pos Nat.one_pos) (red_pos (by omega)) (by rw [r1] at p1 ⊢; simp only [Nat.mul_one] at p1 ⊢; omega) (by rw [r1]; simp only [Nat.one_mul]; omega) (by rw [r1]; simp only [Nat.one_mul]; omega)
    rw [red_plus Nat.one_pos (by omega), Nat.mul_one, Nat.one_mul] at hplus
    simp only [impl_Board_meanScore_f1_n2_p, impl_Board_meanScore_f1_n2_c, hs, hmean, hw, hplus, Option.isSome_some, Option.getD_some, cond_true]
    rfl)
  have e := bestA_2 (V2 b) (movesB b) (fun d hd => by
    obtain ⟨h1, h2, h3⟩ := moves_nat hd
    have hroom := slide_room hb ok h1 h3
    exact ⟨by omega, fun h => red_0 (by omega) h⟩)
  simp only [impl_Board_meanScore_n2_p, impl_Board_meanScore_n2_c, h, e, Option.isSome_some, Option.getD_some, cond_true]
  rfl
end
theorem spec_S0 {b : List Int} (hb : b.length = 16) (ok : okB b = true) (F : Nat) (hF : 1000 < F) : ∃ u, spec_l9Score_n0_p F b = some u := by
  obtain ⟨hmv, hm⟩ := spec_moves hb ok F hF
  have h := loop_fold (step := spec_l9Score_n0_s3 F b (movesB b)) (fun i (s : Unit) => ()) 0 (fun i s => ()) (fun s => ()) (fun _ _ => True) (F := F) (by omega) (by omega) (a := ()) trivial (fun i s hi => by omega) (fun s _ Q kn kx => by simp [spec_l9Score_n0_s3])
  have h1 : spec_l9Score_n0_l3 F b (movesB b) = some () := h.1
  exact ⟨(), by simp only [spec_l9Score_n0_p, spec_l9Score_n0_c, hmv, h1, Option.isSome_some, Option.getD_some, cond_true, beq_selfL, Bool.and_self]⟩
theorem score_same (F : Nat) (b : List Int) (hb : b.length = 16) (n : Int) (hF : 1000000 < F) : ∃ v, spec_MeanScore_p F b n = some v ∧ impl_MeanScore_p F b n = some v := by
  have hF' : 1000 < F := by omega
  simp only [spec_MeanScore_p, spec_MeanScore_c, impl_MeanScore_p, impl_MeanScore_c, spec_l2Board_eq F b hb hF', impl_IsBoard_eq F b hb hF', l1In_eq, in_eq, Option.isSome_some, Option.getD_some, cond_true]
  cases hB : okB b with
  | false => exact ⟨_, rfl, rfl⟩
  | true =>
    cases hn : inB n 0 2 with
    | false => exact ⟨_, rfl, rfl⟩
    | true =>
      have hn3 : n = 0 ∨ n = 1 ∨ n = 2 := by simp [inB] at hn; omega
      obtain ⟨u, hu⟩ := spec_S0 hb hB F hF'
      rcases hn3 with rfl | rfl | rfl
      · have s : spec_l9Score_p F b 0 = some [0, 1] := by
          simp only [spec_l9Score_p, spec_l9Score_c, hu, Option.isSome_some, cond_true]; rfl
        have i : impl_Board_meanScore_p F b 0 = some [0, 1] := rfl
        rw [s, i]
        exact ⟨_, rfl, rfl⟩
      · have s : spec_l9Score_p F b 1 = some (toL (S1 b)) := by
          simp only [spec_l9Score_p, spec_l9Score_c, spec_S1 hb hB F hF', Option.isSome_some, Option.getD_some, cond_true]; rfl
        have i : impl_Board_meanScore_p F b 1 = some (toL (S1 b)) := by
          simp only [impl_Board_meanScore_p, impl_Board_meanScore_c, impl_S1 hb hB F hF', Option.isSome_some, Option.getD_some, cond_true]; rfl
        rw [s, i]
        exact ⟨_, rfl, rfl⟩
      · have s : spec_l9Score_p F b 2 = some (toL (S2 b)) := by
          simp only [spec_l9Score_p, spec_l9Score_c, spec_S2 hb hB F hF, Option.isSome_some, Option.getD_some, cond_true]; rfl
        have i : impl_Board_meanScore_p F b 2 = some (toL (S2 b)) := by
          simp only [impl_Board_meanScore_p, impl_Board_meanScore_c, impl_S2 hb hB F hF, Option.isSome_some, Option.getD_some, cond_true]; rfl
        rw [s, i]
        exact ⟨_, rfl, rfl⟩
theorem law_MeanScore (F : Nat) (b : List Int) (hb : b.length = 16) (_ : ∀ x ∈ b, Rng x) (n : Int) (_ : Rng n) (hF : 1000000 < F) : laws_FnExactMeanScore_p F b n = some true := by
  obtain ⟨v, h1, h2⟩ := score_same F b hb n hF
  simp only [laws_FnExactMeanScore_p, laws_FnExactMeanScore_c, toBoard_eq hb, h1, h2, Option.isSome_some, Option.getD_some, cond_true, beq_self_eq_true, Bool.not_true, cond_false, eqIntA2_refl F _ (show 1000 < F by omega)]
end Go.Lv.P
