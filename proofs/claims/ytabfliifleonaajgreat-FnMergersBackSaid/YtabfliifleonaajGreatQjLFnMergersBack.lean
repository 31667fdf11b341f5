/-
FnMergersBack: true for every input.
-/
import Derived.Test.YtabfliifleonaajGreatQjP0
import Derived.Test.YtabfliifleonaajGreatQjP1
import Derived.Test.YtabfliifleonaajGreatQjP6
import Derived.Test.YtabfliifleonaajGreatQjP7
import Derived.Test.YtabfliifleonaajGreatQjP8
import Derived.Test.YtabfliifleonaajGreatQjPG8
import Derived.Test.YtabfliifleonaajGreatQjPG7
import Derived.Test.YtabfliifleonaajGreatQjPG2
namespace Go.Lv.P
open Go Go.Lv
set_option linter.unusedVariables false
set_option linter.unusedSimpArgs false
set_option linter.unusedSectionVars false
theorem rCells_refl (F : Nat) (a : LL) (ha : a.length ≤ 900) (hF : 1000 < F) : k98_p F a a = some true := by
  have h : k98_l4 F a a 0 = some false := by
    refine (loop_fold (step := k98_s4 F a a) (fun i (_ : Unit) => i) a.length (fun _ a => a) (fun _ => false) (fun _ _ => True) (F := F) (by omega) (by omega) (a := ()) trivial (fun i _ hi _ => ⟨trivial, fun Q kn kx => ?_⟩) (fun _ _ Q kn kx => by simp [k98_s4])).1
    have hi' : (i : Int) < a.length := by omega
    simp only [k98_s4, hi', inR_cast, hi, Int.toNat_natCast, decide_true, cond_true, beq_self_eq_true, Bool.not_true, cond_false]
  simp only [k98_p, k98_c, h, beq_self_eq_true, Bool.not_true, cond_false, Option.isSome_some, Option.getD_some, cond_true]
theorem fld_any (x : List Int) (g : Nat → List Int) : ∀ (m i : Nat) (a : Bool), fld (fun k a => bif a then true else g k == x) i m a = (a || (List.range' i m).any fun k => g k == x)
  | 0, i, a => by simp [fld]
  | m + 1, i, a => by
    rw [fld, fld_any x g m, List.range'_succ, List.any_cons]
    cases a with
    | true => simp
    | false => simp
section
variable (F : Nat) (hF : 1000 < F) {nu nc : Nat} (hu : nu ≤ 16) (hc : nc ≤ 16) {mu mc : LL} (lc : nc ≤ mc.length) (lu : nu ≤ mu.length)
include hF hu hc lc lu
theorem in_loop {i : Nat} (hi : i < nu) : k37_l36 F nu nc i mu mc false 0 = some ((List.range' 0 nc).any fun k => rget mc (0 + k) == rget mu (0 + i)) := by
  have h := loop_fold (step := k37_s36 F nu nc i mu mc) (fun k (a : Bool) => (a, k)) nc (fun k a => bif a then true else rget mc (0 + k) == rget mu (0 + i)) (fun a => a) (fun _ _ => True) (F := F) (by omega) (by omega) (a := false) trivial
    (fun k a hk _ => ⟨trivial, fun Q kn kx => by
      have hk' : (k : Int) < (nc : Int) := by omega
      simp only [k37_s36, hk', inR_cast, hk, hi, Int.toNat_natCast, decide_true, cond_true]
      cases a <;> rfl⟩) (fun a _ Q kn kx => by simp [k37_s36])
  have h1 := h.1
  rw [fld_any (rget mu (0 + i)) (fun k => rget mc (0 + k)), Bool.false_or] at h1
  exact h1
theorem all_loop (hin : ∀ x ∈ mu.take nu, x ∈ mc.take nc) : k37_l32 F nu nc mu mc 0 = some false := by
  refine (loop_fold (step := k37_s32 F nu nc mu mc) (fun i (_ : Unit) => i) nu (fun _ a => a) (fun _ => false) (fun _ _ => True) (F := F) (by omega) (by omega) (a := ()) trivial (fun i _ hi _ => ⟨trivial, fun Q kn kx => ?_⟩) (fun _ _ Q kn kx => by simp [k37_s32])).1
  have hi' : (i : Int) < (nu : Int) := by omega
  have hx : rget mu (0 + i) ∈ mu.take nu := by
    have hil : i < mu.length := by omega
    rw [Nat.zero_add, rgetL, List.getElem?_eq_getElem hil]
    exact get_take hi lu
  have hy := hin _ hx
  obtain ⟨k, hk, e⟩ := List.mem_iff_getElem.1 hy
  rw [List.length_take] at hk
  have hkc : k < nc := by omega
  have hkl : k < mc.length := by omega
  have hany : ((List.range' 0 nc).any fun k => rget mc (0 + k) == rget mu (0 + i)) = true := by
    rw [List.any_eq_true]
    refine ⟨k, by simp [List.mem_range'_1]; exact hkc, ?_⟩
    have : rget mc (0 + k) = rget mu (0 + i) := by
      rw [← e, List.getElem_take, Nat.zero_add, rgetL, List.getElem?_eq_getElem hkl]; rfl
    rw [this]; exact beq_self_eq_true _
  simp only [k37_s32, hi', in_loop F hF hu hc lc lu hi, hany, Option.isSome_some, Option.getD_some, decide_true, cond_true, Bool.not_true, cond_false]
end
theorem empty_valM (F : Nat) {b : List Int} (hb : b.length = 16) (ok : okB b = true) (hF : 1000 < F) : ∃ m : List (List Int), k57_p F b = some ((em b).length, true, m) := by
  obtain ⟨r, h1, h2⟩ := impl_empty_eq F b hF
  have hr : r.1 = (em b).length := by rw [h2.1, em_not]
  exact ⟨r.2, by simp only [k57_p, k57_c, k89_eq F b hb hF, ok, h1, hr, Option.isSome_some, Option.getD_some, cond_true, cond_false, Bool.not_true]⟩
theorem slide_valM (F : Nat) {b : List Int} (hb : b.length = 16) (ok : okB b = true) {d : Nat} (hd : d < 4) (hF : 1000 < F) : k60_p F b d = some ((slideB b d).1, (slideB b d).2, true) := by
  obtain ⟨m, e⟩ := impl_slide hb ok F hF hd
  have h : inB (d : Int) 0 3 = true := by simp [inB]; omega
  simp only [k60_p, k60_c, k89_eq F b hb hF, ok, k52_v, in_eq, h, e, Option.isSome_some, Option.getD_some, cond_true, cond_false, Bool.not_true]
theorem slide_part (F : Nat) (hF : 1000 < F) {c : List Int} (hb : c.length = 16) (d : Int) : ∃ (next : List Int) (sc : Int) (o : Bool), k60_p F c d = some (next, sc, o) ∧
    (o = true → (next == c) = false → ∃ (n1 n2 : Int) (E : Nat) (m : LL), k51_p F next d = some (n1, true) ∧ decide (n1 < 1) = false ∧ k59_p F next d = some (n2, true) ∧ k57_p F c = some (E, true, m) ∧ decide (n2 < IntKind.wrap .i64 ((16 : Int) - ((E : Nat) : Int))) = false) := by
  cases hB : okB c with
  | false => exact ⟨[0, 0, 0, 0, 0, 0, 0, 0, 0, 0, 0, 0, 0, 0, 0, 0], 0, false, by simp only [k60_p, k60_c, k89_eq F c hb hF, hB, Option.isSome_some, Option.getD_some, cond_true, Bool.not_false], fun h => by cases h⟩
  | true =>
    cases hd : inB d 0 3 with
    | false => exact ⟨[0, 0, 0, 0, 0, 0, 0, 0, 0, 0, 0, 0, 0, 0, 0, 0], 0, false, by simp only [k60_p, k60_c, k89_eq F c hb hF, hB, k52_v, in_eq, hd, Option.isSome_some, Option.getD_some, cond_true, cond_false, Bool.not_false, Bool.not_true], fun h => by cases h⟩
    | true =>
      obtain ⟨k, rfl, hk⟩ : ∃ n : Nat, d = n ∧ n < 4 := by
        simp [inB] at hd
        exact ⟨d.toNat, by omega, by omega⟩
      refine ⟨_, _, true, slide_valM F hb hB hk hF, fun _ hne => ?_⟩
      have hne : (slideB c k).1 ≠ c := by rw [beq_eq_false_iff_ne] at hne; exact hne
      obtain ⟨g1, g2⟩ := slide_ok hb hB hk
      have h1 := cnt_pos hb hB hk hne
      have h2 := most_ge hb hB hk
      obtain ⟨m, he⟩ := empty_valM F hb hB hF
      have ht := em_tiles hb
      have hl := em_len c
      have hg : gB (slideB c k).1 (k : Int) = true := by
        have : (cntB (slideB c k).1 k == 0) = false := by rw [beq_eq_false_iff_ne]; omega
        unfold gB
        rw [g2, hd, Int.toNat_natCast, this]; rfl
      have hm := (most_val F _ g1 (k : Int) hF).2
      unfold mostV at hm
      rw [hg, cond_true, Int.toNat_natCast] at hm
      refine ⟨_, _, _, m, ?_, decide_eq_false (by omega : ¬ cntB (slideB c k).1 k < 1), hm, he, ?_⟩
      · simp only [k51_p, k51_c, k89_eq F _ g1 hF, g2, k52_v, in_eq, hd, impl_count g1 g2 F hF hk, Option.isSome_some, Option.getD_some, cond_true, cond_false, Bool.not_true]
      · rw [wrap_of (by omega) (by omega)]
        exact decide_eq_false (by omega)
theorem back_part (F : Nat) (hF : 1000 < F) {b : List Int} (hb : b.length = 16) (d : Int) (ho : gB b d = true) {mu mc : LL} (hu : mu.take (mgV b d false).length = mgV b d false) (lu : (mgV b d false).length ≤ mu.length) (hc : mc.take (mgV b d true).length = mgV b d true) (lc : (mgV b d true).length ≤ mc.length) :
    ∃ (E : Nat) (m : LL), k57_p F b = some (E, true, m) ∧ decide ((mostV b d).1 < IntKind.wrap .i64 ((16 : Int) - ((E : Nat) : Int))) = false ∧
      decide (IntKind.wrap .i64 (IntKind.wrap .i64 ((16 : Int) - ((E : Nat) : Int)) + (((mgV b d true).length : Nat) : Int)) < (mostV b d).1) = false ∧
      decide ((mostV b d).1 < IntKind.wrap .i64 (IntKind.wrap .i64 ((16 : Int) - ((E : Nat) : Int)) + (((mgV b d false).length : Nat) : Int))) = false ∧
      k37_l32 F (mgV b d false).length (mgV b d true).length mu mc 0 = some false := by
  have l1 := mgV_len b d false
  have l2 := mgV_len b d true
  have hv := ho
  unfold gB at hv
  simp only [Bool.and_eq_true] at hv
  obtain ⟨hB, hd, hn⟩ := hv
  obtain ⟨k, rfl, hk⟩ : ∃ n : Nat, d = n ∧ n < 4 := by
    simp [inB] at hd
    exact ⟨d.toNat, by omega, by omega⟩
  rw [Int.toNat_natCast] at hn
  have hn : (cntB b k == 0) = false := by simpa using hn
  obtain ⟨m, he⟩ := empty_valM F hb hB hF
  have ht := em_tiles hb
  have hl := em_len b
  have hq := most_between hb hB hk hn
  have e1 : mgV b (k : Int) false = mgd b k false := by unfold mgV; rw [ho]; rfl
  have e2 : mgV b (k : Int) true = mgd b k true := by unfold mgV; rw [ho]; rfl
  have e3 : (mostV b (k : Int)).1 = mostS b k := by unfold mostV; rw [ho]; rfl
  have hin : ∀ x ∈ mu.take (mgV b (k : Int) false).length, x ∈ mc.take (mgV b (k : Int) true).length := by
    rw [hu, hc, e1, e2]
    exact must_can hb hB hk hn
  have hloop := all_loop F hF l1 l2 lc lu hin
  refine ⟨_, m, he, ?_, ?_, ?_, hloop⟩
  all_goals
    rw [e1] at l1
    rw [e2] at l2
    have hw : IntKind.wrap .i64 ((16 : Int) - (((em b).length : Nat) : Int)) = (16 : Int) - (((em b).length : Nat) : Int) := wrap_of (by omega) (by omega)
    rw [e3, hw]
    try rw [e1]
    try rw [e2]
    try rw [wrap_of (by omega) (by omega)]
    exact decide_eq_false (by omega)
theorem law_FnMergersBack (F : Nat) (code : List Int) (hc : Byt code) (hF : 1000 < F) : k37_p F code = some true := by
  by_cases hbig : (65536 : Int) < ((code.length : Nat) : Int)
  · simp only [k37_p, k37_c, k114_v, hbig, decide_true, cond_true]
  obtain ⟨b, d, a1, s1, e1, hb⟩ := made_ok hc F hF (n := 0) (by omega) (a := 0) (s := 0) ⟨by omega, by omega⟩
  have d1 : k38_p F code = some (b, d) := by
    simp only [k38_p, k38_c, k31_p, k31_c, e1, Option.isSome_some, Option.getD_some, cond_true]
  obtain ⟨c, a2, s2, e2, hcl, c2⟩ := board_ok hc F hF (n := 0) (by omega) (a := 0) (s := 0) ⟨by omega, by omega⟩
  obtain ⟨v, a3, s3, e3, c3⟩ := side_ok hc (by omega) c2 (s := s2)
  have d2 : k35_p F code = some (c, v) := by
    simp only [k35_p, k35_c, e2, e3, Option.isSome_some, Option.getD_some, cond_true]
  clear e1 e2 e3 c2 c3
  obtain ⟨mu, u1, u2, u3, u4⟩ := mustM_val F b hb d hF
  obtain ⟨mc, k1, k2, k3, k4⟩ := canM_val F b hb d hF
  obtain ⟨m1, m2⟩ := most_val F b hb d hF
  have hm2 : (mostV b d).2 = gB b d := by unfold mostV; cases gB b d <;> rfl
  have r1 := rCells_refl F (mgV b d false) (by have := mgV_len b d false; omega) hF
  have r2 := rCells_refl F (mgV b d true) (by have := mgV_len b d true; omega) hF
  obtain ⟨next, sc, o2, f1, f2⟩ := slide_part F hF hcl v
  have g1 := fun ho => back_part F hF hb d ho u3 u4 k3 k4
  generalize mgV b d false = lu at *
  generalize mgV b d true = lc at *
  generalize mostV b d = mo at *
  obtain ⟨mo, mq⟩ := mo
  simp only at hm2 g1
  subst hm2
  generalize gB b d = o at *
  simp only [k37_p, k37_c, k114_v, hbig, decide_false, cond_false, d1, d2, u1, u2, k1, k2, subn_take0, u3, k3, List.take_length, r1, r2, m1, m2, f1, beq_self_eq_true, Option.isSome_some, Option.getD_some, cond_true, Bool.not_true]
  clear u1 u2 k1 k2 m1 m2 r1 r2 f1 d1 d2
  cases o with
  | false =>
    cases o2 with
    | false => rfl
    | true =>
      cases hn : next == c with
      | true => rfl
      | false =>
        obtain ⟨n1, n2, E, m, h1, h2, h3, h4, h5⟩ := f2 rfl hn
        simp only [h1, h2, h3, h4, h5, Option.isSome_some, Option.getD_some, cond_true, cond_false, Bool.not_true, Bool.not_false]
  | true =>
    obtain ⟨E', m', t1, t2, t3, t4, t5⟩ := g1 rfl
    cases o2 with
    | false => simp only [t1, t2, t3, t4, t5, Option.isSome_some, Option.getD_some, cond_true, cond_false, Bool.not_true, Bool.not_false]
    | true =>
      cases hn : next == c with
      | true => simp only [t1, t2, t3, t4, t5, Option.isSome_some, Option.getD_some, cond_true, cond_false, Bool.not_true, Bool.not_false]
      | false =>
        obtain ⟨n1, n2, E, m, h1, h2, h3, h4, h5⟩ := f2 rfl hn
        simp only [h1, h2, h3, h4, h5, t1, t2, t3, t4, t5, Option.isSome_some, Option.getD_some, cond_true, cond_false, Bool.not_true, Bool.not_false]
end Go.Lv.P
