/-
FnExactMeanSum: both say the same.
-/
import Derived.Test.YtmdicfifhppjaaaTAP3
import Derived.Test.YtmdicfifhppjaaaPGcd
import Derived.Test.YtmdicfifhppjaaaPSum
import Derived.Test.YtmdicfifhppjaaaPEq
namespace Go.Lv.P
open Go Go.Lv
set_option linter.unusedVariables false
set_option linter.unusedSimpArgs false

theorem eqIntA2_refl (F : Nat) (a : List Int) (hF : 1000 < F) : laws_eqIntA2_p F a a = some true := by
  have h : laws_eqIntA2_l2 F a a 0 = some false := by
    refine (loop_fold (step := laws_eqIntA2_s2 F a a) (fun i (_ : Unit) => i) 2 (fun _ a => a) (fun _ => false) (fun _ _ => True) (F := F) (by omega) (by omega) (a := ()) trivial (fun i _ hi _ => ⟨trivial, fun Q kn kx => ?_⟩) (fun _ _ Q kn kx => by simp [laws_eqIntA2_s2])).1
    have hi' : (i : Int) < 2 := by omega
    simp only [laws_eqIntA2_s2, hi', inR_cast, hi, decide_true, cond_true, beq_self_eq_true, Bool.not_true, cond_false]
  simp only [laws_eqIntA2_p, laws_eqIntA2_c, h, Option.isSome_some, Option.getD_some, cond_true, cond_false]

theorem gcd5 (x : Nat) : Nat.gcd x 5 = if x % 5 = 0 then 5 else 1 := by
  rw [Nat.gcd_comm, Nat.gcd_rec]
  have : x % 5 < 5 := Nat.mod_lt _ (by omega)
  generalize x % 5 = y at *
  obtain rfl | rfl | rfl | rfl | rfl : y = 0 ∨ y = 1 ∨ y = 2 ∨ y = 3 ∨ y = 4 := by omega
  all_goals rfl

theorem mean_same (F : Nat) (b : List Int) (hb : b.length = 16) (m : Int) (hF : 1000 < F) : ∃ v, spec_MeanSum_p F b m = some v ∧ impl_MeanSum_p F b m = some v := by
  simp only [spec_MeanSum_p, spec_MeanSum_c, impl_MeanSum_p, impl_MeanSum_c, spec_l2Board_eq F b hb hF, impl_IsBoard_eq F b hb hF, Option.isSome_some, Option.getD_some, cond_true, in_eq, l1In_eq]
  cases hB : okB b with
  | false => exact ⟨_, rfl, rfl⟩
  | true =>
    cases hm : inB m 0 1000 with
    | false => exact ⟨_, rfl, rfl⟩
    | true =>
      obtain ⟨f1, f2, f3⟩ := sumB_facts hB
      rw [hb] at f2
      obtain ⟨s, hs⟩ : ∃ s : Nat, sumB b = s := ⟨(sumB b).toNat, by omega⟩
      obtain ⟨n, rfl, hn⟩ : ∃ n : Nat, m = n ∧ n ≤ 1000 := by
        simp [inB] at hm
        exact ⟨m.toNat, by omega, by omega⟩
      have w1 : IntKind.wrap .i64 ((11 : Int) * n) = ((11 * n : Nat) : Int) := by rw [wrap_of (by omega) (by omega)]; omega
      have w2 : IntKind.wrap .i64 ((5 : Int) * s) = ((5 * s : Nat) : Int) := by rw [wrap_of (by omega) (by omega)]; omega
      have w3 : IntKind.wrap .i64 (((5 * s : Nat) : Int) + ((11 * n : Nat) : Int)) = ((5 * s + 11 * n : Nat) : Int) := by rw [wrap_of (by omega) (by omega)]; omega
      have c1 : spec_l9Cut_p F ((11 * n : Nat) : Int) 5 = _ := cut_eq F (11 * n) 5 (by omega) (by omega) (by omega) (by omega)
      have c2 : impl_fraction_p F ((5 * s + 11 * n : Nat) : Int) 5 = _ := fraction_eq F (5 * s + 11 * n) 5 (by omega) (by omega) (by omega) (by omega)
      rw [gcd5] at c1 c2
      simp only [impl_sum_eq b hb hB, spec_sum_eq F b hb hB hF, Option.isSome_some, Option.getD_some, cond_true, Bool.not_true, cond_false, hs, w1, w2, w3, c1, c2, spec_l9Plus_p, spec_l9Plus_c]
      have fin : ∀ x y : Nat, 0 < y → y ≤ 5 → x ≤ 11000 → spec_l9Cut_p F (IntKind.wrap .i64 ((IntKind.wrap .i64 ((iget [(s : Int), 1] 0) * (iget [(x : Int), (y : Int)] 1))) + (IntKind.wrap .i64 ((iget [(x : Int), (y : Int)] 0) * (iget [(s : Int), 1] 1))))) (IntKind.wrap .i64 ((iget [(s : Int), 1] 1) * (iget [(x : Int), (y : Int)] 1))) = some [(((s * y + x) / Nat.gcd (s * y + x) y : Nat) : Int), ((y / Nat.gcd (s * y + x) y : Nat) : Int)] := fun x y h0 hy hx => by
        have hsy : s * y ≤ 2097152 * 5 := Nat.mul_le_mul (by omega) hy
        show spec_l9Cut_p F (IntKind.wrap .i64 ((IntKind.wrap .i64 ((s : Int) * (y : Int))) + (IntKind.wrap .i64 ((x : Int) * 1)))) (IntKind.wrap .i64 (1 * (y : Int))) = _
        rw [← Int.natCast_mul, wi' _ (by omega), Int.mul_one, wi' _ (by omega), ← Int.natCast_add, wi' _ (by omega), Int.one_mul, wi' _ (by omega)]
        exact cut_eq F _ y h0 (by omega) (by omega) (by omega)
      by_cases h5 : 11 * n % 5 = 0
      · have h5' : (5 * s + 11 * n) % 5 = 0 := by omega
        simp only [h5, h5', if_true]
        rw [fin (11 * n / 5) (5 / 5) (by omega) (by omega) (by omega)]
        refine ⟨_, rfl, ?_⟩
        simp only [Option.some.injEq, Prod.mk.injEq, List.cons.injEq, and_true, Option.getD_some, Nat.div_self (show 0 < 5 by omega), Nat.gcd_one_right, Nat.div_one, Nat.mul_one]
        rw [show (5 * s + 11 * n) / 5 = s + 11 * n / 5 by omega]
        rfl
      · have h5' : ¬ (5 * s + 11 * n) % 5 = 0 := by omega
        simp only [h5, h5', if_false, Nat.div_one]
        rw [fin (11 * n) 5 (by omega) (by omega) (by omega), gcd5]
        have h6 : ¬ (s * 5 + 11 * n) % 5 = 0 := by omega
        refine ⟨_, rfl, ?_⟩
        simp only [h6, if_false, Nat.div_one, Option.some.injEq, Prod.mk.injEq, List.cons.injEq, and_true, Option.getD_some]
        rw [Nat.mul_comm 5 s]
        rfl

theorem law_MeanSum (F : Nat) (b : List Int) (hb : b.length = 16) (_ : ∀ x ∈ b, Rng x) (n : Int) (_ : Rng n) (hF : 1000 < F) : laws_FnExactMeanSum_p F b n = some true := by
  obtain ⟨v, h1, h2⟩ := mean_same F b hb n hF
  simp only [laws_FnExactMeanSum_p, laws_FnExactMeanSum_c, toBoard_eq hb, h1, h2, Option.isSome_some, Option.getD_some, cond_true, eqIntA2_refl F _ hF, beq_self_eq_true, Bool.not_true, cond_false]
end Go.Lv.P
