/-
The empty cells by the reference.
-/
import Derived.Test.YtgdokdkcbgkekaeGeP4
import Derived.Test.YtgdokdkcbgkekaeGePEm
namespace Go.Lv.P
open Go Go.Lv
set_option linter.unusedVariables false
set_option linter.unusedSimpArgs false

theorem spec_empty_eq (F : Nat) (b : List Int) (hF : 1000 < F) : spec_l2Empty_p F b = some (em b) := by
  let hc : Nat → Nat → LL := fun r c => bif iget b (0 + r * 4 + c * 1) == 0 then [[(r : Int), (c : Int)]] else []
  have hc1 : ∀ r c, (hc r c).length ≤ 1 := fun r c => by
    show (bif iget b (0 + r * 4 + c * 1) == 0 then [[(r : Int), (c : Int)]] else [] : LL).length ≤ 1
    cases iget b (0 + r * 4 + c * 1) == 0 <;> simp
  have hin : ∀ (r : Nat) (out : LL), r < 4 → out.length ≤ 100 → spec_l2Empty_l6 F r b 0 out = some (out ++ (List.range' 0 4).flatMap (hc r)) := fun r out hr ho => by
    rw [← fld_add]
    refine (loop_fold (step := spec_l2Empty_s6 F r b) (fun i a => (i, a)) 4 (fun i a => a ++ hc r i) (fun a => a) (fun i a => a.length ≤ 100 + i) (F := F) (by omega) (by omega) (a := out) (by omega) (fun i a hi hI => ⟨?_, fun Q kn kx => ?_⟩) (fun a _ Q kn kx => by simp [spec_l2Empty_s6])).1
    · have := hc1 r i
      simp only [List.length_append]
      omega
    · have hi' : (i : Int) < 4 := by omega
      have hf : fits (a ++ [[(r : Int), (i : Int)]]).length 16 = true := fits_of (by simp; omega) (by simp; omega)
      simp only [spec_l2Empty_s6, hi', inR_cast, hi, hr, Int.toNat_natCast, decide_true, cond_true, subn_self, hf, hc]
      cases iget b (0 + r * 4 + i * 1) == 0
      · simp only [cond_false, List.append_nil]
      · rfl
  have hout : spec_l2Empty_l3 F b 0 [] = some ([] ++ (List.range' 0 4).flatMap fun r => (List.range' 0 4).flatMap (hc r)) := by
    rw [← fld_add]
    refine (loop_fold (step := spec_l2Empty_s3 F b) (fun i a => (i, a)) 4 (fun r a => a ++ (List.range' 0 4).flatMap (hc r)) (fun a => a) (fun i a => a.length ≤ 4 * i) (F := F) (by omega) (by omega) (a := []) (by simp) (fun i a hi hI => ⟨?_, fun Q kn kx => ?_⟩) (fun a _ Q kn kx => by simp [spec_l2Empty_s3])).1
    · have := flat_len (hc1 i) 4 0
      simp only [List.length_append]
      omega
    · have hi' : (i : Int) < 4 := by omega
      simp only [spec_l2Empty_s3, hi', decide_true, cond_true, hin i a hi (by omega), beq_selfL, Option.isSome_some, Option.getD_some, Bool.and_self]
  simp only [spec_l2Empty_p, spec_l2Empty_c, hout, Option.isSome_some, Option.getD_some, cond_true]
  congr 1
  rw [em, filter_flatMap]
  simp only [List.range'_succ, List.range'_zero, List.flatMap_cons, List.flatMap_nil, List.append_nil, List.nil_append, List.append_assoc, hc, cells16]
  rfl
end Go.Lv.P
