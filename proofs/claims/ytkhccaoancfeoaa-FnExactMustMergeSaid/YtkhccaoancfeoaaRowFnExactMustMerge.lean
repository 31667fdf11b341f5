/-
The law FnExactMustMerge answers true for every input and leaves its arguments as they were; without conditions.
-/
import Derived.Test.YtkhccaoancfeoaaRows
import Derived.Test.YtkhccaoancfeoaaQsS6
import Derived.Test.YtkhccaoancfeoaaLv3
import Derived.Test.YtkhccaoancfeoaaQsLMustMerge
namespace Go.Proofs.Ytkhccaoancfeoaa.fnExactMustMerge
open Go Go.Lv Go.Lv.P Go.Proofs Go.RowKit Go.ChangeShapes Go.WideShapes Go.ChangeAt
set_option linter.unusedVariables false
theorem own : ownKnob Try.prog.godebug = none := by kernel_rfl
theorem laid : laidOutB Try.prog = true := by kernel_rfl
set_option maxRecDepth 100000 in
theorem lifted (os : Os) (started : os.Started) (H : Type) (enc : TypeId × Value → H) :
    ReturnsInHanded {} Try.checked os 4 .any (Rows.fnExactMustMergeSpec.pre6 enc Try.prog Try.f4 Rows.fnExactMustMergeRow.domain false) (Rows.fnExactMustMergeSpec.post enc Try.prog Try.f4 false true false false) := by
  refine returnsInHanded_of_change_sized (C := Try.checked) own started (by kernel_rfl) Try.func4
    (ChangeSpec.witness6 (enc := enc) (C := Try.checked) false ⟨#[], #[.agg #[.int .i64 0, .int .i64 0, .int .i64 0, .int .i64 0, .int .i64 0, .int .i64 0, .int .i64 0, .int .i64 0, .int .i64 0, .int .i64 0, .int .i64 0, .int .i64 0, .int .i64 0, .int .i64 0, .int .i64 0, .int .i64 0], .int .i64 0], []⟩ 12 (by kernel_rfl) (by kernel_rfl) (by kernel_rfl) (by kernel_rfl)) ?_
  intro W base args ds gs before hval0 hW hcnd hsz0 hh
  have hW1 := hW
  obtain ⟨p, q, hA, hV, rfl, hfz, hnd⟩ := hW
  have hA1 : DataW.TrodAll enc Try.prog W 0 (fun _ => true) true Try.f4.params.toList args.toList ds p := hA
  have hval : ∀ (j : Nat) t v, Try.f4.params[j]? = some t → args[j]? = some v → Value.okWide Try.prog W .any base t v := hval0
  rw [Try.params4] at hA1 hval
  have hA2 := hA1
  obtain ⟨v0, vs0, d0, ds0, p0, q0, e0, rfl, e0', h0, r0⟩ := trodAll_cons hA2
  obtain ⟨v1, vs1, d1, ds1, p1, q1, e1, rfl, e1', h1, r1⟩ := trodAll_cons r0
  obtain ⟨e2, rfl, _⟩ := trodAll_nil r1
  subst e2 e1
  obtain rfl : args = #[v0, v1] := by apply Array.ext'; simpa using e0
  obtain ⟨x0, rfl, l0, _, g0⟩ := open_agg ttok (show ia tt 6 25 = some 16 from by kernel_rfl) (by decide) h0
  obtain ⟨x1, rfl, _, g1⟩ := open_i64 ttok (show Go.Lv.look tt 3 = some _ from rfl) rfl (hval 1 3 _ rfl rfl) h1
  obtain ⟨rfl, rfl⟩ := trodVars_none hV
  have hp := law_MustMerge 1000000 x0 l0 g0 x1 g1 (by decide)
  refine (law_calls (laws_FnExactMustMerge_meets 1000000) (args := [.ints 16 x0, .int .i64 x1]) (reals := [.agg (iv .i64 x0).toArray, .int .i64 x1]) (fun _ => (.cons ⟨l0, rfl⟩ (.cons rfl .nil))) (b := true) ?_).mono fun e W' ⟨he, bel⟩ => ?_
  · simp only [laws_FnExactMustMerge_ent, hp, Option.isSome_some, Option.getD_some]
  · subst he
    exact ⟨_, rfl, _, _, _, [], _, [], hW1, trodAll_mk1 (shut_bool Try.underlying4 _), trodAll_below laid (by kernel_rfl) hA1 bel, rfl, bel.frame _, fun h => by cases h⟩
theorem over : Rows.fnExactMustMergeRow.holds Try.pinned (OpenSpec.ofChange Rows.fnExactMustMergeSpec) :=
  OpenClaim.holds_of_wide 4 Try.f4 rfl rfl rfl rfl rfl rfl rfl ⟨rfl, rfl, rfl, rfl, rfl⟩ rfl rfl rfl rfl rfl (by kernel_rfl) Try.func4 (by kernel_rfl)
    (of_decide_eq_true (by kernel_rfl)) (by unfold Func.isWrapper; first | (rw [if_pos (by decide +kernel)]; kernel_rfl) | (rw [if_neg (by decide +kernel)]; exact ⟨rfl, rfl⟩))
    (fun os started H enc _ => lifted os started H enc)
theorem proved : Rows.FnExactMustMergeSaid := over
end Go.Proofs.Ytkhccaoancfeoaa.fnExactMustMerge
namespace Go.Proofs.Ytkhccaoancfeoaa
/-- The row, under a short name, for the claim. -/
theorem fnExactMustMerge_holds : Rows.FnExactMustMergeSaid := fnExactMustMerge.proved
end Go.Proofs.Ytkhccaoancfeoaa
