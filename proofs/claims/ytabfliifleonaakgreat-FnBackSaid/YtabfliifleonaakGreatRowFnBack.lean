/-
The law FnBack answers true for every input and leaves its arguments as they were; without conditions.
-/
import Derived.Test.YtabfliifleonaakGreatRows
import Derived.Test.YtabfliifleonaakGreatQkS8
import Derived.Test.YtabfliifleonaakGreatLv3
import Derived.Test.YtabfliifleonaakGreatQkLFnBack
namespace Go.Proofs.YtabfliifleonaakGreat.fnBack
open Go Go.Lv Go.Lv.P Go.Proofs Go.RowKit Go.ChangeShapes Go.WideShapes Go.ChangeAt
set_option linter.unusedVariables false
theorem own : ownKnob Tryz.prog.godebug = none := by kernel_rfl
theorem laid : laidOutB Tryz.prog = true := by kernel_rfl
set_option maxRecDepth 100000 in
theorem lifted (os : Os) (started : os.Started) (H : Type) (enc : TypeId × Value → H) :
    ReturnsInHanded {} Tryz.checked os 3 .any (Rows.fnBackSpec.pre6 enc Tryz.prog Tryz.f3 Rows.fnBackRow.domain false) (Rows.fnBackSpec.post enc Tryz.prog Tryz.f3 false true false false) := by
  refine returnsInHanded_of_change_sized (C := Tryz.checked) own started (by kernel_rfl) Tryz.func3
    (ChangeSpec.witness6 (enc := enc) (C := Tryz.checked) false ⟨#[], #[.slice none 0 0], []⟩ 12 (by kernel_rfl) (by kernel_rfl) (by kernel_rfl) (by kernel_rfl)) ?_
  intro W base args ds gs before hval0 hW hcnd hsz0 hh
  have hW1 := hW
  obtain ⟨p, q, hA, hV, rfl, hfz, hnd⟩ := hW
  have hA1 : DataW.TrodAll enc Tryz.prog W 0 (fun _ => true) true Tryz.f3.params.toList args.toList ds p := hA
  have hval : ∀ (j : Nat) t v, Tryz.f3.params[j]? = some t → args[j]? = some v → Value.okWide Tryz.prog W .any base t v := hval0
  rw [Tryz.params3] at hA1 hval
  have hA2 := hA1
  obtain ⟨v0, vs0, d0, ds0, p0, q0, e0, rfl, e0', h0, r0⟩ := trodAll_cons hA2
  obtain ⟨e1, rfl, _⟩ := trodAll_nil r0
  subst e1
  obtain rfl : args = #[v0] := by apply Array.ext'; simpa using e0
  obtain ⟨x0, g0, m0, y0⟩ := open_bytes ttok (show Go.Lv.look tt 22 = some _ from rfl) rfl (show Go.Lv.look tt 5 = some _ from rfl) rfl rfl (hval 0 22 _ rfl rfl) h0
  obtain ⟨rfl, rfl⟩ := trodVars_none hV
  have hp := law_FnBack 1000000000000000000 x0 g0 (by decide)
  refine (law_calls2 (k110_meets 1000000000000000000) (args := [.ri .u8 x0]) (reals := [v0]) ((.cons y0 .nil)) (b := true) ?_).mono fun e W' ⟨he, bel⟩ => ?_
  · simp only [k110_ent, hp, Option.isSome_some, Option.getD_some]
  · subst he
    exact ⟨_, rfl, _, _, _, [], _, [], hW1, trodAll_mk1 (shut_bool Tryz.underlying4 _), u195 laid (by kernel_rfl) hA1 bel, rfl, bel.frame _, fun h => by cases h⟩
theorem over : Rows.fnBackRow.holds Tryz.pinned (OpenSpec.ofChange Rows.fnBackSpec) :=
  OpenClaim.holds_of_wide 3 Tryz.f3 rfl rfl rfl rfl rfl rfl rfl ⟨rfl, rfl, rfl, rfl, rfl⟩ rfl rfl rfl rfl rfl (by kernel_rfl) Tryz.func3 (by kernel_rfl)
    (of_decide_eq_true (by kernel_rfl)) (by unfold Func.isWrapper; first | (rw [if_pos (by decide +kernel)]; kernel_rfl) | (rw [if_neg (by decide +kernel)]; exact ⟨rfl, rfl⟩))
    (fun os started H enc _ => lifted os started H enc)
theorem proved : Rows.FnBackSaid := over
end Go.Proofs.YtabfliifleonaakGreat.fnBack
namespace Go.Proofs.YtabfliifleonaakGreat
theorem fnBack_holds : Rows.FnBackSaid := fnBack.proved
end Go.Proofs.YtabfliifleonaakGreat
