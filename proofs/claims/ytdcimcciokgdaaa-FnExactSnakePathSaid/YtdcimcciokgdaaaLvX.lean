/-
Functions, sound: from a run of the body to what the table says.
-/
import Derived.Test.YtdcimcciokgdaaaLvW
namespace Go.Lv
open Go.RowKit
set_option linter.unusedVariables false
set_option linter.unusedSimpArgs false
set_option linter.unusedSectionVars false

theorem shape_ren' {g : Nat → Nat} {b c : Blk} (h : Shape b c) : Shape b (c.ren g) := by
  cases b with
  | dead => trivial
  | var n x => obtain ⟨y, rfl⟩ := h; exact ⟨_, rfl⟩
  | vec e x => obtain ⟨y, rfl, h1, h2⟩ := h; exact ⟨_, rfl, by rw [ren_wd, h1], by rw [ren_cnt]; exact h2⟩
  | map k => obtain ⟨y, rfl⟩ := h; exact ⟨_, rfl⟩

/-- arguments and a memory that can come in -/
def Fit (args : List V) (mem : Mem) : Prop := ∃ (fr : Fr) (w : World) (ρ : Rho) (reals : List Value), WR w ρ mem ∧ All2 (VR w ρ mem) args reals

section
variable {P : Program} {tt : TT} {tab : Tab}

theorem fin_ok (fr : Fr) (hT : TTok P tt) {w0 w : World} {ρ0 ρ : Rho} {mem0 : Mem} {σ : St} {a : Act} (hG : Good w0 ρ0 mem0 σ a w ρ) {fn : Func} {ret : Ret} (h : finK tt tab fn.results.toList σ = some ret) :
    ∃ r ρ', (results fn a.tmps).run P w = .ok r w ∧ VR w ρ' ret.blks ret.v r ∧ WR w ρ' ret.blks ∧ Step w0 ρ0 mem0 w ρ' ret.blks (· ∈ ret.kills) := by
  unfold finK at h
  obtain ⟨vs, rs, h1, h2, h3⟩ := retK_ok hT hG.inv h
  obtain ⟨hok, h1⟩ := cond_none h1
  obtain ⟨r, hr, hv⟩ := results_ok h2 h3
  generalize hk : keepOf σ.np σ.mem (outV vs) = keep at *
  simp only [Option.some.injEq] at h1
  subst h1
  have hm : ∀ (n : Nat) (l : List Nat), memb n l = true ↔ n ∈ l := fun n l => memb_iff
  simp only [okKeep, Bool.and_eq_true, List.all_eq_true] at hok
  obtain ⟨⟨hnd, hcl⟩, hvk⟩ := hok
  have hnd := nodupB_spec hnd
  have hf : frD fr ρ σ.mem keep (List.range σ.mem.length) fr := fun r => ⟨.inl, fun h => by
    rcases h with h | ⟨x, rl, _, hl, _, _, hx⟩
    · exact h
    · exact absurd (List.mem_range.2 (live_lt hl)) hx⟩
  have hw := wr_down fr fr hf hG.inv.wr hnd fun x hx y hy => (hm y keep).1 (hcl x hx y hy)
  have hR := rn_down fr fr hf hG.inv.wr
  refine ⟨r, rhoD ρ keep, hr, VR_ren hR (fun x hx => (hm x keep).1 (hvk x hx)) (fun _ => trivial) hv, hw, ?_⟩
  refine ⟨hG.step.os, hG.step.tape, hG.step.output, hG.step.size, fun r hr hn => ?_, fun x rl hx hl hnk => ?_⟩
  · obtain ⟨g1, g2⟩ := hG.step.old r hr hn
    refine ⟨g1, fun hlb => ?_⟩
    obtain ⟨y, rl, _, k1, k2, k3⟩ := LB_down fr hG.inv.wr (hs := keep) hlb
    exact g2 ⟨y, rl, k1, k2, k3⟩
  · obtain ⟨g1, g2⟩ := hG.step.hp x rl hx hl hnk
    have hlt : x < σ.np := by rw [← hG.np]; exact (List.getElem?_eq_some_iff.1 hx).1
    have hkx : keep[x]? = some x := by
      rw [← hk, keepOf, List.getElem?_append_left (by simpa using hlt)]
      simp [hlt]
    exact ⟨by rw [rhoD_get x x hkx, g1]; rfl, by
      show Shape _ (mget (memD σ.mem keep) x)
      rw [memD_get x x hkx]; exact shape_ren' g2⟩

theorem meets_of_run (hm : P.follows .mixedOrders = true) (hT : TTok P tt) (hD : 6 ≤ P.depth) (hTab : TabOK P tab) {f : FuncId} {ent : Ent} {fn : Func} {c : Code} (hf : P.funcs[f]? = some fn) (hb : fn.body = some c)
    (h : ∀ args mem, Fit args mem → ∀ ret, ent.g args mem = some (true, ret) → ∃ fuel ret0, run tt tab fn c fuel args mem = some ret0 ∧ ret0.v = ret.v ∧ ret0.blks = outD ent mem ret ∧ ret0.kills = outK ent ret) : Meets P f ent := by
  intro fr w ρ mem args reals hw ha ret hg
  obtain ⟨fuel, ret0, hrun, e1, e2, e3⟩ := h args mem ⟨fr, w, ρ, reals, hw, ha⟩ ret hg
  refine calls_of_wp hf hb ?_
  have hG : Good w ρ mem (ini fn.ntmps args mem) { tmps := reals.toArray ++ Array.replicate (fn.ntmps - reals.toArray.size) Go.undef, defers := [] } w ρ := by
    refine ⟨⟨rfl, hw, ?_⟩, Step.refl _ _ _ _, hw.len⟩
    show All2 _ (args ++ List.replicate (fn.ntmps - args.length) .undef) _
    rw [Array.toList_append, Array.toList_replicate]
    refine all2_append ha ?_
    rw [all2_length ha, List.size_toArray]
    generalize fn.ntmps - reals.length = n
    induction n with
    | zero => exact .nil
    | succ n ih => exact .cons (show VR w ρ mem .undef Go.undef from rfl) ih
  refine Code.wp_mono (fun e a' w' hp => ?_) (ev_ok hm hT hD hTab fuel c hrun hG)
  obtain ⟨σ, ρ', hG', hp⟩ := hp
  have fin : finK tt tab fn.results.toList σ = some ret0 → a'.defers = [] ∧ ∃ v, (results fn a'.tmps).run P w' = .ok v w' ∧ ∃ r ρ'', Ending.returned v = .returned r ∧ VR w' ρ'' (outD ent mem ret) ret.v r ∧ WR w' ρ'' (outD ent mem ret) ∧ Step w ρ mem w' ρ'' (outD ent mem ret) (· ∈ outK ent ret) := fun hfin => by
    obtain ⟨r, ρ'', h1, h2, h3, h4⟩ := fin_ok fr hT hG' hfin
    rw [e1, e2] at h2
    rw [e2] at h3
    rw [e2, e3] at h4
    exact ⟨hG'.inv.defers, r, h1, r, ρ'', rfl, h2, h3, h4⟩
  cases e with
  | normal => exact fin hp
  | ret => exact fin hp
  | exit id => cases hp
  | _ => exact hp.elim

end
end Go.Lv
