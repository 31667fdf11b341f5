/-
A function that asks first whether a slice that came in is nil.
-/
import Derived.Test.YtabfliifleonaakGreatLv3
import Derived.Lib.SliceRun
namespace Go.Lv
open Go.RowKit
set_option linter.unusedVariables false
set_option linter.unusedSimpArgs false
set_option linter.unusedSectionVars false
def V.isRo : V → Bool
  | .ri _ _ | .rb _ | .rr _ _ => true
  | _ => false
def finS (tt : TT) (tab : Tab) (nils : List NS) (kills : List Nat) (fn : Func) : Out → Option Ret
  | .norm σ => finK tt tab fn.results.toList (moreK kills (nilT nils σ))
  | .ret σ => finK tt tab fn.results.toList (moreK kills (nilT nils σ))
  | _ => none
theorem ro_nil [fr : Fr] {w : World} {ρ : Rho} {mem : Mem} {v : V} {r : Value} (h : VR w ρ mem v r) (hv : v.isRo = true) : ∃ ad n cap, r = .slice ad n cap ∧ (ad = none → v.cnt = 0) := by
  have key : ∀ {cells : List Value} {wd n : Nat}, RoR w ρ mem cells wd n r → ∃ ad n' cap, r = .slice ad n' cap ∧ (ad = none → n = 0) := fun {cells wd n} h => by
    obtain ⟨a, cap, rfl, _, _, hc⟩ := h
    refine ⟨a, n, cap, rfl, fun ha => ?_⟩
    by_cases h0 : n = 0
    · exact h0
    · obtain ⟨b, off, h1, _⟩ := hc h0
      rw [ha] at h1; cases h1
  cases v with
  | ri k xs => exact key (show RoR w ρ mem (iv k xs) 1 xs.length r from h)
  | rb bs => exact key (show RoR w ρ mem (bv bs) 1 bs.length r from h)
  | rr m xss => exact key (show rowsOK m xss ∧ RoR w ρ mem (iv .i64 xss.flatten) m xss.length r from h).2
  | _ => cases hv
theorem meets_nil {P : Program} {tt : TT} {tab : Tab} {LS : LT} (hm : P.follows .mixedOrders = true) (hT : TTok P tt) (hD : 6 ≤ P.depth) (hTab : TabOK P tab) {f : FuncId} {ent : Ent} {fn : Func} {c0 C rest : Code} {id : Nat} {o1 o2 : Oper} {s d1 d2 : Tmp} {t e t' : TypeId}
    (hf : P.funcs[f]? = some fn) (hb : fn.body = some (.seq c0 (.seq (.seq (.region id #[o1, o2] false) C) rest))) (hL : u011 P LS (.seq c0 (.seq (.seq (.region id #[o1, o2] false) C) rest)))
    (ho1 : o1.op = .move (.tmp s)) (hd1 : o1.dst = some d1) (hg1 : o1.guard = none) (ho2 : o2.op = .binOp .eql t (.tmp d1) (.const (.slice none 0 0)) t') (hd2 : o2.dst = some d2) (hg2 : o2.guard = none)
    (hu : P.underlying t = some (.slice e)) {fuel : Nat}
    (h : ∀ args mem, Fit args mem → ∀ ret, ent.g args mem = some (true, ret) → ∃ σ0 : St, (∀ (R : Type) (k : Out → Option R), evS tt tab LS fuel c0 (ini fn.ntmps args mem) k = k (.norm σ0)) ∧ (vget σ0.tmps s).isRo = true ∧ d1 < σ0.tmps.length ∧
      ∀ b : Bool, (b = true → (vget σ0.tmps s).cnt = 0) → ∃ nils kills ret0, evS tt tab LS fuel (.seq C rest) { σ0 with tmps := tset (tset σ0.tmps d1 (vget σ0.tmps s)) d2 (.bool b) } (finS tt tab nils kills fn) = some ret0 ∧ ret0.v = ret.v ∧ ret0.blks = outD ent mem ret ∧ ret0.kills = outK ent ret) : Meets P f ent := by
  intro fr w ρ mem args reals hw ha ret hg
  obtain ⟨σ0, h0, hro, hlt, hall⟩ := h args mem ⟨fr, w, ρ, reals, hw, ha⟩ ret hg
  refine calls_of_wp hf hb ?_
  have hG : Good w ρ mem (ini fn.ntmps args mem) { tmps := reals.toArray ++ Array.replicate (fn.ntmps - reals.toArray.size) Go.undef, defers := [] } w ρ := by
    refine ⟨⟨rfl, hw, ?_⟩, Step.refl _ _ _ _, hw.len⟩
    show All2 _ (args ++ List.replicate (fn.ntmps - args.length) .undef) _
    rw [Array.toList_append, Array.toList_replicate]
    refine u062 ha ?_
    rw [u043 ha, List.size_toArray]
    generalize fn.ntmps - reals.length = n
    induction n with
    | zero => exact .nil
    | succ n ih => exact .cons (show VR w ρ mem .undef Go.undef from rfl) ih
  have hL0 : u011 P LS c0 := fun b hb => hL b (by simp [u055, hb])
  have hL2 : u011 P LS rest := fun b hb => hL b (by simp [u055, hb])
  have hLC : u011 P LS C := fun b hb => hL b (by simp [u055, hb])
  have hev := h0 St fun | .norm σ => some σ | _ => none
  simp only at hev
  refine wp_seq (Code.wp_mono (fun x a' w' hp => ?_) (evS_ok hm hT hD hTab fuel c0 hL0 hev hG))
  obtain ⟨σ', ρ', hG', hp⟩ := hp
  cases x with
  | normal =>
    simp only [Option.some.injEq] at hp
    subst hp
    refine wp_seq (wp_seq (wp_region_list ?_))
    have hv := hG'.inv.tmp s
    obtain ⟨ad, n, cap, hr, hnil⟩ := ro_nil hv hro
    have hwant : ∀ (o : Oper), o.guard = none → ∀ (y : Nat → Option Bool), Region.wanted o y = true := fun o ho y => by
      unfold Region.wanted
      rw [ho]
    unfold wpList
    rw [if_pos (hwant o1 hg1 _)]
    refine .inl (wp_val (r := a'.tmps.getD s Go.undef) (w' := w') ?_ ?_)
    · unfold execOp
      simp only [ho1]
      rfl
    have hG1 := hG'.put (v := vget σ'.tmps s) (r := a'.tmps.getD s Go.undef) hv hG'.inv.wr (Step.refl _ _ _ _) (ks := []) o1.dst
    rw [hd1] at hG1 ⊢
    unfold wpList
    rw [if_pos (hwant o2 hg2 _)]
    have hlen : a'.tmps.size = σ'.tmps.length := by
      have := u043 hG'.inv.tmps
      simpa using this.symm
    have hd : (a'.put (some d1) (a'.tmps.getD s Go.undef)).tmps.getD d1 Go.undef = a'.tmps.getD s Go.undef := by
      show (a'.tmps.setIfInBounds d1 (a'.tmps.getD s Go.undef)).getD d1 Go.undef = _
      rw [Array.getD_eq_getD_getElem?, Array.getElem?_setIfInBounds_self_of_lt (Nat.lt_of_lt_of_eq hlt hlen.symm)]
      rfl
    refine .inl (wp_val (r := .bool ad.isNone) (w' := w') ?_ ?_)
    · unfold execOp
      simp only [ho2]
      have e1 : (a'.put (some d1) (a'.tmps.getD s Go.undef)).eval (.tmp d1) = .slice ad n cap := by
        show (a'.put (some d1) (a'.tmps.getD s Go.undef)).tmps.getD d1 Go.undef = _
        rw [hd, hr]
      have e2 : (a'.put (some d1) (a'.tmps.getD s Go.undef)).eval (.const (.slice none 0 0)) = .slice none 0 0 := rfl
      have hg : (eqGuard .eql t (.tmp d1) (.const (.slice none 0 0)) (.slice ad n cap) (.slice none 0 0)).run P w' = .ok () w' := by simp [eqGuard]
      rw [e1, e2, Sem.run_bind, Sem.run_bind, hg]
      simp only [Result.andThen_ok]
      rw [Lib.run_eql_slice_nil w' t e ad n cap 0 0 hu]
      rfl
    have hG2 := hG1.put (v := .bool ad.isNone) (r := .bool ad.isNone) rfl hG1.inv.wr (Step.refl _ _ _ _) (ks := []) o2.dst
    rw [hd2] at hG2 ⊢
    unfold wpList
    obtain ⟨nils, kills, ret0, hrun, e1, e2, e3⟩ := hall ad.isNone fun hb => hnil (by cases ad <;> simp_all)
    have fin : ∀ {σ2 : St} {a2 : Act} {w2 : World} {ρ2 : Rho}, Good w ρ mem σ2 a2 w2 ρ2 → finK tt tab fn.results.toList (moreK kills (nilT nils σ2)) = some ret0 → a2.defers = [] ∧ ∃ v, (results fn a2.tmps).run P w2 = .ok v w2 ∧ ∃ r ρ'', Ending.returned v = .returned r ∧ VR w2 ρ'' (outD ent mem ret) ret.v r ∧ WR w2 ρ'' (outD ent mem ret) ∧ Step w ρ mem w2 ρ'' (outD ent mem ret) (· ∈ outK ent ret) := fun {σ2 a2 w2 ρ2} hG3 hfin => by
      obtain ⟨ρ1, hG4⟩ := u063 nils hG3
      have hG5 : Good w ρ mem (moreK kills (nilT nils σ2)) a2 w2 ρ1 := ⟨⟨hG4.inv.defers, hG4.inv.wr, hG4.inv.tmps⟩, hG4.step.weak fun x hk => mem_addK.2 (.inl hk), hG4.np⟩
      obtain ⟨r, ρ'', h1, h2, h3, h4⟩ := fin_ok fr hT hG5 hfin
      rw [e1, e2] at h2
      rw [e2] at h3
      rw [e2, e3] at h4
      exact ⟨hG4.inv.defers, r, h1, r, ρ'', rfl, h2, h3, h4⟩
    have hrun : evS tt tab LS fuel C _ (fun | .norm σ' => evS tt tab LS fuel rest σ' (finS tt tab nils kills fn) | o => finS tt tab nils kills fn o) = some ret0 := hrun
    refine Code.wp_mono (fun x a2 w2 hp => ?_) (evS_ok hm hT hD hTab fuel C hLC hrun hG2)
    obtain ⟨σ2, ρ2, hG3, hp⟩ := hp
    cases x with
    | normal =>
      refine Code.wp_mono (fun x a3 w3 hp => ?_) (evS_ok hm hT hD hTab fuel rest hL2 hp hG3)
      obtain ⟨σ3, ρ3, hG4, hp⟩ := hp
      cases x with
      | normal => exact fin hG4 hp
      | ret => exact fin hG4 hp
      | exit id => cases hp
      | _ => exact hp.elim
    | ret => exact fin hG3 hp
    | exit id => cases hp
    | _ => exact hp.elim
  | exit id => cases hp
  | ret => cases hp
  | _ => exact hp.elim
end Go.Lv
