/-
Code, sound: regions in their textual order, and control.
-/
import Derived.Test.YtdcimcciokgdaaaLvN
import Derived.LoopN
import Derived.Tactics
namespace Go.Lv
open Go.RowKit
set_option linter.unusedVariables false
set_option linter.unusedSimpArgs false
set_option linter.unusedSectionVars false
variable [fr : Fr]

section
variable {P : Program} {tt : TT} {tab : Tab} {R : Type}

/-- the state of a frame, and what has become of the memory that was handed over -/
structure Good (w0 : World) (ρ0 : Rho) (mem0 : Mem) (σ : St) (a : Act) (w : World) (ρ : Rho) : Prop where
  inv : Inv σ a w ρ
  step : Step w0 ρ0 mem0 w ρ σ.mem (· ∈ σ.killed)
  np : ρ0.length = σ.np

variable {w0 : World} {ρ0 : Rho} {mem0 : Mem} {σ : St} {a : Act} {w : World} {ρ : Rho}

theorem all2_tset {p : V → Value → Prop} {xs : List V} {ys : List Value} (h : All2 p xs ys) {v : V} {r : Value} (hv : p v r) (d : Nat) : All2 p (tset xs d v) (ys.set d r) := by
  induction h generalizing d with
  | nil => exact .nil
  | cons hp hr ih =>
    cases d with
    | zero => exact .cons hv hr
    | succ d => exact .cons hp (ih d)

theorem put_defers (a : Act) (dst : Option Tmp) (r : Value) : (a.put dst r).defers = a.defers := by cases dst <;> rfl

theorem upd_mem (σ : St) (mem' : Mem) (ks : List Nat) : (σ.upd mem' ks).mem = mem' := by cases ks <;> rfl
theorem upd_np (σ : St) (mem' : Mem) (ks : List Nat) : (σ.upd mem' ks).np = σ.np := by cases ks <;> rfl
theorem putT_mem (σ : St) (dst : Option Tmp) (v : V) : (putT σ dst v).mem = σ.mem := by cases dst <;> rfl
theorem putT_np (σ : St) (dst : Option Tmp) (v : V) : (putT σ dst v).np = σ.np := by cases dst <;> rfl
theorem putT_killed (σ : St) (dst : Option Tmp) (v : V) : (putT σ dst v).killed = σ.killed := by cases dst <;> rfl

theorem Inv.putT (h : Inv σ a w ρ) {v : V} {r : Value} (hv : VR w ρ σ.mem v r) (dst : Option Tmp) : Inv (putT σ dst v) (a.put dst r) w ρ := by
  refine ⟨by rw [put_defers]; exact h.defers, by rw [putT_mem]; exact h.wr, ?_⟩
  rw [putT_mem]
  cases dst with
  | none => exact h.tmps
  | some d =>
    show All2 _ (tset σ.tmps d v) (a.tmps.setIfInBounds d r).toList
    rw [Array.toList_setIfInBounds]
    exact all2_tset h.tmps hv d

theorem Inv.upd (h : Inv σ a w ρ) {w' : World} {ρ' : Rho} {mem' : Mem} {ks : List Nat} (hw : WR w' ρ' mem') (hs : Step w ρ σ.mem w' ρ' mem' (· ∈ ks)) : Inv (σ.upd mem' ks) a w' ρ' := by
  refine ⟨h.defers, by rw [upd_mem]; exact hw, ?_⟩
  rw [upd_mem]
  cases ks with
  | nil => exact forall2_mono h.tmps fun x y _ hp => VR.step hs (fun z _ hz => by cases hz) hp
  | cons k ks => exact forall2_map_left (forall2_mono h.tmps fun x y _ hp => killV_step hs hp)

theorem Good.put (h : Good w0 ρ0 mem0 σ a w ρ) {w' : World} {ρ' : Rho} {mem' : Mem} {ks : List Nat} {v : V} {r : Value} (hv : VR w' ρ' mem' v r) (hw : WR w' ρ' mem') (hs : Step w ρ σ.mem w' ρ' mem' (· ∈ ks)) (dst : Option Tmp) :
    Good w0 ρ0 mem0 (Lv.putT (σ.upd mem' ks) dst v) (a.put dst r) w' ρ' := by
  refine ⟨(h.inv.upd hw hs).putT (by rw [upd_mem]; exact hv) dst, ?_, by rw [putT_np, upd_np]; exact h.np⟩
  rw [putT_mem, upd_mem, putT_killed]
  refine h.step.trans hs (fun x hx => ?_) (fun x hx hk => ?_)
  · cases ks with
    | nil => exact hx
    | cons k ks => exact mem_addK.2 (.inl hx)
  · cases ks with
    | nil => cases hk
    | cons k ks => exact mem_addK.2 (.inr ⟨by rw [← h.np]; exact hx, hk⟩)

theorem Good.skip (h : Good w0 ρ0 mem0 σ a w ρ) (dst : Option Tmp) : Good w0 ρ0 mem0 (Lv.putT σ dst .undef) (a.put dst Go.undef) w ρ :=
  ⟨h.inv.putT (show VR w ρ σ.mem .undef Go.undef from rfl) dst, by rw [putT_mem, putT_killed]; exact h.step, by rw [putT_np]; exact h.np⟩

theorem tmp_bool (h : Inv σ a w ρ) {d : Tmp} {b : Bool} (hv : vget σ.tmps d = .bool b) : a.tmps[d]? = some (.bool b) := by
  rcases all2_get h.tmps d with ⟨x, y, h1, h2, h3⟩ | ⟨h1, h2⟩
  · rw [vget_eq, h1] at hv
    simp only [Option.getD_some] at hv
    subst hv
    have h3 : y = .bool b := h3
    subst h3
    simpa using h2
  · rw [vget_eq, h1] at hv
    cases hv
theorem tmp_undef (h : Inv σ a w ρ) {d : Tmp} (hv : vget σ.tmps d = .undef) : a.tmps[d]? = some Go.undef := by
  rcases all2_get h.tmps d with ⟨x, y, h1, h2, h3⟩ | ⟨h1, h2⟩
  · rw [vget_eq, h1] at hv
    simp only [Option.getD_some] at hv
    subst hv
    have h3 : y = Go.undef := h3
    subst h3
    simpa using h2
  · rw [vget_eq, h1] at hv
    cases hv

theorem guard_ok (h : Inv σ a w ρ) {ops : Array Oper} {o : Oper} {yes no : Option R} {x : R} (hx : guardK ops σ o.guard yes no = some x) :
    (Region.wanted o (yielded ops a.tmps) = true ∧ yes = some x) ∨ (Region.wanted o (yielded ops a.tmps) = false ∧ no = some x) := by
  unfold Region.wanted
  cases hg : o.guard with
  | none => rw [hg] at hx; exact .inl ⟨rfl, hx⟩
  | some g =>
    obtain ⟨j, want⟩ := g
    rw [hg] at hx
    simp only [guardK] at hx
    split at hx
    case h_1 => cases hx
    rename_i d hd
    unfold yielded
    simp only [hd, Option.bind_some]
    split at hx
    · rename_i b hb
      rw [tmp_bool h hb]
      cases want <;> cases b <;> simp_all
    · rename_i hb
      rw [tmp_undef h hb]
      exact .inr ⟨rfl, hx⟩
    · cases hx

theorem tset_self (vs : List V) (d : Nat) (v : V) (hv : v ≠ .any) (h : vget vs d = v) : tset vs d v = vs := by
  induction vs generalizing d with
  | nil => rfl
  | cons a r ih =>
    cases d with
    | zero => simp only [vget] at h; rw [← h]; rfl
    | succ d => simp only [tset]; rw [ih d h]

theorem guardR_eq (ops : Array Oper) (σ : St) (g : Option (Nat × Bool)) (yes no : St → Option R) : guardR ops σ g yes no = guardK ops σ g (yes σ) (no σ) := by
  unfold guardR guardK
  cases g with
  | none => rfl
  | some g =>
    obtain ⟨j, want⟩ := g
    simp only
    cases hd : (ops[j]?).bind (·.dst) with
    | none => rfl
    | some d =>
      simp only
      cases hv : vget σ.tmps d with
      | bool b =>
        have e := tset_self σ.tmps d (.bool b) (by simp) hv
        simp only
        cases want <;> cases b <;> simp only [cond_true, cond_false] <;> rw [e]
      | _ => rfl

/-- the operations, in their textual order -/
theorem opsK_ok (hT : TTok P tt) (hD : 6 ≤ P.depth) (hTab : TabOK P tab) {ops : Array Oper} : ∀ {l : List Oper} {σ : St} {a : Act} {w : World} {ρ : Rho} {k : St → Option R} {x : R}, opsK tt tab ops l σ k = some x → Good w0 ρ0 mem0 σ a w ρ →
    ∀ (Q : Exit → Act → World → Prop), (∀ σ' a' w' ρ', Good w0 ρ0 mem0 σ' a' w' ρ' → k σ' = some x → Q .normal a' w') → wpList P ops Q l a w := by
  intro l
  induction l with
  | nil => intro σ a w ρ k x hx hG Q hQ; exact hQ σ a w ρ hG hx
  | cons o l ih =>
    intro σ a w ρ k x hx hG Q hQ
    simp only [opsK] at hx
    rw [guardR_eq] at hx
    unfold wpList
    rcases guard_ok hG.inv hx with ⟨hw, hx⟩ | ⟨hw, hx⟩
    · rw [if_pos hw]
      obtain ⟨v, mem', ks, hk, hwp⟩ := op_does hT hD hTab hG.inv hx
      exact .inl (hwp _ _ fun r w' ρ' h1 h2 h3 => ih hk (hG.put h1 h2 h3 o.dst) Q hQ)
    · rw [if_neg (by rw [hw]; simp)]
      exact ih hx (hG.skip o.dst) Q hQ

/-- what holds behind a code -/
def Post (w0 : World) (ρ0 : Rho) (mem0 : Mem) (k : Out → Option R) (x : R) : Exit → Act → World → Prop := fun e a w =>
  ∃ σ ρ, Good w0 ρ0 mem0 σ a w ρ ∧ match e with
    | .normal => k (.norm σ) = some x
    | .exit id => k (.exit id σ) = some x
    | .ret => k (.ret σ) = some x
    | _ => False

end
end Go.Lv
