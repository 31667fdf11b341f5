/-
An abstract machine for whole numbers, arrays and slices, proved sound against the model, part 3; without conditions.
-/
import Derived.Test.YtabfliifleonaakGreatLv2
import Derived.IntWalk
import Derived.Carry
import Derived.OpenShut
import Derived.ProofKit
import Derived.ShutString
import Derived.ChangeOld
import Derived.SizedLaws
import Derived.Deep.Slices
import Derived.WideShapes
set_option linter.unusedVariables false
set_option linter.unusedSimpArgs false
set_option linter.unusedSectionVars false
namespace Go.Lv
variable [fr : Fr]
section
variable {tt : TT} {tab : Tab} {R : Type}
theorem callK_fresh {m : Mem} {f : FuncId} {ent : Ent} (he : look tab f = some ent) (hq : ent.loud = .fresh) {args : List V} {k : V → Mem → List Nat → Option R} {x : R}
    (h : callK tab f args m k = some x) : ∃ v blks, k v (m ++ blks) [] = some x ∧ ∀ (M : Mem), Sub m M → M.length = m.length → ∀ (R' : Type) (k' : V → Mem → List Nat → Option R'), callK tab f args M k' = k' v (M ++ blks) [] := by
  unfold callK at h
  simp only [he] at h
  split at h
  case h_1 => cases h
  rename_i args1 hro
  unfold callG at h
  obtain ⟨hok, h⟩ := u006 h
  simp only [hq] at h
  split at h
  · cases h
  rename_i c ret hg
  obtain ⟨h3, h⟩ := u051 h
  obtain ⟨h5, h⟩ := u006 h
  have e : ∀ (b1 b2 : Bool) (y : Option R), (bif b1 then y else bif b2 then (none : Option R) else none) = some x → b1 = true ∧ y = some x := by
    intro b1 b2 y hy
    cases b1
    · cases b2 <;> cases hy
    · exact ⟨rfl, hy⟩
  obtain ⟨hc, h⟩ := e _ _ _ h
  refine ⟨_, _, h, fun M hS hl R' k' => ?_⟩
  unfold callK
  simp only [he]
  rw [u271 hS hro]
  show callG ent (lent args ent.own) (hsOf M args1) args1 M k' = _
  unfold callG
  have hhs := hsOf_mono hS (u165 hok).2.1
  obtain ⟨h1, h2⟩ := okHs_mono hS hok
  rw [hhs, h1]
  simp only [cond_true]
  rw [blocks_eq h2, hg]
  simp only [hq]
  rw [h3, h5]
  simp only [cond_false, cond_true]
  rw [hc, hl]
  rfl
theorem op_fresh {m : Mem} {σ : St} {o : Oper} (hc : cls tt tab o = 3) {k : V → Mem → List Nat → Option R} {x : R} (h : opK tt tab none o { σ with mem := m } k = some x) :
    ∃ v blks, k v (m ++ blks) [] = some x ∧ ∀ (M : Mem), Sub m M → M.length = m.length → ∀ (R' : Type) (k' : V → Mem → List Nat → Option R'), opK tt tab none o { σ with mem := M } k' = k' v (M ++ blks) [] := by
  obtain ⟨dst, op, type, pos, after, guard⟩ := o
  cases op
  case call c =>
    unfold cls at hc
    simp only at hc
    cases hcc : c.callee with
    | value f =>
      rw [hcc] at hc
      cases f with
      | func g =>
        simp only at hc
        split at hc
        case h_2 => cases hc
        rename_i ent hent
        have hq : ent.loud = .fresh := by
          cases hl : ent.loud <;> rw [hl] at hc <;> first | rfl | cases hc
        simp only [opK, u116, u075, hcc] at h ⊢
        exact callK_fresh hent hq h
      | _ => cases hc
    | invoke r m => rw [hcc] at hc; cases hc
    | builtin b => rw [hcc] at hc; cases b <;> cases hc
  case makeMap t r => cases r <;> (unfold cls at hc; cases hc)
  case buildSlice t n ps =>
    exfalso
    unfold cls at hc
    simp only at hc
    cases hn : Nat.beq n 0 <;> rw [hn] at hc
    · simp only [cond_false] at hc
      cases hcb : constB tt t n ps with
      | true => rw [hcb] at hc; cases hc
      | false =>
      rw [hcb, cond_false] at hc
      split at hc
      · split at hc <;> cases hc
      · cases hc
    · cases hc
  all_goals (unfold cls at hc; cases hc; done)
theorem blk_live {v : V} {b : Blk} (h : v.blk = some b) : b.live = true := by
  unfold V.blk at h
  split at h <;> first | (cases h; rfl) | (obtain ⟨_, h⟩ := u006 h; cases h; rfl)
theorem op_app {m : Mem} {σ : St} {o : Oper} {h : Nat} (hs : isAp h o { σ with mem := m } = true) {k : V → Mem → List Nat → Option R} {x : R} (hk : opK tt tab none o { σ with mem := m } k = some x) :
    ∃ v b, b.live = true ∧ (mget m h).live = true ∧ k v (mset m h b) [h] = some x ∧ ∀ (M : Mem), Sub m M → ∀ (R' : Type) (k' : V → Mem → List Nat → Option R'), opK tt tab none o { σ with mem := M } k' = k' v (mset M h b) [h] := by
  obtain ⟨dst, op, type, pos, after, guard⟩ := o
  unfold isAp at hs
  simp only at hs
  split at hs
  case h_2 => cases hs
  rename_i c
  split at hs
  case h_2 => cases hs
  rename_i hcal
  split at hs
  case h_2 => cases hs
  rename_i h' n y hv
  have e := Nat.eq_of_beq_eq_true hs
  subst e
  simp only [u116] at hv
  simp only [opK, hcal, u116, hv] at hk ⊢
  split at hk
  case h_2 => cases hk
  rename_i t t' hat
  cases htt : Nat.beq t t' with
  | false =>
    rw [htt] at hk
    simp only [cond_false] at hk
    split at hk
    · split at hk <;> cases hk
    · cases hk
  | true =>
    rw [htt] at hk
    simp only [cond_true] at hk
    split at hk
    case h_2 => cases hk
    rename_i e s0 b0 zz hl
    split at hk
    case h_2 => cases hk
    rename_i te hte
    unfold u249 at hk
    split at hk
    · cases hk
    rename_i ys hys
    simp only at hk
    split at hk
    case h_2 => cases hk
    rename_i e' c0 hm
    have h1 := (u006 hk).1
    replace hk := (u006 hk).2
    split at hk
    case h_2 => cases hk
    rename_i c' hc'
    have h2 := (u006 hk).1
    replace hk := (u006 hk).2
    refine ⟨_, .vec e c', rfl, by rw [hm]; rfl, hk, fun M hS R' k' => ?_⟩
    simp only [cond_true]
    unfold u249
    rw [view_mono hS hys]
    simp only
    rw [hS.at hm rfl]
    simp only [h1, cond_true, hc', h2]
theorem op_two {σ : St} {o : Oper} (hc : cls tt tab o = 2) (s : Nat) : ∃ vb : Option (V × Blk), (∀ v b, vb = some (v, b) → b.live = true) ∧
    ∀ (m : Mem) (R : Type) (k : V → Mem → List Nat → Option R), opK tt tab (some s) o { σ with mem := m } k = match vb with
      | none => none
      | some (v, b) => newB m (some s) b fun _ m' => k v m' [] := by
  have newB_h : ∀ (m : Mem) (b : Blk) (R : Type) (k : Nat → Mem → Option R), newB m (some s) b k = newB m (some s) b fun _ m' => k s m' := fun m b R k => by
    unfold newB
    simp only
  have nothing : (∀ (m : Mem) (R : Type) (k : V → Mem → List Nat → Option R), opK tt tab (some s) o { σ with mem := m } k = none) → ∃ vb : Option (V × Blk), (∀ v b, vb = some (v, b) → b.live = true) ∧
    ∀ (m : Mem) (R : Type) (k : V → Mem → List Nat → Option R), opK tt tab (some s) o { σ with mem := m } k = match vb with
      | none => none
      | some (v, b) => newB m (some s) b fun _ m' => k v m' [] := fun h => ⟨none, fun v b h => (by cases h), h⟩
  obtain ⟨dst, op, type, pos, after, guard⟩ := o
  cases op
  case alloc t =>
    cases hl : look tt t with
    | none => exact nothing fun m R k => by simp only [opK, hl]
    | some ti =>
      cases hb : ti.z.blk with
      | none => exact nothing fun m R k => by simp only [opK, hl, hb]
      | some b =>
        refine ⟨some (.ptr s 0 0 ti.z.sz, b), fun v b' h => (by cases h; exact blk_live hb), fun m R k => ?_⟩
        simp only [opK, hl, hb]
        exact newB_h m b R _
  case box t x =>
    cases hb : (evO σ x).blk with
    | none => exact nothing fun m R k => by simp only [opK, u075, hb]
    | some b =>
      refine ⟨some (.ptr s 0 0 (evO σ x).sz, b), fun v b' h => (by cases h; exact blk_live hb), fun m R k => ?_⟩
      simp only [opK, u075, hb]
      exact newB_h m b R _
  case buildSlice t len parts =>
    have hcb : constB tt t len parts = false := by
      cases hq : constB tt t len parts with
      | false => rfl
      | true =>
        exfalso
        unfold cls at hc
        simp only [hq] at hc
        cases hn : Nat.beq len 0 with
        | true =>
          have := Nat.eq_of_beq_eq_true hn
          subst this
          unfold constB at hq
          simp at hq
        | false => rw [hn] at hc; cases hc
    cases hl : look tt t with
    | none => exact nothing fun m R k => by simp only [opK, hcb, cond_false, hl]
    | some ti =>
      obtain ⟨d, sz, by', z⟩ := ti
      cases d with
      | slice e =>
        cases hle : look tt e with
        | none => exact nothing fun m R k => by simp only [opK, hcb, cond_false, hl, hle]
        | some te =>
          cases hm : te.z.mt with
          | none => exact nothing fun m R k => by simp only [opK, hcb, cond_false, hl, hle, hm]
          | some c0 =>
            cases hg : givenL (parts.toList.map fun (i, x) => (i, evO σ x)) with
            | cons g gs => exact nothing fun m R k => by simp only [opK, hcb, cond_false, hl, hle, hm, u075, litK, hg]
            | nil =>
              cases hb : u119 c0 (parts.toList.map fun (i, x) => (i, evO σ x)) with
              | none => exact nothing fun m R k => by simp only [opK, hcb, cond_false, hl, hle, hm, u075, litK, hg, hb]
              | some c =>
                cases hq : (Nat.beq c.cnt len && Nat.beq c.wd te.size && Nat.ble (len * te.size) 16777216) with
                | false => exact nothing fun m R k => by simp only [opK, hcb, cond_false, hl, hle, hm, u075, litK, hg, hb, hq, cond_false]
                | true =>
                  refine ⟨some (.sl s 0 len, .vec e c), fun v b' h => (by cases h; rfl), fun m R k => ?_⟩
                  simp only [opK, hcb, cond_false, hl, hle, hm, u075, litK, hg, hb, hq, cond_true]
                  exact newB_h m _ R _
      | _ => exact nothing fun m R k => by simp only [opK, hcb, cond_false, hl]
  case makeMap t r =>
    cases r with
    | none =>
      cases hl : look tt t with
      | none => exact nothing fun m R k => by simp only [opK, hl]
      | some ti =>
        obtain ⟨d, sz, by', z⟩ := ti
        cases d with
        | map kt e =>
          cases hle : look tt e with
          | none => exact nothing fun m R k => by simp only [opK, hl, hle]
          | some te =>
            cases hm : MC.mt te with
            | none => exact nothing fun m R k => by simp only [opK, hl, hle, hm]
            | some c =>
              cases hn : ia tt 6 kt with
              | none => exact nothing fun m R k => by simp only [opK, hl, hle, hm, hn]
              | some n =>
                refine ⟨some (.map s, .map n c), fun v b' h => (by cases h; rfl), fun m R k => ?_⟩
                simp only [opK, hl, hle, hm, hn]
                exact newB_h m _ R _
        | _ => exact nothing fun m R k => by simp only [opK, hl]
    | some r => unfold cls at hc; cases hc
  case call c =>
    exfalso
    unfold cls at hc
    simp only at hc
    split at hc
    · cases hc
    · cases hc
    · cases hc
    · split at hc
      · split at hc <;> cases hc
      · cases hc
    · cases hc
  all_goals (unfold cls at hc; cases hc; done)
end
end Go.Lv
namespace Go.Lv
variable [fr : Fr]
theorem mem_ext {a b : Mem} (hl : a.length = b.length) (h : ∀ x, mget a x = mget b x) : a = b := by
  induction a generalizing b with
  | nil => cases b with
    | nil => rfl
    | cons c r => simp at hl
  | cons c r ih =>
    cases b with
    | nil => simp at hl
    | cons d s =>
      have h0 : c = d := by simpa [mget] using h 0
      rw [h0, ih (by simpa using hl) fun x => by simpa [mget] using h (x + 1)]
theorem mget_take (m : Mem) (n x : Nat) : mget (m.take n) x = if x < n then mget m x else .dead := by
  induction m generalizing n x with
  | nil => simp [mget]
  | cons c r ih =>
    cases n with
    | zero => simp [mget]
    | succ n => cases x <;> simp [mget, ih]
theorem u060 (m : Mem) (s x : Nat) (b : Blk) : mget (mset m s b) x = if x = s ∧ s < m.length then b else mget m x := by
  by_cases h : s < m.length
  · rw [u064 m s x b h]; simp [h]
  · rw [mset_ge m s b (by omega)]; simp [h]
theorem u129 {ms : List Nat} {m : Mem} {s : Nat} {b : Blk} (hs : s ∈ ms) : maskL ms (mset m s b) = maskL ms m := by
  refine mem_ext (by rw [u065, u065, u034]) fun x => ?_
  rw [u066, u066, u060]
  by_cases hx : x ∈ ms
  · simp [hx]
  · have : x ≠ s := fun e => hx (e ▸ hs)
    simp [hx, this]
theorem u128 {ms : List Nat} {m : Mem} {s n : Nat} {b : Blk} (hs : s ∈ ms) : maskL ms ((mset m s b).take n) = maskL ms (m.take n) := by
  refine mem_ext (by rw [u065, u065, List.length_take, List.length_take, u034]) fun x => ?_
  rw [u066, u066, mget_take, mget_take, u060]
  by_cases hx : x ∈ ms
  · simp [hx]
  · have : x ≠ s := fun e => hx (e ▸ hs)
    simp [hx, this]
theorem u166 {m : Mem} {s t : Nat} {b c : Blk} (h : s ≠ t) : mset (mset m s b) t c = mset (mset m t c) s b := by
  refine mem_ext (by simp only [u034]) fun x => ?_
  simp only [u060, u034]
  by_cases h1 : x = s
  · subst h1
    have : ¬ x = t := h
    simp [this]
  · simp [h1]
theorem mset_app {m n : Mem} {s : Nat} {b : Blk} (h : s < m.length) : mset (m ++ n) s b = mset m s b ++ n := by
  refine mem_ext (by simp only [u034, List.length_append]) fun x => ?_
  simp only [u060, u153, u034, List.length_append]
  by_cases h1 : x = s
  · subst h1
    simp [h]
    omega
  · simp [h1]
section
variable {tt : TT} {tab : Tab} {ops : Array Oper} {n0 : Nat}
abbrev Item := Oper × DI
abbrev Res := V × Mem × List Nat
def stO (tt : TT) (tab : Tab) (ops : Array Oper) (n0 : Nat) (x : Item) (σ : St) : Option Res :=
  u118 ops σ x.1.guard (dOp tt tab n0 x.2 x.1 σ fun v m ks => some (v, m, ks)) (some (.undef, σ.mem, []))
def nxt (x : Item) (σ : St) (r : Res) : St := putT (σ.upd r.2.1 r.2.2) x.1.dst r.1
def runD (tt : TT) (tab : Tab) (ops : Array Oper) (n0 : Nat) : List Item → St → Option St
  | [], σ => some σ
  | x :: l, σ => (stO tt tab ops n0 x σ).bind fun r => runD tt tab ops n0 l (nxt x σ r)
theorem guardK_bind {A B : Type} (σ : St) (g : Option (Nat × Bool)) (a b : Option A) (k : A → Option B) : (u118 ops σ g a b).bind k = u118 ops σ g (a.bind k) (b.bind k) := by
  unfold u118
  split
  · rfl
  · split
    · rfl
    · split
      · split <;> simp only [u106]
      · rfl
      · rfl
theorem condn_bind {A B : Type} (b : Bool) (x : Option A) (k : A → Option B) : (bif b then none else x).bind k = bif b then none else x.bind k := by cases b <;> rfl
theorem dOp_bind {A B : Type} (d : DI) (o : Oper) (σ : St) (g : V → Mem → List Nat → Option A) (k : A → Option B) : (dOp tt tab n0 d o σ g).bind k = dOp tt tab n0 d o σ (fun v m ks => (g v m ks).bind k) := by
  unfold dOp
  rw [u022]
  congr 1
  split
  · rfl
  · rw [u090]
    congr 1
    funext v m ks
    rw [condn_bind]
  · rw [u022, u090]
    congr 2
    funext v m ks
    rw [condn_bind]
  · rw [u022, u090]
  · rw [u090]
    congr 1
    funext v m ks
    split
    · rfl
    · rw [u022]
  · rw [u106]
    congr 1
    · rw [u022, u090]
    · rw [u106]
      congr 1
      · rw [u022, u090]
        congr 2
        funext v m ks
        split
        · rw [u022]
        · rfl
      · rw [u022, u090]
        congr 2
        funext v m ks
        split
        · rfl
        · rw [u022]
theorem dOps_run {R : Type} : ∀ (l : List Item) (σ : St) (k : St → Option R), dOps tt tab ops n0 l σ k = (runD tt tab ops n0 l σ).bind k
  | [], σ, k => rfl
  | (o, d) :: l, σ, k => by
    simp only [dOps, runD, stO, guardR_eq, guardK_bind, dOp_bind, Option.bind_some, Option.bind_assoc]
    congr 1
    · congr 1
      funext v m ks
      exact dOps_run l _ k
    · exact dOps_run l _ k
def Agree (ops : Array Oper) (o : Oper) (σ σ' : St) : Prop := ∀ t ∈ o.looksAt ops, vget σ.tmps t = vget σ'.tmps t
theorem evO_const (σ σ' : St) (v : Value) : evO σ (.const v) = evO σ' (.const v) := by
  cases v <;> first | rfl | (rename_i a l c; cases a <;> cases l <;> cases c <;> rfl)
theorem agree_ops {o : Oper} {σ σ' : St} (h : Agree ops o σ σ') : ∀ x ∈ o.op.operands, evO σ x = evO σ' x := by
  intro x hx
  cases x with
  | tmp t => exact h t (List.mem_append_left _ (List.mem_filterMap.2 ⟨.tmp t, by simpa using hx, rfl⟩))
  | const v => exact evO_const σ σ' v
  | _ => rfl
theorem guardK_agree {R : Type} {o : Oper} {σ σ' : St} (h : Agree ops o σ σ') (a b : Option R) : u118 ops σ o.guard a b = u118 ops σ' o.guard a b := by
  unfold u118
  cases hg : o.guard with
  | none => rfl
  | some g =>
    obtain ⟨j, want⟩ := g
    simp only
    cases hd : (ops[j]?).bind (·.dst) with
    | none => rfl
    | some d => simp only; rw [h d (List.mem_append_right _ (by simp [hg, hd]))]
theorem okKl_congr {d : DI} {o : Oper} {σ σ' : St} (e : ∀ x ∈ o.op.operands, evO σ x = evO σ' x) : okKl d o σ = okKl d o σ' := by
  unfold okKl
  split
  · rfl
  · congr 1
    rw [Bool.eq_iff_iff, List.all_eq_true, List.all_eq_true]
    constructor
    · intro h x hx
      have hx' : x ∈ o.op.operands := by simpa using hx
      rw [← e x hx']; exact h x hx
    · intro h x hx
      have hx' : x ∈ o.op.operands := by simpa using hx
      rw [e x hx']; exact h x hx
theorem u238 {h : Nat} {o : Oper} {σ σ' : St} (e : ∀ x ∈ o.op.operands, evO σ x = evO σ' x) : isAp h o σ = isAp h o σ' := by
  unfold isAp
  split
  · rename_i c ho
    split
    · rename_i hc
      have hv : u057 σ c.args = u057 σ' c.args := List.map_congr_left fun x hx => e x (by rw [ho]; simp only [Op.operands, Call.operands, hc]; simpa using hx)
      rw [hv]
    · rfl
  · rfl
theorem isCl_congr {h : Nat} {o : Oper} {σ σ' : St} (e : ∀ x ∈ o.op.operands, evO σ x = evO σ' x) (hm : mget σ.mem h = mget σ'.mem h) : isCl tab h o σ = isCl tab h o σ' := by
  unfold isCl
  split
  · rename_i c ho
    split
    · rename_i f hc
      have hv : u057 σ c.args = u057 σ' c.args := List.map_congr_left fun x hx => e x (by rw [ho]; simp only [Op.operands, Call.operands, hc]; simp; exact .inr (by simpa using hx))
      rw [hv, hm]
    · rfl
  · rfl
theorem dOp_congr {R : Type} {d : DI} {o : Oper} {σ σ' : St} (e : ∀ x ∈ o.op.operands, evO σ x = evO σ' x) (hm : σ.mem = σ'.mem) (k : V → Mem → List Nat → Option R) : dOp tt tab n0 d o σ k = dOp tt tab n0 d o σ' k := by
  unfold dOp
  rw [okKl_congr e]
  congr 1
  split
  · rfl
  · rw [hm]; exact u126 (σ := { σ with mem := visM d n0 σ'.mem }) (σ' := { σ' with mem := visM d n0 σ'.mem }) _ _ e rfl _
  · rw [u126 _ _ e hm]
  · rw [hm]
    congr 1
    exact u126 (σ := { σ with mem := maskL d.ms σ'.mem }) (σ' := { σ' with mem := maskL d.ms σ'.mem }) _ _ e rfl _
  · exact u126 _ _ e hm _
  · rename_i hh _
    congr 1
    · rw [u238 e, hm]
      congr 1
      exact u126 (σ := { σ with mem := maskL d.ms σ'.mem }) (σ' := { σ' with mem := maskL d.ms σ'.mem }) _ _ e rfl _
    congr 1
    · rw [isCl_congr e (by rw [hm]), hm]
      congr 1
      exact u126 _ _ e hm _
    · have e2 : isSt hh o σ = isSt hh o σ' := by
        unfold isSt
        split
        · rename_i t a y ho
          rw [e a (by rw [ho]; simp [Op.operands])]
        · rename_i t m y z ho
          rw [e m (by rw [ho]; simp [Op.operands])]
        · rfl
      rw [e2]
      congr 1
      exact u126 _ _ e hm _
theorem dOp_agree {R : Type} {d : DI} {o : Oper} {σ σ' : St} (h : Agree ops o σ σ') (hm : σ.mem = σ'.mem) (k : V → Mem → List Nat → Option R) : dOp tt tab n0 d o σ k = dOp tt tab n0 d o σ' k :=
  dOp_congr (agree_ops h) hm k
theorem u210 {x : Item} {σ σ' : St} (h : Agree ops x.1 σ σ') (hm : σ.mem = σ'.mem) : stO tt tab ops n0 x σ = stO tt tab ops n0 x σ' := by
  unfold stO
  rw [guardK_agree h, dOp_agree h hm, hm]
theorem vget_tset (vs : List V) (d t : Nat) (v : V) (h : t ≠ d) : vget (tset vs d v) t = vget vs t := by
  induction vs generalizing d t with
  | nil => rfl
  | cons a r ih =>
    cases d with
    | zero => cases t with
      | zero => exact absurd rfl h
      | succ t => rfl
    | succ d => cases t with
      | zero => rfl
      | succ t => exact ih d t (by omega)
theorem tset_comm (vs : List V) (d e : Nat) (u v : V) (h : d ≠ e) : tset (tset vs d u) e v = tset (tset vs e v) d u := by
  induction vs generalizing d e with
  | nil => rfl
  | cons a r ih =>
    cases d with
    | zero => cases e with
      | zero => exact absurd rfl h
      | succ e => rfl
    | succ d => cases e with
      | zero => rfl
      | succ e => simp only [tset]; rw [ih d e (by omega)]
theorem agree_nxt {x y : Item} (h : ∀ d, x.1.dst = some d → d ∉ y.1.looksAt ops) (σ : St) (v : V) (m : Mem) : Agree ops y.1 (nxt x σ (v, m, [])) σ := by
  intro t ht
  unfold nxt
  cases hd : x.1.dst with
  | none => rfl
  | some d => exact vget_tset _ _ _ _ fun e => h d hd (e ▸ ht)
theorem nxt_mem (x : Item) (σ : St) (r : Res) : (nxt x σ r).mem = r.2.1 := by
  unfold nxt
  rw [u136, u264]
theorem nxt_comm {x y : Item} (h : ∀ d, x.1.dst = some d → y.1.dst ≠ some d) (σ : St) (vx vy : V) (m1 m2 m3 : Mem) :
    nxt y (nxt x σ (vx, m1, [])) (vy, m3, []) = nxt x (nxt y σ (vy, m2, [])) (vx, m3, []) := by
  unfold nxt
  cases hx : x.1.dst with
  | none => cases hy : y.1.dst <;> rfl
  | some d =>
    cases hy : y.1.dst with
    | none => rfl
    | some e =>
      have hne : d ≠ e := fun e2 => h d hx (by rw [hy, e2])
      simp only [putT, St.upd]
      rw [tset_comm _ _ _ _ _ hne]
structure Beside (x y : DI) : Prop where
  two : y.cls = 2 → y.slot ∈ x.ms
  three : y.cls = 3 → x.mode ≠ 0
  four : y.cls = 4 → x.mode ≠ 0 ∧ x.mode ≠ 1
  five : ∀ h, y.cls = h + 5 → h ∈ x.ms
  kil : ∀ h, y.cls = h + 5 → y.slot = 1 → h ∈ x.kl
  iso : x.iso = false
def stM (tt : TT) (tab : Tab) (ops : Array Oper) (n0 : Nat) (x : Item) (σ : St) (m : Mem) : Option Res := stO tt tab ops n0 x { σ with mem := m }
theorem guard_sel (σ : St) (g : Option (Nat × Bool)) : (∀ (R : Type) (m : Mem) (a b : Option R), u118 ops { σ with mem := m } g a b = a) ∨ (∀ (R : Type) (m : Mem) (a b : Option R), u118 ops { σ with mem := m } g a b = b) ∨ ∀ (R : Type) (m : Mem) (a b : Option R), u118 ops { σ with mem := m } g a b = none := by
  unfold u118
  cases g with
  | none => exact .inl fun _ _ _ _ => rfl
  | some g =>
    obtain ⟨j, want⟩ := g
    simp only
    cases hd : (ops[j]?).bind (·.dst) with
    | none => exact .inr (.inr fun _ _ _ _ => rfl)
    | some d =>
      simp only
      cases hv : vget σ.tmps d with
      | bool b => cases want <;> cases b <;> first | exact .inl fun _ _ _ _ => rfl | exact .inr (.inl fun _ _ _ _ => rfl)
      | undef => exact .inr (.inl fun _ _ _ _ => rfl)
      | _ => exact .inr (.inr fun _ _ _ _ => rfl)
def Kind (tt : TT) (tab : Tab) (ops : Array Oper) (n0 : Nat) (x : Item) (σ : St) (m : Mem) (v : V) (m' : Mem) : Prop :=
  (m' = m ∧ ∀ m2, visM x.2 n0 m2 = visM x.2 n0 m → stM tt tab ops n0 x σ m2 = some (v, m2, [])) ∨
  (x.2.cls = 2 ∧ ∃ b : Blk, b.live = true ∧ m' = mset m x.2.slot b ∧ mget m x.2.slot = .dead ∧ x.2.slot < m.length ∧ x.2.slot < n0 ∧
    ∀ m2, mget m2 x.2.slot = .dead → x.2.slot < m2.length → stM tt tab ops n0 x σ m2 = some (v, mset m2 x.2.slot b, [])) ∨
  (x.2.cls = 3 ∧ n0 ≤ m.length ∧ ∃ blks, m' = m ++ blks ∧ ∀ m2, maskL x.2.ms m2 = maskL x.2.ms m → m2.length = m.length → stM tt tab ops n0 x σ m2 = some (v, m2 ++ blks, [])) ∨
  (x.2.cls = 4) ∨ (∃ h b, x.2.cls = h + 5 ∧ m' = mset m h b ∧ b.live = true ∧ (mget m h).live = true ∧ ∀ m2, m2.length = m.length → mget m2 h = mget m h → stM tt tab ops n0 x σ m2 = some (v, mset m2 h b, []))
theorem op_store {o : Oper} {σ : St} {h : Nat} (hs : isSt h o σ = true) {k : V → Mem → List Nat → Option Res} {r : Res} (hk : opK tt tab none o σ k = some r) (hks : ∀ v m a l, k v m (a :: l) = none) :
    ∃ v b, b.live = true ∧ (mget σ.mem h).live = true ∧ k v (mset σ.mem h b) [] = some r ∧ ∀ m2, mget m2 h = mget σ.mem h → opK tt tab none o { σ with mem := m2 } k = k v (mset m2 h b) [] := by
  have key : ∀ u : V, (∃ hh off n, u = .sl hh off n) ∨ ∀ (m : Mem) (k : V → Mem → List Nat → Option Res), keepV m u k = k u m [] := fun u => by
    cases u <;> first | exact .inl ⟨_, _, _, rfl⟩ | exact .inr fun _ _ => rfl
  unfold isSt at hs
  split at hs
  · rename_i t a y ho
    split at hs
    · rename_i h' i of s he
      have e := Nat.eq_of_beq_eq_true hs
      subst e
      unfold opK at hk
      simp only [ho, he] at hk
      split at hk
      case h_2 => cases hk
      rename_i ti hti
      rcases key (evO σ y) with ⟨hh, off, n, hv⟩ | hv
      · exfalso
        rw [hv] at hk
        simp only [keepV] at hk
        split at hk
        · replace hk := (u006 hk).2
          replace hk := (u006 hk).2
          split at hk
          · split at hk
            · rw [hks] at hk; cases hk
            · cases hk
          · split at hk
            · rw [hks] at hk; cases hk
            · cases hk
          · cases hk
        · cases hk
      · rw [hv] at hk
        have hb := (u006 hk).1
        replace hk := (u006 hk).2
        split at hk
        · rename_i n c hm
          split at hk
          case h_2 => cases hk
          rename_i c' hc'
          refine ⟨_, .var n c', rfl, by rw [hm]; rfl, hk, fun m2 hm2 => ?_⟩
          rw [hm] at hm2
          unfold opK
          simp only [ho, u075, he, hti]
          rw [hv]
          simp only [hb, cond_true, hm2, hc']
        · rename_i e c hm
          split at hk
          case h_2 => cases hk
          rename_i c' hc'
          refine ⟨_, .vec e c', rfl, by rw [hm]; rfl, hk, fun m2 hm2 => ?_⟩
          rw [hm] at hm2
          unfold opK
          simp only [ho, u075, he, hti]
          rw [hv]
          simp only [hb, cond_true, hm2, hc']
        · cases hk
    · cases hs
  · rename_i t m ky u ho
    split at hs
    · rename_i h' he
      have e := Nat.eq_of_beq_eq_true hs
      subst e
      have core : ∀ v : V, putC tt t σ.mem (evO σ m) (evO σ ky) v [] k = some r → ∃ v' b, b.live = true ∧ (mget σ.mem h').live = true ∧ k v' (mset σ.mem h' b) [] = some r ∧ ∀ m2, mget m2 h' = mget σ.mem h' → putC tt t m2 (evO σ m) (evO σ ky) v [] k = k v' (mset m2 h' b) [] := fun v hk => by
        unfold putC at hk
        split at hk
        case h_2 => cases hk
        rename_i kt el s0 b0 zz hl
        rw [he] at hk
        split at hk
        case h_2 => cases hk
        rename_i h2 n key hh hky
        cases hh
        have h1 := (u006 hk).1
        replace hk := (u006 hk).2
        split at hk
        case h_2 => cases hk
        rename_i n' c hm
        have h3 := (u006 hk).1
        replace hk := (u006 hk).2
        split at hk
        case h_2 => cases hk
        rename_i c' hc'
        refine ⟨_, .map n' c', rfl, by rw [hm]; rfl, hk, fun m2 hm2 => ?_⟩
        rw [hm] at hm2
        unfold putC
        simp only [hl, he, hky, h1, cond_true, hm2, h3, hc']
      have hk' : insK tt t σ.mem (evO σ m) (evO σ ky) (evO σ u) k = some r := by
        unfold opK at hk
        simpa only [ho] using hk
      have hop : ∀ m2 : Mem, opK tt tab none o { σ with mem := m2 } k = insK tt t m2 (evO σ m) (evO σ ky) (evO σ u) k := fun m2 => by
        unfold opK
        simp only [ho, u075]
      unfold insK at hk'
      split at hk'
      · rename_i hd off n hu
        have h1 := (u006 hk').1
        replace hk' := (u006 hk').2
        obtain ⟨v', b, g1, g2, g3, g4⟩ := core _ hk'
        refine ⟨v', b, g1, g2, g3, fun m2 hm2 => ?_⟩
        rw [hop, hu]
        simp only [insK, h1, cond_true]
        exact g4 m2 hm2
      · rename_i hu
        obtain ⟨v', b, g1, g2, g3, g4⟩ := core _ hk'
        refine ⟨v', b, g1, g2, g3, fun m2 hm2 => ?_⟩
        rw [hop]
        have : insK tt t m2 (evO σ m) (evO σ ky) (evO σ u) k = putC tt t m2 (evO σ m) (evO σ ky) (evO σ u) [] k := by
          unfold insK
          split
          · rename_i hd off n hq; exact absurd hq (hu hd off n)
          · rfl
        rw [this]
        exact g4 m2 hm2
    · cases hs
  · cases hs
theorem u179 (m : Mem) : ∀ (vs : List V) (own : List Bool), vs.all V.lone = true → u107 m vs own = some vs ∧ lent vs own = []
  | [], _, _ => ⟨rfl, rfl⟩
  | v :: r, own, h => by
    simp only [List.all_cons, Bool.and_eq_true] at h
    obtain ⟨h1, h2⟩ := u179 m r own.tail h.2
    simp only [u107, lent, h1, h2]
    cases own.headD false with
    | true => exact ⟨rfl, rfl⟩
    | false => cases v <;> first | exact ⟨rfl, rfl⟩ | (simp [V.lone] at h)
theorem u274 (m : Mem) (h : Nat) (b : Blk) : u110 m [h] [b] = mset m h b := by
  have hd : ∀ (m : Mem) (n : Nat), m.length ≤ n → mget m n = .dead := by
    intro m
    induction m with
    | nil => intro n _; rfl
    | cons c r ih =>
      intro n hn
      cases n with
      | zero => simp at hn
      | succ n => exact ih n (by simpa using hn)
  have e : u110 m [h] [b] = putGo [h] [b] 0 m := by simp [u110]
  rw [e]
  refine mem_ext (by rw [u094, u034]) fun x => ?_
  rw [u060]
  by_cases hx : x < m.length
  · rw [u212 _ _ _ _ _ hx, Nat.zero_add]
    by_cases hxh : x = h
    · subst hxh
      rw [if_pos ⟨rfl, hx⟩]
      simp [idx, mget]
    · rw [if_neg (fun e => hxh e.1)]
      have : idx x [h] = none := by
        have hb : Nat.beq h x = false := by
          cases hq : Nat.beq h x with
          | false => rfl
          | true => exact absurd (Nat.eq_of_beq_eq_true hq).symm hxh
        simp [idx, hb]
      rw [this]
  · rw [if_neg (fun e => hx (by rw [e.1]; exact e.2)), hd _ _ (by rw [u094]; omega), hd _ _ (by omega)]
theorem op_call {o : Oper} {σ : St} {h : Nat} (hs : isCl tab h o σ = true) {k : V → Mem → List Nat → Option Res} {r : Res}
    (hk : opK tt tab none o σ (fun v m ks => match ks with
      | [] => bif Nat.beq m.length σ.mem.length && (mget m h).live then k v m [] else none
      | _ => none) = some r) : ∃ v b, b.live = true ∧ (mget σ.mem h).live = true ∧ k v (mset σ.mem h b) [] = some r ∧ ∀ m2 : Mem, m2.length = σ.mem.length → mget m2 h = mget σ.mem h → isCl tab h o { σ with mem := m2 } = true ∧
      opK tt tab none o { σ with mem := m2 } (fun v m ks => match ks with
      | [] => bif Nat.beq m.length m2.length && (mget m h).live then k v m [] else none
      | _ => none) = k v (mset m2 h b) [] := by
  obtain ⟨dst, op, type, pos, after, guard⟩ := o
  have hs0 := hs
  unfold isCl at hs
  simp only at hs
  split at hs
  case h_2 => cases hs
  rename_i c
  split at hs
  case h_2 => cases hs
  rename_i f hc
  split at hs
  case h_2 => cases hs
  rename_i ent he
  simp only [Bool.and_eq_true] at hs
  obtain ⟨⟨⟨hl, hlone⟩, hd⟩, hh0⟩ := hs
  have hloud : ent.loud = .loud := by
    cases hq : ent.loud <;> rw [hq] at hl <;> first | rfl | cases hl
  have hded : dedup (V.hsL (u057 σ c.args)) = [h] := by
    split at hd
    · rename_i h' hq
      rw [hq, Nat.eq_of_beq_eq_true hd]
    · cases hd
  have hh0 : (mget σ.mem h).hs = [] := by simpa using hh0
  have hsm : ∀ m2 : Mem, mget m2 h = mget σ.mem h → hsOf m2 (u057 σ c.args) = [h] := fun m2 h2 => by
    have h1 : hsMore m2 [h] = [h] := by simp [hsMore, h2, hh0, dedup, memb]
    unfold hsOf
    rw [hded, h1, h1]
  have hop : ∀ (m2 : Mem) (K : V → Mem → List Nat → Option Res), mget m2 h = mget σ.mem h → opK tt tab none { dst := dst, op := .call c, type := type, pos := pos, after := after, guard := guard } { σ with mem := m2 } K = callG ent [] [h] (u057 σ c.args) m2 K := fun m2 K h2 => by
    have e : opK tt tab none { dst := dst, op := .call c, type := type, pos := pos, after := after, guard := guard } { σ with mem := m2 } K = callK tab f (u057 σ c.args) m2 K := by
      simp only [opK, u116, u075, hc]
      show callK tab f ([] ++ u057 σ c.args ++ []) m2 K = _
      rw [List.nil_append, List.append_nil]
    rw [e]
    unfold callK
    rw [he]
    simp only
    rw [(u179 m2 _ ent.own hlone).1]
    simp only
    rw [(u179 m2 _ ent.own hlone).2, hsm m2 h2]
  have hk1 := hk
  rw [show σ = { σ with mem := σ.mem } from rfl, hop σ.mem _ rfl] at hk1
  unfold callG at hk1
  obtain ⟨hok, hk1⟩ := u006 hk1
  split at hk1
  · cases hk1
  rename_i cc ret hg
  obtain ⟨h3, hk1⟩ := u051 hk1
  obtain ⟨h5, hk1⟩ := u006 hk1
  simp only [List.isEmpty_nil, Bool.true_or, cond_true, hloud] at hk1
  obtain ⟨h6, hk1⟩ := u006 hk1
  have hkil : ret.kills = [] := by
    cases hq : ret.kills with
    | nil => rfl
    | cons a l => rw [hq] at hk1; cases hk1
  rw [hkil] at hk1
  simp only [List.map_nil] at hk1
  obtain ⟨h7, hk1⟩ := u006 hk1
  simp only [Bool.and_eq_true] at h7
  have hlen := Nat.eq_of_beq_eq_true h7.1
  have h6' := Nat.le_of_ble_eq_true h6
  obtain ⟨b0, hb0⟩ : ∃ b0, ret.blks = [b0] := by
    cases hq : ret.blks with
    | nil => rw [hq] at h6'; simp at h6'
    | cons a l =>
      rw [hq] at hlen
      have : l = [] := by
        cases l with
        | nil => rfl
        | cons a2 l2 =>
          exfalso
          simp only [u110, List.length_append, u094] at hlen
          simp at hlen
      rw [this]; exact ⟨a, rfl⟩
  have hlive := (u165 hok).2.1 h List.mem_cons_self
  rw [hb0, List.map_singleton, u274] at hk1 h7
  refine ⟨_, b0.ren (upH [h] σ.mem.length), ?_, hlive, hk1, fun m2 hl2 h2 => ⟨?_, ?_⟩⟩
  · have := h7.2
    rw [u060, if_pos ⟨rfl, by
      rcases Nat.lt_or_ge h σ.mem.length with hq | hq
      · exact hq
      · exfalso
        have hd : ∀ (m : Mem) (n : Nat), m.length ≤ n → mget m n = .dead := by
          intro m
          induction m with
          | nil => intro n _; rfl
          | cons c r ih =>
            intro n hn
            cases n with
            | zero => simp at hn
            | succ n => exact ih n (by simpa using hn)
        rw [hd _ _ hq] at hlive; cases hlive⟩] at this
    exact this
  · rw [← hs0]
    exact isCl_congr (fun x _ => by simp only [u075]) h2
  · rw [hop m2 _ h2]
    unfold callG
    have hb : ([h].map fun x => (mget m2 x).ren (dnH [h])) = [h].map fun x => (mget σ.mem x).ren (dnH [h]) := by simp [h2]
    have hok2 : okHs m2 (u057 σ c.args) [h] [] = true := by
      rw [← hok]; unfold okHs; simp [h2]
    rw [hok2, cond_true, hb, hg]
    have h6b : Nat.ble [h].length [b0].length = true := rfl
    simp only [List.map_singleton] at h3
    simp only [h3, h5, cond_false, cond_true, List.isEmpty_nil, Bool.true_or, hloud, h6b, hkil, List.map_nil, hb0, List.map_singleton, u274, hl2]
    have h8 : (Nat.beq (mset m2 h (b0.ren (upH [h] σ.mem.length))).length σ.mem.length && (mget (mset m2 h (b0.ren (upH [h] σ.mem.length))) h).live) = true := by
      rw [u034, hl2, Nat.beq_refl, Bool.true_and]
      have := h7.2
      rw [u060] at this ⊢
      rw [hl2, h2]
      exact this
    rw [h8, cond_true]
def KindA (tt : TT) (tab : Tab) (ops : Array Oper) (n0 : Nat) (x : Item) (σ : St) (m : Mem) (v : V) (m' : Mem) (ks : List Nat) : Prop :=
  ∃ h b, x.2.cls = h + 5 ∧ x.2.slot = 1 ∧ x.2.kl = [] ∧ ks = [h] ∧ m' = mset m h b ∧ b.live = true ∧ (mget m h).live = true ∧
    ∀ m2, maskL x.2.ms m2 = maskL x.2.ms m → mget m2 h = mget m h → stM tt tab ops n0 x σ m2 = some (v, mset m2 h b, [h])
theorem okKl_mem {d : DI} {o : Oper} {σ : St} (m m2 : Mem) : okKl d o { σ with mem := m } = okKl d o { σ with mem := m2 } :=
  okKl_congr fun x _ => by simp only [u075]
theorem kind {x : Item} (hcl : x.2.cls ≤ 3 → x.2.cls = cls tt tab x.1) (hiso : x.2.iso = false) {σ : St} {m : Mem} {v : V} {m' : Mem} {ks : List Nat} (h : stM tt tab ops n0 x σ m = some (v, m', ks)) : (ks = [] ∧ Kind tt tab ops n0 x σ m v m') ∨ KindA tt tab ops n0 x σ m v m' ks := by
  unfold stM stO at h
  rcases guard_sel (ops := ops) σ x.1.guard with hg | hg | hg
  · rw [hg] at h
    unfold dOp at h
    obtain ⟨hkl, h⟩ := u006 h
    have hkl2 : ∀ m2 : Mem, okKl x.2 x.1 { σ with mem := m2 } = true := fun m2 => by rw [okKl_mem m2 m]; exact hkl
    split at h
    · cases h
    · -- looks at memory at most
      rename_i hc
      have hnat := u090 (A := V) (B := Res) (fun v => bif meets x.2.kl v.hs then none else some (v, m, [])) (fun v _ _ => some v) tt tab none x.1 { σ with mem := visM x.2 n0 m }
      simp only [Option.bind_some] at hnat
      have h2 : (opK tt tab none x.1 { σ with mem := visM x.2 n0 m } fun v _ _ => some v).bind (fun v => bif meets x.2.kl v.hs then none else some (v, m, [])) = some (v, m', ks) := by rw [hnat]; exact h
      obtain ⟨v1, h3, h4⟩ := Option.bind_eq_some_iff.1 h2
      obtain ⟨hme, h4⟩ := u051 h4
      simp only [Option.some.injEq, Prod.mk.injEq] at h4
      obtain ⟨rfl, rfl, rfl⟩ := h4
      refine .inl ⟨rfl, .inl ⟨rfl, fun m2 hv => ?_⟩⟩
      unfold stM stO
      rw [hg]
      unfold dOp
      rw [hkl2 m2, hc]
      simp only [cond_true]
      have hnat2 := u090 (A := V) (B := Res) (fun v => bif meets x.2.kl v.hs then none else some (v, m2, [])) (fun v _ _ => some v) tt tab none x.1 { σ with mem := visM x.2 n0 m2 }
      simp only [Option.bind_some] at hnat2
      rw [← hnat2, hv, h3]
      simp only [Option.bind_some, hme, cond_false]
    · -- makes a block
      rename_i hc
      obtain ⟨hs, h⟩ := u006 h
      have hs2 := Nat.blt_eq.mp hs
      obtain ⟨vb, hlive, hvb⟩ := op_two (tt := tt) (tab := tab) (σ := σ) (o := x.1) ((hcl (by omega)) ▸ hc) x.2.slot
      rw [hvb] at h
      cases hvb2 : vb with
      | none => rw [hvb2] at h; cases h
      | some q =>
        obtain ⟨v1, b⟩ := q
        rw [hvb2] at h
        simp only [newB] at h
        split at h
        case h_2 => cases h
        rename_i hd
        obtain ⟨hl, h⟩ := u006 h
        have hl2 := Nat.blt_eq.mp hl
        obtain ⟨hme, h⟩ := u051 h
        simp only [Option.some.injEq, Prod.mk.injEq] at h
        obtain ⟨rfl, rfl, rfl⟩ := h
        refine .inl ⟨rfl, .inr (.inl ⟨hc, b, hlive _ _ hvb2, rfl, hd, hl2, hs2, fun m2 hd2 hl3 => ?_⟩)⟩
        unfold stM stO
        rw [hg]
        unfold dOp
        rw [hkl2 m2, hc]
        simp only
        rw [hs, hvb, hvb2]
        simp only [newB, hd2, cond_true, hme, cond_false]
        rw [Nat.blt_eq.mpr hl3]
        rfl
    · -- makes blocks
      rename_i hc
      obtain ⟨hs, h⟩ := u006 h
      have hs2 := Nat.le_of_ble_eq_true hs
      obtain ⟨v1, blks, h1, h2⟩ := op_fresh (tt := tt) (σ := σ) ((hcl (by omega)) ▸ hc) h
      simp only [Option.some.injEq, Prod.mk.injEq] at h1
      obtain ⟨rfl, rfl, rfl⟩ := h1
      refine .inl ⟨rfl, .inr (.inr (.inl ⟨hc, hs2, _, rfl, fun m2 hm2 hl => ?_⟩))⟩
      unfold stM stO
      rw [hg]
      unfold dOp
      rw [hkl2 m2, hc]
      simp only
      rw [Nat.ble_eq.mpr (by rw [hl]; exact hs2)]
      simp only [cond_true]
      rw [hm2, h2 _ (fun _ _ => rfl) rfl]
      simp only [Option.some.injEq, Prod.mk.injEq, and_true, true_and]
      rw [hl]
    · rename_i h4
      have hnat := u090 (A := Res) (B := Res) (fun r => match r.2.2 with
        | [] => some (r.1, r.2.1, [])
        | _ => bif x.2.iso then some (r.1, r.2.1, r.2.2) else none) (fun v m ks => some (v, m, ks)) tt tab none x.1 { σ with mem := m }
      simp only [Option.bind_some] at hnat
      obtain ⟨r, h5, h6⟩ := Option.bind_eq_some_iff.1 (hnat.trans h)
      obtain ⟨v1, m1, k1⟩ := r
      cases k1 with
      | nil =>
        simp only [Option.some.injEq, Prod.mk.injEq] at h6
        exact .inl ⟨h6.2.2.symm, .inr (.inr (.inr (.inl h4)))⟩
      | cons a r =>
        simp only [hiso, cond_false] at h6
        cases h6
    · rename_i hh h5
      cases hsl : Nat.beq x.2.slot 1 with
      | true =>
        rw [hsl] at h
        simp only [cond_true] at h
        obtain ⟨hst, h⟩ := u006 h
        have hst3 : ∀ m2 : Mem, isAp hh x.1 { σ with mem := m2 } = true := fun m2 => by
          rw [← hst]; exact u238 fun y _ => by simp only [u075]
        obtain ⟨v1, b, hbl, hml, hb, hall⟩ := op_app (tt := tt) (tab := tab) (m := maskL x.2.ms m) (σ := σ) (hst3 _) h
        simp only [Option.some.injEq, Prod.mk.injEq] at hb
        obtain ⟨rfl, hb, rfl⟩ := hb
        have hnm : hh ∉ x.2.ms := fun hm => by rw [u066, if_pos hm] at hml; cases hml
        have hget : mget (maskL x.2.ms m) hh = mget m hh := by rw [u066, if_neg hnm]
        rw [hget] at hml
        have hlt : hh < m.length := by
          rcases Nat.lt_or_ge hh m.length with hq | hq
          · exact hq
          · exfalso
            have : mget m hh = .dead := by
              have : ∀ (m : Mem) (n : Nat), m.length ≤ n → mget m n = .dead := by
                intro m
                induction m with
                | nil => intro n _; rfl
                | cons c r ih =>
                  intro n hn
                  cases n with
                  | zero => simp at hn
                  | succ n => exact ih n (by simpa using hn)
              exact this m hh hq
            rw [this] at hml; cases hml
        have hblk : ∀ m2 : Mem, m2.length = m.length → mget (mset (maskL x.2.ms m2) hh b) hh = b := fun m2 hl => by
          rw [u060, if_pos ⟨rfl, by rw [u065, hl]; exact hlt⟩]
        rw [hblk m rfl] at hb
        have hkn : x.2.kl = [] := by
          unfold okKl at hkl
          split at hkl
          · rename_i hq; exact hq
          · rw [h5] at hkl
            simp only [Bool.and_eq_true] at hkl
            have := Nat.le_of_ble_eq_true hkl.1
            omega
        refine .inr ⟨hh, b, h5, Nat.eq_of_beq_eq_true hsl, hkn, rfl, hb.symm, hbl, hml, fun m2 hm2 hg2 => ?_⟩
        unfold stM stO
        rw [hg]
        unfold dOp
        rw [hkl2 m2, h5]
        simp only [cond_true, hsl]
        rw [hst3 m2]
        simp only [cond_true]
        have hle : m2.length = m.length := by
          have := congrArg List.length hm2
          rwa [u065, u065] at this
        rw [hm2, hall _ (fun _ _ => rfl), hblk m rfl]
      | false =>
        rw [hsl] at h
        simp only [cond_false] at h
        cases hs2 : Nat.beq x.2.slot 2 with
        | true =>
          rw [hs2] at h
          simp only [cond_true] at h
          obtain ⟨hst, h⟩ := u006 h
          obtain ⟨v1, b, hbl, hml, hb, hall⟩ := op_call (tt := tt) (tab := tab) (σ := { σ with mem := m }) (k := fun v m ks => some (v, m, ks)) hst h
          simp only [Option.some.injEq, Prod.mk.injEq] at hb
          obtain ⟨rfl, rfl, rfl⟩ := hb
          refine .inl ⟨rfl, .inr (.inr (.inr (.inr ⟨hh, b, h5, rfl, hbl, hml, fun m2 hl2 hm2 => ?_⟩)))⟩
          unfold stM stO
          rw [hg]
          unfold dOp
          rw [hkl2 m2, h5]
          obtain ⟨g1, g2⟩ := hall m2 hl2 hm2
          simp only [cond_true, hsl, cond_false, hs2, g1]
          exact g2
        | false =>
        rw [hs2] at h
        simp only [cond_false] at h
        obtain ⟨hst, h⟩ := u006 h
        obtain ⟨v1, b, hbl, hml, hb, hall⟩ := op_store (tt := tt) (tab := tab) (σ := { σ with mem := m }) hst h (fun v m a l => by simp [hiso])
        simp only [Option.some.injEq, Prod.mk.injEq] at hb
        obtain ⟨rfl, rfl, rfl⟩ := hb
        refine .inl ⟨rfl, .inr (.inr (.inr (.inr ⟨hh, b, h5, rfl, hbl, hml, fun m2 _ hm2 => ?_⟩)))⟩
        unfold stM stO
        rw [hg]
        unfold dOp
        rw [hkl2 m2, h5]
        simp only [cond_true, hsl, cond_false, hs2]
        have hst2 : isSt hh x.1 { σ with mem := m2 } = true := by
          rw [← hst]; unfold isSt; simp only [u075]
        rw [hst2]
        simp only [cond_true]
        exact hall m2 hm2
  · rw [hg] at h
    simp only [Option.some.injEq, Prod.mk.injEq] at h
    obtain ⟨rfl, rfl, rfl⟩ := h
    refine .inl ⟨rfl, .inl ⟨rfl, fun m2 _ => ?_⟩⟩
    unfold stM stO
    rw [hg]
  · rw [hg] at h; cases h
end
end Go.Lv
namespace Go.Lv
variable [fr : Fr]
section
variable {tt : TT} {tab : Tab} {ops : Array Oper} {n0 : Nat}
theorem vis_kind {dx : DI} {y : Item} (B : Beside dx y.2) {σ : St} {m : Mem} {v : V} {m' : Mem} (K : Kind tt tab ops n0 y σ m v m') : visM dx n0 m' = visM dx n0 m := by
  unfold visM
  rcases K with ⟨rfl, _⟩ | ⟨hc, b, _, rfl, _, _, _, _⟩ | ⟨hc, hn, blks, rfl, _⟩ | hc | ⟨h, b, hc, rfl, _⟩
  · rfl
  · split
    · exact u129 (B.two hc)
    · exact u128 (B.two hc)
    · rfl
  · split
    · rename_i h; exact absurd h (B.three hc)
    · rw [List.take_append_of_le_length hn]
    · rfl
  · obtain ⟨h0, h1⟩ := B.four hc
    split
    · rename_i h; exact absurd h h0
    · rename_i h; exact absurd h h1
    · rfl
  · split
    · exact u129 (B.five h hc)
    · exact u128 (B.five h hc)
    · rfl
theorem swapM {x y : Item} (Bxy : Beside x.2 y.2) (Byx : Beside y.2 x.2) (hok : okCS x.2.cls x.2.slot y.2.cls y.2.slot = true) {σ : St} {m0 mx my : Mem} {vx vy : V}
    (hx : stM tt tab ops n0 x σ m0 = some (vx, mx, [])) (hy : stM tt tab ops n0 y σ mx = some (vy, my, [])) (Kx : Kind tt tab ops n0 x σ m0 vx mx) (Ky : Kind tt tab ops n0 y σ mx vy my) :
    ∃ m', stM tt tab ops n0 y σ m0 = some (vy, m', []) ∧ stM tt tab ops n0 x σ m' = some (vx, my, []) := by
  have okc : (2 ≤ x.2.cls ∧ 2 ≤ y.2.cls) → (x.2.cls = 2 ∧ y.2.cls ≤ 3) ∨ (y.2.cls = 2 ∧ x.2.cls ≤ 3) ∨ (x.2.cls = 2 ∧ 5 ≤ y.2.cls ∧ x.2.slot + 5 ≠ y.2.cls) ∨ (y.2.cls = 2 ∧ 5 ≤ x.2.cls ∧ y.2.slot + 5 ≠ x.2.cls) := by
    intro ⟨h1, h2⟩
    simp only [okCS, okCls, Bool.or_eq_true, Bool.and_eq_true, Nat.ble_eq, Nat.beq_eq, Bool.not_eq_true', ← Bool.not_eq_true] at hok
    omega
  rcases Kx with ⟨rfl, hxs⟩ | Kx
  · exact ⟨my, hy, hxs my (vis_kind Bxy Ky)⟩
  have hvx : visM y.2 n0 mx = visM y.2 n0 m0 := vis_kind Byx (.inr Kx)
  rcases Ky with ⟨rfl, hys⟩ | Ky
  · exact ⟨m0, hys m0 hvx.symm, hx⟩
  rcases Kx with ⟨hc, b, hbl, rfl, hd, hl, hsn, hxs⟩ | ⟨hc, hn, blks, rfl, hxs⟩ | hc | ⟨hx1, bx, hc, rfl, hbx, hlx, hxs⟩
  · rcases Ky with ⟨hc2, c, hcl, rfl, hd2, hl2, hsn2, hys⟩ | ⟨hc2, hn2, blks, rfl, hys⟩ | hc2 | ⟨hy1, bY, hc2, rfl, hbY, hlY, hys⟩
    · have hne : x.2.slot ≠ y.2.slot := fun e => by
        rw [← e, u060, if_pos ⟨rfl, hl⟩] at hd2
        rw [hd2] at hbl; cases hbl
      have hd3 : mget m0 y.2.slot = .dead := by
        rw [u060, if_neg (fun e => hne e.1.symm)] at hd2; exact hd2
      rw [u034] at hl2
      refine ⟨_, hys m0 hd3 hl2, ?_⟩
      rw [u166 hne]
      exact hxs _ (by rw [u060, if_neg (fun e => hne e.1)]; exact hd) (by rw [u034]; exact hl)
    · refine ⟨_, hys m0 (u129 (Byx.two hc)).symm (by rw [u034]), ?_⟩
      rw [← mset_app hl]
      exact hxs _ (by rw [u153, if_pos hl]; exact hd) (by rw [List.length_append]; omega)
    · rcases okc ⟨by omega, by omega⟩ with h | h | h | h <;> omega
    · have hne : x.2.slot ≠ hy1 := by
        rcases okc ⟨by omega, by omega⟩ with h | h | h | h <;> omega
      refine ⟨_, hys m0 (by rw [u034]) (by rw [u060, if_neg (fun e => hne e.1.symm)]), ?_⟩
      rw [u166 hne]
      exact hxs _ (by rw [u060, if_neg (fun e => hne e.1)]; exact hd) (by rw [u034]; exact hl)
  · rcases Ky with ⟨hc2, c, hcl, rfl, hd2, hl2, hsn2, hys⟩ | ⟨hc2, hn2, blks, rfl, hys⟩ | hc2 | ⟨_, _, hc2, _⟩
    · have hlt : y.2.slot < m0.length := Nat.lt_of_lt_of_le hsn2 hn
      rw [u153, if_pos hlt] at hd2
      refine ⟨_, hys m0 hd2 hlt, ?_⟩
      rw [mset_app hlt]
      exact hxs _ (u129 (Bxy.two hc2)) (by rw [u034])
    · rcases okc ⟨by omega, by omega⟩ with h | h | h | h <;> omega
    · rcases okc ⟨by omega, by omega⟩ with h | h | h | h <;> omega
    · rcases okc ⟨by omega, by omega⟩ with h | h | h | h <;> omega
  · rcases Ky with ⟨hc2, _⟩ | ⟨hc2, _⟩ | hc2 | ⟨_, _, hc2, _⟩ <;> rcases okc ⟨by omega, by omega⟩ with h | h | h | h <;> omega
  · rcases Ky with ⟨hc2, c, hcl, rfl, hd2, hl2, hsn2, hys⟩ | ⟨hc2, _⟩ | hc2 | ⟨_, _, hc2, _⟩
    · have hne : y.2.slot ≠ hx1 := by
        rcases okc ⟨by omega, by omega⟩ with h | h | h | h <;> omega
      have hd3 : mget m0 y.2.slot = .dead := by
        rw [u060, if_neg (fun e => hne e.1)] at hd2; exact hd2
      rw [u034] at hl2
      refine ⟨_, hys m0 hd3 hl2, ?_⟩
      rw [u166 (Ne.symm hne)]
      exact hxs _ (by rw [u034]) (by rw [u060, if_neg (fun e => hne e.1.symm)])
    all_goals rcases okc ⟨by omega, by omega⟩ with h | h | h | h <;> omega
theorem vis_kindA {dx : DI} {y : Item} (B : Beside dx y.2) {σ : St} {m : Mem} {v : V} {m' : Mem} {ks : List Nat} (K : KindA tt tab ops n0 y σ m v m' ks) : visM dx n0 m' = visM dx n0 m := by
  obtain ⟨h, b, hc, _, _, _, rfl, _⟩ := K
  unfold visM
  split
  · exact u129 (B.five h hc)
  · exact u128 (B.five h hc)
  · rfl
theorem u232 {x y : Item} (hok : okCS x.2.cls x.2.slot y.2.cls y.2.slot = true) (h : 2 ≤ x.2.cls ∧ 2 ≤ y.2.cls) : (x.2.cls = 2 ∧ y.2.cls ≤ 3) ∨ (y.2.cls = 2 ∧ x.2.cls ≤ 3) ∨ (x.2.cls = 2 ∧ 5 ≤ y.2.cls ∧ x.2.slot + 5 ≠ y.2.cls) ∨ (y.2.cls = 2 ∧ 5 ≤ x.2.cls ∧ y.2.slot + 5 ≠ x.2.cls) := by
  obtain ⟨h1, h2⟩ := h
  simp only [okCS, okCls, Bool.or_eq_true, Bool.and_eq_true, Nat.ble_eq, Nat.beq_eq, Bool.not_eq_true', ← Bool.not_eq_true] at hok
  omega
theorem swapA1 {x y : Item} (Bxy : Beside x.2 y.2) (Byx : Beside y.2 x.2) (hok : okCS x.2.cls x.2.slot y.2.cls y.2.slot = true) {σ : St} {m0 mx my : Mem} {vx vy : V} {kx : List Nat}
    (hx : stM tt tab ops n0 x σ m0 = some (vx, mx, kx)) (hy : stM tt tab ops n0 y σ mx = some (vy, my, [])) (Kx : KindA tt tab ops n0 x σ m0 vx mx kx) (Ky : Kind tt tab ops n0 y σ mx vy my) :
    ∃ m', stM tt tab ops n0 y σ m0 = some (vy, m', []) ∧ stM tt tab ops n0 x σ m' = some (vx, my, kx) := by
  have hvx := vis_kindA Byx Kx
  rcases Ky with ⟨rfl, hys⟩ | Ky
  · exact ⟨m0, hys m0 hvx.symm, hx⟩
  obtain ⟨h, b, hc, hs1, _, rfl, rfl, hb, hl, hxs⟩ := Kx
  rcases Ky with ⟨hc2, c, hcl, rfl, hd2, hl2, hsn2, hys⟩ | ⟨hc2, _⟩ | hc2 | ⟨_, _, hc2, _⟩
  · have hne : y.2.slot ≠ h := by
      rcases u232 hok ⟨by omega, by omega⟩ with h | h | h | h <;> omega
    have hd3 : mget m0 y.2.slot = .dead := by
      rw [u060, if_neg (fun e => hne e.1)] at hd2; exact hd2
    rw [u034] at hl2
    refine ⟨_, hys m0 hd3 hl2, ?_⟩
    rw [u166 (Ne.symm hne)]
    exact hxs _ (u129 (Bxy.two hc2)) (by rw [u060, if_neg (fun e => hne e.1.symm)])
  all_goals rcases u232 hok ⟨by omega, by omega⟩ with h | h | h | h <;> omega
theorem swapA2 {x y : Item} (Bxy : Beside x.2 y.2) (Byx : Beside y.2 x.2) (hok : okCS x.2.cls x.2.slot y.2.cls y.2.slot = true) {σ : St} {m0 mx my : Mem} {vx vy : V} {ky : List Nat}
    (hx : stM tt tab ops n0 x σ m0 = some (vx, mx, [])) (hy : stM tt tab ops n0 y σ mx = some (vy, my, ky)) (Kx : Kind tt tab ops n0 x σ m0 vx mx) (Ky : KindA tt tab ops n0 y σ mx vy my ky) :
    ∃ m', stM tt tab ops n0 y σ m0 = some (vy, m', ky) ∧ stM tt tab ops n0 x σ m' = some (vx, my, []) := by
  have hvy := vis_kindA Bxy Ky
  rcases Kx with ⟨rfl, hxs⟩ | Kx
  · exact ⟨my, hy, hxs my hvy⟩
  obtain ⟨h, b, hc, hs1, _, rfl, rfl, hb, hl, hys⟩ := Ky
  rcases Kx with ⟨hc2, c, hcl, rfl, hd2, hl2, hsn2, hxs⟩ | ⟨hc2, _⟩ | hc2 | ⟨_, _, hc2, _⟩
  · have hne : x.2.slot ≠ h := by
      rcases u232 hok ⟨by omega, by omega⟩ with h | h | h | h <;> omega
    refine ⟨_, hys m0 (u129 (Byx.two hc2)).symm (by rw [u060, if_neg (fun e => hne e.1.symm)]), ?_⟩
    rw [u166 hne]
    exact hxs _ (by rw [u060, if_neg (fun e => hne e.1)]; exact hd2) (by rw [u034]; exact hl2)
  all_goals rcases u232 hok ⟨by omega, by omega⟩ with h | h | h | h <;> omega
theorem memb_mem {n : Nat} : ∀ {l : List Nat}, memb n l = true ↔ n ∈ l
  | [] => by simp [memb]
  | a :: r => by
    simp only [memb, List.mem_cons]
    cases h : Nat.beq a n with
    | true => simp [Nat.eq_of_beq_eq_true h]
    | false =>
      have : n ≠ a := fun e => by rw [e, Nat.beq_refl] at h; cases h
      simp only [cond_false, this, false_or]
      exact memb_mem
theorem meets_mem {ks : List Nat} : ∀ {l : List Nat}, meets ks l = true ↔ ∃ a ∈ l, a ∈ ks
  | [] => by simp [meets]
  | a :: r => by
    simp only [meets, List.mem_cons]
    cases h : memb a ks with
    | true => simp only [cond_true, true_iff]; exact ⟨a, .inl rfl, memb_mem.1 h⟩
    | false =>
      simp only [cond_false]
      rw [meets_mem]
      constructor
      · rintro ⟨b, h1, h2⟩; exact ⟨b, .inr h1, h2⟩
      · rintro ⟨b, h1 | h1, h2⟩
        · subst h1; rw [memb_mem.2 h2] at h; cases h
        · exact ⟨b, h1, h2⟩
theorem meets_sub {h : Nat} {kl : List Nat} (hh : h ∈ kl) {l : List Nat} (hm : meets kl l = false) : meets [h] l = false := by
  cases hq : meets [h] l with
  | false => rfl
  | true =>
    obtain ⟨a, h1, h2⟩ := meets_mem.1 hq
    simp at h2
    subst h2
    rw [meets_mem.2 ⟨_, h1, hh⟩] at hm
    cases hm
theorem stays_meets {kl : List Nat} {v : V} (h : stays kl v = true) : meets kl v.hs = false := by
  unfold stays at h
  split at h
  · cases h
  · simpa using h
theorem stays_kill {h : Nat} {kl : List Nat} (hh : h ∈ kl) (v : V) : stays kl (killV [h] v) = stays kl v ∧ (stays kl v = true → killV [h] v = v) := by
  unfold killV
  cases hm : meets [h] v.hs with
  | false => exact ⟨rfl, fun _ => rfl⟩
  | true =>
    have hs : stays kl v = false := by
      cases hq : stays kl v with
      | false => rfl
      | true => rw [meets_sub hh (stays_meets hq)] at hm; cases hm
    rw [hs]
    exact ⟨rfl, fun h => by cases h⟩
theorem u292 (h : Nat) : ∀ (ts : List V) (t : Nat), vget (ts.map (killV [h])) t = killV [h] (vget ts t)
  | [], t => rfl
  | a :: r, 0 => rfl
  | a :: r, t + 1 => u292 h r t
theorem evO_kill {h : Nat} {σ σ' : St} (ht : σ'.tmps = σ.tmps.map (killV [h])) {kl : List Nat} (hh : h ∈ kl) (x : Operand) : stays kl (evO σ' x) = stays kl (evO σ x) ∧ (stays kl (evO σ x) = true → evO σ' x = evO σ x) := by
  cases x with
  | tmp t =>
    have e : evO σ' (.tmp t) = killV [h] (evO σ (.tmp t)) := by
      show vget σ'.tmps t = killV [h] (vget σ.tmps t)
      rw [ht, u292]
    rw [e]
    exact stays_kill hh _
  | const v => rw [evO_const σ' σ v]; exact ⟨rfl, fun _ => rfl⟩
  | _ => exact ⟨rfl, fun _ => rfl⟩
theorem guardK_kill {R : Type} {h : Nat} {σ σ' : St} (ht : σ'.tmps = σ.tmps.map (killV [h])) (g : Option (Nat × Bool)) (a b : Option R) : u118 ops σ' g a b = u118 ops σ g a b := by
  unfold u118
  cases g with
  | none => rfl
  | some g =>
    obtain ⟨j, want⟩ := g
    simp only
    cases hd : (ops[j]?).bind (·.dst) with
    | none => rfl
    | some d =>
      simp only
      rw [ht, u292]
      generalize vget σ.tmps d = v
      unfold killV
      cases hm : meets [h] v.hs with
      | false => rfl
      | true =>
        rw [cond_true]
        cases v <;> first | rfl | (simp only [V.hs, meets] at hm; cases hm)
theorem stO_kill {x : Item} {h : Nat} (hh : h ∈ x.2.kl) {σ σ' : St} (ht : σ'.tmps = σ.tmps.map (killV [h])) (hm : σ'.mem = σ.mem) : stO tt tab ops n0 x σ' = stO tt tab ops n0 x σ := by
  unfold stO
  rw [guardK_kill ht, hm]
  congr 1
  have hkl : okKl x.2 x.1 σ' = okKl x.2 x.1 σ := by
    unfold okKl
    split
    · rfl
    · rename_i hne
      congr 1
      rw [Bool.eq_iff_iff, List.all_eq_true, List.all_eq_true]
      constructor
      · intro hq y hy
        rw [← (evO_kill ht hh y).1]; exact hq y hy
      · intro hq y hy
        rw [(evO_kill ht hh y).1]; exact hq y hy
  cases hq : okKl x.2 x.1 σ with
  | false =>
    unfold dOp
    rw [hkl, hq]; rfl
  | true =>
    refine dOp_congr (fun y hy => ?_) hm _
    unfold okKl at hq
    split at hq
    · rename_i hne; rw [hne] at hh; cases hh
    · simp only [Bool.and_eq_true, List.all_eq_true] at hq
      exact (evO_kill ht hh y).2 (hq.2 y (by simpa using hy))
theorem avoid {x : Item} {h : Nat} (hh : h ∈ x.2.kl) {σ : St} {r : Res} (hx : stO tt tab ops n0 x σ = some r) : meets [h] r.1.hs = false := by
  unfold stO at hx
  have hcase : ∀ (R : Type) (a b : Option R) (y : R), u118 ops σ x.1.guard a b = some y → a = some y ∨ b = some y := by
    intro R a b y hy
    have hb1 : ∀ c : Bool, (bif c then a else b) = some y → a = some y ∨ b = some y := fun c h => match c, h with | true, h => .inl h | false, h => .inr h
    have hb2 : ∀ c : Bool, (bif c then b else a) = some y → a = some y ∨ b = some y := fun c h => match c, h with | true, h => .inr h | false, h => .inl h
    unfold u118 at hy
    split at hy
    · exact .inl hy
    · split at hy
      · cases hy
      · split at hy
        · split at hy
          · exact hb1 _ hy
          · exact hb2 _ hy
        · exact .inr hy
        · cases hy
  rcases hcase _ _ _ _ hx with hx | hx
  · unfold dOp at hx
    obtain ⟨hkl, hx⟩ := u006 hx
    have hle : x.2.cls ≤ 2 := by
      unfold okKl at hkl
      split at hkl
      · rename_i hne; rw [hne] at hh; cases hh
      · simp only [Bool.and_eq_true] at hkl
        exact Nat.le_of_ble_eq_true hkl.1
    split at hx
    · cases hx
    · have hnat := u090 (A := V) (B := Res) (fun v => bif meets x.2.kl v.hs then none else some (v, σ.mem, [])) (fun v _ _ => some v) tt tab none x.1 { σ with mem := visM x.2 n0 σ.mem }
      simp only [Option.bind_some] at hnat
      obtain ⟨v1, _, h4⟩ := Option.bind_eq_some_iff.1 (hnat.trans hx)
      obtain ⟨hme, h4⟩ := u051 h4
      cases h4
      exact meets_sub hh hme
    · obtain ⟨_, hx⟩ := u006 hx
      have hnat := u090 (A := Res) (B := Res) (fun r => bif meets x.2.kl r.1.hs then none else some r) (fun v m ks => some (v, m, ks)) tt tab (some x.2.slot) x.1 σ
      simp only [Option.bind_some] at hnat
      obtain ⟨r1, _, h4⟩ := Option.bind_eq_some_iff.1 (hnat.trans hx)
      obtain ⟨hme, h4⟩ := u051 h4
      cases h4
      exact meets_sub hh hme
    all_goals (rename_i hc; omega)
  · cases hx
    rfl
theorem tset_map (f : V → V) : ∀ (ts : List V) (d : Nat) (v : V), (tset ts d v).map f = tset (ts.map f) d (f v)
  | [], _, _ => rfl
  | _ :: r, 0, _ => rfl
  | a :: r, d + 1, v => by simp only [tset, List.map_cons]; rw [tset_map f r d v]
theorem nxt_kill {x y : Item} (h : ∀ d, x.1.dst = some d → y.1.dst ≠ some d) (σ : St) (vx vy : V) (m1 m2 m3 : Mem) {k : Nat} (hv : meets [k] vy.hs = false) :
    nxt y (nxt x σ (vx, m1, [k])) (vy, m3, []) = nxt x (nxt y σ (vy, m2, [])) (vx, m3, [k]) := by
  have hk : killV [k] vy = vy := by unfold killV; rw [hv]; rfl
  unfold nxt
  cases hx : x.1.dst with
  | none =>
    cases hy : y.1.dst with
    | none => rfl
    | some e => simp only [putT, St.upd]; rw [tset_map, hk]
  | some d =>
    cases hy : y.1.dst with
    | none => rfl
    | some e =>
      have hne : d ≠ e := fun e2 => h d hx (by rw [hy, e2])
      simp only [putT, St.upd]
      rw [tset_map, hk, tset_comm _ _ _ _ _ hne]
theorem stO_nxtK {x y : Item} (h : ∀ d, x.1.dst = some d → d ∉ y.1.looksAt ops) {k : Nat} (hk : k ∈ y.2.kl) (σ : St) (v : V) (m : Mem) : stO tt tab ops n0 y (nxt x σ (v, m, [k])) = stM tt tab ops n0 y σ m := by
  have hA : Agree ops y.1 (nxt x σ (v, m, [k])) { tmps := σ.tmps.map (killV [k]), mem := m, np := σ.np, killed := addK σ.np [k] σ.killed } := by
    intro t ht
    unfold nxt
    cases hd : x.1.dst with
    | none => rfl
    | some d => exact vget_tset _ _ _ _ fun e => h d hd (e ▸ ht)
  rw [u210 hA (nxt_mem _ _ _)]
  exact stO_kill hk rfl rfl
structure Pair (tab : Tab) (ops : Array Oper) (x y : Item) : Prop where
  apart : x.1.apart ops y.1 = true
  xy : Beside x.2 y.2
  yx : Beside y.2 x.2
  ok : okCS x.2.cls x.2.slot y.2.cls y.2.slot = true
  cx : x.2.cls ≤ 3 → x.2.cls = cls tt tab x.1
  cy : y.2.cls ≤ 3 → y.2.cls = cls tt tab y.1
theorem swap {x y : Item} (hp : Pair (tt := tt) tab ops x y) {σ : St} {rx ry : Res} (hx : stO tt tab ops n0 x σ = some rx) (hy : stO tt tab ops n0 y (nxt x σ rx) = some ry) :
    ∃ ry' rx', stO tt tab ops n0 y σ = some ry' ∧ stO tt tab ops n0 x (nxt y σ ry') = some rx' ∧ nxt x (nxt y σ ry') rx' = nxt y (nxt x σ rx) ry := by
  obtain ⟨vx, mx, kx⟩ := rx
  obtain ⟨vy, my, ky⟩ := ry
  obtain ⟨a1, a2, a3⟩ := Oper.apart_spec hp.apart
  have hx' : stM tt tab ops n0 x σ σ.mem = some (vx, mx, kx) := hx
  rcases kind hp.cx hp.xy.iso hx' with ⟨rfl, Kx⟩ | Kx
  · have hA : Agree ops y.1 (nxt x σ (vx, mx, [])) { σ with mem := mx } := agree_nxt (y := y) a1 σ vx mx
    have hy' : stM tt tab ops n0 y σ mx = some (vy, my, ky) := by
      unfold stM
      rw [← u210 hA (nxt_mem _ _ _)]
      exact hy
    rcases kind hp.cy hp.yx.iso hy' with ⟨rfl, Ky⟩ | Ky
    · obtain ⟨m', h1, h2⟩ := swapM hp.xy hp.yx hp.ok hx' hy' Kx Ky
      refine ⟨(vy, m', []), (vx, my, []), h1, ?_, ?_⟩
      · have hB : Agree ops x.1 (nxt y σ (vy, m', [])) { σ with mem := m' } := agree_nxt (y := x) a3 σ vy m'
        rw [u210 hB (nxt_mem _ _ _)]
        exact h2
      · exact (nxt_comm a2 σ vx vy mx m' my).symm
    · obtain ⟨m', h1, h2⟩ := swapA2 hp.xy hp.yx hp.ok hx' hy' Kx Ky
      obtain ⟨h, b, hc, hs1, _, rfl, _⟩ := Ky
      have hk : h ∈ x.2.kl := hp.xy.kil h hc hs1
      refine ⟨(vy, m', [h]), (vx, my, []), h1, ?_, ?_⟩
      · rw [stO_nxtK a3 hk]; exact h2
      · exact nxt_kill (fun d hd e => a2 d e hd) σ vy vx m' mx my (avoid hk hx)
  · obtain ⟨h, b, hc, hs1, hkl, rfl, hrest⟩ := Kx
    have hk : h ∈ y.2.kl := hp.yx.kil h hc hs1
    have hy' : stM tt tab ops n0 y σ mx = some (vy, my, ky) := by
      rw [← stO_nxtK a1 hk]; exact hy
    rcases kind hp.cy hp.yx.iso hy' with ⟨rfl, Ky⟩ | Ky
    · obtain ⟨m', h1, h2⟩ := swapA1 hp.xy hp.yx hp.ok hx' hy' ⟨h, b, hc, hs1, hkl, rfl, hrest⟩ Ky
      refine ⟨(vy, m', []), (vx, my, [h]), h1, ?_, ?_⟩
      · have hB : Agree ops x.1 (nxt y σ (vy, m', [])) { σ with mem := m' } := agree_nxt (y := x) a3 σ vy m'
        rw [u210 hB (nxt_mem _ _ _)]
        exact h2
      · exact (nxt_kill a2 σ vx vy mx m' my (avoid (σ := { σ with mem := mx }) hk hy')).symm
    · exfalso
      obtain ⟨h2, b2, hc2, _⟩ := Ky
      rcases u232 hp.ok ⟨by omega, by omega⟩ with h | h | h | h <;> omega
theorem bubble {i : Item} {post : List Item} : ∀ {pre : List Item} {σ σf : St}, (∀ p ∈ pre, Pair (tt := tt) tab ops p i) → runD tt tab ops n0 (pre ++ i :: post) σ = some σf → runD tt tab ops n0 (i :: (pre ++ post)) σ = some σf := by
  intro pre
  induction pre with
  | nil => intro σ σf _ h; exact h
  | cons p pre ih =>
    intro σ σf hp h
    rw [List.cons_append, runD] at h
    obtain ⟨rp, h1, h2⟩ := Option.bind_eq_some_iff.1 h
    have h3 := ih (fun q hq => hp q (by simp [hq])) h2
    rw [runD] at h3
    obtain ⟨ri, h4, h5⟩ := Option.bind_eq_some_iff.1 h3
    obtain ⟨ri', rp', g1, g2, g3⟩ := swap (hp p (by simp)) h1 h4
    rw [runD, g1, Option.bind_some, List.cons_append, runD, g2, Option.bind_some, g3]
    exact h5
def remL (listed : Array Bool) : Nat → List Item → List Item
  | _, [] => []
  | s, x :: l => bif listed.getD s true then remL listed (s + 1) l else x :: remL listed (s + 1) l
theorem remL_set (listed : Array Bool) (i : Nat) : ∀ (l : List Item) (s : Nat), i < s → remL (listed.setIfInBounds i true) s l = remL listed s l
  | [], s, _ => rfl
  | x :: l, s, h => by
    simp only [remL]
    rw [getD_set_ne true (by omega), remL_set listed i l (s + 1) (by omega)]
theorem u230 (listed : Array Bool) : ∀ (l : List Item) (s i : Nat) (x : Item), l[i]? = some x → listed.getD (s + i) true = false →
    ∃ pre post, remL listed s l = pre ++ x :: post ∧ remL (listed.setIfInBounds (s + i) true) s l = pre ++ post ∧ ∀ p ∈ pre, ∃ j, j < i ∧ l[j]? = some p ∧ listed.getD (s + j) true = false
  | [], s, i, x, h, _ => by simp at h
  | y :: l, s, 0, x, h, hl => by
    simp only [List.getElem?_cons_zero, Option.some.injEq] at h
    subst h
    refine ⟨[], remL listed (s + 1) l, ?_, ?_, fun p hp => by cases hp⟩
    · simp only [remL, Nat.add_zero] at hl ⊢
      rw [hl]; rfl
    · have hlt : s < listed.size := by
        rcases Nat.lt_or_ge s listed.size with h' | h'
        · exact h'
        · simp [Array.getElem?_eq_none h'] at hl
      simp only [remL, Nat.add_zero, List.nil_append]
      rw [show (listed.setIfInBounds s true).getD s true = true by simp [hlt], remL_set _ _ _ _ (by omega)]
      rfl
  | y :: l, s, i + 1, x, h, hl => by
    obtain ⟨pre, post, h1, h2, h3⟩ := u230 listed l (s + 1) i x (by simpa using h) (by rw [show s + 1 + i = s + (i + 1) by omega]; exact hl)
    rw [show s + 1 + i = s + (i + 1) by omega] at h2
    simp only [remL]
    rw [getD_set_ne true (by omega : s + (i + 1) ≠ s), h1, h2]
    cases hy : listed.getD s true with
    | true =>
      exact ⟨pre, post, rfl, rfl, fun p hp => by
        obtain ⟨j, hj, h4, h5⟩ := h3 p hp
        exact ⟨j + 1, by omega, by simpa using h4, by rw [show s + (j + 1) = s + 1 + j by omega]; exact h5⟩⟩
    | false =>
      refine ⟨y :: pre, post, rfl, rfl, fun p hp => ?_⟩
      cases hp with
      | head => exact ⟨0, by omega, rfl, hy⟩
      | tail _ hp =>
        obtain ⟨j, hj, h4, h5⟩ := h3 p hp
        exact ⟨j + 1, by omega, by simpa using h4, by rw [show s + (j + 1) = s + 1 + j by omega]; exact h5⟩
theorem remL_nil {listed : Array Bool} : ∀ {l : List Item} {s : Nat}, (∀ i, i < l.length → listed.getD (s + i) true = true) → remL listed s l = []
  | [], s, _ => rfl
  | x :: l, s, h => by
    simp only [remL]
    rw [show listed.getD s true = true from h 0 (by simp)]
    exact remL_nil fun i hi => by rw [show s + 1 + i = s + (i + 1) by omega]; exact h (i + 1) (by simpa using hi)
end
end Go.Lv
namespace Go.Lv
open Go.RowKit
variable [fr : Fr]
theorem mem_uni {a b : List Nat} {x : Nat} : x ∈ uni a b ↔ x ∈ a ∨ x ∈ b := by
  induction a generalizing b with
  | nil => simp [uni]
  | cons c r ih =>
    simp only [uni]
    cases hm : memb c b with
    | true =>
      have := memb_iff.1 hm
      simp only [cond_true, ih, List.mem_cons]
      constructor
      · rintro (h | h)
        · exact .inl (.inr h)
        · exact .inr h
      · rintro ((rfl | h) | h)
        · exact .inr this
        · exact .inl h
        · exact .inr h
    | false =>
      simp only [cond_false, ih, List.mem_cons]
      constructor
      · rintro (h | rfl | h)
        · exact .inl (.inr h)
        · exact .inl (.inl rfl)
        · exact .inr h
      · rintro ((rfl | h) | h)
        · exact .inr (.inl rfl)
        · exact .inl h
        · exact .inr (.inr h)
theorem mem_ancOf {acc : List (List Nat)} : ∀ {es : List Edge} {x : Nat}, x ∈ ancOf acc es → ∃ e ∈ es, Region.binds .any e = true ∧ (e.on = x ∨ x ∈ lget acc e.on)
  | [], x, h => by cases h
  | e :: r, x, h => by
    simp only [ancOf] at h
    have more : x ∈ ancOf acc r → ∃ e' ∈ e :: r, Region.binds .any e' = true ∧ (e'.on = x ∨ x ∈ lget acc e'.on) := fun h => by
      obtain ⟨e', h1, h2⟩ := mem_ancOf h
      exact ⟨e', by simp [h1], h2⟩
    cases hb : Region.binds .any e with
    | true =>
      rw [hb] at h
      rcases mem_uni.1 h with h | h
      · refine ⟨e, by simp, hb, ?_⟩
        rcases List.mem_cons.1 h with h | h
        · exact .inl h.symm
        · exact .inr h
      · exact more h
    | false => rw [hb] at h; exact more h
theorem lget_app (acc : List (List Nat)) (z : List Nat) (i : Nat) : lget (acc ++ [z]) i = if i < acc.length then lget acc i else if i = acc.length then z else [] := by
  induction acc generalizing i with
  | nil => cases i <;> simp [lget]
  | cons a r ih => cases i <;> simp [lget, ih]
theorem lget_ge (acc : List (List Nat)) (i : Nat) (h : acc.length ≤ i) : lget acc i = [] := by
  induction acc generalizing i with
  | nil => rfl
  | cons a r ih => cases i with
    | zero => simp at h
    | succ i => exact ih i (by simpa using h)
def AncOK (an : List (List Nat)) (L : List Oper) : Prop := an.length = L.length ∧ ∀ (i : Nat) (o : Oper), L[i]? = some o → ∀ x ∈ lget an i, ∃ e ∈ o.after.toList, Region.binds .any e = true ∧ (e.on = x ∨ x ∈ lget an e.on)
theorem ancs_ok : ∀ (l pre : List Oper) (acc : List (List Nat)), AncOK acc pre → AncOK (ancs l acc) (pre ++ l)
  | [], pre, acc, h => by simpa [ancs] using h
  | o :: l, pre, acc, ⟨hl, h⟩ => by
    simp only [ancs]
    have := ancs_ok l (pre ++ [o]) (acc ++ [ancOf acc o.after.toList]) ⟨by simp [hl], fun i p hp x hx => by
      have up : ∀ {y}, x ∈ lget acc y → x ∈ lget (acc ++ [ancOf acc o.after.toList]) y := fun {y} hy => by
        rw [lget_app]
        by_cases hyl : y < acc.length
        · rw [if_pos hyl]; exact hy
        · rw [lget_ge acc y (by omega)] at hy; cases hy
      rw [lget_app] at hx
      by_cases hi : i < acc.length
      · rw [if_pos hi] at hx
        rw [List.getElem?_append_left (by omega)] at hp
        obtain ⟨e, h1, h2, h3⟩ := h i p hp x hx
        exact ⟨e, h1, h2, h3.imp id up⟩
      · rw [if_neg hi] at hx
        by_cases hi2 : i = acc.length
        · rw [if_pos hi2] at hx
          rw [hi2, hl, List.getElem?_append_right (Nat.le_refl _)] at hp
          simp only [Nat.sub_self, List.getElem?_cons_zero, Option.some.injEq] at hp
          subst hp
          obtain ⟨e, h1, h2, h3⟩ := mem_ancOf hx
          exact ⟨e, h1, h2, h3.imp id up⟩
        · rw [if_neg hi2] at hx; cases hx⟩
    rwa [List.append_assoc] at this
section
variable {ops : Array Oper} {an : List (List Nat)}
theorem anc_lt (hA : AncOK an ops.toList) (hE : ∀ (i : Nat) (o : Oper), ops[i]? = some o → ∀ e ∈ o.after.toList, Region.binds .any e = true → e.on < i) : ∀ (i x : Nat), x ∈ lget an i → x < i := by
  intro i
  induction i using Nat.strongRecOn with
  | _ i ih =>
    intro x hx
    cases ho : ops.toList[i]? with
    | none =>
      have := List.getElem?_eq_none_iff.1 ho
      rw [lget_ge an i (by rw [hA.1]; exact this)] at hx
      cases hx
    | some o =>
      obtain ⟨e, h1, h2, h3⟩ := hA.2 i o ho x hx
      have hlt := hE i o (by simpa using ho) e h1 h2
      rcases h3 with rfl | h3
      · exact hlt
      · have := ih e.on hlt x h3; omega
def Closed (ops : Array Oper) (listed : Array Bool) : Prop := ∀ (i : Nat) (o : Oper), ops[i]? = some o → listed.getD i false = true → ∀ e ∈ o.after.toList, Region.binds .any e = true → listed.getD e.on false = true
theorem anc_listed (hA : AncOK an ops.toList) (hE : ∀ (i : Nat) (o : Oper), ops[i]? = some o → ∀ e ∈ o.after.toList, Region.binds .any e = true → e.on < i) {listed : Array Bool} (hC : Closed ops listed) :
    ∀ (i : Nat) (o : Oper), ops[i]? = some o → (∀ e ∈ o.after.toList, Region.binds .any e = true → listed.getD e.on false = true) → ∀ x ∈ lget an i, listed.getD x false = true := by
  intro i
  induction i using Nat.strongRecOn with
  | _ i ih =>
    intro o ho hp x hx
    obtain ⟨e, h1, h2, h3⟩ := hA.2 i o (by simpa using ho) x hx
    have hlt := hE i o ho e h1 h2
    have hl := hp e h1 h2
    rcases h3 with rfl | h3
    · exact hl
    · have hlen : e.on < ops.size := Nat.lt_trans hlt (Array.getElem?_eq_some_iff.1 ho).1
      have hoe : ops[e.on]? = some ops[e.on] := Array.getElem?_eq_getElem hlen
      exact ih e.on hlt _ hoe (hC e.on _ hoe hl) x h3
theorem u288 {cs : List (Nat × Nat)} {i j ci si cj sj : Nat} (hb : u120 an j i = true) (hi : cs[i]? = some (ci, si)) : Beside (u259 an cs j cj sj) (u259 an cs i ci si) := by
  have hm : ((ci, si), i) ∈ (cs.zipIdx).filter fun x => u120 an j x.2 := List.mem_filter.2 ⟨List.mk_mem_zipIdx_iff_getElem?.2 hi, hb⟩
  refine ⟨fun h => ?_, fun h => ?_, fun h => ?_, fun h h5 => ?_, fun h h5 h1 => ?_, ?_⟩
  · have h : ci = 2 := h
    simp only [u259]
    exact List.mem_append_left _ (List.mem_map.2 ⟨((ci, si), i), List.mem_filter.2 ⟨hm, by rw [h]; rfl⟩, rfl⟩)
  · have h : ci = 3 := h
    simp only [u259]
    have h3 : ((cs.zipIdx).filter fun x => u120 an j x.2).any (fun x => Nat.beq x.1.1 3) = true := List.any_eq_true.2 ⟨_, hm, by rw [h]; rfl⟩
    rw [h3]
    cases ((cs.zipIdx).filter fun x => u120 an j x.2).any (fun x => Nat.beq x.1.1 4) <;> simp
  · have h : ci = 4 := h
    simp only [u259]
    have h4 : ((cs.zipIdx).filter fun x => u120 an j x.2).any (fun x => Nat.beq x.1.1 4) = true := List.any_eq_true.2 ⟨_, hm, by rw [h]; rfl⟩
    rw [h4]
    simp
  · have h5 : ci = h + 5 := h5
    simp only [u259]
    exact List.mem_append_right _ (List.mem_map.2 ⟨((ci, si), i), List.mem_filter.2 ⟨hm, Nat.ble_eq.mpr (show 5 ≤ ci by omega)⟩, show ci - 5 = h by omega⟩)
  · have h5 : ci = h + 5 := h5
    have h1 : si = 1 := h1
    simp only [u259]
    exact List.mem_map.2 ⟨((ci, si), i), List.mem_filter.2 ⟨hm, by
      have e1 : Nat.ble 5 ci = true := Nat.ble_eq.mpr (by omega)
      have e2 : Nat.beq si 1 = true := by rw [h1]; rfl
      show (Nat.ble 5 ci && Nat.beq si 1) = true
      rw [e1, e2]; rfl⟩, show ci - 5 = h by omega⟩
  · simp only [u259]
    cases hq : (cs.zipIdx).filter fun x => u120 an j x.2 with
    | nil => rw [hq] at hm; cases hm
    | cons a r => rfl
theorem u268 : ∀ (l : List Nat) (base : Nat), (u162 base l).length = l.length
  | [], base => rfl
  | c :: r, base => by simp only [u162, List.length_cons]; rw [u268 r]
theorem u269 : ∀ (l : List Nat) (base i : Nat), ((u162 base l)[i]?).map Prod.fst = l[i]?
  | [], base, i => by simp [u162]
  | c :: r, base, 0 => by simp [u162]
  | c :: r, base, i + 1 => by simp only [u162, List.getElem?_cons_succ]; exact u269 r _ i
end
section
variable {P : Program} {tt : TT} {tab : Tab} {ops : Array Oper} {n0 : Nat} {w0 : World} {ρ0 : Rho} {mem0 : Mem} {σ : St} {a : Act} {w : World} {ρ : Rho}
theorem u294 (ms : List Nat) (m : Mem) : Sub (maskL ms m) m := fun h hl => by
  rw [u066] at hl ⊢
  by_cases hm : h ∈ ms
  · rw [if_pos hm] at hl; cases hl
  · rw [if_neg hm]
theorem sub_vis (d : DI) (n0 : Nat) (m : Mem) : Sub (visM d n0 m) m := fun h hl => by
  unfold visM at hl ⊢
  split at hl
  · exact u294 _ _ h hl
  · have h1 := u294 _ _ h hl
    rw [h1.symm] at hl
    rw [mget_take] at h1 hl
    by_cases hn : h < n0
    · rw [if_pos hn] at h1; exact h1
    · rw [if_neg hn] at hl; cases hl
  · cases hl
theorem item_ok (hT : TTok P tt) (hD : 6 ≤ P.depth) (hTab : TabOK P tab) {x : Item} (hc : x.2.cls ≤ 3 → x.2.cls = cls tt tab x.1) {r : Res} (hx : stO tt tab ops n0 x σ = some r) (hG : Good w0 ρ0 mem0 σ a w ρ) {i : Nat} (hi : ops[i]? = some x.1) {K : Act → World → Prop} {Q : Exit → Act → World → Prop}
    (hK : ∀ a' w' ρ', Good w0 ρ0 mem0 (nxt x σ r) a' w' ρ' → K a' w') : wpOp P ops Q i K a w := by
  obtain ⟨v, m, ks⟩ := r
  unfold wpOp
  simp only [hi]
  unfold stO at hx
  rcases guard_ok hG.inv hx with ⟨hw, hx⟩ | ⟨hw, hx⟩
  · rw [if_pos hw]
    have fin : (∀ (K : Act → World → Prop) (Q : Exit → Act → World → Prop), (∀ r w' ρ', VR w' ρ' m v r → WR w' ρ' m → Step w ρ σ.mem w' ρ' m (· ∈ ks) → K (a.put x.1.dst r) w') → x.1.wp P a w K Q) → x.1.wp P a w K Q ∨ (x.1.asks P a w ∧ LetsOut Q) := fun h =>
      .inl (h K Q fun r w' ρ' h1 h2 h3 => hK _ w' ρ' (hG.put h1 h2 h3 x.1.dst))
    unfold dOp at hx
    obtain ⟨_, hx⟩ := u006 hx
    split at hx
    · cases hx
    · rename_i h1
      have h2 := op_mono1 (σ := σ) (k := fun v => bif meets x.2.kl v.hs then none else some (v, σ.mem, ([] : List Nat))) (sub_vis x.2 n0 σ.mem) (by rw [← hc (by omega)]; exact h1) hx
      obtain ⟨v1, h3, h4⟩ := op_doesQ hT hD hTab hG.inv (σ := σ) h2 (by rw [← hc (by omega)]; exact h1)
      obtain ⟨_, h3⟩ := u051 h3
      simp only [Option.some.injEq, Prod.mk.injEq] at h3
      obtain ⟨rfl, rfl, rfl⟩ := h3
      exact fin h4
    · obtain ⟨_, hx⟩ := u006 hx
      obtain ⟨v1, m1, k1, h3, h4⟩ := u231 hT hD hTab hG.inv hx
      obtain ⟨_, h3⟩ := u051 h3
      simp only [Option.some.injEq, Prod.mk.injEq] at h3
      obtain ⟨rfl, rfl, rfl⟩ := h3
      exact fin h4
    · rename_i h1
      obtain ⟨_, hx⟩ := u006 hx
      obtain ⟨v1, blks, h2, h3⟩ := op_fresh (tt := tt) (σ := σ) (by rw [← hc (by omega)]; exact h1) hx
      simp only [Option.some.injEq, Prod.mk.injEq] at h2
      obtain ⟨rfl, rfl, rfl⟩ := h2
      have h5 := h3 σ.mem (u294 _ _) (by rw [u065]) Res (fun v m ks => some (v, m, ks))
      obtain ⟨v2, m2, k2, h6, h7⟩ := u231 hT hD hTab hG.inv (σ := σ) h5
      simp only [Option.some.injEq, Prod.mk.injEq] at h6
      obtain ⟨rfl, rfl, rfl⟩ := h6
      have e : (maskL x.2.ms σ.mem ++ blks).drop σ.mem.length = blks := by
        have := u065 x.2.ms σ.mem
        rw [← this]; exact List.drop_left
      rw [e] at hK
      exact .inl (h7 K Q fun r w' ρ' g1 g2 g3 => hK _ w' ρ' (hG.put g1 g2 g3 x.1.dst))
    · obtain ⟨v1, m1, k1, h3, h4⟩ := u231 hT hD hTab hG.inv hx
      have h5 : v1 = v ∧ m1 = m ∧ k1 = ks := by
        cases k1 with
        | nil => simpa using h3
        | cons c r =>
          simp only at h3
          obtain ⟨_, h3⟩ := u006 h3
          simpa using h3
      obtain ⟨rfl, rfl, rfl⟩ := h5
      exact fin h4
    · rename_i hh hcls
      cases hsl : Nat.beq x.2.slot 1 with
      | false =>
        rw [hsl] at hx
        simp only [cond_false] at hx
        cases hsl2 : Nat.beq x.2.slot 2 with
        | true =>
          rw [hsl2] at hx
          simp only [cond_true] at hx
          obtain ⟨_, hx⟩ := u006 hx
          obtain ⟨v1, m1, k1, h3, h4⟩ := u231 hT hD hTab hG.inv hx
          have h5 : v1 = v ∧ m1 = m ∧ k1 = ks := by
            cases k1 with
            | nil =>
              simp only at h3
              obtain ⟨_, h3⟩ := u006 h3
              simpa using h3
            | cons c r => cases h3
          obtain ⟨rfl, rfl, rfl⟩ := h5
          exact fin h4
        | false =>
        rw [hsl2] at hx
        simp only [cond_false] at hx
        obtain ⟨_, hx⟩ := u006 hx
        obtain ⟨v1, m1, k1, h3, h4⟩ := u231 hT hD hTab hG.inv hx
        have h5 : v1 = v ∧ m1 = m ∧ k1 = ks := by
          cases k1 with
          | nil => simpa using h3
          | cons c r =>
            simp only at h3
            obtain ⟨_, h3⟩ := u006 h3
            simpa using h3
        obtain ⟨rfl, rfl, rfl⟩ := h5
        exact fin h4
      | true =>
        rw [hsl] at hx
        simp only [cond_true] at hx
        obtain ⟨hap, hx⟩ := u006 hx
        have hap2 : isAp hh x.1 { σ with mem := maskL x.2.ms σ.mem } = true := by
          rw [← hap]; exact u238 fun y _ => by simp only [u075]
        obtain ⟨v1, b, hbl, hml, hb, hall⟩ := op_app (tt := tt) (tab := tab) (m := maskL x.2.ms σ.mem) (σ := σ) hap2 hx
        simp only [Option.some.injEq, Prod.mk.injEq] at hb
        obtain ⟨rfl, hb, rfl⟩ := hb
        have h5 := hall σ.mem (u294 _ _) Res (fun v m ks => some (v, m, ks))
        obtain ⟨v2, m2, k2, h6, h7⟩ := u231 hT hD hTab hG.inv (σ := σ) h5
        simp only [Option.some.injEq, Prod.mk.injEq] at h6
        obtain ⟨rfl, rfl, rfl⟩ := h6
        have hlt : hh < (maskL x.2.ms σ.mem).length := by
          rcases Nat.lt_or_ge hh (maskL x.2.ms σ.mem).length with hq | hq
          · exact hq
          · exfalso
            have : ∀ (m : Mem) (n : Nat), m.length ≤ n → mget m n = .dead := by
              intro m
              induction m with
              | nil => intro n _; rfl
              | cons c r ih =>
                intro n hn
                cases n with
                | zero => simp at hn
                | succ n => exact ih n (by simpa using hn)
            rw [this _ _ hq] at hml; cases hml
        rw [u060, if_pos ⟨rfl, hlt⟩] at hb
        rw [hb] at h7
        exact fin h7
  · rw [if_neg (by rw [hw]; simp)]
    simp only [Option.some.injEq, Prod.mk.injEq] at hx
    obtain ⟨rfl, rfl, rfl⟩ := hx
    exact hK _ w ρ (hG.skip x.1.dst)
structure Draw (tab : Tab) (ops : Array Oper) (items : List Item) : Prop where
  len : items.length = ops.size
  op : ∀ (i : Nat) (x : Item), items[i]? = some x → ops[i]? = some x.1
  back : ∀ (i : Nat) (o : Oper), ops[i]? = some o → ∀ e ∈ o.after.toList, Region.binds .any e = true → e.on < i
  cls : ∀ (i : Nat) (x : Item), items[i]? = some x → x.2.cls ≤ 3 → x.2.cls = cls tt tab x.1
  pair : ∃ an, AncOK an ops.toList ∧ ∀ (i j : Nat) (x y : Item), j < i → items[j]? = some x → items[i]? = some y → j ∉ lget an i → Pair (tt := tt) tab ops x y
theorem draw_any (hT : TTok P tt) (hD : 6 ≤ P.depth) (hTab : TabOK P tab) {items : List Item} (hd : Draw (tt := tt) tab ops items) {σf : St} {Q : Exit → Act → World → Prop}
    (hQ : ∀ a' w' ρ', Good w0 ρ0 mem0 σf a' w' ρ' → Q .normal a' w') : ∀ (fuel : Nat) (listed : Array Bool) (σ : St) (a : Act) (w : World) (ρ : Rho), listed.size = ops.size → (remL listed 0 items).length ≤ fuel → Closed ops listed →
    runD tt tab ops n0 (remL listed 0 items) σ = some σf → Good w0 ρ0 mem0 σ a w ρ → wpAny P .any ops Q fuel listed a w := by
  obtain ⟨an, hA, hpair⟩ := hd.pair
  have all : ∀ (listed : Array Bool) (σ : St) (a : Act) (w : World) (ρ : Rho), listed.size = ops.size → Region.ready .any ops listed = [] → runD tt tab ops n0 (remL listed 0 items) σ = some σf → Good w0 ρ0 mem0 σ a w ρ → Q .normal a w := by
    intro listed σ a w ρ hsz hr hrun hG
    have key : ∀ i, i < ops.size → listed.getD i true = true := by
      intro i
      induction i using Nat.strongRecOn with
      | _ i ih =>
        intro hi
        cases hl : listed.getD i true with
        | true => rfl
        | false =>
          have : i ∈ Region.ready .any ops listed := mem_ready.2 ⟨hl, ops[i], Array.getElem?_eq_getElem hi, fun e he hb => by
            have hlt := hd.back i _ (Array.getElem?_eq_getElem hi) e (by simpa using he) hb
            have h1 := ih e.on hlt (by omega)
            have h2 : e.on < listed.size := by omega
            simpa [Array.getD_eq_getD_getElem?, Array.getElem?_eq_getElem h2] using h1⟩
          rw [hr] at this
          cases this
    rw [remL_nil (fun i hi => by rw [Nat.zero_add]; exact key i (by rw [← hd.len]; exact hi))] at hrun
    simp only [runD, Option.some.injEq] at hrun
    subst hrun
    exact hQ a w ρ hG
  intro fuel
  induction fuel with
  | zero =>
    intro listed σ a w ρ hsz hf hC hrun hG
    have hr : Region.ready .any ops listed = [] := by
      cases hq : Region.ready .any ops listed with
      | nil => rfl
      | cons i r =>
        exfalso
        obtain ⟨h1, o, h2, _⟩ := mem_ready.1 (show i ∈ Region.ready .any ops listed by rw [hq]; simp)
        have hlt : i < items.length := by rw [hd.len]; exact (Array.getElem?_eq_some_iff.1 h2).1
        obtain ⟨pre, post, h3, _⟩ := u230 listed items 0 i _ (List.getElem?_eq_getElem hlt) (by rw [Nat.zero_add]; exact h1)
        rw [h3] at hf
        simp at hf
    exact ⟨hr, all listed σ a w ρ hsz hr hrun hG⟩
  | succ fuel ih =>
    intro listed σ a w ρ hsz hf hC hrun hG
    refine ⟨fun hr => all listed σ a w ρ hsz hr hrun hG, fun i hi => ?_⟩
    obtain ⟨h1, o, h2, h3⟩ := mem_ready.1 hi
    have h3 : ∀ e ∈ o.after.toList, Region.binds .any e = true → listed.getD e.on false = true := fun e he hb => h3 e (by simpa using he) hb
    have hlt : i < items.length := by rw [hd.len]; exact (Array.getElem?_eq_some_iff.1 h2).1
    have hx : items[i]? = some items[i] := List.getElem?_eq_getElem hlt
    obtain ⟨pre, post, h4, h5, h6⟩ := u230 listed items 0 i _ hx (by rw [Nat.zero_add]; exact h1)
    rw [Nat.zero_add] at h5
    have hox := hd.op i _ hx
    rw [h2] at hox
    simp only [Option.some.injEq] at hox
    have hpp : ∀ p ∈ pre, Pair (tt := tt) tab ops p items[i] := fun p hp => by
      obtain ⟨j, hj, h7, h8⟩ := h6 p hp
      rw [Nat.zero_add] at h8
      refine hpair i j p _ hj h7 hx fun hm => ?_
      have h9 := anc_listed hA hd.back hC i o h2 h3 j hm
      have hjl : j < listed.size := by rw [hsz]; have := (Array.getElem?_eq_some_iff.1 h2).1; omega
      simp [Array.getElem?_eq_getElem hjl] at h8 h9
      rw [h8] at h9
      cases h9
    rw [h4] at hrun
    have h7 := bubble hpp hrun
    rw [runD] at h7
    obtain ⟨r, h8, h9⟩ := Option.bind_eq_some_iff.1 h7
    refine item_ok hT hD hTab (hd.cls i _ hx) h8 hG (by rw [← hox]; exact h2) fun a' w' ρ' hG' => ?_
    refine ih (listed.setIfInBounds i true) _ a' w' ρ' (by simpa using hsz) ?_ ?_ (by rw [h5]; exact h9) hG'
    · rw [h5]
      rw [h4] at hf
      simp at hf ⊢
      omega
    · intro l ol hol hl e he hb
      by_cases hli : l = i
      · subst hli
        rw [h2] at hol
        cases hol
        exact getD_set_true (h3 e he hb)
      · rw [getD_set_ne false (Ne.symm hli)] at hl
        exact getD_set_true (hC l ol hol hl e he hb)
theorem remL_all : ∀ (l : List Item) (n s : Nat), s + l.length ≤ n → remL (Array.replicate n false) s l = l
  | [], n, s, _ => rfl
  | x :: l, n, s, h => by
    have hs : s < n := by simp at h; omega
    simp only [remL]
    rw [show (Array.replicate n false).getD s true = false by simp [hs], remL_all l n (s + 1) (by simp at h; omega)]
    rfl
theorem drawK_ok {R : Type} (hm : P.follows .mixedOrders = true) (hT : TTok P tt) (hD : 6 ≤ P.depth) (hTab : TabOK P tab) {k : St → Option R} {x : R} (hx : drawK tt tab ops σ k = some x) (hG : Good w0 ρ0 mem0 σ a w ρ) {id : Nat} {Q : Exit → Act → World → Prop}
    (hQ : ∀ σ' a' w' ρ', Good w0 ρ0 mem0 σ' a' w' ρ' → k σ' = some x → Q .normal a' w') : (Code.region id ops true).wp P Q a w := by
  unfold drawK at hx
  simp only at hx
  obtain ⟨hok, hx⟩ := u006 hx
  rw [dOps_run] at hx
  obtain ⟨σf, hrun, hk⟩ := Option.bind_eq_some_iff.1 hx
  have hclsD : ∀ o, clsD tt tab σ o ≤ 3 → clsD tt tab σ o = cls tt tab o := fun o h => by
    unfold clsD at h ⊢
    split at h
    · rename_i h4
      split at h
      · split at h <;> omega
      · omega
    · rfl
  generalize hcl : ops.toList.map (clsD tt tab σ) = cl at *
  generalize han : ancs ops.toList [] = an at *
  generalize hcs0 : u162 σ.mem.length cl = cs0 at *
  generalize hcs1 : fixIns (σ.mem.length + u172 cl) ops.toList cs0 = cs1 at *
  generalize hcs : fixCl σ ops.toList an cs1 = cs at *
  have hA : AncOK an ops.toList := by
    rw [← han]
    have := ancs_ok ops.toList [] [] ⟨rfl, fun i o h => by simp at h⟩
    simpa using this
  have hcll : cl.length = ops.size := by rw [← hcl]; simp
  have hcsl0 : cs0.length = ops.size := by rw [← hcs0, ← hcll]; exact u268 cl _
  have hcsl1 : cs1.length = ops.size := by rw [← hcs1]; simp [fixIns, hcsl0]
  have hcsl : cs.length = ops.size := by rw [← hcs]; simp [fixCl, hcsl1]
  simp only [drawOK, Bool.and_eq_true] at hok
  obtain ⟨⟨hno, hback⟩, hpairs⟩ := hok
  have hcs_get0 : ∀ (i : Nat) (o : Oper), ops[i]? = some o → ∃ s, cs0[i]? = some (clsD tt tab σ o, s) := fun i o ho => by
    have h1 := u269 cl σ.mem.length i
    rw [hcs0] at h1
    have h2 : cl[i]? = some (clsD tt tab σ o) := by rw [← hcl, List.getElem?_map]; simp [ho]
    rw [h2] at h1
    obtain ⟨⟨c, s⟩, h3, h4⟩ := Option.map_eq_some_iff.1 h1
    simp only at h4
    subst h4
    exact ⟨s, h3⟩
  have hcs_get : ∀ (i : Nat) (o : Oper), ops[i]? = some o → ∃ c s, cs[i]? = some (c, s) ∧ (c ≤ 3 → c = cls tt tab o) := fun i o ho => by
    obtain ⟨s, h1⟩ := hcs_get0 i o ho
    have h2 : cs1[i]? = some (fixOne (σ.mem.length + u172 cl) ops.toList cs0 o (clsD tt tab σ o, s)) := by
      rw [← hcs1, fixIns, List.getElem?_map]
      have : (ops.toList.zip cs0)[i]? = some (o, (clsD tt tab σ o, s)) := by
        rw [List.getElem?_zip_eq_some]; exact ⟨by simpa using ho, h1⟩
      rw [this]; rfl
    have h3 : (fixOne (σ.mem.length + u172 cl) ops.toList cs0 o (clsD tt tab σ o, s)).1 ≤ 3 → (fixOne (σ.mem.length + u172 cl) ops.toList cs0 o (clsD tt tab σ o, s)).1 = cls tt tab o := by
      have ht : ∀ c : Nat × Nat, (tell c).1 = c.1 := fun c => by
        unfold tell
        cases Nat.ble 5 c.1 <;> rfl
      unfold fixOne
      split
      · split
        · intro h3; simp only at h3; omega
        · rw [ht]; exact hclsD o
      · split
        · intro h3; simp only at h3; omega
        · rw [ht]; exact hclsD o
      · split
        · split
          · split
            · intro h3; simp only at h3; omega
            · rw [ht]; exact hclsD o
          · rw [ht]; exact hclsD o
        · rw [ht]; exact hclsD o
      · rw [ht]; exact hclsD o
    have h4 : cs[i]? = some (clOne σ ops.toList an cs1 i o (fixOne (σ.mem.length + u172 cl) ops.toList cs0 o (clsD tt tab σ o, s))) := by
      rw [← hcs, fixCl, List.getElem?_map, List.getElem?_zipIdx]
      have : (ops.toList.zip cs1)[i]? = some (o, fixOne (σ.mem.length + u172 cl) ops.toList cs0 o (clsD tt tab σ o, s)) := by
        rw [List.getElem?_zip_eq_some]; exact ⟨by simpa using ho, h2⟩
      rw [this]
      simp
    generalize fixOne (σ.mem.length + u172 cl) ops.toList cs0 o (clsD tt tab σ o, s) = q at h3 h4
    have h5 : (clOne σ ops.toList an cs1 i o q).1 ≤ 3 → (clOne σ ops.toList an cs1 i o q).1 = cls tt tab o := by
      unfold clOne
      split
      · split
        · split
          · split
            · cases Nat.beq q.1 4 && crowd an cs1 ops.toList i with
              | true => intro h6; simp only [cond_true] at h6; omega
              | false => exact h3
            · exact h3
          · exact h3
        · exact h3
      · exact h3
    exact ⟨_, _, h4, h5⟩
  have hitem : ∀ (i : Nat) (y : Item), (ops.toList.zip (infos an cs))[i]? = some y → ∃ c s, ops[i]? = some y.1 ∧ cs[i]? = some (c, s) ∧ y.2 = u259 an cs i c s ∧ (c ≤ 3 → c = cls tt tab y.1) := fun i y hy => by
    rw [List.getElem?_zip_eq_some] at hy
    obtain ⟨h1, h2⟩ := hy
    have ho : ops[i]? = some y.1 := by simpa using h1
    obtain ⟨c, s, hs, hcc⟩ := hcs_get i y.1 ho
    refine ⟨c, s, ho, hs, ?_, hcc⟩
    simp only [infos, List.getElem?_map, List.getElem?_zipIdx, hs, Option.map_some, Option.some.injEq] at h2
    rw [← h2, Nat.zero_add]
  have hzip : ∀ (i : Nat) (o : Oper) (c s : Nat), ops[i]? = some o → cs[i]? = some (c, s) → ((o, (c, s)), i) ∈ (ops.toList.zip cs).zipIdx := fun i o c s h1 h2 => by
    rw [List.mk_mem_zipIdx_iff_getElem?, List.getElem?_zip_eq_some]
    exact ⟨by simpa using h1, h2⟩
  have hE : ∀ (i : Nat) (o : Oper), ops[i]? = some o → ∀ e ∈ o.after.toList, Region.binds .any e = true → e.on < i := fun i o ho e he hb => by
    have h1 := List.all_eq_true.1 hback (o, i) (List.mk_mem_zipIdx_iff_getElem?.2 (by simpa using ho))
    have h2 := List.all_eq_true.1 h1 e he
    rw [hb] at h2
    exact Nat.blt_eq.mp (by simpa using h2)
  have hdraw : Draw (tt := tt) tab ops (ops.toList.zip (infos an cs)) := by
    refine ⟨by simp [infos, hcsl], fun i y hy => (hitem i y hy).choose_spec.choose_spec.1, hE, fun i y hy => ?_, an, hA, fun i j y z hji hy hz hnm => ?_⟩
    · obtain ⟨c, s, _, _, h3, h4⟩ := hitem i y hy
      rw [h3]; exact h4
    · obtain ⟨ky, sy, oy, cy, iy, ey⟩ := hitem j y hy
      obtain ⟨kz, sz, oz, cz, iz, ez⟩ := hitem i z hz
      have h1 := List.all_eq_true.1 (List.all_eq_true.1 hpairs _ (hzip j y.1 _ _ oy cy)) _ (hzip i z.1 _ _ oz cz)
      simp only [Bool.or_eq_true, Bool.not_eq_true', Bool.and_eq_true] at h1
      have hb1 : memb j (lget an i) = false := by
        cases hq : memb j (lget an i) with
        | false => rfl
        | true => exact absurd (memb_iff.1 hq) hnm
      have hb2 : memb i (lget an j) = false := by
        cases hq : memb i (lget an j) with
        | false => rfl
        | true => have := anc_lt hA hE j i (memb_iff.1 hq); omega
      have hji2 : Nat.blt j i = true := Nat.blt_eq.mpr hji
      have h2 : y.1.apart ops z.1 = true ∧ okCS ky sy kz sz = true := by
        rcases h1 with (h1 | h1) | h1
        · rw [hji2] at h1; cases h1
        · rw [hb1] at h1; cases h1
        · exact h1
      have hbe1 : u120 an j i = true := by
        have : Nat.beq j i = false := by rw [← Bool.not_eq_true, Nat.beq_eq]; omega
        simp [u120, this, hb1, hb2]
      have hbe2 : u120 an i j = true := by
        have : Nat.beq i j = false := by rw [← Bool.not_eq_true, Nat.beq_eq]; omega
        simp [u120, this, hb1, hb2]
      refine ⟨h2.1, ?_, ?_, ?_, by rw [iy]; exact ey, by rw [iz]; exact ez⟩
      · rw [iy, iz]; exact u288 hbe1 cz
      · rw [iy, iz]; exact u288 hbe2 cy
      · rw [iy, iz]; exact h2.2
  refine wp_region_any hm (draw_any hT hD hTab hdraw (fun a' w' ρ' h => hQ σf a' w' ρ' h hk) ops.size (Array.replicate ops.size false) _ a _ (ρ ++ List.replicate (u172 cl) .none) (by simp) ?_ ?_ (by rw [remL_all _ _ _ (by rw [hdraw.len]; omega)]; exact hrun) ?_)
  · rw [remL_all _ _ _ (by rw [hdraw.len]; omega), hdraw.len]
    exact Nat.le_refl _
  · intro i o _ hl
    rw [getD_replicate_false] at hl
    cases hl
  · have hb : Below w.heap.size w { w with drawn := w.drawn + 1 } := ⟨rfl, rfl, rfl, Nat.le_refl _, fun _ _ => rfl⟩
    have hs1 := u159 hG.inv.wr hb
    have hw1 := wr_below hG.inv.wr hb
    have hs2 := u158 hw1 (u172 cl)
    have hw2 := wr_slots hw1 (u172 cl)
    have hs : Step w ρ σ.mem { w with drawn := w.drawn + 1 } (ρ ++ List.replicate (u172 cl) .none) (σ.mem ++ List.replicate (u172 cl) .dead) (· ∈ ([] : List Nat)) := (hs1.seq hs2).weak fun _ h => h.elim
    exact ⟨hG.inv.upd hw2 hs, hG.step.trans hs (fun _ h => h) (fun _ _ h => by cases h), hG.np⟩
end
end Go.Lv
namespace Go.Lv
open Go.RowKit
section
variable [fr : Fr]
variable {P : Program} {tt : TT} {tab : Tab} {R : Type} {w0 : World} {ρ0 : Rho} {mem0 : Mem}
theorem iter_ok {f : St → (Out → Option R) → Option R} {body : Code}
    (hf : ∀ {σ : St} {a : Act} {w : World} {ρ : Rho} {k : Out → Option R} {x : R}, f σ k = some x → Good w0 ρ0 mem0 σ a w ρ → body.wp P (Post w0 ρ0 mem0 k x) a w) :
    ∀ (n : Nat) {σ : St} {a : Act} {w : World} {ρ : Rho} {k : Out → Option R} {x : R}, iter f n σ k = some x → Good w0 ρ0 mem0 σ a w ρ → Code.rounds P body (Post w0 ρ0 mem0 k x) n a w := by
  intro n
  induction n with
  | zero => intro σ a w ρ k x h _; cases h
  | succ n ih =>
    intro σ a w ρ k x h hG
    rw [rounds_succ]
    simp only [iter] at h
    refine Code.wp_mono (fun e a' w' hp => ?_) (hf h hG)
    obtain ⟨σ', ρ', hG', hp⟩ := hp
    cases e with
    | normal => exact ih hp hG'
    | exit id => exact ⟨σ', ρ', hG', hp⟩
    | ret => exact ⟨σ', ρ', hG', hp⟩
    | _ => exact hp.elim
end
end Go.Lv
namespace Go.Lv
open Go.RowKit
def loadOp (t : TypeId) (a : Tmp) : Oper := { dst := none, op := .load t (.tmp a), type := 0, pos := "", after := #[], guard := none }
def notTup : V → Bool
  | .tup _ => false
  | _ => true
def retK {R : Type} (tt : TT) (tab : Tab) (σ : St) : List ResultVar → (List V → Option R) → Option R
  | [], k => k []
  | .tmp t :: r, k => bif notTup (vget σ.tmps t) then retK tt tab σ r (fun vs => k (vget σ.tmps t :: vs)) else none
  | .cell a t :: r, k => opK tt tab none (loadOp t a) σ fun v _ _ => bif notTup v then retK tt tab σ r (fun vs => k (v :: vs)) else none
def outV : List V → V
  | [v] => v
  | vs => .tup vs
def hsBlks (mem : Mem) : List Nat → List Nat
  | [] => []
  | h :: r => (mget mem h).hs ++ hsBlks mem r
def geL (np : Nat) : List Nat → List Nat
  | [] => []
  | h :: r => bif Nat.ble np h then h :: geL np r else geL np r
def keepOf (np : Nat) (mem : Mem) (v : V) : List Nat :=
  List.range np ++ dedup (geL np (v.hs ++ hsBlks mem (List.range np) ++ hsBlks mem (geL np (v.hs ++ hsBlks mem (List.range np)))))
def okKeep (np : Nat) (mem : Mem) (v : V) (keep : List Nat) : Bool :=
  nodupB keep && keep.all (fun h => (mget mem h).hs.all fun x => memb x keep) && v.hs.all fun x => memb x keep
def finK (tt : TT) (tab : Tab) (rs : List ResultVar) (σ : St) : Option Ret :=
  retK tt tab σ rs fun vs =>
    bif okKeep σ.np σ.mem (outV vs) (keepOf σ.np σ.mem (outV vs)) then
      some ⟨(outV vs).ren (dnH (keepOf σ.np σ.mem (outV vs))), (keepOf σ.np σ.mem (outV vs)).map (fun h => (mget σ.mem h).ren (dnH (keepOf σ.np σ.mem (outV vs)))), σ.killed⟩
    else none
def ini (ntmps : Nat) (args : List V) (mem : Mem) : St := ⟨args ++ List.replicate (ntmps - args.length) .undef, mem, mem.length, []⟩
def run (tt : TT) (tab : Tab) (fn : Func) (c : Code) (fuel : Nat) (args : List V) (mem : Mem) : Option Ret :=
  ev tt tab fuel c (ini fn.ntmps args mem) fun
    | .norm σ => finK tt tab fn.results.toList σ
    | .ret σ => finK tt tab fn.results.toList σ
    | _ => none
mutual
theorem ren_self : ∀ (v : V), v.ren (fun x => x) = v
  | .undef => rfl
  | .any => rfl
  | .bool _ => rfl
  | .int _ _ => rfl
  | .ints _ _ => rfl
  | .bools _ _ => rfl
  | .z0 => rfl
  | .ri _ _ => rfl
  | .rb _ => rfl
  | .rr _ _ => rfl
  | .rl _ _ => rfl
  | .ptr h i o s => rfl
  | .sl h o n => rfl
  | .asl h o s n => rfl
  | .map h => rfl
  | .agg vs => by simp only [V.ren]; rw [u145 vs]
  | .rv vs => by simp only [V.ren]; rw [u145 vs]
  | .tup vs => by simp only [V.ren]; rw [u145 vs]
  | .rp c i o s => by simp only [V.ren]; rw [ren_self c]
  | .fn k x y => by simp only [V.ren]; rw [u145 x, u145 y]
theorem u145 : ∀ (vs : List V), V.renL (fun x => x) vs = vs
  | [] => rfl
  | v :: r => by simp only [V.renL]; rw [ren_self v, u145 r]
end
section
variable [fr : Fr] {P : Program} {tt : TT} {tab : Tab} {w0 : World} {ρ0 : Rho} {mem0 : Mem} {σ : St} {a : Act} {w : World} {ρ : Rho}
theorem VR1_notTup {mem : Mem} {v : V} {r : Value} (h : VR w ρ mem v r) (hn : notTup v = true) : VR1 w ρ mem v r := by
  cases v <;> first | exact h | cases hn
theorem mapM_run {α : Type} {f : α → Sem Value} : ∀ {l : List α} {rs : List Value}, All2 (fun x r => (f x).run P w = .ok r w) l rs → (l.mapM f).run P w = .ok rs w := by
  intro l rs h
  induction h with
  | nil => simp
  | cons hp _ ih => simp [List.mapM_cons, Sem.run_bind, hp, ih]
def resF (a : Act) : ResultVar → Sem Value
  | .tmp t => pure (a.tmps.getD t Go.undef)
  | .cell b t => do loadVar t (← asAddr (a.tmps.getD b Go.undef))
theorem results_eq (fn : Func) (a : Act) : results fn a.tmps = (do let vs ← fn.results.mapM (resF a); pure (if h : vs.size = 1 then vs[0] else .tuple vs)) := rfl
theorem retK_ok (hT : TTok P tt) (hI : Inv σ a w ρ) : ∀ {l : List ResultVar} {R : Type} {k : List V → Option R} {x : R}, retK tt tab σ l k = some x →
    ∃ vs rs, k vs = some x ∧ All2 (VR1 w ρ σ.mem) vs rs ∧ All2 (fun (v : ResultVar) r => (resF a v).run P w = .ok r w) l rs := by
  intro l
  induction l with
  | nil => intro R k x h; exact ⟨[], [], h, .nil, .nil⟩
  | cons v l ih =>
    intro R k x h
    cases v with
    | tmp t =>
      simp only [retK] at h
      obtain ⟨hn, h⟩ := u006 h
      obtain ⟨vs, rs, h1, h2, h3⟩ := ih h
      exact ⟨_, _, h1, .cons (VR1_notTup (hI.tmp t) hn) h2, .cons rfl h3⟩
    | cell b t =>
      simp only [retK] at h
      obtain ⟨u, r, h1, h2, h3⟩ := load_ok hT (o := loadOp t b) rfl hI h
      obtain ⟨hn, h1⟩ := u006 h1
      obtain ⟨vs, rs, h4, h5, h6⟩ := ih h1
      refine ⟨_, _, h4, .cons (VR1_notTup h3 hn) h5, .cons ?_ h6⟩
      have hv := hI.tmp b
      have he : ∃ ad, a.tmps.getD b Go.undef = .pointer (some ad) := by
        unfold opK at h
        simp only [loadOp] at h
        split at h
        case h_2 => cases h
        split at h
        · rename_i hh i o s he
          have he : vget σ.tmps b = .ptr hh i o s := he
          rw [he] at hv
          rcases hv with ⟨_, _, _, _, _, hr, _⟩ | ⟨_, _, _, _, _, _, _, hr, _⟩ <;> exact ⟨_, hr⟩
        · rename_i c i o s he
          have he : vget σ.tmps b = .rp c i o s := he
          rw [he] at hv
          obtain ⟨_, _, _, hr, _⟩ := hv
          exact ⟨_, hr⟩
        · cases h
      obtain ⟨ad, he⟩ := he
      have h7 : (do pure (Next.value (← Instr.loadAt t (a.tmps.getD b Go.undef))) : Sem Next).run P w = .ok (.value r) w := h2
      rw [he] at h7
      show ((do loadVar t (← asAddr (a.tmps.getD b Go.undef))) : Sem Value).run P w = .ok r w
      rw [he]
      have h8 : (loadVar t ad).run P w = .ok r w := by
        simp only [Instr.loadAt, Instr.sureAddr, Sem.run_bind, Sem.run_pure, Result.andThen_ok] at h7
        cases hl : (loadVar t ad).run P w with
        | ok v w' =>
          rw [hl] at h7
          simp only [Result.andThen_ok, Result.ok.injEq, Next.value.injEq] at h7
          rw [h7.1, h7.2]
        | halt x w' => rw [hl] at h7; cases h7
      simp only [Sem.run_bind, asAddr, Sem.run_pure, Result.andThen_ok, h8]
theorem results_ok {fn : Func} {vs : List V} {rs : List Value} (h1 : All2 (VR1 w ρ σ.mem) vs rs) (h2 : All2 (fun (v : ResultVar) r => (resF a v).run P w = .ok r w) fn.results.toList rs) :
    ∃ r, (results fn a.tmps).run P w = .ok r w ∧ VR w ρ σ.mem (outV vs) r := by
  have hm : (fn.results.mapM (resF a)).run P w = .ok rs.toArray w := by
    rw [← Array.toArray_toList (xs := fn.results), List.mapM_toArray]
    simp [mapM_run h2]
  rw [results_eq, Sem.run_bind, hm]
  refine ⟨if h : rs.toArray.size = 1 then rs.toArray[0] else .tuple rs.toArray, ?_, ?_⟩
  · rfl
  · cases h1 with
    | nil => simp; exact ⟨[], rfl, .nil⟩
    | cons hp hr =>
      cases hr with
      | nil => simp; exact u080 hp
      | cons hp2 hr2 => simp [outV]; exact ⟨_, rfl, .cons hp (.cons hp2 hr2)⟩
end
end Go.Lv
namespace Go.Lv
open Go.RowKit
theorem shape_ren' {g : Nat → Nat} {b c : Blk} (h : Shape b c) : Shape b (c.ren g) := by
  cases b with
  | dead => trivial
  | var n x => obtain ⟨y, rfl⟩ := h; exact ⟨_, rfl⟩
  | vec e x => obtain ⟨y, rfl, h1, h2⟩ := h; exact ⟨_, rfl, by rw [u207, h1], by rw [u164]; exact h2⟩
  | map k => obtain ⟨y, rfl⟩ := h; exact ⟨_, rfl⟩
def Fit (args : List V) (mem : Mem) : Prop := ∃ (fr : Fr) (w : World) (ρ : Rho) (reals : List Value), WR w ρ mem ∧ All2 (VR w ρ mem) args reals
section
variable {P : Program} {tt : TT} {tab : Tab}
theorem fin_ok (fr : Fr) (hT : TTok P tt) {w0 w : World} {ρ0 ρ : Rho} {mem0 : Mem} {σ : St} {a : Act} (hG : Good w0 ρ0 mem0 σ a w ρ) {fn : Func} {ret : Ret} (h : finK tt tab fn.results.toList σ = some ret) :
    ∃ r ρ', (results fn a.tmps).run P w = .ok r w ∧ VR w ρ' ret.blks ret.v r ∧ WR w ρ' ret.blks ∧ Step w0 ρ0 mem0 w ρ' ret.blks (· ∈ ret.kills) := by
  unfold finK at h
  obtain ⟨vs, rs, h1, h2, h3⟩ := retK_ok hT hG.inv h
  obtain ⟨hok, h1⟩ := u006 h1
  obtain ⟨r, hr, hv⟩ := results_ok h2 h3
  generalize hk : keepOf σ.np σ.mem (outV vs) = keep at *
  simp only [Option.some.injEq] at h1
  subst h1
  have hm : ∀ (n : Nat) (l : List Nat), memb n l = true ↔ n ∈ l := fun n l => memb_iff
  simp only [okKeep, Bool.and_eq_true, List.all_eq_true] at hok
  obtain ⟨⟨hnd, hcl⟩, hvk⟩ := hok
  have hnd := u146 hnd
  have hf : frD fr ρ σ.mem keep (List.range σ.mem.length) fr := fun r => ⟨.inl, fun h => by
    rcases h with h | ⟨x, rl, _, hl, _, _, hx⟩
    · exact h
    · exact absurd (List.mem_range.2 (u068 hl)) hx⟩
  have hw := wr_down fr fr hf hG.inv.wr hnd fun x hx y hy => (hm y keep).1 (hcl x hx y hy)
  have hR := rn_down fr fr hf hG.inv.wr
  refine ⟨r, rhoD ρ keep, hr, VR_ren hR (fun x hx => (hm x keep).1 (hvk x hx)) (fun _ => trivial) hv, hw, ?_⟩
  refine ⟨hG.step.os, hG.step.tape, hG.step.output, hG.step.size, fun r hr hn => ?_, fun x rl hx hl hnk => ?_, hG.step.drawn⟩
  · obtain ⟨g1, g2⟩ := hG.step.old r hr hn
    refine ⟨g1, fun hlb => ?_⟩
    obtain ⟨y, rl, _, k1, k2, k3⟩ := u254 fr hG.inv.wr (hs := keep) hlb
    exact g2 ⟨y, rl, k1, k2, k3⟩
  · obtain ⟨g1, g2⟩ := hG.step.hp x rl hx hl hnk
    have hlt : x < σ.np := by rw [← hG.np]; exact (List.getElem?_eq_some_iff.1 hx).1
    have hkx : keep[x]? = some x := by
      rw [← hk, keepOf, List.getElem?_append_left (by simpa using hlt)]
      simp [hlt]
    exact ⟨by rw [u135 x x hkx, g1]; rfl, by
      show Shape _ (mget (memD σ.mem keep) x)
      rw [u103 x x hkx]; exact shape_ren' g2⟩
end
end Go.Lv
namespace Go.Lv
def ivB (k : IntKind) : List Value → List Int → Bool
  | [], [] => true
  | .int k' x :: r, y :: s => decide (k' = k) && decide (x = y) && ivB k r s
  | _, _ => false
def bvB : List Value → List Bool → Bool
  | [], [] => true
  | .bool x :: r, y :: s => (x == y) && bvB r s
  | _, _ => false
def oneB (r : Value) (v : V) : Bool :=
  match v, r with
  | .bool b, .bool c => b == c
  | .int k n, .int k' n' => decide (k' = k) && decide (n' = n)
  | .z0, .slice none 0 0 => true
  | _, _ => false
def vvB : List Value → List V → Bool
  | [], [] => true
  | r :: rs, v :: vs => oneB r v && vvB rs vs
  | _, _ => false
theorem ivB_ok {k : IntKind} : ∀ {rs : List Value} {xs : List Int}, ivB k rs xs = true → rs = iv k xs := by
  intro rs
  induction rs with
  | nil => intro xs h; cases xs with
    | nil => rfl
    | cons => cases h
  | cons v r ih =>
    intro xs h
    unfold ivB at h
    split at h
    · rename_i h1; cases h1
    · rename_i h1
      cases h1
      simp only [Bool.and_eq_true, decide_eq_true_eq] at h
      obtain ⟨⟨rfl, rfl⟩, h⟩ := h
      rw [ih h]; rfl
    · cases h
theorem bvB_ok : ∀ {rs : List Value} {xs : List Bool}, bvB rs xs = true → rs = bv xs := by
  intro rs
  induction rs with
  | nil => intro xs h; cases xs with
    | nil => rfl
    | cons => cases h
  | cons v r ih =>
    intro xs h
    unfold bvB at h
    split at h
    · rename_i h1; cases h1
    · rename_i h1
      cases h1
      simp only [Bool.and_eq_true, beq_iff_eq] at h
      obtain ⟨rfl, h⟩ := h
      rw [ih h]; rfl
    · cases h
def zB (z : V) (r : Value) : Bool :=
  match z with
  | .bool _ | .int _ _ | .z0 => oneB r z
  | .ints n xs => Nat.beq xs.length n && (match r with
    | .agg rs => ivB .i64 rs.toList xs
    | _ => false)
  | .bools n xs => Nat.beq xs.length n && (match r with
    | .agg rs => bvB rs.toList xs
    | _ => false)
  | .agg vs => match r with
    | .agg rs => vvB rs.toList vs
    | _ => false
  | .any => r.oneCell'
  | _ => false
theorem vvB_ok : ∀ {rs : List Value} {vs : List V}, vvB rs vs = true → All2 (fun v r => match v with
      | .bool b => r = .bool b
      | .int k n => r = .int k n
      | .z0 => r = .slice none 0 0
      | _ => False) vs rs := by
  intro rs
  induction rs with
  | nil => intro vs h; cases vs with
    | nil => exact .nil
    | cons => cases h
  | cons r rs ih =>
    intro vs h
    cases vs with
    | nil => cases h
    | cons v vs =>
      simp only [vvB, Bool.and_eq_true] at h
      refine .cons ?_ (ih h.2)
      have h1 := h.1
      unfold oneB at h1
      split at h1
      · simp only [beq_iff_eq] at h1; subst h1; rfl
      · simp only [Bool.and_eq_true, decide_eq_true_eq] at h1; obtain ⟨rfl, rfl⟩ := h1; rfl
      · rfl
      · cases h1
theorem zB_ok {z : V} {r : Value} (h : zB z r = true) : ZR z r := by
  cases z with
  | bool b =>
    simp only [zB, oneB] at h
    split at h
    · rename_i h1; cases h1; simp only [beq_iff_eq] at h; subst h; rfl
    · rename_i h1; cases h1
    · rename_i h1; cases h1
    · cases h
  | int k n =>
    simp only [zB, oneB] at h
    split at h
    · rename_i h1; cases h1
    · rename_i h1; cases h1; simp only [Bool.and_eq_true, decide_eq_true_eq] at h; obtain ⟨rfl, rfl⟩ := h; rfl
    · rename_i h1; cases h1
    · cases h
  | z0 =>
    simp only [zB, oneB] at h
    split at h
    · rename_i h1; cases h1
    · rename_i h1; cases h1
    · rfl
    · cases h
  | ints n xs =>
    simp only [zB, Bool.and_eq_true] at h
    obtain ⟨h1, h2⟩ := h
    split at h2
    · rename_i rs
      refine ⟨Nat.eq_of_beq_eq_true h1, ?_⟩
      rw [← ivB_ok h2]
    · cases h2
  | bools n xs =>
    simp only [zB, Bool.and_eq_true] at h
    obtain ⟨h1, h2⟩ := h
    split at h2
    · rename_i rs
      refine ⟨Nat.eq_of_beq_eq_true h1, ?_⟩
      rw [← bvB_ok h2]
    · cases h2
  | agg vs =>
    simp only [zB] at h
    split at h
    · rename_i rs
      exact ⟨rs.toList, by simp, vvB_ok h⟩
    · cases h
  | any => exact h
  | _ => cases h
def dB (P : Program) (t : TypeId) (d : D) : Bool :=
  match d, P.underlying t with
  | .bool, some .bool => true
  | .int k, some (.int k') => decide (k' = k)
  | .array n e, some (.array n' e') => Nat.beq n' n && Nat.beq e' e
  | .slice e, some (.slice e') => Nat.beq e' e
  | .map k e, some (.map k' e') => Nat.beq k' k && Nat.beq e' e
  | .struct fs, some (.struct fields) => decide (fields.toList.map (fun (f : Field) => (f.offset, f.type)) = fs) && !P.stoodInHeld t && fields.toList.all fun f => decide (f.name ≠ "_")
  | .other, some (.struct _) => false
  | .other, some (.array _ _) => false
  | .other, some _ => true
  | _, _ => false
theorem dB_ok {P : Program} {t : TypeId} {d : D} (h : dB P t d = true) : DR P t d := by
  unfold dB at h
  split at h
  · assumption
  · rename_i hu; rw [decide_eq_true_eq] at h; subst h; exact hu
  · rename_i hu
    simp only [Bool.and_eq_true] at h
    rw [Nat.eq_of_beq_eq_true h.1, Nat.eq_of_beq_eq_true h.2] at hu
    exact hu
  · rename_i hu
    rw [Nat.eq_of_beq_eq_true h] at hu
    exact hu
  · rename_i hu
    simp only [Bool.and_eq_true] at h
    rw [Nat.eq_of_beq_eq_true h.1, Nat.eq_of_beq_eq_true h.2] at hu
    exact hu
  · rename_i fs fields hu
    simp only [Bool.and_eq_true, decide_eq_true_eq, Bool.not_eq_true', List.all_eq_true] at h
    exact ⟨fields, hu, h.1.1, h.1.2, h.2⟩
  · cases h
  · cases h
  · rename_i u h1 h2 hu
    refine ⟨u, hu, ?_⟩
    cases u <;> first | rfl | exact absurd rfl (h1 _) | exact absurd rfl (h2 _ _)
  · cases h
def tiB (P : Program) (t : TypeId) (ti : TI) : Bool :=
  (match P.info? t with
  | some i => Nat.beq i.size ti.size && Nat.beq i.bytes ti.bytes && (match i.zero with
    | some zv => zB ti.z zv
    | none => false)
  | none => false) && dB P t ti.d && (ti.d.agg || Nat.beq ti.size 1) && Nat.blt 0 ti.size && Nat.beq ti.z.sz ti.size
theorem tiB_ok {P : Program} {t : TypeId} {ti : TI} (h : tiB P t ti = true) : TIok P t ti := by
  simp only [tiB, Bool.and_eq_true, Bool.or_eq_true] at h
  obtain ⟨⟨⟨⟨h1, h2⟩, h3⟩, h4⟩, h5⟩ := h
  refine ⟨?_, dB_ok h2, fun ha => ?_, Nat.blt_eq.mp h4, Nat.eq_of_beq_eq_true h5⟩
  · split at h1
    · rename_i i hi
      simp only [Bool.and_eq_true] at h1
      obtain ⟨⟨g1, g2⟩, g3⟩ := h1
      split at g3
      · rename_i zv hz
        exact ⟨i, hi, Nat.eq_of_beq_eq_true g1, Nat.eq_of_beq_eq_true g2, zv, hz, zB_ok g3⟩
      · cases g3
    · cases h1
  · rcases h3 with h3 | h3
    · rw [ha] at h3; cases h3
    · exact Nat.eq_of_beq_eq_true h3
def ttB (P : Program) : TT → Bool
  | [] => true
  | (t, ti) :: r => tiB P t ti && ttB P r
theorem ttB_ok {P : Program} : ∀ {tt : TT}, ttB P tt = true → TTok P tt
  | [], _, t, ti, hl => by cases hl
  | (u, x) :: r, h, t, ti, hl => by
    simp only [ttB, Bool.and_eq_true] at h
    simp only [look] at hl
    cases hb : Nat.beq u t with
    | true =>
      rw [hb] at hl
      simp only [cond_true, Option.some.injEq] at hl
      subst hl
      rw [← Nat.eq_of_beq_eq_true hb]
      exact tiB_ok h.1
    | false =>
      rw [hb] at hl
      exact ttB_ok h.2 t ti hl
end Go.Lv
namespace Go.Lv
open Go.RowKit
def u000 (f : Func) : Code := f.body.getD .skip
def entQ (tt : TT) (tab : Tab) (fn : Func) (fuel : Nat) : Ent := ⟨[], .quiet, fun args mem => match mem with
  | [] => match run tt tab fn (u000 fn) fuel args [] with
    | some ret => match ret.blks, ret.kills with
      | [], [] => some (true, ret)
      | _, _ => none
    | none => none
  | _ => none⟩
def entF (tt : TT) (tab : Tab) (fn : Func) (fuel : Nat) : Ent := ⟨[], .fresh, fun args mem => match mem with
  | [] => match run tt tab fn (u000 fn) fuel args [] with
    | some ret => match ret.kills with
      | [] => some (true, ret)
      | _ => none
    | none => none
  | _ => none⟩
def entL (tt : TT) (tab : Tab) (own : List Bool) (fn : Func) (fuel : Nat) : Ent := ⟨own, .loud, fun args mem => match run tt tab fn (u000 fn) fuel args mem with
  | some ret => some (true, ret)
  | none => none⟩
def entC (g : List V → Option (Bool × V)) : Ent := ⟨[], .quiet, fun args mem => match mem with
  | [] => match g args with
    | some (c, v) => some (c, ⟨v, [], []⟩)
    | none => none
  | _ => none⟩
section
variable {P : Program} {tt : TT} {tab : Tab}
structure Base (P : Program) (tt : TT) : Prop where
  mixed : P.follows .mixedOrders = true
  types : TTok P tt
  deep : 6 ≤ P.depth
theorem u009 {fn : Func} (h : fn.body.isSome = true) : fn.body = some (u000 fn) := by
  unfold u000
  cases hb : fn.body with
  | none => rw [hb] at h; cases h
  | some c => rfl
theorem u015 : TabOK P [] := fun f ent h => by cases h
theorem u001 {f : FuncId} {ent : Ent} (hm : Meets P f ent) (hf : FunOK P f) (h : TabOK P tab) : TabOK P ((f, ent) :: tab) := by
  intro g e hl
  simp only [look] at hl
  cases hb : Nat.beq f g with
  | true =>
    rw [hb] at hl
    simp only [cond_true, Option.some.injEq] at hl
    subst hl
    rw [← Nat.eq_of_beq_eq_true hb]
    exact ⟨hm, hf⟩
  | false => rw [hb] at hl; exact h g e hl
theorem funOK {f : FuncId} {fn : Func} (hf : P.funcs[f]? = some fn) (hn : (fn.name == "runtime.NumGoroutine") = false) (hb : fn.body.isSome = true) : FunOK P f := ⟨fn, u000 fn, hf, hn, u009 hb⟩
theorem wr_nothing (w : World) : @WR (Fr.of fun _ => False) w [] [] :=
  @WR.mk (Fr.of fun _ => False) w [] [] rfl (fun h rl hh => by simp at hh) (fun h h' rl rl' r hh => by simp at hh) (fun r _ h => h) (fun r h => h.elim)
end
end Go.Lv
namespace Go.Lv
open Go.RowKit
inductive GT where
  | out (o : Out)
  | br (c : Bool) (x y : GT)
  | fail
def GT.run {R : Type} : GT → (Out → Option R) → Option R
  | .out o, k => k o
  | .br c x y, k => bif c then x.run k else y.run k
  | .fail, _ => none
structure NS where
  t : Nat
  e : TypeId
  c : V
structure LoopS where
  n : Nat
  live : List Nat
  nils : List NS
  liveX : List Nat
  nilsX : List NS
  liveR : List Nat
  nilsR : List NS
  kills : List Nat
  g : List V → Mem → Nat → List Nat → GT
abbrev LT := List (Nat × LoopS)
def keyOf : Code → Option Nat
  | .region id _ _ => some id
  | .seq a b => match keyOf a with
    | some n => some n
    | none => keyOf b
  | .cond _ a b => match keyOf a with
    | some n => some n
    | none => keyOf b
  | .block _ b => keyOf b
  | .loop b => keyOf b
  | _ => none
def lookL (LS : LT) : Option Nat → Option LoopS
  | some n => look LS n
  | none => none
def roS (t h off m : Nat) (σ : St) : St :=
  match mget σ.mem h with
  | .vec _ c => bif (c.part off m).okRo then putT (σ.upd (mset σ.mem h .dead) [h]) (some t) (c.part off m) else σ
  | _ => σ
def nilT : List NS → St → St
  | [], σ => σ
  | n :: r, σ => match vget σ.tmps n.t with
    | .z0 => match n.c with
      | .ri k [] => nilT r { σ with tmps := tset σ.tmps n.t (.sl σ.mem.length 0 0), mem := σ.mem ++ [.vec n.e (.ri k [])] }
      | .rb [] => nilT r { σ with tmps := tset σ.tmps n.t (.sl σ.mem.length 0 0), mem := σ.mem ++ [.vec n.e (.rb [])] }
      | .rr m [] => match m with
        | 0 => nilT r σ
        | m + 1 => nilT r { σ with tmps := tset σ.tmps n.t (.sl σ.mem.length 0 0), mem := σ.mem ++ [.vec n.e (.rr (m + 1) [])] }
      | .rv [] => nilT r { σ with tmps := tset σ.tmps n.t (.sl σ.mem.length 0 0), mem := σ.mem ++ [.vec n.e (.rv [])] }
      | .rl k [] => nilT r { σ with tmps := tset σ.tmps n.t (.sl σ.mem.length 0 0), mem := σ.mem ++ [.vec n.e (.rl k [])] }
      | .tup [.ri k []] => nilT r { σ with tmps := tset σ.tmps n.t (.ri k []) }
      | _ => nilT r σ
    | .sl h off m => match n.c with
      | .tup [] => nilT r (roS n.t h off m σ)
      | _ => nilT r σ
    | _ => nilT r σ
def u018 : Nat → Nat → List Nat → List V → List V
  | 0, _, _, _ => []
  | n + 1, i, l :: ls, v :: vs => bif Nat.beq i l then v :: u018 n (i + 1) ls vs else .any :: u018 n (i + 1) (l :: ls) (v :: vs)
  | n + 1, i, _, _ => .any :: u018 n (i + 1) [] []
def valsT (f : Nat → Nat) (tm : List V) : List Nat → List V
  | [] => []
  | l :: ls => (vget tm l).ren f :: valsT f tm ls
def hsT : List Nat → List V → List Nat
  | [], _ => []
  | l :: ls, tm => (vget tm l).hs ++ hsT ls tm
def keepL (np : Nat) (mem : Mem) (hs : List Nat) : List Nat :=
  List.range np ++ dedup (geL np (hs ++ hsBlks mem (List.range np) ++ hsBlks mem (geL np (hs ++ hsBlks mem (List.range np)))))
def okKeepL (np : Nat) (mem : Mem) (hs keep : List Nat) : Bool :=
  nodupB keep && keep.all (fun h => (mget mem h).hs.all fun x => memb x keep) && hs.all fun x => memb x keep
def canonK {R : Type} (n : Nat) (live : List Nat) (nils : List NS) (kills : List Nat) (σ0 : St) (k : List V → Mem → Nat → List Nat → Option R) : Option R :=
  let σ := nilT nils σ0
  let keep := keepL σ.np σ.mem (hsT live σ.tmps)
  bif okKeepL σ.np σ.mem (hsT live σ.tmps) keep && Nat.beq σ.tmps.length n then
    k (valsT (dnH keep) σ.tmps live) (keep.map fun h => (mget σ.mem h).ren (dnH keep)) σ.np (addK σ.np kills σ.killed)
  else none
section
variable [fr : Fr] {P : Program} {tt : TT} {tab : Tab} {w0 : World} {ρ0 : Rho} {mem0 : Mem} {σ : St} {a : Act} {w : World} {ρ : Rho}
theorem u132 {p : V → Value → Prop} {xs : List V} {ys : List Value} (h : All2 p xs ys) {d : Nat} {v : V} (hv : ∀ r, ys[d]? = some r → p v r) : All2 p (tset xs d v) ys := by
  induction h generalizing d with
  | nil => exact .nil
  | cons hp hr ih =>
    cases d with
    | zero => exact .cons (hv _ rfl) hr
    | succ d => exact .cons hp (ih fun r hr => hv r hr)
theorem u233 (h : Good w0 ρ0 mem0 σ a w ρ) {t : Nat} {e : TypeId} {c : V} (hz : vget σ.tmps t = .z0) (hc : ∀ ρ mem, CR w ρ mem c []) (hn : c.cnt = 0) :
    ∃ ρ', Good w0 ρ0 mem0 { σ with tmps := tset σ.tmps t (.sl σ.mem.length 0 0), mem := σ.mem ++ [.vec e c] } a w ρ' := by
  obtain ⟨hI, hS, hnp⟩ := h
  have hv := hI.tmp t
  rw [hz] at hv
  obtain ⟨ad, hr⟩ : ∃ ad, a.tmps.getD t Go.undef = .slice ad 0 0 := hv
  have hlen := hI.wr.len
  have hs := u223 (w' := w) hI.wr (Nat.le_refl _) rfl rfl rfl (fun _ _ => rfl) (rl := .vec ad 0) (b := .vec e c) (fun r hr => by simp [Rl.blk] at hr)
  have hw := wr_new hI.wr hs (fun _ _ => rfl) (fun r hr => by simp [Rl.blk] at hr) (show BlkR w _ _ (.vec e c) (.vec ad 0) from ⟨ad, 0, rfl, by omega, .inl ⟨rfl, hc _ _⟩⟩)
  refine ⟨_, ⟨hI.defers, hw, ?_⟩, hS.trans hs (fun _ h => h) (fun _ _ h => h.elim), hnp⟩
  refine u132 (u026 hI.tmps fun x y _ hp => VR.step hs (fun _ _ h => h) hp) fun r hr' => ?_
  have e1 : r = .slice ad 0 0 := by
    rw [Array.getElem?_toList] at hr'
    rw [Array.getD_eq_getD_getElem?, hr'] at hr
    exact hr
  subst e1
  exact ⟨e, c, ad, 0, by rw [u071, if_pos rfl], by rw [← hlen]; simp, by omega, .inl ⟨rfl, rfl⟩⟩
theorem nil_ri (h : Good w0 ρ0 mem0 σ a w ρ) {t : Nat} {k : IntKind} (hz : vget σ.tmps t = .z0) : Good w0 ρ0 mem0 { σ with tmps := tset σ.tmps t (.ri k []) } a w ρ := by
  obtain ⟨hI, hS, hnp⟩ := h
  have hv := hI.tmp t
  rw [hz] at hv
  obtain ⟨ad, hr⟩ : ∃ ad, a.tmps.getD t Go.undef = .slice ad 0 0 := hv
  refine ⟨⟨hI.defers, hI.wr, ?_⟩, hS, hnp⟩
  refine u132 hI.tmps fun r hr' => ?_
  have e1 : r = .slice ad 0 0 := by
    rw [Array.getElem?_toList] at hr'
    rw [Array.getD_eq_getD_getElem?, hr'] at hr
    exact hr
  subst e1
  exact ⟨ad, 0, rfl, Nat.le_refl _, rfl, fun h => absurd rfl h⟩
theorem ro_good (hG : Good w0 ρ0 mem0 σ a w ρ) {t h off m : Nat} (hz : vget σ.tmps t = .sl h off m) : Good w0 ρ0 mem0 (roS t h off m σ) a w ρ := by
  unfold roS
  split
  case h_2 => exact hG
  rename_i e c hm
  cases hok : (c.part off m).okRo with
  | false => exact hG
  | true =>
    rw [cond_true]
    have hv := hG.inv.tmp t
    rw [hz] at hv
    obtain ⟨v', mem', ks, he, hv', hwr, hst, _⟩ := keep_ok hG.inv.wr hv (k := fun v m ks => some (v, m, ks)) (x := (c.part off m, mset σ.mem h .dead, [h])) (by simp only [keepV, hm, hok, cond_true])
    simp only [Option.some.injEq, Prod.mk.injEq] at he
    obtain ⟨rfl, rfl, rfl⟩ := he
    have hG2 : Good w0 ρ0 mem0 (σ.upd (mset σ.mem h .dead) [h]) a w ρ := hG.put hv' hwr hst none
    refine ⟨⟨hG2.inv.defers, by rw [u136]; exact hG2.inv.wr, ?_⟩, by rw [u136, u180]; exact hG2.step, by rw [putT_np]; exact hG2.np⟩
    rw [u136]
    refine u132 hG2.inv.tmps fun r hr' => ?_
    have e1 : r = a.tmps.getD t Go.undef := by
      rw [Array.getElem?_toList] at hr'
      rw [Array.getD_eq_getD_getElem?, hr']; rfl
    subst e1
    rw [u264]
    exact hv'
theorem u063 : ∀ (l : List NS) {σ : St} {ρ : Rho}, Good w0 ρ0 mem0 σ a w ρ → ∃ ρ', Good w0 ρ0 mem0 (nilT l σ) a w ρ'
  | [], σ, ρ, h => ⟨ρ, h⟩
  | n :: r, σ, ρ, h => by
    simp only [nilT]
    split
    · rename_i hz
      split
      · obtain ⟨ρ', h'⟩ := u233 h (t := n.t) (e := n.e) (c := .ri _ []) hz (fun _ _ => rfl) rfl
        exact u063 r h'
      · obtain ⟨ρ', h'⟩ := u233 h (t := n.t) (e := n.e) (c := .rb []) hz (fun _ _ => rfl) rfl
        exact u063 r h'
      · split
        · exact u063 r h
        · obtain ⟨ρ', h'⟩ := u233 h (t := n.t) (e := n.e) (c := .rr (_ + 1) []) hz (fun _ _ => ⟨⟨by omega, fun _ h => by cases h⟩, rfl⟩) rfl
          exact u063 r h'
      · obtain ⟨ρ', h'⟩ := u233 h (t := n.t) (e := n.e) (c := .rv []) hz (fun _ _ => .nil) rfl
        exact u063 r h'
      · obtain ⟨ρ', h'⟩ := u233 h (t := n.t) (e := n.e) (c := .rl _ []) hz (fun _ _ => .nil) rfl
        exact u063 r h'
      · exact u063 r (nil_ri h hz)
      · exact u063 r h
    · rename_i hz
      split
      · exact u063 r (ro_good h hz)
      · exact u063 r h
    · exact u063 r h
theorem all2_any : ∀ (n : Nat) {i : Nat} {rs : List Value} {p : V → Value → Prop} (hany : ∀ r, p .any r), rs.length = n → All2 p (u018 n i [] []) rs
  | 0, i, rs, p, hany, h => by
    cases rs with
    | nil => exact .nil
    | cons r rs => cases h
  | n + 1, i, rs, p, hany, h => by
    cases rs with
    | nil => cases h
    | cons r rs => exact .cons (hany _) (all2_any n hany (by simpa using h))
theorem expand_ok {p : V → Value → Prop} (hany : ∀ r, p .any r) {f : Nat → Nat} {tm : List V} : ∀ (n : Nat) {rs : List Value} (i : Nat) (live : List Nat), rs.length = n →
    (∀ j r, j ∈ live → i ≤ j → rs[j - i]? = some r → p ((vget tm j).ren f) r) → All2 p (u018 n i live (valsT f tm live)) rs
  | 0, rs, i, live, h, _ => by
    cases rs with
    | nil => unfold u018; exact .nil
    | cons r rs => cases h
  | n + 1, [], i, live, h, _ => by cases h
  | n + 1, r :: rs, i, [], h, hl => by
    simp only [valsT, u018]
    exact .cons (hany _) (all2_any n hany (by simpa using h))
  | n + 1, r :: rs, i, l :: ls, h, hl => by
    simp only [valsT, u018]
    have hlen : rs.length = n := by simpa using h
    by_cases hb : i = l
    · subst hb
      rw [show Nat.beq i i = true from Nat.beq_refl i]
      simp only [cond_true]
      refine .cons (hl i r (by simp) (Nat.le_refl _) (by simp)) (expand_ok hany n (i + 1) ls hlen fun j q hj hij hq => hl j q (by simp [hj]) (by omega) ?_)
      rw [show j - i = (j - (i + 1)) + 1 by omega]; simpa using hq
    · rw [show Nat.beq i l = false by rw [← Bool.not_eq_true, Nat.beq_eq]; exact hb]
      simp only [cond_false]
      refine .cons (hany _) ?_
      have := expand_ok (f := f) (tm := tm) hany n (i + 1) (l :: ls) hlen fun j q hj hij hq => hl j q hj (by omega) (by
        rw [show j - i = (j - (i + 1)) + 1 by omega]; simpa using hq)
      simpa only [valsT] using this
theorem hsT_mem {live : List Nat} {tm : List V} {j : Nat} (hj : j ∈ live) {x : Nat} (hx : x ∈ (vget tm j).hs) : x ∈ hsT live tm := by
  induction live with
  | nil => cases hj
  | cons l ls ih =>
    simp only [hsT, List.mem_append]
    cases hj with
    | head => exact .inl hx
    | tail _ h => exact .inr (ih h)
theorem u173 {R : Type} {n : Nat} {live : List Nat} {nils : List NS} {kills : List Nat} {σ0 : St} (h0 : Good w0 ρ0 mem0 σ0 a w ρ) {k : List V → Mem → Nat → List Nat → Option R} {x : R} (hc : canonK n live nils kills σ0 k = some x) :
    ∃ vals mem np killed ρ', k vals mem np killed = some x ∧ Good w0 ρ0 mem0 ⟨u018 n 0 live vals, mem, np, killed⟩ a w ρ' := by
  obtain ⟨ρ, h⟩ := u063 nils h0
  unfold canonK at hc
  simp only at hc
  generalize nilT nils σ0 = σ at *
  obtain ⟨hok, hc⟩ := u006 hc
  simp only [Bool.and_eq_true] at hok
  obtain ⟨hok, hn⟩ := hok
  have hn : σ.tmps.length = n := Nat.eq_of_beq_eq_true hn
  generalize hk : keepL σ.np σ.mem (hsT live σ.tmps) = keep at *
  refine ⟨_, _, _, _, rhoD ρ keep, hc, ?_⟩
  have hm : ∀ (n : Nat) (l : List Nat), memb n l = true ↔ n ∈ l := fun n l => memb_iff
  simp only [okKeepL, Bool.and_eq_true, List.all_eq_true] at hok
  obtain ⟨⟨hnd, hcl⟩, hvk⟩ := hok
  have hnd := u146 hnd
  have hf : frD fr ρ σ.mem keep (List.range σ.mem.length) fr := fun r => ⟨.inl, fun h => by
    rcases h with h | ⟨x, rl, _, hl, _, _, hx⟩
    · exact h
    · exact absurd (List.mem_range.2 (u068 hl)) hx⟩
  have hw := wr_down fr fr hf h.inv.wr hnd fun x hx y hy => (hm y keep).1 (hcl x hx y hy)
  have hR := rn_down fr fr hf h.inv.wr
  refine ⟨⟨h.inv.defers, hw, ?_⟩, ?_, h.np⟩
  · refine expand_ok (p := VR w (rhoD ρ keep) (memD σ.mem keep)) (fun _ => trivial) n 0 live (by rw [← hn]; exact (u043 h.inv.tmps).symm) fun j r hj _ hr => ?_
    have hp := h.inv.tmp j
    have e1 : a.tmps.getD j Go.undef = r := by
      have hr : a.tmps.toList[j]? = some r := by simpa using hr
      rw [Array.getElem?_toList] at hr
      rw [Array.getD_eq_getD_getElem?, hr]; rfl
    rw [e1] at hp
    exact VR_ren hR (fun x hx => (hm x keep).1 (hvk x (hsT_mem hj hx))) (fun _ => trivial) hp
  · refine ⟨h.step.os, h.step.tape, h.step.output, h.step.size, fun r hr hn => ?_, fun x rl hx hl hnk => ?_, h.step.drawn⟩
    · obtain ⟨g1, g2⟩ := h.step.old r hr hn
      refine ⟨g1, fun hlb => ?_⟩
      obtain ⟨y, rl, _, k1, k2, k3⟩ := u254 fr h.inv.wr (hs := keep) hlb
      exact g2 ⟨y, rl, k1, k2, k3⟩
    · obtain ⟨g1, g2⟩ := h.step.hp x rl hx hl fun hk => hnk (mem_addK.2 (.inl hk))
      have hlt : x < σ.np := by rw [← h.np]; exact (List.getElem?_eq_some_iff.1 hx).1
      have hkx : keep[x]? = some x := by
        rw [← hk, keepL, List.getElem?_append_left (by simpa using hlt)]
        simp [hlt]
      exact ⟨by rw [u135 x x hkx, g1]; rfl, by
        show Shape _ (mget (memD σ.mem keep) x)
        rw [u103 x x hkx]; exact shape_ren' g2⟩
end
section
variable {R : Type}
variable (tt : TT) (tab : Tab) (LS : LT)
def evS (fuel : Nat) : Code → St → (Out → Option R) → Option R
  | .skip, σ, k => k (.norm σ)
  | .label _, σ, k => k (.norm σ)
  | .region _ ops draw, σ, k =>
    bif draw then drawK tt tab ops σ fun σ' => k (.norm σ')
    else opsK tt tab ops ops.toList σ fun σ' => k (.norm σ')
  | .seq a b, σ, k => evS fuel a σ fun
    | .norm σ' => evS fuel b σ' k
    | o => k o
  | .cond c x y, σ, k => match evO σ c with
    | .bool b => bif b then evS fuel x σ k else evS fuel y σ k
    | _ => none
  | .block id body, σ, k => evS fuel body σ fun
    | .exit id' σ' => bif Nat.beq id' id then k (.norm σ') else k (.exit id' σ')
    | o => k o
  | .loop body, σ, k => match lookL LS (keyOf body) with
    | some ls => canonK ls.n ls.live ls.nils ls.kills σ fun vals mem np killed => (ls.g vals mem np killed).run k
    | none => iter (evS fuel body) fuel σ k
  | .exit id, σ, k => k (.exit id σ)
  | .ret, σ, k => k (.ret σ)
  | _, _, _ => none
def stepS (fuel : Nat) (ls : LoopS) (body : Code) (σ : St) (k : Out → Option R) : Option R :=
  evS tt tab LS fuel body σ fun
    | .norm σ' => canonK ls.n ls.live ls.nils ls.kills σ' fun vals mem np killed => k (.norm ⟨u018 ls.n 0 ls.live vals, mem, np, killed⟩)
    | .exit id σ' => canonK ls.n ls.liveX ls.nilsX ls.kills σ' fun vals mem np killed => k (.exit id ⟨u018 ls.n 0 ls.liveX vals, mem, np, killed⟩)
    | .ret σ' => canonK ls.n ls.liveR ls.nilsR ls.kills σ' fun vals mem np killed => k (.ret ⟨u018 ls.n 0 ls.liveR vals, mem, np, killed⟩)
def iterS (fuel : Nat) (ls : LoopS) (body : Code) : Nat → St → (Out → Option R) → Option R
  | 0, _, _ => none
  | n + 1, σ, k => stepS tt tab LS fuel ls body σ fun
    | .norm σ' => iterS fuel ls body n σ' k
    | o => k o
def u055 : Code → List Code
  | .seq a b => u055 a ++ u055 b
  | .cond _ a b => u055 a ++ u055 b
  | .block _ b => u055 b
  | .loop b => b :: u055 b
  | _ => []
end
def u041 (P : Program) (body : Code) (ls : LoopS) : Prop :=
  ∀ (fr : Fr) (w0 : World) (ρ0 : Rho) (mem0 : Mem) (R : Type) (vals : List V) (mem : Mem) (np : Nat) (killed : List Nat) (a : Act) (w : World) (ρ : Rho) (k : Out → Option R) (x : R),
    (ls.g vals mem np killed).run k = some x → @Good fr w0 ρ0 mem0 ⟨u018 ls.n 0 ls.live vals, mem, np, killed⟩ a w ρ → (Code.loop body).wp P (@Post fr R w0 ρ0 mem0 k x) a w
def u011 (P : Program) (LS : LT) (c : Code) : Prop := ∀ body ∈ u055 c, ∀ ls, lookL LS (keyOf body) = some ls → u041 P body ls
section
variable [fr : Fr]
variable {P : Program} {tt : TT} {tab : Tab} {LS : LT} {R : Type} {w0 : World} {ρ0 : Rho} {mem0 : Mem}
theorem evS_ok (hm : P.follows .mixedOrders = true) (hT : TTok P tt) (hD : 6 ≤ P.depth) (hTab : TabOK P tab) (fuel : Nat) : ∀ (c : Code) (hL : u011 P LS c) {R : Type} {σ : St} {a : Act} {w : World} {ρ : Rho} {k : Out → Option R} {x : R},
    evS tt tab LS fuel c σ k = some x → Good w0 ρ0 mem0 σ a w ρ → c.wp P (Post w0 ρ0 mem0 k x) a w := by
  intro c
  induction c with
  | skip => intro hL R σ a w ρ k x h hG; exact wp_skip ⟨σ, ρ, hG, h⟩
  | label l => intro hL R σ a w ρ k x h hG; exact wp_label ⟨σ, ρ, hG, h⟩
  | region id ops draw =>
    intro hL R σ a w ρ k x h hG
    cases draw with
    | true => exact drawK_ok hm hT hD hTab h hG fun σ' a' w' ρ' g1 g2 => ⟨σ', ρ', g1, g2⟩
    | false => exact wp_region_list (opsK_ok hT hD hTab h hG _ fun σ' a' w' ρ' g1 g2 => ⟨σ', ρ', g1, g2⟩)
  | seq x y ihx ihy =>
    intro hL R σ a w ρ k r h hG
    simp only [evS] at h
    have hLx : u011 P LS x := fun b hb => hL b (by simp [u055, hb])
    have hLy : u011 P LS y := fun b hb => hL b (by simp [u055, hb])
    refine wp_seq (Code.wp_mono (fun e a' w' hp => ?_) (ihx hLx h hG))
    obtain ⟨σ', ρ', hG', hp⟩ := hp
    cases e with
    | normal => exact ihy hLy hp hG'
    | exit id => exact ⟨σ', ρ', hG', hp⟩
    | ret => exact ⟨σ', ρ', hG', hp⟩
    | _ => exact hp.elim
  | cond c x y ihx ihy =>
    intro hL R σ a w ρ k r h hG
    simp only [evS] at h
    have hLx : u011 P LS x := fun b hb => hL b (by simp [u055, hb])
    have hLy : u011 P LS y := fun b hb => hL b (by simp [u055, hb])
    split at h
    · rename_i b hb
      have hv := hG.inv.op c
      rw [hb] at hv
      have hv : a.eval c = .bool b := hv
      cases b with
      | true => exact wp_cond hv (ihx hLx h hG)
      | false => exact wp_cond hv (ihy hLy h hG)
    · cases h
  | block id body ih =>
    intro hL R σ a w ρ k r h hG
    simp only [evS] at h
    refine wp_block (Code.wp_mono (fun e a' w' hp => ?_) (ih hL h hG))
    obtain ⟨σ', ρ', hG', hp⟩ := hp
    cases e with
    | normal => exact ⟨σ', ρ', hG', hp⟩
    | exit id' =>
      simp only at hp
      by_cases hid : id' = id
      · subst hid
        rw [show Nat.beq id' id' = true from Nat.beq_refl id'] at hp
        simp only [Exit.inBlock, if_true]
        exact ⟨σ', ρ', hG', hp⟩
      · have : Nat.beq id' id = false := by rw [← Bool.not_eq_true, Nat.beq_eq]; exact hid
        rw [this] at hp
        simp only [Exit.inBlock, hid, if_false]
        exact ⟨σ', ρ', hG', hp⟩
    | ret => exact ⟨σ', ρ', hG', hp⟩
    | _ => exact hp.elim
  | loop body ih =>
    intro hL R σ a w ρ k r h hG
    simp only [evS] at h
    have hLb : u011 P LS body := fun b hb => hL b (by simp [u055, hb])
    split at h
    · rename_i ls hls
      obtain ⟨vals, mem, np, killed, ρ', h, hG'⟩ := u173 hG h
      exact hL body (by simp [u055]) ls hls fr w0 ρ0 mem0 _ vals mem np killed a w ρ' k r h hG'
    · exact wp_loop_rounds fuel (iter_ok (fun h hG => ih hLb h hG) fuel h hG)
  | exit id => intro hL R σ a w ρ k x h hG; exact wp_exit ⟨σ, ρ, hG, h⟩
  | ret => intro hL R σ a w ρ k x h hG; exact wp_ret ⟨σ, ρ, hG, h⟩
  | _ => intro hL R σ a w ρ k x h hG; cases h
theorem iterS_ok (hm : P.follows .mixedOrders = true) (hT : TTok P tt) (hD : 6 ≤ P.depth) (hTab : TabOK P tab) (fuel : Nat) {body : Code} (hL : u011 P LS body) {ls : LoopS} :
    ∀ (n : Nat) {R : Type} {σ : St} {a : Act} {w : World} {ρ : Rho} {k : Out → Option R} {x : R}, iterS tt tab LS fuel ls body n σ k = some x → Good w0 ρ0 mem0 σ a w ρ → Code.rounds P body (Post w0 ρ0 mem0 k x) n a w := by
  intro n
  induction n with
  | zero => intro R σ a w ρ k x h _; cases h
  | succ n ih =>
    intro R σ a w ρ k x h hG
    rw [rounds_succ]
    simp only [iterS, stepS] at h
    refine Code.wp_mono (fun e a' w' hp => ?_) (evS_ok hm hT hD hTab fuel body hL h hG)
    obtain ⟨σ', ρ', hG', hp⟩ := hp
    cases e with
    | normal =>
      obtain ⟨vals, mem, np, killed, ρ'', hp, hG''⟩ := u173 hG' hp
      exact ih hp hG''
    | exit id =>
      obtain ⟨vals, mem, np, killed, ρ'', hp, hG''⟩ := u173 hG' hp
      exact ⟨_, ρ'', hG'', hp⟩
    | ret =>
      obtain ⟨vals, mem, np, killed, ρ'', hp, hG''⟩ := u173 hG' hp
      exact ⟨_, ρ'', hG'', hp⟩
    | _ => exact hp.elim
end
theorem u019 {P : Program} {tt : TT} {tab : Tab} {LS : LT} (hm : P.follows .mixedOrders = true) (hT : TTok P tt) (hD : 6 ≤ P.depth) (hTab : TabOK P tab) {fuel : Nat} {body : Code} (hL : u011 P LS body) {ls : LoopS}
    (h : ∀ (R : Type) (vals : List V) (mem : Mem) (np : Nat) (killed : List Nat) (k : Out → Option R) (x : R), (ls.g vals mem np killed).run k = some x → ∃ n, iterS tt tab LS fuel ls body n ⟨u018 ls.n 0 ls.live vals, mem, np, killed⟩ k = some x) : u041 P body ls := by
  intro fr w0 ρ0 mem0 R vals mem np killed a w ρ k x hr hG
  obtain ⟨n, hn⟩ := h R vals mem np killed k x hr
  exact wp_loop_rounds n (@iterS_ok fr P tt tab LS w0 ρ0 mem0 hm hT hD hTab fuel body hL ls n R _ a w ρ k x hn hG)
def u059 (c : Code) : Bool := (u055 c).all (fun b => (keyOf b).isSome) && nodupB ((u055 c).map fun b => (keyOf b).getD 0)
def u010 (n : Nat) (c : Code) : Code := ((u055 c).find? fun b => match keyOf b with
  | some m => Nat.beq m n
  | none => false).getD .skip
theorem u198 {α : Type} {f : α → Nat} : ∀ {l : List α}, (l.map f).Nodup → ∀ x ∈ l, ∀ y ∈ l, f x = f y → x = y
  | [], _, x, hx, _, _, _ => by cases hx
  | a :: l, h, x, hx, y, hy, e => by
    simp only [List.map_cons, List.nodup_cons, List.mem_map, not_exists, not_and] at h
    rcases List.mem_cons.1 hx with hx1 | hx1
    · rcases List.mem_cons.1 hy with hy1 | hy1
      · rw [hx1, hy1]
      · exact absurd (by rw [← e, hx1]) (h.1 y hy1)
    · rcases List.mem_cons.1 hy with hy1 | hy1
      · exact absurd (by rw [e, hy1]) (h.1 x hx1)
      · exact u198 h.2 x hx1 y hy1 e
theorem loopAt_eq {c : Code} (hk : u059 c = true) {b : Code} (hb : b ∈ u055 c) {n : Nat} (hn : keyOf b = some n) : u010 n c = b := by
  simp only [u059, Bool.and_eq_true, List.all_eq_true] at hk
  obtain ⟨h1, h2⟩ := hk
  have h2 := u146 h2
  unfold u010
  cases hf : (u055 c).find? fun b => match keyOf b with
    | some m => Nat.beq m n
    | none => false with
  | none =>
    have := List.find?_eq_none.1 hf b hb
    rw [hn] at this
    simp at this
  | some b' =>
    have hb' := List.mem_of_find?_eq_some hf
    have hp := List.find?_some hf
    have hs := h1 b' hb'
    cases hk' : keyOf b' with
    | none => rw [hk'] at hs; cases hs
    | some m =>
      rw [hk'] at hp
      have e : m = n := Nat.eq_of_beq_eq_true hp
      exact u198 h2 b' hb' b hb (by rw [hk', hn, e])
theorem loopsOf_trans : ∀ {c b b' : Code}, b ∈ u055 c → b' ∈ u055 b → b' ∈ u055 c := by
  intro c
  induction c with
  | seq x y ihx ihy =>
    intro b b' h h'
    simp only [u055, List.mem_append] at h ⊢
    exact h.imp (fun h => ihx h h') (fun h => ihy h h')
  | cond c x y ihx ihy =>
    intro b b' h h'
    simp only [u055, List.mem_append] at h ⊢
    exact h.imp (fun h => ihx h h') (fun h => ihy h h')
  | block id x ih => intro b b' h h'; exact ih (b := b) h h'
  | loop x ih =>
    intro b b' h h'
    simp only [u055, List.mem_cons] at h ⊢
    rcases h with rfl | h
    · exact .inr h'
    · exact .inr (ih h h')
  | _ => intro b b' h; simp [u055] at h
theorem u005 {P : Program} {c : Code} : u011 P [] c := fun b hb ls h => by
  cases hk : keyOf b <;> rw [hk] at h <;> cases h
theorem u012 {P : Program} {c : Code} {LS : LT} {n : Nat} {ls : LoopS} (hk : u059 c = true) (h : u041 P (u010 n c) ls) (hL : u011 P LS c) : u011 P ((n, ls) :: LS) c := by
  intro b hb ls' hl
  cases hkb : keyOf b with
  | none => rw [hkb] at hl; cases hl
  | some m =>
    rw [hkb] at hl
    simp only [lookL, look] at hl
    cases hq : Nat.beq n m with
    | true =>
      rw [hq] at hl
      simp only [cond_true, Option.some.injEq] at hl
      subst hl
      have e : n = m := Nat.eq_of_beq_eq_true hq
      subst e
      rw [loopAt_eq hk hb hkb] at h
      exact h
    | false =>
      rw [hq] at hl
      exact hL b hb ls' (by rw [hkb]; exact hl)
theorem u016 {P : Program} {c : Code} {LS : LT} (hL : u011 P LS c) (n : Nat) : u011 P LS (u010 n c) := by
  unfold u010
  cases hf : (u055 c).find? fun b => match keyOf b with
    | some m => Nat.beq m n
    | none => false with
  | none => intro b hb; simp [u055] at hb
  | some b => exact fun b' hb' => hL b' (loopsOf_trans (List.mem_of_find?_eq_some hf) hb')
section
variable (tt : TT) (tab : Tab) (LS : LT)
def moreK (kills : List Nat) (σ : St) : St := { σ with killed := addK σ.np kills σ.killed }
def runS (nils : List NS) (kills : List Nat) (fn : Func) (c : Code) (fuel : Nat) (args : List V) (mem : Mem) : Option Ret :=
  evS tt tab LS fuel c (ini fn.ntmps args mem) fun
    | .norm σ => finK tt tab fn.results.toList (moreK kills (nilT nils σ))
    | .ret σ => finK tt tab fn.results.toList (moreK kills (nilT nils σ))
    | _ => none
end
theorem u002 {P : Program} {tt : TT} {tab : Tab} {LS : LT} (hm : P.follows .mixedOrders = true) (hT : TTok P tt) (hD : 6 ≤ P.depth) (hTab : TabOK P tab) {f : FuncId} {ent : Ent} {fn : Func} {c : Code} (hf : P.funcs[f]? = some fn) (hb : fn.body = some c) (hL : u011 P LS c)
    (h : ∀ args mem, Fit args mem → ∀ ret, ent.g args mem = some (true, ret) → ∃ nils kills fuel ret0, runS tt tab LS nils kills fn c fuel args mem = some ret0 ∧ ret0.v = ret.v ∧ ret0.blks = outD ent mem ret ∧ ret0.kills = outK ent ret) : Meets P f ent := by
  intro fr w ρ mem args reals hw ha ret hg
  obtain ⟨nils, kills, fuel, ret0, hrun, e1, e2, e3⟩ := h args mem ⟨fr, w, ρ, reals, hw, ha⟩ ret hg
  refine calls_of_wp hf hb ?_
  have hG : Good w ρ mem (ini fn.ntmps args mem) { tmps := reals.toArray ++ Array.replicate (fn.ntmps - reals.toArray.size) Go.undef, defers := [] } w ρ := by
    refine ⟨⟨rfl, hw, ?_⟩, Step.refl _ _ _ _, hw.len⟩
    show All2 _ (args ++ List.replicate (fn.ntmps - args.length) .undef) _
    rw [Array.toList_append, Array.toList_replicate]
    refine u062 ha ?_
    rw [u043 ha, List.size_toArray]
    generalize fn.ntmps - reals.length = n
    induction n with
    | zero => exact .nil
    | succ n ih => exact .cons (show VR w ρ mem .undef Go.undef from rfl) ih
  refine Code.wp_mono (fun e a' w' hp => ?_) (evS_ok hm hT hD hTab fuel c hL hrun hG)
  obtain ⟨σ, ρ', hG', hp⟩ := hp
  have fin : finK tt tab fn.results.toList (moreK kills (nilT nils σ)) = some ret0 → a'.defers = [] ∧ ∃ v, (results fn a'.tmps).run P w' = .ok v w' ∧ ∃ r ρ'', Ending.returned v = .returned r ∧ VR w' ρ'' (outD ent mem ret) ret.v r ∧ WR w' ρ'' (outD ent mem ret) ∧ Step w ρ mem w' ρ'' (outD ent mem ret) (· ∈ outK ent ret) := fun hfin => by
    obtain ⟨ρ1, hG1⟩ := u063 nils hG'
    have hG2 : Good w ρ mem (moreK kills (nilT nils σ)) a' w' ρ1 := ⟨⟨hG1.inv.defers, hG1.inv.wr, hG1.inv.tmps⟩, hG1.step.weak fun x hk => mem_addK.2 (.inl hk), hG1.np⟩
    obtain ⟨r, ρ'', h1, h2, h3, h4⟩ := fin_ok fr hT hG2 hfin
    rw [e1, e2] at h2
    rw [e2] at h3
    rw [e2, e3] at h4
    exact ⟨hG1.inv.defers, r, h1, r, ρ'', rfl, h2, h3, h4⟩
  cases e with
  | normal => exact fin hp
  | ret => exact fin hp
  | exit id => cases hp
  | _ => exact hp.elim
end Go.Lv
namespace Go.Lv
open Go.RowKit
def loopC {S X Q : Type} (step : (Q : Type) → S → (S → Option Q) → (X → Option Q) → Option Q) : Nat → S → (X → Option Q) → Option Q
  | 0, _, _ => none
  | n + 1, s, kx => step Q s (fun s' => loopC step n s' kx) kx
def u028 {S X : Type} (step : (Q : Type) → S → (S → Option Q) → (X → Option Q) → Option Q) : Prop :=
  ∀ (Q Q' : Type) (s : S) (kn : S → Option Q) (kx : X → Option Q) (h : Q → Option Q'), (step Q s kn kx).bind h = step Q' s (fun s' => (kn s').bind h) (fun x => (kx x).bind h)
theorem u004 {α β : Type} (b : Bool) (x y : Option α) (h : α → Option β) : (bif b then x else y).bind h = bif b then x.bind h else y.bind h := by cases b <;> rfl
theorem u003 {α β : Type} (h : α → Option β) : (none : Option α).bind h = none := rfl
theorem u008 {α β : Type} (a : α) (h : α → Option β) : (some a).bind h = h a := rfl
theorem u067 {α β : Type} (k : α → β) (b : Bool) (x y : α) : k (bif b then x else y) = bif b then k x else k y := by cases b <;> rfl
theorem u014 {α β : Type} [Inhabited α] {o : Option α} (hs : o.isSome = true) (k : α → Option β) : o.bind k = k (o.getD default) := by
  cases o with
  | none => cases hs
  | some a => rfl
section
variable {S X : Type} {step : (Q : Type) → S → (S → Option Q) → (X → Option Q) → Option Q}
theorem loopC_bind (hn : u028 step) {Q Q' : Type} (h : Q → Option Q') : ∀ (n : Nat) (s : S) (kx : X → Option Q), (loopC step n s kx).bind h = loopC step n s (fun x => (kx x).bind h)
  | 0, _, _ => rfl
  | n + 1, s, kx => by
    simp only [loopC]
    rw [hn Q Q']
    exact congrArg (fun kn => step Q' s kn _) (funext fun s' => loopC_bind hn h n s' kx)
theorem u020 [Inhabited X] (hn : u028 step) {n : Nat} {s : S} (hs : (loopC step n s some).isSome = true) {Q : Type} (kx : X → Option Q) : loopC step n s kx = kx ((loopC step n s some).getD default) := by
  rw [← u014 hs kx, loopC_bind hn]
  rfl
end
def nextK {R : Type} (f : St → (Out → Option R) → Option R) (k : Out → Option R) : Out → Option R
  | .norm σ => f σ k
  | .exit i σ => k (.exit i σ)
  | .ret σ => k (.ret σ)
theorem u017 {R : Type} (tt : TT) (tab : Tab) (LS : LT) (fuel : Nat) (ls : LoopS) (body : Code) (n : Nat) (σ : St) (k : Out → Option R) :
    iterS tt tab LS fuel ls body (n + 1) σ k = stepS tt tab LS fuel ls body σ (nextK (iterS tt tab LS fuel ls body n) k) := by
  simp only [iterS]
  refine congrArg _ (funext fun o => ?_)
  cases o <;> rfl
def orEnt (a b : Ent) : Ent := ⟨a.own, a.loud, fun args mem => match a.g args mem with
  | some r => some r
  | none => b.g args mem⟩
theorem u154 {P : Program} {f : FuncId} {a b : Ent} (ha : Meets P f a) (hb : Meets P f b) (hl : a.loud = b.loud) : Meets P f (orEnt a b) := by
  intro fr w ρ mem args reals hw hr ret hg
  simp only [orEnt] at hg
  split at hg
  · rename_i r hr'
    cases hg
    exact ha fr w ρ mem args reals hw hr ret hr'
  · have := hb fr w ρ mem args reals hw hr ret hg
    simp only [outD, outK, orEnt, hl] at this ⊢
    exact this
theorem u007 {R : Type} {b : Bool} {x : Option R} {y : R} (h : (bif b then x else none) = some y) : b = true ∧ x = some y := by
  cases b
  · cases h
  · exact ⟨rfl, h⟩
theorem u013 {a b : Bool} (h : (a && b) = true) : a = true ∧ b = true := by simpa using h
theorem u208 {a b : List Int} (h : (a == b) = true) : a = b := by simpa using h
theorem beq_lb {a b : List Bool} (h : (a == b) = true) : a = b := by simpa using h
theorem u032 {a b : Nat} (h : Nat.beq a b = true) : a = b := Nat.eq_of_beq_eq_true h
end Go.Lv
namespace Go.Lv
def Rng (n : Int) : Prop := (Lit.int .i64 n).wf = true
theorem u044 {n : Int} (h1 : -9223372036854775808 ≤ n) (h2 : n ≤ 9223372036854775807) : IntKind.wrap .i64 n = n := by
  rw [IntKind.wrap_i64]; omega
theorem u047 {i n : Nat} (h : i < n) (hn : n ≤ 4611686018427387904) : IntKind.wrap .i64 ((i : Int) + 1) = ((i + 1 : Nat) : Int) := by
  rw [u044 (by omega) (by omega)]; rfl
theorem u021 (i n : Nat) : inR (i : Int) n = decide (i < n) := by
  show Nat.ble (i + 1) n = _
  by_cases h : i < n
  · rw [Nat.ble_eq_true_of_le h]; simp [h]
  · rw [show Nat.ble (i + 1) n = false from by rw [← Bool.not_eq_true, Nat.ble_eq]; omega]; simp [h]
theorem u111 (i n : Nat) : inLe (i : Int) n = decide (i ≤ n) := by
  show Nat.ble i n = _
  by_cases h : i ≤ n
  · rw [Nat.ble_eq_true_of_le h]; simp [h]
  · rw [show Nat.ble i n = false from by rw [← Bool.not_eq_true, Nat.ble_eq]; exact h]; simp [h]
def fnd {X : Type} (p : Nat → Bool) (f : Nat → X) (e : X) : Nat → Nat → X
  | _, 0 => e
  | i, m + 1 => bif p i then f i else fnd p f e (i + 1) m
def fld {A : Type} (g : Nat → A → A) : Nat → Nat → A → A
  | _, 0, a => a
  | i, m + 1, a => fld g (i + 1) m (g i a)
section
variable {S A X : Type}
theorem u202 {step : (Q : Type) → S → (S → Option Q) → (X → Option Q) → Option Q} {mk : Int → S} {n : Nat} {p : Nat → Bool} {f : Nat → X} {e : X} (hn : n ≤ 4611686018427387904)
    (hs : ∀ i : Nat, i < n → ∀ (Q : Type) kn kx, step Q (mk (i : Int)) kn kx = bif p i then kx (f i) else kn (mk (IntKind.wrap .i64 ((i : Int) + 1))))
    (he : ∀ (Q : Type) kn kx, step Q (mk (n : Int)) kn kx = kx e) : ∀ (m i F : Nat), i + m = n → m < F → ∀ {Q : Type} (kx : X → Option Q), loopC step F (mk (i : Int)) kx = kx (fnd p f e i m)
  | 0, i, F, hi, hF, Q, kx => by
    obtain ⟨G, rfl⟩ : ∃ G, F = G + 1 := ⟨F - 1, by omega⟩
    have : i = n := by omega
    subst this
    simp only [loopC, fnd, he]
  | m + 1, i, F, hi, hF, Q, kx => by
    obtain ⟨G, rfl⟩ : ∃ G, F = G + 1 := ⟨F - 1, by omega⟩
    have hlt : i < n := by omega
    simp only [loopC, fnd, hs i hlt]
    cases p i with
    | true => rfl
    | false =>
      simp only [cond_false]
      rw [u047 hlt hn]
      exact u202 hn hs he m (i + 1) G (by omega) (by omega) kx
theorem u061 {step : (Q : Type) → S → (S → Option Q) → (X → Option Q) → Option Q} (mk : Int → S) (n : Nat) (p : Nat → Bool) (f : Nat → X) (e : X) {F : Nat} (hF : n < F) (hn : n ≤ 4611686018427387904)
    (hs : ∀ i : Nat, i < n → ∀ (Q : Type) kn kx, step Q (mk (i : Int)) kn kx = bif p i then kx (f i) else kn (mk (IntKind.wrap .i64 ((i : Int) + 1))))
    (he : ∀ (Q : Type) kn kx, step Q (mk (n : Int)) kn kx = kx e) : loopC step F (mk 0) some = some (fnd p f e 0 n) :=
  u202 hn hs he n 0 F (by omega) hF some
theorem u201 {step : (Q : Type) → S → (S → Option Q) → (X → Option Q) → Option Q} {mk : Int → A → S} {n : Nat} {g : Nat → A → A} {e : A → X} {I : Nat → A → Prop} (hn : n ≤ 4611686018427387904)
    (hs : ∀ (i : Nat) (a : A), i < n → I i a → I (i + 1) (g i a) ∧ ∀ (Q : Type) kn kx, step Q (mk (i : Int) a) kn kx = kn (mk (IntKind.wrap .i64 ((i : Int) + 1)) (g i a)))
    (he : ∀ (a : A), I n a → ∀ (Q : Type) kn kx, step Q (mk (n : Int) a) kn kx = kx (e a)) : ∀ (m i F : Nat) (a : A), i + m = n → m < F → I i a → I n (fld g i m a) ∧ ∀ {Q : Type} (kx : X → Option Q), loopC step F (mk (i : Int) a) kx = kx (e (fld g i m a))
  | 0, i, F, a, hi, hF, hI => by
    obtain ⟨G, rfl⟩ : ∃ G, F = G + 1 := ⟨F - 1, by omega⟩
    have : i = n := by omega
    subst this
    exact ⟨hI, fun kx => by simp only [loopC, fld, he a hI]⟩
  | m + 1, i, F, a, hi, hF, hI => by
    obtain ⟨G, rfl⟩ : ∃ G, F = G + 1 := ⟨F - 1, by omega⟩
    have hlt : i < n := by omega
    obtain ⟨h1, h2⟩ := hs i a hlt hI
    obtain ⟨h3, h4⟩ := u201 hn hs he m (i + 1) G (g i a) (by omega) (by omega) h1
    refine ⟨h3, fun kx => ?_⟩
    simp only [loopC, fld, h2]
    rw [u047 hlt hn]
    exact h4 kx
theorem u036 {step : (Q : Type) → S → (S → Option Q) → (X → Option Q) → Option Q} (mk : Int → A → S) (n : Nat) (g : Nat → A → A) (e : A → X) (I : Nat → A → Prop) {F : Nat} (hF : n < F) (hn : n ≤ 4611686018427387904) {a : A} (h0 : I 0 a)
    (hs : ∀ (i : Nat) (a : A), i < n → I i a → I (i + 1) (g i a) ∧ ∀ (Q : Type) kn kx, step Q (mk (i : Int) a) kn kx = kn (mk (IntKind.wrap .i64 ((i : Int) + 1)) (g i a)))
    (he : ∀ (a : A), I n a → ∀ (Q : Type) kn kx, step Q (mk (n : Int) a) kn kx = kx (e a)) : loopC step F (mk 0 a) some = some (e (fld g 0 n a)) ∧ I n (fld g 0 n a) :=
  let h := u201 hn hs he n 0 F a (by omega) hF h0
  ⟨h.2 some, h.1⟩
end
theorem fnd_any (p : Nat → Bool) (n : Nat) : fnd p (fun _ => true) false 0 n = (List.range n).any p := by
  have : ∀ m i, fnd p (fun _ => true) false i m = (List.range' i m).any p := by
    intro m
    induction m with
    | zero => intro i; rfl
    | succ m ih =>
      intro i
      simp only [fnd, ih, List.range'_succ, List.any_cons]
      cases p i <;> rfl
  rw [this, List.range_eq_range']
theorem igetL (xs : List Int) (n : Nat) : iget xs n = xs[n]?.getD 0 := by
  induction xs generalizing n with
  | nil => rfl
  | cons a r ih => cases n <;> simp [iget, ih]
theorem rgetL (xs : List (List Int)) (n : Nat) : rget xs n = xs[n]?.getD [] := by
  induction xs generalizing n with
  | nil => rfl
  | cons a r ih => cases n <;> simp [rget, ih]
theorem isetL (xs : List Int) (n : Nat) (x : Int) : iset xs n x = xs.set n x := by
  induction xs generalizing n with
  | nil => rfl
  | cons a r ih => cases n <;> simp [iset, ih]
theorem rsetL (xs : List (List Int)) (n : Nat) (x : List Int) : rset xs n x = xs.set n x := by
  induction xs generalizing n with
  | nil => rfl
  | cons a r ih => cases n <;> simp [rset, ih]
theorem u033 {α : Type} (xs : List α) : subn xs.length xs 0 xs.length = xs := by
  simp [subn]
theorem subn_eqL {α : Type} (n : Nat) (xs : List α) (o s : Nat) (h : xs.length = n) : subn n xs o s = sub xs o s := by
  unfold subn
  by_cases h1 : o = 0 ∧ s = n
  · obtain ⟨rfl, rfl⟩ := h1
    simp [sub, ← h]
  · have : (Nat.beq o 0 && Nat.beq s n) = false := by
      by_cases ho : o = 0
      · subst ho
        have : s ≠ n := fun e => h1 ⟨rfl, e⟩
        rw [show Nat.beq s n = false from by rw [← Bool.not_eq_true, Nat.beq_eq]; exact this, Bool.and_false]
      · rw [show Nat.beq o 0 = false from by rw [← Bool.not_eq_true, Nat.beq_eq]; exact ho, Bool.false_and]
    rw [this]; rfl
theorem u037 (n : Nat) : Nat.beq n n = true := Nat.beq_refl n
theorem u093 {n b : Nat} (h1 : n * b ≤ 140737488355328) (h2 : n ≤ 140737488355328) : fits n b = true := by
  simp [fits, h1, h2]
theorem list16 {b : List Int} (h : b.length = 16) : ∃ x0 x1 x2 x3 x4 x5 x6 x7 x8 x9 x10 x11 x12 x13 x14 x15, b = [x0, x1, x2, x3, x4, x5, x6, x7, x8, x9, x10, x11, x12, x13, x14, x15] := by
  match b, h with
  | [x0, x1, x2, x3, x4, x5, x6, x7, x8, x9, x10, x11, x12, x13, x14, x15], _ => exact ⟨_, _, _, _, _, _, _, _, _, _, _, _, _, _, _, _, rfl⟩
theorem list4 {b : List Int} (h : b.length = 4) : ∃ x0 x1 x2 x3, b = [x0, x1, x2, x3] := by
  match b, h with
  | [x0, x1, x2, x3], _ => exact ⟨_, _, _, _, rfl⟩
theorem list3 {b : List Int} (h : b.length = 3) : ∃ x0 x1 x2, b = [x0, x1, x2] := by
  match b, h with
  | [x0, x1, x2], _ => exact ⟨_, _, _, rfl⟩
theorem list0 {b : List Int} (h : b.length = 0) : b = [] := List.eq_nil_of_length_eq_zero h
theorem list1 {b : List Int} (h : b.length = 1) : ∃ x0, b = [x0] := by
  match b, h with
  | [x0], _ => exact ⟨_, rfl⟩
theorem list2 {b : List Int} (h : b.length = 2) : ∃ x0 x1, b = [x0, x1] := by
  match b, h with
  | [x0, x1], _ => exact ⟨_, _, rfl⟩
def inB (x a b : Int) : Bool := decide (a ≤ x) && decide (x ≤ b)
def okB (b : List Int) : Bool := b.all fun x => inB x 0 17
end Go.Lv
namespace Go.Lv
open Go.RowKit Go.ChangeShapes
section
variable {H : Type} {enc : TypeId × Value → H} {P : Program} {w : World} {base : Nat} {sp : Nat → Bool} {held : Bool} {tt : TT}
def AllI (cs : List Value) : Prop := ∀ c ∈ cs, ∃ k, c = .int .i64 k ∧ Rng k
theorem cells_of (hT : TTok P tt) {t : TypeId} {ti : TI} (h : look tt t = some ti) : P.cellsOf t = ti.size := by
  obtain ⟨i, hi, hs, _⟩ := (hT _ _ h).info
  simp [Program.cellsOf, hi, hs]
end
section
variable {P : Program}
theorem u195 {H : Type} {enc : TypeId × Value → H} (hl : laidOutB P = true) : ∀ {ts : List TypeId}, ts.all (fun t => P.readableRec t && decide (t < P.types.size)) = true → ∀ {W W' : World} {vs : List Value} {ds : List (DataW H)} {ps : List MemPlace},
    DataW.TrodAll enc P W 0 (fun _ => true) true ts vs ds ps → Below W.heap.size W W' → DataW.TrodAll enc P W' 0 (fun b => decide (b < W.heap.size)) true ts vs ds ps
  | [], _, W, W', vs, ds, ps, h, _ => by
    obtain ⟨rfl, rfl, rfl⟩ := trodAll_nil h
    exact trodAll_mk0
  | t :: ts, ht, W, W', vs, ds, ps, h, hb => by
    simp only [List.all_cons, Bool.and_eq_true, decide_eq_true_eq] at ht
    have hlt := DataW.TrodAll.lt h
    obtain ⟨v, vs', d, ds', p, q, rfl, rfl, rfl, h1, h2⟩ := trodAll_cons h
    exact trodAll_cons_mk (Below.trod hl ht.1.1 ht.1.2 h1 hb fun x hx => hlt x (by simp [hx])) (u195 hl (by simpa using ht.2) h2 hb)
end
end Go.Lv
namespace Go.Lv
open Go.RowKit Go.ChangeShapes Go.WideShapes Go.Deep
section
variable {H : Type} {enc : TypeId × Value → H} {P : Program} {w : World} {base : Nat} {sp : Nat → Bool} {held : Bool} {tt : TT}
end
theorem law_calls2 {P : Program} {f : FuncId} {ent : Ent} (hm : Meets P f ent) {args : List V} {reals : List Value} {w : World} (ha : All2 (@VR (Fr.of fun _ => False) w [] []) args reals) {b : Bool} (hg : ent.g args [] = some (true, ⟨.bool b, [], []⟩)) :
    Calls P f reals.toArray w fun e w' => e = .returned (.bool b) ∧ Below w.heap.size w w' := by
  refine Calls.mono (hm (Fr.of fun _ => False) w [] [] args reals (wr_nothing w) ha ⟨.bool b, [], []⟩ hg) fun e w' he => ?_
  obtain ⟨r, ρ', rfl, hv, _, hs⟩ := he
  have hv : r = .bool b := hv
  subst hv
  exact ⟨rfl, hs.os, hs.tape, hs.output, hs.size, fun r hr => (hs.old r hr fun ⟨h, rl, hh, _⟩ => by simp at hh).1⟩
end Go.Lv
namespace Go.Lv
open Go.RowKit Go.ChangeShapes Go.WideShapes Go.Deep
section
variable {H : Type} {enc : TypeId × Value → H} {P : Program} {w : World} {base : Nat} {sp : Nat → Bool} {held : Bool} {tt : TT}
theorem open_bytes (hT : TTok P tt) {t e : TypeId} {z ze : TI} (hl : look tt t = some z) (hd : z.d = .slice e) (hle : look tt e = some ze) (hde : ze.d = .int .u8) (hs : ze.size = 1) {v : Value} {d : DataW H} {ps : List MemPlace} {r : Reach} {b0 : Nat}
    (hval : Value.okWide P w r b0 t v) (h : DataW.Trod enc P w base sp held t v d ps) :
    ∃ xs : List Int, (∀ x ∈ xs, 0 ≤ x ∧ x ≤ 255) ∧ xs.length ≤ 2 ^ 63 - 1 ∧ @VR (Fr.of fun _ => False) w [] [] (.ri .u8 xs) v := by
  have hu : P.underlying t = some (.slice e) := by
    have := (hT _ _ hl).desc
    rw [hd] at this
    exact this
  have hue : P.underlying e = some (.int .u8) := by
    have := (hT _ _ hle).desc
    rw [hde] at this
    exact this
  obtain ⟨a, len, cap, rfl⟩ := okWide_slice hu hval
  obtain ⟨fuel, hf⟩ := h
  have hc : (Value.slice a len cap).cells.toList = [.slice a len cap] := rfl
  rw [hc] at hf
  have hce : P.cellsOf e = 1 := by rw [cells_of hT hle, hs]
  rcases open_slice1 hu hce hf with ⟨h0, _⟩ | ⟨a, len, cap, m, q, V, D, Pl, h0, hb, hlc, hcm, hm, hx, hall⟩
  · simp only [List.cons.injEq, Value.slice.injEq, and_true] at h0
    obtain ⟨rfl, rfl, rfl⟩ := h0
    exact ⟨[], fun xs hx => (by cases hx), Nat.zero_le _, none, 0, rfl, Nat.le_refl 0, (by simp [iv]), fun h => absurd rfl h⟩
  · simp only [List.cons.injEq, Value.slice.injEq, and_true] at h0
    obtain ⟨rfl, rfl, rfl⟩ := h0
    have hlm : len ≤ m := by rw [hm]; split <;> omega
    obtain ⟨X, hX⟩ := choose_lt (α := Int) (n := len) (p := fun i x => w.cell? (a.add i) = some (.int .u8 x) ∧ 0 ≤ x ∧ x ≤ 255) (fun i hi' => by
      obtain ⟨h1, h2⟩ := hall i (by omega)
      obtain ⟨k, hk, _, hw⟩ := DataW.trod_int hue h2
      simp only [List.cons.injEq, and_true] at hk
      rw [hk] at h1
      refine ⟨k, h1, ?_⟩
      simp only [Lit.wf, Bool.and_eq_true, decide_eq_true_eq] at hw
      have e1 : IntKind.min .u8 = 0 := by decide
      have e2 : IntKind.max .u8 = 255 := by decide
      rw [e1, e2] at hw
      exact hw)
    have hmem : ∀ x ∈ (List.range len).map X, 0 ≤ x ∧ x ≤ 255 := fun x hx => by
      obtain ⟨i, hi', rfl⟩ := List.mem_map.1 hx
      exact (hX i (List.mem_range.1 hi')).2
    refine ⟨(List.range len).map X, hmem, by have : cap ≤ 2 ^ 63 - 1 := hcm; simp; omega, some a, cap, ?_, ?_, ?_, fun hne => ?_⟩
    · simp
    · simpa using hlc
    · simp [iv]
    · have hlen : 0 < len := by simp at hne; omega
      obtain ⟨b, off, spot⟩ := a
      have hsp : spot = none := by simpa [Addr.add] using World.cell?_spot (hX 0 hlen).1
      subst hsp
      refine ⟨b, off, rfl, ?_, ?_, fun j v hv => ?_⟩
      · exact ⟨fun ⟨h, rl, hh, _⟩ => (by simp at hh), fun h => h⟩
      · have h0 := (hX 0 hlen).1
        rcases Nat.lt_or_ge b w.heap.size with h | h
        · exact h
        · have : w.heap[b]? = none := Array.getElem?_eq_none h
          simp [World.cell?, Addr.add, this] at h0
      · simp only [iv, List.getElem?_map, Option.map_eq_some_iff] at hv
        obtain ⟨x, ⟨i, hi1, rfl⟩, rfl⟩ := hv
        have hj : j < len := by
          rcases Nat.lt_or_ge j len with h | h
          · exact h
          · rw [List.getElem?_eq_none (by simpa using h)] at hi1; cases hi1
        rw [List.getElem?_range hj] at hi1
        cases hi1
        have h1 := (hX j hj).1
        have ea : (Addr.add ⟨b, off, none⟩ j) = ⟨b, off + j, none⟩ := by
          simp only [Addr.add]
          split
          · simp only [Addr.mk.injEq, and_true, true_and]; omega
          · rfl
        rw [ea] at h1
        exact h1
end
end Go.Lv
