/-
Operations that stand beside each other may change places.
-/
import Derived.Test.YtdcimcciokgdaaaLvR
namespace Go.Lv
set_option linter.unusedVariables false
set_option linter.unusedSimpArgs false
set_option linter.unusedSectionVars false
variable [fr : Fr]

/-! ### memory -/
theorem mem_ext {a b : Mem} (hl : a.length = b.length) (h : ∀ x, mget a x = mget b x) : a = b := by
  induction a generalizing b with
  | nil => cases b with
    | nil => rfl
    | cons c r => simp at hl
  | cons c r ih =>
    cases b with
    | nil => simp at hl
    | cons d s =>
      have h0 : c = d := by simpa [mget] using h 0
      rw [h0, ih (by simpa using hl) fun x => by simpa [mget] using h (x + 1)]

theorem mget_take (m : Mem) (n x : Nat) : mget (m.take n) x = if x < n then mget m x else .dead := by
  induction m generalizing n x with
  | nil => simp [mget]
  | cons c r ih =>
    cases n with
    | zero => simp [mget]
    | succ n => cases x <;> simp [mget, ih]

theorem mset_get (m : Mem) (s x : Nat) (b : Blk) : mget (mset m s b) x = if x = s ∧ s < m.length then b else mget m x := by
  by_cases h : s < m.length
  · rw [mget_mset m s x b h]; simp [h]
  · rw [mset_ge m s b (by omega)]; simp [h]

theorem mask_mset {ms : List Nat} {m : Mem} {s : Nat} {b : Blk} (hs : s ∈ ms) : maskL ms (mset m s b) = maskL ms m := by
  refine mem_ext (by rw [maskL_len, maskL_len, mset_length]) fun x => ?_
  rw [maskL_get, maskL_get, mset_get]
  by_cases hx : x ∈ ms
  · simp [hx]
  · have : x ≠ s := fun e => hx (e ▸ hs)
    simp [hx, this]

theorem mask_take_mset {ms : List Nat} {m : Mem} {s n : Nat} {b : Blk} (hs : s ∈ ms) : maskL ms ((mset m s b).take n) = maskL ms (m.take n) := by
  refine mem_ext (by rw [maskL_len, maskL_len, List.length_take, List.length_take, mset_length]) fun x => ?_
  rw [maskL_get, maskL_get, mget_take, mget_take, mset_get]
  by_cases hx : x ∈ ms
  · simp [hx]
  · have : x ≠ s := fun e => hx (e ▸ hs)
    simp [hx, this]

theorem mset_comm {m : Mem} {s t : Nat} {b c : Blk} (h : s ≠ t) : mset (mset m s b) t c = mset (mset m t c) s b := by
  refine mem_ext (by simp only [mset_length]) fun x => ?_
  simp only [mset_get, mset_length]
  by_cases h1 : x = s
  · subst h1
    have : ¬ x = t := h
    simp [this]
  · simp [h1]

theorem mset_app {m n : Mem} {s : Nat} {b : Blk} (h : s < m.length) : mset (m ++ n) s b = mset m s b ++ n := by
  refine mem_ext (by simp only [mset_length, List.length_append]) fun x => ?_
  simp only [mset_get, mget_app, mset_length, List.length_append]
  by_cases h1 : x = s
  · subst h1
    simp [h]
    omega
  · simp [h1]

section
variable {tt : TT} {tab : Tab} {ops : Array Oper} {n0 : Nat}

abbrev Item := Oper × DI
abbrev Res := V × Mem × List Nat
def stO (tt : TT) (tab : Tab) (ops : Array Oper) (n0 : Nat) (x : Item) (σ : St) : Option Res :=
  guardK ops σ x.1.guard (dOp tt tab n0 x.2 x.1 σ fun v m ks => some (v, m, ks)) (some (.undef, σ.mem, []))
def nxt (x : Item) (σ : St) (r : Res) : St := putT (σ.upd r.2.1 r.2.2) x.1.dst r.1
def runD (tt : TT) (tab : Tab) (ops : Array Oper) (n0 : Nat) : List Item → St → Option St
  | [], σ => some σ
  | x :: l, σ => (stO tt tab ops n0 x σ).bind fun r => runD tt tab ops n0 l (nxt x σ r)

theorem guardK_bind {A B : Type} (σ : St) (g : Option (Nat × Bool)) (a b : Option A) (k : A → Option B) : (guardK ops σ g a b).bind k = guardK ops σ g (a.bind k) (b.bind k) := by
  unfold guardK
  split
  · rfl
  · split
    · rfl
    · split
      · split <;> simp only [cond_bind2]
      · rfl
      · rfl

theorem dOp_bind {A B : Type} (d : DI) (o : Oper) (σ : St) (g : V → Mem → List Nat → Option A) (k : A → Option B) : (dOp tt tab n0 d o σ g).bind k = dOp tt tab n0 d o σ (fun v m ks => (g v m ks).bind k) := by
  unfold dOp
  split
  · rfl
  · exact opK_bind _ _ _ _ _ _ _
  · rw [cond_bind, opK_bind]
  · rw [cond_bind, opK_bind]
  · rw [opK_bind]
    congr 1
    funext v m ks
    split
    · rfl
    · rw [cond_bind]

theorem dOps_run {R : Type} : ∀ (l : List Item) (σ : St) (k : St → Option R), dOps tt tab ops n0 l σ k = (runD tt tab ops n0 l σ).bind k
  | [], σ, k => rfl
  | (o, d) :: l, σ, k => by
    simp only [dOps, runD, stO, guardR_eq, guardK_bind, dOp_bind, Option.bind_some, Option.bind_assoc]
    congr 1
    · congr 1
      funext v m ks
      exact dOps_run l _ k
    · exact dOps_run l _ k

/-! ### what an operation hangs on -/
def Agree (ops : Array Oper) (o : Oper) (σ σ' : St) : Prop := ∀ t ∈ o.looksAt ops, vget σ.tmps t = vget σ'.tmps t

theorem evO_const (σ σ' : St) (v : Value) : evO σ (.const v) = evO σ' (.const v) := by
  cases v <;> first | rfl | (rename_i a l c; cases a <;> cases l <;> cases c <;> rfl)

theorem agree_ops {o : Oper} {σ σ' : St} (h : Agree ops o σ σ') : ∀ x ∈ o.op.operands, evO σ x = evO σ' x := by
  intro x hx
  cases x with
  | tmp t => exact h t (List.mem_append_left _ (List.mem_filterMap.2 ⟨.tmp t, by simpa using hx, rfl⟩))
  | const v => exact evO_const σ σ' v
  | _ => rfl

theorem guardK_agree {R : Type} {o : Oper} {σ σ' : St} (h : Agree ops o σ σ') (a b : Option R) : guardK ops σ o.guard a b = guardK ops σ' o.guard a b := by
  unfold guardK
  cases hg : o.guard with
  | none => rfl
  | some g =>
    obtain ⟨j, want⟩ := g
    simp only
    cases hd : (ops[j]?).bind (·.dst) with
    | none => rfl
    | some d => simp only; rw [h d (List.mem_append_right _ (by simp [hg, hd]))]

theorem dOp_agree {R : Type} {d : DI} {o : Oper} {σ σ' : St} (h : Agree ops o σ σ') (hm : σ.mem = σ'.mem) (k : V → Mem → List Nat → Option R) : dOp tt tab n0 d o σ k = dOp tt tab n0 d o σ' k := by
  have e := agree_ops h
  unfold dOp
  split
  · rfl
  · rw [hm]; exact opK_congr (σ := { σ with mem := visM d n0 σ'.mem }) (σ' := { σ' with mem := visM d n0 σ'.mem }) _ _ e rfl _
  · rw [opK_congr _ _ e hm]
  · rw [hm]
    congr 1
    exact opK_congr (σ := { σ with mem := maskL d.ms σ'.mem }) (σ' := { σ' with mem := maskL d.ms σ'.mem }) _ _ e rfl _
  · exact opK_congr _ _ e hm _

theorem stO_agree {x : Item} {σ σ' : St} (h : Agree ops x.1 σ σ') (hm : σ.mem = σ'.mem) : stO tt tab ops n0 x σ = stO tt tab ops n0 x σ' := by
  unfold stO
  rw [guardK_agree h, dOp_agree h hm, hm]

theorem vget_tset (vs : List V) (d t : Nat) (v : V) (h : t ≠ d) : vget (tset vs d v) t = vget vs t := by
  induction vs generalizing d t with
  | nil => rfl
  | cons a r ih =>
    cases d with
    | zero => cases t with
      | zero => exact absurd rfl h
      | succ t => rfl
    | succ d => cases t with
      | zero => rfl
      | succ t => exact ih d t (by omega)

theorem tset_comm (vs : List V) (d e : Nat) (u v : V) (h : d ≠ e) : tset (tset vs d u) e v = tset (tset vs e v) d u := by
  induction vs generalizing d e with
  | nil => rfl
  | cons a r ih =>
    cases d with
    | zero => cases e with
      | zero => exact absurd rfl h
      | succ e => rfl
    | succ d => cases e with
      | zero => rfl
      | succ e => simp only [tset]; rw [ih d e (by omega)]

/-- one that gives up nothing leaves the others' operands -/
theorem agree_nxt {x y : Item} (h : ∀ d, x.1.dst = some d → d ∉ y.1.looksAt ops) (σ : St) (v : V) (m : Mem) : Agree ops y.1 (nxt x σ (v, m, [])) σ := by
  intro t ht
  unfold nxt
  cases hd : x.1.dst with
  | none => rfl
  | some d => exact vget_tset _ _ _ _ fun e => h d hd (e ▸ ht)

theorem nxt_mem (x : Item) (σ : St) (r : Res) : (nxt x σ r).mem = r.2.1 := by
  unfold nxt
  rw [putT_mem, upd_mem]

theorem nxt_comm {x y : Item} (h : ∀ d, x.1.dst = some d → y.1.dst ≠ some d) (σ : St) (vx vy : V) (m1 m2 m3 : Mem) :
    nxt y (nxt x σ (vx, m1, [])) (vy, m3, []) = nxt x (nxt y σ (vy, m2, [])) (vx, m3, []) := by
  unfold nxt
  cases hx : x.1.dst with
  | none => cases hy : y.1.dst <;> rfl
  | some d =>
    cases hy : y.1.dst with
    | none => rfl
    | some e =>
      have hne : d ≠ e := fun e2 => h d hx (by rw [hy, e2])
      simp only [putT, St.upd]
      rw [tset_comm _ _ _ _ _ hne]

/-! ### the four kinds -/
structure Beside (x y : DI) : Prop where
  two : y.cls = 2 → y.slot ∈ x.ms
  three : y.cls = 3 → x.mode ≠ 0
  four : 4 ≤ y.cls → x.mode ≠ 0 ∧ x.mode ≠ 1
  iso : x.iso = false

def stM (tt : TT) (tab : Tab) (ops : Array Oper) (n0 : Nat) (x : Item) (σ : St) (m : Mem) : Option Res := stO tt tab ops n0 x { σ with mem := m }

theorem guard_sel (σ : St) (g : Option (Nat × Bool)) : (∀ (R : Type) (m : Mem) (a b : Option R), guardK ops { σ with mem := m } g a b = a) ∨ (∀ (R : Type) (m : Mem) (a b : Option R), guardK ops { σ with mem := m } g a b = b) ∨ ∀ (R : Type) (m : Mem) (a b : Option R), guardK ops { σ with mem := m } g a b = none := by
  unfold guardK
  cases g with
  | none => exact .inl fun _ _ _ _ => rfl
  | some g =>
    obtain ⟨j, want⟩ := g
    simp only
    cases hd : (ops[j]?).bind (·.dst) with
    | none => exact .inr (.inr fun _ _ _ _ => rfl)
    | some d =>
      simp only
      cases hv : vget σ.tmps d with
      | bool b => cases want <;> cases b <;> first | exact .inl fun _ _ _ _ => rfl | exact .inr (.inl fun _ _ _ _ => rfl)
      | undef => exact .inr (.inl fun _ _ _ _ => rfl)
      | _ => exact .inr (.inr fun _ _ _ _ => rfl)

/-- what an operation beside others comes to -/
def Kind (tt : TT) (tab : Tab) (ops : Array Oper) (n0 : Nat) (x : Item) (σ : St) (m : Mem) (v : V) (m' : Mem) : Prop :=
  (m' = m ∧ ∀ m2, visM x.2 n0 m2 = visM x.2 n0 m → stM tt tab ops n0 x σ m2 = some (v, m2, [])) ∨
  (x.2.cls = 2 ∧ ∃ b : Blk, b.live = true ∧ m' = mset m x.2.slot b ∧ mget m x.2.slot = .dead ∧ x.2.slot < m.length ∧ x.2.slot < n0 ∧
    ∀ m2, mget m2 x.2.slot = .dead → x.2.slot < m2.length → stM tt tab ops n0 x σ m2 = some (v, mset m2 x.2.slot b, [])) ∨
  (x.2.cls = 3 ∧ n0 ≤ m.length ∧ ∃ blks, m' = m ++ blks ∧ ∀ m2, maskL x.2.ms m2 = maskL x.2.ms m → m2.length = m.length → stM tt tab ops n0 x σ m2 = some (v, m2 ++ blks, [])) ∨
  (4 ≤ x.2.cls)

theorem kind {x : Item} (hcl : x.2.cls = cls tab x.1) (hiso : x.2.iso = false) {σ : St} {m : Mem} {v : V} {m' : Mem} {ks : List Nat} (h : stM tt tab ops n0 x σ m = some (v, m', ks)) : ks = [] ∧ Kind tt tab ops n0 x σ m v m' := by
  unfold stM stO at h
  rcases guard_sel (ops := ops) σ x.1.guard with hg | hg | hg
  · rw [hg] at h
    unfold dOp at h
    split at h
    · cases h
    · -- looks at memory at most
      rename_i hc
      have hnat := opK_bind (A := V) (B := Res) (fun v => some (v, m, [])) (fun v _ _ => some v) tt tab none x.1 { σ with mem := visM x.2 n0 m }
      simp only [Option.bind_some] at hnat
      have h2 : (opK tt tab none x.1 { σ with mem := visM x.2 n0 m } fun v _ _ => some v).bind (fun v => some (v, m, [])) = some (v, m', ks) := by rw [hnat]; exact h
      obtain ⟨v1, h3, h4⟩ := Option.bind_eq_some_iff.1 h2
      simp only [Option.some.injEq, Prod.mk.injEq] at h4
      obtain ⟨rfl, rfl, rfl⟩ := h4
      refine ⟨rfl, .inl ⟨rfl, fun m2 hv => ?_⟩⟩
      unfold stM stO
      rw [hg]
      unfold dOp
      rw [hc]
      simp only
      have hnat2 := opK_bind (A := V) (B := Res) (fun v => some (v, m2, [])) (fun v _ _ => some v) tt tab none x.1 { σ with mem := visM x.2 n0 m2 }
      simp only [Option.bind_some] at hnat2
      rw [← hnat2, hv, h3]
      rfl
    · -- makes a block
      rename_i hc
      obtain ⟨hs, h⟩ := cond_none h
      have hs2 := Nat.blt_eq.mp hs
      obtain ⟨vb, hlive, hvb⟩ := op_two (tt := tt) (tab := tab) (σ := σ) (o := x.1) (hcl ▸ hc) x.2.slot
      rw [hvb] at h
      cases hvb2 : vb with
      | none => rw [hvb2] at h; cases h
      | some q =>
        obtain ⟨v1, b⟩ := q
        rw [hvb2] at h
        simp only [newB] at h
        split at h
        case h_2 => cases h
        rename_i hd
        obtain ⟨hl, h⟩ := cond_none h
        have hl2 := Nat.blt_eq.mp hl
        simp only [Option.some.injEq, Prod.mk.injEq] at h
        obtain ⟨rfl, rfl, rfl⟩ := h
        refine ⟨rfl, .inr (.inl ⟨hc, b, hlive _ _ hvb2, rfl, hd, hl2, hs2, fun m2 hd2 hl3 => ?_⟩)⟩
        unfold stM stO
        rw [hg]
        unfold dOp
        rw [hc]
        simp only
        rw [hs, hvb, hvb2]
        simp only [newB, hd2, cond_true]
        rw [Nat.blt_eq.mpr hl3]
        rfl
    · -- makes blocks
      rename_i hc
      obtain ⟨hs, h⟩ := cond_none h
      have hs2 := Nat.le_of_ble_eq_true hs
      obtain ⟨v1, blks, h1, h2⟩ := op_fresh (tt := tt) (σ := σ) (hcl ▸ hc) h
      simp only [Option.some.injEq, Prod.mk.injEq] at h1
      obtain ⟨rfl, rfl, rfl⟩ := h1
      refine ⟨rfl, .inr (.inr (.inl ⟨hc, hs2, _, rfl, fun m2 hm2 hl => ?_⟩))⟩
      unfold stM stO
      rw [hg]
      unfold dOp
      rw [hc]
      simp only
      rw [Nat.ble_eq.mpr (by rw [hl]; exact hs2)]
      simp only [cond_true]
      rw [hm2, h2 _ (fun _ _ => rfl) rfl]
      simp only [Option.some.injEq, Prod.mk.injEq, and_true, true_and]
      rw [hl]
    · rename_i d h0 h1 h2 h3
      have h4 : 4 ≤ x.2.cls := by
        rcases Nat.lt_or_ge x.2.cls 4 with hlt | hge
        · exfalso
          match hq : x.2.cls, hlt with
          | 0, _ => exact h0 hq
          | 1, _ => exact h1 hq
          | 2, _ => exact h2 hq
          | 3, _ => exact h3 hq
        · exact hge
      have hnat := opK_bind (A := Res) (B := Res) (fun r => match r.2.2 with
        | [] => some (r.1, r.2.1, [])
        | _ => bif x.2.iso then some (r.1, r.2.1, r.2.2) else none) (fun v m ks => some (v, m, ks)) tt tab none x.1 { σ with mem := m }
      simp only [Option.bind_some] at hnat
      obtain ⟨r, h5, h6⟩ := Option.bind_eq_some_iff.1 (hnat.trans h)
      obtain ⟨v1, m1, k1⟩ := r
      cases k1 with
      | nil =>
        simp only [Option.some.injEq, Prod.mk.injEq] at h6
        exact ⟨h6.2.2.symm, .inr (.inr (.inr h4))⟩
      | cons a r =>
        simp only [hiso, cond_false] at h6
        cases h6
  · rw [hg] at h
    simp only [Option.some.injEq, Prod.mk.injEq] at h
    obtain ⟨rfl, rfl, rfl⟩ := h
    refine ⟨rfl, .inl ⟨rfl, fun m2 _ => ?_⟩⟩
    unfold stM stO
    rw [hg]
  · rw [hg] at h; cases h

end
end Go.Lv
