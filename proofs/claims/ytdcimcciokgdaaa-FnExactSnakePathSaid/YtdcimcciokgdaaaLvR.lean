/-
Operations that stand beside each other.
-/
import Derived.Test.YtdcimcciokgdaaaLvQ
namespace Go.Lv
set_option linter.unusedVariables false
set_option linter.unusedSimpArgs false
set_option linter.unusedSectionVars false
variable [fr : Fr]

section
variable {tt : TT} {tab : Tab} {R : Type}

theorem callK_fresh {m : Mem} {f : FuncId} {ent : Ent} (he : look tab f = some ent) (hq : ent.loud = .fresh) {args : List V} {k : V → Mem → List Nat → Option R} {x : R}
    (h : callK tab f args m k = some x) : ∃ v blks, k v (m ++ blks) [] = some x ∧ ∀ (M : Mem), Sub m M → M.length = m.length → ∀ (R' : Type) (k' : V → Mem → List Nat → Option R'), callK tab f args M k' = k' v (M ++ blks) [] := by
  unfold callK at h
  simp only [he] at h
  split at h
  case h_1 => cases h
  rename_i args1 hro
  unfold callG at h
  obtain ⟨hok, h⟩ := cond_none h
  simp only [hq] at h
  split at h
  · cases h
  rename_i c ret hg
  obtain ⟨h3, h⟩ := cond_none' h
  obtain ⟨h5, h⟩ := cond_none h
  have e : ∀ (b1 b2 : Bool) (y : Option R), (bif b1 then y else bif b2 then (none : Option R) else none) = some x → b1 = true ∧ y = some x := by
    intro b1 b2 y hy
    cases b1
    · cases b2 <;> cases hy
    · exact ⟨rfl, hy⟩
  obtain ⟨hc, h⟩ := e _ _ _ h
  refine ⟨_, _, h, fun M hS hl R' k' => ?_⟩
  unfold callK
  simp only [he]
  rw [roArgs_mono hS hro]
  show callG ent (lent args ent.own) (hsOf M args1) args1 M k' = _
  unfold callG
  have hhs := hsOf_mono hS (okHs_spec hok).2.1
  obtain ⟨h1, h2⟩ := okHs_mono hS hok
  rw [hhs, h1]
  simp only [cond_true]
  rw [blocks_eq h2, hg]
  simp only [hq]
  rw [h3, h5]
  simp only [cond_false, cond_true]
  rw [hc, hl]
  rfl

theorem op_fresh {m : Mem} {σ : St} {o : Oper} (hc : cls tab o = 3) {k : V → Mem → List Nat → Option R} {x : R} (h : opK tt tab none o { σ with mem := m } k = some x) :
    ∃ v blks, k v (m ++ blks) [] = some x ∧ ∀ (M : Mem), Sub m M → M.length = m.length → ∀ (R' : Type) (k' : V → Mem → List Nat → Option R'), opK tt tab none o { σ with mem := M } k' = k' v (M ++ blks) [] := by
  obtain ⟨dst, op, type, pos, after, guard⟩ := o
  cases op
  case call c =>
    unfold cls at hc
    simp only at hc
    cases hcc : c.callee with
    | value f =>
      rw [hcc] at hc
      cases f with
      | func g =>
        simp only at hc
        split at hc
        case h_2 => cases hc
        rename_i ent hent
        have hq : ent.loud = .fresh := by
          cases hl : ent.loud <;> rw [hl] at hc <;> first | rfl | cases hc
        simp only [opK, opVals_mem, evO_mem, hcc] at h ⊢
        exact callK_fresh hent hq h
      | _ => cases hc
    | invoke r m => rw [hcc] at hc; cases hc
    | builtin b => rw [hcc] at hc; cases b <;> cases hc
  case makeMap t r => cases r <;> (unfold cls at hc; cases hc)
  all_goals (unfold cls at hc; cases hc; done)

theorem blk_live {v : V} {b : Blk} (h : v.blk = some b) : b.live = true := by
  unfold V.blk at h
  split at h <;> first | (cases h; rfl) | (obtain ⟨_, h⟩ := cond_none h; cases h; rfl)

/-- one that makes a block: the block and the value hang on no memory -/
theorem op_two {σ : St} {o : Oper} (hc : cls tab o = 2) (s : Nat) : ∃ vb : Option (V × Blk), (∀ v b, vb = some (v, b) → b.live = true) ∧
    ∀ (m : Mem) (R : Type) (k : V → Mem → List Nat → Option R), opK tt tab (some s) o { σ with mem := m } k = match vb with
      | none => none
      | some (v, b) => newB m (some s) b fun _ m' => k v m' [] := by
  have newB_h : ∀ (m : Mem) (b : Blk) (R : Type) (k : Nat → Mem → Option R), newB m (some s) b k = newB m (some s) b fun _ m' => k s m' := fun m b R k => by
    unfold newB
    simp only
  have nothing : (∀ (m : Mem) (R : Type) (k : V → Mem → List Nat → Option R), opK tt tab (some s) o { σ with mem := m } k = none) → ∃ vb : Option (V × Blk), (∀ v b, vb = some (v, b) → b.live = true) ∧
    ∀ (m : Mem) (R : Type) (k : V → Mem → List Nat → Option R), opK tt tab (some s) o { σ with mem := m } k = match vb with
      | none => none
      | some (v, b) => newB m (some s) b fun _ m' => k v m' [] := fun h => ⟨none, fun v b h => (by cases h), h⟩
  obtain ⟨dst, op, type, pos, after, guard⟩ := o
  cases op
  case alloc t =>
    cases hl : look tt t with
    | none => exact nothing fun m R k => by simp only [opK, hl]
    | some ti =>
      cases hb : ti.z.blk with
      | none => exact nothing fun m R k => by simp only [opK, hl, hb]
      | some b =>
        refine ⟨some (.ptr s 0 0 ti.z.sz, b), fun v b' h => (by cases h; exact blk_live hb), fun m R k => ?_⟩
        simp only [opK, hl, hb]
        exact newB_h m b R _
  case box t x =>
    cases hb : (evO σ x).blk with
    | none => exact nothing fun m R k => by simp only [opK, evO_mem, hb]
    | some b =>
      refine ⟨some (.ptr s 0 0 (evO σ x).sz, b), fun v b' h => (by cases h; exact blk_live hb), fun m R k => ?_⟩
      simp only [opK, evO_mem, hb]
      exact newB_h m b R _
  case buildSlice t len parts =>
    cases hl : look tt t with
    | none => exact nothing fun m R k => by simp only [opK, hl]
    | some ti =>
      obtain ⟨d, sz, by', z⟩ := ti
      cases d with
      | slice e =>
        cases hle : look tt e with
        | none => exact nothing fun m R k => by simp only [opK, hl, hle]
        | some te =>
          cases hm : te.z.mt with
          | none => exact nothing fun m R k => by simp only [opK, hl, hle, hm]
          | some c0 =>
            cases hb : buildSl c0 (parts.toList.map fun (i, x) => (i, evO σ x)) with
            | none => exact nothing fun m R k => by simp only [opK, hl, hle, hm, evO_mem, hb]
            | some c =>
              cases hq : (Nat.beq c.cnt len && Nat.beq c.wd te.size && Nat.ble (len * te.size) 16777216) with
              | false => exact nothing fun m R k => by simp only [opK, hl, hle, hm, evO_mem, hb, hq, cond_false]
              | true =>
                refine ⟨some (.sl s 0 len, .vec e c), fun v b' h => (by cases h; rfl), fun m R k => ?_⟩
                simp only [opK, hl, hle, hm, evO_mem, hb, hq, cond_true]
                exact newB_h m _ R _
      | _ => exact nothing fun m R k => by simp only [opK, hl]
  case makeMap t r =>
    cases r with
    | none =>
      refine ⟨some (.map s, .map []), fun v b' h => (by cases h; rfl), fun m R k => ?_⟩
      simp only [opK]
      exact newB_h m _ R _
    | some r => unfold cls at hc; cases hc
  case call c =>
    exfalso
    unfold cls at hc
    simp only at hc
    split at hc
    · cases hc
    · cases hc
    · cases hc
    · split at hc
      · split at hc <;> cases hc
      · cases hc
    · cases hc
  all_goals (unfold cls at hc; cases hc; done)

end
end Go.Lv
