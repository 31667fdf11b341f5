/-
What the evaluator's operations look at.
-/
import Derived.Test.YtdcimcciokgdaaaLvP
import Derived.Test.YtdcimcciokgdaaaLvO
namespace Go.Lv
set_option linter.unusedVariables false
set_option linter.unusedSimpArgs false
set_option linter.unusedSectionVars false
variable [fr : Fr]

section
variable {tt : TT} {tab : Tab} {R : Type}

theorem opVals_congr {σ σ' : St} (xs : Array Operand) (h : ∀ x ∈ xs, evO σ x = evO σ' x) : opVals σ xs = opVals σ' xs := by
  unfold opVals
  exact List.map_congr_left fun x hx => h x (by simpa using hx)

theorem parts_congr {σ σ' : St} (ps : Array (Nat × Operand)) (h : ∀ x ∈ ps.map (·.2), evO σ x = evO σ' x) : (ps.toList.map fun (i, x) => (i, evO σ x)) = ps.toList.map fun (i, x) => (i, evO σ' x) := by
  refine List.map_congr_left fun p hp => ?_
  obtain ⟨i, x⟩ := p
  simp only [h x (Array.mem_map.2 ⟨(i, x), by simpa using hp, rfl⟩)]

theorem opK_congr {σ σ' : St} (slot : Option Nat) (o : Oper) (h : ∀ x ∈ o.op.operands, evO σ x = evO σ' x) (hm : σ.mem = σ'.mem) (k : V → Mem → List Nat → Option R) : opK tt tab slot o σ k = opK tt tab slot o σ' k := by
  obtain ⟨dst, op, type, pos, after, guard⟩ := o
  cases op <;> simp only [Op.operands] at h <;> simp only [opK]
  case build t ps => rw [parts_congr ps fun x hx => h x (by simpa using hx), hm]
  case buildSlice t n ps => rw [parts_congr ps fun x hx => h x (by simpa using hx), hm]
  case makeFunc fn first captured =>
    cases fn <;> try rfl
    simp only
    rw [opVals_congr first fun x hx => h x (by simp [hx]), opVals_congr captured fun x hx => h x (by simp [hx]), hm]
  case call c =>
    have ha : opVals σ c.args = opVals σ' c.args := opVals_congr c.args fun x hx => h x (by simp [Call.operands, hx])
    rw [ha, hm]
    cases hc : c.callee with
    | value f => simp only; rw [h f (by simp [Call.operands, hc])]
    | builtin b => cases b <;> rfl
    | invoke r m => rfl
  case makeMap t r => cases r <;> simp_all
  case slice t x lo hi mx => cases lo <;> cases hi <;> cases mx <;> simp_all
  all_goals (first | rfl | (simp_all; done))

/-! ### more memory shows the same -/
def Sub (m M : Mem) : Prop := ∀ h, (mget m h).live = true → mget M h = mget m h

theorem Sub.at {m M : Mem} (hS : Sub m M) {h : Nat} {b : Blk} (hm : mget m h = b) (hl : b.live = true) : mget M h = b := by
  rw [hS h (by rw [hm]; exact hl), hm]

theorem view_mono {m M : Mem} (hS : Sub m M) {v c : V} (h : v.view m = some c) : v.view M = some c := by
  cases v with
  | sl hd o n =>
    simp only [V.view] at h ⊢
    split at h
    · rename_i hm
      rw [hS.at hm rfl]; exact h
    · cases h
  | asl hd o s n =>
    simp only [V.view] at h ⊢
    split at h
    · rename_i hm
      rw [hS.at hm rfl]; exact h
    · cases h
  | _ => exact h

theorem roArgs_cons (mem : Mem) (v : V) (r : List V) (own : List Bool) : roArgs mem (v :: r) own = bif own.headD false then (roArgs mem r own.tail).map (v :: ·) else
    match v with
    | .sl .. | .asl .. => match v.view mem with
      | some c => bif c.okRo then (roArgs mem r own.tail).map (c :: ·) else none
      | none => none
    | _ => (roArgs mem r own.tail).map (v :: ·) := by
  cases v <;> rfl

theorem roArgs_mono {m M : Mem} (hS : Sub m M) : ∀ {args args1 : List V} {own : List Bool}, roArgs m args own = some args1 → roArgs M args own = some args1 := by
  intro args
  induction args with
  | nil => intro args1 own h; exact h
  | cons v r ih =>
    intro args1 own h
    rw [roArgs_cons] at h ⊢
    have step : ∀ {u : V} {as : List V}, (roArgs m r own.tail).map (u :: ·) = some as → (roArgs M r own.tail).map (u :: ·) = some as := fun {u as} h => by
      simp only [Option.map_eq_some_iff] at h ⊢
      obtain ⟨x, h1, h2⟩ := h
      exact ⟨x, ih h1, h2⟩
    cases hb : own.headD false with
    | true => rw [hb] at h; exact step h
    | false =>
      rw [hb] at h
      simp only [cond_false] at h ⊢
      have slc : ∀ w : V, (match w.view m with
          | some c => bif c.okRo then (roArgs m r own.tail).map (c :: ·) else none
          | none => none) = some args1 → (match w.view M with
          | some c => bif c.okRo then (roArgs M r own.tail).map (c :: ·) else none
          | none => none) = some args1 := fun w h => by
        split at h
        · rename_i c hc
          rw [view_mono hS hc]
          obtain ⟨h1, h2⟩ := cond_none h
          simp only [h1, cond_true]
          exact step h2
        · cases h
      cases v with
      | sl hd o n => exact slc _ h
      | asl hd o s n => exact slc _ h
      | _ => exact step h

theorem mem_dedup {l : List Nat} {x : Nat} (h : x ∈ l) : x ∈ dedup l := by
  induction l with
  | nil => cases h
  | cons a r ih =>
    simp only [dedup]
    cases hm : memb a r with
    | true =>
      have := (memb_iff (n := a) (l := r)).1 hm
      cases h with
      | head => exact ih this
      | tail _ h => exact ih h
    | false =>
      cases h with
      | head => simp
      | tail _ h => simp [ih h]

theorem hsMore_sub {m : Mem} {hs : List Nat} {x : Nat} (h : x ∈ hs) : x ∈ hsMore m hs := mem_dedup (List.mem_append_left _ h)
theorem hsMore_eq {m M : Mem} (hS : Sub m M) {hs : List Nat} (hl : ∀ h ∈ hs, (mget m h).live = true) : hsMore M hs = hsMore m hs := by
  unfold hsMore
  congr 2
  have : ∀ (l : List Nat), (∀ h ∈ l, (mget m h).live = true) → (l.flatMap fun h => (mget M h).hs) = l.flatMap fun h => (mget m h).hs := by
    intro l
    induction l with
    | nil => intro _; rfl
    | cons a r ih =>
      intro hl
      rw [List.flatMap_cons, List.flatMap_cons, ih fun h hh => hl h (by simp [hh]), hS a (hl a (by simp))]
  exact this hs hl

theorem hsOf_mono {m M : Mem} (hS : Sub m M) {args1 : List V} (hl : ∀ h ∈ hsOf m args1, (mget m h).live = true) : hsOf M args1 = hsOf m args1 := by
  unfold hsOf at *
  rw [hsMore_eq hS fun h hh => hl h (hsMore_sub (hsMore_sub hh)), hsMore_eq hS fun h hh => hl h (hsMore_sub hh)]

theorem okHs_mono {m M : Mem} (hS : Sub m M) {args1 : List V} {hs pub : List Nat} (h : okHs m args1 hs pub = true) : okHs M args1 hs pub = true ∧ ∀ x ∈ hs, mget M x = mget m x := by
  have hl := (okHs_spec h).2.1
  refine ⟨?_, fun x hx => hS x (hl x hx)⟩
  rw [← h]
  unfold okHs
  congr 3
  rw [Bool.eq_iff_iff, List.all_eq_true, List.all_eq_true]
  constructor
  · intro h2 x hx
    have := h2 x hx
    rwa [hS x (hl x hx)] at this
  · intro h2 x hx
    have := h2 x hx
    rwa [hS x (hl x hx)]

theorem blocks_eq {m M : Mem} {hs : List Nat} (h : ∀ x ∈ hs, mget M x = mget m x) : (hs.map fun h => (mget M h).ren (dnH hs)) = hs.map fun h => (mget m h).ren (dnH hs) :=
  List.map_congr_left fun x hx => by rw [h x hx]

/-- a call that leaves the memory alone looks at what it is given alone -/
theorem callK_quiet {m M : Mem} (hS : Sub m M) {f : FuncId} {ent : Ent} (he : look tab f = some ent) (hq : ent.loud = .quiet) {args : List V} {k : V → Option R} {x : R}
    (h : callK tab f args m (fun v _ _ => k v) = some x) : callK tab f args M (fun v _ _ => k v) = some x := by
  unfold callK at h ⊢
  simp only [he] at h ⊢
  split at h
  case h_1 => cases h
  rename_i args1 hro
  rw [roArgs_mono hS hro]
  show callG ent (lent args ent.own) (hsOf M args1) args1 M (fun v _ _ => k v) = some x
  unfold callG at h ⊢
  obtain ⟨hok, h⟩ := cond_none h
  have hhs := hsOf_mono hS (okHs_spec hok).2.1
  obtain ⟨h1, h2⟩ := okHs_mono hS hok
  rw [hhs, h1]
  simp only [cond_true]
  rw [blocks_eq h2]
  simp only [hq] at h ⊢
  split at h
  · cases h
  rename_i c ret hg
  obtain ⟨h3, h⟩ := cond_none' h
  rw [h3]
  simp only [cond_false]
  obtain ⟨h4, h⟩ := cond_none h
  rw [h4]
  simp only [cond_true]
  have e : ∀ (b1 b2 b3 : Bool) (y : Option R), (bif b1 then y else bif b2 then (none : Option R) else none) = some x → (bif b1 then y else bif b3 then (none : Option R) else none) = some x := by
    intro b1 b2 b3 y hy
    cases b1
    · cases b2 <;> cases hy
    · exact hy
  exact e _ _ _ _ h

theorem evO_mem (σ : St) (m : Mem) (a : Operand) : evO { σ with mem := m } a = evO σ a := rfl
theorem opVals_mem (σ : St) (m : Mem) (xs : Array Operand) : opVals { σ with mem := m } xs = opVals σ xs := rfl

theorem okCap_mono {m M : Mem} (hS : Sub m M) {v : V} (h : okCap m v = true) : okCap M v = true := by
  cases v with
  | ptr hd i o s =>
    simp only [okCap] at h ⊢
    split at h
    · rename_i hm; rw [hS.at hm rfl]
    · cases h
  | _ => exact h

theorem sliceK_mono {m M : Mem} (hS : Sub m M) {t : TypeId} {v : V} {lo hi mx : Option V} {k : V → Option R} {x : R} (h : sliceK tt m t v lo hi mx k = some x) : sliceK tt M t v lo hi mx k = some x := by
  unfold sliceK at h ⊢
  split at h
  · exact h
  · split at h
    · split at h
      · split at h
        · split at h
          · rename_i hm; rw [hS.at hm rfl]; exact h
          · cases h
        all_goals exact h
      · cases h
    · split at h
      · split at h
        · split at h
          · rename_i hm; rw [hS.at hm rfl]; exact h
          · cases h
        · cases h
      · cases h
    · cases h

theorem op_mono1 {m M : Mem} (hS : Sub m M) {σ : St} {o : Oper} (hc : cls tab o = 1) {k : V → Option R} {x : R} (h : opK tt tab none o { σ with mem := m } (fun v _ _ => k v) = some x) :
    opK tt tab none o { σ with mem := M } (fun v _ _ => k v) = some x := by
  obtain ⟨dst, op, type, pos, after, guard⟩ := o
  cases op
  case load t a =>
    simp only [opK] at h ⊢
    split at h
    case h_2 => cases h
    split at h
    · rename_i ha
      have ha' : evO { σ with mem := M } a = evO { σ with mem := m } a := by cases a <;> rfl
      rw [ha', ha]
      simp only
      obtain ⟨hb, h⟩ := cond_none h
      rw [hb]
      simp only [cond_true]
      split at h
      · rename_i hm; rw [hS.at hm rfl]; exact h
      · rename_i hm; rw [hS.at hm rfl]; exact h
      · cases h
    · rename_i ha
      have ha' : evO { σ with mem := M } a = evO { σ with mem := m } a := by cases a <;> rfl
      rw [ha', ha]
      exact h
    · cases h
  case indexAddr t a b =>
    simp only [opK, evO_mem] at h ⊢
    unfold addrK at h ⊢
    split at h
    · rename_i hl
      exact h
    · split at h
      · split at h
        · split at h
          · rename_i hm; rw [hS.at hm rfl]; exact h
          · cases h
        all_goals exact h
      · cases h
    · cases h
  case makeFunc fn a b =>
    cases fn <;> simp only [opK, opVals_mem] at h ⊢
    case func f =>
      obtain ⟨h1, h⟩ := cond_none h
      simp only [Bool.and_eq_true, List.all_eq_true] at h1
      have : ((opVals σ a).all (okCap M) && (opVals σ b).all (okCap M)) = true := by
        simp only [Bool.and_eq_true, List.all_eq_true]
        exact ⟨fun x hx => okCap_mono hS (h1.1 x hx), fun x hx => okCap_mono hS (h1.2 x hx)⟩
      rw [this]
      exact h
    all_goals cases h
  case slice t a lo hi mx =>
    exact sliceK_mono hS h
  case call c =>
    simp only [opK, opVals_mem, evO_mem] at h ⊢
    cases hcc : c.callee with
    | value f =>
      rw [hcc] at h
      simp only at h ⊢
      unfold cls at hc
      simp only [hcc] at hc
      cases f with
      | func g =>
        simp only at hc
        split at hc
        case h_2 => cases hc
        rename_i ent hent
        have hq : ent.loud = .quiet := by
          cases hl : ent.loud <;> rw [hl] at hc <;> first | rfl | cases hc
        exact callK_quiet hS hent hq h
      | _ => cases hc
    | invoke r m => rw [hcc] at h; cases h
    | builtin b =>
      rw [hcc] at h
      cases b with
      | len =>
        simp only at h ⊢
        split at h
        · split at h
          · exact h
          · exact h
          · split at h
            · split at h
              · rename_i hm; rw [hS.at hm rfl]; exact h
              · cases h
            · cases h
          · cases h
        · cases h
      | max => exact h
      | min => exact h
      | _ => unfold cls at hc; simp only [hcc] at hc; cases hc
  case makeMap t r => cases r <;> (unfold cls at hc; cases hc)
  all_goals first | exact h | (unfold cls at hc; cases hc; done)

end
end Go.Lv
