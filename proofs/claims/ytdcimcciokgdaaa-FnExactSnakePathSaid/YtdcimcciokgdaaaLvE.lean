/-
The operations of the abstract machine, sound: parts, literals, slices, lengths.
-/
import Derived.Test.YtdcimcciokgdaaaLvD
namespace Go.Lv
open Go.RowKit
set_option linter.unusedVariables false
set_option linter.unusedSimpArgs false
set_option linter.unusedSectionVars false
variable [fr : Fr]

section
variable {P : Program} {tt : TT} {tab : Tab} {σ : St} {a : Act} {w : World} {ρ : Rho} {R : Type}

/-- a field's place -/
theorem field_get {fields : Array Field} {fs : List (Nat × TypeId)} (h : fields.toList.map (fun (f : Field) => (f.offset, f.type)) = fs) {j : Nat} {off : Nat} {ft : TypeId} (hj : fs[j]? = some (off, ft)) :
    ∃ f, fields[j]? = some f ∧ f.offset = off ∧ f.type = ft := by
  rw [← h, List.getElem?_map] at hj
  cases hf : fields.toList[j]? with
  | none => rw [hf] at hj; cases hj
  | some f =>
    rw [hf] at hj
    simp only [Option.map_some, Option.some.injEq, Prod.mk.injEq] at hj
    exact ⟨f, by rw [Array.getElem?_toList] at hf; exact hf, hj.1, hj.2⟩

theorem run_fieldAt {t : TypeId} {fields : Array Field} (hu : P.underlying t = some (.struct fields)) {j : Nat} {f : Field} (hf : fields[j]? = some f) {i : TypeInfo} (hi : P.info? f.type = some i) (hpos : i.size ≠ 0) (ad : Addr) :
    (Instr.fieldAt t (.pointer (some ad)) j).run P w = .ok (.pointer (some (ad.add f.offset))) w := by
  simp [Instr.fieldAt, run_underlying hu, hf, Instr.sureAddr, fieldPlace, run_sizeOf hi, hpos]

theorem fieldAddr_ok (hT : TTok P tt) {o : Oper} {t : TypeId} {y : Operand} {j : Nat} (ho : o.op = .fieldAddr t y j) {slot : Option Nat} {k : V → Mem → List Nat → Option R} {x : R} (hI : Inv σ a w ρ)
    (hx : opK tt tab slot o σ k = some x) : Val P o a σ w ρ k x := by
  unfold opK at hx
  simp only [ho] at hx
  have hv := hI.op y
  unfold fieldK at hx
  split at hx
  · rename_i fs s0 b0 zz hl
    obtain ⟨fields, hu, hfs, _⟩ := (hT _ _ hl).desc
    split at hx
    · rename_i off ft hj
      obtain ⟨f, hf, rfl, rfl⟩ := field_get hfs hj
      split at hx
      · rename_i tf hlf
        obtain ⟨⟨i, hi, hsz, _⟩, _, _, hpos⟩ := hT _ _ hlf
        have hne : i.size ≠ 0 := by omega
        split at hx
        · rename_i h i' o' s he
          obtain ⟨hb, hx⟩ := cond_none hx
          simp only [Bool.and_eq_true] at hb
          have hb1 := Nat.le_of_ble_eq_true hb.1
          rw [he] at hv
          rcases (hv : PtrR ρ σ.mem h i' o' s _) with ⟨n, c, b, hm, hρ, hev, hi0, hos⟩ | ⟨e', c, b, cap, hm, hρ, hcap, hev, hi', hos⟩
          · refine ⟨_, _, hx, by simp only [execOp, ho, hev, Sem.run_bind, run_fieldAt hu hf hi hne, Result.andThen_ok, Sem.run_pure] <;> rfl, ?_⟩
            rw [add_none]
            exact .inl ⟨n, c, b, hm, hρ, rfl, hi0, by omega⟩
          · refine ⟨_, _, hx, by simp only [execOp, ho, hev, Sem.run_bind, run_fieldAt hu hf hi hne, Result.andThen_ok, Sem.run_pure] <;> rfl, ?_⟩
            rw [add_none, Nat.add_assoc]
            exact .inr ⟨e', c, b, cap, hm, hρ, hcap, rfl, hi', by omega⟩
        · rename_i c i' o' s he
          obtain ⟨hb, hx⟩ := cond_none hx
          simp only [Bool.and_eq_true] at hb
          have hb1 := Nat.le_of_ble_eq_true hb.1
          rw [he] at hv
          obtain ⟨b, off, rs, hev, hn, hbb, hcr, hcell, hi', hos⟩ := hv
          refine ⟨_, _, hx, by simp only [execOp, ho, hev, Sem.run_bind, run_fieldAt hu hf hi hne, Result.andThen_ok, Sem.run_pure] <;> rfl, ?_⟩
          rw [add_none]
          exact ⟨b, off, rs, by rw [Nat.add_assoc, Nat.add_assoc], hn, hbb, hcr, hcell, hi', by omega⟩
        · cases hx
      · cases hx
    · cases hx
  · cases hx

theorem extract_bv {α : Type} (vs : List α) (o s : Nat) : (vs.toArray.extract o (o + s)) = (sub vs o s).toArray := by
  apply Array.ext'
  simp [sub, List.take_drop]

theorem run_part_agg {t : TypeId} {d : D} {i : TypeInfo} (hd : DR P t d) (hi : P.info? t = some i) (hag : d.agg = true) (vs : List Value) (off : Nat) :
    (part t vs.toArray off).run P w = .ok (.agg (sub vs off i.size).toArray) w := by
  unfold part
  rw [Sem.run_bind, isAgg_of_DR hd w, Result.andThen_ok, hag]
  simp only [if_true, Sem.run_bind, run_sizeOf hi w, Result.andThen_ok, Sem.run_pure, extract_bv]
theorem run_part_one {t : TypeId} {d : D} (hd : DR P t d) (hag : d.agg = false) (vs : List Value) (off : Nat) {r : Value} (hr : vs[off]? = some r) :
    (part t vs.toArray off).run P w = .ok r w := by
  unfold part
  rw [Sem.run_bind, isAgg_of_DR hd w, Result.andThen_ok, hag]
  have : vs.toArray[off]? = some r := by simpa using hr
  simp [this]

/-- a part of an aggregate -/
theorem partK_ok (hT : TTok P tt) {ft : TypeId} {tf : TI} (hl : look tt ft = some tf) {u : V} {off : Nat} {k : V → Option R} {x : R} (hx : partK tf u off k = some x) {r : Value} (hv : VR w ρ σ.mem u r) (hb : off + tf.size ≤ u.sz) :
    ∃ z q cs, k z = some x ∧ r = .agg cs ∧ (part ft cs off).run P w = .ok q w ∧ VR w ρ σ.mem z q := by
  obtain ⟨⟨i, hi, hsz, _⟩, hd, h1, hpos⟩ := hT _ _ hl
  unfold partK at hx
  split at hx
  · rename_i n xs
    obtain ⟨hln, rfl⟩ := VR_ints hv
    have hbb : off + tf.size ≤ n := hb
    split at hx
    · rename_i hdd
      rw [hdd] at hd
      refine ⟨_, _, _, hx, rfl, run_part_one hd rfl _ _ (iv_get .i64 xs off ?_), rfl⟩
      omega
    · rename_i fs hdd
      rw [hdd] at hd
      refine ⟨_, _, _, hx, rfl, run_part_agg hd hi rfl _ _, ?_⟩
      rw [hsz, ← hln, subn_eq]
      exact ⟨sub_length xs _ _ (by omega), by rw [iv_sub]⟩
    · rename_i m e hdd
      rw [hdd] at hd
      refine ⟨_, _, _, hx, rfl, run_part_agg hd hi rfl _ _, ?_⟩
      rw [hsz, ← hln, subn_eq]
      exact ⟨sub_length xs _ _ (by omega), by rw [iv_sub]⟩
    · cases hx
  · rename_i n bs
    obtain ⟨hln, rfl⟩ := VR_bools hv
    have hbb : off + tf.size ≤ n := hb
    split at hx
    · rename_i hdd
      rw [hdd] at hd
      refine ⟨_, _, _, hx, rfl, run_part_one hd rfl _ _ (bv_get bs off ?_), rfl⟩
      omega
    · cases hx
  · rename_i vs
    obtain ⟨rs, rfl, h2⟩ := hv
    obtain ⟨ha, hx⟩ := cond_none' hx
    have hlt : off < vs.length := by have : off + tf.size ≤ vs.length := hb; omega
    obtain ⟨q, hq, hvq⟩ := vget_get h2 (i := off) (by rw [← all2_length h2]; exact hlt)
    exact ⟨_, _, _, hx, rfl, run_part_one hd ha _ _ hq, VR_of_VR1 (VR1_of_VF hvq)⟩
  · cases hx

theorem field_ok (hT : TTok P tt) {o : Oper} {t : TypeId} {y : Operand} {j : Nat} (ho : o.op = .field t y j) {slot : Option Nat} {k : V → Mem → List Nat → Option R} {x : R} (hI : Inv σ a w ρ)
    (hx : opK tt tab slot o σ k = some x) : Val P o a σ w ρ k x := by
  unfold opK at hx
  simp only [ho] at hx
  have hv := hI.op y
  split at hx
  · rename_i fs s0 b0 zz hl
    obtain ⟨fields, hu, hfs, _⟩ := (hT _ _ hl).desc
    split at hx
    · rename_i off ft hj
      obtain ⟨f, hf, rfl, rfl⟩ := field_get hfs hj
      split at hx
      · rename_i tf hlf
        obtain ⟨hb, hx⟩ := cond_none hx
        obtain ⟨z, q, cs, hk, hr, hrun, hvq⟩ := partK_ok hT hlf hx hv (Nat.le_of_ble_eq_true hb)
        refine ⟨z, q, hk, ?_, hvq⟩
        simp only [execOp, ho, hr, Instr.field, Sem.run_bind, run_underlying hu, hf, asAgg, Sem.run_pure, Result.andThen_ok, hrun]
      · cases hx
    · cases hx
  · cases hx

theorem index_ok (hT : TTok P tt) {o : Oper} {t : TypeId} {y z : Operand} (ho : o.op = .index t y z) {slot : Option Nat} {k : V → Mem → List Nat → Option R} {x : R} (hI : Inv σ a w ρ)
    (hx : opK tt tab slot o σ k = some x) : Val P o a σ w ρ k x := by
  unfold opK at hx
  simp only [ho] at hx
  have hv := hI.op y
  have hz := hI.op z
  split at hx
  · rename_i len e s0 b0 zz hl
    have hu : P.underlying t = _ := (hT _ _ hl).desc
    split at hx
    · rename_i te hle
      obtain ⟨hb, hx⟩ := cond_none hx
      have hb := Nat.le_of_ble_eq_true hb
      obtain ⟨kd, j, hzi, h0, h1, h2, hk⟩ := idxK_spec hx
      rw [hzi] at hz
      have hz : a.eval z = .int kd j := hz
      have hmb := mul_bound (s := te.size) h2
      obtain ⟨v, q, cs, hk2, hr, hrun, hvq⟩ := partK_ok hT hle hk hv (by omega)
      obtain ⟨⟨ie, hie, hsz, _⟩, _, _, _⟩ := hT _ _ hle
      refine ⟨v, q, hk2, ?_, hvq⟩
      simp only [execOp, ho, hr, hz, Instr.index, asIntOf, Sem.run_bind, run_underlying hu, Sem.run_pure, Result.andThen_ok, Sem.run_ite, h0, h1, and_self, if_true, run_sizeOf hie, hsz, hrun]
    · cases hx
  · cases hx

theorem VG_flatG {mem : Mem} {v : V} {r : Value} (h : VR w ρ mem v r) (hf : v.flatG = true) : VG w ρ mem v r := by
  cases v with
  | bool b => exact h
  | int k n => exact h
  | ri k xs => exact h
  | rb bs => exact h
  | rr m xss => exact h
  | z0 => exact h
  | _ => cases hf

theorem VG_okCap {mem : Mem} {v : V} {r : Value} (h : VR w ρ mem v r) (hf : okCap mem v = true) : VG w ρ mem v r := by
  cases v with
  | ptr x i o s =>
    unfold okCap at hf
    simp only at hf
    split at hf
    · rename_i n c hm
      rcases (h : PtrR ρ mem x i o s r) with h | ⟨e, c', b, cap, hm', _⟩
      · exact h
      · rw [hm] at hm'; cases hm'
    · cases hf
  | bool b => exact h
  | int k n => exact h
  | ri k xs => exact h
  | rb bs => exact h
  | rr m xss => exact h
  | z0 => exact h
  | _ => simp [okCap, V.flatG] at hf

theorem all_okCap {mem : Mem} {vs : List V} {rs : List Value} (h : All2 (VR w ρ mem) vs rs) (hf : vs.all (okCap mem) = true) : All2 (VG w ρ mem) vs rs := by
  rw [List.all_eq_true] at hf
  exact forall2_mono h fun x y hx hp => VG_okCap hp (hf x hx)

theorem makeFunc_ok {o : Oper} {f : Fn} {y z : Array Operand} (ho : o.op = .makeFunc f y z) {slot : Option Nat} {k : V → Mem → List Nat → Option R} {x : R} (hI : Inv σ a w ρ)
    (hx : opK tt tab slot o σ k = some x) : Val P o a σ w ρ k x := by
  unfold opK at hx
  cases f with
  | func g =>
    simp only [ho] at hx
    obtain ⟨hb, hx⟩ := cond_none hx
    simp only [Bool.and_eq_true] at hb
    refine ⟨_, .func (.func g) (y.map a.eval) (z.map a.eval), hx, ?_, ⟨(y.map a.eval).toList, (z.map a.eval).toList, ?_, all_okCap (hI.ops y) hb.1, all_okCap (hI.ops z) hb.2⟩⟩
    · simp only [execOp, ho, Instr.makeFunc, Sem.run_bind, Sem.run_pure, Result.andThen_ok]
    · rw [Array.toArray_toList, Array.toArray_toList]
  | _ => simp [ho] at hx

/-! ### lengths -/
theorem len_spec {mem : Mem} {v : V} {n : Nat} (hl : v.len = some n) {r : Value} (h : VR w ρ mem v r) : ∃ ad c, r = .slice ad n c := by
  cases v with
  | sl x off m =>
    simp only [V.len, Option.some.injEq] at hl
    subst hl
    obtain ⟨e, c, ao, cap, _, _, _, hv⟩ := h
    rcases hv with ⟨_, rfl⟩ | ⟨_, a', cap', rfl, _⟩
    · exact ⟨_, _, rfl⟩
    · exact ⟨_, _, rfl⟩
  | asl x o s m =>
    simp only [V.len, Option.some.injEq] at hl
    subst hl
    obtain ⟨_, _, _, _, _, _, _, a', cap', rfl, _⟩ := h
    exact ⟨_, _, rfl⟩
  | z0 =>
    simp only [V.len, Option.some.injEq] at hl
    subst hl
    obtain ⟨a', rfl⟩ := h
    exact ⟨_, _, rfl⟩
  | ri k xs =>
    simp only [V.len, Option.some.injEq] at hl
    subst hl
    obtain ⟨a', cap', rfl, _⟩ := h
    exact ⟨_, _, rfl⟩
  | rb xs =>
    simp only [V.len, Option.some.injEq] at hl
    subst hl
    obtain ⟨a', cap', rfl, _⟩ := h
    exact ⟨_, _, rfl⟩
  | rr m xs =>
    simp only [V.len, Option.some.injEq] at hl
    subst hl
    obtain ⟨_, a', cap', rfl, _⟩ := h
    exact ⟨_, _, rfl⟩
  | rv xs =>
    simp only [V.len, Option.some.injEq] at hl
    subst hl
    obtain ⟨rs, ⟨a', cap', rfl, _⟩, _⟩ := h
    exact ⟨_, _, rfl⟩
  | _ => simp [V.len] at hl

theorem opVals_one {xs : Array Operand} {v : V} (h : opVals σ xs = [v]) : ∃ y, xs = #[y] ∧ evO σ y = v := by
  unfold opVals at h
  rcases hl : xs.toList with _ | ⟨y, _ | ⟨z, r⟩⟩
  · rw [hl] at h; cases h
  · rw [hl] at h
    simp only [List.map_cons, List.map_nil, List.cons.injEq, and_true] at h
    exact ⟨y, by apply Array.ext'; simpa using hl, h⟩
  · rw [hl] at h; simp at h

theorem opVals_two {xs : Array Operand} {u v : V} (h : opVals σ xs = [u, v]) : ∃ y z, xs = #[y, z] ∧ evO σ y = u ∧ evO σ z = v := by
  unfold opVals at h
  rcases hl : xs.toList with _ | ⟨y, _ | ⟨z, _ | ⟨q, r⟩⟩⟩
  · rw [hl] at h; cases h
  · rw [hl] at h; simp at h
  · rw [hl] at h
    simp only [List.map_cons, List.map_nil, List.cons.injEq, and_true] at h
    exact ⟨y, z, by apply Array.ext'; simpa using hl, h.1, h.2⟩
  · rw [hl] at h; simp at h

theorem run_call_builtin {o : Oper} {c : Call} (ho : o.op = .call c) {b : Builtin} (hb : c.callee = .builtin b) (w : World) :
    (execOp a.eval o).run P w = (builtin b c.argTypes o.type (c.args.map fun | .const _ => true | _ => false) (c.args.map a.eval)).run P w := by
  simp only [execOp, ho, resolve, hb, Sem.run_bind, Sem.run_pure, Result.andThen_ok, invoke]
  rfl

theorem len_ok (hT : TTok P tt) {o : Oper} {c : Call} (ho : o.op = .call c) (hb : c.callee = .builtin .len) {slot : Option Nat} {k : V → Mem → List Nat → Option R} {x : R} (hI : Inv σ a w ρ)
    (hx : opK tt tab slot o σ k = some x) : Val P o a σ w ρ k x := by
  unfold opK at hx
  simp only [ho, hb] at hx
  split at hx
  · rename_i t ht
    split at hx
    · -- an array
      rename_i len e s0 b0 zz hl
      have hu : P.underlying t = _ := (hT _ _ hl).desc
      split at hx
      · rename_i v hv
        obtain ⟨y, hy, rfl⟩ := opVals_one hv
        refine ⟨_, _, hx, ?_, rfl⟩
        rw [run_call_builtin ho hb, hy]
        simp [builtin, Builtin.len_, ht, run_underlying hu, goInt]
      · cases hx
    · rename_i e s0 b0 zz hl
      have hu : P.underlying t = _ := (hT _ _ hl).desc
      split at hx
      · rename_i v hv
        obtain ⟨y, hy, rfl⟩ := opVals_one hv
        split at hx
        · rename_i n hn
          obtain ⟨ad, cc, hev⟩ := len_spec hn (hI.op y)
          refine ⟨_, _, hx, ?_, rfl⟩
          rw [run_call_builtin ho hb, hy]
          simp [builtin, Builtin.len_, ht, run_underlying hu, goInt, hev]
        · cases hx
      · cases hx
    · rename_i kt e s0 b0 zz hl
      have hu : P.underlying t = _ := (hT _ _ hl).desc
      split at hx
      · rename_i h hv
        obtain ⟨y, hy, hye⟩ := opVals_one hv
        split at hx
        · rename_i kvs hm
          have hvy := hI.op y
          rw [hye] at hvy
          obtain ⟨kvs', b, hm', hρ, hev⟩ := hvy
          rw [hm] at hm'
          cases hm'
          have hbk := hI.wr.blk h _ hρ
          rw [hm] at hbk
          obtain ⟨r, es, clock, hrl, hheap, h2⟩ := hbk
          cases hrl
          refine ⟨_, _, hx, ?_, rfl⟩
          rw [run_call_builtin ho hb, hy]
          have hlen : es.size = kvs.length := by simpa using (all2_length h2).symm
          have hg : (getObj b).run P w = .ok (.map es clock) w := by simp [getObj, Sem.run, hheap]
          simp [builtin, Builtin.len_, ht, run_underlying hu, goInt, hev, hg, hlen]
        · cases hx
      · cases hx
    · cases hx
  · cases hx

theorem minmax_ok {mx : Bool} {k : V → Option R} {x : R} : ∀ {vs : List V} {v : V} {rs : List Value} {r : Value}, minmax mx k v vs = some x → VR w ρ σ.mem v r → All2 (VR w ρ σ.mem) vs rs →
    ∃ z q, k z = some x ∧ (rs.foldlM (bif mx then Builtin.max2 else Builtin.min2) r).run P w = .ok q w ∧ VR w ρ σ.mem z q := by
  intro vs
  induction vs with
  | nil =>
    intro v rs r h hv h2
    cases h2
    unfold minmax at h
    split at h
    · exact ⟨_, _, h, by simp, hv⟩
    · simp_all
    · cases h
  | cons u vs ih =>
    intro v rs r h hv h2
    unfold minmax at h
    cases h2 with
    | cons hp h2 =>
      rename_i yv ys'
      split at h
      · simp_all
      · rename_i kd y kd' z rr heq
        simp only [List.cons.injEq] at heq
        obtain ⟨e1, e2⟩ := heq
        subst e1
        subst e2
        obtain ⟨ek, h3⟩ := decide_kind h
        subst ek
        have hv : r = .int kd y := hv
        have hp : yv = .int kd z := hp
        subst hv; subst hp
        obtain ⟨q, q', hk, hrun, hvq⟩ := ih (r := .int kd (bif mx then (if z > y then z else y) else (if z < y then z else y))) h3 rfl h2
        refine ⟨q, q', hk, ?_, hvq⟩
        rw [List.foldlM_cons]
        cases mx
        · simpa [Builtin.min2] using hrun
        · simpa [Builtin.max2] using hrun
      · cases h

theorem mm_ok {o : Oper} {c : Call} (ho : o.op = .call c) (hb : c.callee = .builtin .max ∨ c.callee = .builtin .min) {slot : Option Nat} {k : V → Mem → List Nat → Option R} {x : R} (hI : Inv σ a w ρ)
    (hx : opK tt tab slot o σ k = some x) : Val P o a σ w ρ k x := by
  unfold opK at hx
  have h2 := hI.ops c.args
  rcases hb with hb | hb
  all_goals
    simp only [ho, hb] at hx
    split at hx
    · rename_i v r hv
      rw [hv] at h2
      generalize hrs : (c.args.map a.eval).toList = rs at h2
      cases h2 with
      | cons hp h2 =>
        rename_i ys y
        obtain ⟨z, q, hk, hrun, hvq⟩ := minmax_ok (P := P) hx hp h2
        refine ⟨z, q, hk, ?_, hvq⟩
        rw [run_call_builtin ho hb]
        simp only [builtin, Builtin.max_, Builtin.min_, hrs, Sem.run_bind, Sem.run_pure, Result.andThen_ok]
        simp only [cond_true, cond_false] at hrun
        rw [hrun]
        rfl
    · cases hx

/-! ### slices -/
theorem boundK_spec {v : Option V} {dflt n : Nat} {k : Nat → Option R} {x : R} (h : boundK v dflt n k = some x) :
    (v = none ∧ k dflt = some x) ∨ ∃ kd i, v = some (.int kd i) ∧ 0 ≤ i ∧ i ≤ n ∧ i.toNat ≤ n ∧ k i.toNat = some x := by
  unfold boundK at h
  split at h
  · exact .inl ⟨rfl, h⟩
  · rename_i kd i
    obtain ⟨h1, h2⟩ := cond_none h
    obtain ⟨a, b, c⟩ := inLe_spec h1
    exact .inr ⟨kd, i, rfl, a, b, c, h2⟩
  · cases h

/-- bounds of a slice expression, as the model takes them: (l, h, m) -/
theorem bounds_run {sl : Bool} {n cap : Nat} {lo hi : Option Operand} (hI : Inv σ a w ρ) (hnn : n ≤ cap)
    {k : Nat → Nat → Option R} {x : R} (hx : (boundK (hi.map (evO σ)) n n fun b => boundK (lo.map (evO σ)) 0 b fun aa => k aa b) = some x) :
    ∃ l h, l ≤ h ∧ h ≤ n ∧ k l h = some x ∧ (Instr.sliceBounds sl n cap (lo.map a.eval) (hi.map a.eval) none).run P w = .ok (l, h, cap) w := by
  have lower : ∀ (b : Nat), b ≤ n → (boundK (lo.map (evO σ)) 0 b fun aa => k aa b) = some x → ∃ l, l ≤ b ∧ k l b = some x ∧
      ((lo = none ∧ l = 0) ∨ ∃ y kd, ∃ i : Int, lo = some y ∧ a.eval y = .int kd i ∧ 0 ≤ i ∧ i ≤ (b : Int) ∧ i.toNat = l) := by
    intro b hb h
    rcases boundK_spec h with ⟨h1, h2⟩ | ⟨kd, i, h1, h2, h3, h4, h5⟩
    · cases lo with
      | none => exact ⟨0, Nat.zero_le _, h2, .inl ⟨rfl, rfl⟩⟩
      | some y => simp at h1
    · cases lo with
      | none => simp at h1
      | some y =>
        simp only [Option.map_some, Option.some.injEq] at h1
        have hv := hI.op y
        rw [h1] at hv
        have hv : a.eval y = .int kd i := hv
        exact ⟨i.toNat, h4, h5, .inr ⟨y, kd, i, rfl, hv, h2, h3, rfl⟩⟩
  have fin : ∀ (hv : Option Value) (b l : Nat), ((hv = none ∧ b = n) ∨ ∃ kd, ∃ i : Int, hv = some (.int kd i) ∧ 0 ≤ i ∧ i ≤ (cap : Int) ∧ i.toNat = b) →
      ((lo = none ∧ l = 0) ∨ ∃ y kd, ∃ i : Int, lo = some y ∧ a.eval y = .int kd i ∧ 0 ≤ i ∧ i ≤ (b : Int) ∧ i.toNat = l) →
      (Instr.sliceBounds sl n cap (lo.map a.eval) hv none).run P w = .ok (l, b, cap) w := by
    intro hv b l h1 h2
    rcases h1 with ⟨rfl, rfl⟩ | ⟨kd, i, rfl, g1, g2, rfl⟩
    · rcases h2 with ⟨rfl, rfl⟩ | ⟨y, kd, i, rfl, g3, g4, g5, rfl⟩
      · simp [Instr.sliceBounds]
      · simp [Instr.sliceBounds, Instr.sliceBound, g3, asIntOf, g4, g5]
    · rcases h2 with ⟨rfl, rfl⟩ | ⟨y, kd', i', rfl, g3, g4, g5, rfl⟩
      · simp [Instr.sliceBounds, Instr.sliceBound, asIntOf, g1, g2]
      · have : i' ≤ (i.toNat : Int) := g5
        simp [Instr.sliceBounds, Instr.sliceBound, asIntOf, g1, g2, g3, g4]
        omega
  rcases boundK_spec hx with ⟨h1, h2⟩ | ⟨kd, i, h1, h2, h3, h4, h5⟩
  · cases hi with
    | some y => simp at h1
    | none =>
      obtain ⟨l, hl, hk, hr⟩ := lower n (Nat.le_refl _) h2
      exact ⟨l, n, hl, Nat.le_refl _, hk, fin _ n l (.inl ⟨rfl, rfl⟩) hr⟩
  · cases hi with
    | none => simp at h1
    | some y =>
      simp only [Option.map_some, Option.some.injEq] at h1
      have hv := hI.op y
      rw [h1] at hv
      have hv : a.eval y = .int kd i := hv
      obtain ⟨l, hl, hk, hr⟩ := lower i.toNat h4 h5
      exact ⟨l, i.toNat, hl, h4, hk, fin _ i.toNat l (.inr ⟨kd, i, by rw [Option.map_some, hv], h2, by omega, rfl⟩) hr⟩

theorem RoR_part {mem : Mem} {cells : List Value} {wd n : Nat} {ao : Option Addr} {cap : Nat} (h : RoR w ρ mem cells wd n (.slice ao n cap)) {l b : Nat} (hl : l ≤ b) (hb : b ≤ n) :
    RoR w ρ mem (sub cells (l * wd) ((b - l) * wd)) wd (b - l) (.slice (if cap = l then ao else ao.map (·.add (l * wd))) (b - l) (cap - l)) := by
  obtain ⟨a', cap', he, hnc, hlen, hc⟩ := h
  cases he
  have hle : l * wd + (b - l) * wd ≤ cells.length := by
    rw [hlen, ← Nat.add_mul]
    exact Nat.mul_le_mul_right _ (by omega)
  refine ⟨_, _, rfl, by omega, sub_length _ _ _ hle, fun hne => ?_⟩
  obtain ⟨bb, off, rfl, hn, hbb, hcell⟩ := hc (by omega)
  rw [if_neg (by omega)]
  refine ⟨bb, off + l * wd, by rw [Option.map_some, add_none], hn, hbb, fun j v hv => ?_⟩
  have := hcell _ v (sub_get _ _ _ j v hv)
  rwa [Nat.add_assoc]

theorem RoR_z0 {mem : Mem} {cells : List Value} {wd : Nat} {ao : Option Addr} {cap : Nat} (hc : cells = []) : RoR w ρ mem cells wd 0 (.slice ao 0 cap) := by
  subst hc
  exact ⟨_, _, rfl, Nat.zero_le _, by simp, fun h => absurd rfl h⟩

theorem run_slice_slice {t e : TypeId} {i : TypeInfo} (hu : P.underlying t = some (.slice e)) (hi : P.info? e = some i) {ao : Option Addr} {n cap l h : Nat} {lo hi' : Option Value}
    (hb : (Instr.sliceBounds true n cap lo hi' none).run P w = .ok (l, h, cap) w) :
    (Instr.sliceAt t (.slice ao n cap) lo hi' none).run P w = .ok (.slice (if cap = l then ao else ao.map (·.add (l * i.size))) (h - l) (cap - l)) w := by
  simp only [Instr.sliceAt, Sem.run_bind, run_underlying hu, Result.andThen_ok, Instr.slice, hb, run_sizeOf hi, Sem.run_pure]

theorem run_slice_array {t e : TypeId} {i : TypeInfo} {m : Nat} (hu : P.underlying t = some (.array m e)) (hi : P.info? e = some i) {ad : Addr} {l h : Nat} {lo hi' : Option Value}
    (hb : (Instr.sliceBounds false m m lo hi' none).run P w = .ok (l, h, m) w) :
    (Instr.sliceAt t (.pointer (some ad)) lo hi' none).run P w = .ok (.slice (some (if m = l then ad else ad.add (l * i.size))) (h - l) (m - l)) w := by
  simp only [Instr.sliceAt, Sem.run_bind, run_underlying hu, Result.andThen_ok, Instr.sureAddr, hb, run_sizeOf hi, Sem.run_pure]

theorem flatten_sub (m : Nat) (xss : List (List Int)) (h : ∀ xs ∈ xss, xs.length = m) (l n : Nat) : (sub xss l n).flatten = sub xss.flatten (l * m) (n * m) := by
  have hd : ∀ (xss : List (List Int)), (∀ xs ∈ xss, xs.length = m) → ∀ l, (xss.drop l).flatten = xss.flatten.drop (l * m) := by
    intro xss
    induction xss with
    | nil => intro _ l; simp
    | cons x r ih =>
      intro h l
      cases l with
      | zero => simp
      | succ l =>
        rw [List.drop_succ_cons, ih (fun y hy => h y (by simp [hy])), List.flatten_cons, Nat.add_mul, Nat.one_mul, Nat.add_comm, ← List.drop_drop, ← h x (by simp), List.drop_left]
  have ht : ∀ (xss : List (List Int)), (∀ xs ∈ xss, xs.length = m) → ∀ l, (xss.take l).flatten = xss.flatten.take (l * m) := by
    intro xss
    induction xss with
    | nil => intro _ l; simp
    | cons x r ih =>
      intro h l
      cases l with
      | zero => simp
      | succ l =>
        have hx := h x (by simp)
        rw [List.take_succ_cons, List.flatten_cons, List.flatten_cons, ih (fun y hy => h y (by simp [hy])), Nat.add_mul, Nat.one_mul, Nat.add_comm, ← hx, List.take_append, List.take_of_length_le (Nat.le_add_right _ _), Nat.add_sub_cancel_left]
  unfold sub
  rw [ht _ (fun xs hx => h xs (List.mem_of_mem_drop hx)), hd _ h]

theorem all2_drop {α β : Type} {p : α → β → Prop} {xs : List α} {ys : List β} (h : All2 p xs ys) : ∀ n, All2 p (xs.drop n) (ys.drop n) := by
  induction h with
  | nil => intro n; simp; exact .nil
  | cons hp h ih => intro n; cases n with
    | zero => exact .cons hp h
    | succ n => exact ih n
theorem all2_take {α β : Type} {p : α → β → Prop} {xs : List α} {ys : List β} (h : All2 p xs ys) : ∀ n, All2 p (xs.take n) (ys.take n) := by
  induction h with
  | nil => intro n; simp; exact .nil
  | cons hp h ih => intro n; cases n with
    | zero => exact .nil
    | succ n => exact .cons hp (ih n)
theorem all2_sub {α β : Type} {p : α → β → Prop} {xs : List α} {ys : List β} (h : All2 p xs ys) (o s : Nat) : All2 p (sub xs o s) (sub ys o s) := all2_take (all2_drop h o) s

theorem isZ_spec {v : Option V} (h : isZ v = true) : ∃ kd, v = some (.int kd 0) := by
  unfold isZ at h
  split at h
  · rename_i kd i
    have : i = 0 := by simpa using h
    subst this
    exact ⟨kd, rfl⟩
  · cases h

theorem isZ_op {y : Option Operand} (hI : Inv σ a w ρ) (h : isZ (y.map (evO σ)) = true) : ∃ kd, y.map a.eval = some (.int kd 0) := by
  obtain ⟨kd, hk⟩ := isZ_spec h
  cases y with
  | none => simp at hk
  | some y =>
    simp only [Option.map_some, Option.some.injEq] at hk
    have hv := hI.op y
    rw [hk] at hv
    exact ⟨kd, congrArg some hv⟩

theorem sliceAt_ok {o : Oper} {t : TypeId} {y : Operand} {lo hi mx : Option Operand} (ho : o.op = .slice t y lo hi mx) {r : Value} (h : (Instr.sliceAt t (a.eval y) (lo.map a.eval) (hi.map a.eval) (mx.map a.eval)).run P w = .ok r w) :
    (execOp a.eval o).run P w = .ok (.value r) w := by
  simp only [execOp, ho, Sem.run_bind, h, Result.andThen_ok, Sem.run_pure]

theorem slice_ok (hT : TTok P tt) {o : Oper} {t : TypeId} {y : Operand} {lo hi mx : Option Operand} (ho : o.op = .slice t y lo hi mx) {slot : Option Nat} {k : V → Mem → List Nat → Option R} {x : R} (hI : Inv σ a w ρ)
    (hx : opK tt tab slot o σ k = some x) : Val P o a σ w ρ k x := by
  unfold opK at hx
  simp only [ho] at hx
  have hv := hI.op y
  unfold sliceK at hx
  split at hx
  · -- three indexes, all 0
    rename_i m hmx
    obtain ⟨hb, hx⟩ := cond_none hx
    simp only [Bool.and_eq_true] at hb
    obtain ⟨⟨hz1, hz2⟩, hz3⟩ := hb
    rw [← hmx] at hz1
    split at hx
    · rename_i e s0 b0 zz hl
      have hu : P.underlying t = _ := (hT _ _ hl).desc
      split at hx
      case h_2 => cases hx
      rename_i te hle
      split at hx
      · rename_i n hn
        obtain ⟨ad, cc, hev⟩ := len_spec hn hv
        obtain ⟨k1, h1⟩ := isZ_op hI hz1
        obtain ⟨k2, h2⟩ := isZ_op hI hz2
        obtain ⟨⟨i, hi', hsz, _⟩, _, _, _⟩ := hT _ _ hle
        have hlo : lo.map a.eval = none ∨ ∃ k3, lo.map a.eval = some (.int k3 0) := by
          cases lo with
          | none => exact .inl rfl
          | some q =>
            have hz3' : isZ ((some q : Option Operand).map (evO σ)) = true := hz3
            exact .inr (isZ_op hI hz3')
        refine ⟨.z0, .slice (if (0 : Nat) = 0 then ad else none) 0 0, hx, sliceAt_ok ho ?_, ⟨ad, by simp⟩⟩
        rcases hlo with h3 | ⟨k3, h3⟩
        · simp [h1, h2, h3, hev, Instr.sliceAt, run_underlying hu, Instr.slice, Instr.sliceBounds, Instr.sliceBound, asIntOf, run_sizeOf hi']
        · simp [h1, h2, h3, hev, Instr.sliceAt, run_underlying hu, Instr.slice, Instr.sliceBounds, Instr.sliceBound, asIntOf, run_sizeOf hi']
      · cases hx
    · cases hx
  · rename_i hmx
    have hmx : mx = none := by cases mx <;> simp at hmx ⊢
    subst hmx
    split at hx
    · rename_i e s0 b0 zz hl
      have hu : P.underlying t = _ := (hT _ _ hl).desc
      split at hx
      · rename_i te hle
        obtain ⟨⟨i, hi', hsz, _⟩, _, _, hpos⟩ := hT _ _ hle
        split at hx
        · rename_i h off n he
          rw [he] at hv
          split at hx
          · rename_i e' c hm
            obtain ⟨hb, hx⟩ := cond_none hx
            have hb := beq_eq' hb
            obtain ⟨e'', c', ao, cap, hm', hρ, hle', hvv⟩ := hv
            rw [hm] at hm'
            cases hm'
            have hbk := hI.wr.blk h _ hρ
            rw [hm] at hbk
            obtain ⟨a2, cap2, hrl, hcl, hc⟩ := hbk
            cases hrl
            have hbase : cap ≠ 0 → ∃ r, ao = some ⟨r, 0, none⟩ := fun hne => by
              rcases hc with ⟨h0, _⟩ | ⟨r, cur, _, rfl, _⟩
              · exact absurd h0 hne
              · exact ⟨r, rfl⟩
            rcases hvv with ⟨rfl, hev⟩ | ⟨hoff, a', cap', hev, hnc', hh⟩
            · obtain ⟨l, b, h1, h2, hk, hrun⟩ := bounds_run (P := P) (sl := true) hI (n := n) (cap := cap) (by omega) hx
              refine ⟨_, _, hk, sliceAt_ok ho (by rw [hev]; exact run_slice_slice hu hi' hrun), ?_⟩
              refine ⟨e', c, ao, cap, hm, hρ, by omega, ?_⟩
              by_cases hl0 : l = 0
              · subst hl0
                refine .inl ⟨by simp, ?_⟩
                congr 1
                · split
                  · rfl
                  · rename_i hc0
                    obtain ⟨r, rfl⟩ := hbase hc0
                    simp [Addr.add]
              · refine .inr ⟨by simpa using hl0, _, _, rfl, by omega, fun hne => ?_⟩
                obtain ⟨r, rfl⟩ := hbase (by omega)
                refine ⟨r, rfl, ?_⟩
                rw [if_neg (by omega), Option.map_some, add_none, hsz, hb]
                simp
            · obtain ⟨l, b, h1, h2, hk, hrun⟩ := bounds_run (P := P) (sl := true) hI (n := n) (cap := cap') hnc' hx
              refine ⟨_, _, hk, sliceAt_ok ho (by rw [hev]; exact run_slice_slice hu hi' hrun), ?_⟩
              refine ⟨e', c, ao, cap, hm, hρ, by omega, .inr ⟨by omega, (if cap' = l then a' else a'.map (·.add (l * i.size))), cap' - l, rfl, Nat.sub_le_sub_right (Nat.le_trans h2 hnc') l, ?_⟩⟩
              intro hne
              have hn0 : n ≠ 0 := by clear hc hbase; omega
              obtain ⟨r, rfl, ha'⟩ := hh hn0
              refine ⟨r, rfl, ?_⟩
              have hcl0 : cap' ≠ l := by clear hc hbase; omega
              rw [ha', if_neg hcl0, Option.map_some, add_none, hsz, hb, Nat.add_mul]
          · cases hx
        · rename_i h oo s n he
          rw [he] at hv
          obtain ⟨hb, hx⟩ := cond_none hx
          have hb := beq_eq' hb
          obtain ⟨m, c, bb, hm, hρ, hle', hs0, a', cap', hev, hnc', hh⟩ := hv
          obtain ⟨l, b, h1, h2, hk, hrun⟩ := bounds_run (P := P) (sl := true) hI (n := n) (cap := cap') hnc' hx
          refine ⟨_, _, hk, sliceAt_ok ho (by rw [hev]; exact run_slice_slice hu hi' hrun), ?_⟩
          have hmul : l * s + (b - l) * s ≤ n * s := by rw [← Nat.add_mul]; exact Nat.mul_le_mul_right _ (by omega)
          refine ⟨m, c, bb, hm, hρ, by omega, hs0, _, _, rfl, by omega, fun hne => ?_⟩
          have ha' := hh (by omega)
          rw [ha', if_neg (by omega), Option.map_some, add_none, hsz, hb]
        · rename_i kd xs he
          rw [he] at hv
          obtain ⟨hb, hx⟩ := cond_none hx
          have hb := beq_eq' hb
          have hro : RoR w ρ σ.mem (iv kd xs) 1 xs.length (a.eval y) := hv
          obtain ⟨ao, cap, hev, hnc, hrest⟩ := hro
          obtain ⟨l, b, h1, h2, hk, hrun⟩ := bounds_run (P := P) (sl := true) hI (n := xs.length) (cap := cap) hnc hx
          refine ⟨_, _, hk, sliceAt_ok ho (by rw [hev]; exact run_slice_slice hu hi' hrun), ?_⟩
          have := RoR_part (w := w) (ρ := ρ) (mem := σ.mem) (l := l) (b := b) (ao := ao) (cap := cap) (wd := 1) (n := xs.length) (cells := iv kd xs) ⟨ao, cap, rfl, hnc, hrest⟩ h1 h2
          rw [subn_eq, hsz, hb]
          show RoR w ρ σ.mem (iv kd (sub xs l (b - l))) 1 (sub xs l (b - l)).length _
          rw [sub_length xs _ _ (by omega), iv_sub]
          simpa using this
        · rename_i xs he
          rw [he] at hv
          obtain ⟨hb, hx⟩ := cond_none hx
          have hb := beq_eq' hb
          have hro : RoR w ρ σ.mem (bv xs) 1 xs.length (a.eval y) := hv
          obtain ⟨ao, cap, hev, hnc, hrest⟩ := hro
          obtain ⟨l, b, h1, h2, hk, hrun⟩ := bounds_run (P := P) (sl := true) hI (n := xs.length) (cap := cap) hnc hx
          refine ⟨_, _, hk, sliceAt_ok ho (by rw [hev]; exact run_slice_slice hu hi' hrun), ?_⟩
          have := RoR_part (w := w) (ρ := ρ) (mem := σ.mem) (l := l) (b := b) (ao := ao) (cap := cap) (wd := 1) (n := xs.length) (cells := bv xs) ⟨ao, cap, rfl, hnc, hrest⟩ h1 h2
          rw [subn_eq, hsz, hb]
          show RoR w ρ σ.mem (bv (sub xs l (b - l))) 1 (sub xs l (b - l)).length _
          rw [sub_length xs _ _ (by omega), bv_sub]
          simpa using this
        · rename_i m xs he
          rw [he] at hv
          obtain ⟨hb, hx⟩ := cond_none hx
          have hb := beq_eq' hb
          obtain ⟨hrows, hro⟩ := hv
          obtain ⟨ao, cap, hev, hnc, hrest⟩ := hro
          obtain ⟨l, b, h1, h2, hk, hrun⟩ := bounds_run (P := P) (sl := true) hI (n := xs.length) (cap := cap) hnc hx
          refine ⟨_, _, hk, sliceAt_ok ho (by rw [hev]; exact run_slice_slice hu hi' hrun), ?_⟩
          have := RoR_part (w := w) (ρ := ρ) (mem := σ.mem) (l := l) (b := b) (ao := ao) (cap := cap) (wd := m) (n := xs.length) (cells := iv .i64 xs.flatten) ⟨ao, cap, rfl, hnc, hrest⟩ h1 h2
          rw [subn_eq, hsz, hb]
          refine ⟨⟨hrows.1, fun q hq => hrows.2 q ?_⟩, ?_⟩
          · exact List.mem_of_mem_drop (List.mem_of_mem_take hq)
          · rw [sub_length xs _ _ (by omega), flatten_sub m xs hrows.2, iv_sub]
            exact this
        · rename_i xs he
          rw [he] at hv
          obtain ⟨hb, hx⟩ := cond_none hx
          have hb := beq_eq' hb
          obtain ⟨rs, hro, h22⟩ := hv
          obtain ⟨ao, cap, hev, hnc, hrest⟩ := hro
          obtain ⟨l, b, h1, h2, hk, hrun⟩ := bounds_run (P := P) (sl := true) hI (n := xs.length) (cap := cap) hnc hx
          refine ⟨_, _, hk, sliceAt_ok ho (by rw [hev]; exact run_slice_slice hu hi' hrun), ?_⟩
          have := RoR_part (w := w) (ρ := ρ) (mem := σ.mem) (l := l) (b := b) (ao := ao) (cap := cap) (wd := 1) (n := xs.length) (cells := rs) ⟨ao, cap, rfl, hnc, hrest⟩ h1 h2
          rw [subn_eq, hsz, hb]
          refine ⟨sub rs l (b - l), ?_, ?_⟩
          · rw [sub_length xs _ _ (by omega)]
            simpa using this
          · exact all2_sub h22 _ _
        · rename_i he
          rw [he] at hv
          obtain ⟨ao, hev⟩ := hv
          obtain ⟨l, b, h1, h2, hk, hrun⟩ := bounds_run (P := P) (sl := true) hI (n := 0) (cap := 0) (Nat.le_refl _) hx
          refine ⟨_, _, hk, sliceAt_ok ho (by rw [hev]; exact run_slice_slice hu hi' hrun), ?_⟩
          have hb0 : b = 0 := by omega
          have hl0 : l = 0 := by omega
          subst hb0; subst hl0
          exact ⟨ao, by simp⟩
        · cases hx
      · cases hx
    · rename_i m e s0 b0 zz hl
      have hu : P.underlying t = _ := (hT _ _ hl).desc
      split at hx
      · rename_i te hle
        obtain ⟨⟨i, hi', hsz, _⟩, _, _, hpos⟩ := hT _ _ hle
        split at hx
        · rename_i h oo s he
          rw [he] at hv
          split at hx
          · rename_i N c hm
            obtain ⟨hb, hx⟩ := cond_none hx
            simp only [Bool.and_eq_true] at hb
            have hb1 := Nat.le_of_ble_eq_true hb.1
            rcases (hv : PtrR ρ σ.mem h 0 oo s _) with ⟨n', c', bb, hm', hρ, hev, _, hos⟩ | ⟨e', c', bb, cap, hm', _⟩
            · rw [hm] at hm'
              cases hm'
              obtain ⟨l, b, h1, h2, hk, hrun⟩ := bounds_run (P := P) (sl := false) hI (n := m) (cap := m) (Nat.le_refl _) hx
              refine ⟨_, _, hk, sliceAt_ok ho (by rw [hev]; exact run_slice_array hu hi' hrun), ?_⟩
              have hmul : l * te.size + (b - l) * te.size ≤ m * te.size := by rw [← Nat.add_mul]; exact Nat.mul_le_mul_right _ (by omega)
              refine ⟨N, c, bb, hm, hρ, by omega, hpos, _, _, rfl, by omega, fun hne => ?_⟩
              rw [if_neg (by omega), add_none, hsz]
            · rw [hm] at hm'; cases hm'
          · cases hx
        · cases hx
      · cases hx
    · cases hx

end
end Go.Lv
