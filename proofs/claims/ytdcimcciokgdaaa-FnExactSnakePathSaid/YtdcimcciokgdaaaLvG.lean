/-
The operations of the abstract machine, sound: those that make new blocks, and stores.
-/
import Derived.Test.YtdcimcciokgdaaaLvF
import Derived.WideMake
namespace Go.Lv
open Go.RowKit
set_option linter.unusedVariables false
set_option linter.unusedSimpArgs false
set_option linter.unusedSectionVars false
variable [fr : Fr]

section
variable {P : Program} {tt : TT} {tab : Tab} {σ : St} {a : Act} {w : World} {ρ : Rho} {R : Type}

/-- what an operation does: the abstract machine goes on with a value, a memory and handles given up, and the model with what stands for them -/
def Does (P : Program) (o : Oper) (a : Act) (σ : St) (w : World) (ρ : Rho) (k : V → Mem → List Nat → Option R) (x : R) : Prop :=
  ∃ v mem' ks, k v mem' ks = some x ∧ ∀ (K : Act → World → Prop) (Q : Exit → Act → World → Prop),
    (∀ r w' ρ', VR w' ρ' mem' v r → WR w' ρ' mem' → Step w ρ σ.mem w' ρ' mem' (· ∈ ks) → K (a.put o.dst r) w') → o.wp P a w K Q

/-- one that leaves the memory alone -/
def DoesQ (P : Program) (o : Oper) (a : Act) (σ : St) (w : World) (ρ : Rho) (k : V → Mem → List Nat → Option R) (x : R) : Prop :=
  ∃ v, k v σ.mem [] = some x ∧ ∀ (K : Act → World → Prop) (Q : Exit → Act → World → Prop),
    (∀ r w' ρ', VR w' ρ' σ.mem v r → WR w' ρ' σ.mem → Step w ρ σ.mem w' ρ' σ.mem (· ∈ ([] : List Nat)) → K (a.put o.dst r) w') → o.wp P a w K Q

theorem DoesQ.does {o : Oper} {k : V → Mem → List Nat → Option R} {x : R} (h : DoesQ P o a σ w ρ k x) : Does P o a σ w ρ k x :=
  let ⟨v, h1, h2⟩ := h; ⟨v, _, _, h1, h2⟩

theorem Val.doesQ {o : Oper} {k : V → Mem → List Nat → Option R} {x : R} (hI : Inv σ a w ρ) (h : Val P o a σ w ρ k x) : DoesQ P o a σ w ρ k x := by
  obtain ⟨v, r, h1, h2, h3⟩ := h
  exact ⟨v, h1, fun K Q hK => wp_val h2 (hK r w ρ h3 hI.wr (Step.refl _ _ _ _))⟩

theorem wp_run {o : Oper} {r : Value} {w' : World} (h : (execOp a.eval o).run P w = .ok (.value r) w' ∨ ((execOp a.eval o).run P w = .ok .skip w' ∧ r = Go.undef))
    {K : Act → World → Prop} {Q : Exit → Act → World → Prop} (hK : K (a.put o.dst r) w') : o.wp P a w K Q := by
  rcases h with h | ⟨h, rfl⟩
  · exact wp_val h hK
  · exact wp_skipv h hK

theorem Does.of_run {o : Oper} {k : V → Mem → List Nat → Option R} {x : R} {v : V} {mem' : Mem} {ks : List Nat} (hk : k v mem' ks = some x) {r : Value} {w' : World} {ρ' : Rho}
    (h : (execOp a.eval o).run P w = .ok (.value r) w' ∨ ((execOp a.eval o).run P w = .ok .skip w' ∧ r = Go.undef))
    (hv : VR w' ρ' mem' v r) (hw : WR w' ρ' mem') (hs : Step w ρ σ.mem w' ρ' mem' (· ∈ ks)) : Does P o a σ w ρ k x :=
  ⟨v, mem', ks, hk, fun _ _ hK => wp_run h (hK r w' ρ' hv hw hs)⟩

theorem Step.weak {w' : World} {ρ' : Rho} {mem mem' : Mem} {K K' : Nat → Prop} (h : Step w ρ mem w' ρ' mem' K) (hk : ∀ x, K x → K' x) : Step w ρ mem w' ρ' mem' K' :=
  ⟨h.os, h.tape, h.output, h.size, h.old, fun x rl hx hl hn => h.hp x rl hx hl fun hkx => hn (hk x hkx)⟩

/-! ### literals -/
theorem places_of (hT : TTok P tt) : ∀ {fs : List Field} {ps : List (Nat × Nat)}, structPlaces tt (fs.map fun (f : Field) => (f.offset, f.type)) = some ps →
    fs.mapM (fun f => (P.info? f.type).map fun i => (f.offset, i.size)) = some ps := by
  intro fs
  induction fs with
  | nil => intro ps h; simp only [List.map_nil, structPlaces, Option.some.injEq] at h; subst h; rfl
  | cons f fs ih =>
    intro ps h
    simp only [List.map_cons, structPlaces] at h
    split at h
    · rename_i tf hl
      obtain ⟨i, hi, hsz, _⟩ := (hT _ _ hl).info
      cases hr : structPlaces tt (fs.map fun (f : Field) => (f.offset, f.type)) with
      | none => rw [hr] at h; cases h
      | some qs =>
        rw [hr] at h
        simp only [Option.map_some, Option.some.injEq] at h
        subst h
        simp [List.mapM_cons, ih hr, hi, hsz]
    · cases h

theorem ZR_VR {mem : Mem} {z : V} {zv : Value} (h : ZR z zv) : VR w ρ mem z zv := by
  cases z with
  | any => trivial
  | bool b => exact h
  | int k n => exact h
  | z0 => exact ⟨none, h⟩
  | ints n xs => exact h
  | bools n xs => exact h
  | agg vs =>
    obtain ⟨rs, rfl, h2⟩ := h
    refine ⟨rs, rfl, forall2_mono h2 fun x y _ hp => ?_⟩
    cases x <;> first | exact hp | exact hp.elim | exact ⟨none, hp⟩
  | _ => exact (h : False).elim

theorem fold_nil {N : Nat} {z v : V} {place : Nat → Option (Nat × Nat)} (h : buildFold N z place [] = some v) : z = v := by
  simpa [buildFold] using h

theorem build_ok (hT : TTok P tt) {o : Oper} {t : TypeId} {parts : Array (Nat × Operand)} (ho : o.op = .build t parts) {slot : Option Nat} {k : V → Mem → List Nat → Option R} {x : R} (hI : Inv σ a w ρ)
    (hx : opK tt tab slot o σ k = some x) : Val P o a σ w ρ k x := by
  have hrun : ∀ cells, P.built t (parts.toList.map fun (i, x) => (i, a.eval x)) = some cells → (execOp a.eval o).run P w = .ok (.value (.agg cells)) w := fun cells h => by
    unfold execOp
    simp only [ho]
    rw [Sem.run_bind, run_build w t _ cells (by simpa using h)]
    rfl
  have hz0 : ∀ (z : V) (zv : Value), ZR z zv → z.isAg = true → ∀ (N : Nat) (place : Nat → Option (Nat × Nat)) (v : V), buildFold N z place (parts.toList.map fun (i, x) => (i, evO σ x)) = some v →
      ∃ cells, Instr.fill place zv.cells (parts.toList.map fun (i, x) => (i, a.eval x)) = some cells ∧ VR w ρ σ.mem v (.agg cells) := by
    intro z zv hz hia N place v hv
    obtain ⟨cs, rfl, hH⟩ := HB_zero (w := w) (ρ := ρ) (mem := σ.mem) hz (by cases z <;> first | exact .inl ⟨_, _, rfl⟩ | exact .inr (.inl ⟨_, _, rfl⟩) | exact .inr (.inr ⟨_, rfl⟩) | cases hia)
    obtain ⟨cs', hf, hH'⟩ := fill_ok hI hv hH
    exact ⟨cs', hf, VR_HB hH'⟩
  unfold opK at hx
  simp only [ho] at hx
  split at hx
  case h_2 => cases hx
  rename_i ti hl
  have hok := hT _ _ hl
  obtain ⟨i, hi, hsz, _, zv, hzv, hz⟩ := hok.info
  obtain ⟨hia, hx⟩ := cond_none' hx
  have hia : ti.z.isAg = true := by simpa using hia
  split at hx
  · rename_i fs hd
    have hdr := hok.desc
    rw [hd] at hdr
    obtain ⟨fields, hu, hfs, _⟩ := hdr
    split at hx
    case h_2 => cases hx
    rename_i ps hps
    split at hx
    case h_2 => cases hx
    rename_i v hv
    obtain ⟨cells, hf, hr⟩ := hz0 _ _ hz hia _ _ _ hv
    refine ⟨v, .agg cells, hx, hrun cells ?_, hr⟩
    unfold Program.built
    simp only [hi, hu, hzv]
    rw [places_of hT (by rw [hfs]; exact hps)]
    simp only
    rw [← hf]
    congr 1
    funext j
    simp
  · rename_i n e hd
    have hdr : P.underlying t = some (.array n e) := by
      have := hok.desc
      rw [hd] at this
      exact this
    split at hx
    case h_2 => cases hx
    rename_i te hle
    obtain ⟨ie, hie, hsze, _⟩ := (hT _ _ hle).info
    split at hx
    case h_2 => cases hx
    rename_i v hv
    obtain ⟨cells, hf, hr⟩ := hz0 _ _ hz hia _ _ _ hv
    refine ⟨v, .agg cells, hx, hrun cells ?_, hr⟩
    unfold Program.built
    simp only [hi, hdr, hzv, hie, hsze]
    exact hf
  · cases hx

/-! ### new blocks -/
theorem newB_ok {mem : Mem} (hw : WR w ρ mem) {slot : Option Nat} {b : Blk} {k : Nat → Mem → Option R} {x : R} (h : newB mem slot b k = some x) {w' : World} {rl : Rl}
    (hsz : w.heap.size ≤ w'.heap.size) (hos : w'.os = w.os) (htape : w'.tape = w.tape) (hout : w'.output = w.output)
    (hheap : ∀ r, r < w.heap.size → w'.heap[r]? = w.heap[r]?) (hb : ∀ r, rl.blk = some r → w.heap.size ≤ r)
    (hk : ∀ ρ' mem', Step w ρ mem w' ρ' mem' (fun _ => False) → BlkR w' ρ' mem' b rl) :
    ∃ h' mem' ρ', k h' mem' = some x ∧ WR w' ρ' mem' ∧ Step w ρ mem w' ρ' mem' (fun _ => False) ∧ ρ'[h']? = some rl ∧ mget mem' h' = b := by
  unfold newB at h
  split at h
  · have hs := step_new hw hsz hos htape hout hheap (rl := rl) (b := b) hb
    refine ⟨_, _, _, h, wr_new hw hs hheap hb (hk _ _ hs), hs, ?_, ?_⟩
    · rw [← hw.len]; simp
    · rw [mget_append, if_pos rfl]
  · rename_i s
    split at h
    · rename_i hd
      obtain ⟨h1, h2⟩ := cond_none h
      have hl := Nat.blt_eq.mp h1
      have hs : Step w ρ mem w' (ρ.set s rl) (mset mem s b) (fun _ => False) := step_fill hw hl hd hsz hos htape hout hheap hb
      refine ⟨_, _, _, h2, wr_fill hw hl hd hs hheap hb (hk _ _ hs), hs, ?_, ?_⟩
      · rw [List.getElem?_set_self (by rw [hw.len]; exact hl)]
      · rw [mget_mset _ _ _ _ hl, if_pos rfl]
    · cases h

/-- a variable's first content -/
theorem blk_ok {mem : Mem} {v : V} {r : Value} (h : VR w ρ mem v r) {b : Blk} (hb : v.blk = some b) :
    ∃ n c rs, b = .var n c ∧ r.cells = List.toArray rs ∧ rs.length = n ∧ CR w ρ mem c rs ∧ c.wd = 1 ∧ v.sz = n := by
  have one : v.flat = true → v.blk = some (.var 1 (.rv [v])) → v.sz = 1 → ∃ n c rs, b = .var n c ∧ r.cells = List.toArray rs ∧ rs.length = n ∧ CR w ρ mem c rs ∧ c.wd = 1 ∧ v.sz = n := fun hf he hsz => by
    rw [he] at hb
    cases hb
    have hvf := VF_flat h hf
    exact ⟨1, .rv [v], [r], rfl, (VF_one hvf).1, rfl, .cons hvf .nil, rfl, hsz⟩
  cases v with
  | ints n xs =>
    simp only [V.blk, Option.some.injEq] at hb; subst hb
    obtain ⟨h1, rfl⟩ := h
    exact ⟨n, _, iv .i64 xs, rfl, rfl, by rw [iv_length]; exact h1, rfl, rfl, rfl⟩
  | bools n xs =>
    simp only [V.blk, Option.some.injEq] at hb; subst hb
    obtain ⟨h1, rfl⟩ := h
    exact ⟨n, _, bv xs, rfl, rfl, by rw [bv_length]; exact h1, rfl, rfl, rfl⟩
  | agg vs =>
    simp only [V.blk, Option.some.injEq] at hb; subst hb
    obtain ⟨rs, rfl, h2⟩ := h
    exact ⟨_, .rv vs, rs, rfl, rfl, (all2_length h2).symm, h2, rfl, rfl⟩
  | int kd n =>
    simp only [V.blk, Option.some.injEq] at hb; subst hb
    have h : r = .int kd n := h
    subst h
    exact ⟨1, _, [.int kd n], rfl, rfl, rfl, rfl, rfl, rfl⟩
  | bool t =>
    simp only [V.blk, Option.some.injEq] at hb; subst hb
    have h : r = .bool t := h
    subst h
    exact ⟨1, _, [.bool t], rfl, rfl, rfl, rfl, rfl, rfl⟩
  | z0 => exact one rfl rfl rfl
  | ri _ _ => exact one rfl rfl rfl
  | rb _ => exact one rfl rfl rfl
  | rr _ _ => exact one rfl rfl rfl
  | rv _ => exact one rfl rfl rfl
  | fn _ _ _ => exact one rfl rfl rfl
  | _ => simp [V.blk, V.flat] at hb

theorem heap_new {obj : Obj} : ∀ r, r < w.heap.size → (w.alloc obj).heap[r]? = w.heap[r]? := fun r hr => heap_alloc_old w obj hr

theorem run_alloc {t : TypeId} {i : TypeInfo} {zv : Value} (hi : P.info? t = some i) (hz : i.zero = some zv) : (Instr.alloc t true (.tuple #[])).run P w = .ok (.pointer (some ⟨w.heap.size, 0, none⟩)) (w.alloc (.cells zv.cells t)) := by
  unfold Instr.alloc
  rw [Sem.run_bind, run_zeroValue hi hz]
  rfl

theorem run_boxv (t : TypeId) (r : Value) : (Instr.box t r).run P w = .ok (.pointer (some ⟨w.heap.size, 0, none⟩)) (w.alloc (.cells r.cells t)) := rfl

/-- a new variable -/
theorem newVar_ok {mem : Mem} (hw : WR w ρ mem) {slot : Option Nat} {v : V} {r : Value} (hv : VR w ρ mem v r) {b : Blk} (hb : v.blk = some b) {t : TypeId} {k : Nat → Mem → Option R} {x : R} (h : newB mem slot b k = some x) :
    ∃ h' mem' ρ', k h' mem' = some x ∧ WR (w.alloc (.cells r.cells t)) ρ' mem' ∧ Step w ρ mem (w.alloc (.cells r.cells t)) ρ' mem' (fun _ => False) ∧ VR (w.alloc (.cells r.cells t)) ρ' mem' (.ptr h' 0 0 v.sz) (.pointer (some ⟨w.heap.size, 0, none⟩)) := by
  obtain ⟨n, c, rs, rfl, hcells, hlen, hcr, hwd, hsz⟩ := blk_ok hv hb
  obtain ⟨h', mem', ρ', hk, hwr, hst, hρ, hm⟩ := newB_ok hw h (w' := w.alloc (.cells r.cells t)) (rl := .var w.heap.size) (by simp) rfl rfl rfl heap_new
    (fun r' hr' => by simp only [Rl.blk, Option.some.injEq] at hr'; omega)
    (fun ρ' mem' hs => ⟨w.heap.size, t, rs, rfl, by rw [← hcells]; exact heap_alloc_new w _, hlen, CR.step hs (fun _ _ h => h) hcr, hwd⟩)
  exact ⟨h', mem', ρ', hk, hwr, hst, .inl ⟨n, c, w.heap.size, hm, hρ, rfl, rfl, by omega⟩⟩

theorem alloc_ok (hT : TTok P tt) {o : Oper} {t : TypeId} (ho : o.op = .alloc t) {slot : Option Nat} {k : V → Mem → List Nat → Option R} {x : R} (hI : Inv σ a w ρ)
    (hx : opK tt tab slot o σ k = some x) : Does P o a σ w ρ k x := by
  unfold opK at hx
  simp only [ho] at hx
  split at hx
  case h_2 => cases hx
  rename_i ti hl
  obtain ⟨i, hi, hsz, _, zv, hzv, hz⟩ := (hT _ _ hl).info
  split at hx
  case h_2 => cases hx
  rename_i b hb
  obtain ⟨h', mem', ρ', hk, hwr, hst, hv⟩ := newVar_ok hI.wr (ZR_VR hz) hb (t := t) hx
  refine Does.of_run hk (.inl ?_) hv hwr (hst.weak fun _ h => h.elim)
  unfold execOp
  simp only [ho]
  rw [Sem.run_bind, run_alloc hi hzv]
  rfl

theorem mem_sub {α : Type} {xs : List α} {o n : Nat} {x : α} (h : x ∈ sub xs o n) : x ∈ xs := List.mem_of_mem_drop (List.mem_of_mem_take h)

theorem part_ok {mem : Mem} {c : V} {rs : List Value} (h : CR w ρ mem c rs) (off n : Nat) (hle : off + n ≤ c.cnt) :
    CR w ρ mem (c.part off n) (sub rs (off * c.wd) (n * c.wd)) ∧ (c.part off n).cnt = n ∧ (c.part off n).wd = c.wd := by
  cases c with
  | ri k xs =>
    have h : rs = iv k xs := h
    subst h
    simp only [V.part, subn_eq, V.cnt, V.wd, Nat.mul_one] at hle ⊢
    exact ⟨(iv_sub k xs off n).symm, sub_length _ _ _ hle, trivial⟩
  | rb xs =>
    have h : rs = bv xs := h
    subst h
    simp only [V.part, subn_eq, V.cnt, V.wd, Nat.mul_one] at hle ⊢
    exact ⟨(bv_sub xs off n).symm, sub_length _ _ _ hle, trivial⟩
  | rr m xss =>
    obtain ⟨h1, rfl⟩ := h
    simp only [V.part, subn_eq, V.cnt, V.wd] at hle ⊢
    exact ⟨⟨⟨h1.1, fun x hx => h1.2 x (mem_sub hx)⟩, by rw [flatten_sub m xss h1.2 off n, iv_sub]⟩, sub_length _ _ _ hle, trivial⟩
  | rv vs =>
    simp only [V.part, subn_eq, V.cnt, V.wd, Nat.mul_one] at hle ⊢
    exact ⟨all2_sub h off n, sub_length _ _ _ hle, trivial⟩
  | _ => exact h.elim

theorem VG_of_g {mem : Mem} {v : V} {r : Value} (h : VF w ρ mem v r) (hg : v.g = true) : VG w ρ mem v r := by
  cases v with
  | rv _ => cases hg
  | fn _ _ _ => cases hg
  | _ => exact h

theorem ro_ok {mem : Mem} {c : V} {rs : List Value} {r : Value} (h : CR w ρ mem c rs) (hg : c.okRo = true) (hr : RoR w ρ mem rs c.wd c.cnt r) : VR w ρ mem c r := by
  cases c with
  | ri k xs =>
    have h : rs = iv k xs := h
    subst h
    exact hr
  | rb xs =>
    have h : rs = bv xs := h
    subst h
    exact hr
  | rr m xss =>
    obtain ⟨h1, rfl⟩ := h
    exact ⟨h1, hr⟩
  | rv vs =>
    refine ⟨rs, hr, forall2_mono h fun x y hx hp => VG_of_g hp ?_⟩
    simp only [V.okRo, List.all_eq_true] at hg
    exact hg x hx
  | _ => exact h.elim

theorem NL_dead {mem : Mem} (hw : WR w ρ mem) {h b : Nat} {rl : Rl} (hρ : ρ[h]? = some rl) (hl : (mget mem h).live = true) (hb : rl.blk = some b) : NL ρ (mset mem h .dead) b := by
  refine ⟨?_, hw.nf b ⟨h, rl, hρ, hl, hb⟩⟩
  rintro ⟨x, rl2, hx, hlx, hbx⟩
  rw [mget_mset _ _ _ _ (live_lt hl)] at hlx
  by_cases hxh : x = h
  · rw [if_pos hxh] at hlx; cases hlx
  · rw [if_neg hxh] at hlx
    exact hxh (hw.inj x h rl2 rl b hx hρ hlx hl hbx hb)

theorem set_self {h : Nat} {rl : Rl} (hρ : ρ[h]? = some rl) : ρ.set h rl = ρ := by
  obtain ⟨h1, h2⟩ := List.getElem?_eq_some_iff.1 hρ
  rw [← h2]; exact List.set_getElem_self h1

/-- a block is given up -/
theorem drop_ok {mem : Mem} (hw : WR w ρ mem) {h : Nat} {rl : Rl} (hρ : ρ[h]? = some rl) (hl : (mget mem h).live = true) (hv : ∀ n c, mget mem h ≠ .var n c) :
    Step w ρ mem w ρ (mset mem h .dead) (· ∈ [h]) ∧ WR w ρ (mset mem h .dead) := by
  have hs := step_chg (w' := w) hw (b' := .dead) (K := (· ∈ [h])) (rl' := rl) hρ hl (Nat.le_refl _) rfl rfl rfl (fun _ _ _ => rfl) (fun r hr => .inl hr) (fun hk => absurd (by simp) hk)
  have hwr := wr_chg (w' := w) hw (b' := .dead) (K := (· ∈ [h])) (rl' := rl) hρ hl hs (fun x n c hx hk => by
    simp only [List.mem_singleton] at hk
    subst hk
    exact hv n c hx) (fun _ _ _ => rfl) (fun r hr => .inl hr) trivial
  rw [set_self hρ] at hs hwr
  exact ⟨hs, hwr⟩

/-- the slice of one's own: what it shows -/
theorem sl_shows {mem : Mem} (hw : WR w ρ mem) {h off n : Nat} {r : Value} (hv : VR w ρ mem (.sl h off n) r) {e : TypeId} {c : V} (hm : mget mem h = .vec e c) :
    ∃ rs ad cap rl, r = .slice ad n cap ∧ n ≤ cap ∧ CR w ρ mem (c.part off n) rs ∧ (c.part off n).cnt = n ∧ (c.part off n).wd = c.wd ∧ rs.length = n * c.wd ∧ ρ[h]? = some rl ∧
      (n ≠ 0 → ∃ b o, ad = some ⟨b, o, none⟩ ∧ rl.blk = some b ∧ b < w.heap.size ∧ ∀ j u, rs[j]? = some u → w.cell? ⟨b, o + j, none⟩ = some u) := by
  obtain ⟨e', c', ao, cap, hm', hρ, hle, hvv⟩ := hv
  rw [hm] at hm'
  cases hm'
  have hbk := hw.blk h _ hρ
  rw [hm] at hbk
  obtain ⟨a2, cap2, hrl, hcl, hc⟩ := hbk
  cases hrl
  have hlen : ∀ rs : List Value, CR w ρ mem c rs → (sub rs (off * c.wd) (n * c.wd)).length = n * c.wd := fun rs hr => by
    refine sub_length _ _ _ ?_
    rw [CR_len hr, ← Nat.add_mul]
    exact Nat.mul_le_mul_right _ hle
  rcases hc with ⟨h0, hc⟩ | ⟨b, cur, hcap, rfl, hb, hmx, hsz, hc⟩
  · obtain ⟨p1, p2, p3⟩ := part_ok hc off n hle
    have hn : n = 0 := by omega
    subst hn
    rcases hvv with ⟨h1, rfl⟩ | ⟨h1, a', cap', rfl, h2, h3⟩
    · exact ⟨_, _, _, _, rfl, Nat.zero_le _, p1, p2, p3, hlen _ hc, hρ, fun h => absurd rfl h⟩
    · exact ⟨_, _, _, _, rfl, Nat.zero_le _, p1, p2, p3, hlen _ hc, hρ, fun h => absurd rfl h⟩
  · obtain ⟨p1, p2, p3⟩ := part_ok hc off n hle
    have hcell : ∀ j u, (sub (cur.toList.take (c.cnt * c.wd)) (off * c.wd) (n * c.wd))[j]? = some u → w.cell? ⟨b, off * c.wd + j, none⟩ = some u := fun j u hu => by
      rw [cell_at hb]
      have := sub_get _ _ _ j u hu
      rw [List.getElem?_take] at this
      split at this
      · simpa using this
      · cases this
    have hbs : b < w.heap.size := (Array.getElem?_eq_some_iff.1 hb).1
    have hblk : (Rl.vec (some ⟨b, 0, none⟩) cap).blk = some b := by simp [Rl.blk, Nat.ne_of_gt hcap]
    rcases hvv with ⟨rfl, rfl⟩ | ⟨h1, a', cap', rfl, h2, h3⟩
    · exact ⟨_, _, _, _, rfl, by omega, p1, p2, p3, hlen _ hc, hρ, fun _ => ⟨b, 0, rfl, hblk, hbs, by simpa using hcell⟩⟩
    · refine ⟨_, _, _, _, rfl, h2, p1, p2, p3, hlen _ hc, hρ, fun hn => ?_⟩
      obtain ⟨b', hb', rfl⟩ := h3 hn
      cases hb'
      exact ⟨b, off * c.wd, rfl, hblk, hbs, hcell⟩

theorem CR_mono {w' : World} {ρ' : Rho} {mem mem' : Mem} {c : V} {rs : List Value} (h : CR w ρ mem c rs) {K : Nat → Prop} (hs : Step w ρ mem w' ρ' mem' K) (hK : ∀ x n c, mget mem x = .var n c → ¬ K x) : CR w' ρ' mem' c rs :=
  CR.step hs (fun x hx => let ⟨n, c', hv⟩ := CR.var h x hx; hK x n c' hv) h

/-- a slice of one's own is given up for its content -/
theorem keep_ok {v : V} {r : Value} {mem : Mem} (hw : WR w ρ mem) (hv : VR w ρ mem v r) {k : V → Mem → List Nat → Option R} {x : R} (h : keepV mem v k = some x) :
    ∃ v' mem' ks, k v' mem' ks = some x ∧ VR w ρ mem' v' r ∧ WR w ρ mem' ∧ Step w ρ mem w ρ mem' (· ∈ ks) ∧ (∀ y, (mget mem' y).live = true → mget mem' y = mget mem y) := by
  have same : k v mem [] = some x → ∃ v' mem' ks, k v' mem' ks = some x ∧ VR w ρ mem' v' r ∧ WR w ρ mem' ∧ Step w ρ mem w ρ mem' (· ∈ ks) ∧ (∀ y, (mget mem' y).live = true → mget mem' y = mget mem y) := fun h =>
    ⟨v, mem, [], h, hv, hw, Step.refl _ _ _ _, fun _ _ => rfl⟩
  cases v with
  | sl hd off n =>
    simp only [keepV] at h
    split at h
    · rename_i e c hm
      obtain ⟨hg, h⟩ := cond_none h
      obtain ⟨rs, ad, cap, rl, rfl, hnc, hcr, hcnt, hwd, hlen, hρ, hcell⟩ := sl_shows hw hv hm
      have hl : (mget mem hd).live = true := by rw [hm]; rfl
      obtain ⟨hs, hwr⟩ := drop_ok hw hρ hl (fun n c hc => by rw [hm] at hc; cases hc)
      have hvar : ∀ y n c, mget mem y = .var n c → y ∉ [hd] := fun y n c hy => by
        simp only [List.mem_singleton]
        rintro rfl
        rw [hm] at hy; cases hy
      refine ⟨_, _, _, h, ro_ok (CR_mono hcr hs hvar) hg ?_, hwr, hs, fun y hy => by
        rw [mget_mset _ _ _ _ (live_lt hl)] at hy ⊢
        by_cases hyh : y = hd
        · rw [if_pos hyh] at hy; cases hy
        · rw [if_neg hyh]⟩
      rw [hcnt, hwd]
      refine ⟨ad, cap, rfl, hnc, hlen, fun hn => ?_⟩
      obtain ⟨b, o, rfl, hb, hbs, hc⟩ := hcell hn
      exact ⟨b, o, rfl, NL_dead hw hρ hl hb, hbs, hc⟩
    · cases h
  | _ => exact same h

theorem Step.seq {w1 w2 : World} {ρ1 ρ2 : Rho} {mem mem1 mem2 : Mem} {K : Nat → Prop} (h : Step w ρ mem w1 ρ1 mem1 K) (h' : Step w1 ρ1 mem1 w2 ρ2 mem2 (fun _ => False)) : Step w ρ mem w2 ρ2 mem2 K :=
  h.trans h' (fun _ h => h) (fun _ _ h => h.elim)

theorem box_ok {o : Oper} {t : TypeId} {y : Operand} (ho : o.op = .box t y) {slot : Option Nat} {k : V → Mem → List Nat → Option R} {x : R} (hI : Inv σ a w ρ)
    (hx : opK tt tab slot o σ k = some x) : Does P o a σ w ρ k x := by
  have hrun : (execOp a.eval o).run P w = .ok (.value (.pointer (some ⟨w.heap.size, 0, none⟩))) (w.alloc (.cells (a.eval y).cells t)) := by
    unfold execOp
    simp only [ho]
    rw [Sem.run_bind, run_boxv]
    rfl
  unfold opK at hx
  simp only [ho] at hx
  have hv := hI.op y
  split at hx
  · obtain ⟨v', mem', ks, hk, hv', hwr', hs', _⟩ := keep_ok hI.wr hv hx
    split at hk
    · rename_i b hb
      have hk2 : newB mem' none b (fun h' mem2 => k (.ptr h' 0 0 v'.sz) mem2 ks) = some x := hk
      obtain ⟨h', mem2, ρ', hk, hwr, hst, hvr⟩ := newVar_ok hwr' hv' hb (t := t) hk2
      exact Does.of_run hk (.inl hrun) hvr hwr (hs'.seq hst)
    · cases hk
  · split at hx
    · rename_i b hb
      obtain ⟨h', mem2, ρ', hk, hwr, hst, hvr⟩ := newVar_ok hI.wr hv hb (t := t) hx
      exact Does.of_run hk (.inl hrun) hvr hwr (hst.weak fun _ h => h.elim)
    · cases hx

theorem makeMap_ok {o : Oper} {t : TypeId} (ho : o.op = .makeMap t none) {slot : Option Nat} {k : V → Mem → List Nat → Option R} {x : R} (hI : Inv σ a w ρ)
    (hx : opK tt tab slot o σ k = some x) : Does P o a σ w ρ k x := by
  have hrun : (execOp a.eval o).run P w = .ok (.value (.map (some w.heap.size))) (w.alloc (.map #[] 0)) := by
    unfold execOp
    simp only [ho]
    rw [Sem.run_bind]
    show ((Instr.makeMap t none).run P w).andThen _ = _
    rw [run_makeMap_plain]
    rfl
  unfold opK at hx
  simp only [ho] at hx
  obtain ⟨h', mem', ρ', hk, hwr, hst, hρ, hm⟩ := newB_ok hI.wr hx (w' := w.alloc (.map #[] 0)) (rl := .map w.heap.size) (by simp) rfl rfl rfl heap_new
    (fun r' hr' => by simp only [Rl.blk, Option.some.injEq] at hr'; omega)
    (fun ρ' mem' hs => ⟨w.heap.size, #[], 0, rfl, heap_alloc_new w _, .nil⟩)
  exact Does.of_run hk (.inl hrun) ⟨[], w.heap.size, hm, hρ, rfl⟩ hwr (hst.weak fun _ h => h.elim)

end
end Go.Lv
