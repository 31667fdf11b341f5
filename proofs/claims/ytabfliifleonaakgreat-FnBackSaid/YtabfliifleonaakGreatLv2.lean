/-
An abstract machine for whole numbers, arrays and slices, proved sound against the model, part 2; without conditions.
-/
import Derived.Test.YtabfliifleonaakGreatLv1
import Derived.WideMake
import Derived.Lib.AppendZerosOnto
import Derived.Laws.MakeOwn
import Derived.DeepKeys3
import Derived.LoopN
import Derived.Tactics
set_option linter.unusedVariables false
set_option linter.unusedSimpArgs false
set_option linter.unusedSectionVars false
namespace Go.Lv
open Go.RowKit
variable [fr : Fr]
section
variable {P : Program} {tt : TT} {tab : Tab} {σ : St} {a : Act} {w : World} {ρ : Rho} {R : Type}
def Does (P : Program) (o : Oper) (a : Act) (σ : St) (w : World) (ρ : Rho) (k : V → Mem → List Nat → Option R) (x : R) : Prop :=
  ∃ v mem' ks, k v mem' ks = some x ∧ ∀ (K : Act → World → Prop) (Q : Exit → Act → World → Prop),
    (∀ r w' ρ', VR w' ρ' mem' v r → WR w' ρ' mem' → Step w ρ σ.mem w' ρ' mem' (· ∈ ks) → K (a.put o.dst r) w') → o.wp P a w K Q
def DoesQ (P : Program) (o : Oper) (a : Act) (σ : St) (w : World) (ρ : Rho) (k : V → Mem → List Nat → Option R) (x : R) : Prop :=
  ∃ v, k v σ.mem [] = some x ∧ ∀ (K : Act → World → Prop) (Q : Exit → Act → World → Prop),
    (∀ r w' ρ', VR w' ρ' σ.mem v r → WR w' ρ' σ.mem → Step w ρ σ.mem w' ρ' σ.mem (· ∈ ([] : List Nat)) → K (a.put o.dst r) w') → o.wp P a w K Q
theorem DoesQ.does {o : Oper} {k : V → Mem → List Nat → Option R} {x : R} (h : DoesQ P o a σ w ρ k x) : Does P o a σ w ρ k x :=
  let ⟨v, h1, h2⟩ := h; ⟨v, _, _, h1, h2⟩
theorem Val.doesQ {o : Oper} {k : V → Mem → List Nat → Option R} {x : R} (hI : Inv σ a w ρ) (h : Val P o a σ w ρ k x) : DoesQ P o a σ w ρ k x := by
  obtain ⟨v, r, h1, h2, h3⟩ := h
  exact ⟨v, h1, fun K Q hK => wp_val h2 (hK r w ρ h3 hI.wr (Step.refl _ _ _ _))⟩
theorem wp_run {o : Oper} {r : Value} {w' : World} (h : (execOp a.eval o).run P w = .ok (.value r) w' ∨ ((execOp a.eval o).run P w = .ok .skip w' ∧ r = Go.undef))
    {K : Act → World → Prop} {Q : Exit → Act → World → Prop} (hK : K (a.put o.dst r) w') : o.wp P a w K Q := by
  rcases h with h | ⟨h, rfl⟩
  · exact wp_val h hK
  · exact wp_skipv h hK
theorem Does.of_run {o : Oper} {k : V → Mem → List Nat → Option R} {x : R} {v : V} {mem' : Mem} {ks : List Nat} (hk : k v mem' ks = some x) {r : Value} {w' : World} {ρ' : Rho}
    (h : (execOp a.eval o).run P w = .ok (.value r) w' ∨ ((execOp a.eval o).run P w = .ok .skip w' ∧ r = Go.undef))
    (hv : VR w' ρ' mem' v r) (hw : WR w' ρ' mem') (hs : Step w ρ σ.mem w' ρ' mem' (· ∈ ks)) : Does P o a σ w ρ k x :=
  ⟨v, mem', ks, hk, fun _ _ hK => wp_run h (hK r w' ρ' hv hw hs)⟩
theorem Step.weak {w' : World} {ρ' : Rho} {mem mem' : Mem} {K K' : Nat → Prop} (h : Step w ρ mem w' ρ' mem' K) (hk : ∀ x, K x → K' x) : Step w ρ mem w' ρ' mem' K' :=
  ⟨h.os, h.tape, h.output, h.size, h.old, fun x rl hx hl hn => h.hp x rl hx hl fun hkx => hn (hk x hkx), h.drawn⟩
theorem places_of (hT : TTok P tt) : ∀ {fs : List Field} {ps : List (Nat × Nat)}, u083 tt (fs.map fun (f : Field) => (f.offset, f.type)) = some ps →
    fs.mapM (fun f => (P.info? f.type).map fun i => (f.offset, i.size)) = some ps := by
  intro fs
  induction fs with
  | nil => intro ps h; simp only [List.map_nil, u083, Option.some.injEq] at h; subst h; rfl
  | cons f fs ih =>
    intro ps h
    simp only [List.map_cons, u083] at h
    split at h
    · rename_i tf hl
      obtain ⟨i, hi, hsz, _⟩ := (hT _ _ hl).info
      cases hr : u083 tt (fs.map fun (f : Field) => (f.offset, f.type)) with
      | none => rw [hr] at h; cases h
      | some qs =>
        rw [hr] at h
        simp only [Option.map_some, Option.some.injEq] at h
        subst h
        simp [List.mapM_cons, ih hr, hi, hsz]
    · cases h
theorem ZR_VR {mem : Mem} {z : V} {zv : Value} (h : ZR z zv) : VR w ρ mem z zv := by
  cases z with
  | any => trivial
  | bool b => exact h
  | int k n => exact h
  | z0 => exact ⟨none, h⟩
  | ints n xs => exact h
  | bools n xs => exact h
  | agg vs =>
    obtain ⟨rs, rfl, h2⟩ := h
    refine ⟨rs, rfl, u026 h2 fun x y _ hp => ?_⟩
    cases x <;> first | exact hp | exact hp.elim | exact ⟨none, hp⟩
  | _ => exact (h : False).elim
theorem build_ok (hT : TTok P tt) {o : Oper} {t : TypeId} {parts : Array (Nat × Operand)} (ho : o.op = .build t parts) {slot : Option Nat} {k : V → Mem → List Nat → Option R} {x : R} (hI : Inv σ a w ρ)
    (hx : opK tt tab slot o σ k = some x) : Val P o a σ w ρ k x := by
  have hrun : ∀ cells, P.built t (parts.toList.map fun (i, x) => (i, a.eval x)) = some cells → (execOp a.eval o).run P w = .ok (.value (.agg cells)) w := fun cells h => by
    unfold execOp
    simp only [ho]
    rw [Sem.run_bind, run_build w t _ cells (by simpa using h)]
    rfl
  have hz0 : ∀ (z : V) (zv : Value), ZR z zv → z.isAg = true → ∀ (N : Nat) (place : Nat → Option (Nat × Nat)) (v : V), u087 N z place (parts.toList.map fun (i, x) => (i, evO σ x)) = some v →
      ∃ cells, Instr.fill place zv.cells (parts.toList.map fun (i, x) => (i, a.eval x)) = some cells ∧ VR w ρ σ.mem v (.agg cells) := by
    intro z zv hz hia N place v hv
    obtain ⟨cs, rfl, hH⟩ := HB_zero (w := w) (ρ := ρ) (mem := σ.mem) hz (by cases z <;> first | exact .inl ⟨_, _, rfl⟩ | exact .inr (.inl ⟨_, _, rfl⟩) | exact .inr (.inr ⟨_, rfl⟩) | cases hia)
    obtain ⟨cs', hf, hH'⟩ := fill_ok hI hv hH
    exact ⟨cs', hf, VR_HB hH'⟩
  unfold opK at hx
  simp only [ho] at hx
  split at hx
  case h_2 => cases hx
  rename_i ti hl
  have hok := hT _ _ hl
  obtain ⟨i, hi, hsz, _, zv, hzv, hz⟩ := hok.info
  obtain ⟨hia, hx⟩ := u051 hx
  have hia : ti.z.isAg = true := by simpa using hia
  split at hx
  · rename_i fs hd
    have hdr := hok.desc
    rw [hd] at hdr
    obtain ⟨fields, hu, hfs, _⟩ := hdr
    split at hx
    case h_2 => cases hx
    rename_i ps hps
    split at hx
    case h_2 => cases hx
    rename_i v hv
    obtain ⟨cells, hf, hr⟩ := hz0 _ _ hz hia _ _ _ hv
    refine ⟨v, .agg cells, hx, hrun cells ?_, hr⟩
    unfold Program.built
    simp only [hi, hu, hzv]
    rw [places_of hT (by rw [hfs]; exact hps)]
    simp only
    rw [← hf]
    congr 1
    funext j
    simp
  · rename_i n e hd
    have hdr : P.underlying t = some (.array n e) := by
      have := hok.desc
      rw [hd] at this
      exact this
    split at hx
    case h_2 => cases hx
    rename_i te hle
    obtain ⟨ie, hie, hsze, _⟩ := (hT _ _ hle).info
    split at hx
    case h_2 => cases hx
    rename_i v hv
    obtain ⟨cells, hf, hr⟩ := hz0 _ _ hz hia _ _ _ hv
    refine ⟨v, .agg cells, hx, hrun cells ?_, hr⟩
    unfold Program.built
    simp only [hi, hdr, hzv, hie, hsze]
    exact hf
  · cases hx
theorem newB_ok {mem : Mem} (hw : WR w ρ mem) {slot : Option Nat} {b : Blk} {k : Nat → Mem → Option R} {x : R} (h : newB mem slot b k = some x) {w' : World} {rl : Rl}
    (hsz : w.heap.size ≤ w'.heap.size) (hos : w'.os = w.os) (htape : w'.tape = w.tape) (hout : w'.output = w.output)
    (hheap : ∀ r, r < w.heap.size → w'.heap[r]? = w.heap[r]?) (hb : ∀ r, rl.blk = some r → w.heap.size ≤ r)
    (hk : ∀ ρ' mem', Step w ρ mem w' ρ' mem' (fun _ => False) → BlkR w' ρ' mem' b rl) (hdr : w.drawn ≤ w'.drawn := by first | exact Nat.le_refl _ | exact Nat.le_succ _ | (simp only [World.drew, World.alloc]; omega) | (simp; done)) :
    ∃ h' mem' ρ', k h' mem' = some x ∧ WR w' ρ' mem' ∧ Step w ρ mem w' ρ' mem' (fun _ => False) ∧ ρ'[h']? = some rl ∧ mget mem' h' = b := by
  unfold newB at h
  split at h
  · have hs := u223 hw hsz hos htape hout hheap (rl := rl) (b := b) hb hdr
    refine ⟨_, _, _, h, wr_new hw hs hheap hb (hk _ _ hs), hs, ?_, ?_⟩
    · rw [← hw.len]; simp
    · rw [u071, if_pos rfl]
  · rename_i s
    split at h
    · rename_i hd
      obtain ⟨h1, h2⟩ := u006 h
      have hl := Nat.blt_eq.mp h1
      have hs : Step w ρ mem w' (ρ.set s rl) (mset mem s b) (fun _ => False) := step_fill hw hl hd hsz hos htape hout hheap hb hdr
      refine ⟨_, _, _, h2, wr_fill hw hl hd hs hheap hb (hk _ _ hs), hs, ?_, ?_⟩
      · rw [List.getElem?_set_self (by rw [hw.len]; exact hl)]
      · rw [u064 _ _ _ _ hl, if_pos rfl]
    · cases h
theorem blk_ok {mem : Mem} {v : V} {r : Value} (h : VR w ρ mem v r) {b : Blk} (hb : v.blk = some b) :
    ∃ n c rs, b = .var n c ∧ r.cells = List.toArray rs ∧ rs.length = n ∧ CR w ρ mem c rs ∧ c.wd = 1 ∧ v.sz = n := by
  have one : v.flat = true → v.blk = some (.var 1 (.rv [v])) → v.sz = 1 → ∃ n c rs, b = .var n c ∧ r.cells = List.toArray rs ∧ rs.length = n ∧ CR w ρ mem c rs ∧ c.wd = 1 ∧ v.sz = n := fun hf he hsz => by
    rw [he] at hb
    cases hb
    have hvf := VF_flat h hf
    exact ⟨1, .rv [v], [r], rfl, (VF_one hvf).1, rfl, .cons hvf .nil, rfl, hsz⟩
  cases v with
  | ints n xs =>
    simp only [V.blk, Option.some.injEq] at hb; subst hb
    obtain ⟨h1, rfl⟩ := h
    exact ⟨n, _, iv .i64 xs, rfl, rfl, by rw [u054]; exact h1, rfl, rfl, rfl⟩
  | bools n xs =>
    simp only [V.blk, Option.some.injEq] at hb; subst hb
    obtain ⟨h1, rfl⟩ := h
    exact ⟨n, _, bv xs, rfl, rfl, by rw [u097]; exact h1, rfl, rfl, rfl⟩
  | agg vs =>
    simp only [V.blk, Option.some.injEq] at hb; subst hb
    obtain ⟨rs, rfl, h2⟩ := h
    exact ⟨_, .rv vs, rs, rfl, rfl, (u043 h2).symm, h2, rfl, rfl⟩
  | int kd n =>
    simp only [V.blk, Option.some.injEq] at hb; subst hb
    have h : r = .int kd n := h
    subst h
    exact ⟨1, _, [.int kd n], rfl, rfl, rfl, rfl, rfl, rfl⟩
  | bool t =>
    simp only [V.blk, Option.some.injEq] at hb; subst hb
    have h : r = .bool t := h
    subst h
    exact ⟨1, _, [.bool t], rfl, rfl, rfl, rfl, rfl, rfl⟩
  | z0 => exact one rfl rfl rfl
  | ri _ _ => exact one rfl rfl rfl
  | rb _ => exact one rfl rfl rfl
  | rr _ _ => exact one rfl rfl rfl
  | rl _ _ => exact one rfl rfl rfl
  | rv _ => exact one rfl rfl rfl
  | fn _ _ _ => exact one rfl rfl rfl
  | _ => simp [V.blk, V.flat] at hb
theorem u241 {obj : Obj} : ∀ r, r < w.heap.size → (w.alloc obj).heap[r]? = w.heap[r]? := fun r hr => heap_alloc_old w obj hr
theorem run_alloc {t : TypeId} {i : TypeInfo} {zv : Value} (hi : P.info? t = some i) (hz : i.zero = some zv) : (Instr.alloc t true (.tuple #[])).run P w = .ok (.pointer (some ⟨w.heap.size, 0, none⟩)) (w.alloc (.cells zv.cells t)) := by
  unfold Instr.alloc
  rw [Sem.run_bind, u109 hi hz]
  rfl
theorem run_boxv (t : TypeId) (r : Value) : (Instr.box t r).run P w = .ok (.pointer (some ⟨w.heap.size, 0, none⟩)) (w.alloc (.cells r.cells t)) := rfl
theorem newVar_ok {mem : Mem} (hw : WR w ρ mem) {slot : Option Nat} {v : V} {r : Value} (hv : VR w ρ mem v r) {b : Blk} (hb : v.blk = some b) {t : TypeId} {k : Nat → Mem → Option R} {x : R} (h : newB mem slot b k = some x) :
    ∃ h' mem' ρ', k h' mem' = some x ∧ WR (w.alloc (.cells r.cells t)) ρ' mem' ∧ Step w ρ mem (w.alloc (.cells r.cells t)) ρ' mem' (fun _ => False) ∧ VR (w.alloc (.cells r.cells t)) ρ' mem' (.ptr h' 0 0 v.sz) (.pointer (some ⟨w.heap.size, 0, none⟩)) := by
  obtain ⟨n, c, rs, rfl, hcells, hlen, hcr, hwd, hsz⟩ := blk_ok hv hb
  obtain ⟨h', mem', ρ', hk, hwr, hst, hρ, hm⟩ := newB_ok hw h (w' := w.alloc (.cells r.cells t)) (rl := .var w.heap.size) (by simp) rfl rfl rfl u241
    (fun r' hr' => by simp only [Rl.blk, Option.some.injEq] at hr'; omega)
    (fun ρ' mem' hs => ⟨w.heap.size, t, rs, rfl, by rw [← hcells]; exact heap_alloc_new w _, hlen, CR.step hs (fun _ _ h => h) hcr, hwd⟩)
  exact ⟨h', mem', ρ', hk, hwr, hst, .inl ⟨n, c, w.heap.size, hm, hρ, rfl, rfl, by omega⟩⟩
theorem alloc_ok (hT : TTok P tt) {o : Oper} {t : TypeId} (ho : o.op = .alloc t) {slot : Option Nat} {k : V → Mem → List Nat → Option R} {x : R} (hI : Inv σ a w ρ)
    (hx : opK tt tab slot o σ k = some x) : Does P o a σ w ρ k x := by
  unfold opK at hx
  simp only [ho] at hx
  split at hx
  case h_2 => cases hx
  rename_i ti hl
  obtain ⟨i, hi, hsz, _, zv, hzv, hz⟩ := (hT _ _ hl).info
  split at hx
  case h_2 => cases hx
  rename_i b hb
  obtain ⟨h', mem', ρ', hk, hwr, hst, hv⟩ := newVar_ok hI.wr (ZR_VR hz) hb (t := t) hx
  refine Does.of_run hk (.inl ?_) hv hwr (hst.weak fun _ h => h.elim)
  unfold execOp
  simp only [ho]
  rw [Sem.run_bind, run_alloc hi hzv]
  rfl
theorem mem_sub {α : Type} {xs : List α} {o n : Nat} {x : α} (h : x ∈ sub xs o n) : x ∈ xs := List.mem_of_mem_drop (List.mem_of_mem_take h)
theorem u276 {mem : Mem} {c : V} {rs : List Value} (h : CR w ρ mem c rs) (off n : Nat) (hle : off + n ≤ c.cnt) :
    CR w ρ mem (c.part off n) (sub rs (off * c.wd) (n * c.wd)) ∧ (c.part off n).cnt = n ∧ (c.part off n).wd = c.wd := by
  cases c with
  | ri k xs =>
    have h : rs = iv k xs := h
    subst h
    simp only [V.part, u091, V.cnt, V.wd, Nat.mul_one] at hle ⊢
    exact ⟨(u167 k xs off n).symm, u024 _ _ _ hle, trivial⟩
  | rb xs =>
    have h : rs = bv xs := h
    subst h
    simp only [V.part, u091, V.cnt, V.wd, Nat.mul_one] at hle ⊢
    exact ⟨(bv_sub xs off n).symm, u024 _ _ _ hle, trivial⟩
  | rr m xss =>
    obtain ⟨h1, rfl⟩ := h
    simp only [V.part, u091, V.cnt, V.wd] at hle ⊢
    exact ⟨⟨⟨h1.1, fun x hx => h1.2 x (mem_sub hx)⟩, by rw [u149 m xss h1.2 off n, u167]⟩, u024 _ _ _ hle, trivial⟩
  | rl k xss =>
    have h : All2 (fun xs q => RoR w ρ mem (iv k xs) 1 xs.length q) xss rs := h
    simp only [V.part, u091, V.cnt, V.wd, Nat.mul_one] at hle ⊢
    exact ⟨all2_sub h off n, u024 _ _ _ hle, trivial⟩
  | rv vs =>
    simp only [V.part, u091, V.cnt, V.wd, Nat.mul_one] at hle ⊢
    exact ⟨all2_sub h off n, u024 _ _ _ hle, trivial⟩
  | _ => exact h.elim
theorem VG_of_g {mem : Mem} {v : V} {r : Value} (h : VF w ρ mem v r) (hg : v.g = true) : VG w ρ mem v r := by
  cases v with
  | rv _ => cases hg
  | rl _ _ => cases hg
  | fn _ _ _ => cases hg
  | _ => exact h
theorem ro_ok {mem : Mem} {c : V} {rs : List Value} {r : Value} (h : CR w ρ mem c rs) (hg : c.okRo = true) (hr : RoR w ρ mem rs c.wd c.cnt r) : VR w ρ mem c r := by
  cases c with
  | ri k xs =>
    have h : rs = iv k xs := h
    subst h
    exact hr
  | rb xs =>
    have h : rs = bv xs := h
    subst h
    exact hr
  | rr m xss =>
    obtain ⟨h1, rfl⟩ := h
    exact ⟨h1, hr⟩
  | rl k xss =>
    exact ⟨rs, hr, h⟩
  | rv vs =>
    refine ⟨rs, hr, u026 h fun x y hx hp => VG_of_g hp ?_⟩
    simp only [V.okRo, List.all_eq_true] at hg
    exact hg x hx
  | _ => exact h.elim
theorem NL_dead {mem : Mem} (hw : WR w ρ mem) {h b : Nat} {rl : Rl} (hρ : ρ[h]? = some rl) (hl : (mget mem h).live = true) (hb : rl.blk = some b) : NL ρ (mset mem h .dead) b := by
  refine ⟨?_, hw.nf b ⟨h, rl, hρ, hl, hb⟩⟩
  rintro ⟨x, rl2, hx, hlx, hbx⟩
  rw [u064 _ _ _ _ (u068 hl)] at hlx
  by_cases hxh : x = h
  · rw [if_pos hxh] at hlx; cases hlx
  · rw [if_neg hxh] at hlx
    exact hxh (hw.inj x h rl2 rl b hx hρ hlx hl hbx hb)
theorem set_self {h : Nat} {rl : Rl} (hρ : ρ[h]? = some rl) : ρ.set h rl = ρ := by
  obtain ⟨h1, h2⟩ := List.getElem?_eq_some_iff.1 hρ
  rw [← h2]; exact List.set_getElem_self h1
theorem drop_ok {mem : Mem} (hw : WR w ρ mem) {h : Nat} {rl : Rl} (hρ : ρ[h]? = some rl) (hl : (mget mem h).live = true) (hv : ∀ n c, mget mem h ≠ .var n c) :
    Step w ρ mem w ρ (mset mem h .dead) (· ∈ [h]) ∧ WR w ρ (mset mem h .dead) := by
  have hs := step_chg (w' := w) hw (b' := .dead) (K := (· ∈ [h])) (rl' := rl) hρ hl (Nat.le_refl _) rfl rfl rfl (fun _ _ _ => rfl) (fun r hr => .inl hr) (fun hk => absurd (by simp) hk)
  have hwr := wr_chg (w' := w) hw (b' := .dead) (K := (· ∈ [h])) (rl' := rl) hρ hl hs (fun x n c hx hk => by
    simp only [List.mem_singleton] at hk
    subst hk
    exact hv n c hx) (fun _ _ _ => rfl) (fun r hr => .inl hr) trivial
  rw [set_self hρ] at hs hwr
  exact ⟨hs, hwr⟩
theorem u227 {mem : Mem} (hw : WR w ρ mem) {h off n : Nat} {r : Value} (hv : VR w ρ mem (.sl h off n) r) {e : TypeId} {c : V} (hm : mget mem h = .vec e c) :
    ∃ rs ad cap rl, r = .slice ad n cap ∧ n ≤ cap ∧ CR w ρ mem (c.part off n) rs ∧ (c.part off n).cnt = n ∧ (c.part off n).wd = c.wd ∧ rs.length = n * c.wd ∧ ρ[h]? = some rl ∧
      (n ≠ 0 → ∃ b o, ad = some ⟨b, o, none⟩ ∧ rl.blk = some b ∧ b < w.heap.size ∧ ∀ j u, rs[j]? = some u → w.cell? ⟨b, o + j, none⟩ = some u) := by
  obtain ⟨e', c', ao, cap, hm', hρ, hle, hvv⟩ := hv
  rw [hm] at hm'
  cases hm'
  have hbk := hw.blk h _ hρ
  rw [hm] at hbk
  obtain ⟨a2, cap2, hrl, hcl, hc⟩ := hbk
  cases hrl
  have hlen : ∀ rs : List Value, CR w ρ mem c rs → (sub rs (off * c.wd) (n * c.wd)).length = n * c.wd := fun rs hr => by
    refine u024 _ _ _ ?_
    rw [u262 hr, ← Nat.add_mul]
    exact Nat.mul_le_mul_right _ hle
  rcases hc with ⟨h0, hc⟩ | ⟨b, cur, hcap, rfl, hb, hmx, hsz, hc⟩
  · obtain ⟨p1, p2, p3⟩ := u276 hc off n hle
    have hn : n = 0 := by omega
    subst hn
    rcases hvv with ⟨h1, rfl⟩ | ⟨h1, a', cap', rfl, h2, h3⟩
    · exact ⟨_, _, _, _, rfl, Nat.zero_le _, p1, p2, p3, hlen _ hc, hρ, fun h => absurd rfl h⟩
    · exact ⟨_, _, _, _, rfl, Nat.zero_le _, p1, p2, p3, hlen _ hc, hρ, fun h => absurd rfl h⟩
  · obtain ⟨p1, p2, p3⟩ := u276 hc off n hle
    have hcell : ∀ j u, (sub (cur.toList.take (c.cnt * c.wd)) (off * c.wd) (n * c.wd))[j]? = some u → w.cell? ⟨b, off * c.wd + j, none⟩ = some u := fun j u hu => by
      rw [u286 hb]
      have := u222 _ _ _ j u hu
      rw [List.getElem?_take] at this
      split at this
      · simpa using this
      · cases this
    have hbs : b < w.heap.size := (Array.getElem?_eq_some_iff.1 hb).1
    have hblk : (Rl.vec (some ⟨b, 0, none⟩) cap).blk = some b := by simp [Rl.blk, Nat.ne_of_gt hcap]
    rcases hvv with ⟨rfl, rfl⟩ | ⟨h1, a', cap', rfl, h2, h3⟩
    · exact ⟨_, _, _, _, rfl, by omega, p1, p2, p3, hlen _ hc, hρ, fun _ => ⟨b, 0, rfl, hblk, hbs, by simpa using hcell⟩⟩
    · refine ⟨_, _, _, _, rfl, h2, p1, p2, p3, hlen _ hc, hρ, fun hn => ?_⟩
      obtain ⟨b', hb', rfl⟩ := h3 hn
      cases hb'
      exact ⟨b, off * c.wd, rfl, hblk, hbs, hcell⟩
theorem u113 {w' : World} {ρ' : Rho} {mem mem' : Mem} {c : V} {rs : List Value} (h : CR w ρ mem c rs) {K : Nat → Prop} (hs : Step w ρ mem w' ρ' mem' K) (hK : ∀ x n c, mget mem x = .var n c → ¬ K x) : CR w' ρ' mem' c rs :=
  CR.step hs (fun x hx => let ⟨n, c', hv⟩ := CR.var h x hx; hK x n c' hv) h
theorem keep_ok {v : V} {r : Value} {mem : Mem} (hw : WR w ρ mem) (hv : VR w ρ mem v r) {k : V → Mem → List Nat → Option R} {x : R} (h : keepV mem v k = some x) :
    ∃ v' mem' ks, k v' mem' ks = some x ∧ VR w ρ mem' v' r ∧ WR w ρ mem' ∧ Step w ρ mem w ρ mem' (· ∈ ks) ∧ (∀ y, (mget mem' y).live = true → mget mem' y = mget mem y) := by
  have same : k v mem [] = some x → ∃ v' mem' ks, k v' mem' ks = some x ∧ VR w ρ mem' v' r ∧ WR w ρ mem' ∧ Step w ρ mem w ρ mem' (· ∈ ks) ∧ (∀ y, (mget mem' y).live = true → mget mem' y = mget mem y) := fun h =>
    ⟨v, mem, [], h, hv, hw, Step.refl _ _ _ _, fun _ _ => rfl⟩
  cases v with
  | sl hd off n =>
    simp only [keepV] at h
    split at h
    · rename_i e c hm
      obtain ⟨hg, h⟩ := u006 h
      obtain ⟨rs, ad, cap, rl, rfl, hnc, hcr, hcnt, hwd, hlen, hρ, hcell⟩ := u227 hw hv hm
      have hl : (mget mem hd).live = true := by rw [hm]; rfl
      obtain ⟨hs, hwr⟩ := drop_ok hw hρ hl (fun n c hc => by rw [hm] at hc; cases hc)
      have hvar : ∀ y n c, mget mem y = .var n c → y ∉ [hd] := fun y n c hy => by
        simp only [List.mem_singleton]
        rintro rfl
        rw [hm] at hy; cases hy
      refine ⟨_, _, _, h, ro_ok (u113 hcr hs hvar) hg ?_, hwr, hs, fun y hy => by
        rw [u064 _ _ _ _ (u068 hl)] at hy ⊢
        by_cases hyh : y = hd
        · rw [if_pos hyh] at hy; cases hy
        · rw [if_neg hyh]⟩
      rw [hcnt, hwd]
      refine ⟨ad, cap, rfl, hnc, hlen, fun hn => ?_⟩
      obtain ⟨b, o, rfl, hb, hbs, hc⟩ := hcell hn
      exact ⟨b, o, rfl, NL_dead hw hρ hl hb, hbs, hc⟩
    · cases h
  | _ => exact same h
theorem Step.seq {w1 w2 : World} {ρ1 ρ2 : Rho} {mem mem1 mem2 : Mem} {K : Nat → Prop} (h : Step w ρ mem w1 ρ1 mem1 K) (h' : Step w1 ρ1 mem1 w2 ρ2 mem2 (fun _ => False)) : Step w ρ mem w2 ρ2 mem2 K :=
  h.trans h' (fun _ h => h) (fun _ _ h => h.elim)
theorem box_ok {o : Oper} {t : TypeId} {y : Operand} (ho : o.op = .box t y) {slot : Option Nat} {k : V → Mem → List Nat → Option R} {x : R} (hI : Inv σ a w ρ)
    (hx : opK tt tab slot o σ k = some x) : Does P o a σ w ρ k x := by
  have hrun : (execOp a.eval o).run P w = .ok (.value (.pointer (some ⟨w.heap.size, 0, none⟩))) (w.alloc (.cells (a.eval y).cells t)) := by
    unfold execOp
    simp only [ho]
    rw [Sem.run_bind, run_boxv]
    rfl
  unfold opK at hx
  simp only [ho] at hx
  have hv := hI.op y
  split at hx
  · obtain ⟨v', mem', ks, hk, hv', hwr', hs', _⟩ := keep_ok hI.wr hv hx
    split at hk
    · rename_i b hb
      have hk2 : newB mem' none b (fun h' mem2 => k (.ptr h' 0 0 v'.sz) mem2 ks) = some x := hk
      obtain ⟨h', mem2, ρ', hk, hwr, hst, hvr⟩ := newVar_ok hwr' hv' hb (t := t) hk2
      exact Does.of_run hk (.inl hrun) hvr hwr (hs'.seq hst)
    · cases hk
  · split at hx
    · rename_i b hb
      obtain ⟨h', mem2, ρ', hk, hwr, hst, hvr⟩ := newVar_ok hI.wr hv hb (t := t) hx
      exact Does.of_run hk (.inl hrun) hvr hwr (hst.weak fun _ h => h.elim)
    · cases hx
theorem mt_vals {te : TI} {c : MC} (h : MC.mt te = some c) : c.vals = [] := by
  unfold MC.mt at h
  split at h
  · cases h; rfl
  · cases h; rfl
  · cases h
theorem makeMap_ok {o : Oper} {t : TypeId} (ho : o.op = .makeMap t none) {slot : Option Nat} {k : V → Mem → List Nat → Option R} {x : R} (hI : Inv σ a w ρ)
    (hx : opK tt tab slot o σ k = some x) : Does P o a σ w ρ k x := by
  have hrun : (execOp a.eval o).run P w = .ok (.value (.map (some w.heap.size))) (w.alloc (.map #[] 0)) := by
    unfold execOp
    simp only [ho]
    rw [Sem.run_bind]
    show ((Instr.makeMap t none).run P w).andThen _ = _
    rw [run_makeMap_plain]
    rfl
  unfold opK at hx
  simp only [ho] at hx
  split at hx
  case h_2 => cases hx
  split at hx
  case h_2 => cases hx
  split at hx
  case h_2 => cases hx
  rename_i c n hmt _
  obtain ⟨h', mem', ρ', hk, hwr, hst, hρ, hm⟩ := newB_ok hI.wr hx (w' := w.alloc (.map #[] 0)) (rl := .map w.heap.size) (by simp) rfl rfl rfl u241
    (fun r' hr' => by simp only [Rl.blk, Option.some.injEq] at hr'; omega)
    (fun ρ' mem' hs => ⟨w.heap.size, #[], 0, rfl, heap_alloc_new w _, by rw [mt_vals hmt]; exact .nil⟩)
  exact Does.of_run hk (.inl hrun) ⟨n, c, w.heap.size, hm, hρ, rfl⟩ hwr (hst.weak fun _ h => h.elim)
end
end Go.Lv
namespace Go.Lv
open Go.RowKit
variable [fr : Fr]
section
variable {P : Program} {tt : TT} {tab : Tab} {σ : St} {a : Act} {w : World} {ρ : Rho} {R : Type}
theorem chg_ok {mem : Mem} (hw : WR w ρ mem) {h : Nat} {rl : Rl} {b' : Blk} (hρ : ρ[h]? = some rl) (hl : (mget mem h).live = true) {w' : World}
    (hsz : w.heap.size ≤ w'.heap.size) (hos : w'.os = w.os) (htape : w'.tape = w.tape) (hout : w'.output = w.output)
    (hheap : ∀ r, r < w.heap.size → rl.blk ≠ some r → w'.heap[r]? = w.heap[r]?) (hsh : Shape (mget mem h) b')
    (hk : Step w ρ mem w' ρ (mset mem h b') (fun _ => False) → BlkR w' ρ (mset mem h b') b' rl) (hdr : w.drawn ≤ w'.drawn := by first | exact Nat.le_refl _ | exact Nat.le_succ _ | (simp only [World.drew, World.alloc]; omega) | (simp; done)) :
    Step w ρ mem w' ρ (mset mem h b') (fun _ => False) ∧ WR w' ρ (mset mem h b') := by
  have hs := step_chg (w' := w') hw (b' := b') (K := fun _ => False) (rl' := rl) hρ hl hsz hos htape hout hheap (fun r hr => .inl hr) (fun _ => ⟨rfl, hsh⟩) hdr
  have hs2 := hs
  rw [set_self hρ] at hs2
  have hwr := wr_chg (w' := w') hw (b' := b') (rl' := rl) hρ hl hs (fun _ _ _ _ h => h) hheap (fun r hr => .inl hr) (by rw [set_self hρ]; exact hk hs2)
  rw [set_self hρ] at hwr
  exact ⟨hs2, hwr⟩
def u206 (r : Value) (vs : List Value) (s : Nat) : Prop := r.cells = vs.toArray ∧ vs.length = s ∧ ∀ u ∈ vs, u.oneCell' = true
theorem cells_iv (xs : List Int) (n : Nat) (h : xs.length = n) : u206 (.agg (iv .i64 xs).toArray) (iv .i64 xs) n := ⟨rfl, by rw [u054]; exact h, fun u hu => by
  simp only [iv, List.mem_map] at hu
  obtain ⟨x, _, rfl⟩ := hu
  rfl⟩
theorem cells_bv (xs : List Bool) (n : Nat) (h : xs.length = n) : u206 (.agg (bv xs).toArray) (bv xs) n := ⟨rfl, by rw [u097]; exact h, fun u hu => by
  simp only [bv, List.mem_map] at hu
  obtain ⟨x, _, rfl⟩ := hu
  rfl⟩
theorem all2_mem' {α β : Type} {p : α → β → Prop} {xs : List α} {ys : List β} (h : All2 p xs ys) {y : β} (hy : y ∈ ys) : ∃ x, x ∈ xs ∧ p x y := by
  induction h with
  | nil => cases hy
  | cons hp _ ih =>
    cases hy with
    | head => exact ⟨_, by simp, hp⟩
    | tail _ hy => obtain ⟨x, hx, hp⟩ := ih hy; exact ⟨x, by simp [hx], hp⟩
theorem cells_agg {mem : Mem} {vs : List V} {rs : List Value} (h : All2 (VF w ρ mem) vs rs) (n : Nat) (hn : vs.length = n) : u206 (.agg rs.toArray) rs n :=
  ⟨rfl, by rw [← u043 h]; exact hn, fun u hu => let ⟨_, _, hp⟩ := all2_mem' h hu; (VF_one hp).2⟩
theorem u086 {mem : Mem} {v : V} {r : Value} (h : VF w ρ mem v r) : u206 r [r] 1 := ⟨(VF_one h).1, rfl, fun u hu => by
  simp only [List.mem_singleton] at hu
  subst hu
  exact (VF_one h).2⟩
theorem sz_flat {v : V} (h : v.flat = true) : v.sz = 1 := by cases v <;> first | rfl | cases h
theorem u225 {α : Type} (xs ys : List α) (h : xs.length = ys.length) : u029 xs 0 ys ys.length = ys := by
  simp [u029, h]
theorem storeV_ok {mem : Mem} {c : V} {n o s : Nat} {v c' : V} (h : storeV c n o s v = some c') {rs : List Value} (hr : CR w ρ mem c rs) (hn : rs.length = n) (ho : o + s ≤ n) {r : Value} (hv : VR w ρ mem v r) (hs : v.sz = s) :
    ∃ vs, u206 r vs s ∧ CR w ρ mem c' (u029 rs o vs s) ∧ c'.wd = c.wd := by
  unfold storeV at h
  split at h
  · rename_i k xs k' y
    obtain ⟨hkk, h2⟩ := u039 h
    subst hkk
    clear h
    simp only [Option.some.injEq] at h2
    subst h2
    have hr : rs = iv k xs := hr
    have hv : r = .int k y := hv
    subst hr; subst hv
    have hs : 1 = s := hs
    subst hs
    rw [u054] at hn
    refine ⟨[.int k y], u086 (v := .int k y) (w := w) (ρ := ρ) (mem := mem) rfl, ?_, rfl⟩
    show u029 (iv k xs) o [.int k y] 1 = iv k (iset xs o y)
    rw [u203, u074 _ _ _ (by omega), u096]; rfl
  · rename_i xs s' ys
    obtain ⟨hb, h⟩ := u006 h
    cases h
    have hb := u031 hb
    have hr : rs = iv .i64 xs := hr
    obtain ⟨hl, rfl⟩ := u174 hv
    subst hr
    rw [u054] at hn
    subst hn
    refine ⟨iv .i64 ys, cells_iv ys s (by omega), ?_, rfl⟩
    show u029 (iv .i64 xs) o (iv .i64 ys) s = iv .i64 (u108 xs.length xs o ys s)
    rw [u224 _ _ _ _ (by omega), u096]
  · rename_i xs y
    cases h
    have hr : rs = bv xs := hr
    have hv : r = .bool y := hv
    subst hr; subst hv
    have hs : 1 = s := hs
    subst hs
    rw [u097] at hn
    refine ⟨[.bool y], u086 (v := .bool y) (w := w) (ρ := ρ) (mem := mem) rfl, ?_, rfl⟩
    show u029 (bv xs) o [.bool y] 1 = bv (bset xs o y)
    rw [bset_eq, u074 _ _ _ (by omega), u221]; rfl
  · rename_i xs s' ys
    obtain ⟨hb, h⟩ := u006 h
    cases h
    simp only [Bool.and_eq_true] at hb
    have h1 := u031 hb.1.1
    have h2 := u031 hb.1.2
    have h3 := u031 hb.2
    have hr : rs = bv xs := hr
    obtain ⟨hl, rfl⟩ := VR_bools hv
    subst hr
    rw [u097] at hn
    refine ⟨bv ys, cells_bv ys s (by omega), ?_, rfl⟩
    show u029 (bv xs) o (bv ys) s = bv ys
    have e : s = (bv ys).length := by rw [u097]; omega
    rw [h2, e]
    exact u225 _ _ (by rw [u097, u097]; omega)
  · rename_i xs ys
    obtain ⟨hb, h⟩ := u006 h
    cases h
    simp only [Bool.and_eq_true] at hb
    have h1 := u031 hb.1.1
    have h2 := u031 hb.1.2
    have h3 := u031 hb.2
    obtain ⟨qs, rfl, hq⟩ := hv
    refine ⟨qs, cells_agg hq s (by omega), ?_, rfl⟩
    have e : s = qs.length := by rw [← u043 hq]; omega
    show All2 _ _ _
    rw [h1, e, u225 _ _ (by omega)]
    exact hq
  · rename_i vs hna
    obtain ⟨hb, h⟩ := u006 h
    cases h
    have hvf := VF_flat hv hb
    have hs1 := sz_flat hb
    rw [hs1] at hs
    subst hs
    refine ⟨[r], u086 hvf, ?_, rfl⟩
    have hr2 : All2 (VF w ρ mem) vs rs := hr
    show All2 _ _ _
    rw [tset_eq, u074 _ _ _ (by rw [u043 hr2]; omega)]
    exact u192 hr2 (.cons hvf .nil) o 1
  · cases h
theorem u185 {α : Type} (m : Nat) (ys : List α) (hy : ys.length = m) : ∀ (xss : List (List α)) (h : ∀ xs ∈ xss, xs.length = m) (i : Nat), i < xss.length → (xss.set i ys).flatten = u029 xss.flatten (i * m) ys m
  | [], _, i, hi => by simp at hi
  | xs :: r, h, 0, _ => by
    have := h xs (by simp)
    simp [u029, this]
  | xs :: r, h, i + 1, hi => by
    have hx := h xs (by simp)
    have ih := u185 m ys hy r (fun x hx => h x (by simp [hx])) i (by simpa using hi)
    simp only [List.set_cons_succ, List.flatten_cons, ih]
    unfold u029
    have e1 : (i + 1) * m = xs.length + i * m := by rw [Nat.add_mul, Nat.one_mul, hx, Nat.add_comm]
    rw [e1, Nat.add_assoc, List.take_length_add_append, List.drop_length_add_append]
    simp [List.append_assoc]
theorem u197 {α : Type} (xs : List α) (p m o s : Nat) (ys : List α) (hy : ys.length = s) (ho : o + s ≤ m) (hp : p + m ≤ xs.length) :
    u029 xs p (u029 (sub xs p m) o ys s) m = u029 xs (p + o) ys s := by
  unfold u029 sub
  have h1 : ((xs.drop p).take m).take o = (xs.drop p).take o := by rw [List.take_take, Nat.min_eq_left (by omega)]
  rw [h1, List.take_add, List.drop_take, List.drop_drop]
  simp only [List.append_assoc]
  congr 3
  have h2 : xs.drop (p + o + s) = (xs.drop (p + o + s)).take (m - (o + s)) ++ (xs.drop (p + o + s)).drop (m - (o + s)) := (List.take_append_drop _ _).symm
  rw [h2, List.drop_drop]
  congr 2
  · congr 1; omega
  · omega
theorem storeE_ok {mem : Mem} {c : V} {i o s : Nat} {v c' : V} (h : storeE c i o s v = some c') {rs : List Value} (hr : CR w ρ mem c rs) (hi : i < c.cnt) (ho : o + s ≤ c.wd) {r : Value} (hv : VR w ρ mem v r) (hs : v.sz = s) :
    ∃ vs, u206 r vs s ∧ CR w ρ mem c' (u029 rs (i * c.wd + o) vs s) ∧ c'.wd = c.wd ∧ c'.cnt = c.cnt := by
  unfold storeE at h
  split at h
  · rename_i k xs k' y
    obtain ⟨hkk, h2⟩ := u039 h
    subst hkk
    clear h
    simp only [Option.some.injEq] at h2
    subst h2
    have hr : rs = iv k xs := hr
    have hv : r = .int k y := hv
    subst hr; subst hv
    have hs : 1 = s := hs
    subst hs
    simp only [V.cnt, V.wd] at hi ho
    obtain rfl : o = 0 := by omega
    refine ⟨[.int k y], u086 (v := .int k y) (w := w) (ρ := ρ) (mem := mem) rfl, ?_, rfl, by simp [V.cnt, u203]⟩
    show u029 (iv k xs) (i * 1 + 0) [.int k y] 1 = iv k (iset xs i y)
    rw [u203, u074 _ _ _ hi, u096, Nat.mul_one]; rfl
  · rename_i xs y
    cases h
    have hr : rs = bv xs := hr
    have hv : r = .bool y := hv
    subst hr; subst hv
    have hs : 1 = s := hs
    subst hs
    simp only [V.cnt, V.wd] at hi ho
    obtain rfl : o = 0 := by omega
    refine ⟨[.bool y], u086 (v := .bool y) (w := w) (ρ := ρ) (mem := mem) rfl, ?_, rfl, by simp [V.cnt, bset_eq]⟩
    show u029 (bv xs) (i * 1 + 0) [.bool y] 1 = bv (bset xs i y)
    rw [bset_eq, u074 _ _ _ hi, u221, Nat.mul_one]; rfl
  · rename_i m xss y
    cases h
    obtain ⟨hrows, rfl⟩ := hr
    have hv : r = .int .i64 y := hv
    subst hv
    have hs : 1 = s := hs
    subst hs
    simp only [V.cnt, V.wd] at hi ho
    have hlen := rget_len hrows.2 hi
    refine ⟨[.int .i64 y], u086 (v := .int .i64 y) (w := w) (ρ := ρ) (mem := mem) rfl, ⟨⟨hrows.1, fun xs hx => ?_⟩, ?_⟩, rfl, by simp [V.cnt, u270]⟩
    · rw [u270] at hx
      rcases List.mem_or_eq_of_mem_set hx with hx | rfl
      · exact hrows.2 xs hx
      · rw [u203]; simpa using hlen
    · show u029 (iv .i64 xss.flatten) (i * m + o) [.int .i64 y] 1 = iv .i64 (rset xss i (iset (rget xss i) o y)).flatten
      have hp : i * m + m ≤ xss.flatten.length := by
        have : xss.flatten.length = xss.length * m := by
          have := u262 (w := w) (ρ := ρ) (mem := mem) (c := .rr m xss) (rs := iv .i64 xss.flatten) ⟨hrows, rfl⟩
          rwa [u054] at this
        rw [this]; exact u127 hi
      rw [u270, u185 m _ (by rw [u203]; simpa using hlen) xss hrows.2 i hi, u203, u074 _ _ _ (by omega), ← u176 m xss hrows.2 i hi,
        u197 xss.flatten (i * m) m o 1 [y] rfl ho hp, u096]; rfl
  · rename_i m xss s' ys
    obtain ⟨hb, h⟩ := u006 h
    cases h
    have hb := u031 hb
    obtain ⟨hrows, rfl⟩ := hr
    obtain ⟨hl, rfl⟩ := u174 hv
    simp only [V.cnt, V.wd] at hi ho
    have hlen := rget_len hrows.2 hi
    have hsl : u108 m (rget xss i) o ys s = u029 (rget xss i) o ys s := by
      have := u224 (rget xss i) o ys s (by omega)
      rwa [hlen] at this
    refine ⟨iv .i64 ys, cells_iv ys s (by omega), ⟨⟨hrows.1, fun xs hx => ?_⟩, ?_⟩, rfl, by simp [V.cnt, u270]⟩
    · rw [u270] at hx
      rcases List.mem_or_eq_of_mem_set hx with hx | rfl
      · exact hrows.2 xs hx
      · rw [hsl, u076 _ _ _ _ (by omega) (by omega)]; exact hlen
    · show u029 (iv .i64 xss.flatten) (i * m + o) (iv .i64 ys) s = iv .i64 (rset xss i (u108 m (rget xss i) o ys s)).flatten
      have hp : i * m + m ≤ xss.flatten.length := by
        have : xss.flatten.length = xss.length * m := by
          have := u262 (w := w) (ρ := ρ) (mem := mem) (c := .rr m xss) (rs := iv .i64 xss.flatten) ⟨hrows, rfl⟩
          rwa [u054] at this
        rw [this]; exact u127 hi
      rw [hsl, u270, u185 m _ (by rw [u076 _ _ _ _ (by omega) (by omega)]; exact hlen) xss hrows.2 i hi, ← u176 m xss hrows.2 i hi,
        u197 xss.flatten (i * m) m o s ys (by omega) ho hp, u096]
  · rename_i vs
    obtain ⟨hb, h⟩ := u006 h
    cases h
    have hvf := VF_flat hv hb
    have hs1 := sz_flat hb
    rw [hs1] at hs
    subst hs
    simp only [V.cnt, V.wd] at hi ho
    obtain rfl : o = 0 := by omega
    refine ⟨[r], u086 hvf, ?_, rfl, by simp [V.cnt, tset_eq]⟩
    have hr2 : All2 (VF w ρ mem) vs rs := hr
    show All2 _ _ _
    simp only [V.wd, Nat.mul_one, Nat.add_zero]
    rw [tset_eq, u074 _ _ _ hi]
    exact u192 hr2 (.cons hvf .nil) i 1
  · cases h
theorem u265 {α : Type} (xs : List α) (p s m : Nat) (ys : List α) (hy : ys.length = s) (hp : p + s ≤ m) (hm : m ≤ xs.length) : (u029 xs p ys s).take m = u029 (xs.take m) p ys s := by
  unfold u029
  have h1 : (xs.take m).take p = xs.take p := by rw [List.take_take, Nat.min_eq_left (by omega)]
  rw [h1, List.drop_take, List.append_assoc, List.append_assoc, List.take_append, List.take_append]
  have e1 : (xs.take p).length = p := by rw [List.length_take]; omega
  have t1 : (xs.take p).take m = xs.take p := List.take_of_length_le (by omega)
  have t2 : ys.take (m - p) = ys := List.take_of_length_le (by omega)
  rw [e1, hy, t1, t2]
  congr 3
  omega
theorem u228 {t : TypeId} {i : TypeInfo} (hi : P.info? t = some i) {r : Value} {vs : List Value} (hc : u206 r vs i.size) {g o : Nat} {e : TypeId} {cur : Array Value} (hg : w.heap[g]? = some (.cells cur e (0, 0)))
    (ho : o + i.size ≤ cur.size) : (storeVar t ⟨g, o, none⟩ r).run P w = .ok () (w.setRow g (u029 cur.toList o vs i.size).toArray) := by
  obtain ⟨h1, h2, h3⟩ := hc
  unfold storeVar
  rw [Sem.run_bind, u050 hi]
  simp only [Result.andThen_ok]
  rw [if_neg (by rw [h1]; simpa using h2)]
  have := run_storeCells_at P g o e vs 0 cur w hg (by omega) h3
  rw [h1]
  simp only [Nat.add_zero, h2] at this
  exact this
theorem store_ok (hT : TTok P tt) {o : Oper} {t : TypeId} {ad y : Operand} (ho : o.op = .store t ad y) {slot : Option Nat} {k : V → Mem → List Nat → Option R} {x : R} (hI : Inv σ a w ρ)
    (hx : opK tt tab slot o σ k = some x) : Does P o a σ w ρ k x := by
  unfold opK at hx
  simp only [ho] at hx
  have hva := hI.op ad
  have hvy := hI.op y
  split at hx
  case h_2 => cases hx
  rename_i ti hl
  obtain ⟨i, hi, hsz, _⟩ := (hT _ _ hl).info
  split at hx
  case h_2 => cases hx
  rename_i h j of s he
  rw [he] at hva
  obtain ⟨v', mem', ks, hk, hv', hwr', hs', hsame⟩ := keep_ok hI.wr hvy hx
  obtain ⟨hb, hk⟩ := u006 hk
  simp only [Bool.and_eq_true] at hb
  have hb1 := u031 hb.1
  have hb2 := Nat.le_of_ble_eq_true hb.2
  have hrun : ∀ ad', a.eval ad = .pointer (some ad') → ∀ w', (storeVar t ad' (a.eval y)).run P w = .ok () w' → (execOp a.eval o).run P w = .ok .skip w' := fun ad' had w' h => by
    unfold execOp
    simp only [ho, had, Instr.storeAt, Instr.sureAddr, Sem.run_bind, Sem.run_pure, Result.andThen_ok, h]
  have hlive : ∀ b, mget mem' h = b → b.live = true → mget σ.mem h = b := fun b hm hlv => by rw [← hsame h (by rw [hm]; exact hlv)]; exact hm
  split at hk
  · rename_i n c hm
    split at hk
    case h_2 => cases hk
    rename_i c' hc'
    have hm0 := hlive _ hm rfl
    rcases hva with ⟨n', c2, b, hm2, hρ, had, hj, hon⟩ | ⟨e, c2, b, cap, hm2, _⟩
    case inr => rw [hm0] at hm2; cases hm2
    rw [hm0] at hm2
    cases hm2
    obtain ⟨rs, e, hheap, hlen, hcr, hwd⟩ : ∃ rs e, w.heap[b]? = some (.cells (List.toArray rs) e (0, 0)) ∧ rs.length = n ∧ CR w ρ mem' c rs ∧ c.wd = 1 := by
      have hbk := hwr'.blk h _ hρ
      rw [hm] at hbk
      obtain ⟨r', e, rs, hrl, h1, h2, h3, h4⟩ := hbk
      cases hrl
      exact ⟨rs, e, h1, h2, h3, h4⟩
    obtain ⟨vs, hcells, hcr', hwd'⟩ := storeV_ok hc' hcr hlen (by omega) hv' hb1.symm
    rw [← hsz] at hcells hcr'
    have hst := u228 (P := P) hi hcells hheap (o := of) (by simp; omega)
    obtain ⟨hs2, hw2⟩ := chg_ok hwr' (w' := w.setRow b (u029 rs of vs i.size).toArray) (b' := .var n c') hρ (by rw [hm]; rfl) (by simp) rfl rfl rfl
      (fun r _ hr => setRow_other w b r _ (fun e => hr (by rw [e]; rfl))) (by rw [hm]; exact ⟨c', rfl⟩)
      (fun hs => ⟨b, e, _, rfl, setRow_heap w b _ _ e _ hheap, by rw [u076 _ _ _ _ (by omega) hcells.2.1]; exact hlen, u113 hcr' hs (fun _ _ _ _ h => h), by rw [hwd', hwd]⟩)
    exact Does.of_run hk (.inr ⟨hrun _ had _ hst, rfl⟩) rfl hw2 (hs'.seq hs2)
  · rename_i e c hm
    split at hk
    case h_2 => cases hk
    rename_i c' hc'
    have hm0 := hlive _ hm rfl
    rcases hva with ⟨n', c2, b, hm2, _⟩ | ⟨e2, c2, b, cap, hm2, hρ, hcap, had, hj, hon⟩
    case inl => rw [hm0] at hm2; cases hm2
    rw [hm0] at hm2
    cases hm2
    have hbk := hwr'.blk h _ hρ
    rw [hm] at hbk
    obtain ⟨a2, cap2, hrl, hcl, hc⟩ := hbk
    cases hrl
    rcases hc with ⟨h0, _⟩ | ⟨b2, cur, _, hb2, hheap, hmx, hcs, hcr⟩
    · omega
    cases hb2
    obtain ⟨vs, hcells, hcr', hwd', hcnt'⟩ := storeE_ok hc' hcr hj (by omega) hv' hb1.symm
    rw [← hsz] at hcells hcr'
    have hle : c.cnt * c.wd ≤ cur.size := by rw [hcs]; exact Nat.mul_le_mul_right _ hcl
    have hjw := u127 (s := c.wd) hj
    have hst := u228 (P := P) hi hcells hheap (o := j * c.wd + of) (by omega)
    rw [← u265 _ _ _ _ _ hcells.2.1 (by omega) (by simpa using hle)] at hcr'
    obtain ⟨hs2, hw2⟩ := chg_ok hwr' (w' := w.setRow b (u029 cur.toList (j * c.wd + of) vs i.size).toArray) (b' := .vec e c') hρ (by rw [hm]; rfl) (by simp) rfl rfl rfl
      (fun r _ hr => setRow_other w b r _ (fun e => hr (by rw [e]; simp [Rl.blk, Nat.ne_of_gt hcap]))) (by rw [hm]; exact ⟨c', rfl, hwd', by omega⟩)
      (fun hs => ⟨_, cap, rfl, by omega, .inr ⟨b, _, hcap, rfl, setRow_heap w b _ _ e _ hheap, hmx, by
        rw [hwd', ← hcs, List.size_toArray, u076 _ _ _ _ (by simp; omega) hcells.2.1, Array.length_toList], by
        rw [hwd', hcnt']; exact u113 hcr' hs (fun _ _ _ _ h => h)⟩⟩)
    exact Does.of_run hk (.inr ⟨hrun _ had _ hst, rfl⟩) rfl hw2 (hs'.seq hs2)
  · cases hk
end
end Go.Lv
namespace Go.Lv
open Go.RowKit
variable [fr : Fr]
section
variable {P : Program} {tt : TT} {tab : Tab} {σ : St} {a : Act} {w : World} {ρ : Rho} {R : Type}
theorem rlL_ok {mem : Mem} {k : IntKind} : ∀ {vs : List V} {rs : List Value} {yss : List (List Int)}, All2 (VF w ρ mem) vs rs → rlL k vs = some yss → All2 (fun xs q => RoR w ρ mem (iv k xs) 1 xs.length q) yss rs ∧ yss.length = vs.length
  | [], rs, yss, h, hy => by
    cases h
    simp only [rlL, Option.some.injEq] at hy
    subst hy
    exact ⟨.nil, rfl⟩
  | v :: r, rs, yss, h, hy => by
    cases h with
    | cons hv hr =>
      unfold rlL at hy
      split at hy
      · rename_i heq; cases heq
      · rename_i k' xs r' heq
        cases heq
        obtain ⟨hk, hy2⟩ := u039 hy
        subst hk
        clear hy
        cases hq : rlL k r with
        | none => rw [hq] at hy2; cases hy2
        | some l =>
          rw [hq] at hy2
          cases hy2
          obtain ⟨h1, h2⟩ := rlL_ok hr hq
          exact ⟨.cons hv h1, by simp [h2]⟩
      · rename_i r' heq
        cases heq
        cases hq : rlL k r with
        | none => rw [hq] at hy; cases hy
        | some l =>
          rw [hq] at hy
          cases hy
          obtain ⟨h1, h2⟩ := rlL_ok hr hq
          obtain ⟨ad, hv⟩ := hv
          exact ⟨.cons ⟨ad, 0, hv, Nat.le_refl _, rfl, fun h => absurd rfl h⟩ h1, by simp [h2]⟩
      · cases hy
theorem tellL_ok {mem : Mem} {c : V} {rs : List Value} (h : CR w ρ mem c rs) : CR w ρ mem c.tellL rs ∧ c.tellL.cnt = c.cnt ∧ c.tellL.wd = c.wd := by
  unfold V.tellL
  split
  · split
    · rename_i yss hy
      obtain ⟨h1, h2⟩ := rlL_ok (show All2 (VF w ρ mem) _ rs from h) hy
      exact ⟨h1, by simp [V.cnt, h2], rfl⟩
    · exact ⟨h, rfl, rfl⟩
  · exact ⟨h, rfl, rfl⟩
theorem cat_ok {mem : Mem} {c c1 c2 : V} {rs rs1 : List Value} (hc : CR w ρ mem c rs) (hc1 : CR w ρ mem c1 rs1) (h : c.cat c1 = some c2) :
    CR w ρ mem c2 (rs ++ rs1) ∧ c2.cnt = c.cnt + c1.cnt ∧ c2.wd = c.wd ∧ c2.wd = c1.wd := by
  unfold V.cat at h
  split at h
  · rename_i k xs k' ys
    obtain ⟨hkk, h2⟩ := u039 h
    subst hkk
    clear h
    simp only [Option.some.injEq] at h2
    subst h2
    have hc : rs = iv k xs := hc
    have hc1 : rs1 = iv k ys := hc1
    subst hc; subst hc1
    exact ⟨by show iv k xs ++ iv k ys = iv k (xs ++ ys); simp [iv], by simp [V.cnt], rfl, rfl⟩
  · rename_i xs ys
    cases h
    have hc : rs = bv xs := hc
    have hc1 : rs1 = bv ys := hc1
    subst hc; subst hc1
    exact ⟨by show bv xs ++ bv ys = bv (xs ++ ys); simp [bv], by simp [V.cnt], rfl, rfl⟩
  · rename_i m xs m' ys
    obtain ⟨hb, h⟩ := u006 h
    cases h
    have hb := u031 hb
    subst hb
    obtain ⟨h1, rfl⟩ := hc
    obtain ⟨h2, rfl⟩ := hc1
    refine ⟨⟨⟨h1.1, fun x hx => ?_⟩, by simp [iv]⟩, by simp [V.cnt], rfl, rfl⟩
    rcases List.mem_append.1 hx with hx | hx
    · exact h1.2 x hx
    · exact h2.2 x hx
  · rename_i xs ys
    cases h
    exact ⟨u062 hc hc1, by simp [V.cnt], rfl, rfl⟩
  · rename_i k xs k' ys
    obtain ⟨hkk, h2⟩ := u039 h
    subst hkk
    clear h
    simp only [Option.some.injEq] at h2
    subst h2
    exact ⟨u062 (show All2 (fun xs q => RoR w ρ mem (iv k xs) 1 xs.length q) xs rs from hc) (show All2 (fun xs q => RoR w ρ mem (iv k xs) 1 xs.length q) ys rs1 from hc1), by simp [V.cnt], rfl, rfl⟩
  · rename_i k xs vs
    split at h
    · rename_i yss hy
      simp only [Option.some.injEq] at h
      subst h
      obtain ⟨h1, h2⟩ := rlL_ok (show All2 (VF w ρ mem) vs rs1 from hc1) hy
      exact ⟨u062 (show All2 (fun xs q => RoR w ρ mem (iv k xs) 1 xs.length q) xs rs from hc) h1, by simp [V.cnt, h2], rfl, rfl⟩
    · cases h
  · exact hc.elim
  · exact hc.elim
  · exact hc1.elim
  · cases h
theorem one_ok {mem : Mem} {v c : V} {r : Value} (hv : VR w ρ mem v r) (h : v.one = some c) (hpos : 0 < c.wd) : ∃ rs, u206 r rs c.wd ∧ CR w ρ mem c rs ∧ c.cnt = 1 := by
  unfold V.one at h
  split at h
  · rename_i k n
    cases h
    have hv : r = .int k n := hv
    subst hv
    exact ⟨[.int k n], u086 (v := .int k n) (w := w) (ρ := ρ) (mem := mem) rfl, rfl, rfl⟩
  · rename_i b
    cases h
    have hv : r = .bool b := hv
    subst hv
    exact ⟨[.bool b], u086 (v := .bool b) (w := w) (ρ := ρ) (mem := mem) rfl, rfl, rfl⟩
  · rename_i m xs
    cases h
    obtain ⟨hl, rfl⟩ := u174 hv
    exact ⟨iv .i64 xs, cells_iv xs m hl, ⟨⟨hpos, fun x hx => by simp only [List.mem_singleton] at hx; subst hx; exact hl⟩, by simp⟩, rfl⟩
  · obtain ⟨hb, h⟩ := u006 h
    cases h
    have hvf := VF_flat hv hb
    exact ⟨[r], u086 hvf, .cons hvf .nil, rfl⟩
theorem one_wd {v c : V} (h : v.one = some c) (c0 c2 : V) (hcat : c0.cat c = some c2) (h0 : c0 ≠ .z0) : c2.wd = c0.wd ∧ c.wd = c0.wd := by
  unfold V.cat at hcat
  split at hcat
  · obtain ⟨_, h2⟩ := u039 hcat
    simp only [Option.some.injEq] at h2
    subst h2
    exact ⟨rfl, rfl⟩
  · cases hcat; exact ⟨rfl, rfl⟩
  · obtain ⟨hb, h2⟩ := u006 hcat
    cases h2
    exact ⟨rfl, (u031 hb).symm⟩
  · cases hcat; exact ⟨rfl, rfl⟩
  · obtain ⟨_, h2⟩ := u039 hcat
    simp only [Option.some.injEq] at h2
    subst h2
    exact ⟨rfl, rfl⟩
  · split at hcat
    · cases hcat; exact ⟨rfl, rfl⟩
    · cases hcat
  · cases hcat
  · exact absurd rfl h0
  · unfold V.one at h
    split at h <;> first | cases h | (obtain ⟨_, h⟩ := u006 h; cases h)
  · cases hcat
theorem cat_z0 {c c1 : V} {c2 : V} (h : c.cat c1 = some c2) (h0 : c ≠ .z0) : c2 ≠ .z0 := by
  unfold V.cat at h
  split at h
  · obtain ⟨_, h2⟩ := u039 h
    simp only [Option.some.injEq] at h2
    subst h2; simp
  · cases h; simp
  · obtain ⟨_, h2⟩ := u006 h; cases h2; simp
  · cases h; simp
  · obtain ⟨_, h2⟩ := u039 h
    simp only [Option.some.injEq] at h2
    subst h2; simp
  · split at h
    · cases h; simp
    · cases h
  · cases h
  · exact absurd rfl h0
  · cases h; exact h0
  · cases h
theorem buildSl_wd : ∀ {ps : List (Nat × V)} {c c' : V}, u119 c ps = some c' → c ≠ .z0 → c'.wd = c.wd := by
  intro ps
  induction ps with
  | nil => intro c c' h _; simp only [u119, Option.some.injEq] at h; rw [h]
  | cons p ps ih =>
    intro c c' h h0
    obtain ⟨i, v⟩ := p
    simp only [u119] at h
    obtain ⟨_, h⟩ := u006 h
    split at h
    case h_2 => cases h
    rename_i c1 h1
    split at h
    case h_2 => cases h
    rename_i c2 h2
    rw [ih h (cat_z0 h2 h0), (one_wd h1 _ _ h2 h0).1]
theorem mt_ne {z m : V} (h : z.mt = some m) : m ≠ .z0 ∧ m.cnt = 0 := by
  unfold V.mt at h
  split at h <;> first | (cases h; exact ⟨by simp, rfl⟩) | cases h
theorem mt_CR {mem : Mem} {z m : V} (h : z.mt = some m) (hpos : 0 < m.wd) : CR w ρ mem m [] := by
  unfold V.mt at h
  split at h
  · cases h; rfl
  · cases h; rfl
  · cases h; exact ⟨⟨hpos, fun x hx => by cases hx⟩, rfl⟩
  · cases h; exact .nil
  · cases h; exact .nil
  · cases h
theorem splice_fill {α : Type} (rs ys zs : List α) (s : Nat) (hy : ys.length = s) (hz : s ≤ zs.length) : u029 (rs ++ zs) rs.length ys s = (rs ++ ys) ++ zs.drop s := by
  unfold u029
  rw [List.take_left, List.drop_length_add_append]
theorem buildSl_ok {mem : Mem} (s : Nat) (hs : 0 < s) : ∀ {ps : List (Nat × V)} {qs : List (Nat × Value)} {c c' : V} {rs zs : List Value}, All2 (fun p q => p.1 = q.1 ∧ VR w ρ mem p.2 q.2) ps qs → u119 c ps = some c' → c ≠ .z0 → c.wd = s →
    CR w ρ mem c rs → (c'.cnt - c.cnt) * s ≤ zs.length →
    ∃ rs', Instr.fill (fun i => some (i * s, s)) (rs ++ zs).toArray qs = some (rs' ++ zs.drop ((c'.cnt - c.cnt) * s)).toArray ∧ CR w ρ mem c' rs' ∧ c.cnt ≤ c'.cnt := by
  intro ps
  induction ps with
  | nil =>
    intro qs c c' rs zs hq h _ _ hc _
    cases hq
    simp only [u119, Option.some.injEq] at h
    subst h
    exact ⟨rs, by simp [Instr.fill], hc, Nat.le_refl _⟩
  | cons p ps ih =>
    intro qs c c' rs zs hq h h0 hwd hc hz
    cases hq with
    | cons hp hq' =>
    rename_i q qs
    obtain ⟨i, y⟩ := p
    obtain ⟨i', y'⟩ := q
    obtain ⟨rfl, hv⟩ := hp
    simp only at hv
    simp only [u119] at h
    obtain ⟨hb, h⟩ := u006 h
    have hb := u031 hb
    split at h
    case h_2 => cases h
    rename_i c1 h1
    split at h
    case h_2 => cases h
    rename_i c2 h2
    obtain ⟨e1, e2⟩ := one_wd h1 _ _ h2 h0
    obtain ⟨rs1, hcells, hc1, hcnt1⟩ := one_ok hv h1 (by omega)
    obtain ⟨hc2, hcnt2, _, _⟩ := cat_ok hc hc1 h2
    have hlen := u262 hc
    rw [hwd] at hlen
    obtain ⟨_, _, _, hle⟩ := ih (zs := List.replicate ((c'.cnt - c2.cnt) * s) Go.undef) hq' h (cat_z0 h2 h0) (by omega) hc2 (by simp)
    have hmul : (c'.cnt - c.cnt) * s = s + (c'.cnt - c2.cnt) * s := by
      rw [show c'.cnt - c.cnt = 1 + (c'.cnt - c2.cnt) by omega, Nat.add_mul, Nat.one_mul]
    rw [hmul] at hz
    obtain ⟨rs', hf, hcr, _⟩ := ih (zs := zs.drop s) hq' h (cat_z0 h2 h0) (by omega) hc2 (by rw [List.length_drop]; omega)
    have hr1 : rs1.length = s := by rw [hcells.2.1, e2, hwd]
    refine ⟨rs', ?_, hcr, by omega⟩
    rw [u171 (vs := rs1) hcells.1 hr1 (off := i * s) (by rw [hb]; simp; omega) rfl, hb, ← hlen]
    rw [splice_fill _ _ _ _ hr1 (by omega), hf, List.drop_drop, hmul]
theorem u163 {t e : TypeId} {i : TypeInfo} {z : Value} (hu : P.underlying t = some (.slice e)) (hi : P.info? e = some i) (hz : i.zero = some z) {len : Nat} {parts : Array (Nat × Value)} (hsmall : len * i.size ≤ 16777216) :
    ∃ zs : List Value, zs.length = len * i.size ∧ ∀ cells, Instr.fill (fun j => some (j * i.size, i.size)) zs.toArray parts.toList = some cells →
    (Instr.buildSlice t len parts).run P w = .ok (.slice (some ⟨w.heap.size, 0, none⟩) len len) (w.alloc (.cells cells e)) := by
  have h24 : ¬ (len * i.size > 2 ^ 24) := by simp; omega
  by_cases h0 : len * i.size = 0
  · refine ⟨((Array.range (len * i.size)).map fun x => (#[] : Array Value)[x % (#[] : Array Value).size]!).toList, by simp, fun cells this => ?_⟩
    unfold Instr.buildSlice
    simp only [Sem.run_bind, run_underlying hu, Result.andThen_ok, u050 hi, h24, if_false]
    rw [h0] at this
    rw [Array.toArray_toList] at this
    simp only [h0, if_true]
    rw [Sem.run_bind]
    simp only [Sem.run_pure, Result.andThen_ok, this]
    rfl
  · refine ⟨((Array.range (len * i.size)).map fun x => z.cells[x % z.cells.size]!).toList, by simp, fun cells this => ?_⟩
    unfold Instr.buildSlice
    simp only [Sem.run_bind, run_underlying hu, Result.andThen_ok, u050 hi, h24, if_false]
    rw [Array.toArray_toList] at this
    simp only [h0, if_false, Sem.run_bind, u109 hi hz, Sem.run_pure, Result.andThen_ok, this]
    rfl
def Shows (w : World) (ρ : Rho) (mem : Mem) (ys : V) (r : Value) (rs : List Value) (m wd : Nat) : Prop :=
  ∃ ad cap, r = .slice ad m cap ∧ m ≤ cap ∧ rs.length = m * wd ∧ ((ys = .z0 ∧ m = 0 ∧ rs = []) ∨ (CR w ρ mem ys rs ∧ ys.cnt = m ∧ ys.wd = wd)) ∧
    (m ≠ 0 → ∃ b o, ad = some ⟨b, o, none⟩ ∧ ∀ j u, rs[j]? = some u → w.cell? ⟨b, o + j, none⟩ = some u)
theorem u131 (xs : List Int) (s : Nat) : ∀ (n o : Nat), (u260 xs o s n).flatten = sub xs o (n * s)
  | 0, o => by simp [u260, sub]
  | n + 1, o => by
    rw [u260, List.flatten_cons, u131 xs s n (o + s), Nat.add_mul, Nat.one_mul, Nat.add_comm (n * s) s, sub_add]
theorem u248 (xs : List Int) (s : Nat) : ∀ (n o : Nat), (u260 xs o s n).length = n
  | 0, o => rfl
  | n + 1, o => by simp [u260, u248 xs s n]
theorem u187 (xs : List Int) (s : Nat) : ∀ (n o : Nat), o + n * s ≤ xs.length → ∀ ys ∈ u260 xs o s n, ys.length = s
  | 0, o, _, ys, h => by cases h
  | n + 1, o, ho, ys, h => by
    rw [Nat.add_mul, Nat.one_mul] at ho
    simp only [u260, List.mem_cons] at h
    rcases h with rfl | h
    · exact u024 _ _ _ (by omega)
    · exact u187 xs s n (o + s) (by omega) ys h
theorem u175 {mem : Mem} {ys : V} {rs : List Value} {r : Value} (hc : CR w ρ mem ys rs) (hr : RoR w ρ mem rs ys.wd ys.cnt r) : Shows w ρ mem ys r rs ys.cnt ys.wd := by
  obtain ⟨ad, cap, rfl, hnc, hlen, hcell⟩ := hr
  refine ⟨ad, cap, rfl, hnc, hlen, .inr ⟨hc, rfl, rfl⟩, fun hn => ?_⟩
  obtain ⟨b, o, h1, _, _, h2⟩ := hcell hn
  exact ⟨b, o, h1, h2⟩
theorem view_ok {mem : Mem} (hw : WR w ρ mem) {v ys : V} {r : Value} (hv : VR w ρ mem v r) (h : v.view mem = some ys) : ∃ rs m, Shows w ρ mem ys r rs m ys.wd := by
  cases v with
  | sl hd off n =>
    simp only [V.view] at h
    split at h
    · rename_i e c hm
      cases h
      obtain ⟨rs, ad, cap, rl, rfl, hnc, hcr, hcnt, hwd, hlen, hρ, hcell⟩ := u227 hw hv hm
      refine ⟨rs, n, ad, cap, rfl, hnc, by rw [hwd]; exact hlen, .inr ⟨hcr, hcnt, rfl⟩, fun hn => ?_⟩
      obtain ⟨b, o, h1, _, _, h2⟩ := hcell hn
      exact ⟨b, o, h1, h2⟩
    · cases h
  | asl hd o s n =>
    simp only [V.view] at h
    split at h
    · rename_i m xs hm
      obtain ⟨m', c, b, hm', hρ, hle, hs, a', cap', rfl, hnc, ha'⟩ := hv
      rw [hm] at hm'
      cases hm'
      obtain ⟨r', e, rs, hrl, hb, hlen, hcr, hwd⟩ : BlkR w ρ mem (.var m (.ri .i64 xs)) (.var b) := by
        have := hw.blk hd _ hρ
        rwa [hm] at this
      cases hrl
      have hcr : rs = iv .i64 xs := hcr
      subst hcr
      rw [u054] at hlen
      have hcell : ∀ k, ∀ j u, (iv .i64 (sub xs o k))[j]? = some u → w.cell? ⟨b, o + j, none⟩ = some u := fun k j u hu => by
        rw [u286 hb]
        rw [u167] at hu
        simpa using u222 _ _ _ j u hu
      by_cases h1 : s = 1
      · subst h1
        rw [show Nat.beq 1 1 = true from rfl] at h
        simp only [cond_true, Option.some.injEq] at h
        subst h
        simp only [Nat.mul_one] at hle
        refine ⟨iv .i64 (sub xs o n), n, a', cap', rfl, hnc, by rw [u054, u024 _ _ _ (by omega)]; exact (Nat.mul_one n).symm, .inr ⟨rfl, u024 _ _ _ (by omega), rfl⟩, fun hn => ⟨b, o, ha' hn, hcell n⟩⟩
      · have h1' : Nat.beq s 1 = false := by rw [← Bool.not_eq_true, Nat.beq_eq]; exact h1
        rw [h1'] at h
        simp only [cond_false, Option.some.injEq] at h
        subst h
        have hfl := u131 xs s n o
        refine ⟨iv .i64 (u260 xs o s n).flatten, n, a', cap', rfl, hnc, by rw [hfl, u054, u024 _ _ _ (by omega)]; rfl,
          .inr ⟨⟨⟨hs, u187 xs s n o (by omega)⟩, rfl⟩, u248 _ _ _ _, rfl⟩, fun hn => ⟨b, o, ha' hn, ?_⟩⟩
        rw [hfl]
        exact hcell (n * s)
    · cases h
  | ri k xs => cases h; exact ⟨_, _, u175 (ys := .ri k xs) rfl hv⟩
  | rb xs => cases h; exact ⟨_, _, u175 (ys := .rb xs) rfl hv⟩
  | rr m xss => cases h; obtain ⟨h1, h2⟩ := hv; exact ⟨_, _, u175 (ys := .rr m xss) ⟨h1, rfl⟩ h2⟩
  | rl k xss =>
    cases h
    obtain ⟨rs, h1, h2⟩ := hv
    exact ⟨_, _, u175 (ys := .rl k xss) h2 h1⟩
  | rv vs =>
    cases h
    obtain ⟨rs, h1, h2⟩ := hv
    exact ⟨_, _, u175 (ys := .rv vs) (u026 h2 fun _ _ _ hp => VF_of_VG hp) h1⟩
  | z0 => cases h; obtain ⟨ad, rfl⟩ := hv; exact ⟨[], 0, ad, 0, rfl, Nat.le_refl _, by simp, .inl ⟨rfl, rfl, rfl⟩, fun h => absurd rfl h⟩
  | _ => cases h
theorem u112 {ad : Option Addr} {m cap size : Nat} {rs : List Value} (hl : rs.length = m * size)
    (hc : m ≠ 0 → ∃ b o, ad = some ⟨b, o, none⟩ ∧ ∀ j u, rs[j]? = some u → w.cell? ⟨b, o + j, none⟩ = some u) : (Builtin.firstCells size m (.slice ad m cap)).run P w = .ok rs.toArray w := by
  by_cases hm : m = 0
  · subst hm
    have : rs = [] := List.eq_nil_of_length_eq_zero (by simpa using hl)
    subst this
    cases ad with
    | none => exact run_firstCells_none w size 0 0 cap
    | some a => exact run_firstCells_some w size 0 a 0 cap [] (by simp) (fun j v h => by simp at h)
  · obtain ⟨b, o, rfl, h⟩ := hc hm
    exact run_firstCells_some w size m _ m cap rs hl (fun j v hv => by rw [u069]; exact h j v hv)
theorem cell_drew {b o : Nat} {u : Value} (h : w.cell? ⟨b, o, none⟩ = some u) : w.drew.cell? ⟨b, o, none⟩ = some u := by
  rw [World.cell?_of_block (w := w) (w' := w.drew) (a := ⟨b, o, none⟩) rfl]; exact h
theorem u289 {t ty e : TypeId} {i : TypeInfo} {z : Value} (ht : P.underlying t = some (.slice e)) (hi : P.info? e = some i) (hz : i.zero = some z)
    {ba xa : Option Addr} {n cap m c : Nat} {olds news : List Value} (hlo : olds.length = n * i.size) (ho : n ≠ 0 → ∃ b o, ba = some ⟨b, o, none⟩ ∧ ∀ j u, olds[j]? = some u → w.cell? ⟨b, o + j, none⟩ = some u)
    (hln : news.length = m * i.size) (hn : m ≠ 0 → ∃ b o, xa = some ⟨b, o, none⟩ ∧ ∀ j u, news[j]? = some u → w.cell? ⟨b, o + j, none⟩ = some u)
    (hg : cap < n + m) (h63 : n + m ≤ 140737488355328) (hby : (n + m) * i.bytes ≤ 140737488355328) :
    (Builtin.append_ #[t, t] ty #[.slice ba n cap, .slice xa m c]).run P w =
      .ok (.slice (some ⟨w.heap.size, 0, none⟩) (n + m) (grownCap w (n + m) cap e)) (w.drew.alloc (.cells ((olds ++ news).toArray ++ Builtin.zeroCells z.cells (grownCap w (n + m) cap e - (n + m))) e)) := by
  have hnn : ¬ (n + m ≤ cap) := by omega
  have h63' : ¬ (9223372036854775807 < ((n : Int) + (m : Int))) := by omega
  have hfit := growslice_fits (bytes := i.bytes) hg hby
  have h48' : ¬ (281474976710656 < Builtin.nextslicecap (n + m) cap * i.bytes) := by omega
  have hf := u112 (P := P) (w := w.drew) (ad := xa) (m := m) (cap := c) (size := i.size) (rs := news) hln (fun h => let ⟨b, o, h1, h2⟩ := hn h; ⟨b, o, h1, fun j u hu => cell_drew (h2 j u hu)⟩)
  have hfo := u112 (P := P) (w := w.drew) (ad := ba) (m := n) (cap := cap) (size := i.size) (rs := olds) hlo (fun h => let ⟨b, o, h1, h2⟩ := ho h; ⟨b, o, h1, fun j u hu => cell_drew (h2 j u hu)⟩)
  simp [Builtin.append_, run_underlying ht, sizeOf, typeInfo, zeroValue, hi, hz, Builtin.lenOf, hnn, h63', h48', Question.forced, hf, hfo, newRow, grownCap]
  congr 2
  apply Array.ext'
  simp [List.append_assoc]
theorem u189 {t ty e : TypeId} {i : TypeInfo} (ht : P.underlying t = some (.slice e)) (hi : P.info? e = some i)
    {ba xa : Option Addr} {n cap m c : Nat} {news : List Value}
    (hln : news.length = m * i.size) (hn : m ≠ 0 → ∃ b o, xa = some ⟨b, o, none⟩ ∧ ∀ j u, news[j]? = some u → w.cell? ⟨b, o + j, none⟩ = some u)
    (hg : n + m ≤ cap) {w' : World} (hs : (match ba with | some b => storeCells (b.add (n * i.size)) news | none => pure ()).run P w = .ok () w') :
    (Builtin.append_ #[t, t] ty #[.slice ba n cap, .slice xa m c]).run P w = .ok (.slice ba (n + m) cap) w' := by
  have hf := u112 (P := P) (w := w) (ad := xa) (m := m) (cap := c) (size := i.size) (rs := news) hln hn
  cases ba with
  | none =>
    simp at hs
    subst hs
    simp [Builtin.append_, run_underlying ht, sizeOf, typeInfo, hi, Builtin.lenOf, hg, hf]
  | some b =>
    simp only at hs
    simp [Builtin.append_, run_underlying ht, sizeOf, typeInfo, hi, Builtin.lenOf, hg, hf, hs]
theorem cat_wd {c c1 c2 : V} (h : c.cat c1 = some c2) (h0 : c ≠ .z0) : c2.wd = c.wd := by
  unfold V.cat at h
  split at h
  · obtain ⟨_, h2⟩ := u039 h
    simp only [Option.some.injEq] at h2
    subst h2; rfl
  · cases h; rfl
  · obtain ⟨_, h2⟩ := u006 h; cases h2; rfl
  · cases h; rfl
  · obtain ⟨_, h2⟩ := u039 h
    simp only [Option.some.injEq] at h2
    subst h2; rfl
  · split at h
    · cases h; rfl
    · cases h
  · cases h
  · exact absurd rfl h0
  · cases h; rfl
  · cases h
theorem cat_shows {mem : Mem} {c ys c2 : V} {rs news : List Value} {r : Value} {m wd : Nat} (hc : CR w ρ mem c rs) (hs : Shows w ρ mem ys r news m wd) (h : c.cat ys = some c2) :
    CR w ρ mem c2 (rs ++ news) ∧ c2.cnt = c.cnt + m ∧ c2.wd = c.wd ∧ news.length = m * c2.wd := by
  obtain ⟨ad, cap, _, _, hlen, hy, _⟩ := hs
  rcases hy with ⟨rfl, rfl, rfl⟩ | ⟨hy, rfl, rfl⟩
  · have : c2 = c := by
      unfold V.cat at h
      split at h
      · rename_i h1; cases h1
      · rename_i h1; cases h1
      · rename_i h1; cases h1
      · rename_i h1; cases h1
      · rename_i h1; cases h1
      · rename_i h1; cases h1
      · cases h
      · exact hc.elim
      · cases h; rfl
      · cases h
    subst this
    simp [hc]
  · obtain ⟨h1, h2, h3, h4⟩ := cat_ok hc hy h
    exact ⟨h1, h2, h3, by rw [hlen, h4]⟩
theorem CR_one {mem : Mem} {c : V} {rs : List Value} (h : CR w ρ mem c rs) : ∀ u ∈ rs, u.oneCell' = true := by
  intro u hu
  cases c with
  | ri k xs => have h : rs = iv k xs := h; subst h; simp only [iv, List.mem_map] at hu; obtain ⟨x, _, rfl⟩ := hu; rfl
  | rb xs => have h : rs = bv xs := h; subst h; simp only [bv, List.mem_map] at hu; obtain ⟨x, _, rfl⟩ := hu; rfl
  | rr m xss => obtain ⟨_, rfl⟩ := h; simp only [iv, List.mem_map] at hu; obtain ⟨x, _, rfl⟩ := hu; rfl
  | rl k xss =>
    obtain ⟨v, _, a', c', rfl, _⟩ := all2_mem' (show All2 (fun xs q => RoR w ρ mem (iv k xs) 1 xs.length q) xss rs from h) hu
    rfl
  | rv vs => obtain ⟨v, _, hp⟩ := all2_mem' (show All2 _ vs rs from h) hu; exact (VF_one hp).2
  | _ => exact h.elim
theorem shows_one {mem : Mem} {ys : V} {r : Value} {rs : List Value} {m wd : Nat} (h : Shows w ρ mem ys r rs m wd) : ∀ u ∈ rs, u.oneCell' = true := by
  obtain ⟨_, _, _, _, _, hy, _⟩ := h
  rcases hy with ⟨_, _, rfl⟩ | ⟨hy, _⟩
  · intro u hu; cases hu
  · exact CR_one hy
theorem u291 (olds news : List Value) (z : Array Value) (n : Nat) : (((olds ++ news).toArray ++ Builtin.zeroCells z n).toList).take (olds.length + news.length) = olds ++ news := by
  rw [Array.toList_append, ← List.length_append]
  exact List.take_left
theorem u251 {z : V} {zv : Value} (h : ZR z zv) : zv.cells.size = z.sz := by
  cases z with
  | any =>
    have h : zv.oneCell' = true := h
    cases zv <;> first | rfl | cases h
  | bool b => rw [show zv = _ from h]; rfl
  | int k n => rw [show zv = _ from h]; rfl
  | z0 => rw [show zv = _ from h]; rfl
  | ints n xs => obtain ⟨h1, rfl⟩ := h; simpa [Value.cells, iv, V.sz] using h1
  | bools n xs => obtain ⟨h1, rfl⟩ := h; simpa [Value.cells, bv, V.sz] using h1
  | agg vs => obtain ⟨rs, rfl, h2⟩ := h; simpa [Value.cells, V.sz] using (u043 h2).symm
  | _ => exact (h : False).elim
theorem turn_ok {mem : Mem} (hw : WR w ρ mem) {h : Nat} {e : TypeId} {c c' : V} {ba ba' : Option Addr} {cap cap' : Nat} (hm : mget mem h = .vec e c) (hρ : ρ[h]? = some (.vec ba cap)) {w' : World}
    (hsz : w.heap.size ≤ w'.heap.size) (hos : w'.os = w.os) (htape : w'.tape = w.tape) (hout : w'.output = w.output)
    (hheap : ∀ r, r < w.heap.size → (Rl.vec ba cap).blk ≠ some r → w'.heap[r]? = w.heap[r]?) (hb : ∀ r, (Rl.vec ba' cap').blk = some r → (Rl.vec ba cap).blk = some r ∨ w.heap.size ≤ r)
    (hk : ∀ ρ' mem', Step w ρ mem w' ρ' mem' (· ∈ [h]) → (∀ x n c, mget mem x = .var n c → x ∉ [h]) → BlkR w' ρ' mem' (.vec e c') (.vec ba' cap')) (hdr : w.drawn ≤ w'.drawn := by first | exact Nat.le_refl _ | exact Nat.le_succ _ | (simp only [World.drew, World.alloc]; omega) | (simp; done)) :
    ∃ ρ', Step w ρ mem w' ρ' (mset mem h (.vec e c')) (· ∈ [h]) ∧ WR w' ρ' (mset mem h (.vec e c')) ∧ ∀ n, n ≤ c'.cnt → VR w' ρ' (mset mem h (.vec e c')) (.sl h 0 n) (.slice ba' n cap') := by
  have hlive : (mget mem h).live = true := by rw [hm]; rfl
  have hKv : ∀ x n c, mget mem x = .var n c → x ∉ [h] := fun y n c hy => by
    simp only [List.mem_singleton]
    intro hyh
    subst hyh
    rw [hm] at hy; cases hy
  have hs := step_chg (w' := w') hw (b' := .vec e c') (K := (· ∈ [h])) (rl' := .vec ba' cap') hρ hlive hsz hos htape hout hheap hb (fun hk => absurd (by simp) hk) hdr
  have hwr := wr_chg (w' := w') hw (b' := .vec e c') (rl' := .vec ba' cap') hρ hlive hs hKv hheap hb (hk _ _ hs hKv)
  refine ⟨_, hs, hwr, fun n hn => ⟨e, c', ba', cap', ?_, ?_, by omega, .inl ⟨rfl, rfl⟩⟩⟩
  · rw [u064 _ _ _ _ (u068 hlive), if_pos rfl]
  · rw [List.getElem?_set_self (by rw [hw.len]; exact u068 hlive)]
theorem grown_blk {mem : Mem} {e : TypeId} {c' : V} {olds news : List Value} {z : Array Value} {need cap : Nat} (hcr : CR w ρ mem c' (olds ++ news)) (hcnt : c'.cnt = need) (hlen : (olds ++ news).length = need * c'.wd) (hz : z.size = c'.wd)
    (hg : 0 < need) (h63 : need ≤ 140737488355328) {ρ' : Rho} {mem' : Mem} {K : Nat → Prop}
    (hs : Step w ρ mem (w.drew.alloc (.cells ((olds ++ news).toArray ++ Builtin.zeroCells z (grownCap w need cap e - need)) e)) ρ' mem' K) (hK : ∀ x n c, mget mem x = .var n c → ¬ K x) :
    BlkR (w.drew.alloc (.cells ((olds ++ news).toArray ++ Builtin.zeroCells z (grownCap w need cap e - need)) e)) ρ' mem' (.vec e c') (.vec (some ⟨w.heap.size, 0, none⟩) (grownCap w need cap e)) := by
  have hge := grownCap_ge w need cap e
  refine ⟨_, _, rfl, by omega, .inr ⟨w.heap.size, _, by omega, rfl, heap_alloc_new w.drew _, grownCap_le_maxLen w need cap e (by simp only [Go.maxLen]; omega), ?_, ?_⟩⟩
  · simp only [Array.size_append, List.size_toArray, size_zeroCells, hz, hlen, ← Nat.add_mul]
    congr 1
    omega
  · rw [hcnt, ← hlen, List.length_append, u291]
    exact u113 hcr hs hK
theorem append_same_ok (hT : TTok P tt) {o : Oper} {c : Call} (ho : o.op = .call c) (hb : c.callee = .builtin .append) {slot : Option Nat} {k : V → Mem → List Nat → Option R} {x : R} (hI : Inv σ a w ρ) (hsame : ∀ t t', c.argTypes.toList = [t, t'] → Nat.beq t t' = true)
    (hx : opK tt tab slot o σ k = some x) : Does P o a σ w ρ k x := by
  unfold opK at hx
  simp only [ho, hb] at hx
  split at hx
  case h_2 => cases hx
  rename_i t t' hts
  have hbq := hsame _ _ hts
  rw [hbq] at hx
  simp only [cond_true] at hx
  have htt := u031 hbq
  clear hsame hbq
  subst htt
  split at hx
  case h_2 => cases hx
  rename_i e s0 b0 zz hl
  have hu : P.underlying t = some (.slice e) := (hT _ _ hl).desc
  split at hx
  case h_2 => cases hx
  rename_i te hle
  obtain ⟨⟨i, hi, hsz, hby, zv, hzv, hz⟩, _, _, hpos, hzsz⟩ := hT _ _ hle
  split at hx
  case h_2 => cases hx
  rename_i s y hargs
  obtain ⟨p, q, hpq, hp, hq⟩ := opVals_two hargs
  have hrun : ∀ r w', (Builtin.append_ #[t, t] o.type #[a.eval p, a.eval q]).run P w = .ok r w' → (execOp a.eval o).run P w = .ok (.value r) w' := fun r w' h => by
    have hat : c.argTypes = #[t, t] := by apply Array.ext'; simpa using hts
    unfold execOp
    simp only [ho, resolve, hb, invoke, builtin, Sem.run_bind, Sem.run_pure, Result.andThen_ok, hpq, hat]
    simp [h]
  have hvs := hI.op p
  rw [hp] at hvs
  have hvy := hI.op q
  rw [hq] at hvy
  unfold u249 at hx
  split at hx
  case h_1 => cases hx
  rename_i ys hys
  obtain ⟨news, m, hsh⟩ := view_ok hI.wr hvy hys
  have hsh2 := hsh
  obtain ⟨xa, xc, hev, hmc, hnl, hyy, hcell⟩ := hsh
  split at hx
  · -- a slice of one's own
    rename_i h n
    split at hx
    case h_2 => cases hx
    rename_i e' cc hm
    have hb1 := (u006 hx).1
    replace hx := (u006 hx).2
    simp only [Bool.and_eq_true] at hb1
    have he := u031 hb1.1
    have hwd := u031 hb1.2
    subst he
    split at hx
    case h_2 => cases hx
    rename_i c' hc'
    obtain ⟨hfit, hk⟩ := u006 hx
    simp only [fits, Bool.and_eq_true] at hfit
    have hf1 := Nat.le_of_ble_eq_true hfit.1
    have hf2 := Nat.le_of_ble_eq_true hfit.2
    obtain ⟨e2, c2, ba, cap, hm2, hρ, hle2, hvv⟩ := hvs
    rw [hm] at hm2
    cases hm2
    have hes : a.eval p = .slice ba n cap := by
      rcases hvv with ⟨_, h⟩ | ⟨h, _⟩
      · exact h
      · exact absurd rfl h
    have hbk := hI.wr.blk h _ hρ
    rw [hm] at hbk
    obtain ⟨a2, cap2, hrl, hcl, hc⟩ := hbk
    cases hrl
    obtain ⟨olds, hcrp, hops, hold⟩ : ∃ olds, CR w ρ σ.mem (cc.part 0 n) olds ∧ (∀ b cur e, cap ≠ 0 → ba = some ⟨b, 0, none⟩ → w.heap[b]? = some (.cells cur e (0, 0)) → CR w ρ σ.mem cc (cur.toList.take (cc.cnt * cc.wd)) → olds = cur.toList.take (n * cc.wd)) ∧ (n ≠ 0 → ∃ b o, ba = some ⟨b, o, none⟩ ∧ ∀ j u, olds[j]? = some u → w.cell? ⟨b, o + j, none⟩ = some u) := by
      rcases hc with ⟨h0, hc⟩ | ⟨b, cur, hcap, rfl, hheap, hmx, hcs, hc⟩
      · exact ⟨_, (u276 hc 0 n (by omega)).1, fun _ _ _ h => absurd h0 h, fun h => absurd (show n = 0 by omega) h⟩
      · have hsub : sub (cur.toList.take (cc.cnt * cc.wd)) (0 * cc.wd) (n * cc.wd) = cur.toList.take (n * cc.wd) := by
          have : n * cc.wd ≤ cc.cnt * cc.wd := Nat.mul_le_mul_right _ (by omega)
          simp only [sub, Nat.zero_mul, List.drop_zero, List.take_take]
          rw [Nat.min_eq_left this]
        refine ⟨_, (u276 hc 0 n (by omega)).1, fun b2 cur2 e2 _ hb2 hh2 _ => ?_, fun _ => ⟨b, 0, rfl, fun j u hu => ?_⟩⟩
        · cases hb2
          rw [hheap] at hh2
          cases hh2
          exact hsub
        · rw [hsub] at hu
          rw [u286 hheap]
          rw [List.getElem?_take] at hu
          split at hu
          · simpa using hu
          · cases hu
    have hpw : (cc.part 0 n).wd = te.size ∧ (cc.part 0 n).cnt = n := by
      rcases hc with ⟨_, hc⟩ | ⟨_, _, _, _, _, _, _, hc⟩
      · have := u276 hc 0 n (by omega); exact ⟨by rw [this.2.2, ← hwd], this.2.1⟩
      · have := u276 hc 0 n (by omega); exact ⟨by rw [this.2.2, ← hwd], this.2.1⟩
    have hol := u262 hcrp
    rw [hpw.1, hpw.2] at hol
    obtain ⟨hcr', hcnt', hwd', hnl'⟩ := cat_shows hcrp hsh2 hc'
    rw [hpw.1] at hwd'
    rw [hwd'] at hnl'
    rw [hpw.2] at hcnt'
    by_cases hroom : n + m ≤ cap
    · rcases hc with ⟨h0, hc⟩ | ⟨b, cur, hcap, rfl, hheap, hmx, hcs, hc⟩
      · -- nothing there, nothing new
        have hn0 : n = 0 := by omega
        have hm0 : m = 0 := by omega
        subst hn0; subst hm0; subst h0
        have hnn : news = [] := List.eq_nil_of_length_eq_zero (by omega)
        subst hnn
        have hrr := u189 (P := P) (w := w) (ty := o.type) (ba := ba) (n := 0) (cap := 0) (xa := xa) (m := 0) (c := xc) (news := []) hu hi (by omega) (fun h => absurd rfl h) (Nat.le_refl _) (w' := w) (by cases ba <;> rfl)
        have ho0 : olds = [] := List.eq_nil_of_length_eq_zero (by omega)
        subst ho0
        obtain ⟨ρ', hs, hwr, hv⟩ := turn_ok (w' := w) (ba' := ba) (cap' := 0) (c' := c') hI.wr hm hρ (Nat.le_refl _) rfl rfl rfl (fun _ _ _ => rfl) (fun r hr => .inl hr)
          (fun ρ' mem' hs hK => ⟨ba, 0, rfl, by omega, .inl ⟨rfl, u113 hcr' hs hK⟩⟩)
        exact Does.of_run hk (.inl (hrun _ _ (by rw [hes, hev]; exact hrr))) (by have := hv c'.cnt (Nat.le_refl _); rwa [hcnt'] at this ⊢) hwr hs
      · have hfitc : n * te.size + news.length ≤ cur.size := by rw [hnl', hcs, hwd, ← Nat.add_mul]; exact Nat.mul_le_mul_right _ hroom
        have hst := run_storeCells_at P b (n * i.size) e news 0 cur w hheap (by rw [hsz]; simpa using hfitc) (shows_one hsh2)
        have hrr := u189 (P := P) (w := w) (ty := o.type) (ba := some ⟨b, 0, none⟩) (n := n) (cap := cap) (xa := xa) (m := m) (c := xc) (news := news) hu hi (by rw [hsz]; exact hnl') hcell hroom (w' := _)
          (by simp only [u069, Nat.zero_add]; exact hst)
        simp only [Nat.add_zero, hsz] at hrr
        have holds : olds = cur.toList.take (n * te.size) := by
          rw [← hwd]; exact hops b cur e (by omega) rfl hheap hc
        have hnew : (cur.toList.take (n * te.size) ++ news ++ cur.toList.drop (n * te.size + news.length)).take ((n + m) * te.size) = olds ++ news := by
          rw [holds, Nat.add_mul, ← hnl']
          have : (cur.toList.take (n * te.size) ++ news).length = n * te.size + news.length := by
            rw [List.length_append, List.length_take, Nat.min_eq_left (by simp; omega)]
          rw [← this]
          exact List.take_left
        have hhp : ∀ r, r < w.heap.size → (Rl.vec (some ⟨b, 0, none⟩) cap).blk ≠ some r → (w.setRow b (cur.toList.take (n * te.size) ++ news ++ cur.toList.drop (n * te.size + news.length)).toArray).heap[r]? = w.heap[r]? :=
          fun r _ hr => setRow_other w b r _ (fun e => hr (by rw [e]; simp [Rl.blk, Nat.ne_of_gt hcap]))
        obtain ⟨ρ', hs, hwr, hv⟩ := turn_ok (w' := w.setRow b (cur.toList.take (n * te.size) ++ news ++ cur.toList.drop (n * te.size + news.length)).toArray) (ba' := some ⟨b, 0, none⟩) (cap' := cap) (c' := c') hI.wr hm hρ (by simp) rfl rfl rfl hhp (fun r hr => .inl hr)
          (fun ρ' mem' hs hK => ⟨_, cap, rfl, by omega, .inr ⟨b, _, hcap, rfl, setRow_heap w b _ _ e _ hheap, hmx, by
            rw [hwd', ← hwd, ← hcs]
            rw [← hwd] at hfitc
            simp
            omega, by
            rw [hcnt', hwd', hnew]
            exact u113 hcr' hs hK⟩⟩)
        exact Does.of_run hk (.inl (hrun _ _ (by rw [hes, hev]; exact hrr))) (by have := hv c'.cnt (Nat.le_refl _); rwa [hcnt'] at this ⊢) hwr hs
    · have hgr := u289 (P := P) (w := w) (ty := o.type) hu hi hzv (ba := ba) (n := n) (cap := cap) (olds := olds) (xa := xa) (m := m) (c := xc) (news := news) (by rw [hsz]; exact hol) hold (by rw [hsz]; exact hnl') hcell (by omega) (by omega) (by rw [hby, ← hcnt']; exact hf1)
      have hzz : zv.cells.size = c'.wd := by
        rw [hwd', u251 hz]
        exact hzsz
      obtain ⟨ρ', hs, hwr, hv⟩ := turn_ok (w' := w.drew.alloc (.cells ((olds ++ news).toArray ++ Builtin.zeroCells zv.cells (grownCap w (n + m) cap e - (n + m))) e)) (ba' := some ⟨w.heap.size, 0, none⟩) (cap' := grownCap w (n + m) cap e) (c' := c') hI.wr hm hρ (by simp) rfl rfl rfl
        (fun r hr _ => heap_alloc_old w.drew _ hr) (fun r hr => .inr (by
          simp only [Rl.blk] at hr
          split at hr
          · cases hr
          · simp only [Option.map_some, Option.some.injEq] at hr; omega))
        (fun ρ' mem' hs hK => grown_blk hcr' hcnt' (by rw [List.length_append, hol, hnl', hwd', ← Nat.add_mul]) hzz (by omega) (by omega) hs hK)
      exact Does.of_run hk (.inl (hrun _ _ (by rw [hes, hev]; exact hgr))) (by have := hv c'.cnt (Nat.le_refl _); rwa [hcnt'] at this ⊢) hwr hs
  · -- the empty slice
    split at hx
    case h_2 => cases hx
    rename_i m0 hm0
    split at hx
    case h_2 => cases hx
    rename_i c' hc'
    have hfit := (u006 hx).1
    have hk := (u006 hx).2
    clear hx
    simp only [fits, Bool.and_eq_true] at hfit
    have hf1 := Nat.le_of_ble_eq_true hfit.1.1
    have hf2 := Nat.le_of_ble_eq_true hfit.1.2
    have hwd' := u031 hfit.2
    obtain ⟨hmne, hmc⟩ := mt_ne hm0
    obtain ⟨c0, hc0, rfl⟩ := Option.map_eq_some_iff.1 hc'
    clear hc'
    have hwt : c0.tellL.wd = c0.wd := by
      unfold V.tellL
      split
      · split <;> rfl
      · rfl
    have hmw : m0.wd = te.size := by rw [← cat_wd hc0 hmne, ← hwt, hwd']
    obtain ⟨hcr0, hcnt0, _, hnl0⟩ := cat_shows (mt_CR hm0 (by omega)) hsh2 hc0
    obtain ⟨hcr', hct, _⟩ := tellL_ok hcr0
    have hcnt' := hct.trans hcnt0
    have hnl' := hnl0
    rw [← hwt] at hnl'
    clear hcnt0 hnl0 hcr0
    generalize c0.tellL = c' at *
    rw [hmc, Nat.zero_add] at hcnt'
    rw [hwd'] at hnl'
    obtain ⟨ba, hes⟩ := hvs
    by_cases hm0 : m = 0
    · subst hm0
      have hnn : news = [] := List.eq_nil_of_length_eq_zero (by omega)
      subst hnn
      have hrr := u189 (P := P) (w := w) (ty := o.type) (ba := ba) (n := 0) (cap := 0) (xa := xa) (m := 0) (c := xc) (news := []) hu hi (by omega) (fun h => absurd rfl h) (Nat.le_refl _) (w' := w) (by cases ba <;> rfl)
      have hb0 : ∀ r, (Rl.vec ba 0).blk = some r → w.heap.size ≤ r := fun r hr => by simp [Rl.blk] at hr
      have hs := u223 (w' := w) (rl := .vec ba 0) (b := .vec e c') hI.wr (Nat.le_refl _) rfl rfl rfl (fun _ _ => rfl) hb0
      have hwr := wr_new hI.wr hs (fun _ _ => rfl) hb0 ⟨ba, 0, rfl, by omega, .inl ⟨rfl, u113 hcr' hs (fun _ _ _ _ h => h)⟩⟩
      refine Does.of_run hk (.inl (hrun _ _ (by rw [hes, hev]; exact hrr))) ⟨e, c', ba, 0, ?_, ?_, by omega, .inl ⟨rfl, by rw [hcnt']⟩⟩ hwr (hs.weak fun _ h => h.elim)
      · rw [u071, if_pos rfl]
      · rw [← hI.wr.len]; simp
    · have hgr := u289 (P := P) (w := w) (ty := o.type) hu hi hzv (ba := ba) (n := 0) (cap := 0) (olds := []) (xa := xa) (m := m) (c := xc) (news := news) (by simp) (fun h => absurd rfl h) (by rw [hsz]; exact hnl') hcell (by omega) (by omega) (by rw [hby, Nat.zero_add, ← hcnt']; exact hf1)
      simp only [Nat.zero_add] at hgr
      have hb0 : ∀ r, (Rl.vec (some ⟨w.heap.size, 0, none⟩) (grownCap w m 0 e)).blk = some r → w.heap.size ≤ r := fun r hr => by
        simp only [Rl.blk] at hr
        split at hr
        · cases hr
        · simp only [Option.map_some, Option.some.injEq] at hr; omega
      have hs := u223 (w' := w.drew.alloc (.cells (([] ++ news).toArray ++ Builtin.zeroCells zv.cells (grownCap w m 0 e - m)) e)) (rl := .vec (some ⟨w.heap.size, 0, none⟩) (grownCap w m 0 e)) (b := .vec e c') hI.wr (by simp) rfl rfl rfl
        (fun r hr => heap_alloc_old w.drew _ hr) hb0
      have hwr := wr_new hI.wr hs (fun r hr => heap_alloc_old w.drew _ hr) hb0 (grown_blk hcr' hcnt' (by rw [List.nil_append, hnl', hwd']) (by rw [hwd', u251 hz]; exact hzsz) (by omega) (by omega) hs (fun _ _ _ _ h => h))
      refine Does.of_run hk (.inl (hrun _ _ (by rw [hes, hev]; exact hgr))) ⟨e, c', _, _, ?_, ?_, by omega, .inl ⟨rfl, by rw [hcnt']⟩⟩ hwr (hs.weak fun _ h => h.elim)
      · rw [u071, if_pos rfl]
      · rw [← hI.wr.len]; simp
  · cases hx
end
end Go.Lv
namespace Go.Lv
open Go.RowKit
variable [fr : Fr]
section
variable {P : Program} {tt : TT} {tab : Tab} {σ : St} {a : Act} {w : World} {ρ : Rho} {R : Type}
theorem u157 (z : Array Value) (hz : 0 < z.size) : ∀ n : Nat, (Builtin.zeroCells z n).toList = (List.replicate n z.toList).flatten
  | 0 => by simp [Builtin.zeroCells]
  | n + 1 => by
    have ih := u157 z hz n
    have e : (Builtin.zeroCells z (n + 1)).toList = (Builtin.zeroCells z n).toList ++ z.toList := by
      simp only [Builtin.zeroCells, Array.toList_map, Array.toList_range]
      rw [Nat.add_mul, Nat.one_mul, List.range_add, List.map_append, List.map_map]
      congr 1
      refine List.ext_getElem (by simp) fun i h1 h2 => ?_
      simp only [List.length_map, List.length_range] at h1
      simp only [List.getElem_map, List.getElem_range, Function.comp]
      rw [Nat.mul_comm, Nat.mul_add_mod, Nat.mod_eq_of_lt h1, getElem!_pos z i h1]
      simp
    rw [e, ih, List.replicate_succ', List.flatten_append]
    simp
theorem iv_replicate (k : IntKind) (n : Nat) (x : Int) : iv k (List.replicate n x) = List.replicate n (.int k x) := by simp [iv]
theorem bv_replicate (n : Nat) (x : Bool) : bv (List.replicate n x) = List.replicate n (.bool x) := by simp [bv]
theorem u281 {α : Type} (n : Nat) (x : α) : (List.replicate n [x]).flatten = List.replicate n x := by
  induction n with
  | zero => rfl
  | succ n ih => rw [List.replicate_succ, List.flatten_cons, ih]; rfl
theorem iv_flatten (k : IntKind) (n : Nat) (xs : List Int) : iv k (List.replicate n xs).flatten = (List.replicate n (iv k xs)).flatten := by
  induction n with
  | zero => rfl
  | succ n ih => rw [List.replicate_succ, List.flatten_cons, List.replicate_succ, List.flatten_cons, ← ih]; simp [iv]
theorem u272 {mem : Mem} {z c : V} {zv : Value} {n : Nat} (h : z.repl n = some c) (hz : ZR z zv) (hs : 0 < z.sz) :
    CR w ρ mem c (Builtin.zeroCells zv.cells n).toList ∧ c.cnt = n ∧ c.wd = z.sz ∧ (Builtin.zeroCells zv.cells n).toList.length = n * z.sz ∧ ∀ u ∈ (Builtin.zeroCells zv.cells n).toList, u.oneCell' = true := by
  have hc := u251 hz
  rw [u157 _ (by omega)]
  unfold V.repl at h
  split at h
  · rename_i k x
    cases h
    rw [show zv = .int k x from hz]
    refine ⟨?_, by simp [V.cnt], rfl, by simp [Value.cells, V.sz], ?_⟩
    · show _ = iv k _
      rw [iv_replicate]
      exact u281 n _
    · intro u hu
      simp [Value.cells] at hu
      rw [hu.2]; rfl
  · rename_i b
    cases h
    rw [show zv = .bool b from hz]
    refine ⟨?_, by simp [V.cnt], rfl, by simp [Value.cells, V.sz], ?_⟩
    · show _ = bv _
      rw [bv_replicate]
      exact u281 n _
    · intro u hu
      simp [Value.cells] at hu
      rw [hu.2]; rfl
  · rename_i m xs
    cases h
    obtain ⟨h1, rfl⟩ := hz
    refine ⟨⟨⟨hs, fun ys hy => ?_⟩, ?_⟩, by simp [V.cnt], rfl, by simp [Value.cells, V.sz, u054, h1], ?_⟩
    · rw [List.eq_of_mem_replicate hy]; exact h1
    · show _ = iv .i64 _
      rw [iv_flatten]; rfl
    · intro u hu
      simp only [Value.cells, List.mem_flatten, List.mem_replicate] at hu
      obtain ⟨l, ⟨_, rfl⟩, hu⟩ := hu
      simp only [iv, List.mem_map] at hu
      obtain ⟨x, _, rfl⟩ := hu
      rfl
  · cases h
theorem flatten_splice {α : Type} (m : Nat) (yss : List (List α)) (hy : ∀ ys ∈ yss, ys.length = m) (xss : List (List α)) (h : ∀ xs ∈ xss, xs.length = m) (off : Nat) (hle : off + yss.length ≤ xss.length) :
    (u029 xss off yss yss.length).flatten = u029 xss.flatten (off * m) yss.flatten (yss.length * m) := by
  have len : ∀ (l : List (List α)), (∀ ys ∈ l, ys.length = m) → l.flatten.length = l.length * m := fun l hl => by
    induction l with
    | nil => simp
    | cons a r ih =>
      rw [List.flatten_cons, List.length_append, ih fun y hy => hl y (by simp [hy]), hl a (by simp), List.length_cons, Nat.add_mul, Nat.one_mul, Nat.add_comm]
  have tk : ∀ (l : List (List α)), (∀ ys ∈ l, ys.length = m) → ∀ n, l.flatten.take (n * m) = (l.take n).flatten := fun l hl => by
    induction l with
    | nil => intro n; simp
    | cons a r ih =>
      intro n
      cases n with
      | zero => simp
      | succ n =>
        have ha := hl a (by simp)
        rw [List.flatten_cons, List.take_succ_cons, List.flatten_cons, ← ih (fun y hy => hl y (by simp [hy])) n, Nat.add_mul, Nat.one_mul, Nat.add_comm, ← ha, List.take_length_add_append]
  have dr : ∀ (l : List (List α)), (∀ ys ∈ l, ys.length = m) → ∀ n, l.flatten.drop (n * m) = (l.drop n).flatten := fun l hl => by
    induction l with
    | nil => intro n; simp
    | cons a r ih =>
      intro n
      cases n with
      | zero => simp
      | succ n =>
        have ha := hl a (by simp)
        rw [List.flatten_cons, List.drop_succ_cons, ← ih (fun y hy => hl y (by simp [hy])) n, Nat.add_mul, Nat.one_mul, Nat.add_comm, ← ha, List.drop_length_add_append]
  unfold u029
  rw [List.flatten_append, List.flatten_append, tk xss h, ← Nat.add_mul, dr xss h]
theorem zeroed_ok {mem : Mem} {c z c' : V} {off n : Nat} (h : c.zeroed z off n = some c') {rs : List Value} (hr : CR w ρ mem c rs) (hle : off + n ≤ c.cnt) {zv : Value} (hz : ZR z zv) (hs : 0 < z.sz) :
    CR w ρ mem c' (u029 rs (off * c.wd) (Builtin.zeroCells zv.cells n).toList (n * c.wd)) ∧ c'.wd = c.wd ∧ c'.cnt = c.cnt ∧ z.sz = c.wd := by
  have hlen := u262 hr
  unfold V.zeroed at h
  split at h
  · rename_i k xs k' x
    obtain ⟨hkk, h2⟩ := u039 h
    subst hkk
    clear h
    simp only [Option.some.injEq] at h2
    subst h2
    obtain ⟨g1, g2, g3, g4, _⟩ := u272 (w := w) (ρ := ρ) (mem := mem) (z := .int k x) (n := n) rfl hz hs
    have hr : rs = iv k xs := hr
    subst hr
    have g1 : _ = iv k _ := g1
    simp only [V.cnt, V.wd, Nat.mul_one] at hle ⊢
    rw [g1]
    refine ⟨?_, trivial, ?_, rfl⟩
    · show u029 (iv k xs) off (iv k (List.replicate n x)) n = iv k _
      rw [u096]
    · rw [u076 _ _ _ _ hle (by simp)]
  · rename_i bs b
    cases h
    obtain ⟨g1, g2, g3, g4, _⟩ := u272 (w := w) (ρ := ρ) (mem := mem) (z := .bool b) (n := n) rfl hz hs
    have hr : rs = bv bs := hr
    subst hr
    have g1 : _ = bv _ := g1
    simp only [V.cnt, V.wd, Nat.mul_one] at hle ⊢
    rw [g1]
    refine ⟨?_, trivial, ?_, rfl⟩
    · show u029 (bv bs) off (bv (List.replicate n b)) n = bv _
      rw [u221]
    · rw [u076 _ _ _ _ hle (by simp)]
  · rename_i m xss m' zs
    obtain ⟨hb, h⟩ := u006 h
    cases h
    have hb := u031 hb
    subst hb
    obtain ⟨g1, g2, g3, g4, _⟩ := u272 (w := w) (ρ := ρ) (mem := mem) (z := .ints m zs) (n := n) rfl hz hs
    obtain ⟨hrows, rfl⟩ := hr
    obtain ⟨gr, g1⟩ := g1
    simp only [V.cnt, V.wd] at hle ⊢
    rw [g1]
    have e : n = (List.replicate n zs).length := by simp
    refine ⟨⟨⟨hrows.1, fun ys hy => ?_⟩, ?_⟩, trivial, ?_, rfl⟩
    · unfold u029 at hy
      simp only [List.mem_append] at hy
      rcases hy with (hy | hy) | hy
      · exact hrows.2 ys (List.mem_of_mem_take hy)
      · exact gr.2 ys hy
      · exact hrows.2 ys (List.mem_of_mem_drop hy)
    · have := flatten_splice m (List.replicate n zs) gr.2 xss hrows.2 off (by simpa using hle)
      simp only [List.length_replicate] at this
      rw [this, u096]
    · rw [u076 _ _ _ _ hle (by simp)]
  · cases h
theorem zeroed_repl {c z c' : V} {off n : Nat} (h : c.zeroed z off n = some c') : ∃ c9, z.repl n = some c9 := by
  unfold V.zeroed at h
  split at h <;> first | exact ⟨_, rfl⟩ | cases h
theorem clear_ok (hT : TTok P tt) {o : Oper} {c : Call} (ho : o.op = .call c) (hb : c.callee = .builtin .clear) {slot : Option Nat} {k : V → Mem → List Nat → Option R} {x : R} (hI : Inv σ a w ρ)
    (hx : opK tt tab slot o σ k = some x) : Does P o a σ w ρ k x := by
  unfold opK at hx
  simp only [ho, hb] at hx
  split at hx
  case h_2 => cases hx
  rename_i t hts
  split at hx
  case h_2 => cases hx
  rename_i e s0 b0 zz hl
  have hu : P.underlying t = some (.slice e) := (hT _ _ hl).desc
  split at hx
  case h_2 => cases hx
  rename_i te hle
  obtain ⟨⟨i, hi, hsz, hby, zv, hzv, hz⟩, _, _, hpos, hzsz⟩ := hT _ _ hle
  split at hx
  case h_2 => cases hx
  rename_i y hargs
  obtain ⟨q, hq, hqe⟩ := u137 hargs
  have hv := hI.op q
  rw [hqe] at hv
  have hrun : ∀ w', (Builtin.clear_ c.argTypes o.type #[a.eval q]).run P w = .ok (.tuple #[]) w' → (execOp a.eval o).run P w = .ok (.value (.tuple #[])) w' := fun w' h => by
    unfold execOp
    simp only [ho, resolve, hb, invoke, builtin, Sem.run_bind, Sem.run_pure, Result.andThen_ok, hq]
    simp [h]
  have htup : ∀ (w' : World) (ρ' : Rho) (mem' : Mem), VR w' ρ' mem' (.tup []) (.tuple #[]) := fun _ _ _ => ⟨[], rfl, .nil⟩
  have hzero : ∀ ad cap, a.eval q = .slice ad 0 cap → (execOp a.eval o).run P w = .ok (.value (.tuple #[])) w := fun ad cap he => by
    refine hrun w ?_
    rw [he]
    cases ad with
    | none => simp [Builtin.clear_, hts, run_underlying hu]
    | some ad => simp [Builtin.clear_, hts, run_underlying hu]
  unfold clearK at hx
  split at hx
  · rename_i h off n
    split at hx
    case h_2 => cases hx
    rename_i e' cc hm
    split at hx
    case h_2 => cases hx
    rename_i c' hc'
    obtain ⟨e2, c2, ba, cap, hm2, hρ, hle2, hvv⟩ := hv
    rw [hm] at hm2
    simp only [Blk.vec.injEq] at hm2
    obtain ⟨rfl, rfl⟩ := hm2
    have hbk := hI.wr.blk h _ hρ
    rw [hm] at hbk
    obtain ⟨a2, cap2, hrl, hcl, hc⟩ := hbk
    cases hrl
    have hlive : (mget σ.mem h).live = true := by rw [hm]; rfl
    by_cases hn : n = 0
    · subst hn
      have hev : ∃ ad cp, a.eval q = .slice ad 0 cp := by
        rcases hvv with ⟨_, h⟩ | ⟨_, a', cap', h, _⟩ <;> exact ⟨_, _, h⟩
      obtain ⟨ad, cp, hev⟩ := hev
      have hsame : ∀ rs, CR w ρ σ.mem cc rs → CR w ρ σ.mem c' rs ∧ c'.wd = cc.wd ∧ c'.cnt = cc.cnt := fun rs hr => by
        obtain ⟨g1, g2, g3, _⟩ := zeroed_ok hc' hr hle2 hz (by omega)
        have e0 : (Builtin.zeroCells zv.cells 0).toList = [] := by simp [Builtin.zeroCells]
        rw [e0, Nat.zero_mul] at g1
        have : u029 rs (off * cc.wd) [] 0 = rs := by simp [u029]
        rw [this] at g1
        exact ⟨g1, g2, g3⟩
      have hshape : c'.wd = cc.wd ∧ c'.cnt = cc.cnt := by
        rcases hc with ⟨_, hc⟩ | ⟨_, _, _, _, _, _, _, hc⟩
        · exact (hsame _ hc).2
        · exact (hsame _ hc).2
      obtain ⟨hs2, hw2⟩ := chg_ok hI.wr (w' := w) (b' := .vec e' c') hρ hlive (Nat.le_refl _) rfl rfl rfl (fun _ _ _ => rfl) (by rw [hm]; exact ⟨c', rfl, hshape.1, by omega⟩)
        (fun hs => ⟨ba, cap, rfl, by omega, by
          rcases hc with ⟨h0, hc⟩ | ⟨b, cur, hcap, hba, hheap, hmx, hcs, hc⟩
          · exact .inl ⟨h0, u113 (hsame _ hc).1 hs (fun _ _ _ _ h => h)⟩
          · exact .inr ⟨b, cur, hcap, hba, hheap, hmx, by rw [hshape.1]; exact hcs, by rw [hshape.1, hshape.2]; exact u113 (hsame _ hc).1 hs (fun _ _ _ _ h => h)⟩⟩)
      exact Does.of_run hx (.inl (hzero _ _ hev)) (htup _ _ _) hw2 (hs2.weak fun _ h => h.elim)
    · rcases hc with ⟨h0, _⟩ | ⟨b, cur, hcap, hba, hheap, hmx, hcs, hc⟩
      · omega
      subst hba
      obtain ⟨cp, hev⟩ : ∃ cp, a.eval q = .slice (some ⟨b, off * cc.wd, none⟩) n cp := by
        rcases hvv with ⟨h1, h⟩ | ⟨_, a', cap', h, _, h3⟩
        · subst h1
          exact ⟨_, by rw [h, Nat.zero_mul]⟩
        · obtain ⟨b', hb', rfl⟩ := h3 hn
          cases hb'
          exact ⟨_, h⟩
      obtain ⟨g1, g2, g3, g4⟩ := zeroed_ok hc' hc hle2 hz (by omega)
      have hrep : (Builtin.zeroCells zv.cells n).toList.length = n * cc.wd ∧ ∀ u ∈ (Builtin.zeroCells zv.cells n).toList, u.oneCell' = true := by
        obtain ⟨c9, h9⟩ := zeroed_repl hc'
        obtain ⟨_, _, _, q4, q5⟩ := u272 (w := w) (ρ := ρ) (mem := σ.mem) h9 hz (by omega)
        exact ⟨by rw [q4, g4], q5⟩
      have hcc : cc.cnt * cc.wd ≤ cur.size := by rw [hcs]; exact Nat.mul_le_mul_right _ hcl
      have hin : off * cc.wd + n * cc.wd ≤ cc.cnt * cc.wd := by rw [← Nat.add_mul]; exact Nat.mul_le_mul_right _ hle2
      have hst := run_storeCells_at P b (off * cc.wd) e' (Builtin.zeroCells zv.cells n).toList 0 cur w hheap (by omega) hrep.2
      simp only [Nat.add_zero, hrep.1] at hst
      rw [← u265 _ _ _ _ _ hrep.1 hin (by simpa using hcc)] at g1
      obtain ⟨hs2, hw2⟩ := chg_ok hI.wr (w' := w.setRow b (u029 cur.toList (off * cc.wd) (Builtin.zeroCells zv.cells n).toList (n * cc.wd)).toArray) (b' := .vec e' c') hρ hlive (by simp) rfl rfl rfl
        (fun r _ hr => setRow_other w b r _ (fun e => hr (by rw [e]; simp [Rl.blk, Nat.ne_of_gt hcap]))) (by rw [hm]; exact ⟨c', rfl, g2, by omega⟩)
        (fun hs => ⟨_, cap, rfl, by omega, .inr ⟨b, _, hcap, rfl, setRow_heap w b _ _ e' _ hheap, hmx, by
          rw [g2, ← hcs, List.size_toArray, u076 _ _ _ _ (by simp; omega) hrep.1, Array.length_toList], by
          rw [g2, g3]; exact u113 g1 hs (fun _ _ _ _ h => h)⟩⟩)
      refine Does.of_run hx (.inl (hrun _ ?_)) (htup _ _ _) hw2 (hs2.weak fun _ h => h.elim)
      rw [hev]
      cases n with
      | zero => exact absurd rfl hn
      | succ n => simp [Builtin.clear_, hts, run_underlying hu, u109 hi hzv, hst, u029]
  · obtain ⟨ad, hev⟩ := hv
    exact Does.of_run hx (.inl (hzero _ _ hev)) (htup _ _ _) hI.wr (Step.refl _ _ _ _)
  · cases hx
theorem cap_ok (hT : TTok P tt) {o : Oper} {c : Call} (ho : o.op = .call c) (hb : c.callee = .builtin .cap) {slot : Option Nat} {k : V → Mem → List Nat → Option R} {x : R} (hI : Inv σ a w ρ)
    (hx : opK tt tab slot o σ k = some x) : Val P o a σ w ρ k x := by
  unfold opK at hx
  simp only [ho, hb] at hx
  split at hx
  case h_2 => cases hx
  rename_i t hts
  split at hx
  case h_2 => cases hx
  rename_i e s0 b0 zz hl
  have hu : P.underlying t = some (.slice e) := (hT _ _ hl).desc
  split at hx
  case h_2 => cases hx
  rename_i hargs
  obtain ⟨q, hq, hqe⟩ := u137 hargs
  have hv := hI.op q
  rw [hqe] at hv
  obtain ⟨ad, hev⟩ := hv
  refine ⟨_, .int .i64 0, hx, ?_, rfl⟩
  unfold execOp
  simp only [ho, resolve, hb, invoke, builtin, Sem.run_bind, Sem.run_pure, Result.andThen_ok, hq]
  simp [hev, Builtin.cap_, hts, run_underlying hu, goInt]
theorem appendN_ok (hT : TTok P tt) {o : Oper} {c : Call} (ho : o.op = .call c) (hb : c.callee = .builtin .append) {t t' e : TypeId} {te : TI} {kn kq : IntKind} {n : Int} (hts : c.argTypes.toList = [t, t'])
    (hu : P.underlying t = some (.slice e)) (hu' : P.underlying t' = some (.int kn)) (hle : look tt e = some te) (hargs : u057 σ c.args = [.z0, .int kq n]) {k : V → Mem → List Nat → Option R} {x : R} (hI : Inv σ a w ρ)
    (hx : u190 e te n σ.mem k = some x) : Does P o a σ w ρ k x := by
  obtain ⟨⟨i, hi, hsz, hby, zv, hzv, hz⟩, _, _, hpos, hzsz⟩ := hT _ _ hle
  unfold u190 at hx
  obtain ⟨hc0, hx⟩ := u006 hx
  simp only [Bool.and_eq_true, decide_eq_true_eq, fits] at hc0
  obtain ⟨h1, hf1, hf2⟩ := hc0
  have hf1 := Nat.le_of_ble_eq_true hf1
  have hf2 := Nat.le_of_ble_eq_true hf2
  split at hx
  case h_2 => cases hx
  rename_i c' hc'
  obtain ⟨p, q, hpq, hp, hq⟩ := opVals_two hargs
  have hvp := hI.op p
  rw [hp] at hvp
  obtain ⟨ba, hvp⟩ := hvp
  have hvq := hI.op q
  rw [hq] at hvq
  have hvq : a.eval q = .int kq n := hvq
  obtain ⟨m, hm⟩ : ∃ m : Nat, n = (m : Int) := ⟨n.toNat, by omega⟩
  subst hm
  simp only [Int.toNat_natCast] at hc' hf1 hf2 hx
  have hm0 : 0 < m := by omega
  obtain ⟨g1, g2, g3, g4, g5⟩ := u272 (w := w) (ρ := ρ) (mem := σ.mem) hc' hz (by omega)
  have hold := u112 (P := P) (w := w.drew) (ad := ba) (m := 0) (cap := 0) (size := i.size) (rs := []) (by simp) (fun h => absurd rfl h)
  have hnext := growslice_fits (bytes := i.bytes) (old := 0) (need := 0 + m) (by omega) (by rw [Nat.zero_add, hby]; exact hf1)
  have hgr := Lib.run_append_grow_zeros (P := P) w t t' o.type e i zv kq kn hu hu' hi hzv ba 0 0 [] hold m hm0 (by omega) (by omega) (by omega) (by rw [hby]; omega) hnext
  simp only [Nat.zero_add, List.nil_append] at hgr
  have hzc : zv.cells.size = te.size := by rw [u251 hz]; exact hzsz
  have e0 : (#[] : Array Value) ++ Builtin.zeroCells zv.cells m ++ Builtin.zeroCells zv.cells (grownCap w m 0 e - m) = (([] ++ (Builtin.zeroCells zv.cells m).toList : List Value).toArray ++ Builtin.zeroCells zv.cells (grownCap w m 0 e - m)) := by
    simp
  rw [e0] at hgr
  have hwd : c'.wd = te.size := by rw [g3, hzsz]
  have hb0 : ∀ r, (Rl.vec (some ⟨w.heap.size, 0, none⟩) (grownCap w m 0 e)).blk = some r → w.heap.size ≤ r := fun r hr => by
    simp only [Rl.blk] at hr
    split at hr
    · cases hr
    · simp only [Option.map_some, Option.some.injEq] at hr; omega
  have hs := u223 (w' := w.drew.alloc (.cells (([] ++ (Builtin.zeroCells zv.cells m).toList).toArray ++ Builtin.zeroCells zv.cells (grownCap w m 0 e - m)) e)) (rl := .vec (some ⟨w.heap.size, 0, none⟩) (grownCap w m 0 e)) (b := .vec e c') hI.wr (by simp) rfl rfl rfl
    (fun r hr => heap_alloc_old w.drew _ hr) hb0
  have hwr := wr_new hI.wr hs (fun r hr => heap_alloc_old w.drew _ hr) hb0 (grown_blk (by simpa using g1) g2 (by rw [List.nil_append, g4, g3]) (by rw [hzc, hwd]) (by omega) (by omega) hs (fun _ _ _ _ h => h))
  have hat : c.argTypes = #[t, t'] := by apply Array.ext'; simpa using hts
  have hex : ∀ r w', (Builtin.append_ #[t, t'] o.type #[.slice ba 0 0, .int kq m]).run P w = .ok r w' → (execOp a.eval o).run P w = .ok (.value r) w' := fun r w' h => by
    unfold execOp
    simp only [ho, resolve, hb, invoke, builtin, Sem.run_bind, Sem.run_pure, Result.andThen_ok, hpq, hat]
    simp [hvp, hvq, h]
  refine Does.of_run hx (.inl (hex _ _ hgr)) ⟨e, c', _, _, ?_, ?_, by omega, .inl ⟨rfl, rfl⟩⟩ hwr (hs.weak fun _ h => h.elim)
  · rw [u071, if_pos rfl]
  · rw [← hI.wr.len]; simp
theorem append_ok (hT : TTok P tt) {o : Oper} {c : Call} (ho : o.op = .call c) (hb : c.callee = .builtin .append) {slot : Option Nat} {k : V → Mem → List Nat → Option R} {x : R} (hI : Inv σ a w ρ)
    (hx : opK tt tab slot o σ k = some x) : Does P o a σ w ρ k x := by
  by_cases hsame : ∀ t t', c.argTypes.toList = [t, t'] → Nat.beq t t' = true
  · exact append_same_ok hT ho hb hI hsame hx
  · unfold opK at hx
    simp only [ho, hb] at hx
    split at hx
    case h_2 => cases hx
    rename_i t t' hts
    cases hq : Nat.beq t t' with
    | true =>
      exact absurd (fun t1 t1' h1 => by
        rw [hts] at h1
        simp only [List.cons.injEq, and_true] at h1
        rw [← h1.1, ← h1.2]; exact hq) hsame
    | false =>
      rw [hq] at hx
      simp only [cond_false] at hx
      split at hx
      case h_2 => cases hx
      rename_i e s0 b0 zz kn s1 b1 zy hl hl'
      have hu : P.underlying t = some (.slice e) := (hT _ _ hl).desc
      have hu' : P.underlying t' = some (.int kn) := (hT _ _ hl').desc
      split at hx
      case h_2 => cases hx
      rename_i te hle
      split at hx
      case h_2 => cases hx
      rename_i kq n hargs
      exact appendN_ok hT ho hb hts hu hu' hle hargs hI hx
end
end Go.Lv
namespace Go.Lv
open Go.RowKit
theorem u124 (f : Nat → Nat) (vs : List V) : V.renL f vs = vs.map (V.ren f) := by
  induction vs with
  | nil => rfl
  | cons v r ih => simp [V.renL, ih]
theorem u164 (f : Nat → Nat) (c : V) : (c.ren f).cnt = c.cnt := by cases c <;> simp [V.ren, V.cnt, u124]
theorem u207 (f : Nat → Nat) (c : V) : (c.ren f).wd = c.wd := by cases c <;> simp [V.ren, V.wd]
theorem ren_flatG {f : Nat → Nat} {v : V} (h : v.flatG = true) : v.ren f = v := by cases v <;> first | (simp [V.ren]; done) | cases h
theorem u123 (f : Nat → Nat) (b : Blk) : (b.ren f).live = b.live := by cases b <;> rfl
structure Rn (f1 f2 : Fr) (w : World) (ρ1 : Rho) (m1 : Mem) (ρ2 : Rho) (m2 : Mem) (f : Nat → Nat) (S : Nat → Prop) (ro : Prop) : Prop where
  hd : ∀ (h : Nat) (rl : Rl), S h → ρ1[h]? = some rl → (mget m1 h).live = true → ρ2[f h]? = some rl ∧ ∃ g, mget m2 (f h) = (mget m1 h).ren g
  nl : ro → ∀ b, b < w.heap.size → @NL f1 ρ1 m1 b → @NL f2 ρ2 m2 b
section
variable {f1 f2 : Fr} {w : World} {ρ1 ρ2 : Rho} {m1 m2 : Mem} {f : Nat → Nat} {S : Nat → Prop} {ro : Prop}
theorem u253 (R : Rn f1 f2 w ρ1 m1 ρ2 m2 f S ro) (hro : ro) {cells : List Value} {wd n : Nat} {r : Value} (h : @RoR f1 w ρ1 m1 cells wd n r) : @RoR f2 w ρ2 m2 cells wd n r := by
  obtain ⟨a, cap, rfl, hnc, hl, hc⟩ := h
  refine ⟨a, cap, rfl, hnc, hl, fun hn => ?_⟩
  obtain ⟨b, off, rfl, hnl, hb, hcell⟩ := hc hn
  exact ⟨b, off, rfl, R.nl hro b hb hnl, hb, hcell⟩
theorem PtrV_ren (R : Rn f1 f2 w ρ1 m1 ρ2 m2 f S ro) {h i o s : Nat} {r : Value} (hS : S h) (hv : PtrV ρ1 m1 h i o s r) : PtrV ρ2 m2 (f h) i o s r := by
  obtain ⟨n, c, b, hm, hρ, rfl, hi, ho⟩ := hv
  obtain ⟨h1, g, h2⟩ := R.hd h _ hS hρ (by rw [hm]; rfl)
  rw [hm] at h2
  exact ⟨n, c.ren g, b, h2, h1, rfl, hi, ho⟩
theorem u209 (R : Rn f1 f2 w ρ1 m1 ρ2 m2 f S ro) {v : V} {r : Value} (hS : ∀ h ∈ v.hs, S h) (hro : v.hasRo = true → ro) (hv : @VG f1 w ρ1 m1 v r) : @VG f2 w ρ2 m2 (v.ren f) r := by
  cases v with
  | any | bool | int | z0 => exact hv
  | ri k xs => exact u253 R (hro rfl) hv
  | rb bs => exact u253 R (hro rfl) hv
  | rr m xss => exact ⟨hv.1, u253 R (hro rfl) hv.2⟩
  | ptr x i o s => exact PtrV_ren R (hS x (by simp [V.hs])) hv
  | _ => exact hv.elim
theorem u193 {α β γ : Type} {p : α → β → Prop} {q : γ → β → Prop} {g : α → γ} {xs : List α} {ys : List β} (h : All2 p xs ys) (hpq : ∀ x y, x ∈ xs → p x y → q (g x) y) : All2 q (xs.map g) ys := by
  induction h with
  | nil => exact .nil
  | cons hp _ ih => exact .cons (hpq _ _ (by simp) hp) (ih fun x y hx => hpq x y (by simp [hx]))
theorem u252 (R : Rn f1 f2 w ρ1 m1 ρ2 m2 f S ro) {v : V} {r : Value} (hS : ∀ h ∈ v.hs, S h) (hro : v.hasRo = true → ro) (hv : @VF f1 w ρ1 m1 v r) : @VF f2 w ρ2 m2 (v.ren f) r := by
  cases v with
  | rv vs =>
    obtain ⟨rs, h1, h2⟩ := hv
    have hr := hro rfl
    refine ⟨rs, ?_, ?_⟩
    · rw [u124, List.length_map]; exact u253 R hr h1
    · rw [u124]
      exact u193 h2 fun x y hx hp => u209 R (fun z hz => hS z (by simp only [V.hs]; exact u134 hx hz)) (fun _ => hr) hp
  | rl k xss =>
    obtain ⟨rs, h1, h2⟩ := hv
    have hr := hro rfl
    exact ⟨rs, u253 R hr h1, u026 h2 fun x y _ hp => u253 R hr hp⟩
  | fn g first caps =>
    obtain ⟨fs, cs, rfl, h1, h2⟩ := hv
    have hr := hro rfl
    refine ⟨fs, cs, rfl, ?_, ?_⟩
    · rw [u124]
      exact u193 h1 fun x y hx hp => u209 R (fun z hz => hS z (by simp only [V.hs, List.mem_append]; exact .inl (u134 hx hz))) (fun _ => hr) hp
    · rw [u124]
      exact u193 h2 fun x y hx hp => u209 R (fun z hz => hS z (by simp only [V.hs, List.mem_append]; exact .inr (u134 hx hz))) (fun _ => hr) hp
  | any => exact u209 R (v := .any) hS hro hv
  | bool b => exact u209 R (v := .bool b) hS hro hv
  | int k n => exact u209 R (v := .int k n) hS hro hv
  | z0 => exact u209 R (v := .z0) hS hro hv
  | ri k xs => exact u209 R (v := .ri k xs) hS hro hv
  | rb bs => exact u209 R (v := .rb bs) hS hro hv
  | rr m xss => exact u209 R (v := .rr m xss) hS hro hv
  | ptr x i o s => exact u209 R (v := .ptr x i o s) hS hro hv
  | _ => exact (hv : False).elim
theorem CR_ren (R : Rn f1 f2 w ρ1 m1 ρ2 m2 f S ro) {c : V} {rs : List Value} (hS : ∀ h ∈ c.hs, S h) (hro : ((∃ vs, c = .rv vs) ∨ ∃ k xss, c = .rl k xss) → ro) (hv : @CR f1 w ρ1 m1 c rs) : @CR f2 w ρ2 m2 (c.ren f) rs := by
  cases c with
  | ri | rb | rr => exact hv
  | rl k xss =>
    have hr := hro (.inr ⟨_, _, rfl⟩)
    exact u026 hv fun x y _ hp => u253 R hr hp
  | rv vs =>
    have hr := hro (.inl ⟨_, rfl⟩)
    show All2 _ (V.renL f vs) rs
    rw [u124]
    exact u193 hv fun x y hx hp => u252 R (fun z hz => hS z (by simp only [V.hs]; exact u134 hx hz)) (fun _ => hr) hp
  | _ => exact hv.elim
theorem u081 (R : Rn f1 f2 w ρ1 m1 ρ2 m2 f S ro) {v : V} {r : Value} (hS : ∀ h ∈ v.hs, S h) (hro : v.hasRo = true → ro) (hv : @VR1 f1 w ρ1 m1 v r) : @VR1 f2 w ρ2 m2 (v.ren f) r := by
  cases v with
  | undef | any | ints | bools => exact hv
  | agg vs =>
    obtain ⟨rs, rfl, h2⟩ := hv
    have hr := hro rfl
    refine ⟨rs, rfl, ?_⟩
    rw [u124]
    exact u193 h2 fun x y hx hp => u252 R (fun z hz => hS z (by simp only [V.hs]; exact u134 hx hz)) (fun _ => hr) hp
  | rp c i o s =>
    obtain ⟨b, off, rs, rfl, hn, hb, hc, hcell, hi, ho⟩ := hv
    have hr := hro rfl
    exact ⟨b, off, rs, by rw [u207], R.nl hr b hb hn, hb, CR_ren R (fun z hz => hS z (by simpa only [V.hs] using hz)) (fun _ => hr) hc, hcell, by rw [u164]; exact hi, by rw [u207]; exact ho⟩
  | sl x off n =>
    obtain ⟨e, c, a, cap, hm, hρ, hle, hvv⟩ := hv
    obtain ⟨h1, g, h2⟩ := R.hd x _ (hS x (by simp [V.hs])) hρ (by rw [hm]; rfl)
    rw [hm] at h2
    exact ⟨e, c.ren g, a, cap, h2, h1, by rw [u164]; exact hle, by rw [u207]; exact hvv⟩
  | asl x o s n =>
    obtain ⟨m, c, b, hm, hρ, hle, hs, hvv⟩ := hv
    obtain ⟨h1, g, h2⟩ := R.hd x _ (hS x (by simp [V.hs])) hρ (by rw [hm]; rfl)
    rw [hm] at h2
    exact ⟨m, c.ren g, b, h2, h1, hle, hs, hvv⟩
  | map x =>
    obtain ⟨n, c, b, hm, hρ, rfl⟩ := hv
    obtain ⟨h1, g, h2⟩ := R.hd x _ (hS x (by simp [V.hs])) hρ (by rw [hm]; rfl)
    rw [hm] at h2
    exact ⟨_, _, b, h2, h1, rfl⟩
  | tup vs => exact (hv : False).elim
  | ptr x i o s =>
    rcases hv with hv | ⟨e, c, b, cap, hm, hρ, hcap, rfl, hi, ho⟩
    · exact .inl (PtrV_ren R (hS x (by simp [V.hs])) hv)
    · obtain ⟨h1, g, h2⟩ := R.hd x _ (hS x (by simp [V.hs])) hρ (by rw [hm]; rfl)
      rw [hm] at h2
      exact .inr ⟨e, c.ren g, b, cap, h2, h1, hcap, by rw [u207], by rw [u164]; exact hi, by rw [u207]; exact ho⟩
  | bool b => exact u252 R (v := .bool b) hS hro hv
  | int k n => exact u252 R (v := .int k n) hS hro hv
  | z0 => exact u252 R (v := .z0) hS hro hv
  | ri k xs => exact u252 R (v := .ri k xs) hS hro hv
  | rb bs => exact u252 R (v := .rb bs) hS hro hv
  | rr m xss => exact u252 R (v := .rr m xss) hS hro hv
  | rl k xss => exact u252 R (v := .rl k xss) hS hro hv
  | rv vs => exact u252 R (v := .rv vs) hS hro hv
  | fn g x y => exact u252 R (v := .fn g x y) hS hro hv
theorem VR_ren (R : Rn f1 f2 w ρ1 m1 ρ2 m2 f S ro) {v : V} {r : Value} (hS : ∀ h ∈ v.hs, S h) (hro : v.hasRo = true → ro) (hv : @VR f1 w ρ1 m1 v r) : @VR f2 w ρ2 m2 (v.ren f) r := by
  cases v with
  | tup vs =>
    obtain ⟨rs, rfl, h2⟩ := hv
    refine ⟨rs, rfl, ?_⟩
    rw [u124]
    refine u193 h2 fun x y hx hp => u081 R (fun z hz => hS z (by simp only [V.hs]; exact u134 hx hz)) (fun hr => hro ?_) hp
    simp only [V.hasRo, List.any_eq_true]
    refine ⟨x, hx, ?_⟩
    cases x <;> first | rfl | cases hr | (exact (hp : False).elim)
  | undef => exact u081 R (v := .undef) hS hro hv
  | any => trivial
  | ints n xs => exact u081 R (v := .ints n xs) hS hro hv
  | bools n xs => exact u081 R (v := .bools n xs) hS hro hv
  | agg vs => exact u081 R (v := .agg vs) hS hro hv
  | rp c i o s => exact u081 R (v := .rp c i o s) hS hro hv
  | sl x off n => exact u081 R (v := .sl x off n) hS hro hv
  | asl x o s n => exact u081 R (v := .asl x o s n) hS hro hv
  | map x => exact u081 R (v := .map x) hS hro hv
  | ptr x i o s => exact u081 R (v := .ptr x i o s) hS hro hv
  | bool b => exact u081 R (v := .bool b) hS hro hv
  | int k n => exact u081 R (v := .int k n) hS hro hv
  | z0 => exact u081 R (v := .z0) hS hro hv
  | ri k xs => exact u081 R (v := .ri k xs) hS hro hv
  | rb bs => exact u081 R (v := .rb bs) hS hro hv
  | rr m xss => exact u081 R (v := .rr m xss) hS hro hv
  | rl k xss => exact u081 R (v := .rl k xss) hS hro hv
  | rv vs => exact u081 R (v := .rv vs) hS hro hv
  | fn g x y => exact u081 R (v := .fn g x y) hS hro hv
theorem BlkR_ren (R : Rn f1 f2 w ρ1 m1 ρ2 m2 f S ro) {b : Blk} {rl : Rl} (hS : ∀ h ∈ b.hs, S h) (hro : b.hasRo = true → ro) (hv : @BlkR f1 w ρ1 m1 b rl) : @BlkR f2 w ρ2 m2 (b.ren f) rl := by
  cases b with
  | dead => trivial
  | var n c =>
    obtain ⟨r, e, rs, rfl, hr, hl, hc, hwd⟩ := hv
    exact ⟨r, e, rs, rfl, hr, hl, CR_ren R hS (fun h => by
      rcases h with ⟨vs, h⟩ | ⟨k, xss, h⟩
      · exact hro (by subst h; rfl)
      · exact hro (by subst h; rfl)) hc, by rw [u207]; exact hwd⟩
  | vec e c =>
    obtain ⟨a, cap, rfl, hle, hc⟩ := hv
    have hro2 : ((∃ vs, c = .rv vs) ∨ ∃ k xss, c = .rl k xss) → ro := fun h => by
      rcases h with ⟨vs, h⟩ | ⟨k, xss, h⟩
      · exact hro (by subst h; rfl)
      · exact hro (by subst h; rfl)
    refine ⟨a, cap, rfl, by rw [u164]; exact hle, ?_⟩
    rcases hc with ⟨h0, hc⟩ | ⟨r, cur, hcap, rfl, hr, hm, hz, hc⟩
    · exact .inl ⟨h0, CR_ren R hS hro2 hc⟩
    · exact .inr ⟨r, cur, hcap, rfl, hr, hm, by rw [u207]; exact hz, by rw [u164, u207]; exact CR_ren R hS hro2 hc⟩
  | map n c =>
    obtain ⟨r, es, clock, rfl, hr, hc⟩ := hv
    refine ⟨r, es, clock, rfl, hr, u026 hc fun x y _ ⟨h1, hg, h2⟩ => ⟨h1, hg, ?_⟩⟩
    have := u209 R (v := x.2) (fun h hh => ?_) (fun _ => hro rfl) h2
    · rwa [ren_flatG hg] at this
    · exfalso
      revert hh hg
      cases x.2 <;> simp [V.hs, V.flatG]
end
theorem u155 {n : Nat} {l : List Nat} {i : Nat} (h : idx n l = some i) : l[i]? = some n := by
  induction l generalizing i with
  | nil => cases h
  | cons a r ih =>
    simp only [idx] at h
    by_cases e : a = n
    · subst e
      rw [show Nat.beq a a = true from Nat.beq_refl a] at h
      cases h; rfl
    · have : Nat.beq a n = false := by rw [← Bool.not_eq_true, Nat.beq_eq]; exact e
      rw [this] at h
      simp only [cond_false, Option.map_eq_some_iff] at h
      obtain ⟨j, hj, rfl⟩ := h
      exact ih hj
theorem idx_mem {n : Nat} {l : List Nat} (h : n ∈ l) : ∃ i, idx n l = some i := by
  induction l with
  | nil => cases h
  | cons a r ih =>
    simp only [idx]
    by_cases e : a = n
    · subst e
      rw [show Nat.beq a a = true from Nat.beq_refl a]
      exact ⟨0, rfl⟩
    · have : Nat.beq a n = false := by rw [← Bool.not_eq_true, Nat.beq_eq]; exact e
      rw [this]
      cases h with
      | head => exact absurd rfl e
      | tail _ h => obtain ⟨i, hi⟩ := ih h; exact ⟨i + 1, by simp [hi]⟩
theorem u146 {l : List Nat} (h : nodupB l = true) : l.Nodup := by
  induction l with
  | nil => exact List.nodup_nil
  | cons a r ih =>
    simp only [nodupB, Bool.and_eq_true, Bool.not_eq_true'] at h
    refine List.nodup_cons.2 ⟨fun hm => ?_, ih h.2⟩
    rw [(@memb_iff (Fr.of fun _ => False) _ _).2 hm] at h
    cases h.1
end Go.Lv
namespace Go.Lv
open Go.RowKit
theorem u153 (a b : Mem) (x : Nat) : mget (a ++ b) x = if x < a.length then mget a x else mget b (x - a.length) := by
  induction a generalizing x with
  | nil => simp
  | cons c r ih =>
    cases x with
    | zero => simp [mget]
    | succ x => simp only [List.cons_append, mget, ih, List.length_cons, Nat.add_lt_add_iff_right, Nat.add_sub_add_right]
theorem mget_drop (bs : Mem) (k x : Nat) : mget (bs.drop k) x = mget bs (k + x) := by
  induction bs generalizing k with
  | nil => simp [mget]
  | cons c r ih =>
    cases k with
    | zero => simp
    | succ k => rw [List.drop_succ_cons, ih, show k + 1 + x = (k + x) + 1 by omega]; rfl
theorem mget_map (f : Nat → Nat) (bs : Mem) (x : Nat) : mget (bs.map (Blk.ren f)) x = (mget bs x).ren f := by
  induction bs generalizing x with
  | nil => rfl
  | cons c r ih => cases x <;> simp [mget, ih]
theorem mget_eq (bs : Mem) (x : Nat) : mget bs x = bs[x]?.getD .dead := by
  induction bs generalizing x with
  | nil => rfl
  | cons c r ih => cases x <;> simp [mget, ih]
theorem u094 (hs : List Nat) (bs : Mem) : ∀ (mem : Mem) (s : Nat), (putGo hs bs s mem).length = mem.length
  | [], s => rfl
  | b :: r, s => by simp [putGo, u094 hs bs r]
theorem u212 (hs : List Nat) (bs : Mem) : ∀ (mem : Mem) (s x : Nat), x < mem.length → mget (putGo hs bs s mem) x = match idx (s + x) hs with
    | some i => mget bs i
    | none => mget mem x
  | [], s, x, h => by simp at h
  | b :: r, s, 0, _ => by
    simp only [putGo, mget, Nat.add_zero]
    cases idx s hs <;> rfl
  | b :: r, s, x + 1, h => by
    simp only [putGo, mget]
    rw [u212 hs bs r (s + 1) x (by simpa using h), show s + 1 + x = s + (x + 1) by omega]
def rhoGo (hs : List Nat) (ρD : Rho) : Nat → Rho → Rho
  | _, [] => []
  | h, rl :: r => (match idx h hs with
    | some i => (ρD[i]?).getD .none
    | none => rl) :: rhoGo hs ρD (h + 1) r
theorem u144 (hs : List Nat) (ρD : Rho) : ∀ (ρ : Rho) (s : Nat), (rhoGo hs ρD s ρ).length = ρ.length
  | [], s => rfl
  | b :: r, s => by simp [rhoGo, u144 hs ρD r]
theorem rhoGo_get (hs : List Nat) (ρD : Rho) : ∀ (ρ : Rho) (s x : Nat) (rl : Rl), ρ[x]? = some rl → (rhoGo hs ρD s ρ)[x]? = some (match idx (s + x) hs with
    | some i => (ρD[i]?).getD .none
    | none => rl)
  | [], s, x, rl, h => by simp at h
  | b :: r, s, 0, rl, h => by
    simp only [List.getElem?_cons_zero, Option.some.injEq] at h
    subst h
    simp only [rhoGo, Nat.add_zero, List.getElem?_cons_zero]
  | b :: r, s, x + 1, rl, h => by
    simp only [rhoGo, List.getElem?_cons_succ]
    rw [rhoGo_get hs ρD r (s + 1) x rl (by simpa using h), show s + 1 + x = s + (x + 1) by omega]
theorem u065 : ∀ (ms : List Nat) (mem : Mem), (maskL ms mem).length = mem.length
  | [], mem => rfl
  | s :: r, mem => by rw [maskL, u065 r, @u034 (Fr.of fun _ => False)]
theorem mset_ge (mem : Mem) (h : Nat) (b : Blk) (hl : mem.length ≤ h) : mset mem h b = mem := by
  induction mem generalizing h with
  | nil => rfl
  | cons a r ih =>
    cases h with
    | zero => simp at hl
    | succ h => simp only [mset]; rw [ih h (by simpa using hl)]
theorem mset_dead_get (mem : Mem) (s x : Nat) : mget (mset mem s .dead) x = if x = s then .dead else mget mem x := by
  rcases Nat.lt_or_ge s mem.length with h | h
  · exact @u064 (Fr.of fun _ => False) mem s x .dead h
  · rw [mset_ge _ _ _ h]
    by_cases hx : x = s
    · rw [if_pos hx, hx, @mget_ge (Fr.of fun _ => False) _ _ h]
    · rw [if_neg hx]
theorem u066 (ms : List Nat) : ∀ (mem : Mem) (x : Nat), mget (maskL ms mem) x = if x ∈ ms then .dead else mget mem x := by
  induction ms with
  | nil => intro mem x; simp [maskL]
  | cons s r ih =>
    intro mem x
    rw [maskL, ih, mset_dead_get]
    by_cases h1 : x ∈ r
    · simp [h1]
    · by_cases h2 : x = s
      · simp [h2]
      · simp [h1, h2]
section
variable [fr : Fr] {w : World} {ρ : Rho} {mem : Mem}
end
theorem nodup_inj : ∀ {l : List Nat} (h : l.Nodup) {i j x : Nat}, l[i]? = some x → l[j]? = some x → i = j
  | [], _, i, j, x, hi, _ => by simp at hi
  | a :: r, h, 0, 0, x, _, _ => rfl
  | a :: r, h, 0, j + 1, x, hi, hj => by
    simp only [List.getElem?_cons_zero, Option.some.injEq] at hi
    subst hi
    exact absurd (List.mem_of_getElem? (by simpa using hj)) (List.nodup_cons.1 h).1
  | a :: r, h, i + 1, 0, x, hi, hj => by
    simp only [List.getElem?_cons_zero, Option.some.injEq] at hj
    subst hj
    exact absurd (List.mem_of_getElem? (by simpa using hi)) (List.nodup_cons.1 h).1
  | a :: r, h, i + 1, j + 1, x, hi, hj => by
    exact congrArg (· + 1) (nodup_inj (List.nodup_cons.1 h).2 (x := x) (by simpa using hi) (by simpa using hj))
theorem idx_get {hs : List Nat} (hnd : hs.Nodup) {i h : Nat} (hi : hs[i]? = some h) : idx h hs = some i := by
  obtain ⟨j, hj⟩ := idx_mem (List.mem_of_getElem? hi)
  rw [hj, nodup_inj hnd (u155 hj) hi]
theorem idx_none {hs : List Nat} {h : Nat} (hn : h ∉ hs) : idx h hs = none := by
  cases hi : idx h hs with
  | none => rfl
  | some i => exact absurd (List.mem_of_getElem? (u155 hi)) hn
section
variable {w : World} {ρ : Rho} {mem : Mem} {hs pub : List Nat}
def frD (fr : Fr) (ρ : Rho) (mem : Mem) (hs pub : List Nat) : Fr → Prop := fun f => ∀ r, f.default.F r ↔ (fr.default.F r ∨ ∃ h rl, ρ[h]? = some rl ∧ (mget mem h).live = true ∧ rl.blk = some r ∧ h ∉ hs ∧ h ∉ pub)
def memD (mem : Mem) (hs : List Nat) : Mem := hs.map fun h => (mget mem h).ren (dnH hs)
def rhoD (ρ : Rho) (hs : List Nat) : Rho := hs.map fun h => (ρ[h]?).getD .none
theorem u103 (i : Nat) (h : Nat) (hi : hs[i]? = some h) : mget (memD mem hs) i = (mget mem h).ren (dnH hs) := by
  rw [mget_eq, memD, List.getElem?_map, hi]; rfl
theorem u215 (i : Nat) (hi : hs[i]? = none) : mget (memD mem hs) i = .dead := by
  rw [mget_eq, memD, List.getElem?_map, hi]; rfl
theorem u135 (i : Nat) (h : Nat) (hi : hs[i]? = some h) : (rhoD ρ hs)[i]? = some ((ρ[h]?).getD .none) := by
  rw [rhoD, List.getElem?_map, hi]; rfl
theorem u254 (fr : Fr) (hw : @WR fr w ρ mem) {r : Nat} (h : LB (rhoD ρ hs) (memD mem hs) r) : ∃ x rl, x ∈ hs ∧ ρ[x]? = some rl ∧ (mget mem x).live = true ∧ rl.blk = some r := by
  have wlen := @WR.len fr _ _ _ hw
  have wblk := @WR.blk fr _ _ _ hw
  have winj := @WR.inj fr _ _ _ hw
  have wnf := @WR.nf fr _ _ _ hw
  have wfb := @WR.fb fr _ _ _ hw
  obtain ⟨i, rl, hi, hl, hb⟩ := h
  cases hx : hs[i]? with
  | none => rw [u215 i hx] at hl; cases hl
  | some x =>
    rw [u103 i x hx, u123] at hl
    rw [u135 i x hx] at hi
    have hlt := @u068 fr _ _ hl
    rw [← wlen] at hlt
    rw [List.getElem?_eq_getElem hlt] at hi
    simp only [Option.getD_some, Option.some.injEq] at hi
    exact ⟨x, rl, List.mem_of_getElem? hx, by rw [List.getElem?_eq_getElem hlt, hi], hl, hb⟩
theorem rn_down (fr f2 : Fr) (hf : frD fr ρ mem hs pub f2) (hw : @WR fr w ρ mem) : Rn fr f2 w ρ mem (rhoD ρ hs) (memD mem hs) (dnH hs) (· ∈ hs) True := by
  refine ⟨fun h rl hS hρ hl => ?_, fun _ b hb ⟨hn, hnf⟩ => ⟨fun hlb => ?_, fun hF => ?_⟩⟩
  · obtain ⟨i, hi⟩ := idx_mem hS
    have h2 := u155 hi
    have e : dnH hs h = i := by simp [dnH, hi]
    rw [e]
    exact ⟨by rw [u135 i h h2, hρ]; rfl, _, u103 i h h2⟩
  · obtain ⟨x, rl, _, h1, h2, h3⟩ := u254 fr hw hlb
    exact hn ⟨x, rl, h1, h2, h3⟩
  · rcases (hf b).1 hF with hF | ⟨x, rl, h1, h2, h3, _⟩
    · exact hnf hF
    · exact hn ⟨x, rl, h1, h2, h3⟩
theorem wr_down (fr f2 : Fr) (hf : frD fr ρ mem hs pub f2) (hw : @WR fr w ρ mem) (hnd : hs.Nodup) (hcl : ∀ h ∈ hs, ∀ x ∈ (mget mem h).hs, x ∈ hs) : @WR f2 w (rhoD ρ hs) (memD mem hs) := by
  have R := rn_down fr f2 hf hw
  have wlen := @WR.len fr _ _ _ hw
  have wblk := @WR.blk fr _ _ _ hw
  have winj := @WR.inj fr _ _ _ hw
  have wnf := @WR.nf fr _ _ _ hw
  have wfb := @WR.fb fr _ _ _ hw
  refine @WR.mk f2 _ _ _ ?_ ?_ ?_ ?_ ?_
  · simp [rhoD, memD]
  · intro i rl hi
    cases hx : hs[i]? with
    | none =>
      rw [u215 i hx]; trivial
    | some x =>
      rw [u103 i x hx]
      rw [u135 i x hx] at hi
      cases hρ : ρ[x]? with
      | none =>
        have hlt : ¬ x < mem.length := fun h => by
          rw [← wlen] at h
          rw [List.getElem?_eq_getElem h] at hρ; cases hρ
        rw [@mget_ge fr _ _ (by omega)]; trivial
      | some rl2 =>
        rw [hρ] at hi
        simp only [Option.getD_some, Option.some.injEq] at hi
        subst hi
        exact BlkR_ren R (hcl x (List.mem_of_getElem? hx)) (fun _ => trivial) (wblk x _ hρ)
  · intro i j rl1 rl2 r hi hj hli hlj hbi hbj
    cases hx : hs[i]? with
    | none => rw [u215 i hx] at hli; cases hli
    | some x =>
      cases hy : hs[j]? with
      | none => rw [u215 j hy] at hlj; cases hlj
      | some y =>
        rw [u103 i x hx, u123] at hli
        rw [u103 j y hy, u123] at hlj
        rw [u135 i x hx] at hi
        rw [u135 j y hy] at hj
        have hx1 := @u068 fr _ _ hli
        have hy1 := @u068 fr _ _ hlj
        rw [← wlen] at hx1 hy1
        rw [List.getElem?_eq_getElem hx1] at hi
        rw [List.getElem?_eq_getElem hy1] at hj
        simp only [Option.getD_some, Option.some.injEq] at hi hj
        have := winj x y rl1 rl2 r (by rw [List.getElem?_eq_getElem hx1, hi]) (by rw [List.getElem?_eq_getElem hy1, hj]) hli hlj hbi hbj
        subst this
        exact nodup_inj hnd hx hy
  · intro r hlb hF
    obtain ⟨x, rl, hxs, h1, h2, h3⟩ := u254 fr hw hlb
    rcases (hf r).1 hF with hF | ⟨y, rl2, g1, g2, g3, g4, _⟩
    · exact wnf r ⟨x, rl, h1, h2, h3⟩ hF
    · exact g4 (winj y x rl2 rl r g1 h1 g2 h2 g3 h3 ▸ hxs)
  · intro r hF
    rcases (hf r).1 hF with hF | ⟨y, rl2, g1, g2, g3, _⟩
    · exact wfb r hF
    · exact @WR.lt fr _ _ _ hw r ⟨y, rl2, g1, g2, g3⟩
theorem okRo_ren {f : Nat → Nat} {c : V} (h : c.okRo = true) : (c.ren f).okRo = true := by
  cases c with
  | rv vs =>
    simp only [V.okRo, List.all_eq_true] at h
    simp only [V.ren, u124, V.okRo, List.all_eq_true, List.mem_map]
    rintro x ⟨y, hy, rfl⟩
    have := h y hy
    cases y <;> first | rfl | cases this
  | _ => rfl
theorem lent_ok (fr f2 : Fr) (hf : frD fr ρ mem hs pub f2) (hw : @WR fr w ρ mem) {v c : V} {r : Value} (hv : @VR fr w ρ mem v r) {h : Nat} (hh : (∃ o n, v = .sl h o n) ∨ ∃ o s n, v = .asl h o s n) (hview : v.view mem = some c)
    (hg : c.okRo = true) (hp : h ∈ pub) (hns : h ∉ hs) (hcs : ∀ x ∈ c.hs, x ∈ hs) : @VR f2 w (rhoD ρ hs) (memD mem hs) (c.ren (dnH hs)) r := by
  have wlen := @WR.len fr _ _ _ hw
  have wblk := @WR.blk fr _ _ _ hw
  have winj := @WR.inj fr _ _ _ hw
  have wnf := @WR.nf fr _ _ _ hw
  have R := rn_down fr f2 hf hw
  obtain ⟨rs, m, hsh⟩ := @view_ok fr _ _ _ hw _ _ _ hv hview
  -- the block
  obtain ⟨rl, hρ, hl, hb⟩ : ∃ rl, ρ[h]? = some rl ∧ (mget mem h).live = true ∧ ∀ b o, (∃ ad cap, r = .slice ad m cap ∧ ad = some ⟨b, o, none⟩) → m ≠ 0 → rl.blk = some b := by
    rcases hh with ⟨o, n, rfl⟩ | ⟨o, s, n, rfl⟩
    · simp only [V.view] at hview
      split at hview
      · rename_i e c0 hm
        obtain ⟨rs', ad', cap', rl, hr, _, _, _, _, _, hρ, hcell⟩ := @u227 fr _ _ _ hw _ _ _ _ hv _ _ hm
        refine ⟨rl, hρ, by rw [hm]; rfl, fun b o2 ⟨ad, cap, h1, h2⟩ hm0 => ?_⟩
        rw [hr] at h1
        cases h1
        obtain ⟨b2, o3, h3, h4, _⟩ := hcell hm0
        rw [h2] at h3
        cases h3
        exact h4
      · cases hview
    · obtain ⟨m', c', b', hm, hρ, _, _, a', cap', hr, _, ha'⟩ := hv
      refine ⟨_, hρ, by rw [hm]; rfl, fun b o2 ⟨ad, cap, h1, h2⟩ hm0 => ?_⟩
      rw [hr] at h1
      cases h1
      rw [ha' hm0] at h2
      cases h2
      rfl
  obtain ⟨ad, cap, hr, hmc, hlen, hy, hcell⟩ := hsh
  rcases hy with ⟨rfl, rfl, rfl⟩ | ⟨hcr, hcnt, _⟩
  · exfalso
    rcases hh with ⟨o, n, rfl⟩ | ⟨o, s, n, rfl⟩
    · simp only [V.view] at hview
      split at hview
      · rename_i e c0 hm
        obtain ⟨_, _, _, _, _, _, hcr, _⟩ := @u227 fr _ _ _ hw _ _ _ _ hv _ _ hm
        simp only [Option.some.injEq] at hview
        rw [hview] at hcr
        exact hcr
      · cases hview
    · simp only [V.view] at hview
      split at hview
      · rename_i m xs hm
        cases hq : Nat.beq s 1 <;> rw [hq] at hview <;> simp at hview
      · cases hview
  · refine @ro_ok f2 _ _ _ _ rs _ (CR_ren R hcs (fun _ => trivial) hcr) ?_ ?_
    · exact okRo_ren hg
    · rw [u207, u164, hcnt]
      refine ⟨ad, cap, hr, hmc, hlen, fun hm0 => ?_⟩
      obtain ⟨b, o, had, hc⟩ := hcell hm0
      have hbb := hb b o ⟨ad, cap, hr, had⟩ hm0
      refine ⟨b, o, had, ⟨fun hlb => ?_, fun hF => ?_⟩, @WR.lt fr _ _ _ hw b ⟨h, rl, hρ, hl, hbb⟩, hc⟩
      · obtain ⟨x, rl2, hx, h1, h2, h3⟩ := u254 fr hw hlb
        exact hns (winj x h rl2 rl b h1 hρ h2 hl h3 hbb ▸ hx)
      · rcases (hf b).1 hF with hF | ⟨y, rl2, g1, g2, g3, _, g5⟩
        · exact wnf b ⟨h, rl, hρ, hl, hbb⟩ hF
        · exact g5 (winj y h rl2 rl b g1 hρ g2 hl g3 hbb ▸ hp)
theorem u216 (v : V) (r : List V) (own : List Bool) : lent (v :: r) own = bif own.headD false then lent r own.tail else
    match v with
    | .sl h _ _ => h :: lent r own.tail
    | .asl h _ _ _ => h :: lent r own.tail
    | _ => lent r own.tail := by
  cases v <;> rfl
theorem args_ok (fr f2 : Fr) (hf : frD fr ρ mem hs pub f2) (hw : @WR fr w ρ mem) (hns : ∀ h ∈ pub, h ∉ hs) : ∀ {args args1 : List V} {own : List Bool} {reals : List Value}, All2 (@VR fr w ρ mem) args reals → u107 mem args own = some args1 →
    (∀ h ∈ lent args own, h ∈ pub) → (∀ x ∈ V.hsL args1, x ∈ hs) → All2 (@VR f2 w (rhoD ρ hs) (memD mem hs)) (args1.map (V.ren (dnH hs))) reals := by
  have R := rn_down fr f2 hf hw
  intro args args1 own reals h
  induction h generalizing args1 own with
  | nil =>
    intro hro _ _
    simp only [u107, Option.some.injEq] at hro
    subst hro
    exact .nil
  | cons hp hrest ih =>
    rename_i v r vs rs
    intro hro hpub hcs
    have plain : (u107 mem vs own.tail).map (v :: ·) = some args1 → lent (v :: vs) own = lent vs own.tail → All2 (@VR f2 w (rhoD ρ hs) (memD mem hs)) (args1.map (V.ren (dnH hs))) (r :: rs) := fun h hl => by
      simp only [Option.map_eq_some_iff] at h
      obtain ⟨as, h1, rfl⟩ := h
      rw [hl] at hpub
      refine .cons (VR_ren R (fun x hx => hcs x (by simp [V.hsL, hx])) (fun _ => trivial) hp) (ih h1 hpub fun x hx => hcs x (by simp [V.hsL, hx]))
    have slc : ∀ h, ((∃ o n, v = .sl h o n) ∨ ∃ o s n, v = .asl h o s n) → (match v.view mem with
        | some c => bif c.okRo then (u107 mem vs own.tail).map (c :: ·) else none
        | none => none) = some args1 → lent (v :: vs) own = h :: lent vs own.tail → All2 (@VR f2 w (rhoD ρ hs) (memD mem hs)) (args1.map (V.ren (dnH hs))) (r :: rs) := fun h hh hx hl => by
      split at hx
      case h_2 => cases hx
      rename_i c hc
      obtain ⟨hg, hx⟩ := u006 hx
      simp only [Option.map_eq_some_iff] at hx
      obtain ⟨as, h1, rfl⟩ := hx
      rw [hl] at hpub
      exact .cons (lent_ok fr f2 hf hw hp hh hc hg (hpub h (by simp)) (hns h (hpub h (by simp))) fun x hx => hcs x (by simp [V.hsL, hx]))
        (ih h1 (fun x hx => hpub x (by simp [hx])) fun x hx => hcs x (by simp [V.hsL, hx]))
    unfold u107 at hro
    cases ho : own.headD false with
    | true =>
      rw [ho] at hro
      exact plain hro (by rw [u216, ho]; rfl)
    | false =>
      rw [ho] at hro
      simp only [cond_false] at hro
      cases v with
      | sl h o n => exact slc h (.inl ⟨o, n, rfl⟩) hro (by rw [u216, ho]; rfl)
      | asl h o s n => exact slc h (.inr ⟨o, s, n, rfl⟩) hro (by rw [u216, ho]; rfl)
      | _ => exact plain hro (by rw [u216, ho]; rfl)
end
end Go.Lv
namespace Go.Lv
open Go.RowKit
theorem shape_ren {f g : Nat → Nat} {b c : Blk} (h : Shape (b.ren f) c) : Shape b (c.ren g) := by
  cases b with
  | dead => trivial
  | var n x => obtain ⟨y, rfl⟩ := h; exact ⟨_, rfl⟩
  | vec e x => obtain ⟨y, rfl, h1, h2⟩ := h; exact ⟨_, rfl, by rw [u207, h1, u207], by rw [u164]; rw [u164] at h2; exact h2⟩
  | map k => obtain ⟨y, rfl⟩ := h; exact ⟨_, rfl⟩
section
variable {w w' : World} {ρ ρ' : Rho} {mem mem' : Mem} {hs pub dead kills : List Nat} {ro : Prop}
def rhoC (ρ ρ' : Rho) (hs : List Nat) : Rho := rhoGo hs ρ' 0 ρ ++ ρ'.drop hs.length
def memC (mem mem' : Mem) (hs dead : List Nat) : Mem := maskL dead (u110 mem hs (mem'.map (Blk.ren (upH hs mem.length))))
structure UpIn (fr f2 : Fr) (w w' : World) (ρ ρ' : Rho) (mem mem' : Mem) (hs pub dead kills : List Nat) (ro : Prop) : Prop where
  hf : frD fr ρ mem hs pub f2
  hw : @WR fr w ρ mem
  hnd : hs.Nodup
  live : ∀ h ∈ hs, (mget mem h).live = true
  hns : ∀ h ∈ pub, h ∉ hs
  hst : Step w (rhoD ρ hs) (memD mem hs) w' ρ' mem' (· ∈ kills)
  hw' : @WR f2 w' ρ' mem'
  hlen : hs.length ≤ mem'.length
  hdd : ∀ h ∈ dead, h ∈ pub ∧ isVec (mget mem h) = true
  hro : ro → ∀ h ∈ pub, h ∈ dead
  hblk : ∀ i, (mget mem' i).hasRo = true → ro
  hkv : ∀ i ∈ kills, isVar (mget (memD mem hs) i) = false
theorem vec_live {b : Blk} (h : isVec b = true) : b.live = true := by cases b <;> first | rfl | cases h
theorem UpIn.at {fr f2 : Fr} (U : UpIn fr f2 w w' ρ ρ' mem mem' hs pub dead kills ro) (i : Nat) (hi : i < mem'.length) :
    mget (memC mem mem' hs dead) (upH hs mem.length i) = (mget mem' i).ren (upH hs mem.length) ∧ (rhoC ρ ρ' hs)[upH hs mem.length i]? = ρ'[i]? := by
  have wlen := @WR.len fr _ _ _ U.hw
  have wlen' := @WR.len f2 _ _ _ U.hw'
  cases hh : hs[i]? with
  | some h =>
    have hup : upH hs mem.length i = h := by simp [upH, hh]
    have hmem := List.mem_of_getElem? hh
    have hlt := @u068 fr _ _ (U.live h hmem)
    rw [hup]
    constructor
    · unfold memC
      rw [u066, if_neg (fun hd => U.hns h (U.hdd h hd).1 hmem)]
      unfold u110
      rw [u153, u094, if_pos hlt, u212 _ _ _ _ _ hlt, Nat.zero_add, idx_get U.hnd hh]
      exact mget_map _ _ _
    · unfold rhoC
      rw [List.getElem?_append_left (by rw [u144, wlen]; exact hlt)]
      have hr : ρ[h]? = some (ρ[h]'(by rw [wlen]; exact hlt)) := List.getElem?_eq_getElem _
      rw [rhoGo_get _ _ _ _ _ _ hr, Nat.zero_add, idx_get U.hnd hh]
      have hi' : i < ρ'.length := by rw [wlen']; exact hi
      simp only [List.getElem?_eq_getElem hi', Option.getD_some]
  | none =>
    have hle : hs.length ≤ i := List.getElem?_eq_none_iff.1 hh
    have hup : upH hs mem.length i = mem.length + (i - hs.length) := by simp [upH, hh]
    rw [hup]
    constructor
    · unfold memC
      rw [u066, if_neg (fun hd => by
        have := @u068 fr _ _ (vec_live (U.hdd _ hd).2)
        omega)]
      unfold u110
      rw [u153, u094, if_neg (by omega), mget_drop, mget_map]
      congr 2
      omega
    · unfold rhoC
      rw [List.getElem?_append_right (by rw [u144, wlen]; omega), u144, wlen, List.getElem?_drop]
      congr 1
      omega
theorem UpIn.other {fr f2 : Fr} (U : UpIn fr f2 w w' ρ ρ' mem mem' hs pub dead kills ro) (h : Nat) (hl : h < mem.length) (hn : h ∉ hs) :
    mget (memC mem mem' hs dead) h = (if h ∈ dead then .dead else mget mem h) ∧ (rhoC ρ ρ' hs)[h]? = ρ[h]? := by
  have wlen := @WR.len fr _ _ _ U.hw
  constructor
  · unfold memC
    rw [u066]
    unfold u110
    rw [u153, u094, if_pos hl, u212 _ _ _ _ _ hl, Nat.zero_add, idx_none hn]
  · unfold rhoC
    rw [List.getElem?_append_left (by rw [u144, wlen]; exact hl)]
    have hr : ρ[h]? = some (ρ[h]'(by rw [wlen]; exact hl)) := List.getElem?_eq_getElem _
    rw [rhoGo_get _ _ _ _ _ _ hr, Nat.zero_add, idx_none hn, hr]
theorem UpIn.len {fr f2 : Fr} (U : UpIn fr f2 w w' ρ ρ' mem mem' hs pub dead kills ro) : (rhoC ρ ρ' hs).length = (memC mem mem' hs dead).length := by
  have wlen := @WR.len fr _ _ _ U.hw
  have wlen' := @WR.len f2 _ _ _ U.hw'
  unfold memC rhoC
  rw [u065]
  unfold u110
  rw [List.length_append, List.length_append, u144, u094, wlen]
  simp [wlen']
theorem UpIn.case {fr f2 : Fr} (U : UpIn fr f2 w w' ρ ρ' mem mem' hs pub dead kills ro) (x : Nat) (hx : x < (memC mem mem' hs dead).length) :
    (∃ i, i < mem'.length ∧ x = upH hs mem.length i) ∨ (x < mem.length ∧ x ∉ hs) := by
  have hl : (memC mem mem' hs dead).length = mem.length + (mem'.length - hs.length) := by
    unfold memC u110
    rw [u065, List.length_append, u094]
    simp
  have hlen := U.hlen
  by_cases h1 : x ∈ hs
  · obtain ⟨i, hi⟩ := idx_mem h1
    have h2 := u155 hi
    exact .inl ⟨i, by have := (List.getElem?_eq_some_iff.1 h2).1; omega, by simp [upH, h2]⟩
  · by_cases h2 : x < mem.length
    · exact .inr ⟨h2, h1⟩
    · have h3 : hs[hs.length + (x - mem.length)]? = none := List.getElem?_eq_none (by omega)
      refine .inl ⟨hs.length + (x - mem.length), by omega, ?_⟩
      simp [upH, h3]
      omega
theorem UpIn.rn {fr f2 : Fr} (U : UpIn fr f2 w w' ρ ρ' mem mem' hs pub dead kills ro) : Rn f2 fr w' ρ' mem' (rhoC ρ ρ' hs) (memC mem mem' hs dead) (upH hs mem.length) (fun _ => True) ro := by
  refine ⟨fun h rl _ hρ hl => ?_, fun hr b hb ⟨hn, hnf⟩ => ⟨?_, fun hF => hnf ((U.hf b).2 (.inl hF))⟩⟩
  · obtain ⟨h1, h2⟩ := U.at h (@u068 fr _ _ hl)
    exact ⟨h2.trans hρ, _, h1⟩
  · rintro ⟨x, rl, hx, hl, hbk⟩
    have hxl := @u068 fr _ _ hl
    rcases U.case x hxl with ⟨i, hi, rfl⟩ | ⟨hx1, hx2⟩
    · obtain ⟨h1, h2⟩ := U.at i hi
      rw [h1, u123] at hl
      rw [h2] at hx
      exact hn ⟨i, rl, hx, hl, hbk⟩
    · obtain ⟨h1, h2⟩ := U.other x hx1 hx2
      rw [h1] at hl
      rw [h2] at hx
      by_cases hd : x ∈ dead
      · rw [if_pos hd] at hl; cases hl
      · rw [if_neg hd] at hl
        exact hnf ((U.hf b).2 (.inr ⟨x, rl, hx, hl, hbk, hx2, fun hp => hd (U.hro hr x hp)⟩))
theorem UpIn.apart {fr f2 : Fr} (U : UpIn fr f2 w w' ρ ρ' mem mem' hs pub dead kills ro) {x r : Nat} {rl : Rl} (hn : x ∉ hs) (hρ : ρ[x]? = some rl) (hl : (mget mem x).live = true) (hb : rl.blk = some r) :
    r < w.heap.size ∧ NB (rhoD ρ hs) (memD mem hs) r := by
  have winj := @WR.inj fr _ _ _ U.hw
  refine ⟨@WR.lt fr _ _ _ U.hw r ⟨x, rl, hρ, hl, hb⟩, fun hlb => ?_⟩
  obtain ⟨y, rl2, hy, h1, h2, h3⟩ := u254 fr U.hw hlb
  exact hn (winj y x rl2 rl r h1 hρ h2 hl h3 hb ▸ hy)
theorem UpIn.step {fr f2 : Fr} (U : UpIn fr f2 w w' ρ ρ' mem mem' hs pub dead kills ro) :
    Step w ρ mem w' (rhoC ρ ρ' hs) (memC mem mem' hs dead) (· ∈ kills.map (upH hs mem.length) ++ dead) := by
  refine ⟨U.hst.os, U.hst.tape, U.hst.output, U.hst.size, fun r hr hn => ?_, fun h rl hρ hl hK => ?_, U.hst.drawn⟩
  · obtain ⟨h1, h2⟩ := U.hst.old r hr (fun hlb => let ⟨x, rl, _, h1, h2, h3⟩ := u254 fr U.hw hlb; hn ⟨x, rl, h1, h2, h3⟩)
    refine ⟨h1, ?_⟩
    rintro ⟨x, rl, hx, hl, hbk⟩
    rcases U.case x (@u068 fr _ _ hl) with ⟨i, hi, rfl⟩ | ⟨hx1, hx2⟩
    · obtain ⟨g1, g2⟩ := U.at i hi
      rw [g1, u123] at hl
      rw [g2] at hx
      exact h2 ⟨i, rl, hx, hl, hbk⟩
    · obtain ⟨g1, g2⟩ := U.other x hx1 hx2
      rw [g1] at hl
      rw [g2] at hx
      by_cases hd : x ∈ dead
      · rw [if_pos hd] at hl; cases hl
      · rw [if_neg hd] at hl
        exact hn ⟨x, rl, hx, hl, hbk⟩
  · simp only [List.mem_append, List.mem_map, not_or] at hK
    by_cases hh : h ∈ hs
    · obtain ⟨i, hi⟩ := idx_mem hh
      have h2 := u155 hi
      have hil : i < mem'.length := by have := (List.getElem?_eq_some_iff.1 h2).1; have := U.hlen; omega
      obtain ⟨g1, g2⟩ := U.at i hil
      have hup : upH hs mem.length i = h := by simp [upH, h2]
      rw [hup] at g1 g2
      obtain ⟨s1, s2⟩ := U.hst.hp i rl (by rw [u135 i h h2, hρ]; rfl) (by rw [u103 i h h2, u123]; exact hl) (fun hk => hK.1 ⟨i, hk, hup⟩)
      rw [u103 i h h2] at s2
      exact ⟨g2.trans s1, by rw [g1]; exact shape_ren s2⟩
    · obtain ⟨g1, g2⟩ := U.other h (@u068 fr _ _ hl) hh
      rw [g1, if_neg hK.2]
      exact ⟨g2.trans hρ, Shape.refl _⟩
theorem UpIn.wr {fr f2 : Fr} (U : UpIn fr f2 w w' ρ ρ' mem mem' hs pub dead kills ro) : @WR fr w' (rhoC ρ ρ' hs) (memC mem mem' hs dead) := by
  have wblk := @WR.blk fr _ _ _ U.hw
  have winj := @WR.inj fr _ _ _ U.hw
  have wblk' := @WR.blk f2 _ _ _ U.hw'
  have winj' := @WR.inj f2 _ _ _ U.hw'
  have wlen := @WR.len fr _ _ _ U.hw
  refine @WR.mk fr _ _ _ U.len ?_ ?_ (@WR.nf_step fr _ _ _ _ _ _ _ U.hw U.step) (@WR.fb_step fr _ _ _ _ _ _ _ U.hw U.step)
  · intro x rl hx
    have hxl : x < (memC mem mem' hs dead).length := by rw [← U.len]; exact (List.getElem?_eq_some_iff.1 hx).1
    rcases U.case x hxl with ⟨i, hi, rfl⟩ | ⟨hx1, hx2⟩
    · obtain ⟨g1, g2⟩ := U.at i hi
      rw [g1]
      rw [g2] at hx
      exact BlkR_ren U.rn (fun _ _ => trivial) (U.hblk i) (wblk' i rl hx)
    · obtain ⟨g1, g2⟩ := U.other x hx1 hx2
      rw [g1]
      rw [g2] at hx
      by_cases hd : x ∈ dead
      · rw [if_pos hd]; trivial
      · rw [if_neg hd]
        refine @BlkR.step fr _ _ _ _ _ _ _ _ _ U.step (fun y n c hy hk => ?_) (fun r hl hb => ?_) (wblk x rl hx)
        · rcases List.mem_append.1 hk with hk | hk
          · simp only [List.mem_map] at hk
            obtain ⟨j, hj, rfl⟩ := hk
            have hv := U.hkv j hj
            cases hh : hs[j]? with
            | some h =>
              have hup : upH hs mem.length j = h := by simp [upH, hh]
              rw [hup] at hy
              rw [u103 j h hh, hy] at hv
              cases hv
            | none =>
              have hup : upH hs mem.length j = mem.length + (j - hs.length) := by simp [upH, hh]
              rw [hup, @mget_ge fr _ _ (by omega)] at hy
              cases hy
          · have := (U.hdd y hk).2
            rw [hy] at this
            cases this
        · obtain ⟨h1, h2⟩ := U.apart hx2 hx hl hb
          exact (U.hst.old r h1 h2).1
  · intro x y rl1 rl2 r hx hy hlx hly hbx hby
    rcases U.case x (@u068 fr _ _ hlx) with ⟨i, hi, rfl⟩ | ⟨hx1, hx2⟩
    · obtain ⟨g1, g2⟩ := U.at i hi
      rw [g1, u123] at hlx
      rw [g2] at hx
      rcases U.case y (@u068 fr _ _ hly) with ⟨j, hj, rfl⟩ | ⟨hy1, hy2⟩
      · obtain ⟨k1, k2⟩ := U.at j hj
        rw [k1, u123] at hly
        rw [k2] at hy
        rw [winj' i j rl1 rl2 r hx hy hlx hly hbx hby]
      · obtain ⟨k1, k2⟩ := U.other y hy1 hy2
        rw [k1] at hly
        rw [k2] at hy
        by_cases hd : y ∈ dead
        · rw [if_pos hd] at hly; cases hly
        · rw [if_neg hd] at hly
          obtain ⟨h1, h2⟩ := U.apart hy2 hy hly hby
          exact absurd ⟨i, rl1, hx, hlx, hbx⟩ (U.hst.old r h1 h2).2
    · obtain ⟨g1, g2⟩ := U.other x hx1 hx2
      rw [g1] at hlx
      rw [g2] at hx
      by_cases hd : x ∈ dead
      · rw [if_pos hd] at hlx; cases hlx
      rw [if_neg hd] at hlx
      rcases U.case y (@u068 fr _ _ hly) with ⟨j, hj, rfl⟩ | ⟨hy1, hy2⟩
      · obtain ⟨k1, k2⟩ := U.at j hj
        rw [k1, u123] at hly
        rw [k2] at hy
        obtain ⟨h1, h2⟩ := U.apart hx2 hx hlx hbx
        exact absurd ⟨j, rl2, hy, hly, hby⟩ (U.hst.old r h1 h2).2
      · obtain ⟨k1, k2⟩ := U.other y hy1 hy2
        rw [k1] at hly
        rw [k2] at hy
        by_cases hd2 : y ∈ dead
        · rw [if_pos hd2] at hly; cases hly
        · rw [if_neg hd2] at hly
          exact winj x y rl1 rl2 r hx hy hlx hly hbx hby
end
end Go.Lv
namespace Go.Lv
open Go.RowKit
mutual
theorem ren_id {f g : Nat → Nat} : ∀ (v : V), (∀ x ∈ v.hs, g (f x) = x) → (v.ren f).ren g = v
  | .undef, _ => rfl
  | .any, _ => rfl
  | .bool _, _ => rfl
  | .int _ _, _ => rfl
  | .ints _ _, _ => rfl
  | .bools _ _, _ => rfl
  | .z0, _ => rfl
  | .ri _ _, _ => rfl
  | .rb _, _ => rfl
  | .rr _ _, _ => rfl
  | .rl _ _, _ => rfl
  | .ptr h i o s, hx => by simp only [V.ren]; rw [hx h (by simp [V.hs])]
  | .sl h o n, hx => by simp only [V.ren]; rw [hx h (by simp [V.hs])]
  | .asl h o s n, hx => by simp only [V.ren]; rw [hx h (by simp [V.hs])]
  | .map h, hx => by simp only [V.ren]; rw [hx h (by simp [V.hs])]
  | .agg vs, hx => by simp only [V.ren]; rw [u273 vs (by simpa [V.hs] using hx)]
  | .rv vs, hx => by simp only [V.ren]; rw [u273 vs (by simpa [V.hs] using hx)]
  | .tup vs, hx => by simp only [V.ren]; rw [u273 vs (by simpa [V.hs] using hx)]
  | .rp c i o s, hx => by simp only [V.ren]; rw [ren_id c (by simpa [V.hs] using hx)]
  | .fn k x y, hx => by
    simp only [V.ren]
    rw [u273 x fun z hz => hx z (by simp [V.hs, hz]), u273 y fun z hz => hx z (by simp [V.hs, hz])]
theorem u273 {f g : Nat → Nat} : ∀ (vs : List V), (∀ x ∈ V.hsL vs, g (f x) = x) → V.renL g (V.renL f vs) = vs
  | [], _ => rfl
  | v :: r, hx => by
    simp only [V.renL]
    rw [ren_id v fun z hz => hx z (by simp [V.hsL, hz]), u273 r fun z hz => hx z (by simp [V.hsL, hz])]
end
mutual
theorem ren_congr {f g : Nat → Nat} : ∀ (v : V), (∀ x ∈ v.hs, f x = g x) → v.ren f = v.ren g
  | .undef, _ => rfl
  | .any, _ => rfl
  | .bool _, _ => rfl
  | .int _ _, _ => rfl
  | .ints _ _, _ => rfl
  | .bools _ _, _ => rfl
  | .z0, _ => rfl
  | .ri _ _, _ => rfl
  | .rb _, _ => rfl
  | .rr _ _, _ => rfl
  | .rl _ _, _ => rfl
  | .ptr h i o s, hx => by simp only [V.ren]; rw [hx h (by simp [V.hs])]
  | .sl h o n, hx => by simp only [V.ren]; rw [hx h (by simp [V.hs])]
  | .asl h o s n, hx => by simp only [V.ren]; rw [hx h (by simp [V.hs])]
  | .map h, hx => by simp only [V.ren]; rw [hx h (by simp [V.hs])]
  | .agg vs, hx => by simp only [V.ren]; rw [u115 vs (by simpa [V.hs] using hx)]
  | .rv vs, hx => by simp only [V.ren]; rw [u115 vs (by simpa [V.hs] using hx)]
  | .tup vs, hx => by simp only [V.ren]; rw [u115 vs (by simpa [V.hs] using hx)]
  | .rp c i o s, hx => by simp only [V.ren]; rw [ren_congr c (by simpa [V.hs] using hx)]
  | .fn k x y, hx => by
    simp only [V.ren]
    rw [u115 x fun z hz => hx z (by simp [V.hs, hz]), u115 y fun z hz => hx z (by simp [V.hs, hz])]
theorem u115 {f g : Nat → Nat} : ∀ (vs : List V), (∀ x ∈ V.hsL vs, f x = g x) → V.renL f vs = V.renL g vs
  | [], _ => rfl
  | v :: r, hx => by
    simp only [V.renL]
    rw [ren_congr v fun z hz => hx z (by simp [V.hsL, hz]), u115 r fun z hz => hx z (by simp [V.hsL, hz])]
end
theorem blk_ren_id {f g : Nat → Nat} (b : Blk) (h : ∀ x ∈ b.hs, g (f x) = x) : (b.ren f).ren g = b := by
  cases b with
  | dead => rfl
  | var n c => simp only [Blk.ren]; rw [ren_id c h]
  | vec e c => simp only [Blk.ren]; rw [ren_id c h]
  | map n c => rfl
theorem putGo_id (hs : List Nat) (bs : Mem) : ∀ (mem : Mem) (s : Nat), (∀ x i, x < mem.length → idx (s + x) hs = some i → mget bs i = mget mem x) → putGo hs bs s mem = mem
  | [], s, _ => rfl
  | b :: r, s, h => by
    simp only [putGo]
    rw [putGo_id hs bs r (s + 1) fun x i hx hi => by
      have := h (x + 1) i (by simpa using hx) (by rw [show s + (x + 1) = s + 1 + x by omega]; exact hi)
      simpa [mget] using this]
    congr 1
    cases hi : idx s hs with
    | none => rfl
    | some i =>
      have := h 0 i (by simp) (by simpa using hi)
      simpa [mget] using this
theorem u205 {k : Nat} : ∀ {l : List Nat}, u191 k l = true → ∀ x ∈ l, x < k
  | [], _, x, hx => by cases hx
  | a :: r, h, x, hx => by
    simp only [u191] at h
    obtain ⟨h1, h2⟩ : Nat.blt a k = true ∧ u191 k r = true := by
      cases hb : Nat.blt a k
      · rw [hb] at h; cases h
      · rw [hb] at h; exact ⟨rfl, h⟩
    cases hx with
    | head => exact Nat.blt_eq.mp h1
    | tail _ hx => exact u205 h2 x hx
theorem up_dn {hs : List Nat} {x n : Nat} (hx : x ∈ hs) : upH hs n (dnH hs x) = x := by
  obtain ⟨i, hi⟩ := idx_mem hx
  simp [dnH, hi, upH, u155 hi]
def Meets (P : Program) (f : FuncId) (ent : Ent) : Prop :=
  ∀ (fr : Fr) (w : World) (ρ : Rho) (mem : Mem) (args : List V) (reals : List Value), WR w ρ mem → All2 (VR w ρ mem) args reals → ∀ ret, ent.g args mem = some (true, ret) →
    Calls P f reals.toArray w fun e w' => ∃ r ρ', e = .returned r ∧ VR w' ρ' (outD ent mem ret) ret.v r ∧ WR w' ρ' (outD ent mem ret) ∧ Step w ρ mem w' ρ' (outD ent mem ret) (· ∈ outK ent ret)
structure FunOK (P : Program) (f : FuncId) : Prop where
  ok : ∃ fn c, P.funcs[f]? = some fn ∧ (fn.name == "runtime.NumGoroutine") = false ∧ fn.body = some c
def TabOK (P : Program) (tab : Tab) : Prop := ∀ f ent, look tab f = some ent → Meets P f ent ∧ FunOK P f
section
variable {P : Program} {tab : Tab} {R : Type}
theorem u165 {mem : Mem} {args1 : List V} {hs pub : List Nat} (h : okHs mem args1 hs pub = true) :
    hs.Nodup ∧ (∀ x ∈ hs, (mget mem x).live = true) ∧ (∀ x ∈ hs, ∀ y ∈ (mget mem x).hs, y ∈ hs) ∧ (∀ x ∈ V.hsL args1, x ∈ hs) ∧ ∀ x ∈ pub, x ∉ hs := by
  have hm : ∀ (n : Nat) (l : List Nat), memb n l = true ↔ n ∈ l := fun n l => @memb_iff (Fr.of fun _ => False) n l
  simp only [okHs, Bool.and_eq_true, List.all_eq_true, Bool.not_eq_true'] at h
  obtain ⟨⟨⟨h1, h2⟩, h3⟩, h4⟩ := h
  refine ⟨u146 h1, fun x hx => (h2 x hx).1, fun x hx y hy => (hm y hs).1 ((h2 x hx).2 y hy), fun x hx => (hm x hs).1 (h3 x hx), fun x hx hx2 => ?_⟩
  have := h4 x hx
  rw [(hm x hs).2 hx2] at this
  cases this
theorem callG_ok (fr : Fr) {w : World} {ρ : Rho} {mem : Mem} (hw : WR w ρ mem) {f : FuncId} {ent : Ent} (hM : Meets P f ent) {args args1 : List V} {reals : List Value} (ha : All2 (VR w ρ mem) args reals)
    (hro : u107 mem args ent.own = some args1) {k : V → Mem → List Nat → Option R} {x : R} (hx : callG ent (lent args ent.own) (hsOf mem args1) args1 mem k = some x) :
    ∃ v mem' ks, k v mem' ks = some x ∧ (ent.loud = .quiet → mem' = mem ∧ ks = []) ∧ ∀ (Post : Ending → World → Prop), (∀ r w' ρ', VR w' ρ' mem' v r → WR w' ρ' mem' → Step w ρ mem w' ρ' mem' (· ∈ ks) → Post (.returned r) w') → Calls P f reals.toArray w Post := by
  generalize hhs : hsOf mem args1 = hs at hx
  generalize hpub : lent args ent.own = pub at hx
  unfold callG at hx
  obtain ⟨hok, hx⟩ := u006 hx
  obtain ⟨hnd, hlive, hcl, hargs, hns⟩ := u165 hok
  split at hx
  case h_1 => cases hx
  rename_i c ret hg
  obtain ⟨hkv, hx⟩ := u051 hx
  obtain ⟨hctrue, hx⟩ := u006 hx
  have hkv : ∀ i ∈ outK ent ret, isVar (mget (memD mem hs) i) = false := by
    intro i hi
    have h2 : (outK ent ret).all (fun i => !isVar (mget (hs.map fun h => (mget mem h).ren (dnH hs)) i)) = true := by simpa using hkv
    have := List.all_eq_true.1 h2 i hi
    simpa [memD] using this
  -- the frame
  obtain ⟨f2, hf⟩ : ∃ f2 : Fr, frD fr ρ mem hs pub f2 := ⟨Fr.of fun r => fr.default.F r ∨ ∃ h rl, ρ[h]? = some rl ∧ (mget mem h).live = true ∧ rl.blk = some r ∧ h ∉ hs ∧ h ∉ pub, fun r => Iff.rfl⟩
  have hwd := wr_down fr f2 hf hw hnd hcl
  have had := args_ok fr f2 hf hw hns (args := args) (args1 := args1) (own := ent.own) ha hro (by rw [hpub]; exact fun _ h => h) hargs
  have go : ∀ (hc : c = true) (dead : List Nat) (ro : Prop), hs.length ≤ (outD ent (memD mem hs) ret).length → (∀ h ∈ dead, h ∈ pub ∧ isVec (mget mem h) = true) → (ro → ∀ h ∈ pub, h ∈ dead) → (∀ i, (mget (outD ent (memD mem hs) ret) i).hasRo = true → ro) → (ret.v.hasRo = true → ro) →
      ∀ (Post : Ending → World → Prop), (∀ r w' ρ', @VR fr w' ρ' (memC mem (outD ent (memD mem hs) ret) hs dead) (ret.v.ren (upH hs mem.length)) r → @WR fr w' ρ' (memC mem (outD ent (memD mem hs) ret) hs dead) → Step w ρ mem w' ρ' (memC mem (outD ent (memD mem hs) ret) hs dead) (· ∈ (outK ent ret).map (upH hs mem.length) ++ dead) → Post (.returned r) w') → Calls P f reals.toArray w Post := by
    intro hc dead ro hlen hdd hro2 hblk hvro Post hPost
    subst hc
    refine Calls.mono (hM f2 w (rhoD ρ hs) (memD mem hs) _ reals hwd had ret hg) fun e w' he => ?_
    obtain ⟨r, ρ', rfl, hv, hw', hst⟩ := he
    have U : UpIn fr f2 w w' ρ ρ' mem (outD ent (memD mem hs) ret) hs pub dead (outK ent ret) ro := ⟨hf, hw, hnd, hlive, hns, hst, hw', hlen, hdd, hro2, hblk, hkv⟩
    exact hPost r w' _ (VR_ren U.rn (fun _ _ => trivial) hvro hv) U.wr U.step
  have anyRo : ∀ i, (mget (outD ent (memD mem hs) ret) i).hasRo = true → (ret.v.hasRo || (outD ent (memD mem hs) ret).any Blk.hasRo) = true := fun i hi => by
    rw [Bool.or_eq_true]
    right
    rw [List.any_eq_true]
    rw [mget_eq] at hi
    cases h : (outD ent (memD mem hs) ret)[i]? with
    | none => rw [h] at hi; cases hi
    | some b => rw [h] at hi; exact ⟨b, List.mem_of_getElem? h, hi⟩
  have hdl : (memD mem hs).length = hs.length := by simp [memD]
  have back : ∀ (bs : Mem), (∀ i, i < hs.length → mget bs i = mget ((memD mem hs).map (Blk.ren (upH hs mem.length))) i) → putGo hs bs 0 mem = mem := fun bs hb => putGo_id hs bs mem 0 fun y i hy hi => by
    rw [Nat.zero_add] at hi
    have h2 := u155 hi
    rw [hb i (List.getElem?_eq_some_iff.1 h2).1, mget_map, u103 i y h2]
    exact blk_ren_id _ fun z hz => up_dn (hcl y (List.mem_of_getElem? h2) z hz)
  cases hcond : (pub.isEmpty || !(ret.v.hasRo || (outD ent (hs.map fun h => (mget mem h).ren (dnH hs)) ret).any Blk.hasRo)) with
  | true =>
    rw [hcond] at hx
    simp only [cond_true] at hx
    have hc := hctrue
    have hp := hcond
    have hro2 : (ret.v.hasRo || (outD ent (memD mem hs) ret).any Blk.hasRo) = true → ∀ h ∈ pub, h ∈ ([] : List Nat) := fun hr h hh => by
      have : (pub.isEmpty || !(ret.v.hasRo || (outD ent (memD mem hs) ret).any Blk.hasRo)) = true := hp
      rw [hr] at this
      simp only [Bool.not_true, Bool.or_false, List.isEmpty_iff] at this
      rw [this] at hh; exact hh
    have go2 := fun hl => go hc [] _ hl (fun _ h => by cases h) hro2 anyRo (fun h => by rw [h]; rfl)
    cases hloud : ent.loud with
    | quiet =>
      rw [hloud] at hx
      simp only at hx
      obtain ⟨hb, hx⟩ := u006 hx
      have hout : outD ent (memD mem hs) ret = memD mem hs := by simp [outD, hloud]
      have hk : outK ent ret = [] := by simp [outK, hloud]
      have hmc : memC mem (outD ent (memD mem hs) ret) hs [] = mem := by
        rw [hout]
        unfold memC u110
        rw [maskL, back _ (fun _ _ => rfl), List.drop_of_length_le (by simp [hdl]), List.append_nil]
      have hvv : ret.v.ren (upH hs 0) = ret.v.ren (upH hs mem.length) := ren_congr _ fun y hy => by
        have := u205 hb y hy
        simp [upH, List.getElem?_eq_getElem this]
      rw [hvv] at hx
      refine ⟨_, mem, [], hx, fun _ => ⟨rfl, rfl⟩, fun Post hPost => go2 (by rw [hout, hdl]; exact Nat.le_refl _) Post fun r w' ρ' h1 h2 h3 => ?_⟩
      rw [hmc, hk] at h3
      rw [hmc] at h1 h2
      exact hPost r w' ρ' h1 h2 h3
    | fresh =>
      rw [hloud] at hx
      simp only at hx
      have hout : outD ent (memD mem hs) ret = memD mem hs ++ ret.blks := by simp [outD, hloud]
      have hk : outK ent ret = [] := by simp [outK, hloud]
      have hmc : memC mem (outD ent (memD mem hs) ret) hs [] = mem ++ ret.blks.map (Blk.ren (upH hs mem.length)) := by
        rw [hout]
        unfold memC u110
        rw [maskL, back _ (fun i hi => by rw [List.map_append, u153, if_pos (by simp [hdl, hi])]), List.map_append, List.drop_append_of_le_length (by simp [hdl]), List.drop_of_length_le (by simp [hdl])]
        simp
      refine ⟨_, _, [], hx, fun h => (by cases h), fun Post hPost => go2 (by rw [hout, List.length_append, hdl]; omega) Post fun r w' ρ' h1 h2 h3 => ?_⟩
      rw [hmc, hk] at h3
      rw [hmc] at h1 h2
      exact hPost r w' ρ' h1 h2 h3
    | loud =>
      rw [hloud] at hx
      simp only at hx
      obtain ⟨hb, hx⟩ := u006 hx
      have hb := Nat.le_of_ble_eq_true hb
      have hout : outD ent (memD mem hs) ret = ret.blks := by simp [outD, hloud]
      have hk : outK ent ret = ret.kills := by simp [outK, hloud]
      refine ⟨_, _, _, hx, fun h => (by cases h), fun Post hPost => go2 (by rw [hout]; exact hb) Post fun r w' ρ' h1 h2 h3 => ?_⟩
      rw [hout, hk, List.append_nil] at h3
      rw [hout] at h1 h2
      exact hPost r w' ρ' h1 h2 h3
  | false =>
    rw [hcond] at hx
    simp only [cond_false] at hx
    obtain ⟨hcc, hx⟩ := u006 hx
    cases hloud : ent.loud with
    | quiet => rw [hloud] at hx; cases hx
    | fresh => rw [hloud] at hx; cases hx
    | loud =>
      rw [hloud] at hx
      simp only at hx
      obtain ⟨hb, hx⟩ := u006 hx
      have hb := Nat.le_of_ble_eq_true hb
      have hout : outD ent (memD mem hs) ret = ret.blks := by simp [outD, hloud]
      have hk : outK ent ret = ret.kills := by simp [outK, hloud]
      refine ⟨_, _, _, hx, fun h => (by cases h), fun Post hPost => go hctrue pub _ (by rw [hout]; exact hb) (fun h hh => ⟨hh, List.all_eq_true.1 hcc h hh⟩) (fun _ _ h => h) anyRo (fun h => by rw [h]; rfl) Post fun r w' ρ' h1 h2 h3 => ?_⟩
      rw [hout, hk] at h3
      rw [hout] at h1 h2
      exact hPost r w' ρ' h1 h2 h3
end
end Go.Lv
namespace Go.Lv
open Go.RowKit
section
variable [fr : Fr] {P : Program} {tt : TT} {tab : Tab} {R : Type} {σ : St} {a : Act} {w : World} {ρ : Rho}
theorem drop_all {mem : Mem} (hw : WR w ρ mem) {ks : List Nat} (hv : ∀ (h x : Nat), x ∈ (mget mem h).hs → x ∉ ks) :
    Step w ρ mem w ρ (maskL ks mem) (· ∈ ks) ∧ WR w ρ (maskL ks mem) := by
  have hl : ∀ x, (mget (maskL ks mem) x).live = true → x ∉ ks ∧ mget (maskL ks mem) x = mget mem x := fun x h => by
    rw [u066] at h ⊢
    by_cases hx : x ∈ ks
    · rw [if_pos hx] at h; cases h
    · rw [if_neg hx]; exact ⟨hx, rfl⟩
  have hLB : ∀ r, LB ρ (maskL ks mem) r → LB ρ mem r := fun r ⟨h, rl, h1, h2, h3⟩ => ⟨h, rl, h1, by rw [← (hl h h2).2]; exact h2, h3⟩
  have hs : Step w ρ mem w ρ (maskL ks mem) (· ∈ ks) := ⟨rfl, rfl, rfl, Nat.le_refl _, fun r _ hn => ⟨rfl, fun h => hn (hLB r h)⟩, fun h rl hρ hlv hk => ⟨hρ, by rw [u066, if_neg hk]; exact Shape.refl _⟩, Nat.le_refl _⟩
  refine ⟨hs, ⟨by rw [u065]; exact hw.len, fun h rl hρ => ?_, fun h h' rl rl' r h1 h2 h3 h4 => hw.inj h h' rl rl' r h1 h2 (by rw [← (hl h h3).2]; exact h3) (by rw [← (hl h' h4).2]; exact h4), fun r h => hw.nf r (hLB r h), hw.fb⟩⟩
  rw [u066]
  by_cases hx : h ∈ ks
  · rw [if_pos hx]; trivial
  · rw [if_neg hx]
    have hb := hw.blk h rl hρ
    have hq := hv h
    cases hm : mget mem h with
    | dead => trivial
    | var n c =>
      rw [hm] at hb hq
      obtain ⟨r, e, rs, rfl, hr, hlen, hc, hwd⟩ := hb
      exact ⟨r, e, rs, rfl, hr, hlen, CR.step hs (fun x hx => hq x hx) hc, hwd⟩
    | vec e c =>
      rw [hm] at hb hq
      obtain ⟨b, cap, rfl, hle, hc⟩ := hb
      refine ⟨b, cap, rfl, hle, ?_⟩
      rcases hc with ⟨h0, hc⟩ | ⟨r, cur, hcap, rfl, hr, hmx, hz, hc⟩
      · exact .inl ⟨h0, CR.step hs (fun x hx => hq x hx) hc⟩
      · exact .inr ⟨r, cur, hcap, rfl, hr, hmx, hz, CR.step hs (fun x hx => hq x hx) hc⟩
    | map n c =>
      rw [hm] at hb
      obtain ⟨r, es, clock, rfl, hr, hc⟩ := hb
      refine ⟨r, es, clock, rfl, hr, u026 hc fun x y hx hp => ⟨hp.1, hp.2.1, VG.step hs (fun z hz => ?_) hp.2.2⟩⟩
      exact absurd hz (by
        have := hp.2.1
        cases hv2 : x.2 <;> rw [hv2] at this <;> first | (simp [V.hs]; done) | cases this)
theorem NL_mask {mem : Mem} (hw : WR w ρ mem) {ks : List Nat} {h b : Nat} {rl : Rl} (hk : h ∈ ks) (hρ : ρ[h]? = some rl) (hl : (mget mem h).live = true) (hb : rl.blk = some b) : NL ρ (maskL ks mem) b := by
  refine ⟨?_, hw.nf b ⟨h, rl, hρ, hl, hb⟩⟩
  rintro ⟨x, rl2, hx, hlx, hbx⟩
  rw [u066] at hlx
  by_cases hxk : x ∈ ks
  · rw [if_pos hxk] at hlx; cases hlx
  · rw [if_neg hxk] at hlx
    have := hw.inj x h rl2 rl b hx hρ hlx hl hbx hb
    subst this
    exact hxk hk
theorem shown_ok {mem : Mem} (hw : WR w ρ mem) {ks : List Nat} (hs : Step w ρ mem w ρ (maskL ks mem) (· ∈ ks)) {v c : V} {r : Value} (hv : VR w ρ mem v r) (h : v.shown mem = some c) (hg : ∀ x ∈ v.given, x ∈ ks) (hc : ∀ x ∈ c.hs, x ∉ ks) :
    VR w ρ (maskL ks mem) c r := by
  cases v with
  | sl hd off n =>
    simp only [V.shown] at h
    split at h
    case h_2 => cases h
    rename_i c' hview
    obtain ⟨hok, h⟩ := u006 h
    cases h
    simp only [V.view] at hview
    split at hview
    case h_2 => cases hview
    rename_i e c0 hm
    cases hview
    obtain ⟨rs, ad, cap, rl, rfl, hnc, hcr, hcnt, hwd, hlen, hρ, hcell⟩ := u227 hw hv hm
    refine ro_ok (CR.step hs hc hcr) hok ?_
    rw [hcnt, hwd]
    refine ⟨ad, cap, rfl, hnc, hlen, fun hn => ?_⟩
    obtain ⟨b, o, rfl, hb, hbs, hcl⟩ := hcell hn
    exact ⟨b, o, rfl, NL_mask hw (hg hd (by simp [V.given])) hρ (by rw [hm]; rfl) hb, hbs, hcl⟩
  | asl hd o s n =>
    simp only [V.shown] at h
    split at h
    case h_2 => cases h
    rename_i c' hview
    obtain ⟨hok, h⟩ := u006 h
    cases h
    simp only [V.view] at hview
    split at hview
    case h_2 => cases hview
    rename_i m xs hm
    obtain ⟨m', c0, b, hm', hρ, hle, hs0, a', cap', rfl, hnc, ha'⟩ := hv
    rw [hm] at hm'
    cases hm'
    obtain ⟨r', e, rs, hrl, hb, hlen, hcr, hwd⟩ : BlkR w ρ mem (.var m (.ri .i64 xs)) (.var b) := by
      have := hw.blk hd _ hρ
      rwa [hm] at this
    cases hrl
    have hcr : rs = iv .i64 xs := hcr
    subst hcr
    rw [u054] at hlen
    have hbs : b < w.heap.size := (Array.getElem?_eq_some_iff.1 hb).1
    have hNL : NL ρ (maskL ks mem) b := NL_mask hw (hg hd (by simp [V.given])) hρ (by rw [hm]; rfl) rfl
    have hcell : ∀ k, ∀ j u, (iv .i64 (sub xs o k))[j]? = some u → w.cell? ⟨b, o + j, none⟩ = some u := fun k j u hu => by
      rw [u286 hb]
      rw [u167] at hu
      simpa using u222 _ _ _ j u hu
    by_cases h1 : s = 1
    · subst h1
      rw [show Nat.beq 1 1 = true from rfl] at hview
      simp only [cond_true, Option.some.injEq] at hview
      subst hview
      simp only [Nat.mul_one] at hle
      have hsl : (sub xs o n).length = n := u024 _ _ _ (by omega)
      show RoR w ρ (maskL ks mem) (iv .i64 (sub xs o n)) 1 (sub xs o n).length _
      rw [hsl]
      exact ⟨a', cap', rfl, hnc, by rw [u054, hsl, Nat.mul_one], fun hn => ⟨b, o, ha' hn, hNL, hbs, hcell n⟩⟩
    · have h1' : Nat.beq s 1 = false := by rw [← Bool.not_eq_true, Nat.beq_eq]; exact h1
      rw [h1'] at hview
      simp only [cond_false, Option.some.injEq] at hview
      subst hview
      have hfl := u131 xs s n o
      refine ⟨⟨hs0, u187 xs s n o (by omega)⟩, ?_⟩
      rw [u248, hfl]
      exact ⟨a', cap', rfl, hnc, by rw [u054, u024 _ _ _ (by omega)], fun hn => ⟨b, o, ha' hn, hNL, hbs, hcell (n * s)⟩⟩
  | _ =>
    simp only [V.shown, Option.some.injEq] at h
    subst h
    exact VR.step hs hc hv
theorem shownL_ok {mem : Mem} (hw : WR w ρ mem) {ks : List Nat} (hs : Step w ρ mem w ρ (maskL ks mem) (· ∈ ks)) : ∀ {vs ps : List (Nat × V)} {qs : List (Nat × Value)}, All2 (fun p q => p.1 = q.1 ∧ VR w ρ mem p.2 q.2) vs qs → shownL mem vs = some ps →
    (∀ x ∈ givenL vs, x ∈ ks) → (∀ p ∈ ps, ∀ x ∈ p.2.hs, x ∉ ks) → All2 (fun p q => p.1 = q.1 ∧ VR w ρ (maskL ks mem) p.2 q.2) ps qs := by
  intro vs
  induction vs with
  | nil => intro ps qs hq h _ _; cases hq; cases h; exact .nil
  | cons v vs ih =>
    intro ps qs hq h hg hc
    obtain ⟨i, v⟩ := v
    cases hq with
    | cons hp hq' =>
    simp only [shownL] at h
    split at h
    case h_2 => cases h
    rename_i c hc1
    simp only [Option.map_eq_some_iff] at h
    obtain ⟨ps', h1, rfl⟩ := h
    refine .cons ⟨hp.1, shown_ok hw hs hp.2 hc1 (fun x hx => hg x (by simp only [givenL, List.mem_append]; exact .inl hx)) (hc (i, c) (by simp))⟩ (ih hq' h1 (fun x hx => hg x (by simp only [givenL, List.mem_append]; exact .inr hx)) fun p hp => hc p (by simp [hp]))
theorem parts_VR (hI : Inv σ a w ρ) (parts : List (Nat × Operand)) : All2 (fun (p : Nat × V) (q : Nat × Value) => p.1 = q.1 ∧ VR w ρ σ.mem p.2 q.2) (parts.map fun (i, x) => (i, evO σ x)) (parts.map fun (i, x) => (i, a.eval x)) := by
  induction parts with
  | nil => exact .nil
  | cons p ps ih => exact .cons ⟨rfl, hI.op p.2⟩ ih
theorem mem_le_mget {mem : Mem} {h x : Nat} (hx : x ∈ (mget mem h).hs) : mget mem h ∈ mem := by
  induction mem generalizing h with
  | nil => simp [mget, Blk.hs] at hx
  | cons b r ih =>
    cases h with
    | zero => simp [mget]
    | succ h => simp only [mget] at hx ⊢; exact List.mem_cons_of_mem _ (ih hx)
theorem u204 (hT : TTok P tt) {o : Oper} {t : TypeId} {len : Nat} {parts : Array (Nat × Operand)} (ho : o.op = .buildSlice t len parts) {k : V → Mem → List Nat → Option R} {x : R} (hI : Inv σ a w ρ)
    (hx : (match look tt t with
      | some { d := .slice e, .. } => match look tt e with
        | some te => match te.z.mt with
          | some m => match u119 m (parts.toList.map fun (i, x) => (i, evO σ x)) with
            | some (.ri kd xs) => bif Nat.beq xs.length len && Nat.beq te.size 1 && Nat.ble len 16777216 then k (.ri kd xs) σ.mem [] else none
            | _ => none
          | none => none
        | none => none
      | _ => none) = some x) : DoesQ P o a σ w ρ k x := by
  split at hx
  case h_2 => cases hx
  rename_i e s0 b0 zz hl
  have hu : P.underlying t = some (.slice e) := (hT _ _ hl).desc
  split at hx
  case h_2 => cases hx
  rename_i te hle
  obtain ⟨⟨i, hi, hsz, _, zv, hzv, hz⟩, _, _, hpos⟩ := hT _ _ hle
  split at hx
  case h_2 => cases hx
  rename_i m hm
  obtain ⟨hm0, hmc⟩ := mt_ne hm
  split at hx
  case h_2 => cases hx
  rename_i kd xs hc
  obtain ⟨hb, hx⟩ := u006 hx
  simp only [Bool.and_eq_true] at hb
  have h1 : xs.length = len := u031 hb.1.1
  have h2 : te.size = 1 := u031 hb.1.2
  have h3 := Nat.le_of_ble_eq_true hb.2
  have hcw : (V.ri kd xs).wd = 1 := rfl
  have hcc : (V.ri kd xs).cnt = xs.length := rfl
  have hwd : m.wd = te.size := by rw [← buildSl_wd hc hm0, hcw, h2]
  obtain ⟨zs, hzs, hrunz⟩ := u163 (P := P) (w := w) (t := t) (len := len) (parts := parts.map fun (i, x) => (i, a.eval x)) hu hi hzv (by rw [hsz, h2]; omega)
  obtain ⟨rs', hf, hcr, _⟩ := buildSl_ok te.size hpos (rs := []) (zs := zs) (parts_VR hI _) hc hm0 hwd (mt_CR hm (by omega)) (by rw [hmc, hcc, h1, Nat.sub_zero, hzs, hsz]; exact Nat.le_refl _)
  simp only [List.nil_append] at hf
  rw [hmc, hcc, h1, Nat.sub_zero, show len * te.size = zs.length by rw [hzs, hsz], List.drop_length, List.append_nil] at hf
  have hcr : rs' = iv kd xs := hcr
  have hrun := hrunz rs'.toArray (by rw [← hf, hsz]; simp)
  have hnew : (w.alloc (.cells rs'.toArray e)).heap[w.heap.size]? = some (.cells rs'.toArray e (0, 0)) := heap_alloc_new w _
  have hbel : Below w.heap.size w (w.alloc (.cells rs'.toArray e)) := ⟨rfl, rfl, rfl, by simp, fun r hr => u241 r hr⟩
  refine ⟨_, hx, fun K Q hK => wp_run (r := .slice (some ⟨w.heap.size, 0, none⟩) len len) (w' := w.alloc (.cells rs'.toArray e)) (.inl ?_) (hK _ _ ρ ?_ (wr_below hI.wr hbel) ((u159 hI.wr hbel).weak fun _ h => h.elim))⟩
  rotate_left
  refine ⟨some ⟨w.heap.size, 0, none⟩, len, by rw [h1], by omega, by simp [iv], fun _ => ⟨w.heap.size, 0, rfl, ⟨fun hl => ?_, fun hf => ?_⟩, by simp, fun j u hj => ?_⟩⟩
  rotate_right
  · unfold execOp
    simp only [ho]
    rw [Sem.run_bind, hrun]
    rfl
  · have := hI.wr.lt hl; omega
  · have := hI.wr.fb _ hf; omega
  · rw [← hcr] at hj
    simp only [World.cell?, hnew, Nat.zero_add, Option.isSome_none, Bool.false_eq_true, if_false]
    simpa using hj
theorem buildSlice_ok (hT : TTok P tt) {o : Oper} {t : TypeId} {len : Nat} {parts : Array (Nat × Operand)} (ho : o.op = .buildSlice t len parts) {slot : Option Nat} {k : V → Mem → List Nat → Option R} {x : R} (hI : Inv σ a w ρ)
    (hx : opK tt tab slot o σ k = some x) : Does P o a σ w ρ k x := by
  unfold opK at hx
  simp only [ho] at hx
  cases hcb : constB tt t len parts with
  | true =>
    rw [hcb, cond_true] at hx
    exact (u204 hT ho hI hx).does
  | false =>
  rw [hcb, cond_false] at hx
  split at hx
  case h_2 => cases hx
  rename_i e s0 b0 zz hl
  have hu : P.underlying t = some (.slice e) := (hT _ _ hl).desc
  split at hx
  case h_2 => cases hx
  rename_i te hle
  obtain ⟨⟨i, hi, hsz, _, zv, hzv, hz⟩, _, _, hpos⟩ := hT _ _ hle
  split at hx
  case h_2 => cases hx
  rename_i m hm
  obtain ⟨hm0, hmc⟩ := mt_ne hm
  -- what is laid, in a memory that shows it
  have core : ∀ (mem : Mem) (hw : WR w ρ mem) (ps : List (Nat × V)) (c : V) (ks : List Nat), All2 (fun p q => p.1 = q.1 ∧ VR w ρ mem p.2 q.2) ps (parts.toList.map fun (i, x) => (i, a.eval x)) → u119 m ps = some c →
      c.cnt = len → c.wd = te.size → len * te.size ≤ 16777216 → Step w ρ σ.mem w ρ mem (· ∈ ks) → ∀ (slot : Option Nat), newB mem slot (.vec e c) (fun h mem => k (.sl h 0 len) mem ks) = some x → Does P o a σ w ρ k x := fun mem hw ps c ks hps hc h1 h2 h3 hs0 slot hx => by
    have hwd : m.wd = te.size := by rw [← buildSl_wd hc hm0]; exact h2
    have key : ∀ zs : List Value, zs.length = len * i.size → ∃ rs', Instr.fill (fun j => some (j * i.size, i.size)) zs.toArray (parts.toList.map fun (i, x) => (i, a.eval x)) = some rs'.toArray ∧ CR w ρ mem c rs' := fun zs hzs => by
      obtain ⟨rs', hf, hcr, _⟩ := buildSl_ok te.size hpos (rs := []) (zs := zs) hps hc hm0 hwd (mt_CR hm (by omega)) (by rw [hmc, h1, Nat.sub_zero, hzs, hsz]; exact Nat.le_refl _)
      refine ⟨rs', ?_, hcr⟩
      rw [hsz]
      simp only [List.nil_append] at hf
      rw [hf, hmc, h1, Nat.sub_zero, ← hsz, ← hzs, List.drop_length, List.append_nil]
    obtain ⟨zs, hzs, hrunz⟩ := u163 (P := P) (w := w) (t := t) (len := len) (parts := parts.map fun (i, x) => (i, a.eval x)) hu hi hzv (by rw [hsz]; exact h3)
    obtain ⟨rs', hf0, hcr⟩ := key zs hzs
    have hlen := u262 hcr
    rw [h1, h2] at hlen
    have hrun := hrunz _ (by simpa using hf0)
    obtain ⟨h', mem', ρ', hk, hwr, hst, hρ, hmg⟩ := newB_ok hw hx (w' := w.alloc (.cells rs'.toArray e)) (rl := .vec (some ⟨w.heap.size, 0, none⟩) len) (by simp) rfl rfl rfl u241
      (fun r' hr' => by
        simp only [Rl.blk] at hr'
        split at hr'
        · cases hr'
        · simp only [Option.map_some, Option.some.injEq] at hr'; omega)
      (fun ρ' mem' hs => ⟨_, _, rfl, by omega, by
        by_cases h0 : len = 0
        · refine .inl ⟨h0, ?_⟩
          have : rs' = [] := List.eq_nil_of_length_eq_zero (by rw [hlen, h0, Nat.zero_mul])
          subst this
          exact u113 hcr hs (fun _ _ _ _ h => h)
        · refine .inr ⟨w.heap.size, rs'.toArray, by omega, rfl, heap_alloc_new w _, ?_, by simp [hlen, h2], ?_⟩
          · have : len ≤ len * te.size := Nat.le_mul_of_pos_right _ hpos
            simp only [Go.maxLen]
            omega
          · rw [h1, h2, ← hlen]
            simp only [List.take_length]
            exact u113 hcr hs (fun _ _ _ _ h => h)⟩)
    refine Does.of_run hk (.inl ?_) ⟨e, c, _, len, hmg, hρ, by omega, .inl ⟨rfl, rfl⟩⟩ hwr (hs0.seq hst)
    unfold execOp
    simp only [ho]
    rw [Sem.run_bind, hrun]
    rfl
  unfold litK at hx
  split at hx
  · split at hx
    case h_2 => cases hx
    rename_i c hc
    obtain ⟨hb, hx⟩ := u006 hx
    simp only [Bool.and_eq_true] at hb
    exact core σ.mem hI.wr _ c [] (parts_VR hI _) hc (u031 hb.1.1) (u031 hb.1.2) (Nat.le_of_ble_eq_true hb.2) (Step.refl _ _ _ _) slot hx
  · split at hx
    · cases hx
    · split at hx
      case h_2 => cases hx
      rename_i ps hps
      split at hx
      case h_2 => cases hx
      rename_i c hc
      obtain ⟨hb, hx⟩ := u006 hx
      simp only [Bool.and_eq_true, List.all_eq_true, Bool.not_eq_true'] at hb
      obtain ⟨⟨⟨⟨b1, b2⟩, b3⟩, b4⟩, b5⟩ := hb
      generalize hks : givenL (parts.toList.map fun (i, x) => (i, evO σ x)) = ks at *
      obtain ⟨hs, hw⟩ := drop_all hI.wr (ks := ks) (fun h y hy => u182 (b5 _ (mem_le_mget hy)) y hy)
      refine core (maskL ks σ.mem) hw ps c ks (shownL_ok hI.wr hs (parts_VR hI _) hps (fun y hy => by rw [← hks]; exact hy) fun p hp y hy => u182 (b4 p hp) y hy) hc (u031 b1) (u031 b2) (Nat.le_of_ble_eq_true b3) hs none ?_
      simp only [newB, u065]
      exact hx
theorem makeSlice_ok (hT : TTok P tt) {o : Oper} {t : TypeId} {y z : Operand} (ho : o.op = .makeSlice t y z) {slot : Option Nat} {k : V → Mem → List Nat → Option R} {x : R} (hI : Inv σ a w ρ)
    (hx : opK tt tab slot o σ k = some x) : Does P o a σ w ρ k x := by
  cases y with
  | tmp i => cases z with
    | tmp j =>
      unfold opK at hx
      simp only [ho] at hx
      have hij := u031 (u006 hx).1
      replace hx := (u006 hx).2
      subst hij
      split at hx
      case h_2 => cases hx
      rename_i e s0 b0 zz hl
      have hu : P.underlying t = some (.slice e) := (hT _ _ hl).desc
      split at hx
      case h_2 => cases hx
      rename_i te hle
      obtain ⟨⟨ie, hie, hsz, hby, zv, hzv, hz⟩, _, _, hpos, hzsz⟩ := hT _ _ hle
      split at hx
      case h_2 => cases hx
      rename_i kd n hn
      obtain ⟨hc0, hx⟩ := u006 hx
      simp only [Bool.and_eq_true, decide_eq_true_eq, fits] at hc0
      obtain ⟨h1, hf1, hf2⟩ := hc0
      have hf1 := Nat.le_of_ble_eq_true hf1
      have hf2 := Nat.le_of_ble_eq_true hf2
      split at hx
      case h_2 => cases hx
      rename_i c hc
      have hv := hI.tmp i
      rw [hn] at hv
      have hv : a.tmps.getD i Go.undef = .int kd n := hv
      obtain ⟨m, hm⟩ : ∃ m : Nat, n = (m : Int) := ⟨n.toNat, by omega⟩
      subst hm
      simp only [Int.toNat_natCast] at hc hf1 hf2 hx
      obtain ⟨g1, g2, g3, g4, g5⟩ := u272 (w := w) (ρ := ρ) (mem := σ.mem) hc hz (by omega)
      have hrun := run_make (P := P) w t e ie zv hu hie hzv kd kd (m : Int) (m : Int) (by omega) (Int.le_refl _) (by
        have h2 : ((ie.bytes * m : Nat) : Int) ≤ ((140737488355328 : Nat) : Int) := Int.ofNat_le.2 (by rw [hby, Nat.mul_comm]; exact hf1)
        rw [Int.natCast_mul] at h2
        generalize ((ie.bytes : Int) * (m : Int)) = q at h2 ⊢
        omega) (by omega)
      simp only [Int.toNat_natCast] at hrun
      have hcells : madeCells zv.cells (m * ie.size) = Builtin.zeroCells zv.cells m := by
        unfold madeCells Builtin.zeroCells
        rw [u251 hz, hzsz, hsz]
      rw [hcells] at hrun
      have hex : (execOp a.eval o).run P w = .ok (.value (.slice (some ⟨w.heap.size, 0, none⟩) m m)) (w.alloc (.cells (Builtin.zeroCells zv.cells m) e)) := by
        have e1 : a.eval (.tmp i) = .int kd (m : Int) := hv
        unfold execOp
        simp only [ho, e1, Sem.run_bind, hrun, Result.andThen_ok, Sem.run_pure]
      have hb0 : ∀ r, (Rl.vec (some ⟨w.heap.size, 0, none⟩) m).blk = some r → w.heap.size ≤ r := fun r hr => by
        simp only [Rl.blk] at hr
        split at hr
        · cases hr
        · simp only [Option.map_some, Option.some.injEq] at hr; omega
      have hx' : newB σ.mem none (.vec e c) (fun h mem => k (.sl h 0 m) mem []) = some x := hx
      obtain ⟨h', mem', ρ', hk, hwr, hst, hρ, hmg⟩ := newB_ok hI.wr hx' (w' := w.alloc (.cells (Builtin.zeroCells zv.cells m) e)) (rl := .vec (some ⟨w.heap.size, 0, none⟩) m) (by simp) rfl rfl rfl u241 hb0
        (fun ρ' mem' hs => ⟨_, _, rfl, by omega, by
          by_cases h0 : m = 0
          · refine .inl ⟨h0, ?_⟩
            have : (Builtin.zeroCells zv.cells m).toList = [] := List.eq_nil_of_length_eq_zero (by rw [g4, h0, Nat.zero_mul])
            rw [this] at g1
            exact u113 g1 hs (fun _ _ _ _ h => h)
          · refine .inr ⟨w.heap.size, Builtin.zeroCells zv.cells m, by omega, rfl, heap_alloc_new w _, ?_, ?_, ?_⟩
            · simp only [Go.maxLen]; omega
            · rw [g3, ← g4, Array.length_toList]
            · rw [g2, g3, ← g4, List.take_length]
              exact u113 g1 hs (fun _ _ _ _ h => h)⟩)
      exact Does.of_run hk (.inl hex) ⟨e, c, _, m, hmg, hρ, by omega, .inl ⟨rfl, rfl⟩⟩ hwr (hst.weak fun _ h => h.elim)
    | _ => unfold opK at hx; simp only [ho] at hx; cases hx
  | _ => unfold opK at hx; simp only [ho] at hx; cases hx
theorem iaF_mem {d : Nat} : ∀ (gs : List Field) (o c : Nat), ia.iaF (ia tt d) (gs.map fun f => (f.offset, f.type)) o = some c → o ≤ c ∧ ∀ f ∈ gs, ∃ m, ia tt d f.type = some m ∧ f.offset + m ≤ c
  | [], o, c, h => by
    simp only [List.map_nil, ia.iaF, Option.some.injEq] at h
    exact ⟨by omega, fun f hf => by cases hf⟩
  | g :: gs, o, c, h => by
    simp only [List.map_cons, ia.iaF] at h
    obtain ⟨g1, g2⟩ := u006 h
    have g1 := u031 g1
    split at g2
    case h_2 => cases g2
    rename_i m hm
    obtain ⟨h1, h2⟩ := iaF_mem gs (o + m) c g2
    refine ⟨by omega, fun f hf => ?_⟩
    cases hf with
    | head => exact ⟨m, hm, by omega⟩
    | tail _ hf => exact h2 f hf
theorem u258 (hT : TTok P tt) (em : Bool) : ∀ (d : Nat) (t : TypeId) (n : Nat), ia tt d t = some n → ∀ (D : Nat), d ≤ D → ∀ (xs : List Int), xs.length = n → ∀ w : World,
    (Instr.checkKey em D t (tyV tt t xs)).run P w = .ok () w := by
  intro d
  induction d with
  | zero => intro t n h; simp [ia] at h
  | succ d ih =>
    intro t n h D hD xs hx w
    obtain ⟨D, rfl⟩ : ∃ E, D = E + 1 := ⟨D - 1, by omega⟩
    have hD' : d ≤ D := by omega
    simp only [ia] at h
    split at h
    · rename_i hl
      have hd : P.underlying t = _ := (hT _ _ hl).desc
      simp only [tyV, hl, u261]
      rw [Instr.checkKey]
      simp only [Sem.run_bind, run_underlying hd, Result.andThen_ok, Sem.run_pure]
    · rename_i m e s _ _ hl
      split at h
      · rename_i c hc
        obtain ⟨h1, h2⟩ := u006 h
        simp only [Option.some.injEq] at h2
        have hd : P.underlying t = _ := (hT _ _ hl).desc
        obtain ⟨te, hle, hse⟩ := ia_size hc
        obtain ⟨⟨ie, hie, hsze, _⟩, hde, _, _⟩ := hT _ _ hle
        simp only [tyV, hl, u261]
        rw [Instr.checkKey]
        simp only [Sem.run_bind, run_underlying hd, Result.andThen_ok]
        simp only [Std.Legacy.Range.forIn_eq_forIn_range', Std.Legacy.Range.size, Nat.sub_zero, Nat.add_one_sub_one, Nat.div_one]
        have each : ∀ j ∈ List.range' 0 m, j * c + c ≤ xs.length := fun j hj => by
          have := List.mem_range'_1.1 hj
          have h3 : (j + 1) * c ≤ m * c := Nat.mul_le_mul_right _ (by omega)
          rw [Nat.add_mul, Nat.one_mul] at h3
          omega
        generalize List.range' 0 m = is at each
        induction is with
        | nil => simp
        | cons j is ihl =>
          have hj := each j (by simp)
          have p1 := u099 hT hc xs (j * c) hj w
          have p2 := ih e c hc D hD' (sub xs (j * c) c) (u024 xs _ _ hj) w
          simp only [List.forIn_cons, Sem.run_bind, u050 hie, Result.andThen_ok, hsze, hse, p1, p2, Sem.run_pure]
          exact ihl (fun y hy => each y (by simp [hy]))
      · cases h
    · rename_i fs s _ _ hl
      split at h
      · rename_i c hc
        obtain ⟨h1, h2⟩ := u006 h
        simp only [Option.some.injEq] at h2
        obtain ⟨fields, hu, hfs, hst, hnm⟩ := (hT _ _ hl).desc
        simp only [tyV, hl, u261]
        rw [Instr.checkKey]
        simp only [Sem.run_bind, run_underlying hu, Result.andThen_ok]
        rw [← Array.forIn_toList]
        have each := (iaF_mem fields.toList 0 c (by rw [hfs]; exact hc)).2
        generalize fields.toList = L at each hnm
        induction L with
        | nil => simp
        | cons f L ihl =>
          obtain ⟨m, hm, hle⟩ := each f (by simp)
          have hn := hnm f (by simp)
          have p1 := u099 hT hm xs f.offset (by omega) w
          have p2 := ih f.type m hm D hD' (sub xs f.offset m) (u024 xs _ _ (by omega)) w
          simp only [List.forIn_cons, Sem.run_bind, hn, ne_eq, not_false_eq_true, if_true, Result.andThen_ok, p1, p2, Sem.run_pure]
          exact ihl (fun y hy => each y (by simp [hy])) (fun y hy => hnm y (by simp [hy]))
      · cases h
    · cases h
theorem eqT_key (hT : TTok P tt) (hD : 6 ≤ P.depth) {t : TypeId} {n : Nat} (h : eqT tt t n = true) :
    (match P.underlying t with | some (.array _ _) | some (.struct _) => true | _ => false) = true ∧ (∀ em, ∀ xs : List Int, xs.length = n → ∀ w, (Instr.checkKey em 10000 t (.agg (iv .i64 xs).toArray)).run P w = .ok () w) ∧
    ∀ xs ys : List Int, xs.length = n → ys.length = n → ∀ w, (Op.equal t (.agg (iv .i64 xs).toArray) (.agg (iv .i64 ys).toArray)).run P w = .ok (xs == ys) w := by
  refine ⟨?_, ?_, fun xs ys hx hy w => (eqT_run hT hD h hx hy w).1⟩
  · unfold eqT at h
    split at h
    · rename_i ti hti
      simp only [Bool.and_eq_true] at h
      have hd := (hT _ _ hti).desc
      rcases ti with ⟨td, s1, s2, s3⟩
      cases td with
      | struct fs => obtain ⟨fields, hu, _⟩ := hd; rw [hu]
      | array m e => have hu : P.underlying t = _ := hd; rw [hu]
      | _ => exact absurd h.1 (by simp [D.agg])
    · cases h
  · intro em xs hx w
    unfold eqT at h
    split at h
    · rename_i ti hti
      simp only [Bool.and_eq_true] at h
      obtain ⟨hag, h⟩ := h
      split at h
      · rename_i m hm
        have h := u031 h
        subst h
        have hq := u258 hT em 6 t m hm 10000 (by omega) xs hx w
        have htv : tyV tt t xs = .agg (iv .i64 xs).toArray := by
          unfold tyV
          rw [hti]
          rcases ti with ⟨td, s1, s2, s3⟩
          cases td <;> first | rfl | cases hag
        rwa [htv] at hq
      · cases h
    · cases h
def EntR (w : World) (ρ : Rho) (mem : Mem) (n : Nat) (kv : List Int × V) (e : MapEntry) : Prop :=
  (e.key = .agg (iv .i64 kv.1).toArray ∧ kv.1.length = n) ∧ kv.2.flatG = true ∧ VG w ρ mem kv.2 e.val
theorem find_ok {t : TypeId} {n : Nat} {mem : Mem} (heq : ∀ xs ys : List Int, xs.length = n → ys.length = n → ∀ w, (Op.equal t (.agg (iv .i64 xs).toArray) (.agg (iv .i64 ys).toArray)).run P w = .ok (xs == ys) w) {key : List Int} (hk : key.length = n) (w1 : World) :
    ∀ {kvs : List (List Int × V)} {es : List MapEntry} (i : Nat), All2 (EntR w ρ mem n) kvs es →
    (mlook key kvs = none ∧ (Instr.findAsking t (.agg (iv .i64 key).toArray) es i).run P w1 = .ok none w1 ∧ ∀ v, mput key v kvs = kvs ++ [(key, v)]) ∨
    ∃ v j e, mlook key kvs = some v ∧ (Instr.findAsking t (.agg (iv .i64 key).toArray) es i).run P w1 = .ok (some (i + j, e.val)) w1 ∧ es[j]? = some e ∧ e.key = .agg (iv .i64 key).toArray ∧ VG w ρ mem v e.val ∧ v.flatG = true ∧
      ∀ u r, u.flatG = true → VG w ρ mem u r → All2 (EntR w ρ mem n) (mput key u kvs) (es.modify j fun e => { e with key := .agg (iv .i64 key).toArray, val := r })
  | [], _, i, h => by
    cases h
    exact .inl ⟨rfl, by simp [Instr.findAsking], fun v => rfl⟩
  | (x, v) :: kvs, _, i, h => by
    cases h with
    | cons hp hr =>
    rename_i e es
    obtain ⟨⟨hek, hxl⟩, hfl, hv⟩ := hp
    simp only at hek hxl hfl hv
    have hq := heq key x hk hxl w1
    rw [← hek] at hq
    cases hb : (key == x) with
    | true =>
      have hkx : key = x := by simpa using hb
      subst hkx
      refine .inr ⟨v, 0, e, by simp only [mlook, hb, cond_true], ?_, rfl, hek, hv, hfl, fun u r hu hur => ?_⟩
      · rw [hb] at hq
        simp [Instr.findAsking, hq]
      · simp only [mput, hb, cond_true, List.modify_zero_cons]
        exact .cons ⟨⟨rfl, hk⟩, hu, hur⟩ hr
    | false =>
      rw [hb] at hq
      rcases find_ok heq hk w1 (i + 1) hr with ⟨h1, h2, h3⟩ | ⟨v', j, e', h1, h2, h3, h4, h5, h6, h7⟩
      · exact .inl ⟨by simp only [mlook, hb, cond_false, h1], by simp [Instr.findAsking, hq, h2], fun u => by simp only [mput, hb, cond_false, h3, List.cons_append]⟩
      · refine .inr ⟨v', j + 1, e', by simp only [mlook, hb, cond_false, h1], by simp [Instr.findAsking, hq, h2, Nat.add_assoc, Nat.add_comm 1 j], by simpa using h3, h4, h5, h6, fun u r hu hur => ?_⟩
        simp only [mput, hb, cond_false, List.modify_succ_cons]
        exact .cons ⟨⟨hek, hxl⟩, hfl, hv⟩ (h7 u r hu hur)
theorem mlook_map {α β : Type} (f : α → β) (key : List Int) : ∀ l : List (List Int × α), mlook key (l.map fun x => (x.1, f x.2)) = (mlook key l).map f
  | [] => rfl
  | (x, v) :: r => by
    simp only [List.map_cons, mlook, mlook_map f key r]
    cases key == x <;> rfl
theorem u234 {α β : Type} (f : α → β) (key : List Int) (u : α) : ∀ l : List (List Int × α), mput key (f u) (l.map fun x => (x.1, f x.2)) = (mput key u l).map fun x => (x.1, f x.2)
  | [] => rfl
  | (x, v) :: r => by
    simp only [List.map_cons, mput, u234 f key u r]
    cases key == x <;> rfl
theorem lookup_ok (hT : TTok P tt) (hD : 6 ≤ P.depth) {o : Oper} {t : TypeId} {y z : Operand} {ok : Bool} (ho : o.op = .lookup t y z ok) {slot : Option Nat} {k : V → Mem → List Nat → Option R} {x : R} (hI : Inv σ a w ρ)
    (hx : opK tt tab slot o σ k = some x) : Val P o a σ w ρ k x := by
  unfold opK at hx
  simp only [ho] at hx
  split at hx
  case h_2 => cases hx
  rename_i kt e s0 b0 zz hl
  have hu : P.underlying t = some (.map kt e) := (hT _ _ hl).desc
  split at hx
  case h_2 => cases hx
  rename_i te hle
  obtain ⟨ie, hie, hsz, hby, zv, hzv, hz⟩ := (hT _ _ hle).info
  split at hx
  case h_2 => cases hx
  rename_i h n key hy hzk
  obtain ⟨heq, hx⟩ := u006 hx
  split at hx
  case h_2 => cases hx
  rename_i n' c hm
  have hb := (u006 hx).1
  replace hx := (u006 hx).2
  simp only [Bool.and_eq_true] at hb
  have hn := u031 hb.1
  subst hn
  obtain ⟨hwide, hcheck, hequal⟩ := eqT_key hT hD heq
  have hvy := hI.op y
  rw [hy] at hvy
  obtain ⟨n2, c2, b, hm2, hρ, hey⟩ := hvy
  rw [hm] at hm2
  cases hm2
  have hvz := hI.op z
  rw [hzk] at hvz
  obtain ⟨hkl, hez⟩ := u174 hvz
  have hbk := hI.wr.blk h _ hρ
  rw [hm] at hbk
  obtain ⟨r, es, clock, hrl, hheap, hes⟩ := hbk
  cases hrl
  have hes : All2 (EntR w ρ σ.mem n) c.vals es.toList := hes
  -- what the look-up gives
  have hrun : ∀ (v : Value) (is : Bool), ((∃ i, (Instr.findAsking kt (.agg (iv .i64 key).toArray) es.toList 0).run P w = .ok (some (i, v)) w) ∧ is = true) ∨ ((Instr.findAsking kt (.agg (iv .i64 key).toArray) es.toList 0).run P w = .ok none w ∧ v = zv ∧ is = false) →
      (execOp a.eval o).run P w = .ok (.value (if ok then .tuple #[v, .bool is] else v)) w := fun v is hq => by
    unfold execOp
    simp only [ho, hey, hez]
    have hfk := run_findKey_eq (w := w) hwide (.agg (iv .i64 key).toArray) es.toList
    rcases hq with ⟨⟨i, h1⟩, rfl⟩ | ⟨h1, rfl, rfl⟩
    · simp [Instr.lookup, run_underlying hu, MapKept.run_getObj_map hheap, hcheck _ _ hkl, hfk, h1]
    · simp [Instr.lookup, run_underlying hu, MapKept.run_getObj_map hheap, hcheck _ _ hkl, hfk, h1, u109 hie hzv]
  have tup : ∀ (v1 : V) (r1 : Value) (is : Bool), VG w ρ σ.mem v1 r1 → v1.flatG = true → VR w ρ σ.mem (.tup [v1, .bool is]) (.tuple #[r1, .bool is]) := fun v1 r1 is h1 h2 => by
    refine ⟨[r1, .bool is], rfl, .cons ?_ (.cons rfl .nil)⟩
    cases v1 <;> first | exact h1 | cases h2
  have sgl : ∀ (v1 : V) (r1 : Value), VG w ρ σ.mem v1 r1 → v1.flatG = true → VR w ρ σ.mem v1 r1 := fun v1 r1 h1 h2 => by
    cases v1 <;> first | exact h1 | cases h2
  have fin : ∀ (v1 : V) (r1 : Value) (is : Bool), VG w ρ σ.mem v1 r1 → v1.flatG = true → (execOp a.eval o).run P w = .ok (.value (if ok then .tuple #[r1, .bool is] else r1)) w →
      (bif ok then k (.tup [v1, .bool is]) σ.mem [] else k v1 σ.mem []) = some x → Val P o a σ w ρ k x := fun v1 r1 is h1 h2 h3 h4 => by
    cases ok with
    | true => exact ⟨_, _, h4, h3, tup _ _ _ h1 h2⟩
    | false => exact ⟨_, _, h4, h3, sgl _ _ h1 h2⟩
  cases c with
  | fl l =>
    have hzb : zv = .bool false := by
      have := hb.2
      unfold MC.fits at this
      split at this
      · rename_i hz1 _; rw [hz1] at hz; exact hz
      · rename_i _ hc; cases hc
      · cases this
    simp only [lookK] at hx
    have hmm := mlook_map V.bool key l
    rcases find_ok hequal hkl w 0 hes with ⟨h1, h2, _⟩ | ⟨v, j, e', h1, h2, _, _, h5, h6, _⟩
    · simp only [MC.vals] at h1
      rw [hmm, Option.map_eq_none_iff] at h1
      rw [h1] at hx
      exact fin (.bool false) (.bool false) false rfl rfl (hrun _ _ (.inr ⟨h2, hzb.symm, rfl⟩)) hx
    · simp only [MC.vals] at h1
      rw [hmm, Option.map_eq_some_iff] at h1
      obtain ⟨u, hu1, rfl⟩ := h1
      rw [hu1] at hx
      exact fin (.bool u) e'.val true h5 rfl (hrun _ _ (.inl ⟨⟨_, h2⟩, rfl⟩)) hx
  | ls kd l =>
    have hzb : zv = .slice none 0 0 := by
      have := hb.2
      unfold MC.fits at this
      split at this
      · rename_i _ hc; cases hc
      · rename_i hz1 _; rw [hz1] at hz; exact hz
      · cases this
    simp only [lookK] at hx
    have hmm := mlook_map (V.ri kd) key l
    rcases find_ok hequal hkl w 0 hes with ⟨h1, h2, _⟩ | ⟨v, j, e', h1, h2, _, _, h5, h6, _⟩
    · simp only [MC.vals] at h1
      rw [hmm, Option.map_eq_none_iff] at h1
      rw [h1] at hx
      exact fin (.ri kd []) (.slice none 0 0) false ⟨none, 0, rfl, Nat.le_refl _, rfl, fun h => absurd rfl h⟩ rfl (hrun _ _ (.inr ⟨h2, hzb.symm, rfl⟩)) hx
    · simp only [MC.vals] at h1
      rw [hmm, Option.map_eq_some_iff] at h1
      obtain ⟨u, hu1, rfl⟩ := h1
      rw [hu1] at hx
      exact fin (.ri kd u) e'.val true h5 rfl (hrun _ _ (.inl ⟨⟨_, h2⟩, rfl⟩)) hx
theorem put_VG {mem : Mem} {c c' : MC} {key : List Int} {v : V} {r : Value} (h : c.put key v = some c') (hv : VR w ρ mem v r) : ∃ u, u.flatG = true ∧ VG w ρ mem u r ∧ c'.vals = mput key u c.vals := by
  unfold MC.put at h
  split at h
  · rename_i l b
    cases h
    exact ⟨.bool b, rfl, hv, (u234 V.bool key b l).symm⟩
  · rename_i kd l kd' xs
    obtain ⟨hk, h⟩ := u039 h
    cases h
    subst hk
    exact ⟨.ri kd xs, rfl, hv, (u234 (V.ri kd) key xs l).symm⟩
  · rename_i kd l
    cases h
    obtain ⟨ad, rfl⟩ := hv
    exact ⟨.ri kd [], rfl, ⟨ad, 0, rfl, Nat.le_refl _, rfl, fun h => absurd rfl h⟩, (u234 (V.ri kd) key [] l).symm⟩
  · cases h
theorem sameBits_ints (xs : List Int) : Instr.sameBits 10000 (.agg (iv .i64 xs).toArray) (.agg (iv .i64 xs).toArray) = true := by
  show Instr.sameBits (9999 + 1) (.agg (iv .i64 xs).toArray) (.agg (iv .i64 xs).toArray) = true
  simp only [Instr.sameBits, beq_self_eq_true, Bool.true_and, List.all_eq_true]
  intro p hp
  obtain ⟨i, hi, e⟩ := List.getElem_of_mem hp
  rw [List.getElem_zip] at e
  rw [← e]
  simp [iv, Instr.sameBits]
theorem putC_ok (hT : TTok P tt) (hD : 6 ≤ P.depth) {o : Oper} {t : TypeId} {y z u : Operand} (ho : o.op = .mapUpdate t y z u ∨ o.op = .insert t y z u) {k : V → Mem → List Nat → Option R} {x : R} (hI : Inv σ a w ρ)
    {v' : V} {mem' : Mem} {ks : List Nat} (hk : putC tt t mem' (evO σ y) (evO σ z) v' ks k = some x) (hwr' : WR w ρ mem') (hs' : Step w ρ σ.mem w ρ mem' (· ∈ ks)) (hsame : ∀ y, (mget mem' y).live = true → mget mem' y = mget σ.mem y)
    (hput : ∀ (c c' : MC) (key : List Int), c.put key v' = some c' → ∃ q, q.flatG = true ∧ VG w ρ mem' q (a.eval u) ∧ c'.vals = mput key q c.vals) : Does P o a σ w ρ k x := by
  unfold putC at hk
  split at hk
  case h_2 => cases hk
  rename_i kt e s0 b0 zz hl
  have hu : P.underlying t = some (.map kt e) := (hT _ _ hl).desc
  split at hk
  case h_2 => cases hk
  rename_i h n key hy hzk
  have heq := (u006 hk).1
  replace hk := (u006 hk).2
  split at hk
  case h_2 => cases hk
  rename_i n' c hm
  have hn := u031 (u006 hk).1
  replace hk := (u006 hk).2
  subst hn
  split at hk
  case h_2 => cases hk
  rename_i c' hc'
  have hm0 : mget σ.mem h = .map n c := by rw [← hsame h (by rw [hm]; rfl)]; exact hm
  obtain ⟨hwide, hcheck, hequal⟩ := eqT_key hT hD heq
  have hvy := hI.op y
  rw [hy] at hvy
  obtain ⟨n2, c2, b, hm2, hρ, hey⟩ := hvy
  rw [hm0] at hm2
  cases hm2
  have hvz := hI.op z
  rw [hzk] at hvz
  obtain ⟨hkl, hez⟩ := u174 hvz
  have hbk := hwr'.blk h _ hρ
  rw [hm] at hbk
  obtain ⟨r, es, clock, hrl, hheap, hes⟩ := hbk
  cases hrl
  have hes : All2 (EntR w ρ mem' n) c.vals es.toList := hes
  obtain ⟨uv, hufl, huv, hvals⟩ := hput c c' key hc'
  have hfk := run_findKey_eq (w := w) hwide (.agg (iv .i64 key).toArray) es.toList
  have hbsz : b < w.heap.size := (Array.getElem?_eq_some_iff.1 hheap).1
  have fin : ∀ (es' : Array MapEntry) (clock' : Nat), (Instr.mapUpdate t (.map (some b)) (.agg (iv .i64 key).toArray) (a.eval u)).run P w = .ok () { w with heap := w.heap.setIfInBounds b (.map es' clock') } →
      All2 (EntR w ρ mem' n) c'.vals es'.toList → Does P o a σ w ρ k x := fun es' clock' hrun hall => by
    obtain ⟨hs2, hw2⟩ := chg_ok hwr' (w' := { w with heap := w.heap.setIfInBounds b (.map es' clock') }) (b' := .map n c') hρ (by rw [hm]; rfl) (by simp) rfl rfl rfl
      (fun r _ hr => by
        have : r ≠ b := fun e => hr (by rw [e]; rfl)
        exact Array.getElem?_setIfInBounds_ne (Ne.symm this)) (by rw [hm]; exact ⟨c', rfl⟩)
      (fun hs => ⟨b, es', clock', rfl, by simp [hbsz], u026 hall fun q e hq hp => ⟨hp.1, hp.2.1, VG.step hs (fun _ _ h => h) hp.2.2⟩⟩)
    refine Does.of_run hk (.inr ⟨?_, rfl⟩) rfl hw2 (hs'.seq hs2)
    unfold execOp
    rcases ho with ho | ho <;> simp only [ho, hey, hez, Sem.run_bind, hrun, Result.andThen_ok, Sem.run_pure]
  rcases find_ok hequal hkl w 0 hes with ⟨h1, h2, h3⟩ | ⟨v, j, e', h1, h2, h3, h4, h5, h6, h7⟩
  · refine fin (es.push { key := .agg (iv .i64 key).toArray, val := a.eval u, born := clock }) (clock + 1) ?_ ?_
    · simp [Instr.mapUpdate, run_underlying hu, MapKept.run_getObj_map hheap, hcheck _ _ hkl, hfk, h2, MapKept.run_setObj_map _ hheap]
    · rw [hvals, h3, Array.toList_push]
      exact u062 hes (.cons ⟨⟨rfl, hkl⟩, hufl, huv⟩ .nil)
  · refine fin (es.modify j fun e => { e with key := .agg (iv .i64 key).toArray, val := a.eval u }) clock ?_ ?_
    · have h3' : es[j]? = some e' := by rw [← Array.getElem?_toList]; exact h3
      simp only [Nat.zero_add] at h2
      have hks : (Instr.keyThatStays (.agg (iv .i64 key).toArray) (.agg (iv .i64 key).toArray)).run P w = .ok (.agg (iv .i64 key).toArray) w := by
        simp [Instr.keyThatStays, sameBits_ints]
      simp [Instr.mapUpdate, run_underlying hu, MapKept.run_getObj_map hheap, hcheck _ _ hkl, hfk, h2, h3', h4, hks, MapKept.run_setObj_map _ hheap]
    · rw [hvals, Array.toList_modify]
      exact h7 uv _ hufl huv
theorem putK_ok (hT : TTok P tt) (hD : 6 ≤ P.depth) {o : Oper} {t : TypeId} {y z u : Operand} (ho : o.op = .mapUpdate t y z u) {slot : Option Nat} {k : V → Mem → List Nat → Option R} {x : R} (hI : Inv σ a w ρ)
    (hx : opK tt tab slot o σ k = some x) : Does P o a σ w ρ k x := by
  have hx : putK tt t σ.mem (evO σ y) (evO σ z) (evO σ u) k = some x := by
    unfold opK at hx
    simpa only [ho] using hx
  unfold putK at hx
  obtain ⟨v', mem', ks, hk, hv', hwr', hs', hsame⟩ := keep_ok hI.wr (hI.op u) hx
  exact putC_ok hT hD (.inl ho) hI hk hwr' hs' hsame fun c c' key h => put_VG h hv'
theorem insK_ok (hT : TTok P tt) (hD : 6 ≤ P.depth) {o : Oper} {t : TypeId} {y z u : Operand} (ho : o.op = .insert t y z u) {slot : Option Nat} {k : V → Mem → List Nat → Option R} {x : R} (hI : Inv σ a w ρ)
    (hx : opK tt tab slot o σ k = some x) : Does P o a σ w ρ k x := by
  have hx : insK tt t σ.mem (evO σ y) (evO σ z) (evO σ u) k = some x := by
    unfold opK at hx
    simpa only [ho] using hx
  unfold insK at hx
  have hvu := hI.op u
  split at hx
  · rename_i hd off n hq
    have hn := u031 (u006 hx).1
    replace hx := (u006 hx).2
    subst hn
    rw [hq] at hvu
    have hr : ∃ ad cap, a.eval u = .slice ad 0 cap := by
      obtain ⟨e, c, ad, cap, _, _, _, ⟨_, h⟩ | ⟨_, a', cap', h, _⟩⟩ := hvu <;> exact ⟨_, _, h⟩
    obtain ⟨ad, cap, hr⟩ := hr
    refine putC_ok hT hD (.inr ho) hI hx hI.wr (Step.refl _ _ _ _) (fun _ _ => rfl) fun c c' key h => ?_
    cases c with
    | fl l => cases h
    | ls kd l =>
      cases h
      exact ⟨.ri kd [], rfl, by rw [hr]; exact ⟨ad, cap, rfl, Nat.zero_le _, rfl, fun h => absurd rfl h⟩, (u234 (V.ri kd) key [] l).symm⟩
  · exact putC_ok hT hD (.inr ho) hI hx hI.wr (Step.refl _ _ _ _) (fun _ _ => rfl) fun c c' key h => put_VG h hvu
end
end Go.Lv
namespace Go.Lv
open Go.RowKit
variable [fr : Fr]
section
variable {P : Program} {tt : TT} {tab : Tab} {σ : St} {a : Act} {w : World} {ρ : Rho} {R : Type}
theorem fn_real {mem : Mem} {g : Nat} {first caps : List V} {r : Value} (h : VR w ρ mem (.fn g first caps) r) :
    ∃ fs cs : List Value, r = .func (.func g) fs.toArray cs.toArray ∧ All2 (VR w ρ mem) first fs ∧ All2 (VR w ρ mem) caps cs := by
  obtain ⟨fs, cs, rfl, h1, h2⟩ := h
  have up : ∀ (v : V) (r : Value), VG w ρ mem v r → VR w ρ mem v r := fun v r h => u080 (u133 (VF_of_VG h))
  exact ⟨fs, cs, rfl, u026 h1 fun x y _ hp => up x y hp, u026 h2 fun x y _ hp => up x y hp⟩
theorem run_enter {o : Oper} {c : Call} (ho : o.op = .call c) {f : Operand} (hc : c.callee = .value f) {g : FuncId} {fs cs : List Value} (hr : a.eval f = .func (.func g) fs.toArray cs.toArray) (hF : FunOK P g) (w : World) :
    (execOp a.eval o).run P w = .ok (.enter g (fs ++ (c.args.map a.eval).toList ++ cs).toArray) w := by
  obtain ⟨fn, code, h1, h2, h3⟩ := hF.ok
  unfold execOp
  simp only [ho, resolve, hc, Sem.run_bind, hr, Deferred.ofValue, Sem.run_pure, Result.andThen_ok, invoke]
  have e : fs.toArray ++ Array.map a.eval c.args ++ cs.toArray = (fs ++ (Array.map a.eval c.args).toList ++ cs).toArray := by
    apply Array.ext'
    simp
  rw [e]
  have hn : fn.name ≠ "runtime.NumGoroutine" := by simpa using h2
  simp [callFunc, h1, hn, h3]
theorem call_ok (hTab : TabOK P tab) {o : Oper} {c : Call} (ho : o.op = .call c) {f : Operand} (hc : c.callee = .value f) {slot : Option Nat} {k : V → Mem → List Nat → Option R} {x : R} (hI : Inv σ a w ρ)
    (hx : opK tt tab slot o σ k = some x) : Does P o a σ w ρ k x ∧ ((∃ g first caps ent, evO σ f = .fn g first caps ∧ look tab g = some ent ∧ ent.loud = .quiet) → DoesQ P o a σ w ρ k x) := by
  unfold opK at hx
  simp only [ho, hc] at hx
  split at hx
  case h_2 => cases hx
  rename_i g first caps he
  have hv := hI.op f
  rw [he] at hv
  obtain ⟨fs, cs, hr, h1, h2⟩ := fn_real hv
  unfold callK at hx
  split at hx
  case h_1 => cases hx
  rename_i ent hent
  split at hx
  case h_1 => cases hx
  rename_i args1 hro
  obtain ⟨hM, hF⟩ := hTab g ent hent
  have hall : All2 (VR w ρ σ.mem) (first ++ u057 σ c.args ++ caps) (fs ++ (c.args.map a.eval).toList ++ cs) := u062 (u062 h1 (hI.ops c.args)) h2
  obtain ⟨v, mem', ks, hk, hq, hcall⟩ := callG_ok fr hI.wr hM hall hro hx
  have hwp : ∀ (K : Act → World → Prop) (Q : Exit → Act → World → Prop), (∀ r w' ρ', VR w' ρ' mem' v r → WR w' ρ' mem' → Step w ρ σ.mem w' ρ' mem' (· ∈ ks) → K (a.put o.dst r) w') → o.wp P a w K Q := fun K Q hK => by
    unfold Oper.wp
    rw [run_enter ho hc hr hF w, Oper.upon_enter]
    exact hcall _ fun r w' ρ' h1 h2 h3 => hK r w' ρ' h1 h2 h3
  refine ⟨⟨v, mem', ks, hk, hwp⟩, fun ⟨g2, first2, caps2, ent2, e1, e2, e3⟩ => ?_⟩
  rw [he] at e1
  cases e1
  rw [hent] at e2
  cases e2
  obtain ⟨rfl, rfl⟩ := hq e3
  exact ⟨v, hk, hwp⟩
theorem u231 (hT : TTok P tt) (hD : 6 ≤ P.depth) (hTab : TabOK P tab) {o : Oper} {slot : Option Nat} {k : V → Mem → List Nat → Option R} {x : R} (hI : Inv σ a w ρ) (hx : opK tt tab slot o σ k = some x) : Does P o a σ w ρ k x := by
  have q : Val P o a σ w ρ k x → Does P o a σ w ρ k x := fun h => (h.doesQ hI).does
  cases ho : o.op with
  | move y => exact q (move_ok (.inl ho) hI hx)
  | assign y => exact q (move_ok (.inr ho) hI hx)
  | pick c y z => exact q (pick_ok ho hI hx)
  | alloc t => exact alloc_ok hT ho hI hx
  | box t y => exact box_ok ho hI hx
  | build t ps => exact q (build_ok hT ho hI hx)
  | buildSlice t n ps => exact buildSlice_ok hT ho hI hx
  | load t y => exact q (load_ok hT ho hI hx)
  | store t y z => exact store_ok hT ho hI hx
  | nilCheck y => exact q (u277 ho hI hx)
  | binOp op t y z t' => exact q (binOp_ok hT hD ho hI hx)
  | unOp op t y => exact q (unOp_ok ho hI hx)
  | convert s d y => exact q (convert_ok hT ho hI hx)
  | makeFunc f y z => exact q (u279 ho hI hx)
  | makeSlice t y z => exact makeSlice_ok hT ho hI hx
  | lookup t y z b => exact q (lookup_ok hT hD ho hI hx)
  | mapUpdate t y z u => exact putK_ok hT hD ho hI hx
  | insert t y z u => exact insK_ok hT hD ho hI hx
  | makeMap t r =>
    cases r with
    | none => exact makeMap_ok ho hI hx
    | some r => unfold opK at hx; simp only [ho] at hx; cases hx
  | slice t y lo hi mx => exact q (slice_ok hT ho hI hx)
  | fieldAddr t y f => exact q (u244 hT ho hI hx)
  | field t y f => exact q (field_ok hT ho hI hx)
  | indexAddr t y z => exact q (u239 hT ho hI hx)
  | index t y z => exact q (index_ok hT ho hI hx)
  | extract y ix => exact q (extract_ok ho hI hx)
  | call c =>
    cases hc : c.callee with
    | value f => exact (call_ok hTab ho hc hI hx).1
    | invoke r m => unfold opK at hx; simp only [ho, hc] at hx; cases hx
    | builtin b =>
      cases b with
      | len => exact q (len_ok hT ho hc hI hx)
      | max => exact q (mm_ok ho (.inl hc) hI hx)
      | min => exact q (mm_ok ho (.inr hc) hI hx)
      | append => exact append_ok hT ho hc hI hx
      | clear => exact clear_ok hT ho hc hI hx
      | cap => exact q (cap_ok hT ho hc hI hx)
      | _ => unfold opK at hx; simp only [ho, hc] at hx; cases hx
  | _ => unfold opK at hx; simp only [ho] at hx; cases hx
theorem op_doesQ (hT : TTok P tt) (hD : 6 ≤ P.depth) (hTab : TabOK P tab) {o : Oper} {slot : Option Nat} {k : V → Mem → List Nat → Option R} {x : R} (hI : Inv σ a w ρ) (hx : opK tt tab slot o σ k = some x) (hc : cls tt tab o = 1) : DoesQ P o a σ w ρ k x := by
  have q : Val P o a σ w ρ k x → DoesQ P o a σ w ρ k x := fun h => h.doesQ hI
  cases ho : o.op with
  | move y => exact q (move_ok (.inl ho) hI hx)
  | assign y => exact q (move_ok (.inr ho) hI hx)
  | pick c y z => exact q (pick_ok ho hI hx)
  | build t ps => exact q (build_ok hT ho hI hx)
  | load t y => exact q (load_ok hT ho hI hx)
  | nilCheck y => exact q (u277 ho hI hx)
  | binOp op t y z t' => exact q (binOp_ok hT hD ho hI hx)
  | unOp op t y => exact q (unOp_ok ho hI hx)
  | convert s d y => exact q (convert_ok hT ho hI hx)
  | makeFunc f y z => exact q (u279 ho hI hx)
  | slice t y lo hi mx => exact q (slice_ok hT ho hI hx)
  | fieldAddr t y f => exact q (u244 hT ho hI hx)
  | field t y f => exact q (field_ok hT ho hI hx)
  | indexAddr t y z => exact q (u239 hT ho hI hx)
  | index t y z => exact q (index_ok hT ho hI hx)
  | extract y ix => exact q (extract_ok ho hI hx)
  | lookup t y z b => exact q (lookup_ok hT hD ho hI hx)
  | call c =>
    cases hcc : c.callee with
    | value f =>
      refine (call_ok hTab ho hcc hI hx).2 ?_
      unfold cls at hc
      simp only [ho, hcc] at hc
      cases f with
      | func g =>
       simp only at hc
       split at hc
       case h_2 => cases hc
       rename_i ent hent
       cases hl : ent.loud <;> rw [hl] at hc <;> first | exact ⟨g, [], [], ent, rfl, hent, hl⟩ | cases hc
      | _ => cases hc
    | invoke r m => unfold opK at hx; simp only [ho, hcc] at hx; cases hx
    | builtin b =>
      cases b with
      | len => exact q (len_ok hT ho hcc hI hx)
      | max => exact q (mm_ok ho (.inl hcc) hI hx)
      | min => exact q (mm_ok ho (.inr hcc) hI hx)
      | _ => unfold cls at hc; simp only [ho, hcc] at hc; cases hc
  | makeMap t r =>
    unfold cls at hc
    simp only [ho] at hc
    cases r <;> cases hc
  | buildSlice t n ps =>
    unfold cls at hc
    simp only [ho] at hc
    cases hn : Nat.beq n 0 <;> rw [hn] at hc
    · simp only [cond_false] at hc
      cases hcb : constB tt t n ps with
      | true =>
        unfold opK at hx
        simp only [ho, hcb, cond_true] at hx
        exact u204 hT ho hI hx
      | false =>
      rw [hcb, cond_false] at hc
      split at hc
      · split at hc <;> cases hc
      · cases hc
    · cases hc
  | _ => unfold cls at hc; simp only [ho] at hc; cases hc
end
end Go.Lv
namespace Go.Lv
open Go.RowKit
variable [fr : Fr]
section
variable {P : Program} {tt : TT} {tab : Tab} {R : Type}
structure Good (w0 : World) (ρ0 : Rho) (mem0 : Mem) (σ : St) (a : Act) (w : World) (ρ : Rho) : Prop where
  inv : Inv σ a w ρ
  step : Step w0 ρ0 mem0 w ρ σ.mem (· ∈ σ.killed)
  np : ρ0.length = σ.np
variable {w0 : World} {ρ0 : Rho} {mem0 : Mem} {σ : St} {a : Act} {w : World} {ρ : Rho}
theorem all2_tset {p : V → Value → Prop} {xs : List V} {ys : List Value} (h : All2 p xs ys) {v : V} {r : Value} (hv : p v r) (d : Nat) : All2 p (tset xs d v) (ys.set d r) := by
  induction h generalizing d with
  | nil => exact .nil
  | cons hp hr ih =>
    cases d with
    | zero => exact .cons hv hr
    | succ d => exact .cons hp (ih d)
theorem put_defers (a : Act) (dst : Option Tmp) (r : Value) : (a.put dst r).defers = a.defers := by cases dst <;> rfl
theorem u264 (σ : St) (mem' : Mem) (ks : List Nat) : (σ.upd mem' ks).mem = mem' := by cases ks <;> rfl
theorem upd_np (σ : St) (mem' : Mem) (ks : List Nat) : (σ.upd mem' ks).np = σ.np := by cases ks <;> rfl
theorem u136 (σ : St) (dst : Option Tmp) (v : V) : (putT σ dst v).mem = σ.mem := by cases dst <;> rfl
theorem putT_np (σ : St) (dst : Option Tmp) (v : V) : (putT σ dst v).np = σ.np := by cases dst <;> rfl
theorem u180 (σ : St) (dst : Option Tmp) (v : V) : (putT σ dst v).killed = σ.killed := by cases dst <;> rfl
theorem Inv.putT (h : Inv σ a w ρ) {v : V} {r : Value} (hv : VR w ρ σ.mem v r) (dst : Option Tmp) : Inv (putT σ dst v) (a.put dst r) w ρ := by
  refine ⟨by rw [put_defers]; exact h.defers, by rw [u136]; exact h.wr, ?_⟩
  rw [u136]
  cases dst with
  | none => exact h.tmps
  | some d =>
    show All2 _ (tset σ.tmps d v) (a.tmps.setIfInBounds d r).toList
    rw [Array.toList_setIfInBounds]
    exact all2_tset h.tmps hv d
theorem Inv.upd (h : Inv σ a w ρ) {w' : World} {ρ' : Rho} {mem' : Mem} {ks : List Nat} (hw : WR w' ρ' mem') (hs : Step w ρ σ.mem w' ρ' mem' (· ∈ ks)) : Inv (σ.upd mem' ks) a w' ρ' := by
  refine ⟨h.defers, by rw [u264]; exact hw, ?_⟩
  rw [u264]
  cases ks with
  | nil => exact u026 h.tmps fun x y _ hp => VR.step hs (fun z _ hz => by cases hz) hp
  | cons k ks => exact u242 (u026 h.tmps fun x y _ hp => killV_step hs hp)
theorem Good.put (h : Good w0 ρ0 mem0 σ a w ρ) {w' : World} {ρ' : Rho} {mem' : Mem} {ks : List Nat} {v : V} {r : Value} (hv : VR w' ρ' mem' v r) (hw : WR w' ρ' mem') (hs : Step w ρ σ.mem w' ρ' mem' (· ∈ ks)) (dst : Option Tmp) :
    Good w0 ρ0 mem0 (Lv.putT (σ.upd mem' ks) dst v) (a.put dst r) w' ρ' := by
  refine ⟨(h.inv.upd hw hs).putT (by rw [u264]; exact hv) dst, ?_, by rw [putT_np, upd_np]; exact h.np⟩
  rw [u136, u264, u180]
  refine h.step.trans hs (fun x hx => ?_) (fun x hx hk => ?_)
  · cases ks with
    | nil => exact hx
    | cons k ks => exact mem_addK.2 (.inl hx)
  · cases ks with
    | nil => cases hk
    | cons k ks => exact mem_addK.2 (.inr ⟨by rw [← h.np]; exact hx, hk⟩)
theorem Good.skip (h : Good w0 ρ0 mem0 σ a w ρ) (dst : Option Tmp) : Good w0 ρ0 mem0 (Lv.putT σ dst .undef) (a.put dst Go.undef) w ρ :=
  ⟨h.inv.putT (show VR w ρ σ.mem .undef Go.undef from rfl) dst, by rw [u136, u180]; exact h.step, by rw [putT_np]; exact h.np⟩
theorem tmp_bool (h : Inv σ a w ρ) {d : Tmp} {b : Bool} (hv : vget σ.tmps d = .bool b) : a.tmps[d]? = some (.bool b) := by
  rcases u194 h.tmps d with ⟨x, y, h1, h2, h3⟩ | ⟨h1, h2⟩
  · rw [u263, h1] at hv
    simp only [Option.getD_some] at hv
    subst hv
    have h3 : y = .bool b := h3
    subst h3
    simpa using h2
  · rw [u263, h1] at hv
    cases hv
theorem tmp_undef (h : Inv σ a w ρ) {d : Tmp} (hv : vget σ.tmps d = .undef) : a.tmps[d]? = some Go.undef := by
  rcases u194 h.tmps d with ⟨x, y, h1, h2, h3⟩ | ⟨h1, h2⟩
  · rw [u263, h1] at hv
    simp only [Option.getD_some] at hv
    subst hv
    have h3 : y = Go.undef := h3
    subst h3
    simpa using h2
  · rw [u263, h1] at hv
    cases hv
theorem guard_ok (h : Inv σ a w ρ) {ops : Array Oper} {o : Oper} {yes no : Option R} {x : R} (hx : u118 ops σ o.guard yes no = some x) :
    (Region.wanted o (yielded ops a.tmps) = true ∧ yes = some x) ∨ (Region.wanted o (yielded ops a.tmps) = false ∧ no = some x) := by
  unfold Region.wanted
  cases hg : o.guard with
  | none => rw [hg] at hx; exact .inl ⟨rfl, hx⟩
  | some g =>
    obtain ⟨j, want⟩ := g
    rw [hg] at hx
    simp only [u118] at hx
    split at hx
    case h_1 => cases hx
    rename_i d hd
    unfold yielded
    simp only [hd, Option.bind_some]
    split at hx
    · rename_i b hb
      rw [tmp_bool h hb]
      cases want <;> cases b <;> simp_all
    · rename_i hb
      rw [tmp_undef h hb]
      exact .inr ⟨rfl, hx⟩
    · cases hx
theorem tset_self (vs : List V) (d : Nat) (v : V) (hv : v ≠ .any) (h : vget vs d = v) : tset vs d v = vs := by
  induction vs generalizing d with
  | nil => rfl
  | cons a r ih =>
    cases d with
    | zero => simp only [vget] at h; rw [← h]; rfl
    | succ d => simp only [tset]; rw [ih d h]
theorem guardR_eq (ops : Array Oper) (σ : St) (g : Option (Nat × Bool)) (yes no : St → Option R) : guardR ops σ g yes no = u118 ops σ g (yes σ) (no σ) := by
  unfold guardR u118
  cases g with
  | none => rfl
  | some g =>
    obtain ⟨j, want⟩ := g
    simp only
    cases hd : (ops[j]?).bind (·.dst) with
    | none => rfl
    | some d =>
      simp only
      cases hv : vget σ.tmps d with
      | bool b =>
        have e := tset_self σ.tmps d (.bool b) (by simp) hv
        simp only
        cases want <;> cases b <;> simp only [cond_true, cond_false] <;> rw [e]
      | _ => rfl
theorem opsK_ok (hT : TTok P tt) (hD : 6 ≤ P.depth) (hTab : TabOK P tab) {ops : Array Oper} : ∀ {l : List Oper} {σ : St} {a : Act} {w : World} {ρ : Rho} {k : St → Option R} {x : R}, opsK tt tab ops l σ k = some x → Good w0 ρ0 mem0 σ a w ρ →
    ∀ (Q : Exit → Act → World → Prop), (∀ σ' a' w' ρ', Good w0 ρ0 mem0 σ' a' w' ρ' → k σ' = some x → Q .normal a' w') → wpList P ops Q l a w := by
  intro l
  induction l with
  | nil => intro σ a w ρ k x hx hG Q hQ; exact hQ σ a w ρ hG hx
  | cons o l ih =>
    intro σ a w ρ k x hx hG Q hQ
    simp only [opsK] at hx
    rw [guardR_eq] at hx
    unfold wpList
    rcases guard_ok hG.inv hx with ⟨hw, hx⟩ | ⟨hw, hx⟩
    · rw [if_pos hw]
      obtain ⟨v, mem', ks, hk, hwp⟩ := u231 hT hD hTab hG.inv hx
      exact .inl (hwp _ _ fun r w' ρ' h1 h2 h3 => ih hk (hG.put h1 h2 h3 o.dst) Q hQ)
    · rw [if_neg (by rw [hw]; simp)]
      exact ih hx (hG.skip o.dst) Q hQ
def Post (w0 : World) (ρ0 : Rho) (mem0 : Mem) (k : Out → Option R) (x : R) : Exit → Act → World → Prop := fun e a w =>
  ∃ σ ρ, Good w0 ρ0 mem0 σ a w ρ ∧ match e with
    | .normal => k (.norm σ) = some x
    | .exit id => k (.exit id σ) = some x
    | .ret => k (.ret σ) = some x
    | _ => False
end
end Go.Lv
namespace Go.Lv
variable [fr : Fr]
section
variable {tt : TT} {tab : Tab} {R : Type}
theorem u152 {σ σ' : St} (xs : Array Operand) (h : ∀ x ∈ xs, evO σ x = evO σ' x) : u057 σ xs = u057 σ' xs := by
  unfold u057
  exact List.map_congr_left fun x hx => h x (by simpa using hx)
theorem u275 {σ σ' : St} (ps : Array (Nat × Operand)) (h : ∀ x ∈ ps.map (·.2), evO σ x = evO σ' x) : (ps.toList.map fun (i, x) => (i, evO σ x)) = ps.toList.map fun (i, x) => (i, evO σ' x) := by
  refine List.map_congr_left fun p hp => ?_
  obtain ⟨i, x⟩ := p
  simp only [h x (Array.mem_map.2 ⟨(i, x), by simpa using hp, rfl⟩)]
theorem u126 {σ σ' : St} (slot : Option Nat) (o : Oper) (h : ∀ x ∈ o.op.operands, evO σ x = evO σ' x) (hm : σ.mem = σ'.mem) (k : V → Mem → List Nat → Option R) : opK tt tab slot o σ k = opK tt tab slot o σ' k := by
  obtain ⟨dst, op, type, pos, after, guard⟩ := o
  cases op <;> simp only [Op.operands] at h <;> simp only [opK]
  case build t ps => rw [u275 ps fun x hx => h x (by simpa using hx), hm]
  case buildSlice t n ps => rw [u275 ps fun x hx => h x (by simpa using hx), hm]
  case makeFunc fn first captured =>
    cases fn <;> try rfl
    simp only
    rw [u152 first fun x hx => h x (by simp [hx]), u152 captured fun x hx => h x (by simp [hx]), hm]
  case call c =>
    have ha : u057 σ c.args = u057 σ' c.args := u152 c.args fun x hx => h x (by simp [Call.operands, hx])
    rw [ha, hm]
    cases hc : c.callee with
    | value f => simp only; rw [h f (by simp [Call.operands, hc])]
    | builtin b => cases b <;> rfl
    | invoke r m => rfl
  case makeMap t r => cases r <;> simp_all
  case makeSlice t y z =>
    cases y with
    | tmp i => cases z with
      | tmp j =>
        have h1 : vget σ.tmps i = vget σ'.tmps i := h (.tmp i) (by simp)
        simp only [h1, hm]
      | _ => rfl
    | _ => rfl
  case slice t x lo hi mx => cases lo <;> cases hi <;> cases mx <;> simp_all
  all_goals (first | rfl | (simp_all; done))
def Sub (m M : Mem) : Prop := ∀ h, (mget m h).live = true → mget M h = mget m h
theorem Sub.at {m M : Mem} (hS : Sub m M) {h : Nat} {b : Blk} (hm : mget m h = b) (hl : b.live = true) : mget M h = b := by
  rw [hS h (by rw [hm]; exact hl), hm]
theorem view_mono {m M : Mem} (hS : Sub m M) {v c : V} (h : v.view m = some c) : v.view M = some c := by
  cases v with
  | sl hd o n =>
    simp only [V.view] at h ⊢
    split at h
    · rename_i hm
      rw [hS.at hm rfl]; exact h
    · cases h
  | asl hd o s n =>
    simp only [V.view] at h ⊢
    split at h
    · rename_i hm
      rw [hS.at hm rfl]; exact h
    · cases h
  | _ => exact h
theorem roArgs_cons (mem : Mem) (v : V) (r : List V) (own : List Bool) : u107 mem (v :: r) own = bif own.headD false then (u107 mem r own.tail).map (v :: ·) else
    match v with
    | .sl .. | .asl .. => match v.view mem with
      | some c => bif c.okRo then (u107 mem r own.tail).map (c :: ·) else none
      | none => none
    | _ => (u107 mem r own.tail).map (v :: ·) := by
  cases v <;> rfl
theorem u271 {m M : Mem} (hS : Sub m M) : ∀ {args args1 : List V} {own : List Bool}, u107 m args own = some args1 → u107 M args own = some args1 := by
  intro args
  induction args with
  | nil => intro args1 own h; exact h
  | cons v r ih =>
    intro args1 own h
    rw [roArgs_cons] at h ⊢
    have step : ∀ {u : V} {as : List V}, (u107 m r own.tail).map (u :: ·) = some as → (u107 M r own.tail).map (u :: ·) = some as := fun {u as} h => by
      simp only [Option.map_eq_some_iff] at h ⊢
      obtain ⟨x, h1, h2⟩ := h
      exact ⟨x, ih h1, h2⟩
    cases hb : own.headD false with
    | true => rw [hb] at h; exact step h
    | false =>
      rw [hb] at h
      simp only [cond_false] at h ⊢
      have slc : ∀ w : V, (match w.view m with
          | some c => bif c.okRo then (u107 m r own.tail).map (c :: ·) else none
          | none => none) = some args1 → (match w.view M with
          | some c => bif c.okRo then (u107 M r own.tail).map (c :: ·) else none
          | none => none) = some args1 := fun w h => by
        split at h
        · rename_i c hc
          rw [view_mono hS hc]
          obtain ⟨h1, h2⟩ := u006 h
          simp only [h1, cond_true]
          exact step h2
        · cases h
      cases v with
      | sl hd o n => exact slc _ h
      | asl hd o s n => exact slc _ h
      | _ => exact step h
theorem mem_dedup {l : List Nat} {x : Nat} (h : x ∈ l) : x ∈ dedup l := by
  induction l with
  | nil => cases h
  | cons a r ih =>
    simp only [dedup]
    cases hm : memb a r with
    | true =>
      have := (memb_iff (n := a) (l := r)).1 hm
      cases h with
      | head => exact ih this
      | tail _ h => exact ih h
    | false =>
      cases h with
      | head => simp
      | tail _ h => simp [ih h]
theorem u240 {m : Mem} {hs : List Nat} {x : Nat} (h : x ∈ hs) : x ∈ hsMore m hs := mem_dedup (List.mem_append_left _ h)
theorem hsMore_eq {m M : Mem} (hS : Sub m M) {hs : List Nat} (hl : ∀ h ∈ hs, (mget m h).live = true) : hsMore M hs = hsMore m hs := by
  unfold hsMore
  congr 2
  have : ∀ (l : List Nat), (∀ h ∈ l, (mget m h).live = true) → (l.flatMap fun h => (mget M h).hs) = l.flatMap fun h => (mget m h).hs := by
    intro l
    induction l with
    | nil => intro _; rfl
    | cons a r ih =>
      intro hl
      rw [List.flatMap_cons, List.flatMap_cons, ih fun h hh => hl h (by simp [hh]), hS a (hl a (by simp))]
  exact this hs hl
theorem hsOf_mono {m M : Mem} (hS : Sub m M) {args1 : List V} (hl : ∀ h ∈ hsOf m args1, (mget m h).live = true) : hsOf M args1 = hsOf m args1 := by
  unfold hsOf at *
  rw [hsMore_eq hS fun h hh => hl h (u240 (u240 hh)), hsMore_eq hS fun h hh => hl h (u240 hh)]
theorem okHs_mono {m M : Mem} (hS : Sub m M) {args1 : List V} {hs pub : List Nat} (h : okHs m args1 hs pub = true) : okHs M args1 hs pub = true ∧ ∀ x ∈ hs, mget M x = mget m x := by
  have hl := (u165 h).2.1
  refine ⟨?_, fun x hx => hS x (hl x hx)⟩
  rw [← h]
  unfold okHs
  congr 3
  rw [Bool.eq_iff_iff, List.all_eq_true, List.all_eq_true]
  constructor
  · intro h2 x hx
    have := h2 x hx
    rwa [hS x (hl x hx)] at this
  · intro h2 x hx
    have := h2 x hx
    rwa [hS x (hl x hx)]
theorem blocks_eq {m M : Mem} {hs : List Nat} (h : ∀ x ∈ hs, mget M x = mget m x) : (hs.map fun h => (mget M h).ren (dnH hs)) = hs.map fun h => (mget m h).ren (dnH hs) :=
  List.map_congr_left fun x hx => by rw [h x hx]
theorem callK_quiet {m M : Mem} (hS : Sub m M) {f : FuncId} {ent : Ent} (he : look tab f = some ent) (hq : ent.loud = .quiet) {args : List V} {k : V → Option R} {x : R}
    (h : callK tab f args m (fun v _ _ => k v) = some x) : callK tab f args M (fun v _ _ => k v) = some x := by
  unfold callK at h ⊢
  simp only [he] at h ⊢
  split at h
  case h_1 => cases h
  rename_i args1 hro
  rw [u271 hS hro]
  show callG ent (lent args ent.own) (hsOf M args1) args1 M (fun v _ _ => k v) = some x
  unfold callG at h ⊢
  obtain ⟨hok, h⟩ := u006 h
  have hhs := hsOf_mono hS (u165 hok).2.1
  obtain ⟨h1, h2⟩ := okHs_mono hS hok
  rw [hhs, h1]
  simp only [cond_true]
  rw [blocks_eq h2]
  simp only [hq] at h ⊢
  split at h
  · cases h
  rename_i c ret hg
  obtain ⟨h3, h⟩ := u051 h
  rw [h3]
  simp only [cond_false]
  obtain ⟨h4, h⟩ := u006 h
  rw [h4]
  simp only [cond_true]
  have e : ∀ (b1 b2 b3 : Bool) (y : Option R), (bif b1 then y else bif b2 then (none : Option R) else none) = some x → (bif b1 then y else bif b3 then (none : Option R) else none) = some x := by
    intro b1 b2 b3 y hy
    cases b1
    · cases b2 <;> cases hy
    · exact hy
  exact e _ _ _ _ h
theorem u075 (σ : St) (m : Mem) (a : Operand) : evO { σ with mem := m } a = evO σ a := rfl
theorem u116 (σ : St) (m : Mem) (xs : Array Operand) : u057 { σ with mem := m } xs = u057 σ xs := rfl
theorem okCap_mono {m M : Mem} (hS : Sub m M) {v : V} (h : okCap m v = true) : okCap M v = true := by
  cases v with
  | ptr hd i o s =>
    simp only [okCap] at h ⊢
    split at h
    · rename_i hm; rw [hS.at hm rfl]
    · cases h
  | _ => exact h
theorem sliceK_mono {m M : Mem} (hS : Sub m M) {t : TypeId} {v : V} {lo hi mx : Option V} {k : V → Option R} {x : R} (h : sliceK tt m t v lo hi mx k = some x) : sliceK tt M t v lo hi mx k = some x := by
  unfold sliceK at h ⊢
  split at h
  · exact h
  · split at h
    · split at h
      · split at h
        · split at h
          · rename_i hm; rw [hS.at hm rfl]; exact h
          · cases h
        all_goals exact h
      · cases h
    · split at h
      · split at h
        · split at h
          · rename_i hm; rw [hS.at hm rfl]; exact h
          · cases h
        · cases h
      · cases h
    · cases h
theorem op_mono1 {m M : Mem} (hS : Sub m M) {σ : St} {o : Oper} (hc : cls tt tab o = 1) {k : V → Option R} {x : R} (h : opK tt tab none o { σ with mem := m } (fun v _ _ => k v) = some x) :
    opK tt tab none o { σ with mem := M } (fun v _ _ => k v) = some x := by
  obtain ⟨dst, op, type, pos, after, guard⟩ := o
  cases op
  case load t a =>
    simp only [opK] at h ⊢
    split at h
    case h_2 => cases h
    split at h
    · rename_i ha
      have ha' : evO { σ with mem := M } a = evO { σ with mem := m } a := by cases a <;> rfl
      rw [ha', ha]
      simp only
      obtain ⟨hb, h⟩ := u006 h
      rw [hb]
      simp only [cond_true]
      split at h
      · rename_i hm; rw [hS.at hm rfl]; exact h
      · rename_i hm; rw [hS.at hm rfl]; exact h
      · cases h
    · rename_i ha
      have ha' : evO { σ with mem := M } a = evO { σ with mem := m } a := by cases a <;> rfl
      rw [ha', ha]
      exact h
    · cases h
  case indexAddr t a b =>
    simp only [opK, u075] at h ⊢
    unfold addrK at h ⊢
    split at h
    · rename_i hl
      exact h
    · split at h
      · split at h
        · split at h
          · rename_i hm; rw [hS.at hm rfl]; exact h
          · cases h
        all_goals exact h
      · cases h
    · cases h
  case makeFunc fn a b =>
    cases fn <;> simp only [opK, u116] at h ⊢
    case func f =>
      obtain ⟨h1, h⟩ := u006 h
      simp only [Bool.and_eq_true, List.all_eq_true] at h1
      have : ((u057 σ a).all (okCap M) && (u057 σ b).all (okCap M)) = true := by
        simp only [Bool.and_eq_true, List.all_eq_true]
        exact ⟨fun x hx => okCap_mono hS (h1.1 x hx), fun x hx => okCap_mono hS (h1.2 x hx)⟩
      rw [this]
      exact h
    all_goals cases h
  case slice t a lo hi mx =>
    exact sliceK_mono hS h
  case call c =>
    simp only [opK, u116, u075] at h ⊢
    cases hcc : c.callee with
    | value f =>
      rw [hcc] at h
      simp only at h ⊢
      unfold cls at hc
      simp only [hcc] at hc
      cases f with
      | func g =>
        simp only at hc
        split at hc
        case h_2 => cases hc
        rename_i ent hent
        have hq : ent.loud = .quiet := by
          cases hl : ent.loud <;> rw [hl] at hc <;> first | rfl | cases hc
        exact callK_quiet hS hent hq h
      | _ => cases hc
    | invoke r m => rw [hcc] at h; cases h
    | builtin b =>
      rw [hcc] at h
      cases b with
      | len =>
        simp only at h ⊢
        split at h
        · split at h
          · exact h
          · exact h
          · split at h
            · split at h
              · rename_i hm; rw [hS.at hm rfl]; exact h
              · cases h
            · cases h
          · cases h
        · cases h
      | max => exact h
      | min => exact h
      | _ => unfold cls at hc; simp only [hcc] at hc; cases hc
  case makeMap t r => cases r <;> (unfold cls at hc; cases hc)
  case buildSlice t n ps =>
    unfold cls at hc
    simp only at hc
    cases hn : Nat.beq n 0 <;> rw [hn] at hc
    · simp only [cond_false] at hc
      cases hcb : constB tt t n ps with
      | true =>
        simp only [opK, hcb, cond_true, u075] at h ⊢
        exact h
      | false =>
      rw [hcb, cond_false] at hc
      split at hc
      · split at hc <;> cases hc
      · cases hc
    · cases hc
  case lookup t a b ok =>
    simp only [opK, u075] at h ⊢
    split at h
    case h_2 => cases h
    split at h
    case h_2 => cases h
    split at h
    case h_2 => cases h
    have h1 := (u006 h).1
    replace h := (u006 h).2
    simp only [h1, cond_true]
    split at h
    · rename_i hm; rw [hS.at hm rfl]; exact h
    · cases h
  all_goals first | exact h | (unfold cls at hc; cases hc; done)
end
end Go.Lv
