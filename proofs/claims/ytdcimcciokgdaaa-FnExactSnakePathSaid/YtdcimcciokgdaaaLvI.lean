/-
The operations of the abstract machine, sound: literals of slices, append.
-/
import Derived.Test.YtdcimcciokgdaaaLvH
namespace Go.Lv
open Go.RowKit
set_option linter.unusedVariables false
set_option linter.unusedSimpArgs false
set_option linter.unusedSectionVars false
variable [fr : Fr]

section
variable {P : Program} {tt : TT} {tab : Tab} {σ : St} {a : Act} {w : World} {ρ : Rho} {R : Type}

/-! ### contents, one behind the other -/
theorem cat_ok {mem : Mem} {c c1 c2 : V} {rs rs1 : List Value} (hc : CR w ρ mem c rs) (hc1 : CR w ρ mem c1 rs1) (h : c.cat c1 = some c2) :
    CR w ρ mem c2 (rs ++ rs1) ∧ c2.cnt = c.cnt + c1.cnt ∧ c2.wd = c.wd ∧ c2.wd = c1.wd := by
  unfold V.cat at h
  split at h
  · rename_i k xs k' ys
    obtain ⟨hkk, h2⟩ := decide_kind h
    subst hkk
    clear h
    simp only [Option.some.injEq] at h2
    subst h2
    have hc : rs = iv k xs := hc
    have hc1 : rs1 = iv k ys := hc1
    subst hc; subst hc1
    exact ⟨by show iv k xs ++ iv k ys = iv k (xs ++ ys); simp [iv], by simp [V.cnt], rfl, rfl⟩
  · rename_i xs ys
    cases h
    have hc : rs = bv xs := hc
    have hc1 : rs1 = bv ys := hc1
    subst hc; subst hc1
    exact ⟨by show bv xs ++ bv ys = bv (xs ++ ys); simp [bv], by simp [V.cnt], rfl, rfl⟩
  · rename_i m xs m' ys
    obtain ⟨hb, h⟩ := cond_none h
    cases h
    have hb := beq_eq' hb
    subst hb
    obtain ⟨h1, rfl⟩ := hc
    obtain ⟨h2, rfl⟩ := hc1
    refine ⟨⟨⟨h1.1, fun x hx => ?_⟩, by simp [iv]⟩, by simp [V.cnt], rfl, rfl⟩
    rcases List.mem_append.1 hx with hx | hx
    · exact h1.2 x hx
    · exact h2.2 x hx
  · rename_i xs ys
    cases h
    exact ⟨all2_append hc hc1, by simp [V.cnt], rfl, rfl⟩
  · exact hc.elim
  · exact hc.elim
  · exact hc1.elim
  · cases h

theorem one_ok {mem : Mem} {v c : V} {r : Value} (hv : VR w ρ mem v r) (h : v.one = some c) (hpos : 0 < c.wd) : ∃ rs, CellsOf r rs c.wd ∧ CR w ρ mem c rs ∧ c.cnt = 1 := by
  unfold V.one at h
  split at h
  · rename_i k n
    cases h
    have hv : r = .int k n := hv
    subst hv
    exact ⟨[.int k n], cells_one (v := .int k n) (w := w) (ρ := ρ) (mem := mem) rfl, rfl, rfl⟩
  · rename_i b
    cases h
    have hv : r = .bool b := hv
    subst hv
    exact ⟨[.bool b], cells_one (v := .bool b) (w := w) (ρ := ρ) (mem := mem) rfl, rfl, rfl⟩
  · rename_i m xs
    cases h
    obtain ⟨hl, rfl⟩ := VR_ints hv
    exact ⟨iv .i64 xs, cells_iv xs m hl, ⟨⟨hpos, fun x hx => by simp only [List.mem_singleton] at hx; subst hx; exact hl⟩, by simp⟩, rfl⟩
  · obtain ⟨hb, h⟩ := cond_none h
    cases h
    have hvf := VF_flat hv hb
    exact ⟨[r], cells_one hvf, .cons hvf .nil, rfl⟩

theorem one_wd {v c : V} (h : v.one = some c) (c0 c2 : V) (hcat : c0.cat c = some c2) (h0 : c0 ≠ .z0) : c2.wd = c0.wd ∧ c.wd = c0.wd := by
  unfold V.cat at hcat
  split at hcat
  · obtain ⟨_, h2⟩ := decide_kind hcat
    simp only [Option.some.injEq] at h2
    subst h2
    exact ⟨rfl, rfl⟩
  · cases hcat; exact ⟨rfl, rfl⟩
  · obtain ⟨hb, h2⟩ := cond_none hcat
    cases h2
    exact ⟨rfl, (beq_eq' hb).symm⟩
  · cases hcat; exact ⟨rfl, rfl⟩
  · cases hcat
  · exact absurd rfl h0
  · unfold V.one at h
    split at h <;> first | cases h | (obtain ⟨_, h⟩ := cond_none h; cases h)
  · cases hcat

theorem cat_z0 {c c1 : V} {c2 : V} (h : c.cat c1 = some c2) (h0 : c ≠ .z0) : c2 ≠ .z0 := by
  unfold V.cat at h
  split at h
  · obtain ⟨_, h2⟩ := decide_kind h
    simp only [Option.some.injEq] at h2
    subst h2; simp
  · cases h; simp
  · obtain ⟨_, h2⟩ := cond_none h; cases h2; simp
  · cases h; simp
  · cases h
  · exact absurd rfl h0
  · cases h; exact h0
  · cases h

theorem buildSl_wd : ∀ {ps : List (Nat × V)} {c c' : V}, buildSl c ps = some c' → c ≠ .z0 → c'.wd = c.wd := by
  intro ps
  induction ps with
  | nil => intro c c' h _; simp only [buildSl, Option.some.injEq] at h; rw [h]
  | cons p ps ih =>
    intro c c' h h0
    obtain ⟨i, v⟩ := p
    simp only [buildSl] at h
    obtain ⟨_, h⟩ := cond_none h
    split at h
    case h_2 => cases h
    rename_i c1 h1
    split at h
    case h_2 => cases h
    rename_i c2 h2
    rw [ih h (cat_z0 h2 h0), (one_wd h1 _ _ h2 h0).1]

theorem mt_ne {z m : V} (h : z.mt = some m) : m ≠ .z0 ∧ m.cnt = 0 := by
  unfold V.mt at h
  split at h <;> first | (cases h; exact ⟨by simp, rfl⟩) | cases h
theorem mt_CR {mem : Mem} {z m : V} (h : z.mt = some m) (hpos : 0 < m.wd) : CR w ρ mem m [] := by
  unfold V.mt at h
  split at h
  · cases h; rfl
  · cases h; rfl
  · cases h; exact ⟨⟨hpos, fun x hx => by cases hx⟩, rfl⟩
  · cases h; exact .nil
  · cases h; exact .nil
  · cases h

theorem splice_fill {α : Type} (rs ys zs : List α) (s : Nat) (hy : ys.length = s) (hz : s ≤ zs.length) : splice (rs ++ zs) rs.length ys s = (rs ++ ys) ++ zs.drop s := by
  unfold splice
  rw [List.take_left, List.drop_length_add_append]

theorem buildSl_ok (hI : Inv σ a w ρ) (s : Nat) (hs : 0 < s) : ∀ {ps : List (Nat × Operand)} {c c' : V} {rs zs : List Value}, buildSl c (ps.map fun (i, x) => (i, evO σ x)) = some c' → c ≠ .z0 → c.wd = s →
    CR w ρ σ.mem c rs → (c'.cnt - c.cnt) * s ≤ zs.length →
    ∃ rs', Instr.fill (fun i => some (i * s, s)) (rs ++ zs).toArray (ps.map fun (i, x) => (i, a.eval x)) = some (rs' ++ zs.drop ((c'.cnt - c.cnt) * s)).toArray ∧ CR w ρ σ.mem c' rs' ∧ c.cnt ≤ c'.cnt := by
  intro ps
  induction ps with
  | nil =>
    intro c c' rs zs h _ _ hc _
    simp only [List.map_nil, buildSl, Option.some.injEq] at h
    subst h
    exact ⟨rs, by simp [Instr.fill], hc, Nat.le_refl _⟩
  | cons p ps ih =>
    intro c c' rs zs h h0 hwd hc hz
    obtain ⟨i, y⟩ := p
    simp only [List.map_cons, buildSl] at h
    obtain ⟨hb, h⟩ := cond_none h
    have hb := beq_eq' hb
    split at h
    case h_2 => cases h
    rename_i c1 h1
    split at h
    case h_2 => cases h
    rename_i c2 h2
    obtain ⟨e1, e2⟩ := one_wd h1 _ _ h2 h0
    obtain ⟨rs1, hcells, hc1, hcnt1⟩ := one_ok (hI.op y) h1 (by omega)
    obtain ⟨hc2, hcnt2, _, _⟩ := cat_ok hc hc1 h2
    have hlen := CR_len hc
    rw [hwd] at hlen
    obtain ⟨_, _, _, hle⟩ := ih (zs := List.replicate ((c'.cnt - c2.cnt) * s) Go.undef) h (cat_z0 h2 h0) (by omega) hc2 (by simp)
    have hmul : (c'.cnt - c.cnt) * s = s + (c'.cnt - c2.cnt) * s := by
      rw [show c'.cnt - c.cnt = 1 + (c'.cnt - c2.cnt) by omega, Nat.add_mul, Nat.one_mul]
    rw [hmul] at hz
    obtain ⟨rs', hf, hcr, _⟩ := ih (zs := zs.drop s) h (cat_z0 h2 h0) (by omega) hc2 (by rw [List.length_drop]; omega)
    have hr1 : rs1.length = s := by rw [hcells.2.1, e2, hwd]
    refine ⟨rs', ?_, hcr, by omega⟩
    simp only [List.map_cons]
    rw [fill_step (vs := rs1) hcells.1 hr1 (off := i * s) (by rw [hb]; simp; omega) rfl, hb, ← hlen]
    rw [splice_fill _ _ _ _ hr1 (by omega), hf, List.drop_drop, hmul]

theorem size_range_map {n : Nat} (f : Nat → Value) : ((Array.range n).map f).toList.length = n := by simp

theorem run_buildSlice {t e : TypeId} {i : TypeInfo} {z : Value} (hu : P.underlying t = some (.slice e)) (hi : P.info? e = some i) (hz : i.zero = some z) {len : Nat} {parts : Array (Nat × Value)} (hsmall : len * i.size ≤ 16777216) :
    ∃ zs : List Value, zs.length = len * i.size ∧ ∀ cells, Instr.fill (fun j => some (j * i.size, i.size)) zs.toArray parts.toList = some cells →
    (Instr.buildSlice t len parts).run P w = .ok (.slice (some ⟨w.heap.size, 0, none⟩) len len) (w.alloc (.cells cells e)) := by
  have h24 : ¬ (len * i.size > 2 ^ 24) := by simp; omega
  by_cases h0 : len * i.size = 0
  · refine ⟨((Array.range (len * i.size)).map fun x => (#[] : Array Value)[x % (#[] : Array Value).size]!).toList, by simp, fun cells this => ?_⟩
    unfold Instr.buildSlice
    simp only [Sem.run_bind, run_underlying hu, Result.andThen_ok, run_sizeOf hi, h24, if_false]
    rw [h0] at this
    rw [Array.toArray_toList] at this
    simp only [h0, if_true]
    rw [Sem.run_bind]
    simp only [Sem.run_pure, Result.andThen_ok, this]
    rfl
  · refine ⟨((Array.range (len * i.size)).map fun x => z.cells[x % z.cells.size]!).toList, by simp, fun cells this => ?_⟩
    unfold Instr.buildSlice
    simp only [Sem.run_bind, run_underlying hu, Result.andThen_ok, run_sizeOf hi, h24, if_false]
    rw [Array.toArray_toList] at this
    simp only [h0, if_false, Sem.run_bind, run_zeroValue hi hz, Sem.run_pure, Result.andThen_ok, this]
    rfl

theorem buildSlice_ok (hT : TTok P tt) {o : Oper} {t : TypeId} {len : Nat} {parts : Array (Nat × Operand)} (ho : o.op = .buildSlice t len parts) {slot : Option Nat} {k : V → Mem → List Nat → Option R} {x : R} (hI : Inv σ a w ρ)
    (hx : opK tt tab slot o σ k = some x) : Does P o a σ w ρ k x := by
  unfold opK at hx
  simp only [ho] at hx
  split at hx
  case h_2 => cases hx
  rename_i e s0 b0 zz hl
  have hu : P.underlying t = some (.slice e) := (hT _ _ hl).desc
  split at hx
  case h_2 => cases hx
  rename_i te hle
  obtain ⟨⟨i, hi, hsz, _, zv, hzv, hz⟩, _, _, hpos⟩ := hT _ _ hle
  split at hx
  case h_2 => cases hx
  rename_i m hm
  split at hx
  case h_2 => cases hx
  rename_i c hc
  obtain ⟨hb, hx⟩ := cond_none hx
  simp only [Bool.and_eq_true] at hb
  have h1 := beq_eq' hb.1.1
  have h2 := beq_eq' hb.1.2
  have h3 := Nat.le_of_ble_eq_true hb.2
  obtain ⟨hm0, hmc⟩ := mt_ne hm
  have hwd : m.wd = te.size := by rw [← buildSl_wd hc hm0]; exact h2
  have key : ∀ zs : List Value, zs.length = len * i.size → ∃ rs', Instr.fill (fun j => some (j * i.size, i.size)) zs.toArray (parts.toList.map fun (i, x) => (i, a.eval x)) = some rs'.toArray ∧ CR w ρ σ.mem c rs' := fun zs hzs => by
    obtain ⟨rs', hf, hcr, _⟩ := buildSl_ok hI te.size hpos (rs := []) (zs := zs) hc hm0 hwd (mt_CR hm (by omega)) (by rw [hmc, h1, Nat.sub_zero, hzs, hsz]; exact Nat.le_refl _)
    refine ⟨rs', ?_, hcr⟩
    rw [hsz]
    simp only [List.nil_append] at hf
    rw [hf, hmc, h1, Nat.sub_zero, ← hsz, ← hzs, List.drop_length, List.append_nil]
  obtain ⟨zs, hzs, hrunz⟩ := run_buildSlice (P := P) (w := w) (t := t) (len := len) (parts := parts.map fun (i, x) => (i, a.eval x)) hu hi hzv (by rw [hsz]; exact h3)
  obtain ⟨rs', hf0, hcr⟩ := key zs hzs
  have hlen := CR_len hcr
  rw [h1, h2] at hlen
  have hrun := hrunz _ (by simpa using hf0)
  obtain ⟨h', mem', ρ', hk, hwr, hst, hρ, hmg⟩ := newB_ok hI.wr hx (w' := w.alloc (.cells rs'.toArray e)) (rl := .vec (some ⟨w.heap.size, 0, none⟩) len) (by simp) rfl rfl rfl heap_new
    (fun r' hr' => by
      simp only [Rl.blk] at hr'
      split at hr'
      · cases hr'
      · simp only [Option.map_some, Option.some.injEq] at hr'; omega)
    (fun ρ' mem' hs => ⟨_, _, rfl, by omega, by
      by_cases h0 : len = 0
      · refine .inl ⟨h0, ?_⟩
        have : rs' = [] := List.eq_nil_of_length_eq_zero (by rw [hlen, h0, Nat.zero_mul])
        subst this
        exact CR_mono hcr hs (fun _ _ _ _ h => h)
      · refine .inr ⟨w.heap.size, rs'.toArray, by omega, rfl, heap_alloc_new w _, ?_, by simp [hlen, h2], ?_⟩
        · have : len ≤ len * te.size := Nat.le_mul_of_pos_right _ hpos
          simp only [Go.maxLen]
          omega
        · rw [h1, h2, ← hlen]
          simp only [List.take_length]
          exact CR_mono hcr hs (fun _ _ _ _ h => h)⟩)
  refine Does.of_run hk (.inl ?_) ⟨e, c, _, len, hmg, hρ, by omega, .inl ⟨rfl, rfl⟩⟩ hwr (hst.weak fun _ h => h.elim)
  unfold execOp
  simp only [ho]
  rw [Sem.run_bind, hrun]
  rfl

/-! ### append -/
/-- the cells that a slice shows -/
def Shows (w : World) (ρ : Rho) (mem : Mem) (ys : V) (r : Value) (rs : List Value) (m wd : Nat) : Prop :=
  ∃ ad cap, r = .slice ad m cap ∧ m ≤ cap ∧ rs.length = m * wd ∧ ((ys = .z0 ∧ m = 0 ∧ rs = []) ∨ (CR w ρ mem ys rs ∧ ys.cnt = m ∧ ys.wd = wd)) ∧
    (m ≠ 0 → ∃ b o, ad = some ⟨b, o, none⟩ ∧ ∀ j u, rs[j]? = some u → w.cell? ⟨b, o + j, none⟩ = some u)

theorem chunks_flatten (xs : List Int) (s : Nat) : ∀ (n o : Nat), (chunks xs o s n).flatten = sub xs o (n * s)
  | 0, o => by simp [chunks, sub]
  | n + 1, o => by
    rw [chunks, List.flatten_cons, chunks_flatten xs s n (o + s), Nat.add_mul, Nat.one_mul, Nat.add_comm (n * s) s, sub_add]
theorem chunks_len (xs : List Int) (s : Nat) : ∀ (n o : Nat), (chunks xs o s n).length = n
  | 0, o => rfl
  | n + 1, o => by simp [chunks, chunks_len xs s n]
theorem chunks_rows (xs : List Int) (s : Nat) : ∀ (n o : Nat), o + n * s ≤ xs.length → ∀ ys ∈ chunks xs o s n, ys.length = s
  | 0, o, _, ys, h => by cases h
  | n + 1, o, ho, ys, h => by
    rw [Nat.add_mul, Nat.one_mul] at ho
    simp only [chunks, List.mem_cons] at h
    rcases h with rfl | h
    · exact sub_length _ _ _ (by omega)
    · exact chunks_rows xs s n (o + s) (by omega) ys h

theorem RoR_shows {mem : Mem} {ys : V} {rs : List Value} {r : Value} (hc : CR w ρ mem ys rs) (hr : RoR w ρ mem rs ys.wd ys.cnt r) : Shows w ρ mem ys r rs ys.cnt ys.wd := by
  obtain ⟨ad, cap, rfl, hnc, hlen, hcell⟩ := hr
  refine ⟨ad, cap, rfl, hnc, hlen, .inr ⟨hc, rfl, rfl⟩, fun hn => ?_⟩
  obtain ⟨b, o, h1, _, _, h2⟩ := hcell hn
  exact ⟨b, o, h1, h2⟩

theorem view_ok {mem : Mem} (hw : WR w ρ mem) {v ys : V} {r : Value} (hv : VR w ρ mem v r) (h : v.view mem = some ys) : ∃ rs m, Shows w ρ mem ys r rs m ys.wd := by
  cases v with
  | sl hd off n =>
    simp only [V.view] at h
    split at h
    · rename_i e c hm
      cases h
      obtain ⟨rs, ad, cap, rl, rfl, hnc, hcr, hcnt, hwd, hlen, hρ, hcell⟩ := sl_shows hw hv hm
      refine ⟨rs, n, ad, cap, rfl, hnc, by rw [hwd]; exact hlen, .inr ⟨hcr, hcnt, rfl⟩, fun hn => ?_⟩
      obtain ⟨b, o, h1, _, _, h2⟩ := hcell hn
      exact ⟨b, o, h1, h2⟩
    · cases h
  | asl hd o s n =>
    simp only [V.view] at h
    split at h
    · rename_i m xs hm
      obtain ⟨m', c, b, hm', hρ, hle, hs, a', cap', rfl, hnc, ha'⟩ := hv
      rw [hm] at hm'
      cases hm'
      obtain ⟨r', e, rs, hrl, hb, hlen, hcr, hwd⟩ : BlkR w ρ mem (.var m (.ri .i64 xs)) (.var b) := by
        have := hw.blk hd _ hρ
        rwa [hm] at this
      cases hrl
      have hcr : rs = iv .i64 xs := hcr
      subst hcr
      rw [iv_length] at hlen
      have hcell : ∀ k, ∀ j u, (iv .i64 (sub xs o k))[j]? = some u → w.cell? ⟨b, o + j, none⟩ = some u := fun k j u hu => by
        rw [cell_at hb]
        rw [iv_sub] at hu
        simpa using sub_get _ _ _ j u hu
      by_cases h1 : s = 1
      · subst h1
        rw [show Nat.beq 1 1 = true from rfl] at h
        simp only [cond_true, Option.some.injEq] at h
        subst h
        simp only [Nat.mul_one] at hle
        refine ⟨iv .i64 (sub xs o n), n, a', cap', rfl, hnc, by rw [iv_length, sub_length _ _ _ (by omega)]; exact (Nat.mul_one n).symm, .inr ⟨rfl, sub_length _ _ _ (by omega), rfl⟩, fun hn => ⟨b, o, ha' hn, hcell n⟩⟩
      · have h1' : Nat.beq s 1 = false := by rw [← Bool.not_eq_true, Nat.beq_eq]; exact h1
        rw [h1'] at h
        simp only [cond_false, Option.some.injEq] at h
        subst h
        have hfl := chunks_flatten xs s n o
        refine ⟨iv .i64 (chunks xs o s n).flatten, n, a', cap', rfl, hnc, by rw [hfl, iv_length, sub_length _ _ _ (by omega)]; rfl,
          .inr ⟨⟨⟨hs, chunks_rows xs s n o (by omega)⟩, rfl⟩, chunks_len _ _ _ _, rfl⟩, fun hn => ⟨b, o, ha' hn, ?_⟩⟩
        rw [hfl]
        exact hcell (n * s)
    · cases h
  | ri k xs => cases h; exact ⟨_, _, RoR_shows (ys := .ri k xs) rfl hv⟩
  | rb xs => cases h; exact ⟨_, _, RoR_shows (ys := .rb xs) rfl hv⟩
  | rr m xss => cases h; obtain ⟨h1, h2⟩ := hv; exact ⟨_, _, RoR_shows (ys := .rr m xss) ⟨h1, rfl⟩ h2⟩
  | rv vs =>
    cases h
    obtain ⟨rs, h1, h2⟩ := hv
    exact ⟨_, _, RoR_shows (ys := .rv vs) (forall2_mono h2 fun _ _ _ hp => VF_of_VG hp) h1⟩
  | z0 => cases h; obtain ⟨ad, rfl⟩ := hv; exact ⟨[], 0, ad, 0, rfl, Nat.le_refl _, by simp, .inl ⟨rfl, rfl, rfl⟩, fun h => absurd rfl h⟩
  | _ => cases h

theorem firstCells_ok {ad : Option Addr} {m cap size : Nat} {rs : List Value} (hl : rs.length = m * size)
    (hc : m ≠ 0 → ∃ b o, ad = some ⟨b, o, none⟩ ∧ ∀ j u, rs[j]? = some u → w.cell? ⟨b, o + j, none⟩ = some u) : (Builtin.firstCells size m (.slice ad m cap)).run P w = .ok rs.toArray w := by
  by_cases hm : m = 0
  · subst hm
    have : rs = [] := List.eq_nil_of_length_eq_zero (by simpa using hl)
    subst this
    cases ad with
    | none => exact run_firstCells_none w size 0 0 cap
    | some a => exact run_firstCells_some w size 0 a 0 cap [] (by simp) (fun j v h => by simp at h)
  · obtain ⟨b, o, rfl, h⟩ := hc hm
    exact run_firstCells_some w size m _ m cap rs hl (fun j v hv => by rw [add_none]; exact h j v hv)

theorem cell_drew {b o : Nat} {u : Value} (h : w.cell? ⟨b, o, none⟩ = some u) : w.drew.cell? ⟨b, o, none⟩ = some u := by
  rw [World.cell?_of_block (w := w) (w' := w.drew) (a := ⟨b, o, none⟩) rfl]; exact h

theorem append_grow {t ty e : TypeId} {i : TypeInfo} {z : Value} (ht : P.underlying t = some (.slice e)) (hi : P.info? e = some i) (hz : i.zero = some z)
    {ba xa : Option Addr} {n cap m c : Nat} {olds news : List Value} (hlo : olds.length = n * i.size) (ho : n ≠ 0 → ∃ b o, ba = some ⟨b, o, none⟩ ∧ ∀ j u, olds[j]? = some u → w.cell? ⟨b, o + j, none⟩ = some u)
    (hln : news.length = m * i.size) (hn : m ≠ 0 → ∃ b o, xa = some ⟨b, o, none⟩ ∧ ∀ j u, news[j]? = some u → w.cell? ⟨b, o + j, none⟩ = some u)
    (hg : cap < n + m) (h63 : n + m ≤ 140737488355328) (hby : (n + m) * i.bytes ≤ 140737488355328) :
    (Builtin.append_ #[t, t] ty #[.slice ba n cap, .slice xa m c]).run P w =
      .ok (.slice (some ⟨w.heap.size, 0, none⟩) (n + m) (grownCap w (n + m) cap e)) (w.drew.alloc (.cells ((olds ++ news).toArray ++ Builtin.zeroCells z.cells (grownCap w (n + m) cap e - (n + m))) e)) := by
  have hnn : ¬ (n + m ≤ cap) := by omega
  have h63' : ¬ (9223372036854775807 < ((n : Int) + (m : Int))) := by omega
  have hfit := growslice_fits (bytes := i.bytes) hg hby
  have h48' : ¬ (281474976710656 < Builtin.nextslicecap (n + m) cap * i.bytes) := by omega
  have hf := firstCells_ok (P := P) (w := w.drew) (ad := xa) (m := m) (cap := c) (size := i.size) (rs := news) hln (fun h => let ⟨b, o, h1, h2⟩ := hn h; ⟨b, o, h1, fun j u hu => cell_drew (h2 j u hu)⟩)
  have hfo := firstCells_ok (P := P) (w := w.drew) (ad := ba) (m := n) (cap := cap) (size := i.size) (rs := olds) hlo (fun h => let ⟨b, o, h1, h2⟩ := ho h; ⟨b, o, h1, fun j u hu => cell_drew (h2 j u hu)⟩)
  simp [Builtin.append_, run_underlying ht, sizeOf, typeInfo, zeroValue, hi, hz, Builtin.lenOf, hnn, h63', h48', Question.forced, hf, hfo, newRow, grownCap]
  congr 2
  apply Array.ext'
  simp [List.append_assoc]

theorem append_room {t ty e : TypeId} {i : TypeInfo} (ht : P.underlying t = some (.slice e)) (hi : P.info? e = some i)
    {ba xa : Option Addr} {n cap m c : Nat} {news : List Value}
    (hln : news.length = m * i.size) (hn : m ≠ 0 → ∃ b o, xa = some ⟨b, o, none⟩ ∧ ∀ j u, news[j]? = some u → w.cell? ⟨b, o + j, none⟩ = some u)
    (hg : n + m ≤ cap) {w' : World} (hs : (match ba with | some b => storeCells (b.add (n * i.size)) news | none => pure ()).run P w = .ok () w') :
    (Builtin.append_ #[t, t] ty #[.slice ba n cap, .slice xa m c]).run P w = .ok (.slice ba (n + m) cap) w' := by
  have hf := firstCells_ok (P := P) (w := w) (ad := xa) (m := m) (cap := c) (size := i.size) (rs := news) hln hn
  cases ba with
  | none =>
    simp at hs
    subst hs
    simp [Builtin.append_, run_underlying ht, sizeOf, typeInfo, hi, Builtin.lenOf, hg, hf]
  | some b =>
    simp only at hs
    simp [Builtin.append_, run_underlying ht, sizeOf, typeInfo, hi, Builtin.lenOf, hg, hf, hs]

theorem cat_wd {c c1 c2 : V} (h : c.cat c1 = some c2) (h0 : c ≠ .z0) : c2.wd = c.wd := by
  unfold V.cat at h
  split at h
  · obtain ⟨_, h2⟩ := decide_kind h
    simp only [Option.some.injEq] at h2
    subst h2; rfl
  · cases h; rfl
  · obtain ⟨_, h2⟩ := cond_none h; cases h2; rfl
  · cases h; rfl
  · cases h
  · exact absurd rfl h0
  · cases h; rfl
  · cases h

theorem CR_ne {mem : Mem} {c : V} {rs : List Value} (h : CR w ρ mem c rs) : c ≠ .z0 := by rintro rfl; exact h

theorem cat_shows {mem : Mem} {c ys c2 : V} {rs news : List Value} {r : Value} {m wd : Nat} (hc : CR w ρ mem c rs) (hs : Shows w ρ mem ys r news m wd) (h : c.cat ys = some c2) :
    CR w ρ mem c2 (rs ++ news) ∧ c2.cnt = c.cnt + m ∧ c2.wd = c.wd ∧ news.length = m * c2.wd := by
  obtain ⟨ad, cap, _, _, hlen, hy, _⟩ := hs
  rcases hy with ⟨rfl, rfl, rfl⟩ | ⟨hy, rfl, rfl⟩
  · have : c2 = c := by
      unfold V.cat at h
      split at h
      · rename_i h1; cases h1
      · rename_i h1; cases h1
      · rename_i h1; cases h1
      · rename_i h1; cases h1
      · cases h
      · exact hc.elim
      · cases h; rfl
      · cases h
    subst this
    simp [hc]
  · obtain ⟨h1, h2, h3, h4⟩ := cat_ok hc hy h
    exact ⟨h1, h2, h3, by rw [hlen, h4]⟩

theorem CR_one {mem : Mem} {c : V} {rs : List Value} (h : CR w ρ mem c rs) : ∀ u ∈ rs, u.oneCell' = true := by
  intro u hu
  cases c with
  | ri k xs => have h : rs = iv k xs := h; subst h; simp only [iv, List.mem_map] at hu; obtain ⟨x, _, rfl⟩ := hu; rfl
  | rb xs => have h : rs = bv xs := h; subst h; simp only [bv, List.mem_map] at hu; obtain ⟨x, _, rfl⟩ := hu; rfl
  | rr m xss => obtain ⟨_, rfl⟩ := h; simp only [iv, List.mem_map] at hu; obtain ⟨x, _, rfl⟩ := hu; rfl
  | rv vs => obtain ⟨v, _, hp⟩ := all2_mem' (show All2 _ vs rs from h) hu; exact (VF_one hp).2
  | _ => exact h.elim

theorem shows_one {mem : Mem} {ys : V} {r : Value} {rs : List Value} {m wd : Nat} (h : Shows w ρ mem ys r rs m wd) : ∀ u ∈ rs, u.oneCell' = true := by
  obtain ⟨_, _, _, _, _, hy, _⟩ := h
  rcases hy with ⟨_, _, rfl⟩ | ⟨hy, _⟩
  · intro u hu; cases hu
  · exact CR_one hy

theorem zeroCells_take (olds news : List Value) (z : Array Value) (n : Nat) : (((olds ++ news).toArray ++ Builtin.zeroCells z n).toList).take (olds.length + news.length) = olds ++ news := by
  rw [Array.toList_append, ← List.length_append]
  exact List.take_left

theorem ZR_cells {z : V} {zv : Value} (h : ZR z zv) : zv.cells.size = z.sz := by
  cases z with
  | any =>
    have h : zv.oneCell' = true := h
    cases zv <;> first | rfl | cases h
  | bool b => rw [show zv = _ from h]; rfl
  | int k n => rw [show zv = _ from h]; rfl
  | z0 => rw [show zv = _ from h]; rfl
  | ints n xs => obtain ⟨h1, rfl⟩ := h; simpa [Value.cells, iv, V.sz] using h1
  | bools n xs => obtain ⟨h1, rfl⟩ := h; simpa [Value.cells, bv, V.sz] using h1
  | agg vs => obtain ⟨rs, rfl, h2⟩ := h; simpa [Value.cells, V.sz] using (all2_length h2).symm
  | _ => exact (h : False).elim

theorem mt_sz {z m : V} (h : z.mt = some m) : z.sz = m.wd := by
  unfold V.mt at h
  split at h <;> first | (cases h; rfl) | cases h

/-- a slice's block turns, and its handle is given up -/
theorem turn_ok {mem : Mem} (hw : WR w ρ mem) {h : Nat} {e : TypeId} {c c' : V} {ba ba' : Option Addr} {cap cap' : Nat} (hm : mget mem h = .vec e c) (hρ : ρ[h]? = some (.vec ba cap)) {w' : World}
    (hsz : w.heap.size ≤ w'.heap.size) (hos : w'.os = w.os) (htape : w'.tape = w.tape) (hout : w'.output = w.output)
    (hheap : ∀ r, r < w.heap.size → (Rl.vec ba cap).blk ≠ some r → w'.heap[r]? = w.heap[r]?) (hb : ∀ r, (Rl.vec ba' cap').blk = some r → (Rl.vec ba cap).blk = some r ∨ w.heap.size ≤ r)
    (hk : ∀ ρ' mem', Step w ρ mem w' ρ' mem' (· ∈ [h]) → (∀ x n c, mget mem x = .var n c → x ∉ [h]) → BlkR w' ρ' mem' (.vec e c') (.vec ba' cap')) :
    ∃ ρ', Step w ρ mem w' ρ' (mset mem h (.vec e c')) (· ∈ [h]) ∧ WR w' ρ' (mset mem h (.vec e c')) ∧ ∀ n, n ≤ c'.cnt → VR w' ρ' (mset mem h (.vec e c')) (.sl h 0 n) (.slice ba' n cap') := by
  have hlive : (mget mem h).live = true := by rw [hm]; rfl
  have hKv : ∀ x n c, mget mem x = .var n c → x ∉ [h] := fun y n c hy => by
    simp only [List.mem_singleton]
    intro hyh
    subst hyh
    rw [hm] at hy; cases hy
  have hs := step_chg (w' := w') hw (b' := .vec e c') (K := (· ∈ [h])) (rl' := .vec ba' cap') hρ hlive hsz hos htape hout hheap hb (fun hk => absurd (by simp) hk)
  have hwr := wr_chg (w' := w') hw (b' := .vec e c') (rl' := .vec ba' cap') hρ hlive hs hKv hheap hb (hk _ _ hs hKv)
  refine ⟨_, hs, hwr, fun n hn => ⟨e, c', ba', cap', ?_, ?_, by omega, .inl ⟨rfl, rfl⟩⟩⟩
  · rw [mget_mset _ _ _ _ (live_lt hlive), if_pos rfl]
  · rw [List.getElem?_set_self (by rw [hw.len]; exact live_lt hlive)]

/-- the block that append makes -/
theorem grown_blk {mem : Mem} {e : TypeId} {c' : V} {olds news : List Value} {z : Array Value} {need cap : Nat} (hcr : CR w ρ mem c' (olds ++ news)) (hcnt : c'.cnt = need) (hlen : (olds ++ news).length = need * c'.wd) (hz : z.size = c'.wd)
    (hg : 0 < need) (h63 : need ≤ 140737488355328) {ρ' : Rho} {mem' : Mem} {K : Nat → Prop}
    (hs : Step w ρ mem (w.drew.alloc (.cells ((olds ++ news).toArray ++ Builtin.zeroCells z (grownCap w need cap e - need)) e)) ρ' mem' K) (hK : ∀ x n c, mget mem x = .var n c → ¬ K x) :
    BlkR (w.drew.alloc (.cells ((olds ++ news).toArray ++ Builtin.zeroCells z (grownCap w need cap e - need)) e)) ρ' mem' (.vec e c') (.vec (some ⟨w.heap.size, 0, none⟩) (grownCap w need cap e)) := by
  have hge := grownCap_ge w need cap e
  refine ⟨_, _, rfl, by omega, .inr ⟨w.heap.size, _, by omega, rfl, heap_alloc_new w.drew _, grownCap_le_maxLen w need cap e (by simp only [Go.maxLen]; omega), ?_, ?_⟩⟩
  · simp only [Array.size_append, List.size_toArray, size_zeroCells, hz, hlen, ← Nat.add_mul]
    congr 1
    omega
  · rw [hcnt, ← hlen, List.length_append, zeroCells_take]
    exact CR_mono hcr hs hK

theorem append_ok (hT : TTok P tt) {o : Oper} {c : Call} (ho : o.op = .call c) (hb : c.callee = .builtin .append) {slot : Option Nat} {k : V → Mem → List Nat → Option R} {x : R} (hI : Inv σ a w ρ)
    (hx : opK tt tab slot o σ k = some x) : Does P o a σ w ρ k x := by
  unfold opK at hx
  simp only [ho, hb] at hx
  split at hx
  case h_2 => cases hx
  rename_i t t' hts
  have htt := beq_eq' (cond_none hx).1
  replace hx := (cond_none hx).2
  subst htt
  split at hx
  case h_2 => cases hx
  rename_i e s0 b0 zz hl
  have hu : P.underlying t = some (.slice e) := (hT _ _ hl).desc
  split at hx
  case h_2 => cases hx
  rename_i te hle
  obtain ⟨⟨i, hi, hsz, hby, zv, hzv, hz⟩, _, _, hpos, hzsz⟩ := hT _ _ hle
  split at hx
  case h_2 => cases hx
  rename_i s y hargs
  obtain ⟨p, q, hpq, hp, hq⟩ := opVals_two hargs
  have hrun : ∀ r w', (Builtin.append_ #[t, t] o.type #[a.eval p, a.eval q]).run P w = .ok r w' → (execOp a.eval o).run P w = .ok (.value r) w' := fun r w' h => by
    have hat : c.argTypes = #[t, t] := by apply Array.ext'; simpa using hts
    unfold execOp
    simp only [ho, resolve, hb, invoke, builtin, Sem.run_bind, Sem.run_pure, Result.andThen_ok, hpq, hat]
    simp [h]
  have hvs := hI.op p
  rw [hp] at hvs
  have hvy := hI.op q
  rw [hq] at hvy
  unfold appendK at hx
  split at hx
  case h_1 => cases hx
  rename_i ys hys
  obtain ⟨news, m, hsh⟩ := view_ok hI.wr hvy hys
  have hsh2 := hsh
  obtain ⟨xa, xc, hev, hmc, hnl, hyy, hcell⟩ := hsh
  split at hx
  · -- a slice of one's own
    rename_i h n
    split at hx
    case h_2 => cases hx
    rename_i e' cc hm
    have hb1 := (cond_none hx).1
    replace hx := (cond_none hx).2
    simp only [Bool.and_eq_true] at hb1
    have he := beq_eq' hb1.1
    have hwd := beq_eq' hb1.2
    subst he
    split at hx
    case h_2 => cases hx
    rename_i c' hc'
    obtain ⟨hfit, hk⟩ := cond_none hx
    simp only [fits, Bool.and_eq_true] at hfit
    have hf1 := Nat.le_of_ble_eq_true hfit.1
    have hf2 := Nat.le_of_ble_eq_true hfit.2
    obtain ⟨e2, c2, ba, cap, hm2, hρ, hle2, hvv⟩ := hvs
    rw [hm] at hm2
    cases hm2
    have hes : a.eval p = .slice ba n cap := by
      rcases hvv with ⟨_, h⟩ | ⟨h, _⟩
      · exact h
      · exact absurd rfl h
    have hbk := hI.wr.blk h _ hρ
    rw [hm] at hbk
    obtain ⟨a2, cap2, hrl, hcl, hc⟩ := hbk
    cases hrl
    obtain ⟨olds, hcrp, hops, hold⟩ : ∃ olds, CR w ρ σ.mem (cc.part 0 n) olds ∧ (∀ b cur e, cap ≠ 0 → ba = some ⟨b, 0, none⟩ → w.heap[b]? = some (.cells cur e (0, 0)) → CR w ρ σ.mem cc (cur.toList.take (cc.cnt * cc.wd)) → olds = cur.toList.take (n * cc.wd)) ∧ (n ≠ 0 → ∃ b o, ba = some ⟨b, o, none⟩ ∧ ∀ j u, olds[j]? = some u → w.cell? ⟨b, o + j, none⟩ = some u) := by
      rcases hc with ⟨h0, hc⟩ | ⟨b, cur, hcap, rfl, hheap, hmx, hcs, hc⟩
      · exact ⟨_, (part_ok hc 0 n (by omega)).1, fun _ _ _ h => absurd h0 h, fun h => absurd (show n = 0 by omega) h⟩
      · have hsub : sub (cur.toList.take (cc.cnt * cc.wd)) (0 * cc.wd) (n * cc.wd) = cur.toList.take (n * cc.wd) := by
          have : n * cc.wd ≤ cc.cnt * cc.wd := Nat.mul_le_mul_right _ (by omega)
          simp only [sub, Nat.zero_mul, List.drop_zero, List.take_take]
          rw [Nat.min_eq_left this]
        refine ⟨_, (part_ok hc 0 n (by omega)).1, fun b2 cur2 e2 _ hb2 hh2 _ => ?_, fun _ => ⟨b, 0, rfl, fun j u hu => ?_⟩⟩
        · cases hb2
          rw [hheap] at hh2
          cases hh2
          exact hsub
        · rw [hsub] at hu
          rw [cell_at hheap]
          rw [List.getElem?_take] at hu
          split at hu
          · simpa using hu
          · cases hu
    have hpw : (cc.part 0 n).wd = te.size ∧ (cc.part 0 n).cnt = n := by
      rcases hc with ⟨_, hc⟩ | ⟨_, _, _, _, _, _, _, hc⟩
      · have := part_ok hc 0 n (by omega); exact ⟨by rw [this.2.2, ← hwd], this.2.1⟩
      · have := part_ok hc 0 n (by omega); exact ⟨by rw [this.2.2, ← hwd], this.2.1⟩
    have hol := CR_len hcrp
    rw [hpw.1, hpw.2] at hol
    obtain ⟨hcr', hcnt', hwd', hnl'⟩ := cat_shows hcrp hsh2 hc'
    rw [hpw.1] at hwd'
    rw [hwd'] at hnl'
    rw [hpw.2] at hcnt'
    by_cases hroom : n + m ≤ cap
    · rcases hc with ⟨h0, hc⟩ | ⟨b, cur, hcap, rfl, hheap, hmx, hcs, hc⟩
      · -- nothing there, nothing new
        have hn0 : n = 0 := by omega
        have hm0 : m = 0 := by omega
        subst hn0; subst hm0; subst h0
        have hnn : news = [] := List.eq_nil_of_length_eq_zero (by omega)
        subst hnn
        have hrr := append_room (P := P) (w := w) (ty := o.type) (ba := ba) (n := 0) (cap := 0) (xa := xa) (m := 0) (c := xc) (news := []) hu hi (by omega) (fun h => absurd rfl h) (Nat.le_refl _) (w' := w) (by cases ba <;> rfl)
        have ho0 : olds = [] := List.eq_nil_of_length_eq_zero (by omega)
        subst ho0
        obtain ⟨ρ', hs, hwr, hv⟩ := turn_ok (w' := w) (ba' := ba) (cap' := 0) (c' := c') hI.wr hm hρ (Nat.le_refl _) rfl rfl rfl (fun _ _ _ => rfl) (fun r hr => .inl hr)
          (fun ρ' mem' hs hK => ⟨ba, 0, rfl, by omega, .inl ⟨rfl, CR_mono hcr' hs hK⟩⟩)
        exact Does.of_run hk (.inl (hrun _ _ (by rw [hes, hev]; exact hrr))) (by have := hv c'.cnt (Nat.le_refl _); rwa [hcnt'] at this ⊢) hwr hs
      · have hfitc : n * te.size + news.length ≤ cur.size := by rw [hnl', hcs, hwd, ← Nat.add_mul]; exact Nat.mul_le_mul_right _ hroom
        have hst := run_storeCells_at P b (n * i.size) e news 0 cur w hheap (by rw [hsz]; simpa using hfitc) (shows_one hsh2)
        have hrr := append_room (P := P) (w := w) (ty := o.type) (ba := some ⟨b, 0, none⟩) (n := n) (cap := cap) (xa := xa) (m := m) (c := xc) (news := news) hu hi (by rw [hsz]; exact hnl') hcell hroom (w' := _)
          (by simp only [add_none, Nat.zero_add]; exact hst)
        simp only [Nat.add_zero, hsz] at hrr
        have holds : olds = cur.toList.take (n * te.size) := by
          rw [← hwd]; exact hops b cur e (by omega) rfl hheap hc
        have hnew : (cur.toList.take (n * te.size) ++ news ++ cur.toList.drop (n * te.size + news.length)).take ((n + m) * te.size) = olds ++ news := by
          rw [holds, Nat.add_mul, ← hnl']
          have : (cur.toList.take (n * te.size) ++ news).length = n * te.size + news.length := by
            rw [List.length_append, List.length_take, Nat.min_eq_left (by simp; omega)]
          rw [← this]
          exact List.take_left
        have hhp : ∀ r, r < w.heap.size → (Rl.vec (some ⟨b, 0, none⟩) cap).blk ≠ some r → (w.setRow b (cur.toList.take (n * te.size) ++ news ++ cur.toList.drop (n * te.size + news.length)).toArray).heap[r]? = w.heap[r]? :=
          fun r _ hr => setRow_other w b r _ (fun e => hr (by rw [e]; simp [Rl.blk, Nat.ne_of_gt hcap]))
        obtain ⟨ρ', hs, hwr, hv⟩ := turn_ok (w' := w.setRow b (cur.toList.take (n * te.size) ++ news ++ cur.toList.drop (n * te.size + news.length)).toArray) (ba' := some ⟨b, 0, none⟩) (cap' := cap) (c' := c') hI.wr hm hρ (by simp) rfl rfl rfl hhp (fun r hr => .inl hr)
          (fun ρ' mem' hs hK => ⟨_, cap, rfl, by omega, .inr ⟨b, _, hcap, rfl, setRow_heap w b _ _ e _ hheap, hmx, by
            rw [hwd', ← hwd, ← hcs]
            rw [← hwd] at hfitc
            simp
            omega, by
            rw [hcnt', hwd', hnew]
            exact CR_mono hcr' hs hK⟩⟩)
        exact Does.of_run hk (.inl (hrun _ _ (by rw [hes, hev]; exact hrr))) (by have := hv c'.cnt (Nat.le_refl _); rwa [hcnt'] at this ⊢) hwr hs
    · have hgr := append_grow (P := P) (w := w) (ty := o.type) hu hi hzv (ba := ba) (n := n) (cap := cap) (olds := olds) (xa := xa) (m := m) (c := xc) (news := news) (by rw [hsz]; exact hol) hold (by rw [hsz]; exact hnl') hcell (by omega) (by omega) (by rw [hby, ← hcnt']; exact hf1)
      have hzz : zv.cells.size = c'.wd := by
        rw [hwd', ZR_cells hz]
        exact hzsz
      obtain ⟨ρ', hs, hwr, hv⟩ := turn_ok (w' := w.drew.alloc (.cells ((olds ++ news).toArray ++ Builtin.zeroCells zv.cells (grownCap w (n + m) cap e - (n + m))) e)) (ba' := some ⟨w.heap.size, 0, none⟩) (cap' := grownCap w (n + m) cap e) (c' := c') hI.wr hm hρ (by simp) rfl rfl rfl
        (fun r hr _ => heap_alloc_old w.drew _ hr) (fun r hr => .inr (by
          simp only [Rl.blk] at hr
          split at hr
          · cases hr
          · simp only [Option.map_some, Option.some.injEq] at hr; omega))
        (fun ρ' mem' hs hK => grown_blk hcr' hcnt' (by rw [List.length_append, hol, hnl', hwd', ← Nat.add_mul]) hzz (by omega) (by omega) hs hK)
      exact Does.of_run hk (.inl (hrun _ _ (by rw [hes, hev]; exact hgr))) (by have := hv c'.cnt (Nat.le_refl _); rwa [hcnt'] at this ⊢) hwr hs
  · -- the empty slice
    split at hx
    case h_2 => cases hx
    rename_i m0 hm0
    split at hx
    case h_2 => cases hx
    rename_i c' hc'
    have hfit := (cond_none hx).1
    have hk := (cond_none hx).2
    clear hx
    simp only [fits, Bool.and_eq_true] at hfit
    have hf1 := Nat.le_of_ble_eq_true hfit.1.1
    have hf2 := Nat.le_of_ble_eq_true hfit.1.2
    have hwd' := beq_eq' hfit.2
    obtain ⟨hmne, hmc⟩ := mt_ne hm0
    have hmw : m0.wd = te.size := by rw [← cat_wd hc' hmne, hwd']
    obtain ⟨hcr', hcnt', _, hnl'⟩ := cat_shows (mt_CR hm0 (by omega)) hsh2 hc'
    rw [hmc, Nat.zero_add] at hcnt'
    rw [hwd'] at hnl'
    obtain ⟨ba, hes⟩ := hvs
    by_cases hm0 : m = 0
    · subst hm0
      have hnn : news = [] := List.eq_nil_of_length_eq_zero (by omega)
      subst hnn
      have hrr := append_room (P := P) (w := w) (ty := o.type) (ba := ba) (n := 0) (cap := 0) (xa := xa) (m := 0) (c := xc) (news := []) hu hi (by omega) (fun h => absurd rfl h) (Nat.le_refl _) (w' := w) (by cases ba <;> rfl)
      have hb0 : ∀ r, (Rl.vec ba 0).blk = some r → w.heap.size ≤ r := fun r hr => by simp [Rl.blk] at hr
      have hs := step_new (w' := w) (rl := .vec ba 0) (b := .vec e c') hI.wr (Nat.le_refl _) rfl rfl rfl (fun _ _ => rfl) hb0
      have hwr := wr_new hI.wr hs (fun _ _ => rfl) hb0 ⟨ba, 0, rfl, by omega, .inl ⟨rfl, CR_mono hcr' hs (fun _ _ _ _ h => h)⟩⟩
      refine Does.of_run hk (.inl (hrun _ _ (by rw [hes, hev]; exact hrr))) ⟨e, c', ba, 0, ?_, ?_, by omega, .inl ⟨rfl, by rw [hcnt']⟩⟩ hwr (hs.weak fun _ h => h.elim)
      · rw [mget_append, if_pos rfl]
      · rw [← hI.wr.len]; simp
    · have hgr := append_grow (P := P) (w := w) (ty := o.type) hu hi hzv (ba := ba) (n := 0) (cap := 0) (olds := []) (xa := xa) (m := m) (c := xc) (news := news) (by simp) (fun h => absurd rfl h) (by rw [hsz]; exact hnl') hcell (by omega) (by omega) (by rw [hby, Nat.zero_add, ← hcnt']; exact hf1)
      simp only [Nat.zero_add] at hgr
      have hb0 : ∀ r, (Rl.vec (some ⟨w.heap.size, 0, none⟩) (grownCap w m 0 e)).blk = some r → w.heap.size ≤ r := fun r hr => by
        simp only [Rl.blk] at hr
        split at hr
        · cases hr
        · simp only [Option.map_some, Option.some.injEq] at hr; omega
      have hs := step_new (w' := w.drew.alloc (.cells (([] ++ news).toArray ++ Builtin.zeroCells zv.cells (grownCap w m 0 e - m)) e)) (rl := .vec (some ⟨w.heap.size, 0, none⟩) (grownCap w m 0 e)) (b := .vec e c') hI.wr (by simp) rfl rfl rfl
        (fun r hr => heap_alloc_old w.drew _ hr) hb0
      have hwr := wr_new hI.wr hs (fun r hr => heap_alloc_old w.drew _ hr) hb0 (grown_blk hcr' hcnt' (by rw [List.nil_append, hnl', hwd']) (by rw [hwd', ZR_cells hz]; exact hzsz) (by omega) (by omega) hs (fun _ _ _ _ h => h))
      refine Does.of_run hk (.inl (hrun _ _ (by rw [hes, hev]; exact hgr))) ⟨e, c', _, _, ?_, ?_, by omega, .inl ⟨rfl, by rw [hcnt']⟩⟩ hwr (hs.weak fun _ h => h.elim)
      · rw [mget_append, if_pos rfl]
      · rw [← hI.wr.len]; simp
  · cases hx

end
end Go.Lv
