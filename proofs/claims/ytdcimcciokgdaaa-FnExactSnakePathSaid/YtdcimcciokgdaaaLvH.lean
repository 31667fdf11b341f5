/-
The operations of the abstract machine, sound: stores, literals of slices, maps.
-/
import Derived.Test.YtdcimcciokgdaaaLvG
namespace Go.Lv
open Go.RowKit
set_option linter.unusedVariables false
set_option linter.unusedSimpArgs false
set_option linter.unusedSectionVars false
variable [fr : Fr]

section
variable {P : Program} {tt : TT} {tab : Tab} {σ : St} {a : Act} {w : World} {ρ : Rho} {R : Type}

/-- one block turns -/
theorem chg_ok {mem : Mem} (hw : WR w ρ mem) {h : Nat} {rl : Rl} {b' : Blk} (hρ : ρ[h]? = some rl) (hl : (mget mem h).live = true) {w' : World}
    (hsz : w.heap.size ≤ w'.heap.size) (hos : w'.os = w.os) (htape : w'.tape = w.tape) (hout : w'.output = w.output)
    (hheap : ∀ r, r < w.heap.size → rl.blk ≠ some r → w'.heap[r]? = w.heap[r]?) (hsh : Shape (mget mem h) b')
    (hk : Step w ρ mem w' ρ (mset mem h b') (fun _ => False) → BlkR w' ρ (mset mem h b') b' rl) :
    Step w ρ mem w' ρ (mset mem h b') (fun _ => False) ∧ WR w' ρ (mset mem h b') := by
  have hs := step_chg (w' := w') hw (b' := b') (K := fun _ => False) (rl' := rl) hρ hl hsz hos htape hout hheap (fun r hr => .inl hr) (fun _ => ⟨rfl, hsh⟩)
  have hs2 := hs
  rw [set_self hρ] at hs2
  have hwr := wr_chg (w' := w') hw (b' := b') (rl' := rl) hρ hl hs (fun _ _ _ _ h => h) hheap (fun r hr => .inl hr) (by rw [set_self hρ]; exact hk hs2)
  rw [set_self hρ] at hwr
  exact ⟨hs2, hwr⟩

/-- what a value is made of -/
def CellsOf (r : Value) (vs : List Value) (s : Nat) : Prop := r.cells = vs.toArray ∧ vs.length = s ∧ ∀ u ∈ vs, u.oneCell' = true

theorem cells_iv (xs : List Int) (n : Nat) (h : xs.length = n) : CellsOf (.agg (iv .i64 xs).toArray) (iv .i64 xs) n := ⟨rfl, by rw [iv_length]; exact h, fun u hu => by
  simp only [iv, List.mem_map] at hu
  obtain ⟨x, _, rfl⟩ := hu
  rfl⟩
theorem cells_bv (xs : List Bool) (n : Nat) (h : xs.length = n) : CellsOf (.agg (bv xs).toArray) (bv xs) n := ⟨rfl, by rw [bv_length]; exact h, fun u hu => by
  simp only [bv, List.mem_map] at hu
  obtain ⟨x, _, rfl⟩ := hu
  rfl⟩
theorem all2_mem' {α β : Type} {p : α → β → Prop} {xs : List α} {ys : List β} (h : All2 p xs ys) {y : β} (hy : y ∈ ys) : ∃ x, x ∈ xs ∧ p x y := by
  induction h with
  | nil => cases hy
  | cons hp _ ih =>
    cases hy with
    | head => exact ⟨_, by simp, hp⟩
    | tail _ hy => obtain ⟨x, hx, hp⟩ := ih hy; exact ⟨x, by simp [hx], hp⟩
theorem cells_agg {mem : Mem} {vs : List V} {rs : List Value} (h : All2 (VF w ρ mem) vs rs) (n : Nat) (hn : vs.length = n) : CellsOf (.agg rs.toArray) rs n :=
  ⟨rfl, by rw [← all2_length h]; exact hn, fun u hu => let ⟨_, _, hp⟩ := all2_mem' h hu; (VF_one hp).2⟩
theorem cells_one {mem : Mem} {v : V} {r : Value} (h : VF w ρ mem v r) : CellsOf r [r] 1 := ⟨(VF_one h).1, rfl, fun u hu => by
  simp only [List.mem_singleton] at hu
  subst hu
  exact (VF_one h).2⟩

theorem sz_flat {v : V} (h : v.flat = true) : v.sz = 1 := by cases v <;> first | rfl | cases h

theorem splice_whole {α : Type} (xs ys : List α) (h : xs.length = ys.length) : splice xs 0 ys ys.length = ys := by
  simp [splice, h]

theorem storeV_ok {mem : Mem} {c : V} {n o s : Nat} {v c' : V} (h : storeV c n o s v = some c') {rs : List Value} (hr : CR w ρ mem c rs) (hn : rs.length = n) (ho : o + s ≤ n) {r : Value} (hv : VR w ρ mem v r) (hs : v.sz = s) :
    ∃ vs, CellsOf r vs s ∧ CR w ρ mem c' (splice rs o vs s) ∧ c'.wd = c.wd := by
  unfold storeV at h
  split at h
  · rename_i k xs k' y
    obtain ⟨hkk, h2⟩ := decide_kind h
    subst hkk
    clear h
    simp only [Option.some.injEq] at h2
    subst h2
    have hr : rs = iv k xs := hr
    have hv : r = .int k y := hv
    subst hr; subst hv
    have hs : 1 = s := hs
    subst hs
    rw [iv_length] at hn
    refine ⟨[.int k y], cells_one (v := .int k y) (w := w) (ρ := ρ) (mem := mem) rfl, ?_, rfl⟩
    show splice (iv k xs) o [.int k y] 1 = iv k (iset xs o y)
    rw [iset_eq, set_splice _ _ _ (by omega), iv_splice]; rfl
  · rename_i xs s' ys
    obtain ⟨hb, h⟩ := cond_none h
    cases h
    have hb := beq_eq' hb
    have hr : rs = iv .i64 xs := hr
    obtain ⟨hl, rfl⟩ := VR_ints hv
    subst hr
    rw [iv_length] at hn
    subst hn
    refine ⟨iv .i64 ys, cells_iv ys s (by omega), ?_, rfl⟩
    show splice (iv .i64 xs) o (iv .i64 ys) s = iv .i64 (splicen xs.length xs o ys s)
    rw [splicen_eq _ _ _ _ (by omega), iv_splice]
  · rename_i xs y
    cases h
    have hr : rs = bv xs := hr
    have hv : r = .bool y := hv
    subst hr; subst hv
    have hs : 1 = s := hs
    subst hs
    rw [bv_length] at hn
    refine ⟨[.bool y], cells_one (v := .bool y) (w := w) (ρ := ρ) (mem := mem) rfl, ?_, rfl⟩
    show splice (bv xs) o [.bool y] 1 = bv (bset xs o y)
    rw [bset_eq, set_splice _ _ _ (by omega), bv_splice]; rfl
  · rename_i xs s' ys
    obtain ⟨hb, h⟩ := cond_none h
    cases h
    simp only [Bool.and_eq_true] at hb
    have h1 := beq_eq' hb.1.1
    have h2 := beq_eq' hb.1.2
    have h3 := beq_eq' hb.2
    have hr : rs = bv xs := hr
    obtain ⟨hl, rfl⟩ := VR_bools hv
    subst hr
    rw [bv_length] at hn
    refine ⟨bv ys, cells_bv ys s (by omega), ?_, rfl⟩
    show splice (bv xs) o (bv ys) s = bv ys
    have e : s = (bv ys).length := by rw [bv_length]; omega
    rw [h2, e]
    exact splice_whole _ _ (by rw [bv_length, bv_length]; omega)
  · rename_i xs ys
    obtain ⟨hb, h⟩ := cond_none h
    cases h
    simp only [Bool.and_eq_true] at hb
    have h1 := beq_eq' hb.1.1
    have h2 := beq_eq' hb.1.2
    have h3 := beq_eq' hb.2
    obtain ⟨qs, rfl, hq⟩ := hv
    refine ⟨qs, cells_agg hq s (by omega), ?_, rfl⟩
    have e : s = qs.length := by rw [← all2_length hq]; omega
    show All2 _ _ _
    rw [h1, e, splice_whole _ _ (by omega)]
    exact hq
  · rename_i vs hna
    obtain ⟨hb, h⟩ := cond_none h
    cases h
    have hvf := VF_flat hv hb
    have hs1 := sz_flat hb
    rw [hs1] at hs
    subst hs
    refine ⟨[r], cells_one hvf, ?_, rfl⟩
    have hr2 : All2 (VF w ρ mem) vs rs := hr
    show All2 _ _ _
    rw [tset_eq, set_splice _ _ _ (by rw [all2_length hr2]; omega)]
    exact all2_splice hr2 (.cons hvf .nil) o 1
  · cases h

theorem flatten_set {α : Type} (m : Nat) (ys : List α) (hy : ys.length = m) : ∀ (xss : List (List α)) (h : ∀ xs ∈ xss, xs.length = m) (i : Nat), i < xss.length → (xss.set i ys).flatten = splice xss.flatten (i * m) ys m
  | [], _, i, hi => by simp at hi
  | xs :: r, h, 0, _ => by
    have := h xs (by simp)
    simp [splice, this]
  | xs :: r, h, i + 1, hi => by
    have hx := h xs (by simp)
    have ih := flatten_set m ys hy r (fun x hx => h x (by simp [hx])) i (by simpa using hi)
    simp only [List.set_cons_succ, List.flatten_cons, ih]
    unfold splice
    have e1 : (i + 1) * m = xs.length + i * m := by rw [Nat.add_mul, Nat.one_mul, hx, Nat.add_comm]
    rw [e1, Nat.add_assoc, List.take_length_add_append, List.drop_length_add_append]
    simp [List.append_assoc]

theorem splice_splice {α : Type} (xs : List α) (p m o s : Nat) (ys : List α) (hy : ys.length = s) (ho : o + s ≤ m) (hp : p + m ≤ xs.length) :
    splice xs p (splice (sub xs p m) o ys s) m = splice xs (p + o) ys s := by
  unfold splice sub
  have h1 : ((xs.drop p).take m).take o = (xs.drop p).take o := by rw [List.take_take, Nat.min_eq_left (by omega)]
  rw [h1, List.take_add, List.drop_take, List.drop_drop]
  simp only [List.append_assoc]
  congr 3
  have h2 : xs.drop (p + o + s) = (xs.drop (p + o + s)).take (m - (o + s)) ++ (xs.drop (p + o + s)).drop (m - (o + s)) := (List.take_append_drop _ _).symm
  rw [h2, List.drop_drop]
  congr 2
  · congr 1; omega
  · omega

theorem storeE_ok {mem : Mem} {c : V} {i o s : Nat} {v c' : V} (h : storeE c i o s v = some c') {rs : List Value} (hr : CR w ρ mem c rs) (hi : i < c.cnt) (ho : o + s ≤ c.wd) {r : Value} (hv : VR w ρ mem v r) (hs : v.sz = s) :
    ∃ vs, CellsOf r vs s ∧ CR w ρ mem c' (splice rs (i * c.wd + o) vs s) ∧ c'.wd = c.wd ∧ c'.cnt = c.cnt := by
  unfold storeE at h
  split at h
  · rename_i k xs k' y
    obtain ⟨hkk, h2⟩ := decide_kind h
    subst hkk
    clear h
    simp only [Option.some.injEq] at h2
    subst h2
    have hr : rs = iv k xs := hr
    have hv : r = .int k y := hv
    subst hr; subst hv
    have hs : 1 = s := hs
    subst hs
    simp only [V.cnt, V.wd] at hi ho
    obtain rfl : o = 0 := by omega
    refine ⟨[.int k y], cells_one (v := .int k y) (w := w) (ρ := ρ) (mem := mem) rfl, ?_, rfl, by simp [V.cnt, iset_eq]⟩
    show splice (iv k xs) (i * 1 + 0) [.int k y] 1 = iv k (iset xs i y)
    rw [iset_eq, set_splice _ _ _ hi, iv_splice, Nat.mul_one]; rfl
  · rename_i xs y
    cases h
    have hr : rs = bv xs := hr
    have hv : r = .bool y := hv
    subst hr; subst hv
    have hs : 1 = s := hs
    subst hs
    simp only [V.cnt, V.wd] at hi ho
    obtain rfl : o = 0 := by omega
    refine ⟨[.bool y], cells_one (v := .bool y) (w := w) (ρ := ρ) (mem := mem) rfl, ?_, rfl, by simp [V.cnt, bset_eq]⟩
    show splice (bv xs) (i * 1 + 0) [.bool y] 1 = bv (bset xs i y)
    rw [bset_eq, set_splice _ _ _ hi, bv_splice, Nat.mul_one]; rfl
  · rename_i m xss y
    cases h
    obtain ⟨hrows, rfl⟩ := hr
    have hv : r = .int .i64 y := hv
    subst hv
    have hs : 1 = s := hs
    subst hs
    simp only [V.cnt, V.wd] at hi ho
    have hlen := rget_len hrows.2 hi
    refine ⟨[.int .i64 y], cells_one (v := .int .i64 y) (w := w) (ρ := ρ) (mem := mem) rfl, ⟨⟨hrows.1, fun xs hx => ?_⟩, ?_⟩, rfl, by simp [V.cnt, rset_eq]⟩
    · rw [rset_eq] at hx
      rcases List.mem_or_eq_of_mem_set hx with hx | rfl
      · exact hrows.2 xs hx
      · rw [iset_eq]; simpa using hlen
    · show splice (iv .i64 xss.flatten) (i * m + o) [.int .i64 y] 1 = iv .i64 (rset xss i (iset (rget xss i) o y)).flatten
      have hp : i * m + m ≤ xss.flatten.length := by
        have : xss.flatten.length = xss.length * m := by
          have := CR_len (w := w) (ρ := ρ) (mem := mem) (c := .rr m xss) (rs := iv .i64 xss.flatten) ⟨hrows, rfl⟩
          rwa [iv_length] at this
        rw [this]; exact mul_bound hi
      rw [rset_eq, flatten_set m _ (by rw [iset_eq]; simpa using hlen) xss hrows.2 i hi, iset_eq, set_splice _ _ _ (by omega), ← sub_flatten m xss hrows.2 i hi,
        splice_splice xss.flatten (i * m) m o 1 [y] rfl ho hp, iv_splice]; rfl
  · rename_i m xss s' ys
    obtain ⟨hb, h⟩ := cond_none h
    cases h
    have hb := beq_eq' hb
    obtain ⟨hrows, rfl⟩ := hr
    obtain ⟨hl, rfl⟩ := VR_ints hv
    simp only [V.cnt, V.wd] at hi ho
    have hlen := rget_len hrows.2 hi
    have hsl : splicen m (rget xss i) o ys s = splice (rget xss i) o ys s := by
      have := splicen_eq (rget xss i) o ys s (by omega)
      rwa [hlen] at this
    refine ⟨iv .i64 ys, cells_iv ys s (by omega), ⟨⟨hrows.1, fun xs hx => ?_⟩, ?_⟩, rfl, by simp [V.cnt, rset_eq]⟩
    · rw [rset_eq] at hx
      rcases List.mem_or_eq_of_mem_set hx with hx | rfl
      · exact hrows.2 xs hx
      · rw [hsl, splice_len _ _ _ _ (by omega) (by omega)]; exact hlen
    · show splice (iv .i64 xss.flatten) (i * m + o) (iv .i64 ys) s = iv .i64 (rset xss i (splicen m (rget xss i) o ys s)).flatten
      have hp : i * m + m ≤ xss.flatten.length := by
        have : xss.flatten.length = xss.length * m := by
          have := CR_len (w := w) (ρ := ρ) (mem := mem) (c := .rr m xss) (rs := iv .i64 xss.flatten) ⟨hrows, rfl⟩
          rwa [iv_length] at this
        rw [this]; exact mul_bound hi
      rw [hsl, rset_eq, flatten_set m _ (by rw [splice_len _ _ _ _ (by omega) (by omega)]; exact hlen) xss hrows.2 i hi, ← sub_flatten m xss hrows.2 i hi,
        splice_splice xss.flatten (i * m) m o s ys (by omega) ho hp, iv_splice]
  · rename_i vs
    obtain ⟨hb, h⟩ := cond_none h
    cases h
    have hvf := VF_flat hv hb
    have hs1 := sz_flat hb
    rw [hs1] at hs
    subst hs
    simp only [V.cnt, V.wd] at hi ho
    obtain rfl : o = 0 := by omega
    refine ⟨[r], cells_one hvf, ?_, rfl, by simp [V.cnt, tset_eq]⟩
    have hr2 : All2 (VF w ρ mem) vs rs := hr
    show All2 _ _ _
    simp only [V.wd, Nat.mul_one, Nat.add_zero]
    rw [tset_eq, set_splice _ _ _ hi]
    exact all2_splice hr2 (.cons hvf .nil) i 1
  · cases h

theorem take_splice {α : Type} (xs : List α) (p s m : Nat) (ys : List α) (hy : ys.length = s) (hp : p + s ≤ m) (hm : m ≤ xs.length) : (splice xs p ys s).take m = splice (xs.take m) p ys s := by
  unfold splice
  have h1 : (xs.take m).take p = xs.take p := by rw [List.take_take, Nat.min_eq_left (by omega)]
  rw [h1, List.drop_take, List.append_assoc, List.append_assoc, List.take_append, List.take_append]
  have e1 : (xs.take p).length = p := by rw [List.length_take]; omega
  have t1 : (xs.take p).take m = xs.take p := List.take_of_length_le (by omega)
  have t2 : ys.take (m - p) = ys := List.take_of_length_le (by omega)
  rw [e1, hy, t1, t2]
  congr 3
  omega

theorem run_storeVar {t : TypeId} {i : TypeInfo} (hi : P.info? t = some i) {r : Value} {vs : List Value} (hc : CellsOf r vs i.size) {g o : Nat} {e : TypeId} {cur : Array Value} (hg : w.heap[g]? = some (.cells cur e (0, 0)))
    (ho : o + i.size ≤ cur.size) : (storeVar t ⟨g, o, none⟩ r).run P w = .ok () (w.setRow g (splice cur.toList o vs i.size).toArray) := by
  obtain ⟨h1, h2, h3⟩ := hc
  unfold storeVar
  rw [Sem.run_bind, run_sizeOf hi]
  simp only [Result.andThen_ok]
  rw [if_neg (by rw [h1]; simpa using h2)]
  have := run_storeCells_at P g o e vs 0 cur w hg (by omega) h3
  rw [h1]
  simp only [Nat.add_zero, h2] at this
  exact this

theorem store_ok (hT : TTok P tt) {o : Oper} {t : TypeId} {ad y : Operand} (ho : o.op = .store t ad y) {slot : Option Nat} {k : V → Mem → List Nat → Option R} {x : R} (hI : Inv σ a w ρ)
    (hx : opK tt tab slot o σ k = some x) : Does P o a σ w ρ k x := by
  unfold opK at hx
  simp only [ho] at hx
  have hva := hI.op ad
  have hvy := hI.op y
  split at hx
  case h_2 => cases hx
  rename_i ti hl
  obtain ⟨i, hi, hsz, _⟩ := (hT _ _ hl).info
  split at hx
  case h_2 => cases hx
  rename_i h j of s he
  rw [he] at hva
  obtain ⟨v', mem', ks, hk, hv', hwr', hs', hsame⟩ := keep_ok hI.wr hvy hx
  obtain ⟨hb, hk⟩ := cond_none hk
  simp only [Bool.and_eq_true] at hb
  have hb1 := beq_eq' hb.1
  have hb2 := Nat.le_of_ble_eq_true hb.2
  have hrun : ∀ ad', a.eval ad = .pointer (some ad') → ∀ w', (storeVar t ad' (a.eval y)).run P w = .ok () w' → (execOp a.eval o).run P w = .ok .skip w' := fun ad' had w' h => by
    unfold execOp
    simp only [ho, had, Instr.storeAt, Instr.sureAddr, Sem.run_bind, Sem.run_pure, Result.andThen_ok, h]
  have hlive : ∀ b, mget mem' h = b → b.live = true → mget σ.mem h = b := fun b hm hlv => by rw [← hsame h (by rw [hm]; exact hlv)]; exact hm
  split at hk
  · rename_i n c hm
    split at hk
    case h_2 => cases hk
    rename_i c' hc'
    have hm0 := hlive _ hm rfl
    rcases hva with ⟨n', c2, b, hm2, hρ, had, hj, hon⟩ | ⟨e, c2, b, cap, hm2, _⟩
    case inr => rw [hm0] at hm2; cases hm2
    rw [hm0] at hm2
    cases hm2
    obtain ⟨rs, e, hheap, hlen, hcr, hwd⟩ : ∃ rs e, w.heap[b]? = some (.cells (List.toArray rs) e (0, 0)) ∧ rs.length = n ∧ CR w ρ mem' c rs ∧ c.wd = 1 := by
      have hbk := hwr'.blk h _ hρ
      rw [hm] at hbk
      obtain ⟨r', e, rs, hrl, h1, h2, h3, h4⟩ := hbk
      cases hrl
      exact ⟨rs, e, h1, h2, h3, h4⟩
    obtain ⟨vs, hcells, hcr', hwd'⟩ := storeV_ok hc' hcr hlen (by omega) hv' hb1.symm
    rw [← hsz] at hcells hcr'
    have hst := run_storeVar (P := P) hi hcells hheap (o := of) (by simp; omega)
    obtain ⟨hs2, hw2⟩ := chg_ok hwr' (w' := w.setRow b (splice rs of vs i.size).toArray) (b' := .var n c') hρ (by rw [hm]; rfl) (by simp) rfl rfl rfl
      (fun r _ hr => setRow_other w b r _ (fun e => hr (by rw [e]; rfl))) (by rw [hm]; exact ⟨c', rfl⟩)
      (fun hs => ⟨b, e, _, rfl, setRow_heap w b _ _ e _ hheap, by rw [splice_len _ _ _ _ (by omega) hcells.2.1]; exact hlen, CR_mono hcr' hs (fun _ _ _ _ h => h), by rw [hwd', hwd]⟩)
    exact Does.of_run hk (.inr ⟨hrun _ had _ hst, rfl⟩) rfl hw2 (hs'.seq hs2)
  · rename_i e c hm
    split at hk
    case h_2 => cases hk
    rename_i c' hc'
    have hm0 := hlive _ hm rfl
    rcases hva with ⟨n', c2, b, hm2, _⟩ | ⟨e2, c2, b, cap, hm2, hρ, hcap, had, hj, hon⟩
    case inl => rw [hm0] at hm2; cases hm2
    rw [hm0] at hm2
    cases hm2
    have hbk := hwr'.blk h _ hρ
    rw [hm] at hbk
    obtain ⟨a2, cap2, hrl, hcl, hc⟩ := hbk
    cases hrl
    rcases hc with ⟨h0, _⟩ | ⟨b2, cur, _, hb2, hheap, hmx, hcs, hcr⟩
    · omega
    cases hb2
    obtain ⟨vs, hcells, hcr', hwd', hcnt'⟩ := storeE_ok hc' hcr hj (by omega) hv' hb1.symm
    rw [← hsz] at hcells hcr'
    have hle : c.cnt * c.wd ≤ cur.size := by rw [hcs]; exact Nat.mul_le_mul_right _ hcl
    have hjw := mul_bound (s := c.wd) hj
    have hst := run_storeVar (P := P) hi hcells hheap (o := j * c.wd + of) (by omega)
    rw [← take_splice _ _ _ _ _ hcells.2.1 (by omega) (by simpa using hle)] at hcr'
    obtain ⟨hs2, hw2⟩ := chg_ok hwr' (w' := w.setRow b (splice cur.toList (j * c.wd + of) vs i.size).toArray) (b' := .vec e c') hρ (by rw [hm]; rfl) (by simp) rfl rfl rfl
      (fun r _ hr => setRow_other w b r _ (fun e => hr (by rw [e]; simp [Rl.blk, Nat.ne_of_gt hcap]))) (by rw [hm]; exact ⟨c', rfl, hwd', by omega⟩)
      (fun hs => ⟨_, cap, rfl, by omega, .inr ⟨b, _, hcap, rfl, setRow_heap w b _ _ e _ hheap, hmx, by
        rw [hwd', ← hcs, List.size_toArray, splice_len _ _ _ _ (by simp; omega) hcells.2.1, Array.length_toList], by
        rw [hwd', hcnt']; exact CR_mono hcr' hs (fun _ _ _ _ h => h)⟩⟩)
    exact Does.of_run hk (.inr ⟨hrun _ had _ hst, rfl⟩) rfl hw2 (hs'.seq hs2)
  · cases hk

end
end Go.Lv
