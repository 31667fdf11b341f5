/-
The operations of the abstract machine, sound: loads, addresses, arithmetic.
-/
import Derived.Test.YtdcimcciokgdaaaLvC
namespace Go.Lv
open Go.RowKit
set_option linter.unusedVariables false
set_option linter.unusedSimpArgs false
set_option linter.unusedSectionVars false
variable [fr : Fr]

section
variable {P : Program} {tt : TT} {tab : Tab} {σ : St} {a : Act} {w : World} {ρ : Rho} {R : Type}

theorem wp_val {o : Oper} {next : Act → World → Prop} {Q : Exit → Act → World → Prop} {r : Value} {w' : World} (h : (execOp a.eval o).run P w = .ok (.value r) w') (hn : next (a.put o.dst r) w') :
    o.wp P a w next Q := by
  unfold Oper.wp
  rw [h]
  exact hn
theorem wp_skipv {o : Oper} {next : Act → World → Prop} {Q : Exit → Act → World → Prop} {w' : World} (h : (execOp a.eval o).run P w = .ok .skip w') (hn : next (a.put o.dst Go.undef) w') :
    o.wp P a w next Q := by
  unfold Oper.wp
  rw [h]
  exact hn

/-- the value of an operand, by its kind -/
theorem VR_int {mem : Mem} {k : IntKind} {n : Int} {r : Value} (h : VR w ρ mem (.int k n) r) : r = .int k n := h
theorem VR_bool {mem : Mem} {b : Bool} {r : Value} (h : VR w ρ mem (.bool b) r) : r = .bool b := h
theorem VR_ints {mem : Mem} {n : Nat} {xs : List Int} {r : Value} (h : VR w ρ mem (.ints n xs) r) : xs.length = n ∧ r = .agg (iv .i64 xs).toArray := h
theorem VR_bools {mem : Mem} {n : Nat} {xs : List Bool} {r : Value} (h : VR w ρ mem (.bools n xs) r) : xs.length = n ∧ r = .agg (bv xs).toArray := h

/-! ### contents -/
theorem CR_len {mem : Mem} {c : V} {rs : List Value} (h : CR w ρ mem c rs) : rs.length = c.cnt * c.wd := by
  cases c with
  | ri k xs => rw [show rs = iv k xs from h, iv_length]; simp [V.cnt, V.wd]
  | rb bs => rw [show rs = bv bs from h, bv_length]; simp [V.cnt, V.wd]
  | rr m xss =>
    obtain ⟨⟨hm, hl⟩, rfl⟩ := h
    rw [iv_length]
    simp only [V.cnt, V.wd]
    clear hm
    induction xss with
    | nil => simp
    | cons x r ih => rw [List.flatten_cons, List.length_append, ih (fun y hy => hl y (by simp [hy])), hl x (by simp), List.length_cons, Nat.add_mul, Nat.one_mul, Nat.add_comm]
  | rv vs => rw [← all2_length h]; simp [V.cnt, V.wd]
  | _ => exact h.elim

theorem rget_eq (xss : List (List Int)) (i : Nat) : rget xss i = xss[i]?.getD [] := by
  induction xss generalizing i with
  | nil => rfl
  | cons x r ih => cases i <;> simp [rget, ih]
theorem iget_eq (xs : List Int) (i : Nat) : iget xs i = xs[i]?.getD 0 := by
  induction xs generalizing i with
  | nil => rfl
  | cons x r ih => cases i <;> simp [iget, ih]
theorem bget_eq (xs : List Bool) (i : Nat) : bget xs i = xs[i]?.getD false := by
  induction xs generalizing i with
  | nil => rfl
  | cons x r ih => cases i <;> simp [bget, ih]

/-- row i of rows of m numbers -/
theorem sub_flatten (m : Nat) (xss : List (List Int)) (h : ∀ xs ∈ xss, xs.length = m) (i : Nat) (hi : i < xss.length) : sub xss.flatten (i * m) m = rget xss i := by
  induction xss generalizing i with
  | nil => simp at hi
  | cons x r ih =>
    have hx : x.length = m := h x (by simp)
    cases i with
    | zero => simp [sub, rget, hx.symm]
    | succ i =>
      rw [List.flatten_cons, rget, ← ih (fun y hy => h y (by simp [hy])) i (by simpa using hi)]
      unfold sub
      rw [Nat.add_mul, Nat.one_mul, Nat.add_comm, ← List.drop_drop, ← hx, List.drop_left]

theorem rget_len {m : Nat} {xss : List (List Int)} (h : ∀ xs ∈ xss, xs.length = m) {i : Nat} (hi : i < xss.length) : (rget xss i).length = m := by
  rw [rget_eq, List.getElem?_eq_getElem hi]
  exact h _ (List.getElem_mem hi)

theorem sub_sub {α : Type} (xs : List α) (o s o' s' : Nat) (h : o' + s' ≤ s) : sub (sub xs o s) o' s' = sub xs (o + o') s' := by
  unfold sub
  rw [List.drop_take, List.take_take, List.drop_drop, Nat.min_eq_left (by omega)]

theorem vget_get {vs : List V} {rs : List Value} {p : V → Value → Prop} (h : All2 p vs rs) {i : Nat} (hi : i < rs.length) : ∃ r, rs[i]? = some r ∧ p (vget vs i) r := by
  rcases all2_get h i with ⟨x, y, hx, hy, hp⟩ | ⟨_, hy⟩
  · rw [vget_eq, hx]; exact ⟨y, hy, hp⟩
  · rw [List.getElem?_eq_none_iff] at hy; omega

theorem VR1_of_VF {mem : Mem} {v : V} {r : Value} (h : VF w ρ mem v r) : VR1 w ρ mem v r := by
  cases v with
  | ptr x i o s => exact .inl h
  | any => trivial
  | bool | int | z0 | ri | rb | rr | rv | fn => exact h
  | _ => exact (h : False).elim

theorem VF_of_VG {mem : Mem} {v : V} {r : Value} (h : VG w ρ mem v r) : VF w ρ mem v r := by
  cases v with
  | rv vs => exact (h : False).elim
  | fn f x y => exact (h : False).elim
  | _ => exact h

/-- what a variable's content shows -/
theorem loadV_spec {mem : Mem} {c : V} {n o s : Nat} {d : D} {k : V → Option R} {x : R} (hc : loadV c n o s d k = some x) {rs : List Value} (hr : CR w ρ mem c rs)
    (hn : rs.length = n) (hw : c.wd = 1) (ho : o + s ≤ n) (hs1 : d.agg = false → s = 1) :
    ∃ v, k v = some x ∧ (d.agg = true → VR1 w ρ mem v (.agg (sub rs o s).toArray)) ∧ (d.agg = false → ∃ r, rs[o]? = some r ∧ VR1 w ρ mem v r) := by
  cases c with
  | ri kd xs =>
    have hrs : rs = iv kd xs := hr
    subst hrs
    rw [iv_length] at hn
    subst hn
    cases d with
    | int kd' =>
      obtain ⟨rfl, hk⟩ := decide_kind hc
      have := hs1 rfl
      exact ⟨_, hk, (fun h => by cases h), fun _ => ⟨_, iv_get _ _ _ (by omega), rfl⟩⟩
    | struct fs =>
      cases kd <;> simp only [loadV] at hc <;> try cases hc
      refine ⟨_, hc, fun _ => ?_, fun h => by cases h⟩
      rw [subn_eq]
      exact ⟨sub_length xs _ _ ho, by rw [iv_sub]⟩
    | array m e =>
      cases kd <;> simp only [loadV] at hc <;> try cases hc
      refine ⟨_, hc, fun _ => ?_, fun h => by cases h⟩
      rw [subn_eq]
      exact ⟨sub_length xs _ _ ho, by rw [iv_sub]⟩
    | _ => simp [loadV] at hc
  | rb bs =>
    have hrs : rs = bv bs := hr
    subst hrs
    rw [bv_length] at hn
    subst hn
    cases d with
    | bool =>
      have := hs1 rfl
      exact ⟨_, hc, (fun h => by cases h), fun _ => ⟨_, bv_get _ _ (by omega), rfl⟩⟩
    | array m e =>
      simp only [loadV] at hc
      refine ⟨_, hc, fun _ => ?_, fun h => by cases h⟩
      rw [subn_eq]
      exact ⟨sub_length bs _ _ ho, by rw [bv_sub]⟩
    | _ => simp [loadV] at hc
  | rr m xss => simp [loadV] at hc
  | rv vs =>
    have h2 : All2 (VF w ρ mem) vs rs := hr
    have whole : ∀ {v : V}, (bif Nat.beq o 0 && Nat.beq s n then k v else none) = some x → k v = some x ∧ sub rs o s = rs := fun h => by
      obtain ⟨h1, h3⟩ := cond_none h
      simp only [Bool.and_eq_true] at h1
      have := beq_eq' h1.1
      have := beq_eq' h1.2
      subst o; subst s; subst n
      exact ⟨h3, by simp [sub]⟩
    cases d with
    | struct fs =>
      obtain ⟨h1, h3⟩ := whole hc
      exact ⟨_, h1, fun _ => ⟨rs, by rw [h3], h2⟩, fun h => by cases h⟩
    | array m e =>
      obtain ⟨h1, h3⟩ := whole hc
      exact ⟨_, h1, fun _ => ⟨rs, by rw [h3], h2⟩, fun h => by cases h⟩
    | slice e =>
      have := hs1 rfl
      obtain ⟨r, hr1, hr2⟩ := vget_get h2 (i := o) (by omega)
      exact ⟨_, hc, (fun h => by cases h), fun _ => ⟨r, hr1, VR1_of_VF hr2⟩⟩
    | other =>
      have := hs1 rfl
      obtain ⟨r, hr1, hr2⟩ := vget_get h2 (i := o) (by omega)
      exact ⟨_, hc, (fun h => by cases h), fun _ => ⟨r, hr1, VR1_of_VF hr2⟩⟩
    | int kd =>
      have := hs1 rfl
      obtain ⟨r, hr1, hr2⟩ := vget_get h2 (i := o) (by omega)
      simp only [loadV] at hc
      split at hc
      · rename_i kd' y hv
        obtain ⟨rfl, hk⟩ := decide_kind hc
        rw [hv] at hr2
        exact ⟨_, hk, (fun h => by cases h), fun _ => ⟨r, hr1, VR1_of_VF hr2⟩⟩
      · cases hc
    | _ => simp [loadV] at hc
  | _ => exact hr.elim

theorem sub_row {m : Nat} {xss : List (List Int)} (h : ∀ xs ∈ xss, xs.length = m) {i o s : Nat} (hi : i < xss.length) (ho : o + s ≤ m) : sub xss.flatten (i * m + o) s = sub (rget xss i) o s := by
  rw [← sub_flatten m xss h i hi, sub_sub _ _ _ _ _ ho]

/-- what an element of a content shows -/
theorem loadE_spec {mem : Mem} {c : V} {i o s : Nat} {d : D} {k : V → Option R} {x : R} (hc : loadE c i o s d k = some x) {rs : List Value} (hr : CR w ρ mem c rs)
    (hi : i < c.cnt) (ho : o + s ≤ c.wd) (hs1 : d.agg = false → s = 1) :
    ∃ v, k v = some x ∧ (d.agg = true → VR1 w ρ mem v (.agg (sub rs (i * c.wd + o) s).toArray)) ∧ (d.agg = false → ∃ r, rs[i * c.wd + o]? = some r ∧ VR1 w ρ mem v r) := by
  have hlen := CR_len hr
  cases c with
  | ri kd xs =>
    have hrs : rs = iv kd xs := hr
    subst hrs
    simp only [V.wd, V.cnt, Nat.mul_one] at *
    cases d with
    | int kd' =>
      obtain ⟨rfl, hk⟩ := decide_kind hc
      have := hs1 rfl
      have : o = 0 := by omega
      subst this
      exact ⟨_, hk, (fun h => by cases h), fun _ => ⟨_, iv_get _ _ _ (by omega), rfl⟩⟩
    | _ => simp [loadE] at hc
  | rb bs =>
    have hrs : rs = bv bs := hr
    subst hrs
    simp only [V.wd, V.cnt, Nat.mul_one] at *
    cases d with
    | bool =>
      have := hs1 rfl
      have : o = 0 := by omega
      subst this
      exact ⟨_, hc, (fun h => by cases h), fun _ => ⟨_, bv_get _ _ (by omega), rfl⟩⟩
    | _ => simp [loadE] at hc
  | rr m xss =>
    obtain ⟨⟨hm, hl⟩, rfl⟩ := hr
    simp only [V.wd, V.cnt] at *
    have hrl := rget_len hl hi
    cases d with
    | int kd =>
      cases kd <;> simp only [loadE] at hc <;> try cases hc
      have := hs1 rfl
      subst this
      refine ⟨_, hc, (fun h => by cases h), fun _ => ⟨.int .i64 (iget (rget xss i) o), ?_, rfl⟩⟩
      have h1 := sub_row hl hi ho
      have h2 : iget (sub xss.flatten (i * m + o) 1) 0 = iget (sub (rget xss i) o 1) 0 := by rw [h1]
      rw [iget_sub _ _ _ _ (by omega), iget_sub _ _ _ _ (by omega)] at h2
      simp only [Nat.add_zero] at h2
      rw [← h2]
      have hb : i * m + o < xss.flatten.length := by
        have : (i + 1) * m ≤ xss.length * m := Nat.mul_le_mul_right _ hi
        rw [Nat.add_mul, Nat.one_mul] at this
        rw [← iv_length .i64, hlen]; omega
      exact iv_get _ _ _ hb
    | struct fs =>
      simp only [loadE] at hc
      refine ⟨_, hc, fun _ => ?_, fun h => by cases h⟩
      rw [← iv_sub, sub_row hl hi ho]
      rw [show subn m (rget xss i) o s = subn (rget xss i).length (rget xss i) o s by rw [hrl], subn_eq]
      exact ⟨sub_length _ _ _ (by rw [hrl]; exact ho), rfl⟩
    | array q e =>
      simp only [loadE] at hc
      refine ⟨_, hc, fun _ => ?_, fun h => by cases h⟩
      rw [← iv_sub, sub_row hl hi ho]
      rw [show subn m (rget xss i) o s = subn (rget xss i).length (rget xss i) o s by rw [hrl], subn_eq]
      exact ⟨sub_length _ _ _ (by rw [hrl]; exact ho), rfl⟩
    | _ => simp [loadE] at hc
  | rv vs =>
    have h2 : All2 (VF w ρ mem) vs rs := hr
    simp only [V.wd, V.cnt, Nat.mul_one] at *
    cases d with
    | slice e =>
      have := hs1 rfl
      have : o = 0 := by omega
      subst this
      obtain ⟨r, hr1, hr2⟩ := vget_get h2 (i := i) (by omega)
      exact ⟨_, hc, (fun h => by cases h), fun _ => ⟨r, hr1, VR1_of_VF hr2⟩⟩
    | other =>
      have := hs1 rfl
      have : o = 0 := by omega
      subst this
      obtain ⟨r, hr1, hr2⟩ := vget_get h2 (i := i) (by omega)
      exact ⟨_, hc, (fun h => by cases h), fun _ => ⟨r, hr1, VR1_of_VF hr2⟩⟩
    | _ => simp [loadE] at hc
  | _ => exact hr.elim


/-! ### loads -/
theorem add_none (b o j : Nat) : (⟨b, o, none⟩ : Addr).add j = ⟨b, o + j, none⟩ := by
  unfold Addr.add
  split
  · rename_i h; subst h; rfl
  · rfl

theorem run_loadVar_agg {t : TypeId} {d : D} {i : TypeInfo} (hd : DR P t d) (hi : P.info? t = some i) (hag : d.agg = true) {b o : Nat} {rs : List Value} (hl : rs.length = i.size)
    (hc : ∀ j u, rs[j]? = some u → w.cell? ⟨b, o + j, none⟩ = some u) : (loadVar t ⟨b, o, none⟩).run P w = .ok (.agg rs.toArray) w := by
  unfold loadVar
  rw [Sem.run_bind, isAgg_of_DR hd w, Result.andThen_ok, hag]
  simp only [if_true, Sem.run_bind, run_sizeOf hi w, Result.andThen_ok]
  rw [← hl, run_loadCells_list w ⟨b, o, none⟩ rs (fun j v hv => by rw [add_none]; exact hc j v hv)]
  rfl

theorem run_loadVar_one {t : TypeId} {d : D} (hd : DR P t d) (hag : d.agg = false) {b o : Nat} {u : Value}
    (hc : w.cell? ⟨b, o, none⟩ = some u) : (loadVar t ⟨b, o, none⟩).run P w = .ok u w := by
  unfold loadVar
  rw [Sem.run_bind, isAgg_of_DR hd w, Result.andThen_ok, hag]
  simp [run_load, hc]

theorem blk_live_var {mem : Mem} {h n : Nat} {c : V} (hm : mget mem h = .var n c) : (mget mem h).live = true := by rw [hm]; rfl
theorem blk_live_vec {mem : Mem} {h e : Nat} {c : V} (hm : mget mem h = .vec e c) : (mget mem h).live = true := by rw [hm]; rfl

/-- the cells of a variable -/
theorem var_cells {mem : Mem} (hw : WR w ρ mem) {h n b : Nat} {c : V} (hm : mget mem h = .var n c) (hρ : ρ[h]? = some (.var b)) :
    ∃ e rs, w.heap[b]? = some (.cells (List.toArray rs) e (0, 0)) ∧ rs.length = n ∧ CR w ρ mem c rs ∧ c.wd = 1 := by
  have hb := hw.blk h _ hρ
  rw [hm] at hb
  obtain ⟨r, e, rs, hrl, hr, hl, hc, hwd⟩ := hb
  cases hrl
  exact ⟨e, rs, hr, hl, hc, hwd⟩

theorem vec_cells {mem : Mem} (hw : WR w ρ mem) {h e b cap : Nat} {c : V} (hm : mget mem h = .vec e c) (hρ : ρ[h]? = some (.vec (some ⟨b, 0, none⟩) cap)) (hcap : 0 < cap) :
    ∃ cur, w.heap[b]? = some (.cells cur e (0, 0)) ∧ cap ≤ Go.maxLen ∧ cur.size = cap * c.wd ∧ c.cnt ≤ cap ∧ CR w ρ mem c (cur.toList.take (c.cnt * c.wd)) := by
  have hb := hw.blk h _ hρ
  rw [hm] at hb
  obtain ⟨a, cap', hrl, hle, hc⟩ := hb
  cases hrl
  rcases hc with ⟨h0, _⟩ | ⟨r, cur, _, ha, hr, hmx, hz, hc⟩
  · omega
  · cases ha
    exact ⟨cur, hr, hmx, hz, hle, hc⟩

theorem cell_at {b : Nat} {cur : Array Value} {e : TypeId} {fr : Nat × Nat} (h : w.heap[b]? = some (.cells cur e fr)) (j : Nat) : w.cell? ⟨b, j, none⟩ = cur[j]? := cell_of_row w b j cur e fr h

theorem sub_get {α : Type} (xs : List α) (o s j : Nat) (u : α) (h : (sub xs o s)[j]? = some u) : xs[o + j]? = some u := by
  unfold sub at h
  rw [List.getElem?_take] at h
  split at h
  · rwa [List.getElem?_drop] at h
  · cases h

/-- an operation that gives a value and leaves the world as it is -/
def Val (P : Program) (o : Oper) (a : Act) (σ : St) (w : World) (ρ : Rho) (k : V → Mem → List Nat → Option R) (x : R) : Prop :=
  ∃ v r, k v σ.mem [] = some x ∧ (execOp a.eval o).run P w = .ok (.value r) w ∧ VR w ρ σ.mem v r

theorem VR_of_VR1 {mem : Mem} {v : V} {r : Value} (h : VR1 w ρ mem v r) : VR w ρ mem v r := by
  cases v with
  | tup vs => exact (h : False).elim
  | _ => exact h

theorem load_ok (hT : TTok P tt) {o : Oper} {t : TypeId} {ad : Operand} (ho : o.op = .load t ad) {slot : Option Nat} {k : V → Mem → List Nat → Option R} {x : R} (hI : Inv σ a w ρ)
    (hx : opK tt tab slot o σ k = some x) : Val P o a σ w ρ k x := by
  unfold opK at hx
  simp only [ho] at hx
  have hv := hI.op ad
  split at hx
  case h_2 => cases hx
  rename_i ti hti
  obtain ⟨⟨i, hi, hsz, hby, zv, hz, hzr⟩, hd, h1, hp⟩ := hT _ _ hti
  have fin : ∀ (b off : Nat) (rs : List Value) (v : V), a.eval ad = .pointer (some ⟨b, off, none⟩) → k v σ.mem [] = some x → rs.length = ti.size → (∀ j u, rs[j]? = some u → w.cell? ⟨b, off + j, none⟩ = some u) →
      (ti.d.agg = true → VR1 w ρ σ.mem v (.agg rs.toArray)) → (ti.d.agg = false → ∃ r, rs[0]? = some r ∧ VR1 w ρ σ.mem v r) → Val P o a σ w ρ k x := by
    intro b off rs v hev hk hl hc hA hB
    cases hag : ti.d.agg with
    | true =>
      refine ⟨v, _, hk, ?_, VR_of_VR1 (hA hag)⟩
      simp only [execOp, ho, Instr.loadAt, Instr.sureAddr, hev, Sem.run_bind, Sem.run_pure, Result.andThen_ok, run_loadVar_agg hd hi hag (hl.trans hsz.symm) hc]
    | false =>
      obtain ⟨r, hr, hvr⟩ := hB hag
      refine ⟨v, r, hk, ?_, VR_of_VR1 hvr⟩
      have := hc 0 r hr
      simp only [execOp, ho, Instr.loadAt, Instr.sureAddr, hev, Sem.run_bind, Sem.run_pure, Result.andThen_ok, run_loadVar_one hd hag (by simpa using this)]
  split at hx
  · -- a pointer into a block
    rename_i h i' o' s he
    obtain ⟨hle, hx⟩ := cond_none hx
    have hle := Nat.le_of_ble_eq_true hle
    rw [he] at hv
    split at hx
    · rename_i n c hm
      rcases (hv : PtrR ρ σ.mem h i' o' s _) with ⟨n', c', b, hm', hρ, hev, hi0, hos⟩ | ⟨e, c', b, cap, hm', _⟩
      · rw [hm] at hm'
        cases hm'
        obtain ⟨e, rs, hh, hl, hc, hwd⟩ := var_cells hI.wr hm hρ
        obtain ⟨v, hk, hA, hB⟩ := loadV_spec hx hc hl hwd (Nat.le_trans (Nat.add_le_add_left hle _) hos) h1
        refine fin b o' (sub rs o' ti.size) v hev hk (sub_length _ _ _ (by omega)) (fun j u hu => ?_) hA (fun hag => ?_)
        · rw [cell_at hh]; simpa using sub_get rs o' ti.size j u hu
        · obtain ⟨r, hr, hvr⟩ := hB hag
          refine ⟨r, ?_, hvr⟩
          unfold sub
          rw [List.getElem?_take, if_pos (by rw [h1 hag]; omega), List.getElem?_drop]
          simpa using hr
      · rw [hm] at hm'; cases hm'
    · rename_i e c hm
      rcases (hv : PtrR ρ σ.mem h i' o' s _) with ⟨n', c', b, hm', _⟩ | ⟨e', c', b, cap, hm', hρ, hcap, hev, hi', hos⟩
      · rw [hm] at hm'; cases hm'
      · rw [hm] at hm'
        cases hm'
        obtain ⟨cur, hh, hmx, hz', hcl, hc⟩ := vec_cells hI.wr hm hρ hcap
        obtain ⟨v, hk, hA, hB⟩ := loadE_spec hx hc hi' (Nat.le_trans (Nat.add_le_add_left hle _) hos) h1
        have hlen := CR_len hc
        have hpos : i' * c.wd + o' + ti.size ≤ (cur.toList.take (c.cnt * c.wd)).length := by
          rw [hlen]
          have : (i' + 1) * c.wd ≤ c.cnt * c.wd := Nat.mul_le_mul_right _ hi'
          rw [Nat.add_mul, Nat.one_mul] at this
          omega
        refine fin b (i' * c.wd + o') (sub (cur.toList.take (c.cnt * c.wd)) (i' * c.wd + o') ti.size) v hev hk (sub_length _ _ _ hpos) (fun j u hu => ?_) hA (fun hag => ?_)
        · have h2 := sub_get _ _ _ j u hu
          rw [List.getElem?_take] at h2
          split at h2
          · rw [cell_at hh]; simpa using h2
          · cases h2
        · obtain ⟨r, hr, hvr⟩ := hB hag
          refine ⟨r, ?_, hvr⟩
          rw [show ∀ (l : List Value) (o s : Nat), (sub l o s)[0]? = if 0 < s then l[o]? else none from fun l o s => by unfold sub; rw [List.getElem?_take, List.getElem?_drop]; simp, if_pos (by rw [h1 hag]; omega)]
          exact hr
    · cases hx
  · rename_i c i' o' s he
    obtain ⟨hle, hx⟩ := cond_none hx
    have hle := Nat.le_of_ble_eq_true hle
    rw [he] at hv
    obtain ⟨b, off, rs, hev, hnl, hb, hc, hcell, hi', hos⟩ := hv
    obtain ⟨v, hk, hA, hB⟩ := loadE_spec hx hc hi' (Nat.le_trans (Nat.add_le_add_left hle _) hos) h1
    have hlen := CR_len hc
    have hpos : i' * c.wd + o' + ti.size ≤ rs.length := by
      rw [hlen]
      have : (i' + 1) * c.wd ≤ c.cnt * c.wd := Nat.mul_le_mul_right _ hi'
      rw [Nat.add_mul, Nat.one_mul] at this
      omega
    refine fin b (off + (i' * c.wd + o')) (sub rs (i' * c.wd + o') ti.size) v hev hk (sub_length _ _ _ hpos) (fun j u hu => ?_) hA (fun hag => ?_)
    · rw [Nat.add_assoc]
      exact hcell _ u (sub_get _ _ _ j u hu)
    · obtain ⟨r, hr, hvr⟩ := hB hag
      refine ⟨r, ?_, hvr⟩
      rw [show ∀ (l : List Value) (o s : Nat), (sub l o s)[0]? = if 0 < s then l[o]? else none from fun l o s => by unfold sub; rw [List.getElem?_take, List.getElem?_drop]; simp, if_pos (by rw [h1 hag]; omega)]
      exact hr
  · cases hx

/-! ### moves, tests -/
theorem move_ok {o : Oper} {y : Operand} (ho : o.op = .move y ∨ o.op = .assign y) {slot : Option Nat} {k : V → Mem → List Nat → Option R} {x : R} (hI : Inv σ a w ρ)
    (hx : opK tt tab slot o σ k = some x) : Val P o a σ w ρ k x := by
  rcases ho with ho | ho
  all_goals
    unfold opK at hx
    simp only [ho] at hx
    exact ⟨_, _, hx, by simp only [execOp, ho] <;> rfl, hI.op y⟩

theorem pick_ok {o : Oper} {c y z : Operand} (ho : o.op = .pick c y z) {slot : Option Nat} {k : V → Mem → List Nat → Option R} {x : R} (hI : Inv σ a w ρ)
    (hx : opK tt tab slot o σ k = some x) : Val P o a σ w ρ k x := by
  unfold opK at hx
  simp only [ho] at hx
  have hv := hI.op c
  split at hx
  · rename_i t he
    rw [he] at hv
    have hv : a.eval c = .bool t := hv
    have hx : (bif t then k (evO σ y) σ.mem [] else k (evO σ z) σ.mem []) = some x := by
      split at hx
      · rename_i h1 h2
        rw [h1, h2]
        cases t <;> exact hx
      · exact hx
    cases t
    · exact ⟨_, _, hx, by simp only [execOp, ho, hv, asBool, Sem.run_bind, Sem.run_pure, Result.andThen_ok] <;> rfl, hI.op z⟩
    · exact ⟨_, _, hx, by simp only [execOp, ho, hv, asBool, Sem.run_bind, Sem.run_pure, Result.andThen_ok] <;> rfl, hI.op y⟩
  · cases hx

theorem nilCheck_ok {o : Oper} {y : Operand} (ho : o.op = .nilCheck y) {slot : Option Nat} {k : V → Mem → List Nat → Option R} {x : R} (hI : Inv σ a w ρ)
    (hx : opK tt tab slot o σ k = some x) : Val P o a σ w ρ k x := by
  unfold opK at hx
  simp only [ho] at hx
  have hv := hI.op y
  split at hx
  · rename_i h i' o' s he
    rw [he] at hv
    have hp : ∃ p, a.eval y = .pointer (some p) := by
      rcases (hv : PtrR ρ σ.mem h i' o' s _) with ⟨n', c', b, hm', hρ, hev, _⟩ | ⟨e', c', b, cap, hm', hρ, hcap, hev, _⟩
      · exact ⟨_, hev⟩
      · exact ⟨_, hev⟩
    obtain ⟨p, hp⟩ := hp
    refine ⟨_, _, hx, ?_, hv⟩
    simp only [execOp, ho, hp] <;> rfl
  · rename_i c i' o' s he
    rw [he] at hv
    obtain ⟨b, off, rs, hev, hrest⟩ := hv
    refine ⟨_, _, hx, ?_, ⟨b, off, rs, hev, hrest⟩⟩
    simp only [execOp, ho, hev] <;> rfl
  · cases hx

theorem extract_ok {o : Oper} {y : Operand} {ix : Nat} (ho : o.op = .extract y ix) {slot : Option Nat} {k : V → Mem → List Nat → Option R} {x : R} (hI : Inv σ a w ρ)
    (hx : opK tt tab slot o σ k = some x) : Val P o a σ w ρ k x := by
  unfold opK at hx
  simp only [ho] at hx
  have hv := hI.op y
  split at hx
  · rename_i vs he
    rw [he] at hv
    obtain ⟨rs, hr, h2⟩ := hv
    split at hx
    · rename_i v hvs
      rcases all2_get h2 ix with ⟨x', y', hx', hy', hp⟩ | ⟨hx', _⟩
      · rw [hvs] at hx'
        cases hx'
        refine ⟨_, _, hx, ?_, VR_of_VR1 hp⟩
        have hy2 : (rs.toArray)[ix]? = some y' := by simpa using hy'
        simp only [execOp, ho, hr, Instr.extract, hy2, Sem.run_bind, Sem.run_pure, Result.andThen_ok]
      · rw [hvs] at hx'; cases hx'
    · cases hx
  · cases hx

theorem eqT_run (hT : TTok P tt) (hD : 6 ≤ P.depth) {t : TypeId} {n : Nat} (h : eqT tt t n = true) {xs ys : List Int} (hxl : xs.length = n) (hyl : ys.length = n) (w : World) :
    (Op.equalIn 10000 t (.agg (iv .i64 xs).toArray) (.agg (iv .i64 ys).toArray)).run P w = .ok (xs == ys) w ∧ P.eqGuardType P.depth t = false := by
  unfold eqT at h
  split at h
  · rename_i ti hti
    simp only [Bool.and_eq_true] at h
    obtain ⟨hag, h⟩ := h
    split at h
    · rename_i m hm
      have h := beq_eq' h
      subst h
      have hq := run_equalIn_ia hT 6 t m hm 10000 (by omega) xs ys hxl hyl w
      have htv : ∀ zs : List Int, tyV tt t zs = .agg (iv .i64 zs).toArray := fun zs => by
        unfold tyV
        rw [hti]
        rcases ti with ⟨td, s1, s2, s3⟩
        cases td <;> first | rfl | cases hag
      rw [htv, htv] at hq
      exact ⟨hq, eqGuardType_ia hT 6 t m hm _ hD⟩
    · cases h
  · cases h

theorem binK_ok (hT : TTok P tt) (hD : 6 ≤ P.depth) {op : BinOp} {t : TypeId} {u v : V} {k : V → Option R} {x : R} (hx : binK tt op t u v k = some x) {ro so : Operand} {r s : Value} (hr : VR w ρ σ.mem u r) (hs : VR w ρ σ.mem v s) :
    ∃ z q, k z = some x ∧ ((do eqGuard op t ro so r s; binOp op t r s : Sem Value)).run P w = .ok q w ∧ VR w ρ σ.mem z q := by
  unfold binK at hx
  split at hx
  · rename_i kd y kd' z
    have hr : r = .int kd y := hr
    have hs : s = .int kd' z := hs
    subst hr; subst hs
    have hg : (eqGuard op t ro so (.int kd y) (.int kd' z)).run P w = .ok () w := by
      cases op <;> simp [eqGuard]
    split at hx
    · obtain ⟨h1, hx⟩ := cond_none' hx
      have h1 : ¬ z < 0 := by simpa using h1
      exact ⟨_, _, hx, by simp only [Sem.run_bind, hg, Result.andThen_ok, binOp, Op.shift, h1, if_false, Sem.run_pure] <;> rfl, rfl⟩
    · obtain ⟨h1, hx⟩ := cond_none' hx
      have h1 : ¬ z < 0 := by simpa using h1
      exact ⟨_, _, hx, by simp only [Sem.run_bind, hg, Result.andThen_ok, binOp, Op.shift, h1, if_false, Sem.run_pure] <;> rfl, rfl⟩
    · rename_i hnl hnr
      obtain ⟨ek, hx2⟩ := decide_kind hx
      clear hx
      subst ek
      have hx := hx2
      clear hx2
      cases op
      case shl => exact absurd rfl hnl
      case shr => exact absurd rfl hnr
      case add => exact ⟨_, _, hx, by simp only [Sem.run_bind, hg, Result.andThen_ok, binOp, Op.intArith, ne_eq, not_true_eq_false, if_false, Sem.run_pure] <;> rfl, rfl⟩
      case sub => exact ⟨_, _, hx, by simp only [Sem.run_bind, hg, Result.andThen_ok, binOp, Op.intArith, ne_eq, not_true_eq_false, if_false, Sem.run_pure] <;> rfl, rfl⟩
      case mul => exact ⟨_, _, hx, by simp only [Sem.run_bind, hg, Result.andThen_ok, binOp, Op.intArith, ne_eq, not_true_eq_false, if_false, Sem.run_pure] <;> rfl, rfl⟩
      case quo =>
        obtain ⟨h1, hx⟩ := cond_none' hx
        have h1 : ¬ z = 0 := by simpa using h1
        exact ⟨_, _, hx, by simp only [Sem.run_bind, hg, Result.andThen_ok, binOp, Op.intDiv, h1, ne_eq, not_true_eq_false, if_false, Sem.run_pure] <;> rfl, rfl⟩
      case rem =>
        obtain ⟨h1, hx⟩ := cond_none' hx
        have h1 : ¬ z = 0 := by simpa using h1
        exact ⟨_, _, hx, by simp only [Sem.run_bind, hg, Result.andThen_ok, binOp, Op.intDiv, h1, ne_eq, not_true_eq_false, if_false, Sem.run_pure] <;> rfl, rfl⟩
      case and => exact ⟨_, _, hx, by simp only [Sem.run_bind, hg, Result.andThen_ok, binOp, Op.intBits, ne_eq, not_true_eq_false, if_false, Sem.run_pure] <;> rfl, rfl⟩
      case or => exact ⟨_, _, hx, by simp only [Sem.run_bind, hg, Result.andThen_ok, binOp, Op.intBits, ne_eq, not_true_eq_false, if_false, Sem.run_pure] <;> rfl, rfl⟩
      case xor => exact ⟨_, _, hx, by simp only [Sem.run_bind, hg, Result.andThen_ok, binOp, Op.intBits, ne_eq, not_true_eq_false, if_false, Sem.run_pure] <;> rfl, rfl⟩
      case andNot => exact ⟨_, _, hx, by simp only [Sem.run_bind, hg, Result.andThen_ok, binOp, Op.intBits, ne_eq, not_true_eq_false, if_false, Sem.run_pure] <;> rfl, rfl⟩
      case eql => exact ⟨_, _, hx, by simp only [Sem.run_bind, hg, Result.andThen_ok, binOp, Op.intCmp, ne_eq, not_true_eq_false, if_false, Sem.run_pure] <;> rfl, rfl⟩
      case neq => exact ⟨_, _, hx, by simp only [Sem.run_bind, hg, Result.andThen_ok, binOp, Op.intCmp, ne_eq, not_true_eq_false, if_false, Sem.run_pure] <;> rfl, rfl⟩
      case lss => exact ⟨_, _, hx, by simp only [Sem.run_bind, hg, Result.andThen_ok, binOp, Op.intCmp, ne_eq, not_true_eq_false, if_false, Sem.run_pure] <;> rfl, rfl⟩
      case leq => exact ⟨_, _, hx, by simp only [Sem.run_bind, hg, Result.andThen_ok, binOp, Op.intCmp, ne_eq, not_true_eq_false, if_false, Sem.run_pure] <;> rfl, rfl⟩
      case gtr => exact ⟨_, _, hx, by simp only [Sem.run_bind, hg, Result.andThen_ok, binOp, Op.intCmp, ne_eq, not_true_eq_false, if_false, Sem.run_pure] <;> rfl, rfl⟩
      case geq => exact ⟨_, _, hx, by simp only [Sem.run_bind, hg, Result.andThen_ok, binOp, Op.intCmp, ne_eq, not_true_eq_false, if_false, Sem.run_pure] <;> rfl, rfl⟩
  · rename_i n xs n' ys
    obtain ⟨hxl, hr⟩ := VR_ints hr
    obtain ⟨hyl, hs⟩ := VR_ints hs
    subst hr; subst hs
    have key : (Nat.beq n n' && eqT tt t n) = true → (Op.equalIn 10000 t (.agg (iv .i64 xs).toArray) (.agg (iv .i64 ys).toArray)).run P w = .ok (xs == ys) w ∧ P.eqGuardType P.depth t = false := by
      intro h
      simp only [Bool.and_eq_true] at h
      exact eqT_run hT hD h.2 hxl (hyl.trans (beq_eq' h.1).symm) w
    split at hx
    · obtain ⟨h1, hx⟩ := cond_none hx
      obtain ⟨h2, h3⟩ := key h1
      refine ⟨_, _, hx, ?_, rfl⟩
      simp only [Sem.run_bind, run_eqGuard_agg w _ _ _ _ _ _ h3, Result.andThen_ok, run_eql_struct, h2]
    · obtain ⟨h1, hx⟩ := cond_none hx
      obtain ⟨h2, h3⟩ := key h1
      refine ⟨_, _, hx, ?_, rfl⟩
      simp only [Sem.run_bind, run_eqGuard_agg w _ _ _ _ _ _ h3, Result.andThen_ok, run_neq_struct, h2]
    · cases hx
  · rename_i y z
    have hr : r = .bool y := hr
    have hs : s = .bool z := hs
    subst hr; subst hs
    split at hx
    · rename_i hl
      have hd : P.underlying t = some .bool := (hT _ _ hl).desc
      split at hx
      · refine ⟨_, _, hx, ?_, rfl⟩
        simp [eqGuard, binOp, Op.equal, Op.maxDepth, run_equalIn_bool' w 9999 t y z hd]
      · refine ⟨_, _, hx, ?_, rfl⟩
        simp [eqGuard, binOp, Op.equal, Op.maxDepth, run_equalIn_bool' w 9999 t y z hd]
      · cases hx
    · cases hx
  · cases hx

theorem binOp_ok (hT : TTok P tt) (hD : 6 ≤ P.depth) {o : Oper} {op : BinOp} {t t' : TypeId} {y z : Operand} (ho : o.op = .binOp op t y z t') {slot : Option Nat} {k : V → Mem → List Nat → Option R} {x : R} (hI : Inv σ a w ρ)
    (hx : opK tt tab slot o σ k = some x) : Val P o a σ w ρ k x := by
  unfold opK at hx
  simp only [ho] at hx
  obtain ⟨v, q, hk, hr, hv⟩ := binK_ok (P := P) (ro := y) (so := z) hT hD hx (hI.op y) (hI.op z)
  refine ⟨v, q, hk, ?_, hv⟩
  simp only [execOp, ho]
  rw [Sem.run_bind, hr]
  rfl

theorem unOp_ok {o : Oper} {op : UnOp} {t : TypeId} {y : Operand} (ho : o.op = .unOp op t y) {slot : Option Nat} {k : V → Mem → List Nat → Option R} {x : R} (hI : Inv σ a w ρ)
    (hx : opK tt tab slot o σ k = some x) : Val P o a σ w ρ k x := by
  unfold opK at hx
  simp only [ho] at hx
  have hv := hI.op y
  unfold unK at hx
  split at hx
  · rename_i b he
    rw [he] at hv
    have hv : a.eval y = .bool b := hv
    exact ⟨_, _, hx, by simp only [execOp, ho, hv, Op.unary, Sem.run_bind, Sem.run_pure, Result.andThen_ok] <;> rfl, rfl⟩
  · rename_i kd n he
    rw [he] at hv
    have hv : a.eval y = .int kd n := hv
    exact ⟨_, _, hx, by simp only [execOp, ho, hv, Op.unary, Op.intArith, Sem.run_bind, Sem.run_pure, Result.andThen_ok] <;> rfl, rfl⟩
  · cases hx

theorem DR_some {t : TypeId} {d : D} (h : DR P t d) : ∃ u, P.underlying t = some u := by
  cases d with
  | struct fs => obtain ⟨f, h, _⟩ := h; exact ⟨_, h⟩
  | other => obtain ⟨u, h, _⟩ := h; exact ⟨_, h⟩
  | _ => exact ⟨_, h⟩

theorem convert_ok (hT : TTok P tt) {o : Oper} {src dst : TypeId} {y : Operand} (ho : o.op = .convert src dst y) {slot : Option Nat} {k : V → Mem → List Nat → Option R} {x : R} (hI : Inv σ a w ρ)
    (hx : opK tt tab slot o σ k = some x) : Val P o a σ w ρ k x := by
  unfold opK at hx
  simp only [ho] at hx
  have hv := hI.op y
  split at hx
  · rename_i hls
    obtain ⟨u, hu⟩ := DR_some (hT _ _ hls).desc
    split at hx
    · rename_i hl
      have hd : P.underlying dst = _ := (hT _ _ hl).desc
      split at hx
      · rename_i kd' n he
        rw [he] at hv
        have hv : a.eval y = .int kd' n := hv
        refine ⟨_, _, hx, ?_, rfl⟩
        simp only [execOp, ho, hv, convert, Sem.run_bind, run_underlying hu w, run_underlying hd w, Result.andThen_ok, Conv.intToInt, Sem.run_pure]
      · cases hx
    · cases hx
  · cases hx

/-! ### addresses -/
theorem inR_spec {i : Int} {n : Nat} (h : inR i n = true) : 0 ≤ i ∧ i < n ∧ i.toNat < n := by
  unfold inR at h
  split at h
  · rename_i k
    have := Nat.blt_eq.mp h
    refine ⟨by simp, ?_, ?_⟩
    · show ((k : Int) < (n : Int)); omega
    · simpa using this
  · cases h
theorem inLe_spec {i : Int} {n : Nat} (h : inLe i n = true) : 0 ≤ i ∧ i ≤ n ∧ i.toNat ≤ n := by
  unfold inLe at h
  split at h
  · rename_i k
    have := Nat.le_of_ble_eq_true h
    refine ⟨by simp, ?_, ?_⟩
    · show ((k : Int) ≤ (n : Int)); omega
    · simpa using this
  · cases h

theorem idxK_spec {v : V} {n : Nat} {k : Nat → Option R} {x : R} (h : idxK v n k = some x) : ∃ kd i, v = .int kd i ∧ 0 ≤ i ∧ i < n ∧ i.toNat < n ∧ k i.toNat = some x := by
  unfold idxK at h
  split at h
  · rename_i kd i
    obtain ⟨h1, h2⟩ := cond_none h
    obtain ⟨a, b, c⟩ := inR_spec h1
    exact ⟨kd, i, rfl, a, b, c, h2⟩
  · cases h

theorem run_indexAt_array {t e : TypeId} {n : Nat} {i : TypeInfo} (hu : P.underlying t = some (.array n e)) (hi : P.info? e = some i) (ad : Addr) (kd : IntKind) (j : Int) (h0 : 0 ≤ j) (h1 : j < n) :
    (Instr.indexAt t (.pointer (some ad)) (.int kd j)).run P w = .ok (.pointer (some (ad.add (j.toNat * i.size)))) w := by
  simp [Instr.indexAt, asIntOf, run_underlying hu, Instr.sureAddr, h0, h1, run_sizeOf hi]

theorem run_indexAt_slice {t e : TypeId} {i : TypeInfo} (hu : P.underlying t = some (.slice e)) (hi : P.info? e = some i) (ad : Addr) (n c : Nat) (kd : IntKind) (j : Int) (h0 : 0 ≤ j) (h1 : j < n) :
    (Instr.indexAt t (.slice (some ad) n c) (.int kd j)).run P w = .ok (.pointer (some (ad.add (j.toNat * i.size)))) w := by
  simp [Instr.indexAt, asIntOf, run_underlying hu, Instr.sureAddr, h0, h1, run_sizeOf hi]

theorem Addr_add_add (b o j k : Nat) : ((⟨b, o, none⟩ : Addr).add j) = ⟨b, o + j, none⟩ := add_none b o j

theorem mul_bound {j n s : Nat} (h : j < n) : j * s + s ≤ n * s := by
  have : (j + 1) * s ≤ n * s := Nat.mul_le_mul_right _ h
  rwa [Nat.add_mul, Nat.one_mul] at this

theorem RoR_ptr {mem : Mem} {c : V} {rs : List Value} {r : Value} (hcr : CR w ρ mem c rs) (hro : RoR w ρ mem rs c.wd c.cnt r) {j : Nat} (hj : j < c.cnt) :
    ∃ ad n cap, r = .slice (some ad) n cap ∧ n = c.cnt ∧ ∀ s, s ≤ c.wd → VR1 w ρ mem (.rp c j 0 s) (.pointer (some (ad.add (j * c.wd)))) := by
  obtain ⟨ao, cap, rfl, hnc, hl, hc⟩ := hro
  obtain ⟨b, off, rfl, hn, hb, hcell⟩ := hc (by omega)
  refine ⟨_, _, _, rfl, rfl, fun s hs => ?_⟩
  rw [add_none]
  exact ⟨b, off, rs, by simp, hn, hb, hcr, hcell, hj, by simpa using hs⟩

theorem indexAddr_ok (hT : TTok P tt) {o : Oper} {t : TypeId} {y z : Operand} (ho : o.op = .indexAddr t y z) {slot : Option Nat} {k : V → Mem → List Nat → Option R} {x : R} (hI : Inv σ a w ρ)
    (hx : opK tt tab slot o σ k = some x) : Val P o a σ w ρ k x := by
  unfold opK at hx
  simp only [ho] at hx
  have hv := hI.op y
  have hz := hI.op z
  unfold addrK at hx
  split at hx
  · rename_i len e s0 b0 zz hl
    have hu : P.underlying t = _ := (hT _ _ hl).desc
    split at hx
    · rename_i te hle
      obtain ⟨⟨ie, hie, hsz, _⟩, hde, _, hpos⟩ := hT _ _ hle
      split at hx
      · rename_i h i' o' s he
        obtain ⟨hb, hx⟩ := cond_none hx
        have hb := Nat.le_of_ble_eq_true hb
        obtain ⟨kd, j, hzi, h0, h1, h2, hk⟩ := idxK_spec hx
        rw [hzi] at hz
        have hz : a.eval z = .int kd j := hz
        rw [he] at hv
        have hmb := mul_bound (s := te.size) h2
        rcases (hv : PtrR ρ σ.mem h i' o' s _) with ⟨n, c, b, hm, hρ, hev, hi0, hos⟩ | ⟨e', c, b, cap, hm, hρ, hcap, hev, hi', hos⟩
        · refine ⟨_, _, hk, by simp only [execOp, ho, hev, hz, Sem.run_bind, run_indexAt_array hu hie _ _ _ h0 h1, Result.andThen_ok, Sem.run_pure] <;> rfl, ?_⟩
          rw [add_none, hsz]
          exact .inl ⟨n, c, b, hm, hρ, rfl, hi0, by omega⟩
        · refine ⟨_, _, hk, by simp only [execOp, ho, hev, hz, Sem.run_bind, run_indexAt_array hu hie _ _ _ h0 h1, Result.andThen_ok, Sem.run_pure] <;> rfl, ?_⟩
          rw [add_none, hsz, Nat.add_assoc]
          exact .inr ⟨e', c, b, cap, hm, hρ, hcap, rfl, hi', by omega⟩
      · rename_i c i' o' s he
        obtain ⟨hb, hx⟩ := cond_none hx
        have hb := Nat.le_of_ble_eq_true hb
        obtain ⟨kd, j, hzi, h0, h1, h2, hk⟩ := idxK_spec hx
        rw [hzi] at hz
        have hz : a.eval z = .int kd j := hz
        rw [he] at hv
        have hmb := mul_bound (s := te.size) h2
        obtain ⟨b, off, rs, hev, hn, hbb, hcr, hcell, hi', hos⟩ := hv
        refine ⟨_, _, hk, by simp only [execOp, ho, hev, hz, Sem.run_bind, run_indexAt_array hu hie _ _ _ h0 h1, Result.andThen_ok, Sem.run_pure] <;> rfl, ?_⟩
        rw [add_none, hsz]
        exact ⟨b, off, rs, by rw [Nat.add_assoc, Nat.add_assoc], hn, hbb, hcr, hcell, hi', by omega⟩
      · cases hx
    · cases hx
  · rename_i e s0 b0 zz hl
    have hu : P.underlying t = _ := (hT _ _ hl).desc
    split at hx
    · rename_i te hle
      obtain ⟨⟨ie, hie, hsz, _⟩, hde, _, hpos⟩ := hT _ _ hle
      split at hx
      · rename_i h off n he
        split at hx
        · rename_i e' c hm
          obtain ⟨hb, hx⟩ := cond_none hx
          have hb := beq_eq' hb
          obtain ⟨kd, j, hzi, h0, h1, h2, hk⟩ := idxK_spec hx
          rw [hzi] at hz
          have hz : a.eval z = .int kd j := hz
          rw [he] at hv
          obtain ⟨e'', c', ao, cap, hm', hρ, hle', hvv⟩ := hv
          rw [hm] at hm'
          cases hm'
          have hbk := hI.wr.blk h _ hρ
          rw [hm] at hbk
          obtain ⟨a2, cap2, hrl, hcl, hc⟩ := hbk
          cases hrl
          have hcap : 0 < cap := by omega
          rcases hc with ⟨h00, _⟩ | ⟨r, cur, _, rfl, hr, _⟩
          · omega
          have hres : ∃ ad n2 c2, a.eval y = .slice (some ad) n2 c2 ∧ n2 = n ∧ ad = ⟨r, off * c.wd, none⟩ := by
            rcases hvv with ⟨rfl, hev⟩ | ⟨_, a', cap', hev, hnc', hh⟩
            · exact ⟨_, _, _, hev, rfl, by simp⟩
            · obtain ⟨b, hb1, hb2⟩ := hh (by omega)
              cases hb1
              rw [hb2] at hev
              exact ⟨_, _, _, hev, rfl, rfl⟩
          obtain ⟨ad, n2, c2, hev, rfl, rfl⟩ := hres
          refine ⟨_, _, hk, by simp only [execOp, ho, hev, hz, Sem.run_bind, run_indexAt_slice hu hie _ _ _ _ _ h0 h1, Result.andThen_ok, Sem.run_pure] <;> rfl, ?_⟩
          rw [add_none, hsz, hb]
          refine .inr ⟨e', c, r, cap, hm, hρ, hcap, ?_, by omega, by simp⟩
          rw [Nat.add_mul, Nat.add_zero]
        · cases hx
      · rename_i h oo s n he
        obtain ⟨hb, hx⟩ := cond_none hx
        have hb := beq_eq' hb
        obtain ⟨kd, j, hzi, h0, h1, h2, hk⟩ := idxK_spec hx
        rw [hzi] at hz
        have hz : a.eval z = .int kd j := hz
        rw [he] at hv
        obtain ⟨m, c, b, hm, hρ, hle', hs0, a', cap', hev, hnc', hh⟩ := hv
        have ha' := hh (by omega)
        subst ha'
        have hmb := mul_bound (s := s) h2
        refine ⟨_, _, hk, by simp only [execOp, ho, hev, hz, Sem.run_bind, run_indexAt_slice hu hie _ _ _ _ _ h0 h1, Result.andThen_ok, Sem.run_pure] <;> rfl, ?_⟩
        rw [add_none, hsz, ← hb]
        exact .inl ⟨m, c, b, hm, hρ, rfl, rfl, by omega⟩
      · rename_i kd xs he
        obtain ⟨hb, hx⟩ := cond_none hx
        have hte := beq_eq' hb
        obtain ⟨kd', j, hzi, h0, h1, h2, hk⟩ := idxK_spec hx
        rw [hzi] at hz
        have hz : a.eval z = .int kd' j := hz
        rw [he] at hv
        have hro : RoR w ρ σ.mem (iv kd xs) 1 xs.length (a.eval y) := hv
        have hcr : CR w ρ σ.mem (.ri kd xs) (iv kd xs) := rfl
        obtain ⟨ad, n2, c2, hev, hn2, hp⟩ := RoR_ptr hcr hro (j := j.toNat) h2
        have hj2 : j < (n2 : Int) := by rw [hn2]; exact h1
        refine ⟨_, _, hk, by simp only [execOp, ho, hev, hz, Sem.run_bind, run_indexAt_slice hu hie _ _ _ _ _ h0 hj2, Result.andThen_ok, Sem.run_pure] <;> rfl, ?_⟩
        have h3 := hp 1 (Nat.le_refl _)
        refine VR_of_VR1 ?_
        simpa [hsz, hte, V.wd] using h3
      · rename_i bs he
        obtain ⟨hb, hx⟩ := cond_none hx
        have hte := beq_eq' hb
        obtain ⟨kd', j, hzi, h0, h1, h2, hk⟩ := idxK_spec hx
        rw [hzi] at hz
        have hz : a.eval z = .int kd' j := hz
        rw [he] at hv
        have hro : RoR w ρ σ.mem (bv bs) 1 bs.length (a.eval y) := hv
        have hcr : CR w ρ σ.mem (.rb bs) (bv bs) := rfl
        obtain ⟨ad, n2, c2, hev, hn2, hp⟩ := RoR_ptr hcr hro (j := j.toNat) h2
        have hj2 : j < (n2 : Int) := by rw [hn2]; exact h1
        refine ⟨_, _, hk, by simp only [execOp, ho, hev, hz, Sem.run_bind, run_indexAt_slice hu hie _ _ _ _ _ h0 hj2, Result.andThen_ok, Sem.run_pure] <;> rfl, ?_⟩
        have h3 := hp 1 (Nat.le_refl _)
        refine VR_of_VR1 ?_
        simpa [hsz, hte, V.wd] using h3
      · rename_i m xss he
        obtain ⟨hb, hx⟩ := cond_none hx
        have hte := beq_eq' hb
        obtain ⟨kd', j, hzi, h0, h1, h2, hk⟩ := idxK_spec hx
        rw [hzi] at hz
        have hz : a.eval z = .int kd' j := hz
        rw [he] at hv
        obtain ⟨hrows, hro⟩ := hv
        have hcr : CR w ρ σ.mem (.rr m xss) (iv .i64 xss.flatten) := ⟨hrows, rfl⟩
        obtain ⟨ad, n2, c2, hev, hn2, hp⟩ := RoR_ptr hcr hro (j := j.toNat) h2
        have hj2 : j < (n2 : Int) := by rw [hn2]; exact h1
        refine ⟨_, _, hk, by simp only [execOp, ho, hev, hz, Sem.run_bind, run_indexAt_slice hu hie _ _ _ _ _ h0 hj2, Result.andThen_ok, Sem.run_pure] <;> rfl, ?_⟩
        have h3 := hp m (Nat.le_refl _)
        refine VR_of_VR1 ?_
        simpa [hsz, hte, V.wd] using h3
      · rename_i vs he
        obtain ⟨hb, hx⟩ := cond_none hx
        have hte := beq_eq' hb
        obtain ⟨kd', j, hzi, h0, h1, h2, hk⟩ := idxK_spec hx
        rw [hzi] at hz
        have hz : a.eval z = .int kd' j := hz
        rw [he] at hv
        obtain ⟨rs, hro, h22⟩ := hv
        have hcr : CR w ρ σ.mem (.rv vs) rs := forall2_mono h22 fun x y _ h => VF_of_VG h
        obtain ⟨ad, n2, c2, hev, hn2, hp⟩ := RoR_ptr hcr hro (j := j.toNat) h2
        have hj2 : j < (n2 : Int) := by rw [hn2]; exact h1
        refine ⟨_, _, hk, by simp only [execOp, ho, hev, hz, Sem.run_bind, run_indexAt_slice hu hie _ _ _ _ _ h0 hj2, Result.andThen_ok, Sem.run_pure] <;> rfl, ?_⟩
        have h3 := hp 1 (Nat.le_refl _)
        refine VR_of_VR1 ?_
        simpa [hsz, hte, V.wd] using h3
      · cases hx
    · cases hx
  · cases hx

end
end Go.Lv
