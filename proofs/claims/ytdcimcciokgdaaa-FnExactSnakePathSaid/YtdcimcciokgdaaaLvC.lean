/-
The operations of the abstract machine, sound: those that leave the memory alone.
-/
import Derived.Test.YtdcimcciokgdaaaLvB
import Derived.DeepKeys
namespace Go.Lv
open Go.RowKit
set_option linter.unusedVariables false
set_option linter.unusedSimpArgs false
set_option linter.unusedSectionVars false
variable [fr : Fr]

/-! ### types -/
def ZR (z : V) (r : Value) : Prop :=
  match z with
  | .bool b => r = .bool b
  | .int k n => r = .int k n
  | .z0 => r = .slice none 0 0
  | .ints n xs => xs.length = n ∧ r = .agg (iv .i64 xs).toArray
  | .bools n bs => bs.length = n ∧ r = .agg (bv bs).toArray
  | .agg vs => ∃ rs : List Value, r = .agg rs.toArray ∧ All2 (fun v r => match v with
      | .bool b => r = .bool b
      | .int k n => r = .int k n
      | .z0 => r = .slice none 0 0
      | _ => False) vs rs
  | .any => r.oneCell' = true
  | _ => False

def DR (P : Program) (t : TypeId) (d : D) : Prop :=
  match d with
  | .bool => P.underlying t = some .bool
  | .int k => P.underlying t = some (.int k)
  | .struct fs => ∃ fields : Array Field, P.underlying t = some (.struct fields) ∧ fields.toList.map (fun (f : Field) => (f.offset, f.type)) = fs ∧ P.stoodInHeld t = false ∧ ∀ f ∈ fields.toList, f.name ≠ "_"
  | .array n e => P.underlying t = some (.array n e)
  | .slice e => P.underlying t = some (.slice e)
  | .map k e => P.underlying t = some (.map k e)
  | .other => ∃ u, P.underlying t = some u ∧ (match u with | .struct _ | .array _ _ => false | _ => true) = true

structure TIok (P : Program) (t : TypeId) (ti : TI) : Prop where
  info : ∃ i : TypeInfo, P.info? t = some i ∧ i.size = ti.size ∧ i.bytes = ti.bytes ∧ ∃ zv, i.zero = some zv ∧ ZR ti.z zv
  desc : DR P t ti.d
  one : ti.d.agg = false → ti.size = 1
  pos : 0 < ti.size
  zsz : ti.z.sz = ti.size

def TTok (P : Program) (tt : TT) : Prop := ∀ t ti, look tt t = some ti → TIok P t ti

/-! ### states -/
structure Inv (σ : St) (a : Act) (w : World) (ρ : Rho) : Prop where
  defers : a.defers = []
  wr : WR w ρ σ.mem
  tmps : All2 (VR w ρ σ.mem) σ.tmps a.tmps.toList

theorem all2_get {α β : Type} {P : α → β → Prop} {xs : List α} {ys : List β} (h : All2 P xs ys) : ∀ n : Nat, (∃ x y, xs[n]? = some x ∧ ys[n]? = some y ∧ P x y) ∨ (xs[n]? = none ∧ ys[n]? = none) := by
  induction h with
  | nil => intro n; exact .inr ⟨rfl, rfl⟩
  | cons hp _ ih =>
    intro n
    cases n with
    | zero => exact .inl ⟨_, _, rfl, rfl, hp⟩
    | succ n => simpa using ih n

theorem all2_length {α β : Type} {P : α → β → Prop} {xs : List α} {ys : List β} (h : All2 P xs ys) : xs.length = ys.length := by
  induction h with
  | nil => rfl
  | cons _ _ ih => simp [ih]

theorem vget_eq (vs : List V) (n : Nat) : vget vs n = vs[n]?.getD .any := by
  induction vs generalizing n with
  | nil => rfl
  | cons a r ih => cases n <;> simp [vget, ih]

section
variable {P : Program} {tt : TT} {tab : Tab} {σ : St} {a : Act} {w : World} {ρ : Rho}

theorem Inv.tmp (h : Inv σ a w ρ) (t : Tmp) : VR w ρ σ.mem (vget σ.tmps t) (a.tmps.getD t Go.undef) := by
  rw [vget_eq]
  rcases all2_get h.tmps t with ⟨x, y, hx, hy, hp⟩ | ⟨hx, hy⟩
  · rw [hx]
    have : a.tmps.getD t Go.undef = y := by
      rw [Array.getElem?_toList] at hy
      simp [Array.getD_eq_getD_getElem?, hy]
    rw [this]; exact hp
  · rw [hx]; trivial

theorem Inv.op (h : Inv σ a w ρ) (x : Operand) : VR w ρ σ.mem (evO σ x) (a.eval x) := by
  cases x with
  | tmp t => exact h.tmp t
  | const v =>
    cases v with
    | bool b => exact rfl
    | int k n => exact rfl
    | slice ad len cap =>
      cases ad with
      | none =>
        cases len with
        | zero =>
          cases cap with
          | zero => exact ⟨none, rfl⟩
          | succ n => trivial
        | succ n => trivial
      | some p => trivial
    | _ => trivial
  | global g => trivial
  | func f => exact ⟨[], [], rfl, .nil, .nil⟩

theorem Inv.ops (h : Inv σ a w ρ) (xs : Array Operand) : All2 (VR w ρ σ.mem) (opVals σ xs) (xs.map a.eval).toList := by
  unfold opVals
  rw [Array.toList_map]
  generalize xs.toList = l
  induction l with
  | nil => exact .nil
  | cons x r ih => exact .cons (h.op x) ih

/-- In every world above this one the operation gives the value, and nothing else happens. -/
def Gives (P : Program) (w : World) (s : Sem Value) (r : Value) : Prop := ∀ w', Below w.heap.size w w' → s.run P w' = .ok r w'

theorem Gives.pure (r : Value) : Gives P w (Pure.pure r) r := fun w' _ => rfl

theorem run_underlying' {t : TypeId} {d : TypeDesc} (h : P.underlying t = some d) (w : World) : (underlying t).run P w = .ok d w := run_underlying h w

theorem run_sizeOf {t : TypeId} {i : TypeInfo} (h : P.info? t = some i) (w : World) : (sizeOf t).run P w = .ok i.size w := by
  simp [sizeOf, typeInfo, h]

theorem run_zeroValue {t : TypeId} {i : TypeInfo} {z : Value} (h : P.info? t = some i) (hz : i.zero = some z) (w : World) : (zeroValue t).run P w = .ok z w := by
  simp [zeroValue, typeInfo, h, hz]

theorem isAgg_of_DR {t : TypeId} {d : D} (h : DR P t d) (w : World) : (isAgg t).run P w = .ok d.agg w := by
  unfold isAgg
  cases d with
  | bool => rw [Sem.run_bind, run_underlying h w]; rfl
  | int k => rw [Sem.run_bind, run_underlying h w]; rfl
  | struct fs => obtain ⟨f, h, _⟩ := h; rw [Sem.run_bind, run_underlying h w]; rfl
  | array n e => rw [Sem.run_bind, run_underlying h w]; rfl
  | slice e => rw [Sem.run_bind, run_underlying h w]; rfl
  | map k e => rw [Sem.run_bind, run_underlying h w]; rfl
  | other => obtain ⟨u, h, hu⟩ := h; rw [Sem.run_bind, run_underlying h w]; cases u <;> first | rfl | cases hu

/-! ### arithmetic -/
theorem decide_kind {R : Type} {k k' : IntKind} {x : Option R} {y : R} (h : (bif decide (k = k') then x else none) = some y) : k = k' ∧ x = some y := by
  by_cases e : k = k'
  · simp [e] at h; exact ⟨e, h⟩
  · simp [e] at h

theorem cond_none {R : Type} {b : Bool} {x : Option R} {y : R} (h : (bif b then x else none) = some y) : b = true ∧ x = some y := by
  cases b
  · cases h
  · exact ⟨rfl, h⟩
theorem cond_none' {R : Type} {b : Bool} {x : Option R} {y : R} (h : (bif b then none else x) = some y) : b = false ∧ x = some y := by
  cases b
  · exact ⟨rfl, h⟩
  · cases h


/-! ### equality of what is made of ints -/
/-- ints as a value of a type -/
def cellsV (d : D) (xs : List Int) : Value :=
  match d with
  | .int _ => .int .i64 (iget xs 0)
  | _ => .agg (iv .i64 xs).toArray

theorem iv_length (k : IntKind) (xs : List Int) : (iv k xs).length = xs.length := by simp [iv]
theorem bv_length (bs : List Bool) : (bv bs).length = bs.length := by simp [bv]
theorem iv_get (k : IntKind) (xs : List Int) (i : Nat) (h : i < xs.length) : (iv k xs)[i]? = some (.int k (iget xs i)) := by
  induction xs generalizing i with
  | nil => simp at h
  | cons x r ih =>
    cases i with
    | zero => rfl
    | succ i => simpa [iv, iget] using ih i (by simpa using h)
theorem bv_get (bs : List Bool) (i : Nat) (h : i < bs.length) : (bv bs)[i]? = some (.bool (bget bs i)) := by
  induction bs generalizing i with
  | nil => simp at h
  | cons x r ih =>
    cases i with
    | zero => rfl
    | succ i => simpa [bv, bget] using ih i (by simpa using h)
theorem iv_sub (k : IntKind) (xs : List Int) (o s : Nat) : iv k (sub xs o s) = sub (iv k xs) o s := by simp [iv, sub, List.map_take, List.map_drop]
theorem bv_sub (xs : List Bool) (o s : Nat) : bv (sub xs o s) = sub (bv xs) o s := by simp [bv, sub, List.map_take, List.map_drop]
theorem sub_length {α : Type} (xs : List α) (o s : Nat) (h : o + s ≤ xs.length) : (sub xs o s).length = s := by simp [sub]; omega
theorem iget_sub (xs : List Int) (o s i : Nat) (h : i < s) : iget (sub xs o s) i = iget xs (o + i) := by
  have key : ∀ (xs : List Int) (i : Nat), iget xs i = xs[i]?.getD 0 := by
    intro xs
    induction xs with
    | nil => intro i; rfl
    | cons x r ih => intro i; cases i <;> simp [iget, ih]
  rw [key, key, sub, List.getElem?_take, if_pos h, List.getElem?_drop]
theorem extract_sub (vs : List Value) (o s : Nat) : (vs.toArray.extract o (o + s)) = (sub vs o s).toArray := by
  apply Array.ext'
  simp [sub, List.take_drop]

theorem subn_eq {α : Type} (xs : List α) (o s : Nat) : subn xs.length xs o s = sub xs o s := by
  unfold subn
  by_cases h1 : o = 0
  · by_cases h2 : s = xs.length
    · subst h1; subst h2; simp [sub]
    · have : Nat.beq s xs.length = false := by rw [← Bool.not_eq_true, Nat.beq_eq]; exact h2
      simp [this]
  · have : Nat.beq o 0 = false := by rw [← Bool.not_eq_true, Nat.beq_eq]; exact h1
    simp [this]

theorem beq_eq' {m n : Nat} (h : Nat.beq m n = true) : m = n := Nat.eq_of_beq_eq_true h

section eqs

theorem ia_size {d : Nat} {t : TypeId} {n : Nat} (h : ia tt d t = some n) : ∃ ti, look tt t = some ti ∧ ti.size = n := by
  cases d with
  | zero => simp [ia] at h
  | succ d =>
    simp only [ia] at h
    split at h
    · rename_i hl
      obtain ⟨h1, h2⟩ := cond_none h
      simp only [Option.some.injEq] at h2
      exact ⟨_, hl, by rw [← h2]; exact beq_eq' h1⟩
    · rename_i hl
      split at h
      · obtain ⟨h1, h2⟩ := cond_none h
        simp only [Option.some.injEq] at h2
        exact ⟨_, hl, by rw [← h2]; exact beq_eq' h1⟩
      · cases h
    · rename_i hl
      split at h
      · obtain ⟨h1, h2⟩ := cond_none h
        simp only [Option.some.injEq] at h2
        exact ⟨_, hl, by rw [← h2]; exact beq_eq' h1⟩
      · cases h
    · cases h

/-- how a type's value is made of ints -/
def tyV (tt : TT) (t : TypeId) (xs : List Int) : Value :=
  match look tt t with
  | some ti => cellsV ti.d xs
  | none => .agg (iv .i64 xs).toArray

theorem run_part_ia (hT : TTok P tt) {d : Nat} {t : TypeId} {n : Nat} (h : ia tt d t = some n) (xs : List Int) (o : Nat) (ho : o + n ≤ xs.length) (w : World) :
    (part t (iv .i64 xs).toArray o).run P w = .ok (tyV tt t (sub xs o n)) w := by
  obtain ⟨ti, hl, hs⟩ := ia_size h
  obtain ⟨⟨i, hi, hsz, _⟩, hd, _, _⟩ := hT t ti hl
  unfold part
  rw [Sem.run_bind, isAgg_of_DR hd w, Result.andThen_ok]
  unfold tyV
  rw [hl]
  simp only
  cases d with
  | zero => simp [ia] at h
  | succ d =>
    simp only [ia, hl] at h
    cases hdd : ti.d with
    | int k =>
      rw [hdd] at hd
      have hn : n = 1 := by
        rcases ti with ⟨td, tsz, tb, tz⟩
        simp only at hdd
        subst hdd
        cases k <;> simp only at h <;> first | (obtain ⟨h1, h2⟩ := cond_none h; simpa using h2.symm) | cases h
      subst hn
      simp only [D.agg, Bool.false_eq_true, if_false]
      have hk : k = .i64 := by
        rcases ti with ⟨td, tsz, tb, tz⟩
        simp only at hdd
        subst hdd
        cases k <;> simp only at h <;> first | rfl | cases h
      subst hk
      have h2 : (iv IntKind.i64 xs).toArray[o]? = some (.int .i64 (iget xs o)) := by simpa using iv_get .i64 xs o (by omega)
      rw [h2]
      simp only [cellsV, Sem.run_pure]
      rw [iget_sub _ _ _ _ (by omega)]
      rfl
    | array m e =>
      simp only [D.agg, if_true, Sem.run_bind, run_sizeOf hi w, Result.andThen_ok, Sem.run_pure, cellsV, hsz, hs]
      rw [extract_sub, iv_sub]
    | struct fs =>
      simp only [D.agg, if_true, Sem.run_bind, run_sizeOf hi w, Result.andThen_ok, Sem.run_pure, cellsV, hsz, hs]
      rw [extract_sub, iv_sub]
    | bool | slice | map | other =>
      rcases ti with ⟨td, tsz, tb, tz⟩
      simp only at hdd
      subst hdd
      simp only at h
      cases h

theorem beq_append {xs ys xs' ys' : List Int} (h : xs.length = ys.length) : (xs ++ xs' == ys ++ ys') = ((xs == ys) && (xs' == ys')) := by
  induction xs generalizing ys with
  | nil => cases ys with
    | nil => simp
    | cons y ys => simp at h
  | cons x xs ih => cases ys with
    | nil => simp at h
    | cons y ys =>
      simp only [List.cons_append, List.cons_beq_cons, ih (by simpa using h), Bool.and_assoc]

theorem sub_add {α : Type} (xs : List α) (o m n : Nat) : sub xs o (m + n) = sub xs o m ++ sub xs (o + m) n := by
  unfold sub
  rw [List.take_add, List.drop_drop]

theorem cellsOf_of {t : TypeId} {i : TypeInfo} (h : P.info? t = some i) : P.cellsOf t = i.size := by simp [Program.cellsOf, h]

/-- '==' of what is made of ints alone: as the lists are. -/
theorem run_equalIn_ia (hT : TTok P tt) : ∀ (d : Nat) (t : TypeId) (n : Nat), ia tt d t = some n → ∀ (D : Nat), d ≤ D → ∀ (xs ys : List Int), xs.length = n → ys.length = n → ∀ w : World,
    (Op.equalIn D t (tyV tt t xs) (tyV tt t ys)).run P w = .ok (xs == ys) w := by
  intro d
  induction d with
  | zero => intro t n h; simp [ia] at h
  | succ d ih =>
    intro t n h D hD xs ys hx hy w
    obtain ⟨D, rfl⟩ : ∃ E, D = E + 1 := ⟨D - 1, by omega⟩
    have hD' : d ≤ D := by omega
    have h0 := h
    simp only [ia] at h
    split at h
    · rename_i hl
      obtain ⟨h1, h2⟩ := cond_none h
      simp only [Option.some.injEq] at h2
      subst h2
      obtain ⟨_, hd, _, _⟩ := hT _ _ hl
      simp only [tyV, hl, cellsV]
      rw [run_equalIn_int w D t .i64 .i64 _ _ hd]
      match xs, ys, hx, hy with
      | [x], [y], _, _ =>
        congr 1
        simp [iget]
    · rename_i m e s _ _ hl
      split at h
      · rename_i c hc
        obtain ⟨h1, h2⟩ := cond_none h
        simp only [Option.some.injEq] at h2
        subst h2
        obtain ⟨⟨i, hi, hsz, _⟩, hd, _, _⟩ := hT _ _ hl
        obtain ⟨te, hle, hse⟩ := ia_size hc
        obtain ⟨⟨ie, hie, hsze, _⟩, hde, _, _⟩ := hT _ _ hle
        simp only [tyV, hl, cellsV]
        rw [run_equalIn_array w D _ _ hd hie, cellsOf_of hie, hsze, hse, List.range_eq_range']
        have key : ∀ (k i : Nat), (i + k) * c ≤ xs.length → (i + k) * c ≤ ys.length →
            (Op.eqItems D e c (iv .i64 xs).toArray (iv .i64 ys).toArray (List.range' i k)).run P w = .ok (sub xs (i * c) (k * c) == sub ys (i * c) (k * c)) w := by
          intro k
          induction k with
          | zero => intro i _ _; simp [Op.eqItems, sub]
          | succ k ihk =>
            intro i hix hiy
            have e1 : (i + (k + 1)) * c = i * c + c + k * c := by rw [show i + (k + 1) = i + 1 + k by omega, Nat.add_mul, Nat.add_mul, Nat.one_mul]
            rw [e1] at hix hiy
            have hx1 : i * c + c ≤ xs.length := by omega
            have hy1 : i * c + c ≤ ys.length := by omega
            simp only [List.range'_succ, Op.eqItems, Sem.run_bind, run_part_ia hT hc xs (i * c) hx1 w, run_part_ia hT hc ys (i * c) hy1 w, Result.andThen_ok,
              ih e c hc D hD' _ _ (sub_length xs _ _ hx1) (sub_length ys _ _ hy1) w]
            have e2 : (k + 1) * c = c + k * c := by rw [Nat.add_mul, Nat.one_mul, Nat.add_comm]
            have e3 : i * c + c = (i + 1) * c := by rw [Nat.add_mul, Nat.one_mul]
            rw [e2, sub_add, sub_add, beq_append (by rw [sub_length xs _ _ hx1, sub_length ys _ _ hy1])]
            have hk := ihk (i + 1) (by rw [show i + 1 + k = i + (k + 1) by omega, e1]; exact hix) (by rw [show i + 1 + k = i + (k + 1) by omega, e1]; exact hiy)
            rw [← e3] at hk
            cases hb : (sub xs (i * c) c == sub ys (i * c) c)
            · simp
            · simpa using hk
        have hk := key m 0 (by rw [Nat.zero_add]; omega) (by rw [Nat.zero_add]; omega)
        rw [hk]
        simp only [Nat.zero_mul, sub, List.drop_zero]
        rw [List.take_of_length_le (by omega), List.take_of_length_le (by omega)]
      · cases h
    · rename_i fs s _ _ hl
      split at h
      · rename_i c hc
        obtain ⟨h1, h2⟩ := cond_none h
        simp only [Option.some.injEq] at h2
        subst h2
        obtain ⟨⟨i, hi, hsz, _⟩, ⟨fields, hu, hfs, hst, hnm⟩, _, _⟩ := hT _ _ hl
        simp only [tyV, hl, cellsV]
        have hf : P.fieldsOf t = fields := by simp [Program.fieldsOf, hu]
        rw [run_equalIn_struct w D t _ _ (by rw [hf]; exact hu) hst, hf]
        have key : ∀ (gs : List Field) (o : Nat) (c : Nat), (∀ f ∈ gs, f.name ≠ "_") → ia.iaF (ia tt d) (gs.map fun f => (f.offset, f.type)) o = some c → c ≤ xs.length → c ≤ ys.length →
            o ≤ c ∧ (Op.eqFields D (iv .i64 xs).toArray (iv .i64 ys).toArray gs).run P w = .ok (sub xs o (c - o) == sub ys o (c - o)) w := by
          intro gs
          induction gs with
          | nil =>
            intro o c _ hc hcx hcy
            simp only [List.map_nil, ia.iaF, Option.some.injEq] at hc
            subst hc
            exact ⟨Nat.le_refl _, by simp [Op.eqFields, sub]⟩
          | cons f gs ihg =>
            intro o c hn hc hcx hcy
            simp only [List.map_cons, ia.iaF] at hc
            obtain ⟨g1, g2⟩ := cond_none hc
            have g1 := beq_eq' g1
            split at g2
            · rename_i m hm
              obtain ⟨hle, hrun⟩ := ihg (o + m) c (fun f hf => hn f (by simp [hf])) g2 hcx hcy
              refine ⟨by omega, ?_⟩
              have hx1 : o + m ≤ xs.length := by omega
              have hy1 : o + m ≤ ys.length := by omega
              simp only [Op.eqFields, hn f (by simp), ne_eq, not_false_eq_true, if_true, Sem.run_bind, g1, run_part_ia hT hm xs o hx1 w, run_part_ia hT hm ys o hy1 w, Result.andThen_ok,
                ih f.type m hm D hD' _ _ (sub_length xs _ _ hx1) (sub_length ys _ _ hy1) w]
              rw [show c - o = m + (c - (o + m)) by omega, sub_add, sub_add, beq_append (by rw [sub_length xs _ _ hx1, sub_length ys _ _ hy1])]
              cases hb : (sub xs o m == sub ys o m)
              · simp
              · simpa using hrun
            · cases g2
        have hk := (key fields.toList 0 c hnm (by rw [hfs]; exact hc) (by omega) (by omega)).2
        rw [hk]
        simp only [Nat.sub_zero, sub, List.drop_zero]
        rw [List.take_of_length_le (by omega), List.take_of_length_le (by omega)]
      · cases h
    · cases h

theorem eqGuardType_ia (hT : TTok P tt) : ∀ (d : Nat) (t : TypeId) (n : Nat), ia tt d t = some n → ∀ D, d ≤ D → P.eqGuardType D t = false := by
  intro d
  induction d with
  | zero => intro t n h; simp [ia] at h
  | succ d ih =>
    intro t n h D hD
    obtain ⟨D, rfl⟩ : ∃ E, D = E + 1 := ⟨D - 1, by omega⟩
    simp only [ia] at h
    split at h
    · rename_i hl
      have hd : P.underlying t = _ := (hT _ _ hl).desc
      simp [Program.eqGuardType, hd]
    · rename_i hl
      split at h
      · rename_i c hc
        have hd : P.underlying t = _ := (hT _ _ hl).desc
        simp only [Program.eqGuardType, hd]
        exact ih _ _ hc D (by omega)
      · cases h
    · rename_i fs s _ _ hl
      split at h
      · rename_i c hc
        obtain ⟨fields, hu, hfs, hst, hnm⟩ := (hT _ _ hl).desc
        simp only [Program.eqGuardType, hu]
        rw [Array.any_eq_false']
        have key : ∀ (gs : List Field) (o c : Nat), ia.iaF (ia tt d) (gs.map fun f => (f.offset, f.type)) o = some c → ∀ f ∈ gs, P.eqGuardType D f.type = false := by
          intro gs
          induction gs with
          | nil => intro o c _ f hf; cases hf
          | cons g gs ihg =>
            intro o c hc f hf
            simp only [List.map_cons, ia.iaF] at hc
            obtain ⟨g1, g2⟩ := cond_none hc
            split at g2
            · rename_i m hm
              cases hf with
              | head => exact ih _ _ hm D (by omega)
              | tail _ hf => exact ihg _ _ g2 f hf
            · cases g2
        intro f hf
        rw [key fields.toList 0 c (by rw [hfs]; exact hc) f (by simpa using hf)]
        simp
      · cases h
    · cases h

end eqs
end
end Go.Lv
