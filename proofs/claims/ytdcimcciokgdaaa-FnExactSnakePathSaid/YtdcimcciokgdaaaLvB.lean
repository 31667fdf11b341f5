/-
The relation between the abstract machine's states and the model's worlds.
-/
import Derived.Test.YtdcimcciokgdaaaLvA
namespace Go.Lv
open Go.RowKit
set_option linter.unusedVariables false
set_option linter.unusedSimpArgs false
set_option linter.unusedSectionVars false

/-- two lists, element by element -/
inductive All2 {α β : Type} (P : α → β → Prop) : List α → List β → Prop where
  | nil : All2 P [] []
  | cons {x : α} {y : β} {xs : List α} {ys : List β} : P x y → All2 P xs ys → All2 P (x :: xs) (y :: ys)

/-- where a handle lies -/
inductive Rl where
  | none
  | var (r : Nat)
  | vec (a : Option Addr) (cap : Nat)
  | map (r : Nat)

def Rl.blk : Rl → Option Nat
  | .none => .none
  | .var r => some r
  | .vec a cap => if cap = 0 then .none else a.map (·.block)
  | .map r => some r

abbrev Rho := List Rl

/-- blocks that belong to those who wait: they are not touched, and nobody is shown them -/
structure FrT where
  F : Nat → Prop
abbrev Fr := Inhabited FrT
def Fr.F [fr : Fr] (r : Nat) : Prop := fr.default.F r
abbrev Fr.of (F : Nat → Prop) : Fr := ⟨⟨F⟩⟩

variable [fr : Fr]

def LB (ρ : Rho) (mem : Mem) (r : Nat) : Prop := ∃ h rl, ρ[h]? = some rl ∧ (mget mem h).live = true ∧ rl.blk = some r
def NB (ρ : Rho) (mem : Mem) (r : Nat) : Prop := ¬ LB ρ mem r
def NL (ρ : Rho) (mem : Mem) (r : Nat) : Prop := NB ρ mem r ∧ ¬ Fr.F r

def iv (k : IntKind) (xs : List Int) : List Value := xs.map (Value.int k)
def bv (bs : List Bool) : List Value := bs.map Value.bool

/-- a slice that is read alone: its n elements of wd cells each are these -/
def RoR (w : World) (ρ : Rho) (mem : Mem) (cells : List Value) (wd n : Nat) (r : Value) : Prop :=
  ∃ a cap, r = .slice a n cap ∧ n ≤ cap ∧ cells.length = n * wd ∧
    (n ≠ 0 → ∃ b off, a = some ⟨b, off, none⟩ ∧ NL ρ mem b ∧ b < w.heap.size ∧ ∀ j v, cells[j]? = some v → w.cell? ⟨b, off + j, none⟩ = some v)

def rowsOK (m : Nat) (xss : List (List Int)) : Prop := 1 ≤ m ∧ ∀ xs ∈ xss, xs.length = m

def PtrV (ρ : Rho) (mem : Mem) (h i o s : Nat) (r : Value) : Prop :=
  ∃ n c b, mget mem h = .var n c ∧ ρ[h]? = some (.var b) ∧ r = .pointer (some ⟨b, o, none⟩) ∧ i = 0 ∧ o + s ≤ n
def PtrR (ρ : Rho) (mem : Mem) (h i o s : Nat) (r : Value) : Prop :=
  PtrV ρ mem h i o s r ∨
  (∃ e c b cap, mget mem h = .vec e c ∧ ρ[h]? = some (.vec (some ⟨b, 0, none⟩) cap) ∧ 0 < cap ∧ r = .pointer (some ⟨b, i * c.wd + o, none⟩) ∧ i < c.cnt ∧ o + s ≤ c.wd)

/-- one-cell values without depth -/
def VG (w : World) (ρ : Rho) (mem : Mem) (v : V) (r : Value) : Prop :=
  match v with
  | .any => r.oneCell' = true
  | .bool b => r = .bool b
  | .int k n => r = .int k n
  | .z0 => ∃ a, r = .slice a 0 0
  | .ri k xs => RoR w ρ mem (iv k xs) 1 xs.length r
  | .rb bs => RoR w ρ mem (bv bs) 1 bs.length r
  | .rr m xss => rowsOK m xss ∧ RoR w ρ mem (iv .i64 xss.flatten) m xss.length r
  | .ptr h i o s => PtrV ρ mem h i o s r
  | _ => False

/-- values of one cell -/
def VF (w : World) (ρ : Rho) (mem : Mem) (v : V) (r : Value) : Prop :=
  match v with
  | .rv vs => ∃ rs : List Value, RoR w ρ mem rs 1 vs.length r ∧ All2 (VG w ρ mem) vs rs
  | .fn f first caps => ∃ fs cs : List Value, r = .func (.func f) fs.toArray cs.toArray ∧ All2 (VG w ρ mem) first fs ∧ All2 (VG w ρ mem) caps cs
  | v => VG w ρ mem v r

/-- a content and the cells -/
def CR (w : World) (ρ : Rho) (mem : Mem) (c : V) (rs : List Value) : Prop :=
  match c with
  | .ri k xs => rs = iv k xs
  | .rb bs => rs = bv bs
  | .rr m xss => rowsOK m xss ∧ rs = iv .i64 xss.flatten
  | .rv vs => All2 (VF w ρ mem) vs rs
  | _ => False

/-- all values but tuples -/
def VR1 (w : World) (ρ : Rho) (mem : Mem) (v : V) (r : Value) : Prop :=
  match v with
  | .undef => r = Go.undef
  | .any => True
  | .ints n xs => xs.length = n ∧ r = .agg (iv .i64 xs).toArray
  | .bools n bs => bs.length = n ∧ r = .agg (bv bs).toArray
  | .agg vs => ∃ rs : List Value, r = .agg rs.toArray ∧ All2 (VF w ρ mem) vs rs
  | .rp c i o s => ∃ b off rs, r = .pointer (some ⟨b, off + (i * c.wd + o), none⟩) ∧ NL ρ mem b ∧ b < w.heap.size ∧ CR w ρ mem c rs ∧
      (∀ j u, rs[j]? = some u → w.cell? ⟨b, off + j, none⟩ = some u) ∧ i < c.cnt ∧ o + s ≤ c.wd
  | .sl h off n => ∃ e c a cap, mget mem h = .vec e c ∧ ρ[h]? = some (.vec a cap) ∧ off + n ≤ c.cnt ∧
      ((off = 0 ∧ r = .slice a n cap) ∨ (off ≠ 0 ∧ ∃ a' cap', r = .slice a' n cap' ∧ n ≤ cap' ∧ (n ≠ 0 → ∃ b, a = some ⟨b, 0, none⟩ ∧ a' = some ⟨b, off * c.wd, none⟩)))
  | .asl h o s n => ∃ m c b, mget mem h = .var m c ∧ ρ[h]? = some (.var b) ∧ o + n * s ≤ m ∧ 0 < s ∧
      ∃ a' cap', r = .slice a' n cap' ∧ n ≤ cap' ∧ (n ≠ 0 → a' = some ⟨b, o, none⟩)
  | .map h => ∃ kvs b, mget mem h = .map kvs ∧ ρ[h]? = some (.map b) ∧ r = .map (some b)
  | .ptr h i o s => PtrR ρ mem h i o s r
  | v => VF w ρ mem v r

def VR (w : World) (ρ : Rho) (mem : Mem) (v : V) (r : Value) : Prop :=
  match v with
  | .tup vs => ∃ rs : List Value, r = .tuple rs.toArray ∧ All2 (VR1 w ρ mem) vs rs
  | v => VR1 w ρ mem v r

def BlkR (w : World) (ρ : Rho) (mem : Mem) (b : Blk) (rl : Rl) : Prop :=
  match b with
  | .dead => True
  | .var n c => ∃ r e rs, rl = .var r ∧ w.heap[r]? = some (.cells (List.toArray rs) e (0, 0)) ∧ rs.length = n ∧ CR w ρ mem c rs ∧ c.wd = 1
  | .vec e c => ∃ a cap, rl = .vec a cap ∧ c.cnt ≤ cap ∧ ((cap = 0 ∧ CR w ρ mem c []) ∨
      ∃ r cur, 0 < cap ∧ a = some ⟨r, 0, none⟩ ∧ w.heap[r]? = some (.cells cur e (0, 0)) ∧ cap ≤ Go.maxLen ∧ cur.size = cap * c.wd ∧ CR w ρ mem c (cur.toList.take (c.cnt * c.wd)))
  | .map kvs => ∃ r es clock, rl = .map r ∧ w.heap[r]? = some (.map es clock) ∧
      All2 (fun (kv : List Int × V) (e : MapEntry) => e.key = .agg (iv .i64 kv.1).toArray ∧ kv.2.flatG = true ∧ VG w ρ mem kv.2 e.val) kvs es.toList

structure WR (w : World) (ρ : Rho) (mem : Mem) : Prop where
  len : ρ.length = mem.length
  blk : ∀ (h : Nat) (rl : Rl), ρ[h]? = some rl → BlkR w ρ mem (mget mem h) rl
  inj : ∀ (h h' : Nat) (rl rl' : Rl) (r : Nat), ρ[h]? = some rl → ρ[h']? = some rl' → (mget mem h).live = true → (mget mem h').live = true → rl.blk = some r → rl'.blk = some r → h = h'
  nf : ∀ r, LB ρ mem r → ¬ Fr.F r
  fb : ∀ r, Fr.F r → r < w.heap.size

/-- the shape of a block stays -/
def Shape (b b' : Blk) : Prop :=
  match b with
  | .dead => True
  | .var n c => ∃ c', b' = .var n c'
  | .vec e c => ∃ c', b' = .vec e c' ∧ c'.wd = c.wd ∧ c.cnt ≤ c'.cnt
  | .map _ => ∃ k, b' = .map k

structure Step (w : World) (ρ : Rho) (mem : Mem) (w' : World) (ρ' : Rho) (mem' : Mem) (K : Nat → Prop) : Prop where
  os : w'.os = w.os
  tape : w'.tape = w.tape
  output : w'.output = w.output
  size : w.heap.size ≤ w'.heap.size
  old : ∀ r, r < w.heap.size → NB ρ mem r → w'.heap[r]? = w.heap[r]? ∧ NB ρ' mem' r
  hp : ∀ (h : Nat) (rl : Rl), ρ[h]? = some rl → (mget mem h).live = true → ¬ K h → ρ'[h]? = some rl ∧ Shape (mget mem h) (mget mem' h)

theorem Shape.refl (b : Blk) : Shape b b := by
  cases b with
  | dead => trivial
  | var n c => exact ⟨c, rfl⟩
  | vec e c => exact ⟨c, rfl, rfl, Nat.le_refl _⟩
  | map k => exact ⟨k, rfl⟩

theorem Shape.trans {a b c : Blk} (h : Shape a b) (h' : Shape b c) : Shape a c := by
  cases a with
  | dead => trivial
  | var n x => obtain ⟨y, rfl⟩ := h; exact h'
  | vec e x => obtain ⟨y, rfl, hw, hc⟩ := h; obtain ⟨z, rfl, hw', hc'⟩ := h'; exact ⟨z, rfl, hw'.trans hw, Nat.le_trans hc hc'⟩
  | map k => obtain ⟨y, rfl⟩ := h; exact h'

theorem Shape.live {b b' : Blk} (h : Shape b b') (hl : b.live = true) : b'.live = true := by
  cases b with
  | dead => cases hl
  | var n c => obtain ⟨_, rfl⟩ := h; rfl
  | vec e c => obtain ⟨_, rfl, _⟩ := h; rfl
  | map k => obtain ⟨_, rfl⟩ := h; rfl

theorem Step.refl (w : World) (ρ : Rho) (mem : Mem) (K : Nat → Prop) : Step w ρ mem w ρ mem K :=
  ⟨rfl, rfl, rfl, Nat.le_refl _, fun r _ h => ⟨rfl, h⟩, fun h rl hr _ _ => ⟨hr, Shape.refl _⟩⟩

theorem Step.trans {w w1 w2 : World} {ρ ρ1 ρ2 : Rho} {mem mem1 mem2 : Mem} {K K1 K2 : Nat → Prop} (h : Step w ρ mem w1 ρ1 mem1 K) (h' : Step w1 ρ1 mem1 w2 ρ2 mem2 K1)
    (hk : ∀ x, K x → K2 x) (hk' : ∀ x, x < ρ.length → K1 x → K2 x) : Step w ρ mem w2 ρ2 mem2 K2 := by
  refine ⟨h'.os.trans h.os, h'.tape.trans h.tape, h'.output.trans h.output, Nat.le_trans h.size h'.size, fun r hr hn => ?_, fun x rl hx hlx hnk => ?_⟩
  · obtain ⟨e1, n1⟩ := h.old r hr hn
    obtain ⟨e2, n2⟩ := h'.old r (Nat.lt_of_lt_of_le hr h.size) n1
    exact ⟨e2.trans e1, n2⟩
  · have hl : x < ρ.length := (List.getElem?_eq_some_iff.1 hx).1
    obtain ⟨e1, s1⟩ := h.hp x rl hx hlx (fun hk0 => hnk (hk x hk0))
    obtain ⟨e2, s2⟩ := h'.hp x rl e1 (s1.live hlx) (fun hk0 => hnk (hk' x hl hk0))
    exact ⟨e2, s1.trans s2⟩

section mono
variable {w w' : World} {ρ ρ' : Rho} {mem mem' : Mem} {K : Nat → Prop}

theorem Step.cell (h : Step w ρ mem w' ρ' mem' K) {b o : Nat} {v : Value} (hn : NB ρ mem b) (hb : b < w.heap.size) (hc : w.cell? ⟨b, o, none⟩ = some v) : w'.cell? ⟨b, o, none⟩ = some v := by
  rw [World.cell?_of_block (w := w) (w' := w') (a := ⟨b, o, none⟩) (h.old b hb hn).1]; exact hc

theorem RoR.step (h : Step w ρ mem w' ρ' mem' K) {cells : List Value} {wd n : Nat} {r : Value} (hr : RoR w ρ mem cells wd n r) : RoR w' ρ' mem' cells wd n r := by
  obtain ⟨a, cap, rfl, hnc, hl, hc⟩ := hr
  refine ⟨a, cap, rfl, hnc, hl, fun hn => ?_⟩
  obtain ⟨b, off, rfl, hnl, hb, hcell⟩ := hc hn
  exact ⟨b, off, rfl, ⟨(h.old b hb hnl.1).2, hnl.2⟩, Nat.lt_of_lt_of_le hb h.size, fun j v hv => h.cell hnl.1 hb (hcell j v hv)⟩

theorem PtrV.step (h : Step w ρ mem w' ρ' mem' K) {x i o s : Nat} {r : Value} (hk : ¬ K x) (hr : PtrV ρ mem x i o s r) : PtrV ρ' mem' x i o s r := by
  obtain ⟨n, c, b, hm, hρ, rfl, hi, ho⟩ := hr
  obtain ⟨h1, h2⟩ := h.hp x _ hρ (by rw [hm]; rfl) hk
  rw [hm] at h2
  obtain ⟨c', h2⟩ := h2
  exact ⟨n, c', b, h2, h1, rfl, hi, ho⟩

theorem PtrR.step (h : Step w ρ mem w' ρ' mem' K) {x i o s : Nat} {r : Value} (hk : ¬ K x) (hr : PtrR ρ mem x i o s r) : PtrR ρ' mem' x i o s r := by
  rcases hr with hr | ⟨e, c, b, cap, hm, hρ, hcap, rfl, hi, ho⟩
  · exact .inl (PtrV.step h hk hr)
  · obtain ⟨h1, h2⟩ := h.hp x _ hρ (by rw [hm]; rfl) hk
    rw [hm] at h2
    obtain ⟨c', h2, hw, hc⟩ := h2
    exact .inr ⟨e, c', b, cap, h2, h1, hcap, by rw [hw], Nat.lt_of_lt_of_le hi hc, by rw [hw]; exact ho⟩

theorem forall2_mono {α β : Type} {P Q : α → β → Prop} {xs : List α} {ys : List β} (h : All2 P xs ys) (hpq : ∀ x y, x ∈ xs → P x y → Q x y) : All2 Q xs ys := by
  induction h with
  | nil => exact .nil
  | cons hp _ ih => exact .cons (hpq _ _ (by simp) hp) (ih fun x y hx => hpq x y (by simp [hx]))

theorem hsL_mem {vs : List V} {v : V} (h : v ∈ vs) {x : Nat} (hx : x ∈ v.hs) : x ∈ V.hsL vs := by
  induction vs with
  | nil => cases h
  | cons a r ih =>
    simp only [V.hsL, List.mem_append]
    cases h with
    | head => exact .inl hx
    | tail _ h => exact .inr (ih h)

theorem VG.step (h : Step w ρ mem w' ρ' mem' K) {v : V} {r : Value} (hk : ∀ x ∈ v.hs, ¬ K x) (hr : VG w ρ mem v r) : VG w' ρ' mem' v r := by
  cases v with
  | any | bool | int | z0 => exact hr
  | ri k xs => exact RoR.step h hr
  | rb bs => exact RoR.step h hr
  | rr m xss => exact ⟨hr.1, RoR.step h hr.2⟩
  | ptr x i o s => exact PtrV.step h (hk x (by simp [V.hs])) hr
  | _ => exact hr.elim

theorem VF.step (h : Step w ρ mem w' ρ' mem' K) {v : V} {r : Value} (hk : ∀ x ∈ v.hs, ¬ K x) (hr : VF w ρ mem v r) : VF w' ρ' mem' v r := by
  cases v with
  | rv vs =>
    obtain ⟨rs, h1, h2⟩ := hr
    exact ⟨rs, RoR.step h h1, forall2_mono h2 fun x y hx => VG.step h fun z hz => hk z (by simp only [V.hs]; exact hsL_mem hx hz)⟩
  | fn f first caps =>
    obtain ⟨fs, cs, rfl, h1, h2⟩ := hr
    exact ⟨fs, cs, rfl, forall2_mono h1 fun x y hx => VG.step h fun z hz => hk z (by simp only [V.hs, List.mem_append]; exact .inl (hsL_mem hx hz)),
      forall2_mono h2 fun x y hx => VG.step h fun z hz => hk z (by simp only [V.hs, List.mem_append]; exact .inr (hsL_mem hx hz))⟩
  | any | bool | int | z0 | ri | rb | rr | ptr => exact VG.step h hk hr
  | _ => exact (hr : False).elim

theorem CR.step (h : Step w ρ mem w' ρ' mem' K) {c : V} {rs : List Value} (hk : ∀ x ∈ c.hs, ¬ K x) (hr : CR w ρ mem c rs) : CR w' ρ' mem' c rs := by
  cases c with
  | ri | rb | rr => exact hr
  | rv vs => exact forall2_mono hr fun x y hx => VF.step h fun z hz => hk z (by simp only [V.hs]; exact hsL_mem hx hz)
  | _ => exact hr.elim

theorem VR1.step (h : Step w ρ mem w' ρ' mem' K) {v : V} {r : Value} (hk : ∀ x ∈ v.hs, ¬ K x) (hr : VR1 w ρ mem v r) : VR1 w' ρ' mem' v r := by
  cases v with
  | undef | any | ints | bools => exact hr
  | agg vs =>
    obtain ⟨rs, rfl, h2⟩ := hr
    exact ⟨rs, rfl, forall2_mono h2 fun x y hx => VF.step h fun z hz => hk z (by simp only [V.hs]; exact hsL_mem hx hz)⟩
  | rp c i o s =>
    obtain ⟨b, off, rs, rfl, hn, hb, hc, hcell, hi, ho⟩ := hr
    exact ⟨b, off, rs, rfl, ⟨(h.old b hb hn.1).2, hn.2⟩, Nat.lt_of_lt_of_le hb h.size, CR.step h (fun x hx => hk x (by simpa only [V.hs] using hx)) hc, fun j u hu => h.cell hn.1 hb (hcell j u hu), hi, ho⟩
  | sl x off n =>
    obtain ⟨e, c, a, cap, hm, hρ, hle, hv⟩ := hr
    obtain ⟨h1, h2⟩ := h.hp x _ hρ (by rw [hm]; rfl) (hk x (by simp [V.hs]))
    rw [hm] at h2
    obtain ⟨c', h2, hw, hc⟩ := h2
    refine ⟨e, c', a, cap, h2, h1, Nat.le_trans hle hc, ?_⟩
    rw [hw]; exact hv
  | asl x o s n =>
    obtain ⟨m, c, b, hm, hρ, hle, hs, hv⟩ := hr
    obtain ⟨h1, h2⟩ := h.hp x _ hρ (by rw [hm]; rfl) (hk x (by simp [V.hs]))
    rw [hm] at h2
    obtain ⟨c', h2⟩ := h2
    exact ⟨m, c', b, h2, h1, hle, hs, hv⟩
  | map x =>
    obtain ⟨kvs, b, hm, hρ, rfl⟩ := hr
    obtain ⟨h1, h2⟩ := h.hp x _ hρ (by rw [hm]; rfl) (hk x (by simp [V.hs]))
    rw [hm] at h2
    obtain ⟨k', h2⟩ := h2
    exact ⟨k', b, h2, h1, rfl⟩
  | tup vs => exact (hr : False).elim
  | ptr x i o s => exact PtrR.step h (hk x (by simp [V.hs])) hr
  | bool | int | z0 | ri | rb | rr | rv | fn => exact VF.step h hk hr

theorem VR.step (h : Step w ρ mem w' ρ' mem' K) {v : V} {r : Value} (hk : ∀ x ∈ v.hs, ¬ K x) (hr : VR w ρ mem v r) : VR w' ρ' mem' v r := by
  cases v with
  | tup vs =>
    obtain ⟨rs, rfl, h2⟩ := hr
    exact ⟨rs, rfl, forall2_mono h2 fun x y hx => VR1.step h fun z hz => hk z (by simp only [V.hs]; exact hsL_mem hx hz)⟩
  | _ => exact VR1.step (r := r) h hk hr

end mono

/-! ### handles given up -/
theorem memb_iff {n : Nat} {l : List Nat} : memb n l = true ↔ n ∈ l := by
  induction l with
  | nil => simp [memb]
  | cons a r ih =>
    simp only [memb, List.mem_cons]
    by_cases h : a = n
    · subst h; simp
    · have : Nat.beq a n = false := by rw [← Bool.not_eq_true, Nat.beq_eq]; exact h
      rw [this]; simp only [cond_false, ih]
      constructor
      · exact .inr
      · rintro (e | e)
        · exact absurd e.symm h
        · exact e

theorem meets_false {ks l : List Nat} (h : meets ks l = false) : ∀ x ∈ l, x ∉ ks := by
  induction l with
  | nil => intro x hx; cases hx
  | cons a r ih =>
    simp only [meets] at h
    by_cases ha : memb a ks = true
    · rw [ha] at h; cases h
    · rw [show memb a ks = false by simpa using ha] at h
      intro x hx
      cases hx with
      | head => exact fun hx => ha (memb_iff.2 hx)
      | tail _ hx => exact ih h x hx

theorem killV_step {w w' : World} {ρ ρ' : Rho} {mem mem' : Mem} {ks : List Nat} (h : Step w ρ mem w' ρ' mem' (· ∈ ks)) {v : V} {r : Value} (hr : VR w ρ mem v r) : VR w' ρ' mem' (killV ks v) r := by
  unfold killV
  by_cases hm : meets ks v.hs = true
  · rw [hm]; trivial
  · rw [show meets ks v.hs = false by simpa using hm]
    exact VR.step h (meets_false (by simpa using hm)) hr

theorem forall2_map_left {α β γ : Type} {P : γ → β → Prop} {f : α → γ} {xs : List α} {ys : List β} (h : All2 (fun x y => P (f x) y) xs ys) : All2 P (xs.map f) ys := by
  induction h with
  | nil => exact .nil
  | cons hp _ ih => exact .cons hp ih

theorem mem_addK {np : Nat} {ks acc : List Nat} {x : Nat} : x ∈ addK np ks acc ↔ x ∈ acc ∨ (x < np ∧ x ∈ ks) := by
  induction ks generalizing acc with
  | nil => simp [addK]
  | cons a r ih =>
    simp only [addK, ih, List.mem_cons]
    by_cases h1 : a < np
    · by_cases h2 : memb a acc = true
      · have : (Nat.blt a np && !memb a acc) = false := by simp [h2]
        rw [this]; simp only [cond_false]
        have h3 := memb_iff.1 h2
        constructor
        · rintro (h | ⟨h, h'⟩)
          · exact .inl h
          · exact .inr ⟨h, .inr h'⟩
        · rintro (h | ⟨h, rfl | h'⟩)
          · exact .inl h
          · exact .inl h3
          · exact .inr ⟨h, h'⟩
      · have : (Nat.blt a np && !memb a acc) = true := by simp [h2, Nat.blt_eq, h1]
        rw [this]; simp only [cond_true, List.mem_cons]
        constructor
        · rintro ((rfl | h) | ⟨h, h'⟩)
          · exact .inr ⟨h1, .inl rfl⟩
          · exact .inl h
          · exact .inr ⟨h, .inr h'⟩
        · rintro (h | ⟨h, rfl | h'⟩)
          · exact .inl (.inr h)
          · exact .inl (.inl rfl)
          · exact .inr ⟨h, h'⟩
    · have : (Nat.blt a np && !memb a acc) = false := by
        have : Nat.blt a np = false := by rw [← Bool.not_eq_true]; simpa [Nat.blt_eq] using h1
        simp [this]
      rw [this]; simp only [cond_false]
      constructor
      · rintro (h | ⟨h, h'⟩)
        · exact .inl h
        · exact .inr ⟨h, .inr h'⟩
      · rintro (h | ⟨h, rfl | h'⟩)
        · exact .inl h
        · exact absurd h h1
        · exact .inr ⟨h, h'⟩

/-! ### what memory holds leads to variables alone -/
theorem all2_mem {α β : Type} {P : α → β → Prop} {xs : List α} {ys : List β} (h : All2 P xs ys) {x : α} (hx : x ∈ xs) : ∃ y, y ∈ ys ∧ P x y := by
  induction h with
  | nil => cases hx
  | cons hp _ ih =>
    cases hx with
    | head => exact ⟨_, by simp, hp⟩
    | tail _ hx => obtain ⟨y, hy, hp⟩ := ih hx; exact ⟨y, by simp [hy], hp⟩

theorem mem_hsL {vs : List V} {x : Nat} (h : x ∈ V.hsL vs) : ∃ v ∈ vs, x ∈ v.hs := by
  induction vs with
  | nil => simp [V.hsL] at h
  | cons a r ih =>
    simp only [V.hsL, List.mem_append] at h
    rcases h with h | h
    · exact ⟨a, by simp, h⟩
    · obtain ⟨v, hv, hx⟩ := ih h; exact ⟨v, by simp [hv], hx⟩

theorem VG.var {w : World} {ρ : Rho} {mem : Mem} {v : V} {r : Value} (h : VG w ρ mem v r) : ∀ x ∈ v.hs, ∃ n c, mget mem x = .var n c := by
  intro x hx
  cases v with
  | ptr y i o s =>
    simp only [V.hs, List.mem_singleton] at hx
    subst hx
    obtain ⟨n, c, b, hm, _⟩ := h
    exact ⟨n, c, hm⟩
  | any | bool | int | z0 | ri | rb | rr => simp [V.hs] at hx
  | _ => exact (h : False).elim

theorem VF.var {w : World} {ρ : Rho} {mem : Mem} {v : V} {r : Value} (h : VF w ρ mem v r) : ∀ x ∈ v.hs, ∃ n c, mget mem x = .var n c := by
  intro x hx
  cases v with
  | rv vs =>
    obtain ⟨rs, _, h2⟩ := h
    simp only [V.hs] at hx
    obtain ⟨u, hu, hx⟩ := mem_hsL hx
    obtain ⟨y, _, hp⟩ := all2_mem h2 hu
    exact VG.var hp x hx
  | fn f first caps =>
    obtain ⟨fs, cs, _, h1, h2⟩ := h
    simp only [V.hs, List.mem_append] at hx
    rcases hx with hx | hx
    · obtain ⟨u, hu, hx⟩ := mem_hsL hx
      obtain ⟨y, _, hp⟩ := all2_mem h1 hu
      exact VG.var hp x hx
    · obtain ⟨u, hu, hx⟩ := mem_hsL hx
      obtain ⟨y, _, hp⟩ := all2_mem h2 hu
      exact VG.var hp x hx
  | any => exact VG.var (v := .any) (w := w) (ρ := ρ) (mem := mem) (r := r) h x hx
  | bool b => exact VG.var (v := .bool b) (w := w) (ρ := ρ) (mem := mem) (r := r) h x hx
  | int k n => exact VG.var (v := .int k n) (w := w) (ρ := ρ) (mem := mem) (r := r) h x hx
  | z0 => exact VG.var (v := .z0) (w := w) (ρ := ρ) (mem := mem) (r := r) h x hx
  | ri k xs => exact VG.var (v := .ri k xs) (w := w) (ρ := ρ) (mem := mem) (r := r) h x hx
  | rb bs => exact VG.var (v := .rb bs) (w := w) (ρ := ρ) (mem := mem) (r := r) h x hx
  | rr m xss => exact VG.var (v := .rr m xss) (w := w) (ρ := ρ) (mem := mem) (r := r) h x hx
  | ptr h' i o s => exact VG.var (v := .ptr h' i o s) (w := w) (ρ := ρ) (mem := mem) (r := r) h x hx
  | _ => exact (h : False).elim

theorem CR.var {w : World} {ρ : Rho} {mem : Mem} {c : V} {rs : List Value} (h : CR w ρ mem c rs) : ∀ x ∈ c.hs, ∃ n c', mget mem x = .var n c' := by
  intro x hx
  cases c with
  | rv vs =>
    simp only [V.hs] at hx
    obtain ⟨u, hu, hx⟩ := mem_hsL hx
    obtain ⟨y, _, hp⟩ := all2_mem h hu
    exact VF.var hp x hx
  | ri | rb | rr => simp [V.hs] at hx
  | _ => exact (h : False).elim

/-! ### memory as a list -/
theorem mget_append (mem : Mem) (b : Blk) (h : Nat) : mget (mem ++ [b]) h = if h = mem.length then b else mget mem h := by
  induction mem generalizing h with
  | nil => cases h <;> simp [mget]
  | cons a r ih =>
    cases h with
    | zero => simp [mget]
    | succ h => simp [mget, ih]

theorem mget_ge {mem : Mem} {h : Nat} (hl : mem.length ≤ h) : mget mem h = .dead := by
  induction mem generalizing h with
  | nil => rfl
  | cons a r ih =>
    cases h with
    | zero => simp at hl
    | succ h => exact ih (by simpa using hl)

theorem mset_length (mem : Mem) (h : Nat) (b : Blk) : (mset mem h b).length = mem.length := by
  induction mem generalizing h with
  | nil => rfl
  | cons a r ih =>
    cases h with
    | zero => rfl
    | succ h => simp [mset, ih]

theorem mget_mset (mem : Mem) (h x : Nat) (b : Blk) (hl : h < mem.length) : mget (mset mem h b) x = if x = h then b else mget mem x := by
  induction mem generalizing h x with
  | nil => simp at hl
  | cons a r ih =>
    cases h with
    | zero => cases x <;> simp [mset, mget]
    | succ h =>
      cases x with
      | zero => simp [mset, mget]
      | succ x => simp [mset, mget, ih h x (by simpa using hl)]

theorem live_lt {mem : Mem} {h : Nat} (hl : (mget mem h).live = true) : h < mem.length := by
  rcases Nat.lt_or_ge h mem.length with h1 | h1
  · exact h1
  · rw [mget_ge h1] at hl; cases hl

/-! ### the steps of a memory -/
section steps
variable {w w' : World} {ρ : Rho} {mem : Mem}

theorem WR.lt (hw : WR w ρ mem) {r : Nat} (h : LB ρ mem r) : r < w.heap.size := by
  obtain ⟨x, rl, hx, hl, hb⟩ := h
  have hk := hw.blk x rl hx
  cases hm : mget mem x with
  | dead => rw [hm] at hl; cases hl
  | var n c =>
    rw [hm] at hk
    obtain ⟨r', e, rs, rfl, hh, _⟩ := hk
    simp only [Rl.blk, Option.some.injEq] at hb
    subst hb
    exact (Array.getElem?_eq_some_iff.1 hh).1
  | vec e c =>
    rw [hm] at hk
    obtain ⟨a, cap, rfl, _, ⟨h0, _⟩ | ⟨r', cur, hcap, rfl, hh, _⟩⟩ := hk
    · simp [Rl.blk, h0] at hb
    · simp only [Rl.blk, Nat.ne_of_gt hcap, if_false, Option.map_some, Option.some.injEq] at hb
      subst hb
      exact (Array.getElem?_eq_some_iff.1 hh).1
  | map kvs =>
    rw [hm] at hk
    obtain ⟨r', es, clock, rfl, hh, _⟩ := hk
    simp only [Rl.blk, Option.some.injEq] at hb
    subst hb
    exact (Array.getElem?_eq_some_iff.1 hh).1

/-- A block that is not touched stands as it stood. -/
theorem BlkR.step {ρ' : Rho} {mem' : Mem} {K : Nat → Prop} {b : Blk} {rl : Rl} (hs : Step w ρ mem w' ρ' mem' K) (hK : ∀ x n c, mget mem x = .var n c → ¬ K x)
    (hh : ∀ r, b.live = true → rl.blk = some r → w'.heap[r]? = w.heap[r]?) (h : BlkR w ρ mem b rl) : BlkR w' ρ' mem' b rl := by
  cases b with
  | dead => trivial
  | var n c =>
    obtain ⟨r, e, rs, rfl, hr, hl, hc, hwd⟩ := h
    exact ⟨r, e, rs, rfl, (hh r rfl rfl).trans hr, hl, CR.step hs (fun x hx => let ⟨n, c', hv⟩ := CR.var hc x hx; hK x n c' hv) hc, hwd⟩
  | vec e c =>
    obtain ⟨a, cap, rfl, hle, hc⟩ := h
    refine ⟨a, cap, rfl, hle, ?_⟩
    rcases hc with ⟨h0, hc⟩ | ⟨r, cur, hcap, rfl, hr, hm, hz, hc⟩
    · exact .inl ⟨h0, CR.step hs (fun x hx => let ⟨n, c', hv⟩ := CR.var hc x hx; hK x n c' hv) hc⟩
    · exact .inr ⟨r, cur, hcap, rfl, (hh r rfl (by simp [Rl.blk, Nat.ne_of_gt hcap])).trans hr, hm, hz, CR.step hs (fun x hx => let ⟨n, c', hv⟩ := CR.var hc x hx; hK x n c' hv) hc⟩
  | map kvs =>
    obtain ⟨r, es, clock, rfl, hr, hc⟩ := h
    exact ⟨r, es, clock, rfl, (hh r rfl rfl).trans hr, forall2_mono hc fun x y _ ⟨h1, hg, h2⟩ => ⟨h1, hg, VG.step hs (fun z hz => let ⟨n, c', hv⟩ := VG.var h2 z hz; hK z n c' hv) h2⟩⟩

theorem WR.nf_step {ρ' : Rho} {mem' : Mem} {K : Nat → Prop} (hw : WR w ρ mem) (hs : Step w ρ mem w' ρ' mem' K) : ∀ r, LB ρ' mem' r → ¬ Fr.F r := fun r hl hf =>
  (hs.old r (hw.fb r hf) (fun h => hw.nf r h hf)).2 hl
theorem WR.fb_step {ρ' : Rho} {mem' : Mem} {K : Nat → Prop} (hw : WR w ρ mem) (hs : Step w ρ mem w' ρ' mem' K) : ∀ r, Fr.F r → r < w'.heap.size := fun r hf =>
  Nat.lt_of_lt_of_le (hw.fb r hf) hs.size

/-- A new block. -/
theorem step_new (hw : WR w ρ mem) (hsz : w.heap.size ≤ w'.heap.size) (hos : w'.os = w.os) (htape : w'.tape = w.tape) (hout : w'.output = w.output)
    (hheap : ∀ r, r < w.heap.size → w'.heap[r]? = w.heap[r]?) {rl : Rl} {b : Blk} (hb : ∀ r, rl.blk = some r → w.heap.size ≤ r) :
    Step w ρ mem w' (ρ ++ [rl]) (mem ++ [b]) (fun _ => False) := by
  refine ⟨hos, htape, hout, hsz, fun r hr hn => ⟨hheap r hr, ?_⟩, fun x rl' hx _ _ => ?_⟩
  · rintro ⟨x, rl', hx, hl, hbk⟩
    rw [mget_append] at hl
    by_cases hxl : x = mem.length
    · rw [hxl, ← hw.len, List.getElem?_append_right (Nat.le_refl _)] at hx
      simp only [Nat.sub_self, List.getElem?_cons_zero, Option.some.injEq] at hx
      subst hx
      have := hb r hbk
      omega
    · rw [if_neg hxl] at hl
      have hlt : x < ρ.length := by rw [hw.len]; exact live_lt hl
      rw [List.getElem?_append_left hlt] at hx
      exact hn ⟨x, rl', hx, hl, hbk⟩
  · have hlt : x < ρ.length := (List.getElem?_eq_some_iff.1 hx).1
    refine ⟨by rw [List.getElem?_append_left hlt]; exact hx, ?_⟩
    rw [mget_append, if_neg (by rw [← hw.len]; omega)]
    exact Shape.refl _

theorem wr_new (hw : WR w ρ mem) {rl : Rl} {b : Blk} (hs : Step w ρ mem w' (ρ ++ [rl]) (mem ++ [b]) (fun _ => False))
    (hheap : ∀ r, r < w.heap.size → w'.heap[r]? = w.heap[r]?) (hb : ∀ r, rl.blk = some r → w.heap.size ≤ r) (hk : BlkR w' (ρ ++ [rl]) (mem ++ [b]) b rl) : WR w' (ρ ++ [rl]) (mem ++ [b]) := by
  have hget : ∀ x rl', (ρ ++ [rl])[x]? = some rl' → (x = mem.length ∧ rl' = rl) ∨ (x < mem.length ∧ ρ[x]? = some rl') := fun x rl' hx => by
    by_cases hxl : x < ρ.length
    · rw [List.getElem?_append_left hxl] at hx
      exact .inr ⟨by rw [← hw.len]; exact hxl, hx⟩
    · rw [List.getElem?_append_right (by omega)] at hx
      have h0 : x - ρ.length = 0 := by
        rcases Nat.eq_zero_or_pos (x - ρ.length) with h | h
        · exact h
        · rw [List.getElem?_eq_none (by simp only [List.length_cons, List.length_nil]; omega)] at hx; cases hx
      rw [h0] at hx
      simp only [List.getElem?_cons_zero, Option.some.injEq] at hx
      exact .inl ⟨by rw [← hw.len]; omega, hx.symm⟩
  refine ⟨by simp [hw.len], fun x rl' hx => ?_, fun x y rl1 rl2 r hx hy hlx hly hbx hby => ?_, hw.nf_step hs, hw.fb_step hs⟩
  · rw [mget_append]
    rcases hget x rl' hx with ⟨rfl, rfl⟩ | ⟨hlt, hx'⟩
    · rw [if_pos rfl]; exact hk
    · rw [if_neg (by omega)]
      refine BlkR.step hs (fun _ _ _ _ h => h) (fun r hl hbk => hheap r ?_) (hw.blk x rl' hx')
      exact hw.lt ⟨x, rl', hx', hl, hbk⟩
  · rw [mget_append] at hlx hly
    rcases hget x rl1 hx with ⟨rfl, rfl⟩ | ⟨hltx, hx'⟩
    · rcases hget y rl2 hy with ⟨rfl, rfl⟩ | ⟨hlty, hy'⟩
      · rfl
      · rw [if_neg (by omega)] at hly
        have := hw.lt ⟨y, rl2, hy', hly, hby⟩
        have := hb r hbx
        omega
    · rw [if_neg (by omega)] at hlx
      rcases hget y rl2 hy with ⟨rfl, rfl⟩ | ⟨hlty, hy'⟩
      · have := hw.lt ⟨x, rl1, hx', hlx, hbx⟩
        have := hb r hby
        omega
      · rw [if_neg (by omega)] at hly
        exact hw.inj x y rl1 rl2 r hx' hy' hlx hly hbx hby

/-- One block turns. -/
theorem step_chg (hw : WR w ρ mem) {h : Nat} {rl rl' : Rl} {b' : Blk} {K : Nat → Prop} (hh : ρ[h]? = some rl) (hlive : (mget mem h).live = true)
    (hsz : w.heap.size ≤ w'.heap.size) (hos : w'.os = w.os) (htape : w'.tape = w.tape) (hout : w'.output = w.output)
    (hheap : ∀ r, r < w.heap.size → rl.blk ≠ some r → w'.heap[r]? = w.heap[r]?) (hb : ∀ r, rl'.blk = some r → rl.blk = some r ∨ w.heap.size ≤ r)
    (hK : ¬ K h → rl' = rl ∧ Shape (mget mem h) b') :
    Step w ρ mem w' (ρ.set h rl') (mset mem h b') K := by
  have hl := live_lt hlive
  have hl' : h < ρ.length := by rw [hw.len]; exact hl
  refine ⟨hos, htape, hout, hsz, fun r hr hn => ⟨hheap r hr fun e => hn ⟨h, rl, hh, hlive, e⟩, ?_⟩, fun x rl2 hx hlx hnk => ?_⟩
  · rintro ⟨x, rl2, hx, hlx, hbk⟩
    rw [mget_mset _ _ _ _ hl] at hlx
    by_cases hxh : x = h
    · subst hxh
      rw [List.getElem?_set_self hl'] at hx
      simp only [Option.some.injEq] at hx
      subst hx
      rcases hb r hbk with e | e
      · exact hn ⟨x, rl, hh, hlive, e⟩
      · omega
    · rw [if_neg hxh] at hlx
      rw [List.getElem?_set_ne (Ne.symm hxh)] at hx
      exact hn ⟨x, rl2, hx, hlx, hbk⟩
  · rw [mget_mset _ _ _ _ hl]
    by_cases hxh : x = h
    · subst hxh
      obtain ⟨rfl, hsh⟩ := hK hnk
      rw [hh] at hx
      exact ⟨by rw [List.getElem?_set_self hl']; exact hx, by rw [if_pos rfl]; exact hsh⟩
    · rw [if_neg hxh, List.getElem?_set_ne (Ne.symm hxh)]
      exact ⟨hx, Shape.refl _⟩

theorem wr_chg (hw : WR w ρ mem) {h : Nat} {rl rl' : Rl} {b' : Blk} {K : Nat → Prop} (hh : ρ[h]? = some rl) (hlive : (mget mem h).live = true)
    (hs : Step w ρ mem w' (ρ.set h rl') (mset mem h b') K) (hKv : ∀ x n c, mget mem x = .var n c → ¬ K x)
    (hheap : ∀ r, r < w.heap.size → rl.blk ≠ some r → w'.heap[r]? = w.heap[r]?) (hb : ∀ r, rl'.blk = some r → rl.blk = some r ∨ w.heap.size ≤ r)
    (hk : BlkR w' (ρ.set h rl') (mset mem h b') b' rl') : WR w' (ρ.set h rl') (mset mem h b') := by
  have hl := live_lt hlive
  have hl' : h < ρ.length := by rw [hw.len]; exact hl
  have hne : ∀ x rl2 r, x ≠ h → ρ[x]? = some rl2 → (mget mem x).live = true → rl2.blk = some r → rl.blk ≠ some r := fun x rl2 r hx hx2 hlx hbx e =>
    hx (hw.inj x h rl2 rl r hx2 hh hlx hlive hbx e)
  refine ⟨by rw [List.length_set, mset_length, hw.len], fun x rl2 hx => ?_, fun x y rl1 rl2 r hx hy hlx hly hbx hby => ?_, hw.nf_step hs, hw.fb_step hs⟩
  · rw [mget_mset _ _ _ _ hl]
    by_cases hxh : x = h
    · subst hxh
      rw [List.getElem?_set_self hl'] at hx
      simp only [Option.some.injEq] at hx
      subst hx
      rw [if_pos rfl]; exact hk
    · rw [if_neg hxh]
      rw [List.getElem?_set_ne (Ne.symm hxh)] at hx
      exact BlkR.step hs hKv (fun r hlx hbk => hheap r (hw.lt ⟨x, rl2, hx, hlx, hbk⟩) (hne x rl2 r hxh hx hlx hbk)) (hw.blk x rl2 hx)
  · rw [mget_mset _ _ _ _ hl] at hlx hly
    by_cases hxh : x = h
    · by_cases hyh : y = h
      · rw [hxh, hyh]
      · subst hxh
        rw [if_neg hyh] at hly
        rw [List.getElem?_set_self hl'] at hx
        rw [List.getElem?_set_ne (Ne.symm hyh)] at hy
        simp only [Option.some.injEq] at hx
        subst hx
        rcases hb r hbx with e | e
        · exact absurd e (hne y rl2 r hyh hy hly hby)
        · have := hw.lt ⟨y, rl2, hy, hly, hby⟩; omega
    · rw [if_neg hxh] at hlx
      rw [List.getElem?_set_ne (Ne.symm hxh)] at hx
      by_cases hyh : y = h
      · subst hyh
        rw [List.getElem?_set_self hl'] at hy
        simp only [Option.some.injEq] at hy
        subst hy
        rcases hb r hby with e | e
        · exact absurd e (hne x rl1 r hxh hx hlx hbx)
        · have := hw.lt ⟨x, rl1, hx, hlx, hbx⟩; omega
      · rw [if_neg hyh] at hly
        rw [List.getElem?_set_ne (Ne.symm hyh)] at hy
        exact hw.inj x y rl1 rl2 r hx hy hlx hly hbx hby

/-- A dead place is filled. -/
theorem step_fill (hw : WR w ρ mem) {h : Nat} {rl' : Rl} {b' : Blk} {K : Nat → Prop} (hl : h < mem.length) (hdead : mget mem h = .dead)
    (hsz : w.heap.size ≤ w'.heap.size) (hos : w'.os = w.os) (htape : w'.tape = w.tape) (hout : w'.output = w.output)
    (hheap : ∀ r, r < w.heap.size → w'.heap[r]? = w.heap[r]?) (hb : ∀ r, rl'.blk = some r → w.heap.size ≤ r) :
    Step w ρ mem w' (ρ.set h rl') (mset mem h b') K := by
  have hl' : h < ρ.length := by rw [hw.len]; exact hl
  refine ⟨hos, htape, hout, hsz, fun r hr hn => ⟨hheap r hr, ?_⟩, fun x rl2 hx hlx hnk => ?_⟩
  · rintro ⟨x, rl2, hx, hlx, hbk⟩
    rw [mget_mset _ _ _ _ hl] at hlx
    by_cases hxh : x = h
    · subst hxh
      rw [List.getElem?_set_self hl'] at hx
      simp only [Option.some.injEq] at hx
      subst hx
      have := hb r hbk
      omega
    · rw [if_neg hxh] at hlx
      rw [List.getElem?_set_ne (Ne.symm hxh)] at hx
      exact hn ⟨x, rl2, hx, hlx, hbk⟩
  · have hxh : x ≠ h := by rintro rfl; rw [hdead] at hlx; cases hlx
    rw [mget_mset _ _ _ _ hl, if_neg hxh, List.getElem?_set_ne (Ne.symm hxh)]
    exact ⟨hx, Shape.refl _⟩

theorem wr_fill (hw : WR w ρ mem) {h : Nat} {rl' : Rl} {b' : Blk} (hl : h < mem.length) (hdead : mget mem h = .dead)
    (hs : Step w ρ mem w' (ρ.set h rl') (mset mem h b') (fun _ => False))
    (hheap : ∀ r, r < w.heap.size → w'.heap[r]? = w.heap[r]?) (hb : ∀ r, rl'.blk = some r → w.heap.size ≤ r)
    (hk : BlkR w' (ρ.set h rl') (mset mem h b') b' rl') : WR w' (ρ.set h rl') (mset mem h b') := by
  have hl' : h < ρ.length := by rw [hw.len]; exact hl
  refine ⟨by rw [List.length_set, mset_length, hw.len], fun x rl2 hx => ?_, fun x y rl1 rl2 r hx hy hlx hly hbx hby => ?_, hw.nf_step hs, hw.fb_step hs⟩
  · rw [mget_mset _ _ _ _ hl]
    by_cases hxh : x = h
    · subst hxh
      rw [List.getElem?_set_self hl'] at hx
      simp only [Option.some.injEq] at hx
      subst hx
      rw [if_pos rfl]; exact hk
    · rw [if_neg hxh]
      rw [List.getElem?_set_ne (Ne.symm hxh)] at hx
      exact BlkR.step hs (fun _ _ _ _ h => h) (fun r hlx hbk => hheap r (hw.lt ⟨x, rl2, hx, hlx, hbk⟩)) (hw.blk x rl2 hx)
  · rw [mget_mset _ _ _ _ hl] at hlx hly
    by_cases hxh : x = h
    · by_cases hyh : y = h
      · rw [hxh, hyh]
      · subst hxh
        rw [if_neg hyh] at hly
        rw [List.getElem?_set_self hl'] at hx
        rw [List.getElem?_set_ne (Ne.symm hyh)] at hy
        simp only [Option.some.injEq] at hx
        subst hx
        have := hb r hbx
        have := hw.lt ⟨y, rl2, hy, hly, hby⟩
        omega
    · rw [if_neg hxh] at hlx
      rw [List.getElem?_set_ne (Ne.symm hxh)] at hx
      by_cases hyh : y = h
      · subst hyh
        rw [List.getElem?_set_self hl'] at hy
        simp only [Option.some.injEq] at hy
        subst hy
        have := hb r hby
        have := hw.lt ⟨x, rl1, hx, hlx, hbx⟩
        omega
      · rw [if_neg hyh] at hly
        rw [List.getElem?_set_ne (Ne.symm hyh)] at hy
        exact hw.inj x y rl1 rl2 r hx hy hlx hly hbx hby

/-- Places are kept for blocks to come. -/
theorem mget_dead (mem : Mem) (n h : Nat) : mget (mem ++ List.replicate n .dead) h = mget mem h := by
  rcases Nat.lt_or_ge h mem.length with hl | hl
  · induction mem generalizing h with
    | nil => simp at hl
    | cons a r ih => cases h with
      | zero => rfl
      | succ h => exact ih h (by simpa using hl)
  · rw [mget_ge hl]
    induction mem generalizing h with
    | nil =>
      clear hl
      induction n generalizing h with
      | zero => rfl
      | succ n ih => cases h with
        | zero => rfl
        | succ h => exact ih h
    | cons a r ih => cases h with
      | zero => simp at hl
      | succ h => exact ih h (by simpa using hl)

theorem step_slots (hw : WR w ρ mem) (n : Nat) : Step w ρ mem w (ρ ++ List.replicate n .none) (mem ++ List.replicate n .dead) (fun _ => False) := by
  refine ⟨rfl, rfl, rfl, Nat.le_refl _, fun r hr hn => ⟨rfl, ?_⟩, fun x rl hx hlx _ => ?_⟩
  · rintro ⟨x, rl, hx, hlx, hb⟩
    rw [mget_dead] at hlx
    have hlt : x < ρ.length := by rw [hw.len]; exact live_lt hlx
    rw [List.getElem?_append_left hlt] at hx
    exact hn ⟨x, rl, hx, hlx, hb⟩
  · have hlt : x < ρ.length := (List.getElem?_eq_some_iff.1 hx).1
    rw [mget_dead, List.getElem?_append_left hlt]
    exact ⟨hx, Shape.refl _⟩

theorem wr_slots (hw : WR w ρ mem) (n : Nat) : WR w (ρ ++ List.replicate n .none) (mem ++ List.replicate n .dead) := by
  have key : ∀ x rl, (ρ ++ List.replicate n Rl.none)[x]? = some rl → (mget mem x).live = true → ρ[x]? = some rl := fun x rl hx hl => by
    have hlt : x < ρ.length := by rw [hw.len]; exact live_lt hl
    rwa [List.getElem?_append_left hlt] at hx
  refine ⟨by simp [hw.len], fun x rl hx => ?_, fun x y rl1 rl2 r hx hy hlx hly hbx hby => ?_, hw.nf_step (step_slots hw n), hw.fb_step (step_slots hw n)⟩
  · rw [mget_dead]
    by_cases hl : (mget mem x).live = true
    · exact BlkR.step (step_slots hw n) (fun _ _ _ _ h => h) (fun _ _ _ => rfl) (hw.blk x rl (key x rl hx hl))
    · cases hm : mget mem x with
      | dead => trivial
      | _ => rw [hm] at hl; exact absurd rfl hl
  · rw [mget_dead] at hlx hly
    exact hw.inj x y rl1 rl2 r (key x rl1 hx hlx) (key y rl2 hy hly) hlx hly hbx hby

/-- Nothing of the memory turns, and all that stood stands. -/
theorem step_below (hw : WR w ρ mem) (hb : Below w.heap.size w w') : Step w ρ mem w' ρ mem (fun _ => False) :=
  ⟨hb.os, hb.tape, hb.output, hb.size, fun r hr hn => ⟨hb.block r hr, hn⟩, fun x rl hx _ _ => ⟨hx, Shape.refl _⟩⟩
theorem wr_below (hw : WR w ρ mem) (hb : Below w.heap.size w w') : WR w' ρ mem :=
  ⟨hw.len, fun x rl hx => BlkR.step (step_below hw hb) (fun _ _ _ _ h => h) (fun r hl hbk => hb.block r (hw.lt ⟨x, rl, hx, hl, hbk⟩)) (hw.blk x rl hx), hw.inj, hw.nf, hw.fb_step (step_below hw hb)⟩

end steps

end Go.Lv
