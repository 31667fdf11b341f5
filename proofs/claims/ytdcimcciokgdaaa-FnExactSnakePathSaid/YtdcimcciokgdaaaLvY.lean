/-
The table of types, checked.
-/
import Derived.Test.YtdcimcciokgdaaaLvX
namespace Go.Lv
set_option linter.unusedVariables false
set_option linter.unusedSimpArgs false
set_option linter.unusedSectionVars false

def ivB (k : IntKind) : List Value → List Int → Bool
  | [], [] => true
  | .int k' x :: r, y :: s => decide (k' = k) && decide (x = y) && ivB k r s
  | _, _ => false
def bvB : List Value → List Bool → Bool
  | [], [] => true
  | .bool x :: r, y :: s => (x == y) && bvB r s
  | _, _ => false
def oneB (r : Value) (v : V) : Bool :=
  match v, r with
  | .bool b, .bool c => b == c
  | .int k n, .int k' n' => decide (k' = k) && decide (n' = n)
  | .z0, .slice none 0 0 => true
  | _, _ => false
def vvB : List Value → List V → Bool
  | [], [] => true
  | r :: rs, v :: vs => oneB r v && vvB rs vs
  | _, _ => false

theorem ivB_ok {k : IntKind} : ∀ {rs : List Value} {xs : List Int}, ivB k rs xs = true → rs = iv k xs := by
  intro rs
  induction rs with
  | nil => intro xs h; cases xs with
    | nil => rfl
    | cons => cases h
  | cons v r ih =>
    intro xs h
    unfold ivB at h
    split at h
    · rename_i h1; cases h1
    · rename_i h1
      cases h1
      simp only [Bool.and_eq_true, decide_eq_true_eq] at h
      obtain ⟨⟨rfl, rfl⟩, h⟩ := h
      rw [ih h]; rfl
    · cases h
theorem bvB_ok : ∀ {rs : List Value} {xs : List Bool}, bvB rs xs = true → rs = bv xs := by
  intro rs
  induction rs with
  | nil => intro xs h; cases xs with
    | nil => rfl
    | cons => cases h
  | cons v r ih =>
    intro xs h
    unfold bvB at h
    split at h
    · rename_i h1; cases h1
    · rename_i h1
      cases h1
      simp only [Bool.and_eq_true, beq_iff_eq] at h
      obtain ⟨rfl, h⟩ := h
      rw [ih h]; rfl
    · cases h

def zB (z : V) (r : Value) : Bool :=
  match z with
  | .bool _ | .int _ _ | .z0 => oneB r z
  | .ints n xs => Nat.beq xs.length n && (match r with
    | .agg rs => ivB .i64 rs.toList xs
    | _ => false)
  | .bools n xs => Nat.beq xs.length n && (match r with
    | .agg rs => bvB rs.toList xs
    | _ => false)
  | .agg vs => match r with
    | .agg rs => vvB rs.toList vs
    | _ => false
  | .any => r.oneCell'
  | _ => false

theorem vvB_ok : ∀ {rs : List Value} {vs : List V}, vvB rs vs = true → All2 (fun v r => match v with
      | .bool b => r = .bool b
      | .int k n => r = .int k n
      | .z0 => r = .slice none 0 0
      | _ => False) vs rs := by
  intro rs
  induction rs with
  | nil => intro vs h; cases vs with
    | nil => exact .nil
    | cons => cases h
  | cons r rs ih =>
    intro vs h
    cases vs with
    | nil => cases h
    | cons v vs =>
      simp only [vvB, Bool.and_eq_true] at h
      refine .cons ?_ (ih h.2)
      have h1 := h.1
      unfold oneB at h1
      split at h1
      · simp only [beq_iff_eq] at h1; subst h1; rfl
      · simp only [Bool.and_eq_true, decide_eq_true_eq] at h1; obtain ⟨rfl, rfl⟩ := h1; rfl
      · rfl
      · cases h1

theorem zB_ok {z : V} {r : Value} (h : zB z r = true) : ZR z r := by
  cases z with
  | bool b =>
    simp only [zB, oneB] at h
    split at h
    · rename_i h1; cases h1; simp only [beq_iff_eq] at h; subst h; rfl
    · rename_i h1; cases h1
    · rename_i h1; cases h1
    · cases h
  | int k n =>
    simp only [zB, oneB] at h
    split at h
    · rename_i h1; cases h1
    · rename_i h1; cases h1; simp only [Bool.and_eq_true, decide_eq_true_eq] at h; obtain ⟨rfl, rfl⟩ := h; rfl
    · rename_i h1; cases h1
    · cases h
  | z0 =>
    simp only [zB, oneB] at h
    split at h
    · rename_i h1; cases h1
    · rename_i h1; cases h1
    · rfl
    · cases h
  | ints n xs =>
    simp only [zB, Bool.and_eq_true] at h
    obtain ⟨h1, h2⟩ := h
    split at h2
    · rename_i rs
      refine ⟨Nat.eq_of_beq_eq_true h1, ?_⟩
      rw [← ivB_ok h2]
    · cases h2
  | bools n xs =>
    simp only [zB, Bool.and_eq_true] at h
    obtain ⟨h1, h2⟩ := h
    split at h2
    · rename_i rs
      refine ⟨Nat.eq_of_beq_eq_true h1, ?_⟩
      rw [← bvB_ok h2]
    · cases h2
  | agg vs =>
    simp only [zB] at h
    split at h
    · rename_i rs
      exact ⟨rs.toList, by simp, vvB_ok h⟩
    · cases h
  | any => exact h
  | _ => cases h

def dB (P : Program) (t : TypeId) (d : D) : Bool :=
  match d, P.underlying t with
  | .bool, some .bool => true
  | .int k, some (.int k') => decide (k' = k)
  | .array n e, some (.array n' e') => Nat.beq n' n && Nat.beq e' e
  | .slice e, some (.slice e') => Nat.beq e' e
  | .map k e, some (.map k' e') => Nat.beq k' k && Nat.beq e' e
  | .struct fs, some (.struct fields) => decide (fields.toList.map (fun (f : Field) => (f.offset, f.type)) = fs) && !P.stoodInHeld t && fields.toList.all fun f => decide (f.name ≠ "_")
  | .other, some (.struct _) => false
  | .other, some (.array _ _) => false
  | .other, some _ => true
  | _, _ => false

theorem dB_ok {P : Program} {t : TypeId} {d : D} (h : dB P t d = true) : DR P t d := by
  unfold dB at h
  split at h
  · assumption
  · rename_i hu; rw [decide_eq_true_eq] at h; subst h; exact hu
  · rename_i hu
    simp only [Bool.and_eq_true] at h
    rw [Nat.eq_of_beq_eq_true h.1, Nat.eq_of_beq_eq_true h.2] at hu
    exact hu
  · rename_i hu
    rw [Nat.eq_of_beq_eq_true h] at hu
    exact hu
  · rename_i hu
    simp only [Bool.and_eq_true] at h
    rw [Nat.eq_of_beq_eq_true h.1, Nat.eq_of_beq_eq_true h.2] at hu
    exact hu
  · rename_i fs fields hu
    simp only [Bool.and_eq_true, decide_eq_true_eq, Bool.not_eq_true', List.all_eq_true] at h
    exact ⟨fields, hu, h.1.1, h.1.2, h.2⟩
  · cases h
  · cases h
  · rename_i u h1 h2 hu
    refine ⟨u, hu, ?_⟩
    cases u <;> first | rfl | exact absurd rfl (h1 _) | exact absurd rfl (h2 _ _)
  · cases h

def tiB (P : Program) (t : TypeId) (ti : TI) : Bool :=
  (match P.info? t with
  | some i => Nat.beq i.size ti.size && Nat.beq i.bytes ti.bytes && (match i.zero with
    | some zv => zB ti.z zv
    | none => false)
  | none => false) && dB P t ti.d && (ti.d.agg || Nat.beq ti.size 1) && Nat.blt 0 ti.size && Nat.beq ti.z.sz ti.size

theorem tiB_ok {P : Program} {t : TypeId} {ti : TI} (h : tiB P t ti = true) : TIok P t ti := by
  simp only [tiB, Bool.and_eq_true, Bool.or_eq_true] at h
  obtain ⟨⟨⟨⟨h1, h2⟩, h3⟩, h4⟩, h5⟩ := h
  refine ⟨?_, dB_ok h2, fun ha => ?_, Nat.blt_eq.mp h4, Nat.eq_of_beq_eq_true h5⟩
  · split at h1
    · rename_i i hi
      simp only [Bool.and_eq_true] at h1
      obtain ⟨⟨g1, g2⟩, g3⟩ := h1
      split at g3
      · rename_i zv hz
        exact ⟨i, hi, Nat.eq_of_beq_eq_true g1, Nat.eq_of_beq_eq_true g2, zv, hz, zB_ok g3⟩
      · cases g3
    · cases h1
  · rcases h3 with h3 | h3
    · rw [ha] at h3; cases h3
    · exact Nat.eq_of_beq_eq_true h3

def ttB (P : Program) : TT → Bool
  | [] => true
  | (t, ti) :: r => tiB P t ti && ttB P r

theorem ttB_ok {P : Program} : ∀ {tt : TT}, ttB P tt = true → TTok P tt
  | [], _, t, ti, hl => by cases hl
  | (u, x) :: r, h, t, ti, hl => by
    simp only [ttB, Bool.and_eq_true] at h
    simp only [look] at hl
    cases hb : Nat.beq u t with
    | true =>
      rw [hb] at hl
      simp only [cond_true, Option.some.injEq] at hl
      subst hl
      rw [← Nat.eq_of_beq_eq_true hb]
      exact tiB_ok h.1
    | false =>
      rw [hb] at hl
      exact ttB_ok h.2 t ti hl

end Go.Lv
