/-
The operations of the abstract machine, sound: literals of structs and arrays; new blocks.
-/
import Derived.Test.YtdcimcciokgdaaaLvE
namespace Go.Lv
open Go.RowKit
set_option linter.unusedVariables false
set_option linter.unusedSimpArgs false
set_option linter.unusedSectionVars false
variable [fr : Fr]

section
variable {P : Program} {tt : TT} {tab : Tab} {σ : St} {a : Act} {w : World} {ρ : Rho} {R : Type}

/-! ### lists that are written -/
theorem splice_len {α : Type} (xs : List α) (o : Nat) (ys : List α) (s : Nat) (h : o + s ≤ xs.length) (hy : ys.length = s) : (splice xs o ys s).length = xs.length := by
  simp [splice]; omega
theorem iset_eq (xs : List Int) (o : Nat) (v : Int) : iset xs o v = xs.set o v := by
  induction xs generalizing o with
  | nil => rfl
  | cons x r ih => cases o <;> simp [iset, ih]
theorem bset_eq (xs : List Bool) (o : Nat) (v : Bool) : bset xs o v = xs.set o v := by
  induction xs generalizing o with
  | nil => rfl
  | cons x r ih => cases o <;> simp [bset, ih]
theorem rset_eq (xs : List (List Int)) (o : Nat) (v : List Int) : rset xs o v = xs.set o v := by
  induction xs generalizing o with
  | nil => rfl
  | cons x r ih => cases o <;> simp [rset, ih]
theorem tset_eq (xs : List V) (o : Nat) (v : V) : tset xs o v = xs.set o v := by
  induction xs generalizing o with
  | nil => rfl
  | cons x r ih => cases o <;> simp [tset, ih]
theorem set_splice {α : Type} (xs : List α) (o : Nat) (v : α) (h : o < xs.length) : xs.set o v = splice xs o [v] 1 := by
  unfold splice
  rw [List.set_eq_take_append_cons_drop, if_pos h]
  simp
theorem iv_splice (k : IntKind) (xs : List Int) (o : Nat) (ys : List Int) (s : Nat) : iv k (splice xs o ys s) = splice (iv k xs) o (iv k ys) s := by
  simp [iv, splice, List.map_take, List.map_drop]
theorem bv_splice (xs : List Bool) (o : Nat) (ys : List Bool) (s : Nat) : bv (splice xs o ys s) = splice (bv xs) o (bv ys) s := by
  simp [bv, splice, List.map_take, List.map_drop]
theorem splicen_eq {α : Type} (xs : List α) (o : Nat) (ys : List α) (s : Nat) (hy : ys.length = s) : splicen xs.length xs o ys s = splice xs o ys s := by
  unfold splicen
  by_cases h1 : o = 0
  · by_cases h2 : s = xs.length
    · subst h1; subst h2; simp [splice]
    · have : Nat.beq s xs.length = false := by rw [← Bool.not_eq_true, Nat.beq_eq]; exact h2
      simp [this]
  · have : Nat.beq o 0 = false := by rw [← Bool.not_eq_true, Nat.beq_eq]; exact h1
    simp [this]
theorem all2_append {α β : Type} {p : α → β → Prop} {xs xs' : List α} {ys ys' : List β} (h : All2 p xs ys) (h' : All2 p xs' ys') : All2 p (xs ++ xs') (ys ++ ys') := by
  induction h with
  | nil => exact h'
  | cons hp _ ih => exact .cons hp ih
theorem all2_splice {α β : Type} {p : α → β → Prop} {xs : List α} {ys : List β} {us : List α} {vs : List β} (h : All2 p xs ys) (h' : All2 p us vs) (o s : Nat) : All2 p (splice xs o us s) (splice ys o vs s) :=
  all2_append (all2_append (all2_take h o) h') (all2_drop h (o + s))

theorem foldl_splice (off : Nat) : ∀ (vs : List Value) (i : Nat) (cs : Array Value), off + i + vs.length ≤ cs.size →
    ((vs.zipIdx i).foldl (fun (cs : Array Value) (c : Value × Nat) => cs.setIfInBounds (off + c.2) c.1) cs).toList = splice cs.toList (off + i) vs vs.length
  | [], i, cs, h => by simp [splice]
  | v :: vs, i, cs, h => by
    have hl : off + i < cs.toList.length := by simp at h ⊢; omega
    rw [List.zipIdx_cons, List.foldl_cons, foldl_splice off vs (i + 1) _ (by simp at h ⊢; omega)]
    simp only [Array.toList_setIfInBounds]
    unfold splice
    rw [← Nat.add_assoc]
    have e1 : (cs.toList.set (off + i) v).take (off + i + 1) = cs.toList.take (off + i) ++ [v] := by
      rw [List.set_eq_take_append_cons_drop, if_pos hl, List.take_append, List.take_take]
      simp only [List.length_take]
      rw [Nat.min_eq_right (by omega), Nat.min_eq_left (by omega), show off + i + 1 - (off + i) = 1 by omega]
      simp
    have e2 : (cs.toList.set (off + i) v).drop (off + i + 1 + vs.length) = cs.toList.drop (off + i + (v :: vs).length) := by
      rw [List.drop_set_of_lt (by omega)]
      congr 1
      simp only [List.length_cons]; omega
    rw [e1, e2]
    simp

/-- what a value under the making holds -/
def HB (w : World) (ρ : Rho) (mem : Mem) (z : V) (cs : Array Value) : Prop :=
  match z with
  | .ints n xs => xs.length = n ∧ cs = (iv .i64 xs).toArray
  | .bools n bs => bs.length = n ∧ cs = (bv bs).toArray
  | .agg vs => All2 (VF w ρ mem) vs cs.toList
  | _ => False

theorem cells_int (k : IntKind) (n : Int) : (Value.int k n).cells = #[.int k n] := rfl

theorem VF_flat {mem : Mem} {v : V} {r : Value} (h : VR w ρ mem v r) (hf : v.flat = true) : VF w ρ mem v r := by
  cases v with
  | bool b => exact h
  | int k n => exact h
  | ri k xs => exact h
  | rb bs => exact h
  | rr m xss => exact h
  | z0 => exact h
  | rv vs => exact h
  | fn f x y => exact h
  | _ => cases hf

theorem VF_one {mem : Mem} {v : V} {r : Value} (h : VF w ρ mem v r) : r.cells = #[r] ∧ r.oneCell' = true := by
  have slc : ∀ a n c, (Value.slice a n c).cells = #[.slice a n c] ∧ (Value.slice a n c).oneCell' = true := fun _ _ _ => ⟨rfl, rfl⟩
  cases v with
  | any =>
    have h : r.oneCell' = true := h
    refine ⟨?_, h⟩
    cases r <;> first | rfl | cases h
  | bool b => rw [show r = _ from h]; exact ⟨rfl, rfl⟩
  | int k n => rw [show r = _ from h]; exact ⟨rfl, rfl⟩
  | z0 => obtain ⟨a', rfl⟩ := h; exact slc _ _ _
  | ri k xs => obtain ⟨a', c', rfl, _⟩ := h; exact slc _ _ _
  | rb bs => obtain ⟨a', c', rfl, _⟩ := h; exact slc _ _ _
  | rr m xss => obtain ⟨_, a', c', rfl, _⟩ := h; exact slc _ _ _
  | rv vs => obtain ⟨_, ⟨a', c', rfl, _⟩, _⟩ := h; exact slc _ _ _
  | fn f x y => obtain ⟨_, _, rfl, _⟩ := h; exact ⟨rfl, rfl⟩
  | ptr x i o s => obtain ⟨_, _, _, _, _, rfl, _⟩ := h; exact ⟨rfl, rfl⟩
  | _ => exact h.elim

theorem fill_step {v : Value} {vs : List Value} (hv : v.cells = vs.toArray) {off s : Nat} (hs : vs.length = s) {cs : Array Value} (hb : off + s ≤ cs.size) {place : Nat → Option (Nat × Nat)} {i : Nat} (hp : place i = some (off, s)) (rest : List (Nat × Value)) :
    Instr.fill place cs ((i, v) :: rest) = Instr.fill place (splice cs.toList off vs s).toArray rest := by
  rw [Instr.fill, hp]
  simp only
  have h1 : v.cells.size = s := by rw [hv]; simpa using hs
  rw [if_neg (by simp [h1]; omega)]
  congr 1
  apply Array.ext'
  rw [hv]
  have := foldl_splice off vs 0 cs (by omega)
  simp only [Nat.add_zero] at this
  subst hs
  rw [← this, ← Array.foldl_toList, Array.toList_zipIdx]

theorem HB_size {mem : Mem} {z : V} {cs : Array Value} (h : HB w ρ mem z cs) : cs.size = z.sz := by
  cases z with
  | ints n xs => obtain ⟨h1, rfl⟩ := h; simpa [iv, V.sz] using h1
  | bools n bs => obtain ⟨h1, rfl⟩ := h; simpa [bv, V.sz] using h1
  | agg vs => have := all2_length (show All2 _ _ _ from h); simpa [V.sz] using this.symm
  | _ => exact h.elim

theorem fill_ok {N : Nat} {place : Nat → Option (Nat × Nat)} (hI : Inv σ a w ρ) : ∀ {ps : List (Nat × Operand)} {z v : V} {cs : Array Value},
    buildFold N z place (ps.map fun (i, x) => (i, evO σ x)) = some v → HB w ρ σ.mem z cs →
    ∃ cs', Instr.fill place cs (ps.map fun (i, x) => (i, a.eval x)) = some cs' ∧ HB w ρ σ.mem v cs' := by
  intro ps
  induction ps with
  | nil =>
    intro z v cs h hz
    simp only [List.map_nil, buildFold, Option.some.injEq] at h
    subst h
    exact ⟨cs, rfl, hz⟩
  | cons p ps ih =>
    intro z v cs h hz
    obtain ⟨i, y⟩ := p
    have hv := hI.op y
    simp only [List.map_cons, buildFold] at h
    split at h
    case h_2 => cases h
    rename_i off s hp
    have hsz := HB_size hz
    split at h
    · rename_i m xs x heq
      obtain ⟨hb, hh⟩ := cond_none h
      clear h
      simp only [Bool.and_eq_true] at hb
      have h1 := beq_eq' hb.1
      have h2 := Nat.blt_eq.mp hb.2
      subst h1
      rw [heq] at hv
      have hv : a.eval y = .int .i64 x := hv
      obtain ⟨hl, rfl⟩ := hz
      obtain ⟨cs', hf, hH⟩ := ih hh (cs := (iv .i64 (iset xs off x)).toArray) ⟨by rw [iset_eq]; simpa using hl, rfl⟩
      refine ⟨cs', ?_, hH⟩
      simp only [List.map_cons]
      rw [fill_step (vs := [.int .i64 x]) (by rw [hv]; rfl) rfl (by simp [iv]; omega) hp, ← hf]
      congr 2
      rw [iset_eq, set_splice _ _ _ (by omega), iv_splice]
      rfl
    · rename_i m xs s' ys heq
      obtain ⟨hb, hh⟩ := cond_none h
      clear h
      simp only [Bool.and_eq_true] at hb
      have h1 := beq_eq' hb.1
      have h2 := Nat.le_of_ble_eq_true hb.2
      subst h1
      rw [heq] at hv
      obtain ⟨hyl, hv⟩ := VR_ints hv
      obtain ⟨hl, rfl⟩ := hz
      subst hl
      rw [splicen_eq _ _ _ _ hyl] at hh
      obtain ⟨cs', hf, hH⟩ := ih hh (cs := (iv .i64 (splice xs off ys s)).toArray) ⟨splice_len _ _ _ _ h2 hyl, rfl⟩
      refine ⟨cs', ?_, hH⟩
      simp only [List.map_cons]
      rw [fill_step (vs := iv .i64 ys) (by rw [hv]; rfl) (by rw [iv_length]; exact hyl) (by simp [iv]; omega) hp, ← hf, iv_splice]
    · rename_i m xs x heq
      obtain ⟨hb, hh⟩ := cond_none h
      clear h
      simp only [Bool.and_eq_true] at hb
      have h1 := beq_eq' hb.1
      have h2 := Nat.blt_eq.mp hb.2
      subst h1
      rw [heq] at hv
      have hv : a.eval y = .bool x := hv
      obtain ⟨hl, rfl⟩ := hz
      obtain ⟨cs', hf, hH⟩ := ih hh (cs := (bv (bset xs off x)).toArray) ⟨by rw [bset_eq]; simpa using hl, rfl⟩
      refine ⟨cs', ?_, hH⟩
      simp only [List.map_cons]
      rw [fill_step (vs := [.bool x]) (by rw [hv]; rfl) rfl (by simp [bv]; omega) hp, ← hf]
      congr 2
      rw [bset_eq, set_splice _ _ _ (by omega), bv_splice]
      rfl
    · rename_i vs
      have hsz' : cs.size = vs.length := hsz
      obtain ⟨hb, hh⟩ := cond_none h
      clear h
      simp only [Bool.and_eq_true] at hb
      have h1 := beq_eq' hb.1.1
      have h2 := Nat.blt_eq.mp hb.1.2
      subst h1
      have hvf := VF_flat hv hb.2
      obtain ⟨hc1, hc2⟩ := VF_one hvf
      have hz2 : All2 (VF w ρ σ.mem) vs cs.toList := hz
      have hcl : off < cs.toList.length := by rw [← all2_length hz2]; exact h2
      obtain ⟨cs', hf, hH⟩ := ih hh (cs := (splice cs.toList off [a.eval y] 1).toArray) (by
        show All2 _ _ _
        rw [tset_eq, set_splice _ _ _ h2]
        exact all2_splice hz2 (.cons hvf .nil) off 1)
      refine ⟨cs', ?_, hH⟩
      simp only [List.map_cons]
      rw [fill_step (vs := [a.eval y]) (s := 1) hc1 rfl (by rw [hsz']; omega) hp, ← hf]
    · cases h

theorem HB_zero {mem : Mem} {z : V} {zv : Value} (h : ZR z zv) (hz : (∃ n xs, z = .ints n xs) ∨ (∃ n bs, z = .bools n bs) ∨ ∃ vs, z = .agg vs) : ∃ cs, zv = .agg cs ∧ HB w ρ mem z cs := by
  rcases hz with ⟨n, xs, rfl⟩ | ⟨n, bs, rfl⟩ | ⟨vs, rfl⟩
  · obtain ⟨h1, rfl⟩ := h; exact ⟨_, rfl, h1, rfl⟩
  · obtain ⟨h1, rfl⟩ := h; exact ⟨_, rfl, h1, rfl⟩
  · obtain ⟨rs, rfl, h2⟩ := h
    refine ⟨_, rfl, ?_⟩
    show All2 _ _ rs
    refine forall2_mono h2 fun x y _ hp => ?_
    cases x <;> first | exact hp | exact hp.elim | exact ⟨none, hp⟩

theorem VR_HB {mem : Mem} {z : V} {cs : Array Value} (h : HB w ρ mem z cs) : VR w ρ mem z (.agg cs) := by
  cases z with
  | ints n xs => obtain ⟨h1, rfl⟩ := h; exact ⟨h1, rfl⟩
  | bools n xs => obtain ⟨h1, rfl⟩ := h; exact ⟨h1, rfl⟩
  | agg vs => exact ⟨cs.toList, by simp, h⟩
  | _ => exact h.elim

/-- a fold over parts starts from an aggregate -/
theorem buildFold_agg {N : Nat} {z v : V} {place : Nat → Option (Nat × Nat)} {ps : List (Nat × V)} (h : buildFold N z place ps = some v) (hne : ps ≠ []) :
    (∃ n xs, z = .ints n xs) ∨ (∃ n bs, z = .bools n bs) ∨ ∃ vs, z = .agg vs := by
  cases ps with
  | nil => exact absurd rfl hne
  | cons p ps =>
    obtain ⟨i, u⟩ := p
    simp only [buildFold] at h
    split at h
    · split at h
      · exact .inl ⟨_, _, rfl⟩
      · exact .inl ⟨_, _, rfl⟩
      · exact .inr (.inl ⟨_, _, rfl⟩)
      · exact .inr (.inr ⟨_, rfl⟩)
      · cases h
    · cases h

end
end Go.Lv
