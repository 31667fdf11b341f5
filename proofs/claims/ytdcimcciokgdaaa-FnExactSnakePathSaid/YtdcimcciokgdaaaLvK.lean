/-
Calls, sound.
-/
import Derived.Test.YtdcimcciokgdaaaLvJ
namespace Go.Lv
open Go.RowKit
set_option linter.unusedVariables false
set_option linter.unusedSimpArgs false
set_option linter.unusedSectionVars false

/-! ### memory, put back -/
theorem mget_app (a b : Mem) (x : Nat) : mget (a ++ b) x = if x < a.length then mget a x else mget b (x - a.length) := by
  induction a generalizing x with
  | nil => simp
  | cons c r ih =>
    cases x with
    | zero => simp [mget]
    | succ x => simp only [List.cons_append, mget, ih, List.length_cons, Nat.add_lt_add_iff_right, Nat.add_sub_add_right]
theorem mget_drop (bs : Mem) (k x : Nat) : mget (bs.drop k) x = mget bs (k + x) := by
  induction bs generalizing k with
  | nil => simp [mget]
  | cons c r ih =>
    cases k with
    | zero => simp
    | succ k => rw [List.drop_succ_cons, ih, show k + 1 + x = (k + x) + 1 by omega]; rfl
theorem mget_map (f : Nat → Nat) (bs : Mem) (x : Nat) : mget (bs.map (Blk.ren f)) x = (mget bs x).ren f := by
  induction bs generalizing x with
  | nil => rfl
  | cons c r ih => cases x <;> simp [mget, ih]
theorem mget_eq (bs : Mem) (x : Nat) : mget bs x = bs[x]?.getD .dead := by
  induction bs generalizing x with
  | nil => rfl
  | cons c r ih => cases x <;> simp [mget, ih]

theorem putGo_len (hs : List Nat) (bs : Mem) : ∀ (mem : Mem) (s : Nat), (putGo hs bs s mem).length = mem.length
  | [], s => rfl
  | b :: r, s => by simp [putGo, putGo_len hs bs r]
theorem putGo_get (hs : List Nat) (bs : Mem) : ∀ (mem : Mem) (s x : Nat), x < mem.length → mget (putGo hs bs s mem) x = match idx (s + x) hs with
    | some i => mget bs i
    | none => mget mem x
  | [], s, x, h => by simp at h
  | b :: r, s, 0, _ => by
    simp only [putGo, mget, Nat.add_zero]
    cases idx s hs <;> rfl
  | b :: r, s, x + 1, h => by
    simp only [putGo, mget]
    rw [putGo_get hs bs r (s + 1) x (by simpa using h), show s + 1 + x = s + (x + 1) by omega]

/-- where the handles lie, after a call -/
def rhoGo (hs : List Nat) (ρD : Rho) : Nat → Rho → Rho
  | _, [] => []
  | h, rl :: r => (match idx h hs with
    | some i => (ρD[i]?).getD .none
    | none => rl) :: rhoGo hs ρD (h + 1) r
theorem rhoGo_len (hs : List Nat) (ρD : Rho) : ∀ (ρ : Rho) (s : Nat), (rhoGo hs ρD s ρ).length = ρ.length
  | [], s => rfl
  | b :: r, s => by simp [rhoGo, rhoGo_len hs ρD r]
theorem rhoGo_get (hs : List Nat) (ρD : Rho) : ∀ (ρ : Rho) (s x : Nat) (rl : Rl), ρ[x]? = some rl → (rhoGo hs ρD s ρ)[x]? = some (match idx (s + x) hs with
    | some i => (ρD[i]?).getD .none
    | none => rl)
  | [], s, x, rl, h => by simp at h
  | b :: r, s, 0, rl, h => by
    simp only [List.getElem?_cons_zero, Option.some.injEq] at h
    subst h
    simp only [rhoGo, Nat.add_zero, List.getElem?_cons_zero]
  | b :: r, s, x + 1, rl, h => by
    simp only [rhoGo, List.getElem?_cons_succ]
    rw [rhoGo_get hs ρD r (s + 1) x rl (by simpa using h), show s + 1 + x = s + (x + 1) by omega]

theorem maskL_len : ∀ (ms : List Nat) (mem : Mem), (maskL ms mem).length = mem.length
  | [], mem => rfl
  | s :: r, mem => by rw [maskL, maskL_len r, @mset_length (Fr.of fun _ => False)]
theorem mset_ge (mem : Mem) (h : Nat) (b : Blk) (hl : mem.length ≤ h) : mset mem h b = mem := by
  induction mem generalizing h with
  | nil => rfl
  | cons a r ih =>
    cases h with
    | zero => simp at hl
    | succ h => simp only [mset]; rw [ih h (by simpa using hl)]
theorem mset_dead_get (mem : Mem) (s x : Nat) : mget (mset mem s .dead) x = if x = s then .dead else mget mem x := by
  rcases Nat.lt_or_ge s mem.length with h | h
  · exact @mget_mset (Fr.of fun _ => False) mem s x .dead h
  · rw [mset_ge _ _ _ h]
    by_cases hx : x = s
    · rw [if_pos hx, hx, @mget_ge (Fr.of fun _ => False) _ _ h]
    · rw [if_neg hx]
theorem maskL_get (ms : List Nat) : ∀ (mem : Mem) (x : Nat), mget (maskL ms mem) x = if x ∈ ms then .dead else mget mem x := by
  induction ms with
  | nil => intro mem x; simp [maskL]
  | cons s r ih =>
    intro mem x
    rw [maskL, ih, mset_dead_get]
    by_cases h1 : x ∈ r
    · simp [h1]
    · by_cases h2 : x = s
      · simp [h2]
      · simp [h1, h2]

/-! ### values are of handles that live -/
section
variable [fr : Fr] {w : World} {ρ : Rho} {mem : Mem}

theorem var_live {x : Nat} (h : ∃ n c, mget mem x = .var n c) : (mget mem x).live = true := by obtain ⟨n, c, h⟩ := h; rw [h]; rfl

theorem VR1_live {v : V} {r : Value} (h : VR1 w ρ mem v r) : ∀ x ∈ v.hs, (mget mem x).live = true := by
  intro x hx
  cases v with
  | undef | any | ints | bools => simp [V.hs] at hx
  | agg vs =>
    obtain ⟨rs, _, h2⟩ := h
    simp only [V.hs] at hx
    obtain ⟨u, hu, hx⟩ := mem_hsL hx
    obtain ⟨y, _, hp⟩ := all2_mem h2 hu
    exact var_live (VF.var hp x hx)
  | rp c i o s =>
    obtain ⟨b, off, rs, _, _, _, hc, _⟩ := h
    exact var_live (CR.var hc x (by simpa only [V.hs] using hx))
  | sl y off n =>
    obtain ⟨e, c, a, cap, hm, _⟩ := h
    simp only [V.hs, List.mem_singleton] at hx
    subst hx
    rw [hm]; rfl
  | asl y o s n =>
    obtain ⟨e, c, b, hm, _⟩ := h
    simp only [V.hs, List.mem_singleton] at hx
    subst hx
    rw [hm]; rfl
  | map y =>
    obtain ⟨kvs, b, hm, _⟩ := h
    simp only [V.hs, List.mem_singleton] at hx
    subst hx
    rw [hm]; rfl
  | tup vs => exact (h : False).elim
  | ptr y i o s =>
    simp only [V.hs, List.mem_singleton] at hx
    subst hx
    rcases h with ⟨n, c, b, hm, _⟩ | ⟨e, c, b, cap, hm, _⟩
    · rw [hm]; rfl
    · rw [hm]; rfl
  | bool b => simp [V.hs] at hx
  | int k n => simp [V.hs] at hx
  | z0 => simp [V.hs] at hx
  | ri k xs => simp [V.hs] at hx
  | rb bs => simp [V.hs] at hx
  | rr m xss => simp [V.hs] at hx
  | rv vs => exact var_live (VF.var (v := .rv vs) (w := w) (ρ := ρ) (mem := mem) (r := r) h x hx)
  | fn f y z => exact var_live (VF.var (v := .fn f y z) (w := w) (ρ := ρ) (mem := mem) (r := r) h x hx)

theorem VR1_of_VR {v : V} {r : Value} (h : VR w ρ mem v r) (hn : ∀ vs, v ≠ .tup vs) : VR1 w ρ mem v r := by
  cases v <;> first | exact h | exact absurd rfl (hn _)

theorem VR_live {v : V} {r : Value} (h : VR w ρ mem v r) : ∀ x ∈ v.hs, (mget mem x).live = true := by
  intro x hx
  cases v with
  | tup vs =>
    obtain ⟨rs, _, h2⟩ := h
    simp only [V.hs] at hx
    obtain ⟨u, hu, hx⟩ := mem_hsL hx
    obtain ⟨y, _, hp⟩ := all2_mem h2 hu
    exact VR1_live hp x hx
  | _ => exact VR1_live (VR1_of_VR h (fun vs e => by cases e)) x hx

theorem BlkR_live {b : Blk} {rl : Rl} (h : BlkR w ρ mem b rl) : ∀ x ∈ b.hs, (mget mem x).live = true := by
  intro x hx
  cases b with
  | dead => simp [Blk.hs] at hx
  | var n c => obtain ⟨r, e, rs, _, _, _, hc, _⟩ := h; exact var_live (CR.var hc x hx)
  | vec e c =>
    obtain ⟨a, cap, _, _, hc⟩ := h
    rcases hc with ⟨_, hc⟩ | ⟨_, _, _, _, _, _, _, hc⟩
    · exact var_live (CR.var hc x hx)
    · exact var_live (CR.var hc x hx)
  | map kvs => simp [Blk.hs] at hx
end

theorem nodup_inj : ∀ {l : List Nat} (h : l.Nodup) {i j x : Nat}, l[i]? = some x → l[j]? = some x → i = j
  | [], _, i, j, x, hi, _ => by simp at hi
  | a :: r, h, 0, 0, x, _, _ => rfl
  | a :: r, h, 0, j + 1, x, hi, hj => by
    simp only [List.getElem?_cons_zero, Option.some.injEq] at hi
    subst hi
    exact absurd (List.mem_of_getElem? (by simpa using hj)) (List.nodup_cons.1 h).1
  | a :: r, h, i + 1, 0, x, hi, hj => by
    simp only [List.getElem?_cons_zero, Option.some.injEq] at hj
    subst hj
    exact absurd (List.mem_of_getElem? (by simpa using hi)) (List.nodup_cons.1 h).1
  | a :: r, h, i + 1, j + 1, x, hi, hj => by
    exact congrArg (· + 1) (nodup_inj (List.nodup_cons.1 h).2 (x := x) (by simpa using hi) (by simpa using hj))

theorem idx_get {hs : List Nat} (hnd : hs.Nodup) {i h : Nat} (hi : hs[i]? = some h) : idx h hs = some i := by
  obtain ⟨j, hj⟩ := idx_mem (List.mem_of_getElem? hi)
  rw [hj, nodup_inj hnd (idx_some hj) hi]
theorem idx_none {hs : List Nat} {h : Nat} (hn : h ∉ hs) : idx h hs = none := by
  cases hi : idx h hs with
  | none => rfl
  | some i => exact absurd (List.mem_of_getElem? (idx_some hi)) hn

/-! ### down -/
section
variable {w : World} {ρ : Rho} {mem : Mem} {hs pub : List Nat}

/-- what the callee may not touch -/
def frD (fr : Fr) (ρ : Rho) (mem : Mem) (hs pub : List Nat) : Fr → Prop := fun f => ∀ r, f.default.F r ↔ (fr.default.F r ∨ ∃ h rl, ρ[h]? = some rl ∧ (mget mem h).live = true ∧ rl.blk = some r ∧ h ∉ hs ∧ h ∉ pub)

def memD (mem : Mem) (hs : List Nat) : Mem := hs.map fun h => (mget mem h).ren (dnH hs)
def rhoD (ρ : Rho) (hs : List Nat) : Rho := hs.map fun h => (ρ[h]?).getD .none

theorem memD_get (i : Nat) (h : Nat) (hi : hs[i]? = some h) : mget (memD mem hs) i = (mget mem h).ren (dnH hs) := by
  rw [mget_eq, memD, List.getElem?_map, hi]; rfl
theorem memD_none (i : Nat) (hi : hs[i]? = none) : mget (memD mem hs) i = .dead := by
  rw [mget_eq, memD, List.getElem?_map, hi]; rfl
theorem rhoD_get (i : Nat) (h : Nat) (hi : hs[i]? = some h) : (rhoD ρ hs)[i]? = some ((ρ[h]?).getD .none) := by
  rw [rhoD, List.getElem?_map, hi]; rfl

theorem LB_down (fr : Fr) (hw : @WR fr w ρ mem) {r : Nat} (h : LB (rhoD ρ hs) (memD mem hs) r) : ∃ x rl, x ∈ hs ∧ ρ[x]? = some rl ∧ (mget mem x).live = true ∧ rl.blk = some r := by
  have wlen := @WR.len fr _ _ _ hw
  have wblk := @WR.blk fr _ _ _ hw
  have winj := @WR.inj fr _ _ _ hw
  have wnf := @WR.nf fr _ _ _ hw
  have wfb := @WR.fb fr _ _ _ hw
  obtain ⟨i, rl, hi, hl, hb⟩ := h
  cases hx : hs[i]? with
  | none => rw [memD_none i hx] at hl; cases hl
  | some x =>
    rw [memD_get i x hx, ren_live] at hl
    rw [rhoD_get i x hx] at hi
    have hlt := @live_lt fr _ _ hl
    rw [← wlen] at hlt
    rw [List.getElem?_eq_getElem hlt] at hi
    simp only [Option.getD_some, Option.some.injEq] at hi
    exact ⟨x, rl, List.mem_of_getElem? hx, by rw [List.getElem?_eq_getElem hlt, hi], hl, hb⟩

theorem rn_down (fr f2 : Fr) (hf : frD fr ρ mem hs pub f2) (hw : @WR fr w ρ mem) : Rn fr f2 w ρ mem (rhoD ρ hs) (memD mem hs) (dnH hs) (· ∈ hs) True := by
  refine ⟨fun h rl hS hρ hl => ?_, fun _ b hb ⟨hn, hnf⟩ => ⟨fun hlb => ?_, fun hF => ?_⟩⟩
  · obtain ⟨i, hi⟩ := idx_mem hS
    have h2 := idx_some hi
    have e : dnH hs h = i := by simp [dnH, hi]
    rw [e]
    exact ⟨by rw [rhoD_get i h h2, hρ]; rfl, _, memD_get i h h2⟩
  · obtain ⟨x, rl, _, h1, h2, h3⟩ := LB_down fr hw hlb
    exact hn ⟨x, rl, h1, h2, h3⟩
  · rcases (hf b).1 hF with hF | ⟨x, rl, h1, h2, h3, _⟩
    · exact hnf hF
    · exact hn ⟨x, rl, h1, h2, h3⟩

theorem wr_down (fr f2 : Fr) (hf : frD fr ρ mem hs pub f2) (hw : @WR fr w ρ mem) (hnd : hs.Nodup) (hcl : ∀ h ∈ hs, ∀ x ∈ (mget mem h).hs, x ∈ hs) : @WR f2 w (rhoD ρ hs) (memD mem hs) := by
  have R := rn_down fr f2 hf hw
  have wlen := @WR.len fr _ _ _ hw
  have wblk := @WR.blk fr _ _ _ hw
  have winj := @WR.inj fr _ _ _ hw
  have wnf := @WR.nf fr _ _ _ hw
  have wfb := @WR.fb fr _ _ _ hw
  refine @WR.mk f2 _ _ _ ?_ ?_ ?_ ?_ ?_
  · simp [rhoD, memD]
  · intro i rl hi
    cases hx : hs[i]? with
    | none =>
      rw [memD_none i hx]; trivial
    | some x =>
      rw [memD_get i x hx]
      rw [rhoD_get i x hx] at hi
      cases hρ : ρ[x]? with
      | none =>
        have hlt : ¬ x < mem.length := fun h => by
          rw [← wlen] at h
          rw [List.getElem?_eq_getElem h] at hρ; cases hρ
        rw [@mget_ge fr _ _ (by omega)]; trivial
      | some rl2 =>
        rw [hρ] at hi
        simp only [Option.getD_some, Option.some.injEq] at hi
        subst hi
        exact BlkR_ren R (hcl x (List.mem_of_getElem? hx)) (fun _ => trivial) (wblk x _ hρ)
  · intro i j rl1 rl2 r hi hj hli hlj hbi hbj
    cases hx : hs[i]? with
    | none => rw [memD_none i hx] at hli; cases hli
    | some x =>
      cases hy : hs[j]? with
      | none => rw [memD_none j hy] at hlj; cases hlj
      | some y =>
        rw [memD_get i x hx, ren_live] at hli
        rw [memD_get j y hy, ren_live] at hlj
        rw [rhoD_get i x hx] at hi
        rw [rhoD_get j y hy] at hj
        have hx1 := @live_lt fr _ _ hli
        have hy1 := @live_lt fr _ _ hlj
        rw [← wlen] at hx1 hy1
        rw [List.getElem?_eq_getElem hx1] at hi
        rw [List.getElem?_eq_getElem hy1] at hj
        simp only [Option.getD_some, Option.some.injEq] at hi hj
        have := winj x y rl1 rl2 r (by rw [List.getElem?_eq_getElem hx1, hi]) (by rw [List.getElem?_eq_getElem hy1, hj]) hli hlj hbi hbj
        subst this
        exact nodup_inj hnd hx hy
  · intro r hlb hF
    obtain ⟨x, rl, hxs, h1, h2, h3⟩ := LB_down fr hw hlb
    rcases (hf r).1 hF with hF | ⟨y, rl2, g1, g2, g3, g4, _⟩
    · exact wnf r ⟨x, rl, h1, h2, h3⟩ hF
    · exact g4 (winj y x rl2 rl r g1 h1 g2 h2 g3 h3 ▸ hxs)
  · intro r hF
    rcases (hf r).1 hF with hF | ⟨y, rl2, g1, g2, g3, _⟩
    · exact wfb r hF
    · exact @WR.lt fr _ _ _ hw r ⟨y, rl2, g1, g2, g3⟩

theorem okRo_ren {f : Nat → Nat} {c : V} (h : c.okRo = true) : (c.ren f).okRo = true := by
  cases c with
  | rv vs =>
    simp only [V.okRo, List.all_eq_true] at h
    simp only [V.ren, renL_map, V.okRo, List.all_eq_true, List.mem_map]
    rintro x ⟨y, hy, rfl⟩
    have := h y hy
    cases y <;> first | rfl | cases this
  | _ => rfl

/-- what is handed over -/
theorem lent_ok (fr f2 : Fr) (hf : frD fr ρ mem hs pub f2) (hw : @WR fr w ρ mem) {v c : V} {r : Value} (hv : @VR fr w ρ mem v r) {h : Nat} (hh : (∃ o n, v = .sl h o n) ∨ ∃ o s n, v = .asl h o s n) (hview : v.view mem = some c)
    (hg : c.okRo = true) (hp : h ∈ pub) (hns : h ∉ hs) (hcs : ∀ x ∈ c.hs, x ∈ hs) : @VR f2 w (rhoD ρ hs) (memD mem hs) (c.ren (dnH hs)) r := by
  have wlen := @WR.len fr _ _ _ hw
  have wblk := @WR.blk fr _ _ _ hw
  have winj := @WR.inj fr _ _ _ hw
  have wnf := @WR.nf fr _ _ _ hw
  have R := rn_down fr f2 hf hw
  obtain ⟨rs, m, hsh⟩ := @view_ok fr _ _ _ hw _ _ _ hv hview
  -- the block
  obtain ⟨rl, hρ, hl, hb⟩ : ∃ rl, ρ[h]? = some rl ∧ (mget mem h).live = true ∧ ∀ b o, (∃ ad cap, r = .slice ad m cap ∧ ad = some ⟨b, o, none⟩) → m ≠ 0 → rl.blk = some b := by
    rcases hh with ⟨o, n, rfl⟩ | ⟨o, s, n, rfl⟩
    · simp only [V.view] at hview
      split at hview
      · rename_i e c0 hm
        obtain ⟨rs', ad', cap', rl, hr, _, _, _, _, _, hρ, hcell⟩ := @sl_shows fr _ _ _ hw _ _ _ _ hv _ _ hm
        refine ⟨rl, hρ, by rw [hm]; rfl, fun b o2 ⟨ad, cap, h1, h2⟩ hm0 => ?_⟩
        rw [hr] at h1
        cases h1
        obtain ⟨b2, o3, h3, h4, _⟩ := hcell hm0
        rw [h2] at h3
        cases h3
        exact h4
      · cases hview
    · obtain ⟨m', c', b', hm, hρ, _, _, a', cap', hr, _, ha'⟩ := hv
      refine ⟨_, hρ, by rw [hm]; rfl, fun b o2 ⟨ad, cap, h1, h2⟩ hm0 => ?_⟩
      rw [hr] at h1
      cases h1
      rw [ha' hm0] at h2
      cases h2
      rfl
  obtain ⟨ad, cap, hr, hmc, hlen, hy, hcell⟩ := hsh
  rcases hy with ⟨rfl, rfl, rfl⟩ | ⟨hcr, hcnt, _⟩
  · exfalso
    rcases hh with ⟨o, n, rfl⟩ | ⟨o, s, n, rfl⟩
    · simp only [V.view] at hview
      split at hview
      · rename_i e c0 hm
        obtain ⟨_, _, _, _, _, _, hcr, _⟩ := @sl_shows fr _ _ _ hw _ _ _ _ hv _ _ hm
        simp only [Option.some.injEq] at hview
        rw [hview] at hcr
        exact hcr
      · cases hview
    · simp only [V.view] at hview
      split at hview
      · rename_i m xs hm
        cases hq : Nat.beq s 1 <;> rw [hq] at hview <;> simp at hview
      · cases hview
  · refine @ro_ok f2 _ _ _ _ rs _ (CR_ren R hcs (fun _ => trivial) hcr) ?_ ?_
    · exact okRo_ren hg
    · rw [ren_wd, ren_cnt, hcnt]
      refine ⟨ad, cap, hr, hmc, hlen, fun hm0 => ?_⟩
      obtain ⟨b, o, had, hc⟩ := hcell hm0
      have hbb := hb b o ⟨ad, cap, hr, had⟩ hm0
      refine ⟨b, o, had, ⟨fun hlb => ?_, fun hF => ?_⟩, @WR.lt fr _ _ _ hw b ⟨h, rl, hρ, hl, hbb⟩, hc⟩
      · obtain ⟨x, rl2, hx, h1, h2, h3⟩ := LB_down fr hw hlb
        exact hns (winj x h rl2 rl b h1 hρ h2 hl h3 hbb ▸ hx)
      · rcases (hf b).1 hF with hF | ⟨y, rl2, g1, g2, g3, _, g5⟩
        · exact wnf b ⟨h, rl, hρ, hl, hbb⟩ hF
        · exact g5 (winj y h rl2 rl b g1 hρ g2 hl g3 hbb ▸ hp)

theorem lent_cons (v : V) (r : List V) (own : List Bool) : lent (v :: r) own = bif own.headD false then lent r own.tail else
    match v with
    | .sl h _ _ => h :: lent r own.tail
    | .asl h _ _ _ => h :: lent r own.tail
    | _ => lent r own.tail := by
  cases v <;> rfl

theorem args_ok (fr f2 : Fr) (hf : frD fr ρ mem hs pub f2) (hw : @WR fr w ρ mem) (hns : ∀ h ∈ pub, h ∉ hs) : ∀ {args args1 : List V} {own : List Bool} {reals : List Value}, All2 (@VR fr w ρ mem) args reals → roArgs mem args own = some args1 →
    (∀ h ∈ lent args own, h ∈ pub) → (∀ x ∈ V.hsL args1, x ∈ hs) → All2 (@VR f2 w (rhoD ρ hs) (memD mem hs)) (args1.map (V.ren (dnH hs))) reals := by
  have R := rn_down fr f2 hf hw
  intro args args1 own reals h
  induction h generalizing args1 own with
  | nil =>
    intro hro _ _
    simp only [roArgs, Option.some.injEq] at hro
    subst hro
    exact .nil
  | cons hp hrest ih =>
    rename_i v r vs rs
    intro hro hpub hcs
    have plain : (roArgs mem vs own.tail).map (v :: ·) = some args1 → lent (v :: vs) own = lent vs own.tail → All2 (@VR f2 w (rhoD ρ hs) (memD mem hs)) (args1.map (V.ren (dnH hs))) (r :: rs) := fun h hl => by
      simp only [Option.map_eq_some_iff] at h
      obtain ⟨as, h1, rfl⟩ := h
      rw [hl] at hpub
      refine .cons (VR_ren R (fun x hx => hcs x (by simp [V.hsL, hx])) (fun _ => trivial) hp) (ih h1 hpub fun x hx => hcs x (by simp [V.hsL, hx]))
    have slc : ∀ h, ((∃ o n, v = .sl h o n) ∨ ∃ o s n, v = .asl h o s n) → (match v.view mem with
        | some c => bif c.okRo then (roArgs mem vs own.tail).map (c :: ·) else none
        | none => none) = some args1 → lent (v :: vs) own = h :: lent vs own.tail → All2 (@VR f2 w (rhoD ρ hs) (memD mem hs)) (args1.map (V.ren (dnH hs))) (r :: rs) := fun h hh hx hl => by
      split at hx
      case h_2 => cases hx
      rename_i c hc
      obtain ⟨hg, hx⟩ := cond_none hx
      simp only [Option.map_eq_some_iff] at hx
      obtain ⟨as, h1, rfl⟩ := hx
      rw [hl] at hpub
      exact .cons (lent_ok fr f2 hf hw hp hh hc hg (hpub h (by simp)) (hns h (hpub h (by simp))) fun x hx => hcs x (by simp [V.hsL, hx]))
        (ih h1 (fun x hx => hpub x (by simp [hx])) fun x hx => hcs x (by simp [V.hsL, hx]))
    unfold roArgs at hro
    cases ho : own.headD false with
    | true =>
      rw [ho] at hro
      exact plain hro (by rw [lent_cons, ho]; rfl)
    | false =>
      rw [ho] at hro
      simp only [cond_false] at hro
      cases v with
      | sl h o n => exact slc h (.inl ⟨o, n, rfl⟩) hro (by rw [lent_cons, ho]; rfl)
      | asl h o s n => exact slc h (.inr ⟨o, s, n, rfl⟩) hro (by rw [lent_cons, ho]; rfl)
      | _ => exact plain hro (by rw [lent_cons, ho]; rfl)

end

end Go.Lv
