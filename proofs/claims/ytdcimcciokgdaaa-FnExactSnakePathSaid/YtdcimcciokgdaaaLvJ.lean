/-
Calls: other handles for the same things; what a callee sees, and what it leaves.
-/
import Derived.Test.YtdcimcciokgdaaaLvI
namespace Go.Lv
open Go.RowKit
set_option linter.unusedVariables false
set_option linter.unusedSimpArgs false
set_option linter.unusedSectionVars false

theorem renL_map (f : Nat → Nat) (vs : List V) : V.renL f vs = vs.map (V.ren f) := by
  induction vs with
  | nil => rfl
  | cons v r ih => simp [V.renL, ih]

theorem ren_cnt (f : Nat → Nat) (c : V) : (c.ren f).cnt = c.cnt := by cases c <;> simp [V.ren, V.cnt, renL_map]
theorem ren_wd (f : Nat → Nat) (c : V) : (c.ren f).wd = c.wd := by cases c <;> simp [V.ren, V.wd]
theorem ren_flatG {f : Nat → Nat} {v : V} (h : v.flatG = true) : v.ren f = v := by cases v <;> first | (simp [V.ren]; done) | cases h
theorem ren_live (f : Nat → Nat) (b : Blk) : (b.ren f).live = b.live := by cases b <;> rfl

/-- the same things in another memory, by other handles -/
structure Rn (f1 f2 : Fr) (w : World) (ρ1 : Rho) (m1 : Mem) (ρ2 : Rho) (m2 : Mem) (f : Nat → Nat) (S : Nat → Prop) (ro : Prop) : Prop where
  hd : ∀ (h : Nat) (rl : Rl), S h → ρ1[h]? = some rl → (mget m1 h).live = true → ρ2[f h]? = some rl ∧ ∃ g, mget m2 (f h) = (mget m1 h).ren g
  nl : ro → ∀ b, b < w.heap.size → @NL f1 ρ1 m1 b → @NL f2 ρ2 m2 b

section
variable {f1 f2 : Fr} {w : World} {ρ1 ρ2 : Rho} {m1 m2 : Mem} {f : Nat → Nat} {S : Nat → Prop} {ro : Prop}

theorem RoR_ren (R : Rn f1 f2 w ρ1 m1 ρ2 m2 f S ro) (hro : ro) {cells : List Value} {wd n : Nat} {r : Value} (h : @RoR f1 w ρ1 m1 cells wd n r) : @RoR f2 w ρ2 m2 cells wd n r := by
  obtain ⟨a, cap, rfl, hnc, hl, hc⟩ := h
  refine ⟨a, cap, rfl, hnc, hl, fun hn => ?_⟩
  obtain ⟨b, off, rfl, hnl, hb, hcell⟩ := hc hn
  exact ⟨b, off, rfl, R.nl hro b hb hnl, hb, hcell⟩

theorem PtrV_ren (R : Rn f1 f2 w ρ1 m1 ρ2 m2 f S ro) {h i o s : Nat} {r : Value} (hS : S h) (hv : PtrV ρ1 m1 h i o s r) : PtrV ρ2 m2 (f h) i o s r := by
  obtain ⟨n, c, b, hm, hρ, rfl, hi, ho⟩ := hv
  obtain ⟨h1, g, h2⟩ := R.hd h _ hS hρ (by rw [hm]; rfl)
  rw [hm] at h2
  exact ⟨n, c.ren g, b, h2, h1, rfl, hi, ho⟩

theorem VG_ren (R : Rn f1 f2 w ρ1 m1 ρ2 m2 f S ro) {v : V} {r : Value} (hS : ∀ h ∈ v.hs, S h) (hro : v.hasRo = true → ro) (hv : @VG f1 w ρ1 m1 v r) : @VG f2 w ρ2 m2 (v.ren f) r := by
  cases v with
  | any | bool | int | z0 => exact hv
  | ri k xs => exact RoR_ren R (hro rfl) hv
  | rb bs => exact RoR_ren R (hro rfl) hv
  | rr m xss => exact ⟨hv.1, RoR_ren R (hro rfl) hv.2⟩
  | ptr x i o s => exact PtrV_ren R (hS x (by simp [V.hs])) hv
  | _ => exact hv.elim

theorem all2_map {α β γ : Type} {p : α → β → Prop} {q : γ → β → Prop} {g : α → γ} {xs : List α} {ys : List β} (h : All2 p xs ys) (hpq : ∀ x y, x ∈ xs → p x y → q (g x) y) : All2 q (xs.map g) ys := by
  induction h with
  | nil => exact .nil
  | cons hp _ ih => exact .cons (hpq _ _ (by simp) hp) (ih fun x y hx => hpq x y (by simp [hx]))

theorem VF_ren (R : Rn f1 f2 w ρ1 m1 ρ2 m2 f S ro) {v : V} {r : Value} (hS : ∀ h ∈ v.hs, S h) (hro : v.hasRo = true → ro) (hv : @VF f1 w ρ1 m1 v r) : @VF f2 w ρ2 m2 (v.ren f) r := by
  cases v with
  | rv vs =>
    obtain ⟨rs, h1, h2⟩ := hv
    have hr := hro rfl
    refine ⟨rs, ?_, ?_⟩
    · rw [renL_map, List.length_map]; exact RoR_ren R hr h1
    · rw [renL_map]
      exact all2_map h2 fun x y hx hp => VG_ren R (fun z hz => hS z (by simp only [V.hs]; exact hsL_mem hx hz)) (fun _ => hr) hp
  | fn g first caps =>
    obtain ⟨fs, cs, rfl, h1, h2⟩ := hv
    have hr := hro rfl
    refine ⟨fs, cs, rfl, ?_, ?_⟩
    · rw [renL_map]
      exact all2_map h1 fun x y hx hp => VG_ren R (fun z hz => hS z (by simp only [V.hs, List.mem_append]; exact .inl (hsL_mem hx hz))) (fun _ => hr) hp
    · rw [renL_map]
      exact all2_map h2 fun x y hx hp => VG_ren R (fun z hz => hS z (by simp only [V.hs, List.mem_append]; exact .inr (hsL_mem hx hz))) (fun _ => hr) hp
  | any => exact VG_ren R (v := .any) hS hro hv
  | bool b => exact VG_ren R (v := .bool b) hS hro hv
  | int k n => exact VG_ren R (v := .int k n) hS hro hv
  | z0 => exact VG_ren R (v := .z0) hS hro hv
  | ri k xs => exact VG_ren R (v := .ri k xs) hS hro hv
  | rb bs => exact VG_ren R (v := .rb bs) hS hro hv
  | rr m xss => exact VG_ren R (v := .rr m xss) hS hro hv
  | ptr x i o s => exact VG_ren R (v := .ptr x i o s) hS hro hv
  | _ => exact (hv : False).elim

theorem CR_ren (R : Rn f1 f2 w ρ1 m1 ρ2 m2 f S ro) {c : V} {rs : List Value} (hS : ∀ h ∈ c.hs, S h) (hro : (∃ vs, c = .rv vs) → ro) (hv : @CR f1 w ρ1 m1 c rs) : @CR f2 w ρ2 m2 (c.ren f) rs := by
  cases c with
  | ri | rb | rr => exact hv
  | rv vs =>
    have hr := hro ⟨_, rfl⟩
    show All2 _ (V.renL f vs) rs
    rw [renL_map]
    exact all2_map hv fun x y hx hp => VF_ren R (fun z hz => hS z (by simp only [V.hs]; exact hsL_mem hx hz)) (fun _ => hr) hp
  | _ => exact hv.elim

theorem VR1_ren (R : Rn f1 f2 w ρ1 m1 ρ2 m2 f S ro) {v : V} {r : Value} (hS : ∀ h ∈ v.hs, S h) (hro : v.hasRo = true → ro) (hv : @VR1 f1 w ρ1 m1 v r) : @VR1 f2 w ρ2 m2 (v.ren f) r := by
  cases v with
  | undef | any | ints | bools => exact hv
  | agg vs =>
    obtain ⟨rs, rfl, h2⟩ := hv
    have hr := hro rfl
    refine ⟨rs, rfl, ?_⟩
    rw [renL_map]
    exact all2_map h2 fun x y hx hp => VF_ren R (fun z hz => hS z (by simp only [V.hs]; exact hsL_mem hx hz)) (fun _ => hr) hp
  | rp c i o s =>
    obtain ⟨b, off, rs, rfl, hn, hb, hc, hcell, hi, ho⟩ := hv
    have hr := hro rfl
    exact ⟨b, off, rs, by rw [ren_wd], R.nl hr b hb hn, hb, CR_ren R (fun z hz => hS z (by simpa only [V.hs] using hz)) (fun _ => hr) hc, hcell, by rw [ren_cnt]; exact hi, by rw [ren_wd]; exact ho⟩
  | sl x off n =>
    obtain ⟨e, c, a, cap, hm, hρ, hle, hvv⟩ := hv
    obtain ⟨h1, g, h2⟩ := R.hd x _ (hS x (by simp [V.hs])) hρ (by rw [hm]; rfl)
    rw [hm] at h2
    exact ⟨e, c.ren g, a, cap, h2, h1, by rw [ren_cnt]; exact hle, by rw [ren_wd]; exact hvv⟩
  | asl x o s n =>
    obtain ⟨m, c, b, hm, hρ, hle, hs, hvv⟩ := hv
    obtain ⟨h1, g, h2⟩ := R.hd x _ (hS x (by simp [V.hs])) hρ (by rw [hm]; rfl)
    rw [hm] at h2
    exact ⟨m, c.ren g, b, h2, h1, hle, hs, hvv⟩
  | map x =>
    obtain ⟨kvs, b, hm, hρ, rfl⟩ := hv
    obtain ⟨h1, g, h2⟩ := R.hd x _ (hS x (by simp [V.hs])) hρ (by rw [hm]; rfl)
    rw [hm] at h2
    exact ⟨_, b, h2, h1, rfl⟩
  | tup vs => exact (hv : False).elim
  | ptr x i o s =>
    rcases hv with hv | ⟨e, c, b, cap, hm, hρ, hcap, rfl, hi, ho⟩
    · exact .inl (PtrV_ren R (hS x (by simp [V.hs])) hv)
    · obtain ⟨h1, g, h2⟩ := R.hd x _ (hS x (by simp [V.hs])) hρ (by rw [hm]; rfl)
      rw [hm] at h2
      exact .inr ⟨e, c.ren g, b, cap, h2, h1, hcap, by rw [ren_wd], by rw [ren_cnt]; exact hi, by rw [ren_wd]; exact ho⟩
  | bool b => exact VF_ren R (v := .bool b) hS hro hv
  | int k n => exact VF_ren R (v := .int k n) hS hro hv
  | z0 => exact VF_ren R (v := .z0) hS hro hv
  | ri k xs => exact VF_ren R (v := .ri k xs) hS hro hv
  | rb bs => exact VF_ren R (v := .rb bs) hS hro hv
  | rr m xss => exact VF_ren R (v := .rr m xss) hS hro hv
  | rv vs => exact VF_ren R (v := .rv vs) hS hro hv
  | fn g x y => exact VF_ren R (v := .fn g x y) hS hro hv

theorem VR_ren (R : Rn f1 f2 w ρ1 m1 ρ2 m2 f S ro) {v : V} {r : Value} (hS : ∀ h ∈ v.hs, S h) (hro : v.hasRo = true → ro) (hv : @VR f1 w ρ1 m1 v r) : @VR f2 w ρ2 m2 (v.ren f) r := by
  cases v with
  | tup vs =>
    obtain ⟨rs, rfl, h2⟩ := hv
    refine ⟨rs, rfl, ?_⟩
    rw [renL_map]
    refine all2_map h2 fun x y hx hp => VR1_ren R (fun z hz => hS z (by simp only [V.hs]; exact hsL_mem hx hz)) (fun hr => hro ?_) hp
    simp only [V.hasRo, List.any_eq_true]
    refine ⟨x, hx, ?_⟩
    cases x <;> first | rfl | cases hr | (exact (hp : False).elim)
  | undef => exact VR1_ren R (v := .undef) hS hro hv
  | any => trivial
  | ints n xs => exact VR1_ren R (v := .ints n xs) hS hro hv
  | bools n xs => exact VR1_ren R (v := .bools n xs) hS hro hv
  | agg vs => exact VR1_ren R (v := .agg vs) hS hro hv
  | rp c i o s => exact VR1_ren R (v := .rp c i o s) hS hro hv
  | sl x off n => exact VR1_ren R (v := .sl x off n) hS hro hv
  | asl x o s n => exact VR1_ren R (v := .asl x o s n) hS hro hv
  | map x => exact VR1_ren R (v := .map x) hS hro hv
  | ptr x i o s => exact VR1_ren R (v := .ptr x i o s) hS hro hv
  | bool b => exact VR1_ren R (v := .bool b) hS hro hv
  | int k n => exact VR1_ren R (v := .int k n) hS hro hv
  | z0 => exact VR1_ren R (v := .z0) hS hro hv
  | ri k xs => exact VR1_ren R (v := .ri k xs) hS hro hv
  | rb bs => exact VR1_ren R (v := .rb bs) hS hro hv
  | rr m xss => exact VR1_ren R (v := .rr m xss) hS hro hv
  | rv vs => exact VR1_ren R (v := .rv vs) hS hro hv
  | fn g x y => exact VR1_ren R (v := .fn g x y) hS hro hv

theorem BlkR_ren (R : Rn f1 f2 w ρ1 m1 ρ2 m2 f S ro) {b : Blk} {rl : Rl} (hS : ∀ h ∈ b.hs, S h) (hro : b.hasRo = true → ro) (hv : @BlkR f1 w ρ1 m1 b rl) : @BlkR f2 w ρ2 m2 (b.ren f) rl := by
  cases b with
  | dead => trivial
  | var n c =>
    obtain ⟨r, e, rs, rfl, hr, hl, hc, hwd⟩ := hv
    exact ⟨r, e, rs, rfl, hr, hl, CR_ren R hS (fun ⟨vs, h⟩ => hro (by subst h; rfl)) hc, by rw [ren_wd]; exact hwd⟩
  | vec e c =>
    obtain ⟨a, cap, rfl, hle, hc⟩ := hv
    have hro2 : (∃ vs, c = .rv vs) → ro := fun ⟨vs, h⟩ => hro (by subst h; rfl)
    refine ⟨a, cap, rfl, by rw [ren_cnt]; exact hle, ?_⟩
    rcases hc with ⟨h0, hc⟩ | ⟨r, cur, hcap, rfl, hr, hm, hz, hc⟩
    · exact .inl ⟨h0, CR_ren R hS hro2 hc⟩
    · exact .inr ⟨r, cur, hcap, rfl, hr, hm, by rw [ren_wd]; exact hz, by rw [ren_cnt, ren_wd]; exact CR_ren R hS hro2 hc⟩
  | map kvs =>
    obtain ⟨r, es, clock, rfl, hr, hc⟩ := hv
    refine ⟨r, es, clock, rfl, hr, forall2_mono hc fun x y _ ⟨h1, hg, h2⟩ => ⟨h1, hg, ?_⟩⟩
    have := VG_ren R (v := x.2) (fun h hh => ?_) (fun _ => hro rfl) h2
    · rwa [ren_flatG hg] at this
    · exfalso
      revert hh hg
      cases x.2 <;> simp [V.hs, V.flatG]

end

/-! ### what the callee sees -/
theorem idx_some {n : Nat} {l : List Nat} {i : Nat} (h : idx n l = some i) : l[i]? = some n := by
  induction l generalizing i with
  | nil => cases h
  | cons a r ih =>
    simp only [idx] at h
    by_cases e : a = n
    · subst e
      rw [show Nat.beq a a = true from Nat.beq_refl a] at h
      cases h; rfl
    · have : Nat.beq a n = false := by rw [← Bool.not_eq_true, Nat.beq_eq]; exact e
      rw [this] at h
      simp only [cond_false, Option.map_eq_some_iff] at h
      obtain ⟨j, hj, rfl⟩ := h
      exact ih hj

theorem idx_mem {n : Nat} {l : List Nat} (h : n ∈ l) : ∃ i, idx n l = some i := by
  induction l with
  | nil => cases h
  | cons a r ih =>
    simp only [idx]
    by_cases e : a = n
    · subst e
      rw [show Nat.beq a a = true from Nat.beq_refl a]
      exact ⟨0, rfl⟩
    · have : Nat.beq a n = false := by rw [← Bool.not_eq_true, Nat.beq_eq]; exact e
      rw [this]
      cases h with
      | head => exact absurd rfl e
      | tail _ h => obtain ⟨i, hi⟩ := ih h; exact ⟨i + 1, by simp [hi]⟩

theorem nodupB_spec {l : List Nat} (h : nodupB l = true) : l.Nodup := by
  induction l with
  | nil => exact List.nodup_nil
  | cons a r ih =>
    simp only [nodupB, Bool.and_eq_true, Bool.not_eq_true'] at h
    refine List.nodup_cons.2 ⟨fun hm => ?_, ih h.2⟩
    rw [(@memb_iff (Fr.of fun _ => False) _ _).2 hm] at h
    cases h.1

end Go.Lv
