/-
Calls, sound: the whole.
-/
import Derived.Test.YtdcimcciokgdaaaLvL
namespace Go.Lv
open Go.RowKit
set_option linter.unusedVariables false
set_option linter.unusedSimpArgs false
set_option linter.unusedSectionVars false

mutual
theorem ren_id {f g : Nat → Nat} : ∀ (v : V), (∀ x ∈ v.hs, g (f x) = x) → (v.ren f).ren g = v
  | .undef, _ => rfl
  | .any, _ => rfl
  | .bool _, _ => rfl
  | .int _ _, _ => rfl
  | .ints _ _, _ => rfl
  | .bools _ _, _ => rfl
  | .z0, _ => rfl
  | .ri _ _, _ => rfl
  | .rb _, _ => rfl
  | .rr _ _, _ => rfl
  | .ptr h i o s, hx => by simp only [V.ren]; rw [hx h (by simp [V.hs])]
  | .sl h o n, hx => by simp only [V.ren]; rw [hx h (by simp [V.hs])]
  | .asl h o s n, hx => by simp only [V.ren]; rw [hx h (by simp [V.hs])]
  | .map h, hx => by simp only [V.ren]; rw [hx h (by simp [V.hs])]
  | .agg vs, hx => by simp only [V.ren]; rw [renL_id vs (by simpa [V.hs] using hx)]
  | .rv vs, hx => by simp only [V.ren]; rw [renL_id vs (by simpa [V.hs] using hx)]
  | .tup vs, hx => by simp only [V.ren]; rw [renL_id vs (by simpa [V.hs] using hx)]
  | .rp c i o s, hx => by simp only [V.ren]; rw [ren_id c (by simpa [V.hs] using hx)]
  | .fn k x y, hx => by
    simp only [V.ren]
    rw [renL_id x fun z hz => hx z (by simp [V.hs, hz]), renL_id y fun z hz => hx z (by simp [V.hs, hz])]
theorem renL_id {f g : Nat → Nat} : ∀ (vs : List V), (∀ x ∈ V.hsL vs, g (f x) = x) → V.renL g (V.renL f vs) = vs
  | [], _ => rfl
  | v :: r, hx => by
    simp only [V.renL]
    rw [ren_id v fun z hz => hx z (by simp [V.hsL, hz]), renL_id r fun z hz => hx z (by simp [V.hsL, hz])]
end

mutual
theorem ren_congr {f g : Nat → Nat} : ∀ (v : V), (∀ x ∈ v.hs, f x = g x) → v.ren f = v.ren g
  | .undef, _ => rfl
  | .any, _ => rfl
  | .bool _, _ => rfl
  | .int _ _, _ => rfl
  | .ints _ _, _ => rfl
  | .bools _ _, _ => rfl
  | .z0, _ => rfl
  | .ri _ _, _ => rfl
  | .rb _, _ => rfl
  | .rr _ _, _ => rfl
  | .ptr h i o s, hx => by simp only [V.ren]; rw [hx h (by simp [V.hs])]
  | .sl h o n, hx => by simp only [V.ren]; rw [hx h (by simp [V.hs])]
  | .asl h o s n, hx => by simp only [V.ren]; rw [hx h (by simp [V.hs])]
  | .map h, hx => by simp only [V.ren]; rw [hx h (by simp [V.hs])]
  | .agg vs, hx => by simp only [V.ren]; rw [renL_congr vs (by simpa [V.hs] using hx)]
  | .rv vs, hx => by simp only [V.ren]; rw [renL_congr vs (by simpa [V.hs] using hx)]
  | .tup vs, hx => by simp only [V.ren]; rw [renL_congr vs (by simpa [V.hs] using hx)]
  | .rp c i o s, hx => by simp only [V.ren]; rw [ren_congr c (by simpa [V.hs] using hx)]
  | .fn k x y, hx => by
    simp only [V.ren]
    rw [renL_congr x fun z hz => hx z (by simp [V.hs, hz]), renL_congr y fun z hz => hx z (by simp [V.hs, hz])]
theorem renL_congr {f g : Nat → Nat} : ∀ (vs : List V), (∀ x ∈ V.hsL vs, f x = g x) → V.renL f vs = V.renL g vs
  | [], _ => rfl
  | v :: r, hx => by
    simp only [V.renL]
    rw [ren_congr v fun z hz => hx z (by simp [V.hsL, hz]), renL_congr r fun z hz => hx z (by simp [V.hsL, hz])]
end

theorem blk_ren_id {f g : Nat → Nat} (b : Blk) (h : ∀ x ∈ b.hs, g (f x) = x) : (b.ren f).ren g = b := by
  cases b with
  | dead => rfl
  | var n c => simp only [Blk.ren]; rw [ren_id c h]
  | vec e c => simp only [Blk.ren]; rw [ren_id c h]
  | map kvs => rfl

theorem putGo_id (hs : List Nat) (bs : Mem) : ∀ (mem : Mem) (s : Nat), (∀ x i, x < mem.length → idx (s + x) hs = some i → mget bs i = mget mem x) → putGo hs bs s mem = mem
  | [], s, _ => rfl
  | b :: r, s, h => by
    simp only [putGo]
    rw [putGo_id hs bs r (s + 1) fun x i hx hi => by
      have := h (x + 1) i (by simpa using hx) (by rw [show s + (x + 1) = s + 1 + x by omega]; exact hi)
      simpa [mget] using this]
    congr 1
    cases hi : idx s hs with
    | none => rfl
    | some i =>
      have := h 0 i (by simp) (by simpa using hi)
      simpa [mget] using this

theorem allBelow_spec {k : Nat} : ∀ {l : List Nat}, allBelow k l = true → ∀ x ∈ l, x < k
  | [], _, x, hx => by cases hx
  | a :: r, h, x, hx => by
    simp only [allBelow] at h
    obtain ⟨h1, h2⟩ : Nat.blt a k = true ∧ allBelow k r = true := by
      cases hb : Nat.blt a k
      · rw [hb] at h; cases h
      · rw [hb] at h; exact ⟨rfl, h⟩
    cases hx with
    | head => exact Nat.blt_eq.mp h1
    | tail _ hx => exact allBelow_spec h2 x hx

theorem up_dn {hs : List Nat} {x n : Nat} (hx : x ∈ hs) : upH hs n (dnH hs x) = x := by
  obtain ⟨i, hi⟩ := idx_mem hx
  simp [dnH, hi, upH, idx_some hi]

/-- what a function does, as the table says it -/
def Meets (P : Program) (f : FuncId) (ent : Ent) : Prop :=
  ∀ (fr : Fr) (w : World) (ρ : Rho) (mem : Mem) (args : List V) (reals : List Value), WR w ρ mem → All2 (VR w ρ mem) args reals → ∀ ret, ent.g args mem = some (true, ret) →
    Calls P f reals.toArray w fun e w' => ∃ r ρ', e = .returned r ∧ VR w' ρ' (outD ent mem ret) ret.v r ∧ WR w' ρ' (outD ent mem ret) ∧ Step w ρ mem w' ρ' (outD ent mem ret) (· ∈ outK ent ret)

structure FunOK (P : Program) (f : FuncId) : Prop where
  ok : ∃ fn c, P.funcs[f]? = some fn ∧ (fn.name == "runtime.NumGoroutine") = false ∧ fn.body = some c

def TabOK (P : Program) (tab : Tab) : Prop := ∀ f ent, look tab f = some ent → Meets P f ent ∧ FunOK P f

section
variable {P : Program} {tab : Tab} {R : Type}

theorem okHs_spec {mem : Mem} {args1 : List V} {hs pub : List Nat} (h : okHs mem args1 hs pub = true) :
    hs.Nodup ∧ (∀ x ∈ hs, (mget mem x).live = true) ∧ (∀ x ∈ hs, ∀ y ∈ (mget mem x).hs, y ∈ hs) ∧ (∀ x ∈ V.hsL args1, x ∈ hs) ∧ ∀ x ∈ pub, x ∉ hs := by
  have hm : ∀ (n : Nat) (l : List Nat), memb n l = true ↔ n ∈ l := fun n l => @memb_iff (Fr.of fun _ => False) n l
  simp only [okHs, Bool.and_eq_true, List.all_eq_true, Bool.not_eq_true'] at h
  obtain ⟨⟨⟨h1, h2⟩, h3⟩, h4⟩ := h
  refine ⟨nodupB_spec h1, fun x hx => (h2 x hx).1, fun x hx y hy => (hm y hs).1 ((h2 x hx).2 y hy), fun x hx => (hm x hs).1 (h3 x hx), fun x hx hx2 => ?_⟩
  have := h4 x hx
  rw [(hm x hs).2 hx2] at this
  cases this

/-- a call: what it comes to -/
theorem callG_ok (fr : Fr) {w : World} {ρ : Rho} {mem : Mem} (hw : WR w ρ mem) {f : FuncId} {ent : Ent} (hM : Meets P f ent) {args args1 : List V} {reals : List Value} (ha : All2 (VR w ρ mem) args reals)
    (hro : roArgs mem args ent.own = some args1) {k : V → Mem → List Nat → Option R} {x : R} (hx : callG ent (lent args ent.own) (hsOf mem args1) args1 mem k = some x) :
    ∃ v mem' ks, k v mem' ks = some x ∧ (ent.loud = .quiet → mem' = mem ∧ ks = []) ∧ ∀ (Post : Ending → World → Prop), (∀ r w' ρ', VR w' ρ' mem' v r → WR w' ρ' mem' → Step w ρ mem w' ρ' mem' (· ∈ ks) → Post (.returned r) w') → Calls P f reals.toArray w Post := by
  generalize hhs : hsOf mem args1 = hs at hx
  generalize hpub : lent args ent.own = pub at hx
  unfold callG at hx
  obtain ⟨hok, hx⟩ := cond_none hx
  obtain ⟨hnd, hlive, hcl, hargs, hns⟩ := okHs_spec hok
  split at hx
  case h_1 => cases hx
  rename_i c ret hg
  obtain ⟨hkv, hx⟩ := cond_none' hx
  obtain ⟨hctrue, hx⟩ := cond_none hx
  have hkv : ∀ i ∈ outK ent ret, isVar (mget (memD mem hs) i) = false := by
    intro i hi
    have h2 : (outK ent ret).all (fun i => !isVar (mget (hs.map fun h => (mget mem h).ren (dnH hs)) i)) = true := by simpa using hkv
    have := List.all_eq_true.1 h2 i hi
    simpa [memD] using this
  -- the frame
  obtain ⟨f2, hf⟩ : ∃ f2 : Fr, frD fr ρ mem hs pub f2 := ⟨Fr.of fun r => fr.default.F r ∨ ∃ h rl, ρ[h]? = some rl ∧ (mget mem h).live = true ∧ rl.blk = some r ∧ h ∉ hs ∧ h ∉ pub, fun r => Iff.rfl⟩
  have hwd := wr_down fr f2 hf hw hnd hcl
  have had := args_ok fr f2 hf hw hns (args := args) (args1 := args1) (own := ent.own) ha hro (by rw [hpub]; exact fun _ h => h) hargs
  have go : ∀ (hc : c = true) (dead : List Nat) (ro : Prop), hs.length ≤ (outD ent (memD mem hs) ret).length → (∀ h ∈ dead, h ∈ pub ∧ isVec (mget mem h) = true) → (ro → ∀ h ∈ pub, h ∈ dead) → (∀ i, (mget (outD ent (memD mem hs) ret) i).hasRo = true → ro) → (ret.v.hasRo = true → ro) →
      ∀ (Post : Ending → World → Prop), (∀ r w' ρ', @VR fr w' ρ' (memC mem (outD ent (memD mem hs) ret) hs dead) (ret.v.ren (upH hs mem.length)) r → @WR fr w' ρ' (memC mem (outD ent (memD mem hs) ret) hs dead) → Step w ρ mem w' ρ' (memC mem (outD ent (memD mem hs) ret) hs dead) (· ∈ (outK ent ret).map (upH hs mem.length) ++ dead) → Post (.returned r) w') → Calls P f reals.toArray w Post := by
    intro hc dead ro hlen hdd hro2 hblk hvro Post hPost
    subst hc
    refine Calls.mono (hM f2 w (rhoD ρ hs) (memD mem hs) _ reals hwd had ret hg) fun e w' he => ?_
    obtain ⟨r, ρ', rfl, hv, hw', hst⟩ := he
    have U : UpIn fr f2 w w' ρ ρ' mem (outD ent (memD mem hs) ret) hs pub dead (outK ent ret) ro := ⟨hf, hw, hnd, hlive, hns, hst, hw', hlen, hdd, hro2, hblk, hkv⟩
    exact hPost r w' _ (VR_ren U.rn (fun _ _ => trivial) hvro hv) U.wr U.step
  have anyRo : ∀ i, (mget (outD ent (memD mem hs) ret) i).hasRo = true → (ret.v.hasRo || (outD ent (memD mem hs) ret).any Blk.hasRo) = true := fun i hi => by
    rw [Bool.or_eq_true]
    right
    rw [List.any_eq_true]
    rw [mget_eq] at hi
    cases h : (outD ent (memD mem hs) ret)[i]? with
    | none => rw [h] at hi; cases hi
    | some b => rw [h] at hi; exact ⟨b, List.mem_of_getElem? h, hi⟩
  have hdl : (memD mem hs).length = hs.length := by simp [memD]
  have back : ∀ (bs : Mem), (∀ i, i < hs.length → mget bs i = mget ((memD mem hs).map (Blk.ren (upH hs mem.length))) i) → putGo hs bs 0 mem = mem := fun bs hb => putGo_id hs bs mem 0 fun y i hy hi => by
    rw [Nat.zero_add] at hi
    have h2 := idx_some hi
    rw [hb i (List.getElem?_eq_some_iff.1 h2).1, mget_map, memD_get i y h2]
    exact blk_ren_id _ fun z hz => up_dn (hcl y (List.mem_of_getElem? h2) z hz)
  cases hcond : (pub.isEmpty || !(ret.v.hasRo || (outD ent (hs.map fun h => (mget mem h).ren (dnH hs)) ret).any Blk.hasRo)) with
  | true =>
    rw [hcond] at hx
    simp only [cond_true] at hx
    have hc := hctrue
    have hp := hcond
    have hro2 : (ret.v.hasRo || (outD ent (memD mem hs) ret).any Blk.hasRo) = true → ∀ h ∈ pub, h ∈ ([] : List Nat) := fun hr h hh => by
      have : (pub.isEmpty || !(ret.v.hasRo || (outD ent (memD mem hs) ret).any Blk.hasRo)) = true := hp
      rw [hr] at this
      simp only [Bool.not_true, Bool.or_false, List.isEmpty_iff] at this
      rw [this] at hh; exact hh
    have go2 := fun hl => go hc [] _ hl (fun _ h => by cases h) hro2 anyRo (fun h => by rw [h]; rfl)
    cases hloud : ent.loud with
    | quiet =>
      rw [hloud] at hx
      simp only at hx
      obtain ⟨hb, hx⟩ := cond_none hx
      have hout : outD ent (memD mem hs) ret = memD mem hs := by simp [outD, hloud]
      have hk : outK ent ret = [] := by simp [outK, hloud]
      have hmc : memC mem (outD ent (memD mem hs) ret) hs [] = mem := by
        rw [hout]
        unfold memC putBack
        rw [maskL, back _ (fun _ _ => rfl), List.drop_of_length_le (by simp [hdl]), List.append_nil]
      have hvv : ret.v.ren (upH hs 0) = ret.v.ren (upH hs mem.length) := ren_congr _ fun y hy => by
        have := allBelow_spec hb y hy
        simp [upH, List.getElem?_eq_getElem this]
      rw [hvv] at hx
      refine ⟨_, mem, [], hx, fun _ => ⟨rfl, rfl⟩, fun Post hPost => go2 (by rw [hout, hdl]; exact Nat.le_refl _) Post fun r w' ρ' h1 h2 h3 => ?_⟩
      rw [hmc, hk] at h3
      rw [hmc] at h1 h2
      exact hPost r w' ρ' h1 h2 h3
    | fresh =>
      rw [hloud] at hx
      simp only at hx
      have hout : outD ent (memD mem hs) ret = memD mem hs ++ ret.blks := by simp [outD, hloud]
      have hk : outK ent ret = [] := by simp [outK, hloud]
      have hmc : memC mem (outD ent (memD mem hs) ret) hs [] = mem ++ ret.blks.map (Blk.ren (upH hs mem.length)) := by
        rw [hout]
        unfold memC putBack
        rw [maskL, back _ (fun i hi => by rw [List.map_append, mget_app, if_pos (by simp [hdl, hi])]), List.map_append, List.drop_append_of_le_length (by simp [hdl]), List.drop_of_length_le (by simp [hdl])]
        simp
      refine ⟨_, _, [], hx, fun h => (by cases h), fun Post hPost => go2 (by rw [hout, List.length_append, hdl]; omega) Post fun r w' ρ' h1 h2 h3 => ?_⟩
      rw [hmc, hk] at h3
      rw [hmc] at h1 h2
      exact hPost r w' ρ' h1 h2 h3
    | loud =>
      rw [hloud] at hx
      simp only at hx
      obtain ⟨hb, hx⟩ := cond_none hx
      have hb := Nat.le_of_ble_eq_true hb
      have hout : outD ent (memD mem hs) ret = ret.blks := by simp [outD, hloud]
      have hk : outK ent ret = ret.kills := by simp [outK, hloud]
      refine ⟨_, _, _, hx, fun h => (by cases h), fun Post hPost => go2 (by rw [hout]; exact hb) Post fun r w' ρ' h1 h2 h3 => ?_⟩
      rw [hout, hk, List.append_nil] at h3
      rw [hout] at h1 h2
      exact hPost r w' ρ' h1 h2 h3
  | false =>
    rw [hcond] at hx
    simp only [cond_false] at hx
    obtain ⟨hcc, hx⟩ := cond_none hx
    cases hloud : ent.loud with
    | quiet => rw [hloud] at hx; cases hx
    | fresh => rw [hloud] at hx; cases hx
    | loud =>
      rw [hloud] at hx
      simp only at hx
      obtain ⟨hb, hx⟩ := cond_none hx
      have hb := Nat.le_of_ble_eq_true hb
      have hout : outD ent (memD mem hs) ret = ret.blks := by simp [outD, hloud]
      have hk : outK ent ret = ret.kills := by simp [outK, hloud]
      refine ⟨_, _, _, hx, fun h => (by cases h), fun Post hPost => go hctrue pub _ (by rw [hout]; exact hb) (fun h hh => ⟨hh, List.all_eq_true.1 hcc h hh⟩) (fun _ _ h => h) anyRo (fun h => by rw [h]; rfl) Post fun r w' ρ' h1 h2 h3 => ?_⟩
      rw [hout, hk] at h3
      rw [hout] at h1 h2
      exact hPost r w' ρ' h1 h2 h3

end

end Go.Lv
