/-
Calls, sound: what the callee leaves.
-/
import Derived.Test.YtdcimcciokgdaaaLvK
namespace Go.Lv
open Go.RowKit
set_option linter.unusedVariables false
set_option linter.unusedSimpArgs false
set_option linter.unusedSectionVars false

theorem shape_ren {f g : Nat → Nat} {b c : Blk} (h : Shape (b.ren f) c) : Shape b (c.ren g) := by
  cases b with
  | dead => trivial
  | var n x => obtain ⟨y, rfl⟩ := h; exact ⟨_, rfl⟩
  | vec e x => obtain ⟨y, rfl, h1, h2⟩ := h; exact ⟨_, rfl, by rw [ren_wd, h1, ren_wd], by rw [ren_cnt]; rw [ren_cnt] at h2; exact h2⟩
  | map k => obtain ⟨y, rfl⟩ := h; exact ⟨_, rfl⟩

section
variable {w w' : World} {ρ ρ' : Rho} {mem mem' : Mem} {hs pub dead kills : List Nat} {ro : Prop}

def rhoC (ρ ρ' : Rho) (hs : List Nat) : Rho := rhoGo hs ρ' 0 ρ ++ ρ'.drop hs.length
def memC (mem mem' : Mem) (hs dead : List Nat) : Mem := maskL dead (putBack mem hs (mem'.map (Blk.ren (upH hs mem.length))))

structure UpIn (fr f2 : Fr) (w w' : World) (ρ ρ' : Rho) (mem mem' : Mem) (hs pub dead kills : List Nat) (ro : Prop) : Prop where
  hf : frD fr ρ mem hs pub f2
  hw : @WR fr w ρ mem
  hnd : hs.Nodup
  live : ∀ h ∈ hs, (mget mem h).live = true
  hns : ∀ h ∈ pub, h ∉ hs
  hst : Step w (rhoD ρ hs) (memD mem hs) w' ρ' mem' (· ∈ kills)
  hw' : @WR f2 w' ρ' mem'
  hlen : hs.length ≤ mem'.length
  hdd : ∀ h ∈ dead, h ∈ pub ∧ isVec (mget mem h) = true
  hro : ro → ∀ h ∈ pub, h ∈ dead
  hblk : ∀ i, (mget mem' i).hasRo = true → ro
  hkv : ∀ i ∈ kills, isVar (mget (memD mem hs) i) = false

theorem vec_live {b : Blk} (h : isVec b = true) : b.live = true := by cases b <;> first | rfl | cases h

theorem UpIn.at {fr f2 : Fr} (U : UpIn fr f2 w w' ρ ρ' mem mem' hs pub dead kills ro) (i : Nat) (hi : i < mem'.length) :
    mget (memC mem mem' hs dead) (upH hs mem.length i) = (mget mem' i).ren (upH hs mem.length) ∧ (rhoC ρ ρ' hs)[upH hs mem.length i]? = ρ'[i]? := by
  have wlen := @WR.len fr _ _ _ U.hw
  have wlen' := @WR.len f2 _ _ _ U.hw'
  cases hh : hs[i]? with
  | some h =>
    have hup : upH hs mem.length i = h := by simp [upH, hh]
    have hmem := List.mem_of_getElem? hh
    have hlt := @live_lt fr _ _ (U.live h hmem)
    rw [hup]
    constructor
    · unfold memC
      rw [maskL_get, if_neg (fun hd => U.hns h (U.hdd h hd).1 hmem)]
      unfold putBack
      rw [mget_app, putGo_len, if_pos hlt, putGo_get _ _ _ _ _ hlt, Nat.zero_add, idx_get U.hnd hh]
      exact mget_map _ _ _
    · unfold rhoC
      rw [List.getElem?_append_left (by rw [rhoGo_len, wlen]; exact hlt)]
      have hr : ρ[h]? = some (ρ[h]'(by rw [wlen]; exact hlt)) := List.getElem?_eq_getElem _
      rw [rhoGo_get _ _ _ _ _ _ hr, Nat.zero_add, idx_get U.hnd hh]
      have hi' : i < ρ'.length := by rw [wlen']; exact hi
      simp only [List.getElem?_eq_getElem hi', Option.getD_some]
  | none =>
    have hle : hs.length ≤ i := List.getElem?_eq_none_iff.1 hh
    have hup : upH hs mem.length i = mem.length + (i - hs.length) := by simp [upH, hh]
    rw [hup]
    constructor
    · unfold memC
      rw [maskL_get, if_neg (fun hd => by
        have := @live_lt fr _ _ (vec_live (U.hdd _ hd).2)
        omega)]
      unfold putBack
      rw [mget_app, putGo_len, if_neg (by omega), mget_drop, mget_map]
      congr 2
      omega
    · unfold rhoC
      rw [List.getElem?_append_right (by rw [rhoGo_len, wlen]; omega), rhoGo_len, wlen, List.getElem?_drop]
      congr 1
      omega

theorem UpIn.other {fr f2 : Fr} (U : UpIn fr f2 w w' ρ ρ' mem mem' hs pub dead kills ro) (h : Nat) (hl : h < mem.length) (hn : h ∉ hs) :
    mget (memC mem mem' hs dead) h = (if h ∈ dead then .dead else mget mem h) ∧ (rhoC ρ ρ' hs)[h]? = ρ[h]? := by
  have wlen := @WR.len fr _ _ _ U.hw
  constructor
  · unfold memC
    rw [maskL_get]
    unfold putBack
    rw [mget_app, putGo_len, if_pos hl, putGo_get _ _ _ _ _ hl, Nat.zero_add, idx_none hn]
  · unfold rhoC
    rw [List.getElem?_append_left (by rw [rhoGo_len, wlen]; exact hl)]
    have hr : ρ[h]? = some (ρ[h]'(by rw [wlen]; exact hl)) := List.getElem?_eq_getElem _
    rw [rhoGo_get _ _ _ _ _ _ hr, Nat.zero_add, idx_none hn, hr]

theorem UpIn.len {fr f2 : Fr} (U : UpIn fr f2 w w' ρ ρ' mem mem' hs pub dead kills ro) : (rhoC ρ ρ' hs).length = (memC mem mem' hs dead).length := by
  have wlen := @WR.len fr _ _ _ U.hw
  have wlen' := @WR.len f2 _ _ _ U.hw'
  unfold memC rhoC
  rw [maskL_len]
  unfold putBack
  rw [List.length_append, List.length_append, rhoGo_len, putGo_len, wlen]
  simp [wlen']

/-- which handle is it -/
theorem UpIn.case {fr f2 : Fr} (U : UpIn fr f2 w w' ρ ρ' mem mem' hs pub dead kills ro) (x : Nat) (hx : x < (memC mem mem' hs dead).length) :
    (∃ i, i < mem'.length ∧ x = upH hs mem.length i) ∨ (x < mem.length ∧ x ∉ hs) := by
  have hl : (memC mem mem' hs dead).length = mem.length + (mem'.length - hs.length) := by
    unfold memC putBack
    rw [maskL_len, List.length_append, putGo_len]
    simp
  have hlen := U.hlen
  by_cases h1 : x ∈ hs
  · obtain ⟨i, hi⟩ := idx_mem h1
    have h2 := idx_some hi
    exact .inl ⟨i, by have := (List.getElem?_eq_some_iff.1 h2).1; omega, by simp [upH, h2]⟩
  · by_cases h2 : x < mem.length
    · exact .inr ⟨h2, h1⟩
    · have h3 : hs[hs.length + (x - mem.length)]? = none := List.getElem?_eq_none (by omega)
      refine .inl ⟨hs.length + (x - mem.length), by omega, ?_⟩
      simp [upH, h3]
      omega

theorem UpIn.rn {fr f2 : Fr} (U : UpIn fr f2 w w' ρ ρ' mem mem' hs pub dead kills ro) : Rn f2 fr w' ρ' mem' (rhoC ρ ρ' hs) (memC mem mem' hs dead) (upH hs mem.length) (fun _ => True) ro := by
  refine ⟨fun h rl _ hρ hl => ?_, fun hr b hb ⟨hn, hnf⟩ => ⟨?_, fun hF => hnf ((U.hf b).2 (.inl hF))⟩⟩
  · obtain ⟨h1, h2⟩ := U.at h (@live_lt fr _ _ hl)
    exact ⟨h2.trans hρ, _, h1⟩
  · rintro ⟨x, rl, hx, hl, hbk⟩
    have hxl := @live_lt fr _ _ hl
    rcases U.case x hxl with ⟨i, hi, rfl⟩ | ⟨hx1, hx2⟩
    · obtain ⟨h1, h2⟩ := U.at i hi
      rw [h1, ren_live] at hl
      rw [h2] at hx
      exact hn ⟨i, rl, hx, hl, hbk⟩
    · obtain ⟨h1, h2⟩ := U.other x hx1 hx2
      rw [h1] at hl
      rw [h2] at hx
      by_cases hd : x ∈ dead
      · rw [if_pos hd] at hl; cases hl
      · rw [if_neg hd] at hl
        exact hnf ((U.hf b).2 (.inr ⟨x, rl, hx, hl, hbk, hx2, fun hp => hd (U.hro hr x hp)⟩))

theorem UpIn.apart {fr f2 : Fr} (U : UpIn fr f2 w w' ρ ρ' mem mem' hs pub dead kills ro) {x r : Nat} {rl : Rl} (hn : x ∉ hs) (hρ : ρ[x]? = some rl) (hl : (mget mem x).live = true) (hb : rl.blk = some r) :
    r < w.heap.size ∧ NB (rhoD ρ hs) (memD mem hs) r := by
  have winj := @WR.inj fr _ _ _ U.hw
  refine ⟨@WR.lt fr _ _ _ U.hw r ⟨x, rl, hρ, hl, hb⟩, fun hlb => ?_⟩
  obtain ⟨y, rl2, hy, h1, h2, h3⟩ := LB_down fr U.hw hlb
  exact hn (winj y x rl2 rl r h1 hρ h2 hl h3 hb ▸ hy)

theorem UpIn.step {fr f2 : Fr} (U : UpIn fr f2 w w' ρ ρ' mem mem' hs pub dead kills ro) :
    Step w ρ mem w' (rhoC ρ ρ' hs) (memC mem mem' hs dead) (· ∈ kills.map (upH hs mem.length) ++ dead) := by
  refine ⟨U.hst.os, U.hst.tape, U.hst.output, U.hst.size, fun r hr hn => ?_, fun h rl hρ hl hK => ?_⟩
  · obtain ⟨h1, h2⟩ := U.hst.old r hr (fun hlb => let ⟨x, rl, _, h1, h2, h3⟩ := LB_down fr U.hw hlb; hn ⟨x, rl, h1, h2, h3⟩)
    refine ⟨h1, ?_⟩
    rintro ⟨x, rl, hx, hl, hbk⟩
    rcases U.case x (@live_lt fr _ _ hl) with ⟨i, hi, rfl⟩ | ⟨hx1, hx2⟩
    · obtain ⟨g1, g2⟩ := U.at i hi
      rw [g1, ren_live] at hl
      rw [g2] at hx
      exact h2 ⟨i, rl, hx, hl, hbk⟩
    · obtain ⟨g1, g2⟩ := U.other x hx1 hx2
      rw [g1] at hl
      rw [g2] at hx
      by_cases hd : x ∈ dead
      · rw [if_pos hd] at hl; cases hl
      · rw [if_neg hd] at hl
        exact hn ⟨x, rl, hx, hl, hbk⟩
  · simp only [List.mem_append, List.mem_map, not_or] at hK
    by_cases hh : h ∈ hs
    · obtain ⟨i, hi⟩ := idx_mem hh
      have h2 := idx_some hi
      have hil : i < mem'.length := by have := (List.getElem?_eq_some_iff.1 h2).1; have := U.hlen; omega
      obtain ⟨g1, g2⟩ := U.at i hil
      have hup : upH hs mem.length i = h := by simp [upH, h2]
      rw [hup] at g1 g2
      obtain ⟨s1, s2⟩ := U.hst.hp i rl (by rw [rhoD_get i h h2, hρ]; rfl) (by rw [memD_get i h h2, ren_live]; exact hl) (fun hk => hK.1 ⟨i, hk, hup⟩)
      rw [memD_get i h h2] at s2
      exact ⟨g2.trans s1, by rw [g1]; exact shape_ren s2⟩
    · obtain ⟨g1, g2⟩ := U.other h (@live_lt fr _ _ hl) hh
      rw [g1, if_neg hK.2]
      exact ⟨g2.trans hρ, Shape.refl _⟩

theorem UpIn.wr {fr f2 : Fr} (U : UpIn fr f2 w w' ρ ρ' mem mem' hs pub dead kills ro) : @WR fr w' (rhoC ρ ρ' hs) (memC mem mem' hs dead) := by
  have wblk := @WR.blk fr _ _ _ U.hw
  have winj := @WR.inj fr _ _ _ U.hw
  have wblk' := @WR.blk f2 _ _ _ U.hw'
  have winj' := @WR.inj f2 _ _ _ U.hw'
  have wlen := @WR.len fr _ _ _ U.hw
  refine @WR.mk fr _ _ _ U.len ?_ ?_ (@WR.nf_step fr _ _ _ _ _ _ _ U.hw U.step) (@WR.fb_step fr _ _ _ _ _ _ _ U.hw U.step)
  · intro x rl hx
    have hxl : x < (memC mem mem' hs dead).length := by rw [← U.len]; exact (List.getElem?_eq_some_iff.1 hx).1
    rcases U.case x hxl with ⟨i, hi, rfl⟩ | ⟨hx1, hx2⟩
    · obtain ⟨g1, g2⟩ := U.at i hi
      rw [g1]
      rw [g2] at hx
      exact BlkR_ren U.rn (fun _ _ => trivial) (U.hblk i) (wblk' i rl hx)
    · obtain ⟨g1, g2⟩ := U.other x hx1 hx2
      rw [g1]
      rw [g2] at hx
      by_cases hd : x ∈ dead
      · rw [if_pos hd]; trivial
      · rw [if_neg hd]
        refine @BlkR.step fr _ _ _ _ _ _ _ _ _ U.step (fun y n c hy hk => ?_) (fun r hl hb => ?_) (wblk x rl hx)
        · rcases List.mem_append.1 hk with hk | hk
          · simp only [List.mem_map] at hk
            obtain ⟨j, hj, rfl⟩ := hk
            have hv := U.hkv j hj
            cases hh : hs[j]? with
            | some h =>
              have hup : upH hs mem.length j = h := by simp [upH, hh]
              rw [hup] at hy
              rw [memD_get j h hh, hy] at hv
              cases hv
            | none =>
              have hup : upH hs mem.length j = mem.length + (j - hs.length) := by simp [upH, hh]
              rw [hup, @mget_ge fr _ _ (by omega)] at hy
              cases hy
          · have := (U.hdd y hk).2
            rw [hy] at this
            cases this
        · obtain ⟨h1, h2⟩ := U.apart hx2 hx hl hb
          exact (U.hst.old r h1 h2).1
  · intro x y rl1 rl2 r hx hy hlx hly hbx hby
    rcases U.case x (@live_lt fr _ _ hlx) with ⟨i, hi, rfl⟩ | ⟨hx1, hx2⟩
    · obtain ⟨g1, g2⟩ := U.at i hi
      rw [g1, ren_live] at hlx
      rw [g2] at hx
      rcases U.case y (@live_lt fr _ _ hly) with ⟨j, hj, rfl⟩ | ⟨hy1, hy2⟩
      · obtain ⟨k1, k2⟩ := U.at j hj
        rw [k1, ren_live] at hly
        rw [k2] at hy
        rw [winj' i j rl1 rl2 r hx hy hlx hly hbx hby]
      · obtain ⟨k1, k2⟩ := U.other y hy1 hy2
        rw [k1] at hly
        rw [k2] at hy
        by_cases hd : y ∈ dead
        · rw [if_pos hd] at hly; cases hly
        · rw [if_neg hd] at hly
          obtain ⟨h1, h2⟩ := U.apart hy2 hy hly hby
          exact absurd ⟨i, rl1, hx, hlx, hbx⟩ (U.hst.old r h1 h2).2
    · obtain ⟨g1, g2⟩ := U.other x hx1 hx2
      rw [g1] at hlx
      rw [g2] at hx
      by_cases hd : x ∈ dead
      · rw [if_pos hd] at hlx; cases hlx
      rw [if_neg hd] at hlx
      rcases U.case y (@live_lt fr _ _ hly) with ⟨j, hj, rfl⟩ | ⟨hy1, hy2⟩
      · obtain ⟨k1, k2⟩ := U.at j hj
        rw [k1, ren_live] at hly
        rw [k2] at hy
        obtain ⟨h1, h2⟩ := U.apart hx2 hx hlx hbx
        exact absurd ⟨j, rl2, hy, hly, hby⟩ (U.hst.old r h1 h2).2
      · obtain ⟨k1, k2⟩ := U.other y hy1 hy2
        rw [k1] at hly
        rw [k2] at hy
        by_cases hd2 : y ∈ dead
        · rw [if_pos hd2] at hly; cases hly
        · rw [if_neg hd2] at hly
          exact winj x y rl1 rl2 r hx hy hlx hly hbx hby

end

end Go.Lv
