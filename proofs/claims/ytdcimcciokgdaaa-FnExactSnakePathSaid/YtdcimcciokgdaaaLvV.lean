/-
Code, sound; and functions.
-/
import Derived.Test.YtdcimcciokgdaaaLvU
namespace Go.Lv
open Go.RowKit
set_option linter.unusedVariables false
set_option linter.unusedSimpArgs false
set_option linter.unusedSectionVars false

section
variable [fr : Fr]
variable {P : Program} {tt : TT} {tab : Tab} {R : Type} {w0 : World} {ρ0 : Rho} {mem0 : Mem}

theorem iter_ok {f : St → (Out → Option R) → Option R} {body : Code}
    (hf : ∀ {σ : St} {a : Act} {w : World} {ρ : Rho} {k : Out → Option R} {x : R}, f σ k = some x → Good w0 ρ0 mem0 σ a w ρ → body.wp P (Post w0 ρ0 mem0 k x) a w) :
    ∀ (n : Nat) {σ : St} {a : Act} {w : World} {ρ : Rho} {k : Out → Option R} {x : R}, iter f n σ k = some x → Good w0 ρ0 mem0 σ a w ρ → Code.rounds P body (Post w0 ρ0 mem0 k x) n a w := by
  intro n
  induction n with
  | zero => intro σ a w ρ k x h _; cases h
  | succ n ih =>
    intro σ a w ρ k x h hG
    rw [rounds_succ]
    simp only [iter] at h
    refine Code.wp_mono (fun e a' w' hp => ?_) (hf h hG)
    obtain ⟨σ', ρ', hG', hp⟩ := hp
    cases e with
    | normal => exact ih hp hG'
    | exit id => exact ⟨σ', ρ', hG', hp⟩
    | ret => exact ⟨σ', ρ', hG', hp⟩
    | _ => exact hp.elim

theorem ev_ok (hm : P.follows .mixedOrders = true) (hT : TTok P tt) (hD : 6 ≤ P.depth) (hTab : TabOK P tab) (fuel : Nat) : ∀ (c : Code) {σ : St} {a : Act} {w : World} {ρ : Rho} {k : Out → Option R} {x : R},
    ev tt tab fuel c σ k = some x → Good w0 ρ0 mem0 σ a w ρ → c.wp P (Post w0 ρ0 mem0 k x) a w := by
  intro c
  induction c with
  | skip => intro σ a w ρ k x h hG; exact wp_skip ⟨σ, ρ, hG, h⟩
  | label l => intro σ a w ρ k x h hG; exact wp_label ⟨σ, ρ, hG, h⟩
  | region id ops draw =>
    intro σ a w ρ k x h hG
    cases draw with
    | true => exact drawK_ok hm hT hD hTab h hG fun σ' a' w' ρ' g1 g2 => ⟨σ', ρ', g1, g2⟩
    | false => exact wp_region_list (opsK_ok hT hD hTab h hG _ fun σ' a' w' ρ' g1 g2 => ⟨σ', ρ', g1, g2⟩)
  | seq x y ihx ihy =>
    intro σ a w ρ k r h hG
    simp only [ev] at h
    refine wp_seq (Code.wp_mono (fun e a' w' hp => ?_) (ihx h hG))
    obtain ⟨σ', ρ', hG', hp⟩ := hp
    cases e with
    | normal => exact ihy hp hG'
    | exit id => exact ⟨σ', ρ', hG', hp⟩
    | ret => exact ⟨σ', ρ', hG', hp⟩
    | _ => exact hp.elim
  | cond c x y ihx ihy =>
    intro σ a w ρ k r h hG
    simp only [ev] at h
    split at h
    · rename_i b hb
      have hv := hG.inv.op c
      rw [hb] at hv
      have hv : a.eval c = .bool b := hv
      cases b with
      | true => exact wp_cond hv (ihx h hG)
      | false => exact wp_cond hv (ihy h hG)
    · cases h
  | block id body ih =>
    intro σ a w ρ k r h hG
    simp only [ev] at h
    refine wp_block (Code.wp_mono (fun e a' w' hp => ?_) (ih h hG))
    obtain ⟨σ', ρ', hG', hp⟩ := hp
    cases e with
    | normal => exact ⟨σ', ρ', hG', hp⟩
    | exit id' =>
      simp only at hp
      by_cases hid : id' = id
      · subst hid
        rw [show Nat.beq id' id' = true from Nat.beq_refl id'] at hp
        simp only [Exit.inBlock, if_true]
        exact ⟨σ', ρ', hG', hp⟩
      · have : Nat.beq id' id = false := by rw [← Bool.not_eq_true, Nat.beq_eq]; exact hid
        rw [this] at hp
        simp only [Exit.inBlock, hid, if_false]
        exact ⟨σ', ρ', hG', hp⟩
    | ret => exact ⟨σ', ρ', hG', hp⟩
    | _ => exact hp.elim
  | loop body ih =>
    intro σ a w ρ k r h hG
    simp only [ev] at h
    exact wp_loop_rounds fuel (iter_ok (fun h hG => ih h hG) fuel h hG)
  | exit id => intro σ a w ρ k x h hG; exact wp_exit ⟨σ, ρ, hG, h⟩
  | ret => intro σ a w ρ k x h hG; exact wp_ret ⟨σ, ρ, hG, h⟩
  | _ => intro σ a w ρ k x h hG; cases h

end
end Go.Lv
