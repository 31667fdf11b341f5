/-
Tables of functions, laid up.
-/
import Derived.Test.YtdcimcciokgdaaaLvY
namespace Go.Lv
open Go.RowKit
set_option linter.unusedVariables false
set_option linter.unusedSimpArgs false
set_option linter.unusedSectionVars false

def bodyOf (f : Func) : Code := f.body.getD .skip

/-- a function that leaves memory alone, run where it is called; it gets no memory -/
def entQ (tt : TT) (tab : Tab) (fn : Func) (fuel : Nat) : Ent := ⟨[], .quiet, fun args mem => match mem with
  | [] => match run tt tab fn (bodyOf fn) fuel args [] with
    | some ret => match ret.blks, ret.kills with
      | [], [] => some (true, ret)
      | _, _ => none
    | none => none
  | _ => none⟩

/-- a function that makes new memory, run where it is called; it gets no memory -/
def entF (tt : TT) (tab : Tab) (fn : Func) (fuel : Nat) : Ent := ⟨[], .fresh, fun args mem => match mem with
  | [] => match run tt tab fn (bodyOf fn) fuel args [] with
    | some ret => match ret.kills with
      | [] => some (true, ret)
      | _ => none
    | none => none
  | _ => none⟩

/-- a function, run where it is called -/
def entL (tt : TT) (tab : Tab) (own : List Bool) (fn : Func) (fuel : Nat) : Ent := ⟨own, .loud, fun args mem => match run tt tab fn (bodyOf fn) fuel args mem with
  | some ret => some (true, ret)
  | none => none⟩

/-- a function in a closed form; it gets no memory, and makes none -/
def entC (g : List V → Option (Bool × V)) : Ent := ⟨[], .quiet, fun args mem => match mem with
  | [] => match g args with
    | some (c, v) => some (c, ⟨v, [], []⟩)
    | none => none
  | _ => none⟩

section
variable {P : Program} {tt : TT} {tab : Tab}

structure Base (P : Program) (tt : TT) : Prop where
  mixed : P.follows .mixedOrders = true
  types : TTok P tt
  deep : 6 ≤ P.depth

theorem body_some {fn : Func} (h : fn.body.isSome = true) : fn.body = some (bodyOf fn) := by
  unfold bodyOf
  cases hb : fn.body with
  | none => rw [hb] at h; cases h
  | some c => rfl

theorem tab_nil : TabOK P [] := fun f ent h => by cases h
theorem tab_cons {f : FuncId} {ent : Ent} (hm : Meets P f ent) (hf : FunOK P f) (h : TabOK P tab) : TabOK P ((f, ent) :: tab) := by
  intro g e hl
  simp only [look] at hl
  cases hb : Nat.beq f g with
  | true =>
    rw [hb] at hl
    simp only [cond_true, Option.some.injEq] at hl
    subst hl
    rw [← Nat.eq_of_beq_eq_true hb]
    exact ⟨hm, hf⟩
  | false => rw [hb] at hl; exact h g e hl

theorem funOK {f : FuncId} {fn : Func} (hf : P.funcs[f]? = some fn) (hn : (fn.name == "runtime.NumGoroutine") = false) (hb : fn.body.isSome = true) : FunOK P f := ⟨fn, bodyOf fn, hf, hn, body_some hb⟩

theorem meets_entQ (B : Base P tt) (hTab : TabOK P tab) {f : FuncId} {fn : Func} (hf : P.funcs[f]? = some fn) (hb : fn.body.isSome = true) (fuel : Nat) : Meets P f (entQ tt tab fn fuel) := by
  refine meets_of_run B.mixed B.types B.deep hTab hf (body_some hb) fun args mem _ ret hg => ?_
  unfold entQ at hg
  simp only at hg
  cases mem with
  | cons b m => cases hg
  | nil =>
    simp only at hg
    cases hr : run tt tab fn (bodyOf fn) fuel args [] with
    | none => rw [hr] at hg; cases hg
    | some r =>
      rw [hr] at hg
      simp only at hg
      split at hg
      · rename_i h1 h2
        cases hg
        exact ⟨fuel, _, hr, rfl, h1, h2⟩
      · cases hg

theorem meets_entF (B : Base P tt) (hTab : TabOK P tab) {f : FuncId} {fn : Func} (hf : P.funcs[f]? = some fn) (hb : fn.body.isSome = true) (fuel : Nat) : Meets P f (entF tt tab fn fuel) := by
  refine meets_of_run B.mixed B.types B.deep hTab hf (body_some hb) fun args mem _ ret hg => ?_
  unfold entF at hg
  simp only at hg
  cases mem with
  | cons b m => cases hg
  | nil =>
    simp only at hg
    cases hr : run tt tab fn (bodyOf fn) fuel args [] with
    | none => rw [hr] at hg; cases hg
    | some r =>
      rw [hr] at hg
      simp only at hg
      split at hg
      · rename_i h2
        cases hg
        exact ⟨fuel, _, hr, rfl, rfl, h2⟩
      · cases hg

theorem meets_entL (B : Base P tt) (hTab : TabOK P tab) {own : List Bool} {f : FuncId} {fn : Func} (hf : P.funcs[f]? = some fn) (hb : fn.body.isSome = true) (fuel : Nat) : Meets P f (entL tt tab own fn fuel) := by
  refine meets_of_run B.mixed B.types B.deep hTab hf (body_some hb) fun args mem _ ret hg => ?_
  unfold entL at hg
  simp only at hg
  cases hr : run tt tab fn (bodyOf fn) fuel args mem with
  | none => rw [hr] at hg; cases hg
  | some r =>
    rw [hr] at hg
    cases hg
    exact ⟨fuel, _, hr, rfl, rfl, rfl⟩

theorem meets_entC (B : Base P tt) (hTab : TabOK P tab) {f : FuncId} {fn : Func} (hf : P.funcs[f]? = some fn) (hb : fn.body.isSome = true) {g : List V → Option (Bool × V)}
    (h : ∀ args, Fit args [] → ∀ v, g args = some (true, v) → ∃ fuel, run tt tab fn (bodyOf fn) fuel args [] = some ⟨v, [], []⟩) : Meets P f (entC g) := by
  refine meets_of_run B.mixed B.types B.deep hTab hf (body_some hb) fun args mem hfit ret hg => ?_
  unfold entC at hg
  simp only at hg
  split at hg
  case h_2 => cases hg
  split at hg
  case h_2 => cases hg
  rename_i c v hc
  cases hg
  obtain ⟨fuel, hr⟩ := h args hfit v hc
  exact ⟨fuel, _, hr, rfl, rfl, rfl⟩

theorem wr_nothing (w : World) : @WR (Fr.of fun _ => False) w [] [] :=
  @WR.mk (Fr.of fun _ => False) w [] [] rfl (fun h rl hh => by simp at hh) (fun h h' rl rl' r hh => by simp at hh) (fun r _ h => h) (fun r h => h.elim)

/-- a function that gets and gives nothing but numbers: nothing that stood is touched -/
theorem calls_below (B : Base P tt) (hTab : TabOK P tab) {f : FuncId} {fn : Func} (hf : P.funcs[f]? = some fn) (hb : fn.body.isSome = true) {fuel : Nat} {args : List V} {reals : List Value} {w : World}
    (ha : ∀ fr : Fr, All2 (VR w [] []) args reals) {b : Bool} (hr : run tt tab fn (bodyOf fn) fuel args [] = some ⟨.bool b, [], []⟩) :
    Calls P f reals.toArray w fun e w' => e = .returned (.bool b) ∧ Below w.heap.size w w' := by
  refine Calls.mono (meets_entL B hTab (own := []) hf hb fuel (Fr.of fun _ => False) w [] [] args reals (wr_nothing w) (ha _) ⟨.bool b, [], []⟩ (by simp only [entL, hr])) fun e w' he => ?_
  obtain ⟨r, ρ', rfl, hv, _, hs⟩ := he
  have hv : r = .bool b := hv
  subst hv
  exact ⟨rfl, hs.os, hs.tape, hs.output, hs.size, fun r hr => (hs.old r hr fun ⟨h, rl, hh, _⟩ => by simp at hh).1⟩

end
end Go.Lv
