/-
Functions, sound.
-/
import Derived.Test.YtdcimcciokgdaaaLvV
namespace Go.Lv
open Go.RowKit
set_option linter.unusedVariables false
set_option linter.unusedSimpArgs false
set_option linter.unusedSectionVars false

/-- a load, as an operation -/
def loadOp (t : TypeId) (a : Tmp) : Oper := { dst := none, op := .load t (.tmp a), type := 0, pos := "", after := #[], guard := none }

def notTup : V → Bool
  | .tup _ => false
  | _ => true

/-- what a frame returns -/
def retK {R : Type} (tt : TT) (tab : Tab) (σ : St) : List ResultVar → (List V → Option R) → Option R
  | [], k => k []
  | .tmp t :: r, k => bif notTup (vget σ.tmps t) then retK tt tab σ r (fun vs => k (vget σ.tmps t :: vs)) else none
  | .cell a t :: r, k => opK tt tab none (loadOp t a) σ fun v _ _ => bif notTup v then retK tt tab σ r (fun vs => k (v :: vs)) else none

def outV : List V → V
  | [v] => v
  | vs => .tup vs

def hsBlks (mem : Mem) : List Nat → List Nat
  | [] => []
  | h :: r => (mget mem h).hs ++ hsBlks mem r

def geL (np : Nat) : List Nat → List Nat
  | [] => []
  | h :: r => bif Nat.ble np h then h :: geL np r else geL np r

/-- which handles a caller is told of: those that it knows, and those that it comes to know -/
def keepOf (np : Nat) (mem : Mem) (v : V) : List Nat :=
  List.range np ++ dedup (geL np (v.hs ++ hsBlks mem (List.range np) ++ hsBlks mem (geL np (v.hs ++ hsBlks mem (List.range np)))))

def okKeep (np : Nat) (mem : Mem) (v : V) (keep : List Nat) : Bool :=
  nodupB keep && keep.all (fun h => (mget mem h).hs.all fun x => memb x keep) && v.hs.all fun x => memb x keep

def finK (tt : TT) (tab : Tab) (rs : List ResultVar) (σ : St) : Option Ret :=
  retK tt tab σ rs fun vs =>
    bif okKeep σ.np σ.mem (outV vs) (keepOf σ.np σ.mem (outV vs)) then
      some ⟨(outV vs).ren (dnH (keepOf σ.np σ.mem (outV vs))), (keepOf σ.np σ.mem (outV vs)).map (fun h => (mget σ.mem h).ren (dnH (keepOf σ.np σ.mem (outV vs)))), σ.killed⟩
    else none

def ini (ntmps : Nat) (args : List V) (mem : Mem) : St := ⟨args ++ List.replicate (ntmps - args.length) .undef, mem, mem.length, []⟩

/-- a function's body, run -/
def run (tt : TT) (tab : Tab) (fn : Func) (c : Code) (fuel : Nat) (args : List V) (mem : Mem) : Option Ret :=
  ev tt tab fuel c (ini fn.ntmps args mem) fun
    | .norm σ => finK tt tab fn.results.toList σ
    | .ret σ => finK tt tab fn.results.toList σ
    | _ => none

mutual
theorem ren_self : ∀ (v : V), v.ren (fun x => x) = v
  | .undef => rfl
  | .any => rfl
  | .bool _ => rfl
  | .int _ _ => rfl
  | .ints _ _ => rfl
  | .bools _ _ => rfl
  | .z0 => rfl
  | .ri _ _ => rfl
  | .rb _ => rfl
  | .rr _ _ => rfl
  | .ptr h i o s => rfl
  | .sl h o n => rfl
  | .asl h o s n => rfl
  | .map h => rfl
  | .agg vs => by simp only [V.ren]; rw [renL_self vs]
  | .rv vs => by simp only [V.ren]; rw [renL_self vs]
  | .tup vs => by simp only [V.ren]; rw [renL_self vs]
  | .rp c i o s => by simp only [V.ren]; rw [ren_self c]
  | .fn k x y => by simp only [V.ren]; rw [renL_self x, renL_self y]
theorem renL_self : ∀ (vs : List V), V.renL (fun x => x) vs = vs
  | [] => rfl
  | v :: r => by simp only [V.renL]; rw [ren_self v, renL_self r]
end

section
variable [fr : Fr] {P : Program} {tt : TT} {tab : Tab} {w0 : World} {ρ0 : Rho} {mem0 : Mem} {σ : St} {a : Act} {w : World} {ρ : Rho}

theorem VR1_notTup {mem : Mem} {v : V} {r : Value} (h : VR w ρ mem v r) (hn : notTup v = true) : VR1 w ρ mem v r := by
  cases v <;> first | exact h | cases hn

theorem mapM_run {α : Type} {f : α → Sem Value} : ∀ {l : List α} {rs : List Value}, All2 (fun x r => (f x).run P w = .ok r w) l rs → (l.mapM f).run P w = .ok rs w := by
  intro l rs h
  induction h with
  | nil => simp
  | cons hp _ ih => simp [List.mapM_cons, Sem.run_bind, hp, ih]

/-- what a result's variable holds -/
def resF (a : Act) : ResultVar → Sem Value
  | .tmp t => pure (a.tmps.getD t Go.undef)
  | .cell b t => do loadVar t (← asAddr (a.tmps.getD b Go.undef))

theorem results_eq (fn : Func) (a : Act) : results fn a.tmps = (do let vs ← fn.results.mapM (resF a); pure (if h : vs.size = 1 then vs[0] else .tuple vs)) := rfl

theorem retK_ok (hT : TTok P tt) (hI : Inv σ a w ρ) : ∀ {l : List ResultVar} {R : Type} {k : List V → Option R} {x : R}, retK tt tab σ l k = some x →
    ∃ vs rs, k vs = some x ∧ All2 (VR1 w ρ σ.mem) vs rs ∧ All2 (fun (v : ResultVar) r => (resF a v).run P w = .ok r w) l rs := by
  intro l
  induction l with
  | nil => intro R k x h; exact ⟨[], [], h, .nil, .nil⟩
  | cons v l ih =>
    intro R k x h
    cases v with
    | tmp t =>
      simp only [retK] at h
      obtain ⟨hn, h⟩ := cond_none h
      obtain ⟨vs, rs, h1, h2, h3⟩ := ih h
      exact ⟨_, _, h1, .cons (VR1_notTup (hI.tmp t) hn) h2, .cons rfl h3⟩
    | cell b t =>
      simp only [retK] at h
      obtain ⟨u, r, h1, h2, h3⟩ := load_ok hT (o := loadOp t b) rfl hI h
      obtain ⟨hn, h1⟩ := cond_none h1
      obtain ⟨vs, rs, h4, h5, h6⟩ := ih h1
      refine ⟨_, _, h4, .cons (VR1_notTup h3 hn) h5, .cons ?_ h6⟩
      have hv := hI.tmp b
      have he : ∃ ad, a.tmps.getD b Go.undef = .pointer (some ad) := by
        unfold opK at h
        simp only [loadOp] at h
        split at h
        case h_2 => cases h
        split at h
        · rename_i hh i o s he
          have he : vget σ.tmps b = .ptr hh i o s := he
          rw [he] at hv
          rcases hv with ⟨_, _, _, _, _, hr, _⟩ | ⟨_, _, _, _, _, _, _, hr, _⟩ <;> exact ⟨_, hr⟩
        · rename_i c i o s he
          have he : vget σ.tmps b = .rp c i o s := he
          rw [he] at hv
          obtain ⟨_, _, _, hr, _⟩ := hv
          exact ⟨_, hr⟩
        · cases h
      obtain ⟨ad, he⟩ := he
      have h7 : (do pure (Next.value (← Instr.loadAt t (a.tmps.getD b Go.undef))) : Sem Next).run P w = .ok (.value r) w := h2
      rw [he] at h7
      show ((do loadVar t (← asAddr (a.tmps.getD b Go.undef))) : Sem Value).run P w = .ok r w
      rw [he]
      have h8 : (loadVar t ad).run P w = .ok r w := by
        simp only [Instr.loadAt, Instr.sureAddr, Sem.run_bind, Sem.run_pure, Result.andThen_ok] at h7
        cases hl : (loadVar t ad).run P w with
        | ok v w' =>
          rw [hl] at h7
          simp only [Result.andThen_ok, Result.ok.injEq, Next.value.injEq] at h7
          rw [h7.1, h7.2]
        | halt x w' => rw [hl] at h7; cases h7
      simp only [Sem.run_bind, asAddr, Sem.run_pure, Result.andThen_ok, h8]

theorem results_ok {fn : Func} {vs : List V} {rs : List Value} (h1 : All2 (VR1 w ρ σ.mem) vs rs) (h2 : All2 (fun (v : ResultVar) r => (resF a v).run P w = .ok r w) fn.results.toList rs) :
    ∃ r, (results fn a.tmps).run P w = .ok r w ∧ VR w ρ σ.mem (outV vs) r := by
  have hm : (fn.results.mapM (resF a)).run P w = .ok rs.toArray w := by
    rw [← Array.toArray_toList (xs := fn.results), List.mapM_toArray]
    simp [mapM_run h2]
  rw [results_eq, Sem.run_bind, hm]
  refine ⟨if h : rs.toArray.size = 1 then rs.toArray[0] else .tuple rs.toArray, ?_, ?_⟩
  · rfl
  · cases h1 with
    | nil => simp; exact ⟨[], rfl, .nil⟩
    | cons hp hr =>
      cases hr with
      | nil => simp; exact VR_of_VR1 hp
      | cons hp2 hr2 => simp [outV]; exact ⟨_, rfl, .cons hp (.cons hp2 hr2)⟩

end
end Go.Lv
