/-
The evaluator's operations answer with one value, one memory, whatever comes behind.
-/
import Derived.Test.YtdcimcciokgdaaaLvA
namespace Go.Lv
set_option linter.unusedVariables false
set_option linter.unusedSimpArgs false

section
variable {A B : Type}

theorem cond_bind (b : Bool) (x : Option A) (k : A → Option B) : (bif b then x else none).bind k = bif b then x.bind k else none := by cases b <;> rfl
theorem cond_bind' (b : Bool) (x : Option A) (k : A → Option B) : (bif b then none else x).bind k = bif b then none else x.bind k := by cases b <;> rfl
theorem cond_bind2 (b : Bool) (x y : Option A) (k : A → Option B) : (bif b then x else y).bind k = bif b then x.bind k else y.bind k := by cases b <;> rfl

variable (f : V → Option A) (k : A → Option B)

theorem loadV_bind (c : V) (n o s : Nat) (d : D) : (loadV c n o s d f).bind k = loadV c n o s d (fun v => (f v).bind k) := by
  unfold loadV
  split <;> (try simp only [cond_bind, Option.bind_none])
  split <;> simp only [cond_bind, Option.bind_none]
theorem loadE_bind (c : V) (i o s : Nat) (d : D) : (loadE c i o s d f).bind k = loadE c i o s d (fun v => (f v).bind k) := by
  unfold loadE
  split <;> simp only [cond_bind, Option.bind_none]
theorem binK_bind (tt : TT) (op : BinOp) (t : TypeId) (x y : V) : (binK tt op t x y f).bind k = binK tt op t x y (fun v => (f v).bind k) := by
  unfold binK
  split
  · split <;> (try simp only [cond_bind, cond_bind', Option.bind_none])
    split <;> (try simp only [cond_bind, cond_bind', Option.bind_none])
    all_goals (congr 1; try (split <;> rfl))
  · split <;> simp only [cond_bind, Option.bind_none]
  · split
    · split <;> rfl
    · rfl
  · rfl
theorem unK_bind (op : UnOp) (x : V) : (unK op x f).bind k = unK op x (fun v => (f v).bind k) := by
  unfold unK
  split <;> rfl
theorem idxK_bind (f : Nat → Option A) (x : V) (n : Nat) : (idxK x n f).bind k = idxK x n (fun v => (f v).bind k) := by
  unfold idxK
  split <;> simp only [cond_bind, Option.bind_none]
theorem boundK_bind (f : Nat → Option A) (x : Option V) (d n : Nat) : (boundK x d n f).bind k = boundK x d n (fun v => (f v).bind k) := by
  unfold boundK
  split <;> simp only [cond_bind, Option.bind_none]
theorem addrK_bind (tt : TT) (mem : Mem) (t : TypeId) (x ix : V) : (addrK tt mem t x ix f).bind k = addrK tt mem t x ix (fun v => (f v).bind k) := by
  unfold addrK
  split
  · split
    · split <;> simp only [cond_bind, idxK_bind, Option.bind_none]
    · rfl
  · split
    · split <;> (try simp only [cond_bind, idxK_bind, Option.bind_none])
      split <;> simp only [cond_bind, idxK_bind, Option.bind_none]
    · rfl
  · rfl
theorem fieldK_bind (tt : TT) (t : TypeId) (x : V) (j : Nat) : (fieldK tt t x j f).bind k = fieldK tt t x j (fun v => (f v).bind k) := by
  unfold fieldK
  split
  · split
    · split
      · split <;> simp only [cond_bind, Option.bind_none]
      · rfl
    · rfl
  · rfl
theorem partK_bind (tf : TI) (x : V) (off : Nat) : (partK tf x off f).bind k = partK tf x off (fun v => (f v).bind k) := by
  unfold partK
  split
  · split <;> rfl
  · split <;> rfl
  · simp only [cond_bind']
  · rfl
theorem minmax_bind (mx : Bool) : ∀ (vs : List V) (v : V), (minmax mx f v vs).bind k = minmax mx (fun v => (f v).bind k) v vs
  | [], v => by cases v <;> rfl
  | u :: r, v => by
    cases v <;> cases u <;> try rfl
    simp only [minmax, cond_bind]
    congr 1
    exact minmax_bind mx r _
theorem sliceK_bind (tt : TT) (mem : Mem) (t : TypeId) (x : V) (lo hi mx : Option V) : (sliceK tt mem t x lo hi mx f).bind k = sliceK tt mem t x lo hi mx (fun v => (f v).bind k) := by
  unfold sliceK
  split
  · simp only [cond_bind]
    congr 1
    split
    · split
      · split <;> rfl
      · rfl
    · rfl
  · split
    · split
      · split <;> (try simp only [cond_bind, boundK_bind, Option.bind_none])
        split <;> simp only [cond_bind, boundK_bind, Option.bind_none]
      · rfl
    · split
      · split
        · split <;> simp only [cond_bind, boundK_bind, Option.bind_none]
        · rfl
      · rfl
    · rfl

variable (g : V → Mem → List Nat → Option A)
theorem keepV_bind (mem : Mem) (v : V) : (keepV mem v g).bind k = keepV mem v (fun v m ks => (g v m ks).bind k) := by
  unfold keepV
  split
  · split <;> simp only [cond_bind, Option.bind_none]
  · rfl
theorem newB_bind (g : Nat → Mem → Option A) (mem : Mem) (slot : Option Nat) (b : Blk) : (newB mem slot b g).bind k = newB mem slot b (fun h m => (g h m).bind k) := by
  unfold newB
  split
  · rfl
  · split <;> simp only [cond_bind, Option.bind_none]
theorem appendK_bind (e : TypeId) (te : TI) (mem : Mem) (s x : V) : (appendK e te mem s x g).bind k = appendK e te mem s x (fun v m ks => (g v m ks).bind k) := by
  unfold appendK
  split
  · rfl
  · split
    · split
      · simp only [cond_bind]
        congr 1
        split <;> simp only [cond_bind, Option.bind_none]
      · rfl
    · split
      · split <;> simp only [cond_bind, Option.bind_none]
      · rfl
    · rfl
theorem callG_bind (ent : Ent) (pub hs : List Nat) (args1 : List V) (mem : Mem) : (callG ent pub hs args1 mem g).bind k = callG ent pub hs args1 mem (fun v m ks => (g v m ks).bind k) := by
  unfold callG
  simp only [cond_bind]
  congr 1
  split
  · rfl
  · rename_i c ret _
    simp only [cond_bind', cond_bind2, Option.bind_none]
    congr 3
    · cases ent.loud <;> simp only [cond_bind, Option.bind_none]
    · cases ent.loud <;> simp only [cond_bind, Option.bind_none]
theorem callK_bind (tab : Tab) (fn : FuncId) (args : List V) (mem : Mem) : (callK tab fn args mem g).bind k = callK tab fn args mem (fun v m ks => (g v m ks).bind k) := by
  unfold callK
  split
  · rfl
  · split
    · rfl
    · exact callG_bind _ _ _ _ _ _ _

theorem opK_bind (tt : TT) (tab : Tab) (slot : Option Nat) (o : Oper) (σ : St) : (opK tt tab slot o σ g).bind k = opK tt tab slot o σ (fun v m ks => (g v m ks).bind k) := by
  unfold opK
  split
  · rfl
  · rfl
  · split
    · split
      · rfl
      · simp only [cond_bind2]
    · rfl
  · split
    · split
      · exact newB_bind _ _ _ _ _
      · rfl
    · rfl
  · split
    · rw [keepV_bind]
      congr 1
      funext v m ks
      split <;> rfl
    · split
      · exact newB_bind _ _ _ _ _
      · rfl
  · split
    · simp only [cond_bind']
      congr 1
      split
      · split
        · split <;> rfl
        · rfl
      · split
        · split <;> rfl
        · rfl
      · rfl
    · rfl
  · split
    · split
      · split
        · split
          · simp only [cond_bind]
            congr 1
            exact newB_bind _ _ _ _ _
          · rfl
        · rfl
      · rfl
    · rfl
  · split
    · split
      · simp only [cond_bind]
        congr 1
        split
        · exact loadV_bind _ _ _ _ _ _ _
        · exact loadE_bind _ _ _ _ _ _ _
        · rfl
      · simp only [cond_bind, loadE_bind]
      · rfl
    · rfl
  · split
    · split
      · rw [keepV_bind]
        congr 1
        funext v m ks
        simp only [cond_bind]
        congr 1
        split
        · split <;> rfl
        · split <;> rfl
        · rfl
      · rfl
    · rfl
  · split <;> rfl
  · exact binK_bind _ _ _ _ _ _ _
  · exact unK_bind _ _ _ _
  · split
    · split
      · split <;> rfl
      · rfl
    · rfl
  · simp only [cond_bind]
  · exact newB_bind _ _ _ _ _
  · exact sliceK_bind _ _ _ _ _ _ _ _ _
  · exact fieldK_bind _ _ _ _ _ _
  · split
    · split
      · split
        · simp only [cond_bind, partK_bind]
        · rfl
      · rfl
    · rfl
  · exact addrK_bind _ _ _ _ _ _ _
  · split
    · split
      · simp only [cond_bind, idxK_bind, partK_bind]
      · rfl
    · rfl
  · split
    · split <;> rfl
    · rfl
  · split
    · split
      · exact callK_bind _ _ _ _ _ _
      · rfl
    · split
      · split
        · split <;> rfl
        · split
          · split <;> rfl
          · rfl
        · split
          · split <;> rfl
          · rfl
        · rfl
      · rfl
    · split
      · simp only [cond_bind]
        congr 1
        split
        · split
          · split
            · exact appendK_bind _ _ _ _ _ _ _
            · rfl
          · rfl
        · rfl
      · rfl
    · split
      · exact minmax_bind _ _ _ _ _
      · rfl
    · split
      · exact minmax_bind _ _ _ _ _
      · rfl
    · rfl
  · rfl

end
end Go.Lv
