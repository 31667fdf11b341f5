/-
The path of a snake: own work.
-/
import Derived.Test.YtdcimcciokgdaaaR1A
import Derived.Test.YtdcimcciokgdaaaLvZ
namespace Go.Proofs.Ytdcimcciokgdaaa
open Go Go.Lv Go.Proofs
set_option linter.unusedVariables false

abbrev I (n : Int) : V := .int .i64 n
theorem base : Base Try.prog tt := ⟨mixed, ttok, deep⟩

/-! ### the path of a snake: a form that is there -/
noncomputable def v20 : Tab := [(20, entQ tt [] Try.f20 0)]
noncomputable def v36 : Tab := (36, entQ tt v20 Try.f36 0) :: v20
noncomputable def v57 : Tab := (57, entQ tt v36 Try.f57 9) :: v36
noncomputable def v58 : Tab := (58, entQ tt v57 Try.f58 9) :: v57
noncomputable def v51 : Tab := (51, entQ tt v58 Try.f51 9) :: v58
noncomputable def v37 : Tab := (37, entQ tt v51 Try.f37 20) :: v51
noncomputable def v17 : Tab := (17, entQ tt v37 Try.f17 0) :: v37

noncomputable def v23 : Tab := (23, entQ tt v17 Try.f23 0) :: v17
noncomputable def v38 : Tab := (38, entQ tt v23 Try.f38 0) :: v23
noncomputable def v44 : Tab := (44, entF tt v38 Try.f44 20) :: v38
noncomputable def v52 : Tab := (52, entQ tt v44 Try.f52 20) :: v44
noncomputable def v39 : Tab := (39, entQ tt v52 Try.f39 20) :: v52
noncomputable def v18 : Tab := (18, entQ tt v39 Try.f18 0) :: v39
noncomputable def v40 : Tab := (40, entQ tt v18 Try.f40 3) :: v18
noncomputable def v19 : Tab := (19, entQ tt v40 Try.f19 17) :: v40

/-! each function does what its row of the table says -/
theorem t20 : TabOK Try.prog v20 := tab_cons (meets_entQ base tab_nil Try.func20 rfl 0) (funOK Try.func20 (by kernel_rfl) rfl) tab_nil
theorem t36 : TabOK Try.prog v36 := tab_cons (meets_entQ base t20 Try.func36 rfl 0) (funOK Try.func36 (by kernel_rfl) rfl) t20
theorem t57 : TabOK Try.prog v57 := tab_cons (meets_entQ base t36 Try.func57 rfl 9) (funOK Try.func57 (by kernel_rfl) rfl) t36
theorem t58 : TabOK Try.prog v58 := tab_cons (meets_entQ base t57 Try.func58 rfl 9) (funOK Try.func58 (by kernel_rfl) rfl) t57
theorem t51 : TabOK Try.prog v51 := tab_cons (meets_entQ base t58 Try.func51 rfl 9) (funOK Try.func51 (by kernel_rfl) rfl) t58
theorem t37 : TabOK Try.prog v37 := tab_cons (meets_entQ base t51 Try.func37 rfl 20) (funOK Try.func37 (by kernel_rfl) rfl) t51
theorem t17 : TabOK Try.prog v17 := tab_cons (meets_entQ base t37 Try.func17 rfl 0) (funOK Try.func17 (by kernel_rfl) rfl) t37
theorem t23 : TabOK Try.prog v23 := tab_cons (meets_entQ base t17 Try.func23 rfl 0) (funOK Try.func23 (by kernel_rfl) rfl) t17
theorem t38 : TabOK Try.prog v38 := tab_cons (meets_entQ base t23 Try.func38 rfl 0) (funOK Try.func38 (by kernel_rfl) rfl) t23
theorem t44 : TabOK Try.prog v44 := tab_cons (meets_entF base t38 Try.func44 rfl 20) (funOK Try.func44 (by kernel_rfl) rfl) t38
theorem t52 : TabOK Try.prog v52 := tab_cons (meets_entQ base t44 Try.func52 rfl 20) (funOK Try.func52 (by kernel_rfl) rfl) t44
theorem t39 : TabOK Try.prog v39 := tab_cons (meets_entQ base t52 Try.func39 rfl 20) (funOK Try.func39 (by kernel_rfl) rfl) t52
theorem t18 : TabOK Try.prog v18 := tab_cons (meets_entQ base t39 Try.func18 rfl 0) (funOK Try.func18 (by kernel_rfl) rfl) t39
theorem t40 : TabOK Try.prog v40 := tab_cons (meets_entQ base t18 Try.func40 rfl 3) (funOK Try.func40 (by kernel_rfl) rfl) t18
theorem t19 : TabOK Try.prog v19 := tab_cons (meets_entQ base t40 Try.func19 rfl 17) (funOK Try.func19 (by kernel_rfl) rfl) t40
theorem run7_0 : run tt v19 Try.f7 (bodyOf Try.f7) 0 [I 0] [] = some ⟨.bool true, [], []⟩ := by kernel_rfl
theorem run7_1 : run tt v19 Try.f7 (bodyOf Try.f7) 0 [I 1] [] = some ⟨.bool true, [], []⟩ := by kernel_rfl
theorem run7_2 : run tt v19 Try.f7 (bodyOf Try.f7) 0 [I 2] [] = some ⟨.bool true, [], []⟩ := by kernel_rfl
theorem run7_3 : run tt v19 Try.f7 (bodyOf Try.f7) 0 [I 3] [] = some ⟨.bool true, [], []⟩ := by kernel_rfl
theorem run7_4 : run tt v19 Try.f7 (bodyOf Try.f7) 0 [I 4] [] = some ⟨.bool true, [], []⟩ := by kernel_rfl
theorem run7_5 : run tt v19 Try.f7 (bodyOf Try.f7) 0 [I 5] [] = some ⟨.bool true, [], []⟩ := by kernel_rfl
theorem run7_6 : run tt v19 Try.f7 (bodyOf Try.f7) 0 [I 6] [] = some ⟨.bool true, [], []⟩ := by kernel_rfl
theorem run7_7 : run tt v19 Try.f7 (bodyOf Try.f7) 0 [I 7] [] = some ⟨.bool true, [], []⟩ := by kernel_rfl

/-! ### a form that is not there -/
abbrev no (k : Int) : Bool := !(decide (0 ≤ k) && decide (k ≤ 7))
def inG : List V → Option (Bool × V)
  | [.int .i64 x, .int .i64 a, .int .i64 b] => some (true, .bool (decide (a ≤ x) && decide (x ≤ b)))
  | _ => none
theorem run20 (x a b : Int) : run tt [] Try.f20 (bodyOf Try.f20) 0 [I x, I a, I b] [] =
    bif decide (a ≤ x) then some ⟨.bool (decide (x ≤ b)), [], []⟩ else some ⟨.bool false, [], []⟩ := by kernel_rfl
theorem run23 (x a b : Int) : run tt [] Try.f23 (bodyOf Try.f23) 0 [I x, I a, I b] [] =
    bif decide (a ≤ x) then some ⟨.bool (decide (x ≤ b)), [], []⟩ else some ⟨.bool false, [], []⟩ := by kernel_rfl
theorem m20 : Meets Try.prog 20 (entC inG) := meets_entC base tab_nil Try.func20 rfl fun args hfit v h => by
  unfold inG at h
  split at h
  · rename_i x a b
    cases h
    refine ⟨0, ?_⟩
    rw [run20]
    cases decide (a ≤ x) <;> rfl
  · cases h
theorem m23 : Meets Try.prog 23 (entC inG) := meets_entC base tab_nil Try.func23 rfl fun args hfit v h => by
  unfold inG at h
  split at h
  · rename_i x a b
    cases h
    refine ⟨0, ?_⟩
    rw [run23]
    cases decide (a ≤ x) <;> rfl
  · cases h
noncomputable def x20 : Tab := [(20, entC inG)]
noncomputable def x23 : Tab := (23, entC inG) :: x20
noncomputable def x36 : Tab := (36, entQ tt x23 Try.f36 0) :: x23
noncomputable def x38 : Tab := (38, entQ tt x36 Try.f38 0) :: x36
theorem tx20 : TabOK Try.prog x20 := tab_cons m20 (funOK Try.func20 (by kernel_rfl) rfl) tab_nil
theorem tx23 : TabOK Try.prog x23 := tab_cons m23 (funOK Try.func23 (by kernel_rfl) rfl) tx20
theorem tx36 : TabOK Try.prog x36 := tab_cons (meets_entQ base tx23 Try.func36 rfl 0) (funOK Try.func36 (by kernel_rfl) rfl) tx23
theorem tx38 : TabOK Try.prog x38 := tab_cons (meets_entQ base tx36 Try.func38 rfl 0) (funOK Try.func38 (by kernel_rfl) rfl) tx36
abbrev nil17 : V := .tup [.ints 32 (List.replicate 32 0), .bool false]
def pathG : List V → Option (Bool × V)
  | [.int .i64 k] => some (no k, nil17)
  | _ => none
theorem run17 (k : Int) : run tt x38 Try.f17 (bodyOf Try.f17) 0 [I k] [] = bif no k then some ⟨nil17, [], []⟩ else none := by kernel_rfl
theorem run18 (k : Int) : run tt x38 Try.f18 (bodyOf Try.f18) 0 [I k] [] = bif no k then some ⟨nil17, [], []⟩ else none := by kernel_rfl
end Go.Proofs.Ytdcimcciokgdaaa
