/-
Pure functions and what the code of them does, by program; without conditions.
-/
import Derived.Test.YtkhccaoancfeoaaQsP5
import Derived.Test.YtkhccaoancfeoaaQsS4
namespace Go.Proofs.Ytkhccaoancfeoaa
open Go Go.Lv Go.Lv.P Go.Proofs
set_option linter.unusedVariables false
set_option linter.unusedSimpArgs false
set_option maxRecDepth 100000
/-! loop.example/g01194/impl.cells -/
noncomputable def impl_cells_tab (F : Nat) : Tab := []
theorem impl_cells_tabok (F : Nat) : TabOK Try.prog (impl_cells_tab F) := tab_nil
noncomputable def impl_cells_LS0 (F : Nat) : LT := []
theorem impl_cells_lsok0 (F : Nat) : LoopsOK Try.prog (impl_cells_LS0 F) (bodyOf Try.f38) := loopsOK_nil
theorem impl_cells_run (F : Nat) : runS tt (impl_cells_tab F) (impl_cells_LS0 F) [] [] Try.f38 (bodyOf Try.f38) 70 [] [] = impl_cells_c _ (fun r => some ⟨(.sl 0 0 16), [(.vec 41 (.rr 2 [[(0 : Int), (0 : Int)], [(0 : Int), (1 : Int)], [(0 : Int), (2 : Int)], [(0 : Int), (3 : Int)], [(1 : Int), (0 : Int)], [(1 : Int), (1 : Int)], [(1 : Int), (2 : Int)], [(1 : Int), (3 : Int)], [(2 : Int), (0 : Int)], [(2 : Int), (1 : Int)], [(2 : Int), (2 : Int)], [(2 : Int), (3 : Int)], [(3 : Int), (0 : Int)], [(3 : Int), (1 : Int)], [(3 : Int), (2 : Int)], [(3 : Int), (3 : Int)]]))], []⟩) := by kernel_rfl
def impl_cells_ent (F : Nat) : Ent := ⟨[], .fresh, fun args mem => match args, mem with
  | [], [] => some (true, ⟨(.sl 0 0 16), [(.vec 41 (.rr 2 [[(0 : Int), (0 : Int)], [(0 : Int), (1 : Int)], [(0 : Int), (2 : Int)], [(0 : Int), (3 : Int)], [(1 : Int), (0 : Int)], [(1 : Int), (1 : Int)], [(1 : Int), (2 : Int)], [(1 : Int), (3 : Int)], [(2 : Int), (0 : Int)], [(2 : Int), (1 : Int)], [(2 : Int), (2 : Int)], [(2 : Int), (3 : Int)], [(3 : Int), (0 : Int)], [(3 : Int), (1 : Int)], [(3 : Int), (2 : Int)], [(3 : Int), (3 : Int)]]))], []⟩)
  | _, _ => none⟩
theorem impl_cells_fok : FunOK Try.prog 38 := funOK Try.func38 (by kernel_rfl) rfl
theorem impl_cells_meets (F : Nat) : Meets Try.prog 38 (impl_cells_ent F) := by
  refine meets_of_runS mixed ttok deep (impl_cells_tabok F) Try.func38 (body_some rfl) (impl_cells_lsok0 F) fun args mem hfit ret h => ?_
  clear hfit
  simp only [impl_cells_ent] at h
  split at h
  · simp only [Option.some.injEq, Prod.mk.injEq] at h
    obtain ⟨hc, rfl⟩ := h
    exact ⟨[], [], 70, _, (impl_cells_run F).trans (impl_cells_cv _ _), rfl, rfl, rfl⟩
  · cases h

/-! (loop.example/g01194/impl.Board).merged$2 -/
noncomputable def impl_Board_merged_f2_tab (F : Nat) : Tab := []
theorem impl_Board_merged_f2_tabok (F : Nat) : TabOK Try.prog (impl_Board_merged_f2_tab F) := tab_nil
noncomputable def impl_Board_merged_f2_LS0 (F : Nat) : LT := []
theorem impl_Board_merged_f2_lsok0 (F : Nat) : LoopsOK Try.prog (impl_Board_merged_f2_LS0 F) (bodyOf Try.f39) := loopsOK_nil
theorem impl_Board_merged_f2_run (F : Nat) (cell0 : List Int) (m14 : List (List Int × Bool)) : runS tt (impl_Board_merged_f2_tab F) (impl_Board_merged_f2_LS0 F) [] [] Try.f39 (bodyOf Try.f39) 70 [(.ints 2 cell0), (.ptr 0 0 0 1)] [(.var 1 (.rv [(.map 1)])), (.map 2 (.fl m14))] = impl_Board_merged_f2_c _ cell0 m14 (fun r => some ⟨(.bool r), [(.var 1 (.rv [(.map 1)])), (.map 2 (.fl m14))], []⟩) := by kernel_rfl
def impl_Board_merged_f2_ent (F : Nat) : Ent := ⟨[], .quiet, fun args mem => match args, mem with
  | [(.ints 2 cell0), (.ptr 0 0 0 1)], [(.var 1 (.rv [(.map 1)])), (.map 2 (.fl m14))] => some (true, ⟨(.bool (impl_Board_merged_f2_v cell0 m14)), [], []⟩)
  | _, _ => none⟩
theorem impl_Board_merged_f2_fok : FunOK Try.prog 39 := funOK Try.func39 (by kernel_rfl) rfl
theorem impl_Board_merged_f2_meets (F : Nat) : Meets Try.prog 39 (impl_Board_merged_f2_ent F) := by
  refine meets_of_runS mixed ttok deep (impl_Board_merged_f2_tabok F) Try.func39 (body_some rfl) (impl_Board_merged_f2_lsok0 F) fun args mem hfit ret h => ?_
  clear hfit
  simp only [impl_Board_merged_f2_ent] at h
  split at h
  · rename_i cell0 m14
    simp only [Option.some.injEq, Prod.mk.injEq] at h
    obtain ⟨hc, rfl⟩ := h
    exact ⟨[], [], 70, _, (impl_Board_merged_f2_run F cell0 m14).trans (impl_Board_merged_f2_cv _ cell0 m14 _), rfl, rfl, rfl⟩
  · cases h

/-! slices.IndexFunc[[][2]int,[2]int] -/
noncomputable def slices_IndexFunc_2int2int_impl_Board_merged_f2_tab (F : Nat) : Tab := [(39, (impl_Board_merged_f2_ent F))]
theorem slices_IndexFunc_2int2int_impl_Board_merged_f2_tabok (F : Nat) : TabOK Try.prog (slices_IndexFunc_2int2int_impl_Board_merged_f2_tab F) := (tab_cons (impl_Board_merged_f2_meets F) impl_Board_merged_f2_fok tab_nil)
noncomputable def slices_IndexFunc_2int2int_impl_Board_merged_f2_LS0 (F : Nat) : LT := []
theorem slices_IndexFunc_2int2int_impl_Board_merged_f2_lsok0 (F : Nat) : LoopsOK Try.prog (slices_IndexFunc_2int2int_impl_Board_merged_f2_LS0 F) (bodyOf Try.f53) := loopsOK_nil
theorem slices_IndexFunc_2int2int_impl_Board_merged_f2_keys : keysOK (bodyOf Try.f53) = true := by kernel_rfl
def slices_IndexFunc_2int2int_impl_Board_merged_f2_st2 (s0 : List (List Int)) (t74 : Int) (m16 : List (List Int × Bool)) (t85 : Int) : St := ⟨expand 19 0 [0, 1, 7, 8] [(.rr 2 s0), (.fn 39 [] [(.ptr 0 0 0 1)]), (.int .i64 t74), (.int .i64 t85)], [(.var 1 (.rv [(.map 1)])), (.map 2 (.fl m16))], 2, []⟩
def slices_IndexFunc_2int2int_impl_Board_merged_f2_o2 (s0 : List (List Int)) (t74 : Int) (m16 : List (List Int × Bool)) (x : Bool × Int) : GT := (.br x.1 (.out (.ret ⟨expand 19 0 [4] [(.int .i64 x.2)], [(.var 1 (.rv [(.map 1)])), (.map 2 (.fl m16))], 2, []⟩)) (.out (.exit 0 ⟨expand 19 0 [] [], [(.var 1 (.rv [(.map 1)])), (.map 2 (.fl m16))], 2, []⟩)))
def slices_IndexFunc_2int2int_impl_Board_merged_f2_ls2 (F : Nat) : LoopS := ⟨19, [0, 1, 7, 8], [], [], [], [4], [], [], fun vals mem np killed => match vals, mem, np, killed with
  | [(.rr 2 s0), (.fn 39 [] [(.ptr 0 0 0 1)]), (.int .i64 t74), (.int .i64 t85)], [(.var 1 (.rv [(.map 1)])), (.map 2 (.fl m16))], 2, [] => .br (slices_IndexFunc_2int2int_impl_Board_merged_f2_l2 F s0 t74 m16 t85).isSome (slices_IndexFunc_2int2int_impl_Board_merged_f2_o2 s0 t74 m16 ((slices_IndexFunc_2int2int_impl_Board_merged_f2_l2 F s0 t74 m16 t85).getD default)) .fail
  | _, _, _, _ => .fail⟩
theorem slices_IndexFunc_2int2int_impl_Board_merged_f2_step2 (F : Nat) (s0 : List (List Int)) (t74 : Int) (m16 : List (List Int × Bool)) (t85 : Int) {R : Type} (k : Out → Option R) : stepS tt (slices_IndexFunc_2int2int_impl_Board_merged_f2_tab F) (slices_IndexFunc_2int2int_impl_Board_merged_f2_LS0 F) 70 (slices_IndexFunc_2int2int_impl_Board_merged_f2_ls2 F) (loopAt 2 (bodyOf Try.f53)) (slices_IndexFunc_2int2int_impl_Board_merged_f2_st2 s0 t74 m16 t85) k = slices_IndexFunc_2int2int_impl_Board_merged_f2_s2 F s0 t74 m16 R t85 (fun s => k (.norm (slices_IndexFunc_2int2int_impl_Board_merged_f2_st2 s0 t74 m16 s))) (fun x => (slices_IndexFunc_2int2int_impl_Board_merged_f2_o2 s0 t74 m16 x).run k) := by kernel_rfl
theorem slices_IndexFunc_2int2int_impl_Board_merged_f2_iter2 (F : Nat) (s0 : List (List Int)) (t74 : Int) (m16 : List (List Int × Bool)) {R : Type} (k : Out → Option R) : ∀ (n : Nat) (t85 : Int), iterS tt (slices_IndexFunc_2int2int_impl_Board_merged_f2_tab F) (slices_IndexFunc_2int2int_impl_Board_merged_f2_LS0 F) 70 (slices_IndexFunc_2int2int_impl_Board_merged_f2_ls2 F) (loopAt 2 (bodyOf Try.f53)) n (slices_IndexFunc_2int2int_impl_Board_merged_f2_st2 s0 t74 m16 t85) k = loopC (slices_IndexFunc_2int2int_impl_Board_merged_f2_s2 F s0 t74 m16) n t85 (fun x => (slices_IndexFunc_2int2int_impl_Board_merged_f2_o2 s0 t74 m16 x).run k)
  | 0, t85 => rfl
  | n + 1, t85 => (iterS_succ tt (slices_IndexFunc_2int2int_impl_Board_merged_f2_tab F) (slices_IndexFunc_2int2int_impl_Board_merged_f2_LS0 F) 70 (slices_IndexFunc_2int2int_impl_Board_merged_f2_ls2 F) (loopAt 2 (bodyOf Try.f53)) n (slices_IndexFunc_2int2int_impl_Board_merged_f2_st2 s0 t74 m16 t85) k).trans ((slices_IndexFunc_2int2int_impl_Board_merged_f2_step2 F s0 t74 m16 t85 (nextK (iterS tt (slices_IndexFunc_2int2int_impl_Board_merged_f2_tab F) (slices_IndexFunc_2int2int_impl_Board_merged_f2_LS0 F) 70 (slices_IndexFunc_2int2int_impl_Board_merged_f2_ls2 F) (loopAt 2 (bodyOf Try.f53)) n) k)).trans (congrArg (fun kn => slices_IndexFunc_2int2int_impl_Board_merged_f2_s2 F s0 t74 m16 R t85 kn _) (funext (fun t85 => slices_IndexFunc_2int2int_impl_Board_merged_f2_iter2 F s0 t74 m16 k n t85))))
theorem slices_IndexFunc_2int2int_impl_Board_merged_f2_lok2 (F : Nat) : LoopOK Try.prog (loopAt 2 (bodyOf Try.f53)) (slices_IndexFunc_2int2int_impl_Board_merged_f2_ls2 F) := by
  refine loopOK_of mixed ttok deep (slices_IndexFunc_2int2int_impl_Board_merged_f2_tabok F) (loopsOK_at (slices_IndexFunc_2int2int_impl_Board_merged_f2_lsok0 F) 2) (fuel := 70) fun R vals mem np killed k x h => ?_
  simp only [slices_IndexFunc_2int2int_impl_Board_merged_f2_ls2] at h
  split at h
  · rename_i s0 t74 t85 m16
    simp only [GT.run] at h
    have hc := (cond_noneL h).1
    replace h := (cond_noneL h).2
    refine ⟨F, (slices_IndexFunc_2int2int_impl_Board_merged_f2_iter2 F s0 t74 m16 k F t85).trans ((loopC_use (slices_IndexFunc_2int2int_impl_Board_merged_f2_s2_nat F s0 t74 m16) hc _).trans h)⟩
  · simp only [GT.run] at h
    cases h
noncomputable def slices_IndexFunc_2int2int_impl_Board_merged_f2_LS1 (F : Nat) : LT := (2, slices_IndexFunc_2int2int_impl_Board_merged_f2_ls2 F) :: slices_IndexFunc_2int2int_impl_Board_merged_f2_LS0 F
theorem slices_IndexFunc_2int2int_impl_Board_merged_f2_lsok1 (F : Nat) : LoopsOK Try.prog (slices_IndexFunc_2int2int_impl_Board_merged_f2_LS1 F) (bodyOf Try.f53) := loopsOK_cons slices_IndexFunc_2int2int_impl_Board_merged_f2_keys (slices_IndexFunc_2int2int_impl_Board_merged_f2_lok2 F) (slices_IndexFunc_2int2int_impl_Board_merged_f2_lsok0 F)
theorem slices_IndexFunc_2int2int_impl_Board_merged_f2_run (F : Nat) (s0 : List (List Int)) (m14 : List (List Int × Bool)) : runS tt (slices_IndexFunc_2int2int_impl_Board_merged_f2_tab F) (slices_IndexFunc_2int2int_impl_Board_merged_f2_LS1 F) [] [] Try.f53 (bodyOf Try.f53) 70 [(.rr 2 s0), (.fn 39 [] [(.ptr 0 0 0 1)])] [(.var 1 (.rv [(.map 1)])), (.map 2 (.fl m14))] = slices_IndexFunc_2int2int_impl_Board_merged_f2_c _ F s0 m14 (fun r => some ⟨(.int .i64 r), [(.var 1 (.rv [(.map 1)])), (.map 2 (.fl m14))], []⟩) := by kernel_rfl
def slices_IndexFunc_2int2int_impl_Board_merged_f2_ent (F : Nat) : Ent := ⟨[], .quiet, fun args mem => match args, mem with
  | [(.rr 2 s0), (.fn 39 [] [(.ptr 0 0 0 1)])], [(.var 1 (.rv [(.map 1)])), (.map 2 (.fl m14))] => some ((slices_IndexFunc_2int2int_impl_Board_merged_f2_p F s0 m14).isSome, ⟨(.int .i64 ((slices_IndexFunc_2int2int_impl_Board_merged_f2_p F s0 m14).getD default)), [], []⟩)
  | _, _ => none⟩
theorem slices_IndexFunc_2int2int_impl_Board_merged_f2_fok : FunOK Try.prog 53 := funOK Try.func53 (by kernel_rfl) rfl
theorem slices_IndexFunc_2int2int_impl_Board_merged_f2_meets (F : Nat) : Meets Try.prog 53 (slices_IndexFunc_2int2int_impl_Board_merged_f2_ent F) := by
  refine meets_of_runS mixed ttok deep (slices_IndexFunc_2int2int_impl_Board_merged_f2_tabok F) Try.func53 (body_some rfl) (slices_IndexFunc_2int2int_impl_Board_merged_f2_lsok1 F) fun args mem hfit ret h => ?_
  clear hfit
  simp only [slices_IndexFunc_2int2int_impl_Board_merged_f2_ent] at h
  split at h
  · rename_i s0 m14
    simp only [Option.some.injEq, Prod.mk.injEq] at h
    obtain ⟨hc, rfl⟩ := h
    exact ⟨[], [], 70, _, (slices_IndexFunc_2int2int_impl_Board_merged_f2_run F s0 m14).trans ((slices_IndexFunc_2int2int_impl_Board_merged_f2_cp _ F s0 m14 _).trans (bind_use hc _)), rfl, rfl, rfl⟩
  · cases h

/-! slices.DeleteFunc[[][2]int,[2]int] -/
noncomputable def slices_DeleteFunc_2int2int_impl_Board_merged_f2_tab (F : Nat) : Tab := [(53, (slices_IndexFunc_2int2int_impl_Board_merged_f2_ent F)), (39, (impl_Board_merged_f2_ent F))]
theorem slices_DeleteFunc_2int2int_impl_Board_merged_f2_tabok (F : Nat) : TabOK Try.prog (slices_DeleteFunc_2int2int_impl_Board_merged_f2_tab F) := (tab_cons (slices_IndexFunc_2int2int_impl_Board_merged_f2_meets F) slices_IndexFunc_2int2int_impl_Board_merged_f2_fok (tab_cons (impl_Board_merged_f2_meets F) impl_Board_merged_f2_fok tab_nil))
noncomputable def slices_DeleteFunc_2int2int_impl_Board_merged_f2_LS0 (F : Nat) : LT := []
theorem slices_DeleteFunc_2int2int_impl_Board_merged_f2_lsok0 (F : Nat) : LoopsOK Try.prog (slices_DeleteFunc_2int2int_impl_Board_merged_f2_LS0 F) (bodyOf Try.f37) := loopsOK_nil
theorem slices_DeleteFunc_2int2int_impl_Board_merged_f2_keys : keysOK (bodyOf Try.f37) = true := by kernel_rfl
def slices_DeleteFunc_2int2int_impl_Board_merged_f2_st5 (s1 : Nat) (m28 : List (List Int × Bool)) (i5 : Int) (j6 : Int) (s7 : List (List Int)) : St := ⟨expand 42 0 [0, 1, 5, 6] [(.sl 0 0 s1), (.fn 39 [] [(.ptr 1 0 0 1)]), (.int .i64 i5), (.int .i64 j6)], [(.vec 41 (.rr 2 s7)), (.var 1 (.rv [(.map 2)])), (.map 2 (.fl m28))], 3, []⟩
def slices_DeleteFunc_2int2int_impl_Board_merged_f2_o5 (s1 : Nat) (m28 : List (List Int × Bool)) (x : Int × List (List Int)) : GT := (.out (.exit 0 ⟨expand 42 0 [0, 5] [(.sl 0 0 s1), (.int .i64 x.1)], [(.vec 41 (.rr 2 x.2)), (.var 1 (.rv [(.map 2)])), (.map 2 (.fl m28))], 3, []⟩))
def slices_DeleteFunc_2int2int_impl_Board_merged_f2_ls5 (F : Nat) : LoopS := ⟨42, [0, 1, 5, 6], [], [0, 5], [], [4], [], [], fun vals mem np killed => match vals, mem, np, killed with
  | [(.sl 0 0 s1), (.fn 39 [] [(.ptr 1 0 0 1)]), (.int .i64 i5), (.int .i64 j6)], [(.vec 41 (.rr 2 s7)), (.var 1 (.rv [(.map 2)])), (.map 2 (.fl m28))], 3, [] => .br (slices_DeleteFunc_2int2int_impl_Board_merged_f2_l5 F s1 m28 i5 j6 s7).isSome (slices_DeleteFunc_2int2int_impl_Board_merged_f2_o5 s1 m28 ((slices_DeleteFunc_2int2int_impl_Board_merged_f2_l5 F s1 m28 i5 j6 s7).getD default)) .fail
  | _, _, _, _ => .fail⟩
theorem slices_DeleteFunc_2int2int_impl_Board_merged_f2_step5 (F : Nat) (s1 : Nat) (m28 : List (List Int × Bool)) (i5 : Int) (j6 : Int) (s7 : List (List Int)) {R : Type} (k : Out → Option R) : stepS tt (slices_DeleteFunc_2int2int_impl_Board_merged_f2_tab F) (slices_DeleteFunc_2int2int_impl_Board_merged_f2_LS0 F) 70 (slices_DeleteFunc_2int2int_impl_Board_merged_f2_ls5 F) (loopAt 5 (bodyOf Try.f37)) (slices_DeleteFunc_2int2int_impl_Board_merged_f2_st5 s1 m28 i5 j6 s7) k = slices_DeleteFunc_2int2int_impl_Board_merged_f2_s5 F s1 m28 R (i5, j6, s7) (fun s => k (.norm (slices_DeleteFunc_2int2int_impl_Board_merged_f2_st5 s1 m28 s.1 s.2.1 s.2.2))) (fun x => (slices_DeleteFunc_2int2int_impl_Board_merged_f2_o5 s1 m28 x).run k) := by kernel_rfl
theorem slices_DeleteFunc_2int2int_impl_Board_merged_f2_iter5 (F : Nat) (s1 : Nat) (m28 : List (List Int × Bool)) {R : Type} (k : Out → Option R) : ∀ (n : Nat) (i5 : Int) (j6 : Int) (s7 : List (List Int)), iterS tt (slices_DeleteFunc_2int2int_impl_Board_merged_f2_tab F) (slices_DeleteFunc_2int2int_impl_Board_merged_f2_LS0 F) 70 (slices_DeleteFunc_2int2int_impl_Board_merged_f2_ls5 F) (loopAt 5 (bodyOf Try.f37)) n (slices_DeleteFunc_2int2int_impl_Board_merged_f2_st5 s1 m28 i5 j6 s7) k = loopC (slices_DeleteFunc_2int2int_impl_Board_merged_f2_s5 F s1 m28) n (i5, j6, s7) (fun x => (slices_DeleteFunc_2int2int_impl_Board_merged_f2_o5 s1 m28 x).run k)
  | 0, i5, j6, s7 => rfl
  | n + 1, i5, j6, s7 => (iterS_succ tt (slices_DeleteFunc_2int2int_impl_Board_merged_f2_tab F) (slices_DeleteFunc_2int2int_impl_Board_merged_f2_LS0 F) 70 (slices_DeleteFunc_2int2int_impl_Board_merged_f2_ls5 F) (loopAt 5 (bodyOf Try.f37)) n (slices_DeleteFunc_2int2int_impl_Board_merged_f2_st5 s1 m28 i5 j6 s7) k).trans ((slices_DeleteFunc_2int2int_impl_Board_merged_f2_step5 F s1 m28 i5 j6 s7 (nextK (iterS tt (slices_DeleteFunc_2int2int_impl_Board_merged_f2_tab F) (slices_DeleteFunc_2int2int_impl_Board_merged_f2_LS0 F) 70 (slices_DeleteFunc_2int2int_impl_Board_merged_f2_ls5 F) (loopAt 5 (bodyOf Try.f37)) n) k)).trans (congrArg (fun kn => slices_DeleteFunc_2int2int_impl_Board_merged_f2_s5 F s1 m28 R (i5, j6, s7) kn _) (funext (fun ⟨i5, j6, s7⟩ => slices_DeleteFunc_2int2int_impl_Board_merged_f2_iter5 F s1 m28 k n i5 j6 s7))))
theorem slices_DeleteFunc_2int2int_impl_Board_merged_f2_lok5 (F : Nat) : LoopOK Try.prog (loopAt 5 (bodyOf Try.f37)) (slices_DeleteFunc_2int2int_impl_Board_merged_f2_ls5 F) := by
  refine loopOK_of mixed ttok deep (slices_DeleteFunc_2int2int_impl_Board_merged_f2_tabok F) (loopsOK_at (slices_DeleteFunc_2int2int_impl_Board_merged_f2_lsok0 F) 5) (fuel := 70) fun R vals mem np killed k x h => ?_
  simp only [slices_DeleteFunc_2int2int_impl_Board_merged_f2_ls5] at h
  split at h
  · rename_i s1 i5 j6 s7 m28
    simp only [GT.run] at h
    have hc := (cond_noneL h).1
    replace h := (cond_noneL h).2
    refine ⟨F, (slices_DeleteFunc_2int2int_impl_Board_merged_f2_iter5 F s1 m28 k F i5 j6 s7).trans ((loopC_use (slices_DeleteFunc_2int2int_impl_Board_merged_f2_s5_nat F s1 m28) hc _).trans h)⟩
  · simp only [GT.run] at h
    cases h
noncomputable def slices_DeleteFunc_2int2int_impl_Board_merged_f2_LS1 (F : Nat) : LT := (5, slices_DeleteFunc_2int2int_impl_Board_merged_f2_ls5 F) :: slices_DeleteFunc_2int2int_impl_Board_merged_f2_LS0 F
theorem slices_DeleteFunc_2int2int_impl_Board_merged_f2_lsok1 (F : Nat) : LoopsOK Try.prog (slices_DeleteFunc_2int2int_impl_Board_merged_f2_LS1 F) (bodyOf Try.f37) := loopsOK_cons slices_DeleteFunc_2int2int_impl_Board_merged_f2_keys (slices_DeleteFunc_2int2int_impl_Board_merged_f2_lok5 F) (slices_DeleteFunc_2int2int_impl_Board_merged_f2_lsok0 F)
theorem slices_DeleteFunc_2int2int_impl_Board_merged_f2_run (F : Nat) (s5 : List (List Int)) (m26 : List (List Int × Bool)) : runS tt (slices_DeleteFunc_2int2int_impl_Board_merged_f2_tab F) (slices_DeleteFunc_2int2int_impl_Board_merged_f2_LS1 F) [] [] Try.f37 (bodyOf Try.f37) 70 [(.sl 0 0 (List.length s5)), (.fn 39 [] [(.ptr 1 0 0 1)])] [(.vec 41 (.rr 2 s5)), (.var 1 (.rv [(.map 2)])), (.map 2 (.fl m26))] = slices_DeleteFunc_2int2int_impl_Board_merged_f2_c _ F s5 m26 (fun r => some ⟨(.sl 0 0 r.1), [(.vec 41 (.rr 2 r.2)), (.var 1 (.rv [(.map 2)])), (.map 2 (.fl m26))], []⟩) := by kernel_rfl
def slices_DeleteFunc_2int2int_impl_Board_merged_f2_ent (F : Nat) : Ent := ⟨[true], .loud, fun args mem => match args, mem with
  | [(.sl 0 0 q_s1), (.fn 39 [] [(.ptr 1 0 0 1)])], [(.vec 41 (.rr 2 s5)), (.var 1 (.rv [(.map 2)])), (.map 2 (.fl m26))] => some (((Nat.beq q_s1 (List.length s5)) && (slices_DeleteFunc_2int2int_impl_Board_merged_f2_p F s5 m26).isSome), ⟨(.sl 0 0 ((slices_DeleteFunc_2int2int_impl_Board_merged_f2_p F s5 m26).getD default).1), [(.vec 41 (.rr 2 ((slices_DeleteFunc_2int2int_impl_Board_merged_f2_p F s5 m26).getD default).2)), (.var 1 (.rv [(.map 2)])), (.map 2 (.fl m26))], []⟩)
  | _, _ => none⟩
theorem slices_DeleteFunc_2int2int_impl_Board_merged_f2_fok : FunOK Try.prog 37 := funOK Try.func37 (by kernel_rfl) rfl
theorem slices_DeleteFunc_2int2int_impl_Board_merged_f2_meets (F : Nat) : Meets Try.prog 37 (slices_DeleteFunc_2int2int_impl_Board_merged_f2_ent F) := by
  refine meets_of_runS mixed ttok deep (slices_DeleteFunc_2int2int_impl_Board_merged_f2_tabok F) Try.func37 (body_some rfl) (slices_DeleteFunc_2int2int_impl_Board_merged_f2_lsok1 F) fun args mem hfit ret h => ?_
  clear hfit
  simp only [slices_DeleteFunc_2int2int_impl_Board_merged_f2_ent] at h
  split at h
  · rename_i q_s1 s5 m26
    simp only [Option.some.injEq, Prod.mk.injEq] at h
    obtain ⟨hc, rfl⟩ := h
    have hg := (and_split hc).1
    replace hc := (and_split hc).2
    obtain rfl := nbeq_nat hg
    exact ⟨[], [], 70, _, (slices_DeleteFunc_2int2int_impl_Board_merged_f2_run F s5 m26).trans ((slices_DeleteFunc_2int2int_impl_Board_merged_f2_cp _ F s5 m26 _).trans (bind_use hc _)), rfl, rfl, rfl⟩
  · cases h

/-! (loop.example/g01194/impl.Board).merged -/
noncomputable def impl_Board_merged_tab (F : Nat) : Tab := [(26, (impl_IsBoard_ent F)), (27, (impl_isDirection_ent F)), (28, (impl_Board_countBefore_ent F)), (29, (impl_Board_linesBefore_ent F)), (30, (impl_Board_slides_ent F)), (31, (impl_Board_line_ent F)), (33, (slices_Clone_4int4int_ent F)), (32, (slices_DeleteFunc_4int4int_impl_Board_merged_f1_ent F)), (35, (impl_slideRow_ent F)), (36, (impl_lineCell_ent F)), (38, (impl_cells_ent F)), (37, (slices_DeleteFunc_2int2int_impl_Board_merged_f2_ent F))]
theorem impl_Board_merged_tabok (F : Nat) : TabOK Try.prog (impl_Board_merged_tab F) := (tab_cons (impl_IsBoard_meets F) impl_IsBoard_fok (tab_cons (impl_isDirection_meets F) impl_isDirection_fok (tab_cons (impl_Board_countBefore_meets F) impl_Board_countBefore_fok (tab_cons (impl_Board_linesBefore_meets F) impl_Board_linesBefore_fok (tab_cons (impl_Board_slides_meets F) impl_Board_slides_fok (tab_cons (impl_Board_line_meets F) impl_Board_line_fok (tab_cons (slices_Clone_4int4int_meets F) slices_Clone_4int4int_fok (tab_cons (slices_DeleteFunc_4int4int_impl_Board_merged_f1_meets F) slices_DeleteFunc_4int4int_impl_Board_merged_f1_fok (tab_cons (impl_slideRow_meets F) impl_slideRow_fok (tab_cons (impl_lineCell_meets F) impl_lineCell_fok (tab_cons (impl_cells_meets F) impl_cells_fok (tab_cons (slices_DeleteFunc_2int2int_impl_Board_merged_f2_meets F) slices_DeleteFunc_2int2int_impl_Board_merged_f2_fok tab_nil))))))))))))
noncomputable def impl_Board_merged_LS0 (F : Nat) : LT := []
theorem impl_Board_merged_lsok0 (F : Nat) : LoopsOK Try.prog (impl_Board_merged_LS0 F) (bodyOf Try.f18) := loopsOK_nil
theorem impl_Board_merged_keys : keysOK (bodyOf Try.f18) = true := by kernel_rfl
def impl_Board_merged_st5 (direction0 : Int) (all1 : Bool) (t419 : List (List Int)) (t4110 : List (List Int)) (t4111 : List (List Int)) (t4112 : List (List Int)) (b14 : List Int) (lines15 : List (List Int)) (lines16 : List (List Int)) (lines17 : List (List Int)) (lines18 : List (List Int)) (other8 : Int) (t4213 : Int) : St := ⟨expand 124 0 [1, 2, 3, 8, 9, 41, 42] [(.int .i64 direction0), (.bool all1), (.ptr 0 0 0 16), (.ptr 1 0 0 4), (.int .i64 other8), (.agg [(.rr 4 t419), (.rr 4 t4110), (.rr 4 t4111), (.rr 4 t4112)]), (.int .i64 t4213)], [(.var 16 (.ri .i64 b14)), (.var 4 (.rv [(.rr 4 lines15), (.rr 4 lines16), (.rr 4 lines17), (.rr 4 lines18)]))], 0, []⟩
def impl_Board_merged_o5 (direction0 : Int) (all1 : Bool) (t419 : List (List Int)) (t4110 : List (List Int)) (t4111 : List (List Int)) (t4112 : List (List Int)) (b14 : List Int) (lines15 : List (List Int)) (lines16 : List (List Int)) (lines17 : List (List Int)) (lines18 : List (List Int)) (x : Int) : GT := (.out (.exit 0 ⟨expand 124 0 [1, 2, 3, 8, 9] [(.int .i64 direction0), (.bool all1), (.ptr 0 0 0 16), (.ptr 1 0 0 4), (.int .i64 x)], [(.var 16 (.ri .i64 b14)), (.var 4 (.rv [(.rr 4 lines15), (.rr 4 lines16), (.rr 4 lines17), (.rr 4 lines18)]))], 0, []⟩))
def impl_Board_merged_ls5 (F : Nat) : LoopS := ⟨124, [1, 2, 3, 8, 9, 41, 42], [], [1, 2, 3, 8, 9], [], [6, 7], [], [], fun vals mem np killed => match vals, mem, np, killed with
  | [(.int .i64 direction0), (.bool all1), (.ptr 0 0 0 16), (.ptr 1 0 0 4), (.int .i64 other8), (.agg [(.rr 4 t419), (.rr 4 t4110), (.rr 4 t4111), (.rr 4 t4112)]), (.int .i64 t4213)], [(.var 16 (.ri .i64 b14)), (.var 4 (.rv [(.rr 4 lines15), (.rr 4 lines16), (.rr 4 lines17), (.rr 4 lines18)]))], 0, [] => .br (impl_Board_merged_l5 F direction0 all1 t419 t4110 t4111 t4112 b14 lines15 lines16 lines17 lines18 other8 t4213).isSome (impl_Board_merged_o5 direction0 all1 t419 t4110 t4111 t4112 b14 lines15 lines16 lines17 lines18 ((impl_Board_merged_l5 F direction0 all1 t419 t4110 t4111 t4112 b14 lines15 lines16 lines17 lines18 other8 t4213).getD default)) .fail
  | _, _, _, _ => .fail⟩
theorem impl_Board_merged_step5 (F : Nat) (direction0 : Int) (all1 : Bool) (t419 : List (List Int)) (t4110 : List (List Int)) (t4111 : List (List Int)) (t4112 : List (List Int)) (b14 : List Int) (lines15 : List (List Int)) (lines16 : List (List Int)) (lines17 : List (List Int)) (lines18 : List (List Int)) (other8 : Int) (t4213 : Int) {R : Type} (k : Out → Option R) : stepS tt (impl_Board_merged_tab F) (impl_Board_merged_LS0 F) 70 (impl_Board_merged_ls5 F) (loopAt 5 (bodyOf Try.f18)) (impl_Board_merged_st5 direction0 all1 t419 t4110 t4111 t4112 b14 lines15 lines16 lines17 lines18 other8 t4213) k = impl_Board_merged_s5 F direction0 all1 t419 t4110 t4111 t4112 b14 lines15 lines16 lines17 lines18 R (other8, t4213) (fun s => k (.norm (impl_Board_merged_st5 direction0 all1 t419 t4110 t4111 t4112 b14 lines15 lines16 lines17 lines18 s.1 s.2))) (fun x => (impl_Board_merged_o5 direction0 all1 t419 t4110 t4111 t4112 b14 lines15 lines16 lines17 lines18 x).run k) := by kernel_rfl
theorem impl_Board_merged_iter5 (F : Nat) (direction0 : Int) (all1 : Bool) (t419 : List (List Int)) (t4110 : List (List Int)) (t4111 : List (List Int)) (t4112 : List (List Int)) (b14 : List Int) (lines15 : List (List Int)) (lines16 : List (List Int)) (lines17 : List (List Int)) (lines18 : List (List Int)) {R : Type} (k : Out → Option R) : ∀ (n : Nat) (other8 : Int) (t4213 : Int), iterS tt (impl_Board_merged_tab F) (impl_Board_merged_LS0 F) 70 (impl_Board_merged_ls5 F) (loopAt 5 (bodyOf Try.f18)) n (impl_Board_merged_st5 direction0 all1 t419 t4110 t4111 t4112 b14 lines15 lines16 lines17 lines18 other8 t4213) k = loopC (impl_Board_merged_s5 F direction0 all1 t419 t4110 t4111 t4112 b14 lines15 lines16 lines17 lines18) n (other8, t4213) (fun x => (impl_Board_merged_o5 direction0 all1 t419 t4110 t4111 t4112 b14 lines15 lines16 lines17 lines18 x).run k)
  | 0, other8, t4213 => rfl
  | n + 1, other8, t4213 => (iterS_succ tt (impl_Board_merged_tab F) (impl_Board_merged_LS0 F) 70 (impl_Board_merged_ls5 F) (loopAt 5 (bodyOf Try.f18)) n (impl_Board_merged_st5 direction0 all1 t419 t4110 t4111 t4112 b14 lines15 lines16 lines17 lines18 other8 t4213) k).trans ((impl_Board_merged_step5 F direction0 all1 t419 t4110 t4111 t4112 b14 lines15 lines16 lines17 lines18 other8 t4213 (nextK (iterS tt (impl_Board_merged_tab F) (impl_Board_merged_LS0 F) 70 (impl_Board_merged_ls5 F) (loopAt 5 (bodyOf Try.f18)) n) k)).trans (congrArg (fun kn => impl_Board_merged_s5 F direction0 all1 t419 t4110 t4111 t4112 b14 lines15 lines16 lines17 lines18 R (other8, t4213) kn _) (funext (fun ⟨other8, t4213⟩ => impl_Board_merged_iter5 F direction0 all1 t419 t4110 t4111 t4112 b14 lines15 lines16 lines17 lines18 k n other8 t4213))))
theorem impl_Board_merged_lok5 (F : Nat) : LoopOK Try.prog (loopAt 5 (bodyOf Try.f18)) (impl_Board_merged_ls5 F) := by
  refine loopOK_of mixed ttok deep (impl_Board_merged_tabok F) (loopsOK_at (impl_Board_merged_lsok0 F) 5) (fuel := 70) fun R vals mem np killed k x h => ?_
  simp only [impl_Board_merged_ls5] at h
  split at h
  · rename_i direction0 all1 other8 t419 t4110 t4111 t4112 t4213 b14 lines15 lines16 lines17 lines18
    simp only [GT.run] at h
    have hc := (cond_noneL h).1
    replace h := (cond_noneL h).2
    refine ⟨F, (impl_Board_merged_iter5 F direction0 all1 t419 t4110 t4111 t4112 b14 lines15 lines16 lines17 lines18 k F other8 t4213).trans ((loopC_use (impl_Board_merged_s5_nat F direction0 all1 t419 t4110 t4111 t4112 b14 lines15 lines16 lines17 lines18) hc _).trans h)⟩
  · simp only [GT.run] at h
    cases h
noncomputable def impl_Board_merged_LS1 (F : Nat) : LT := (5, impl_Board_merged_ls5 F) :: impl_Board_merged_LS0 F
theorem impl_Board_merged_lsok1 (F : Nat) : LoopsOK Try.prog (impl_Board_merged_LS1 F) (bodyOf Try.f18) := loopsOK_cons impl_Board_merged_keys (impl_Board_merged_lok5 F) (impl_Board_merged_lsok0 F)
def impl_Board_merged_st22 (direction0 : Int) (all1 : Bool) (other5 : Int) (stays6 : Bool) (i10 : Int) (rows11 : List (List Int)) (k12 : Int) (t5814 : List (List Int)) (t5815 : List (List Int)) (t5816 : List (List Int)) (t5817 : List (List Int)) (t5918 : Int) (t8119 : Int) (t8420 : List (List Int)) (t8521 : Int) (b23 : List Int) (m224 : List (List Int × Bool)) (count13 : Int) (t8622 : Int) : St := ⟨expand 124 0 [1, 2, 3, 9, 12, 13, 14, 15, 17, 18, 58, 59, 81, 84, 85, 86] [(.int .i64 direction0), (.bool all1), (.ptr 0 0 0 16), (.int .i64 other5), (.bool stays6), (.ptr 1 0 0 1), (.int .i64 i10), (.rr 4 rows11), (.int .i64 k12), (.int .i64 count13), (.agg [(.rr 4 t5814), (.rr 4 t5815), (.rr 4 t5816), (.rr 4 t5817)]), (.int .i64 t5918), (.int .i64 t8119), (.rr 4 t8420), (.int .i64 t8521), (.int .i64 t8622)], [(.var 16 (.ri .i64 b23)), (.var 1 (.rv [(.map 2)])), (.map 2 (.fl m224))], 0, []⟩
def impl_Board_merged_o22 (direction0 : Int) (all1 : Bool) (other5 : Int) (stays6 : Bool) (i10 : Int) (rows11 : List (List Int)) (k12 : Int) (t5814 : List (List Int)) (t5815 : List (List Int)) (t5816 : List (List Int)) (t5817 : List (List Int)) (t5918 : Int) (t8119 : Int) (t8420 : List (List Int)) (t8521 : Int) (b23 : List Int) (m224 : List (List Int × Bool)) (x : Int) : GT := (.out (.exit 6 ⟨expand 124 0 [1, 2, 3, 9, 12, 13, 14, 15, 17, 18, 58, 59, 81] [(.int .i64 direction0), (.bool all1), (.ptr 0 0 0 16), (.int .i64 other5), (.bool stays6), (.ptr 1 0 0 1), (.int .i64 i10), (.rr 4 rows11), (.int .i64 k12), (.int .i64 x), (.agg [(.rr 4 t5814), (.rr 4 t5815), (.rr 4 t5816), (.rr 4 t5817)]), (.int .i64 t5918), (.int .i64 t8119)], [(.var 16 (.ri .i64 b23)), (.var 1 (.rv [(.map 2)])), (.map 2 (.fl m224))], 0, []⟩))
def impl_Board_merged_ls22 (F : Nat) : LoopS := ⟨124, [1, 2, 3, 9, 12, 13, 14, 15, 17, 18, 58, 59, 81, 84, 85, 86], [], [1, 2, 3, 9, 12, 13, 14, 15, 17, 18, 58, 59, 81], [], [6, 7], [], [], fun vals mem np killed => match vals, mem, np, killed with
  | [(.int .i64 direction0), (.bool all1), (.ptr 0 0 0 16), (.int .i64 other5), (.bool stays6), (.ptr 1 0 0 1), (.int .i64 i10), (.rr 4 rows11), (.int .i64 k12), (.int .i64 count13), (.agg [(.rr 4 t5814), (.rr 4 t5815), (.rr 4 t5816), (.rr 4 t5817)]), (.int .i64 t5918), (.int .i64 t8119), (.rr 4 t8420), (.int .i64 t8521), (.int .i64 t8622)], [(.var 16 (.ri .i64 b23)), (.var 1 (.rv [(.map 2)])), (.map 2 (.fl m224))], 0, [] => .br (impl_Board_merged_l22 F direction0 all1 other5 stays6 i10 rows11 k12 t5814 t5815 t5816 t5817 t5918 t8119 t8420 t8521 b23 m224 count13 t8622).isSome (impl_Board_merged_o22 direction0 all1 other5 stays6 i10 rows11 k12 t5814 t5815 t5816 t5817 t5918 t8119 t8420 t8521 b23 m224 ((impl_Board_merged_l22 F direction0 all1 other5 stays6 i10 rows11 k12 t5814 t5815 t5816 t5817 t5918 t8119 t8420 t8521 b23 m224 count13 t8622).getD default)) .fail
  | _, _, _, _ => .fail⟩
theorem impl_Board_merged_step22 (F : Nat) (direction0 : Int) (all1 : Bool) (other5 : Int) (stays6 : Bool) (i10 : Int) (rows11 : List (List Int)) (k12 : Int) (t5814 : List (List Int)) (t5815 : List (List Int)) (t5816 : List (List Int)) (t5817 : List (List Int)) (t5918 : Int) (t8119 : Int) (t8420 : List (List Int)) (t8521 : Int) (b23 : List Int) (m224 : List (List Int × Bool)) (count13 : Int) (t8622 : Int) {R : Type} (k : Out → Option R) : stepS tt (impl_Board_merged_tab F) (impl_Board_merged_LS1 F) 70 (impl_Board_merged_ls22 F) (loopAt 22 (bodyOf Try.f18)) (impl_Board_merged_st22 direction0 all1 other5 stays6 i10 rows11 k12 t5814 t5815 t5816 t5817 t5918 t8119 t8420 t8521 b23 m224 count13 t8622) k = impl_Board_merged_s22 F direction0 all1 other5 stays6 i10 rows11 k12 t5814 t5815 t5816 t5817 t5918 t8119 t8420 t8521 b23 m224 R (count13, t8622) (fun s => k (.norm (impl_Board_merged_st22 direction0 all1 other5 stays6 i10 rows11 k12 t5814 t5815 t5816 t5817 t5918 t8119 t8420 t8521 b23 m224 s.1 s.2))) (fun x => (impl_Board_merged_o22 direction0 all1 other5 stays6 i10 rows11 k12 t5814 t5815 t5816 t5817 t5918 t8119 t8420 t8521 b23 m224 x).run k) := by kernel_rfl
theorem impl_Board_merged_iter22 (F : Nat) (direction0 : Int) (all1 : Bool) (other5 : Int) (stays6 : Bool) (i10 : Int) (rows11 : List (List Int)) (k12 : Int) (t5814 : List (List Int)) (t5815 : List (List Int)) (t5816 : List (List Int)) (t5817 : List (List Int)) (t5918 : Int) (t8119 : Int) (t8420 : List (List Int)) (t8521 : Int) (b23 : List Int) (m224 : List (List Int × Bool)) {R : Type} (k : Out → Option R) : ∀ (n : Nat) (count13 : Int) (t8622 : Int), iterS tt (impl_Board_merged_tab F) (impl_Board_merged_LS1 F) 70 (impl_Board_merged_ls22 F) (loopAt 22 (bodyOf Try.f18)) n (impl_Board_merged_st22 direction0 all1 other5 stays6 i10 rows11 k12 t5814 t5815 t5816 t5817 t5918 t8119 t8420 t8521 b23 m224 count13 t8622) k = loopC (impl_Board_merged_s22 F direction0 all1 other5 stays6 i10 rows11 k12 t5814 t5815 t5816 t5817 t5918 t8119 t8420 t8521 b23 m224) n (count13, t8622) (fun x => (impl_Board_merged_o22 direction0 all1 other5 stays6 i10 rows11 k12 t5814 t5815 t5816 t5817 t5918 t8119 t8420 t8521 b23 m224 x).run k)
  | 0, count13, t8622 => rfl
  | n + 1, count13, t8622 => (iterS_succ tt (impl_Board_merged_tab F) (impl_Board_merged_LS1 F) 70 (impl_Board_merged_ls22 F) (loopAt 22 (bodyOf Try.f18)) n (impl_Board_merged_st22 direction0 all1 other5 stays6 i10 rows11 k12 t5814 t5815 t5816 t5817 t5918 t8119 t8420 t8521 b23 m224 count13 t8622) k).trans ((impl_Board_merged_step22 F direction0 all1 other5 stays6 i10 rows11 k12 t5814 t5815 t5816 t5817 t5918 t8119 t8420 t8521 b23 m224 count13 t8622 (nextK (iterS tt (impl_Board_merged_tab F) (impl_Board_merged_LS1 F) 70 (impl_Board_merged_ls22 F) (loopAt 22 (bodyOf Try.f18)) n) k)).trans (congrArg (fun kn => impl_Board_merged_s22 F direction0 all1 other5 stays6 i10 rows11 k12 t5814 t5815 t5816 t5817 t5918 t8119 t8420 t8521 b23 m224 R (count13, t8622) kn _) (funext (fun ⟨count13, t8622⟩ => impl_Board_merged_iter22 F direction0 all1 other5 stays6 i10 rows11 k12 t5814 t5815 t5816 t5817 t5918 t8119 t8420 t8521 b23 m224 k n count13 t8622))))
theorem impl_Board_merged_lok22 (F : Nat) : LoopOK Try.prog (loopAt 22 (bodyOf Try.f18)) (impl_Board_merged_ls22 F) := by
  refine loopOK_of mixed ttok deep (impl_Board_merged_tabok F) (loopsOK_at (impl_Board_merged_lsok1 F) 22) (fuel := 70) fun R vals mem np killed k x h => ?_
  simp only [impl_Board_merged_ls22] at h
  split at h
  · rename_i direction0 all1 other5 stays6 i10 rows11 k12 count13 t5814 t5815 t5816 t5817 t5918 t8119 t8420 t8521 t8622 b23 m224
    simp only [GT.run] at h
    have hc := (cond_noneL h).1
    replace h := (cond_noneL h).2
    refine ⟨F, (impl_Board_merged_iter22 F direction0 all1 other5 stays6 i10 rows11 k12 t5814 t5815 t5816 t5817 t5918 t8119 t8420 t8521 b23 m224 k F count13 t8622).trans ((loopC_use (impl_Board_merged_s22_nat F direction0 all1 other5 stays6 i10 rows11 k12 t5814 t5815 t5816 t5817 t5918 t8119 t8420 t8521 b23 m224) hc _).trans h)⟩
  · simp only [GT.run] at h
    cases h
noncomputable def impl_Board_merged_LS2 (F : Nat) : LT := (22, impl_Board_merged_ls22 F) :: impl_Board_merged_LS1 F
theorem impl_Board_merged_lsok2 (F : Nat) : LoopsOK Try.prog (impl_Board_merged_LS2 F) (bodyOf Try.f18) := loopsOK_cons impl_Board_merged_keys (impl_Board_merged_lok22 F) (impl_Board_merged_lsok1 F)
def impl_Board_merged_st18 (direction0 : Int) (all1 : Bool) (other5 : Int) (stays6 : Bool) (i10 : Int) (rows11 : List (List Int)) (t5812 : List (List Int)) (t5813 : List (List Int)) (t5814 : List (List Int)) (t5815 : List (List Int)) (t5916 : Int) (b18 : List Int) (t8117 : Int) (m219 : List (List Int × Bool)) : St := ⟨expand 124 0 [1, 2, 3, 9, 12, 13, 14, 15, 58, 59, 81] [(.int .i64 direction0), (.bool all1), (.ptr 0 0 0 16), (.int .i64 other5), (.bool stays6), (.ptr 1 0 0 1), (.int .i64 i10), (.rr 4 rows11), (.agg [(.rr 4 t5812), (.rr 4 t5813), (.rr 4 t5814), (.rr 4 t5815)]), (.int .i64 t5916), (.int .i64 t8117)], [(.var 16 (.ri .i64 b18)), (.var 1 (.rv [(.map 2)])), (.map 2 (.fl m219))], 0, []⟩
def impl_Board_merged_o18 (direction0 : Int) (all1 : Bool) (other5 : Int) (stays6 : Bool) (i10 : Int) (rows11 : List (List Int)) (t5812 : List (List Int)) (t5813 : List (List Int)) (t5814 : List (List Int)) (t5815 : List (List Int)) (t5916 : Int) (b18 : List Int) (x : List (List Int × Bool)) : GT := (.out (.exit 4 ⟨expand 124 0 [1, 2, 3, 9, 12, 13, 58, 59] [(.int .i64 direction0), (.bool all1), (.ptr 0 0 0 16), (.int .i64 other5), (.bool stays6), (.ptr 1 0 0 1), (.agg [(.rr 4 t5812), (.rr 4 t5813), (.rr 4 t5814), (.rr 4 t5815)]), (.int .i64 t5916)], [(.var 16 (.ri .i64 b18)), (.var 1 (.rv [(.map 2)])), (.map 2 (.fl x))], 0, []⟩))
def impl_Board_merged_ls18 (F : Nat) : LoopS := ⟨124, [1, 2, 3, 9, 12, 13, 14, 15, 58, 59, 81], [⟨15, 0, (.tup [])⟩], [1, 2, 3, 9, 12, 13, 58, 59], [], [6, 7], [], [], fun vals mem np killed => match vals, mem, np, killed with
  | [(.int .i64 direction0), (.bool all1), (.ptr 0 0 0 16), (.int .i64 other5), (.bool stays6), (.ptr 1 0 0 1), (.int .i64 i10), (.rr 4 rows11), (.agg [(.rr 4 t5812), (.rr 4 t5813), (.rr 4 t5814), (.rr 4 t5815)]), (.int .i64 t5916), (.int .i64 t8117)], [(.var 16 (.ri .i64 b18)), (.var 1 (.rv [(.map 2)])), (.map 2 (.fl m219))], 0, [] => .br (impl_Board_merged_l18 F direction0 all1 other5 stays6 i10 rows11 t5812 t5813 t5814 t5815 t5916 b18 t8117 m219).isSome (impl_Board_merged_o18 direction0 all1 other5 stays6 i10 rows11 t5812 t5813 t5814 t5815 t5916 b18 ((impl_Board_merged_l18 F direction0 all1 other5 stays6 i10 rows11 t5812 t5813 t5814 t5815 t5916 b18 t8117 m219).getD default)) .fail
  | _, _, _, _ => .fail⟩
theorem impl_Board_merged_step18 (F : Nat) (direction0 : Int) (all1 : Bool) (other5 : Int) (stays6 : Bool) (i10 : Int) (rows11 : List (List Int)) (t5812 : List (List Int)) (t5813 : List (List Int)) (t5814 : List (List Int)) (t5815 : List (List Int)) (t5916 : Int) (b18 : List Int) (t8117 : Int) (m219 : List (List Int × Bool)) {R : Type} (k : Out → Option R) : stepS tt (impl_Board_merged_tab F) (impl_Board_merged_LS2 F) 70 (impl_Board_merged_ls18 F) (loopAt 18 (bodyOf Try.f18)) (impl_Board_merged_st18 direction0 all1 other5 stays6 i10 rows11 t5812 t5813 t5814 t5815 t5916 b18 t8117 m219) k = impl_Board_merged_s18 F direction0 all1 other5 stays6 i10 rows11 t5812 t5813 t5814 t5815 t5916 b18 R (t8117, m219) (fun s => k (.norm (impl_Board_merged_st18 direction0 all1 other5 stays6 i10 rows11 t5812 t5813 t5814 t5815 t5916 b18 s.1 s.2))) (fun x => (impl_Board_merged_o18 direction0 all1 other5 stays6 i10 rows11 t5812 t5813 t5814 t5815 t5916 b18 x).run k) := by kernel_rfl
theorem impl_Board_merged_iter18 (F : Nat) (direction0 : Int) (all1 : Bool) (other5 : Int) (stays6 : Bool) (i10 : Int) (rows11 : List (List Int)) (t5812 : List (List Int)) (t5813 : List (List Int)) (t5814 : List (List Int)) (t5815 : List (List Int)) (t5916 : Int) (b18 : List Int) {R : Type} (k : Out → Option R) : ∀ (n : Nat) (t8117 : Int) (m219 : List (List Int × Bool)), iterS tt (impl_Board_merged_tab F) (impl_Board_merged_LS2 F) 70 (impl_Board_merged_ls18 F) (loopAt 18 (bodyOf Try.f18)) n (impl_Board_merged_st18 direction0 all1 other5 stays6 i10 rows11 t5812 t5813 t5814 t5815 t5916 b18 t8117 m219) k = loopC (impl_Board_merged_s18 F direction0 all1 other5 stays6 i10 rows11 t5812 t5813 t5814 t5815 t5916 b18) n (t8117, m219) (fun x => (impl_Board_merged_o18 direction0 all1 other5 stays6 i10 rows11 t5812 t5813 t5814 t5815 t5916 b18 x).run k)
  | 0, t8117, m219 => rfl
  | n + 1, t8117, m219 => (iterS_succ tt (impl_Board_merged_tab F) (impl_Board_merged_LS2 F) 70 (impl_Board_merged_ls18 F) (loopAt 18 (bodyOf Try.f18)) n (impl_Board_merged_st18 direction0 all1 other5 stays6 i10 rows11 t5812 t5813 t5814 t5815 t5916 b18 t8117 m219) k).trans ((impl_Board_merged_step18 F direction0 all1 other5 stays6 i10 rows11 t5812 t5813 t5814 t5815 t5916 b18 t8117 m219 (nextK (iterS tt (impl_Board_merged_tab F) (impl_Board_merged_LS2 F) 70 (impl_Board_merged_ls18 F) (loopAt 18 (bodyOf Try.f18)) n) k)).trans (congrArg (fun kn => impl_Board_merged_s18 F direction0 all1 other5 stays6 i10 rows11 t5812 t5813 t5814 t5815 t5916 b18 R (t8117, m219) kn _) (funext (fun ⟨t8117, m219⟩ => impl_Board_merged_iter18 F direction0 all1 other5 stays6 i10 rows11 t5812 t5813 t5814 t5815 t5916 b18 k n t8117 m219))))
theorem impl_Board_merged_lok18 (F : Nat) : LoopOK Try.prog (loopAt 18 (bodyOf Try.f18)) (impl_Board_merged_ls18 F) := by
  refine loopOK_of mixed ttok deep (impl_Board_merged_tabok F) (loopsOK_at (impl_Board_merged_lsok2 F) 18) (fuel := 70) fun R vals mem np killed k x h => ?_
  simp only [impl_Board_merged_ls18] at h
  split at h
  · rename_i direction0 all1 other5 stays6 i10 rows11 t5812 t5813 t5814 t5815 t5916 t8117 b18 m219
    simp only [GT.run] at h
    have hc := (cond_noneL h).1
    replace h := (cond_noneL h).2
    refine ⟨F, (impl_Board_merged_iter18 F direction0 all1 other5 stays6 i10 rows11 t5812 t5813 t5814 t5815 t5916 b18 k F t8117 m219).trans ((loopC_use (impl_Board_merged_s18_nat F direction0 all1 other5 stays6 i10 rows11 t5812 t5813 t5814 t5815 t5916 b18) hc _).trans h)⟩
  · simp only [GT.run] at h
    cases h
noncomputable def impl_Board_merged_LS3 (F : Nat) : LT := (18, impl_Board_merged_ls18 F) :: impl_Board_merged_LS2 F
theorem impl_Board_merged_lsok3 (F : Nat) : LoopsOK Try.prog (impl_Board_merged_LS3 F) (bodyOf Try.f18) := loopsOK_cons impl_Board_merged_keys (impl_Board_merged_lok18 F) (impl_Board_merged_lsok2 F)
def impl_Board_merged_st12 (direction0 : Int) (all1 : Bool) (other5 : Int) (stays6 : Bool) (t5810 : List (List Int)) (t5811 : List (List Int)) (t5812 : List (List Int)) (t5813 : List (List Int)) (b15 : List Int) (t5914 : Int) (m216 : List (List Int × Bool)) : St := ⟨expand 124 0 [1, 2, 3, 9, 12, 13, 58, 59] [(.int .i64 direction0), (.bool all1), (.ptr 0 0 0 16), (.int .i64 other5), (.bool stays6), (.ptr 1 0 0 1), (.agg [(.rr 4 t5810), (.rr 4 t5811), (.rr 4 t5812), (.rr 4 t5813)]), (.int .i64 t5914)], [(.var 16 (.ri .i64 b15)), (.var 1 (.rv [(.map 2)])), (.map 2 (.fl m216))], 0, []⟩
def impl_Board_merged_o12 (direction0 : Int) (all1 : Bool) (other5 : Int) (stays6 : Bool) (t5810 : List (List Int)) (t5811 : List (List Int)) (t5812 : List (List Int)) (t5813 : List (List Int)) (b15 : List Int) (x : List (List Int × Bool)) : GT := (.out (.exit 2 ⟨expand 124 0 [13] [(.ptr 0 0 0 1)], [(.var 1 (.rv [(.map 1)])), (.map 2 (.fl x))], 0, []⟩))
def impl_Board_merged_ls12 (F : Nat) : LoopS := ⟨124, [1, 2, 3, 9, 12, 13, 58, 59], [], [13], [], [6, 7], [], [], fun vals mem np killed => match vals, mem, np, killed with
  | [(.int .i64 direction0), (.bool all1), (.ptr 0 0 0 16), (.int .i64 other5), (.bool stays6), (.ptr 1 0 0 1), (.agg [(.rr 4 t5810), (.rr 4 t5811), (.rr 4 t5812), (.rr 4 t5813)]), (.int .i64 t5914)], [(.var 16 (.ri .i64 b15)), (.var 1 (.rv [(.map 2)])), (.map 2 (.fl m216))], 0, [] => .br (impl_Board_merged_l12 F direction0 all1 other5 stays6 t5810 t5811 t5812 t5813 b15 t5914 m216).isSome (impl_Board_merged_o12 direction0 all1 other5 stays6 t5810 t5811 t5812 t5813 b15 ((impl_Board_merged_l12 F direction0 all1 other5 stays6 t5810 t5811 t5812 t5813 b15 t5914 m216).getD default)) .fail
  | _, _, _, _ => .fail⟩
theorem impl_Board_merged_step12 (F : Nat) (direction0 : Int) (all1 : Bool) (other5 : Int) (stays6 : Bool) (t5810 : List (List Int)) (t5811 : List (List Int)) (t5812 : List (List Int)) (t5813 : List (List Int)) (b15 : List Int) (t5914 : Int) (m216 : List (List Int × Bool)) {R : Type} (k : Out → Option R) : stepS tt (impl_Board_merged_tab F) (impl_Board_merged_LS3 F) 70 (impl_Board_merged_ls12 F) (loopAt 12 (bodyOf Try.f18)) (impl_Board_merged_st12 direction0 all1 other5 stays6 t5810 t5811 t5812 t5813 b15 t5914 m216) k = impl_Board_merged_s12 F direction0 all1 other5 stays6 t5810 t5811 t5812 t5813 b15 R (t5914, m216) (fun s => k (.norm (impl_Board_merged_st12 direction0 all1 other5 stays6 t5810 t5811 t5812 t5813 b15 s.1 s.2))) (fun x => (impl_Board_merged_o12 direction0 all1 other5 stays6 t5810 t5811 t5812 t5813 b15 x).run k) := by kernel_rfl
theorem impl_Board_merged_iter12 (F : Nat) (direction0 : Int) (all1 : Bool) (other5 : Int) (stays6 : Bool) (t5810 : List (List Int)) (t5811 : List (List Int)) (t5812 : List (List Int)) (t5813 : List (List Int)) (b15 : List Int) {R : Type} (k : Out → Option R) : ∀ (n : Nat) (t5914 : Int) (m216 : List (List Int × Bool)), iterS tt (impl_Board_merged_tab F) (impl_Board_merged_LS3 F) 70 (impl_Board_merged_ls12 F) (loopAt 12 (bodyOf Try.f18)) n (impl_Board_merged_st12 direction0 all1 other5 stays6 t5810 t5811 t5812 t5813 b15 t5914 m216) k = loopC (impl_Board_merged_s12 F direction0 all1 other5 stays6 t5810 t5811 t5812 t5813 b15) n (t5914, m216) (fun x => (impl_Board_merged_o12 direction0 all1 other5 stays6 t5810 t5811 t5812 t5813 b15 x).run k)
  | 0, t5914, m216 => rfl
  | n + 1, t5914, m216 => (iterS_succ tt (impl_Board_merged_tab F) (impl_Board_merged_LS3 F) 70 (impl_Board_merged_ls12 F) (loopAt 12 (bodyOf Try.f18)) n (impl_Board_merged_st12 direction0 all1 other5 stays6 t5810 t5811 t5812 t5813 b15 t5914 m216) k).trans ((impl_Board_merged_step12 F direction0 all1 other5 stays6 t5810 t5811 t5812 t5813 b15 t5914 m216 (nextK (iterS tt (impl_Board_merged_tab F) (impl_Board_merged_LS3 F) 70 (impl_Board_merged_ls12 F) (loopAt 12 (bodyOf Try.f18)) n) k)).trans (congrArg (fun kn => impl_Board_merged_s12 F direction0 all1 other5 stays6 t5810 t5811 t5812 t5813 b15 R (t5914, m216) kn _) (funext (fun ⟨t5914, m216⟩ => impl_Board_merged_iter12 F direction0 all1 other5 stays6 t5810 t5811 t5812 t5813 b15 k n t5914 m216))))
theorem impl_Board_merged_lok12 (F : Nat) : LoopOK Try.prog (loopAt 12 (bodyOf Try.f18)) (impl_Board_merged_ls12 F) := by
  refine loopOK_of mixed ttok deep (impl_Board_merged_tabok F) (loopsOK_at (impl_Board_merged_lsok3 F) 12) (fuel := 70) fun R vals mem np killed k x h => ?_
  simp only [impl_Board_merged_ls12] at h
  split at h
  · rename_i direction0 all1 other5 stays6 t5810 t5811 t5812 t5813 t5914 b15 m216
    simp only [GT.run] at h
    have hc := (cond_noneL h).1
    replace h := (cond_noneL h).2
    refine ⟨F, (impl_Board_merged_iter12 F direction0 all1 other5 stays6 t5810 t5811 t5812 t5813 b15 k F t5914 m216).trans ((loopC_use (impl_Board_merged_s12_nat F direction0 all1 other5 stays6 t5810 t5811 t5812 t5813 b15) hc _).trans h)⟩
  · simp only [GT.run] at h
    cases h
noncomputable def impl_Board_merged_LS4 (F : Nat) : LT := (12, impl_Board_merged_ls12 F) :: impl_Board_merged_LS3 F
theorem impl_Board_merged_lsok4 (F : Nat) : LoopsOK Try.prog (impl_Board_merged_LS4 F) (bodyOf Try.f18) := loopsOK_cons impl_Board_merged_keys (impl_Board_merged_lok12 F) (impl_Board_merged_lsok3 F)
theorem impl_Board_merged_run (F : Nat) (b0 : List Int) (direction1 : Int) (all2 : Bool) : runS tt (impl_Board_merged_tab F) (impl_Board_merged_LS4 F) [⟨6, 41, (.rr 2 ([] : List (List Int)))⟩] [] Try.f18 (bodyOf Try.f18) 70 [(.ints 16 b0), (.int .i64 direction1), (.bool all2)] [] = impl_Board_merged_c _ F b0 direction1 all2 (fun r => some ⟨(.tup [(.sl 0 0 r.1), (.bool r.2.1)]), [(.vec 41 (.rr 2 r.2.2))], []⟩) := by kernel_rfl
def impl_Board_merged_ent (F : Nat) : Ent := ⟨[], .fresh, fun args mem => match args, mem with
  | [(.ints 16 b0), (.int .i64 direction1), (.bool all2)], [] => some ((impl_Board_merged_p F b0 direction1 all2).isSome, ⟨(.tup [(.sl 0 0 ((impl_Board_merged_p F b0 direction1 all2).getD default).1), (.bool ((impl_Board_merged_p F b0 direction1 all2).getD default).2.1)]), [(.vec 41 (.rr 2 ((impl_Board_merged_p F b0 direction1 all2).getD default).2.2))], []⟩)
  | _, _ => none⟩
theorem impl_Board_merged_fok : FunOK Try.prog 18 := funOK Try.func18 (by kernel_rfl) rfl
theorem impl_Board_merged_meets (F : Nat) : Meets Try.prog 18 (impl_Board_merged_ent F) := by
  refine meets_of_runS mixed ttok deep (impl_Board_merged_tabok F) Try.func18 (body_some rfl) (impl_Board_merged_lsok4 F) fun args mem hfit ret h => ?_
  clear hfit
  simp only [impl_Board_merged_ent] at h
  split at h
  · rename_i b0 direction1 all2
    simp only [Option.some.injEq, Prod.mk.injEq] at h
    obtain ⟨hc, rfl⟩ := h
    exact ⟨[⟨6, 41, (.rr 2 ([] : List (List Int)))⟩], [], 70, _, (impl_Board_merged_run F b0 direction1 all2).trans ((impl_Board_merged_cp _ F b0 direction1 all2 _).trans (bind_use hc _)), rfl, rfl, rfl⟩
  · cases h

/-! loop.example/g01194/impl.CanMerge -/
noncomputable def impl_CanMerge_tab (F : Nat) : Tab := [(18, (impl_Board_merged_ent F))]
theorem impl_CanMerge_tabok (F : Nat) : TabOK Try.prog (impl_CanMerge_tab F) := (tab_cons (impl_Board_merged_meets F) impl_Board_merged_fok tab_nil)
noncomputable def impl_CanMerge_LS0 (F : Nat) : LT := []
theorem impl_CanMerge_lsok0 (F : Nat) : LoopsOK Try.prog (impl_CanMerge_LS0 F) (bodyOf Try.f7) := loopsOK_nil
theorem impl_CanMerge_run (F : Nat) (b0 : List Int) (direction1 : Int) : runS tt (impl_CanMerge_tab F) (impl_CanMerge_LS0 F) [] [] Try.f7 (bodyOf Try.f7) 70 [(.ints 16 b0), (.int .i64 direction1)] [] = impl_CanMerge_c _ F b0 direction1 (fun r => some ⟨(.tup [(.sl 0 0 r.1), (.bool r.2.1)]), [(.vec 41 (.rr 2 r.2.2))], []⟩) := by kernel_rfl
def impl_CanMerge_ent (F : Nat) : Ent := ⟨[], .fresh, fun args mem => match args, mem with
  | [(.ints 16 b0), (.int .i64 direction1)], [] => some ((impl_CanMerge_p F b0 direction1).isSome, ⟨(.tup [(.sl 0 0 ((impl_CanMerge_p F b0 direction1).getD default).1), (.bool ((impl_CanMerge_p F b0 direction1).getD default).2.1)]), [(.vec 41 (.rr 2 ((impl_CanMerge_p F b0 direction1).getD default).2.2))], []⟩)
  | _, _ => none⟩
theorem impl_CanMerge_fok : FunOK Try.prog 7 := funOK Try.func7 (by kernel_rfl) rfl
theorem impl_CanMerge_meets (F : Nat) : Meets Try.prog 7 (impl_CanMerge_ent F) := by
  refine meets_of_runS mixed ttok deep (impl_CanMerge_tabok F) Try.func7 (body_some rfl) (impl_CanMerge_lsok0 F) fun args mem hfit ret h => ?_
  clear hfit
  simp only [impl_CanMerge_ent] at h
  split at h
  · rename_i b0 direction1
    simp only [Option.some.injEq, Prod.mk.injEq] at h
    obtain ⟨hc, rfl⟩ := h
    exact ⟨[], [], 70, _, (impl_CanMerge_run F b0 direction1).trans ((impl_CanMerge_cp _ F b0 direction1 _).trans (bind_use hc _)), rfl, rfl, rfl⟩
  · cases h

/-! loop.example/g01194/laws.eqIntA2 -/
noncomputable def laws_eqIntA2_tab (F : Nat) : Tab := []
theorem laws_eqIntA2_tabok (F : Nat) : TabOK Try.prog (laws_eqIntA2_tab F) := tab_nil
noncomputable def laws_eqIntA2_LS0 (F : Nat) : LT := []
theorem laws_eqIntA2_lsok0 (F : Nat) : LoopsOK Try.prog (laws_eqIntA2_LS0 F) (bodyOf Try.f19) := loopsOK_nil
theorem laws_eqIntA2_keys : keysOK (bodyOf Try.f19) = true := by kernel_rfl
def laws_eqIntA2_st2 (a7 : List Int) (b8 : List Int) (i6 : Int) : St := ⟨expand 17 0 [2, 3, 5] [(.ptr 0 0 0 2), (.ptr 1 0 0 2), (.int .i64 i6)], [(.var 2 (.ri .i64 a7)), (.var 2 (.ri .i64 b8))], 0, []⟩
def laws_eqIntA2_o2 (a7 : List Int) (b8 : List Int) (x : Bool) : GT := (.br x (.out (.ret ⟨expand 17 0 [4] [(.bool false)], [], 0, []⟩)) (.out (.exit 0 ⟨expand 17 0 [] [], [], 0, []⟩)))
def laws_eqIntA2_ls2 (F : Nat) : LoopS := ⟨17, [2, 3, 5], [], [], [], [4], [], [], fun vals mem np killed => match vals, mem, np, killed with
  | [(.ptr 0 0 0 2), (.ptr 1 0 0 2), (.int .i64 i6)], [(.var 2 (.ri .i64 a7)), (.var 2 (.ri .i64 b8))], 0, [] => .br (laws_eqIntA2_l2 F a7 b8 i6).isSome (laws_eqIntA2_o2 a7 b8 ((laws_eqIntA2_l2 F a7 b8 i6).getD default)) .fail
  | _, _, _, _ => .fail⟩
theorem laws_eqIntA2_step2 (F : Nat) (a7 : List Int) (b8 : List Int) (i6 : Int) {R : Type} (k : Out → Option R) : stepS tt (laws_eqIntA2_tab F) (laws_eqIntA2_LS0 F) 70 (laws_eqIntA2_ls2 F) (loopAt 2 (bodyOf Try.f19)) (laws_eqIntA2_st2 a7 b8 i6) k = laws_eqIntA2_s2 F a7 b8 R i6 (fun s => k (.norm (laws_eqIntA2_st2 a7 b8 s))) (fun x => (laws_eqIntA2_o2 a7 b8 x).run k) := by kernel_rfl
theorem laws_eqIntA2_iter2 (F : Nat) (a7 : List Int) (b8 : List Int) {R : Type} (k : Out → Option R) : ∀ (n : Nat) (i6 : Int), iterS tt (laws_eqIntA2_tab F) (laws_eqIntA2_LS0 F) 70 (laws_eqIntA2_ls2 F) (loopAt 2 (bodyOf Try.f19)) n (laws_eqIntA2_st2 a7 b8 i6) k = loopC (laws_eqIntA2_s2 F a7 b8) n i6 (fun x => (laws_eqIntA2_o2 a7 b8 x).run k)
  | 0, i6 => rfl
  | n + 1, i6 => (iterS_succ tt (laws_eqIntA2_tab F) (laws_eqIntA2_LS0 F) 70 (laws_eqIntA2_ls2 F) (loopAt 2 (bodyOf Try.f19)) n (laws_eqIntA2_st2 a7 b8 i6) k).trans ((laws_eqIntA2_step2 F a7 b8 i6 (nextK (iterS tt (laws_eqIntA2_tab F) (laws_eqIntA2_LS0 F) 70 (laws_eqIntA2_ls2 F) (loopAt 2 (bodyOf Try.f19)) n) k)).trans (congrArg (fun kn => laws_eqIntA2_s2 F a7 b8 R i6 kn _) (funext (fun i6 => laws_eqIntA2_iter2 F a7 b8 k n i6))))
theorem laws_eqIntA2_lok2 (F : Nat) : LoopOK Try.prog (loopAt 2 (bodyOf Try.f19)) (laws_eqIntA2_ls2 F) := by
  refine loopOK_of mixed ttok deep (laws_eqIntA2_tabok F) (loopsOK_at (laws_eqIntA2_lsok0 F) 2) (fuel := 70) fun R vals mem np killed k x h => ?_
  simp only [laws_eqIntA2_ls2] at h
  split at h
  · rename_i i6 a7 b8
    simp only [GT.run] at h
    have hc := (cond_noneL h).1
    replace h := (cond_noneL h).2
    refine ⟨F, (laws_eqIntA2_iter2 F a7 b8 k F i6).trans ((loopC_use (laws_eqIntA2_s2_nat F a7 b8) hc _).trans h)⟩
  · simp only [GT.run] at h
    cases h
noncomputable def laws_eqIntA2_LS1 (F : Nat) : LT := (2, laws_eqIntA2_ls2 F) :: laws_eqIntA2_LS0 F
theorem laws_eqIntA2_lsok1 (F : Nat) : LoopsOK Try.prog (laws_eqIntA2_LS1 F) (bodyOf Try.f19) := loopsOK_cons laws_eqIntA2_keys (laws_eqIntA2_lok2 F) (laws_eqIntA2_lsok0 F)
theorem laws_eqIntA2_run (F : Nat) (a0 : List Int) (b1 : List Int) : runS tt (laws_eqIntA2_tab F) (laws_eqIntA2_LS1 F) [] [] Try.f19 (bodyOf Try.f19) 70 [(.ints 2 a0), (.ints 2 b1)] [] = laws_eqIntA2_c _ F a0 b1 (fun r => some ⟨(.bool r), [], []⟩) := by kernel_rfl
def laws_eqIntA2_ent (F : Nat) : Ent := ⟨[], .quiet, fun args mem => match args, mem with
  | [(.ints 2 a0), (.ints 2 b1)], [] => some ((laws_eqIntA2_p F a0 b1).isSome, ⟨(.bool ((laws_eqIntA2_p F a0 b1).getD default)), [], []⟩)
  | _, _ => none⟩
theorem laws_eqIntA2_fok : FunOK Try.prog 19 := funOK Try.func19 (by kernel_rfl) rfl
theorem laws_eqIntA2_meets (F : Nat) : Meets Try.prog 19 (laws_eqIntA2_ent F) := by
  refine meets_of_runS mixed ttok deep (laws_eqIntA2_tabok F) Try.func19 (body_some rfl) (laws_eqIntA2_lsok1 F) fun args mem hfit ret h => ?_
  clear hfit
  simp only [laws_eqIntA2_ent] at h
  split at h
  · rename_i a0 b1
    simp only [Option.some.injEq, Prod.mk.injEq] at h
    obtain ⟨hc, rfl⟩ := h
    exact ⟨[], [], 70, _, (laws_eqIntA2_run F a0 b1).trans ((laws_eqIntA2_cp _ F a0 b1 _).trans (bind_use hc _)), rfl, rfl, rfl⟩
  · cases h

/-! loop.example/g01194/laws.eqIntA2S -/
noncomputable def laws_eqIntA2S_tab (F : Nat) : Tab := [(19, (laws_eqIntA2_ent F))]
theorem laws_eqIntA2S_tabok (F : Nat) : TabOK Try.prog (laws_eqIntA2S_tab F) := (tab_cons (laws_eqIntA2_meets F) laws_eqIntA2_fok tab_nil)
noncomputable def laws_eqIntA2S_LS0 (F : Nat) : LT := []
theorem laws_eqIntA2S_lsok0 (F : Nat) : LoopsOK Try.prog (laws_eqIntA2S_LS0 F) (bodyOf Try.f8) := loopsOK_nil
theorem laws_eqIntA2S_keys : keysOK (bodyOf Try.f8) = true := by kernel_rfl
def laws_eqIntA2S_st4 (a0 : List (List Int)) (b1 : List (List Int)) (i2 : Int) : St := ⟨expand 27 0 [0, 1, 5] [(.rr 2 a0), (.rr 2 b1), (.int .i64 i2)], [], 0, []⟩
def laws_eqIntA2S_o4 (a0 : List (List Int)) (b1 : List (List Int)) (x : Bool) : GT := (.br x (.out (.ret ⟨expand 27 0 [4] [(.bool false)], [], 0, []⟩)) (.out (.exit 0 ⟨expand 27 0 [] [], [], 0, []⟩)))
def laws_eqIntA2S_ls4 (F : Nat) : LoopS := ⟨27, [0, 1, 5], [], [], [], [4], [], [], fun vals mem np killed => match vals, mem, np, killed with
  | [(.rr 2 a0), (.rr 2 b1), (.int .i64 i2)], [], 0, [] => .br (laws_eqIntA2S_l4 F a0 b1 i2).isSome (laws_eqIntA2S_o4 a0 b1 ((laws_eqIntA2S_l4 F a0 b1 i2).getD default)) .fail
  | _, _, _, _ => .fail⟩
theorem laws_eqIntA2S_step4 (F : Nat) (a0 : List (List Int)) (b1 : List (List Int)) (i2 : Int) {R : Type} (k : Out → Option R) : stepS tt (laws_eqIntA2S_tab F) (laws_eqIntA2S_LS0 F) 70 (laws_eqIntA2S_ls4 F) (loopAt 4 (bodyOf Try.f8)) (laws_eqIntA2S_st4 a0 b1 i2) k = laws_eqIntA2S_s4 F a0 b1 R i2 (fun s => k (.norm (laws_eqIntA2S_st4 a0 b1 s))) (fun x => (laws_eqIntA2S_o4 a0 b1 x).run k) := by kernel_rfl
theorem laws_eqIntA2S_iter4 (F : Nat) (a0 : List (List Int)) (b1 : List (List Int)) {R : Type} (k : Out → Option R) : ∀ (n : Nat) (i2 : Int), iterS tt (laws_eqIntA2S_tab F) (laws_eqIntA2S_LS0 F) 70 (laws_eqIntA2S_ls4 F) (loopAt 4 (bodyOf Try.f8)) n (laws_eqIntA2S_st4 a0 b1 i2) k = loopC (laws_eqIntA2S_s4 F a0 b1) n i2 (fun x => (laws_eqIntA2S_o4 a0 b1 x).run k)
  | 0, i2 => rfl
  | n + 1, i2 => (iterS_succ tt (laws_eqIntA2S_tab F) (laws_eqIntA2S_LS0 F) 70 (laws_eqIntA2S_ls4 F) (loopAt 4 (bodyOf Try.f8)) n (laws_eqIntA2S_st4 a0 b1 i2) k).trans ((laws_eqIntA2S_step4 F a0 b1 i2 (nextK (iterS tt (laws_eqIntA2S_tab F) (laws_eqIntA2S_LS0 F) 70 (laws_eqIntA2S_ls4 F) (loopAt 4 (bodyOf Try.f8)) n) k)).trans (congrArg (fun kn => laws_eqIntA2S_s4 F a0 b1 R i2 kn _) (funext (fun i2 => laws_eqIntA2S_iter4 F a0 b1 k n i2))))
theorem laws_eqIntA2S_lok4 (F : Nat) : LoopOK Try.prog (loopAt 4 (bodyOf Try.f8)) (laws_eqIntA2S_ls4 F) := by
  refine loopOK_of mixed ttok deep (laws_eqIntA2S_tabok F) (loopsOK_at (laws_eqIntA2S_lsok0 F) 4) (fuel := 70) fun R vals mem np killed k x h => ?_
  simp only [laws_eqIntA2S_ls4] at h
  split at h
  · rename_i a0 b1 i2
    simp only [GT.run] at h
    have hc := (cond_noneL h).1
    replace h := (cond_noneL h).2
    refine ⟨F, (laws_eqIntA2S_iter4 F a0 b1 k F i2).trans ((loopC_use (laws_eqIntA2S_s4_nat F a0 b1) hc _).trans h)⟩
  · simp only [GT.run] at h
    cases h
noncomputable def laws_eqIntA2S_LS1 (F : Nat) : LT := (4, laws_eqIntA2S_ls4 F) :: laws_eqIntA2S_LS0 F
theorem laws_eqIntA2S_lsok1 (F : Nat) : LoopsOK Try.prog (laws_eqIntA2S_LS1 F) (bodyOf Try.f8) := loopsOK_cons laws_eqIntA2S_keys (laws_eqIntA2S_lok4 F) (laws_eqIntA2S_lsok0 F)
theorem laws_eqIntA2S_run (F : Nat) (a0 : List (List Int)) (b1 : List (List Int)) : runS tt (laws_eqIntA2S_tab F) (laws_eqIntA2S_LS1 F) [] [] Try.f8 (bodyOf Try.f8) 70 [(.rr 2 a0), (.rr 2 b1)] [] = laws_eqIntA2S_c _ F a0 b1 (fun r => some ⟨(.bool r), [], []⟩) := by kernel_rfl
def laws_eqIntA2S_ent (F : Nat) : Ent := ⟨[], .quiet, fun args mem => match args, mem with
  | [(.rr 2 a0), (.rr 2 b1)], [] => some ((laws_eqIntA2S_p F a0 b1).isSome, ⟨(.bool ((laws_eqIntA2S_p F a0 b1).getD default)), [], []⟩)
  | _, _ => none⟩
theorem laws_eqIntA2S_fok : FunOK Try.prog 8 := funOK Try.func8 (by kernel_rfl) rfl
theorem laws_eqIntA2S_meets (F : Nat) : Meets Try.prog 8 (laws_eqIntA2S_ent F) := by
  refine meets_of_runS mixed ttok deep (laws_eqIntA2S_tabok F) Try.func8 (body_some rfl) (laws_eqIntA2S_lsok1 F) fun args mem hfit ret h => ?_
  clear hfit
  simp only [laws_eqIntA2S_ent] at h
  split at h
  · rename_i a0 b1
    simp only [Option.some.injEq, Prod.mk.injEq] at h
    obtain ⟨hc, rfl⟩ := h
    exact ⟨[], [], 70, _, (laws_eqIntA2S_run F a0 b1).trans ((laws_eqIntA2S_cp _ F a0 b1 _).trans (bind_use hc _)), rfl, rfl, rfl⟩
  · cases h
end Go.Proofs.Ytkhccaoancfeoaa
