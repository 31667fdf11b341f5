/-
Pure functions and what the code of them does, by program; without conditions.
-/
import Derived.Test.YtgdokdkcbgkekafGfP2
import Derived.Test.YtgdokdkcbgkekafGfS1
namespace Go.Proofs.Ytgdokdkcbgkekaf
open Go Go.Lv Go.Lv.P Go.Proofs
set_option linter.unusedVariables false
set_option linter.unusedSimpArgs false
set_option maxRecDepth 100000
/-! (loop.example/g01194/impl.Board).moves -/
noncomputable def impl_Board_moves_tab (F : Nat) : Tab := [(59, (impl_Board_slide_ent F))]
theorem impl_Board_moves_tabok (F : Nat) : TabOK Try.prog (impl_Board_moves_tab F) := (tab_cons (impl_Board_slide_meets F) impl_Board_slide_fok tab_nil)
noncomputable def impl_Board_moves_LS0 (F : Nat) : LT := []
theorem impl_Board_moves_lsok0 (F : Nat) : LoopsOK Try.prog (impl_Board_moves_LS0 F) (bodyOf Try.f34) := loopsOK_nil
theorem impl_Board_moves_keys : keysOK (bodyOf Try.f34) = true := by kernel_rfl
def impl_Board_moves_st3 (b6 : List Int) (t95 : Int) (out7 : List Int) : St := ⟨expand 28 0 [1, 3, 9] [(.ptr 0 0 0 16), (.sl 1 0 (List.length out7)), (.int .i64 t95)], [(.var 16 (.ri .i64 b6)), (.vec 3 (.ri .i64 out7))], 0, []⟩
def impl_Board_moves_o3 (b6 : List Int) (x : List Int) : GT := (.out (.exit 0 ⟨expand 28 0 [3] [(.sl 0 0 (List.length x))], [(.vec 3 (.ri .i64 x))], 0, []⟩))
def impl_Board_moves_ls3 (F : Nat) : LoopS := ⟨28, [1, 3, 9], [], [3], [], [2], [], [], fun vals mem np killed => match vals, mem, np, killed with
  | [(.ptr 0 0 0 16), (.sl 1 0 q_out4), (.int .i64 t95)], [(.var 16 (.ri .i64 b6)), (.vec 3 (.ri .i64 out7))], 0, [] => .br ((Nat.beq q_out4 (List.length out7)) && (impl_Board_moves_l3 F b6 t95 out7).isSome) (impl_Board_moves_o3 b6 ((impl_Board_moves_l3 F b6 t95 out7).getD default)) .fail
  | _, _, _, _ => .fail⟩
theorem impl_Board_moves_step3 (F : Nat) (b6 : List Int) (t95 : Int) (out7 : List Int) {R : Type} (k : Out → Option R) : stepS tt (impl_Board_moves_tab F) (impl_Board_moves_LS0 F) 70 (impl_Board_moves_ls3 F) (loopAt 3 (bodyOf Try.f34)) (impl_Board_moves_st3 b6 t95 out7) k = impl_Board_moves_s3 F b6 R (t95, out7) (fun s => k (.norm (impl_Board_moves_st3 b6 s.1 s.2))) (fun x => (impl_Board_moves_o3 b6 x).run k) := by kernel_rfl
theorem impl_Board_moves_iter3 (F : Nat) (b6 : List Int) {R : Type} (k : Out → Option R) : ∀ (n : Nat) (t95 : Int) (out7 : List Int), iterS tt (impl_Board_moves_tab F) (impl_Board_moves_LS0 F) 70 (impl_Board_moves_ls3 F) (loopAt 3 (bodyOf Try.f34)) n (impl_Board_moves_st3 b6 t95 out7) k = loopC (impl_Board_moves_s3 F b6) n (t95, out7) (fun x => (impl_Board_moves_o3 b6 x).run k)
  | 0, t95, out7 => rfl
  | n + 1, t95, out7 => (iterS_succ tt (impl_Board_moves_tab F) (impl_Board_moves_LS0 F) 70 (impl_Board_moves_ls3 F) (loopAt 3 (bodyOf Try.f34)) n (impl_Board_moves_st3 b6 t95 out7) k).trans ((impl_Board_moves_step3 F b6 t95 out7 (nextK (iterS tt (impl_Board_moves_tab F) (impl_Board_moves_LS0 F) 70 (impl_Board_moves_ls3 F) (loopAt 3 (bodyOf Try.f34)) n) k)).trans (congrArg (fun kn => impl_Board_moves_s3 F b6 R (t95, out7) kn _) (funext (fun ⟨t95, out7⟩ => impl_Board_moves_iter3 F b6 k n t95 out7))))
theorem impl_Board_moves_lok3 (F : Nat) : LoopOK Try.prog (loopAt 3 (bodyOf Try.f34)) (impl_Board_moves_ls3 F) := by
  refine loopOK_of mixed ttok deep (impl_Board_moves_tabok F) (loopsOK_at (impl_Board_moves_lsok0 F) 3) (fuel := 70) fun R vals mem np killed k x h => ?_
  simp only [impl_Board_moves_ls3] at h
  split at h
  · rename_i q_out4 t95 b6 out7
    simp only [GT.run] at h
    have hc := (cond_noneL h).1
    replace h := (cond_noneL h).2
    have hg := (and_split hc).1
    replace hc := (and_split hc).2
    obtain rfl := nbeq_nat hg
    refine ⟨F, (impl_Board_moves_iter3 F b6 k F t95 out7).trans ((loopC_use (impl_Board_moves_s3_nat F b6) hc _).trans h)⟩
  · simp only [GT.run] at h
    cases h
noncomputable def impl_Board_moves_LS1 (F : Nat) : LT := (3, impl_Board_moves_ls3 F) :: impl_Board_moves_LS0 F
theorem impl_Board_moves_lsok1 (F : Nat) : LoopsOK Try.prog (impl_Board_moves_LS1 F) (bodyOf Try.f34) := loopsOK_cons impl_Board_moves_keys (impl_Board_moves_lok3 F) (impl_Board_moves_lsok0 F)
theorem impl_Board_moves_run (F : Nat) (b0 : List Int) : runS tt (impl_Board_moves_tab F) (impl_Board_moves_LS1 F) [] [] Try.f34 (bodyOf Try.f34) 70 [(.ints 16 b0)] [] = impl_Board_moves_c _ F b0 (fun r => some ⟨(.sl 0 0 (List.length r)), [(.vec 3 (.ri .i64 r))], []⟩) := by kernel_rfl
def impl_Board_moves_ent (F : Nat) : Ent := ⟨[], .fresh, fun args mem => match args, mem with
  | [(.ints 16 b0)], [] => some ((impl_Board_moves_p F b0).isSome, ⟨(.sl 0 0 (List.length ((impl_Board_moves_p F b0).getD default))), [(.vec 3 (.ri .i64 ((impl_Board_moves_p F b0).getD default)))], []⟩)
  | _, _ => none⟩
theorem impl_Board_moves_fok : FunOK Try.prog 34 := funOK Try.func34 (by kernel_rfl) rfl
theorem impl_Board_moves_meets (F : Nat) : Meets Try.prog 34 (impl_Board_moves_ent F) := by
  refine meets_of_runS mixed ttok deep (impl_Board_moves_tabok F) Try.func34 (body_some rfl) (impl_Board_moves_lsok1 F) fun args mem hfit ret h => ?_
  clear hfit
  simp only [impl_Board_moves_ent] at h
  split at h
  · rename_i b0
    simp only [Option.some.injEq, Prod.mk.injEq] at h
    obtain ⟨hc, rfl⟩ := h
    exact ⟨[], [], 70, _, (impl_Board_moves_run F b0).trans ((impl_Board_moves_cp _ F b0 _).trans (bind_use hc _)), rfl, rfl, rfl⟩
  · cases h

/-! (loop.example/g01194/impl.Board).isOver -/
noncomputable def impl_Board_isOver_tab (F : Nat) : Tab := [(34, (impl_Board_moves_ent F))]
theorem impl_Board_isOver_tabok (F : Nat) : TabOK Try.prog (impl_Board_isOver_tab F) := (tab_cons (impl_Board_moves_meets F) impl_Board_moves_fok tab_nil)
noncomputable def impl_Board_isOver_LS0 (F : Nat) : LT := []
theorem impl_Board_isOver_lsok0 (F : Nat) : LoopsOK Try.prog (impl_Board_isOver_LS0 F) (bodyOf Try.f49) := loopsOK_nil
theorem impl_Board_isOver_run (F : Nat) (b0 : List Int) : runS tt (impl_Board_isOver_tab F) (impl_Board_isOver_LS0 F) [] [] Try.f49 (bodyOf Try.f49) 70 [(.ints 16 b0)] [] = impl_Board_isOver_c _ F b0 (fun r => some ⟨(.bool r), [], []⟩) := by kernel_rfl
def impl_Board_isOver_ent (F : Nat) : Ent := ⟨[], .quiet, fun args mem => match args, mem with
  | [(.ints 16 b0)], [] => some ((impl_Board_isOver_p F b0).isSome, ⟨(.bool ((impl_Board_isOver_p F b0).getD default)), [], []⟩)
  | _, _ => none⟩
theorem impl_Board_isOver_fok : FunOK Try.prog 49 := funOK Try.func49 (by kernel_rfl) rfl
theorem impl_Board_isOver_meets (F : Nat) : Meets Try.prog 49 (impl_Board_isOver_ent F) := by
  refine meets_of_runS mixed ttok deep (impl_Board_isOver_tabok F) Try.func49 (body_some rfl) (impl_Board_isOver_lsok0 F) fun args mem hfit ret h => ?_
  clear hfit
  simp only [impl_Board_isOver_ent] at h
  split at h
  · rename_i b0
    simp only [Option.some.injEq, Prod.mk.injEq] at h
    obtain ⟨hc, rfl⟩ := h
    exact ⟨[], [], 70, _, (impl_Board_isOver_run F b0).trans ((impl_Board_isOver_cp _ F b0 _).trans (bind_use hc _)), rfl, rfl, rfl⟩
  · cases h

/-! (loop.example/g01194/impl.Board).lasts -/
noncomputable def impl_Board_lasts_n1_tab (F : Nat) : Tab := [(49, (impl_Board_isOver_ent F))]
theorem impl_Board_lasts_n1_tabok (F : Nat) : TabOK Try.prog (impl_Board_lasts_n1_tab F) := (tab_cons (impl_Board_isOver_meets F) impl_Board_isOver_fok tab_nil)
noncomputable def impl_Board_lasts_n1_LS0 (F : Nat) : LT := []
theorem impl_Board_lasts_n1_lsok0 (F : Nat) : LoopsOK Try.prog (impl_Board_lasts_n1_LS0 F) (bodyOf Try.f29) := loopsOK_nil
theorem impl_Board_lasts_n1_run (F : Nat) (b0 : List Int) : runS tt (impl_Board_lasts_n1_tab F) (impl_Board_lasts_n1_LS0 F) [] [] Try.f29 (bodyOf Try.f29) 70 [(.ints 16 b0), (.int .i64 (1 : Int))] [] = impl_Board_lasts_n1_c _ F b0 (fun r => some ⟨(.bool r), [], []⟩) := by kernel_rfl
def impl_Board_lasts_n1_ent (F : Nat) : Ent := ⟨[], .quiet, fun args mem => match args, mem with
  | [(.ints 16 b0), (.int .i64 q_n1)], [] => bif (q_n1 == (1 : Int)) then some ((impl_Board_lasts_n1_p F b0).isSome, ⟨(.bool ((impl_Board_lasts_n1_p F b0).getD default)), [], []⟩) else none
  | _, _ => none⟩
theorem impl_Board_lasts_n1_fok : FunOK Try.prog 29 := funOK Try.func29 (by kernel_rfl) rfl
theorem impl_Board_lasts_n1_meets (F : Nat) : Meets Try.prog 29 (impl_Board_lasts_n1_ent F) := by
  refine meets_of_runS mixed ttok deep (impl_Board_lasts_n1_tabok F) Try.func29 (body_some rfl) (impl_Board_lasts_n1_lsok0 F) fun args mem hfit ret h => ?_
  clear hfit
  simp only [impl_Board_lasts_n1_ent] at h
  split at h
  · rename_i b0 q_n1
    have hg0 := (cond_noneL h).1
    replace h := (cond_noneL h).2
    obtain rfl := beq_int hg0
    simp only [Option.some.injEq, Prod.mk.injEq] at h
    obtain ⟨hc, rfl⟩ := h
    exact ⟨[], [], 70, _, (impl_Board_lasts_n1_run F b0).trans ((impl_Board_lasts_n1_cp _ F b0 _).trans (bind_use hc _)), rfl, rfl, rfl⟩
  · cases h

/-! (loop.example/g01194/impl.Board).slides -/
noncomputable def impl_Board_slides_tab (F : Nat) : Tab := [(59, (impl_Board_slide_ent F))]
theorem impl_Board_slides_tabok (F : Nat) : TabOK Try.prog (impl_Board_slides_tab F) := (tab_cons (impl_Board_slide_meets F) impl_Board_slide_fok tab_nil)
noncomputable def impl_Board_slides_LS0 (F : Nat) : LT := []
theorem impl_Board_slides_lsok0 (F : Nat) : LoopsOK Try.prog (impl_Board_slides_LS0 F) (bodyOf Try.f40) := loopsOK_nil
theorem impl_Board_slides_keys : keysOK (bodyOf Try.f40) = true := by kernel_rfl
def impl_Board_slides_st2 (t76 : List Int) (t87 : Int) (t98 : Int) (b9 : List Int) : St := ⟨expand 22 0 [2, 4, 7, 8, 9] [(.ptr 0 0 0 16), (.ptr 1 0 0 16), (.ri .i64 t76), (.int .i64 t87), (.int .i64 t98)], [(.var 16 (.ri .i64 b9)), (.var 16 (.ri .i64 [(0 : Int), (0 : Int), (0 : Int), (0 : Int), (0 : Int), (0 : Int), (0 : Int), (0 : Int), (0 : Int), (0 : Int), (0 : Int), (0 : Int), (0 : Int), (0 : Int), (0 : Int), (0 : Int)]))], 0, []⟩
def impl_Board_slides_o2 (t76 : List Int) (t87 : Int) (x : List Int) : GT := (.out (.exit 0 ⟨expand 22 0 [2, 4] [(.ptr 0 0 0 16), (.ptr 1 0 0 16)], [(.var 16 (.ri .i64 x)), (.var 16 (.ri .i64 [(0 : Int), (0 : Int), (0 : Int), (0 : Int), (0 : Int), (0 : Int), (0 : Int), (0 : Int), (0 : Int), (0 : Int), (0 : Int), (0 : Int), (0 : Int), (0 : Int), (0 : Int), (0 : Int)]))], 0, []⟩))
def impl_Board_slides_ls2 (F : Nat) : LoopS := ⟨22, [2, 4, 7, 8, 9], [], [2, 4], [], [4], [], [], fun vals mem np killed => match vals, mem, np, killed with
  | [(.ptr 0 0 0 16), (.ptr 1 0 0 16), (.ri .i64 t76), (.int .i64 t87), (.int .i64 t98)], [(.var 16 (.ri .i64 b9)), (.var 16 (.ri .i64 q_t410))], 0, [] => .br ((q_t410 == ([(0 : Int), (0 : Int), (0 : Int), (0 : Int), (0 : Int), (0 : Int), (0 : Int), (0 : Int), (0 : Int), (0 : Int), (0 : Int), (0 : Int), (0 : Int), (0 : Int), (0 : Int), (0 : Int)] : List Int)) && (impl_Board_slides_l2 F t76 t87 t98 b9).isSome) (impl_Board_slides_o2 t76 t87 ((impl_Board_slides_l2 F t76 t87 t98 b9).getD default)) .fail
  | _, _, _, _ => .fail⟩
theorem impl_Board_slides_step2 (F : Nat) (t76 : List Int) (t87 : Int) (t98 : Int) (b9 : List Int) {R : Type} (k : Out → Option R) : stepS tt (impl_Board_slides_tab F) (impl_Board_slides_LS0 F) 70 (impl_Board_slides_ls2 F) (loopAt 2 (bodyOf Try.f40)) (impl_Board_slides_st2 t76 t87 t98 b9) k = impl_Board_slides_s2 F t76 t87 R (t98, b9) (fun s => k (.norm (impl_Board_slides_st2 t76 t87 s.1 s.2))) (fun x => (impl_Board_slides_o2 t76 t87 x).run k) := by kernel_rfl
theorem impl_Board_slides_iter2 (F : Nat) (t76 : List Int) (t87 : Int) {R : Type} (k : Out → Option R) : ∀ (n : Nat) (t98 : Int) (b9 : List Int), iterS tt (impl_Board_slides_tab F) (impl_Board_slides_LS0 F) 70 (impl_Board_slides_ls2 F) (loopAt 2 (bodyOf Try.f40)) n (impl_Board_slides_st2 t76 t87 t98 b9) k = loopC (impl_Board_slides_s2 F t76 t87) n (t98, b9) (fun x => (impl_Board_slides_o2 t76 t87 x).run k)
  | 0, t98, b9 => rfl
  | n + 1, t98, b9 => (iterS_succ tt (impl_Board_slides_tab F) (impl_Board_slides_LS0 F) 70 (impl_Board_slides_ls2 F) (loopAt 2 (bodyOf Try.f40)) n (impl_Board_slides_st2 t76 t87 t98 b9) k).trans ((impl_Board_slides_step2 F t76 t87 t98 b9 (nextK (iterS tt (impl_Board_slides_tab F) (impl_Board_slides_LS0 F) 70 (impl_Board_slides_ls2 F) (loopAt 2 (bodyOf Try.f40)) n) k)).trans (congrArg (fun kn => impl_Board_slides_s2 F t76 t87 R (t98, b9) kn _) (funext (fun ⟨t98, b9⟩ => impl_Board_slides_iter2 F t76 t87 k n t98 b9))))
theorem impl_Board_slides_lok2 (F : Nat) : LoopOK Try.prog (loopAt 2 (bodyOf Try.f40)) (impl_Board_slides_ls2 F) := by
  refine loopOK_of mixed ttok deep (impl_Board_slides_tabok F) (loopsOK_at (impl_Board_slides_lsok0 F) 2) (fuel := 70) fun R vals mem np killed k x h => ?_
  simp only [impl_Board_slides_ls2] at h
  split at h
  · rename_i t76 t87 t98 b9 q_t410
    simp only [GT.run] at h
    have hc := (cond_noneL h).1
    replace h := (cond_noneL h).2
    have hg := (and_split hc).1
    replace hc := (and_split hc).2
    obtain rfl := beq_li hg
    refine ⟨F, (impl_Board_slides_iter2 F t76 t87 k F t98 b9).trans ((loopC_use (impl_Board_slides_s2_nat F t76 t87) hc _).trans h)⟩
  · simp only [GT.run] at h
    cases h
noncomputable def impl_Board_slides_LS1 (F : Nat) : LT := (2, impl_Board_slides_ls2 F) :: impl_Board_slides_LS0 F
theorem impl_Board_slides_lsok1 (F : Nat) : LoopsOK Try.prog (impl_Board_slides_LS1 F) (bodyOf Try.f40) := loopsOK_cons impl_Board_slides_keys (impl_Board_slides_lok2 F) (impl_Board_slides_lsok0 F)
theorem impl_Board_slides_run (F : Nat) (b0 : List Int) (list1 : List Int) : runS tt (impl_Board_slides_tab F) (impl_Board_slides_LS1 F) [] [] Try.f40 (bodyOf Try.f40) 70 [(.ints 16 b0), (.ri .i64 list1)] [] = impl_Board_slides_c _ F b0 list1 (fun r => some ⟨(.ints 16 r), [], []⟩) := by kernel_rfl
def impl_Board_slides_ent (F : Nat) : Ent := ⟨[], .quiet, fun args mem => match args, mem with
  | [(.ints 16 b0), (.ri .i64 list1)], [] => some ((impl_Board_slides_p F b0 list1).isSome, ⟨(.ints 16 ((impl_Board_slides_p F b0 list1).getD default)), [], []⟩)
  | _, _ => none⟩
theorem impl_Board_slides_fok : FunOK Try.prog 40 := funOK Try.func40 (by kernel_rfl) rfl
theorem impl_Board_slides_meets (F : Nat) : Meets Try.prog 40 (impl_Board_slides_ent F) := by
  refine meets_of_runS mixed ttok deep (impl_Board_slides_tabok F) Try.func40 (body_some rfl) (impl_Board_slides_lsok1 F) fun args mem hfit ret h => ?_
  clear hfit
  simp only [impl_Board_slides_ent] at h
  split at h
  · rename_i b0 list1
    simp only [Option.some.injEq, Prod.mk.injEq] at h
    obtain ⟨hc, rfl⟩ := h
    exact ⟨[], [], 70, _, (impl_Board_slides_run F b0 list1).trans ((impl_Board_slides_cp _ F b0 list1 _).trans (bind_use hc _)), rfl, rfl, rfl⟩
  · cases h

/-! loop.example/g01194/impl.cells -/
noncomputable def impl_cells_tab (F : Nat) : Tab := []
theorem impl_cells_tabok (F : Nat) : TabOK Try.prog (impl_cells_tab F) := tab_nil
noncomputable def impl_cells_LS0 (F : Nat) : LT := []
theorem impl_cells_lsok0 (F : Nat) : LoopsOK Try.prog (impl_cells_LS0 F) (bodyOf Try.f77) := loopsOK_nil
theorem impl_cells_run (F : Nat) : runS tt (impl_cells_tab F) (impl_cells_LS0 F) [] [] Try.f77 (bodyOf Try.f77) 70 [] [] = impl_cells_c _ (fun r => some ⟨(.sl 0 0 16), [(.vec 83 (.rr 2 [[(0 : Int), (0 : Int)], [(0 : Int), (1 : Int)], [(0 : Int), (2 : Int)], [(0 : Int), (3 : Int)], [(1 : Int), (0 : Int)], [(1 : Int), (1 : Int)], [(1 : Int), (2 : Int)], [(1 : Int), (3 : Int)], [(2 : Int), (0 : Int)], [(2 : Int), (1 : Int)], [(2 : Int), (2 : Int)], [(2 : Int), (3 : Int)], [(3 : Int), (0 : Int)], [(3 : Int), (1 : Int)], [(3 : Int), (2 : Int)], [(3 : Int), (3 : Int)]]))], []⟩) := by kernel_rfl
def impl_cells_ent (F : Nat) : Ent := ⟨[], .fresh, fun args mem => match args, mem with
  | [], [] => some (true, ⟨(.sl 0 0 16), [(.vec 83 (.rr 2 [[(0 : Int), (0 : Int)], [(0 : Int), (1 : Int)], [(0 : Int), (2 : Int)], [(0 : Int), (3 : Int)], [(1 : Int), (0 : Int)], [(1 : Int), (1 : Int)], [(1 : Int), (2 : Int)], [(1 : Int), (3 : Int)], [(2 : Int), (0 : Int)], [(2 : Int), (1 : Int)], [(2 : Int), (2 : Int)], [(2 : Int), (3 : Int)], [(3 : Int), (0 : Int)], [(3 : Int), (1 : Int)], [(3 : Int), (2 : Int)], [(3 : Int), (3 : Int)]]))], []⟩)
  | _, _ => none⟩
theorem impl_cells_fok : FunOK Try.prog 77 := funOK Try.func77 (by kernel_rfl) rfl
theorem impl_cells_meets (F : Nat) : Meets Try.prog 77 (impl_cells_ent F) := by
  refine meets_of_runS mixed ttok deep (impl_cells_tabok F) Try.func77 (body_some rfl) (impl_cells_lsok0 F) fun args mem hfit ret h => ?_
  clear hfit
  simp only [impl_cells_ent] at h
  split at h
  · simp only [Option.some.injEq, Prod.mk.injEq] at h
    obtain ⟨hc, rfl⟩ := h
    exact ⟨[], [], 70, _, (impl_cells_run F).trans (impl_cells_cv _ _), rfl, rfl, rfl⟩
  · cases h

/-! (loop.example/g01194/impl.Board).empty$1 -/
noncomputable def impl_Board_empty_f1_tab (F : Nat) : Tab := [(75, (impl_Board_at_ent F))]
theorem impl_Board_empty_f1_tabok (F : Nat) : TabOK Try.prog (impl_Board_empty_f1_tab F) := (tab_cons (impl_Board_at_meets F) impl_Board_at_fok tab_nil)
noncomputable def impl_Board_empty_f1_LS0 (F : Nat) : LT := []
theorem impl_Board_empty_f1_lsok0 (F : Nat) : LoopsOK Try.prog (impl_Board_empty_f1_LS0 F) (bodyOf Try.f78) := loopsOK_nil
theorem impl_Board_empty_f1_run (F : Nat) (cell0 : List Int) (a14 : List Int) : runS tt (impl_Board_empty_f1_tab F) (impl_Board_empty_f1_LS0 F) [] [] Try.f78 (bodyOf Try.f78) 70 [(.ints 2 cell0), (.ptr 0 0 0 16)] [(.var 16 (.ri .i64 a14))] = impl_Board_empty_f1_c _ cell0 a14 (fun r => some ⟨(.bool r), [(.var 16 (.ri .i64 a14))], []⟩) := by kernel_rfl
def impl_Board_empty_f1_ent (F : Nat) : Ent := ⟨[], .quiet, fun args mem => match args, mem with
  | [(.ints 2 cell0), (.ptr 0 0 0 16)], [(.var 16 (.ri .i64 a14))] => some ((impl_Board_empty_f1_p cell0 a14).isSome, ⟨(.bool ((impl_Board_empty_f1_p cell0 a14).getD default)), [], []⟩)
  | _, _ => none⟩
theorem impl_Board_empty_f1_fok : FunOK Try.prog 78 := funOK Try.func78 (by kernel_rfl) rfl
theorem impl_Board_empty_f1_meets (F : Nat) : Meets Try.prog 78 (impl_Board_empty_f1_ent F) := by
  refine meets_of_runS mixed ttok deep (impl_Board_empty_f1_tabok F) Try.func78 (body_some rfl) (impl_Board_empty_f1_lsok0 F) fun args mem hfit ret h => ?_
  clear hfit
  simp only [impl_Board_empty_f1_ent] at h
  split at h
  · rename_i cell0 a14
    simp only [Option.some.injEq, Prod.mk.injEq] at h
    obtain ⟨hc, rfl⟩ := h
    exact ⟨[], [], 70, _, (impl_Board_empty_f1_run F cell0 a14).trans ((impl_Board_empty_f1_cp _ cell0 a14 _).trans (bind_use hc _)), rfl, rfl, rfl⟩
  · cases h

/-! slices.IndexFunc[[][2]int,[2]int] -/
noncomputable def slices_IndexFunc_2int2int_impl_Board_empty_f1_tab (F : Nat) : Tab := [(78, (impl_Board_empty_f1_ent F))]
theorem slices_IndexFunc_2int2int_impl_Board_empty_f1_tabok (F : Nat) : TabOK Try.prog (slices_IndexFunc_2int2int_impl_Board_empty_f1_tab F) := (tab_cons (impl_Board_empty_f1_meets F) impl_Board_empty_f1_fok tab_nil)
noncomputable def slices_IndexFunc_2int2int_impl_Board_empty_f1_LS0 (F : Nat) : LT := []
theorem slices_IndexFunc_2int2int_impl_Board_empty_f1_lsok0 (F : Nat) : LoopsOK Try.prog (slices_IndexFunc_2int2int_impl_Board_empty_f1_LS0 F) (bodyOf Try.f88) := loopsOK_nil
theorem slices_IndexFunc_2int2int_impl_Board_empty_f1_keys : keysOK (bodyOf Try.f88) = true := by kernel_rfl
def slices_IndexFunc_2int2int_impl_Board_empty_f1_st2 (s0 : List (List Int)) (t74 : Int) (f6 : List Int) (t85 : Int) : St := ⟨expand 19 0 [0, 1, 7, 8] [(.rr 2 s0), (.fn 78 [] [(.ptr 0 0 0 16)]), (.int .i64 t74), (.int .i64 t85)], [(.var 16 (.ri .i64 f6))], 1, []⟩
def slices_IndexFunc_2int2int_impl_Board_empty_f1_o2 (s0 : List (List Int)) (t74 : Int) (f6 : List Int) (x : Bool × Int) : GT := (.br x.1 (.out (.ret ⟨expand 19 0 [4] [(.int .i64 x.2)], [(.var 16 (.ri .i64 f6))], 1, []⟩)) (.out (.exit 0 ⟨expand 19 0 [] [], [(.var 16 (.ri .i64 f6))], 1, []⟩)))
def slices_IndexFunc_2int2int_impl_Board_empty_f1_ls2 (F : Nat) : LoopS := ⟨19, [0, 1, 7, 8], [], [], [], [4], [], [], fun vals mem np killed => match vals, mem, np, killed with
  | [(.rr 2 s0), (.fn 78 [] [(.ptr 0 0 0 16)]), (.int .i64 t74), (.int .i64 t85)], [(.var 16 (.ri .i64 f6))], 1, [] => .br (slices_IndexFunc_2int2int_impl_Board_empty_f1_l2 F s0 t74 f6 t85).isSome (slices_IndexFunc_2int2int_impl_Board_empty_f1_o2 s0 t74 f6 ((slices_IndexFunc_2int2int_impl_Board_empty_f1_l2 F s0 t74 f6 t85).getD default)) .fail
  | _, _, _, _ => .fail⟩
theorem slices_IndexFunc_2int2int_impl_Board_empty_f1_step2 (F : Nat) (s0 : List (List Int)) (t74 : Int) (f6 : List Int) (t85 : Int) {R : Type} (k : Out → Option R) : stepS tt (slices_IndexFunc_2int2int_impl_Board_empty_f1_tab F) (slices_IndexFunc_2int2int_impl_Board_empty_f1_LS0 F) 70 (slices_IndexFunc_2int2int_impl_Board_empty_f1_ls2 F) (loopAt 2 (bodyOf Try.f88)) (slices_IndexFunc_2int2int_impl_Board_empty_f1_st2 s0 t74 f6 t85) k = slices_IndexFunc_2int2int_impl_Board_empty_f1_s2 F s0 t74 f6 R t85 (fun s => k (.norm (slices_IndexFunc_2int2int_impl_Board_empty_f1_st2 s0 t74 f6 s))) (fun x => (slices_IndexFunc_2int2int_impl_Board_empty_f1_o2 s0 t74 f6 x).run k) := by kernel_rfl
theorem slices_IndexFunc_2int2int_impl_Board_empty_f1_iter2 (F : Nat) (s0 : List (List Int)) (t74 : Int) (f6 : List Int) {R : Type} (k : Out → Option R) : ∀ (n : Nat) (t85 : Int), iterS tt (slices_IndexFunc_2int2int_impl_Board_empty_f1_tab F) (slices_IndexFunc_2int2int_impl_Board_empty_f1_LS0 F) 70 (slices_IndexFunc_2int2int_impl_Board_empty_f1_ls2 F) (loopAt 2 (bodyOf Try.f88)) n (slices_IndexFunc_2int2int_impl_Board_empty_f1_st2 s0 t74 f6 t85) k = loopC (slices_IndexFunc_2int2int_impl_Board_empty_f1_s2 F s0 t74 f6) n t85 (fun x => (slices_IndexFunc_2int2int_impl_Board_empty_f1_o2 s0 t74 f6 x).run k)
  | 0, t85 => rfl
  | n + 1, t85 => (iterS_succ tt (slices_IndexFunc_2int2int_impl_Board_empty_f1_tab F) (slices_IndexFunc_2int2int_impl_Board_empty_f1_LS0 F) 70 (slices_IndexFunc_2int2int_impl_Board_empty_f1_ls2 F) (loopAt 2 (bodyOf Try.f88)) n (slices_IndexFunc_2int2int_impl_Board_empty_f1_st2 s0 t74 f6 t85) k).trans ((slices_IndexFunc_2int2int_impl_Board_empty_f1_step2 F s0 t74 f6 t85 (nextK (iterS tt (slices_IndexFunc_2int2int_impl_Board_empty_f1_tab F) (slices_IndexFunc_2int2int_impl_Board_empty_f1_LS0 F) 70 (slices_IndexFunc_2int2int_impl_Board_empty_f1_ls2 F) (loopAt 2 (bodyOf Try.f88)) n) k)).trans (congrArg (fun kn => slices_IndexFunc_2int2int_impl_Board_empty_f1_s2 F s0 t74 f6 R t85 kn _) (funext (fun t85 => slices_IndexFunc_2int2int_impl_Board_empty_f1_iter2 F s0 t74 f6 k n t85))))
theorem slices_IndexFunc_2int2int_impl_Board_empty_f1_lok2 (F : Nat) : LoopOK Try.prog (loopAt 2 (bodyOf Try.f88)) (slices_IndexFunc_2int2int_impl_Board_empty_f1_ls2 F) := by
  refine loopOK_of mixed ttok deep (slices_IndexFunc_2int2int_impl_Board_empty_f1_tabok F) (loopsOK_at (slices_IndexFunc_2int2int_impl_Board_empty_f1_lsok0 F) 2) (fuel := 70) fun R vals mem np killed k x h => ?_
  simp only [slices_IndexFunc_2int2int_impl_Board_empty_f1_ls2] at h
  split at h
  · rename_i s0 t74 t85 f6
    simp only [GT.run] at h
    have hc := (cond_noneL h).1
    replace h := (cond_noneL h).2
    refine ⟨F, (slices_IndexFunc_2int2int_impl_Board_empty_f1_iter2 F s0 t74 f6 k F t85).trans ((loopC_use (slices_IndexFunc_2int2int_impl_Board_empty_f1_s2_nat F s0 t74 f6) hc _).trans h)⟩
  · simp only [GT.run] at h
    cases h
noncomputable def slices_IndexFunc_2int2int_impl_Board_empty_f1_LS1 (F : Nat) : LT := (2, slices_IndexFunc_2int2int_impl_Board_empty_f1_ls2 F) :: slices_IndexFunc_2int2int_impl_Board_empty_f1_LS0 F
theorem slices_IndexFunc_2int2int_impl_Board_empty_f1_lsok1 (F : Nat) : LoopsOK Try.prog (slices_IndexFunc_2int2int_impl_Board_empty_f1_LS1 F) (bodyOf Try.f88) := loopsOK_cons slices_IndexFunc_2int2int_impl_Board_empty_f1_keys (slices_IndexFunc_2int2int_impl_Board_empty_f1_lok2 F) (slices_IndexFunc_2int2int_impl_Board_empty_f1_lsok0 F)
theorem slices_IndexFunc_2int2int_impl_Board_empty_f1_run (F : Nat) (s0 : List (List Int)) (f4 : List Int) : runS tt (slices_IndexFunc_2int2int_impl_Board_empty_f1_tab F) (slices_IndexFunc_2int2int_impl_Board_empty_f1_LS1 F) [] [] Try.f88 (bodyOf Try.f88) 70 [(.rr 2 s0), (.fn 78 [] [(.ptr 0 0 0 16)])] [(.var 16 (.ri .i64 f4))] = slices_IndexFunc_2int2int_impl_Board_empty_f1_c _ F s0 f4 (fun r => some ⟨(.int .i64 r), [(.var 16 (.ri .i64 f4))], []⟩) := by kernel_rfl
def slices_IndexFunc_2int2int_impl_Board_empty_f1_ent (F : Nat) : Ent := ⟨[], .quiet, fun args mem => match args, mem with
  | [(.rr 2 s0), (.fn 78 [] [(.ptr 0 0 0 16)])], [(.var 16 (.ri .i64 f4))] => some ((slices_IndexFunc_2int2int_impl_Board_empty_f1_p F s0 f4).isSome, ⟨(.int .i64 ((slices_IndexFunc_2int2int_impl_Board_empty_f1_p F s0 f4).getD default)), [], []⟩)
  | _, _ => none⟩
theorem slices_IndexFunc_2int2int_impl_Board_empty_f1_fok : FunOK Try.prog 88 := funOK Try.func88 (by kernel_rfl) rfl
theorem slices_IndexFunc_2int2int_impl_Board_empty_f1_meets (F : Nat) : Meets Try.prog 88 (slices_IndexFunc_2int2int_impl_Board_empty_f1_ent F) := by
  refine meets_of_runS mixed ttok deep (slices_IndexFunc_2int2int_impl_Board_empty_f1_tabok F) Try.func88 (body_some rfl) (slices_IndexFunc_2int2int_impl_Board_empty_f1_lsok1 F) fun args mem hfit ret h => ?_
  clear hfit
  simp only [slices_IndexFunc_2int2int_impl_Board_empty_f1_ent] at h
  split at h
  · rename_i s0 f4
    simp only [Option.some.injEq, Prod.mk.injEq] at h
    obtain ⟨hc, rfl⟩ := h
    exact ⟨[], [], 70, _, (slices_IndexFunc_2int2int_impl_Board_empty_f1_run F s0 f4).trans ((slices_IndexFunc_2int2int_impl_Board_empty_f1_cp _ F s0 f4 _).trans (bind_use hc _)), rfl, rfl, rfl⟩
  · cases h

/-! slices.DeleteFunc[[][2]int,[2]int] -/
noncomputable def slices_DeleteFunc_2int2int_impl_Board_empty_f1_tab (F : Nat) : Tab := [(88, (slices_IndexFunc_2int2int_impl_Board_empty_f1_ent F)), (78, (impl_Board_empty_f1_ent F))]
theorem slices_DeleteFunc_2int2int_impl_Board_empty_f1_tabok (F : Nat) : TabOK Try.prog (slices_DeleteFunc_2int2int_impl_Board_empty_f1_tab F) := (tab_cons (slices_IndexFunc_2int2int_impl_Board_empty_f1_meets F) slices_IndexFunc_2int2int_impl_Board_empty_f1_fok (tab_cons (impl_Board_empty_f1_meets F) impl_Board_empty_f1_fok tab_nil))
noncomputable def slices_DeleteFunc_2int2int_impl_Board_empty_f1_LS0 (F : Nat) : LT := []
theorem slices_DeleteFunc_2int2int_impl_Board_empty_f1_lsok0 (F : Nat) : LoopsOK Try.prog (slices_DeleteFunc_2int2int_impl_Board_empty_f1_LS0 F) (bodyOf Try.f76) := loopsOK_nil
theorem slices_DeleteFunc_2int2int_impl_Board_empty_f1_keys : keysOK (bodyOf Try.f76) = true := by kernel_rfl
def slices_DeleteFunc_2int2int_impl_Board_empty_f1_st5 (s1 : Nat) (del8 : List Int) (i5 : Int) (j6 : Int) (s7 : List (List Int)) : St := ⟨expand 42 0 [0, 1, 5, 6] [(.sl 0 0 s1), (.fn 78 [] [(.ptr 1 0 0 16)]), (.int .i64 i5), (.int .i64 j6)], [(.vec 83 (.rr 2 s7)), (.var 16 (.ri .i64 del8))], 2, []⟩
def slices_DeleteFunc_2int2int_impl_Board_empty_f1_o5 (s1 : Nat) (del8 : List Int) (x : Int × List (List Int)) : GT := (.out (.exit 0 ⟨expand 42 0 [0, 5] [(.sl 0 0 s1), (.int .i64 x.1)], [(.vec 83 (.rr 2 x.2)), (.var 16 (.ri .i64 del8))], 2, []⟩))
def slices_DeleteFunc_2int2int_impl_Board_empty_f1_ls5 (F : Nat) : LoopS := ⟨42, [0, 1, 5, 6], [], [0, 5], [], [4], [], [], fun vals mem np killed => match vals, mem, np, killed with
  | [(.sl 0 0 s1), (.fn 78 [] [(.ptr 1 0 0 16)]), (.int .i64 i5), (.int .i64 j6)], [(.vec 83 (.rr 2 s7)), (.var 16 (.ri .i64 del8))], 2, [] => .br (slices_DeleteFunc_2int2int_impl_Board_empty_f1_l5 F s1 del8 i5 j6 s7).isSome (slices_DeleteFunc_2int2int_impl_Board_empty_f1_o5 s1 del8 ((slices_DeleteFunc_2int2int_impl_Board_empty_f1_l5 F s1 del8 i5 j6 s7).getD default)) .fail
  | _, _, _, _ => .fail⟩
theorem slices_DeleteFunc_2int2int_impl_Board_empty_f1_step5 (F : Nat) (s1 : Nat) (del8 : List Int) (i5 : Int) (j6 : Int) (s7 : List (List Int)) {R : Type} (k : Out → Option R) : stepS tt (slices_DeleteFunc_2int2int_impl_Board_empty_f1_tab F) (slices_DeleteFunc_2int2int_impl_Board_empty_f1_LS0 F) 70 (slices_DeleteFunc_2int2int_impl_Board_empty_f1_ls5 F) (loopAt 5 (bodyOf Try.f76)) (slices_DeleteFunc_2int2int_impl_Board_empty_f1_st5 s1 del8 i5 j6 s7) k = slices_DeleteFunc_2int2int_impl_Board_empty_f1_s5 F s1 del8 R (i5, j6, s7) (fun s => k (.norm (slices_DeleteFunc_2int2int_impl_Board_empty_f1_st5 s1 del8 s.1 s.2.1 s.2.2))) (fun x => (slices_DeleteFunc_2int2int_impl_Board_empty_f1_o5 s1 del8 x).run k) := by kernel_rfl
theorem slices_DeleteFunc_2int2int_impl_Board_empty_f1_iter5 (F : Nat) (s1 : Nat) (del8 : List Int) {R : Type} (k : Out → Option R) : ∀ (n : Nat) (i5 : Int) (j6 : Int) (s7 : List (List Int)), iterS tt (slices_DeleteFunc_2int2int_impl_Board_empty_f1_tab F) (slices_DeleteFunc_2int2int_impl_Board_empty_f1_LS0 F) 70 (slices_DeleteFunc_2int2int_impl_Board_empty_f1_ls5 F) (loopAt 5 (bodyOf Try.f76)) n (slices_DeleteFunc_2int2int_impl_Board_empty_f1_st5 s1 del8 i5 j6 s7) k = loopC (slices_DeleteFunc_2int2int_impl_Board_empty_f1_s5 F s1 del8) n (i5, j6, s7) (fun x => (slices_DeleteFunc_2int2int_impl_Board_empty_f1_o5 s1 del8 x).run k)
  | 0, i5, j6, s7 => rfl
  | n + 1, i5, j6, s7 => (iterS_succ tt (slices_DeleteFunc_2int2int_impl_Board_empty_f1_tab F) (slices_DeleteFunc_2int2int_impl_Board_empty_f1_LS0 F) 70 (slices_DeleteFunc_2int2int_impl_Board_empty_f1_ls5 F) (loopAt 5 (bodyOf Try.f76)) n (slices_DeleteFunc_2int2int_impl_Board_empty_f1_st5 s1 del8 i5 j6 s7) k).trans ((slices_DeleteFunc_2int2int_impl_Board_empty_f1_step5 F s1 del8 i5 j6 s7 (nextK (iterS tt (slices_DeleteFunc_2int2int_impl_Board_empty_f1_tab F) (slices_DeleteFunc_2int2int_impl_Board_empty_f1_LS0 F) 70 (slices_DeleteFunc_2int2int_impl_Board_empty_f1_ls5 F) (loopAt 5 (bodyOf Try.f76)) n) k)).trans (congrArg (fun kn => slices_DeleteFunc_2int2int_impl_Board_empty_f1_s5 F s1 del8 R (i5, j6, s7) kn _) (funext (fun ⟨i5, j6, s7⟩ => slices_DeleteFunc_2int2int_impl_Board_empty_f1_iter5 F s1 del8 k n i5 j6 s7))))
theorem slices_DeleteFunc_2int2int_impl_Board_empty_f1_lok5 (F : Nat) : LoopOK Try.prog (loopAt 5 (bodyOf Try.f76)) (slices_DeleteFunc_2int2int_impl_Board_empty_f1_ls5 F) := by
  refine loopOK_of mixed ttok deep (slices_DeleteFunc_2int2int_impl_Board_empty_f1_tabok F) (loopsOK_at (slices_DeleteFunc_2int2int_impl_Board_empty_f1_lsok0 F) 5) (fuel := 70) fun R vals mem np killed k x h => ?_
  simp only [slices_DeleteFunc_2int2int_impl_Board_empty_f1_ls5] at h
  split at h
  · rename_i s1 i5 j6 s7 del8
    simp only [GT.run] at h
    have hc := (cond_noneL h).1
    replace h := (cond_noneL h).2
    refine ⟨F, (slices_DeleteFunc_2int2int_impl_Board_empty_f1_iter5 F s1 del8 k F i5 j6 s7).trans ((loopC_use (slices_DeleteFunc_2int2int_impl_Board_empty_f1_s5_nat F s1 del8) hc _).trans h)⟩
  · simp only [GT.run] at h
    cases h
noncomputable def slices_DeleteFunc_2int2int_impl_Board_empty_f1_LS1 (F : Nat) : LT := (5, slices_DeleteFunc_2int2int_impl_Board_empty_f1_ls5 F) :: slices_DeleteFunc_2int2int_impl_Board_empty_f1_LS0 F
theorem slices_DeleteFunc_2int2int_impl_Board_empty_f1_lsok1 (F : Nat) : LoopsOK Try.prog (slices_DeleteFunc_2int2int_impl_Board_empty_f1_LS1 F) (bodyOf Try.f76) := loopsOK_cons slices_DeleteFunc_2int2int_impl_Board_empty_f1_keys (slices_DeleteFunc_2int2int_impl_Board_empty_f1_lok5 F) (slices_DeleteFunc_2int2int_impl_Board_empty_f1_lsok0 F)
theorem slices_DeleteFunc_2int2int_impl_Board_empty_f1_run (F : Nat) (s5 : List (List Int)) (del6 : List Int) : runS tt (slices_DeleteFunc_2int2int_impl_Board_empty_f1_tab F) (slices_DeleteFunc_2int2int_impl_Board_empty_f1_LS1 F) [] [] Try.f76 (bodyOf Try.f76) 70 [(.sl 0 0 (List.length s5)), (.fn 78 [] [(.ptr 1 0 0 16)])] [(.vec 83 (.rr 2 s5)), (.var 16 (.ri .i64 del6))] = slices_DeleteFunc_2int2int_impl_Board_empty_f1_c _ F s5 del6 (fun r => some ⟨(.sl 0 0 r.1), [(.vec 83 (.rr 2 r.2)), (.var 16 (.ri .i64 del6))], []⟩) := by kernel_rfl
def slices_DeleteFunc_2int2int_impl_Board_empty_f1_ent (F : Nat) : Ent := ⟨[true], .loud, fun args mem => match args, mem with
  | [(.sl 0 0 q_s1), (.fn 78 [] [(.ptr 1 0 0 16)])], [(.vec 83 (.rr 2 s5)), (.var 16 (.ri .i64 del6))] => some (((Nat.beq q_s1 (List.length s5)) && (slices_DeleteFunc_2int2int_impl_Board_empty_f1_p F s5 del6).isSome), ⟨(.sl 0 0 ((slices_DeleteFunc_2int2int_impl_Board_empty_f1_p F s5 del6).getD default).1), [(.vec 83 (.rr 2 ((slices_DeleteFunc_2int2int_impl_Board_empty_f1_p F s5 del6).getD default).2)), (.var 16 (.ri .i64 del6))], []⟩)
  | _, _ => none⟩
theorem slices_DeleteFunc_2int2int_impl_Board_empty_f1_fok : FunOK Try.prog 76 := funOK Try.func76 (by kernel_rfl) rfl
theorem slices_DeleteFunc_2int2int_impl_Board_empty_f1_meets (F : Nat) : Meets Try.prog 76 (slices_DeleteFunc_2int2int_impl_Board_empty_f1_ent F) := by
  refine meets_of_runS mixed ttok deep (slices_DeleteFunc_2int2int_impl_Board_empty_f1_tabok F) Try.func76 (body_some rfl) (slices_DeleteFunc_2int2int_impl_Board_empty_f1_lsok1 F) fun args mem hfit ret h => ?_
  clear hfit
  simp only [slices_DeleteFunc_2int2int_impl_Board_empty_f1_ent] at h
  split at h
  · rename_i q_s1 s5 del6
    simp only [Option.some.injEq, Prod.mk.injEq] at h
    obtain ⟨hc, rfl⟩ := h
    have hg := (and_split hc).1
    replace hc := (and_split hc).2
    obtain rfl := nbeq_nat hg
    exact ⟨[], [], 70, _, (slices_DeleteFunc_2int2int_impl_Board_empty_f1_run F s5 del6).trans ((slices_DeleteFunc_2int2int_impl_Board_empty_f1_cp _ F s5 del6 _).trans (bind_use hc _)), rfl, rfl, rfl⟩
  · cases h

/-! (loop.example/g01194/impl.Board).empty -/
noncomputable def impl_Board_empty_tab (F : Nat) : Tab := [(77, (impl_cells_ent F)), (76, (slices_DeleteFunc_2int2int_impl_Board_empty_f1_ent F))]
theorem impl_Board_empty_tabok (F : Nat) : TabOK Try.prog (impl_Board_empty_tab F) := (tab_cons (impl_cells_meets F) impl_cells_fok (tab_cons (slices_DeleteFunc_2int2int_impl_Board_empty_f1_meets F) slices_DeleteFunc_2int2int_impl_Board_empty_f1_fok tab_nil))
noncomputable def impl_Board_empty_LS0 (F : Nat) : LT := []
theorem impl_Board_empty_lsok0 (F : Nat) : LoopsOK Try.prog (impl_Board_empty_LS0 F) (bodyOf Try.f54) := loopsOK_nil
theorem impl_Board_empty_run (F : Nat) (b0 : List Int) : runS tt (impl_Board_empty_tab F) (impl_Board_empty_LS0 F) [] [] Try.f54 (bodyOf Try.f54) 70 [(.ints 16 b0)] [] = impl_Board_empty_c _ F b0 (fun r => some ⟨(.sl 0 0 r.1), [(.vec 83 (.rr 2 r.2))], []⟩) := by kernel_rfl
def impl_Board_empty_ent (F : Nat) : Ent := ⟨[], .fresh, fun args mem => match args, mem with
  | [(.ints 16 b0)], [] => some ((impl_Board_empty_p F b0).isSome, ⟨(.sl 0 0 ((impl_Board_empty_p F b0).getD default).1), [(.vec 83 (.rr 2 ((impl_Board_empty_p F b0).getD default).2))], []⟩)
  | _, _ => none⟩
theorem impl_Board_empty_fok : FunOK Try.prog 54 := funOK Try.func54 (by kernel_rfl) rfl
theorem impl_Board_empty_meets (F : Nat) : Meets Try.prog 54 (impl_Board_empty_ent F) := by
  refine meets_of_runS mixed ttok deep (impl_Board_empty_tabok F) Try.func54 (body_some rfl) (impl_Board_empty_lsok0 F) fun args mem hfit ret h => ?_
  clear hfit
  simp only [impl_Board_empty_ent] at h
  split at h
  · rename_i b0
    simp only [Option.some.injEq, Prod.mk.injEq] at h
    obtain ⟨hc, rfl⟩ := h
    exact ⟨[], [], 70, _, (impl_Board_empty_run F b0).trans ((impl_Board_empty_cp _ F b0 _).trans (bind_use hc _)), rfl, rfl, rfl⟩
  · cases h

/-! (loop.example/g01194/impl.Board).placements -/
noncomputable def impl_Board_placements_tab (F : Nat) : Tab := [(54, (impl_Board_empty_ent F))]
theorem impl_Board_placements_tabok (F : Nat) : TabOK Try.prog (impl_Board_placements_tab F) := (tab_cons (impl_Board_empty_meets F) impl_Board_empty_fok tab_nil)
noncomputable def impl_Board_placements_LS0 (F : Nat) : LT := []
theorem impl_Board_placements_lsok0 (F : Nat) : LoopsOK Try.prog (impl_Board_placements_LS0 F) (bodyOf Try.f46) := loopsOK_nil
theorem impl_Board_placements_keys : keysOK (bodyOf Try.f46) = true := by kernel_rfl
def impl_Board_placements_st3 (t83 : Nat) (t94 : Int) (t87 : List (List Int)) (t105 : Int) (out6 : List (List Int)) : St := ⟨expand 29 0 [3, 8, 9, 10] [(.sl 0 0 (List.length out6)), (.sl 1 0 t83), (.int .i64 t94), (.int .i64 t105)], [(.vec 40 (.rr 3 out6)), (.vec 83 (.rr 2 t87))], 0, []⟩
def impl_Board_placements_o3 (t83 : Nat) (t94 : Int) (t87 : List (List Int)) (x : List (List Int)) : GT := (.out (.exit 0 ⟨expand 29 0 [3] [(.sl 0 0 (List.length x))], [(.vec 40 (.rr 3 x))], 0, []⟩))
def impl_Board_placements_ls3 (F : Nat) : LoopS := ⟨29, [3, 8, 9, 10], [], [3], [], [2], [], [], fun vals mem np killed => match vals, mem, np, killed with
  | [(.sl 0 0 q_out1), (.sl 1 0 t83), (.int .i64 t94), (.int .i64 t105)], [(.vec 40 (.rr 3 out6)), (.vec 83 (.rr 2 t87))], 0, [] => .br ((Nat.beq q_out1 (List.length out6)) && (impl_Board_placements_l3 F t83 t94 t87 t105 out6).isSome) (impl_Board_placements_o3 t83 t94 t87 ((impl_Board_placements_l3 F t83 t94 t87 t105 out6).getD default)) .fail
  | _, _, _, _ => .fail⟩
theorem impl_Board_placements_step3 (F : Nat) (t83 : Nat) (t94 : Int) (t87 : List (List Int)) (t105 : Int) (out6 : List (List Int)) {R : Type} (k : Out → Option R) : stepS tt (impl_Board_placements_tab F) (impl_Board_placements_LS0 F) 70 (impl_Board_placements_ls3 F) (loopAt 3 (bodyOf Try.f46)) (impl_Board_placements_st3 t83 t94 t87 t105 out6) k = impl_Board_placements_s3 F t83 t94 t87 R (t105, out6) (fun s => k (.norm (impl_Board_placements_st3 t83 t94 t87 s.1 s.2))) (fun x => (impl_Board_placements_o3 t83 t94 t87 x).run k) := by kernel_rfl
theorem impl_Board_placements_iter3 (F : Nat) (t83 : Nat) (t94 : Int) (t87 : List (List Int)) {R : Type} (k : Out → Option R) : ∀ (n : Nat) (t105 : Int) (out6 : List (List Int)), iterS tt (impl_Board_placements_tab F) (impl_Board_placements_LS0 F) 70 (impl_Board_placements_ls3 F) (loopAt 3 (bodyOf Try.f46)) n (impl_Board_placements_st3 t83 t94 t87 t105 out6) k = loopC (impl_Board_placements_s3 F t83 t94 t87) n (t105, out6) (fun x => (impl_Board_placements_o3 t83 t94 t87 x).run k)
  | 0, t105, out6 => rfl
  | n + 1, t105, out6 => (iterS_succ tt (impl_Board_placements_tab F) (impl_Board_placements_LS0 F) 70 (impl_Board_placements_ls3 F) (loopAt 3 (bodyOf Try.f46)) n (impl_Board_placements_st3 t83 t94 t87 t105 out6) k).trans ((impl_Board_placements_step3 F t83 t94 t87 t105 out6 (nextK (iterS tt (impl_Board_placements_tab F) (impl_Board_placements_LS0 F) 70 (impl_Board_placements_ls3 F) (loopAt 3 (bodyOf Try.f46)) n) k)).trans (congrArg (fun kn => impl_Board_placements_s3 F t83 t94 t87 R (t105, out6) kn _) (funext (fun ⟨t105, out6⟩ => impl_Board_placements_iter3 F t83 t94 t87 k n t105 out6))))
theorem impl_Board_placements_lok3 (F : Nat) : LoopOK Try.prog (loopAt 3 (bodyOf Try.f46)) (impl_Board_placements_ls3 F) := by
  refine loopOK_of mixed ttok deep (impl_Board_placements_tabok F) (loopsOK_at (impl_Board_placements_lsok0 F) 3) (fuel := 70) fun R vals mem np killed k x h => ?_
  simp only [impl_Board_placements_ls3] at h
  split at h
  · rename_i q_out1 t83 t94 t105 out6 t87
    simp only [GT.run] at h
    have hc := (cond_noneL h).1
    replace h := (cond_noneL h).2
    have hg := (and_split hc).1
    replace hc := (and_split hc).2
    obtain rfl := nbeq_nat hg
    refine ⟨F, (impl_Board_placements_iter3 F t83 t94 t87 k F t105 out6).trans ((loopC_use (impl_Board_placements_s3_nat F t83 t94 t87) hc _).trans h)⟩
  · simp only [GT.run] at h
    cases h
noncomputable def impl_Board_placements_LS1 (F : Nat) : LT := (3, impl_Board_placements_ls3 F) :: impl_Board_placements_LS0 F
theorem impl_Board_placements_lsok1 (F : Nat) : LoopsOK Try.prog (impl_Board_placements_LS1 F) (bodyOf Try.f46) := loopsOK_cons impl_Board_placements_keys (impl_Board_placements_lok3 F) (impl_Board_placements_lsok0 F)
theorem impl_Board_placements_run (F : Nat) (b0 : List Int) : runS tt (impl_Board_placements_tab F) (impl_Board_placements_LS1 F) [] [] Try.f46 (bodyOf Try.f46) 70 [(.ints 16 b0)] [] = impl_Board_placements_c _ F b0 (fun r => some ⟨(.sl 0 0 (List.length r)), [(.vec 40 (.rr 3 r))], []⟩) := by kernel_rfl
def impl_Board_placements_ent (F : Nat) : Ent := ⟨[], .fresh, fun args mem => match args, mem with
  | [(.ints 16 b0)], [] => some ((impl_Board_placements_p F b0).isSome, ⟨(.sl 0 0 (List.length ((impl_Board_placements_p F b0).getD default))), [(.vec 40 (.rr 3 ((impl_Board_placements_p F b0).getD default)))], []⟩)
  | _, _ => none⟩
theorem impl_Board_placements_fok : FunOK Try.prog 46 := funOK Try.func46 (by kernel_rfl) rfl
theorem impl_Board_placements_meets (F : Nat) : Meets Try.prog 46 (impl_Board_placements_ent F) := by
  refine meets_of_runS mixed ttok deep (impl_Board_placements_tabok F) Try.func46 (body_some rfl) (impl_Board_placements_lsok1 F) fun args mem hfit ret h => ?_
  clear hfit
  simp only [impl_Board_placements_ent] at h
  split at h
  · rename_i b0
    simp only [Option.some.injEq, Prod.mk.injEq] at h
    obtain ⟨hc, rfl⟩ := h
    exact ⟨[], [], 70, _, (impl_Board_placements_run F b0).trans ((impl_Board_placements_cp _ F b0 _).trans (bind_use hc _)), rfl, rfl, rfl⟩
  · cases h

/-! (loop.example/g01194/impl.Board).placed -/
noncomputable def impl_Board_placed_tab (F : Nat) : Tab := []
theorem impl_Board_placed_tabok (F : Nat) : TabOK Try.prog (impl_Board_placed_tab F) := tab_nil
noncomputable def impl_Board_placed_LS0 (F : Nat) : LT := []
theorem impl_Board_placed_lsok0 (F : Nat) : LoopsOK Try.prog (impl_Board_placed_LS0 F) (bodyOf Try.f48) := loopsOK_nil
theorem impl_Board_placed_run (F : Nat) (b0 : List Int) (p1 : List Int) : runS tt (impl_Board_placed_tab F) (impl_Board_placed_LS0 F) [] [] Try.f48 (bodyOf Try.f48) 70 [(.ints 16 b0), (.ints 3 p1)] [] = impl_Board_placed_c _ b0 p1 (fun r => some ⟨(.ints 16 r), [], []⟩) := by kernel_rfl
def impl_Board_placed_ent (F : Nat) : Ent := ⟨[], .quiet, fun args mem => match args, mem with
  | [(.ints 16 b0), (.ints 3 p1)], [] => some ((impl_Board_placed_p b0 p1).isSome, ⟨(.ints 16 ((impl_Board_placed_p b0 p1).getD default)), [], []⟩)
  | _, _ => none⟩
theorem impl_Board_placed_fok : FunOK Try.prog 48 := funOK Try.func48 (by kernel_rfl) rfl
theorem impl_Board_placed_meets (F : Nat) : Meets Try.prog 48 (impl_Board_placed_ent F) := by
  refine meets_of_runS mixed ttok deep (impl_Board_placed_tabok F) Try.func48 (body_some rfl) (impl_Board_placed_lsok0 F) fun args mem hfit ret h => ?_
  clear hfit
  simp only [impl_Board_placed_ent] at h
  split at h
  · rename_i b0 p1
    simp only [Option.some.injEq, Prod.mk.injEq] at h
    obtain ⟨hc, rfl⟩ := h
    exact ⟨[], [], 70, _, (impl_Board_placed_run F b0 p1).trans ((impl_Board_placed_cp _ b0 p1 _).trans (bind_use hc _)), rfl, rfl, rfl⟩
  · cases h

/-! (loop.example/g01194/impl.Board).refuted -/
noncomputable def impl_Board_refuted_n1_tab (F : Nat) : Tab := [(46, (impl_Board_placements_ent F)), (48, (impl_Board_placed_ent F)), (29, (impl_Board_lasts_n1_ent F))]
theorem impl_Board_refuted_n1_tabok (F : Nat) : TabOK Try.prog (impl_Board_refuted_n1_tab F) := (tab_cons (impl_Board_placements_meets F) impl_Board_placements_fok (tab_cons (impl_Board_placed_meets F) impl_Board_placed_fok (tab_cons (impl_Board_lasts_n1_meets F) impl_Board_lasts_n1_fok tab_nil)))
noncomputable def impl_Board_refuted_n1_LS0 (F : Nat) : LT := []
theorem impl_Board_refuted_n1_lsok0 (F : Nat) : LoopsOK Try.prog (impl_Board_refuted_n1_LS0 F) (bodyOf Try.f41) := loopsOK_nil
theorem impl_Board_refuted_n1_keys : keysOK (bodyOf Try.f41) = true := by kernel_rfl
def impl_Board_refuted_n1_st2 (t109 : Int) (b11 : List Int) (t913 : List (List Int)) (t1110 : Int) : St := ⟨expand 24 0 [1, 2, 4, 9, 10, 11] [(.int .i64 (1 : Int)), (.ptr 0 0 0 16), (.ptr 1 0 0 3), (.sl 2 0 (List.length t913)), (.int .i64 t109), (.int .i64 t1110)], [(.var 16 (.ri .i64 b11)), (.var 3 (.ri .i64 [(0 : Int), (0 : Int), (0 : Int)])), (.vec 40 (.rr 3 t913))], 0, []⟩
def impl_Board_refuted_n1_o2 (t109 : Int) (b11 : List Int) (t913 : List (List Int)) (x : Bool × List Int) : GT := (.br x.1 (.out (.ret ⟨expand 24 0 [4, 5] [(.ptr 0 0 0 3), (.bool true)], [(.var 3 (.ri .i64 x.2))], 0, []⟩)) (.out (.exit 0 ⟨expand 24 0 [4] [(.ptr 0 0 0 3)], [(.var 3 (.ri .i64 [(0 : Int), (0 : Int), (0 : Int)]))], 0, []⟩)))
def impl_Board_refuted_n1_ls2 (F : Nat) : LoopS := ⟨24, [1, 2, 4, 9, 10, 11], [], [4], [], [4, 5], [], [], fun vals mem np killed => match vals, mem, np, killed with
  | [(.int .i64 q_n0), (.ptr 0 0 0 16), (.ptr 1 0 0 3), (.sl 2 0 q_t98), (.int .i64 t109), (.int .i64 t1110)], [(.var 16 (.ri .i64 b11)), (.var 3 (.ri .i64 q_t412)), (.vec 40 (.rr 3 t913))], 0, [] => .br ((q_n0 == (1 : Int)) && ((q_t412 == ([(0 : Int), (0 : Int), (0 : Int)] : List Int)) && ((Nat.beq q_t98 (List.length t913)) && (impl_Board_refuted_n1_l2 F t109 b11 t913 t1110).isSome))) (impl_Board_refuted_n1_o2 t109 b11 t913 ((impl_Board_refuted_n1_l2 F t109 b11 t913 t1110).getD default)) .fail
  | _, _, _, _ => .fail⟩
theorem impl_Board_refuted_n1_step2 (F : Nat) (t109 : Int) (b11 : List Int) (t913 : List (List Int)) (t1110 : Int) {R : Type} (k : Out → Option R) : stepS tt (impl_Board_refuted_n1_tab F) (impl_Board_refuted_n1_LS0 F) 70 (impl_Board_refuted_n1_ls2 F) (loopAt 2 (bodyOf Try.f41)) (impl_Board_refuted_n1_st2 t109 b11 t913 t1110) k = impl_Board_refuted_n1_s2 F t109 b11 t913 R t1110 (fun s => k (.norm (impl_Board_refuted_n1_st2 t109 b11 t913 s))) (fun x => (impl_Board_refuted_n1_o2 t109 b11 t913 x).run k) := by kernel_rfl
theorem impl_Board_refuted_n1_iter2 (F : Nat) (t109 : Int) (b11 : List Int) (t913 : List (List Int)) {R : Type} (k : Out → Option R) : ∀ (n : Nat) (t1110 : Int), iterS tt (impl_Board_refuted_n1_tab F) (impl_Board_refuted_n1_LS0 F) 70 (impl_Board_refuted_n1_ls2 F) (loopAt 2 (bodyOf Try.f41)) n (impl_Board_refuted_n1_st2 t109 b11 t913 t1110) k = loopC (impl_Board_refuted_n1_s2 F t109 b11 t913) n t1110 (fun x => (impl_Board_refuted_n1_o2 t109 b11 t913 x).run k)
  | 0, t1110 => rfl
  | n + 1, t1110 => (iterS_succ tt (impl_Board_refuted_n1_tab F) (impl_Board_refuted_n1_LS0 F) 70 (impl_Board_refuted_n1_ls2 F) (loopAt 2 (bodyOf Try.f41)) n (impl_Board_refuted_n1_st2 t109 b11 t913 t1110) k).trans ((impl_Board_refuted_n1_step2 F t109 b11 t913 t1110 (nextK (iterS tt (impl_Board_refuted_n1_tab F) (impl_Board_refuted_n1_LS0 F) 70 (impl_Board_refuted_n1_ls2 F) (loopAt 2 (bodyOf Try.f41)) n) k)).trans (congrArg (fun kn => impl_Board_refuted_n1_s2 F t109 b11 t913 R t1110 kn _) (funext (fun t1110 => impl_Board_refuted_n1_iter2 F t109 b11 t913 k n t1110))))
theorem impl_Board_refuted_n1_lok2 (F : Nat) : LoopOK Try.prog (loopAt 2 (bodyOf Try.f41)) (impl_Board_refuted_n1_ls2 F) := by
  refine loopOK_of mixed ttok deep (impl_Board_refuted_n1_tabok F) (loopsOK_at (impl_Board_refuted_n1_lsok0 F) 2) (fuel := 70) fun R vals mem np killed k x h => ?_
  simp only [impl_Board_refuted_n1_ls2] at h
  split at h
  · rename_i q_n0 q_t98 t109 t1110 b11 q_t412 t913
    simp only [GT.run] at h
    have hc := (cond_noneL h).1
    replace h := (cond_noneL h).2
    have hg := (and_split hc).1
    replace hc := (and_split hc).2
    obtain rfl := beq_int hg
    have hg := (and_split hc).1
    replace hc := (and_split hc).2
    obtain rfl := beq_li hg
    have hg := (and_split hc).1
    replace hc := (and_split hc).2
    obtain rfl := nbeq_nat hg
    refine ⟨F, (impl_Board_refuted_n1_iter2 F t109 b11 t913 k F t1110).trans ((loopC_use (impl_Board_refuted_n1_s2_nat F t109 b11 t913) hc _).trans h)⟩
  · simp only [GT.run] at h
    cases h
noncomputable def impl_Board_refuted_n1_LS1 (F : Nat) : LT := (2, impl_Board_refuted_n1_ls2 F) :: impl_Board_refuted_n1_LS0 F
theorem impl_Board_refuted_n1_lsok1 (F : Nat) : LoopsOK Try.prog (impl_Board_refuted_n1_LS1 F) (bodyOf Try.f41) := loopsOK_cons impl_Board_refuted_n1_keys (impl_Board_refuted_n1_lok2 F) (impl_Board_refuted_n1_lsok0 F)
theorem impl_Board_refuted_n1_run (F : Nat) (b0 : List Int) : runS tt (impl_Board_refuted_n1_tab F) (impl_Board_refuted_n1_LS1 F) [] [] Try.f41 (bodyOf Try.f41) 70 [(.ints 16 b0), (.int .i64 (1 : Int))] [] = impl_Board_refuted_n1_c _ F b0 (fun r => some ⟨(.tup [(.ints 3 r.1), (.bool r.2)]), [], []⟩) := by kernel_rfl
def impl_Board_refuted_n1_ent (F : Nat) : Ent := ⟨[], .quiet, fun args mem => match args, mem with
  | [(.ints 16 b0), (.int .i64 q_n1)], [] => bif (q_n1 == (1 : Int)) then some ((impl_Board_refuted_n1_p F b0).isSome, ⟨(.tup [(.ints 3 ((impl_Board_refuted_n1_p F b0).getD default).1), (.bool ((impl_Board_refuted_n1_p F b0).getD default).2)]), [], []⟩) else none
  | _, _ => none⟩
theorem impl_Board_refuted_n1_fok : FunOK Try.prog 41 := funOK Try.func41 (by kernel_rfl) rfl
theorem impl_Board_refuted_n1_meets (F : Nat) : Meets Try.prog 41 (impl_Board_refuted_n1_ent F) := by
  refine meets_of_runS mixed ttok deep (impl_Board_refuted_n1_tabok F) Try.func41 (body_some rfl) (impl_Board_refuted_n1_lsok1 F) fun args mem hfit ret h => ?_
  clear hfit
  simp only [impl_Board_refuted_n1_ent] at h
  split at h
  · rename_i b0 q_n1
    have hg0 := (cond_noneL h).1
    replace h := (cond_noneL h).2
    obtain rfl := beq_int hg0
    simp only [Option.some.injEq, Prod.mk.injEq] at h
    obtain ⟨hc, rfl⟩ := h
    exact ⟨[], [], 70, _, (impl_Board_refuted_n1_run F b0).trans ((impl_Board_refuted_n1_cp _ F b0 _).trans (bind_use hc _)), rfl, rfl, rfl⟩
  · cases h

/-! (loop.example/g01194/impl.Board).isSafe -/
noncomputable def impl_Board_isSafe_n2_tab (F : Nat) : Tab := [(40, (impl_Board_slides_ent F)), (41, (impl_Board_refuted_n1_ent F))]
theorem impl_Board_isSafe_n2_tabok (F : Nat) : TabOK Try.prog (impl_Board_isSafe_n2_tab F) := (tab_cons (impl_Board_slides_meets F) impl_Board_slides_fok (tab_cons (impl_Board_refuted_n1_meets F) impl_Board_refuted_n1_fok tab_nil))
noncomputable def impl_Board_isSafe_n2_LS0 (F : Nat) : LT := []
theorem impl_Board_isSafe_n2_lsok0 (F : Nat) : LoopsOK Try.prog (impl_Board_isSafe_n2_LS0 F) (bodyOf Try.f36) := loopsOK_nil
theorem impl_Board_isSafe_n2_run (F : Nat) (b0 : List Int) (direction1 : Int) : runS tt (impl_Board_isSafe_n2_tab F) (impl_Board_isSafe_n2_LS0 F) [] [] Try.f36 (bodyOf Try.f36) 70 [(.ints 16 b0), (.int .i64 direction1), (.int .i64 (2 : Int))] [] = impl_Board_isSafe_n2_c _ F b0 direction1 (fun r => some ⟨(.bool r), [], []⟩) := by kernel_rfl
def impl_Board_isSafe_n2_ent (F : Nat) : Ent := ⟨[], .quiet, fun args mem => match args, mem with
  | [(.ints 16 b0), (.int .i64 direction1), (.int .i64 q_n2)], [] => bif (q_n2 == (2 : Int)) then some ((impl_Board_isSafe_n2_p F b0 direction1).isSome, ⟨(.bool ((impl_Board_isSafe_n2_p F b0 direction1).getD default)), [], []⟩) else none
  | _, _ => none⟩
theorem impl_Board_isSafe_n2_fok : FunOK Try.prog 36 := funOK Try.func36 (by kernel_rfl) rfl
theorem impl_Board_isSafe_n2_meets (F : Nat) : Meets Try.prog 36 (impl_Board_isSafe_n2_ent F) := by
  refine meets_of_runS mixed ttok deep (impl_Board_isSafe_n2_tabok F) Try.func36 (body_some rfl) (impl_Board_isSafe_n2_lsok0 F) fun args mem hfit ret h => ?_
  clear hfit
  simp only [impl_Board_isSafe_n2_ent] at h
  split at h
  · rename_i b0 direction1 q_n2
    have hg0 := (cond_noneL h).1
    replace h := (cond_noneL h).2
    obtain rfl := beq_int hg0
    simp only [Option.some.injEq, Prod.mk.injEq] at h
    obtain ⟨hc, rfl⟩ := h
    exact ⟨[], [], 70, _, (impl_Board_isSafe_n2_run F b0 direction1).trans ((impl_Board_isSafe_n2_cp _ F b0 direction1 _).trans (bind_use hc _)), rfl, rfl, rfl⟩
  · cases h

/-! (loop.example/g01194/impl.Board).lasts$1 -/
noncomputable def impl_Board_lasts_f1_n2_tab (F : Nat) : Tab := [(36, (impl_Board_isSafe_n2_ent F))]
theorem impl_Board_lasts_f1_n2_tabok (F : Nat) : TabOK Try.prog (impl_Board_lasts_f1_n2_tab F) := (tab_cons (impl_Board_isSafe_n2_meets F) impl_Board_isSafe_n2_fok tab_nil)
noncomputable def impl_Board_lasts_f1_n2_LS0 (F : Nat) : LT := []
theorem impl_Board_lasts_f1_n2_lsok0 (F : Nat) : LoopsOK Try.prog (impl_Board_lasts_f1_n2_LS0 F) (bodyOf Try.f67) := loopsOK_nil
theorem impl_Board_lasts_f1_n2_run (F : Nat) (d0 : Int) (a17 : List Int) : runS tt (impl_Board_lasts_f1_n2_tab F) (impl_Board_lasts_f1_n2_LS0 F) [] [] Try.f67 (bodyOf Try.f67) 70 [(.int .i64 d0), (.ptr 0 0 0 16), (.ptr 1 0 0 1)] [(.var 16 (.ri .i64 a17)), (.var 1 (.ri .i64 [(2 : Int)]))] = impl_Board_lasts_f1_n2_c _ F d0 a17 (fun r => some ⟨(.bool r), [(.var 16 (.ri .i64 a17)), (.var 1 (.ri .i64 [(2 : Int)]))], []⟩) := by kernel_rfl
def impl_Board_lasts_f1_n2_ent (F : Nat) : Ent := ⟨[], .quiet, fun args mem => match args, mem with
  | [(.int .i64 d0), (.ptr 0 0 0 16), (.ptr 1 0 0 1)], [(.var 16 (.ri .i64 a17)), (.var 1 (.ri .i64 q_a28))] => bif (q_a28 == ([(2 : Int)] : List Int)) then some ((impl_Board_lasts_f1_n2_p F d0 a17).isSome, ⟨(.bool ((impl_Board_lasts_f1_n2_p F d0 a17).getD default)), [], []⟩) else none
  | _, _ => none⟩
theorem impl_Board_lasts_f1_n2_fok : FunOK Try.prog 67 := funOK Try.func67 (by kernel_rfl) rfl
theorem impl_Board_lasts_f1_n2_meets (F : Nat) : Meets Try.prog 67 (impl_Board_lasts_f1_n2_ent F) := by
  refine meets_of_runS mixed ttok deep (impl_Board_lasts_f1_n2_tabok F) Try.func67 (body_some rfl) (impl_Board_lasts_f1_n2_lsok0 F) fun args mem hfit ret h => ?_
  clear hfit
  simp only [impl_Board_lasts_f1_n2_ent] at h
  split at h
  · rename_i d0 a17 q_a28
    have hg0 := (cond_noneL h).1
    replace h := (cond_noneL h).2
    obtain rfl := beq_li hg0
    simp only [Option.some.injEq, Prod.mk.injEq] at h
    obtain ⟨hc, rfl⟩ := h
    exact ⟨[], [], 70, _, (impl_Board_lasts_f1_n2_run F d0 a17).trans ((impl_Board_lasts_f1_n2_cp _ F d0 a17 _).trans (bind_use hc _)), rfl, rfl, rfl⟩
  · cases h
end Go.Proofs.Ytgdokdkcbgkekaf
