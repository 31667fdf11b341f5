/-
Pure functions and what the code of them does, by program; without conditions.
-/
import Derived.Test.YtgpadaadcepgaaaTHP3
import Derived.Test.YtgpadaadcepgaaaTHS2
namespace Go.Proofs.Ytgpadaadcepgaaa
open Go Go.Lv Go.Lv.P Go.Proofs
set_option linter.unusedVariables false
set_option linter.unusedSimpArgs false
set_option maxRecDepth 100000
/-! slices.DeleteFunc[[][2]int,[2]int] -/
noncomputable def slices_DeleteFunc_2int2int_impl_Board_empty_f1_tab (F : Nat) : Tab := [(115, (slices_IndexFunc_2int2int_impl_Board_empty_f1_ent F)), (111, (impl_Board_empty_f1_ent F))]
theorem slices_DeleteFunc_2int2int_impl_Board_empty_f1_tabok (F : Nat) : TabOK Try.prog (slices_DeleteFunc_2int2int_impl_Board_empty_f1_tab F) := (tab_cons (slices_IndexFunc_2int2int_impl_Board_empty_f1_meets F) slices_IndexFunc_2int2int_impl_Board_empty_f1_fok (tab_cons (impl_Board_empty_f1_meets F) impl_Board_empty_f1_fok tab_nil))
noncomputable def slices_DeleteFunc_2int2int_impl_Board_empty_f1_LS0 (F : Nat) : LT := []
theorem slices_DeleteFunc_2int2int_impl_Board_empty_f1_lsok0 (F : Nat) : LoopsOK Try.prog (slices_DeleteFunc_2int2int_impl_Board_empty_f1_LS0 F) (bodyOf Try.f109) := loopsOK_nil
theorem slices_DeleteFunc_2int2int_impl_Board_empty_f1_keys : keysOK (bodyOf Try.f109) = true := by kernel_rfl
def slices_DeleteFunc_2int2int_impl_Board_empty_f1_st5 (s1 : Nat) (del8 : List Int) (i5 : Int) (j6 : Int) (s7 : List (List Int)) : St := ⟨expand 42 0 [0, 1, 5, 6] [(.sl 0 0 s1), (.fn 111 [] [(.ptr 1 0 0 16)]), (.int .i64 i5), (.int .i64 j6)], [(.vec 26 (.rr 2 s7)), (.var 16 (.ri .i64 del8))], 2, []⟩
def slices_DeleteFunc_2int2int_impl_Board_empty_f1_o5 (s1 : Nat) (del8 : List Int) (x : Int × List (List Int)) : GT := (.out (.exit 0 ⟨expand 42 0 [0, 5] [(.sl 0 0 s1), (.int .i64 x.1)], [(.vec 26 (.rr 2 x.2)), (.var 16 (.ri .i64 del8))], 2, []⟩))
def slices_DeleteFunc_2int2int_impl_Board_empty_f1_ls5 (F : Nat) : LoopS := ⟨42, [0, 1, 5, 6], [], [0, 5], [], [4], [], [], fun vals mem np killed => match vals, mem, np, killed with
  | [(.sl 0 0 s1), (.fn 111 [] [(.ptr 1 0 0 16)]), (.int .i64 i5), (.int .i64 j6)], [(.vec 26 (.rr 2 s7)), (.var 16 (.ri .i64 del8))], 2, [] => .br (slices_DeleteFunc_2int2int_impl_Board_empty_f1_l5 F s1 del8 i5 j6 s7).isSome (slices_DeleteFunc_2int2int_impl_Board_empty_f1_o5 s1 del8 ((slices_DeleteFunc_2int2int_impl_Board_empty_f1_l5 F s1 del8 i5 j6 s7).getD default)) .fail
  | _, _, _, _ => .fail⟩
theorem slices_DeleteFunc_2int2int_impl_Board_empty_f1_step5 (F : Nat) (s1 : Nat) (del8 : List Int) (i5 : Int) (j6 : Int) (s7 : List (List Int)) {R : Type} (k : Out → Option R) : stepS tt (slices_DeleteFunc_2int2int_impl_Board_empty_f1_tab F) (slices_DeleteFunc_2int2int_impl_Board_empty_f1_LS0 F) 70 (slices_DeleteFunc_2int2int_impl_Board_empty_f1_ls5 F) (loopAt 5 (bodyOf Try.f109)) (slices_DeleteFunc_2int2int_impl_Board_empty_f1_st5 s1 del8 i5 j6 s7) k = slices_DeleteFunc_2int2int_impl_Board_empty_f1_s5 F s1 del8 R (i5, j6, s7) (fun s => k (.norm (slices_DeleteFunc_2int2int_impl_Board_empty_f1_st5 s1 del8 s.1 s.2.1 s.2.2))) (fun x => (slices_DeleteFunc_2int2int_impl_Board_empty_f1_o5 s1 del8 x).run k) := by kernel_rfl
theorem slices_DeleteFunc_2int2int_impl_Board_empty_f1_iter5 (F : Nat) (s1 : Nat) (del8 : List Int) {R : Type} (k : Out → Option R) : ∀ (n : Nat) (i5 : Int) (j6 : Int) (s7 : List (List Int)), iterS tt (slices_DeleteFunc_2int2int_impl_Board_empty_f1_tab F) (slices_DeleteFunc_2int2int_impl_Board_empty_f1_LS0 F) 70 (slices_DeleteFunc_2int2int_impl_Board_empty_f1_ls5 F) (loopAt 5 (bodyOf Try.f109)) n (slices_DeleteFunc_2int2int_impl_Board_empty_f1_st5 s1 del8 i5 j6 s7) k = loopC (slices_DeleteFunc_2int2int_impl_Board_empty_f1_s5 F s1 del8) n (i5, j6, s7) (fun x => (slices_DeleteFunc_2int2int_impl_Board_empty_f1_o5 s1 del8 x).run k)
  | 0, i5, j6, s7 => rfl
  | n + 1, i5, j6, s7 => (iterS_succ tt (slices_DeleteFunc_2int2int_impl_Board_empty_f1_tab F) (slices_DeleteFunc_2int2int_impl_Board_empty_f1_LS0 F) 70 (slices_DeleteFunc_2int2int_impl_Board_empty_f1_ls5 F) (loopAt 5 (bodyOf Try.f109)) n (slices_DeleteFunc_2int2int_impl_Board_empty_f1_st5 s1 del8 i5 j6 s7) k).trans ((slices_DeleteFunc_2int2int_impl_Board_empty_f1_step5 F s1 del8 i5 j6 s7 (nextK (iterS tt (slices_DeleteFunc_2int2int_impl_Board_empty_f1_tab F) (slices_DeleteFunc_2int2int_impl_Board_empty_f1_LS0 F) 70 (slices_DeleteFunc_2int2int_impl_Board_empty_f1_ls5 F) (loopAt 5 (bodyOf Try.f109)) n) k)).trans (congrArg (fun kn => slices_DeleteFunc_2int2int_impl_Board_empty_f1_s5 F s1 del8 R (i5, j6, s7) kn _) (funext (fun ⟨i5, j6, s7⟩ => slices_DeleteFunc_2int2int_impl_Board_empty_f1_iter5 F s1 del8 k n i5 j6 s7))))
theorem slices_DeleteFunc_2int2int_impl_Board_empty_f1_lok5 (F : Nat) : LoopOK Try.prog (loopAt 5 (bodyOf Try.f109)) (slices_DeleteFunc_2int2int_impl_Board_empty_f1_ls5 F) := by
  refine loopOK_of mixed ttok deep (slices_DeleteFunc_2int2int_impl_Board_empty_f1_tabok F) (loopsOK_at (slices_DeleteFunc_2int2int_impl_Board_empty_f1_lsok0 F) 5) (fuel := 70) fun R vals mem np killed k x h => ?_
  simp only [slices_DeleteFunc_2int2int_impl_Board_empty_f1_ls5] at h
  split at h
  · rename_i s1 i5 j6 s7 del8
    simp only [GT.run] at h
    have hc := (cond_noneL h).1
    replace h := (cond_noneL h).2
    refine ⟨F, (slices_DeleteFunc_2int2int_impl_Board_empty_f1_iter5 F s1 del8 k F i5 j6 s7).trans ((loopC_use (slices_DeleteFunc_2int2int_impl_Board_empty_f1_s5_nat F s1 del8) hc _).trans h)⟩
  · simp only [GT.run] at h
    cases h
noncomputable def slices_DeleteFunc_2int2int_impl_Board_empty_f1_LS1 (F : Nat) : LT := (5, slices_DeleteFunc_2int2int_impl_Board_empty_f1_ls5 F) :: slices_DeleteFunc_2int2int_impl_Board_empty_f1_LS0 F
theorem slices_DeleteFunc_2int2int_impl_Board_empty_f1_lsok1 (F : Nat) : LoopsOK Try.prog (slices_DeleteFunc_2int2int_impl_Board_empty_f1_LS1 F) (bodyOf Try.f109) := loopsOK_cons slices_DeleteFunc_2int2int_impl_Board_empty_f1_keys (slices_DeleteFunc_2int2int_impl_Board_empty_f1_lok5 F) (slices_DeleteFunc_2int2int_impl_Board_empty_f1_lsok0 F)
theorem slices_DeleteFunc_2int2int_impl_Board_empty_f1_run (F : Nat) (s5 : List (List Int)) (del6 : List Int) : runS tt (slices_DeleteFunc_2int2int_impl_Board_empty_f1_tab F) (slices_DeleteFunc_2int2int_impl_Board_empty_f1_LS1 F) [] [] Try.f109 (bodyOf Try.f109) 70 [(.sl 0 0 (List.length s5)), (.fn 111 [] [(.ptr 1 0 0 16)])] [(.vec 26 (.rr 2 s5)), (.var 16 (.ri .i64 del6))] = slices_DeleteFunc_2int2int_impl_Board_empty_f1_c _ F s5 del6 (fun r => some ⟨(.sl 0 0 r.1), [(.vec 26 (.rr 2 r.2)), (.var 16 (.ri .i64 del6))], []⟩) := by kernel_rfl
def slices_DeleteFunc_2int2int_impl_Board_empty_f1_ent (F : Nat) : Ent := ⟨[true], .loud, fun args mem => match args, mem with
  | [(.sl 0 0 q_s1), (.fn 111 [] [(.ptr 1 0 0 16)])], [(.vec 26 (.rr 2 s5)), (.var 16 (.ri .i64 del6))] => some (((Nat.beq q_s1 (List.length s5)) && (slices_DeleteFunc_2int2int_impl_Board_empty_f1_p F s5 del6).isSome), ⟨(.sl 0 0 ((slices_DeleteFunc_2int2int_impl_Board_empty_f1_p F s5 del6).getD default).1), [(.vec 26 (.rr 2 ((slices_DeleteFunc_2int2int_impl_Board_empty_f1_p F s5 del6).getD default).2)), (.var 16 (.ri .i64 del6))], []⟩)
  | _, _ => none⟩
theorem slices_DeleteFunc_2int2int_impl_Board_empty_f1_fok : FunOK Try.prog 109 := funOK Try.func109 (by kernel_rfl) rfl
theorem slices_DeleteFunc_2int2int_impl_Board_empty_f1_meets (F : Nat) : Meets Try.prog 109 (slices_DeleteFunc_2int2int_impl_Board_empty_f1_ent F) := by
  refine meets_of_runS mixed ttok deep (slices_DeleteFunc_2int2int_impl_Board_empty_f1_tabok F) Try.func109 (body_some rfl) (slices_DeleteFunc_2int2int_impl_Board_empty_f1_lsok1 F) fun args mem hfit ret h => ?_
  clear hfit
  simp only [slices_DeleteFunc_2int2int_impl_Board_empty_f1_ent] at h
  split at h
  · rename_i q_s1 s5 del6
    simp only [Option.some.injEq, Prod.mk.injEq] at h
    obtain ⟨hc, rfl⟩ := h
    have hg := (and_split hc).1
    replace hc := (and_split hc).2
    obtain rfl := nbeq_nat hg
    exact ⟨[], [], 70, _, (slices_DeleteFunc_2int2int_impl_Board_empty_f1_run F s5 del6).trans ((slices_DeleteFunc_2int2int_impl_Board_empty_f1_cp _ F s5 del6 _).trans (bind_use hc _)), rfl, rfl, rfl⟩
  · cases h

/-! (loop.example/g01194/impl.Board).empty -/
noncomputable def impl_Board_empty_tab (F : Nat) : Tab := [(110, (impl_cells_ent F)), (109, (slices_DeleteFunc_2int2int_impl_Board_empty_f1_ent F))]
theorem impl_Board_empty_tabok (F : Nat) : TabOK Try.prog (impl_Board_empty_tab F) := (tab_cons (impl_cells_meets F) impl_cells_fok (tab_cons (slices_DeleteFunc_2int2int_impl_Board_empty_f1_meets F) slices_DeleteFunc_2int2int_impl_Board_empty_f1_fok tab_nil))
noncomputable def impl_Board_empty_LS0 (F : Nat) : LT := []
theorem impl_Board_empty_lsok0 (F : Nat) : LoopsOK Try.prog (impl_Board_empty_LS0 F) (bodyOf Try.f100) := loopsOK_nil
theorem impl_Board_empty_run (F : Nat) (b0 : List Int) : runS tt (impl_Board_empty_tab F) (impl_Board_empty_LS0 F) [] [] Try.f100 (bodyOf Try.f100) 70 [(.ints 16 b0)] [] = impl_Board_empty_c _ F b0 (fun r => some ⟨(.sl 0 0 r.1), [(.vec 26 (.rr 2 r.2))], []⟩) := by kernel_rfl
def impl_Board_empty_ent (F : Nat) : Ent := ⟨[], .fresh, fun args mem => match args, mem with
  | [(.ints 16 b0)], [] => some ((impl_Board_empty_p F b0).isSome, ⟨(.sl 0 0 ((impl_Board_empty_p F b0).getD default).1), [(.vec 26 (.rr 2 ((impl_Board_empty_p F b0).getD default).2))], []⟩)
  | _, _ => none⟩
theorem impl_Board_empty_fok : FunOK Try.prog 100 := funOK Try.func100 (by kernel_rfl) rfl
theorem impl_Board_empty_meets (F : Nat) : Meets Try.prog 100 (impl_Board_empty_ent F) := by
  refine meets_of_runS mixed ttok deep (impl_Board_empty_tabok F) Try.func100 (body_some rfl) (impl_Board_empty_lsok0 F) fun args mem hfit ret h => ?_
  clear hfit
  simp only [impl_Board_empty_ent] at h
  split at h
  · rename_i b0
    simp only [Option.some.injEq, Prod.mk.injEq] at h
    obtain ⟨hc, rfl⟩ := h
    exact ⟨[], [], 70, _, (impl_Board_empty_run F b0).trans ((impl_Board_empty_cp _ F b0 _).trans (bind_use hc _)), rfl, rfl, rfl⟩
  · cases h

/-! (loop.example/g01194/impl.Board).placements -/
noncomputable def impl_Board_placements_tab (F : Nat) : Tab := [(100, (impl_Board_empty_ent F))]
theorem impl_Board_placements_tabok (F : Nat) : TabOK Try.prog (impl_Board_placements_tab F) := (tab_cons (impl_Board_empty_meets F) impl_Board_empty_fok tab_nil)
noncomputable def impl_Board_placements_LS0 (F : Nat) : LT := []
theorem impl_Board_placements_lsok0 (F : Nat) : LoopsOK Try.prog (impl_Board_placements_LS0 F) (bodyOf Try.f96) := loopsOK_nil
theorem impl_Board_placements_keys : keysOK (bodyOf Try.f96) = true := by kernel_rfl
def impl_Board_placements_st3 (t83 : Nat) (t94 : Int) (t87 : List (List Int)) (t105 : Int) (out6 : List (List Int)) : St := ⟨expand 29 0 [3, 8, 9, 10] [(.sl 0 0 (List.length out6)), (.sl 1 0 t83), (.int .i64 t94), (.int .i64 t105)], [(.vec 120 (.rr 3 out6)), (.vec 26 (.rr 2 t87))], 0, []⟩
def impl_Board_placements_o3 (t83 : Nat) (t94 : Int) (t87 : List (List Int)) (x : List (List Int)) : GT := (.out (.exit 0 ⟨expand 29 0 [3] [(.sl 0 0 (List.length x))], [(.vec 120 (.rr 3 x))], 0, []⟩))
def impl_Board_placements_ls3 (F : Nat) : LoopS := ⟨29, [3, 8, 9, 10], [], [3], [], [2], [], [], fun vals mem np killed => match vals, mem, np, killed with
  | [(.sl 0 0 q_out1), (.sl 1 0 t83), (.int .i64 t94), (.int .i64 t105)], [(.vec 120 (.rr 3 out6)), (.vec 26 (.rr 2 t87))], 0, [] => .br ((Nat.beq q_out1 (List.length out6)) && (impl_Board_placements_l3 F t83 t94 t87 t105 out6).isSome) (impl_Board_placements_o3 t83 t94 t87 ((impl_Board_placements_l3 F t83 t94 t87 t105 out6).getD default)) .fail
  | _, _, _, _ => .fail⟩
theorem impl_Board_placements_step3 (F : Nat) (t83 : Nat) (t94 : Int) (t87 : List (List Int)) (t105 : Int) (out6 : List (List Int)) {R : Type} (k : Out → Option R) : stepS tt (impl_Board_placements_tab F) (impl_Board_placements_LS0 F) 70 (impl_Board_placements_ls3 F) (loopAt 3 (bodyOf Try.f96)) (impl_Board_placements_st3 t83 t94 t87 t105 out6) k = impl_Board_placements_s3 F t83 t94 t87 R (t105, out6) (fun s => k (.norm (impl_Board_placements_st3 t83 t94 t87 s.1 s.2))) (fun x => (impl_Board_placements_o3 t83 t94 t87 x).run k) := by kernel_rfl
theorem impl_Board_placements_iter3 (F : Nat) (t83 : Nat) (t94 : Int) (t87 : List (List Int)) {R : Type} (k : Out → Option R) : ∀ (n : Nat) (t105 : Int) (out6 : List (List Int)), iterS tt (impl_Board_placements_tab F) (impl_Board_placements_LS0 F) 70 (impl_Board_placements_ls3 F) (loopAt 3 (bodyOf Try.f96)) n (impl_Board_placements_st3 t83 t94 t87 t105 out6) k = loopC (impl_Board_placements_s3 F t83 t94 t87) n (t105, out6) (fun x => (impl_Board_placements_o3 t83 t94 t87 x).run k)
  | 0, t105, out6 => rfl
  | n + 1, t105, out6 => (iterS_succ tt (impl_Board_placements_tab F) (impl_Board_placements_LS0 F) 70 (impl_Board_placements_ls3 F) (loopAt 3 (bodyOf Try.f96)) n (impl_Board_placements_st3 t83 t94 t87 t105 out6) k).trans ((impl_Board_placements_step3 F t83 t94 t87 t105 out6 (nextK (iterS tt (impl_Board_placements_tab F) (impl_Board_placements_LS0 F) 70 (impl_Board_placements_ls3 F) (loopAt 3 (bodyOf Try.f96)) n) k)).trans (congrArg (fun kn => impl_Board_placements_s3 F t83 t94 t87 R (t105, out6) kn _) (funext (fun ⟨t105, out6⟩ => impl_Board_placements_iter3 F t83 t94 t87 k n t105 out6))))
theorem impl_Board_placements_lok3 (F : Nat) : LoopOK Try.prog (loopAt 3 (bodyOf Try.f96)) (impl_Board_placements_ls3 F) := by
  refine loopOK_of mixed ttok deep (impl_Board_placements_tabok F) (loopsOK_at (impl_Board_placements_lsok0 F) 3) (fuel := 70) fun R vals mem np killed k x h => ?_
  simp only [impl_Board_placements_ls3] at h
  split at h
  · rename_i q_out1 t83 t94 t105 out6 t87
    simp only [GT.run] at h
    have hc := (cond_noneL h).1
    replace h := (cond_noneL h).2
    have hg := (and_split hc).1
    replace hc := (and_split hc).2
    obtain rfl := nbeq_nat hg
    refine ⟨F, (impl_Board_placements_iter3 F t83 t94 t87 k F t105 out6).trans ((loopC_use (impl_Board_placements_s3_nat F t83 t94 t87) hc _).trans h)⟩
  · simp only [GT.run] at h
    cases h
noncomputable def impl_Board_placements_LS1 (F : Nat) : LT := (3, impl_Board_placements_ls3 F) :: impl_Board_placements_LS0 F
theorem impl_Board_placements_lsok1 (F : Nat) : LoopsOK Try.prog (impl_Board_placements_LS1 F) (bodyOf Try.f96) := loopsOK_cons impl_Board_placements_keys (impl_Board_placements_lok3 F) (impl_Board_placements_lsok0 F)
theorem impl_Board_placements_run (F : Nat) (b0 : List Int) : runS tt (impl_Board_placements_tab F) (impl_Board_placements_LS1 F) [] [] Try.f96 (bodyOf Try.f96) 70 [(.ints 16 b0)] [] = impl_Board_placements_c _ F b0 (fun r => some ⟨(.sl 0 0 (List.length r)), [(.vec 120 (.rr 3 r))], []⟩) := by kernel_rfl
def impl_Board_placements_ent (F : Nat) : Ent := ⟨[], .fresh, fun args mem => match args, mem with
  | [(.ints 16 b0)], [] => some ((impl_Board_placements_p F b0).isSome, ⟨(.sl 0 0 (List.length ((impl_Board_placements_p F b0).getD default))), [(.vec 120 (.rr 3 ((impl_Board_placements_p F b0).getD default)))], []⟩)
  | _, _ => none⟩
theorem impl_Board_placements_fok : FunOK Try.prog 96 := funOK Try.func96 (by kernel_rfl) rfl
theorem impl_Board_placements_meets (F : Nat) : Meets Try.prog 96 (impl_Board_placements_ent F) := by
  refine meets_of_runS mixed ttok deep (impl_Board_placements_tabok F) Try.func96 (body_some rfl) (impl_Board_placements_lsok1 F) fun args mem hfit ret h => ?_
  clear hfit
  simp only [impl_Board_placements_ent] at h
  split at h
  · rename_i b0
    simp only [Option.some.injEq, Prod.mk.injEq] at h
    obtain ⟨hc, rfl⟩ := h
    exact ⟨[], [], 70, _, (impl_Board_placements_run F b0).trans ((impl_Board_placements_cp _ F b0 _).trans (bind_use hc _)), rfl, rfl, rfl⟩
  · cases h

/-! (loop.example/g01194/impl.Board).placed -/
noncomputable def impl_Board_placed_tab (F : Nat) : Tab := []
theorem impl_Board_placed_tabok (F : Nat) : TabOK Try.prog (impl_Board_placed_tab F) := tab_nil
noncomputable def impl_Board_placed_LS0 (F : Nat) : LT := []
theorem impl_Board_placed_lsok0 (F : Nat) : LoopsOK Try.prog (impl_Board_placed_LS0 F) (bodyOf Try.f97) := loopsOK_nil
theorem impl_Board_placed_run (F : Nat) (b0 : List Int) (p1 : List Int) : runS tt (impl_Board_placed_tab F) (impl_Board_placed_LS0 F) [] [] Try.f97 (bodyOf Try.f97) 70 [(.ints 16 b0), (.ints 3 p1)] [] = impl_Board_placed_c _ b0 p1 (fun r => some ⟨(.ints 16 r), [], []⟩) := by kernel_rfl
def impl_Board_placed_ent (F : Nat) : Ent := ⟨[], .quiet, fun args mem => match args, mem with
  | [(.ints 16 b0), (.ints 3 p1)], [] => some ((impl_Board_placed_p b0 p1).isSome, ⟨(.ints 16 ((impl_Board_placed_p b0 p1).getD default)), [], []⟩)
  | _, _ => none⟩
theorem impl_Board_placed_fok : FunOK Try.prog 97 := funOK Try.func97 (by kernel_rfl) rfl
theorem impl_Board_placed_meets (F : Nat) : Meets Try.prog 97 (impl_Board_placed_ent F) := by
  refine meets_of_runS mixed ttok deep (impl_Board_placed_tabok F) Try.func97 (body_some rfl) (impl_Board_placed_lsok0 F) fun args mem hfit ret h => ?_
  clear hfit
  simp only [impl_Board_placed_ent] at h
  split at h
  · rename_i b0 p1
    simp only [Option.some.injEq, Prod.mk.injEq] at h
    obtain ⟨hc, rfl⟩ := h
    exact ⟨[], [], 70, _, (impl_Board_placed_run F b0 p1).trans ((impl_Board_placed_cp _ b0 p1 _).trans (bind_use hc _)), rfl, rfl, rfl⟩
  · cases h

/-! loop.example/g01194/impl.ChanceOfNext$1 -/
noncomputable def impl_ChanceOfNext_f1_tab (F : Nat) : Tab := []
theorem impl_ChanceOfNext_f1_tabok (F : Nat) : TabOK Try.prog (impl_ChanceOfNext_f1_tab F) := tab_nil
noncomputable def impl_ChanceOfNext_f1_LS0 (F : Nat) : LT := []
theorem impl_ChanceOfNext_f1_lsok0 (F : Nat) : LoopsOK Try.prog (impl_ChanceOfNext_f1_LS0 F) (bodyOf Try.f42) := loopsOK_nil
theorem impl_ChanceOfNext_f1_run (F : Nat) (own0 : List Int) (a14 : List Int) : runS tt (impl_ChanceOfNext_f1_tab F) (impl_ChanceOfNext_f1_LS0 F) [] [] Try.f42 (bodyOf Try.f42) 70 [(.ints 16 own0), (.ptr 0 0 0 16)] [(.var 16 (.ri .i64 a14))] = impl_ChanceOfNext_f1_c _ own0 a14 (fun r => some ⟨(.bool r), [(.var 16 (.ri .i64 a14))], []⟩) := by kernel_rfl
def impl_ChanceOfNext_f1_ent (F : Nat) : Ent := ⟨[], .quiet, fun args mem => match args, mem with
  | [(.ints 16 own0), (.ptr 0 0 0 16)], [(.var 16 (.ri .i64 a14))] => some (true, ⟨(.bool (impl_ChanceOfNext_f1_v own0 a14)), [], []⟩)
  | _, _ => none⟩
theorem impl_ChanceOfNext_f1_fok : FunOK Try.prog 42 := funOK Try.func42 (by kernel_rfl) rfl
theorem impl_ChanceOfNext_f1_meets (F : Nat) : Meets Try.prog 42 (impl_ChanceOfNext_f1_ent F) := by
  refine meets_of_runS mixed ttok deep (impl_ChanceOfNext_f1_tabok F) Try.func42 (body_some rfl) (impl_ChanceOfNext_f1_lsok0 F) fun args mem hfit ret h => ?_
  clear hfit
  simp only [impl_ChanceOfNext_f1_ent] at h
  split at h
  · rename_i own0 a14
    simp only [Option.some.injEq, Prod.mk.injEq] at h
    obtain ⟨hc, rfl⟩ := h
    exact ⟨[], [], 70, _, (impl_ChanceOfNext_f1_run F own0 a14).trans (impl_ChanceOfNext_f1_cv _ own0 a14 _), rfl, rfl, rfl⟩
  · cases h

/-! loop.example/g01194/impl.whole -/
noncomputable def impl_whole_tab (F : Nat) : Tab := []
theorem impl_whole_tabok (F : Nat) : TabOK Try.prog (impl_whole_tab F) := tab_nil
noncomputable def impl_whole_LS0 (F : Nat) : LT := []
theorem impl_whole_lsok0 (F : Nat) : LoopsOK Try.prog (impl_whole_LS0 F) (bodyOf Try.f101) := loopsOK_nil
theorem impl_whole_run (F : Nat) (n0 : Int) : runS tt (impl_whole_tab F) (impl_whole_LS0 F) [] [] Try.f101 (bodyOf Try.f101) 70 [(.int .i64 n0)] [] = impl_whole_c _ n0 (fun r => some ⟨(.ints 2 r), [], []⟩) := by kernel_rfl
def impl_whole_ent (F : Nat) : Ent := ⟨[], .quiet, fun args mem => match args, mem with
  | [(.int .i64 n0)], [] => some (true, ⟨(.ints 2 (impl_whole_v n0)), [], []⟩)
  | _, _ => none⟩
theorem impl_whole_fok : FunOK Try.prog 101 := funOK Try.func101 (by kernel_rfl) rfl
theorem impl_whole_meets (F : Nat) : Meets Try.prog 101 (impl_whole_ent F) := by
  refine meets_of_runS mixed ttok deep (impl_whole_tabok F) Try.func101 (body_some rfl) (impl_whole_lsok0 F) fun args mem hfit ret h => ?_
  clear hfit
  simp only [impl_whole_ent] at h
  split at h
  · rename_i n0
    simp only [Option.some.injEq, Prod.mk.injEq] at h
    obtain ⟨hc, rfl⟩ := h
    exact ⟨[], [], 70, _, (impl_whole_run F n0).trans (impl_whole_cv _ n0 _), rfl, rfl, rfl⟩
  · cases h

/-! loop.example/g01194/impl.flag -/
noncomputable def impl_flag_tab (F : Nat) : Tab := [(101, (impl_whole_ent F))]
theorem impl_flag_tabok (F : Nat) : TabOK Try.prog (impl_flag_tab F) := (tab_cons (impl_whole_meets F) impl_whole_fok tab_nil)
noncomputable def impl_flag_LS0 (F : Nat) : LT := []
theorem impl_flag_lsok0 (F : Nat) : LoopsOK Try.prog (impl_flag_LS0 F) (bodyOf Try.f79) := loopsOK_nil
theorem impl_flag_run (F : Nat) (is0 : Bool) : runS tt (impl_flag_tab F) (impl_flag_LS0 F) [] [] Try.f79 (bodyOf Try.f79) 70 [(.bool is0)] [] = impl_flag_c _ is0 (fun r => some ⟨(.ints 2 r), [], []⟩) := by kernel_rfl
def impl_flag_ent (F : Nat) : Ent := ⟨[], .quiet, fun args mem => match args, mem with
  | [(.bool is0)], [] => some (true, ⟨(.ints 2 (impl_flag_v is0)), [], []⟩)
  | _, _ => none⟩
theorem impl_flag_fok : FunOK Try.prog 79 := funOK Try.func79 (by kernel_rfl) rfl
theorem impl_flag_meets (F : Nat) : Meets Try.prog 79 (impl_flag_ent F) := by
  refine meets_of_runS mixed ttok deep (impl_flag_tabok F) Try.func79 (body_some rfl) (impl_flag_lsok0 F) fun args mem hfit ret h => ?_
  clear hfit
  simp only [impl_flag_ent] at h
  split at h
  · rename_i is0
    simp only [Option.some.injEq, Prod.mk.injEq] at h
    obtain ⟨hc, rfl⟩ := h
    exact ⟨[], [], 70, _, (impl_flag_run F is0).trans (impl_flag_cv _ is0 _), rfl, rfl, rfl⟩
  · cases h

/-! (loop.example/g01194/impl.Board).chance$1 -/
noncomputable def impl_Board_chance_f1_tab (F : Nat) : Tab := [(42, (impl_ChanceOfNext_f1_ent F)), (79, (impl_flag_ent F))]
theorem impl_Board_chance_f1_tabok (F : Nat) : TabOK Try.prog (impl_Board_chance_f1_tab F) := (tab_cons (impl_ChanceOfNext_f1_meets F) impl_ChanceOfNext_f1_fok (tab_cons (impl_flag_meets F) impl_flag_fok tab_nil))
noncomputable def impl_Board_chance_f1_LS0 (F : Nat) : LT := []
theorem impl_Board_chance_f1_lsok0 (F : Nat) : LoopsOK Try.prog (impl_Board_chance_f1_LS0 F) (bodyOf Try.f78) := loopsOK_nil
theorem impl_Board_chance_f1_run (F : Nat) (own0 : List Int) (m17 : List Int) : runS tt (impl_Board_chance_f1_tab F) (impl_Board_chance_f1_LS0 F) [] [] Try.f78 (bodyOf Try.f78) 70 [(.ints 16 own0), (.ptr 0 0 0 1)] [(.var 1 (.rv [(.fn 42 [] [(.ptr 1 0 0 16)])])), (.var 16 (.ri .i64 m17))] = impl_Board_chance_f1_c _ own0 m17 (fun r => some ⟨(.ints 2 r), [(.var 1 (.rv [(.fn 42 [] [(.ptr 1 0 0 16)])])), (.var 16 (.ri .i64 m17))], []⟩) := by kernel_rfl
def impl_Board_chance_f1_ent (F : Nat) : Ent := ⟨[], .quiet, fun args mem => match args, mem with
  | [(.ints 16 own0), (.ptr 0 0 0 1)], [(.var 1 (.rv [(.fn 42 [] [(.ptr 1 0 0 16)])])), (.var 16 (.ri .i64 m17))] => some (true, ⟨(.ints 2 (impl_Board_chance_f1_v own0 m17)), [], []⟩)
  | _, _ => none⟩
theorem impl_Board_chance_f1_fok : FunOK Try.prog 78 := funOK Try.func78 (by kernel_rfl) rfl
theorem impl_Board_chance_f1_meets (F : Nat) : Meets Try.prog 78 (impl_Board_chance_f1_ent F) := by
  refine meets_of_runS mixed ttok deep (impl_Board_chance_f1_tabok F) Try.func78 (body_some rfl) (impl_Board_chance_f1_lsok0 F) fun args mem hfit ret h => ?_
  clear hfit
  simp only [impl_Board_chance_f1_ent] at h
  split at h
  · rename_i own0 m17
    simp only [Option.some.injEq, Prod.mk.injEq] at h
    obtain ⟨hc, rfl⟩ := h
    exact ⟨[], [], 70, _, (impl_Board_chance_f1_run F own0 m17).trans (impl_Board_chance_f1_cv _ own0 m17 _), rfl, rfl, rfl⟩
  · cases h

/-! loop.example/g01194/impl.fraction -/
noncomputable def impl_fraction_tab (F : Nat) : Tab := []
theorem impl_fraction_tabok (F : Nat) : TabOK Try.prog (impl_fraction_tab F) := tab_nil
noncomputable def impl_fraction_LS0 (F : Nat) : LT := []
theorem impl_fraction_lsok0 (F : Nat) : LoopsOK Try.prog (impl_fraction_LS0 F) (bodyOf Try.f99) := loopsOK_nil
theorem impl_fraction_keys : keysOK (bodyOf Try.f99) = true := by kernel_rfl
def impl_fraction_st2 (num0 : Int) (den1 : Int) (a5 : Int) (b6 : Int) : St := ⟨expand 22 0 [0, 1, 4, 5, 6] [(.int .i64 num0), (.int .i64 den1), (.ptr 0 0 0 2), (.int .i64 a5), (.int .i64 b6)], [(.var 2 (.ri .i64 [(0 : Int), (0 : Int)]))], 0, []⟩
def impl_fraction_o2 (num0 : Int) (den1 : Int) (x : Int) : GT := (.out (.exit 0 ⟨expand 22 0 [0, 1, 4, 5] [(.int .i64 num0), (.int .i64 den1), (.ptr 0 0 0 2), (.int .i64 x)], [(.var 2 (.ri .i64 [(0 : Int), (0 : Int)]))], 0, []⟩))
def impl_fraction_ls2 (F : Nat) : LoopS := ⟨22, [0, 1, 4, 5, 6], [], [0, 1, 4, 5], [], [4], [], [], fun vals mem np killed => match vals, mem, np, killed with
  | [(.int .i64 num0), (.int .i64 den1), (.ptr 0 0 0 2), (.int .i64 a5), (.int .i64 b6)], [(.var 2 (.ri .i64 q_t47))], 0, [] => .br ((q_t47 == ([(0 : Int), (0 : Int)] : List Int)) && (impl_fraction_l2 F num0 den1 a5 b6).isSome) (impl_fraction_o2 num0 den1 ((impl_fraction_l2 F num0 den1 a5 b6).getD default)) .fail
  | _, _, _, _ => .fail⟩
theorem impl_fraction_step2 (F : Nat) (num0 : Int) (den1 : Int) (a5 : Int) (b6 : Int) {R : Type} (k : Out → Option R) : stepS tt (impl_fraction_tab F) (impl_fraction_LS0 F) 70 (impl_fraction_ls2 F) (loopAt 2 (bodyOf Try.f99)) (impl_fraction_st2 num0 den1 a5 b6) k = impl_fraction_s2 F num0 den1 R (a5, b6) (fun s => k (.norm (impl_fraction_st2 num0 den1 s.1 s.2))) (fun x => (impl_fraction_o2 num0 den1 x).run k) := by kernel_rfl
theorem impl_fraction_iter2 (F : Nat) (num0 : Int) (den1 : Int) {R : Type} (k : Out → Option R) : ∀ (n : Nat) (a5 : Int) (b6 : Int), iterS tt (impl_fraction_tab F) (impl_fraction_LS0 F) 70 (impl_fraction_ls2 F) (loopAt 2 (bodyOf Try.f99)) n (impl_fraction_st2 num0 den1 a5 b6) k = loopC (impl_fraction_s2 F num0 den1) n (a5, b6) (fun x => (impl_fraction_o2 num0 den1 x).run k)
  | 0, a5, b6 => rfl
  | n + 1, a5, b6 => (iterS_succ tt (impl_fraction_tab F) (impl_fraction_LS0 F) 70 (impl_fraction_ls2 F) (loopAt 2 (bodyOf Try.f99)) n (impl_fraction_st2 num0 den1 a5 b6) k).trans ((impl_fraction_step2 F num0 den1 a5 b6 (nextK (iterS tt (impl_fraction_tab F) (impl_fraction_LS0 F) 70 (impl_fraction_ls2 F) (loopAt 2 (bodyOf Try.f99)) n) k)).trans (congrArg (fun kn => impl_fraction_s2 F num0 den1 R (a5, b6) kn _) (funext (fun ⟨a5, b6⟩ => impl_fraction_iter2 F num0 den1 k n a5 b6))))
theorem impl_fraction_lok2 (F : Nat) : LoopOK Try.prog (loopAt 2 (bodyOf Try.f99)) (impl_fraction_ls2 F) := by
  refine loopOK_of mixed ttok deep (impl_fraction_tabok F) (loopsOK_at (impl_fraction_lsok0 F) 2) (fuel := 70) fun R vals mem np killed k x h => ?_
  simp only [impl_fraction_ls2] at h
  split at h
  · rename_i num0 den1 a5 b6 q_t47
    simp only [GT.run] at h
    have hc := (cond_noneL h).1
    replace h := (cond_noneL h).2
    have hg := (and_split hc).1
    replace hc := (and_split hc).2
    obtain rfl := beq_li hg
    refine ⟨F, (impl_fraction_iter2 F num0 den1 k F a5 b6).trans ((loopC_use (impl_fraction_s2_nat F num0 den1) hc _).trans h)⟩
  · simp only [GT.run] at h
    cases h
noncomputable def impl_fraction_LS1 (F : Nat) : LT := (2, impl_fraction_ls2 F) :: impl_fraction_LS0 F
theorem impl_fraction_lsok1 (F : Nat) : LoopsOK Try.prog (impl_fraction_LS1 F) (bodyOf Try.f99) := loopsOK_cons impl_fraction_keys (impl_fraction_lok2 F) (impl_fraction_lsok0 F)
theorem impl_fraction_run (F : Nat) (num0 : Int) (den1 : Int) : runS tt (impl_fraction_tab F) (impl_fraction_LS1 F) [] [] Try.f99 (bodyOf Try.f99) 70 [(.int .i64 num0), (.int .i64 den1)] [] = impl_fraction_c _ F num0 den1 (fun r => some ⟨(.ints 2 r), [], []⟩) := by kernel_rfl
def impl_fraction_ent (F : Nat) : Ent := ⟨[], .quiet, fun args mem => match args, mem with
  | [(.int .i64 num0), (.int .i64 den1)], [] => some ((impl_fraction_p F num0 den1).isSome, ⟨(.ints 2 ((impl_fraction_p F num0 den1).getD default)), [], []⟩)
  | _, _ => none⟩
theorem impl_fraction_fok : FunOK Try.prog 99 := funOK Try.func99 (by kernel_rfl) rfl
theorem impl_fraction_meets (F : Nat) : Meets Try.prog 99 (impl_fraction_ent F) := by
  refine meets_of_runS mixed ttok deep (impl_fraction_tabok F) Try.func99 (body_some rfl) (impl_fraction_lsok1 F) fun args mem hfit ret h => ?_
  clear hfit
  simp only [impl_fraction_ent] at h
  split at h
  · rename_i num0 den1
    simp only [Option.some.injEq, Prod.mk.injEq] at h
    obtain ⟨hc, rfl⟩ := h
    exact ⟨[], [], 70, _, (impl_fraction_run F num0 den1).trans ((impl_fraction_cp _ F num0 den1 _).trans (bind_use hc _)), rfl, rfl, rfl⟩
  · cases h

/-! loop.example/g01194/impl.plus -/
noncomputable def impl_plus_tab (F : Nat) : Tab := [(99, (impl_fraction_ent F))]
theorem impl_plus_tabok (F : Nat) : TabOK Try.prog (impl_plus_tab F) := (tab_cons (impl_fraction_meets F) impl_fraction_fok tab_nil)
noncomputable def impl_plus_LS0 (F : Nat) : LT := []
theorem impl_plus_lsok0 (F : Nat) : LoopsOK Try.prog (impl_plus_LS0 F) (bodyOf Try.f98) := loopsOK_nil
theorem impl_plus_run (F : Nat) (a0 : List Int) (b1 : List Int) : runS tt (impl_plus_tab F) (impl_plus_LS0 F) [] [] Try.f98 (bodyOf Try.f98) 70 [(.ints 2 a0), (.ints 2 b1)] [] = impl_plus_c _ F a0 b1 (fun r => some ⟨(.ints 2 r), [], []⟩) := by kernel_rfl
def impl_plus_ent (F : Nat) : Ent := ⟨[], .quiet, fun args mem => match args, mem with
  | [(.ints 2 a0), (.ints 2 b1)], [] => some ((impl_plus_p F a0 b1).isSome, ⟨(.ints 2 ((impl_plus_p F a0 b1).getD default)), [], []⟩)
  | _, _ => none⟩
theorem impl_plus_fok : FunOK Try.prog 98 := funOK Try.func98 (by kernel_rfl) rfl
theorem impl_plus_meets (F : Nat) : Meets Try.prog 98 (impl_plus_ent F) := by
  refine meets_of_runS mixed ttok deep (impl_plus_tabok F) Try.func98 (body_some rfl) (impl_plus_lsok0 F) fun args mem hfit ret h => ?_
  clear hfit
  simp only [impl_plus_ent] at h
  split at h
  · rename_i a0 b1
    simp only [Option.some.injEq, Prod.mk.injEq] at h
    obtain ⟨hc, rfl⟩ := h
    exact ⟨[], [], 70, _, (impl_plus_run F a0 b1).trans ((impl_plus_cp _ F a0 b1 _).trans (bind_use hc _)), rfl, rfl, rfl⟩
  · cases h

/-! (loop.example/g01194/impl.Board).mean -/
noncomputable def impl_Board_mean_impl_Board_chance_f1_tab (F : Nat) : Tab := [(96, (impl_Board_placements_ent F)), (97, (impl_Board_placed_ent F)), (78, (impl_Board_chance_f1_ent F)), (99, (impl_fraction_ent F)), (98, (impl_plus_ent F)), (100, (impl_Board_empty_ent F))]
theorem impl_Board_mean_impl_Board_chance_f1_tabok (F : Nat) : TabOK Try.prog (impl_Board_mean_impl_Board_chance_f1_tab F) := (tab_cons (impl_Board_placements_meets F) impl_Board_placements_fok (tab_cons (impl_Board_placed_meets F) impl_Board_placed_fok (tab_cons (impl_Board_chance_f1_meets F) impl_Board_chance_f1_fok (tab_cons (impl_fraction_meets F) impl_fraction_fok (tab_cons (impl_plus_meets F) impl_plus_fok (tab_cons (impl_Board_empty_meets F) impl_Board_empty_fok tab_nil))))))
noncomputable def impl_Board_mean_impl_Board_chance_f1_LS0 (F : Nat) : LT := []
theorem impl_Board_mean_impl_Board_chance_f1_lsok0 (F : Nat) : LoopsOK Try.prog (impl_Board_mean_impl_Board_chance_f1_LS0 F) (bodyOf Try.f77) := loopsOK_nil
theorem impl_Board_mean_impl_Board_chance_f1_keys : keysOK (bodyOf Try.f77) = true := by kernel_rfl
def impl_Board_mean_impl_Board_chance_f1_st3 (t1314 : Int) (m119 : List Int) (b20 : List Int) (t1223 : List (List Int)) (t1415 : Int) (sum22 : List Int) : St := ⟨expand 46 0 [1, 2, 4, 5, 12, 13, 14] [(.fn 78 [] [(.ptr 0 0 0 1)]), (.ptr 2 0 0 16), (.ptr 3 0 0 2), (.ptr 4 0 0 2), (.sl 5 0 (List.length t1223)), (.int .i64 t1314), (.int .i64 t1415)], [(.var 1 (.rv [(.fn 42 [] [(.ptr 1 0 0 16)])])), (.var 16 (.ri .i64 m119)), (.var 16 (.ri .i64 b20)), (.var 2 (.ri .i64 [(0 : Int), (0 : Int)])), (.var 2 (.ri .i64 sum22)), (.vec 120 (.rr 3 t1223))], 2, []⟩
def impl_Board_mean_impl_Board_chance_f1_o3 (t1314 : Int) (m119 : List Int) (b20 : List Int) (t1223 : List (List Int)) (x : List Int) : GT := (.out (.exit 0 ⟨expand 46 0 [2, 4, 5] [(.ptr 2 0 0 16), (.ptr 3 0 0 2), (.ptr 4 0 0 2)], [(.var 1 (.rv [(.fn 42 [] [(.ptr 1 0 0 16)])])), (.var 16 (.ri .i64 m119)), (.var 16 (.ri .i64 b20)), (.var 2 (.ri .i64 [(0 : Int), (0 : Int)])), (.var 2 (.ri .i64 x))], 2, []⟩))
def impl_Board_mean_impl_Board_chance_f1_ls3 (F : Nat) : LoopS := ⟨46, [1, 2, 4, 5, 12, 13, 14], [], [2, 4, 5], [], [4], [], [], fun vals mem np killed => match vals, mem, np, killed with
  | [(.fn 78 [] [(.ptr 0 0 0 1)]), (.ptr 2 0 0 16), (.ptr 3 0 0 2), (.ptr 4 0 0 2), (.sl 5 0 q_t1213), (.int .i64 t1314), (.int .i64 t1415)], [(.var 1 (.rv [(.fn 42 [] [(.ptr 1 0 0 16)])])), (.var 16 (.ri .i64 m119)), (.var 16 (.ri .i64 b20)), (.var 2 (.ri .i64 q_t421)), (.var 2 (.ri .i64 sum22)), (.vec 120 (.rr 3 t1223))], 2, [] => .br ((q_t421 == ([(0 : Int), (0 : Int)] : List Int)) && ((Nat.beq q_t1213 (List.length t1223)) && (impl_Board_mean_impl_Board_chance_f1_l3 F t1314 m119 b20 t1223 t1415 sum22).isSome)) (impl_Board_mean_impl_Board_chance_f1_o3 t1314 m119 b20 t1223 ((impl_Board_mean_impl_Board_chance_f1_l3 F t1314 m119 b20 t1223 t1415 sum22).getD default)) .fail
  | _, _, _, _ => .fail⟩
theorem impl_Board_mean_impl_Board_chance_f1_step3 (F : Nat) (t1314 : Int) (m119 : List Int) (b20 : List Int) (t1223 : List (List Int)) (t1415 : Int) (sum22 : List Int) {R : Type} (k : Out → Option R) : stepS tt (impl_Board_mean_impl_Board_chance_f1_tab F) (impl_Board_mean_impl_Board_chance_f1_LS0 F) 70 (impl_Board_mean_impl_Board_chance_f1_ls3 F) (loopAt 3 (bodyOf Try.f77)) (impl_Board_mean_impl_Board_chance_f1_st3 t1314 m119 b20 t1223 t1415 sum22) k = impl_Board_mean_impl_Board_chance_f1_s3 F t1314 m119 b20 t1223 R (t1415, sum22) (fun s => k (.norm (impl_Board_mean_impl_Board_chance_f1_st3 t1314 m119 b20 t1223 s.1 s.2))) (fun x => (impl_Board_mean_impl_Board_chance_f1_o3 t1314 m119 b20 t1223 x).run k) := by kernel_rfl
theorem impl_Board_mean_impl_Board_chance_f1_iter3 (F : Nat) (t1314 : Int) (m119 : List Int) (b20 : List Int) (t1223 : List (List Int)) {R : Type} (k : Out → Option R) : ∀ (n : Nat) (t1415 : Int) (sum22 : List Int), iterS tt (impl_Board_mean_impl_Board_chance_f1_tab F) (impl_Board_mean_impl_Board_chance_f1_LS0 F) 70 (impl_Board_mean_impl_Board_chance_f1_ls3 F) (loopAt 3 (bodyOf Try.f77)) n (impl_Board_mean_impl_Board_chance_f1_st3 t1314 m119 b20 t1223 t1415 sum22) k = loopC (impl_Board_mean_impl_Board_chance_f1_s3 F t1314 m119 b20 t1223) n (t1415, sum22) (fun x => (impl_Board_mean_impl_Board_chance_f1_o3 t1314 m119 b20 t1223 x).run k)
  | 0, t1415, sum22 => rfl
  | n + 1, t1415, sum22 => (iterS_succ tt (impl_Board_mean_impl_Board_chance_f1_tab F) (impl_Board_mean_impl_Board_chance_f1_LS0 F) 70 (impl_Board_mean_impl_Board_chance_f1_ls3 F) (loopAt 3 (bodyOf Try.f77)) n (impl_Board_mean_impl_Board_chance_f1_st3 t1314 m119 b20 t1223 t1415 sum22) k).trans ((impl_Board_mean_impl_Board_chance_f1_step3 F t1314 m119 b20 t1223 t1415 sum22 (nextK (iterS tt (impl_Board_mean_impl_Board_chance_f1_tab F) (impl_Board_mean_impl_Board_chance_f1_LS0 F) 70 (impl_Board_mean_impl_Board_chance_f1_ls3 F) (loopAt 3 (bodyOf Try.f77)) n) k)).trans (congrArg (fun kn => impl_Board_mean_impl_Board_chance_f1_s3 F t1314 m119 b20 t1223 R (t1415, sum22) kn _) (funext (fun ⟨t1415, sum22⟩ => impl_Board_mean_impl_Board_chance_f1_iter3 F t1314 m119 b20 t1223 k n t1415 sum22))))
theorem impl_Board_mean_impl_Board_chance_f1_lok3 (F : Nat) : LoopOK Try.prog (loopAt 3 (bodyOf Try.f77)) (impl_Board_mean_impl_Board_chance_f1_ls3 F) := by
  refine loopOK_of mixed ttok deep (impl_Board_mean_impl_Board_chance_f1_tabok F) (loopsOK_at (impl_Board_mean_impl_Board_chance_f1_lsok0 F) 3) (fuel := 70) fun R vals mem np killed k x h => ?_
  simp only [impl_Board_mean_impl_Board_chance_f1_ls3] at h
  split at h
  · rename_i q_t1213 t1314 t1415 m119 b20 q_t421 sum22 t1223
    simp only [GT.run] at h
    have hc := (cond_noneL h).1
    replace h := (cond_noneL h).2
    have hg := (and_split hc).1
    replace hc := (and_split hc).2
    obtain rfl := beq_li hg
    have hg := (and_split hc).1
    replace hc := (and_split hc).2
    obtain rfl := nbeq_nat hg
    refine ⟨F, (impl_Board_mean_impl_Board_chance_f1_iter3 F t1314 m119 b20 t1223 k F t1415 sum22).trans ((loopC_use (impl_Board_mean_impl_Board_chance_f1_s3_nat F t1314 m119 b20 t1223) hc _).trans h)⟩
  · simp only [GT.run] at h
    cases h
noncomputable def impl_Board_mean_impl_Board_chance_f1_LS1 (F : Nat) : LT := (3, impl_Board_mean_impl_Board_chance_f1_ls3 F) :: impl_Board_mean_impl_Board_chance_f1_LS0 F
theorem impl_Board_mean_impl_Board_chance_f1_lsok1 (F : Nat) : LoopsOK Try.prog (impl_Board_mean_impl_Board_chance_f1_LS1 F) (bodyOf Try.f77) := loopsOK_cons impl_Board_mean_impl_Board_chance_f1_keys (impl_Board_mean_impl_Board_chance_f1_lok3 F) (impl_Board_mean_impl_Board_chance_f1_lsok0 F)
theorem impl_Board_mean_impl_Board_chance_f1_run (F : Nat) (b0 : List Int) (m17 : List Int) : runS tt (impl_Board_mean_impl_Board_chance_f1_tab F) (impl_Board_mean_impl_Board_chance_f1_LS1 F) [] [] Try.f77 (bodyOf Try.f77) 70 [(.ints 16 b0), (.fn 78 [] [(.ptr 0 0 0 1)])] [(.var 1 (.rv [(.fn 42 [] [(.ptr 1 0 0 16)])])), (.var 16 (.ri .i64 m17))] = impl_Board_mean_impl_Board_chance_f1_c _ F b0 m17 (fun r => some ⟨(.ints 2 r), [(.var 1 (.rv [(.fn 42 [] [(.ptr 1 0 0 16)])])), (.var 16 (.ri .i64 m17))], []⟩) := by kernel_rfl
def impl_Board_mean_impl_Board_chance_f1_ent (F : Nat) : Ent := ⟨[], .quiet, fun args mem => match args, mem with
  | [(.ints 16 b0), (.fn 78 [] [(.ptr 0 0 0 1)])], [(.var 1 (.rv [(.fn 42 [] [(.ptr 1 0 0 16)])])), (.var 16 (.ri .i64 m17))] => some ((impl_Board_mean_impl_Board_chance_f1_p F b0 m17).isSome, ⟨(.ints 2 ((impl_Board_mean_impl_Board_chance_f1_p F b0 m17).getD default)), [], []⟩)
  | _, _ => none⟩
theorem impl_Board_mean_impl_Board_chance_f1_fok : FunOK Try.prog 77 := funOK Try.func77 (by kernel_rfl) rfl
theorem impl_Board_mean_impl_Board_chance_f1_meets (F : Nat) : Meets Try.prog 77 (impl_Board_mean_impl_Board_chance_f1_ent F) := by
  refine meets_of_runS mixed ttok deep (impl_Board_mean_impl_Board_chance_f1_tabok F) Try.func77 (body_some rfl) (impl_Board_mean_impl_Board_chance_f1_lsok1 F) fun args mem hfit ret h => ?_
  clear hfit
  simp only [impl_Board_mean_impl_Board_chance_f1_ent] at h
  split at h
  · rename_i b0 m17
    simp only [Option.some.injEq, Prod.mk.injEq] at h
    obtain ⟨hc, rfl⟩ := h
    exact ⟨[], [], 70, _, (impl_Board_mean_impl_Board_chance_f1_run F b0 m17).trans ((impl_Board_mean_impl_Board_chance_f1_cp _ F b0 m17 _).trans (bind_use hc _)), rfl, rfl, rfl⟩
  · cases h

/-! (loop.example/g01194/impl.Board).chance -/
noncomputable def impl_Board_chance_impl_ChanceOfNext_f1_tab (F : Nat) : Tab := [(75, (impl_Board_isMove_ent F)), (76, (impl_Board_slides_ent F)), (77, (impl_Board_mean_impl_Board_chance_f1_ent F))]
theorem impl_Board_chance_impl_ChanceOfNext_f1_tabok (F : Nat) : TabOK Try.prog (impl_Board_chance_impl_ChanceOfNext_f1_tab F) := (tab_cons (impl_Board_isMove_meets F) impl_Board_isMove_fok (tab_cons (impl_Board_slides_meets F) impl_Board_slides_fok (tab_cons (impl_Board_mean_impl_Board_chance_f1_meets F) impl_Board_mean_impl_Board_chance_f1_fok tab_nil)))
noncomputable def impl_Board_chance_impl_ChanceOfNext_f1_LS0 (F : Nat) : LT := []
theorem impl_Board_chance_impl_ChanceOfNext_f1_lsok0 (F : Nat) : LoopsOK Try.prog (impl_Board_chance_impl_ChanceOfNext_f1_LS0 F) (bodyOf Try.f41) := loopsOK_nil
theorem impl_Board_chance_impl_ChanceOfNext_f1_run (F : Nat) (b0 : List Int) (direction1 : Int) (is5 : List Int) : runS tt (impl_Board_chance_impl_ChanceOfNext_f1_tab F) (impl_Board_chance_impl_ChanceOfNext_f1_LS0 F) [] [] Try.f41 (bodyOf Try.f41) 70 [(.ints 16 b0), (.int .i64 direction1), (.fn 42 [] [(.ptr 0 0 0 16)])] [(.var 16 (.ri .i64 is5))] = impl_Board_chance_impl_ChanceOfNext_f1_c _ F b0 direction1 is5 (fun r => some ⟨(.tup [(.ints 2 r.1), (.bool r.2)]), [(.var 16 (.ri .i64 is5))], []⟩) := by kernel_rfl
def impl_Board_chance_impl_ChanceOfNext_f1_ent (F : Nat) : Ent := ⟨[], .quiet, fun args mem => match args, mem with
  | [(.ints 16 b0), (.int .i64 direction1), (.fn 42 [] [(.ptr 0 0 0 16)])], [(.var 16 (.ri .i64 is5))] => some ((impl_Board_chance_impl_ChanceOfNext_f1_p F b0 direction1 is5).isSome, ⟨(.tup [(.ints 2 ((impl_Board_chance_impl_ChanceOfNext_f1_p F b0 direction1 is5).getD default).1), (.bool ((impl_Board_chance_impl_ChanceOfNext_f1_p F b0 direction1 is5).getD default).2)]), [], []⟩)
  | _, _ => none⟩
theorem impl_Board_chance_impl_ChanceOfNext_f1_fok : FunOK Try.prog 41 := funOK Try.func41 (by kernel_rfl) rfl
theorem impl_Board_chance_impl_ChanceOfNext_f1_meets (F : Nat) : Meets Try.prog 41 (impl_Board_chance_impl_ChanceOfNext_f1_ent F) := by
  refine meets_of_runS mixed ttok deep (impl_Board_chance_impl_ChanceOfNext_f1_tabok F) Try.func41 (body_some rfl) (impl_Board_chance_impl_ChanceOfNext_f1_lsok0 F) fun args mem hfit ret h => ?_
  clear hfit
  simp only [impl_Board_chance_impl_ChanceOfNext_f1_ent] at h
  split at h
  · rename_i b0 direction1 is5
    simp only [Option.some.injEq, Prod.mk.injEq] at h
    obtain ⟨hc, rfl⟩ := h
    exact ⟨[], [], 70, _, (impl_Board_chance_impl_ChanceOfNext_f1_run F b0 direction1 is5).trans ((impl_Board_chance_impl_ChanceOfNext_f1_cp _ F b0 direction1 is5 _).trans (bind_use hc _)), rfl, rfl, rfl⟩
  · cases h

/-! loop.example/g01194/impl.ChanceOfNext -/
noncomputable def impl_ChanceOfNext_tab (F : Nat) : Tab := [(40, (impl_IsBoard_ent F)), (41, (impl_Board_chance_impl_ChanceOfNext_f1_ent F))]
theorem impl_ChanceOfNext_tabok (F : Nat) : TabOK Try.prog (impl_ChanceOfNext_tab F) := (tab_cons (impl_IsBoard_meets F) impl_IsBoard_fok (tab_cons (impl_Board_chance_impl_ChanceOfNext_f1_meets F) impl_Board_chance_impl_ChanceOfNext_f1_fok tab_nil))
noncomputable def impl_ChanceOfNext_LS0 (F : Nat) : LT := []
theorem impl_ChanceOfNext_lsok0 (F : Nat) : LoopsOK Try.prog (impl_ChanceOfNext_LS0 F) (bodyOf Try.f12) := loopsOK_nil
theorem impl_ChanceOfNext_run (F : Nat) (a0 : List Int) (direction1 : Int) (b2 : List Int) : runS tt (impl_ChanceOfNext_tab F) (impl_ChanceOfNext_LS0 F) [] [] Try.f12 (bodyOf Try.f12) 70 [(.ints 16 a0), (.int .i64 direction1), (.ints 16 b2)] [] = impl_ChanceOfNext_c _ F a0 direction1 b2 (fun r => some ⟨(.tup [(.ints 2 r.1), (.bool r.2)]), [], []⟩) := by kernel_rfl
def impl_ChanceOfNext_ent (F : Nat) : Ent := ⟨[], .quiet, fun args mem => match args, mem with
  | [(.ints 16 a0), (.int .i64 direction1), (.ints 16 b2)], [] => some ((impl_ChanceOfNext_p F a0 direction1 b2).isSome, ⟨(.tup [(.ints 2 ((impl_ChanceOfNext_p F a0 direction1 b2).getD default).1), (.bool ((impl_ChanceOfNext_p F a0 direction1 b2).getD default).2)]), [], []⟩)
  | _, _ => none⟩
theorem impl_ChanceOfNext_fok : FunOK Try.prog 12 := funOK Try.func12 (by kernel_rfl) rfl
theorem impl_ChanceOfNext_meets (F : Nat) : Meets Try.prog 12 (impl_ChanceOfNext_ent F) := by
  refine meets_of_runS mixed ttok deep (impl_ChanceOfNext_tabok F) Try.func12 (body_some rfl) (impl_ChanceOfNext_lsok0 F) fun args mem hfit ret h => ?_
  clear hfit
  simp only [impl_ChanceOfNext_ent] at h
  split at h
  · rename_i a0 direction1 b2
    simp only [Option.some.injEq, Prod.mk.injEq] at h
    obtain ⟨hc, rfl⟩ := h
    exact ⟨[], [], 70, _, (impl_ChanceOfNext_run F a0 direction1 b2).trans ((impl_ChanceOfNext_cp _ F a0 direction1 b2 _).trans (bind_use hc _)), rfl, rfl, rfl⟩
  · cases h

/-! loop.example/g01194/laws.eqIntA2 -/
noncomputable def laws_eqIntA2_tab (F : Nat) : Tab := []
theorem laws_eqIntA2_tabok (F : Nat) : TabOK Try.prog (laws_eqIntA2_tab F) := tab_nil
noncomputable def laws_eqIntA2_LS0 (F : Nat) : LT := []
theorem laws_eqIntA2_lsok0 (F : Nat) : LoopsOK Try.prog (laws_eqIntA2_LS0 F) (bodyOf Try.f13) := loopsOK_nil
theorem laws_eqIntA2_keys : keysOK (bodyOf Try.f13) = true := by kernel_rfl
def laws_eqIntA2_st2 (a7 : List Int) (b8 : List Int) (i6 : Int) : St := ⟨expand 17 0 [2, 3, 5] [(.ptr 0 0 0 2), (.ptr 1 0 0 2), (.int .i64 i6)], [(.var 2 (.ri .i64 a7)), (.var 2 (.ri .i64 b8))], 0, []⟩
def laws_eqIntA2_o2 (a7 : List Int) (b8 : List Int) (x : Bool) : GT := (.br x (.out (.ret ⟨expand 17 0 [4] [(.bool false)], [], 0, []⟩)) (.out (.exit 0 ⟨expand 17 0 [] [], [], 0, []⟩)))
def laws_eqIntA2_ls2 (F : Nat) : LoopS := ⟨17, [2, 3, 5], [], [], [], [4], [], [], fun vals mem np killed => match vals, mem, np, killed with
  | [(.ptr 0 0 0 2), (.ptr 1 0 0 2), (.int .i64 i6)], [(.var 2 (.ri .i64 a7)), (.var 2 (.ri .i64 b8))], 0, [] => .br (laws_eqIntA2_l2 F a7 b8 i6).isSome (laws_eqIntA2_o2 a7 b8 ((laws_eqIntA2_l2 F a7 b8 i6).getD default)) .fail
  | _, _, _, _ => .fail⟩
theorem laws_eqIntA2_step2 (F : Nat) (a7 : List Int) (b8 : List Int) (i6 : Int) {R : Type} (k : Out → Option R) : stepS tt (laws_eqIntA2_tab F) (laws_eqIntA2_LS0 F) 70 (laws_eqIntA2_ls2 F) (loopAt 2 (bodyOf Try.f13)) (laws_eqIntA2_st2 a7 b8 i6) k = laws_eqIntA2_s2 F a7 b8 R i6 (fun s => k (.norm (laws_eqIntA2_st2 a7 b8 s))) (fun x => (laws_eqIntA2_o2 a7 b8 x).run k) := by kernel_rfl
theorem laws_eqIntA2_iter2 (F : Nat) (a7 : List Int) (b8 : List Int) {R : Type} (k : Out → Option R) : ∀ (n : Nat) (i6 : Int), iterS tt (laws_eqIntA2_tab F) (laws_eqIntA2_LS0 F) 70 (laws_eqIntA2_ls2 F) (loopAt 2 (bodyOf Try.f13)) n (laws_eqIntA2_st2 a7 b8 i6) k = loopC (laws_eqIntA2_s2 F a7 b8) n i6 (fun x => (laws_eqIntA2_o2 a7 b8 x).run k)
  | 0, i6 => rfl
  | n + 1, i6 => (iterS_succ tt (laws_eqIntA2_tab F) (laws_eqIntA2_LS0 F) 70 (laws_eqIntA2_ls2 F) (loopAt 2 (bodyOf Try.f13)) n (laws_eqIntA2_st2 a7 b8 i6) k).trans ((laws_eqIntA2_step2 F a7 b8 i6 (nextK (iterS tt (laws_eqIntA2_tab F) (laws_eqIntA2_LS0 F) 70 (laws_eqIntA2_ls2 F) (loopAt 2 (bodyOf Try.f13)) n) k)).trans (congrArg (fun kn => laws_eqIntA2_s2 F a7 b8 R i6 kn _) (funext (fun i6 => laws_eqIntA2_iter2 F a7 b8 k n i6))))
theorem laws_eqIntA2_lok2 (F : Nat) : LoopOK Try.prog (loopAt 2 (bodyOf Try.f13)) (laws_eqIntA2_ls2 F) := by
  refine loopOK_of mixed ttok deep (laws_eqIntA2_tabok F) (loopsOK_at (laws_eqIntA2_lsok0 F) 2) (fuel := 70) fun R vals mem np killed k x h => ?_
  simp only [laws_eqIntA2_ls2] at h
  split at h
  · rename_i i6 a7 b8
    simp only [GT.run] at h
    have hc := (cond_noneL h).1
    replace h := (cond_noneL h).2
    refine ⟨F, (laws_eqIntA2_iter2 F a7 b8 k F i6).trans ((loopC_use (laws_eqIntA2_s2_nat F a7 b8) hc _).trans h)⟩
  · simp only [GT.run] at h
    cases h
noncomputable def laws_eqIntA2_LS1 (F : Nat) : LT := (2, laws_eqIntA2_ls2 F) :: laws_eqIntA2_LS0 F
theorem laws_eqIntA2_lsok1 (F : Nat) : LoopsOK Try.prog (laws_eqIntA2_LS1 F) (bodyOf Try.f13) := loopsOK_cons laws_eqIntA2_keys (laws_eqIntA2_lok2 F) (laws_eqIntA2_lsok0 F)
theorem laws_eqIntA2_run (F : Nat) (a0 : List Int) (b1 : List Int) : runS tt (laws_eqIntA2_tab F) (laws_eqIntA2_LS1 F) [] [] Try.f13 (bodyOf Try.f13) 70 [(.ints 2 a0), (.ints 2 b1)] [] = laws_eqIntA2_c _ F a0 b1 (fun r => some ⟨(.bool r), [], []⟩) := by kernel_rfl
def laws_eqIntA2_ent (F : Nat) : Ent := ⟨[], .quiet, fun args mem => match args, mem with
  | [(.ints 2 a0), (.ints 2 b1)], [] => some ((laws_eqIntA2_p F a0 b1).isSome, ⟨(.bool ((laws_eqIntA2_p F a0 b1).getD default)), [], []⟩)
  | _, _ => none⟩
theorem laws_eqIntA2_fok : FunOK Try.prog 13 := funOK Try.func13 (by kernel_rfl) rfl
theorem laws_eqIntA2_meets (F : Nat) : Meets Try.prog 13 (laws_eqIntA2_ent F) := by
  refine meets_of_runS mixed ttok deep (laws_eqIntA2_tabok F) Try.func13 (body_some rfl) (laws_eqIntA2_lsok1 F) fun args mem hfit ret h => ?_
  clear hfit
  simp only [laws_eqIntA2_ent] at h
  split at h
  · rename_i a0 b1
    simp only [Option.some.injEq, Prod.mk.injEq] at h
    obtain ⟨hc, rfl⟩ := h
    exact ⟨[], [], 70, _, (laws_eqIntA2_run F a0 b1).trans ((laws_eqIntA2_cp _ F a0 b1 _).trans (bind_use hc _)), rfl, rfl, rfl⟩
  · cases h

/-! loop.example/g01194/laws.FnExactChanceOfNext -/
noncomputable def laws_FnExactChanceOfNext_tab (F : Nat) : Tab := [(11, (laws_toBoard_ent F)), (10, (spec_ChanceOfNext_ent F)), (12, (impl_ChanceOfNext_ent F)), (13, (laws_eqIntA2_ent F))]
theorem laws_FnExactChanceOfNext_tabok (F : Nat) : TabOK Try.prog (laws_FnExactChanceOfNext_tab F) := (tab_cons (laws_toBoard_meets F) laws_toBoard_fok (tab_cons (spec_ChanceOfNext_meets F) spec_ChanceOfNext_fok (tab_cons (impl_ChanceOfNext_meets F) impl_ChanceOfNext_fok (tab_cons (laws_eqIntA2_meets F) laws_eqIntA2_fok tab_nil))))
noncomputable def laws_FnExactChanceOfNext_LS0 (F : Nat) : LT := []
theorem laws_FnExactChanceOfNext_lsok0 (F : Nat) : LoopsOK Try.prog (laws_FnExactChanceOfNext_LS0 F) (bodyOf Try.f3) := loopsOK_nil
theorem laws_FnExactChanceOfNext_run (F : Nat) (aA0 : List Int) (aDirection1 : Int) (aB2 : List Int) : runS tt (laws_FnExactChanceOfNext_tab F) (laws_FnExactChanceOfNext_LS0 F) [] [] Try.f3 (bodyOf Try.f3) 70 [(.ints 16 aA0), (.int .i64 aDirection1), (.ints 16 aB2)] [] = laws_FnExactChanceOfNext_c _ F aA0 aDirection1 aB2 (fun r => some ⟨(.bool r), [], []⟩) := by kernel_rfl
def laws_FnExactChanceOfNext_ent (F : Nat) : Ent := ⟨[], .quiet, fun args mem => match args, mem with
  | [(.ints 16 aA0), (.int .i64 aDirection1), (.ints 16 aB2)], [] => some ((laws_FnExactChanceOfNext_p F aA0 aDirection1 aB2).isSome, ⟨(.bool ((laws_FnExactChanceOfNext_p F aA0 aDirection1 aB2).getD default)), [], []⟩)
  | _, _ => none⟩
theorem laws_FnExactChanceOfNext_fok : FunOK Try.prog 3 := funOK Try.func3 (by kernel_rfl) rfl
theorem laws_FnExactChanceOfNext_meets (F : Nat) : Meets Try.prog 3 (laws_FnExactChanceOfNext_ent F) := by
  refine meets_of_runS mixed ttok deep (laws_FnExactChanceOfNext_tabok F) Try.func3 (body_some rfl) (laws_FnExactChanceOfNext_lsok0 F) fun args mem hfit ret h => ?_
  clear hfit
  simp only [laws_FnExactChanceOfNext_ent] at h
  split at h
  · rename_i aA0 aDirection1 aB2
    simp only [Option.some.injEq, Prod.mk.injEq] at h
    obtain ⟨hc, rfl⟩ := h
    exact ⟨[], [], 70, _, (laws_FnExactChanceOfNext_run F aA0 aDirection1 aB2).trans ((laws_FnExactChanceOfNext_cp _ F aA0 aDirection1 aB2 _).trans (bind_use hc _)), rfl, rfl, rfl⟩
  · cases h

/-! loop.example/g01194/laws.toIntA2 -/
noncomputable def laws_toIntA2_tab (F : Nat) : Tab := []
theorem laws_toIntA2_tabok (F : Nat) : TabOK Try.prog (laws_toIntA2_tab F) := tab_nil
noncomputable def laws_toIntA2_LS0 (F : Nat) : LT := []
theorem laws_toIntA2_lsok0 (F : Nat) : LoopsOK Try.prog (laws_toIntA2_LS0 F) (bodyOf Try.f15) := loopsOK_nil
theorem laws_toIntA2_run (F : Nat) (a0 : List Int) : runS tt (laws_toIntA2_tab F) (laws_toIntA2_LS0 F) [] [] Try.f15 (bodyOf Try.f15) 70 [(.ints 2 a0)] [] = laws_toIntA2_c _ a0 (fun r => some ⟨(.ints 2 r), [], []⟩) := by kernel_rfl
def laws_toIntA2_ent (F : Nat) : Ent := ⟨[], .quiet, fun args mem => match args, mem with
  | [(.ints 2 a0)], [] => some (true, ⟨(.ints 2 (laws_toIntA2_v a0)), [], []⟩)
  | _, _ => none⟩
theorem laws_toIntA2_fok : FunOK Try.prog 15 := funOK Try.func15 (by kernel_rfl) rfl
theorem laws_toIntA2_meets (F : Nat) : Meets Try.prog 15 (laws_toIntA2_ent F) := by
  refine meets_of_runS mixed ttok deep (laws_toIntA2_tabok F) Try.func15 (body_some rfl) (laws_toIntA2_lsok0 F) fun args mem hfit ret h => ?_
  clear hfit
  simp only [laws_toIntA2_ent] at h
  split at h
  · rename_i a0
    simp only [Option.some.injEq, Prod.mk.injEq] at h
    obtain ⟨hc, rfl⟩ := h
    exact ⟨[], [], 70, _, (laws_toIntA2_run F a0).trans (laws_toIntA2_cv _ a0 _), rfl, rfl, rfl⟩
  · cases h

/-! loop.example/g01194/spec.ChanceOfTile -/
noncomputable def spec_ChanceOfTile_tab (F : Nat) : Tab := [(33, (spec_l9Move_ent F)), (43, (spec_l2Cell_ent F)), (44, (spec_l1In_ent F)), (35, (spec_l5Steps_ent F)), (36, (spec_l9Boards_ent F)), (45, (spec_l2At_ent F)), (37, (spec_l9One_ent F)), (38, (spec_l9Mean_ent F))]
theorem spec_ChanceOfTile_tabok (F : Nat) : TabOK Try.prog (spec_ChanceOfTile_tab F) := (tab_cons (spec_l9Move_meets F) spec_l9Move_fok (tab_cons (spec_l2Cell_meets F) spec_l2Cell_fok (tab_cons (spec_l1In_meets F) spec_l1In_fok (tab_cons (spec_l5Steps_meets F) spec_l5Steps_fok (tab_cons (spec_l9Boards_meets F) spec_l9Boards_fok (tab_cons (spec_l2At_meets F) spec_l2At_fok (tab_cons (spec_l9One_meets F) spec_l9One_fok (tab_cons (spec_l9Mean_meets F) spec_l9Mean_fok tab_nil))))))))
noncomputable def spec_ChanceOfTile_LS0 (F : Nat) : LT := []
theorem spec_ChanceOfTile_lsok0 (F : Nat) : LoopsOK Try.prog (spec_ChanceOfTile_LS0 F) (bodyOf Try.f14) := loopsOK_nil
theorem spec_ChanceOfTile_keys : keysOK (bodyOf Try.f14) = true := by kernel_rfl
def spec_ChanceOfTile_st6 (t0 : Int) (cell14 : List Int) (steps16 : List (List Int)) (all18 : List (List Int)) (i13 : Int) (numbers17 : List Int) : St := ⟨expand 57 0 [3, 6, 8, 10, 11, 12, 13] [(.int .i64 t0), (.ptr 0 0 0 2), (.ptr 1 0 0 2), (.sl 2 0 (List.length steps16)), (.sl 3 0 (List.length numbers17)), (.sl 4 0 (List.length all18)), (.int .i64 i13)], [(.var 2 (.ri .i64 cell14)), (.var 2 (.ri .i64 [(0 : Int), (0 : Int)])), (.vec 75 (.rr 4 steps16)), (.vec 3 (.ri .i64 numbers17)), (.vec 29 (.rr 16 all18))], 0, []⟩
def spec_ChanceOfTile_o6 (t0 : Int) (cell14 : List Int) (steps16 : List (List Int)) (all18 : List (List Int)) (x : List Int) : GT := (.out (.exit 0 ⟨expand 57 0 [8, 10, 11] [(.ptr 0 0 0 2), (.sl 1 0 (List.length steps16)), (.sl 2 0 (List.length x))], [(.var 2 (.ri .i64 [(0 : Int), (0 : Int)])), (.vec 75 (.rr 4 steps16)), (.vec 3 (.ri .i64 x))], 0, []⟩))
def spec_ChanceOfTile_ls6 (F : Nat) : LoopS := ⟨57, [3, 6, 8, 10, 11, 12, 13], [], [8, 10, 11], [], [8, 9], [], [], fun vals mem np killed => match vals, mem, np, killed with
  | [(.int .i64 t0), (.ptr 0 0 0 2), (.ptr 1 0 0 2), (.sl 2 0 q_steps8), (.sl 3 0 q_numbers10), (.sl 4 0 q_all12), (.int .i64 i13)], [(.var 2 (.ri .i64 cell14)), (.var 2 (.ri .i64 q_t815)), (.vec 75 (.rr 4 steps16)), (.vec 3 (.ri .i64 numbers17)), (.vec 29 (.rr 16 all18))], 0, [] => .br ((q_t815 == ([(0 : Int), (0 : Int)] : List Int)) && ((Nat.beq q_steps8 (List.length steps16)) && ((Nat.beq q_numbers10 (List.length numbers17)) && ((Nat.beq q_all12 (List.length all18)) && (spec_ChanceOfTile_l6 F t0 cell14 steps16 all18 i13 numbers17).isSome)))) (spec_ChanceOfTile_o6 t0 cell14 steps16 all18 ((spec_ChanceOfTile_l6 F t0 cell14 steps16 all18 i13 numbers17).getD default)) .fail
  | _, _, _, _ => .fail⟩
theorem spec_ChanceOfTile_step6 (F : Nat) (t0 : Int) (cell14 : List Int) (steps16 : List (List Int)) (all18 : List (List Int)) (i13 : Int) (numbers17 : List Int) {R : Type} (k : Out → Option R) : stepS tt (spec_ChanceOfTile_tab F) (spec_ChanceOfTile_LS0 F) 70 (spec_ChanceOfTile_ls6 F) (loopAt 6 (bodyOf Try.f14)) (spec_ChanceOfTile_st6 t0 cell14 steps16 all18 i13 numbers17) k = spec_ChanceOfTile_s6 F t0 cell14 steps16 all18 R (i13, numbers17) (fun s => k (.norm (spec_ChanceOfTile_st6 t0 cell14 steps16 all18 s.1 s.2))) (fun x => (spec_ChanceOfTile_o6 t0 cell14 steps16 all18 x).run k) := by kernel_rfl
theorem spec_ChanceOfTile_iter6 (F : Nat) (t0 : Int) (cell14 : List Int) (steps16 : List (List Int)) (all18 : List (List Int)) {R : Type} (k : Out → Option R) : ∀ (n : Nat) (i13 : Int) (numbers17 : List Int), iterS tt (spec_ChanceOfTile_tab F) (spec_ChanceOfTile_LS0 F) 70 (spec_ChanceOfTile_ls6 F) (loopAt 6 (bodyOf Try.f14)) n (spec_ChanceOfTile_st6 t0 cell14 steps16 all18 i13 numbers17) k = loopC (spec_ChanceOfTile_s6 F t0 cell14 steps16 all18) n (i13, numbers17) (fun x => (spec_ChanceOfTile_o6 t0 cell14 steps16 all18 x).run k)
  | 0, i13, numbers17 => rfl
  | n + 1, i13, numbers17 => (iterS_succ tt (spec_ChanceOfTile_tab F) (spec_ChanceOfTile_LS0 F) 70 (spec_ChanceOfTile_ls6 F) (loopAt 6 (bodyOf Try.f14)) n (spec_ChanceOfTile_st6 t0 cell14 steps16 all18 i13 numbers17) k).trans ((spec_ChanceOfTile_step6 F t0 cell14 steps16 all18 i13 numbers17 (nextK (iterS tt (spec_ChanceOfTile_tab F) (spec_ChanceOfTile_LS0 F) 70 (spec_ChanceOfTile_ls6 F) (loopAt 6 (bodyOf Try.f14)) n) k)).trans (congrArg (fun kn => spec_ChanceOfTile_s6 F t0 cell14 steps16 all18 R (i13, numbers17) kn _) (funext (fun ⟨i13, numbers17⟩ => spec_ChanceOfTile_iter6 F t0 cell14 steps16 all18 k n i13 numbers17))))
theorem spec_ChanceOfTile_lok6 (F : Nat) : LoopOK Try.prog (loopAt 6 (bodyOf Try.f14)) (spec_ChanceOfTile_ls6 F) := by
  refine loopOK_of mixed ttok deep (spec_ChanceOfTile_tabok F) (loopsOK_at (spec_ChanceOfTile_lsok0 F) 6) (fuel := 70) fun R vals mem np killed k x h => ?_
  simp only [spec_ChanceOfTile_ls6] at h
  split at h
  · rename_i t0 q_steps8 q_numbers10 q_all12 i13 cell14 q_t815 steps16 numbers17 all18
    simp only [GT.run] at h
    have hc := (cond_noneL h).1
    replace h := (cond_noneL h).2
    have hg := (and_split hc).1
    replace hc := (and_split hc).2
    obtain rfl := beq_li hg
    have hg := (and_split hc).1
    replace hc := (and_split hc).2
    obtain rfl := nbeq_nat hg
    have hg := (and_split hc).1
    replace hc := (and_split hc).2
    obtain rfl := nbeq_nat hg
    have hg := (and_split hc).1
    replace hc := (and_split hc).2
    obtain rfl := nbeq_nat hg
    refine ⟨F, (spec_ChanceOfTile_iter6 F t0 cell14 steps16 all18 k F i13 numbers17).trans ((loopC_use (spec_ChanceOfTile_s6_nat F t0 cell14 steps16 all18) hc _).trans h)⟩
  · simp only [GT.run] at h
    cases h
noncomputable def spec_ChanceOfTile_LS1 (F : Nat) : LT := (6, spec_ChanceOfTile_ls6 F) :: spec_ChanceOfTile_LS0 F
theorem spec_ChanceOfTile_lsok1 (F : Nat) : LoopsOK Try.prog (spec_ChanceOfTile_LS1 F) (bodyOf Try.f14) := loopsOK_cons spec_ChanceOfTile_keys (spec_ChanceOfTile_lok6 F) (spec_ChanceOfTile_lsok0 F)
theorem spec_ChanceOfTile_run (F : Nat) (b0 : List Int) (direction1 : Int) (cell2 : List Int) (t3 : Int) : runS tt (spec_ChanceOfTile_tab F) (spec_ChanceOfTile_LS1 F) [] [] Try.f14 (bodyOf Try.f14) 70 [(.ints 16 b0), (.int .i64 direction1), (.ints 2 cell2), (.int .i64 t3)] [] = spec_ChanceOfTile_c _ F b0 direction1 cell2 t3 (fun r => some ⟨(.tup [(.ints 2 r.1), (.bool r.2)]), [], []⟩) := by kernel_rfl
def spec_ChanceOfTile_ent (F : Nat) : Ent := ⟨[], .quiet, fun args mem => match args, mem with
  | [(.ints 16 b0), (.int .i64 direction1), (.ints 2 cell2), (.int .i64 t3)], [] => some ((spec_ChanceOfTile_p F b0 direction1 cell2 t3).isSome, ⟨(.tup [(.ints 2 ((spec_ChanceOfTile_p F b0 direction1 cell2 t3).getD default).1), (.bool ((spec_ChanceOfTile_p F b0 direction1 cell2 t3).getD default).2)]), [], []⟩)
  | _, _ => none⟩
theorem spec_ChanceOfTile_fok : FunOK Try.prog 14 := funOK Try.func14 (by kernel_rfl) rfl
theorem spec_ChanceOfTile_meets (F : Nat) : Meets Try.prog 14 (spec_ChanceOfTile_ent F) := by
  refine meets_of_runS mixed ttok deep (spec_ChanceOfTile_tabok F) Try.func14 (body_some rfl) (spec_ChanceOfTile_lsok1 F) fun args mem hfit ret h => ?_
  clear hfit
  simp only [spec_ChanceOfTile_ent] at h
  split at h
  · rename_i b0 direction1 cell2 t3
    simp only [Option.some.injEq, Prod.mk.injEq] at h
    obtain ⟨hc, rfl⟩ := h
    exact ⟨[], [], 70, _, (spec_ChanceOfTile_run F b0 direction1 cell2 t3).trans ((spec_ChanceOfTile_cp _ F b0 direction1 cell2 t3 _).trans (bind_use hc _)), rfl, rfl, rfl⟩
  · cases h

/-! loop.example/g01194/impl.isCell -/
noncomputable def impl_isCell_tab (F : Nat) : Tab := [(47, (impl_in_ent F))]
theorem impl_isCell_tabok (F : Nat) : TabOK Try.prog (impl_isCell_tab F) := (tab_cons (impl_in_meets F) impl_in_fok tab_nil)
noncomputable def impl_isCell_LS0 (F : Nat) : LT := []
theorem impl_isCell_lsok0 (F : Nat) : LoopsOK Try.prog (impl_isCell_LS0 F) (bodyOf Try.f46) := loopsOK_nil
theorem impl_isCell_run (F : Nat) (cell0 : List Int) : runS tt (impl_isCell_tab F) (impl_isCell_LS0 F) [] [] Try.f46 (bodyOf Try.f46) 70 [(.ints 2 cell0)] [] = impl_isCell_c _ cell0 (fun r => some ⟨(.bool r), [], []⟩) := by kernel_rfl
def impl_isCell_ent (F : Nat) : Ent := ⟨[], .quiet, fun args mem => match args, mem with
  | [(.ints 2 cell0)], [] => some (true, ⟨(.bool (impl_isCell_v cell0)), [], []⟩)
  | _, _ => none⟩
theorem impl_isCell_fok : FunOK Try.prog 46 := funOK Try.func46 (by kernel_rfl) rfl
theorem impl_isCell_meets (F : Nat) : Meets Try.prog 46 (impl_isCell_ent F) := by
  refine meets_of_runS mixed ttok deep (impl_isCell_tabok F) Try.func46 (body_some rfl) (impl_isCell_lsok0 F) fun args mem hfit ret h => ?_
  clear hfit
  simp only [impl_isCell_ent] at h
  split at h
  · rename_i cell0
    simp only [Option.some.injEq, Prod.mk.injEq] at h
    obtain ⟨hc, rfl⟩ := h
    exact ⟨[], [], 70, _, (impl_isCell_run F cell0).trans (impl_isCell_cv _ cell0 _), rfl, rfl, rfl⟩
  · cases h
end Go.Proofs.Ytgpadaadcepgaaa
