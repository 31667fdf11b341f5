/-
Pure functions and what the code of them does, by program; without conditions.
-/
import Derived.Test.YtidmlibanopfhaaTGP3
import Derived.Test.YtidmlibanopfhaaTGS2
namespace Go.Proofs.Ytidmlibanopfhaa
open Go Go.Lv Go.Lv.P Go.Proofs
set_option linter.unusedVariables false
set_option linter.unusedSimpArgs false
set_option maxRecDepth 100000
/-! slices.IndexFunc[[][2]int,[2]int] -/
noncomputable def slices_IndexFunc_2int2int_impl_Board_empty_f1_tab (F : Nat) : Tab := [(88, (impl_Board_empty_f1_ent F))]
theorem slices_IndexFunc_2int2int_impl_Board_empty_f1_tabok (F : Nat) : TabOK Try.prog (slices_IndexFunc_2int2int_impl_Board_empty_f1_tab F) := (tab_cons (impl_Board_empty_f1_meets F) impl_Board_empty_f1_fok tab_nil)
noncomputable def slices_IndexFunc_2int2int_impl_Board_empty_f1_LS0 (F : Nat) : LT := []
theorem slices_IndexFunc_2int2int_impl_Board_empty_f1_lsok0 (F : Nat) : LoopsOK Try.prog (slices_IndexFunc_2int2int_impl_Board_empty_f1_LS0 F) (bodyOf Try.f91) := loopsOK_nil
theorem slices_IndexFunc_2int2int_impl_Board_empty_f1_keys : keysOK (bodyOf Try.f91) = true := by kernel_rfl
def slices_IndexFunc_2int2int_impl_Board_empty_f1_st2 (s0 : List (List Int)) (t74 : Int) (f6 : List Int) (t85 : Int) : St := ⟨expand 19 0 [0, 1, 7, 8] [(.rr 2 s0), (.fn 88 [] [(.ptr 0 0 0 16)]), (.int .i64 t74), (.int .i64 t85)], [(.var 16 (.ri .i64 f6))], 1, []⟩
def slices_IndexFunc_2int2int_impl_Board_empty_f1_o2 (s0 : List (List Int)) (t74 : Int) (f6 : List Int) (x : Bool × Int) : GT := (.br x.1 (.out (.ret ⟨expand 19 0 [4] [(.int .i64 x.2)], [(.var 16 (.ri .i64 f6))], 1, []⟩)) (.out (.exit 0 ⟨expand 19 0 [] [], [(.var 16 (.ri .i64 f6))], 1, []⟩)))
def slices_IndexFunc_2int2int_impl_Board_empty_f1_ls2 (F : Nat) : LoopS := ⟨19, [0, 1, 7, 8], [], [], [], [4], [], [], fun vals mem np killed => match vals, mem, np, killed with
  | [(.rr 2 s0), (.fn 88 [] [(.ptr 0 0 0 16)]), (.int .i64 t74), (.int .i64 t85)], [(.var 16 (.ri .i64 f6))], 1, [] => .br (slices_IndexFunc_2int2int_impl_Board_empty_f1_l2 F s0 t74 f6 t85).isSome (slices_IndexFunc_2int2int_impl_Board_empty_f1_o2 s0 t74 f6 ((slices_IndexFunc_2int2int_impl_Board_empty_f1_l2 F s0 t74 f6 t85).getD default)) .fail
  | _, _, _, _ => .fail⟩
theorem slices_IndexFunc_2int2int_impl_Board_empty_f1_step2 (F : Nat) (s0 : List (List Int)) (t74 : Int) (f6 : List Int) (t85 : Int) {R : Type} (k : Out → Option R) : stepS tt (slices_IndexFunc_2int2int_impl_Board_empty_f1_tab F) (slices_IndexFunc_2int2int_impl_Board_empty_f1_LS0 F) 70 (slices_IndexFunc_2int2int_impl_Board_empty_f1_ls2 F) (loopAt 2 (bodyOf Try.f91)) (slices_IndexFunc_2int2int_impl_Board_empty_f1_st2 s0 t74 f6 t85) k = slices_IndexFunc_2int2int_impl_Board_empty_f1_s2 F s0 t74 f6 R t85 (fun s => k (.norm (slices_IndexFunc_2int2int_impl_Board_empty_f1_st2 s0 t74 f6 s))) (fun x => (slices_IndexFunc_2int2int_impl_Board_empty_f1_o2 s0 t74 f6 x).run k) := by kernel_rfl
theorem slices_IndexFunc_2int2int_impl_Board_empty_f1_iter2 (F : Nat) (s0 : List (List Int)) (t74 : Int) (f6 : List Int) {R : Type} (k : Out → Option R) : ∀ (n : Nat) (t85 : Int), iterS tt (slices_IndexFunc_2int2int_impl_Board_empty_f1_tab F) (slices_IndexFunc_2int2int_impl_Board_empty_f1_LS0 F) 70 (slices_IndexFunc_2int2int_impl_Board_empty_f1_ls2 F) (loopAt 2 (bodyOf Try.f91)) n (slices_IndexFunc_2int2int_impl_Board_empty_f1_st2 s0 t74 f6 t85) k = loopC (slices_IndexFunc_2int2int_impl_Board_empty_f1_s2 F s0 t74 f6) n t85 (fun x => (slices_IndexFunc_2int2int_impl_Board_empty_f1_o2 s0 t74 f6 x).run k)
  | 0, t85 => rfl
  | n + 1, t85 => (iterS_succ tt (slices_IndexFunc_2int2int_impl_Board_empty_f1_tab F) (slices_IndexFunc_2int2int_impl_Board_empty_f1_LS0 F) 70 (slices_IndexFunc_2int2int_impl_Board_empty_f1_ls2 F) (loopAt 2 (bodyOf Try.f91)) n (slices_IndexFunc_2int2int_impl_Board_empty_f1_st2 s0 t74 f6 t85) k).trans ((slices_IndexFunc_2int2int_impl_Board_empty_f1_step2 F s0 t74 f6 t85 (nextK (iterS tt (slices_IndexFunc_2int2int_impl_Board_empty_f1_tab F) (slices_IndexFunc_2int2int_impl_Board_empty_f1_LS0 F) 70 (slices_IndexFunc_2int2int_impl_Board_empty_f1_ls2 F) (loopAt 2 (bodyOf Try.f91)) n) k)).trans (congrArg (fun kn => slices_IndexFunc_2int2int_impl_Board_empty_f1_s2 F s0 t74 f6 R t85 kn _) (funext (fun t85 => slices_IndexFunc_2int2int_impl_Board_empty_f1_iter2 F s0 t74 f6 k n t85))))
theorem slices_IndexFunc_2int2int_impl_Board_empty_f1_lok2 (F : Nat) : LoopOK Try.prog (loopAt 2 (bodyOf Try.f91)) (slices_IndexFunc_2int2int_impl_Board_empty_f1_ls2 F) := by
  refine loopOK_of mixed ttok deep (slices_IndexFunc_2int2int_impl_Board_empty_f1_tabok F) (loopsOK_at (slices_IndexFunc_2int2int_impl_Board_empty_f1_lsok0 F) 2) (fuel := 70) fun R vals mem np killed k x h => ?_
  simp only [slices_IndexFunc_2int2int_impl_Board_empty_f1_ls2] at h
  split at h
  · rename_i s0 t74 t85 f6
    simp only [GT.run] at h
    have hc := (cond_noneL h).1
    replace h := (cond_noneL h).2
    refine ⟨F, (slices_IndexFunc_2int2int_impl_Board_empty_f1_iter2 F s0 t74 f6 k F t85).trans ((loopC_use (slices_IndexFunc_2int2int_impl_Board_empty_f1_s2_nat F s0 t74 f6) hc _).trans h)⟩
  · simp only [GT.run] at h
    cases h
noncomputable def slices_IndexFunc_2int2int_impl_Board_empty_f1_LS1 (F : Nat) : LT := (2, slices_IndexFunc_2int2int_impl_Board_empty_f1_ls2 F) :: slices_IndexFunc_2int2int_impl_Board_empty_f1_LS0 F
theorem slices_IndexFunc_2int2int_impl_Board_empty_f1_lsok1 (F : Nat) : LoopsOK Try.prog (slices_IndexFunc_2int2int_impl_Board_empty_f1_LS1 F) (bodyOf Try.f91) := loopsOK_cons slices_IndexFunc_2int2int_impl_Board_empty_f1_keys (slices_IndexFunc_2int2int_impl_Board_empty_f1_lok2 F) (slices_IndexFunc_2int2int_impl_Board_empty_f1_lsok0 F)
theorem slices_IndexFunc_2int2int_impl_Board_empty_f1_run (F : Nat) (s0 : List (List Int)) (f4 : List Int) : runS tt (slices_IndexFunc_2int2int_impl_Board_empty_f1_tab F) (slices_IndexFunc_2int2int_impl_Board_empty_f1_LS1 F) [] [] Try.f91 (bodyOf Try.f91) 70 [(.rr 2 s0), (.fn 88 [] [(.ptr 0 0 0 16)])] [(.var 16 (.ri .i64 f4))] = slices_IndexFunc_2int2int_impl_Board_empty_f1_c _ F s0 f4 (fun r => some ⟨(.int .i64 r), [(.var 16 (.ri .i64 f4))], []⟩) := by kernel_rfl
def slices_IndexFunc_2int2int_impl_Board_empty_f1_ent (F : Nat) : Ent := ⟨[], .quiet, fun args mem => match args, mem with
  | [(.rr 2 s0), (.fn 88 [] [(.ptr 0 0 0 16)])], [(.var 16 (.ri .i64 f4))] => some ((slices_IndexFunc_2int2int_impl_Board_empty_f1_p F s0 f4).isSome, ⟨(.int .i64 ((slices_IndexFunc_2int2int_impl_Board_empty_f1_p F s0 f4).getD default)), [], []⟩)
  | _, _ => none⟩
theorem slices_IndexFunc_2int2int_impl_Board_empty_f1_fok : FunOK Try.prog 91 := funOK Try.func91 (by kernel_rfl) rfl
theorem slices_IndexFunc_2int2int_impl_Board_empty_f1_meets (F : Nat) : Meets Try.prog 91 (slices_IndexFunc_2int2int_impl_Board_empty_f1_ent F) := by
  refine meets_of_runS mixed ttok deep (slices_IndexFunc_2int2int_impl_Board_empty_f1_tabok F) Try.func91 (body_some rfl) (slices_IndexFunc_2int2int_impl_Board_empty_f1_lsok1 F) fun args mem hfit ret h => ?_
  clear hfit
  simp only [slices_IndexFunc_2int2int_impl_Board_empty_f1_ent] at h
  split at h
  · rename_i s0 f4
    simp only [Option.some.injEq, Prod.mk.injEq] at h
    obtain ⟨hc, rfl⟩ := h
    exact ⟨[], [], 70, _, (slices_IndexFunc_2int2int_impl_Board_empty_f1_run F s0 f4).trans ((slices_IndexFunc_2int2int_impl_Board_empty_f1_cp _ F s0 f4 _).trans (bind_use hc _)), rfl, rfl, rfl⟩
  · cases h

/-! slices.DeleteFunc[[][2]int,[2]int] -/
noncomputable def slices_DeleteFunc_2int2int_impl_Board_empty_f1_tab (F : Nat) : Tab := [(91, (slices_IndexFunc_2int2int_impl_Board_empty_f1_ent F)), (88, (impl_Board_empty_f1_ent F))]
theorem slices_DeleteFunc_2int2int_impl_Board_empty_f1_tabok (F : Nat) : TabOK Try.prog (slices_DeleteFunc_2int2int_impl_Board_empty_f1_tab F) := (tab_cons (slices_IndexFunc_2int2int_impl_Board_empty_f1_meets F) slices_IndexFunc_2int2int_impl_Board_empty_f1_fok (tab_cons (impl_Board_empty_f1_meets F) impl_Board_empty_f1_fok tab_nil))
noncomputable def slices_DeleteFunc_2int2int_impl_Board_empty_f1_LS0 (F : Nat) : LT := []
theorem slices_DeleteFunc_2int2int_impl_Board_empty_f1_lsok0 (F : Nat) : LoopsOK Try.prog (slices_DeleteFunc_2int2int_impl_Board_empty_f1_LS0 F) (bodyOf Try.f86) := loopsOK_nil
theorem slices_DeleteFunc_2int2int_impl_Board_empty_f1_keys : keysOK (bodyOf Try.f86) = true := by kernel_rfl
def slices_DeleteFunc_2int2int_impl_Board_empty_f1_st5 (s1 : Nat) (del8 : List Int) (i5 : Int) (j6 : Int) (s7 : List (List Int)) : St := ⟨expand 42 0 [0, 1, 5, 6] [(.sl 0 0 s1), (.fn 88 [] [(.ptr 1 0 0 16)]), (.int .i64 i5), (.int .i64 j6)], [(.vec 80 (.rr 2 s7)), (.var 16 (.ri .i64 del8))], 2, []⟩
def slices_DeleteFunc_2int2int_impl_Board_empty_f1_o5 (s1 : Nat) (del8 : List Int) (x : Int × List (List Int)) : GT := (.out (.exit 0 ⟨expand 42 0 [0, 5] [(.sl 0 0 s1), (.int .i64 x.1)], [(.vec 80 (.rr 2 x.2)), (.var 16 (.ri .i64 del8))], 2, []⟩))
def slices_DeleteFunc_2int2int_impl_Board_empty_f1_ls5 (F : Nat) : LoopS := ⟨42, [0, 1, 5, 6], [], [0, 5], [], [4], [], [], fun vals mem np killed => match vals, mem, np, killed with
  | [(.sl 0 0 s1), (.fn 88 [] [(.ptr 1 0 0 16)]), (.int .i64 i5), (.int .i64 j6)], [(.vec 80 (.rr 2 s7)), (.var 16 (.ri .i64 del8))], 2, [] => .br (slices_DeleteFunc_2int2int_impl_Board_empty_f1_l5 F s1 del8 i5 j6 s7).isSome (slices_DeleteFunc_2int2int_impl_Board_empty_f1_o5 s1 del8 ((slices_DeleteFunc_2int2int_impl_Board_empty_f1_l5 F s1 del8 i5 j6 s7).getD default)) .fail
  | _, _, _, _ => .fail⟩
theorem slices_DeleteFunc_2int2int_impl_Board_empty_f1_step5 (F : Nat) (s1 : Nat) (del8 : List Int) (i5 : Int) (j6 : Int) (s7 : List (List Int)) {R : Type} (k : Out → Option R) : stepS tt (slices_DeleteFunc_2int2int_impl_Board_empty_f1_tab F) (slices_DeleteFunc_2int2int_impl_Board_empty_f1_LS0 F) 70 (slices_DeleteFunc_2int2int_impl_Board_empty_f1_ls5 F) (loopAt 5 (bodyOf Try.f86)) (slices_DeleteFunc_2int2int_impl_Board_empty_f1_st5 s1 del8 i5 j6 s7) k = slices_DeleteFunc_2int2int_impl_Board_empty_f1_s5 F s1 del8 R (i5, j6, s7) (fun s => k (.norm (slices_DeleteFunc_2int2int_impl_Board_empty_f1_st5 s1 del8 s.1 s.2.1 s.2.2))) (fun x => (slices_DeleteFunc_2int2int_impl_Board_empty_f1_o5 s1 del8 x).run k) := by kernel_rfl
theorem slices_DeleteFunc_2int2int_impl_Board_empty_f1_iter5 (F : Nat) (s1 : Nat) (del8 : List Int) {R : Type} (k : Out → Option R) : ∀ (n : Nat) (i5 : Int) (j6 : Int) (s7 : List (List Int)), iterS tt (slices_DeleteFunc_2int2int_impl_Board_empty_f1_tab F) (slices_DeleteFunc_2int2int_impl_Board_empty_f1_LS0 F) 70 (slices_DeleteFunc_2int2int_impl_Board_empty_f1_ls5 F) (loopAt 5 (bodyOf Try.f86)) n (slices_DeleteFunc_2int2int_impl_Board_empty_f1_st5 s1 del8 i5 j6 s7) k = loopC (slices_DeleteFunc_2int2int_impl_Board_empty_f1_s5 F s1 del8) n (i5, j6, s7) (fun x => (slices_DeleteFunc_2int2int_impl_Board_empty_f1_o5 s1 del8 x).run k)
  | 0, i5, j6, s7 => rfl
  | n + 1, i5, j6, s7 => (iterS_succ tt (slices_DeleteFunc_2int2int_impl_Board_empty_f1_tab F) (slices_DeleteFunc_2int2int_impl_Board_empty_f1_LS0 F) 70 (slices_DeleteFunc_2int2int_impl_Board_empty_f1_ls5 F) (loopAt 5 (bodyOf Try.f86)) n (slices_DeleteFunc_2int2int_impl_Board_empty_f1_st5 s1 del8 i5 j6 s7) k).trans ((slices_DeleteFunc_2int2int_impl_Board_empty_f1_step5 F s1 del8 i5 j6 s7 (nextK (iterS tt (slices_DeleteFunc_2int2int_impl_Board_empty_f1_tab F) (slices_DeleteFunc_2int2int_impl_Board_empty_f1_LS0 F) 70 (slices_DeleteFunc_2int2int_impl_Board_empty_f1_ls5 F) (loopAt 5 (bodyOf Try.f86)) n) k)).trans (congrArg (fun kn => slices_DeleteFunc_2int2int_impl_Board_empty_f1_s5 F s1 del8 R (i5, j6, s7) kn _) (funext (fun ⟨i5, j6, s7⟩ => slices_DeleteFunc_2int2int_impl_Board_empty_f1_iter5 F s1 del8 k n i5 j6 s7))))
theorem slices_DeleteFunc_2int2int_impl_Board_empty_f1_lok5 (F : Nat) : LoopOK Try.prog (loopAt 5 (bodyOf Try.f86)) (slices_DeleteFunc_2int2int_impl_Board_empty_f1_ls5 F) := by
  refine loopOK_of mixed ttok deep (slices_DeleteFunc_2int2int_impl_Board_empty_f1_tabok F) (loopsOK_at (slices_DeleteFunc_2int2int_impl_Board_empty_f1_lsok0 F) 5) (fuel := 70) fun R vals mem np killed k x h => ?_
  simp only [slices_DeleteFunc_2int2int_impl_Board_empty_f1_ls5] at h
  split at h
  · rename_i s1 i5 j6 s7 del8
    simp only [GT.run] at h
    have hc := (cond_noneL h).1
    replace h := (cond_noneL h).2
    refine ⟨F, (slices_DeleteFunc_2int2int_impl_Board_empty_f1_iter5 F s1 del8 k F i5 j6 s7).trans ((loopC_use (slices_DeleteFunc_2int2int_impl_Board_empty_f1_s5_nat F s1 del8) hc _).trans h)⟩
  · simp only [GT.run] at h
    cases h
noncomputable def slices_DeleteFunc_2int2int_impl_Board_empty_f1_LS1 (F : Nat) : LT := (5, slices_DeleteFunc_2int2int_impl_Board_empty_f1_ls5 F) :: slices_DeleteFunc_2int2int_impl_Board_empty_f1_LS0 F
theorem slices_DeleteFunc_2int2int_impl_Board_empty_f1_lsok1 (F : Nat) : LoopsOK Try.prog (slices_DeleteFunc_2int2int_impl_Board_empty_f1_LS1 F) (bodyOf Try.f86) := loopsOK_cons slices_DeleteFunc_2int2int_impl_Board_empty_f1_keys (slices_DeleteFunc_2int2int_impl_Board_empty_f1_lok5 F) (slices_DeleteFunc_2int2int_impl_Board_empty_f1_lsok0 F)
theorem slices_DeleteFunc_2int2int_impl_Board_empty_f1_run (F : Nat) (s5 : List (List Int)) (del6 : List Int) : runS tt (slices_DeleteFunc_2int2int_impl_Board_empty_f1_tab F) (slices_DeleteFunc_2int2int_impl_Board_empty_f1_LS1 F) [] [] Try.f86 (bodyOf Try.f86) 70 [(.sl 0 0 (List.length s5)), (.fn 88 [] [(.ptr 1 0 0 16)])] [(.vec 80 (.rr 2 s5)), (.var 16 (.ri .i64 del6))] = slices_DeleteFunc_2int2int_impl_Board_empty_f1_c _ F s5 del6 (fun r => some ⟨(.sl 0 0 r.1), [(.vec 80 (.rr 2 r.2)), (.var 16 (.ri .i64 del6))], []⟩) := by kernel_rfl
def slices_DeleteFunc_2int2int_impl_Board_empty_f1_ent (F : Nat) : Ent := ⟨[true], .loud, fun args mem => match args, mem with
  | [(.sl 0 0 q_s1), (.fn 88 [] [(.ptr 1 0 0 16)])], [(.vec 80 (.rr 2 s5)), (.var 16 (.ri .i64 del6))] => some (((Nat.beq q_s1 (List.length s5)) && (slices_DeleteFunc_2int2int_impl_Board_empty_f1_p F s5 del6).isSome), ⟨(.sl 0 0 ((slices_DeleteFunc_2int2int_impl_Board_empty_f1_p F s5 del6).getD default).1), [(.vec 80 (.rr 2 ((slices_DeleteFunc_2int2int_impl_Board_empty_f1_p F s5 del6).getD default).2)), (.var 16 (.ri .i64 del6))], []⟩)
  | _, _ => none⟩
theorem slices_DeleteFunc_2int2int_impl_Board_empty_f1_fok : FunOK Try.prog 86 := funOK Try.func86 (by kernel_rfl) rfl
theorem slices_DeleteFunc_2int2int_impl_Board_empty_f1_meets (F : Nat) : Meets Try.prog 86 (slices_DeleteFunc_2int2int_impl_Board_empty_f1_ent F) := by
  refine meets_of_runS mixed ttok deep (slices_DeleteFunc_2int2int_impl_Board_empty_f1_tabok F) Try.func86 (body_some rfl) (slices_DeleteFunc_2int2int_impl_Board_empty_f1_lsok1 F) fun args mem hfit ret h => ?_
  clear hfit
  simp only [slices_DeleteFunc_2int2int_impl_Board_empty_f1_ent] at h
  split at h
  · rename_i q_s1 s5 del6
    simp only [Option.some.injEq, Prod.mk.injEq] at h
    obtain ⟨hc, rfl⟩ := h
    have hg := (and_split hc).1
    replace hc := (and_split hc).2
    obtain rfl := nbeq_nat hg
    exact ⟨[], [], 70, _, (slices_DeleteFunc_2int2int_impl_Board_empty_f1_run F s5 del6).trans ((slices_DeleteFunc_2int2int_impl_Board_empty_f1_cp _ F s5 del6 _).trans (bind_use hc _)), rfl, rfl, rfl⟩
  · cases h

/-! (loop.example/g01194/impl.Board).empty -/
noncomputable def impl_Board_empty_tab (F : Nat) : Tab := [(87, (impl_cells_ent F)), (86, (slices_DeleteFunc_2int2int_impl_Board_empty_f1_ent F))]
theorem impl_Board_empty_tabok (F : Nat) : TabOK Try.prog (impl_Board_empty_tab F) := (tab_cons (impl_cells_meets F) impl_cells_fok (tab_cons (slices_DeleteFunc_2int2int_impl_Board_empty_f1_meets F) slices_DeleteFunc_2int2int_impl_Board_empty_f1_fok tab_nil))
noncomputable def impl_Board_empty_LS0 (F : Nat) : LT := []
theorem impl_Board_empty_lsok0 (F : Nat) : LoopsOK Try.prog (impl_Board_empty_LS0 F) (bodyOf Try.f81) := loopsOK_nil
theorem impl_Board_empty_run (F : Nat) (b0 : List Int) : runS tt (impl_Board_empty_tab F) (impl_Board_empty_LS0 F) [] [] Try.f81 (bodyOf Try.f81) 70 [(.ints 16 b0)] [] = impl_Board_empty_c _ F b0 (fun r => some ⟨(.sl 0 0 r.1), [(.vec 80 (.rr 2 r.2))], []⟩) := by kernel_rfl
def impl_Board_empty_ent (F : Nat) : Ent := ⟨[], .fresh, fun args mem => match args, mem with
  | [(.ints 16 b0)], [] => some ((impl_Board_empty_p F b0).isSome, ⟨(.sl 0 0 ((impl_Board_empty_p F b0).getD default).1), [(.vec 80 (.rr 2 ((impl_Board_empty_p F b0).getD default).2))], []⟩)
  | _, _ => none⟩
theorem impl_Board_empty_fok : FunOK Try.prog 81 := funOK Try.func81 (by kernel_rfl) rfl
theorem impl_Board_empty_meets (F : Nat) : Meets Try.prog 81 (impl_Board_empty_ent F) := by
  refine meets_of_runS mixed ttok deep (impl_Board_empty_tabok F) Try.func81 (body_some rfl) (impl_Board_empty_lsok0 F) fun args mem hfit ret h => ?_
  clear hfit
  simp only [impl_Board_empty_ent] at h
  split at h
  · rename_i b0
    simp only [Option.some.injEq, Prod.mk.injEq] at h
    obtain ⟨hc, rfl⟩ := h
    exact ⟨[], [], 70, _, (impl_Board_empty_run F b0).trans ((impl_Board_empty_cp _ F b0 _).trans (bind_use hc _)), rfl, rfl, rfl⟩
  · cases h

/-! (loop.example/g01194/impl.Board).placements -/
noncomputable def impl_Board_placements_tab (F : Nat) : Tab := [(81, (impl_Board_empty_ent F))]
theorem impl_Board_placements_tabok (F : Nat) : TabOK Try.prog (impl_Board_placements_tab F) := (tab_cons (impl_Board_empty_meets F) impl_Board_empty_fok tab_nil)
noncomputable def impl_Board_placements_LS0 (F : Nat) : LT := []
theorem impl_Board_placements_lsok0 (F : Nat) : LoopsOK Try.prog (impl_Board_placements_LS0 F) (bodyOf Try.f70) := loopsOK_nil
theorem impl_Board_placements_keys : keysOK (bodyOf Try.f70) = true := by kernel_rfl
def impl_Board_placements_st3 (t83 : Nat) (t94 : Int) (t87 : List (List Int)) (t105 : Int) (out6 : List (List Int)) : St := ⟨expand 29 0 [3, 8, 9, 10] [(.sl 0 0 (List.length out6)), (.sl 1 0 t83), (.int .i64 t94), (.int .i64 t105)], [(.vec 35 (.rr 3 out6)), (.vec 80 (.rr 2 t87))], 0, []⟩
def impl_Board_placements_o3 (t83 : Nat) (t94 : Int) (t87 : List (List Int)) (x : List (List Int)) : GT := (.out (.exit 0 ⟨expand 29 0 [3] [(.sl 0 0 (List.length x))], [(.vec 35 (.rr 3 x))], 0, []⟩))
def impl_Board_placements_ls3 (F : Nat) : LoopS := ⟨29, [3, 8, 9, 10], [], [3], [], [2], [], [], fun vals mem np killed => match vals, mem, np, killed with
  | [(.sl 0 0 q_out1), (.sl 1 0 t83), (.int .i64 t94), (.int .i64 t105)], [(.vec 35 (.rr 3 out6)), (.vec 80 (.rr 2 t87))], 0, [] => .br ((Nat.beq q_out1 (List.length out6)) && (impl_Board_placements_l3 F t83 t94 t87 t105 out6).isSome) (impl_Board_placements_o3 t83 t94 t87 ((impl_Board_placements_l3 F t83 t94 t87 t105 out6).getD default)) .fail
  | _, _, _, _ => .fail⟩
theorem impl_Board_placements_step3 (F : Nat) (t83 : Nat) (t94 : Int) (t87 : List (List Int)) (t105 : Int) (out6 : List (List Int)) {R : Type} (k : Out → Option R) : stepS tt (impl_Board_placements_tab F) (impl_Board_placements_LS0 F) 70 (impl_Board_placements_ls3 F) (loopAt 3 (bodyOf Try.f70)) (impl_Board_placements_st3 t83 t94 t87 t105 out6) k = impl_Board_placements_s3 F t83 t94 t87 R (t105, out6) (fun s => k (.norm (impl_Board_placements_st3 t83 t94 t87 s.1 s.2))) (fun x => (impl_Board_placements_o3 t83 t94 t87 x).run k) := by kernel_rfl
theorem impl_Board_placements_iter3 (F : Nat) (t83 : Nat) (t94 : Int) (t87 : List (List Int)) {R : Type} (k : Out → Option R) : ∀ (n : Nat) (t105 : Int) (out6 : List (List Int)), iterS tt (impl_Board_placements_tab F) (impl_Board_placements_LS0 F) 70 (impl_Board_placements_ls3 F) (loopAt 3 (bodyOf Try.f70)) n (impl_Board_placements_st3 t83 t94 t87 t105 out6) k = loopC (impl_Board_placements_s3 F t83 t94 t87) n (t105, out6) (fun x => (impl_Board_placements_o3 t83 t94 t87 x).run k)
  | 0, t105, out6 => rfl
  | n + 1, t105, out6 => (iterS_succ tt (impl_Board_placements_tab F) (impl_Board_placements_LS0 F) 70 (impl_Board_placements_ls3 F) (loopAt 3 (bodyOf Try.f70)) n (impl_Board_placements_st3 t83 t94 t87 t105 out6) k).trans ((impl_Board_placements_step3 F t83 t94 t87 t105 out6 (nextK (iterS tt (impl_Board_placements_tab F) (impl_Board_placements_LS0 F) 70 (impl_Board_placements_ls3 F) (loopAt 3 (bodyOf Try.f70)) n) k)).trans (congrArg (fun kn => impl_Board_placements_s3 F t83 t94 t87 R (t105, out6) kn _) (funext (fun ⟨t105, out6⟩ => impl_Board_placements_iter3 F t83 t94 t87 k n t105 out6))))
theorem impl_Board_placements_lok3 (F : Nat) : LoopOK Try.prog (loopAt 3 (bodyOf Try.f70)) (impl_Board_placements_ls3 F) := by
  refine loopOK_of mixed ttok deep (impl_Board_placements_tabok F) (loopsOK_at (impl_Board_placements_lsok0 F) 3) (fuel := 70) fun R vals mem np killed k x h => ?_
  simp only [impl_Board_placements_ls3] at h
  split at h
  · rename_i q_out1 t83 t94 t105 out6 t87
    simp only [GT.run] at h
    have hc := (cond_noneL h).1
    replace h := (cond_noneL h).2
    have hg := (and_split hc).1
    replace hc := (and_split hc).2
    obtain rfl := nbeq_nat hg
    refine ⟨F, (impl_Board_placements_iter3 F t83 t94 t87 k F t105 out6).trans ((loopC_use (impl_Board_placements_s3_nat F t83 t94 t87) hc _).trans h)⟩
  · simp only [GT.run] at h
    cases h
noncomputable def impl_Board_placements_LS1 (F : Nat) : LT := (3, impl_Board_placements_ls3 F) :: impl_Board_placements_LS0 F
theorem impl_Board_placements_lsok1 (F : Nat) : LoopsOK Try.prog (impl_Board_placements_LS1 F) (bodyOf Try.f70) := loopsOK_cons impl_Board_placements_keys (impl_Board_placements_lok3 F) (impl_Board_placements_lsok0 F)
theorem impl_Board_placements_run (F : Nat) (b0 : List Int) : runS tt (impl_Board_placements_tab F) (impl_Board_placements_LS1 F) [] [] Try.f70 (bodyOf Try.f70) 70 [(.ints 16 b0)] [] = impl_Board_placements_c _ F b0 (fun r => some ⟨(.sl 0 0 (List.length r)), [(.vec 35 (.rr 3 r))], []⟩) := by kernel_rfl
def impl_Board_placements_ent (F : Nat) : Ent := ⟨[], .fresh, fun args mem => match args, mem with
  | [(.ints 16 b0)], [] => some ((impl_Board_placements_p F b0).isSome, ⟨(.sl 0 0 (List.length ((impl_Board_placements_p F b0).getD default))), [(.vec 35 (.rr 3 ((impl_Board_placements_p F b0).getD default)))], []⟩)
  | _, _ => none⟩
theorem impl_Board_placements_fok : FunOK Try.prog 70 := funOK Try.func70 (by kernel_rfl) rfl
theorem impl_Board_placements_meets (F : Nat) : Meets Try.prog 70 (impl_Board_placements_ent F) := by
  refine meets_of_runS mixed ttok deep (impl_Board_placements_tabok F) Try.func70 (body_some rfl) (impl_Board_placements_lsok1 F) fun args mem hfit ret h => ?_
  clear hfit
  simp only [impl_Board_placements_ent] at h
  split at h
  · rename_i b0
    simp only [Option.some.injEq, Prod.mk.injEq] at h
    obtain ⟨hc, rfl⟩ := h
    exact ⟨[], [], 70, _, (impl_Board_placements_run F b0).trans ((impl_Board_placements_cp _ F b0 _).trans (bind_use hc _)), rfl, rfl, rfl⟩
  · cases h

/-! (loop.example/g01194/impl.Board).placed -/
noncomputable def impl_Board_placed_tab (F : Nat) : Tab := []
theorem impl_Board_placed_tabok (F : Nat) : TabOK Try.prog (impl_Board_placed_tab F) := tab_nil
noncomputable def impl_Board_placed_LS0 (F : Nat) : LT := []
theorem impl_Board_placed_lsok0 (F : Nat) : LoopsOK Try.prog (impl_Board_placed_LS0 F) (bodyOf Try.f71) := loopsOK_nil
theorem impl_Board_placed_run (F : Nat) (b0 : List Int) (p1 : List Int) : runS tt (impl_Board_placed_tab F) (impl_Board_placed_LS0 F) [] [] Try.f71 (bodyOf Try.f71) 70 [(.ints 16 b0), (.ints 3 p1)] [] = impl_Board_placed_c _ b0 p1 (fun r => some ⟨(.ints 16 r), [], []⟩) := by kernel_rfl
def impl_Board_placed_ent (F : Nat) : Ent := ⟨[], .quiet, fun args mem => match args, mem with
  | [(.ints 16 b0), (.ints 3 p1)], [] => some ((impl_Board_placed_p b0 p1).isSome, ⟨(.ints 16 ((impl_Board_placed_p b0 p1).getD default)), [], []⟩)
  | _, _ => none⟩
theorem impl_Board_placed_fok : FunOK Try.prog 71 := funOK Try.func71 (by kernel_rfl) rfl
theorem impl_Board_placed_meets (F : Nat) : Meets Try.prog 71 (impl_Board_placed_ent F) := by
  refine meets_of_runS mixed ttok deep (impl_Board_placed_tabok F) Try.func71 (body_some rfl) (impl_Board_placed_lsok0 F) fun args mem hfit ret h => ?_
  clear hfit
  simp only [impl_Board_placed_ent] at h
  split at h
  · rename_i b0 p1
    simp only [Option.some.injEq, Prod.mk.injEq] at h
    obtain ⟨hc, rfl⟩ := h
    exact ⟨[], [], 70, _, (impl_Board_placed_run F b0 p1).trans ((impl_Board_placed_cp _ b0 p1 _).trans (bind_use hc _)), rfl, rfl, rfl⟩
  · cases h

/-! (loop.example/g01194/impl.Board).sureOf$1 -/
noncomputable def impl_Board_sureOf_f1_n2_tab (F : Nat) : Tab := [(35, (impl_Board_sure_n1_ent F))]
theorem impl_Board_sureOf_f1_n2_tabok (F : Nat) : TabOK Try.prog (impl_Board_sureOf_f1_n2_tab F) := (tab_cons (impl_Board_sure_n1_meets F) impl_Board_sure_n1_fok tab_nil)
noncomputable def impl_Board_sureOf_f1_n2_LS0 (F : Nat) : LT := []
theorem impl_Board_sureOf_f1_n2_lsok0 (F : Nat) : LoopsOK Try.prog (impl_Board_sureOf_f1_n2_LS0 F) (bodyOf Try.f62) := loopsOK_nil
theorem impl_Board_sureOf_f1_n2_run (F : Nat) (own0 : List Int) : runS tt (impl_Board_sureOf_f1_n2_tab F) (impl_Board_sureOf_f1_n2_LS0 F) [] [] Try.f62 (bodyOf Try.f62) 70 [(.ints 16 own0), (.ptr 0 0 0 1)] [(.var 1 (.ri .i64 [(2 : Int)]))] = impl_Board_sureOf_f1_n2_c _ F own0 (fun r => some ⟨(.int .i64 r), [(.var 1 (.ri .i64 [(2 : Int)]))], []⟩) := by kernel_rfl
def impl_Board_sureOf_f1_n2_ent (F : Nat) : Ent := ⟨[], .quiet, fun args mem => match args, mem with
  | [(.ints 16 own0), (.ptr 0 0 0 1)], [(.var 1 (.ri .i64 q_a14))] => bif (q_a14 == ([(2 : Int)] : List Int)) then some ((impl_Board_sureOf_f1_n2_p F own0).isSome, ⟨(.int .i64 ((impl_Board_sureOf_f1_n2_p F own0).getD default)), [], []⟩) else none
  | _, _ => none⟩
theorem impl_Board_sureOf_f1_n2_fok : FunOK Try.prog 62 := funOK Try.func62 (by kernel_rfl) rfl
theorem impl_Board_sureOf_f1_n2_meets (F : Nat) : Meets Try.prog 62 (impl_Board_sureOf_f1_n2_ent F) := by
  refine meets_of_runS mixed ttok deep (impl_Board_sureOf_f1_n2_tabok F) Try.func62 (body_some rfl) (impl_Board_sureOf_f1_n2_lsok0 F) fun args mem hfit ret h => ?_
  clear hfit
  simp only [impl_Board_sureOf_f1_n2_ent] at h
  split at h
  · rename_i own0 q_a14
    have hg0 := (cond_noneL h).1
    replace h := (cond_noneL h).2
    obtain rfl := beq_li hg0
    simp only [Option.some.injEq, Prod.mk.injEq] at h
    obtain ⟨hc, rfl⟩ := h
    exact ⟨[], [], 70, _, (impl_Board_sureOf_f1_n2_run F own0).trans ((impl_Board_sureOf_f1_n2_cp _ F own0 _).trans (bind_use hc _)), rfl, rfl, rfl⟩
  · cases h

/-! (loop.example/g01194/impl.Board).worst -/
noncomputable def impl_Board_worst_impl_Board_sureOf_f1_n2_tab (F : Nat) : Tab := [(70, (impl_Board_placements_ent F)), (71, (impl_Board_placed_ent F)), (62, (impl_Board_sureOf_f1_n2_ent F))]
theorem impl_Board_worst_impl_Board_sureOf_f1_n2_tabok (F : Nat) : TabOK Try.prog (impl_Board_worst_impl_Board_sureOf_f1_n2_tab F) := (tab_cons (impl_Board_placements_meets F) impl_Board_placements_fok (tab_cons (impl_Board_placed_meets F) impl_Board_placed_fok (tab_cons (impl_Board_sureOf_f1_n2_meets F) impl_Board_sureOf_f1_n2_fok tab_nil)))
noncomputable def impl_Board_worst_impl_Board_sureOf_f1_n2_LS0 (F : Nat) : LT := []
theorem impl_Board_worst_impl_Board_sureOf_f1_n2_lsok0 (F : Nat) : LoopsOK Try.prog (impl_Board_worst_impl_Board_sureOf_f1_n2_LS0 F) (bodyOf Try.f48) := loopsOK_nil
theorem impl_Board_worst_impl_Board_sureOf_f1_n2_keys : keysOK (bodyOf Try.f48) = true := by kernel_rfl
def impl_Board_worst_impl_Board_sureOf_f1_n2_st3 (t1415 : Int) (b18 : List Int) (t1321 : List (List Int)) (least12 : Int) (t1516 : Int) (out20 : List Int) : St := ⟨expand 36 0 [1, 2, 4, 6, 7, 13, 14, 15] [(.fn 62 [] [(.ptr 0 0 0 1)]), (.ptr 1 0 0 16), (.ptr 2 0 0 3), (.ptr 3 0 0 3), (.int .i64 least12), (.sl 4 0 (List.length t1321)), (.int .i64 t1415), (.int .i64 t1516)], [(.var 1 (.ri .i64 [(2 : Int)])), (.var 16 (.ri .i64 b18)), (.var 3 (.ri .i64 [(0 : Int), (0 : Int), (0 : Int)])), (.var 3 (.ri .i64 out20)), (.vec 35 (.rr 3 t1321))], 1, []⟩
def impl_Board_worst_impl_Board_sureOf_f1_n2_o3 (t1415 : Int) (b18 : List Int) (t1321 : List (List Int)) (x : Int × List Int) : GT := (.out (.exit 0 ⟨expand 36 0 [4, 6, 7] [(.ptr 1 0 0 3), (.ptr 2 0 0 3), (.int .i64 x.1)], [(.var 1 (.ri .i64 [(2 : Int)])), (.var 3 (.ri .i64 [(0 : Int), (0 : Int), (0 : Int)])), (.var 3 (.ri .i64 x.2))], 1, []⟩))
def impl_Board_worst_impl_Board_sureOf_f1_n2_ls3 (F : Nat) : LoopS := ⟨36, [1, 2, 4, 6, 7, 13, 14, 15], [], [4, 6, 7], [], [4, 5], [], [], fun vals mem np killed => match vals, mem, np, killed with
  | [(.fn 62 [] [(.ptr 0 0 0 1)]), (.ptr 1 0 0 16), (.ptr 2 0 0 3), (.ptr 3 0 0 3), (.int .i64 least12), (.sl 4 0 q_t1314), (.int .i64 t1415), (.int .i64 t1516)], [(.var 1 (.ri .i64 q_of17)), (.var 16 (.ri .i64 b18)), (.var 3 (.ri .i64 q_t419)), (.var 3 (.ri .i64 out20)), (.vec 35 (.rr 3 t1321))], 1, [] => .br ((q_of17 == ([(2 : Int)] : List Int)) && ((q_t419 == ([(0 : Int), (0 : Int), (0 : Int)] : List Int)) && ((Nat.beq q_t1314 (List.length t1321)) && (impl_Board_worst_impl_Board_sureOf_f1_n2_l3 F t1415 b18 t1321 least12 t1516 out20).isSome))) (impl_Board_worst_impl_Board_sureOf_f1_n2_o3 t1415 b18 t1321 ((impl_Board_worst_impl_Board_sureOf_f1_n2_l3 F t1415 b18 t1321 least12 t1516 out20).getD default)) .fail
  | _, _, _, _ => .fail⟩
theorem impl_Board_worst_impl_Board_sureOf_f1_n2_step3 (F : Nat) (t1415 : Int) (b18 : List Int) (t1321 : List (List Int)) (least12 : Int) (t1516 : Int) (out20 : List Int) {R : Type} (k : Out → Option R) : stepS tt (impl_Board_worst_impl_Board_sureOf_f1_n2_tab F) (impl_Board_worst_impl_Board_sureOf_f1_n2_LS0 F) 70 (impl_Board_worst_impl_Board_sureOf_f1_n2_ls3 F) (loopAt 3 (bodyOf Try.f48)) (impl_Board_worst_impl_Board_sureOf_f1_n2_st3 t1415 b18 t1321 least12 t1516 out20) k = impl_Board_worst_impl_Board_sureOf_f1_n2_s3 F t1415 b18 t1321 R (least12, t1516, out20) (fun s => k (.norm (impl_Board_worst_impl_Board_sureOf_f1_n2_st3 t1415 b18 t1321 s.1 s.2.1 s.2.2))) (fun x => (impl_Board_worst_impl_Board_sureOf_f1_n2_o3 t1415 b18 t1321 x).run k) := by kernel_rfl
theorem impl_Board_worst_impl_Board_sureOf_f1_n2_iter3 (F : Nat) (t1415 : Int) (b18 : List Int) (t1321 : List (List Int)) {R : Type} (k : Out → Option R) : ∀ (n : Nat) (least12 : Int) (t1516 : Int) (out20 : List Int), iterS tt (impl_Board_worst_impl_Board_sureOf_f1_n2_tab F) (impl_Board_worst_impl_Board_sureOf_f1_n2_LS0 F) 70 (impl_Board_worst_impl_Board_sureOf_f1_n2_ls3 F) (loopAt 3 (bodyOf Try.f48)) n (impl_Board_worst_impl_Board_sureOf_f1_n2_st3 t1415 b18 t1321 least12 t1516 out20) k = loopC (impl_Board_worst_impl_Board_sureOf_f1_n2_s3 F t1415 b18 t1321) n (least12, t1516, out20) (fun x => (impl_Board_worst_impl_Board_sureOf_f1_n2_o3 t1415 b18 t1321 x).run k)
  | 0, least12, t1516, out20 => rfl
  | n + 1, least12, t1516, out20 => (iterS_succ tt (impl_Board_worst_impl_Board_sureOf_f1_n2_tab F) (impl_Board_worst_impl_Board_sureOf_f1_n2_LS0 F) 70 (impl_Board_worst_impl_Board_sureOf_f1_n2_ls3 F) (loopAt 3 (bodyOf Try.f48)) n (impl_Board_worst_impl_Board_sureOf_f1_n2_st3 t1415 b18 t1321 least12 t1516 out20) k).trans ((impl_Board_worst_impl_Board_sureOf_f1_n2_step3 F t1415 b18 t1321 least12 t1516 out20 (nextK (iterS tt (impl_Board_worst_impl_Board_sureOf_f1_n2_tab F) (impl_Board_worst_impl_Board_sureOf_f1_n2_LS0 F) 70 (impl_Board_worst_impl_Board_sureOf_f1_n2_ls3 F) (loopAt 3 (bodyOf Try.f48)) n) k)).trans (congrArg (fun kn => impl_Board_worst_impl_Board_sureOf_f1_n2_s3 F t1415 b18 t1321 R (least12, t1516, out20) kn _) (funext (fun ⟨least12, t1516, out20⟩ => impl_Board_worst_impl_Board_sureOf_f1_n2_iter3 F t1415 b18 t1321 k n least12 t1516 out20))))
theorem impl_Board_worst_impl_Board_sureOf_f1_n2_lok3 (F : Nat) : LoopOK Try.prog (loopAt 3 (bodyOf Try.f48)) (impl_Board_worst_impl_Board_sureOf_f1_n2_ls3 F) := by
  refine loopOK_of mixed ttok deep (impl_Board_worst_impl_Board_sureOf_f1_n2_tabok F) (loopsOK_at (impl_Board_worst_impl_Board_sureOf_f1_n2_lsok0 F) 3) (fuel := 70) fun R vals mem np killed k x h => ?_
  simp only [impl_Board_worst_impl_Board_sureOf_f1_n2_ls3] at h
  split at h
  · rename_i least12 q_t1314 t1415 t1516 q_of17 b18 q_t419 out20 t1321
    simp only [GT.run] at h
    have hc := (cond_noneL h).1
    replace h := (cond_noneL h).2
    have hg := (and_split hc).1
    replace hc := (and_split hc).2
    obtain rfl := beq_li hg
    have hg := (and_split hc).1
    replace hc := (and_split hc).2
    obtain rfl := beq_li hg
    have hg := (and_split hc).1
    replace hc := (and_split hc).2
    obtain rfl := nbeq_nat hg
    refine ⟨F, (impl_Board_worst_impl_Board_sureOf_f1_n2_iter3 F t1415 b18 t1321 k F least12 t1516 out20).trans ((loopC_use (impl_Board_worst_impl_Board_sureOf_f1_n2_s3_nat F t1415 b18 t1321) hc _).trans h)⟩
  · simp only [GT.run] at h
    cases h
noncomputable def impl_Board_worst_impl_Board_sureOf_f1_n2_LS1 (F : Nat) : LT := (3, impl_Board_worst_impl_Board_sureOf_f1_n2_ls3 F) :: impl_Board_worst_impl_Board_sureOf_f1_n2_LS0 F
theorem impl_Board_worst_impl_Board_sureOf_f1_n2_lsok1 (F : Nat) : LoopsOK Try.prog (impl_Board_worst_impl_Board_sureOf_f1_n2_LS1 F) (bodyOf Try.f48) := loopsOK_cons impl_Board_worst_impl_Board_sureOf_f1_n2_keys (impl_Board_worst_impl_Board_sureOf_f1_n2_lok3 F) (impl_Board_worst_impl_Board_sureOf_f1_n2_lsok0 F)
theorem impl_Board_worst_impl_Board_sureOf_f1_n2_run (F : Nat) (b0 : List Int) : runS tt (impl_Board_worst_impl_Board_sureOf_f1_n2_tab F) (impl_Board_worst_impl_Board_sureOf_f1_n2_LS1 F) [] [] Try.f48 (bodyOf Try.f48) 70 [(.ints 16 b0), (.fn 62 [] [(.ptr 0 0 0 1)])] [(.var 1 (.ri .i64 [(2 : Int)]))] = impl_Board_worst_impl_Board_sureOf_f1_n2_c _ F b0 (fun r => some ⟨(.tup [(.ints 3 r.1), (.int .i64 r.2)]), [(.var 1 (.ri .i64 [(2 : Int)]))], []⟩) := by kernel_rfl
def impl_Board_worst_impl_Board_sureOf_f1_n2_ent (F : Nat) : Ent := ⟨[], .quiet, fun args mem => match args, mem with
  | [(.ints 16 b0), (.fn 62 [] [(.ptr 0 0 0 1)])], [(.var 1 (.ri .i64 q_of4))] => bif (q_of4 == ([(2 : Int)] : List Int)) then some ((impl_Board_worst_impl_Board_sureOf_f1_n2_p F b0).isSome, ⟨(.tup [(.ints 3 ((impl_Board_worst_impl_Board_sureOf_f1_n2_p F b0).getD default).1), (.int .i64 ((impl_Board_worst_impl_Board_sureOf_f1_n2_p F b0).getD default).2)]), [], []⟩) else none
  | _, _ => none⟩
theorem impl_Board_worst_impl_Board_sureOf_f1_n2_fok : FunOK Try.prog 48 := funOK Try.func48 (by kernel_rfl) rfl
theorem impl_Board_worst_impl_Board_sureOf_f1_n2_meets (F : Nat) : Meets Try.prog 48 (impl_Board_worst_impl_Board_sureOf_f1_n2_ent F) := by
  refine meets_of_runS mixed ttok deep (impl_Board_worst_impl_Board_sureOf_f1_n2_tabok F) Try.func48 (body_some rfl) (impl_Board_worst_impl_Board_sureOf_f1_n2_lsok1 F) fun args mem hfit ret h => ?_
  clear hfit
  simp only [impl_Board_worst_impl_Board_sureOf_f1_n2_ent] at h
  split at h
  · rename_i b0 q_of4
    have hg0 := (cond_noneL h).1
    replace h := (cond_noneL h).2
    obtain rfl := beq_li hg0
    simp only [Option.some.injEq, Prod.mk.injEq] at h
    obtain ⟨hc, rfl⟩ := h
    exact ⟨[], [], 70, _, (impl_Board_worst_impl_Board_sureOf_f1_n2_run F b0).trans ((impl_Board_worst_impl_Board_sureOf_f1_n2_cp _ F b0 _).trans (bind_use hc _)), rfl, rfl, rfl⟩
  · cases h

/-! (loop.example/g01194/impl.Board).sureOf -/
noncomputable def impl_Board_sureOf_n2_tab (F : Nat) : Tab := [(61, (impl_Board_slide_ent F)), (48, (impl_Board_worst_impl_Board_sureOf_f1_n2_ent F))]
theorem impl_Board_sureOf_n2_tabok (F : Nat) : TabOK Try.prog (impl_Board_sureOf_n2_tab F) := (tab_cons (impl_Board_slide_meets F) impl_Board_slide_fok (tab_cons (impl_Board_worst_impl_Board_sureOf_f1_n2_meets F) impl_Board_worst_impl_Board_sureOf_f1_n2_fok tab_nil))
noncomputable def impl_Board_sureOf_n2_LS0 (F : Nat) : LT := []
theorem impl_Board_sureOf_n2_lsok0 (F : Nat) : LoopsOK Try.prog (impl_Board_sureOf_n2_LS0 F) (bodyOf Try.f40) := loopsOK_nil
theorem impl_Board_sureOf_n2_run (F : Nat) (b0 : List Int) (direction1 : Int) : runS tt (impl_Board_sureOf_n2_tab F) (impl_Board_sureOf_n2_LS0 F) [] [] Try.f40 (bodyOf Try.f40) 70 [(.ints 16 b0), (.int .i64 direction1), (.int .i64 (2 : Int))] [] = impl_Board_sureOf_n2_c _ F b0 direction1 (fun r => some ⟨(.int .i64 r), [], []⟩) := by kernel_rfl
def impl_Board_sureOf_n2_ent (F : Nat) : Ent := ⟨[], .quiet, fun args mem => match args, mem with
  | [(.ints 16 b0), (.int .i64 direction1), (.int .i64 q_n2)], [] => bif (q_n2 == (2 : Int)) then some ((impl_Board_sureOf_n2_p F b0 direction1).isSome, ⟨(.int .i64 ((impl_Board_sureOf_n2_p F b0 direction1).getD default)), [], []⟩) else none
  | _, _ => none⟩
theorem impl_Board_sureOf_n2_fok : FunOK Try.prog 40 := funOK Try.func40 (by kernel_rfl) rfl
theorem impl_Board_sureOf_n2_meets (F : Nat) : Meets Try.prog 40 (impl_Board_sureOf_n2_ent F) := by
  refine meets_of_runS mixed ttok deep (impl_Board_sureOf_n2_tabok F) Try.func40 (body_some rfl) (impl_Board_sureOf_n2_lsok0 F) fun args mem hfit ret h => ?_
  clear hfit
  simp only [impl_Board_sureOf_n2_ent] at h
  split at h
  · rename_i b0 direction1 q_n2
    have hg0 := (cond_noneL h).1
    replace h := (cond_noneL h).2
    obtain rfl := beq_int hg0
    simp only [Option.some.injEq, Prod.mk.injEq] at h
    obtain ⟨hc, rfl⟩ := h
    exact ⟨[], [], 70, _, (impl_Board_sureOf_n2_run F b0 direction1).trans ((impl_Board_sureOf_n2_cp _ F b0 direction1 _).trans (bind_use hc _)), rfl, rfl, rfl⟩
  · cases h

/-! (loop.example/g01194/impl.Board).sure -/
noncomputable def impl_Board_sure_n2_tab (F : Nat) : Tab := [(39, (impl_Board_moves_ent F)), (40, (impl_Board_sureOf_n2_ent F))]
theorem impl_Board_sure_n2_tabok (F : Nat) : TabOK Try.prog (impl_Board_sure_n2_tab F) := (tab_cons (impl_Board_moves_meets F) impl_Board_moves_fok (tab_cons (impl_Board_sureOf_n2_meets F) impl_Board_sureOf_n2_fok tab_nil))
noncomputable def impl_Board_sure_n2_LS0 (F : Nat) : LT := []
theorem impl_Board_sure_n2_lsok0 (F : Nat) : LoopsOK Try.prog (impl_Board_sure_n2_LS0 F) (bodyOf Try.f35) := loopsOK_nil
theorem impl_Board_sure_n2_keys : keysOK (bodyOf Try.f35) = true := by kernel_rfl
def impl_Board_sure_n2_st4 (t127 : Int) (b9 : List Int) (t1110 : List Int) (most4 : Int) (t138 : Int) : St := ⟨expand 25 0 [1, 2, 5, 11, 12, 13] [(.int .i64 (2 : Int)), (.ptr 0 0 0 16), (.int .i64 most4), (.sl 1 0 (List.length t1110)), (.int .i64 t127), (.int .i64 t138)], [(.var 16 (.ri .i64 b9)), (.vec 3 (.ri .i64 t1110))], 0, []⟩
def impl_Board_sure_n2_o4 (t127 : Int) (b9 : List Int) (t1110 : List Int) (x : Int) : GT := (.out (.exit 0 ⟨expand 25 0 [5] [(.int .i64 x)], [], 0, []⟩))
def impl_Board_sure_n2_ls4 (F : Nat) : LoopS := ⟨25, [1, 2, 5, 11, 12, 13], [], [5], [], [4], [], [], fun vals mem np killed => match vals, mem, np, killed with
  | [(.int .i64 q_n0), (.ptr 0 0 0 16), (.int .i64 most4), (.sl 1 0 q_t116), (.int .i64 t127), (.int .i64 t138)], [(.var 16 (.ri .i64 b9)), (.vec 3 (.ri .i64 t1110))], 0, [] => .br ((q_n0 == (2 : Int)) && ((Nat.beq q_t116 (List.length t1110)) && (impl_Board_sure_n2_l4 F t127 b9 t1110 most4 t138).isSome)) (impl_Board_sure_n2_o4 t127 b9 t1110 ((impl_Board_sure_n2_l4 F t127 b9 t1110 most4 t138).getD default)) .fail
  | _, _, _, _ => .fail⟩
theorem impl_Board_sure_n2_step4 (F : Nat) (t127 : Int) (b9 : List Int) (t1110 : List Int) (most4 : Int) (t138 : Int) {R : Type} (k : Out → Option R) : stepS tt (impl_Board_sure_n2_tab F) (impl_Board_sure_n2_LS0 F) 70 (impl_Board_sure_n2_ls4 F) (loopAt 4 (bodyOf Try.f35)) (impl_Board_sure_n2_st4 t127 b9 t1110 most4 t138) k = impl_Board_sure_n2_s4 F t127 b9 t1110 R (most4, t138) (fun s => k (.norm (impl_Board_sure_n2_st4 t127 b9 t1110 s.1 s.2))) (fun x => (impl_Board_sure_n2_o4 t127 b9 t1110 x).run k) := by kernel_rfl
theorem impl_Board_sure_n2_iter4 (F : Nat) (t127 : Int) (b9 : List Int) (t1110 : List Int) {R : Type} (k : Out → Option R) : ∀ (n : Nat) (most4 : Int) (t138 : Int), iterS tt (impl_Board_sure_n2_tab F) (impl_Board_sure_n2_LS0 F) 70 (impl_Board_sure_n2_ls4 F) (loopAt 4 (bodyOf Try.f35)) n (impl_Board_sure_n2_st4 t127 b9 t1110 most4 t138) k = loopC (impl_Board_sure_n2_s4 F t127 b9 t1110) n (most4, t138) (fun x => (impl_Board_sure_n2_o4 t127 b9 t1110 x).run k)
  | 0, most4, t138 => rfl
  | n + 1, most4, t138 => (iterS_succ tt (impl_Board_sure_n2_tab F) (impl_Board_sure_n2_LS0 F) 70 (impl_Board_sure_n2_ls4 F) (loopAt 4 (bodyOf Try.f35)) n (impl_Board_sure_n2_st4 t127 b9 t1110 most4 t138) k).trans ((impl_Board_sure_n2_step4 F t127 b9 t1110 most4 t138 (nextK (iterS tt (impl_Board_sure_n2_tab F) (impl_Board_sure_n2_LS0 F) 70 (impl_Board_sure_n2_ls4 F) (loopAt 4 (bodyOf Try.f35)) n) k)).trans (congrArg (fun kn => impl_Board_sure_n2_s4 F t127 b9 t1110 R (most4, t138) kn _) (funext (fun ⟨most4, t138⟩ => impl_Board_sure_n2_iter4 F t127 b9 t1110 k n most4 t138))))
theorem impl_Board_sure_n2_lok4 (F : Nat) : LoopOK Try.prog (loopAt 4 (bodyOf Try.f35)) (impl_Board_sure_n2_ls4 F) := by
  refine loopOK_of mixed ttok deep (impl_Board_sure_n2_tabok F) (loopsOK_at (impl_Board_sure_n2_lsok0 F) 4) (fuel := 70) fun R vals mem np killed k x h => ?_
  simp only [impl_Board_sure_n2_ls4] at h
  split at h
  · rename_i q_n0 most4 q_t116 t127 t138 b9 t1110
    simp only [GT.run] at h
    have hc := (cond_noneL h).1
    replace h := (cond_noneL h).2
    have hg := (and_split hc).1
    replace hc := (and_split hc).2
    obtain rfl := beq_int hg
    have hg := (and_split hc).1
    replace hc := (and_split hc).2
    obtain rfl := nbeq_nat hg
    refine ⟨F, (impl_Board_sure_n2_iter4 F t127 b9 t1110 k F most4 t138).trans ((loopC_use (impl_Board_sure_n2_s4_nat F t127 b9 t1110) hc _).trans h)⟩
  · simp only [GT.run] at h
    cases h
noncomputable def impl_Board_sure_n2_LS1 (F : Nat) : LT := (4, impl_Board_sure_n2_ls4 F) :: impl_Board_sure_n2_LS0 F
theorem impl_Board_sure_n2_lsok1 (F : Nat) : LoopsOK Try.prog (impl_Board_sure_n2_LS1 F) (bodyOf Try.f35) := loopsOK_cons impl_Board_sure_n2_keys (impl_Board_sure_n2_lok4 F) (impl_Board_sure_n2_lsok0 F)
theorem impl_Board_sure_n2_run (F : Nat) (b0 : List Int) : runS tt (impl_Board_sure_n2_tab F) (impl_Board_sure_n2_LS1 F) [] [] Try.f35 (bodyOf Try.f35) 70 [(.ints 16 b0), (.int .i64 (2 : Int))] [] = impl_Board_sure_n2_c _ F b0 (fun r => some ⟨(.int .i64 r), [], []⟩) := by kernel_rfl
def impl_Board_sure_n2_ent (F : Nat) : Ent := ⟨[], .quiet, fun args mem => match args, mem with
  | [(.ints 16 b0), (.int .i64 q_n1)], [] => bif (q_n1 == (2 : Int)) then some ((impl_Board_sure_n2_p F b0).isSome, ⟨(.int .i64 ((impl_Board_sure_n2_p F b0).getD default)), [], []⟩) else none
  | _, _ => none⟩
theorem impl_Board_sure_n2_fok : FunOK Try.prog 35 := funOK Try.func35 (by kernel_rfl) rfl
theorem impl_Board_sure_n2_meets (F : Nat) : Meets Try.prog 35 (impl_Board_sure_n2_ent F) := by
  refine meets_of_runS mixed ttok deep (impl_Board_sure_n2_tabok F) Try.func35 (body_some rfl) (impl_Board_sure_n2_lsok1 F) fun args mem hfit ret h => ?_
  clear hfit
  simp only [impl_Board_sure_n2_ent] at h
  split at h
  · rename_i b0 q_n1
    have hg0 := (cond_noneL h).1
    replace h := (cond_noneL h).2
    obtain rfl := beq_int hg0
    simp only [Option.some.injEq, Prod.mk.injEq] at h
    obtain ⟨hc, rfl⟩ := h
    exact ⟨[], [], 70, _, (impl_Board_sure_n2_run F b0).trans ((impl_Board_sure_n2_cp _ F b0 _).trans (bind_use hc _)), rfl, rfl, rfl⟩
  · cases h

/-! (loop.example/g01194/impl.Board).sure -/
def impl_Board_sure_ent (F : Nat) : Ent := ⟨[], .quiet, fun args mem => match args, mem with
  | [(.ints 16 b0), (.int .i64 n1)], [] => some ((impl_Board_sure_p F b0 n1).isSome, ⟨(.int .i64 ((impl_Board_sure_p F b0 n1).getD default)), [], []⟩)
  | _, _ => none⟩
theorem impl_Board_sure_fok : FunOK Try.prog 35 := funOK Try.func35 (by kernel_rfl) rfl
theorem impl_Board_sure_meets (F : Nat) : Meets Try.prog 35 (impl_Board_sure_ent F) := by
  intro fr w ρ mem args reals hw ha ret hg
  simp only [impl_Board_sure_ent] at hg
  split at hg
  · rename_i b0 n1
    simp only [Option.some.injEq, Prod.mk.injEq] at hg
    obtain ⟨hc, rfl⟩ := hg
    by_cases hn0 : (n1 == (0 : Int)) = true
    · obtain rfl := beq_int hn0
      have e : impl_Board_sure_p F b0 (0 : Int) = some (0 : Int) := by kernel_rfl
      have hg' : (impl_Board_sure_n0_ent F).g [(.ints 16 b0), (.int .i64 (0 : Int))] [] = some (true, ⟨(.int .i64 (0 : Int)), [], []⟩) := by kernel_rfl
      have h9 := impl_Board_sure_n0_meets F fr w ρ _ _ reals hw ha _ hg'
      simp only [e, cond_true, Option.getD_some]
      exact h9
    · replace hn0 : (n1 == (0 : Int)) = false := by simpa using hn0
      by_cases hn1 : (n1 == (1 : Int)) = true
      · obtain rfl := beq_int hn1
        have e : impl_Board_sure_p F b0 (1 : Int) = (bif (Option.isSome (impl_Board_sure_n1_p F b0)) then some (Option.getD (impl_Board_sure_n1_p F b0) default) else none) := by kernel_rfl
        have hg' : (impl_Board_sure_n1_ent F).g [(.ints 16 b0), (.int .i64 (1 : Int))] [] = some ((Option.isSome (impl_Board_sure_n1_p F b0)), ⟨(.int .i64 (Option.getD (impl_Board_sure_n1_p F b0) default)), [], []⟩) := by kernel_rfl
        rw [e] at hc
        have hC := isSome_cond hc
        rw [hC] at hg'
        have h9 := impl_Board_sure_n1_meets F fr w ρ _ _ reals hw ha _ hg'
        simp only [e, hC, cond_true, Option.getD_some]
        exact h9
      · replace hn1 : (n1 == (1 : Int)) = false := by simpa using hn1
        by_cases hn2 : (n1 == (2 : Int)) = true
        · obtain rfl := beq_int hn2
          have e : impl_Board_sure_p F b0 (2 : Int) = (bif (Option.isSome (impl_Board_sure_n2_p F b0)) then some (Option.getD (impl_Board_sure_n2_p F b0) default) else none) := by kernel_rfl
          have hg' : (impl_Board_sure_n2_ent F).g [(.ints 16 b0), (.int .i64 (2 : Int))] [] = some ((Option.isSome (impl_Board_sure_n2_p F b0)), ⟨(.int .i64 (Option.getD (impl_Board_sure_n2_p F b0) default)), [], []⟩) := by kernel_rfl
          rw [e] at hc
          have hC := isSome_cond hc
          rw [hC] at hg'
          have h9 := impl_Board_sure_n2_meets F fr w ρ _ _ reals hw ha _ hg'
          simp only [e, hC, cond_true, Option.getD_some]
          exact h9
        · replace hn2 : (n1 == (2 : Int)) = false := by simpa using hn2
          exfalso
          have e : impl_Board_sure_p F b0 n1 = none := by simp only [impl_Board_sure_p, impl_Board_sure_c, hn0, hn1, hn2, cond_false]
          rw [e] at hc
          cases hc
  · cases hg

/-! loop.example/g01194/impl.SureScore -/
noncomputable def impl_SureScore_tab (F : Nat) : Tab := [(33, (impl_IsBoard_ent F)), (34, (impl_in_ent F)), (35, (impl_Board_sure_ent F))]
theorem impl_SureScore_tabok (F : Nat) : TabOK Try.prog (impl_SureScore_tab F) := (tab_cons (impl_IsBoard_meets F) impl_IsBoard_fok (tab_cons (impl_in_meets F) impl_in_fok (tab_cons (impl_Board_sure_meets F) impl_Board_sure_fok tab_nil)))
noncomputable def impl_SureScore_LS0 (F : Nat) : LT := []
theorem impl_SureScore_lsok0 (F : Nat) : LoopsOK Try.prog (impl_SureScore_LS0 F) (bodyOf Try.f12) := loopsOK_nil
theorem impl_SureScore_run (F : Nat) (b0 : List Int) (n1 : Int) : runS tt (impl_SureScore_tab F) (impl_SureScore_LS0 F) [] [] Try.f12 (bodyOf Try.f12) 70 [(.ints 16 b0), (.int .i64 n1)] [] = impl_SureScore_c _ F b0 n1 (fun r => some ⟨(.tup [(.int .i64 r.1), (.bool r.2)]), [], []⟩) := by kernel_rfl
def impl_SureScore_ent (F : Nat) : Ent := ⟨[], .quiet, fun args mem => match args, mem with
  | [(.ints 16 b0), (.int .i64 n1)], [] => some ((impl_SureScore_p F b0 n1).isSome, ⟨(.tup [(.int .i64 ((impl_SureScore_p F b0 n1).getD default).1), (.bool ((impl_SureScore_p F b0 n1).getD default).2)]), [], []⟩)
  | _, _ => none⟩
theorem impl_SureScore_fok : FunOK Try.prog 12 := funOK Try.func12 (by kernel_rfl) rfl
theorem impl_SureScore_meets (F : Nat) : Meets Try.prog 12 (impl_SureScore_ent F) := by
  refine meets_of_runS mixed ttok deep (impl_SureScore_tabok F) Try.func12 (body_some rfl) (impl_SureScore_lsok0 F) fun args mem hfit ret h => ?_
  clear hfit
  simp only [impl_SureScore_ent] at h
  split at h
  · rename_i b0 n1
    simp only [Option.some.injEq, Prod.mk.injEq] at h
    obtain ⟨hc, rfl⟩ := h
    exact ⟨[], [], 70, _, (impl_SureScore_run F b0 n1).trans ((impl_SureScore_cp _ F b0 n1 _).trans (bind_use hc _)), rfl, rfl, rfl⟩
  · cases h

/-! loop.example/g01194/laws.FnExactSureScore -/
noncomputable def laws_FnExactSureScore_tab (F : Nat) : Tab := [(11, (laws_toBoard_ent F)), (10, (spec_SureScore_ent F)), (12, (impl_SureScore_ent F))]
theorem laws_FnExactSureScore_tabok (F : Nat) : TabOK Try.prog (laws_FnExactSureScore_tab F) := (tab_cons (laws_toBoard_meets F) laws_toBoard_fok (tab_cons (spec_SureScore_meets F) spec_SureScore_fok (tab_cons (impl_SureScore_meets F) impl_SureScore_fok tab_nil)))
noncomputable def laws_FnExactSureScore_LS0 (F : Nat) : LT := []
theorem laws_FnExactSureScore_lsok0 (F : Nat) : LoopsOK Try.prog (laws_FnExactSureScore_LS0 F) (bodyOf Try.f3) := loopsOK_nil
theorem laws_FnExactSureScore_run (F : Nat) (aB0 : List Int) (aN1 : Int) : runS tt (laws_FnExactSureScore_tab F) (laws_FnExactSureScore_LS0 F) [] [] Try.f3 (bodyOf Try.f3) 70 [(.ints 16 aB0), (.int .i64 aN1)] [] = laws_FnExactSureScore_c _ F aB0 aN1 (fun r => some ⟨(.bool r), [], []⟩) := by kernel_rfl
def laws_FnExactSureScore_ent (F : Nat) : Ent := ⟨[], .quiet, fun args mem => match args, mem with
  | [(.ints 16 aB0), (.int .i64 aN1)], [] => some ((laws_FnExactSureScore_p F aB0 aN1).isSome, ⟨(.bool ((laws_FnExactSureScore_p F aB0 aN1).getD default)), [], []⟩)
  | _, _ => none⟩
theorem laws_FnExactSureScore_fok : FunOK Try.prog 3 := funOK Try.func3 (by kernel_rfl) rfl
theorem laws_FnExactSureScore_meets (F : Nat) : Meets Try.prog 3 (laws_FnExactSureScore_ent F) := by
  refine meets_of_runS mixed ttok deep (laws_FnExactSureScore_tabok F) Try.func3 (body_some rfl) (laws_FnExactSureScore_lsok0 F) fun args mem hfit ret h => ?_
  clear hfit
  simp only [laws_FnExactSureScore_ent] at h
  split at h
  · rename_i aB0 aN1
    simp only [Option.some.injEq, Prod.mk.injEq] at h
    obtain ⟨hc, rfl⟩ := h
    exact ⟨[], [], 70, _, (laws_FnExactSureScore_run F aB0 aN1).trans ((laws_FnExactSureScore_cp _ F aB0 aN1 _).trans (bind_use hc _)), rfl, rfl, rfl⟩
  · cases h

/-! loop.example/g01194/spec.l8Lasts -/
noncomputable def spec_l8Lasts_n0_tab (F : Nat) : Tab := []
theorem spec_l8Lasts_n0_tabok (F : Nat) : TabOK Try.prog (spec_l8Lasts_n0_tab F) := tab_nil
noncomputable def spec_l8Lasts_n0_LS0 (F : Nat) : LT := []
theorem spec_l8Lasts_n0_lsok0 (F : Nat) : LoopsOK Try.prog (spec_l8Lasts_n0_LS0 F) (bodyOf Try.f36) := loopsOK_nil
theorem spec_l8Lasts_n0_run (F : Nat) (b0 : List Int) : runS tt (spec_l8Lasts_n0_tab F) (spec_l8Lasts_n0_LS0 F) [] [] Try.f36 (bodyOf Try.f36) 70 [(.ints 16 b0), (.int .i64 (0 : Int))] [] = spec_l8Lasts_n0_c _ b0 (fun r => some ⟨(.bool true), [], []⟩) := by kernel_rfl
def spec_l8Lasts_n0_ent (F : Nat) : Ent := ⟨[], .quiet, fun args mem => match args, mem with
  | [(.ints 16 b0), (.int .i64 q_n1)], [] => bif (q_n1 == (0 : Int)) then some (true, ⟨(.bool true), [], []⟩) else none
  | _, _ => none⟩
theorem spec_l8Lasts_n0_fok : FunOK Try.prog 36 := funOK Try.func36 (by kernel_rfl) rfl
theorem spec_l8Lasts_n0_meets (F : Nat) : Meets Try.prog 36 (spec_l8Lasts_n0_ent F) := by
  refine meets_of_runS mixed ttok deep (spec_l8Lasts_n0_tabok F) Try.func36 (body_some rfl) (spec_l8Lasts_n0_lsok0 F) fun args mem hfit ret h => ?_
  clear hfit
  simp only [spec_l8Lasts_n0_ent] at h
  split at h
  · rename_i b0 q_n1
    have hg0 := (cond_noneL h).1
    replace h := (cond_noneL h).2
    obtain rfl := beq_int hg0
    simp only [Option.some.injEq, Prod.mk.injEq] at h
    obtain ⟨hc, rfl⟩ := h
    exact ⟨[], [], 70, _, (spec_l8Lasts_n0_run F b0).trans (spec_l8Lasts_n0_cv _ b0 _), rfl, rfl, rfl⟩
  · cases h

/-! loop.example/g01194/spec.l8Refuted -/
noncomputable def spec_l8Refuted_n1_tab (F : Nat) : Tab := []
theorem spec_l8Refuted_n1_tabok (F : Nat) : TabOK Try.prog (spec_l8Refuted_n1_tab F) := tab_nil
noncomputable def spec_l8Refuted_n1_LS0 (F : Nat) : LT := []
theorem spec_l8Refuted_n1_lsok0 (F : Nat) : LoopsOK Try.prog (spec_l8Refuted_n1_LS0 F) (bodyOf Try.f43) := loopsOK_nil
theorem spec_l8Refuted_n1_run (F : Nat) (next0 : List Int) : runS tt (spec_l8Refuted_n1_tab F) (spec_l8Refuted_n1_LS0 F) [] [] Try.f43 (bodyOf Try.f43) 70 [(.ints 16 next0), (.int .i64 (1 : Int))] [] = spec_l8Refuted_n1_c _ next0 (fun r => some ⟨(.tup [(.ints 3 [(0 : Int), (0 : Int), (0 : Int)]), (.bool false)]), [], []⟩) := by kernel_rfl
def spec_l8Refuted_n1_ent (F : Nat) : Ent := ⟨[], .quiet, fun args mem => match args, mem with
  | [(.ints 16 next0), (.int .i64 q_n1)], [] => bif (q_n1 == (1 : Int)) then some (true, ⟨(.tup [(.ints 3 [(0 : Int), (0 : Int), (0 : Int)]), (.bool false)]), [], []⟩) else none
  | _, _ => none⟩
theorem spec_l8Refuted_n1_fok : FunOK Try.prog 43 := funOK Try.func43 (by kernel_rfl) rfl
theorem spec_l8Refuted_n1_meets (F : Nat) : Meets Try.prog 43 (spec_l8Refuted_n1_ent F) := by
  refine meets_of_runS mixed ttok deep (spec_l8Refuted_n1_tabok F) Try.func43 (body_some rfl) (spec_l8Refuted_n1_lsok0 F) fun args mem hfit ret h => ?_
  clear hfit
  simp only [spec_l8Refuted_n1_ent] at h
  split at h
  · rename_i next0 q_n1
    have hg0 := (cond_noneL h).1
    replace h := (cond_noneL h).2
    obtain rfl := beq_int hg0
    simp only [Option.some.injEq, Prod.mk.injEq] at h
    obtain ⟨hc, rfl⟩ := h
    exact ⟨[], [], 70, _, (spec_l8Refuted_n1_run F next0).trans (spec_l8Refuted_n1_cv _ next0 _), rfl, rfl, rfl⟩
  · cases h

/-! loop.example/g01194/spec.l8Safe -/
noncomputable def spec_l8Safe_n1_tab (F : Nat) : Tab := [(42, (spec_l2Slide_ent F)), (43, (spec_l8Refuted_n1_ent F))]
theorem spec_l8Safe_n1_tabok (F : Nat) : TabOK Try.prog (spec_l8Safe_n1_tab F) := (tab_cons (spec_l2Slide_meets F) spec_l2Slide_fok (tab_cons (spec_l8Refuted_n1_meets F) spec_l8Refuted_n1_fok tab_nil))
noncomputable def spec_l8Safe_n1_LS0 (F : Nat) : LT := []
theorem spec_l8Safe_n1_lsok0 (F : Nat) : LoopsOK Try.prog (spec_l8Safe_n1_LS0 F) (bodyOf Try.f50) := loopsOK_nil
theorem spec_l8Safe_n1_run (F : Nat) (b0 : List Int) (d1 : Int) : runS tt (spec_l8Safe_n1_tab F) (spec_l8Safe_n1_LS0 F) [] [] Try.f50 (bodyOf Try.f50) 70 [(.ints 16 b0), (.int .i64 d1), (.int .i64 (1 : Int))] [] = spec_l8Safe_n1_c _ F b0 d1 (fun r => some ⟨(.bool r), [], []⟩) := by kernel_rfl
def spec_l8Safe_n1_ent (F : Nat) : Ent := ⟨[], .quiet, fun args mem => match args, mem with
  | [(.ints 16 b0), (.int .i64 d1), (.int .i64 q_n2)], [] => bif (q_n2 == (1 : Int)) then some ((spec_l8Safe_n1_p F b0 d1).isSome, ⟨(.bool ((spec_l8Safe_n1_p F b0 d1).getD default)), [], []⟩) else none
  | _, _ => none⟩
theorem spec_l8Safe_n1_fok : FunOK Try.prog 50 := funOK Try.func50 (by kernel_rfl) rfl
theorem spec_l8Safe_n1_meets (F : Nat) : Meets Try.prog 50 (spec_l8Safe_n1_ent F) := by
  refine meets_of_runS mixed ttok deep (spec_l8Safe_n1_tabok F) Try.func50 (body_some rfl) (spec_l8Safe_n1_lsok0 F) fun args mem hfit ret h => ?_
  clear hfit
  simp only [spec_l8Safe_n1_ent] at h
  split at h
  · rename_i b0 d1 q_n2
    have hg0 := (cond_noneL h).1
    replace h := (cond_noneL h).2
    obtain rfl := beq_int hg0
    simp only [Option.some.injEq, Prod.mk.injEq] at h
    obtain ⟨hc, rfl⟩ := h
    exact ⟨[], [], 70, _, (spec_l8Safe_n1_run F b0 d1).trans ((spec_l8Safe_n1_cp _ F b0 d1 _).trans (bind_use hc _)), rfl, rfl, rfl⟩
  · cases h

/-! loop.example/g01194/spec.l8Lasts -/
noncomputable def spec_l8Lasts_n1_tab (F : Nat) : Tab := [(50, (spec_l8Safe_n1_ent F))]
theorem spec_l8Lasts_n1_tabok (F : Nat) : TabOK Try.prog (spec_l8Lasts_n1_tab F) := (tab_cons (spec_l8Safe_n1_meets F) spec_l8Safe_n1_fok tab_nil)
noncomputable def spec_l8Lasts_n1_LS0 (F : Nat) : LT := []
theorem spec_l8Lasts_n1_lsok0 (F : Nat) : LoopsOK Try.prog (spec_l8Lasts_n1_LS0 F) (bodyOf Try.f36) := loopsOK_nil
theorem spec_l8Lasts_n1_keys : keysOK (bodyOf Try.f36) = true := by kernel_rfl
def spec_l8Lasts_n1_st4 (b5 : List Int) (d4 : Int) : St := ⟨expand 16 0 [1, 2, 5] [(.int .i64 (1 : Int)), (.ptr 0 0 0 16), (.int .i64 d4)], [(.var 16 (.ri .i64 b5))], 0, []⟩
def spec_l8Lasts_n1_o4 (b5 : List Int) (x : Bool) : GT := (.br x (.out (.ret ⟨expand 16 0 [4] [(.bool true)], [], 0, []⟩)) (.out (.exit 0 ⟨expand 16 0 [] [], [], 0, []⟩)))
def spec_l8Lasts_n1_ls4 (F : Nat) : LoopS := ⟨16, [1, 2, 5], [], [], [], [4], [], [], fun vals mem np killed => match vals, mem, np, killed with
  | [(.int .i64 q_n0), (.ptr 0 0 0 16), (.int .i64 d4)], [(.var 16 (.ri .i64 b5))], 0, [] => .br ((q_n0 == (1 : Int)) && (spec_l8Lasts_n1_l4 F b5 d4).isSome) (spec_l8Lasts_n1_o4 b5 ((spec_l8Lasts_n1_l4 F b5 d4).getD default)) .fail
  | _, _, _, _ => .fail⟩
theorem spec_l8Lasts_n1_step4 (F : Nat) (b5 : List Int) (d4 : Int) {R : Type} (k : Out → Option R) : stepS tt (spec_l8Lasts_n1_tab F) (spec_l8Lasts_n1_LS0 F) 70 (spec_l8Lasts_n1_ls4 F) (loopAt 4 (bodyOf Try.f36)) (spec_l8Lasts_n1_st4 b5 d4) k = spec_l8Lasts_n1_s4 F b5 R d4 (fun s => k (.norm (spec_l8Lasts_n1_st4 b5 s))) (fun x => (spec_l8Lasts_n1_o4 b5 x).run k) := by kernel_rfl
theorem spec_l8Lasts_n1_iter4 (F : Nat) (b5 : List Int) {R : Type} (k : Out → Option R) : ∀ (n : Nat) (d4 : Int), iterS tt (spec_l8Lasts_n1_tab F) (spec_l8Lasts_n1_LS0 F) 70 (spec_l8Lasts_n1_ls4 F) (loopAt 4 (bodyOf Try.f36)) n (spec_l8Lasts_n1_st4 b5 d4) k = loopC (spec_l8Lasts_n1_s4 F b5) n d4 (fun x => (spec_l8Lasts_n1_o4 b5 x).run k)
  | 0, d4 => rfl
  | n + 1, d4 => (iterS_succ tt (spec_l8Lasts_n1_tab F) (spec_l8Lasts_n1_LS0 F) 70 (spec_l8Lasts_n1_ls4 F) (loopAt 4 (bodyOf Try.f36)) n (spec_l8Lasts_n1_st4 b5 d4) k).trans ((spec_l8Lasts_n1_step4 F b5 d4 (nextK (iterS tt (spec_l8Lasts_n1_tab F) (spec_l8Lasts_n1_LS0 F) 70 (spec_l8Lasts_n1_ls4 F) (loopAt 4 (bodyOf Try.f36)) n) k)).trans (congrArg (fun kn => spec_l8Lasts_n1_s4 F b5 R d4 kn _) (funext (fun d4 => spec_l8Lasts_n1_iter4 F b5 k n d4))))
theorem spec_l8Lasts_n1_lok4 (F : Nat) : LoopOK Try.prog (loopAt 4 (bodyOf Try.f36)) (spec_l8Lasts_n1_ls4 F) := by
  refine loopOK_of mixed ttok deep (spec_l8Lasts_n1_tabok F) (loopsOK_at (spec_l8Lasts_n1_lsok0 F) 4) (fuel := 70) fun R vals mem np killed k x h => ?_
  simp only [spec_l8Lasts_n1_ls4] at h
  split at h
  · rename_i q_n0 d4 b5
    simp only [GT.run] at h
    have hc := (cond_noneL h).1
    replace h := (cond_noneL h).2
    have hg := (and_split hc).1
    replace hc := (and_split hc).2
    obtain rfl := beq_int hg
    refine ⟨F, (spec_l8Lasts_n1_iter4 F b5 k F d4).trans ((loopC_use (spec_l8Lasts_n1_s4_nat F b5) hc _).trans h)⟩
  · simp only [GT.run] at h
    cases h
noncomputable def spec_l8Lasts_n1_LS1 (F : Nat) : LT := (4, spec_l8Lasts_n1_ls4 F) :: spec_l8Lasts_n1_LS0 F
theorem spec_l8Lasts_n1_lsok1 (F : Nat) : LoopsOK Try.prog (spec_l8Lasts_n1_LS1 F) (bodyOf Try.f36) := loopsOK_cons spec_l8Lasts_n1_keys (spec_l8Lasts_n1_lok4 F) (spec_l8Lasts_n1_lsok0 F)
theorem spec_l8Lasts_n1_run (F : Nat) (b0 : List Int) : runS tt (spec_l8Lasts_n1_tab F) (spec_l8Lasts_n1_LS1 F) [] [] Try.f36 (bodyOf Try.f36) 70 [(.ints 16 b0), (.int .i64 (1 : Int))] [] = spec_l8Lasts_n1_c _ F b0 (fun r => some ⟨(.bool r), [], []⟩) := by kernel_rfl
def spec_l8Lasts_n1_ent (F : Nat) : Ent := ⟨[], .quiet, fun args mem => match args, mem with
  | [(.ints 16 b0), (.int .i64 q_n1)], [] => bif (q_n1 == (1 : Int)) then some ((spec_l8Lasts_n1_p F b0).isSome, ⟨(.bool ((spec_l8Lasts_n1_p F b0).getD default)), [], []⟩) else none
  | _, _ => none⟩
theorem spec_l8Lasts_n1_fok : FunOK Try.prog 36 := funOK Try.func36 (by kernel_rfl) rfl
theorem spec_l8Lasts_n1_meets (F : Nat) : Meets Try.prog 36 (spec_l8Lasts_n1_ent F) := by
  refine meets_of_runS mixed ttok deep (spec_l8Lasts_n1_tabok F) Try.func36 (body_some rfl) (spec_l8Lasts_n1_lsok1 F) fun args mem hfit ret h => ?_
  clear hfit
  simp only [spec_l8Lasts_n1_ent] at h
  split at h
  · rename_i b0 q_n1
    have hg0 := (cond_noneL h).1
    replace h := (cond_noneL h).2
    obtain rfl := beq_int hg0
    simp only [Option.some.injEq, Prod.mk.injEq] at h
    obtain ⟨hc, rfl⟩ := h
    exact ⟨[], [], 70, _, (spec_l8Lasts_n1_run F b0).trans ((spec_l8Lasts_n1_cp _ F b0 _).trans (bind_use hc _)), rfl, rfl, rfl⟩
  · cases h
end Go.Proofs.Ytidmlibanopfhaa
