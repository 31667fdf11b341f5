/-
Pure functions and what the code of them does, by program; without conditions.
-/
import Derived.Test.YtkclnchkemacgaaTJP4
import Derived.Test.YtkclnchkemacgaaTJS3
namespace Go.Proofs.Ytkclnchkemacgaa
open Go Go.Lv Go.Lv.P Go.Proofs
set_option linter.unusedVariables false
set_option linter.unusedSimpArgs false
set_option maxRecDepth 100000
/-! loop.example/g01194/spec.l5All -/
noncomputable def spec_l5All_tab (F : Nat) : Tab := [(52, (spec_l5Steps_ent F))]
theorem spec_l5All_tabok (F : Nat) : TabOK Try.prog (spec_l5All_tab F) := (tab_cons (spec_l5Steps_meets F) spec_l5Steps_fok tab_nil)
noncomputable def spec_l5All_LS0 (F : Nat) : LT := []
theorem spec_l5All_lsok0 (F : Nat) : LoopsOK Try.prog (spec_l5All_LS0 F) (bodyOf Try.f31) := loopsOK_nil
theorem spec_l5All_keys : keysOK (bodyOf Try.f31) = true := by kernel_rfl
def spec_l5All_st3 (b6 : List Int) (d5 : Int) (out7 : List (List Int)) : St := ⟨expand 16 0 [1, 3, 4] [(.ptr 0 0 0 16), (.sl 1 0 (List.length out7)), (.int .i64 d5)], [(.var 16 (.ri .i64 b6)), (.vec 60 (.rr 4 out7))], 0, []⟩
def spec_l5All_o3 (b6 : List Int) (x : List (List Int)) : GT := (.out (.exit 0 ⟨expand 16 0 [3] [(.sl 0 0 (List.length x))], [(.vec 60 (.rr 4 x))], 0, []⟩))
def spec_l5All_ls3 (F : Nat) : LoopS := ⟨16, [1, 3, 4], [], [3], [], [2], [], [], fun vals mem np killed => match vals, mem, np, killed with
  | [(.ptr 0 0 0 16), (.sl 1 0 q_out4), (.int .i64 d5)], [(.var 16 (.ri .i64 b6)), (.vec 60 (.rr 4 out7))], 0, [] => .br ((Nat.beq q_out4 (List.length out7)) && (spec_l5All_l3 F b6 d5 out7).isSome) (spec_l5All_o3 b6 ((spec_l5All_l3 F b6 d5 out7).getD default)) .fail
  | _, _, _, _ => .fail⟩
theorem spec_l5All_step3 (F : Nat) (b6 : List Int) (d5 : Int) (out7 : List (List Int)) {R : Type} (k : Out → Option R) : stepS tt (spec_l5All_tab F) (spec_l5All_LS0 F) 70 (spec_l5All_ls3 F) (loopAt 3 (bodyOf Try.f31)) (spec_l5All_st3 b6 d5 out7) k = spec_l5All_s3 F b6 R (d5, out7) (fun s => k (.norm (spec_l5All_st3 b6 s.1 s.2))) (fun x => (spec_l5All_o3 b6 x).run k) := by kernel_rfl
theorem spec_l5All_iter3 (F : Nat) (b6 : List Int) {R : Type} (k : Out → Option R) : ∀ (n : Nat) (d5 : Int) (out7 : List (List Int)), iterS tt (spec_l5All_tab F) (spec_l5All_LS0 F) 70 (spec_l5All_ls3 F) (loopAt 3 (bodyOf Try.f31)) n (spec_l5All_st3 b6 d5 out7) k = loopC (spec_l5All_s3 F b6) n (d5, out7) (fun x => (spec_l5All_o3 b6 x).run k)
  | 0, d5, out7 => rfl
  | n + 1, d5, out7 => (iterS_succ tt (spec_l5All_tab F) (spec_l5All_LS0 F) 70 (spec_l5All_ls3 F) (loopAt 3 (bodyOf Try.f31)) n (spec_l5All_st3 b6 d5 out7) k).trans ((spec_l5All_step3 F b6 d5 out7 (nextK (iterS tt (spec_l5All_tab F) (spec_l5All_LS0 F) 70 (spec_l5All_ls3 F) (loopAt 3 (bodyOf Try.f31)) n) k)).trans (congrArg (fun kn => spec_l5All_s3 F b6 R (d5, out7) kn _) (funext (fun ⟨d5, out7⟩ => spec_l5All_iter3 F b6 k n d5 out7))))
theorem spec_l5All_lok3 (F : Nat) : LoopOK Try.prog (loopAt 3 (bodyOf Try.f31)) (spec_l5All_ls3 F) := by
  refine loopOK_of mixed ttok deep (spec_l5All_tabok F) (loopsOK_at (spec_l5All_lsok0 F) 3) (fuel := 70) fun R vals mem np killed k x h => ?_
  simp only [spec_l5All_ls3] at h
  split at h
  · rename_i q_out4 d5 b6 out7
    simp only [GT.run] at h
    have hc := (cond_noneL h).1
    replace h := (cond_noneL h).2
    have hg := (and_split hc).1
    replace hc := (and_split hc).2
    obtain rfl := nbeq_nat hg
    refine ⟨F, (spec_l5All_iter3 F b6 k F d5 out7).trans ((loopC_use (spec_l5All_s3_nat F b6) hc _).trans h)⟩
  · simp only [GT.run] at h
    cases h
noncomputable def spec_l5All_LS1 (F : Nat) : LT := (3, spec_l5All_ls3 F) :: spec_l5All_LS0 F
theorem spec_l5All_lsok1 (F : Nat) : LoopsOK Try.prog (spec_l5All_LS1 F) (bodyOf Try.f31) := loopsOK_cons spec_l5All_keys (spec_l5All_lok3 F) (spec_l5All_lsok0 F)
theorem spec_l5All_run (F : Nat) (b0 : List Int) : runS tt (spec_l5All_tab F) (spec_l5All_LS1 F) [] [] Try.f31 (bodyOf Try.f31) 70 [(.ints 16 b0)] [] = spec_l5All_c _ F b0 (fun r => some ⟨(.sl 0 0 (List.length r)), [(.vec 60 (.rr 4 r))], []⟩) := by kernel_rfl
def spec_l5All_ent (F : Nat) : Ent := ⟨[], .fresh, fun args mem => match args, mem with
  | [(.ints 16 b0)], [] => some ((spec_l5All_p F b0).isSome, ⟨(.sl 0 0 (List.length ((spec_l5All_p F b0).getD default))), [(.vec 60 (.rr 4 ((spec_l5All_p F b0).getD default)))], []⟩)
  | _, _ => none⟩
theorem spec_l5All_fok : FunOK Try.prog 31 := funOK Try.func31 (by kernel_rfl) rfl
theorem spec_l5All_meets (F : Nat) : Meets Try.prog 31 (spec_l5All_ent F) := by
  refine meets_of_runS mixed ttok deep (spec_l5All_tabok F) Try.func31 (body_some rfl) (spec_l5All_lsok1 F) fun args mem hfit ret h => ?_
  clear hfit
  simp only [spec_l5All_ent] at h
  split at h
  · rename_i b0
    simp only [Option.some.injEq, Prod.mk.injEq] at h
    obtain ⟨hc, rfl⟩ := h
    exact ⟨[], [], 70, _, (spec_l5All_run F b0).trans ((spec_l5All_cp _ F b0 _).trans (bind_use hc _)), rfl, rfl, rfl⟩
  · cases h

/-! loop.example/g01194/spec.l2Side -/
noncomputable def spec_l2Side_tab (F : Nat) : Tab := [(36, (spec_l1In_ent F))]
theorem spec_l2Side_tabok (F : Nat) : TabOK Try.prog (spec_l2Side_tab F) := (tab_cons (spec_l1In_meets F) spec_l1In_fok tab_nil)
noncomputable def spec_l2Side_LS0 (F : Nat) : LT := []
theorem spec_l2Side_lsok0 (F : Nat) : LoopsOK Try.prog (spec_l2Side_LS0 F) (bodyOf Try.f53) := loopsOK_nil
theorem spec_l2Side_run (F : Nat) (d0 : Int) : runS tt (spec_l2Side_tab F) (spec_l2Side_LS0 F) [] [] Try.f53 (bodyOf Try.f53) 70 [(.int .i64 d0)] [] = spec_l2Side_c _ d0 (fun r => some ⟨(.bool r), [], []⟩) := by kernel_rfl
def spec_l2Side_ent (F : Nat) : Ent := ⟨[], .quiet, fun args mem => match args, mem with
  | [(.int .i64 d0)], [] => some (true, ⟨(.bool (spec_l2Side_v d0)), [], []⟩)
  | _, _ => none⟩
theorem spec_l2Side_fok : FunOK Try.prog 53 := funOK Try.func53 (by kernel_rfl) rfl
theorem spec_l2Side_meets (F : Nat) : Meets Try.prog 53 (spec_l2Side_ent F) := by
  refine meets_of_runS mixed ttok deep (spec_l2Side_tabok F) Try.func53 (body_some rfl) (spec_l2Side_lsok0 F) fun args mem hfit ret h => ?_
  clear hfit
  simp only [spec_l2Side_ent] at h
  split at h
  · rename_i d0
    simp only [Option.some.injEq, Prod.mk.injEq] at h
    obtain ⟨hc, rfl⟩ := h
    exact ⟨[], [], 70, _, (spec_l2Side_run F d0).trans (spec_l2Side_cv _ d0 _), rfl, rfl, rfl⟩
  · cases h

/-! loop.example/g01194/spec.l2Cell -/
noncomputable def spec_l2Cell_tab (F : Nat) : Tab := [(36, (spec_l1In_ent F))]
theorem spec_l2Cell_tabok (F : Nat) : TabOK Try.prog (spec_l2Cell_tab F) := (tab_cons (spec_l1In_meets F) spec_l1In_fok tab_nil)
noncomputable def spec_l2Cell_LS0 (F : Nat) : LT := []
theorem spec_l2Cell_lsok0 (F : Nat) : LoopsOK Try.prog (spec_l2Cell_LS0 F) (bodyOf Try.f54) := loopsOK_nil
theorem spec_l2Cell_run (F : Nat) (cell0 : List Int) : runS tt (spec_l2Cell_tab F) (spec_l2Cell_LS0 F) [] [] Try.f54 (bodyOf Try.f54) 70 [(.ints 2 cell0)] [] = spec_l2Cell_c _ cell0 (fun r => some ⟨(.bool r), [], []⟩) := by kernel_rfl
def spec_l2Cell_ent (F : Nat) : Ent := ⟨[], .quiet, fun args mem => match args, mem with
  | [(.ints 2 cell0)], [] => some (true, ⟨(.bool (spec_l2Cell_v cell0)), [], []⟩)
  | _, _ => none⟩
theorem spec_l2Cell_fok : FunOK Try.prog 54 := funOK Try.func54 (by kernel_rfl) rfl
theorem spec_l2Cell_meets (F : Nat) : Meets Try.prog 54 (spec_l2Cell_ent F) := by
  refine meets_of_runS mixed ttok deep (spec_l2Cell_tabok F) Try.func54 (body_some rfl) (spec_l2Cell_lsok0 F) fun args mem hfit ret h => ?_
  clear hfit
  simp only [spec_l2Cell_ent] at h
  split at h
  · rename_i cell0
    simp only [Option.some.injEq, Prod.mk.injEq] at h
    obtain ⟨hc, rfl⟩ := h
    exact ⟨[], [], 70, _, (spec_l2Cell_run F cell0).trans (spec_l2Cell_cv _ cell0 _), rfl, rfl, rfl⟩
  · cases h

/-! loop.example/g01194/spec.l5Do -/
noncomputable def spec_l5Do_tab (F : Nat) : Tab := [(53, (spec_l2Side_ent F)), (54, (spec_l2Cell_ent F)), (36, (spec_l1In_ent F)), (29, (spec_l2Slide_ent F)), (55, (spec_l2At_ent F)), (51, (spec_l2Put_ent F))]
theorem spec_l5Do_tabok (F : Nat) : TabOK Try.prog (spec_l5Do_tab F) := (tab_cons (spec_l2Side_meets F) spec_l2Side_fok (tab_cons (spec_l2Cell_meets F) spec_l2Cell_fok (tab_cons (spec_l1In_meets F) spec_l1In_fok (tab_cons (spec_l2Slide_meets F) spec_l2Slide_fok (tab_cons (spec_l2At_meets F) spec_l2At_fok (tab_cons (spec_l2Put_meets F) spec_l2Put_fok tab_nil))))))
noncomputable def spec_l5Do_LS0 (F : Nat) : LT := []
theorem spec_l5Do_lsok0 (F : Nat) : LoopsOK Try.prog (spec_l5Do_LS0 F) (bodyOf Try.f32) := loopsOK_nil
theorem spec_l5Do_run (F : Nat) (b0 : List Int) (s1 : List Int) : runS tt (spec_l5Do_tab F) (spec_l5Do_LS0 F) [] [] Try.f32 (bodyOf Try.f32) 70 [(.ints 16 b0), (.ints 4 s1)] [] = spec_l5Do_c _ F b0 s1 (fun r => some ⟨(.tup [(.ints 16 r.1), (.int .i64 r.2.1), (.bool r.2.2)]), [], []⟩) := by kernel_rfl
def spec_l5Do_ent (F : Nat) : Ent := ⟨[], .quiet, fun args mem => match args, mem with
  | [(.ints 16 b0), (.ints 4 s1)], [] => some ((spec_l5Do_p F b0 s1).isSome, ⟨(.tup [(.ints 16 ((spec_l5Do_p F b0 s1).getD default).1), (.int .i64 ((spec_l5Do_p F b0 s1).getD default).2.1), (.bool ((spec_l5Do_p F b0 s1).getD default).2.2)]), [], []⟩)
  | _, _ => none⟩
theorem spec_l5Do_fok : FunOK Try.prog 32 := funOK Try.func32 (by kernel_rfl) rfl
theorem spec_l5Do_meets (F : Nat) : Meets Try.prog 32 (spec_l5Do_ent F) := by
  refine meets_of_runS mixed ttok deep (spec_l5Do_tabok F) Try.func32 (body_some rfl) (spec_l5Do_lsok0 F) fun args mem hfit ret h => ?_
  clear hfit
  simp only [spec_l5Do_ent] at h
  split at h
  · rename_i b0 s1
    simp only [Option.some.injEq, Prod.mk.injEq] at h
    obtain ⟨hc, rfl⟩ := h
    exact ⟨[], [], 70, _, (spec_l5Do_run F b0 s1).trans ((spec_l5Do_cp _ F b0 s1 _).trans (bind_use hc _)), rfl, rfl, rfl⟩
  · cases h

/-! loop.example/g01194/spec.CountNext -/
noncomputable def spec_CountNext_tab (F : Nat) : Tab := [(19, (spec_l2Board_ent F)), (31, (spec_l5All_ent F)), (32, (spec_l5Do_ent F)), (33, (spec_l3Add_ent F))]
theorem spec_CountNext_tabok (F : Nat) : TabOK Try.prog (spec_CountNext_tab F) := (tab_cons (spec_l2Board_meets F) spec_l2Board_fok (tab_cons (spec_l5All_meets F) spec_l5All_fok (tab_cons (spec_l5Do_meets F) spec_l5Do_fok (tab_cons (spec_l3Add_meets F) spec_l3Add_fok tab_nil))))
noncomputable def spec_CountNext_LS0 (F : Nat) : LT := []
theorem spec_CountNext_lsok0 (F : Nat) : LoopsOK Try.prog (spec_CountNext_LS0 F) (bodyOf Try.f17) := loopsOK_nil
theorem spec_CountNext_keys : keysOK (bodyOf Try.f17) = true := by kernel_rfl
def spec_CountNext_st5 (all4 : List (List Int)) (b6 : List Int) (seen3 : List (List Int)) (i5 : Int) : St := ⟨expand 37 0 [1, 4, 5, 6] [(.ptr 0 0 0 16), (.rr 16 seen3), (.rr 4 all4), (.int .i64 i5)], [(.var 16 (.ri .i64 b6))], 0, []⟩
def spec_CountNext_o5 (all4 : List (List Int)) (b6 : List Int) (x : List (List Int)) : GT := (.out (.exit 0 ⟨expand 37 0 [4] [(.rr 16 x)], [], 0, []⟩))
def spec_CountNext_ls5 (F : Nat) : LoopS := ⟨37, [1, 4, 5, 6], [⟨4, 0, (.tup [])⟩, ⟨5, 0, (.tup [])⟩], [4], [], [2, 3], [], [], fun vals mem np killed => match vals, mem, np, killed with
  | [(.ptr 0 0 0 16), (.rr 16 seen3), (.rr 4 all4), (.int .i64 i5)], [(.var 16 (.ri .i64 b6))], 0, [] => .br (spec_CountNext_l5 F all4 b6 seen3 i5).isSome (spec_CountNext_o5 all4 b6 ((spec_CountNext_l5 F all4 b6 seen3 i5).getD default)) .fail
  | _, _, _, _ => .fail⟩
theorem spec_CountNext_step5 (F : Nat) (all4 : List (List Int)) (b6 : List Int) (seen3 : List (List Int)) (i5 : Int) {R : Type} (k : Out → Option R) : stepS tt (spec_CountNext_tab F) (spec_CountNext_LS0 F) 70 (spec_CountNext_ls5 F) (loopAt 5 (bodyOf Try.f17)) (spec_CountNext_st5 all4 b6 seen3 i5) k = spec_CountNext_s5 F all4 b6 R (seen3, i5) (fun s => k (.norm (spec_CountNext_st5 all4 b6 s.1 s.2))) (fun x => (spec_CountNext_o5 all4 b6 x).run k) := by kernel_rfl
theorem spec_CountNext_iter5 (F : Nat) (all4 : List (List Int)) (b6 : List Int) {R : Type} (k : Out → Option R) : ∀ (n : Nat) (seen3 : List (List Int)) (i5 : Int), iterS tt (spec_CountNext_tab F) (spec_CountNext_LS0 F) 70 (spec_CountNext_ls5 F) (loopAt 5 (bodyOf Try.f17)) n (spec_CountNext_st5 all4 b6 seen3 i5) k = loopC (spec_CountNext_s5 F all4 b6) n (seen3, i5) (fun x => (spec_CountNext_o5 all4 b6 x).run k)
  | 0, seen3, i5 => rfl
  | n + 1, seen3, i5 => (iterS_succ tt (spec_CountNext_tab F) (spec_CountNext_LS0 F) 70 (spec_CountNext_ls5 F) (loopAt 5 (bodyOf Try.f17)) n (spec_CountNext_st5 all4 b6 seen3 i5) k).trans ((spec_CountNext_step5 F all4 b6 seen3 i5 (nextK (iterS tt (spec_CountNext_tab F) (spec_CountNext_LS0 F) 70 (spec_CountNext_ls5 F) (loopAt 5 (bodyOf Try.f17)) n) k)).trans (congrArg (fun kn => spec_CountNext_s5 F all4 b6 R (seen3, i5) kn _) (funext (fun ⟨seen3, i5⟩ => spec_CountNext_iter5 F all4 b6 k n seen3 i5))))
theorem spec_CountNext_lok5 (F : Nat) : LoopOK Try.prog (loopAt 5 (bodyOf Try.f17)) (spec_CountNext_ls5 F) := by
  refine loopOK_of mixed ttok deep (spec_CountNext_tabok F) (loopsOK_at (spec_CountNext_lsok0 F) 5) (fuel := 70) fun R vals mem np killed k x h => ?_
  simp only [spec_CountNext_ls5] at h
  split at h
  · rename_i seen3 all4 i5 b6
    simp only [GT.run] at h
    have hc := (cond_noneL h).1
    replace h := (cond_noneL h).2
    refine ⟨F, (spec_CountNext_iter5 F all4 b6 k F seen3 i5).trans ((loopC_use (spec_CountNext_s5_nat F all4 b6) hc _).trans h)⟩
  · simp only [GT.run] at h
    cases h
noncomputable def spec_CountNext_LS1 (F : Nat) : LT := (5, spec_CountNext_ls5 F) :: spec_CountNext_LS0 F
theorem spec_CountNext_lsok1 (F : Nat) : LoopsOK Try.prog (spec_CountNext_LS1 F) (bodyOf Try.f17) := loopsOK_cons spec_CountNext_keys (spec_CountNext_lok5 F) (spec_CountNext_lsok0 F)
theorem spec_CountNext_run (F : Nat) (b0 : List Int) : runS tt (spec_CountNext_tab F) (spec_CountNext_LS1 F) [] [] Try.f17 (bodyOf Try.f17) 70 [(.ints 16 b0)] [] = spec_CountNext_c _ F b0 (fun r => some ⟨(.tup [(.int .i64 r.1), (.bool r.2)]), [], []⟩) := by kernel_rfl
def spec_CountNext_ent (F : Nat) : Ent := ⟨[], .quiet, fun args mem => match args, mem with
  | [(.ints 16 b0)], [] => some ((spec_CountNext_p F b0).isSome, ⟨(.tup [(.int .i64 ((spec_CountNext_p F b0).getD default).1), (.bool ((spec_CountNext_p F b0).getD default).2)]), [], []⟩)
  | _, _ => none⟩
theorem spec_CountNext_fok : FunOK Try.prog 17 := funOK Try.func17 (by kernel_rfl) rfl
theorem spec_CountNext_meets (F : Nat) : Meets Try.prog 17 (spec_CountNext_ent F) := by
  refine meets_of_runS mixed ttok deep (spec_CountNext_tabok F) Try.func17 (body_some rfl) (spec_CountNext_lsok1 F) fun args mem hfit ret h => ?_
  clear hfit
  simp only [spec_CountNext_ent] at h
  split at h
  · rename_i b0
    simp only [Option.some.injEq, Prod.mk.injEq] at h
    obtain ⟨hc, rfl⟩ := h
    exact ⟨[], [], 70, _, (spec_CountNext_run F b0).trans ((spec_CountNext_cp _ F b0 _).trans (bind_use hc _)), rfl, rfl, rfl⟩
  · cases h

/-! (loop.example/g01194/impl.Board).empty$1 -/
noncomputable def impl_Board_empty_f1_tab (F : Nat) : Tab := [(47, (impl_Board_at_ent F))]
theorem impl_Board_empty_f1_tabok (F : Nat) : TabOK Try.prog (impl_Board_empty_f1_tab F) := (tab_cons (impl_Board_at_meets F) impl_Board_at_fok tab_nil)
noncomputable def impl_Board_empty_f1_LS0 (F : Nat) : LT := []
theorem impl_Board_empty_f1_lsok0 (F : Nat) : LoopsOK Try.prog (impl_Board_empty_f1_LS0 F) (bodyOf Try.f74) := loopsOK_nil
theorem impl_Board_empty_f1_run (F : Nat) (cell0 : List Int) (a14 : List Int) : runS tt (impl_Board_empty_f1_tab F) (impl_Board_empty_f1_LS0 F) [] [] Try.f74 (bodyOf Try.f74) 70 [(.ints 2 cell0), (.ptr 0 0 0 16)] [(.var 16 (.ri .i64 a14))] = impl_Board_empty_f1_c _ cell0 a14 (fun r => some ⟨(.bool r), [(.var 16 (.ri .i64 a14))], []⟩) := by kernel_rfl
def impl_Board_empty_f1_ent (F : Nat) : Ent := ⟨[], .quiet, fun args mem => match args, mem with
  | [(.ints 2 cell0), (.ptr 0 0 0 16)], [(.var 16 (.ri .i64 a14))] => some ((impl_Board_empty_f1_p cell0 a14).isSome, ⟨(.bool ((impl_Board_empty_f1_p cell0 a14).getD default)), [], []⟩)
  | _, _ => none⟩
theorem impl_Board_empty_f1_fok : FunOK Try.prog 74 := funOK Try.func74 (by kernel_rfl) rfl
theorem impl_Board_empty_f1_meets (F : Nat) : Meets Try.prog 74 (impl_Board_empty_f1_ent F) := by
  refine meets_of_runS mixed ttok deep (impl_Board_empty_f1_tabok F) Try.func74 (body_some rfl) (impl_Board_empty_f1_lsok0 F) fun args mem hfit ret h => ?_
  clear hfit
  simp only [impl_Board_empty_f1_ent] at h
  split at h
  · rename_i cell0 a14
    simp only [Option.some.injEq, Prod.mk.injEq] at h
    obtain ⟨hc, rfl⟩ := h
    exact ⟨[], [], 70, _, (impl_Board_empty_f1_run F cell0 a14).trans ((impl_Board_empty_f1_cp _ cell0 a14 _).trans (bind_use hc _)), rfl, rfl, rfl⟩
  · cases h

/-! slices.IndexFunc[[][2]int,[2]int] -/
noncomputable def slices_IndexFunc_2int2int_impl_Board_empty_f1_tab (F : Nat) : Tab := [(74, (impl_Board_empty_f1_ent F))]
theorem slices_IndexFunc_2int2int_impl_Board_empty_f1_tabok (F : Nat) : TabOK Try.prog (slices_IndexFunc_2int2int_impl_Board_empty_f1_tab F) := (tab_cons (impl_Board_empty_f1_meets F) impl_Board_empty_f1_fok tab_nil)
noncomputable def slices_IndexFunc_2int2int_impl_Board_empty_f1_LS0 (F : Nat) : LT := []
theorem slices_IndexFunc_2int2int_impl_Board_empty_f1_lsok0 (F : Nat) : LoopsOK Try.prog (slices_IndexFunc_2int2int_impl_Board_empty_f1_LS0 F) (bodyOf Try.f77) := loopsOK_nil
theorem slices_IndexFunc_2int2int_impl_Board_empty_f1_keys : keysOK (bodyOf Try.f77) = true := by kernel_rfl
def slices_IndexFunc_2int2int_impl_Board_empty_f1_st2 (s0 : List (List Int)) (t74 : Int) (f6 : List Int) (t85 : Int) : St := ⟨expand 19 0 [0, 1, 7, 8] [(.rr 2 s0), (.fn 74 [] [(.ptr 0 0 0 16)]), (.int .i64 t74), (.int .i64 t85)], [(.var 16 (.ri .i64 f6))], 1, []⟩
def slices_IndexFunc_2int2int_impl_Board_empty_f1_o2 (s0 : List (List Int)) (t74 : Int) (f6 : List Int) (x : Bool × Int) : GT := (.br x.1 (.out (.ret ⟨expand 19 0 [4] [(.int .i64 x.2)], [(.var 16 (.ri .i64 f6))], 1, []⟩)) (.out (.exit 0 ⟨expand 19 0 [] [], [(.var 16 (.ri .i64 f6))], 1, []⟩)))
def slices_IndexFunc_2int2int_impl_Board_empty_f1_ls2 (F : Nat) : LoopS := ⟨19, [0, 1, 7, 8], [], [], [], [4], [], [], fun vals mem np killed => match vals, mem, np, killed with
  | [(.rr 2 s0), (.fn 74 [] [(.ptr 0 0 0 16)]), (.int .i64 t74), (.int .i64 t85)], [(.var 16 (.ri .i64 f6))], 1, [] => .br (slices_IndexFunc_2int2int_impl_Board_empty_f1_l2 F s0 t74 f6 t85).isSome (slices_IndexFunc_2int2int_impl_Board_empty_f1_o2 s0 t74 f6 ((slices_IndexFunc_2int2int_impl_Board_empty_f1_l2 F s0 t74 f6 t85).getD default)) .fail
  | _, _, _, _ => .fail⟩
theorem slices_IndexFunc_2int2int_impl_Board_empty_f1_step2 (F : Nat) (s0 : List (List Int)) (t74 : Int) (f6 : List Int) (t85 : Int) {R : Type} (k : Out → Option R) : stepS tt (slices_IndexFunc_2int2int_impl_Board_empty_f1_tab F) (slices_IndexFunc_2int2int_impl_Board_empty_f1_LS0 F) 70 (slices_IndexFunc_2int2int_impl_Board_empty_f1_ls2 F) (loopAt 2 (bodyOf Try.f77)) (slices_IndexFunc_2int2int_impl_Board_empty_f1_st2 s0 t74 f6 t85) k = slices_IndexFunc_2int2int_impl_Board_empty_f1_s2 F s0 t74 f6 R t85 (fun s => k (.norm (slices_IndexFunc_2int2int_impl_Board_empty_f1_st2 s0 t74 f6 s))) (fun x => (slices_IndexFunc_2int2int_impl_Board_empty_f1_o2 s0 t74 f6 x).run k) := by kernel_rfl
theorem slices_IndexFunc_2int2int_impl_Board_empty_f1_iter2 (F : Nat) (s0 : List (List Int)) (t74 : Int) (f6 : List Int) {R : Type} (k : Out → Option R) : ∀ (n : Nat) (t85 : Int), iterS tt (slices_IndexFunc_2int2int_impl_Board_empty_f1_tab F) (slices_IndexFunc_2int2int_impl_Board_empty_f1_LS0 F) 70 (slices_IndexFunc_2int2int_impl_Board_empty_f1_ls2 F) (loopAt 2 (bodyOf Try.f77)) n (slices_IndexFunc_2int2int_impl_Board_empty_f1_st2 s0 t74 f6 t85) k = loopC (slices_IndexFunc_2int2int_impl_Board_empty_f1_s2 F s0 t74 f6) n t85 (fun x => (slices_IndexFunc_2int2int_impl_Board_empty_f1_o2 s0 t74 f6 x).run k)
  | 0, t85 => rfl
  | n + 1, t85 => (iterS_succ tt (slices_IndexFunc_2int2int_impl_Board_empty_f1_tab F) (slices_IndexFunc_2int2int_impl_Board_empty_f1_LS0 F) 70 (slices_IndexFunc_2int2int_impl_Board_empty_f1_ls2 F) (loopAt 2 (bodyOf Try.f77)) n (slices_IndexFunc_2int2int_impl_Board_empty_f1_st2 s0 t74 f6 t85) k).trans ((slices_IndexFunc_2int2int_impl_Board_empty_f1_step2 F s0 t74 f6 t85 (nextK (iterS tt (slices_IndexFunc_2int2int_impl_Board_empty_f1_tab F) (slices_IndexFunc_2int2int_impl_Board_empty_f1_LS0 F) 70 (slices_IndexFunc_2int2int_impl_Board_empty_f1_ls2 F) (loopAt 2 (bodyOf Try.f77)) n) k)).trans (congrArg (fun kn => slices_IndexFunc_2int2int_impl_Board_empty_f1_s2 F s0 t74 f6 R t85 kn _) (funext (fun t85 => slices_IndexFunc_2int2int_impl_Board_empty_f1_iter2 F s0 t74 f6 k n t85))))
theorem slices_IndexFunc_2int2int_impl_Board_empty_f1_lok2 (F : Nat) : LoopOK Try.prog (loopAt 2 (bodyOf Try.f77)) (slices_IndexFunc_2int2int_impl_Board_empty_f1_ls2 F) := by
  refine loopOK_of mixed ttok deep (slices_IndexFunc_2int2int_impl_Board_empty_f1_tabok F) (loopsOK_at (slices_IndexFunc_2int2int_impl_Board_empty_f1_lsok0 F) 2) (fuel := 70) fun R vals mem np killed k x h => ?_
  simp only [slices_IndexFunc_2int2int_impl_Board_empty_f1_ls2] at h
  split at h
  · rename_i s0 t74 t85 f6
    simp only [GT.run] at h
    have hc := (cond_noneL h).1
    replace h := (cond_noneL h).2
    refine ⟨F, (slices_IndexFunc_2int2int_impl_Board_empty_f1_iter2 F s0 t74 f6 k F t85).trans ((loopC_use (slices_IndexFunc_2int2int_impl_Board_empty_f1_s2_nat F s0 t74 f6) hc _).trans h)⟩
  · simp only [GT.run] at h
    cases h
noncomputable def slices_IndexFunc_2int2int_impl_Board_empty_f1_LS1 (F : Nat) : LT := (2, slices_IndexFunc_2int2int_impl_Board_empty_f1_ls2 F) :: slices_IndexFunc_2int2int_impl_Board_empty_f1_LS0 F
theorem slices_IndexFunc_2int2int_impl_Board_empty_f1_lsok1 (F : Nat) : LoopsOK Try.prog (slices_IndexFunc_2int2int_impl_Board_empty_f1_LS1 F) (bodyOf Try.f77) := loopsOK_cons slices_IndexFunc_2int2int_impl_Board_empty_f1_keys (slices_IndexFunc_2int2int_impl_Board_empty_f1_lok2 F) (slices_IndexFunc_2int2int_impl_Board_empty_f1_lsok0 F)
theorem slices_IndexFunc_2int2int_impl_Board_empty_f1_run (F : Nat) (s0 : List (List Int)) (f4 : List Int) : runS tt (slices_IndexFunc_2int2int_impl_Board_empty_f1_tab F) (slices_IndexFunc_2int2int_impl_Board_empty_f1_LS1 F) [] [] Try.f77 (bodyOf Try.f77) 70 [(.rr 2 s0), (.fn 74 [] [(.ptr 0 0 0 16)])] [(.var 16 (.ri .i64 f4))] = slices_IndexFunc_2int2int_impl_Board_empty_f1_c _ F s0 f4 (fun r => some ⟨(.int .i64 r), [(.var 16 (.ri .i64 f4))], []⟩) := by kernel_rfl
def slices_IndexFunc_2int2int_impl_Board_empty_f1_ent (F : Nat) : Ent := ⟨[], .quiet, fun args mem => match args, mem with
  | [(.rr 2 s0), (.fn 74 [] [(.ptr 0 0 0 16)])], [(.var 16 (.ri .i64 f4))] => some ((slices_IndexFunc_2int2int_impl_Board_empty_f1_p F s0 f4).isSome, ⟨(.int .i64 ((slices_IndexFunc_2int2int_impl_Board_empty_f1_p F s0 f4).getD default)), [], []⟩)
  | _, _ => none⟩
theorem slices_IndexFunc_2int2int_impl_Board_empty_f1_fok : FunOK Try.prog 77 := funOK Try.func77 (by kernel_rfl) rfl
theorem slices_IndexFunc_2int2int_impl_Board_empty_f1_meets (F : Nat) : Meets Try.prog 77 (slices_IndexFunc_2int2int_impl_Board_empty_f1_ent F) := by
  refine meets_of_runS mixed ttok deep (slices_IndexFunc_2int2int_impl_Board_empty_f1_tabok F) Try.func77 (body_some rfl) (slices_IndexFunc_2int2int_impl_Board_empty_f1_lsok1 F) fun args mem hfit ret h => ?_
  clear hfit
  simp only [slices_IndexFunc_2int2int_impl_Board_empty_f1_ent] at h
  split at h
  · rename_i s0 f4
    simp only [Option.some.injEq, Prod.mk.injEq] at h
    obtain ⟨hc, rfl⟩ := h
    exact ⟨[], [], 70, _, (slices_IndexFunc_2int2int_impl_Board_empty_f1_run F s0 f4).trans ((slices_IndexFunc_2int2int_impl_Board_empty_f1_cp _ F s0 f4 _).trans (bind_use hc _)), rfl, rfl, rfl⟩
  · cases h

/-! slices.DeleteFunc[[][2]int,[2]int] -/
noncomputable def slices_DeleteFunc_2int2int_impl_Board_empty_f1_tab (F : Nat) : Tab := [(77, (slices_IndexFunc_2int2int_impl_Board_empty_f1_ent F)), (74, (impl_Board_empty_f1_ent F))]
theorem slices_DeleteFunc_2int2int_impl_Board_empty_f1_tabok (F : Nat) : TabOK Try.prog (slices_DeleteFunc_2int2int_impl_Board_empty_f1_tab F) := (tab_cons (slices_IndexFunc_2int2int_impl_Board_empty_f1_meets F) slices_IndexFunc_2int2int_impl_Board_empty_f1_fok (tab_cons (impl_Board_empty_f1_meets F) impl_Board_empty_f1_fok tab_nil))
noncomputable def slices_DeleteFunc_2int2int_impl_Board_empty_f1_LS0 (F : Nat) : LT := []
theorem slices_DeleteFunc_2int2int_impl_Board_empty_f1_lsok0 (F : Nat) : LoopsOK Try.prog (slices_DeleteFunc_2int2int_impl_Board_empty_f1_LS0 F) (bodyOf Try.f73) := loopsOK_nil
theorem slices_DeleteFunc_2int2int_impl_Board_empty_f1_keys : keysOK (bodyOf Try.f73) = true := by kernel_rfl
def slices_DeleteFunc_2int2int_impl_Board_empty_f1_st5 (s1 : Nat) (del8 : List Int) (i5 : Int) (j6 : Int) (s7 : List (List Int)) : St := ⟨expand 42 0 [0, 1, 5, 6] [(.sl 0 0 s1), (.fn 74 [] [(.ptr 1 0 0 16)]), (.int .i64 i5), (.int .i64 j6)], [(.vec 49 (.rr 2 s7)), (.var 16 (.ri .i64 del8))], 2, []⟩
def slices_DeleteFunc_2int2int_impl_Board_empty_f1_o5 (s1 : Nat) (del8 : List Int) (x : Int × List (List Int)) : GT := (.out (.exit 0 ⟨expand 42 0 [0, 5] [(.sl 0 0 s1), (.int .i64 x.1)], [(.vec 49 (.rr 2 x.2)), (.var 16 (.ri .i64 del8))], 2, []⟩))
def slices_DeleteFunc_2int2int_impl_Board_empty_f1_ls5 (F : Nat) : LoopS := ⟨42, [0, 1, 5, 6], [], [0, 5], [], [4], [], [], fun vals mem np killed => match vals, mem, np, killed with
  | [(.sl 0 0 s1), (.fn 74 [] [(.ptr 1 0 0 16)]), (.int .i64 i5), (.int .i64 j6)], [(.vec 49 (.rr 2 s7)), (.var 16 (.ri .i64 del8))], 2, [] => .br (slices_DeleteFunc_2int2int_impl_Board_empty_f1_l5 F s1 del8 i5 j6 s7).isSome (slices_DeleteFunc_2int2int_impl_Board_empty_f1_o5 s1 del8 ((slices_DeleteFunc_2int2int_impl_Board_empty_f1_l5 F s1 del8 i5 j6 s7).getD default)) .fail
  | _, _, _, _ => .fail⟩
theorem slices_DeleteFunc_2int2int_impl_Board_empty_f1_step5 (F : Nat) (s1 : Nat) (del8 : List Int) (i5 : Int) (j6 : Int) (s7 : List (List Int)) {R : Type} (k : Out → Option R) : stepS tt (slices_DeleteFunc_2int2int_impl_Board_empty_f1_tab F) (slices_DeleteFunc_2int2int_impl_Board_empty_f1_LS0 F) 70 (slices_DeleteFunc_2int2int_impl_Board_empty_f1_ls5 F) (loopAt 5 (bodyOf Try.f73)) (slices_DeleteFunc_2int2int_impl_Board_empty_f1_st5 s1 del8 i5 j6 s7) k = slices_DeleteFunc_2int2int_impl_Board_empty_f1_s5 F s1 del8 R (i5, j6, s7) (fun s => k (.norm (slices_DeleteFunc_2int2int_impl_Board_empty_f1_st5 s1 del8 s.1 s.2.1 s.2.2))) (fun x => (slices_DeleteFunc_2int2int_impl_Board_empty_f1_o5 s1 del8 x).run k) := by kernel_rfl
theorem slices_DeleteFunc_2int2int_impl_Board_empty_f1_iter5 (F : Nat) (s1 : Nat) (del8 : List Int) {R : Type} (k : Out → Option R) : ∀ (n : Nat) (i5 : Int) (j6 : Int) (s7 : List (List Int)), iterS tt (slices_DeleteFunc_2int2int_impl_Board_empty_f1_tab F) (slices_DeleteFunc_2int2int_impl_Board_empty_f1_LS0 F) 70 (slices_DeleteFunc_2int2int_impl_Board_empty_f1_ls5 F) (loopAt 5 (bodyOf Try.f73)) n (slices_DeleteFunc_2int2int_impl_Board_empty_f1_st5 s1 del8 i5 j6 s7) k = loopC (slices_DeleteFunc_2int2int_impl_Board_empty_f1_s5 F s1 del8) n (i5, j6, s7) (fun x => (slices_DeleteFunc_2int2int_impl_Board_empty_f1_o5 s1 del8 x).run k)
  | 0, i5, j6, s7 => rfl
  | n + 1, i5, j6, s7 => (iterS_succ tt (slices_DeleteFunc_2int2int_impl_Board_empty_f1_tab F) (slices_DeleteFunc_2int2int_impl_Board_empty_f1_LS0 F) 70 (slices_DeleteFunc_2int2int_impl_Board_empty_f1_ls5 F) (loopAt 5 (bodyOf Try.f73)) n (slices_DeleteFunc_2int2int_impl_Board_empty_f1_st5 s1 del8 i5 j6 s7) k).trans ((slices_DeleteFunc_2int2int_impl_Board_empty_f1_step5 F s1 del8 i5 j6 s7 (nextK (iterS tt (slices_DeleteFunc_2int2int_impl_Board_empty_f1_tab F) (slices_DeleteFunc_2int2int_impl_Board_empty_f1_LS0 F) 70 (slices_DeleteFunc_2int2int_impl_Board_empty_f1_ls5 F) (loopAt 5 (bodyOf Try.f73)) n) k)).trans (congrArg (fun kn => slices_DeleteFunc_2int2int_impl_Board_empty_f1_s5 F s1 del8 R (i5, j6, s7) kn _) (funext (fun ⟨i5, j6, s7⟩ => slices_DeleteFunc_2int2int_impl_Board_empty_f1_iter5 F s1 del8 k n i5 j6 s7))))
theorem slices_DeleteFunc_2int2int_impl_Board_empty_f1_lok5 (F : Nat) : LoopOK Try.prog (loopAt 5 (bodyOf Try.f73)) (slices_DeleteFunc_2int2int_impl_Board_empty_f1_ls5 F) := by
  refine loopOK_of mixed ttok deep (slices_DeleteFunc_2int2int_impl_Board_empty_f1_tabok F) (loopsOK_at (slices_DeleteFunc_2int2int_impl_Board_empty_f1_lsok0 F) 5) (fuel := 70) fun R vals mem np killed k x h => ?_
  simp only [slices_DeleteFunc_2int2int_impl_Board_empty_f1_ls5] at h
  split at h
  · rename_i s1 i5 j6 s7 del8
    simp only [GT.run] at h
    have hc := (cond_noneL h).1
    replace h := (cond_noneL h).2
    refine ⟨F, (slices_DeleteFunc_2int2int_impl_Board_empty_f1_iter5 F s1 del8 k F i5 j6 s7).trans ((loopC_use (slices_DeleteFunc_2int2int_impl_Board_empty_f1_s5_nat F s1 del8) hc _).trans h)⟩
  · simp only [GT.run] at h
    cases h
noncomputable def slices_DeleteFunc_2int2int_impl_Board_empty_f1_LS1 (F : Nat) : LT := (5, slices_DeleteFunc_2int2int_impl_Board_empty_f1_ls5 F) :: slices_DeleteFunc_2int2int_impl_Board_empty_f1_LS0 F
theorem slices_DeleteFunc_2int2int_impl_Board_empty_f1_lsok1 (F : Nat) : LoopsOK Try.prog (slices_DeleteFunc_2int2int_impl_Board_empty_f1_LS1 F) (bodyOf Try.f73) := loopsOK_cons slices_DeleteFunc_2int2int_impl_Board_empty_f1_keys (slices_DeleteFunc_2int2int_impl_Board_empty_f1_lok5 F) (slices_DeleteFunc_2int2int_impl_Board_empty_f1_lsok0 F)
theorem slices_DeleteFunc_2int2int_impl_Board_empty_f1_run (F : Nat) (s5 : List (List Int)) (del6 : List Int) : runS tt (slices_DeleteFunc_2int2int_impl_Board_empty_f1_tab F) (slices_DeleteFunc_2int2int_impl_Board_empty_f1_LS1 F) [] [] Try.f73 (bodyOf Try.f73) 70 [(.sl 0 0 (List.length s5)), (.fn 74 [] [(.ptr 1 0 0 16)])] [(.vec 49 (.rr 2 s5)), (.var 16 (.ri .i64 del6))] = slices_DeleteFunc_2int2int_impl_Board_empty_f1_c _ F s5 del6 (fun r => some ⟨(.sl 0 0 r.1), [(.vec 49 (.rr 2 r.2)), (.var 16 (.ri .i64 del6))], []⟩) := by kernel_rfl
def slices_DeleteFunc_2int2int_impl_Board_empty_f1_ent (F : Nat) : Ent := ⟨[true], .loud, fun args mem => match args, mem with
  | [(.sl 0 0 q_s1), (.fn 74 [] [(.ptr 1 0 0 16)])], [(.vec 49 (.rr 2 s5)), (.var 16 (.ri .i64 del6))] => some (((Nat.beq q_s1 (List.length s5)) && (slices_DeleteFunc_2int2int_impl_Board_empty_f1_p F s5 del6).isSome), ⟨(.sl 0 0 ((slices_DeleteFunc_2int2int_impl_Board_empty_f1_p F s5 del6).getD default).1), [(.vec 49 (.rr 2 ((slices_DeleteFunc_2int2int_impl_Board_empty_f1_p F s5 del6).getD default).2)), (.var 16 (.ri .i64 del6))], []⟩)
  | _, _ => none⟩
theorem slices_DeleteFunc_2int2int_impl_Board_empty_f1_fok : FunOK Try.prog 73 := funOK Try.func73 (by kernel_rfl) rfl
theorem slices_DeleteFunc_2int2int_impl_Board_empty_f1_meets (F : Nat) : Meets Try.prog 73 (slices_DeleteFunc_2int2int_impl_Board_empty_f1_ent F) := by
  refine meets_of_runS mixed ttok deep (slices_DeleteFunc_2int2int_impl_Board_empty_f1_tabok F) Try.func73 (body_some rfl) (slices_DeleteFunc_2int2int_impl_Board_empty_f1_lsok1 F) fun args mem hfit ret h => ?_
  clear hfit
  simp only [slices_DeleteFunc_2int2int_impl_Board_empty_f1_ent] at h
  split at h
  · rename_i q_s1 s5 del6
    simp only [Option.some.injEq, Prod.mk.injEq] at h
    obtain ⟨hc, rfl⟩ := h
    have hg := (and_split hc).1
    replace hc := (and_split hc).2
    obtain rfl := nbeq_nat hg
    exact ⟨[], [], 70, _, (slices_DeleteFunc_2int2int_impl_Board_empty_f1_run F s5 del6).trans ((slices_DeleteFunc_2int2int_impl_Board_empty_f1_cp _ F s5 del6 _).trans (bind_use hc _)), rfl, rfl, rfl⟩
  · cases h

/-! (loop.example/g01194/impl.Board).empty -/
noncomputable def impl_Board_empty_tab (F : Nat) : Tab := [(46, (impl_cells_ent F)), (73, (slices_DeleteFunc_2int2int_impl_Board_empty_f1_ent F))]
theorem impl_Board_empty_tabok (F : Nat) : TabOK Try.prog (impl_Board_empty_tab F) := (tab_cons (impl_cells_meets F) impl_cells_fok (tab_cons (slices_DeleteFunc_2int2int_impl_Board_empty_f1_meets F) slices_DeleteFunc_2int2int_impl_Board_empty_f1_fok tab_nil))
noncomputable def impl_Board_empty_LS0 (F : Nat) : LT := []
theorem impl_Board_empty_lsok0 (F : Nat) : LoopsOK Try.prog (impl_Board_empty_LS0 F) (bodyOf Try.f68) := loopsOK_nil
theorem impl_Board_empty_run (F : Nat) (b0 : List Int) : runS tt (impl_Board_empty_tab F) (impl_Board_empty_LS0 F) [] [] Try.f68 (bodyOf Try.f68) 70 [(.ints 16 b0)] [] = impl_Board_empty_c _ F b0 (fun r => some ⟨(.sl 0 0 r.1), [(.vec 49 (.rr 2 r.2))], []⟩) := by kernel_rfl
def impl_Board_empty_ent (F : Nat) : Ent := ⟨[], .fresh, fun args mem => match args, mem with
  | [(.ints 16 b0)], [] => some ((impl_Board_empty_p F b0).isSome, ⟨(.sl 0 0 ((impl_Board_empty_p F b0).getD default).1), [(.vec 49 (.rr 2 ((impl_Board_empty_p F b0).getD default).2))], []⟩)
  | _, _ => none⟩
theorem impl_Board_empty_fok : FunOK Try.prog 68 := funOK Try.func68 (by kernel_rfl) rfl
theorem impl_Board_empty_meets (F : Nat) : Meets Try.prog 68 (impl_Board_empty_ent F) := by
  refine meets_of_runS mixed ttok deep (impl_Board_empty_tabok F) Try.func68 (body_some rfl) (impl_Board_empty_lsok0 F) fun args mem hfit ret h => ?_
  clear hfit
  simp only [impl_Board_empty_ent] at h
  split at h
  · rename_i b0
    simp only [Option.some.injEq, Prod.mk.injEq] at h
    obtain ⟨hc, rfl⟩ := h
    exact ⟨[], [], 70, _, (impl_Board_empty_run F b0).trans ((impl_Board_empty_cp _ F b0 _).trans (bind_use hc _)), rfl, rfl, rfl⟩
  · cases h

/-! (loop.example/g01194/impl.Board).steps -/
noncomputable def impl_Board_steps_tab (F : Nat) : Tab := [(45, (impl_Board_slides_ent F)), (68, (impl_Board_empty_ent F))]
theorem impl_Board_steps_tabok (F : Nat) : TabOK Try.prog (impl_Board_steps_tab F) := (tab_cons (impl_Board_slides_meets F) impl_Board_slides_fok (tab_cons (impl_Board_empty_meets F) impl_Board_empty_fok tab_nil))
noncomputable def impl_Board_steps_LS0 (F : Nat) : LT := []
theorem impl_Board_steps_lsok0 (F : Nat) : LoopsOK Try.prog (impl_Board_steps_LS0 F) (bodyOf Try.f58) := loopsOK_nil
theorem impl_Board_steps_keys : keysOK (bodyOf Try.f58) = true := by kernel_rfl
def impl_Board_steps_st5 (direction0 : Int) (t194 : Nat) (t205 : Int) (t198 : List (List Int)) (t216 : Int) (out7 : List (List Int)) : St := ⟨expand 36 0 [1, 5, 19, 20, 21] [(.int .i64 direction0), (.sl 0 0 (List.length out7)), (.sl 1 0 t194), (.int .i64 t205), (.int .i64 t216)], [(.vec 60 (.rr 4 out7)), (.vec 49 (.rr 2 t198))], 0, []⟩
def impl_Board_steps_o5 (direction0 : Int) (t194 : Nat) (t205 : Int) (t198 : List (List Int)) (x : List (List Int)) : GT := (.out (.exit 0 ⟨expand 36 0 [5] [(.sl 0 0 (List.length x))], [(.vec 60 (.rr 4 x))], 0, []⟩))
def impl_Board_steps_ls5 (F : Nat) : LoopS := ⟨36, [1, 5, 19, 20, 21], [], [5], [], [4], [], [], fun vals mem np killed => match vals, mem, np, killed with
  | [(.int .i64 direction0), (.sl 0 0 q_out2), (.sl 1 0 t194), (.int .i64 t205), (.int .i64 t216)], [(.vec 60 (.rr 4 out7)), (.vec 49 (.rr 2 t198))], 0, [] => .br ((Nat.beq q_out2 (List.length out7)) && (impl_Board_steps_l5 F direction0 t194 t205 t198 t216 out7).isSome) (impl_Board_steps_o5 direction0 t194 t205 t198 ((impl_Board_steps_l5 F direction0 t194 t205 t198 t216 out7).getD default)) .fail
  | _, _, _, _ => .fail⟩
theorem impl_Board_steps_step5 (F : Nat) (direction0 : Int) (t194 : Nat) (t205 : Int) (t198 : List (List Int)) (t216 : Int) (out7 : List (List Int)) {R : Type} (k : Out → Option R) : stepS tt (impl_Board_steps_tab F) (impl_Board_steps_LS0 F) 70 (impl_Board_steps_ls5 F) (loopAt 5 (bodyOf Try.f58)) (impl_Board_steps_st5 direction0 t194 t205 t198 t216 out7) k = impl_Board_steps_s5 F direction0 t194 t205 t198 R (t216, out7) (fun s => k (.norm (impl_Board_steps_st5 direction0 t194 t205 t198 s.1 s.2))) (fun x => (impl_Board_steps_o5 direction0 t194 t205 t198 x).run k) := by kernel_rfl
theorem impl_Board_steps_iter5 (F : Nat) (direction0 : Int) (t194 : Nat) (t205 : Int) (t198 : List (List Int)) {R : Type} (k : Out → Option R) : ∀ (n : Nat) (t216 : Int) (out7 : List (List Int)), iterS tt (impl_Board_steps_tab F) (impl_Board_steps_LS0 F) 70 (impl_Board_steps_ls5 F) (loopAt 5 (bodyOf Try.f58)) n (impl_Board_steps_st5 direction0 t194 t205 t198 t216 out7) k = loopC (impl_Board_steps_s5 F direction0 t194 t205 t198) n (t216, out7) (fun x => (impl_Board_steps_o5 direction0 t194 t205 t198 x).run k)
  | 0, t216, out7 => rfl
  | n + 1, t216, out7 => (iterS_succ tt (impl_Board_steps_tab F) (impl_Board_steps_LS0 F) 70 (impl_Board_steps_ls5 F) (loopAt 5 (bodyOf Try.f58)) n (impl_Board_steps_st5 direction0 t194 t205 t198 t216 out7) k).trans ((impl_Board_steps_step5 F direction0 t194 t205 t198 t216 out7 (nextK (iterS tt (impl_Board_steps_tab F) (impl_Board_steps_LS0 F) 70 (impl_Board_steps_ls5 F) (loopAt 5 (bodyOf Try.f58)) n) k)).trans (congrArg (fun kn => impl_Board_steps_s5 F direction0 t194 t205 t198 R (t216, out7) kn _) (funext (fun ⟨t216, out7⟩ => impl_Board_steps_iter5 F direction0 t194 t205 t198 k n t216 out7))))
theorem impl_Board_steps_lok5 (F : Nat) : LoopOK Try.prog (loopAt 5 (bodyOf Try.f58)) (impl_Board_steps_ls5 F) := by
  refine loopOK_of mixed ttok deep (impl_Board_steps_tabok F) (loopsOK_at (impl_Board_steps_lsok0 F) 5) (fuel := 70) fun R vals mem np killed k x h => ?_
  simp only [impl_Board_steps_ls5] at h
  split at h
  · rename_i direction0 q_out2 t194 t205 t216 out7 t198
    simp only [GT.run] at h
    have hc := (cond_noneL h).1
    replace h := (cond_noneL h).2
    have hg := (and_split hc).1
    replace hc := (and_split hc).2
    obtain rfl := nbeq_nat hg
    refine ⟨F, (impl_Board_steps_iter5 F direction0 t194 t205 t198 k F t216 out7).trans ((loopC_use (impl_Board_steps_s5_nat F direction0 t194 t205 t198) hc _).trans h)⟩
  · simp only [GT.run] at h
    cases h
noncomputable def impl_Board_steps_LS1 (F : Nat) : LT := (5, impl_Board_steps_ls5 F) :: impl_Board_steps_LS0 F
theorem impl_Board_steps_lsok1 (F : Nat) : LoopsOK Try.prog (impl_Board_steps_LS1 F) (bodyOf Try.f58) := loopsOK_cons impl_Board_steps_keys (impl_Board_steps_lok5 F) (impl_Board_steps_lsok0 F)
theorem impl_Board_steps_run (F : Nat) (b0 : List Int) (direction1 : Int) : runS tt (impl_Board_steps_tab F) (impl_Board_steps_LS1 F) [] [] Try.f58 (bodyOf Try.f58) 70 [(.ints 16 b0), (.int .i64 direction1)] [] = impl_Board_steps_c _ F b0 direction1 (fun r => some ⟨(.sl 0 0 (List.length r)), [(.vec 60 (.rr 4 r))], []⟩) := by kernel_rfl
def impl_Board_steps_ent (F : Nat) : Ent := ⟨[], .fresh, fun args mem => match args, mem with
  | [(.ints 16 b0), (.int .i64 direction1)], [] => some ((impl_Board_steps_p F b0 direction1).isSome, ⟨(.sl 0 0 (List.length ((impl_Board_steps_p F b0 direction1).getD default))), [(.vec 60 (.rr 4 ((impl_Board_steps_p F b0 direction1).getD default)))], []⟩)
  | _, _ => none⟩
theorem impl_Board_steps_fok : FunOK Try.prog 58 := funOK Try.func58 (by kernel_rfl) rfl
theorem impl_Board_steps_meets (F : Nat) : Meets Try.prog 58 (impl_Board_steps_ent F) := by
  refine meets_of_runS mixed ttok deep (impl_Board_steps_tabok F) Try.func58 (body_some rfl) (impl_Board_steps_lsok1 F) fun args mem hfit ret h => ?_
  clear hfit
  simp only [impl_Board_steps_ent] at h
  split at h
  · rename_i b0 direction1
    simp only [Option.some.injEq, Prod.mk.injEq] at h
    obtain ⟨hc, rfl⟩ := h
    exact ⟨[], [], 70, _, (impl_Board_steps_run F b0 direction1).trans ((impl_Board_steps_cp _ F b0 direction1 _).trans (bind_use hc _)), rfl, rfl, rfl⟩
  · cases h

/-! slices.Grow[[]loop.example/g01194/impl.Step,loop.example/g01194/impl.Step] -/
noncomputable def slices_Grow_implStepimplStep_tab (F : Nat) : Tab := []
theorem slices_Grow_implStepimplStep_tabok (F : Nat) : TabOK Try.prog (slices_Grow_implStepimplStep_tab F) := tab_nil
noncomputable def slices_Grow_implStepimplStep_LS0 (F : Nat) : LT := []
theorem slices_Grow_implStepimplStep_lsok0 (F : Nat) : LoopsOK Try.prog (slices_Grow_implStepimplStep_LS0 F) (bodyOf Try.f67) := loopsOK_nil
theorem slices_Grow_implStepimplStep_run (F : Nat) (n0 : Int) : runS tt (slices_Grow_implStepimplStep_tab F) (slices_Grow_implStepimplStep_LS0 F) [⟨4, 60, (.rr 4 ([] : List (List Int)))⟩] [] Try.f67 (bodyOf Try.f67) 70 [.z0, (.int .i64 n0)] [] = slices_Grow_implStepimplStep_c _ n0 (fun r => some ⟨(.sl 0 0 0), [(.vec 60 (.rr 4 r))], []⟩) := by kernel_rfl
def slices_Grow_implStepimplStep_ent (F : Nat) : Ent := ⟨[true], .fresh, fun args mem => match args, mem with
  | [.z0, (.int .i64 n0)], [] => some ((slices_Grow_implStepimplStep_p n0).isSome, ⟨(.sl 0 0 0), [(.vec 60 (.rr 4 ((slices_Grow_implStepimplStep_p n0).getD default)))], []⟩)
  | _, _ => none⟩
theorem slices_Grow_implStepimplStep_fok : FunOK Try.prog 67 := funOK Try.func67 (by kernel_rfl) rfl
theorem slices_Grow_implStepimplStep_meets (F : Nat) : Meets Try.prog 67 (slices_Grow_implStepimplStep_ent F) := by
  refine meets_of_runS mixed ttok deep (slices_Grow_implStepimplStep_tabok F) Try.func67 (body_some rfl) (slices_Grow_implStepimplStep_lsok0 F) fun args mem hfit ret h => ?_
  clear hfit
  simp only [slices_Grow_implStepimplStep_ent] at h
  split at h
  · rename_i n0
    simp only [Option.some.injEq, Prod.mk.injEq] at h
    obtain ⟨hc, rfl⟩ := h
    exact ⟨[⟨4, 60, (.rr 4 ([] : List (List Int)))⟩], [], 70, _, (slices_Grow_implStepimplStep_run F n0).trans ((slices_Grow_implStepimplStep_cp _ n0 _).trans (bind_use hc _)), rfl, rfl, rfl⟩
  · cases h

/-! slices.Concat[[]loop.example/g01194/impl.Step,loop.example/g01194/impl.Step] -/
noncomputable def slices_Concat_implStepimplStep_tab (F : Nat) : Tab := [(67, (slices_Grow_implStepimplStep_ent F))]
theorem slices_Concat_implStepimplStep_tabok (F : Nat) : TabOK Try.prog (slices_Concat_implStepimplStep_tab F) := (tab_cons (slices_Grow_implStepimplStep_meets F) slices_Grow_implStepimplStep_fok tab_nil)
noncomputable def slices_Concat_implStepimplStep_LS0 (F : Nat) : LT := []
theorem slices_Concat_implStepimplStep_lsok0 (F : Nat) : LoopsOK Try.prog (slices_Concat_implStepimplStep_LS0 F) (bodyOf Try.f57) := loopsOK_nil
theorem slices_Concat_implStepimplStep_run (F : Nat) (slices0 : List (List Int)) (slices1 : List (List Int)) (slices2 : List (List Int)) (slices3 : List (List Int)) : runS tt (slices_Concat_implStepimplStep_tab F) (slices_Concat_implStepimplStep_LS0 F) [] [] Try.f57 (bodyOf Try.f57) 70 [(.rv [(.rr 4 slices0), (.rr 4 slices1), (.rr 4 slices2), (.rr 4 slices3)])] [] = slices_Concat_implStepimplStep_c _ slices0 slices1 slices2 slices3 (fun r => some ⟨(.sl 0 0 (List.length r)), [(.vec 60 (.rr 4 r))], []⟩) := by kernel_rfl
def slices_Concat_implStepimplStep_ent (F : Nat) : Ent := ⟨[], .fresh, fun args mem => match args, mem with
  | [(.rv [(.rr 4 slices0), (.rr 4 slices1), (.rr 4 slices2), (.rr 4 slices3)])], [] => some ((slices_Concat_implStepimplStep_p slices0 slices1 slices2 slices3).isSome, ⟨(.sl 0 0 (List.length ((slices_Concat_implStepimplStep_p slices0 slices1 slices2 slices3).getD default))), [(.vec 60 (.rr 4 ((slices_Concat_implStepimplStep_p slices0 slices1 slices2 slices3).getD default)))], []⟩)
  | _, _ => none⟩
theorem slices_Concat_implStepimplStep_fok : FunOK Try.prog 57 := funOK Try.func57 (by kernel_rfl) rfl
theorem slices_Concat_implStepimplStep_meets (F : Nat) : Meets Try.prog 57 (slices_Concat_implStepimplStep_ent F) := by
  refine meets_of_runS mixed ttok deep (slices_Concat_implStepimplStep_tabok F) Try.func57 (body_some rfl) (slices_Concat_implStepimplStep_lsok0 F) fun args mem hfit ret h => ?_
  clear hfit
  simp only [slices_Concat_implStepimplStep_ent] at h
  split at h
  · rename_i slices0 slices1 slices2 slices3
    simp only [Option.some.injEq, Prod.mk.injEq] at h
    obtain ⟨hc, rfl⟩ := h
    exact ⟨[], [], 70, _, (slices_Concat_implStepimplStep_run F slices0 slices1 slices2 slices3).trans ((slices_Concat_implStepimplStep_cp _ slices0 slices1 slices2 slices3 _).trans (bind_use hc _)), rfl, rfl, rfl⟩
  · cases h

/-! (loop.example/g01194/impl.Board).allSteps -/
noncomputable def impl_Board_allSteps_tab (F : Nat) : Tab := [(58, (impl_Board_steps_ent F)), (57, (slices_Concat_implStepimplStep_ent F))]
theorem impl_Board_allSteps_tabok (F : Nat) : TabOK Try.prog (impl_Board_allSteps_tab F) := (tab_cons (impl_Board_steps_meets F) impl_Board_steps_fok (tab_cons (slices_Concat_implStepimplStep_meets F) slices_Concat_implStepimplStep_fok tab_nil))
noncomputable def impl_Board_allSteps_LS0 (F : Nat) : LT := []
theorem impl_Board_allSteps_lsok0 (F : Nat) : LoopsOK Try.prog (impl_Board_allSteps_LS0 F) (bodyOf Try.f34) := loopsOK_nil
theorem impl_Board_allSteps_run (F : Nat) (b0 : List Int) : runS tt (impl_Board_allSteps_tab F) (impl_Board_allSteps_LS0 F) [] [] Try.f34 (bodyOf Try.f34) 70 [(.ints 16 b0)] [] = impl_Board_allSteps_c _ F b0 (fun r => some ⟨(.sl 0 0 (List.length r)), [(.vec 60 (.rr 4 r))], []⟩) := by kernel_rfl
def impl_Board_allSteps_ent (F : Nat) : Ent := ⟨[], .fresh, fun args mem => match args, mem with
  | [(.ints 16 b0)], [] => some ((impl_Board_allSteps_p F b0).isSome, ⟨(.sl 0 0 (List.length ((impl_Board_allSteps_p F b0).getD default))), [(.vec 60 (.rr 4 ((impl_Board_allSteps_p F b0).getD default)))], []⟩)
  | _, _ => none⟩
theorem impl_Board_allSteps_fok : FunOK Try.prog 34 := funOK Try.func34 (by kernel_rfl) rfl
theorem impl_Board_allSteps_meets (F : Nat) : Meets Try.prog 34 (impl_Board_allSteps_ent F) := by
  refine meets_of_runS mixed ttok deep (impl_Board_allSteps_tabok F) Try.func34 (body_some rfl) (impl_Board_allSteps_lsok0 F) fun args mem hfit ret h => ?_
  clear hfit
  simp only [impl_Board_allSteps_ent] at h
  split at h
  · rename_i b0
    simp only [Option.some.injEq, Prod.mk.injEq] at h
    obtain ⟨hc, rfl⟩ := h
    exact ⟨[], [], 70, _, (impl_Board_allSteps_run F b0).trans ((impl_Board_allSteps_cp _ F b0 _).trans (bind_use hc _)), rfl, rfl, rfl⟩
  · cases h

/-! (loop.example/g01194/impl.Board).behind -/
noncomputable def impl_Board_behind_tab (F : Nat) : Tab := [(59, (impl_Board_slide_ent F)), (47, (impl_Board_at_ent F))]
theorem impl_Board_behind_tabok (F : Nat) : TabOK Try.prog (impl_Board_behind_tab F) := (tab_cons (impl_Board_slide_meets F) impl_Board_slide_fok (tab_cons (impl_Board_at_meets F) impl_Board_at_fok tab_nil))
noncomputable def impl_Board_behind_LS0 (F : Nat) : LT := []
theorem impl_Board_behind_lsok0 (F : Nat) : LoopsOK Try.prog (impl_Board_behind_LS0 F) (bodyOf Try.f35) := loopsOK_nil
theorem impl_Board_behind_run (F : Nat) (b0 : List Int) (s1 : List Int) : runS tt (impl_Board_behind_tab F) (impl_Board_behind_LS0 F) [] [] Try.f35 (bodyOf Try.f35) 70 [(.ints 16 b0), (.ints 4 s1)] [] = impl_Board_behind_c _ F b0 s1 (fun r => some ⟨(.tup [(.ints 16 r.1), (.int .i64 r.2)]), [], []⟩) := by kernel_rfl
def impl_Board_behind_ent (F : Nat) : Ent := ⟨[], .quiet, fun args mem => match args, mem with
  | [(.ints 16 b0), (.ints 4 s1)], [] => some ((impl_Board_behind_p F b0 s1).isSome, ⟨(.tup [(.ints 16 ((impl_Board_behind_p F b0 s1).getD default).1), (.int .i64 ((impl_Board_behind_p F b0 s1).getD default).2)]), [], []⟩)
  | _, _ => none⟩
theorem impl_Board_behind_fok : FunOK Try.prog 35 := funOK Try.func35 (by kernel_rfl) rfl
theorem impl_Board_behind_meets (F : Nat) : Meets Try.prog 35 (impl_Board_behind_ent F) := by
  refine meets_of_runS mixed ttok deep (impl_Board_behind_tabok F) Try.func35 (body_some rfl) (impl_Board_behind_lsok0 F) fun args mem hfit ret h => ?_
  clear hfit
  simp only [impl_Board_behind_ent] at h
  split at h
  · rename_i b0 s1
    simp only [Option.some.injEq, Prod.mk.injEq] at h
    obtain ⟨hc, rfl⟩ := h
    exact ⟨[], [], 70, _, (impl_Board_behind_run F b0 s1).trans ((impl_Board_behind_cp _ F b0 s1 _).trans (bind_use hc _)), rfl, rfl, rfl⟩
  · cases h

/-! loop.example/g01194/impl.CountNext -/
noncomputable def impl_CountNext_tab (F : Nat) : Tab := [(26, (impl_IsBoard_ent F)), (34, (impl_Board_allSteps_ent F)), (35, (impl_Board_behind_ent F))]
theorem impl_CountNext_tabok (F : Nat) : TabOK Try.prog (impl_CountNext_tab F) := (tab_cons (impl_IsBoard_meets F) impl_IsBoard_fok (tab_cons (impl_Board_allSteps_meets F) impl_Board_allSteps_fok (tab_cons (impl_Board_behind_meets F) impl_Board_behind_fok tab_nil)))
noncomputable def impl_CountNext_LS0 (F : Nat) : LT := []
theorem impl_CountNext_lsok0 (F : Nat) : LoopsOK Try.prog (impl_CountNext_LS0 F) (bodyOf Try.f18) := loopsOK_nil
theorem impl_CountNext_keys : keysOK (bodyOf Try.f18) = true := by kernel_rfl
def impl_CountNext_st5 (t155 : Int) (b7 : List Int) (t149 : List (List Int)) (t166 : Int) (known8 : List (List Int × Bool)) : St := ⟨expand 31 0 [1, 4, 14, 15, 16] [(.ptr 0 0 0 16), (.map 1), (.sl 2 0 (List.length t149)), (.int .i64 t155), (.int .i64 t166)], [(.var 16 (.ri .i64 b7)), (.map 16 (.fl known8)), (.vec 60 (.rr 4 t149))], 0, []⟩
def impl_CountNext_o5 (t155 : Int) (b7 : List Int) (t149 : List (List Int)) (x : List (List Int × Bool)) : GT := (.out (.exit 0 ⟨expand 31 0 [4] [(.map 0)], [(.map 16 (.fl x))], 0, []⟩))
def impl_CountNext_ls5 (F : Nat) : LoopS := ⟨31, [1, 4, 14, 15, 16], [], [4], [], [2, 3], [], [], fun vals mem np killed => match vals, mem, np, killed with
  | [(.ptr 0 0 0 16), (.map 1), (.sl 2 0 q_t144), (.int .i64 t155), (.int .i64 t166)], [(.var 16 (.ri .i64 b7)), (.map 16 (.fl known8)), (.vec 60 (.rr 4 t149))], 0, [] => .br ((Nat.beq q_t144 (List.length t149)) && (impl_CountNext_l5 F t155 b7 t149 t166 known8).isSome) (impl_CountNext_o5 t155 b7 t149 ((impl_CountNext_l5 F t155 b7 t149 t166 known8).getD default)) .fail
  | _, _, _, _ => .fail⟩
theorem impl_CountNext_step5 (F : Nat) (t155 : Int) (b7 : List Int) (t149 : List (List Int)) (t166 : Int) (known8 : List (List Int × Bool)) {R : Type} (k : Out → Option R) : stepS tt (impl_CountNext_tab F) (impl_CountNext_LS0 F) 70 (impl_CountNext_ls5 F) (loopAt 5 (bodyOf Try.f18)) (impl_CountNext_st5 t155 b7 t149 t166 known8) k = impl_CountNext_s5 F t155 b7 t149 R (t166, known8) (fun s => k (.norm (impl_CountNext_st5 t155 b7 t149 s.1 s.2))) (fun x => (impl_CountNext_o5 t155 b7 t149 x).run k) := by kernel_rfl
theorem impl_CountNext_iter5 (F : Nat) (t155 : Int) (b7 : List Int) (t149 : List (List Int)) {R : Type} (k : Out → Option R) : ∀ (n : Nat) (t166 : Int) (known8 : List (List Int × Bool)), iterS tt (impl_CountNext_tab F) (impl_CountNext_LS0 F) 70 (impl_CountNext_ls5 F) (loopAt 5 (bodyOf Try.f18)) n (impl_CountNext_st5 t155 b7 t149 t166 known8) k = loopC (impl_CountNext_s5 F t155 b7 t149) n (t166, known8) (fun x => (impl_CountNext_o5 t155 b7 t149 x).run k)
  | 0, t166, known8 => rfl
  | n + 1, t166, known8 => (iterS_succ tt (impl_CountNext_tab F) (impl_CountNext_LS0 F) 70 (impl_CountNext_ls5 F) (loopAt 5 (bodyOf Try.f18)) n (impl_CountNext_st5 t155 b7 t149 t166 known8) k).trans ((impl_CountNext_step5 F t155 b7 t149 t166 known8 (nextK (iterS tt (impl_CountNext_tab F) (impl_CountNext_LS0 F) 70 (impl_CountNext_ls5 F) (loopAt 5 (bodyOf Try.f18)) n) k)).trans (congrArg (fun kn => impl_CountNext_s5 F t155 b7 t149 R (t166, known8) kn _) (funext (fun ⟨t166, known8⟩ => impl_CountNext_iter5 F t155 b7 t149 k n t166 known8))))
theorem impl_CountNext_lok5 (F : Nat) : LoopOK Try.prog (loopAt 5 (bodyOf Try.f18)) (impl_CountNext_ls5 F) := by
  refine loopOK_of mixed ttok deep (impl_CountNext_tabok F) (loopsOK_at (impl_CountNext_lsok0 F) 5) (fuel := 70) fun R vals mem np killed k x h => ?_
  simp only [impl_CountNext_ls5] at h
  split at h
  · rename_i q_t144 t155 t166 b7 known8 t149
    simp only [GT.run] at h
    have hc := (cond_noneL h).1
    replace h := (cond_noneL h).2
    have hg := (and_split hc).1
    replace hc := (and_split hc).2
    obtain rfl := nbeq_nat hg
    refine ⟨F, (impl_CountNext_iter5 F t155 b7 t149 k F t166 known8).trans ((loopC_use (impl_CountNext_s5_nat F t155 b7 t149) hc _).trans h)⟩
  · simp only [GT.run] at h
    cases h
noncomputable def impl_CountNext_LS1 (F : Nat) : LT := (5, impl_CountNext_ls5 F) :: impl_CountNext_LS0 F
theorem impl_CountNext_lsok1 (F : Nat) : LoopsOK Try.prog (impl_CountNext_LS1 F) (bodyOf Try.f18) := loopsOK_cons impl_CountNext_keys (impl_CountNext_lok5 F) (impl_CountNext_lsok0 F)
theorem impl_CountNext_run (F : Nat) (b0 : List Int) : runS tt (impl_CountNext_tab F) (impl_CountNext_LS1 F) [] [] Try.f18 (bodyOf Try.f18) 70 [(.ints 16 b0)] [] = impl_CountNext_c _ F b0 (fun r => some ⟨(.tup [(.int .i64 r.1), (.bool r.2)]), [], []⟩) := by kernel_rfl
def impl_CountNext_ent (F : Nat) : Ent := ⟨[], .quiet, fun args mem => match args, mem with
  | [(.ints 16 b0)], [] => some ((impl_CountNext_p F b0).isSome, ⟨(.tup [(.int .i64 ((impl_CountNext_p F b0).getD default).1), (.bool ((impl_CountNext_p F b0).getD default).2)]), [], []⟩)
  | _, _ => none⟩
theorem impl_CountNext_fok : FunOK Try.prog 18 := funOK Try.func18 (by kernel_rfl) rfl
theorem impl_CountNext_meets (F : Nat) : Meets Try.prog 18 (impl_CountNext_ent F) := by
  refine meets_of_runS mixed ttok deep (impl_CountNext_tabok F) Try.func18 (body_some rfl) (impl_CountNext_lsok1 F) fun args mem hfit ret h => ?_
  clear hfit
  simp only [impl_CountNext_ent] at h
  split at h
  · rename_i b0
    simp only [Option.some.injEq, Prod.mk.injEq] at h
    obtain ⟨hc, rfl⟩ := h
    exact ⟨[], [], 70, _, (impl_CountNext_run F b0).trans ((impl_CountNext_cp _ F b0 _).trans (bind_use hc _)), rfl, rfl, rfl⟩
  · cases h

/-! loop.example/g01194/laws.FnExactCountNext -/
noncomputable def laws_FnExactCountNext_tab (F : Nat) : Tab := [(8, (laws_toBoard_ent F)), (17, (spec_CountNext_ent F)), (18, (impl_CountNext_ent F))]
theorem laws_FnExactCountNext_tabok (F : Nat) : TabOK Try.prog (laws_FnExactCountNext_tab F) := (tab_cons (laws_toBoard_meets F) laws_toBoard_fok (tab_cons (spec_CountNext_meets F) spec_CountNext_fok (tab_cons (impl_CountNext_meets F) impl_CountNext_fok tab_nil)))
noncomputable def laws_FnExactCountNext_LS0 (F : Nat) : LT := []
theorem laws_FnExactCountNext_lsok0 (F : Nat) : LoopsOK Try.prog (laws_FnExactCountNext_LS0 F) (bodyOf Try.f6) := loopsOK_nil
theorem laws_FnExactCountNext_run (F : Nat) (aB0 : List Int) : runS tt (laws_FnExactCountNext_tab F) (laws_FnExactCountNext_LS0 F) [] [] Try.f6 (bodyOf Try.f6) 70 [(.ints 16 aB0)] [] = laws_FnExactCountNext_c _ F aB0 (fun r => some ⟨(.bool r), [], []⟩) := by kernel_rfl
def laws_FnExactCountNext_ent (F : Nat) : Ent := ⟨[], .quiet, fun args mem => match args, mem with
  | [(.ints 16 aB0)], [] => some ((laws_FnExactCountNext_p F aB0).isSome, ⟨(.bool ((laws_FnExactCountNext_p F aB0).getD default)), [], []⟩)
  | _, _ => none⟩
theorem laws_FnExactCountNext_fok : FunOK Try.prog 6 := funOK Try.func6 (by kernel_rfl) rfl
theorem laws_FnExactCountNext_meets (F : Nat) : Meets Try.prog 6 (laws_FnExactCountNext_ent F) := by
  refine meets_of_runS mixed ttok deep (laws_FnExactCountNext_tabok F) Try.func6 (body_some rfl) (laws_FnExactCountNext_lsok0 F) fun args mem hfit ret h => ?_
  clear hfit
  simp only [laws_FnExactCountNext_ent] at h
  split at h
  · rename_i aB0
    simp only [Option.some.injEq, Prod.mk.injEq] at h
    obtain ⟨hc, rfl⟩ := h
    exact ⟨[], [], 70, _, (laws_FnExactCountNext_run F aB0).trans ((laws_FnExactCountNext_cp _ F aB0 _).trans (bind_use hc _)), rfl, rfl, rfl⟩
  · cases h
end Go.Proofs.Ytkclnchkemacgaa
